/- The law FnAliasRound, walked. -/
import Derived.Test.YticepbgacokbbaaDoorDrawAl
import Derived.Test.YticepbgacokbbaaDoorSaAl
import Derived.Test.YticepbgacokbbaaDoorAlS4
import Derived.Test.YticepbgacokbbaaDoorAlFit
import Derived.Deep.RegionHeld3
namespace Go.Proofs.YticepbgacokbbaaDoor
open Go.RowKit Go.Proofs.YticepbgacokbbaaDoorW.PrintWords
set_option linter.unusedVariables false
set_option linter.unusedSimpArgs false
theorem bounds_u8' {n : Int} (h : (Lit.int .u8 n).wf = true) : 0 ≤ n ∧ n ≤ 255 := by
 simp [Lit.wf, IntKind.min, IntKind.max, IntKind.signed, IntKind.bits] at h
 omega
attribute [local go_sem high] eqA30
set_option maxRecDepth 100000 in
set_option maxHeartbeats 8000000 in
theorem walk_FnAliasRound {w : World} (A : Option Addr) (c : Nat) (xs : List Int) (hr : Kd.C (Kd.int .u8) w A xs.length xs) (hg : xs.length ≤ 9223372036854775807 ∧ ∀ y ∈ xs, (Lit.int .u8 y).wf = true) (hc : xs.length ≤ c) (hG : Glob w) :
  Calls Tryd.prog 3 #[.slice A xs.length c] w fun e w' => e = .returned (.bool true) ∧ Below w.heap.size w w' := by
 by_cases n_code : (1048576 : Int) < (xs.length : Int)
 ·generalize xs.length = L at n_code
  go_enter Tryd.func3, Tryd.ntmps3
  go_wp2
  go_ret
  exact ⟨rfl, Below.refl _ _⟩
 have hd := drawAliasRound_any A c xs w ⟨by omega, fun y hy => by have := bounds_u8' (hg.2 y hy); omega⟩ hc hr
 clear hr hg hc
 generalize xs.length = L at n_code hd
 go_enter Tryd.func3, Tryd.ntmps3
 go_wp2_with fail
 refine Calls.mono hd ?_
 rintro e w1 ⟨ys, B, d, rfl, hs, rr, b1⟩
 have HG := Lib.hid (hG.below b1)
 have BW := Lib.hid b1
 have SZ := Lib.hid b1.size
 clear hd hG b1
 have HB : Aside0 (Below w1.heap.size w1 w1) := ⟨Below.refl _ _⟩
 have RR := Aside0.mk (show Kd.R kAlias 32 w1 w.heap.size (fun k => k < w1.heap.size) (.slice B ys.length d) ys from Kd.R_mono (Kd.R_bound rr) (fun k hk => hk.2.2.1))
 have CR := Aside0.mk (Kd.R_reads' rr).2.2
 have hys := hs.1
 have hw : ys.length ≤ 1048576 ∧ ∀ x ∈ ys, fitAlias x := ⟨by omega, fun x hx => smallAl_fit (by omega) (hs.2 x hx)⟩
 have hok := fun W (hW : Below w1.heap.size w1 W) => aliasOk_any B d ys W hw (Kd.C_below CR.out hW) (HG.out.below hW)
 have hrd := fun W (hW : Below w1.heap.size w1 W) => aliasRound_any B d ys W hw (Kd.C_below CR.out hW) (HG.out.below hW)
 have hspec := fun W (hW : Below w1.heap.size w1 W) => specAliasRound_any B d ys W hw (Kd.C_below CR.out hW)
 have HAGAIN := Lib.hid (fun (zs : List SAlias) A2 c2 W (hz : zs.length ≤ 7) (hf : ∀ x ∈ zs, x ∈ ys) (hC : Kd.C kAlias W A2 zs.length zs) (hW : Below w1.heap.size w1 W) => aliasRound_any A2 c2 zs W ⟨by omega, fun x hx => hw.2 x (hf x hx)⟩ hC (HG.out.below hW))
 obtain ⟨M, eM⟩ : ∃ M, M = aliasRound ys := ⟨_, rfl⟩
 simp only [← eM] at hrd hspec
 have hml : M.length ≤ 1048576 := by rw [eM]; exact (aliasRound_fit hw).1
 have HM := Lib.hid eM
 clear eM
 obtain ⟨q, hq⟩ : ∃ q, q = aliasOk ys := ⟨_, rfl⟩
 have HQ := Lib.hid hq.symm
 simp only [← hq] at hok
 clear hq hs rr hw
 have hbs_ := HB.out.size
 go_wp2_with fail
 refine Calls.mono (hrd w1 HB.out) ?_
 rintro e w2 ⟨B2, d2, rfl, hR_, b_⟩
 replace HB := Aside0.mk (bel_then HB.out b_)
 clear b_
 have RM := Aside0.mk (Kd.R_lower (base' := w1.heap.size) hR_ hbs_)
 clear hR_ hbs_
 go_wp2_with fail
 refine Calls.mono (hspec w2 HB.out) ?_
 rintro e w3 ⟨B3, d3, rfl, hR_, b_⟩
 replace RM := Aside0.mk (Kd.R_below RM.out b_)
 replace HB := Aside0.mk (bel_then HB.out b_)
 clear b_
 have RS := Aside0.mk (Kd.R_reads' hR_).2.2
 clear hR_
 go_wp2_with fail
 refine Calls.mono (saAddrs_any B2 d2 B3 d3 M w3 hml (Kd.R_reads' RM.out).2.2 RS.out) ?_
 rintro e w4 ⟨rfl, b_⟩
 replace RM := Aside0.mk (Kd.R_below RM.out b_)
 replace RS := Aside0.mk (Kd.C_below RS.out b_)
 replace HB := Aside0.mk (bel_then HB.out b_)
 clear b_
 clear RS
 clear hrd
 cases q
 ·go_wp2_with fail
  refine Calls.mono (hok w4 HB.out) ?_
  rintro e w5 ⟨rfl, b_⟩
  replace RM := Aside0.mk (Kd.R_below RM.out b_)
  replace HB := Aside0.mk (bel_then HB.out b_)
  clear b_
  go_wp2_with fail
  refine Calls.mono (hspec w5 HB.out) ?_
  rintro e u1 ⟨B9, d9, rfl, hR_, b_⟩
  replace RM := Aside0.mk (Kd.R_below RM.out b_)
  replace HB := Aside0.mk (bel_then HB.out b_)
  clear b_
  have RS := Aside0.mk (Kd.R_reads' hR_).2.2
  clear hR_
  go_wp2_with fail
  refine Calls.mono (saAddrs_any B2 d2 B9 d9 M u1 hml (Kd.R_reads' RM.out).2.2 RS.out) ?_
  rintro e u2 ⟨rfl, b_⟩
  replace RM := Aside0.mk (Kd.R_below RM.out b_)
  replace RS := Aside0.mk (Kd.C_below RS.out b_)
  replace HB := Aside0.mk (bel_then HB.out b_)
  clear b_
  clear RS
  go_wp2
  go_ret
  exact ⟨rfl, BW.out.trans (HB.out.mono SZ.out)⟩
 ·go_wp2_with fail
  refine Calls.mono (hok w4 HB.out) ?_
  rintro e w5 ⟨rfl, b_⟩
  replace RM := Aside0.mk (Kd.R_below RM.out b_)
  replace HB := Aside0.mk (bel_then HB.out b_)
  clear b_
  have hM : M = rounds ys := by have h1 := HQ.out; rw [HM.out]; unfold aliasRound; rw [h1]; rfl
  have hnd := ok_nodup HQ.out
  have HCNT := Lib.hid (show (ys.filter (fun x => !decide (x.f0 ∈ M))).length + M.length = ys.length from by rw [hM]; exact rounds_count hnd)
  have HREST := Lib.hid (show aliasRound (ys.filter (fun x => !decide (x.f0 ∈ M))) = [] from by unfold aliasRound; split; (rw [hM]; exact rounds_rest hnd); rfl)
  clear hM hnd hok hspec
  have HE : Aside0 (Kd.R kAlias 32 (w5.alloc (.cells #[] 32)) w.heap.size (fun _ => True) (.slice (some ⟨w5.heap.size, 0, none⟩) 0 0) []) := ⟨R_empty kAlias 32 w5 w.heap.size (Nat.le_trans SZ.out HB.out.size) trivial⟩
  have HBE := Aside0.mk (bel_alloc HB.out (.cells #[] 32))
  have RME := Aside0.mk (Kd.R_below RM.out (bel_alloc (Below.refl _ _) (.cells #[] 32)))
  have z5 := HB.out.size
  clear HB RM
  go_wp2
  go_loopg [5, 6, 7, 8] (ys.length) (fun g v5 v6 _ _ wr => ∃ (i : Nat) (zs : List SAlias) (A2 : Option Addr) (c2 : Nat), i ≤ ys.length ∧ ys.length - i ≤ g ∧ v5 = .slice A2 zs.length c2 ∧ v6 = .int .i64 (i : Int) ∧ zs.length ≤ i ∧ Aside0 (zs = (ys.take i).filter (fun x => !decide (x.f0 ∈ M))) ∧ Aside0 (Kd.R kAlias 32 wr w.heap.size (fun _ => True) (.slice A2 zs.length c2) zs) ∧ Aside0 (∀ k, (Value.slice A2 zs.length c2).ownBlock = some k → w1.heap.size ≤ k) ∧ Aside0 (Kd.R kAddr 30 wr w1.heap.size (fun _ => True) (.slice B2 M.length d2) M) ∧ Aside0 (Below w1.heap.size w1 wr))
  case atStart => exact ⟨0, [], some ⟨w5.heap.size, 0, none⟩, 0, Nat.zero_le _, by omega, rfl, rfl, Nat.le_refl _, ⟨rfl⟩, HE, ⟨fun k hk => by simp [Value.ownBlock] at hk; omega⟩, RME, HBE⟩
  case round =>
   clear HE HBE RME
   obtain ⟨i, zs, A2, c2, hi, hg, rfl, rfl, hzl, HZ, HO, HOWN, RM, HB⟩ := hrel
   by_cases hlt : i < ys.length
   ·have hlt' : (i : Int) < (ys.length : Int) := by omega
    obtain ⟨gb, hgb, _, _⟩ := own_form2 RR.out (by omega)
    subst hgb
    have hgw : gb < w1.heap.size := RR.out.1 gb rfl
    have hnx : (ys.take (i + 1)).filter (fun x => !decide (x.f0 ∈ M)) = zs ++ (if (ys.getD i zAlias).f0 ∈ M then [] else [ys.getD i zAlias]) := by rw [HZ.out, take_nextL hlt, List.filter_append, List.filter_cons]; split <;> simp_all
    obtain ⟨ci, hil, hiM, hic, hif⟩ := Kd.R_elem (Kd.R_below RR.out HB.out) zAlias (i : Int) (by omega) (by omega)
    rw [Int.toNat_natCast] at hiM hic hif
    generalize ys.getD i zAlias = y at hiM hnx
    have HNX := Lib.hid hnx
    obtain ⟨v0, rfl, u0⟩ := kAlias_openM hiM
    simp only [show kAlias.sz = 3 from rfl] at hic
    have p0 : wr.cell? ⟨gb, i * 3, none⟩ = some (.string y.f0.f0) := hic 0 _ rfl
    have p1 : wr.cell? ⟨gb, i * 3 + 1, none⟩ = some (.string y.f0.f1) := hic 1 _ rfl
    have p2 : wr.cell? ⟨gb, i * 3 + 2, none⟩ = some v0 := hic 2 _ rfl
    have HIM := Aside0.mk hiM
    clear hic hif hil hiM u0 hnx
    have P0 := Lib.hid p0
    have P1 := Lib.hid p1
    have P2 := Lib.hid p2
    have zl := World.block_lt_of_cell? _ _ p0
    clear p0 p1 p2
    go_wp2
    obtain ⟨wq, ewq⟩ : ∃ W, W = wr := ⟨_, rfl⟩
    subst ewq
    go_loopg [7, 8] (M.length) (fun g v7 v8 wr => ∃ (j : Nat) (b : Bool), j ≤ M.length ∧ M.length - j ≤ g ∧ v7 = .bool b ∧ v8 = .int .i64 (j : Int) ∧ Aside0 (b = decide (y.f0 ∈ M.take j)) ∧ Aside0 (Below wq.heap.size wq wr))
    case atStart => exact ⟨0, false, Nat.zero_le _, by omega, rfl, rfl, ⟨by simp⟩, ⟨Below.refl _ _⟩⟩
    case round =>
     obtain ⟨j, b, hj, hgj, rfl, rfl, HD, BV⟩ := hrel
     have s0 := (BV.out.cell zl).trans P0.out
     have s1 := (BV.out.cell (World.block_lt_of_cell? _ _ P1.out)).trans P1.out
     by_cases hlj : j < M.length
     ·have hlj' : (j : Int) < (M.length : Int) := by omega
      obtain ⟨ae, e2, t0, t1⟩ := at_Addr (Kd.C_below (Kd.R_reads' RM.out).2.2 BV.out) j hlj
      subst e2
      have hmx : M.take (j + 1) = M.take j ++ [M.getD j zAddr] := take_nextA hlj
      generalize M.getD j zAddr = x at t0 t1 hmx
      have HMX := Lib.hid hmx
      clear hmx
      cases b
      ·have hxy := addr_eq x y.f0
       by_cases hq : x = y.f0
       ·have HQE := Lib.hid hq
        rw [decide_eq_true hq] at hxy
        clear hq
        go_wp2
        repeat (go_quiet (fail); try go_wp2)
        go_roundg (M.length - (j + 1))
        case measure => omega
        case rel => exact ⟨j + 1, _, by omega, Nat.le_refl _, rfl, by go_num, ⟨by rw [HMX.out]; have h := HQE.out; simp [h]⟩, ⟨by first | exact BV.out | exact ⟨BV.out.os, BV.out.tape, BV.out.output, BV.out.size, BV.out.block⟩⟩⟩
       ·have HQE := Lib.hid hq
        rw [decide_eq_false hq] at hxy
        clear hq
        go_wp2
        repeat (go_quiet (fail); try go_wp2)
        go_roundg (M.length - (j + 1))
        case measure => omega
        case rel => exact ⟨j + 1, _, by omega, Nat.le_refl _, rfl, by go_num, ⟨by rw [HMX.out]; have h := HD.out; have h2 := HQE.out; simp at h ⊢; exact ⟨h, fun e => h2 e.symm⟩⟩, ⟨by first | exact BV.out | exact ⟨BV.out.os, BV.out.tape, BV.out.output, BV.out.size, BV.out.block⟩⟩⟩
      ·go_wp2
       repeat (go_quiet (fail); try go_wp2)
       go_roundg (M.length - (j + 1))
       case measure => omega
       case rel => exact ⟨j + 1, _, by omega, Nat.le_refl _, rfl, by go_num, ⟨by rw [HMX.out]; have h := HD.out; simp at h ⊢; exact .inl h⟩, ⟨by first | exact BV.out | exact ⟨BV.out.os, BV.out.tape, BV.out.output, BV.out.size, BV.out.block⟩⟩⟩
     ·have hlj' : ¬ (j : Int) < (M.length : Int) := by omega
      have hd := HD.out
      rw [show M.take j = M from List.take_of_length_le (by omega)] at hd
      have HDD := Lib.hid hd
      clear hd HD
      have HB2 := Aside0.mk (bel_then HB.out BV.out)
      have RM2 := Aside0.mk (Kd.R_below RM.out BV.out)
      have HO2 := Aside0.mk (Kd.R_below HO.out BV.out)
      have z2 := BV.out.size
      have z3 := HB2.out.size
      cases b
      ·have s2 := (BV.out.cell (World.block_lt_of_cell? _ _ P2.out)).trans P2.out
       have hno : y.f0 ∉ M := fun h => by have := HDD.out; rw [decide_eq_true h] at this; cases this
       have HNO := Lib.hid hno
       clear hno
       go_wp2_with (first | ((with_reducible refine gate_builtin (b := .append) (xs := #[.tmp 58, .tmp 63]) rfl ?_); (try (refine gate_guard (by rfl) ?_; dsimp only)); at_builtin; go_loud (refine Kd.R_append kAlias (w0 := wr) (w.heap.size) rfl (.tmp 58) (.tmp 63) 23 32 (.agg #[(.string ⟨#[]⟩), (.string ⟨#[]⟩), (.slice none 0 0)]) 56 rfl Tryd.underlying23 info32 rfl (by decide) (by omega) (.slice A2 zs.length c2) zs y [.string y.f0.f0, .string y.f0.f1, v0] (fun _ => True) (fun k => k < w1.heap.size ∧ k ≠ gb) rfl rfl (Kd.M_below HIM.out BV.out) (fun k hk => ⟨trivial, fun e => by have h1 := HOWN.out k e.symm; have h2 : k < w1.heap.size := hk.1; omega⟩) (fun _ _ => trivial) HO2.out (Below.refl _ _) (by have := SZ.out; omega) (by omega) ?_); intro vA w9 ho hb hg hat; go_loud (have HO9 := Aside0.mk ho; have HB9 := Aside0.mk (bel_grown HB2.out hg HB2.out.size (fun q hq => HOWN.out q hq)); have hne9 : ∀ k, vA.ownBlock = some k → w1.heap.size ≤ k := fun k hk => (by rcases hat with h | ⟨b, h, hb2⟩; (exact HOWN.out k (h ▸ hk)); (rw [h] at hk; obtain rfl := Option.some.inj hk; omega)); have HN9 := Lib.hid hne9; have RM9 := Aside0.mk (R_by2 RM2.out rfl HO2.out (by decide) hg); clear ho hb hg hat hne9)))
       obtain ⟨A9, c9, hv9⟩ := Kd.R_slice HO9.out
       subst hv9
       obtain ⟨zt, ezt⟩ : ∃ l, l = zs ++ [y] := ⟨_, rfl⟩
       rw [← ezt] at HO9 HN9
       have hztl : zt.length = zs.length + 1 := by rw [ezt]; simp
       have HEZ := Lib.hid ezt
       clear ezt
       go_roundg (ys.length - (i + 1))
       case measure => omega
       case rel => exact ⟨i + 1, zt, A9, c9, by omega, Nat.le_refl _, by rw [HEZ.out], by go_num, by omega, ⟨by rw [HNX.out, if_neg HNO.out, HEZ.out]⟩, HO9, ⟨HN9.out⟩, RM9, HB9⟩
      ·have hye : y.f0 ∈ M := of_decide_eq_true HDD.out.symm
       have HYE := Lib.hid hye
       clear hye
       go_wp2
       go_roundg (ys.length - (i + 1))
       case measure => omega
       case rel => exact ⟨i + 1, zs, A2, c2, by omega, Nat.le_refl _, rfl, by go_num, by omega, ⟨by rw [HNX.out, if_pos HYE.out]; simp⟩, HO2, HOWN, RM2, HB2⟩
   ·have hlt' : ¬ (i : Int) < (ys.length : Int) := by omega
    have hz := HZ.out
    rw [show ys.take i = ys from List.take_of_length_le (by omega)] at hz
    have hcnt := HCNT.out
    have hrest := HREST.out
    rw [← hz] at hcnt hrest
    have hag := HAGAIN.out zs A2 c2 wr (by omega) (fun x hx => by rw [hz] at hx; exact (List.mem_filter.1 hx).1) (Kd.R_reads' HO.out).2.2 HB.out
    rw [hrest] at hag
    have hs1 : IntKind.i64.wrap ((zs.length : Int) + (M.length : Int)) = (ys.length : Int) := by rw [IntWalk.i64_in _ (by omega)]; omega
    have hs2 : ((ys.length : Int) == (ys.length : Int)) = true := beq_self_eq_true _
    clear hz hrest HZ
    go_wp2_with fail
    refine Calls.mono hag ?_
    rintro e w6 ⟨B6, d6, rfl, _, b6⟩
    have HB6 := Aside0.mk (bel_then HB.out b6)
    clear b6
    go_wp2
    go_ret
    exact ⟨rfl, BW.out.trans (HB6.out.mono SZ.out)⟩

end Go.Proofs.YticepbgacokbbaaDoor
