/- The law FnAliasFlat, walked. -/
import Derived.Test.YticepbgacokbbaaDoorReg
import Derived.Test.YticepbgacokbbaaDoorDrawAl
import Derived.Test.YticepbgacokbbaaDoorSaAl
import Derived.Test.YticepbgacokbbaaDoorAlS5
import Derived.Test.YticepbgacokbbaaDoorAlFit
import Derived.Deep.RegionHeld3
namespace Go.Proofs.YticepbgacokbbaaDoor
open Go.RowKit Go.Proofs.YticepbgacokbbaaDoorW.PrintWords
set_option linter.unusedVariables false
set_option linter.unusedSimpArgs false
theorem bounds_u8' {n : Int} (h : (Lit.int .u8 n).wf = true) : 0 ≤ n ∧ n ≤ 255 := by
 simp [Lit.wf, IntKind.min, IntKind.max, IntKind.signed, IntKind.bits] at h
 omega
set_option maxRecDepth 100000 in
set_option maxHeartbeats 8000000 in
theorem walk_FnAliasFlat {w : World} (A : Option Addr) (c : Nat) (xs : List Int) (hr : Kd.C (Kd.int .u8) w A xs.length xs) (hg : xs.length ≤ 9223372036854775807 ∧ ∀ y ∈ xs, (Lit.int .u8 y).wf = true) (hc : xs.length ≤ c) (hG : Glob w) :
  Calls Tryd.prog 6 #[.slice A xs.length c] w fun e w' => e = .returned (.bool true) ∧ Below w.heap.size w w' := by
 by_cases n_code : (1048576 : Int) < (xs.length : Int)
 ·generalize xs.length = L at n_code
  go_enter Tryd.func6, Tryd.ntmps6
  go_wp2
  go_ret
  exact ⟨rfl, Below.refl _ _⟩
 have hd := drawAliasFlat_any A c xs w ⟨by omega, fun y hy => by have := bounds_u8' (hg.2 y hy); omega⟩ hc hr
 clear hr hg hc
 generalize xs.length = L at n_code hd
 go_enter Tryd.func6, Tryd.ntmps6
 go_wp2_with fail
 refine Calls.mono hd ?_
 rintro e w1 ⟨ys, B, d, rfl, hs, rr, b1⟩
 have HG := Lib.hid (hG.below b1)
 have BW := Lib.hid b1
 have SZ := Lib.hid b1.size
 clear hd hG b1
 have HB : Aside0 (Below w1.heap.size w1 w1) := ⟨Below.refl _ _⟩
 have CR := Aside0.mk (Kd.R_reads' rr).2.2
 have hys := hs.1
 have hw : ys.length ≤ 1048576 ∧ ∀ x ∈ ys, fitAlias x := ⟨by omega, fun x hx => smallAl_fit (by omega) (hs.2 x hx)⟩
 have hok := fun W (hW : Below w1.heap.size w1 W) => aliasOk_any B d ys W hw (Kd.C_below CR.out hW) (HG.out.below hW)
 have hfl := fun W (hW : Below w1.heap.size w1 W) => aliasFlat_any B d ys W hw (Kd.C_below CR.out hW) (HG.out.below hW)
 have hspec := fun W (hW : Below w1.heap.size w1 W) => specAliasFlat_any B d ys W hw (Kd.C_below CR.out hW)
 have hfor := fun (y : SAddr) (hf : fitAddr y) W (hW : Below w1.heap.size w1 W) => aliasFor_any B d ys y W hw hf (Kd.C_below CR.out hW) (HG.out.below hW)
 have hmf := aliasFlat_fit hw
 obtain ⟨M, eM⟩ : ∃ M, M = aliasFlat ys := ⟨_, rfl⟩
 simp only [← eM] at hfl hspec hmf
 have hforM := fun (y : SAddr) (hf : fitAddr y) W A2 c2 (hW : Below w1.heap.size w1 W) (hC : Kd.C kAlias W A2 M.length M) => aliasFor_any A2 c2 M y W hmf hf hC (HG.out.below hW)
 have hokM := fun W A2 c2 (hW : Below w1.heap.size w1 W) (hC : Kd.C kAlias W A2 M.length M) => aliasOk_any A2 c2 M W hmf hC (HG.out.below hW)
 have hrdM := fun W A2 c2 (hW : Below w1.heap.size w1 W) (hC : Kd.C kAlias W A2 M.length M) => aliasRound_any A2 c2 M W hmf hC (HG.out.below hW)
 have hflM := fun W A2 c2 (hW : Below w1.heap.size w1 W) (hC : Kd.C kAlias W A2 M.length M) => aliasFlat_any A2 c2 M W hmf hC (HG.out.below hW)
 have hml := hmf.1
 have HMX := Lib.hid (show ∀ x ∈ M, x.f1.length ≤ 1048576 from fun x hx => (hmf.2 x hx).2.1)
 have HMF := Lib.hid hmf.2
 have HM := Lib.hid eM
 clear eM hmf
 obtain ⟨q, hq⟩ : ∃ q, q = aliasOk ys := ⟨_, rfl⟩
 have HQ := Lib.hid hq.symm
 simp only [← hq] at hok
 clear hq hs rr hw
 go_wp2_with fail
 refine Calls.mono (hfl w1 HB.out) ?_
 rintro e w2 ⟨B2, d2, rfl, hR_, b_⟩
 replace HB := Aside0.mk (bel_then HB.out b_)
 clear b_
 have RM := Aside0.mk (Kd.S_reads' hR_).2.2
 clear hR_
 go_wp2_with fail
 refine Calls.mono (hspec w2 HB.out) ?_
 rintro e w3 ⟨B3, d3, rfl, hR_, b_⟩
 replace RM := Aside0.mk (Kd.C_below RM.out b_)
 replace HB := Aside0.mk (bel_then HB.out b_)
 clear b_
 have RS := Aside0.mk (Kd.S_reads' hR_).2.2
 clear hR_
 go_wp2_with fail
 refine Calls.mono (saAliases_any B2 d2 B3 d3 M w3 hml HMX.out RM.out RS.out) ?_
 rintro e w4 ⟨rfl, b_⟩
 replace RM := Aside0.mk (Kd.C_below RM.out b_)
 replace RS := Aside0.mk (Kd.C_below RS.out b_)
 replace HB := Aside0.mk (bel_then HB.out b_)
 clear b_
 clear RS
 clear hfl
 cases q
 ·go_wp2_with fail
  refine Calls.mono (hok w4 HB.out) ?_
  rintro e w5 ⟨rfl, b_⟩
  replace RM := Aside0.mk (Kd.C_below RM.out b_)
  replace HB := Aside0.mk (bel_then HB.out b_)
  clear b_
  go_wp2_with fail
  refine Calls.mono (hspec w5 HB.out) ?_
  rintro e u1 ⟨B9, d9, rfl, hR_, b_⟩
  replace RM := Aside0.mk (Kd.C_below RM.out b_)
  replace HB := Aside0.mk (bel_then HB.out b_)
  clear b_
  have RS := Aside0.mk (Kd.S_reads' hR_).2.2
  clear hR_
  go_wp2_with fail
  refine Calls.mono (saAliases_any B2 d2 B9 d9 M u1 hml HMX.out RM.out RS.out) ?_
  rintro e u2 ⟨rfl, b_⟩
  replace RM := Aside0.mk (Kd.C_below RM.out b_)
  replace RS := Aside0.mk (Kd.C_below RS.out b_)
  replace HB := Aside0.mk (bel_then HB.out b_)
  clear b_
  clear RS
  go_wp2
  go_ret
  exact ⟨rfl, BW.out.trans (HB.out.mono SZ.out)⟩
 ·go_wp2_with fail
  refine Calls.mono (hok w4 HB.out) ?_
  rintro e w5 ⟨rfl, b_⟩
  replace RM := Aside0.mk (Kd.C_below RM.out b_)
  replace HB := Aside0.mk (bel_then HB.out b_)
  clear b_
  have hM : M = ys.filterMap (flatOne ys) := by have h1 := HQ.out; rw [HM.out]; unfold aliasFlat; rw [h1]; rfl
  have hnd := ok_nodup HQ.out
  have hgood : aliasOk M = true := by rw [hM]; exact flat_good HQ.out
  have hr0 : aliasRound M = [] := by unfold aliasRound; rw [hgood, hM]; exact flat_rounds hnd
  have hf0 : aliasFlat M = M := by unfold aliasFlat; rw [hgood, hM]; exact flat_flat hnd
  have hle : M.length ≤ ys.length := by rw [hM]; exact List.length_filterMap_le _ _
  have HFX := Lib.hid (show ∀ y ∈ M, fitAddr y.f0 ∧ aliasFor M y.f0 = y.f1 ∧ aliasFor ys y.f0 = y.f1 from fun y hy => by
   have ha := (ok_good hgood hy).1
   have hfe := flat_ends hnd (y := y) (by rw [← hM]; exact hy)
   refine ⟨(HMF.out y hy).1, ?_, ?_⟩
   ·unfold aliasFor; rw [hgood, ha, hM]; exact hfe.1
   ·unfold aliasFor; rw [HQ.out, ha]; exact hfe.2)
  simp only [hgood] at hokM
  simp only [hr0] at hrdM
  simp only [hf0] at hflM
  clear hM hnd hgood hr0 hf0 hok hspec
  go_wp2
  go_loopg [5] (M.length) (fun g v5 wr => ∃ i : Nat, i ≤ M.length ∧ M.length - i ≤ g ∧ v5 = .int .i64 (i : Int) ∧ Aside0 (Below w5.heap.size w5 wr))
  case atStart => exact ⟨0, Nat.zero_le _, by omega, rfl, ⟨Below.refl _ _⟩⟩
  case round =>
   obtain ⟨i, hi, hg, rfl, BV⟩ := hrel
   by_cases hlt : i < M.length
   ·have hlt' : (i : Int) < (M.length : Int) := by omega
    obtain ⟨ad, Q0, qc0, e1, p0, p1, _, _, _⟩ := at_Alias (Kd.C_below RM.out BV.out) i hlt
    subst e1
    have hfx := HFX.out _ (getD_mem M zAlias hlt)
    have hyl := HMX.out _ (getD_mem M zAlias hlt)
    generalize M.getD i zAlias = y at p0 p1 hfx hyl
    have h6 := hforM y.f0 hfx.1
    have h13 := hfor y.f0 hfx.1
    rw [hfx.2.1] at h6
    rw [hfx.2.2] at h13
    clear hfx hforM hfor
    go_wp2
    have HK : Aside0 (∀ W W1, Below W.heap.size W W1 → (W.cell? (ad.add (i * 3)) = some (.string y.f0.f0) ∧ W.cell? ⟨(ad.add (i * 3)).block, (ad.add (i * 3)).off + 1, none⟩ = some (.string y.f0.f1) ∧ Below w5.heap.size w5 W) → (W1.cell? (ad.add (i * 3)) = some (.string y.f0.f0) ∧ W1.cell? ⟨(ad.add (i * 3)).block, (ad.add (i * 3)).off + 1, none⟩ = some (.string y.f0.f1) ∧ Below w5.heap.size w5 W1)) := ⟨fun W W1 hb h => ⟨(hb.cell (World.block_lt_of_cell? W _ h.1)).trans h.1, (hb.cell (World.block_lt_of_cell? W _ h.2.1)).trans h.2.1, bel_then h.2.2 hb⟩⟩
    refine wp_region_held_drew (S := (fun W => W.cell? (ad.add (i * 3)) = some (.string y.f0.f0) ∧ W.cell? ⟨(ad.add (i * 3)).block, (ad.add (i * 3)).off + 1, none⟩ = some (.string y.f0.f1) ∧ Below w5.heap.size w5 W)) (by kernel_rfl) ?s1 (fun hHeld => ?t1)
    case s1 => exact ⟨p0, p1, bel_then BV.out (drew_below0 _)⟩
    generalize World.drew _ = V0 at hHeld ⊢
    refine tk 0 ?v2 ?y2 ?r2
    case y2 => intro w_ hSw; (try dsimp only at hSw); go_simp; (try (with_reducible rfl))
    try simp only [Act.put, List.setIfInBounds_toArray, List.set_cons_zero, List.set_cons_succ]
    refine tk 1 ?v3 ?y3 ?r3
    case y3 => intro w_ hSw; (try dsimp only at hSw); go_simp; (try (with_reducible rfl))
    try simp only [Act.put, List.setIfInBounds_toArray, List.set_cons_zero, List.set_cons_succ]
    refine tk 2 ?v4 ?y4 ?r4
    case y4 => intro w_ hSw; (try dsimp only at hSw); go_simp; (try (with_reducible rfl))
    try simp only [Act.put, List.setIfInBounds_toArray, List.set_cons_zero, List.set_cons_succ]
    refine tk 3 ?v5 ?y5 ?r5
    case y5 => intro w_ hSw; (try dsimp only at hSw); go_simp; (try (with_reducible rfl))
    try simp only [Act.put, List.setIfInBounds_toArray, List.set_cons_zero, List.set_cons_succ]
    refine tk 4 ?v6 ?y6 ?r6
    case y6 => intro w_ hSw; (try dsimp only at hSw); go_simp; (try (with_reducible rfl))
    try simp only [Act.put, List.setIfInBounds_toArray, List.set_cons_zero, List.set_cons_succ]
    refine tk 5 ?v7 ?y7 ?r7
    case y7 => intro w_ hSw; (try dsimp only at hSw); go_simp; (try (with_reducible rfl))
    try simp only [Act.put, List.setIfInBounds_toArray, List.set_cons_zero, List.set_cons_succ]
    refine tk 7 ?v8 ?y8 ?r8
    case y8 => intro w_ hSw; (try dsimp only at hSw); go_simp; (try (with_reducible rfl))
    try simp only [Act.put, List.setIfInBounds_toArray, List.set_cons_zero, List.set_cons_succ]
    refine tk 8 ?v9 ?y9 ?r9
    case y9 => intro w_ hSw; (try dsimp only at hSw); go_simp; (try (with_reducible rfl))
    try simp only [Act.put, List.setIfInBounds_toArray, List.set_cons_zero, List.set_cons_succ]
    refine tk 9 ?v10 ?y10 ?r10
    case y10 => intro w_ hSw; (try dsimp only at hSw); go_simp; (try (with_reducible rfl))
    try simp only [Act.put, List.setIfInBounds_toArray, List.set_cons_zero, List.set_cons_succ]
    refine tk 10 ?v11 ?y11 ?r11
    case y11 => intro w_ hSw; (try dsimp only at hSw); go_simp; (try (with_reducible rfl))
    try simp only [Act.put, List.setIfInBounds_toArray, List.set_cons_zero, List.set_cons_succ]
    refine tk 11 ?v12 ?y12 ?r12
    case y12 => intro w_ hSw; (try dsimp only at hSw); go_simp; (try (with_reducible rfl))
    try simp only [Act.put, List.setIfInBounds_toArray, List.set_cons_zero, List.set_cons_succ]
    refine tk 12 ?v13 ?y13 ?r13
    case y13 => intro w_ hSw; (try dsimp only at hSw); go_simp; (try (with_reducible rfl))
    try simp only [Act.put, List.setIfInBounds_toArray, List.set_cons_zero, List.set_cons_succ]
    refine rdy (rs := [6]) ?_
    refine rc (fun K hK => ?k14) AllReadyH.nil
    case k14 =>
     go_simp
     refine Calls.mono (h6 V0 (some ad) d2 (bel_then HB.out hHeld.2.2) (Kd.C_below RM.out hHeld.2.2)) ?_
     rintro e V6 ⟨B6, d6, rfl, r6_, b6⟩
     refine hK.out _ _ ?h15 (fun hHeld => ?j15)
     case h15 => exact HK.out _ _ b6 hHeld
     clear hK K
     try simp only [Act.put, List.setIfInBounds_toArray, List.set_cons_zero, List.set_cons_succ]
     have U6 := Aside0.mk (Kd.R_reads' r6_).2.2
     clear r6_
     refine rdy (rs := [13]) ?_
     refine rc (fun K hK => ?k16) AllReadyH.nil
     case k16 =>
      go_simp
      refine Calls.mono (h13 V6 (bel_then HB.out hHeld.2.2)) ?_
      rintro e V13 ⟨B7, d7, rfl, r7_, b13⟩
      refine hK.out _ _ ?h17 (fun hHeld => ?j17)
      case h17 => exact HK.out _ _ b13 hHeld
      clear hK K
      try simp only [Act.put, List.setIfInBounds_toArray, List.set_cons_zero, List.set_cons_succ]
      have U7 := Aside0.mk (Kd.R_reads' r7_).2.2
      clear r7_
      replace U6 := Aside0.mk (Kd.C_below U6.out b13)
      refine rdy (rs := [14]) ?_
      refine rc (fun K hK => ?k18) AllReadyH.nil
      case k18 =>
       go_simp
       refine Calls.mono (saAddrs_any B6 d6 B7 d7 y.f1 V13 hyl U6.out U7.out) ?_
       rintro e V14 ⟨rfl, b14⟩
       refine hK.out _ _ ?h19 (fun hHeld => ?j19)
       case h19 => exact HK.out _ _ b14 hHeld
       clear hK K
       try simp only [Act.put, List.setIfInBounds_toArray, List.set_cons_zero, List.set_cons_succ]
       replace U6 := Aside0.mk (Kd.C_below U6.out b14)
       replace U7 := Aside0.mk (Kd.C_below U7.out b14)
       refine tk 15 ?v20 ?y20 ?r20
       case y20 => intro w_ hSw; (try dsimp only at hSw); go_simp; (try (with_reducible rfl))
       try simp only [Act.put, List.setIfInBounds_toArray, List.set_cons_zero, List.set_cons_succ]
       refine wpAnyH_done (by kernel_rfl) ?_ _
       have BN := hHeld.2.2
       clear hHeld HK p0 p1
       go_wp2
       go_roundg (M.length - (i + 1))
       case measure => omega
       case rel => exact ⟨i + 1, by omega, Nat.le_refl _, by go_num, ⟨BN⟩⟩
   ·have hlt' : ¬ (i : Int) < (M.length : Int) := by omega
    have hle' : (M.length : Int) ≤ (ys.length : Int) := by omega
    have BV1 := BV.out
    replace RM := Aside0.mk (Kd.C_below RM.out BV1)
    replace HB := Aside0.mk (bel_then HB.out BV1)
    clear BV1
    clear BV hfor hforM
    go_wp2_with fail
    refine Calls.mono (hokM wr B2 d2 HB.out RM.out) ?_
    rintro e x1 ⟨rfl, b_⟩
    replace RM := Aside0.mk (Kd.C_below RM.out b_)
    replace HB := Aside0.mk (bel_then HB.out b_)
    clear b_
    go_wp2_with fail
    refine Calls.mono (hrdM x1 B2 d2 HB.out RM.out) ?_
    rintro e x2 ⟨B6, d6, rfl, _, b_⟩
    replace RM := Aside0.mk (Kd.C_below RM.out b_)
    replace HB := Aside0.mk (bel_then HB.out b_)
    clear b_
    go_wp2_with fail
    refine Calls.mono (hflM x2 B2 d2 HB.out RM.out) ?_
    rintro e x3 ⟨B7, d7, rfl, hR_, b_⟩
    replace RM := Aside0.mk (Kd.C_below RM.out b_)
    replace HB := Aside0.mk (bel_then HB.out b_)
    clear b_
    have RF := Aside0.mk (Kd.S_reads' hR_).2.2
    clear hR_
    go_wp2_with fail
    refine Calls.mono (saAliases_any B7 d7 B2 d2 M x3 hml HMX.out RF.out RM.out) ?_
    rintro e x4 ⟨rfl, b_⟩
    replace RM := Aside0.mk (Kd.C_below RM.out b_)
    replace RF := Aside0.mk (Kd.C_below RF.out b_)
    replace HB := Aside0.mk (bel_then HB.out b_)
    clear b_
    go_wp2
    go_ret
    exact ⟨rfl, BW.out.trans (HB.out.mono SZ.out)⟩

end Go.Proofs.YticepbgacokbbaaDoor
