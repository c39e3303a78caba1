/- The law FnAliasParts, walked. -/
import Derived.Test.YticepbgacokbbaaDoorReg
import Derived.Test.YticepbgacokbbaaDoorDrawAl
import Derived.Test.YticepbgacokbbaaDoorSaAl
import Derived.Test.YticepbgacokbbaaDoorAlSpec
import Derived.Test.YticepbgacokbbaaDoorAlFit
import Derived.Deep.RegionHeld3
namespace Go.Proofs.YticepbgacokbbaaDoor
open Go.RowKit Go.Proofs.YticepbgacokbbaaDoorW.PrintWords
set_option linter.unusedVariables false
set_option linter.unusedSimpArgs false
theorem bounds_u8' {n : Int} (h : (Lit.int .u8 n).wf = true) : 0 ≤ n ∧ n ≤ 255 := by
 simp [Lit.wf, IntKind.min, IntKind.max, IntKind.signed, IntKind.bits] at h
 omega

theorem parts_all {xs : List SAlias} {a : SAddr} (h : aliasOk xs = true) (ha : isAl xs a = true) : aliasFor xs a = ends xs [a] ∧ ∀ b, b ∈ ends xs [a] ↔ ∃ x ∈ xs, x.f0 = a ∧ ∃ t ∈ x.f1, b ∈ ends xs [t] := by
 obtain ⟨x0, hx0, e0⟩ := isAl_iff.1 ha
 have hg := (ok_good h hx0).1
 rw [e0] at hg
 refine ⟨by unfold aliasFor; rw [h, hg]; rfl, fun b => ?_⟩
 rw [ends_parts ha]
 constructor
 ·rintro ⟨t, ht, hb⟩
  refine ⟨x0, hx0, e0, t, ?_, hb⟩
  rw [← e0, tos_of (ok_nodup h) hx0] at ht
  exact ht
 ·rintro ⟨x, hx, e, t, ht, hb⟩
  refine ⟨t, ?_, hb⟩
  rw [← e, tos_of (ok_nodup h) hx]
  exact ht
theorem part_fit {xs : List SAlias} (h : aliasOk xs = true) (hw : ∀ x ∈ xs, fitAlias x) {x : SAlias} (hx : x ∈ xs) : x.f1.length ≤ 4 ∧ ∀ t ∈ x.f1, fitAddr t ∧ aliasFor xs t = ends xs [t] ∧ (ends xs [t]).length ≤ 25 := by
 refine ⟨(ok_len h).2 x hx, fun t ht => ⟨(hw x hx).2.2 t ht, ?_, ?_⟩⟩
 ·unfold aliasFor; rw [h, (ok_good h hx).2 t ht]; rfl
 ·have := (ends_fit (fr := [t]) h hw (fun b hb => List.mem_singleton.1 hb ▸ (hw x hx).2.2 t ht) (by simp)).1
  simpa using this
theorem take_flat {xs : List SAddr} {k : Nat} (h : k < xs.length) (p : SAddr → Prop) : (∃ t ∈ xs.take (k + 1), p t) ↔ (∃ t ∈ xs.take k, p t) ∨ p (xs.getD k zAddr) := by
 rw [take_nextA h]
 simp only [List.mem_append, List.mem_singleton]
 constructor
 ·rintro ⟨t, ht | rfl, hp⟩
  ·exact .inl ⟨t, ht, hp⟩
  ·exact .inr hp
 ·rintro (⟨t, ht, hp⟩ | hp)
  ·exact ⟨t, .inl ht, hp⟩
  ·exact ⟨_, .inr rfl, hp⟩
theorem take_flatL {xs : List SAlias} {k : Nat} (h : k < xs.length) (p : SAlias → Prop) : (∃ t ∈ xs.take (k + 1), p t) ↔ (∃ t ∈ xs.take k, p t) ∨ p (xs.getD k zAlias) := by
 rw [take_nextL h]
 simp only [List.mem_append, List.mem_singleton]
 constructor
 ·rintro ⟨t, ht | rfl, hp⟩
  ·exact .inl ⟨t, ht, hp⟩
  ·exact .inr hp
 ·rintro (⟨t, ht, hp⟩ | hp)
  ·exact ⟨t, .inl ht, hp⟩
  ·exact ⟨_, .inr rfl, hp⟩
attribute [local go_sem high] eqA30
set_option maxRecDepth 100000 in
set_option maxHeartbeats 8000000 in
theorem walk_FnAliasParts {w : World} (A : Option Addr) (c : Nat) (xs : List Int) (hr : Kd.C (Kd.int .u8) w A xs.length xs) (hg : xs.length ≤ 9223372036854775807 ∧ ∀ y ∈ xs, (Lit.int .u8 y).wf = true) (hc : xs.length ≤ c) (hG : Glob w) :
  Calls Tryd.prog 4 #[.slice A xs.length c] w fun e w' => e = .returned (.bool true) ∧ Below w.heap.size w w' := by
 by_cases n_code : (1048576 : Int) < (xs.length : Int)
 ·generalize xs.length = L at n_code
  go_enter Tryd.func4, Tryd.ntmps4
  go_wp2
  go_ret
  exact ⟨rfl, Below.refl _ _⟩
 have hd := drawAliasFor_any A c xs w ⟨by omega, fun y hy => by have := bounds_u8' (hg.2 y hy); omega⟩ hc hr
 clear hr hg hc
 generalize xs.length = L at n_code hd
 go_enter Tryd.func4, Tryd.ntmps4
 go_wp2_with fail
 refine Calls.mono hd ?_
 rintro e w1 ⟨ys, B, d, a, rfl, hs, ha, rr, b1⟩
 have HG := Lib.hid (hG.below b1)
 have BW := Lib.hid b1
 have SZ := Lib.hid b1.size
 clear hd hG b1
 have CR := Aside0.mk (Kd.R_reads' rr).2.2
 have hys := hs.1
 have hw : ys.length ≤ 1048576 ∧ ∀ x ∈ ys, fitAlias x := ⟨by omega, fun x hx => smallAl_fit (by omega) (hs.2 x hx)⟩
 have hok := fun W (hW : Below w1.heap.size w1 W) => aliasOk_any B d ys W hw (Kd.C_below CR.out hW) (HG.out.below hW)
 have hforT := fun (t : SAddr) (hf : fitAddr t) W (hW : Below w1.heap.size w1 W) => aliasFor_any B d ys t W hw hf (Kd.C_below CR.out hW) (HG.out.below hW)
 have hfa : fitAddr a := ⟨by have := ha.1; omega, by have := ha.2; omega⟩
 have hfor := fun W (hW : Below w1.heap.size w1 W) => aliasFor_any B d ys a W hw hfa (Kd.C_below CR.out hW) (HG.out.below hW)
 have hspec := fun W (hW : Below w1.heap.size w1 W) => specAliasFor_any B d ys a W hw hfa (Kd.C_below CR.out hW)
 have hst := fun W (hW : Below w1.heap.size w1 W) (b : SAddr) => saStands_any B d ys b W (Kd.C_below CR.out hW) (by omega)
 obtain ⟨M, eM⟩ : ∃ M, M = aliasFor ys a := ⟨_, rfl⟩
 simp only [← eM] at hfor hspec
 have hml : M.length ≤ 1048576 := by rw [eM]; exact (aliasFor_fit hw hfa).1
 have HM := Lib.hid eM
 clear eM
 obtain ⟨q, hq⟩ : ∃ q, q = aliasOk ys := ⟨_, rfl⟩
 have HQ := Lib.hid hq.symm
 have HPF := Lib.hid (fun (h : aliasOk ys = true) (x : SAlias) (hx : x ∈ ys) => part_fit h hw.2 hx)
 have hsa := fun W hW => hst W hW a
 obtain ⟨q2, hq2⟩ : ∃ q2, q2 = isAl ys a := ⟨_, rfl⟩
 simp only [← hq2] at hsa
 have HQ2 := Lib.hid hq2.symm
 simp only [← hq] at hok
 clear hq hq2 hs ha rr hw hfa hst
 go_wp2_with fail
 obtain ⟨W0, hW0⟩ : ∃ W, W = w1.alloc (.cells #[.string a.f0, .string a.f1] 30) := ⟨_, rfl⟩
 rw [← hW0]
 have HB : Aside0 (Below w1.heap.size w1 W0) := ⟨by rw [hW0]; exact bel_alloc (Below.refl _ _) _⟩
 have F1 : Aside0 (W0.heap[w1.heap.size]? = some (.cells #[.string a.f0, .string a.f1] 30 (0, 0))) := ⟨by rw [hW0]; exact blk_new _ _⟩
 clear hW0
 have cF1_0 : W0.cell? ⟨w1.heap.size, 0, none⟩ = some (.string a.f0) := clq F1.out 0 rfl
 have cF1_1 : W0.cell? ⟨w1.heap.size, 1, none⟩ = some (.string a.f1) := clq F1.out 1 rfl
 go_wp2_with fail
 refine Calls.mono (hfor W0 HB.out) ?_
 rintro e w2 ⟨B2, d2, rfl, hR_, b_⟩
 clear cF1_0 cF1_1
 replace F1 := Aside0.mk (below_blk F1.out b_)
 replace HB := Aside0.mk (bel_then HB.out b_)
 clear b_
 have cF1_0 : w2.cell? ⟨w1.heap.size, 0, none⟩ = some (.string a.f0) := clq F1.out 0 rfl
 have cF1_1 : w2.cell? ⟨w1.heap.size, 1, none⟩ = some (.string a.f1) := clq F1.out 1 rfl
 have RM := Aside0.mk (Kd.R_reads' hR_).2.2
 clear hR_
 go_wp2_with fail
 refine Calls.mono (hspec w2 HB.out) ?_
 rintro e w3 ⟨B3, d3, rfl, hR_, b_⟩
 clear cF1_0 cF1_1
 replace F1 := Aside0.mk (below_blk F1.out b_)
 replace RM := Aside0.mk (Kd.C_below RM.out b_)
 replace HB := Aside0.mk (bel_then HB.out b_)
 clear b_
 have cF1_0 : w3.cell? ⟨w1.heap.size, 0, none⟩ = some (.string a.f0) := clq F1.out 0 rfl
 have cF1_1 : w3.cell? ⟨w1.heap.size, 1, none⟩ = some (.string a.f1) := clq F1.out 1 rfl
 have RS := Aside0.mk (Kd.R_reads' hR_).2.2
 clear hR_
 go_wp2_with fail
 refine Calls.mono (saAddrs_any B2 d2 B3 d3 M w3 hml RM.out RS.out) ?_
 rintro e w4 ⟨rfl, b_⟩
 clear cF1_0 cF1_1
 replace F1 := Aside0.mk (below_blk F1.out b_)
 replace RM := Aside0.mk (Kd.C_below RM.out b_)
 replace RS := Aside0.mk (Kd.C_below RS.out b_)
 replace HB := Aside0.mk (bel_then HB.out b_)
 clear b_
 have cF1_0 : w4.cell? ⟨w1.heap.size, 0, none⟩ = some (.string a.f0) := clq F1.out 0 rfl
 have cF1_1 : w4.cell? ⟨w1.heap.size, 1, none⟩ = some (.string a.f1) := clq F1.out 1 rfl
 clear RS
 clear hfor
 cases q
 ·go_wp2_with fail
  refine Calls.mono (hok w4 HB.out) ?_
  rintro e w5 ⟨rfl, b_⟩
  clear cF1_0 cF1_1
  replace F1 := Aside0.mk (below_blk F1.out b_)
  replace RM := Aside0.mk (Kd.C_below RM.out b_)
  replace HB := Aside0.mk (bel_then HB.out b_)
  clear b_
  have cF1_0 : w5.cell? ⟨w1.heap.size, 0, none⟩ = some (.string a.f0) := clq F1.out 0 rfl
  have cF1_1 : w5.cell? ⟨w1.heap.size, 1, none⟩ = some (.string a.f1) := clq F1.out 1 rfl
  go_wp2_with fail
  refine Calls.mono (hspec w5 HB.out) ?_
  rintro e u1 ⟨B9, d9, rfl, hR_, b_⟩
  clear cF1_0 cF1_1
  replace F1 := Aside0.mk (below_blk F1.out b_)
  replace RM := Aside0.mk (Kd.C_below RM.out b_)
  replace HB := Aside0.mk (bel_then HB.out b_)
  clear b_
  have cF1_0 : u1.cell? ⟨w1.heap.size, 0, none⟩ = some (.string a.f0) := clq F1.out 0 rfl
  have cF1_1 : u1.cell? ⟨w1.heap.size, 1, none⟩ = some (.string a.f1) := clq F1.out 1 rfl
  have RS := Aside0.mk (Kd.R_reads' hR_).2.2
  clear hR_
  go_wp2_with fail
  refine Calls.mono (saAddrs_any B2 d2 B9 d9 M u1 hml RM.out RS.out) ?_
  rintro e u2 ⟨rfl, b_⟩
  clear cF1_0 cF1_1
  replace F1 := Aside0.mk (below_blk F1.out b_)
  replace RM := Aside0.mk (Kd.C_below RM.out b_)
  replace RS := Aside0.mk (Kd.C_below RS.out b_)
  replace HB := Aside0.mk (bel_then HB.out b_)
  clear b_
  have cF1_0 : u2.cell? ⟨w1.heap.size, 0, none⟩ = some (.string a.f0) := clq F1.out 0 rfl
  have cF1_1 : u2.cell? ⟨w1.heap.size, 1, none⟩ = some (.string a.f1) := clq F1.out 1 rfl
  clear RS
  go_wp2
  go_ret
  exact ⟨rfl, BW.out.trans (HB.out.mono SZ.out)⟩
 ·go_wp2_with fail
  refine Calls.mono (hok w4 HB.out) ?_
  rintro e w5 ⟨rfl, b_⟩
  clear cF1_0 cF1_1
  replace F1 := Aside0.mk (below_blk F1.out b_)
  replace RM := Aside0.mk (Kd.C_below RM.out b_)
  replace HB := Aside0.mk (bel_then HB.out b_)
  clear b_
  have cF1_0 : w5.cell? ⟨w1.heap.size, 0, none⟩ = some (.string a.f0) := clq F1.out 0 rfl
  have cF1_1 : w5.cell? ⟨w1.heap.size, 1, none⟩ = some (.string a.f1) := clq F1.out 1 rfl
  cases q2
  ·go_wp2_with fail
   refine Calls.mono (hsa w5 HB.out) ?_
   rintro e w6 ⟨rfl, b_⟩
   clear cF1_0 cF1_1
   replace F1 := Aside0.mk (below_blk F1.out b_)
   replace RM := Aside0.mk (Kd.C_below RM.out b_)
   replace HB := Aside0.mk (bel_then HB.out b_)
   clear b_
   have cF1_0 : w6.cell? ⟨w1.heap.size, 0, none⟩ = some (.string a.f0) := clq F1.out 0 rfl
   have cF1_1 : w6.cell? ⟨w1.heap.size, 1, none⟩ = some (.string a.f1) := clq F1.out 1 rfl
   go_wp2_with fail
   refine Calls.mono (hspec w6 HB.out) ?_
   rintro e u1 ⟨B9, d9, rfl, hR_, b_⟩
   clear cF1_0 cF1_1
   replace F1 := Aside0.mk (below_blk F1.out b_)
   replace RM := Aside0.mk (Kd.C_below RM.out b_)
   replace HB := Aside0.mk (bel_then HB.out b_)
   clear b_
   have cF1_0 : u1.cell? ⟨w1.heap.size, 0, none⟩ = some (.string a.f0) := clq F1.out 0 rfl
   have cF1_1 : u1.cell? ⟨w1.heap.size, 1, none⟩ = some (.string a.f1) := clq F1.out 1 rfl
   have RS := Aside0.mk (Kd.R_reads' hR_).2.2
   clear hR_
   go_wp2_with fail
   refine Calls.mono (saAddrs_any B2 d2 B9 d9 M u1 hml RM.out RS.out) ?_
   rintro e u2 ⟨rfl, b_⟩
   clear cF1_0 cF1_1
   replace F1 := Aside0.mk (below_blk F1.out b_)
   replace RM := Aside0.mk (Kd.C_below RM.out b_)
   replace RS := Aside0.mk (Kd.C_below RS.out b_)
   replace HB := Aside0.mk (bel_then HB.out b_)
   clear b_
   have cF1_0 : u2.cell? ⟨w1.heap.size, 0, none⟩ = some (.string a.f0) := clq F1.out 0 rfl
   have cF1_1 : u2.cell? ⟨w1.heap.size, 1, none⟩ = some (.string a.f1) := clq F1.out 1 rfl
   clear RS
   go_wp2
   go_ret
   exact ⟨rfl, BW.out.trans (HB.out.mono SZ.out)⟩
  ·go_wp2_with fail
   refine Calls.mono (hsa w5 HB.out) ?_
   rintro e w6 ⟨rfl, b_⟩
   clear cF1_0 cF1_1
   replace F1 := Aside0.mk (below_blk F1.out b_)
   replace RM := Aside0.mk (Kd.C_below RM.out b_)
   replace HB := Aside0.mk (bel_then HB.out b_)
   clear b_
   have cF1_0 : w6.cell? ⟨w1.heap.size, 0, none⟩ = some (.string a.f0) := clq F1.out 0 rfl
   have cF1_1 : w6.cell? ⟨w1.heap.size, 1, none⟩ = some (.string a.f1) := clq F1.out 1 rfl
   have hpa := parts_all HQ.out HQ2.out
   have HMM := Lib.hid (show ∀ b, b ∈ M ↔ ∃ x ∈ ys, x.f0 = a ∧ ∃ t ∈ x.f1, b ∈ ends ys [t] from by rw [HM.out, hpa.1]; exact hpa.2)
   have hy6 := (ok_len HQ.out).1
   have HPG := Lib.hid (HPF.out HQ.out)
   clear hpa HPF hok hsa hspec
   have HE : Aside0 (Kd.R kAddr 30 (w6.alloc (.cells #[] 30)) w6.heap.size (fun _ => True) (.slice (some ⟨w6.heap.size, 0, none⟩) 0 0) []) := ⟨R_empty kAddr 30 w6 w6.heap.size (Nat.le_refl _) trivial⟩
   have BE := Aside0.mk (bel_alloc (Below.refl w6.heap.size w6) (.cells #[] 30))
   clear cF1_0 cF1_1
   go_wp2
   go_loopg [6, 7, 8] (ys.length) (fun g v6 v7 _ wr => ∃ (i : Nat) (P : List SAddr) (A2 : Option Addr) (c2 : Nat), i ≤ ys.length ∧ ys.length - i ≤ g ∧ v6 = .slice A2 P.length c2 ∧ v7 = .int .i64 (i : Int) ∧ P.length ≤ 100 * i ∧ Aside0 (∀ b, b ∈ P ↔ ∃ x ∈ ys.take i, x.f0 = a ∧ ∃ t ∈ x.f1, b ∈ ends ys [t]) ∧ Aside0 (Kd.R kAddr 30 wr w6.heap.size (fun _ => True) (.slice A2 P.length c2) P) ∧ Aside0 (Below w6.heap.size w6 wr))
   case atStart => exact ⟨0, [], some ⟨w6.heap.size, 0, none⟩, 0, Nat.zero_le _, by omega, rfl, rfl, Nat.le_refl _, ⟨fun b => by simp⟩, HE, BE⟩
   case round =>
    clear HE BE
    obtain ⟨i, P, A2, c2, hi, hg, rfl, rfl, hpl, HPM, HO, BP⟩ := hrel
    by_cases hlt : i < ys.length
    ·have hlt' : (i : Int) < (ys.length : Int) := by omega
     obtain ⟨ad, Q0, qc0, e1, p0, p1, p2, l0, k0⟩ := at_Alias CR.out i hlt
     subst e1
     have hpg := HPG.out _ (getD_mem ys zAlias hlt)
     have HTK := Lib.hid (fun (b : SAddr) => take_flatL hlt (fun x => x.f0 = a ∧ ∃ t ∈ x.f1, b ∈ ends ys [t]))
     generalize ys.getD i zAlias = y at p0 p1 p2 l0 k0 hpg HTK
     have hy4 := hpg.1
     have HYP := Lib.hid hpg.2
     have P0 := Lib.hid p0
     have P1 := Lib.hid p1
     have P2 := Lib.hid p2
     have K0 := Aside0.mk k0
     have zl := World.block_lt_of_cell? _ _ p0
     clear p0 p1 p2 k0 hpg
     go_wp2
     go_loopg [6, 8] (y.f1.length) (fun g v6 v8 wr => ∃ (k : Nat) (P : List SAddr) (A2 : Option Addr) (c2 : Nat), k ≤ y.f1.length ∧ y.f1.length - k ≤ g ∧ v6 = .slice A2 P.length c2 ∧ v8 = .int .i64 (k : Int) ∧ P.length ≤ 100 * i + 25 * k ∧ Aside0 (∀ b, b ∈ P ↔ (∃ x ∈ ys.take i, x.f0 = a ∧ ∃ t ∈ x.f1, b ∈ ends ys [t]) ∨ (y.f0 = a ∧ ∃ t ∈ y.f1.take k, b ∈ ends ys [t])) ∧ Aside0 (Kd.R kAddr 30 wr w6.heap.size (fun _ => True) (.slice A2 P.length c2) P) ∧ Aside0 (Below w6.heap.size w6 wr))
     case atStart => exact ⟨0, P, A2, c2, Nat.zero_le _, by omega, rfl, rfl, by omega, ⟨fun b => by rw [HPM.out b]; simp⟩, HO, BP⟩
     case round =>
      clear HPM HO BP hpl
      obtain ⟨k, P, A2, c2, hk, hgk, rfl, rfl, hpl, HPM, HO, BP⟩ := hrel
      have hBW := bel_then HB.out BP.out
      have s0 := (hBW.cell zl).trans P0.out
      have s1 := (hBW.cell (World.block_lt_of_cell? _ _ P1.out)).trans P1.out
      have s2 := (hBW.cell (World.block_lt_of_cell? _ _ P2.out)).trans P2.out
      have hF1 := below_blk F1.out BP.out
      have cF1_0 : wr.cell? ⟨w1.heap.size, 0, none⟩ = some (.string a.f0) := by simp [World.cell?, hF1]
      have cF1_1 : wr.cell? ⟨w1.heap.size, 1, none⟩ = some (.string a.f1) := by simp [World.cell?, hF1]
      by_cases hlk : k < y.f1.length
      ·have hlk' : (k : Int) < (y.f1.length : Int) := by omega
       have heq := addr_eq y.f0 a
       by_cases hya : y.f0 = a
       ·have HYA := Lib.hid hya
        rw [decide_eq_true hya] at heq
        clear hya
        go_wp2
        have HK : Aside0 (∀ W W1, Below W.heap.size W W1 → (W.cell? ⟨w1.heap.size, 0, none⟩ = some (.string a.f0) ∧ W.cell? ⟨w1.heap.size, 1, none⟩ = some (.string a.f1) ∧ W.cell? (ad.add (i * 3)) = some (.string y.f0.f0) ∧ W.cell? ⟨(ad.add (i * 3)).block, (ad.add (i * 3)).off + 1, none⟩ = some (.string y.f0.f1) ∧ W.cell? ⟨(ad.add (i * 3)).block, (ad.add (i * 3)).off + 2, none⟩ = some (.slice Q0 y.f1.length qc0) ∧ Below w6.heap.size w6 W) → (W1.cell? ⟨w1.heap.size, 0, none⟩ = some (.string a.f0) ∧ W1.cell? ⟨w1.heap.size, 1, none⟩ = some (.string a.f1) ∧ W1.cell? (ad.add (i * 3)) = some (.string y.f0.f0) ∧ W1.cell? ⟨(ad.add (i * 3)).block, (ad.add (i * 3)).off + 1, none⟩ = some (.string y.f0.f1) ∧ W1.cell? ⟨(ad.add (i * 3)).block, (ad.add (i * 3)).off + 2, none⟩ = some (.slice Q0 y.f1.length qc0) ∧ Below w6.heap.size w6 W1)) := ⟨fun W W1 hb h => ⟨(hb.cell (World.block_lt_of_cell? W _ (h.1))).trans (h.1), (hb.cell (World.block_lt_of_cell? W _ (h.2.1))).trans (h.2.1), (hb.cell (World.block_lt_of_cell? W _ (h.2.2.1))).trans (h.2.2.1), (hb.cell (World.block_lt_of_cell? W _ (h.2.2.2.1))).trans (h.2.2.2.1), (hb.cell (World.block_lt_of_cell? W _ (h.2.2.2.2.1))).trans (h.2.2.2.2.1), bel_then (h.2.2.2.2.2) hb⟩⟩
        refine wp_region_held_drew (S := (fun W => W.cell? ⟨w1.heap.size, 0, none⟩ = some (.string a.f0) ∧ W.cell? ⟨w1.heap.size, 1, none⟩ = some (.string a.f1) ∧ W.cell? (ad.add (i * 3)) = some (.string y.f0.f0) ∧ W.cell? ⟨(ad.add (i * 3)).block, (ad.add (i * 3)).off + 1, none⟩ = some (.string y.f0.f1) ∧ W.cell? ⟨(ad.add (i * 3)).block, (ad.add (i * 3)).off + 2, none⟩ = some (.slice Q0 y.f1.length qc0) ∧ Below w6.heap.size w6 W)) (by kernel_rfl) ?s1 (fun hHeld => ?t1)
        case s1 => exact ⟨cF1_0, cF1_1, s0, s1, s2, bel_then BP.out (drew_below0 _)⟩
        generalize hV0 : World.drew wr = V0 at hHeld ⊢
        refine tk 0 ?v2 ?y2 ?r2
        case y2 => intro w_ hSw; (try dsimp only at hSw); go_simp; (try (with_reducible rfl))
        try simp only [Act.put, List.setIfInBounds_toArray, List.set_cons_zero, List.set_cons_succ]
        refine tk 1 ?v3 ?y3 ?r3
        case y3 => intro w_ hSw; (try dsimp only at hSw); go_simp; (try (with_reducible rfl))
        try simp only [Act.put, List.setIfInBounds_toArray, List.set_cons_zero, List.set_cons_succ]
        refine tk 2 ?v4 ?y4 ?r4
        case y4 => intro w_ hSw; (try dsimp only at hSw); go_simp; (try (with_reducible rfl))
        try simp only [Act.put, List.setIfInBounds_toArray, List.set_cons_zero, List.set_cons_succ]
        refine tk 3 ?v5 ?y5 ?r5
        case y5 => intro w_ hSw; (try dsimp only at hSw); go_simp; (try (with_reducible rfl))
        try simp only [Act.put, List.setIfInBounds_toArray, List.set_cons_zero, List.set_cons_succ]
        refine tk 4 ?v6 ?y6 ?r6
        case y6 => intro w_ hSw; (try dsimp only at hSw); go_simp; (try (with_reducible rfl))
        try simp only [Act.put, List.setIfInBounds_toArray, List.set_cons_zero, List.set_cons_succ]
        refine tk 5 ?v7 ?y7 ?r7
        case y7 => intro w_ hSw; (try dsimp only at hSw); go_simp; (try (with_reducible rfl))
        try simp only [Act.put, List.setIfInBounds_toArray, List.set_cons_zero, List.set_cons_succ]
        refine tk 6 ?v8 ?y8 ?r8
        case y8 => intro w_ hSw; (try dsimp only at hSw); go_simp; (try (with_reducible rfl))
        try simp only [Act.put, List.setIfInBounds_toArray, List.set_cons_zero, List.set_cons_succ]
        refine tk 7 ?v9 ?y9 ?r9
        case y9 => intro w_ hSw; (try dsimp only at hSw); go_simp; (try (with_reducible rfl))
        try simp only [Act.put, List.setIfInBounds_toArray, List.set_cons_zero, List.set_cons_succ]
        refine tk 8 ?v10 ?y10 ?r10
        case y10 => intro w_ hSw; (try dsimp only at hSw); go_simp; (try (with_reducible rfl))
        try simp only [Act.put, List.setIfInBounds_toArray, List.set_cons_zero, List.set_cons_succ]
        refine tk 9 ?v11 ?y11 ?r11
        case y11 => intro w_ hSw; (try dsimp only at hSw); go_simp; (try (with_reducible rfl))
        try simp only [Act.put, List.setIfInBounds_toArray, List.set_cons_zero, List.set_cons_succ]
        refine tk 10 ?v12 ?y12 ?r12
        case y12 => intro w_ hSw; (try dsimp only at hSw); go_simp; (try (with_reducible rfl))
        try simp only [Act.put, List.setIfInBounds_toArray, List.set_cons_zero, List.set_cons_succ]
        refine tk 11 ?v13 ?y13 ?r13
        case y13 => intro w_ hSw; (try dsimp only at hSw); go_simp; (try (with_reducible rfl))
        try simp only [Act.put, List.setIfInBounds_toArray, List.set_cons_zero, List.set_cons_succ]
        refine tk 12 ?v14 ?y14 ?r14
        case y14 => intro w_ hSw; (try dsimp only at hSw); go_simp; (try (with_reducible rfl))
        try simp only [Act.put, List.setIfInBounds_toArray, List.set_cons_zero, List.set_cons_succ]
        refine tk 13 ?v15 ?y15 ?r15
        case y15 => intro w_ hSw; (try dsimp only at hSw); go_simp; (try (with_reducible rfl))
        try simp only [Act.put, List.setIfInBounds_toArray, List.set_cons_zero, List.set_cons_succ]
        refine tk 14 ?v16 ?y16 ?r16
        case y16 => intro w_ hSw; (try dsimp only at hSw); go_simp; (try (with_reducible rfl))
        try simp only [Act.put, List.setIfInBounds_toArray, List.set_cons_zero, List.set_cons_succ]
        refine tk 15 ?v17 ?y17 ?r17
        case y17 => intro w_ hSw; (try dsimp only at hSw); go_simp; (try (with_reducible rfl))
        try simp only [Act.put, List.setIfInBounds_toArray, List.set_cons_zero, List.set_cons_succ]
        refine tk 16 ?v18 ?y18 ?r18
        case y18 => intro w_ hSw; (try dsimp only at hSw); go_simp; (try (with_reducible rfl))
        try simp only [Act.put, List.setIfInBounds_toArray, List.set_cons_zero, List.set_cons_succ]
        refine wpAnyH_done (by kernel_rfl) ?_ _
        have BN := Aside0.mk hHeld.2.2.2.2.2
        have x2 := hHeld.2.2.2.2.1
        have HO2 := Aside0.mk (show Kd.R kAddr 30 V0 w6.heap.size (fun _ => True) (.slice A2 P.length c2) P from Kd.R_below HO.out (by rw [← hV0]; exact drew_below0 wr))
        have hK := Kd.C_below K0.out (bel_then HB.out BN.out)
        obtain ⟨at2, e2, x0, x1⟩ := at_Addr hK k hlk
        subst e2
        have hft := HYP.out _ (getD_mem y.f1 zAddr hlk)
        have HTT := Lib.hid (fun (b : SAddr) => take_flat hlk (fun t => b ∈ ends ys [t]))
        generalize y.f1.getD k zAddr = t at x0 x1 hft HTT
        have h8 := hforT t hft.1
        rw [hft.2.1] at h8
        have hen := hft.2.2
        generalize ends ys [t] = EN at h8 hen HTT
        clear hHeld HK hft hK s0 s1 s2 cF1_0 cF1_1 hF1 hV0
        go_wp2_with (first | (go_at_call 16; go_loud (refine Calls.mono (h8 V0 (bel_then HB.out BN.out)) ?_; rintro e w8 ⟨B8, d8, rfl, r8, b8⟩; have U8 := Aside0.mk (Kd.R_reads' r8).2.2; have HO8 := Aside0.mk (Kd.R_below HO2.out b8); have B8 := Aside0.mk (bel_then BN.out b8); clear r8 b8 x0 x1 x2 h8)) | ((with_reducible refine gate_builtin (b := .append) (xs := #[.tmp 74, .tmp 84]) rfl ?_); (try (refine gate_guard (by rfl) ?_; dsimp only)); at_builtin; go_loud (refine Kd.R_append_rows kAddr (w0 := w6) (w6.heap.size) rfl (.tmp 74) (.tmp 84) 25 30 (.agg #[(.string ⟨#[]⟩), (.string ⟨#[]⟩)]) 32 rfl Tryd.underlying25 info30 rfl (by decide) (by omega) (.slice A2 P.length c2) P EN _ _ _ (fun _ => True) (fun _ => False) rfl rfl ?aO ?aR (fun _ _ h => h) (fun _ h => h.elim) (fun _ _ => trivial) ?aB ?aS ?aL ?_); (case aO => exact HO8.out); (case aR => exact U8.out); (case aB => exact B8.out); (case aS => exact B8.out.size); (case aL => omega); intro v9 w9 ho hb hg hat; have HO9 := Aside0.mk ho; have B9 := Aside0.mk hb; clear ho hb hg hat))
        obtain ⟨A9, c9, hv9⟩ := Kd.R_slice HO9.out
        subst hv9
        obtain ⟨P9, eP9⟩ : ∃ l, l = P ++ EN := ⟨_, rfl⟩
        rw [← eP9] at HO9
        have hP9 : P9.length = P.length + EN.length := by rw [eP9, List.length_append]
        have HP9 := Lib.hid eP9
        clear eP9
        go_roundg (y.f1.length - (k + 1))
        case measure => omega
        case rel => exact ⟨k + 1, P9, A9, c9, by omega, Nat.le_refl _, by rw [HP9.out], by go_num, by omega, ⟨fun b => by
         rw [HP9.out, List.mem_append, HPM.out b, HTT.out b]
         have h := HYA.out
         constructor
         ·rintro ((h1 | h1) | h1)
          ·exact .inl h1
          ·exact .inr ⟨h, .inl h1.2⟩
          ·exact .inr ⟨h, .inr h1⟩
         ·rintro (h1 | ⟨_, h1 | h1⟩)
          ·exact .inl (.inl h1)
          ·exact .inl (.inr ⟨h, h1⟩)
          ·exact .inr h1⟩, HO9, B9⟩
       ·have HYA := Lib.hid hya
        rw [decide_eq_false hya] at heq
        clear hya
        go_wp2
        have HK : Aside0 (∀ W W1, Below W.heap.size W W1 → (W.cell? ⟨w1.heap.size, 0, none⟩ = some (.string a.f0) ∧ W.cell? ⟨w1.heap.size, 1, none⟩ = some (.string a.f1) ∧ W.cell? (ad.add (i * 3)) = some (.string y.f0.f0) ∧ W.cell? ⟨(ad.add (i * 3)).block, (ad.add (i * 3)).off + 1, none⟩ = some (.string y.f0.f1) ∧ W.cell? ⟨(ad.add (i * 3)).block, (ad.add (i * 3)).off + 2, none⟩ = some (.slice Q0 y.f1.length qc0) ∧ Below w6.heap.size w6 W) → (W1.cell? ⟨w1.heap.size, 0, none⟩ = some (.string a.f0) ∧ W1.cell? ⟨w1.heap.size, 1, none⟩ = some (.string a.f1) ∧ W1.cell? (ad.add (i * 3)) = some (.string y.f0.f0) ∧ W1.cell? ⟨(ad.add (i * 3)).block, (ad.add (i * 3)).off + 1, none⟩ = some (.string y.f0.f1) ∧ W1.cell? ⟨(ad.add (i * 3)).block, (ad.add (i * 3)).off + 2, none⟩ = some (.slice Q0 y.f1.length qc0) ∧ Below w6.heap.size w6 W1)) := ⟨fun W W1 hb h => ⟨(hb.cell (World.block_lt_of_cell? W _ (h.1))).trans (h.1), (hb.cell (World.block_lt_of_cell? W _ (h.2.1))).trans (h.2.1), (hb.cell (World.block_lt_of_cell? W _ (h.2.2.1))).trans (h.2.2.1), (hb.cell (World.block_lt_of_cell? W _ (h.2.2.2.1))).trans (h.2.2.2.1), (hb.cell (World.block_lt_of_cell? W _ (h.2.2.2.2.1))).trans (h.2.2.2.2.1), bel_then (h.2.2.2.2.2) hb⟩⟩
        refine wp_region_held_drew (S := (fun W => W.cell? ⟨w1.heap.size, 0, none⟩ = some (.string a.f0) ∧ W.cell? ⟨w1.heap.size, 1, none⟩ = some (.string a.f1) ∧ W.cell? (ad.add (i * 3)) = some (.string y.f0.f0) ∧ W.cell? ⟨(ad.add (i * 3)).block, (ad.add (i * 3)).off + 1, none⟩ = some (.string y.f0.f1) ∧ W.cell? ⟨(ad.add (i * 3)).block, (ad.add (i * 3)).off + 2, none⟩ = some (.slice Q0 y.f1.length qc0) ∧ Below w6.heap.size w6 W)) (by kernel_rfl) ?s19 (fun hHeld => ?t19)
        case s19 => exact ⟨cF1_0, cF1_1, s0, s1, s2, bel_then BP.out (drew_below0 _)⟩
        generalize hV0 : World.drew wr = V0 at hHeld ⊢
        refine tk 0 ?v20 ?y20 ?r20
        case y20 => intro w_ hSw; (try dsimp only at hSw); go_simp; (try (with_reducible rfl))
        try simp only [Act.put, List.setIfInBounds_toArray, List.set_cons_zero, List.set_cons_succ]
        refine tk 1 ?v21 ?y21 ?r21
        case y21 => intro w_ hSw; (try dsimp only at hSw); go_simp; (try (with_reducible rfl))
        try simp only [Act.put, List.setIfInBounds_toArray, List.set_cons_zero, List.set_cons_succ]
        refine tk 2 ?v22 ?y22 ?r22
        case y22 => intro w_ hSw; (try dsimp only at hSw); go_simp; (try (with_reducible rfl))
        try simp only [Act.put, List.setIfInBounds_toArray, List.set_cons_zero, List.set_cons_succ]
        refine tk 3 ?v23 ?y23 ?r23
        case y23 => intro w_ hSw; (try dsimp only at hSw); go_simp; (try (with_reducible rfl))
        try simp only [Act.put, List.setIfInBounds_toArray, List.set_cons_zero, List.set_cons_succ]
        refine tk 4 ?v24 ?y24 ?r24
        case y24 => intro w_ hSw; (try dsimp only at hSw); go_simp; (try (with_reducible rfl))
        try simp only [Act.put, List.setIfInBounds_toArray, List.set_cons_zero, List.set_cons_succ]
        refine tk 5 ?v25 ?y25 ?r25
        case y25 => intro w_ hSw; (try dsimp only at hSw); go_simp; (try (with_reducible rfl))
        try simp only [Act.put, List.setIfInBounds_toArray, List.set_cons_zero, List.set_cons_succ]
        refine tk 6 ?v26 ?y26 ?r26
        case y26 => intro w_ hSw; (try dsimp only at hSw); go_simp; (try (with_reducible rfl))
        try simp only [Act.put, List.setIfInBounds_toArray, List.set_cons_zero, List.set_cons_succ]
        refine tk 7 ?v27 ?y27 ?r27
        case y27 => intro w_ hSw; (try dsimp only at hSw); go_simp; (try (with_reducible rfl))
        try simp only [Act.put, List.setIfInBounds_toArray, List.set_cons_zero, List.set_cons_succ]
        refine tk 8 ?v28 ?y28 ?r28
        case y28 => intro w_ hSw; (try dsimp only at hSw); go_simp; (try (with_reducible rfl))
        try simp only [Act.put, List.setIfInBounds_toArray, List.set_cons_zero, List.set_cons_succ]
        refine tk 9 ?v29 ?y29 ?r29
        case y29 => intro w_ hSw; (try dsimp only at hSw); go_simp; (try (with_reducible rfl))
        try simp only [Act.put, List.setIfInBounds_toArray, List.set_cons_zero, List.set_cons_succ]
        refine tk 10 ?v30 ?y30 ?r30
        case y30 => intro w_ hSw; (try dsimp only at hSw); go_simp; (try (with_reducible rfl))
        try simp only [Act.put, List.setIfInBounds_toArray, List.set_cons_zero, List.set_cons_succ]
        refine tk 11 ?v31 ?y31 ?r31
        case y31 => intro w_ hSw; (try dsimp only at hSw); go_simp; (try (with_reducible rfl))
        try simp only [Act.put, List.setIfInBounds_toArray, List.set_cons_zero, List.set_cons_succ]
        refine tk 12 ?v32 ?y32 ?r32
        case y32 => intro w_ hSw; (try dsimp only at hSw); go_simp; (try (with_reducible rfl))
        try simp only [Act.put, List.setIfInBounds_toArray, List.set_cons_zero, List.set_cons_succ]
        refine tk 13 ?v33 ?y33 ?r33
        case y33 => intro w_ hSw; (try dsimp only at hSw); go_simp; (try (with_reducible rfl))
        try simp only [Act.put, List.setIfInBounds_toArray, List.set_cons_zero, List.set_cons_succ]
        refine tk 14 ?v34 ?y34 ?r34
        case y34 => intro w_ hSw; (try dsimp only at hSw); go_simp; (try (with_reducible rfl))
        try simp only [Act.put, List.setIfInBounds_toArray, List.set_cons_zero, List.set_cons_succ]
        refine tk 15 ?v35 ?y35 ?r35
        case y35 => intro w_ hSw; (try dsimp only at hSw); go_simp; (try (with_reducible rfl))
        try simp only [Act.put, List.setIfInBounds_toArray, List.set_cons_zero, List.set_cons_succ]
        refine tk 16 ?v36 ?y36 ?r36
        case y36 => intro w_ hSw; (try dsimp only at hSw); go_simp; (try (with_reducible rfl))
        try simp only [Act.put, List.setIfInBounds_toArray, List.set_cons_zero, List.set_cons_succ]
        refine wpAnyH_done (by kernel_rfl) ?_ _
        have BN := Aside0.mk hHeld.2.2.2.2.2
        have HO2 := Aside0.mk (show Kd.R kAddr 30 V0 w6.heap.size (fun _ => True) (.slice A2 P.length c2) P from Kd.R_below HO.out (by rw [← hV0]; exact drew_below0 wr))
        clear hHeld HK
        go_wp2
        go_roundg (ys.length - (i + 1))
        case measure => omega
        case rel => exact ⟨i + 1, P, A2, c2, by omega, Nat.le_refl _, rfl, by go_num, by omega, ⟨fun b => by rw [HTK.out b, HPM.out b]; have h := HYA.out; simp [h]⟩, HO2, BN⟩
      ·have hlk' : ¬ (k : Int) < (y.f1.length : Int) := by omega
       rw [show y.f1.take k = y.f1 from List.take_of_length_le (by omega)] at HPM
       go_wp2
       have HK : Aside0 (∀ W W1, Below W.heap.size W W1 → (W.cell? ⟨w1.heap.size, 0, none⟩ = some (.string a.f0) ∧ W.cell? ⟨w1.heap.size, 1, none⟩ = some (.string a.f1) ∧ W.cell? (ad.add (i * 3)) = some (.string y.f0.f0) ∧ W.cell? ⟨(ad.add (i * 3)).block, (ad.add (i * 3)).off + 1, none⟩ = some (.string y.f0.f1) ∧ W.cell? ⟨(ad.add (i * 3)).block, (ad.add (i * 3)).off + 2, none⟩ = some (.slice Q0 y.f1.length qc0) ∧ Below w6.heap.size w6 W) → (W1.cell? ⟨w1.heap.size, 0, none⟩ = some (.string a.f0) ∧ W1.cell? ⟨w1.heap.size, 1, none⟩ = some (.string a.f1) ∧ W1.cell? (ad.add (i * 3)) = some (.string y.f0.f0) ∧ W1.cell? ⟨(ad.add (i * 3)).block, (ad.add (i * 3)).off + 1, none⟩ = some (.string y.f0.f1) ∧ W1.cell? ⟨(ad.add (i * 3)).block, (ad.add (i * 3)).off + 2, none⟩ = some (.slice Q0 y.f1.length qc0) ∧ Below w6.heap.size w6 W1)) := ⟨fun W W1 hb h => ⟨(hb.cell (World.block_lt_of_cell? W _ (h.1))).trans (h.1), (hb.cell (World.block_lt_of_cell? W _ (h.2.1))).trans (h.2.1), (hb.cell (World.block_lt_of_cell? W _ (h.2.2.1))).trans (h.2.2.1), (hb.cell (World.block_lt_of_cell? W _ (h.2.2.2.1))).trans (h.2.2.2.1), (hb.cell (World.block_lt_of_cell? W _ (h.2.2.2.2.1))).trans (h.2.2.2.2.1), bel_then (h.2.2.2.2.2) hb⟩⟩
       refine wp_region_held_drew (S := (fun W => W.cell? ⟨w1.heap.size, 0, none⟩ = some (.string a.f0) ∧ W.cell? ⟨w1.heap.size, 1, none⟩ = some (.string a.f1) ∧ W.cell? (ad.add (i * 3)) = some (.string y.f0.f0) ∧ W.cell? ⟨(ad.add (i * 3)).block, (ad.add (i * 3)).off + 1, none⟩ = some (.string y.f0.f1) ∧ W.cell? ⟨(ad.add (i * 3)).block, (ad.add (i * 3)).off + 2, none⟩ = some (.slice Q0 y.f1.length qc0) ∧ Below w6.heap.size w6 W)) (by kernel_rfl) ?s37 (fun hHeld => ?t37)
       case s37 => exact ⟨cF1_0, cF1_1, s0, s1, s2, bel_then BP.out (drew_below0 _)⟩
       generalize hV0 : World.drew wr = V0 at hHeld ⊢
       refine tk 0 ?v38 ?y38 ?r38
       case y38 => intro w_ hSw; (try dsimp only at hSw); go_simp; (try (with_reducible rfl))
       try simp only [Act.put, List.setIfInBounds_toArray, List.set_cons_zero, List.set_cons_succ]
       refine tk 1 ?v39 ?y39 ?r39
       case y39 => intro w_ hSw; (try dsimp only at hSw); go_simp; (try (with_reducible rfl))
       try simp only [Act.put, List.setIfInBounds_toArray, List.set_cons_zero, List.set_cons_succ]
       refine tk 2 ?v40 ?y40 ?r40
       case y40 => intro w_ hSw; (try dsimp only at hSw); go_simp; (try (with_reducible rfl))
       try simp only [Act.put, List.setIfInBounds_toArray, List.set_cons_zero, List.set_cons_succ]
       refine tk 3 ?v41 ?y41 ?r41
       case y41 => intro w_ hSw; (try dsimp only at hSw); go_simp; (try (with_reducible rfl))
       try simp only [Act.put, List.setIfInBounds_toArray, List.set_cons_zero, List.set_cons_succ]
       refine tk 4 ?v42 ?y42 ?r42
       case y42 => intro w_ hSw; (try dsimp only at hSw); go_simp; (try (with_reducible rfl))
       try simp only [Act.put, List.setIfInBounds_toArray, List.set_cons_zero, List.set_cons_succ]
       refine tk 5 ?v43 ?y43 ?r43
       case y43 => intro w_ hSw; (try dsimp only at hSw); go_simp; (try (with_reducible rfl))
       try simp only [Act.put, List.setIfInBounds_toArray, List.set_cons_zero, List.set_cons_succ]
       refine tk 6 ?v44 ?y44 ?r44
       case y44 => intro w_ hSw; (try dsimp only at hSw); go_simp; (try (with_reducible rfl))
       try simp only [Act.put, List.setIfInBounds_toArray, List.set_cons_zero, List.set_cons_succ]
       refine tk 7 ?v45 ?y45 ?r45
       case y45 => intro w_ hSw; (try dsimp only at hSw); go_simp; (try (with_reducible rfl))
       try simp only [Act.put, List.setIfInBounds_toArray, List.set_cons_zero, List.set_cons_succ]
       refine tk 8 ?v46 ?y46 ?r46
       case y46 => intro w_ hSw; (try dsimp only at hSw); go_simp; (try (with_reducible rfl))
       try simp only [Act.put, List.setIfInBounds_toArray, List.set_cons_zero, List.set_cons_succ]
       refine tn 9 ?r47
       try simp only [Act.put, List.setIfInBounds_toArray, List.set_cons_zero, List.set_cons_succ]
       refine tn 10 ?r48
       try simp only [Act.put, List.setIfInBounds_toArray, List.set_cons_zero, List.set_cons_succ]
       refine tn 11 ?r49
       try simp only [Act.put, List.setIfInBounds_toArray, List.set_cons_zero, List.set_cons_succ]
       refine tn 12 ?r50
       try simp only [Act.put, List.setIfInBounds_toArray, List.set_cons_zero, List.set_cons_succ]
       refine tn 13 ?r51
       try simp only [Act.put, List.setIfInBounds_toArray, List.set_cons_zero, List.set_cons_succ]
       refine tn 14 ?r52
       try simp only [Act.put, List.setIfInBounds_toArray, List.set_cons_zero, List.set_cons_succ]
       refine tn 15 ?r53
       try simp only [Act.put, List.setIfInBounds_toArray, List.set_cons_zero, List.set_cons_succ]
       refine tk 16 ?v54 ?y54 ?r54
       case y54 => intro w_ hSw; (try dsimp only at hSw); go_simp; (try (with_reducible rfl))
       try simp only [Act.put, List.setIfInBounds_toArray, List.set_cons_zero, List.set_cons_succ]
       refine wpAnyH_done (by kernel_rfl) ?_ _
       have BN := Aside0.mk hHeld.2.2.2.2.2
       have HO2 := Aside0.mk (show Kd.R kAddr 30 V0 w6.heap.size (fun _ => True) (.slice A2 P.length c2) P from Kd.R_below HO.out (by rw [← hV0]; exact drew_below0 wr))
       clear hHeld HK
       go_wp2
       go_roundg (ys.length - (i + 1))
       case measure => omega
       case rel => exact ⟨i + 1, P, A2, c2, by omega, Nat.le_refl _, rfl, by go_num, by omega, ⟨fun b => by rw [HTK.out b, HPM.out b]; try rfl⟩, HO2, BN⟩
    ·have hlt' : ¬ (i : Int) < (ys.length : Int) := by omega
     have HPQ := Lib.hid (show ∀ b, b ∈ P ↔ b ∈ M from fun b => by rw [HPM.out b, HMM.out b, show ys.take i = ys from List.take_of_length_le (by omega)])
     obtain ⟨wp, ewp⟩ : ∃ W, W = wr := ⟨_, rfl⟩
     subst ewp
     have CP := Aside0.mk (Kd.R_reads' HO.out).2.2
     have CM := Aside0.mk (Kd.C_below RM.out BP.out)
     clear HPM HO RM hforT
     go_wp2
     go_loopg [9, 10, 11] (P.length) (fun g v9 _ _ wr => ∃ i : Nat, i ≤ P.length ∧ P.length - i ≤ g ∧ v9 = .int .i64 (i : Int) ∧ Aside0 (Below wp.heap.size wp wr))
     case atStart => exact ⟨0, Nat.zero_le _, by omega, rfl, ⟨Below.refl _ _⟩⟩
     case round =>
      obtain ⟨i, hi, hg, rfl, BI⟩ := hrel
      by_cases hlt : i < P.length
      ·have hlt' : (i : Int) < (P.length : Int) := by omega
       obtain ⟨ad, e1, p0, p1⟩ := at_Addr CP.out i hlt
       subst e1
       have hmem := (fun b hb => (HPQ.out b).1 hb) _ (getD_mem P zAddr hlt)
       generalize P.getD i zAddr = y at p0 p1 hmem
       have HME := Lib.hid hmem
       have P0 := Lib.hid p0
       have P1 := Lib.hid p1
       have zl := World.block_lt_of_cell? _ _ p0
       clear hmem p0 p1
       go_wp2
       go_loopg [10, 11] (M.length) (fun g v10 v11 wr => ∃ (j : Nat) (b : Bool), j ≤ M.length ∧ M.length - j ≤ g ∧ v10 = .bool b ∧ v11 = .int .i64 (j : Int) ∧ Aside0 (b = decide (y ∈ M.take j)) ∧ Aside0 (Below wp.heap.size wp wr))
       case atStart => exact ⟨0, false, Nat.zero_le _, by omega, rfl, rfl, ⟨by simp⟩, BI⟩
       case round =>
        clear BI
        obtain ⟨j, b, hj, hgj, rfl, rfl, HD, BV⟩ := hrel
        have s0 := (BV.out.cell zl).trans P0.out
        have s1 := (BV.out.cell (World.block_lt_of_cell? _ _ P1.out)).trans P1.out
        by_cases hlj : j < M.length
        ·have hlj' : (j : Int) < (M.length : Int) := by omega
         obtain ⟨ae, e2, t0, t1⟩ := at_Addr (Kd.C_below CM.out BV.out) j hlj
         subst e2
         have hmx : M.take (j + 1) = M.take j ++ [M.getD j zAddr] := take_nextA hlj
         generalize M.getD j zAddr = x at t0 t1 hmx
         have HMX := Lib.hid hmx
         clear hmx
         cases b
         ·have hxy := addr_eq x y
          by_cases hq : x = y
          ·have HQE := Lib.hid hq
           rw [decide_eq_true hq] at hxy
           clear hq
           go_wp2
           repeat (go_quiet (fail); try go_wp2)
           go_roundg (M.length - (j + 1))
           case measure => omega
           case rel => exact ⟨j + 1, _, by omega, Nat.le_refl _, rfl, by go_num, ⟨by rw [HMX.out]; have h := HQE.out; simp [h]⟩, ⟨by first | exact BV.out | exact ⟨BV.out.os, BV.out.tape, BV.out.output, BV.out.size, BV.out.block⟩⟩⟩
          ·have HQE := Lib.hid hq
           rw [decide_eq_false hq] at hxy
           clear hq
           go_wp2
           repeat (go_quiet (fail); try go_wp2)
           go_roundg (M.length - (j + 1))
           case measure => omega
           case rel => exact ⟨j + 1, _, by omega, Nat.le_refl _, rfl, by go_num, ⟨by rw [HMX.out]; have h := HD.out; have h2 := HQE.out; simp at h ⊢; exact ⟨h, fun e => h2 e.symm⟩⟩, ⟨by first | exact BV.out | exact ⟨BV.out.os, BV.out.tape, BV.out.output, BV.out.size, BV.out.block⟩⟩⟩
         ·go_wp2
          repeat (go_quiet (fail); try go_wp2)
          go_roundg (M.length - (j + 1))
          case measure => omega
          case rel => exact ⟨j + 1, _, by omega, Nat.le_refl _, rfl, by go_num, ⟨by rw [HMX.out]; have h := HD.out; simp at h ⊢; exact .inl h⟩, ⟨by first | exact BV.out | exact ⟨BV.out.os, BV.out.tape, BV.out.output, BV.out.size, BV.out.block⟩⟩⟩
        ·have hlj' : ¬ (j : Int) < (M.length : Int) := by omega
         have hd := HD.out
         rw [show M.take j = M from List.take_of_length_le (by omega), decide_eq_true HME.out] at hd
         subst hd
         clear HD
         go_wp2
         go_roundg (P.length - (i + 1))
         case measure => omega
         case rel => exact ⟨i + 1, by omega, Nat.le_refl _, by go_num, BV⟩
      ·have hlt' : ¬ (i : Int) < (P.length : Int) := by omega
       obtain ⟨wn, ewn⟩ : ∃ W, W = wr := ⟨_, rfl⟩
       subst ewn
       have BA := BI
       clear BI
       go_wp2
       go_loopg [12, 13, 14] (M.length) (fun g v12 _ _ wr => ∃ i : Nat, i ≤ M.length ∧ M.length - i ≤ g ∧ v12 = .int .i64 (i : Int) ∧ Aside0 (Below wn.heap.size wn wr))
       case atStart => exact ⟨0, Nat.zero_le _, by omega, rfl, ⟨Below.refl _ _⟩⟩
       case round =>
        obtain ⟨i, hi, hg, rfl, BI⟩ := hrel
        by_cases hlt : i < M.length
        ·have hlt' : (i : Int) < (M.length : Int) := by omega
         obtain ⟨ad, e1, p0, p1⟩ := at_Addr (Kd.C_below CM.out BA.out) i hlt
         subst e1
         have hmem := (fun b hb => (HPQ.out b).2 hb) _ (getD_mem M zAddr hlt)
         generalize M.getD i zAddr = y at p0 p1 hmem
         have HME := Lib.hid hmem
         have P0 := Lib.hid p0
         have P1 := Lib.hid p1
         have zl := World.block_lt_of_cell? _ _ p0
         clear hmem p0 p1
         go_wp2
         go_loopg [13, 14] (P.length) (fun g v13 v14 wr => ∃ (j : Nat) (b : Bool), j ≤ P.length ∧ P.length - j ≤ g ∧ v13 = .bool b ∧ v14 = .int .i64 (j : Int) ∧ Aside0 (b = decide (y ∈ P.take j)) ∧ Aside0 (Below wn.heap.size wn wr))
         case atStart => exact ⟨0, false, Nat.zero_le _, by omega, rfl, rfl, ⟨by simp⟩, BI⟩
         case round =>
          clear BI
          obtain ⟨j, b, hj, hgj, rfl, rfl, HD, BV⟩ := hrel
          have s0 := (BV.out.cell zl).trans P0.out
          have s1 := (BV.out.cell (World.block_lt_of_cell? _ _ P1.out)).trans P1.out
          by_cases hlj : j < P.length
          ·have hlj' : (j : Int) < (P.length : Int) := by omega
           obtain ⟨ae, e2, t0, t1⟩ := at_Addr (Kd.C_below (Kd.C_below CP.out BA.out) BV.out) j hlj
           subst e2
           have hmx : P.take (j + 1) = P.take j ++ [P.getD j zAddr] := take_nextA hlj
           generalize P.getD j zAddr = x at t0 t1 hmx
           have HMX := Lib.hid hmx
           clear hmx
           cases b
           ·have hxy := addr_eq x y
            by_cases hq : x = y
            ·have HQE := Lib.hid hq
             rw [decide_eq_true hq] at hxy
             clear hq
             go_wp2
             repeat (go_quiet (fail); try go_wp2)
             go_roundg (P.length - (j + 1))
             case measure => omega
             case rel => exact ⟨j + 1, _, by omega, Nat.le_refl _, rfl, by go_num, ⟨by rw [HMX.out]; have h := HQE.out; simp [h]⟩, ⟨by first | exact BV.out | exact ⟨BV.out.os, BV.out.tape, BV.out.output, BV.out.size, BV.out.block⟩⟩⟩
            ·have HQE := Lib.hid hq
             rw [decide_eq_false hq] at hxy
             clear hq
             go_wp2
             repeat (go_quiet (fail); try go_wp2)
             go_roundg (P.length - (j + 1))
             case measure => omega
             case rel => exact ⟨j + 1, _, by omega, Nat.le_refl _, rfl, by go_num, ⟨by rw [HMX.out]; have h := HD.out; have h2 := HQE.out; simp at h ⊢; exact ⟨h, fun e => h2 e.symm⟩⟩, ⟨by first | exact BV.out | exact ⟨BV.out.os, BV.out.tape, BV.out.output, BV.out.size, BV.out.block⟩⟩⟩
           ·go_wp2
            repeat (go_quiet (fail); try go_wp2)
            go_roundg (P.length - (j + 1))
            case measure => omega
            case rel => exact ⟨j + 1, _, by omega, Nat.le_refl _, rfl, by go_num, ⟨by rw [HMX.out]; have h := HD.out; simp at h ⊢; exact .inl h⟩, ⟨by first | exact BV.out | exact ⟨BV.out.os, BV.out.tape, BV.out.output, BV.out.size, BV.out.block⟩⟩⟩
          ·have hlj' : ¬ (j : Int) < (P.length : Int) := by omega
           have hd := HD.out
           rw [show P.take j = P from List.take_of_length_le (by omega), decide_eq_true HME.out] at hd
           subst hd
           clear HD
           go_wp2
           go_roundg (M.length - (i + 1))
           case measure => omega
           case rel => exact ⟨i + 1, by omega, Nat.le_refl _, by go_num, BV⟩
        ·have hlt' : ¬ (i : Int) < (M.length : Int) := by omega
         go_wp2
         go_ret
         exact ⟨rfl, BW.out.trans ((bel_then HB.out (bel_then BP.out (bel_then BA.out BI.out))).mono SZ.out)⟩

end Go.Proofs.YticepbgacokbbaaDoor
