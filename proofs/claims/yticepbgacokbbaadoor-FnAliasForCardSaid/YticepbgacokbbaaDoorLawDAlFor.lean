/- The law FnAliasFor, walked. -/
import Derived.Test.YticepbgacokbbaaDoorReg
import Derived.Test.YticepbgacokbbaaDoorDrawAl
import Derived.Test.YticepbgacokbbaaDoorSaAl
import Derived.Test.YticepbgacokbbaaDoorAliasI
import Derived.Test.YticepbgacokbbaaDoorAlSpec
import Derived.Test.YticepbgacokbbaaDoorAlFit
import Derived.Deep.RegionHeld3
namespace Go.Proofs.YticepbgacokbbaaDoor
open Go.RowKit Go.Proofs.YticepbgacokbbaaDoorW.PrintWords
set_option linter.unusedVariables false
set_option linter.unusedSimpArgs false
theorem bounds_u8' {n : Int} (h : (Lit.int .u8 n).wf = true) : 0 ≤ n ∧ n ≤ 255 := by
 simp [Lit.wf, IntKind.min, IntKind.max, IntKind.signed, IntKind.bits] at h
 omega
attribute [local go_sem high] eqA30
set_option maxRecDepth 100000 in
set_option maxHeartbeats 8000000 in
theorem walk_FnAliasFor {w : World} (A : Option Addr) (c : Nat) (xs : List Int) (hr : Kd.C (Kd.int .u8) w A xs.length xs) (hg : xs.length ≤ 9223372036854775807 ∧ ∀ y ∈ xs, (Lit.int .u8 y).wf = true) (hc : xs.length ≤ c) (hG : Glob w) :
  Calls Tryd.prog 5 #[.slice A xs.length c] w fun e w' => e = .returned (.bool true) ∧ Below w.heap.size w w' := by
 by_cases n_code : (1048576 : Int) < (xs.length : Int)
 ·generalize xs.length = L at n_code
  go_enter Tryd.func5, Tryd.ntmps5
  go_wp2
  go_ret
  exact ⟨rfl, Below.refl _ _⟩
 have hd := drawAliasFor_any A c xs w ⟨by omega, fun y hy => by have := bounds_u8' (hg.2 y hy); omega⟩ hc hr
 clear hr hg hc
 generalize xs.length = L at n_code hd
 go_enter Tryd.func5, Tryd.ntmps5
 go_wp2_with fail
 refine Calls.mono hd ?_
 rintro e w1 ⟨ys, B, d, a, rfl, hs, ha, rr, b1⟩
 have HG := Lib.hid (hG.below b1)
 have BW := Lib.hid b1
 have SZ := Lib.hid b1.size
 clear hd hG b1
 have CR := Aside0.mk (Kd.R_reads' rr).2.2
 have hys := hs.1
 have hw : ys.length ≤ 1048576 ∧ ∀ x ∈ ys, fitAlias x := ⟨by omega, fun x hx => smallAl_fit (by omega) (hs.2 x hx)⟩
 have hok := fun W (hW : Below w1.heap.size w1 W) => aliasOk_any B d ys W hw (Kd.C_below CR.out hW) (HG.out.below hW)
 have hfa : fitAddr a := ⟨by have := ha.1; omega, by have := ha.2; omega⟩
 have hfor := fun W (hW : Below w1.heap.size w1 W) => aliasFor_any B d ys a W hw hfa (Kd.C_below CR.out hW) (HG.out.below hW)
 have hspec := fun W (hW : Below w1.heap.size w1 W) => specAliasFor_any B d ys a W hw hfa (Kd.C_below CR.out hW)
 have hst := fun W (hW : Below w1.heap.size w1 W) (b : SAddr) => saStands_any B d ys b W (Kd.C_below CR.out hW) (by omega)
 obtain ⟨M, eM⟩ : ∃ M, M = aliasFor ys a := ⟨_, rfl⟩
 simp only [← eM] at hfor hspec
 have hml : M.length ≤ 1048576 := by rw [eM]; exact (aliasFor_fit hw hfa).1
 have HM := Lib.hid eM
 clear eM
 obtain ⟨q, hq⟩ : ∃ q, q = aliasOk ys := ⟨_, rfl⟩
 have HQ := Lib.hid hq.symm
 have hsok := fun W (hW : Below w1.heap.size w1 W) => specAliasOk_any B d ys W hw (Kd.C_below CR.out hW)
 have haok := fun W (hW : Below w1.heap.size w1 W) => AddrOk_any a.f0 a.f1 W (by have := ha.1; omega) (by have := ha.2; omega) (HG.out.below hW)
 simp only [← hq] at hok hsok
 obtain ⟨q2, hq2⟩ : ∃ q2, q2 = addr a.f0.data.toList a.f1.data.toList := ⟨_, rfl⟩
 simp only [← hq2] at haok
 have HQ2 := Lib.hid hq2.symm
 clear hq hq2 hs ha rr hw hfa
 go_wp2_with fail
 obtain ⟨W0, hW0⟩ : ∃ W, W = w1.alloc (.cells #[.string a.f0, .string a.f1] 30) := ⟨_, rfl⟩
 rw [← hW0]
 have HB : Aside0 (Below w1.heap.size w1 W0) := ⟨by rw [hW0]; exact bel_alloc (Below.refl _ _) _⟩
 have F1 : Aside0 (W0.heap[w1.heap.size]? = some (.cells #[.string a.f0, .string a.f1] 30 (0, 0))) := ⟨by rw [hW0]; exact blk_new _ _⟩
 clear hW0
 have cF1_0 : W0.cell? ⟨w1.heap.size, 0, none⟩ = some (.string a.f0) := clq F1.out 0 rfl
 have cF1_1 : W0.cell? ⟨w1.heap.size, 1, none⟩ = some (.string a.f1) := clq F1.out 1 rfl
 go_wp2_with fail
 refine Calls.mono (hfor W0 HB.out) ?_
 rintro e w2 ⟨B2, d2, rfl, hR_, b_⟩
 clear cF1_0 cF1_1
 replace F1 := Aside0.mk (below_blk F1.out b_)
 replace HB := Aside0.mk (bel_then HB.out b_)
 clear b_
 have cF1_0 : w2.cell? ⟨w1.heap.size, 0, none⟩ = some (.string a.f0) := clq F1.out 0 rfl
 have cF1_1 : w2.cell? ⟨w1.heap.size, 1, none⟩ = some (.string a.f1) := clq F1.out 1 rfl
 have RM := Aside0.mk (Kd.R_reads' hR_).2.2
 clear hR_
 go_wp2_with fail
 refine Calls.mono (hspec w2 HB.out) ?_
 rintro e w3 ⟨B3, d3, rfl, hR_, b_⟩
 clear cF1_0 cF1_1
 replace F1 := Aside0.mk (below_blk F1.out b_)
 replace RM := Aside0.mk (Kd.C_below RM.out b_)
 replace HB := Aside0.mk (bel_then HB.out b_)
 clear b_
 have cF1_0 : w3.cell? ⟨w1.heap.size, 0, none⟩ = some (.string a.f0) := clq F1.out 0 rfl
 have cF1_1 : w3.cell? ⟨w1.heap.size, 1, none⟩ = some (.string a.f1) := clq F1.out 1 rfl
 have RS := Aside0.mk (Kd.R_reads' hR_).2.2
 clear hR_
 go_wp2_with fail
 refine Calls.mono (saAddrs_any B2 d2 B3 d3 M w3 hml RM.out RS.out) ?_
 rintro e w4 ⟨rfl, b_⟩
 clear cF1_0 cF1_1
 replace F1 := Aside0.mk (below_blk F1.out b_)
 replace RM := Aside0.mk (Kd.C_below RM.out b_)
 replace RS := Aside0.mk (Kd.C_below RS.out b_)
 replace HB := Aside0.mk (bel_then HB.out b_)
 clear b_
 have cF1_0 : w4.cell? ⟨w1.heap.size, 0, none⟩ = some (.string a.f0) := clq F1.out 0 rfl
 have cF1_1 : w4.cell? ⟨w1.heap.size, 1, none⟩ = some (.string a.f1) := clq F1.out 1 rfl
 clear RS
 clear hfor
 cases q
 ·go_wp2_with fail
  refine Calls.mono (hok w4 HB.out) ?_
  rintro e w5 ⟨rfl, b_⟩
  clear cF1_0 cF1_1
  replace F1 := Aside0.mk (below_blk F1.out b_)
  replace RM := Aside0.mk (Kd.C_below RM.out b_)
  replace HB := Aside0.mk (bel_then HB.out b_)
  clear b_
  have cF1_0 : w5.cell? ⟨w1.heap.size, 0, none⟩ = some (.string a.f0) := clq F1.out 0 rfl
  have cF1_1 : w5.cell? ⟨w1.heap.size, 1, none⟩ = some (.string a.f1) := clq F1.out 1 rfl
  go_wp2_with fail
  refine Calls.mono (hsok w5 HB.out) ?_
  rintro e w6 ⟨rfl, b_⟩
  clear cF1_0 cF1_1
  replace F1 := Aside0.mk (below_blk F1.out b_)
  replace RM := Aside0.mk (Kd.C_below RM.out b_)
  replace HB := Aside0.mk (bel_then HB.out b_)
  clear b_
  have cF1_0 : w6.cell? ⟨w1.heap.size, 0, none⟩ = some (.string a.f0) := clq F1.out 0 rfl
  have cF1_1 : w6.cell? ⟨w1.heap.size, 1, none⟩ = some (.string a.f1) := clq F1.out 1 rfl
  go_wp2_with fail
  refine Calls.mono (hok w6 HB.out) ?_
  rintro e w7 ⟨rfl, b_⟩
  clear cF1_0 cF1_1
  replace F1 := Aside0.mk (below_blk F1.out b_)
  replace RM := Aside0.mk (Kd.C_below RM.out b_)
  replace HB := Aside0.mk (bel_then HB.out b_)
  clear b_
  have cF1_0 : w7.cell? ⟨w1.heap.size, 0, none⟩ = some (.string a.f0) := clq F1.out 0 rfl
  have cF1_1 : w7.cell? ⟨w1.heap.size, 1, none⟩ = some (.string a.f1) := clq F1.out 1 rfl
  go_wp2_with fail
  refine Calls.mono (hspec w7 HB.out) ?_
  rintro e u1 ⟨B9, d9, rfl, hR_, b_⟩
  clear cF1_0 cF1_1
  replace F1 := Aside0.mk (below_blk F1.out b_)
  replace RM := Aside0.mk (Kd.C_below RM.out b_)
  replace HB := Aside0.mk (bel_then HB.out b_)
  clear b_
  have cF1_0 : u1.cell? ⟨w1.heap.size, 0, none⟩ = some (.string a.f0) := clq F1.out 0 rfl
  have cF1_1 : u1.cell? ⟨w1.heap.size, 1, none⟩ = some (.string a.f1) := clq F1.out 1 rfl
  have RS := Aside0.mk (Kd.R_reads' hR_).2.2
  clear hR_
  go_wp2_with fail
  refine Calls.mono (saAddrs_any B2 d2 B9 d9 M u1 hml RM.out RS.out) ?_
  rintro e u2 ⟨rfl, b_⟩
  clear cF1_0 cF1_1
  replace F1 := Aside0.mk (below_blk F1.out b_)
  replace RM := Aside0.mk (Kd.C_below RM.out b_)
  replace RS := Aside0.mk (Kd.C_below RS.out b_)
  replace HB := Aside0.mk (bel_then HB.out b_)
  clear b_
  have cF1_0 : u2.cell? ⟨w1.heap.size, 0, none⟩ = some (.string a.f0) := clq F1.out 0 rfl
  have cF1_1 : u2.cell? ⟨w1.heap.size, 1, none⟩ = some (.string a.f1) := clq F1.out 1 rfl
  clear RS
  go_wp2_with fail
  refine Calls.mono (hok u2 HB.out) ?_
  rintro e u3 ⟨rfl, b_⟩
  clear cF1_0 cF1_1
  replace F1 := Aside0.mk (below_blk F1.out b_)
  replace RM := Aside0.mk (Kd.C_below RM.out b_)
  replace HB := Aside0.mk (bel_then HB.out b_)
  clear b_
  have cF1_0 : u3.cell? ⟨w1.heap.size, 0, none⟩ = some (.string a.f0) := clq F1.out 0 rfl
  have cF1_1 : u3.cell? ⟨w1.heap.size, 1, none⟩ = some (.string a.f1) := clq F1.out 1 rfl
  go_wp2_with fail
  refine Calls.mono (hsok u3 HB.out) ?_
  rintro e u4 ⟨rfl, b_⟩
  clear cF1_0 cF1_1
  replace F1 := Aside0.mk (below_blk F1.out b_)
  replace RM := Aside0.mk (Kd.C_below RM.out b_)
  replace HB := Aside0.mk (bel_then HB.out b_)
  clear b_
  have cF1_0 : u4.cell? ⟨w1.heap.size, 0, none⟩ = some (.string a.f0) := clq F1.out 0 rfl
  have cF1_1 : u4.cell? ⟨w1.heap.size, 1, none⟩ = some (.string a.f1) := clq F1.out 1 rfl
  go_wp2
  go_ret
  exact ⟨rfl, BW.out.trans (HB.out.mono SZ.out)⟩
 ·go_wp2_with fail
  refine Calls.mono (hok w4 HB.out) ?_
  rintro e w5 ⟨rfl, b_⟩
  clear cF1_0 cF1_1
  replace F1 := Aside0.mk (below_blk F1.out b_)
  replace RM := Aside0.mk (Kd.C_below RM.out b_)
  replace HB := Aside0.mk (bel_then HB.out b_)
  clear b_
  have cF1_0 : w5.cell? ⟨w1.heap.size, 0, none⟩ = some (.string a.f0) := clq F1.out 0 rfl
  have cF1_1 : w5.cell? ⟨w1.heap.size, 1, none⟩ = some (.string a.f1) := clq F1.out 1 rfl
  go_wp2_with fail
  refine Calls.mono (hsok w5 HB.out) ?_
  rintro e w6 ⟨rfl, b_⟩
  clear cF1_0 cF1_1
  replace F1 := Aside0.mk (below_blk F1.out b_)
  replace RM := Aside0.mk (Kd.C_below RM.out b_)
  replace HB := Aside0.mk (bel_then HB.out b_)
  clear b_
  have cF1_0 : w6.cell? ⟨w1.heap.size, 0, none⟩ = some (.string a.f0) := clq F1.out 0 rfl
  have cF1_1 : w6.cell? ⟨w1.heap.size, 1, none⟩ = some (.string a.f1) := clq F1.out 1 rfl
  go_wp2_with fail
  refine Calls.mono (hok w6 HB.out) ?_
  rintro e w7 ⟨rfl, b_⟩
  clear cF1_0 cF1_1
  replace F1 := Aside0.mk (below_blk F1.out b_)
  replace RM := Aside0.mk (Kd.C_below RM.out b_)
  replace HB := Aside0.mk (bel_then HB.out b_)
  clear b_
  have cF1_0 : w7.cell? ⟨w1.heap.size, 0, none⟩ = some (.string a.f0) := clq F1.out 0 rfl
  have cF1_1 : w7.cell? ⟨w1.heap.size, 1, none⟩ = some (.string a.f1) := clq F1.out 1 rfl
  cases q2
  ·go_wp2_with fail
   refine Calls.mono (haok w7 HB.out) ?_
   rintro e w8 ⟨rfl, b_⟩
   clear cF1_0 cF1_1
   replace F1 := Aside0.mk (below_blk F1.out b_)
   replace RM := Aside0.mk (Kd.C_below RM.out b_)
   replace HB := Aside0.mk (bel_then HB.out b_)
   clear b_
   have cF1_0 : w8.cell? ⟨w1.heap.size, 0, none⟩ = some (.string a.f0) := clq F1.out 0 rfl
   have cF1_1 : w8.cell? ⟨w1.heap.size, 1, none⟩ = some (.string a.f1) := clq F1.out 1 rfl
   go_wp2_with fail
   refine Calls.mono (hspec w8 HB.out) ?_
   rintro e u1 ⟨B9, d9, rfl, hR_, b_⟩
   clear cF1_0 cF1_1
   replace F1 := Aside0.mk (below_blk F1.out b_)
   replace RM := Aside0.mk (Kd.C_below RM.out b_)
   replace HB := Aside0.mk (bel_then HB.out b_)
   clear b_
   have cF1_0 : u1.cell? ⟨w1.heap.size, 0, none⟩ = some (.string a.f0) := clq F1.out 0 rfl
   have cF1_1 : u1.cell? ⟨w1.heap.size, 1, none⟩ = some (.string a.f1) := clq F1.out 1 rfl
   have RS := Aside0.mk (Kd.R_reads' hR_).2.2
   clear hR_
   go_wp2_with fail
   refine Calls.mono (saAddrs_any B2 d2 B9 d9 M u1 hml RM.out RS.out) ?_
   rintro e u2 ⟨rfl, b_⟩
   clear cF1_0 cF1_1
   replace F1 := Aside0.mk (below_blk F1.out b_)
   replace RM := Aside0.mk (Kd.C_below RM.out b_)
   replace RS := Aside0.mk (Kd.C_below RS.out b_)
   replace HB := Aside0.mk (bel_then HB.out b_)
   clear b_
   have cF1_0 : u2.cell? ⟨w1.heap.size, 0, none⟩ = some (.string a.f0) := clq F1.out 0 rfl
   have cF1_1 : u2.cell? ⟨w1.heap.size, 1, none⟩ = some (.string a.f1) := clq F1.out 1 rfl
   clear RS
   go_wp2_with fail
   refine Calls.mono (hok u2 HB.out) ?_
   rintro e u3 ⟨rfl, b_⟩
   clear cF1_0 cF1_1
   replace F1 := Aside0.mk (below_blk F1.out b_)
   replace RM := Aside0.mk (Kd.C_below RM.out b_)
   replace HB := Aside0.mk (bel_then HB.out b_)
   clear b_
   have cF1_0 : u3.cell? ⟨w1.heap.size, 0, none⟩ = some (.string a.f0) := clq F1.out 0 rfl
   have cF1_1 : u3.cell? ⟨w1.heap.size, 1, none⟩ = some (.string a.f1) := clq F1.out 1 rfl
   go_wp2_with fail
   refine Calls.mono (hsok u3 HB.out) ?_
   rintro e u4 ⟨rfl, b_⟩
   clear cF1_0 cF1_1
   replace F1 := Aside0.mk (below_blk F1.out b_)
   replace RM := Aside0.mk (Kd.C_below RM.out b_)
   replace HB := Aside0.mk (bel_then HB.out b_)
   clear b_
   have cF1_0 : u4.cell? ⟨w1.heap.size, 0, none⟩ = some (.string a.f0) := clq F1.out 0 rfl
   have cF1_1 : u4.cell? ⟨w1.heap.size, 1, none⟩ = some (.string a.f1) := clq F1.out 1 rfl
   go_wp2
   go_ret
   exact ⟨rfl, BW.out.trans (HB.out.mono SZ.out)⟩
  ·go_wp2_with fail
   refine Calls.mono (haok w7 HB.out) ?_
   rintro e w8 ⟨rfl, b_⟩
   clear cF1_0 cF1_1
   replace F1 := Aside0.mk (below_blk F1.out b_)
   replace RM := Aside0.mk (Kd.C_below RM.out b_)
   replace HB := Aside0.mk (bel_then HB.out b_)
   clear b_
   have cF1_0 : w8.cell? ⟨w1.heap.size, 0, none⟩ = some (.string a.f0) := clq F1.out 0 rfl
   have cF1_1 : w8.cell? ⟨w1.heap.size, 1, none⟩ = some (.string a.f1) := clq F1.out 1 rfl
   have hM : M = ends ys [a] := by have h1 := HQ.out; have h2 : addrS a = true := HQ2.out; rw [HM.out]; unfold aliasFor; rw [h1, h2]; rfl
   have hnd := rise_nodup (ends_rise ys [a])
   rw [← hM] at hnd
   have HNO := Lib.hid (show ∀ i, i < M.length → isAl ys (M.getD i zAddr) = false from fun i hi => by have h := getD_mem M zAddr hi; rw [hM] at h; rw [hM]; exact ((mem_ends _ _ _).1 h).2)
   have HNE := Lib.hid (show ∀ i, 0 < i → i < M.length → M.getD i zAddr ≠ M.getD (i - 1) zAddr from fun i h0 hi e => by
    have h := List.pairwise_iff_getElem.1 hnd (i - 1) i (by omega) hi (by omega)
    rw [List.getD, List.getD, List.getElem?_eq_getElem hi, List.getElem?_eq_getElem (show i - 1 < M.length by omega)] at e
    exact h e.symm)
   have HS1 := Lib.hid (show isAl ys a = false → M = [a] from fun h => by rw [hM]; exact ends_self h)
   clear hM hnd hok hsok haok hspec
   go_wp2
   go_loopg [6] (M.length) (fun g v6 wr => ∃ i : Nat, i ≤ M.length ∧ M.length - i ≤ g ∧ v6 = .int .i64 (i : Int) ∧ Aside0 (Below w8.heap.size w8 wr))
   case atStart => exact ⟨0, Nat.zero_le _, by omega, rfl, ⟨Below.refl _ _⟩⟩
   case round =>
    clear cF1_0 cF1_1
    obtain ⟨i, hi, hg, rfl, BV⟩ := hrel
    by_cases hlt : i < M.length
    ·have hlt' : (i : Int) < (M.length : Int) := by omega
     obtain ⟨ad, e1, p0, p1⟩ := at_Addr (Kd.C_below RM.out BV.out) i hlt
     subst e1
     have hno := HNO.out i hlt
     by_cases hi0 : 0 < i
     ·have hw1 : IntKind.i64.wrap ((i : Int) - 1) = ((i - 1 : Nat) : Int) := by rw [IntWalk.i64_in _ (by omega)]; omega
      have hi1 : (0 : Int) < (i : Int) := by omega
      have hi2 : i - 1 < M.length := by omega
      obtain ⟨ad2, e3, t0, t1⟩ := at_Addr (Kd.C_below RM.out BV.out) (i - 1) (by omega)
      obtain rfl := Option.some.inj e3
      have hne := HNE.out i hi0 hlt
      generalize M.getD i zAddr = y at p0 p1 hno hne
      generalize M.getD (i - 1) zAddr = x at t0 t1 hne
      have hxy := addr_eq y x
      rw [decide_eq_false hne] at hxy
      have hs1 := fun W hW => hst W hW y
      simp only [hno] at hs1
      clear hno hne e3
      go_wp2
      have HK : Aside0 (∀ W W1, Below W.heap.size W W1 → (W.cell? (ad.add (i * 2)) = some (.string y.f0) ∧ W.cell? ⟨(ad.add (i * 2)).block, (ad.add (i * 2)).off + 1, none⟩ = some (.string y.f1) ∧ W.cell? (ad.add ((i - 1) * 2)) = some (.string x.f0) ∧ W.cell? ⟨(ad.add ((i - 1) * 2)).block, (ad.add ((i - 1) * 2)).off + 1, none⟩ = some (.string x.f1) ∧ Below w8.heap.size w8 W) → (W1.cell? (ad.add (i * 2)) = some (.string y.f0) ∧ W1.cell? ⟨(ad.add (i * 2)).block, (ad.add (i * 2)).off + 1, none⟩ = some (.string y.f1) ∧ W1.cell? (ad.add ((i - 1) * 2)) = some (.string x.f0) ∧ W1.cell? ⟨(ad.add ((i - 1) * 2)).block, (ad.add ((i - 1) * 2)).off + 1, none⟩ = some (.string x.f1) ∧ Below w8.heap.size w8 W1)) := ⟨fun W W1 hb h => ⟨(hb.cell (World.block_lt_of_cell? W _ (h.1))).trans (h.1), (hb.cell (World.block_lt_of_cell? W _ (h.2.1))).trans (h.2.1), (hb.cell (World.block_lt_of_cell? W _ (h.2.2.1))).trans (h.2.2.1), (hb.cell (World.block_lt_of_cell? W _ (h.2.2.2.1))).trans (h.2.2.2.1), bel_then (h.2.2.2.2) hb⟩⟩
      refine wp_region_held_drew (S := (fun W => W.cell? (ad.add (i * 2)) = some (.string y.f0) ∧ W.cell? ⟨(ad.add (i * 2)).block, (ad.add (i * 2)).off + 1, none⟩ = some (.string y.f1) ∧ W.cell? (ad.add ((i - 1) * 2)) = some (.string x.f0) ∧ W.cell? ⟨(ad.add ((i - 1) * 2)).block, (ad.add ((i - 1) * 2)).off + 1, none⟩ = some (.string x.f1) ∧ Below w8.heap.size w8 W)) (by kernel_rfl) ?s1 (fun hHeld => ?t1)
      case s1 => exact ⟨p0, p1, t0, t1, bel_then BV.out (drew_below0 _)⟩
      generalize World.drew _ = V0 at hHeld ⊢
      refine tk 0 ?v2 ?y2 ?r2
      case y2 => intro w_ hSw; (try dsimp only at hSw); go_simp; (try (with_reducible rfl))
      try simp only [Act.put, List.setIfInBounds_toArray, List.set_cons_zero, List.set_cons_succ]
      refine tk 1 ?v3 ?y3 ?r3
      case y3 => intro w_ hSw; (try dsimp only at hSw); go_simp; (try (with_reducible rfl))
      try simp only [Act.put, List.setIfInBounds_toArray, List.set_cons_zero, List.set_cons_succ]
      refine tk 2 ?v4 ?y4 ?r4
      case y4 => intro w_ hSw; (try dsimp only at hSw); go_simp; (try (with_reducible rfl))
      try simp only [Act.put, List.setIfInBounds_toArray, List.set_cons_zero, List.set_cons_succ]
      refine tk 3 ?v5 ?y5 ?r5
      case y5 => intro w_ hSw; (try dsimp only at hSw); go_simp; (try (with_reducible rfl))
      try simp only [Act.put, List.setIfInBounds_toArray, List.set_cons_zero, List.set_cons_succ]
      refine tk 4 ?v6 ?y6 ?r6
      case y6 => intro w_ hSw; (try dsimp only at hSw); go_simp; (try (with_reducible rfl))
      try simp only [Act.put, List.setIfInBounds_toArray, List.set_cons_zero, List.set_cons_succ]
      refine rdy (rs := [5]) ?_
      refine rc (fun K hK => ?k7) AllReadyH.nil
      case k7 =>
       go_simp
       refine Calls.mono (hs1 V0 (bel_then HB.out (hHeld.2.2.2.2))) ?_
       rintro e V5 ⟨rfl, b5⟩
       refine hK.out _ _ ?h8 (fun hHeld => ?j8)
       case h8 => exact HK.out _ _ b5 hHeld
       clear hK K
       try simp only [Act.put, List.setIfInBounds_toArray, List.set_cons_zero, List.set_cons_succ]
       refine tk 6 ?v9 ?y9 ?r9
       case y9 => intro w_ hSw; (try dsimp only at hSw); go_simp; (try (with_reducible rfl))
       try simp only [Act.put, List.setIfInBounds_toArray, List.set_cons_zero, List.set_cons_succ]
       refine tk 7 ?v10 ?y10 ?r10
       case y10 => intro w_ hSw; (try dsimp only at hSw); go_simp; (try (with_reducible rfl))
       try simp only [Act.put, List.setIfInBounds_toArray, List.set_cons_zero, List.set_cons_succ]
       refine tk 8 ?v11 ?y11 ?r11
       case y11 => intro w_ hSw; (try dsimp only at hSw); go_simp; (try (with_reducible rfl))
       try simp only [Act.put, List.setIfInBounds_toArray, List.set_cons_zero, List.set_cons_succ]
       refine tk 9 ?v12 ?y12 ?r12
       case y12 => intro w_ hSw; (try dsimp only at hSw); go_simp; (try (with_reducible rfl))
       try simp only [Act.put, List.setIfInBounds_toArray, List.set_cons_zero, List.set_cons_succ]
       refine tk 10 ?v13 ?y13 ?r13
       case y13 => intro w_ hSw; (try dsimp only at hSw); go_simp; (try (with_reducible rfl))
       try simp only [Act.put, List.setIfInBounds_toArray, List.set_cons_zero, List.set_cons_succ]
       refine tk 11 ?v14 ?y14 ?r14
       case y14 => intro w_ hSw; (try dsimp only at hSw); go_simp; (try (with_reducible rfl))
       try simp only [Act.put, List.setIfInBounds_toArray, List.set_cons_zero, List.set_cons_succ]
       refine tk 12 ?v15 ?y15 ?r15
       case y15 => intro w_ hSw; (try dsimp only at hSw); go_simp; (try (with_reducible rfl))
       try simp only [Act.put, List.setIfInBounds_toArray, List.set_cons_zero, List.set_cons_succ]
       refine tk 13 ?v16 ?y16 ?r16
       case y16 => intro w_ hSw; (try dsimp only at hSw); go_simp; (try (with_reducible rfl))
       try simp only [Act.put, List.setIfInBounds_toArray, List.set_cons_zero, List.set_cons_succ]
       refine tk 14 ?v17 ?y17 ?r17
       case y17 => intro w_ hSw; (try dsimp only at hSw); go_simp; (try (with_reducible rfl))
       try simp only [Act.put, List.setIfInBounds_toArray, List.set_cons_zero, List.set_cons_succ]
       refine tk 15 ?v18 ?y18 ?r18
       case y18 => intro w_ hSw; (try dsimp only at hSw); go_simp; (try (with_reducible rfl))
       try simp only [Act.put, List.setIfInBounds_toArray, List.set_cons_zero, List.set_cons_succ]
       refine tk 16 ?v19 ?y19 ?r19
       case y19 => intro w_ hSw; (try dsimp only at hSw); go_simp; (try (with_reducible rfl))
       try simp only [Act.put, List.setIfInBounds_toArray, List.set_cons_zero, List.set_cons_succ]
       refine tk 17 ?v20 ?y20 ?r20
       case y20 => intro w_ hSw; (try dsimp only at hSw); go_simp; (try (with_reducible rfl))
       try simp only [Act.put, List.setIfInBounds_toArray, List.set_cons_zero, List.set_cons_succ]
       refine tk 18 ?v21 ?y21 ?r21
       case y21 => intro w_ hSw; (try dsimp only at hSw); go_simp; (try (with_reducible rfl))
       try simp only [Act.put, List.setIfInBounds_toArray, List.set_cons_zero, List.set_cons_succ]
       refine tk 19 ?v22 ?y22 ?r22
       case y22 => intro w_ hSw; (try dsimp only at hSw); go_simp; (try (with_reducible rfl))
       try simp only [Act.put, List.setIfInBounds_toArray, List.set_cons_zero, List.set_cons_succ]
       refine tk 20 ?v23 ?y23 ?r23
       case y23 => intro w_ hSw; (try dsimp only at hSw); go_simp; (try (with_reducible rfl))
       try simp only [Act.put, List.setIfInBounds_toArray, List.set_cons_zero, List.set_cons_succ]
       refine tk 21 ?v24 ?y24 ?r24
       case y24 => intro w_ hSw; (try dsimp only at hSw); go_simp; (try (with_reducible rfl))
       try simp only [Act.put, List.setIfInBounds_toArray, List.set_cons_zero, List.set_cons_succ]
       refine wpAnyH_done (by kernel_rfl) ?_ _
       have BN := hHeld.2.2.2.2
       clear hHeld HK p0 p1 t0 t1
       go_wp2
       go_roundg (M.length - (i + 1))
       case measure => omega
       case rel => exact ⟨i + 1, by omega, Nat.le_refl _, by go_num, ⟨BN⟩⟩
     ·have hi1 : ¬ (0 : Int) < (i : Int) := by omega
      generalize M.getD i zAddr = y at p0 p1 hno
      have hs1 := fun W hW => hst W hW y
      simp only [hno] at hs1
      clear hno
      go_wp2
      have HK : Aside0 (∀ W W1, Below W.heap.size W W1 → (W.cell? (ad.add (i * 2)) = some (.string y.f0) ∧ W.cell? ⟨(ad.add (i * 2)).block, (ad.add (i * 2)).off + 1, none⟩ = some (.string y.f1) ∧ Below w8.heap.size w8 W) → (W1.cell? (ad.add (i * 2)) = some (.string y.f0) ∧ W1.cell? ⟨(ad.add (i * 2)).block, (ad.add (i * 2)).off + 1, none⟩ = some (.string y.f1) ∧ Below w8.heap.size w8 W1)) := ⟨fun W W1 hb h => ⟨(hb.cell (World.block_lt_of_cell? W _ (h.1))).trans (h.1), (hb.cell (World.block_lt_of_cell? W _ (h.2.1))).trans (h.2.1), bel_then (h.2.2) hb⟩⟩
      refine wp_region_held_drew (S := (fun W => W.cell? (ad.add (i * 2)) = some (.string y.f0) ∧ W.cell? ⟨(ad.add (i * 2)).block, (ad.add (i * 2)).off + 1, none⟩ = some (.string y.f1) ∧ Below w8.heap.size w8 W)) (by kernel_rfl) ?s25 (fun hHeld => ?t25)
      case s25 => exact ⟨p0, p1, bel_then BV.out (drew_below0 _)⟩
      generalize World.drew _ = V0 at hHeld ⊢
      refine tk 0 ?v26 ?y26 ?r26
      case y26 => intro w_ hSw; (try dsimp only at hSw); go_simp; (try (with_reducible rfl))
      try simp only [Act.put, List.setIfInBounds_toArray, List.set_cons_zero, List.set_cons_succ]
      refine tk 1 ?v27 ?y27 ?r27
      case y27 => intro w_ hSw; (try dsimp only at hSw); go_simp; (try (with_reducible rfl))
      try simp only [Act.put, List.setIfInBounds_toArray, List.set_cons_zero, List.set_cons_succ]
      refine tk 2 ?v28 ?y28 ?r28
      case y28 => intro w_ hSw; (try dsimp only at hSw); go_simp; (try (with_reducible rfl))
      try simp only [Act.put, List.setIfInBounds_toArray, List.set_cons_zero, List.set_cons_succ]
      refine tk 3 ?v29 ?y29 ?r29
      case y29 => intro w_ hSw; (try dsimp only at hSw); go_simp; (try (with_reducible rfl))
      try simp only [Act.put, List.setIfInBounds_toArray, List.set_cons_zero, List.set_cons_succ]
      refine tk 4 ?v30 ?y30 ?r30
      case y30 => intro w_ hSw; (try dsimp only at hSw); go_simp; (try (with_reducible rfl))
      try simp only [Act.put, List.setIfInBounds_toArray, List.set_cons_zero, List.set_cons_succ]
      refine rdy (rs := [5]) ?_
      refine rc (fun K hK => ?k31) AllReadyH.nil
      case k31 =>
       go_simp
       refine Calls.mono (hs1 V0 (bel_then HB.out (hHeld.2.2))) ?_
       rintro e V5 ⟨rfl, b5⟩
       refine hK.out _ _ ?h32 (fun hHeld => ?j32)
       case h32 => exact HK.out _ _ b5 hHeld
       clear hK K
       try simp only [Act.put, List.setIfInBounds_toArray, List.set_cons_zero, List.set_cons_succ]
       refine tk 6 ?v33 ?y33 ?r33
       case y33 => intro w_ hSw; (try dsimp only at hSw); go_simp; (try (with_reducible rfl))
       try simp only [Act.put, List.setIfInBounds_toArray, List.set_cons_zero, List.set_cons_succ]
       refine tk 7 ?v34 ?y34 ?r34
       case y34 => intro w_ hSw; (try dsimp only at hSw); go_simp; (try (with_reducible rfl))
       try simp only [Act.put, List.setIfInBounds_toArray, List.set_cons_zero, List.set_cons_succ]
       refine tk 8 ?v35 ?y35 ?r35
       case y35 => intro w_ hSw; (try dsimp only at hSw); go_simp; (try (with_reducible rfl))
       try simp only [Act.put, List.setIfInBounds_toArray, List.set_cons_zero, List.set_cons_succ]
       refine tk 9 ?v36 ?y36 ?r36
       case y36 => intro w_ hSw; (try dsimp only at hSw); go_simp; (try (with_reducible rfl))
       try simp only [Act.put, List.setIfInBounds_toArray, List.set_cons_zero, List.set_cons_succ]
       refine tn 10 ?r37
       try simp only [Act.put, List.setIfInBounds_toArray, List.set_cons_zero, List.set_cons_succ]
       refine tn 11 ?r38
       try simp only [Act.put, List.setIfInBounds_toArray, List.set_cons_zero, List.set_cons_succ]
       refine tn 12 ?r39
       try simp only [Act.put, List.setIfInBounds_toArray, List.set_cons_zero, List.set_cons_succ]
       refine tn 13 ?r40
       try simp only [Act.put, List.setIfInBounds_toArray, List.set_cons_zero, List.set_cons_succ]
       refine tn 14 ?r41
       try simp only [Act.put, List.setIfInBounds_toArray, List.set_cons_zero, List.set_cons_succ]
       refine tn 15 ?r42
       try simp only [Act.put, List.setIfInBounds_toArray, List.set_cons_zero, List.set_cons_succ]
       refine tn 16 ?r43
       try simp only [Act.put, List.setIfInBounds_toArray, List.set_cons_zero, List.set_cons_succ]
       refine tn 17 ?r44
       try simp only [Act.put, List.setIfInBounds_toArray, List.set_cons_zero, List.set_cons_succ]
       refine tn 18 ?r45
       try simp only [Act.put, List.setIfInBounds_toArray, List.set_cons_zero, List.set_cons_succ]
       refine tn 19 ?r46
       try simp only [Act.put, List.setIfInBounds_toArray, List.set_cons_zero, List.set_cons_succ]
       refine tk 20 ?v47 ?y47 ?r47
       case y47 => intro w_ hSw; (try dsimp only at hSw); go_simp; (try (with_reducible rfl))
       try simp only [Act.put, List.setIfInBounds_toArray, List.set_cons_zero, List.set_cons_succ]
       refine tk 21 ?v48 ?y48 ?r48
       case y48 => intro w_ hSw; (try dsimp only at hSw); go_simp; (try (with_reducible rfl))
       try simp only [Act.put, List.setIfInBounds_toArray, List.set_cons_zero, List.set_cons_succ]
       refine wpAnyH_done (by kernel_rfl) ?_ _
       have BN := hHeld.2.2
       clear hHeld HK p0 p1
       go_wp2
       go_roundg (M.length - (i + 1))
       case measure => omega
       case rel => exact ⟨i + 1, by omega, Nat.le_refl _, by go_num, ⟨BN⟩⟩
    ·have hlt' : ¬ (i : Int) < (M.length : Int) := by omega
     have BV1 := BV.out
     replace F1 := Aside0.mk (below_blk F1.out BV1)
     replace RM := Aside0.mk (Kd.C_below RM.out BV1)
     replace HB := Aside0.mk (bel_then HB.out BV1)
     clear BV1
     have cF1_0 : wr.cell? ⟨w1.heap.size, 0, none⟩ = some (.string a.f0) := clq F1.out 0 rfl
     have cF1_1 : wr.cell? ⟨w1.heap.size, 1, none⟩ = some (.string a.f1) := clq F1.out 1 rfl
     clear BV
     have hsa := fun W hW => hst W hW a
     obtain ⟨b, hb⟩ : ∃ b, b = isAl ys a := ⟨_, rfl⟩
     simp only [← hb] at hsa
     clear hst
     cases b
     ·have hMa := HS1.out hb.symm
      rw [hMa] at RM
      have hl1 : M.length = 1 := by rw [hMa]; rfl
      have hl2 : ((M.length : Int) == 1) = true := by simp [hl1]
      obtain ⟨ad, e1, p0, p1⟩ := at_Addr (n := 1) (xs := [a]) RM.out 0 (by omega)
      subst e1
      have he0 : (a.f0.toList == a.f0.toList) = true := beq_self_eq_true _
      have he1 : (a.f1.toList == a.f1.toList) = true := beq_self_eq_true _
      have p0 : wr.cell? ad = some (.string a.f0) := by simpa [Addr.add_zero'] using p0
      have p1 : wr.cell? ⟨ad.block, ad.off + 1, none⟩ = some (.string a.f1) := by simpa [Addr.add_zero'] using p1
      clear hb hMa RM
      go_wp2
      have HK : Aside0 (∀ W W1, Below W.heap.size W W1 → (W.cell? ⟨w1.heap.size, 0, none⟩ = some (.string a.f0) ∧ W.cell? ⟨w1.heap.size, 1, none⟩ = some (.string a.f1) ∧ W.cell? ad = some (.string a.f0) ∧ W.cell? ⟨ad.block, ad.off + 1, none⟩ = some (.string a.f1) ∧ Below w1.heap.size w1 W) → (W1.cell? ⟨w1.heap.size, 0, none⟩ = some (.string a.f0) ∧ W1.cell? ⟨w1.heap.size, 1, none⟩ = some (.string a.f1) ∧ W1.cell? ad = some (.string a.f0) ∧ W1.cell? ⟨ad.block, ad.off + 1, none⟩ = some (.string a.f1) ∧ Below w1.heap.size w1 W1)) := ⟨fun W W1 hb h => ⟨(hb.cell (World.block_lt_of_cell? W _ (h.1))).trans (h.1), (hb.cell (World.block_lt_of_cell? W _ (h.2.1))).trans (h.2.1), (hb.cell (World.block_lt_of_cell? W _ (h.2.2.1))).trans (h.2.2.1), (hb.cell (World.block_lt_of_cell? W _ (h.2.2.2.1))).trans (h.2.2.2.1), bel_then (h.2.2.2.2) hb⟩⟩
      refine wp_region_held_drew (S := (fun W => W.cell? ⟨w1.heap.size, 0, none⟩ = some (.string a.f0) ∧ W.cell? ⟨w1.heap.size, 1, none⟩ = some (.string a.f1) ∧ W.cell? ad = some (.string a.f0) ∧ W.cell? ⟨ad.block, ad.off + 1, none⟩ = some (.string a.f1) ∧ Below w1.heap.size w1 W)) (by kernel_rfl) ?s67 (fun hHeld => ?t67)
      case s67 => exact ⟨cF1_0, cF1_1, p0, p1, bel_then HB.out (drew_below0 _)⟩
      generalize World.drew _ = V0 at hHeld ⊢
      refine tk 0 ?v68 ?y68 ?r68
      case y68 => intro w_ hSw; (try dsimp only at hSw); go_simp; (try (with_reducible rfl))
      try simp only [Act.put, List.setIfInBounds_toArray, List.set_cons_zero, List.set_cons_succ]
      refine tk 1 ?v69 ?y69 ?r69
      case y69 => intro w_ hSw; (try dsimp only at hSw); go_simp; (try (with_reducible rfl))
      try simp only [Act.put, List.setIfInBounds_toArray, List.set_cons_zero, List.set_cons_succ]
      refine rdy (rs := [2]) ?_
      refine rc (fun K hK => ?k70) AllReadyH.nil
      case k70 =>
       go_simp
       refine Calls.mono (hsa V0 (hHeld.2.2.2.2)) ?_
       rintro e V2 ⟨rfl, b2⟩
       refine hK.out _ _ ?h71 (fun hHeld => ?j71)
       case h71 => exact HK.out _ _ b2 hHeld
       clear hK K
       try simp only [Act.put, List.setIfInBounds_toArray, List.set_cons_zero, List.set_cons_succ]
       refine tk 3 ?v72 ?y72 ?r72
       case y72 => intro w_ hSw; (try dsimp only at hSw); go_simp; (try (with_reducible rfl))
       try simp only [Act.put, List.setIfInBounds_toArray, List.set_cons_zero, List.set_cons_succ]
       refine tk 4 ?v73 ?y73 ?r73
       case y73 => intro w_ hSw; (try dsimp only at hSw); go_simp; (try (with_reducible rfl))
       try simp only [Act.put, List.setIfInBounds_toArray, List.set_cons_zero, List.set_cons_succ]
       refine tk 5 ?v74 ?y74 ?r74
       case y74 => intro w_ hSw; (try dsimp only at hSw); go_simp; (try (with_reducible rfl))
       try simp only [Act.put, List.setIfInBounds_toArray, List.set_cons_zero, List.set_cons_succ]
       refine tk 6 ?v75 ?y75 ?r75
       case y75 => intro w_ hSw; (try dsimp only at hSw); go_simp; (try (with_reducible rfl))
       try simp only [Act.put, List.setIfInBounds_toArray, List.set_cons_zero, List.set_cons_succ]
       refine tk 7 ?v76 ?y76 ?r76
       case y76 => intro w_ hSw; (try dsimp only at hSw); go_simp; (try (with_reducible rfl))
       try simp only [Act.put, List.setIfInBounds_toArray, List.set_cons_zero, List.set_cons_succ]
       refine tk 8 ?v77 ?y77 ?r77
       case y77 => intro w_ hSw; (try dsimp only at hSw); go_simp; (try (with_reducible rfl))
       try simp only [Act.put, List.setIfInBounds_toArray, List.set_cons_zero, List.set_cons_succ]
       refine tk 9 ?v78 ?y78 ?r78
       case y78 => intro w_ hSw; (try dsimp only at hSw); go_simp; (try (with_reducible rfl))
       try simp only [Act.put, List.setIfInBounds_toArray, List.set_cons_zero, List.set_cons_succ]
       refine tk 10 ?v79 ?y79 ?r79
       case y79 => intro w_ hSw; (try dsimp only at hSw); go_simp; (try (with_reducible rfl))
       try simp only [Act.put, List.setIfInBounds_toArray, List.set_cons_zero, List.set_cons_succ]
       refine tk 11 ?v80 ?y80 ?r80
       case y80 => intro w_ hSw; (try dsimp only at hSw); go_simp; (try (with_reducible rfl))
       try simp only [Act.put, List.setIfInBounds_toArray, List.set_cons_zero, List.set_cons_succ]
       refine tk 12 ?v81 ?y81 ?r81
       case y81 => intro w_ hSw; (try dsimp only at hSw); go_simp; (try (with_reducible rfl))
       try simp only [Act.put, List.setIfInBounds_toArray, List.set_cons_zero, List.set_cons_succ]
       refine tk 13 ?v82 ?y82 ?r82
       case y82 => intro w_ hSw; (try dsimp only at hSw); go_simp; (try (with_reducible rfl))
       try simp only [Act.put, List.setIfInBounds_toArray, List.set_cons_zero, List.set_cons_succ]
       refine tk 14 ?v83 ?y83 ?r83
       case y83 => intro w_ hSw; (try dsimp only at hSw); go_simp; (try (with_reducible rfl))
       try simp only [Act.put, List.setIfInBounds_toArray, List.set_cons_zero, List.set_cons_succ]
       refine tk 15 ?v84 ?y84 ?r84
       case y84 => intro w_ hSw; (try dsimp only at hSw); go_simp; (try (with_reducible rfl))
       try simp only [Act.put, List.setIfInBounds_toArray, List.set_cons_zero, List.set_cons_succ]
       refine wpAnyH_done (by kernel_rfl) ?_ _
       have BN := hHeld.2.2.2.2
       clear hHeld HK
       go_wp2
       go_ret
       exact ⟨rfl, BW.out.trans (BN.mono SZ.out)⟩
     ·clear hb
      go_wp2
      have HK : Aside0 (∀ W W1, Below W.heap.size W W1 → (W.cell? ⟨w1.heap.size, 0, none⟩ = some (.string a.f0) ∧ W.cell? ⟨w1.heap.size, 1, none⟩ = some (.string a.f1) ∧ Below w1.heap.size w1 W) → (W1.cell? ⟨w1.heap.size, 0, none⟩ = some (.string a.f0) ∧ W1.cell? ⟨w1.heap.size, 1, none⟩ = some (.string a.f1) ∧ Below w1.heap.size w1 W1)) := ⟨fun W W1 hb h => ⟨(hb.cell (World.block_lt_of_cell? W _ (h.1))).trans (h.1), (hb.cell (World.block_lt_of_cell? W _ (h.2.1))).trans (h.2.1), bel_then (h.2.2) hb⟩⟩
      refine wp_region_held_drew (S := (fun W => W.cell? ⟨w1.heap.size, 0, none⟩ = some (.string a.f0) ∧ W.cell? ⟨w1.heap.size, 1, none⟩ = some (.string a.f1) ∧ Below w1.heap.size w1 W)) (by kernel_rfl) ?s49 (fun hHeld => ?t49)
      case s49 => exact ⟨cF1_0, cF1_1, bel_then HB.out (drew_below0 _)⟩
      generalize World.drew _ = V0 at hHeld ⊢
      refine tk 0 ?v50 ?y50 ?r50
      case y50 => intro w_ hSw; (try dsimp only at hSw); go_simp; (try (with_reducible rfl))
      try simp only [Act.put, List.setIfInBounds_toArray, List.set_cons_zero, List.set_cons_succ]
      refine tk 1 ?v51 ?y51 ?r51
      case y51 => intro w_ hSw; (try dsimp only at hSw); go_simp; (try (with_reducible rfl))
      try simp only [Act.put, List.setIfInBounds_toArray, List.set_cons_zero, List.set_cons_succ]
      refine rdy (rs := [2]) ?_
      refine rc (fun K hK => ?k52) AllReadyH.nil
      case k52 =>
       go_simp
       refine Calls.mono (hsa V0 (hHeld.2.2)) ?_
       rintro e V2 ⟨rfl, b2⟩
       refine hK.out _ _ ?h53 (fun hHeld => ?j53)
       case h53 => exact HK.out _ _ b2 hHeld
       clear hK K
       try simp only [Act.put, List.setIfInBounds_toArray, List.set_cons_zero, List.set_cons_succ]
       refine tk 3 ?v54 ?y54 ?r54
       case y54 => intro w_ hSw; (try dsimp only at hSw); go_simp; (try (with_reducible rfl))
       try simp only [Act.put, List.setIfInBounds_toArray, List.set_cons_zero, List.set_cons_succ]
       refine tn 4 ?r55
       try simp only [Act.put, List.setIfInBounds_toArray, List.set_cons_zero, List.set_cons_succ]
       refine tn 5 ?r56
       try simp only [Act.put, List.setIfInBounds_toArray, List.set_cons_zero, List.set_cons_succ]
       refine tn 6 ?r57
       try simp only [Act.put, List.setIfInBounds_toArray, List.set_cons_zero, List.set_cons_succ]
       refine tn 7 ?r58
       try simp only [Act.put, List.setIfInBounds_toArray, List.set_cons_zero, List.set_cons_succ]
       refine tn 8 ?r59
       try simp only [Act.put, List.setIfInBounds_toArray, List.set_cons_zero, List.set_cons_succ]
       refine tn 9 ?r60
       try simp only [Act.put, List.setIfInBounds_toArray, List.set_cons_zero, List.set_cons_succ]
       refine tn 10 ?r61
       try simp only [Act.put, List.setIfInBounds_toArray, List.set_cons_zero, List.set_cons_succ]
       refine tn 11 ?r62
       try simp only [Act.put, List.setIfInBounds_toArray, List.set_cons_zero, List.set_cons_succ]
       refine tn 12 ?r63
       try simp only [Act.put, List.setIfInBounds_toArray, List.set_cons_zero, List.set_cons_succ]
       refine tn 13 ?r64
       try simp only [Act.put, List.setIfInBounds_toArray, List.set_cons_zero, List.set_cons_succ]
       refine tk 14 ?v65 ?y65 ?r65
       case y65 => intro w_ hSw; (try dsimp only at hSw); go_simp; (try (with_reducible rfl))
       try simp only [Act.put, List.setIfInBounds_toArray, List.set_cons_zero, List.set_cons_succ]
       refine tk 15 ?v66 ?y66 ?r66
       case y66 => intro w_ hSw; (try dsimp only at hSw); go_simp; (try (with_reducible rfl))
       try simp only [Act.put, List.setIfInBounds_toArray, List.set_cons_zero, List.set_cons_succ]
       refine wpAnyH_done (by kernel_rfl) ?_ _
       have BN := hHeld.2.2
       clear hHeld HK
       go_wp2
       go_ret
       exact ⟨rfl, BW.out.trans (BN.mono SZ.out)⟩

end Go.Proofs.YticepbgacokbbaaDoor
