/- The laws' comparison of items and of spools, of the same twice: contracts. -/
import Derived.Test.YtiaibgkpohmihaaDoorReg
import Derived.Test.YtiaibgkpohmihaaDoorSaB
import Derived.Test.YtiaibgkpohmihaaDoorCpItem
import Derived.Deep.RegionHeld3
namespace Go.Proofs.YtiaibgkpohmihaaDoor
open Go.RowKit Go.Proofs.YtiaibgkpohmihaaDoorW.PrintWords
set_option linter.unusedVariables false
set_option linter.unusedSimpArgs false
theorem eqA55 (d : Nat) (w : World) (x0 y0 : ByteArray) (x1 y1 : ByteArray) (x2 y2 : Int) (x3 y3 : Int) :
  (Op.equalIn (d + 3) 55 (.agg #[.string x0, .string x1, .int .i64 x2, .int .i64 x3]) (.agg #[.string y0, .string y1, .int .i64 y2, .int .i64 y3])).run Tryd.prog w = .ok (((x0.toList == y0.toList) && (x1.toList == y1.toList)) && ((x2 == y2) && (x3 == y3))) w := by
 refine eqA_of Tryd.underlying55 (by kernel_rfl) ?_
 refine eqf_cons (by rfl) (by go_simp; try rfl) (by go_simp; try rfl) (eqA24 _ _ _ _ _ _) ?_
 refine eqf_cons (by rfl) (by go_simp; try rfl) (by go_simp; try rfl) (by go_simp) ?_
 exact eqf_last (by rfl) (by go_simp; try rfl) (by go_simp; try rfl) (by go_simp)
attribute [local go_sem high] eqA24 eqA55

set_option maxRecDepth 100000 in
set_option maxHeartbeats 2000000 in
theorem saItem_any (x : SItem) (A0 : Option Addr) (c0 : Nat) (A1 : Option Addr) (c1 : Nat) (G0 : Option Addr) (e0 : Nat) (G1 : Option Addr) (e1 : Nat) (w : World) (hw : fitItem x) (hr0 : Kd.C kRcpt w A0 x.f2.length x.f2) (hr1 : Kd.C Kd.string w A1 x.f3.length x.f3) (gr0 : Kd.C kRcpt w G0 x.f2.length x.f2) (gr1 : Kd.C Kd.string w G1 x.f3.length x.f3) :
  Calls Tryd.prog 56 #[.agg #[.int .i64 x.f0, .string x.f1.f0, .string x.f1.f1, .slice A0 x.f2.length c0, .slice A1 x.f3.length c1], .agg #[.int .i64 x.f0, .string x.f1.f0, .string x.f1.f1, .slice G0 x.f2.length e0, .slice G1 x.f3.length e1]] w fun e w' => e = .returned (.bool true) ∧ Below w.heap.size w w' := by
 have hl2 := hw.2.2.1.1
 go_enter Tryd.func56, Tryd.ntmps56
 have he0 : (x.f0 == x.f0) = true := beq_self_eq_true _
 have he1 : (x.f1.f0.toList == x.f1.f0.toList) = true := beq_self_eq_true _
 have he2 : (x.f1.f1.toList == x.f1.f1.toList) = true := beq_self_eq_true _
 go_wp2_with fail
 obtain ⟨W0, hW0⟩ : ∃ W, W = ((w.alloc (.cells #[.int .i64 x.f0, .string x.f1.f0, .string x.f1.f1, .slice A0 x.f2.length c0, .slice A1 x.f3.length c1] 28)).alloc (.cells #[.int .i64 x.f0, .string x.f1.f0, .string x.f1.f1, .slice G0 x.f2.length e0, .slice G1 x.f3.length e1] 28)) := ⟨_, rfl⟩
 rw [← hW0]
 have HB : Aside0 (Below w.heap.size w W0) := ⟨by rw [hW0]; exact (bel_alloc (bel_alloc (Below.refl _ _) _) _)⟩
 have FX : Aside0 (W0.heap[w.heap.size]? = some (.cells #[.int .i64 x.f0, .string x.f1.f0, .string x.f1.f1, .slice A0 x.f2.length c0, .slice A1 x.f3.length c1] 28 (0, 0))) := ⟨by rw [hW0]; exact blk_alloc (blk_at _ _ (by first | rfl | (simp; done))) _⟩
 have FY : Aside0 (W0.heap[w.heap.size + 1]? = some (.cells #[.int .i64 x.f0, .string x.f1.f0, .string x.f1.f1, .slice G0 x.f2.length e0, .slice G1 x.f3.length e1] 28 (0, 0))) := ⟨by rw [hW0]; exact blk_at _ _ (by simp)⟩
 have HL : Aside0 (w.heap.size + 2 ≤ W0.heap.size) := ⟨by rw [hW0]; simp⟩
 clear hW0
 refine Calls.mono (saTexts_any A1 c1 G1 e1 x.f3 _ hw.2.2.2 (Kd.C_below hr1 HB.out) (Kd.C_below gr1 HB.out)) ?_
 rintro e w1 ⟨rfl, bw1⟩
 replace FX := Aside0.mk (below_blk FX.out bw1)
 replace FY := Aside0.mk (below_blk FY.out bw1)
 replace HB := Aside0.mk (bel_then HB.out bw1)
 replace HL := Aside0.mk (Nat.le_trans HL.out bw1.size)
 clear bw1
 have zFX := blk_lt FX.out
 have cFX_0 : w1.cell? ⟨w.heap.size, 0, none⟩ = some (.int .i64 x.f0) := clq FX.out 0 rfl
 have cFX_1 : w1.cell? ⟨w.heap.size, 1, none⟩ = some (.string x.f1.f0) := clq FX.out 1 rfl
 have cFX_2 : w1.cell? ⟨w.heap.size, 2, none⟩ = some (.string x.f1.f1) := clq FX.out 2 rfl
 have cFX_3 : w1.cell? ⟨w.heap.size, 3, none⟩ = some (.slice A0 x.f2.length c0) := clq FX.out 3 rfl
 have cFX_4 : w1.cell? ⟨w.heap.size, 4, none⟩ = some (.slice A1 x.f3.length c1) := clq FX.out 4 rfl
 have zFY := blk_lt FY.out
 have cFY_0 : w1.cell? ⟨w.heap.size + 1, 0, none⟩ = some (.int .i64 x.f0) := clq FY.out 0 rfl
 have cFY_1 : w1.cell? ⟨w.heap.size + 1, 1, none⟩ = some (.string x.f1.f0) := clq FY.out 1 rfl
 have cFY_2 : w1.cell? ⟨w.heap.size + 1, 2, none⟩ = some (.string x.f1.f1) := clq FY.out 2 rfl
 have cFY_3 : w1.cell? ⟨w.heap.size + 1, 3, none⟩ = some (.slice G0 x.f2.length e0) := clq FY.out 3 rfl
 have cFY_4 : w1.cell? ⟨w.heap.size + 1, 4, none⟩ = some (.slice G1 x.f3.length e1) := clq FY.out 4 rfl
 go_wp2
 clear zFX cFX_0 cFX_1 cFX_2 cFX_3 cFX_4 zFY cFY_0 cFY_1 cFY_2 cFY_3 cFY_4
 go_loopg [5] (x.f2.length) (fun g v wr => ∃ k : Nat, k ≤ x.f2.length ∧ x.f2.length - k ≤ g ∧ v = .int .i64 k ∧ Aside0 (Below w1.heap.size w1 wr))
 case atStart => exact ⟨0, Nat.zero_le _, by omega, rfl, ⟨Below.refl _ _⟩⟩
 case round =>
  obtain ⟨k, hk, hg, rfl, BW⟩ := hrel
  replace FX := Aside0.mk (below_blk FX.out BW.out)
  replace FY := Aside0.mk (below_blk FY.out BW.out)
  have zFX := blk_lt FX.out
  have cFX_0 : wr.cell? ⟨w.heap.size, 0, none⟩ = some (.int .i64 x.f0) := clq FX.out 0 rfl
  have cFX_1 : wr.cell? ⟨w.heap.size, 1, none⟩ = some (.string x.f1.f0) := clq FX.out 1 rfl
  have cFX_2 : wr.cell? ⟨w.heap.size, 2, none⟩ = some (.string x.f1.f1) := clq FX.out 2 rfl
  have cFX_3 : wr.cell? ⟨w.heap.size, 3, none⟩ = some (.slice A0 x.f2.length c0) := clq FX.out 3 rfl
  have cFX_4 : wr.cell? ⟨w.heap.size, 4, none⟩ = some (.slice A1 x.f3.length c1) := clq FX.out 4 rfl
  have zFY := blk_lt FY.out
  have cFY_0 : wr.cell? ⟨w.heap.size + 1, 0, none⟩ = some (.int .i64 x.f0) := clq FY.out 0 rfl
  have cFY_1 : wr.cell? ⟨w.heap.size + 1, 1, none⟩ = some (.string x.f1.f0) := clq FY.out 1 rfl
  have cFY_2 : wr.cell? ⟨w.heap.size + 1, 2, none⟩ = some (.string x.f1.f1) := clq FY.out 2 rfl
  have cFY_3 : wr.cell? ⟨w.heap.size + 1, 3, none⟩ = some (.slice G0 x.f2.length e0) := clq FY.out 3 rfl
  have cFY_4 : wr.cell? ⟨w.heap.size + 1, 4, none⟩ = some (.slice G1 x.f3.length e1) := clq FY.out 4 rfl
  by_cases hlt : k < x.f2.length
  ·have hlt' : (k : Int) < (x.f2.length : Int) := by omega
   obtain ⟨ad, e1, p0, p1, p2, p3⟩ := at_Rcpt (Kd.C_below hr0 (bel_then HB.out BW.out)) k hlt
   obtain ⟨ae, e2, r0, r1, r2, r3⟩ := at_Rcpt (Kd.C_below gr0 (bel_then HB.out BW.out)) k hlt
   subst e1
   subst e2
   generalize x.f2.getD k zRcpt = y at p0 p1 p2 p3 r0 r1 r2 r3
   have he0 : (y.f0.f0.toList == y.f0.f0.toList) = true := beq_self_eq_true _
   have he1 : (y.f0.f1.toList == y.f0.f1.toList) = true := beq_self_eq_true _
   have he2 : (y.f1 == y.f1) = true := beq_self_eq_true _
   have he3 : (y.f2 == y.f2) = true := beq_self_eq_true _
   go_wp2
   go_quiet (fail)
   go_wp2
   go_roundg (x.f2.length - (k + 1))
   case measure => omega
   case rel => exact ⟨k + 1, by omega, Nat.le_refl _, by go_num, ⟨blw_drewN BW.out _⟩⟩
  ·have hlt' : ¬ (k : Int) < (x.f2.length : Int) := by omega
   go_wp2
   go_ret
   exact ⟨rfl, bel_then HB.out BW.out⟩

set_option maxRecDepth 100000 in
set_option maxHeartbeats 2000000 in
theorem saSpool_any (s : SSpool) (A0 : Option Addr) (c0 : Nat) (G0 : Option Addr) (e0 : Nat) (w : World) (hw : fitSpool s) (hr : Kd.C kItem w A0 s.f1.length s.f1) (gr : Kd.C kItem w G0 s.f1.length s.f1) :
  Calls Tryd.prog 16 #[.agg #[.int .i64 s.f0, .slice A0 s.f1.length c0], .agg #[.int .i64 s.f0, .slice G0 s.f1.length e0]] w fun e w' => e = .returned (.bool true) ∧ Below w.heap.size w w' := by
 have hlen := hw.2.1
 have he0 : (s.f0 == s.f0) = true := beq_self_eq_true _
 go_enter Tryd.func16, Tryd.ntmps16
 go_wp2
 obtain ⟨W0, hW0⟩ : ∃ W, W = ((w.alloc (.cells #[.int .i64 s.f0, .slice A0 s.f1.length c0] 43)).alloc (.cells #[.int .i64 s.f0, .slice G0 s.f1.length e0] 43)) := ⟨_, rfl⟩
 rw [← hW0]
 have HB : Aside0 (Below w.heap.size w W0) := ⟨by rw [hW0]; exact (bel_alloc (bel_alloc (Below.refl _ _) _) _)⟩
 have FX : Aside0 (W0.heap[w.heap.size]? = some (.cells #[.int .i64 s.f0, .slice A0 s.f1.length c0] 43 (0, 0))) := ⟨by rw [hW0]; exact blk_alloc (blk_at _ _ (by first | rfl | (simp; done))) _⟩
 have FY : Aside0 (W0.heap[w.heap.size + 1]? = some (.cells #[.int .i64 s.f0, .slice G0 s.f1.length e0] 43 (0, 0))) := ⟨by rw [hW0]; exact blk_at _ _ (by simp)⟩
 have HL : Aside0 (w.heap.size + 2 ≤ W0.heap.size) := ⟨by rw [hW0]; simp⟩
 clear hW0
 go_loopg [5] (s.f1.length) (fun g v wr => ∃ k : Nat, k ≤ s.f1.length ∧ s.f1.length - k ≤ g ∧ v = .int .i64 k ∧ Aside0 (Below w.heap.size w wr) ∧ Aside0 (wr.heap[w.heap.size]? = some (.cells #[.int .i64 s.f0, .slice A0 s.f1.length c0] 43 (0, 0))) ∧ Aside0 (wr.heap[w.heap.size + 1]? = some (.cells #[.int .i64 s.f0, .slice G0 s.f1.length e0] 43 (0, 0))))
 case atStart => exact ⟨0, Nat.zero_le _, by omega, rfl, HB, FX, FY⟩
 case round =>
  clear HB FX FY HL
  obtain ⟨k, hk, hg, rfl, HB, FX, FY⟩ := hrel
  have HL : Aside0 (w.heap.size + 2 ≤ wr.heap.size) := ⟨by have := blk_lt FY.out; omega⟩
  by_cases hlt : k < s.f1.length
  ·have hlt' : (k : Int) < (s.f1.length : Int) := by omega
   obtain ⟨ad, Q0, q0, Q1, q1, e1, p0, p1, p2, p3, p4, l0, k0, l1, k1⟩ := at_Item hr k hlt
   obtain ⟨ae, R0, t0, R1, t1, e2, r0, r1, r2, r3, r4, m0, j0, m1, j1⟩ := at_Item gr k hlt
   subst e1
   subst e2
   have hfy := hw.2.2 (s.f1.getD k zItem) (getD_mem _ _ hlt)
   generalize s.f1.getD k zItem = y at p0 p1 p2 p3 p4 l0 k0 l1 k1 r0 r1 r2 r3 r4 m0 j0 m1 j1 hfy
   have ltp := World.block_lt_of_cell? _ _ p0
   have ltr := World.block_lt_of_cell? _ _ r0
   have hci := fun W (hW : Below w.heap.size w W) => saItem_any y Q0 q0 Q1 q1 R0 t0 R1 t1 W hfy (Kd.C_below k0 hW) (Kd.C_below k1 hW) (Kd.C_below j0 hW) (Kd.C_below j1 hW)
   clear l0 k0 l1 k1 m0 j0 m1 j1 hfy hr gr hw
   skip
   have zFX := blk_lt FX.out
   have cFX_0 : wr.cell? ⟨w.heap.size, 0, none⟩ = some (.int .i64 s.f0) := clq FX.out 0 rfl
   have cFX_1 : wr.cell? ⟨w.heap.size, 1, none⟩ = some (.slice (some ad) s.f1.length c0) := clq FX.out 1 rfl
   have zFY := blk_lt FY.out
   have cFY_0 : wr.cell? ⟨w.heap.size + 1, 0, none⟩ = some (.int .i64 s.f0) := clq FY.out 0 rfl
   have cFY_1 : wr.cell? ⟨w.heap.size + 1, 1, none⟩ = some (.slice (some ae) s.f1.length e0) := clq FY.out 1 rfl
   go_wp2_with fail
   have HS139 : Aside0 (∀ W : World, (W.heap[w.heap.size]? = some (.cells #[.int .i64 s.f0, .slice (some ad) s.f1.length c0] 43 (0, 0)) ∧ W.heap[w.heap.size + 1]? = some (.cells #[.int .i64 s.f0, .slice (some ae) s.f1.length e0] 43 (0, 0)) ∧ W.heap[(ad.add (k * 5)).block]? = w.heap[(ad.add (k * 5)).block]? ∧ W.heap[(ae.add (k * 5)).block]? = w.heap[(ae.add (k * 5)).block]?) → W.cell? ⟨w.heap.size, 0, none⟩ = some (.int .i64 s.f0) ∧ W.cell? ⟨w.heap.size, 1, none⟩ = some (.slice (some ad) s.f1.length c0) ∧ W.cell? ⟨w.heap.size + 1, 0, none⟩ = some (.int .i64 s.f0) ∧ W.cell? ⟨w.heap.size + 1, 1, none⟩ = some (.slice (some ae) s.f1.length e0) ∧ W.cell? (ad.add (k * 5)) = some (.int .i64 y.f0) ∧ W.cell? ⟨(ad.add (k * 5)).block, (ad.add (k * 5)).off + 1, none⟩ = some (.string y.f1.f0) ∧ W.cell? ⟨(ad.add (k * 5)).block, (ad.add (k * 5)).off + 2, none⟩ = some (.string y.f1.f1) ∧ W.cell? ⟨(ad.add (k * 5)).block, (ad.add (k * 5)).off + 3, none⟩ = some (.slice Q0 y.f2.length q0) ∧ W.cell? ⟨(ad.add (k * 5)).block, (ad.add (k * 5)).off + 4, none⟩ = some (.slice Q1 y.f3.length q1) ∧ W.cell? (ae.add (k * 5)) = some (.int .i64 y.f0) ∧ W.cell? ⟨(ae.add (k * 5)).block, (ae.add (k * 5)).off + 1, none⟩ = some (.string y.f1.f0) ∧ W.cell? ⟨(ae.add (k * 5)).block, (ae.add (k * 5)).off + 2, none⟩ = some (.string y.f1.f1) ∧ W.cell? ⟨(ae.add (k * 5)).block, (ae.add (k * 5)).off + 3, none⟩ = some (.slice R0 y.f2.length t0) ∧ W.cell? ⟨(ae.add (k * 5)).block, (ae.add (k * 5)).off + 4, none⟩ = some (.slice R1 y.f3.length t1)) := ⟨fun W h => ⟨(by have h_ := h.1; simp [World.cell?, h_]), (by have h_ := h.1; simp [World.cell?, h_]), (by have h_ := h.2.1; simp [World.cell?, h_]), (by have h_ := h.2.1; simp [World.cell?, h_]), ((World.cell?_of_block h.2.2.1).trans p0), ((World.cell?_of_block (by exact h.2.2.1)).trans p1), ((World.cell?_of_block (by exact h.2.2.1)).trans p2), ((World.cell?_of_block (by exact h.2.2.1)).trans p3), ((World.cell?_of_block (by exact h.2.2.1)).trans p4), ((World.cell?_of_block h.2.2.2).trans r0), ((World.cell?_of_block (by exact h.2.2.2)).trans r1), ((World.cell?_of_block (by exact h.2.2.2)).trans r2), ((World.cell?_of_block (by exact h.2.2.2)).trans r3), ((World.cell?_of_block (by exact h.2.2.2)).trans r4)⟩⟩
   refine wp_region_held_drew (S := fun (W : World) => W.heap[w.heap.size]? = some (.cells #[.int .i64 s.f0, .slice (some ad) s.f1.length c0] 43 (0, 0)) ∧ W.heap[w.heap.size + 1]? = some (.cells #[.int .i64 s.f0, .slice (some ae) s.f1.length e0] 43 (0, 0)) ∧ W.heap[(ad.add (k * 5)).block]? = w.heap[(ad.add (k * 5)).block]? ∧ W.heap[(ae.add (k * 5)).block]? = w.heap[(ae.add (k * 5)).block]?) (by kernel_rfl) ?s140 (fun hHeld => ?t140)
   case s140 => exact (show (fun (W : World) => W.heap[w.heap.size]? = some (.cells #[.int .i64 s.f0, .slice (some ad) s.f1.length c0] 43 (0, 0)) ∧ W.heap[w.heap.size + 1]? = some (.cells #[.int .i64 s.f0, .slice (some ae) s.f1.length e0] 43 (0, 0)) ∧ W.heap[(ad.add (k * 5)).block]? = w.heap[(ad.add (k * 5)).block]? ∧ W.heap[(ae.add (k * 5)).block]? = w.heap[(ae.add (k * 5)).block]?) (World.drew wr) from ⟨FX.out, FY.out, HB.out.block _ ltp, HB.out.block _ ltr⟩)
   generalize hWVs : World.drew (wr) = Vs at hHeld ⊢
   have ltFX := blk_lt FX.out
   have ltFY := blk_lt FY.out
   have ltb := HB.out.size
   have ltl := HL.out
   have TT : ∀ k, k < wr.heap.size → Vs.heap[k]? = wr.heap[k]? := fun k hk => by rw [← hWVs]; (with_reducible repeat (first | rfl | refine hp_set ?_ ?_ | refine hp_alloc ?_ ?_ | refine hp_drew ?_)); all_goals (first | (with_reducible rfl) | omega | (dsimp only; omega) | (simp; omega))
   have TS : wr.heap.size + 0 ≤ Vs.heap.size := by rw [← hWVs]; simp
   have nFX : Vs.heap[w.heap.size]? = some (.cells #[.int .i64 s.f0, .slice (some ad) s.f1.length c0] 43 (0, 0)) := (TT _ ltFX).trans FX.out
   have nFY : Vs.heap[w.heap.size + 1]? = some (.cells #[.int .i64 s.f0, .slice (some ae) s.f1.length e0] 43 (0, 0)) := (TT _ ltFY).trans FY.out
   have nHB : Below w.heap.size w Vs := by rw [← hWVs]; exact bel_then (HB.out) (drew_below0 _)
   clear zFX cFX_0 cFX_1 zFY cFY_0 cFY_1
   clear hWVs FX FY HB 
   have FX := Aside0.mk nFX
   clear nFX
   have FY := Aside0.mk nFY
   clear nFY
   have HB := Aside0.mk nHB
   clear nHB
   replace HL := Aside0.mk (Nat.le_trans HL.out (by omega : wr.heap.size ≤ Vs.heap.size))
   clear TT TS ltFX ltFY ltb ltl
   refine tk 0 ?v141 ?y141 ?r141
   case y141 => intro w_ hSw; (try dsimp only at hSw); clear hSw; go_simp; (try (with_reducible rfl))
   try simp only [Act.put, List.setIfInBounds_toArray, List.set_cons_zero, List.set_cons_succ]
   refine tk 1 ?v142 ?y142 ?r142
   case y142 => intro w_ hSw; obtain ⟨e_0, e_1, e_2, e_3, e_4, e_5, e_6, e_7, e_8, e_9, e_10, e_11, e_12, e_13⟩ := HS139.out w_ hSw; clear hSw; go_simp; (try (with_reducible rfl))
   try simp only [Act.put, List.setIfInBounds_toArray, List.set_cons_zero, List.set_cons_succ]
   refine tk 2 ?v143 ?y143 ?r143
   case y143 => intro w_ hSw; (try dsimp only at hSw); clear hSw; go_simp; (try (with_reducible rfl))
   try simp only [Act.put, List.setIfInBounds_toArray, List.set_cons_zero, List.set_cons_succ]
   refine tk 3 ?v144 ?y144 ?r144
   case y144 => intro w_ hSw; (try dsimp only at hSw); clear hSw; go_simp; (try (with_reducible rfl))
   try simp only [Act.put, List.setIfInBounds_toArray, List.set_cons_zero, List.set_cons_succ]
   refine tk 4 ?v145 ?y145 ?r145
   case y145 => intro w_ hSw; obtain ⟨e_0, e_1, e_2, e_3, e_4, e_5, e_6, e_7, e_8, e_9, e_10, e_11, e_12, e_13⟩ := HS139.out w_ hSw; clear hSw; go_simp; (try (with_reducible rfl))
   try simp only [Act.put, List.setIfInBounds_toArray, List.set_cons_zero, List.set_cons_succ]
   refine tk 5 ?v146 ?y146 ?r146
   case y146 => intro w_ hSw; (try dsimp only at hSw); clear hSw; go_simp; (try (with_reducible rfl))
   try simp only [Act.put, List.setIfInBounds_toArray, List.set_cons_zero, List.set_cons_succ]
   refine tk 6 ?v147 ?y147 ?r147
   case y147 => intro w_ hSw; obtain ⟨e_0, e_1, e_2, e_3, e_4, e_5, e_6, e_7, e_8, e_9, e_10, e_11, e_12, e_13⟩ := HS139.out w_ hSw; clear hSw; go_simp; (try (with_reducible rfl))
   try simp only [Act.put, List.setIfInBounds_toArray, List.set_cons_zero, List.set_cons_succ]
   refine tk 7 ?v148 ?y148 ?r148
   case y148 => intro w_ hSw; (try dsimp only at hSw); clear hSw; go_simp; (try (with_reducible rfl))
   try simp only [Act.put, List.setIfInBounds_toArray, List.set_cons_zero, List.set_cons_succ]
   refine tk 8 ?v149 ?y149 ?r149
   case y149 => intro w_ hSw; (try dsimp only at hSw); clear hSw; go_simp; (try (with_reducible rfl))
   try simp only [Act.put, List.setIfInBounds_toArray, List.set_cons_zero, List.set_cons_succ]
   refine tk 9 ?v150 ?y150 ?r150
   case y150 => intro w_ hSw; obtain ⟨e_0, e_1, e_2, e_3, e_4, e_5, e_6, e_7, e_8, e_9, e_10, e_11, e_12, e_13⟩ := HS139.out w_ hSw; clear hSw; go_simp; (try (with_reducible rfl))
   try simp only [Act.put, List.setIfInBounds_toArray, List.set_cons_zero, List.set_cons_succ]
   refine rdy (rs := [10]) ?_
   refine rc (fun K hK => ?k151) AllReadyH.nil
   case k151 =>
    go_simp
    refine Calls.mono (hci _ HB.out) ?_
    rintro e V10 ⟨rfl, bV10⟩
    replace FX := Aside0.mk (below_blk FX.out bV10)
    replace FY := Aside0.mk (below_blk FY.out bV10)
    replace HB := Aside0.mk (bel_then HB.out bV10)
    replace HL := Aside0.mk (Nat.le_trans HL.out bV10.size)
    clear bV10
    refine hK.out _ _ ?h152 (fun hHeld => ?j152)
    case h152 => exact ⟨FX.out, FY.out, HB.out.block _ ltp, HB.out.block _ ltr⟩
    clear hK K
    try simp only [Act.put, List.setIfInBounds_toArray, List.set_cons_zero, List.set_cons_succ]
    refine tk 11 ?v153 ?y153 ?r153
    case y153 => intro w_ hSw; (try dsimp only at hSw); clear hSw; go_simp; (try (with_reducible rfl))
    try simp only [Act.put, List.setIfInBounds_toArray, List.set_cons_zero, List.set_cons_succ]
    refine wpAnyH_done (by kernel_rfl) ?_ _
    clear p0 p1 p2 p3 p4 r0 r1 r2 r3 r4 hci
    go_wp2
    go_roundg (s.f1.length - (k + 1))
    case measure => omega
    case rel => exact ⟨k + 1, by omega, Nat.le_refl _, by go_num, HB, FX, FY⟩
  ·have hlt' : ¬ (k : Int) < (s.f1.length : Int) := by omega
   have zFX := blk_lt FX.out
   have cFX_0 : wr.cell? ⟨w.heap.size, 0, none⟩ = some (.int .i64 s.f0) := clq FX.out 0 rfl
   have cFX_1 : wr.cell? ⟨w.heap.size, 1, none⟩ = some (.slice A0 s.f1.length c0) := clq FX.out 1 rfl
   have zFY := blk_lt FY.out
   have cFY_0 : wr.cell? ⟨w.heap.size + 1, 0, none⟩ = some (.int .i64 s.f0) := clq FY.out 0 rfl
   have cFY_1 : wr.cell? ⟨w.heap.size + 1, 1, none⟩ = some (.slice G0 s.f1.length e0) := clq FY.out 1 rfl
   go_wp2
   go_ret
   exact ⟨rfl, HB.out⟩

end Go.Proofs.YtiaibgkpohmihaaDoor
