/- The law FnExactSpoolDue, walked. -/
import Derived.Test.YtgchdgkoolllmaaDoorDueS
import Derived.Test.YtgchdgkoolllmaaDoorTo
import Derived.Test.YtgchdgkoolllmaaDoorEq
import Derived.Test.YtgchdgkoolllmaaDoorMarkN
import Derived.Test.YtgchdgkoolllmaaDoorHeld
namespace Go.Proofs.YtgchdgkoolllmaaDoor
open Go.RowKit Go.Proofs.YtgchdgkoolllmaaDoorW.PrintWords
set_option linter.unusedVariables false
set_option linter.unusedSimpArgs false
set_option maxRecDepth 100000 in
set_option maxHeartbeats 16000000 in
theorem walk_FnExactSpoolDue (x : SSpool) (A0 : Option Addr) (c0 : Nat) {w : World} (hw : wideSpool x) (hr0 : Kd.C kItem w A0 x.f1.length x.f1) (now : Int) (hi0 : (Lit.int .i64 now).wf = true) (hG : Glob w) :
    Calls Tryd.prog 5 #[.agg #[.int .i64 x.f0, .slice A0 x.f1.length c0], .int .i64 now] w fun e w' => e = .returned (.bool true) ∧ Below w.heap.size w w' := by
  have hszz := fun (W : World) (hW : Below w.heap.size w W) => szSpool_any x A0 c0 1048576 W (by omega) (by omega) hw (Kd.C_below hr0 hW)
  have hto := fun (W : World) (hW : Below w.heap.size w W) (hf : fitSpool x) => toSpool_any x A0 c0 W hf (Kd.C_below hr0 hW)
  have HG := Lib.hid hG
  clear hw hr0 hG
  go_enter Tryd.func5, Tryd.ntmps5
  go_wp2_with fail
  obtain ⟨W0, hW0⟩ : ∃ W0, W0 = w.alloc (.cells #[.int .i64 x.f0, .slice A0 x.f1.length c0] 24) := ⟨_, rfl⟩
  rw [← hW0]
  have B0 : Below w.heap.size w W0 := by rw [hW0]; exact (Below.refl _ _).alloc (Nat.le_refl _) _
  have Z0 : w.heap.size < W0.heap.size := by rw [hW0]; simp
  have c0_ : W0.cell? ⟨w.heap.size, 0, none⟩ = some (.int .i64 x.f0) := by rw [hW0]; simp
  have c1_ : W0.cell? ⟨w.heap.size, 1, none⟩ = some (.slice A0 x.f1.length c0) := by rw [hW0]; simp
  have HC : Aside0 (∀ W, Below W0.heap.size W0 W → W.cell? ⟨w.heap.size, 0, none⟩ = some (.int .i64 x.f0) ∧ W.cell? ⟨w.heap.size, 1, none⟩ = some (.slice A0 x.f1.length c0)) := ⟨fun W h => ⟨(h.cell (p := ⟨w.heap.size, 0, none⟩) Z0).trans c0_, (h.cell (p := ⟨w.heap.size, 1, none⟩) Z0).trans c1_⟩⟩
  clear hW0 c0_ c1_
  have HB0 := Aside0.mk B0
  have hsz := B0.size
  clear B0
  go_wp2_with fail
  refine (hszz _ HB0.out).mono ?_
  rintro e w1 ⟨r, rfl, hle, hs, b1⟩
  have B1 : Below W0.heap.size W0 w1 := b1
  obtain ⟨c0_, c1_⟩ := HC.out _ B1
  clear b1 hszz
  by_cases n0 : r < 0
  · go_wp2
    go_ret
    exact ⟨rfl, bel_then HB0.out B1⟩
  have hf := hs (by omega)
  clear hs
  go_wp2_with fail
  refine (hto _ (bel_then HB0.out B1) hf).mono ?_
  rintro e w2 ⟨B0, d0, rfl, g2_0, b2⟩
  have B2 := bel_then B1 b2
  clear c0_ c1_
  obtain ⟨c0_, c1_⟩ := HC.out _ B2
  have G2_0 := Aside0.mk g2_0
  go_wp2_with fail
  refine (specDue_any x now B0 d0 w2 hf (Kd.S_reads' G2_0.out).2.2).mono ?_
  rintro e w3 ⟨D, dd, rfl, g3, b3⟩
  have B3 := bel_then B2 b3
  clear c0_ c1_
  obtain ⟨c0_, c1_⟩ := HC.out _ B3
  have HWr := Aside0.mk (Kd.R_mono (Kd.R_bound g3) (ok' := fun q => q < w3.heap.size) (fun q hq => hq.2.2.1))
  clear g3 b2 b3 g2_0 G2_0
  have hvf := due_fit hf now
  generalize hv : spoolDue x now = ys at HWr hvf ⊢
  have HV := Lib.hid hv
  clear hv
  have hvl := hvf.1
  have HVF := Lib.hid hvf
  clear hvf
  have s3 := B3.size
  go_wp2_with fail
  refine (hto _ (bel_then HB0.out B3) hf).mono ?_
  rintro e w4 ⟨E0, e0, rfl, g4_0, b4⟩
  have B4 := bel_then B3 b4
  clear c0_ c1_
  obtain ⟨c0_, c1_⟩ := HC.out _ B4
  have HX0 := Aside0.mk (Kd.S_mono (Kd.S_bound g4_0) (ok' := fun q => w3.heap.size ≤ q ∧ q < w4.heap.size) (fun q hq => ⟨hq.2.1, hq.2.2.1⟩))
  replace HWr := Aside0.mk (Kd.R_below HWr.out b4)
  have s34 := b4.size
  have s4 := B4.size
  clear b4 g4_0
  have himp := fun (W : World) (hW : Below w4.heap.size w4 W) => spoolDue_any x now E0 e0 W hf (Kd.C_below (Kd.S_reads' HX0.out).2.2 hW) (HG.out.below (bel_then HB0.out (bel_then B4 hW)))
  rw [HV.out] at himp
  go_wp2_with fail
  refine (himp _ (bel_alloc (Below.refl _ _) _)).mono ?_
  rintro e w5 ⟨F, f5, rfl, g5, b5⟩
  have b45 := bel_then (bel_alloc (Below.refl w4.heap.size w4) _) b5
  have B5 := bel_then B4 b45
  clear himp
  have y0_ := (b5.cell (p := ⟨w4.heap.size, 0, none⟩) (by simp)).trans (by simp : _ = some (.int .i64 x.f0))
  have y1_ := (b5.cell (p := ⟨w4.heap.size, 1, none⟩) (by simp)).trans (by simp : _ = some (.slice E0 x.f1.length e0))
  have HGr := Aside0.mk (Kd.R_mono (Kd.R_bound g5) (ok' := fun q => w4.heap.size + 1 ≤ q) (fun q hq => by have := hq.2.1; simp at this; omega))
  have s5 : w4.heap.size < w5.heap.size := by have := b5.size; simp at this; omega
  replace HWr := Aside0.mk (Kd.R_below HWr.out b45)
  replace HX0 := Aside0.mk (Kd.S_below HX0.out b45)
  clear c0_ c1_
  obtain ⟨c0_, c1_⟩ := HC.out _ B5
  clear g5 b5 b45
  go_wp2_with fail
  refine (eqIntS_any F f5 D dd ys _ HVF.out (Kd.R_reads' HGr.out).2.2 (Kd.R_reads' HWr.out).2.2).mono ?_
  rintro e w6 ⟨rfl, b6⟩
  have B6 := bel_then B5 b6
  replace HWr := Aside0.mk (Kd.R_below HWr.out b6)
  replace HX0 := Aside0.mk (Kd.S_below HX0.out b6)
  replace HGr := Aside0.mk (Kd.R_below HGr.out b6)
  clear c0_ c1_
  obtain ⟨c0_, c1_⟩ := HC.out _ B6
  replace y0_ := (b6.cell (p := ⟨w4.heap.size, 0, none⟩) s5).trans y0_
  replace y1_ := (b6.cell (p := ⟨w4.heap.size, 1, none⟩) s5).trans y1_
  have s6 : w4.heap.size < w6.heap.size := Nat.lt_of_lt_of_le s5 b6.size
  clear b6
  have HK : Aside0 (∀ W W1, Below W.heap.size W W1 → (W.cell? ⟨w4.heap.size, 0, none⟩ = some (.int .i64 x.f0) ∧ W.cell? ⟨w4.heap.size, 1, none⟩ = some (.slice E0 x.f1.length e0) ∧ W.cell? ⟨w.heap.size, 0, none⟩ = some (.int .i64 x.f0) ∧ W.cell? ⟨w.heap.size, 1, none⟩ = some (.slice A0 x.f1.length c0) ∧ Below w6.heap.size w6 W) → (W1.cell? ⟨w4.heap.size, 0, none⟩ = some (.int .i64 x.f0) ∧ W1.cell? ⟨w4.heap.size, 1, none⟩ = some (.slice E0 x.f1.length e0) ∧ W1.cell? ⟨w.heap.size, 0, none⟩ = some (.int .i64 x.f0) ∧ W1.cell? ⟨w.heap.size, 1, none⟩ = some (.slice A0 x.f1.length c0) ∧ Below w6.heap.size w6 W1)) := ⟨fun W W1 hb h => ⟨(hb.cell (World.block_lt_of_cell? W _ (h.1))).trans (h.1), (hb.cell (World.block_lt_of_cell? W _ (h.2.1))).trans (h.2.1), (hb.cell (World.block_lt_of_cell? W _ (h.2.2.1))).trans (h.2.2.1), (hb.cell (World.block_lt_of_cell? W _ (h.2.2.2.1))).trans (h.2.2.2.1), bel_then (h.2.2.2.2) hb⟩⟩
  go_wp2
  refine wp_region_held_drew (S := (fun W => W.cell? ⟨w4.heap.size, 0, none⟩ = some (.int .i64 x.f0) ∧ W.cell? ⟨w4.heap.size, 1, none⟩ = some (.slice E0 x.f1.length e0) ∧ W.cell? ⟨w.heap.size, 0, none⟩ = some (.int .i64 x.f0) ∧ W.cell? ⟨w.heap.size, 1, none⟩ = some (.slice A0 x.f1.length c0) ∧ Below w6.heap.size w6 W)) (by kernel_rfl) ?s1 (fun hHeld => ?t1)
  case s1 => exact ⟨y0_, y1_, c0_, c1_, bel_then (Below.refl _ _) (drew_below0 w6)⟩
  refine wpAnyH_take (i := 0) (oi := { dst := some 31, op := Op.load 29 (Operand.tmp 7), type := 29, pos := "exact.go:3596", after := #[], guard := none }) (v := ?v2) rfl (by kernel_rfl) (by kernel_rfl) (by kernel_rfl) (fun _ _ _ h => h) (Or.inl ⟨by rfl, ?y2⟩) (by assumption) ?r2
  case y2 => intro w_ hSw; (try dsimp only at hSw); go_simp; (try (with_reducible rfl))
  try simp only [Act.put, List.setIfInBounds_toArray, List.set_cons_zero, List.set_cons_succ]
  refine wpAnyH_take (i := 1) (oi := { dst := some 32, op := Op.load 24 (Operand.tmp 2), type := 24, pos := "exact.go:3596", after := #[], guard := none }) (v := ?v3) rfl (by kernel_rfl) (by kernel_rfl) (by kernel_rfl) (fun _ _ _ h => h) (Or.inl ⟨by rfl, ?y3⟩) (by assumption) ?r3
  case y3 => intro w_ hSw; (try dsimp only at hSw); go_simp; (try (with_reducible rfl))
  try simp only [Act.put, List.setIfInBounds_toArray, List.set_cons_zero, List.set_cons_succ]
  refine wpAnyH_ready (rs := [2]) (by kernel_rfl) (by simp) ?_
  refine AllReadyH.cons (o := { dst := some 33, op := Op.call { callee := Callee.value (Operand.func 15), args := #[Operand.tmp 32], argTypes := #[24] }, type := 29, pos := "exact.go:3596", after := #[{ on := 1, ground := Ground.data }], guard := none }) rfl (fun K hK => ?k4) AllReadyH.nil
  case' k4 => skip
  go_simp
  refine (hto _ (bel_then HB0.out (bel_then B6 hHeld.2.2.2.2)) hf).mono ?_
  rintro e wa ⟨F0, f0, rfl, ga_0, ba⟩
  have Ca_0 := (Kd.S_reads' ga_0).2.2
  have hBa := bel_then hHeld.2.2.2.2 ba
  refine hK.out _ _ ?h4 (fun hHeld => ?j4)
  case h4 => exact HK.out _ _ ba hHeld
  clear hK K
  try simp only [Act.put, List.setIfInBounds_toArray, List.set_cons_zero, List.set_cons_succ]
  refine wpAnyH_ready (rs := [3]) (by kernel_rfl) (by simp) ?_
  refine AllReadyH.cons (o := { dst := some 34, op := Op.call { callee := Callee.value (Operand.func 17), args := #[Operand.tmp 31, Operand.tmp 33], argTypes := #[29, 29] }, type := 4, pos := "exact.go:3596", after := #[{ on := 0, ground := Ground.data }, { on := 2, ground := Ground.data }, { on := 2, ground := Ground.chain }], guard := none }) rfl (fun K hK => ?k5) AllReadyH.nil
  case' k5 => skip
  go_simp
  refine (eqSpool_any x E0 e0 F0 f0 _ hf (Kd.C_below (Kd.S_reads' HX0.out).2.2 hBa) Ca_0).mono ?_
  rintro e wb ⟨rfl, bb⟩
  have hBb := bel_then hBa bb
  refine hK.out _ _ ?h5 (fun hHeld => ?j5)
  case h5 => exact HK.out _ _ bb hHeld
  clear hK K
  try simp only [Act.put, List.setIfInBounds_toArray, List.set_cons_zero, List.set_cons_succ]
  refine wpAnyH_take (i := 4) (oi := { dst := some 35, op := Op.unOp UnOp.not 4 (Operand.tmp 34), type := 4, pos := "exact.go:3596", after := #[{ on := 3, ground := Ground.data }], guard := none }) (v := ?v6) rfl (by kernel_rfl) (by kernel_rfl) (by kernel_rfl) (fun _ _ _ h => h) (Or.inl ⟨by rfl, ?y6⟩) (by assumption) ?r6
  case y6 => intro w_ hSw; (try dsimp only at hSw); go_simp; (try (with_reducible rfl))
  try simp only [Act.put, List.setIfInBounds_toArray, List.set_cons_zero, List.set_cons_succ]
  refine wpAnyH_done (by kernel_rfl) ?_ _
  clear HK y0_ y1_ c0_ c1_
  obtain ⟨y0_, y1_, c0_, c1_, BH⟩ := hHeld
  have B7 := bel_then B6 BH
  replace HWr := Aside0.mk (Kd.R_below HWr.out BH)
  replace HX0 := Aside0.mk (Kd.S_below HX0.out BH)
  replace HGr := Aside0.mk (Kd.R_below HGr.out BH)
  go_wp2_with fail
  refine (calls_at (a := 1) rfl (markSpool_any x E0 e0 1 _ _ _ hf HX0.out (by omega))).mono ?_
  rintro e w8 ⟨he, le8, _, t8⟩
  obtain ⟨r8, hr8, rfl⟩ : ∃ r : Int, 0 ≤ r ∧ e = .returned (.int .i64 r) := ⟨_, by omega, he⟩
  have n8 : ¬ r8 < 0 := by omega
  have B8 := bel_tch B7 t8 B7.size (fun q hq => by have := hq.1; omega)
  replace HWr := Aside0.mk (R_tch HWr.out t8 (fun q hq h => by have := h.1; omega))
  replace HGr := Aside0.mk (R_tch HGr.out t8 (fun q hq h => by have := h.2; omega))
  clear c0_ c1_
  obtain ⟨c0_, c1_⟩ := HC.out _ B8
  clear he le8 t8 HX0 y0_ y1_
  go_wp2_with fail
  refine (eqIntS_any F f5 D dd ys _ HVF.out (Kd.R_reads' HGr.out).2.2 (Kd.R_reads' HWr.out).2.2).mono ?_
  rintro e w9 ⟨rfl, b9⟩
  have B9 := bel_then B8 b9
  replace HWr := Aside0.mk (Kd.R_below HWr.out b9)
  replace HGr := Aside0.mk (Kd.R_below HGr.out b9)
  clear c0_ c1_
  obtain ⟨c0_, c1_⟩ := HC.out _ B9
  clear b9
  go_wp2_with fail
  refine (calls_at (a := 1) rfl (markIntS_any F f5 f5 ys.length ys 1 _ _ _ HGr.out hvl (by omega))).mono ?_
  rintro e w10 ⟨he, m10, g10⟩
  obtain ⟨r10, hr10, rfl⟩ : ∃ r : Int, r = ((1 + 1 * ys.length : Nat) : Int) ∧ e = .returned (.int .i64 r) := ⟨_, rfl, he⟩
  have t10 : Tch (fun q => w4.heap.size + 1 ≤ q) _ w10 := (Tch.refl _ _).row g10 (fun q hq => HGr.out.1 q hq)
  have B10 := bel_tch B9 t10 B9.size (fun q hq => by omega)
  replace HWr := Aside0.mk (R_tch HWr.out t10 (fun q hq h => by omega))
  replace HGr := Aside0.mk m10
  clear c0_ c1_
  obtain ⟨c0_, c1_⟩ := HC.out _ B10
  clear he m10 g10 t10
  have n10 : ¬ r10 < 0 := by omega
  have R10 := Lib.hid hr10
  clear hr10
  have hC11 := (Kd.R_reads' HGr.out).2.2
  rw [mksInt_length] at hC11
  go_wp2_with fail
  refine (calls_at (a := 1) rfl (heldIntS_any F f5 ys.length 1 _ hC11 hvl (by omega))).mono ?_
  rintro e w11 ⟨he, b11⟩
  obtain rfl : e = .returned (.int .i64 r10) := by rw [he, R10.out]
  have B11 := bel_then B10 b11
  replace HWr := Aside0.mk (Kd.R_below HWr.out b11)
  replace HGr := Aside0.mk (Kd.R_below HGr.out b11)
  clear c0_ c1_
  obtain ⟨c0_, c1_⟩ := HC.out _ B11
  clear he b11 hC11
  go_wp2_with fail
  refine (hto _ (bel_then HB0.out B11) hf).mono ?_
  rintro e w12 ⟨H0, h0, rfl, g12_0, b12⟩
  have B12 := bel_then B11 b12
  replace HWr := Aside0.mk (Kd.R_below HWr.out b12)
  replace HGr := Aside0.mk (Kd.R_below HGr.out b12)
  clear c0_ c1_
  obtain ⟨c0_, c1_⟩ := HC.out _ B12
  have G12_0 := Aside0.mk g12_0
  have himp := spoolDue_any x now H0 h0 w12 hf (Kd.S_reads' G12_0.out).2.2 (HG.out.below (bel_then HB0.out B12))
  rw [HV.out] at himp
  clear b12 g12_0 G12_0
  go_wp2_with fail
  refine himp.mono ?_
  rintro e w13 ⟨G, g13, rfl, h13, b13⟩
  have B13 := bel_then B12 b13
  replace HWr := Aside0.mk (Kd.R_below HWr.out b13)
  replace HGr := Aside0.mk (Kd.R_below HGr.out b13)
  clear c0_ c1_
  obtain ⟨c0_, c1_⟩ := HC.out _ B13
  have HHr := Aside0.mk h13
  clear h13 b13 himp
  go_wp2_with fail
  refine (eqIntS_any G g13 D dd ys _ HVF.out (Kd.R_reads' HHr.out).2.2 (Kd.R_reads' HWr.out).2.2).mono ?_
  rintro e w14 ⟨rfl, b14⟩
  have B14 := bel_then B13 b14
  replace HWr := Aside0.mk (Kd.R_below HWr.out b14)
  replace HGr := Aside0.mk (Kd.R_below HGr.out b14)
  clear c0_ c1_
  obtain ⟨c0_, c1_⟩ := HC.out _ B14
  clear b14 HHr
  have hC15 := (Kd.R_reads' HGr.out).2.2
  rw [mksInt_length] at hC15
  go_wp2_with fail
  refine (calls_at (a := 1) rfl (heldIntS_any F f5 ys.length 1 _ hC15 hvl (by omega))).mono ?_
  rintro e w15 ⟨he, b15⟩
  obtain rfl : e = .returned (.int .i64 r10) := by rw [he, R10.out]
  have B15 := bel_then B14 b15
  replace HWr := Aside0.mk (Kd.R_below HWr.out b15)
  replace HGr := Aside0.mk (Kd.R_below HGr.out b15)
  clear c0_ c1_
  obtain ⟨c0_, c1_⟩ := HC.out _ B15
  clear he b15 hC15
  go_wp2
  go_ret
  exact ⟨rfl, bel_then HB0.out B15⟩
end Go.Proofs.YtgchdgkoolllmaaDoor
