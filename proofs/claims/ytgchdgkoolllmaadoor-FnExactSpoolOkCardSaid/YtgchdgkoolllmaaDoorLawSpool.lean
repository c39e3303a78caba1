/- The laws FnExactSpoolOk and FnExactSpoolMany, walked. -/
import Derived.Test.YtgchdgkoolllmaaDoorSpoolM
import Derived.Test.YtgchdgkoolllmaaDoorTo
import Derived.Test.YtgchdgkoolllmaaDoorEq
import Derived.Deep.RegionHeld3
namespace Go.Proofs.YtgchdgkoolllmaaDoor
open Go.RowKit Go.Proofs.YtgchdgkoolllmaaDoorW.PrintWords
set_option linter.unusedVariables false
set_option linter.unusedSimpArgs false

set_option maxRecDepth 100000 in
set_option maxHeartbeats 8000000 in
theorem walk_FnExactSpoolMany (x : SSpool) (A0 : Option Addr) (c0 : Nat) {w : World} (hw : wideSpool x) (hr0 : Kd.C kItem w A0 x.f1.length x.f1) (hG : Glob w) :
    Calls Tryd.prog 4 #[.agg #[.int .i64 x.f0, .slice A0 x.f1.length c0]] w fun e w' => e = .returned (.bool true) ∧ Below w.heap.size w w' := by
  have hszz := fun (W : World) (hW : Below w.heap.size w W) => szSpool_any x A0 c0 1048576 W (by omega) (by omega) hw (Kd.C_below hr0 hW)
  have hto := fun (W : World) (hW : Below w.heap.size w W) (hf : fitSpool x) => toSpool_any x A0 c0 W hf (Kd.C_below hr0 hW)
  have HG := Lib.hid hG
  clear hw hr0 hG
  go_enter Tryd.func4, Tryd.ntmps4
  go_wp2_with fail
  obtain ⟨W0, hW0⟩ : ∃ W0, W0 = w.alloc (.cells #[.int .i64 x.f0, .slice A0 x.f1.length c0] 24) := ⟨_, rfl⟩
  rw [← hW0]
  have B0 : Below w.heap.size w W0 := by rw [hW0]; exact (Below.refl _ _).alloc (Nat.le_refl _) _
  have Z0 : w.heap.size < W0.heap.size := by rw [hW0]; simp
  have c0_ : W0.cell? ⟨w.heap.size, 0, none⟩ = some (.int .i64 x.f0) := by rw [hW0]; simp
  have c1_ : W0.cell? ⟨w.heap.size, 1, none⟩ = some (.slice A0 x.f1.length c0) := by rw [hW0]; simp
  have HC : Aside0 (∀ W, Below W0.heap.size W0 W → W.cell? ⟨w.heap.size, 0, none⟩ = some (.int .i64 x.f0) ∧ W.cell? ⟨w.heap.size, 1, none⟩ = some (.slice A0 x.f1.length c0)) := ⟨fun W h => ⟨(h.cell (p := ⟨w.heap.size, 0, none⟩) Z0).trans c0_, (h.cell (p := ⟨w.heap.size, 1, none⟩) Z0).trans c1_⟩⟩
  clear hW0 c0_ c1_
  have HB0 := Aside0.mk B0
  have hsz := B0.size
  clear B0
  go_wp2_with fail
  refine (hszz _ HB0.out).mono ?_
  rintro e w1 ⟨r, rfl, hle, hs, b1⟩
  have B1 : Below W0.heap.size W0 w1 := b1
  obtain ⟨c0_, c1_⟩ := HC.out _ B1
  clear b1 hszz
  by_cases n0 : r < 0
  · go_wp2
    go_ret
    exact ⟨rfl, bel_then HB0.out B1⟩
  have hf := hs (by omega)
  clear hs
  go_wp2_with fail
  refine (hto _ (bel_then HB0.out B1) hf).mono ?_
  rintro e w2 ⟨B0, d0, rfl, g2_0, b2⟩
  have B2 := bel_then B1 b2
  obtain ⟨c0_, c1_⟩ := HC.out _ B2
  go_wp2_with fail
  refine (specMany_any x B0 d0 w2 hf (Kd.R_reads' g2_0).2.2).mono ?_
  rintro e w3 ⟨rfl, b3⟩
  have B3 := bel_then B2 b3
  obtain ⟨c0_, c1_⟩ := HC.out _ B3
  clear g2_0 b2 b3
  generalize hv : spoolMany x = val
  have HV := Lib.hid hv
  clear hv
  go_wp2_with fail
  refine (hto _ (bel_then HB0.out B3) hf).mono ?_
  rintro e w4 ⟨E0, e0, rfl, g4_0, b4⟩
  have B4 := bel_then B3 b4
  obtain ⟨c0_, c1_⟩ := HC.out _ B4
  have s4 := B4.size
  have C4_0 := (Kd.R_reads' g4_0).2.2
  clear g4_0 b4
  have himp := fun (W : World) (hW : Below w4.heap.size w4 W) => spoolMany_any x E0 e0 W hf (Kd.C_below C4_0 hW) (HG.out.below (bel_then HB0.out (bel_then B4 hW)))
  rw [HV.out] at himp
  go_wp2_with fail
  refine (himp _ (bel_alloc (Below.refl _ _) _)).mono ?_
  rintro e w5 ⟨rfl, b5⟩
  have b45 := bel_then (bel_alloc (Below.refl w4.heap.size w4) _) b5
  have B5 := bel_then B4 b45
  have y0_ := (b5.cell (p := ⟨w4.heap.size, 0, none⟩) (by simp)).trans (by simp : _ = some (.int .i64 x.f0))
  have y1_ := (b5.cell (p := ⟨w4.heap.size, 1, none⟩) (by simp)).trans (by simp : _ = some (.slice E0 x.f1.length e0))
  clear b5 himp
  obtain ⟨c0_, c1_⟩ := HC.out _ B5
  have HK : Aside0 (∀ W W1, Below W.heap.size W W1 → (W.cell? ⟨w4.heap.size, 0, none⟩ = some (.int .i64 x.f0) ∧ W.cell? ⟨w4.heap.size, 1, none⟩ = some (.slice E0 x.f1.length e0) ∧ W.cell? ⟨w.heap.size, 0, none⟩ = some (.int .i64 x.f0) ∧ W.cell? ⟨w.heap.size, 1, none⟩ = some (.slice A0 x.f1.length c0) ∧ Below w5.heap.size w5 W) → (W1.cell? ⟨w4.heap.size, 0, none⟩ = some (.int .i64 x.f0) ∧ W1.cell? ⟨w4.heap.size, 1, none⟩ = some (.slice E0 x.f1.length e0) ∧ W1.cell? ⟨w.heap.size, 0, none⟩ = some (.int .i64 x.f0) ∧ W1.cell? ⟨w.heap.size, 1, none⟩ = some (.slice A0 x.f1.length c0) ∧ Below w5.heap.size w5 W1)) := ⟨fun W W1 hb h => ⟨(hb.cell (World.block_lt_of_cell? W _ (h.1))).trans (h.1), (hb.cell (World.block_lt_of_cell? W _ (h.2.1))).trans (h.2.1), (hb.cell (World.block_lt_of_cell? W _ (h.2.2.1))).trans (h.2.2.1), (hb.cell (World.block_lt_of_cell? W _ (h.2.2.2.1))).trans (h.2.2.2.1), bel_then (h.2.2.2.2) hb⟩⟩
  go_wp2
  refine wp_region_held_drew (S := (fun W => W.cell? ⟨w4.heap.size, 0, none⟩ = some (.int .i64 x.f0) ∧ W.cell? ⟨w4.heap.size, 1, none⟩ = some (.slice E0 x.f1.length e0) ∧ W.cell? ⟨w.heap.size, 0, none⟩ = some (.int .i64 x.f0) ∧ W.cell? ⟨w.heap.size, 1, none⟩ = some (.slice A0 x.f1.length c0) ∧ Below w5.heap.size w5 W)) (by kernel_rfl) ?s1 (fun hHeld => ?t1)
  case s1 => exact ⟨y0_, y1_, c0_, c1_, drew_below w5⟩
  refine wpAnyH_take (i := 0) (oi := { dst := some 22, op := Op.load 29 (Operand.tmp 5), type := 29, pos := "exact.go:3642", after := #[], guard := none }) (v := ?v2) rfl (by kernel_rfl) (by kernel_rfl) (by kernel_rfl) (fun _ _ _ h => h) (Or.inl ⟨by rfl, ?y2⟩) (by assumption) ?r2
  case y2 => intro w_ hSw; (try dsimp only at hSw); go_simp; (try (with_reducible rfl))
  try simp only [Act.put, List.setIfInBounds_toArray, List.set_cons_zero, List.set_cons_succ]
  refine wpAnyH_take (i := 1) (oi := { dst := some 23, op := Op.load 24 (Operand.tmp 1), type := 24, pos := "exact.go:3642", after := #[], guard := none }) (v := ?v3) rfl (by kernel_rfl) (by kernel_rfl) (by kernel_rfl) (fun _ _ _ h => h) (Or.inl ⟨by rfl, ?y3⟩) (by assumption) ?r3
  case y3 => intro w_ hSw; (try dsimp only at hSw); go_simp; (try (with_reducible rfl))
  try simp only [Act.put, List.setIfInBounds_toArray, List.set_cons_zero, List.set_cons_succ]
  refine wpAnyH_ready (rs := [2]) (by kernel_rfl) (by simp) ?_
  refine AllReadyH.cons (o := { dst := some 24, op := Op.call { callee := Callee.value (Operand.func 15), args := #[Operand.tmp 23], argTypes := #[24] }, type := 29, pos := "exact.go:3642", after := #[{ on := 1, ground := Ground.data }], guard := none }) rfl (fun K hK => ?k4) AllReadyH.nil
  case' k4 => skip
  go_simp
  refine (hto _ (bel_then HB0.out (bel_then B5 hHeld.2.2.2.2)) hf).mono ?_
  rintro e w6 ⟨F0, f0, rfl, g6_0, b6⟩
  have C6_0 := (Kd.R_reads' g6_0).2.2
  have hB6 := bel_then hHeld.2.2.2.2 b6
  refine hK.out _ _ ?h4 (fun hHeld => ?j4)
  case h4 => exact HK.out _ _ b6 hHeld
  clear hK K
  try simp only [Act.put, List.setIfInBounds_toArray, List.set_cons_zero, List.set_cons_succ]
  refine wpAnyH_ready (rs := [3]) (by kernel_rfl) (by simp) ?_
  refine AllReadyH.cons (o := { dst := some 25, op := Op.call { callee := Callee.value (Operand.func 17), args := #[Operand.tmp 22, Operand.tmp 24], argTypes := #[29, 29] }, type := 4, pos := "exact.go:3642", after := #[{ on := 0, ground := Ground.data }, { on := 2, ground := Ground.data }, { on := 2, ground := Ground.chain }], guard := none }) rfl (fun K hK => ?k5) AllReadyH.nil
  case' k5 => skip
  go_simp
  refine (eqSpool_any x E0 e0 F0 f0 _ hf (Kd.C_below C4_0 (bel_then b45 hB6)) C6_0).mono ?_
  rintro e w7 ⟨rfl, b7⟩
  have hB7 := bel_then hB6 b7
  refine hK.out _ _ ?h5 (fun hHeld => ?j5)
  case h5 => exact HK.out _ _ b7 hHeld
  clear hK K
  try simp only [Act.put, List.setIfInBounds_toArray, List.set_cons_zero, List.set_cons_succ]
  refine wpAnyH_take (i := 4) (oi := { dst := some 26, op := Op.unOp UnOp.not 4 (Operand.tmp 25), type := 4, pos := "exact.go:3642", after := #[{ on := 3, ground := Ground.data }], guard := none }) (v := ?v6) rfl (by kernel_rfl) (by kernel_rfl) (by kernel_rfl) (fun _ _ _ h => h) (Or.inl ⟨by rfl, ?y6⟩) (by assumption) ?r6
  case y6 => intro w_ hSw; (try dsimp only at hSw); go_simp; (try (with_reducible rfl))
  try simp only [Act.put, List.setIfInBounds_toArray, List.set_cons_zero, List.set_cons_succ]
  refine wpAnyH_done (by kernel_rfl) ?_ _
  go_wp2
  go_ret
  exact ⟨rfl, bel_then HB0.out (bel_then B5 hHeld.2.2.2.2)⟩

theorem specSpoolOk_any (s : SSpool) (A0 : Option Addr) (c0 : Nat) (w : World) (hw : fitSpool s) (hr0 : Kd.C kItem w A0 s.f1.length s.f1) :
    Calls Tryd.prog 14 #[.agg #[.int .i64 s.f0, .slice A0 s.f1.length c0]] w fun e w' => e = .returned (.bool (spoolOk s)) ∧ Below w.heap.size w w' := by
  have h1 := fun W (hW : Below w.heap.size w W) => specSpool_any s A0 c0 W hw (Kd.C_below hr0 hW)
  generalize spoolOk s = q at h1
  clear hr0
  have B0 := Below.refl w.heap.size w
  go_enter Tryd.func14, Tryd.ntmps14
  go_wp2_with (go_at_call 65; refine (h1 _ (by (with_reducible repeat (first | exact B0 | refine bel_alloc ?_ _ | refine bel_set ?_ _ ?_ | refine blw_drewN ?_ _ | refine Below.drew ?_)); all_goals (first | (simp; done) | (simp; omega) | omega))).mono ?_; rintro e w1 ⟨rfl, b1⟩; have B1 : Below w.heap.size w w1 := bel_then (by (with_reducible repeat (first | exact B0 | refine bel_alloc ?_ _ | refine bel_set ?_ _ ?_ | refine blw_drewN ?_ _ | refine Below.drew ?_)); all_goals (first | (simp; done) | (simp; omega) | omega)) b1; clear b1)
  go_ret
  exact ⟨retb rfl, B1⟩

set_option maxRecDepth 100000 in
set_option maxHeartbeats 8000000 in
theorem walk_FnExactSpoolOk (x : SSpool) (A0 : Option Addr) (c0 : Nat) {w : World} (hw : wideSpool x) (hr0 : Kd.C kItem w A0 x.f1.length x.f1) (hG : Glob w) :
    Calls Tryd.prog 3 #[.agg #[.int .i64 x.f0, .slice A0 x.f1.length c0]] w fun e w' => e = .returned (.bool true) ∧ Below w.heap.size w w' := by
  have hszz := fun (W : World) (hW : Below w.heap.size w W) => szSpool_any x A0 c0 1048576 W (by omega) (by omega) hw (Kd.C_below hr0 hW)
  have hto := fun (W : World) (hW : Below w.heap.size w W) (hf : fitSpool x) => toSpool_any x A0 c0 W hf (Kd.C_below hr0 hW)
  have HG := Lib.hid hG
  clear hw hr0 hG
  go_enter Tryd.func3, Tryd.ntmps3
  go_wp2_with fail
  obtain ⟨W0, hW0⟩ : ∃ W0, W0 = w.alloc (.cells #[.int .i64 x.f0, .slice A0 x.f1.length c0] 24) := ⟨_, rfl⟩
  rw [← hW0]
  have B0 : Below w.heap.size w W0 := by rw [hW0]; exact (Below.refl _ _).alloc (Nat.le_refl _) _
  have Z0 : w.heap.size < W0.heap.size := by rw [hW0]; simp
  have c0_ : W0.cell? ⟨w.heap.size, 0, none⟩ = some (.int .i64 x.f0) := by rw [hW0]; simp
  have c1_ : W0.cell? ⟨w.heap.size, 1, none⟩ = some (.slice A0 x.f1.length c0) := by rw [hW0]; simp
  have HC : Aside0 (∀ W, Below W0.heap.size W0 W → W.cell? ⟨w.heap.size, 0, none⟩ = some (.int .i64 x.f0) ∧ W.cell? ⟨w.heap.size, 1, none⟩ = some (.slice A0 x.f1.length c0)) := ⟨fun W h => ⟨(h.cell (p := ⟨w.heap.size, 0, none⟩) Z0).trans c0_, (h.cell (p := ⟨w.heap.size, 1, none⟩) Z0).trans c1_⟩⟩
  clear hW0 c0_ c1_
  have HB0 := Aside0.mk B0
  have hsz := B0.size
  clear B0
  go_wp2_with fail
  refine (hszz _ HB0.out).mono ?_
  rintro e w1 ⟨r, rfl, hle, hs, b1⟩
  have B1 : Below W0.heap.size W0 w1 := b1
  obtain ⟨c0_, c1_⟩ := HC.out _ B1
  clear b1 hszz
  by_cases n0 : r < 0
  · go_wp2
    go_ret
    exact ⟨rfl, bel_then HB0.out B1⟩
  have hf := hs (by omega)
  clear hs
  go_wp2_with fail
  refine (hto _ (bel_then HB0.out B1) hf).mono ?_
  rintro e w2 ⟨B0, d0, rfl, g2_0, b2⟩
  have B2 := bel_then B1 b2
  obtain ⟨c0_, c1_⟩ := HC.out _ B2
  go_wp2_with fail
  refine (specSpoolOk_any x B0 d0 w2 hf (Kd.R_reads' g2_0).2.2).mono ?_
  rintro e w3 ⟨rfl, b3⟩
  have B3 := bel_then B2 b3
  obtain ⟨c0_, c1_⟩ := HC.out _ B3
  clear g2_0 b2 b3
  generalize hv : spoolOk x = val
  have HV := Lib.hid hv
  clear hv
  go_wp2_with fail
  refine (hto _ (bel_then HB0.out B3) hf).mono ?_
  rintro e w4 ⟨E0, e0, rfl, g4_0, b4⟩
  have B4 := bel_then B3 b4
  obtain ⟨c0_, c1_⟩ := HC.out _ B4
  have s4 := B4.size
  have C4_0 := (Kd.R_reads' g4_0).2.2
  clear g4_0 b4
  have himp := fun (W : World) (hW : Below w4.heap.size w4 W) => spoolOk_any x E0 e0 W hf (Kd.C_below C4_0 hW) (HG.out.below (bel_then HB0.out (bel_then B4 hW)))
  rw [HV.out] at himp
  go_wp2_with fail
  refine (himp _ (bel_alloc (Below.refl _ _) _)).mono ?_
  rintro e w5 ⟨rfl, b5⟩
  have b45 := bel_then (bel_alloc (Below.refl w4.heap.size w4) _) b5
  have B5 := bel_then B4 b45
  have y0_ := (b5.cell (p := ⟨w4.heap.size, 0, none⟩) (by simp)).trans (by simp : _ = some (.int .i64 x.f0))
  have y1_ := (b5.cell (p := ⟨w4.heap.size, 1, none⟩) (by simp)).trans (by simp : _ = some (.slice E0 x.f1.length e0))
  clear b5 himp
  obtain ⟨c0_, c1_⟩ := HC.out _ B5
  have HK : Aside0 (∀ W W1, Below W.heap.size W W1 → (W.cell? ⟨w4.heap.size, 0, none⟩ = some (.int .i64 x.f0) ∧ W.cell? ⟨w4.heap.size, 1, none⟩ = some (.slice E0 x.f1.length e0) ∧ W.cell? ⟨w.heap.size, 0, none⟩ = some (.int .i64 x.f0) ∧ W.cell? ⟨w.heap.size, 1, none⟩ = some (.slice A0 x.f1.length c0) ∧ Below w5.heap.size w5 W) → (W1.cell? ⟨w4.heap.size, 0, none⟩ = some (.int .i64 x.f0) ∧ W1.cell? ⟨w4.heap.size, 1, none⟩ = some (.slice E0 x.f1.length e0) ∧ W1.cell? ⟨w.heap.size, 0, none⟩ = some (.int .i64 x.f0) ∧ W1.cell? ⟨w.heap.size, 1, none⟩ = some (.slice A0 x.f1.length c0) ∧ Below w5.heap.size w5 W1)) := ⟨fun W W1 hb h => ⟨(hb.cell (World.block_lt_of_cell? W _ (h.1))).trans (h.1), (hb.cell (World.block_lt_of_cell? W _ (h.2.1))).trans (h.2.1), (hb.cell (World.block_lt_of_cell? W _ (h.2.2.1))).trans (h.2.2.1), (hb.cell (World.block_lt_of_cell? W _ (h.2.2.2.1))).trans (h.2.2.2.1), bel_then (h.2.2.2.2) hb⟩⟩
  go_wp2
  refine wp_region_held_drew (S := (fun W => W.cell? ⟨w4.heap.size, 0, none⟩ = some (.int .i64 x.f0) ∧ W.cell? ⟨w4.heap.size, 1, none⟩ = some (.slice E0 x.f1.length e0) ∧ W.cell? ⟨w.heap.size, 0, none⟩ = some (.int .i64 x.f0) ∧ W.cell? ⟨w.heap.size, 1, none⟩ = some (.slice A0 x.f1.length c0) ∧ Below w5.heap.size w5 W)) (by kernel_rfl) ?s7 (fun hHeld => ?t7)
  case s7 => exact ⟨y0_, y1_, c0_, c1_, drew_below w5⟩
  refine wpAnyH_take (i := 0) (oi := { dst := some 22, op := Op.load 29 (Operand.tmp 5), type := 29, pos := "exact.go:3412", after := #[], guard := none }) (v := ?v8) rfl (by kernel_rfl) (by kernel_rfl) (by kernel_rfl) (fun _ _ _ h => h) (Or.inl ⟨by rfl, ?y8⟩) (by assumption) ?r8
  case y8 => intro w_ hSw; (try dsimp only at hSw); go_simp; (try (with_reducible rfl))
  try simp only [Act.put, List.setIfInBounds_toArray, List.set_cons_zero, List.set_cons_succ]
  refine wpAnyH_take (i := 1) (oi := { dst := some 23, op := Op.load 24 (Operand.tmp 1), type := 24, pos := "exact.go:3412", after := #[], guard := none }) (v := ?v9) rfl (by kernel_rfl) (by kernel_rfl) (by kernel_rfl) (fun _ _ _ h => h) (Or.inl ⟨by rfl, ?y9⟩) (by assumption) ?r9
  case y9 => intro w_ hSw; (try dsimp only at hSw); go_simp; (try (with_reducible rfl))
  try simp only [Act.put, List.setIfInBounds_toArray, List.set_cons_zero, List.set_cons_succ]
  refine wpAnyH_ready (rs := [2]) (by kernel_rfl) (by simp) ?_
  refine AllReadyH.cons (o := { dst := some 24, op := Op.call { callee := Callee.value (Operand.func 15), args := #[Operand.tmp 23], argTypes := #[24] }, type := 29, pos := "exact.go:3412", after := #[{ on := 1, ground := Ground.data }], guard := none }) rfl (fun K hK => ?k10) AllReadyH.nil
  case' k10 => skip
  go_simp
  refine (hto _ (bel_then HB0.out (bel_then B5 hHeld.2.2.2.2)) hf).mono ?_
  rintro e w6 ⟨F0, f0, rfl, g6_0, b6⟩
  have C6_0 := (Kd.R_reads' g6_0).2.2
  have hB6 := bel_then hHeld.2.2.2.2 b6
  refine hK.out _ _ ?h10 (fun hHeld => ?j10)
  case h10 => exact HK.out _ _ b6 hHeld
  clear hK K
  try simp only [Act.put, List.setIfInBounds_toArray, List.set_cons_zero, List.set_cons_succ]
  refine wpAnyH_ready (rs := [3]) (by kernel_rfl) (by simp) ?_
  refine AllReadyH.cons (o := { dst := some 25, op := Op.call { callee := Callee.value (Operand.func 17), args := #[Operand.tmp 22, Operand.tmp 24], argTypes := #[29, 29] }, type := 4, pos := "exact.go:3412", after := #[{ on := 0, ground := Ground.data }, { on := 2, ground := Ground.data }, { on := 2, ground := Ground.chain }], guard := none }) rfl (fun K hK => ?k11) AllReadyH.nil
  case' k11 => skip
  go_simp
  refine (eqSpool_any x E0 e0 F0 f0 _ hf (Kd.C_below C4_0 (bel_then b45 hB6)) C6_0).mono ?_
  rintro e w7 ⟨rfl, b7⟩
  have hB7 := bel_then hB6 b7
  refine hK.out _ _ ?h11 (fun hHeld => ?j11)
  case h11 => exact HK.out _ _ b7 hHeld
  clear hK K
  try simp only [Act.put, List.setIfInBounds_toArray, List.set_cons_zero, List.set_cons_succ]
  refine wpAnyH_take (i := 4) (oi := { dst := some 26, op := Op.unOp UnOp.not 4 (Operand.tmp 25), type := 4, pos := "exact.go:3412", after := #[{ on := 3, ground := Ground.data }], guard := none }) (v := ?v12) rfl (by kernel_rfl) (by kernel_rfl) (by kernel_rfl) (fun _ _ _ h => h) (Or.inl ⟨by rfl, ?y12⟩) (by assumption) ?r12
  case y12 => intro w_ hSw; (try dsimp only at hSw); go_simp; (try (with_reducible rfl))
  try simp only [Act.put, List.setIfInBounds_toArray, List.set_cons_zero, List.set_cons_succ]
  refine wpAnyH_done (by kernel_rfl) ?_ _
  go_wp2
  go_ret
  exact ⟨rfl, bel_then HB0.out (bel_then B5 hHeld.2.2.2.2)⟩

end Go.Proofs.YtgchdgkoolllmaaDoor
