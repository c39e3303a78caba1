/- The law FnCliStep, walked. -/
import Derived.Test.YtoppgnmnbbhghaaGreatDoorDrawCliStep
import Derived.Test.YtoppgnmnbbhghaaGreatDoorStepLaw
import Derived.Test.YtoppgnmnbbhghaaGreatDoorStepP
import Derived.Test.YtoppgnmnbbhghaaGreatDoorStepS7
import Derived.Test.YtoppgnmnbbhghaaGreatDoorSaB
import Derived.Deep.RegionHeld3
import Derived.IntWalk
namespace Go.Proofs.YtoppgnmnbbhghaaGreatDoor
open Go.RowKit Go.Proofs.YtoppgnmnbbhghaaGreatDoorW.PrintWords
set_option linter.unusedVariables false
set_option linter.unusedSimpArgs false

theorem bounds_u8' {n : Int} (h : (Lit.int .u8 n).wf = true) : 0 ≤ n ∧ n ≤ 255 := by
  simp [Lit.wf, IntKind.min, IntKind.max, IntKind.signed, IntKind.bits] at h
  omega
theorem mailS_len {m : SMail} (h : mailOkS m = true) : m.f1.length ≤ 4 := by
  unfold mailOkS mailOk at h
  simp only [Bool.and_eq_true, decide_eq_true_eq] at h
  have := h.2.1.2
  omega
theorem stepS_fit' {c : SCli} (answer : ByteArray) (hc : fitCli c) : fitCli (stepS c answer) := by
  have z : (⟨#[]⟩ : ByteArray).size ≤ 1048576 := Nat.zero_le _
  unfold stepS
  split
  · rename_i hok
    obtain ⟨h0, h1, _⟩ := hc
    have hk := cliOk_step hok (codeOf answer)
    obtain ⟨⟨_, hm⟩, hw⟩ := (cliOk_iff _).1 hk
    have hr := stepC_rest c (codeOf answer)
    have hl := mailS_len hm
    refine ⟨by rw [hr.1]; exact h0, by rw [hr.2.1]; exact h1, WalkArith.wf_i64 (by have := hw.1; omega), WalkArith.wf_i64 (by have := hw.2.1; omega), by have := hw.2.2.2.1; omega, fun y hy => WalkArith.wf_i64 (by have := hw.2.2.2.2 y hy; omega)⟩
  · exact ⟨z, ⟨⟨z, z⟩, ⟨Nat.zero_le _, fun y hy => by cases hy⟩, ⟨Nat.zero_le _, fun y hy => by cases hy⟩⟩, by decide, by decide, ⟨Nat.zero_le _, fun y hy => by cases hy⟩⟩
set_option maxRecDepth 100000 in
set_option maxHeartbeats 2000000 in
theorem specCliOk_any (c : SCli) (A0 : Option Addr) (c0 : Nat) (A1 : Option Addr) (c1 : Nat) (A2 : Option Addr) (c2 : Nat) (w : World) (hw : fitCli c) (hr0 : Kd.C kAddr w A0 c.f1.f1.length c.f1.f1) (hr1 : Kd.C Kd.string w A1 c.f1.f2.length c.f1.f2) (hr2 : Kd.C (Kd.int .i64) w A2 c.f4.length c.f4) :
    Calls Tryz.prog 25 #[.agg #[.string c.f0, .string c.f1.f0.f0, .string c.f1.f0.f1, .slice A0 c.f1.f1.length c0, .slice A1 c.f1.f2.length c1, .int .i64 c.f2, .int .i64 c.f3, .slice A2 c.f4.length c2]] w fun e w' => e = .returned (.bool (cliOk c)) ∧ Below w.heap.size w w' := by
  have h1 := fun W (hW : Below w.heap.size w W) => specCli_any c A0 c0 A1 c1 A2 c2 W hw (Kd.C_below hr0 hW) (Kd.C_below hr1 hW) (Kd.C_below hr2 hW)
  clear hw hr0 hr1 hr2
  generalize cliOk c = q at h1
  go_enter Tryz.func25, Tryz.ntmps25
  go_wp2_with fail
  refine Calls.mono (h1 _ (bel_alloc (Below.refl _ _) _)) ?_
  rintro e w1 ⟨rfl, b1⟩
  have B1 := bel_then (bel_alloc (Below.refl w.heap.size w) _) b1
  clear b1 h1
  go_wp2
  go_ret
  exact ⟨rfl, B1⟩
set_option maxRecDepth 100000 in
set_option maxHeartbeats 40000000 in
theorem walk_FnCliStep {w : World} (A : Option Addr) (c : Nat) (xs : List Int) (hr : Kd.C (Kd.int .u8) w A xs.length xs) (hg : xs.length ≤ 9223372036854775807 ∧ ∀ y ∈ xs, (Lit.int .u8 y).wf = true) (hc : xs.length ≤ c) (hG : Glob w) :
    Calls Tryz.prog 5 #[.slice A xs.length c] w fun e w' => e = .returned (.bool true) ∧ Below w.heap.size w w' := by
  by_cases n_code : (1048576 : Int) < (xs.length : Int)
  · generalize xs.length = L at n_code
    go_enter Tryz.func5, Tryz.ntmps5
    go_wp2
    go_ret
    exact ⟨rfl, Below.refl _ _⟩
  have hd := drawCliStep_any A c xs w ⟨by omega, fun y hy => by have := bounds_u8' (hg.2 y hy); omega⟩ hc hr
  clear hr hg hc
  generalize xs.length = L at n_code hd
  go_enter Tryz.func5, Tryz.ntmps5
  go_wp2_with fail
  refine Calls.mono hd ?_
  rintro e w1 ⟨x, A0, c0, A1, c1, A2, c2, an, rfl, hf, han, r0, r1, r2, b1⟩
  have HG := Lib.hid (hG.below b1)
  have BW := Lib.hid b1
  have SZ := Lib.hid b1.size
  clear hd hG b1

  have hfX := stepS_fit' an hf
  obtain ⟨X, hX⟩ : ∃ X, X = stepS x an := ⟨_, rfl⟩
  obtain ⟨TX, hT⟩ : ∃ t, t = stepT x an := ⟨_, rfl⟩
  rw [← hX] at hfX
  have HX := Lib.hid hX.symm
  have HT := Lib.hid hT.symm
  have HXE := Lib.hid hX
  have HXF := Lib.hid hfX
  have HF := Lib.hid hf
  have HAN := Lib.hid (show an.size ≤ 1048576 by omega)
  have Cx0 := Aside0.mk (Kd.R_reads' r0).2.2
  have Cx1 := Aside0.mk (Kd.R_reads' r1).2.2
  have Cx2 := Aside0.mk (Kd.R_reads' r2).2.2
  clear r0 r1 r2 hfX hX hT han
  go_wp2_with fail
  refine Calls.mono (cliStep_any x A0 c0 A1 c1 A2 c2 an _ HF.out HAN.out (Kd.C_below Cx0.out (bel_alloc (Below.refl _ _) _)) (Kd.C_below Cx1.out (bel_alloc (Below.refl _ _) _)) (Kd.C_below Cx2.out (bel_alloc (Below.refl _ _) _)) (HG.out.below (bel_alloc (Below.refl _ _) _))) ?_
  rintro e w2 ⟨D0, d0, D1, d1, D2, d2, rfl, g0, g1, g2, b2⟩
  simp only [HX.out, HT.out] at g0 g1 g2 ⊢
  have FC := below_blk (blk_new w1 (.cells #[.string x.f0, .string x.f1.f0.f0, .string x.f1.f0.f1, .slice A0 x.f1.f1.length c0, .slice A1 x.f1.f2.length c1, .int .i64 x.f2, .int .i64 x.f3, .slice A2 x.f4.length c2] 31)) b2
  have B12 : Below w1.heap.size w1 w2 := bel_then (bel_alloc (Below.refl _ _) _) b2
  have z1 : w1.heap.size < w2.heap.size := blk_lt FC
  obtain ⟨c0_, c1_, c2_, c3_, c4_, c5_, c6_, c7_⟩ := cells8 FC
  clear b2
  go_wp2_with fail
  refine Calls.mono (specCliStep_any x A0 c0 A1 c1 A2 c2 an _ HF.out HAN.out (Kd.C_below Cx0.out (bel_alloc B12 _)) (Kd.C_below Cx1.out (bel_alloc B12 _)) (Kd.C_below Cx2.out (bel_alloc B12 _))) ?_
  rintro e w3 ⟨E0, e0, E1, e1, E2, e2, rfl, k0, k1, k2, b3⟩
  simp only [HX.out, HT.out] at k0 k1 k2 ⊢
  clear c0_ c1_ c2_ c3_ c4_ c5_ c6_ c7_
  have FC := below_blk (below_blk FC (bel_alloc (Below.refl _ _) _)) b3
  have FX := below_blk (blk_new w2 (.cells #[.string X.f0, .string X.f1.f0.f0, .string X.f1.f0.f1, .slice D0 X.f1.f1.length d0, .slice D1 X.f1.f2.length d1, .int .i64 X.f2, .int .i64 X.f3, .slice D2 X.f4.length d2] 31)) b3
  have B23 : Below w2.heap.size w2 w3 := bel_then (bel_alloc (Below.refl _ _) _) b3
  have z2 : w2.heap.size < w3.heap.size := blk_lt FX
  clear b3
  go_wp2
  generalize hV3 : World.alloc w3 _ = V3
  have FW : V3.heap[w3.heap.size]? = some (.cells #[.string X.f0, .string X.f1.f0.f0, .string X.f1.f0.f1, .slice E0 X.f1.f1.length e0, .slice E1 X.f1.f2.length e1, .int .i64 X.f2, .int .i64 X.f3, .slice E2 X.f4.length e2] 31 (0, 0)) := by rw [← hV3]; exact blk_new _ _
  have b4 : Below w3.heap.size w3 V3 := by rw [← hV3]; exact bel_alloc (Below.refl _ _) _
  have z3 : w3.heap.size < V3.heap.size := blk_lt FW
  clear hV3
  have FC := below_blk FC b4
  have FX := below_blk FX b4
  have B13 : Below w1.heap.size w1 V3 := bel_then (bel_then B12 B23) b4
  have GX0 := Aside0.mk (Kd.R_lower (base' := w1.heap.size) (Kd.R_below g0 (bel_then B23 b4)) (by first | (simp; done) | (simp; omega)))
  have GX1 := Aside0.mk (Kd.R_lower (base' := w1.heap.size) (Kd.R_below g1 (bel_then B23 b4)) (by first | (simp; done) | (simp; omega)))
  have GX2 := Aside0.mk (Kd.R_lower (base' := w1.heap.size) (Kd.R_below g2 (bel_then B23 b4)) (by first | (simp; done) | (simp; omega)))
  have CX0 := Aside0.mk (Kd.R_reads' GX0.out).2.2
  have CX1 := Aside0.mk (Kd.R_reads' GX1.out).2.2
  have CX2 := Aside0.mk (Kd.R_reads' GX2.out).2.2
  have CW0 := Aside0.mk (Kd.C_below (Kd.R_reads' k0).2.2 b4)
  have CW1 := Aside0.mk (Kd.C_below (Kd.R_reads' k1).2.2 b4)
  have CW2 := Aside0.mk (Kd.C_below (Kd.R_reads' k2).2.2 b4)
  replace Cx0 := Aside0.mk (Kd.C_below Cx0.out B13)
  replace Cx1 := Aside0.mk (Kd.C_below Cx1.out B13)
  replace Cx2 := Aside0.mk (Kd.C_below Cx2.out B13)
  have HG3 := Lib.hid (HG.out.below B13)
  have SZ3 := Lib.hid (BW.out.trans (B13.mono SZ.out))
  have ZZ := Lib.hid (⟨z1, z2, z3⟩ : _ ∧ _ ∧ _)
  have HFC := Aside0.mk FC
  have HFX := Aside0.mk FX
  have HFW := Aside0.mk FW
  obtain ⟨q, hq⟩ : ∃ q, q = cliOk x := ⟨_, rfl⟩
  have HQ := Lib.hid hq.symm
  have hok : ∀ W, Below V3.heap.size V3 W → Calls Tryz.prog 11 #[.agg #[.string x.f0, .string x.f1.f0.f0, .string x.f1.f0.f1, .slice A0 x.f1.f1.length c0, .slice A1 x.f1.f2.length c1, .int .i64 x.f2, .int .i64 x.f3, .slice A2 x.f4.length c2]] W fun e w' => e = .returned (.bool q) ∧ Below W.heap.size W w' := fun W hW => by have h := cliOk_any x A0 c0 A1 c1 A2 c2 W HF.out (Kd.C_below Cx0.out hW) (Kd.C_below Cx1.out hW) (Kd.C_below Cx2.out hW) (HG3.out.below hW); rw [HQ.out] at h; exact h
  have hsok : ∀ W, Below V3.heap.size V3 W → Calls Tryz.prog 25 #[.agg #[.string x.f0, .string x.f1.f0.f0, .string x.f1.f0.f1, .slice A0 x.f1.f1.length c0, .slice A1 x.f1.f2.length c1, .int .i64 x.f2, .int .i64 x.f3, .slice A2 x.f4.length c2]] W fun e w' => e = .returned (.bool q) ∧ Below W.heap.size W w' := fun W hW => by have h := specCliOk_any x A0 c0 A1 c1 A2 c2 W HF.out (Kd.C_below Cx0.out hW) (Kd.C_below Cx1.out hW) (Kd.C_below Cx2.out hW); rw [HQ.out] at h; exact h
  have HK : Aside0 (∀ W W1, Below W.heap.size W W1 → (W.cell? ⟨w1.heap.size, 0, none⟩ = some (.string x.f0) ∧ W.cell? ⟨w1.heap.size, 1, none⟩ = some (.string x.f1.f0.f0) ∧ W.cell? ⟨w1.heap.size, 2, none⟩ = some (.string x.f1.f0.f1) ∧ W.cell? ⟨w1.heap.size, 3, none⟩ = some (.slice A0 x.f1.f1.length c0) ∧ W.cell? ⟨w1.heap.size, 4, none⟩ = some (.slice A1 x.f1.f2.length c1) ∧ W.cell? ⟨w1.heap.size, 5, none⟩ = some (.int .i64 x.f2) ∧ W.cell? ⟨w1.heap.size, 6, none⟩ = some (.int .i64 x.f3) ∧ W.cell? ⟨w1.heap.size, 7, none⟩ = some (.slice A2 x.f4.length c2) ∧ W.cell? ⟨w2.heap.size, 0, none⟩ = some (.string X.f0) ∧ W.cell? ⟨w2.heap.size, 1, none⟩ = some (.string X.f1.f0.f0) ∧ W.cell? ⟨w2.heap.size, 2, none⟩ = some (.string X.f1.f0.f1) ∧ W.cell? ⟨w2.heap.size, 3, none⟩ = some (.slice D0 X.f1.f1.length d0) ∧ W.cell? ⟨w2.heap.size, 4, none⟩ = some (.slice D1 X.f1.f2.length d1) ∧ W.cell? ⟨w2.heap.size, 5, none⟩ = some (.int .i64 X.f2) ∧ W.cell? ⟨w2.heap.size, 6, none⟩ = some (.int .i64 X.f3) ∧ W.cell? ⟨w2.heap.size, 7, none⟩ = some (.slice D2 X.f4.length d2) ∧ W.cell? ⟨w3.heap.size, 0, none⟩ = some (.string X.f0) ∧ W.cell? ⟨w3.heap.size, 1, none⟩ = some (.string X.f1.f0.f0) ∧ W.cell? ⟨w3.heap.size, 2, none⟩ = some (.string X.f1.f0.f1) ∧ W.cell? ⟨w3.heap.size, 3, none⟩ = some (.slice E0 X.f1.f1.length e0) ∧ W.cell? ⟨w3.heap.size, 4, none⟩ = some (.slice E1 X.f1.f2.length e1) ∧ W.cell? ⟨w3.heap.size, 5, none⟩ = some (.int .i64 X.f2) ∧ W.cell? ⟨w3.heap.size, 6, none⟩ = some (.int .i64 X.f3) ∧ W.cell? ⟨w3.heap.size, 7, none⟩ = some (.slice E2 X.f4.length e2) ∧ Below V3.heap.size V3 W) → (W1.cell? ⟨w1.heap.size, 0, none⟩ = some (.string x.f0) ∧ W1.cell? ⟨w1.heap.size, 1, none⟩ = some (.string x.f1.f0.f0) ∧ W1.cell? ⟨w1.heap.size, 2, none⟩ = some (.string x.f1.f0.f1) ∧ W1.cell? ⟨w1.heap.size, 3, none⟩ = some (.slice A0 x.f1.f1.length c0) ∧ W1.cell? ⟨w1.heap.size, 4, none⟩ = some (.slice A1 x.f1.f2.length c1) ∧ W1.cell? ⟨w1.heap.size, 5, none⟩ = some (.int .i64 x.f2) ∧ W1.cell? ⟨w1.heap.size, 6, none⟩ = some (.int .i64 x.f3) ∧ W1.cell? ⟨w1.heap.size, 7, none⟩ = some (.slice A2 x.f4.length c2) ∧ W1.cell? ⟨w2.heap.size, 0, none⟩ = some (.string X.f0) ∧ W1.cell? ⟨w2.heap.size, 1, none⟩ = some (.string X.f1.f0.f0) ∧ W1.cell? ⟨w2.heap.size, 2, none⟩ = some (.string X.f1.f0.f1) ∧ W1.cell? ⟨w2.heap.size, 3, none⟩ = some (.slice D0 X.f1.f1.length d0) ∧ W1.cell? ⟨w2.heap.size, 4, none⟩ = some (.slice D1 X.f1.f2.length d1) ∧ W1.cell? ⟨w2.heap.size, 5, none⟩ = some (.int .i64 X.f2) ∧ W1.cell? ⟨w2.heap.size, 6, none⟩ = some (.int .i64 X.f3) ∧ W1.cell? ⟨w2.heap.size, 7, none⟩ = some (.slice D2 X.f4.length d2) ∧ W1.cell? ⟨w3.heap.size, 0, none⟩ = some (.string X.f0) ∧ W1.cell? ⟨w3.heap.size, 1, none⟩ = some (.string X.f1.f0.f0) ∧ W1.cell? ⟨w3.heap.size, 2, none⟩ = some (.string X.f1.f0.f1) ∧ W1.cell? ⟨w3.heap.size, 3, none⟩ = some (.slice E0 X.f1.f1.length e0) ∧ W1.cell? ⟨w3.heap.size, 4, none⟩ = some (.slice E1 X.f1.f2.length e1) ∧ W1.cell? ⟨w3.heap.size, 5, none⟩ = some (.int .i64 X.f2) ∧ W1.cell? ⟨w3.heap.size, 6, none⟩ = some (.int .i64 X.f3) ∧ W1.cell? ⟨w3.heap.size, 7, none⟩ = some (.slice E2 X.f4.length e2) ∧ Below V3.heap.size V3 W1)) := ⟨fun W W1 hb h => ⟨(hb.cell (World.block_lt_of_cell? W _ (h.1))).trans (h.1), (hb.cell (World.block_lt_of_cell? W _ (h.2.1))).trans (h.2.1), (hb.cell (World.block_lt_of_cell? W _ (h.2.2.1))).trans (h.2.2.1), (hb.cell (World.block_lt_of_cell? W _ (h.2.2.2.1))).trans (h.2.2.2.1), (hb.cell (World.block_lt_of_cell? W _ (h.2.2.2.2.1))).trans (h.2.2.2.2.1), (hb.cell (World.block_lt_of_cell? W _ (h.2.2.2.2.2.1))).trans (h.2.2.2.2.2.1), (hb.cell (World.block_lt_of_cell? W _ (h.2.2.2.2.2.2.1))).trans (h.2.2.2.2.2.2.1), (hb.cell (World.block_lt_of_cell? W _ (h.2.2.2.2.2.2.2.1))).trans (h.2.2.2.2.2.2.2.1), (hb.cell (World.block_lt_of_cell? W _ (h.2.2.2.2.2.2.2.2.1))).trans (h.2.2.2.2.2.2.2.2.1), (hb.cell (World.block_lt_of_cell? W _ (h.2.2.2.2.2.2.2.2.2.1))).trans (h.2.2.2.2.2.2.2.2.2.1), (hb.cell (World.block_lt_of_cell? W _ (h.2.2.2.2.2.2.2.2.2.2.1))).trans (h.2.2.2.2.2.2.2.2.2.2.1), (hb.cell (World.block_lt_of_cell? W _ (h.2.2.2.2.2.2.2.2.2.2.2.1))).trans (h.2.2.2.2.2.2.2.2.2.2.2.1), (hb.cell (World.block_lt_of_cell? W _ (h.2.2.2.2.2.2.2.2.2.2.2.2.1))).trans (h.2.2.2.2.2.2.2.2.2.2.2.2.1), (hb.cell (World.block_lt_of_cell? W _ (h.2.2.2.2.2.2.2.2.2.2.2.2.2.1))).trans (h.2.2.2.2.2.2.2.2.2.2.2.2.2.1), (hb.cell (World.block_lt_of_cell? W _ (h.2.2.2.2.2.2.2.2.2.2.2.2.2.2.1))).trans (h.2.2.2.2.2.2.2.2.2.2.2.2.2.2.1), (hb.cell (World.block_lt_of_cell? W _ (h.2.2.2.2.2.2.2.2.2.2.2.2.2.2.2.1))).trans (h.2.2.2.2.2.2.2.2.2.2.2.2.2.2.2.1), (hb.cell (World.block_lt_of_cell? W _ (h.2.2.2.2.2.2.2.2.2.2.2.2.2.2.2.2.1))).trans (h.2.2.2.2.2.2.2.2.2.2.2.2.2.2.2.2.1), (hb.cell (World.block_lt_of_cell? W _ (h.2.2.2.2.2.2.2.2.2.2.2.2.2.2.2.2.2.1))).trans (h.2.2.2.2.2.2.2.2.2.2.2.2.2.2.2.2.2.1), (hb.cell (World.block_lt_of_cell? W _ (h.2.2.2.2.2.2.2.2.2.2.2.2.2.2.2.2.2.2.1))).trans (h.2.2.2.2.2.2.2.2.2.2.2.2.2.2.2.2.2.2.1), (hb.cell (World.block_lt_of_cell? W _ (h.2.2.2.2.2.2.2.2.2.2.2.2.2.2.2.2.2.2.2.1))).trans (h.2.2.2.2.2.2.2.2.2.2.2.2.2.2.2.2.2.2.2.1), (hb.cell (World.block_lt_of_cell? W _ (h.2.2.2.2.2.2.2.2.2.2.2.2.2.2.2.2.2.2.2.2.1))).trans (h.2.2.2.2.2.2.2.2.2.2.2.2.2.2.2.2.2.2.2.2.1), (hb.cell (World.block_lt_of_cell? W _ (h.2.2.2.2.2.2.2.2.2.2.2.2.2.2.2.2.2.2.2.2.2.1))).trans (h.2.2.2.2.2.2.2.2.2.2.2.2.2.2.2.2.2.2.2.2.2.1), (hb.cell (World.block_lt_of_cell? W _ (h.2.2.2.2.2.2.2.2.2.2.2.2.2.2.2.2.2.2.2.2.2.2.1))).trans (h.2.2.2.2.2.2.2.2.2.2.2.2.2.2.2.2.2.2.2.2.2.2.1), (hb.cell (World.block_lt_of_cell? W _ (h.2.2.2.2.2.2.2.2.2.2.2.2.2.2.2.2.2.2.2.2.2.2.2.1))).trans (h.2.2.2.2.2.2.2.2.2.2.2.2.2.2.2.2.2.2.2.2.2.2.2.1), bel_then (h.2.2.2.2.2.2.2.2.2.2.2.2.2.2.2.2.2.2.2.2.2.2.2.2) hb⟩⟩
  have HST : Aside0 ((fun W => W.cell? ⟨w1.heap.size, 0, none⟩ = some (.string x.f0) ∧ W.cell? ⟨w1.heap.size, 1, none⟩ = some (.string x.f1.f0.f0) ∧ W.cell? ⟨w1.heap.size, 2, none⟩ = some (.string x.f1.f0.f1) ∧ W.cell? ⟨w1.heap.size, 3, none⟩ = some (.slice A0 x.f1.f1.length c0) ∧ W.cell? ⟨w1.heap.size, 4, none⟩ = some (.slice A1 x.f1.f2.length c1) ∧ W.cell? ⟨w1.heap.size, 5, none⟩ = some (.int .i64 x.f2) ∧ W.cell? ⟨w1.heap.size, 6, none⟩ = some (.int .i64 x.f3) ∧ W.cell? ⟨w1.heap.size, 7, none⟩ = some (.slice A2 x.f4.length c2) ∧ W.cell? ⟨w2.heap.size, 0, none⟩ = some (.string X.f0) ∧ W.cell? ⟨w2.heap.size, 1, none⟩ = some (.string X.f1.f0.f0) ∧ W.cell? ⟨w2.heap.size, 2, none⟩ = some (.string X.f1.f0.f1) ∧ W.cell? ⟨w2.heap.size, 3, none⟩ = some (.slice D0 X.f1.f1.length d0) ∧ W.cell? ⟨w2.heap.size, 4, none⟩ = some (.slice D1 X.f1.f2.length d1) ∧ W.cell? ⟨w2.heap.size, 5, none⟩ = some (.int .i64 X.f2) ∧ W.cell? ⟨w2.heap.size, 6, none⟩ = some (.int .i64 X.f3) ∧ W.cell? ⟨w2.heap.size, 7, none⟩ = some (.slice D2 X.f4.length d2) ∧ W.cell? ⟨w3.heap.size, 0, none⟩ = some (.string X.f0) ∧ W.cell? ⟨w3.heap.size, 1, none⟩ = some (.string X.f1.f0.f0) ∧ W.cell? ⟨w3.heap.size, 2, none⟩ = some (.string X.f1.f0.f1) ∧ W.cell? ⟨w3.heap.size, 3, none⟩ = some (.slice E0 X.f1.f1.length e0) ∧ W.cell? ⟨w3.heap.size, 4, none⟩ = some (.slice E1 X.f1.f2.length e1) ∧ W.cell? ⟨w3.heap.size, 5, none⟩ = some (.int .i64 X.f2) ∧ W.cell? ⟨w3.heap.size, 6, none⟩ = some (.int .i64 X.f3) ∧ W.cell? ⟨w3.heap.size, 7, none⟩ = some (.slice E2 X.f4.length e2) ∧ Below V3.heap.size V3 W) V3.drew) := ⟨(by have h1 := cells8 (show V3.drew.heap[w1.heap.size]? = _ from HFC.out); have h2 := cells8 (show V3.drew.heap[w2.heap.size]? = _ from HFX.out); have h3 := cells8 (show V3.drew.heap[w3.heap.size]? = _ from HFW.out); exact ⟨h1.1, h1.2.1, h1.2.2.1, h1.2.2.2.1, h1.2.2.2.2.1, h1.2.2.2.2.2.1, h1.2.2.2.2.2.2.1, h1.2.2.2.2.2.2.2, h2.1, h2.2.1, h2.2.2.1, h2.2.2.2.1, h2.2.2.2.2.1, h2.2.2.2.2.2.1, h2.2.2.2.2.2.2.1, h2.2.2.2.2.2.2.2, h3.1, h3.2.1, h3.2.2.1, h3.2.2.2.1, h3.2.2.2.2.1, h3.2.2.2.2.2.1, h3.2.2.2.2.2.2.1, h3.2.2.2.2.2.2.2, drew_below0 V3⟩)⟩
  clear g0 g1 g2 k0 k1 k2 B12 B23 b4 B13 FC FX FW hq z1 z2 z3
  cases q
  · -- not ok
    have join : Hid (∀ {goal : Prop} {G : World → Prop} (rg : Hid (∀ V, (V.cell? ⟨w1.heap.size, 0, none⟩ = some (.string x.f0) ∧ V.cell? ⟨w1.heap.size, 1, none⟩ = some (.string x.f1.f0.f0) ∧ V.cell? ⟨w1.heap.size, 2, none⟩ = some (.string x.f1.f0.f1) ∧ V.cell? ⟨w1.heap.size, 3, none⟩ = some (.slice A0 x.f1.f1.length c0) ∧ V.cell? ⟨w1.heap.size, 4, none⟩ = some (.slice A1 x.f1.f2.length c1) ∧ V.cell? ⟨w1.heap.size, 5, none⟩ = some (.int .i64 x.f2) ∧ V.cell? ⟨w1.heap.size, 6, none⟩ = some (.int .i64 x.f3) ∧ V.cell? ⟨w1.heap.size, 7, none⟩ = some (.slice A2 x.f4.length c2) ∧ V.cell? ⟨w2.heap.size, 0, none⟩ = some (.string X.f0) ∧ V.cell? ⟨w2.heap.size, 1, none⟩ = some (.string X.f1.f0.f0) ∧ V.cell? ⟨w2.heap.size, 2, none⟩ = some (.string X.f1.f0.f1) ∧ V.cell? ⟨w2.heap.size, 3, none⟩ = some (.slice D0 X.f1.f1.length d0) ∧ V.cell? ⟨w2.heap.size, 4, none⟩ = some (.slice D1 X.f1.f2.length d1) ∧ V.cell? ⟨w2.heap.size, 5, none⟩ = some (.int .i64 X.f2) ∧ V.cell? ⟨w2.heap.size, 6, none⟩ = some (.int .i64 X.f3) ∧ V.cell? ⟨w2.heap.size, 7, none⟩ = some (.slice D2 X.f4.length d2) ∧ V.cell? ⟨w3.heap.size, 0, none⟩ = some (.string X.f0) ∧ V.cell? ⟨w3.heap.size, 1, none⟩ = some (.string X.f1.f0.f0) ∧ V.cell? ⟨w3.heap.size, 2, none⟩ = some (.string X.f1.f0.f1) ∧ V.cell? ⟨w3.heap.size, 3, none⟩ = some (.slice E0 X.f1.f1.length e0) ∧ V.cell? ⟨w3.heap.size, 4, none⟩ = some (.slice E1 X.f1.f2.length e1) ∧ V.cell? ⟨w3.heap.size, 5, none⟩ = some (.int .i64 X.f2) ∧ V.cell? ⟨w3.heap.size, 6, none⟩ = some (.int .i64 X.f3) ∧ V.cell? ⟨w3.heap.size, 7, none⟩ = some (.slice E2 X.f4.length e2) ∧ Below V3.heap.size V3 V) → G V) → goal) (hk : ∀ V, (V.cell? ⟨w1.heap.size, 0, none⟩ = some (.string x.f0) ∧ V.cell? ⟨w1.heap.size, 1, none⟩ = some (.string x.f1.f0.f0) ∧ V.cell? ⟨w1.heap.size, 2, none⟩ = some (.string x.f1.f0.f1) ∧ V.cell? ⟨w1.heap.size, 3, none⟩ = some (.slice A0 x.f1.f1.length c0) ∧ V.cell? ⟨w1.heap.size, 4, none⟩ = some (.slice A1 x.f1.f2.length c1) ∧ V.cell? ⟨w1.heap.size, 5, none⟩ = some (.int .i64 x.f2) ∧ V.cell? ⟨w1.heap.size, 6, none⟩ = some (.int .i64 x.f3) ∧ V.cell? ⟨w1.heap.size, 7, none⟩ = some (.slice A2 x.f4.length c2) ∧ V.cell? ⟨w2.heap.size, 0, none⟩ = some (.string X.f0) ∧ V.cell? ⟨w2.heap.size, 1, none⟩ = some (.string X.f1.f0.f0) ∧ V.cell? ⟨w2.heap.size, 2, none⟩ = some (.string X.f1.f0.f1) ∧ V.cell? ⟨w2.heap.size, 3, none⟩ = some (.slice D0 X.f1.f1.length d0) ∧ V.cell? ⟨w2.heap.size, 4, none⟩ = some (.slice D1 X.f1.f2.length d1) ∧ V.cell? ⟨w2.heap.size, 5, none⟩ = some (.int .i64 X.f2) ∧ V.cell? ⟨w2.heap.size, 6, none⟩ = some (.int .i64 X.f3) ∧ V.cell? ⟨w2.heap.size, 7, none⟩ = some (.slice D2 X.f4.length d2) ∧ V.cell? ⟨w3.heap.size, 0, none⟩ = some (.string X.f0) ∧ V.cell? ⟨w3.heap.size, 1, none⟩ = some (.string X.f1.f0.f0) ∧ V.cell? ⟨w3.heap.size, 2, none⟩ = some (.string X.f1.f0.f1) ∧ V.cell? ⟨w3.heap.size, 3, none⟩ = some (.slice E0 X.f1.f1.length e0) ∧ V.cell? ⟨w3.heap.size, 4, none⟩ = some (.slice E1 X.f1.f2.length e1) ∧ V.cell? ⟨w3.heap.size, 5, none⟩ = some (.int .i64 X.f2) ∧ V.cell? ⟨w3.heap.size, 6, none⟩ = some (.int .i64 X.f3) ∧ V.cell? ⟨w3.heap.size, 7, none⟩ = some (.slice E2 X.f4.length e2) ∧ Below V3.heap.size V3 V) → G V), goal) := Lib.hid (fun f h => f (Lib.hid h))
    apply join.out
    case rg =>
      intro HKK
      refine wp_region_held_drew (S := (fun W => W.cell? ⟨w1.heap.size, 0, none⟩ = some (.string x.f0) ∧ W.cell? ⟨w1.heap.size, 1, none⟩ = some (.string x.f1.f0.f0) ∧ W.cell? ⟨w1.heap.size, 2, none⟩ = some (.string x.f1.f0.f1) ∧ W.cell? ⟨w1.heap.size, 3, none⟩ = some (.slice A0 x.f1.f1.length c0) ∧ W.cell? ⟨w1.heap.size, 4, none⟩ = some (.slice A1 x.f1.f2.length c1) ∧ W.cell? ⟨w1.heap.size, 5, none⟩ = some (.int .i64 x.f2) ∧ W.cell? ⟨w1.heap.size, 6, none⟩ = some (.int .i64 x.f3) ∧ W.cell? ⟨w1.heap.size, 7, none⟩ = some (.slice A2 x.f4.length c2) ∧ W.cell? ⟨w2.heap.size, 0, none⟩ = some (.string X.f0) ∧ W.cell? ⟨w2.heap.size, 1, none⟩ = some (.string X.f1.f0.f0) ∧ W.cell? ⟨w2.heap.size, 2, none⟩ = some (.string X.f1.f0.f1) ∧ W.cell? ⟨w2.heap.size, 3, none⟩ = some (.slice D0 X.f1.f1.length d0) ∧ W.cell? ⟨w2.heap.size, 4, none⟩ = some (.slice D1 X.f1.f2.length d1) ∧ W.cell? ⟨w2.heap.size, 5, none⟩ = some (.int .i64 X.f2) ∧ W.cell? ⟨w2.heap.size, 6, none⟩ = some (.int .i64 X.f3) ∧ W.cell? ⟨w2.heap.size, 7, none⟩ = some (.slice D2 X.f4.length d2) ∧ W.cell? ⟨w3.heap.size, 0, none⟩ = some (.string X.f0) ∧ W.cell? ⟨w3.heap.size, 1, none⟩ = some (.string X.f1.f0.f0) ∧ W.cell? ⟨w3.heap.size, 2, none⟩ = some (.string X.f1.f0.f1) ∧ W.cell? ⟨w3.heap.size, 3, none⟩ = some (.slice E0 X.f1.f1.length e0) ∧ W.cell? ⟨w3.heap.size, 4, none⟩ = some (.slice E1 X.f1.f2.length e1) ∧ W.cell? ⟨w3.heap.size, 5, none⟩ = some (.int .i64 X.f2) ∧ W.cell? ⟨w3.heap.size, 6, none⟩ = some (.int .i64 X.f3) ∧ W.cell? ⟨w3.heap.size, 7, none⟩ = some (.slice E2 X.f4.length e2) ∧ Below V3.heap.size V3 W)) (by kernel_rfl) ?s1 (fun hHeld => ?t1)
      case s1 => exact HST.out
      generalize World.drew _ = V0 at hHeld ⊢
      refine wpAnyH_take (i := 0) (oi := { dst := some 33, op := Op.move (Operand.tmp 6), type := 9, pos := "laws.go:369", after := #[], guard := none }) (v := ?v2) rfl (by kernel_rfl) (by kernel_rfl) (by kernel_rfl) (fun _ _ _ h => h) (Or.inl ⟨by rfl, ?y2⟩) (by assumption) ?r2
      case y2 => intro w_ hSw; (try dsimp only at hSw); go_simp; (try (with_reducible rfl))
      try simp only [Act.put, List.setIfInBounds_toArray, List.set_cons_zero, List.set_cons_succ]
      refine wpAnyH_take (i := 1) (oi := { dst := some 34, op := Op.move (Operand.tmp 8), type := 9, pos := "laws.go:369", after := #[], guard := none }) (v := ?v3) rfl (by kernel_rfl) (by kernel_rfl) (by kernel_rfl) (fun _ _ _ h => h) (Or.inl ⟨by rfl, ?y3⟩) (by assumption) ?r3
      case y3 => intro w_ hSw; (try dsimp only at hSw); go_simp; (try (with_reducible rfl))
      try simp only [Act.put, List.setIfInBounds_toArray, List.set_cons_zero, List.set_cons_succ]
      refine wpAnyH_take (i := 2) (oi := { dst := some 35, op := Op.binOp BinOp.neq 9 (Operand.tmp 33) (Operand.tmp 34) 9, type := 4, pos := "laws.go:369", after := #[{ on := 0, ground := Ground.data }, { on := 1, ground := Ground.data }], guard := none }) (v := ?v4) rfl (by kernel_rfl) (by kernel_rfl) (by kernel_rfl) (fun _ _ _ h => h) (Or.inl ⟨by rfl, ?y4⟩) (by assumption) ?r4
      case y4 => intro w_ hSw; (try dsimp only at hSw); go_simp; (try (with_reducible rfl))
      try simp only [Act.put, List.setIfInBounds_toArray, List.set_cons_zero, List.set_cons_succ]
      refine wpAnyH_take (i := 3) (oi := { dst := some 36, op := Op.move (Operand.tmp 35), type := 4, pos := "laws.go:369", after := #[{ on := 2, ground := Ground.data }], guard := none }) (v := ?v5) rfl (by kernel_rfl) (by kernel_rfl) (by kernel_rfl) (fun _ _ _ h => h) (Or.inl ⟨by rfl, ?y5⟩) (by assumption) ?r5
      case y5 => intro w_ hSw; (try dsimp only at hSw); go_simp; (try (with_reducible rfl))
      try simp only [Act.put, List.setIfInBounds_toArray, List.set_cons_zero, List.set_cons_succ]
      refine wpAnyH_take (i := 4) (oi := { dst := some 37, op := Op.load 31 (Operand.tmp 5), type := 31, pos := "laws.go:369", after := #[{ on := 3, ground := Ground.guard }], guard := some (3, false) }) (v := ?v6) rfl (by kernel_rfl) (by kernel_rfl) (by kernel_rfl) (fun _ _ _ h => h) (Or.inl ⟨by rfl, ?y6⟩) (by assumption) ?r6
      case y6 => intro w_ hSw; (try dsimp only at hSw); go_simp; (try (with_reducible rfl))
      try simp only [Act.put, List.setIfInBounds_toArray, List.set_cons_zero, List.set_cons_succ]
      refine wpAnyH_take (i := 5) (oi := { dst := some 38, op := Op.load 31 (Operand.tmp 7), type := 31, pos := "laws.go:369", after := #[{ on := 3, ground := Ground.guard }], guard := some (3, false) }) (v := ?v7) rfl (by kernel_rfl) (by kernel_rfl) (by kernel_rfl) (fun _ _ _ h => h) (Or.inl ⟨by rfl, ?y7⟩) (by assumption) ?r7
      case y7 => intro w_ hSw; (try dsimp only at hSw); go_simp; (try (with_reducible rfl))
      try simp only [Act.put, List.setIfInBounds_toArray, List.set_cons_zero, List.set_cons_succ]
      refine wpAnyH_ready (rs := [6]) (by kernel_rfl) (by simp) ?_
      refine AllReadyH.cons (o := { dst := some 39, op := Op.call { callee := Callee.value (Operand.func 24), args := #[Operand.tmp 37, Operand.tmp 38], argTypes := #[31, 31] }, type := 4, pos := "laws.go:369", after := #[{ on := 4, ground := Ground.data }, { on := 5, ground := Ground.data }, { on := 3, ground := Ground.chain }, { on := 3, ground := Ground.guard }], guard := some (3, false) }) rfl (fun K hK => ?k8) AllReadyH.nil
      case k8 =>
        go_simp
        refine Calls.mono (saCli_any X D0 d0 D1 d1 D2 d2 E0 e0 E1 e1 E2 e2 _ HXF.out (Kd.C_below CX0.out (hHeld.2.2.2.2.2.2.2.2.2.2.2.2.2.2.2.2.2.2.2.2.2.2.2.2)) (Kd.C_below CX1.out (hHeld.2.2.2.2.2.2.2.2.2.2.2.2.2.2.2.2.2.2.2.2.2.2.2.2)) (Kd.C_below CX2.out (hHeld.2.2.2.2.2.2.2.2.2.2.2.2.2.2.2.2.2.2.2.2.2.2.2.2)) (Kd.C_below CW0.out (hHeld.2.2.2.2.2.2.2.2.2.2.2.2.2.2.2.2.2.2.2.2.2.2.2.2)) (Kd.C_below CW1.out (hHeld.2.2.2.2.2.2.2.2.2.2.2.2.2.2.2.2.2.2.2.2.2.2.2.2)) (Kd.C_below CW2.out (hHeld.2.2.2.2.2.2.2.2.2.2.2.2.2.2.2.2.2.2.2.2.2.2.2.2))) ?_
        rintro e V6 ⟨rfl, b6⟩
        refine hK.out _ _ ?h9 (fun hHeld => ?j9)
        case h9 => exact HK.out _ _ b6 hHeld
        clear hK K
        try simp only [Act.put, List.setIfInBounds_toArray, List.set_cons_zero, List.set_cons_succ]
        refine wpAnyH_take (i := 7) (oi := { dst := some 40, op := Op.unOp UnOp.not 4 (Operand.tmp 39), type := 4, pos := "laws.go:369", after := #[{ on := 6, ground := Ground.data }, { on := 3, ground := Ground.guard }], guard := some (3, false) }) (v := ?v10) rfl (by kernel_rfl) (by kernel_rfl) (by kernel_rfl) (fun _ _ _ h => h) (Or.inl ⟨by rfl, ?y10⟩) (by assumption) ?r10
        case y10 => intro w_ hSw; (try dsimp only at hSw); go_simp; (try (with_reducible rfl))
        try simp only [Act.put, List.setIfInBounds_toArray, List.set_cons_zero, List.set_cons_succ]
        refine wpAnyH_take (i := 8) (oi := { dst := some 41, op := Op.pick (Operand.tmp 36) (Operand.const (Value.bool true)) (Operand.tmp 40), type := 4, pos := "laws.go:369", after := #[{ on := 3, ground := Ground.data }, { on := 7, ground := Ground.data }], guard := none }) (v := ?v11) rfl (by kernel_rfl) (by kernel_rfl) (by kernel_rfl) (fun _ _ _ h => h) (Or.inl ⟨by rfl, ?y11⟩) (by assumption) ?r11
        case y11 => intro w_ hSw; (try dsimp only at hSw); go_simp; (try (with_reducible rfl))
        try simp only [Act.put, List.setIfInBounds_toArray, List.set_cons_zero, List.set_cons_succ]
        refine wpAnyH_take (i := 9) (oi := { dst := some 42, op := Op.move (Operand.tmp 41), type := 4, pos := "laws.go:369", after := #[{ on := 8, ground := Ground.data }, { on := 6, ground := Ground.chain }], guard := none }) (v := ?v12) rfl (by kernel_rfl) (by kernel_rfl) (by kernel_rfl) (fun _ _ _ h => h) (Or.inl ⟨by rfl, ?y12⟩) (by assumption) ?r12
        case y12 => intro w_ hSw; (try dsimp only at hSw); go_simp; (try (with_reducible rfl))
        try simp only [Act.put, List.setIfInBounds_toArray, List.set_cons_zero, List.set_cons_succ]
        refine wpAnyH_take (i := 10) (oi := { dst := some 43, op := Op.load 31 (Operand.tmp 3), type := 31, pos := "laws.go:369", after := #[{ on := 9, ground := Ground.guard }], guard := some (9, false) }) (v := ?v13) rfl (by kernel_rfl) (by kernel_rfl) (by kernel_rfl) (fun _ _ _ h => h) (Or.inl ⟨by rfl, ?y13⟩) (by assumption) ?r13
        case y13 => intro w_ hSw; (try dsimp only at hSw); go_simp; (try (with_reducible rfl))
        try simp only [Act.put, List.setIfInBounds_toArray, List.set_cons_zero, List.set_cons_succ]
        refine wpAnyH_take (i := 12) (oi := { dst := some 45, op := Op.load 31 (Operand.tmp 3), type := 31, pos := "laws.go:369", after := #[{ on := 9, ground := Ground.guard }], guard := some (9, false) }) (v := ?v14) rfl (by kernel_rfl) (by kernel_rfl) (by kernel_rfl) (fun _ _ _ h => h) (Or.inl ⟨by rfl, ?y14⟩) (by assumption) ?r14
        case y14 => intro w_ hSw; (try dsimp only at hSw); go_simp; (try (with_reducible rfl))
        try simp only [Act.put, List.setIfInBounds_toArray, List.set_cons_zero, List.set_cons_succ]
        refine wpAnyH_ready (rs := [11]) (by kernel_rfl) (by simp) ?_
        refine AllReadyH.cons (o := { dst := some 44, op := Op.call { callee := Callee.value (Operand.func 11), args := #[Operand.tmp 43], argTypes := #[31] }, type := 4, pos := "laws.go:369", after := #[{ on := 10, ground := Ground.data }, { on := 9, ground := Ground.chain }, { on := 9, ground := Ground.guard }], guard := some (9, false) }) rfl (fun K hK => ?k15) AllReadyH.nil
        case k15 =>
          go_simp
          refine Calls.mono (hok _ (hHeld.2.2.2.2.2.2.2.2.2.2.2.2.2.2.2.2.2.2.2.2.2.2.2.2)) ?_
          rintro e V11 ⟨rfl, b11⟩
          refine hK.out _ _ ?h16 (fun hHeld => ?j16)
          case h16 => exact HK.out _ _ b11 hHeld
          clear hK K
          try simp only [Act.put, List.setIfInBounds_toArray, List.set_cons_zero, List.set_cons_succ]
          refine wpAnyH_ready (rs := [13]) (by kernel_rfl) (by simp) ?_
          refine AllReadyH.cons (o := { dst := some 46, op := Op.call { callee := Callee.value (Operand.func 25), args := #[Operand.tmp 45], argTypes := #[31] }, type := 4, pos := "laws.go:369", after := #[{ on := 12, ground := Ground.data }, { on := 11, ground := Ground.chain }, { on := 9, ground := Ground.guard }], guard := some (9, false) }) rfl (fun K hK => ?k17) AllReadyH.nil
          case k17 =>
            go_simp
            refine Calls.mono (hsok _ (hHeld.2.2.2.2.2.2.2.2.2.2.2.2.2.2.2.2.2.2.2.2.2.2.2.2)) ?_
            rintro e V13 ⟨rfl, b13⟩
            refine hK.out _ _ ?h18 (fun hHeld => ?j18)
            case h18 => exact HK.out _ _ b13 hHeld
            clear hK K
            try simp only [Act.put, List.setIfInBounds_toArray, List.set_cons_zero, List.set_cons_succ]
            refine wpAnyH_take (i := 14) (oi := { dst := some 47, op := Op.binOp BinOp.neq 4 (Operand.tmp 44) (Operand.tmp 46) 4, type := 4, pos := "laws.go:369", after := #[{ on := 11, ground := Ground.data }, { on := 13, ground := Ground.data }, { on := 9, ground := Ground.guard }], guard := some (9, false) }) (v := ?v19) rfl (by kernel_rfl) (by kernel_rfl) (by kernel_rfl) (fun _ _ _ h => h) (Or.inl ⟨by rfl, ?y19⟩) (by assumption) ?r19
            case y19 => intro w_ hSw; (try dsimp only at hSw); go_simp; (try (with_reducible rfl))
            try simp only [Act.put, List.setIfInBounds_toArray, List.set_cons_zero, List.set_cons_succ]
            refine wpAnyH_take (i := 15) (oi := { dst := some 48, op := Op.pick (Operand.tmp 42) (Operand.const (Value.bool true)) (Operand.tmp 47), type := 4, pos := "laws.go:369", after := #[{ on := 9, ground := Ground.data }, { on := 14, ground := Ground.data }], guard := none }) (v := ?v20) rfl (by kernel_rfl) (by kernel_rfl) (by kernel_rfl) (fun _ _ _ h => h) (Or.inl ⟨by rfl, ?y20⟩) (by assumption) ?r20
            case y20 => intro w_ hSw; (try dsimp only at hSw); go_simp; (try (with_reducible rfl))
            try simp only [Act.put, List.setIfInBounds_toArray, List.set_cons_zero, List.set_cons_succ]
            refine wpAnyH_take (i := 16) (oi := { dst := some 49, op := Op.move (Operand.tmp 48), type := 4, pos := "laws.go:369", after := #[{ on := 15, ground := Ground.data }, { on := 13, ground := Ground.chain }], guard := none }) (v := ?v21) rfl (by kernel_rfl) (by kernel_rfl) (by kernel_rfl) (fun _ _ _ h => h) (Or.inl ⟨by rfl, ?y21⟩) (by assumption) ?r21
            case y21 => intro w_ hSw; (try dsimp only at hSw); go_simp; (try (with_reducible rfl))
            try simp only [Act.put, List.setIfInBounds_toArray, List.set_cons_zero, List.set_cons_succ]
            refine wpAnyH_take (i := 17) (oi := { dst := some 50, op := Op.load 31 (Operand.tmp 3), type := 31, pos := "laws.go:369", after := #[{ on := 16, ground := Ground.guard }], guard := some (16, false) }) (v := ?v22) rfl (by kernel_rfl) (by kernel_rfl) (by kernel_rfl) (fun _ _ _ h => h) (Or.inl ⟨by rfl, ?y22⟩) (by assumption) ?r22
            case y22 => intro w_ hSw; (try dsimp only at hSw); go_simp; (try (with_reducible rfl))
            try simp only [Act.put, List.setIfInBounds_toArray, List.set_cons_zero, List.set_cons_succ]
            refine wpAnyH_ready (rs := [18]) (by kernel_rfl) (by simp) ?_
            refine AllReadyH.cons (o := { dst := some 51, op := Op.call { callee := Callee.value (Operand.func 11), args := #[Operand.tmp 50], argTypes := #[31] }, type := 4, pos := "laws.go:369", after := #[{ on := 17, ground := Ground.data }, { on := 16, ground := Ground.chain }, { on := 16, ground := Ground.guard }], guard := some (16, false) }) rfl (fun K hK => ?k23) AllReadyH.nil
            case k23 =>
              go_simp
              refine Calls.mono (hok _ (hHeld.2.2.2.2.2.2.2.2.2.2.2.2.2.2.2.2.2.2.2.2.2.2.2.2)) ?_
              rintro e V18 ⟨rfl, b18⟩
              refine hK.out _ _ ?h24 (fun hHeld => ?j24)
              case h24 => exact HK.out _ _ b18 hHeld
              clear hK K
              try simp only [Act.put, List.setIfInBounds_toArray, List.set_cons_zero, List.set_cons_succ]
              refine wpAnyH_take (i := 19) (oi := { dst := some 52, op := Op.unOp UnOp.not 4 (Operand.tmp 51), type := 4, pos := "laws.go:369", after := #[{ on := 18, ground := Ground.data }, { on := 16, ground := Ground.guard }], guard := some (16, false) }) (v := ?v25) rfl (by kernel_rfl) (by kernel_rfl) (by kernel_rfl) (fun _ _ _ h => h) (Or.inl ⟨by rfl, ?y25⟩) (by assumption) ?r25
              case y25 => intro w_ hSw; (try dsimp only at hSw); go_simp; (try (with_reducible rfl))
              try simp only [Act.put, List.setIfInBounds_toArray, List.set_cons_zero, List.set_cons_succ]
              refine wpAnyH_take (i := 20) (oi := { dst := some 53, op := Op.pick (Operand.tmp 49) (Operand.const (Value.bool true)) (Operand.tmp 52), type := 4, pos := "laws.go:369", after := #[{ on := 16, ground := Ground.data }, { on := 19, ground := Ground.data }], guard := none }) (v := ?v26) rfl (by kernel_rfl) (by kernel_rfl) (by kernel_rfl) (fun _ _ _ h => h) (Or.inl ⟨by rfl, ?y26⟩) (by assumption) ?r26
              case y26 => intro w_ hSw; (try dsimp only at hSw); go_simp; (try (with_reducible rfl))
              try simp only [Act.put, List.setIfInBounds_toArray, List.set_cons_zero, List.set_cons_succ]
              refine wpAnyH_done (by kernel_rfl) ?_ _
              exact HKK.out V18 hHeld
    case hk =>
      intro V hHeld
      clear join
      obtain ⟨c0_, c1_, c2_, c3_, c4_, c5_, c6_, c7_, c8_, c9_, c10_, c11_, c12_, c13_, c14_, c15_, c16_, c17_, c18_, c19_, c20_, c21_, c22_, c23_, B4⟩ := hHeld
      have HST2 : Aside0 ((fun W => W.cell? ⟨w1.heap.size, 0, none⟩ = some (.string x.f0) ∧ W.cell? ⟨w1.heap.size, 1, none⟩ = some (.string x.f1.f0.f0) ∧ W.cell? ⟨w1.heap.size, 2, none⟩ = some (.string x.f1.f0.f1) ∧ W.cell? ⟨w1.heap.size, 3, none⟩ = some (.slice A0 x.f1.f1.length c0) ∧ W.cell? ⟨w1.heap.size, 4, none⟩ = some (.slice A1 x.f1.f2.length c1) ∧ W.cell? ⟨w1.heap.size, 5, none⟩ = some (.int .i64 x.f2) ∧ W.cell? ⟨w1.heap.size, 6, none⟩ = some (.int .i64 x.f3) ∧ W.cell? ⟨w1.heap.size, 7, none⟩ = some (.slice A2 x.f4.length c2) ∧ W.cell? ⟨w2.heap.size, 0, none⟩ = some (.string X.f0) ∧ W.cell? ⟨w2.heap.size, 1, none⟩ = some (.string X.f1.f0.f0) ∧ W.cell? ⟨w2.heap.size, 2, none⟩ = some (.string X.f1.f0.f1) ∧ W.cell? ⟨w2.heap.size, 3, none⟩ = some (.slice D0 X.f1.f1.length d0) ∧ W.cell? ⟨w2.heap.size, 4, none⟩ = some (.slice D1 X.f1.f2.length d1) ∧ W.cell? ⟨w2.heap.size, 5, none⟩ = some (.int .i64 X.f2) ∧ W.cell? ⟨w2.heap.size, 6, none⟩ = some (.int .i64 X.f3) ∧ W.cell? ⟨w2.heap.size, 7, none⟩ = some (.slice D2 X.f4.length d2) ∧ W.cell? ⟨w3.heap.size, 0, none⟩ = some (.string X.f0) ∧ W.cell? ⟨w3.heap.size, 1, none⟩ = some (.string X.f1.f0.f0) ∧ W.cell? ⟨w3.heap.size, 2, none⟩ = some (.string X.f1.f0.f1) ∧ W.cell? ⟨w3.heap.size, 3, none⟩ = some (.slice E0 X.f1.f1.length e0) ∧ W.cell? ⟨w3.heap.size, 4, none⟩ = some (.slice E1 X.f1.f2.length e1) ∧ W.cell? ⟨w3.heap.size, 5, none⟩ = some (.int .i64 X.f2) ∧ W.cell? ⟨w3.heap.size, 6, none⟩ = some (.int .i64 X.f3) ∧ W.cell? ⟨w3.heap.size, 7, none⟩ = some (.slice E2 X.f4.length e2) ∧ Below V3.heap.size V3 W) V.drew) := ⟨⟨c0_, c1_, c2_, c3_, c4_, c5_, c6_, c7_, c8_, c9_, c10_, c11_, c12_, c13_, c14_, c15_, c16_, c17_, c18_, c19_, c20_, c21_, c22_, c23_, bel_then B4 (drew_below0 V)⟩⟩
      clear c0_ c1_ c2_ c3_ c4_ c5_ c6_ c7_ c8_ c9_ c10_ c11_ c12_ c13_ c14_ c15_ c16_ c17_ c18_ c19_ c20_ c21_ c22_ c23_ HST
      go_wp2
      have join : Hid (∀ {goal : Prop} {G : World → Prop} (rg : Hid (∀ V, (V.cell? ⟨w1.heap.size, 0, none⟩ = some (.string x.f0) ∧ V.cell? ⟨w1.heap.size, 1, none⟩ = some (.string x.f1.f0.f0) ∧ V.cell? ⟨w1.heap.size, 2, none⟩ = some (.string x.f1.f0.f1) ∧ V.cell? ⟨w1.heap.size, 3, none⟩ = some (.slice A0 x.f1.f1.length c0) ∧ V.cell? ⟨w1.heap.size, 4, none⟩ = some (.slice A1 x.f1.f2.length c1) ∧ V.cell? ⟨w1.heap.size, 5, none⟩ = some (.int .i64 x.f2) ∧ V.cell? ⟨w1.heap.size, 6, none⟩ = some (.int .i64 x.f3) ∧ V.cell? ⟨w1.heap.size, 7, none⟩ = some (.slice A2 x.f4.length c2) ∧ V.cell? ⟨w2.heap.size, 0, none⟩ = some (.string X.f0) ∧ V.cell? ⟨w2.heap.size, 1, none⟩ = some (.string X.f1.f0.f0) ∧ V.cell? ⟨w2.heap.size, 2, none⟩ = some (.string X.f1.f0.f1) ∧ V.cell? ⟨w2.heap.size, 3, none⟩ = some (.slice D0 X.f1.f1.length d0) ∧ V.cell? ⟨w2.heap.size, 4, none⟩ = some (.slice D1 X.f1.f2.length d1) ∧ V.cell? ⟨w2.heap.size, 5, none⟩ = some (.int .i64 X.f2) ∧ V.cell? ⟨w2.heap.size, 6, none⟩ = some (.int .i64 X.f3) ∧ V.cell? ⟨w2.heap.size, 7, none⟩ = some (.slice D2 X.f4.length d2) ∧ V.cell? ⟨w3.heap.size, 0, none⟩ = some (.string X.f0) ∧ V.cell? ⟨w3.heap.size, 1, none⟩ = some (.string X.f1.f0.f0) ∧ V.cell? ⟨w3.heap.size, 2, none⟩ = some (.string X.f1.f0.f1) ∧ V.cell? ⟨w3.heap.size, 3, none⟩ = some (.slice E0 X.f1.f1.length e0) ∧ V.cell? ⟨w3.heap.size, 4, none⟩ = some (.slice E1 X.f1.f2.length e1) ∧ V.cell? ⟨w3.heap.size, 5, none⟩ = some (.int .i64 X.f2) ∧ V.cell? ⟨w3.heap.size, 6, none⟩ = some (.int .i64 X.f3) ∧ V.cell? ⟨w3.heap.size, 7, none⟩ = some (.slice E2 X.f4.length e2) ∧ Below V3.heap.size V3 V) → G V) → goal) (hk : ∀ V, (V.cell? ⟨w1.heap.size, 0, none⟩ = some (.string x.f0) ∧ V.cell? ⟨w1.heap.size, 1, none⟩ = some (.string x.f1.f0.f0) ∧ V.cell? ⟨w1.heap.size, 2, none⟩ = some (.string x.f1.f0.f1) ∧ V.cell? ⟨w1.heap.size, 3, none⟩ = some (.slice A0 x.f1.f1.length c0) ∧ V.cell? ⟨w1.heap.size, 4, none⟩ = some (.slice A1 x.f1.f2.length c1) ∧ V.cell? ⟨w1.heap.size, 5, none⟩ = some (.int .i64 x.f2) ∧ V.cell? ⟨w1.heap.size, 6, none⟩ = some (.int .i64 x.f3) ∧ V.cell? ⟨w1.heap.size, 7, none⟩ = some (.slice A2 x.f4.length c2) ∧ V.cell? ⟨w2.heap.size, 0, none⟩ = some (.string X.f0) ∧ V.cell? ⟨w2.heap.size, 1, none⟩ = some (.string X.f1.f0.f0) ∧ V.cell? ⟨w2.heap.size, 2, none⟩ = some (.string X.f1.f0.f1) ∧ V.cell? ⟨w2.heap.size, 3, none⟩ = some (.slice D0 X.f1.f1.length d0) ∧ V.cell? ⟨w2.heap.size, 4, none⟩ = some (.slice D1 X.f1.f2.length d1) ∧ V.cell? ⟨w2.heap.size, 5, none⟩ = some (.int .i64 X.f2) ∧ V.cell? ⟨w2.heap.size, 6, none⟩ = some (.int .i64 X.f3) ∧ V.cell? ⟨w2.heap.size, 7, none⟩ = some (.slice D2 X.f4.length d2) ∧ V.cell? ⟨w3.heap.size, 0, none⟩ = some (.string X.f0) ∧ V.cell? ⟨w3.heap.size, 1, none⟩ = some (.string X.f1.f0.f0) ∧ V.cell? ⟨w3.heap.size, 2, none⟩ = some (.string X.f1.f0.f1) ∧ V.cell? ⟨w3.heap.size, 3, none⟩ = some (.slice E0 X.f1.f1.length e0) ∧ V.cell? ⟨w3.heap.size, 4, none⟩ = some (.slice E1 X.f1.f2.length e1) ∧ V.cell? ⟨w3.heap.size, 5, none⟩ = some (.int .i64 X.f2) ∧ V.cell? ⟨w3.heap.size, 6, none⟩ = some (.int .i64 X.f3) ∧ V.cell? ⟨w3.heap.size, 7, none⟩ = some (.slice E2 X.f4.length e2) ∧ Below V3.heap.size V3 V) → G V), goal) := Lib.hid (fun f h => f (Lib.hid h))
      apply join.out
      case rg =>
        intro HKK
        refine wp_region_held_drew (S := (fun W => W.cell? ⟨w1.heap.size, 0, none⟩ = some (.string x.f0) ∧ W.cell? ⟨w1.heap.size, 1, none⟩ = some (.string x.f1.f0.f0) ∧ W.cell? ⟨w1.heap.size, 2, none⟩ = some (.string x.f1.f0.f1) ∧ W.cell? ⟨w1.heap.size, 3, none⟩ = some (.slice A0 x.f1.f1.length c0) ∧ W.cell? ⟨w1.heap.size, 4, none⟩ = some (.slice A1 x.f1.f2.length c1) ∧ W.cell? ⟨w1.heap.size, 5, none⟩ = some (.int .i64 x.f2) ∧ W.cell? ⟨w1.heap.size, 6, none⟩ = some (.int .i64 x.f3) ∧ W.cell? ⟨w1.heap.size, 7, none⟩ = some (.slice A2 x.f4.length c2) ∧ W.cell? ⟨w2.heap.size, 0, none⟩ = some (.string X.f0) ∧ W.cell? ⟨w2.heap.size, 1, none⟩ = some (.string X.f1.f0.f0) ∧ W.cell? ⟨w2.heap.size, 2, none⟩ = some (.string X.f1.f0.f1) ∧ W.cell? ⟨w2.heap.size, 3, none⟩ = some (.slice D0 X.f1.f1.length d0) ∧ W.cell? ⟨w2.heap.size, 4, none⟩ = some (.slice D1 X.f1.f2.length d1) ∧ W.cell? ⟨w2.heap.size, 5, none⟩ = some (.int .i64 X.f2) ∧ W.cell? ⟨w2.heap.size, 6, none⟩ = some (.int .i64 X.f3) ∧ W.cell? ⟨w2.heap.size, 7, none⟩ = some (.slice D2 X.f4.length d2) ∧ W.cell? ⟨w3.heap.size, 0, none⟩ = some (.string X.f0) ∧ W.cell? ⟨w3.heap.size, 1, none⟩ = some (.string X.f1.f0.f0) ∧ W.cell? ⟨w3.heap.size, 2, none⟩ = some (.string X.f1.f0.f1) ∧ W.cell? ⟨w3.heap.size, 3, none⟩ = some (.slice E0 X.f1.f1.length e0) ∧ W.cell? ⟨w3.heap.size, 4, none⟩ = some (.slice E1 X.f1.f2.length e1) ∧ W.cell? ⟨w3.heap.size, 5, none⟩ = some (.int .i64 X.f2) ∧ W.cell? ⟨w3.heap.size, 6, none⟩ = some (.int .i64 X.f3) ∧ W.cell? ⟨w3.heap.size, 7, none⟩ = some (.slice E2 X.f4.length e2) ∧ Below V3.heap.size V3 W)) (by kernel_rfl) ?s53 (fun hHeld => ?t53)
        case s53 => exact HST2.out
        generalize World.drew _ = V0 at hHeld ⊢
        refine wpAnyH_take (i := 0) (oi := { dst := some 54, op := Op.move (Operand.tmp 6), type := 9, pos := "laws.go:370", after := #[], guard := none }) (v := ?v54) rfl (by kernel_rfl) (by kernel_rfl) (by kernel_rfl) (fun _ _ _ h => h) (Or.inl ⟨by rfl, ?y54⟩) (by assumption) ?r54
        case y54 => intro w_ hSw; (try dsimp only at hSw); go_simp; (try (with_reducible rfl))
        try simp only [Act.put, List.setIfInBounds_toArray, List.set_cons_zero, List.set_cons_succ]
        refine wpAnyH_take (i := 1) (oi := { dst := some 55, op := Op.move (Operand.tmp 8), type := 9, pos := "laws.go:370", after := #[], guard := none }) (v := ?v55) rfl (by kernel_rfl) (by kernel_rfl) (by kernel_rfl) (fun _ _ _ h => h) (Or.inl ⟨by rfl, ?y55⟩) (by assumption) ?r55
        case y55 => intro w_ hSw; (try dsimp only at hSw); go_simp; (try (with_reducible rfl))
        try simp only [Act.put, List.setIfInBounds_toArray, List.set_cons_zero, List.set_cons_succ]
        refine wpAnyH_take (i := 2) (oi := { dst := some 56, op := Op.binOp BinOp.eql 9 (Operand.tmp 54) (Operand.tmp 55) 9, type := 4, pos := "laws.go:370", after := #[{ on := 0, ground := Ground.data }, { on := 1, ground := Ground.data }], guard := none }) (v := ?v56) rfl (by kernel_rfl) (by kernel_rfl) (by kernel_rfl) (fun _ _ _ h => h) (Or.inl ⟨by rfl, ?y56⟩) (by assumption) ?r56
        case y56 => intro w_ hSw; (try dsimp only at hSw); go_simp; (try (with_reducible rfl))
        try simp only [Act.put, List.setIfInBounds_toArray, List.set_cons_zero, List.set_cons_succ]
        refine wpAnyH_take (i := 3) (oi := { dst := some 57, op := Op.move (Operand.tmp 56), type := 4, pos := "laws.go:370", after := #[{ on := 2, ground := Ground.data }], guard := none }) (v := ?v57) rfl (by kernel_rfl) (by kernel_rfl) (by kernel_rfl) (fun _ _ _ h => h) (Or.inl ⟨by rfl, ?y57⟩) (by assumption) ?r57
        case y57 => intro w_ hSw; (try dsimp only at hSw); go_simp; (try (with_reducible rfl))
        try simp only [Act.put, List.setIfInBounds_toArray, List.set_cons_zero, List.set_cons_succ]
        refine wpAnyH_take (i := 4) (oi := { dst := some 58, op := Op.load 31 (Operand.tmp 5), type := 31, pos := "laws.go:370", after := #[{ on := 3, ground := Ground.guard }], guard := some (3, true) }) (v := ?v58) rfl (by kernel_rfl) (by kernel_rfl) (by kernel_rfl) (fun _ _ _ h => h) (Or.inl ⟨by rfl, ?y58⟩) (by assumption) ?r58
        case y58 => intro w_ hSw; (try dsimp only at hSw); go_simp; (try (with_reducible rfl))
        try simp only [Act.put, List.setIfInBounds_toArray, List.set_cons_zero, List.set_cons_succ]
        refine wpAnyH_take (i := 5) (oi := { dst := some 59, op := Op.load 31 (Operand.tmp 7), type := 31, pos := "laws.go:370", after := #[{ on := 3, ground := Ground.guard }], guard := some (3, true) }) (v := ?v59) rfl (by kernel_rfl) (by kernel_rfl) (by kernel_rfl) (fun _ _ _ h => h) (Or.inl ⟨by rfl, ?y59⟩) (by assumption) ?r59
        case y59 => intro w_ hSw; (try dsimp only at hSw); go_simp; (try (with_reducible rfl))
        try simp only [Act.put, List.setIfInBounds_toArray, List.set_cons_zero, List.set_cons_succ]
        refine wpAnyH_ready (rs := [6]) (by kernel_rfl) (by simp) ?_
        refine AllReadyH.cons (o := { dst := some 60, op := Op.call { callee := Callee.value (Operand.func 24), args := #[Operand.tmp 58, Operand.tmp 59], argTypes := #[31, 31] }, type := 4, pos := "laws.go:370", after := #[{ on := 4, ground := Ground.data }, { on := 5, ground := Ground.data }, { on := 3, ground := Ground.chain }, { on := 3, ground := Ground.guard }], guard := some (3, true) }) rfl (fun K hK => ?k60) AllReadyH.nil
        case k60 =>
          go_simp
          refine Calls.mono (saCli_any X D0 d0 D1 d1 D2 d2 E0 e0 E1 e1 E2 e2 _ HXF.out (Kd.C_below CX0.out (hHeld.2.2.2.2.2.2.2.2.2.2.2.2.2.2.2.2.2.2.2.2.2.2.2.2)) (Kd.C_below CX1.out (hHeld.2.2.2.2.2.2.2.2.2.2.2.2.2.2.2.2.2.2.2.2.2.2.2.2)) (Kd.C_below CX2.out (hHeld.2.2.2.2.2.2.2.2.2.2.2.2.2.2.2.2.2.2.2.2.2.2.2.2)) (Kd.C_below CW0.out (hHeld.2.2.2.2.2.2.2.2.2.2.2.2.2.2.2.2.2.2.2.2.2.2.2.2)) (Kd.C_below CW1.out (hHeld.2.2.2.2.2.2.2.2.2.2.2.2.2.2.2.2.2.2.2.2.2.2.2.2)) (Kd.C_below CW2.out (hHeld.2.2.2.2.2.2.2.2.2.2.2.2.2.2.2.2.2.2.2.2.2.2.2.2))) ?_
          rintro e V6 ⟨rfl, b6⟩
          refine hK.out _ _ ?h61 (fun hHeld => ?j61)
          case h61 => exact HK.out _ _ b6 hHeld
          clear hK K
          try simp only [Act.put, List.setIfInBounds_toArray, List.set_cons_zero, List.set_cons_succ]
          refine wpAnyH_take (i := 7) (oi := { dst := some 61, op := Op.pick (Operand.tmp 57) (Operand.tmp 60) (Operand.const (Value.bool false)), type := 4, pos := "laws.go:370", after := #[{ on := 3, ground := Ground.data }, { on := 6, ground := Ground.data }], guard := none }) (v := ?v62) rfl (by kernel_rfl) (by kernel_rfl) (by kernel_rfl) (fun _ _ _ h => h) (Or.inl ⟨by rfl, ?y62⟩) (by assumption) ?r62
          case y62 => intro w_ hSw; (try dsimp only at hSw); go_simp; (try (with_reducible rfl))
          try simp only [Act.put, List.setIfInBounds_toArray, List.set_cons_zero, List.set_cons_succ]
          refine wpAnyH_take (i := 8) (oi := { dst := some 62, op := Op.move (Operand.tmp 61), type := 4, pos := "laws.go:370", after := #[{ on := 7, ground := Ground.data }, { on := 6, ground := Ground.chain }], guard := none }) (v := ?v63) rfl (by kernel_rfl) (by kernel_rfl) (by kernel_rfl) (fun _ _ _ h => h) (Or.inl ⟨by rfl, ?y63⟩) (by assumption) ?r63
          case y63 => intro w_ hSw; (try dsimp only at hSw); go_simp; (try (with_reducible rfl))
          try simp only [Act.put, List.setIfInBounds_toArray, List.set_cons_zero, List.set_cons_succ]
          refine wpAnyH_take (i := 9) (oi := { dst := some 63, op := Op.load 31 (Operand.tmp 3), type := 31, pos := "laws.go:370", after := #[{ on := 8, ground := Ground.guard }], guard := some (8, true) }) (v := ?v64) rfl (by kernel_rfl) (by kernel_rfl) (by kernel_rfl) (fun _ _ _ h => h) (Or.inl ⟨by rfl, ?y64⟩) (by assumption) ?r64
          case y64 => intro w_ hSw; (try dsimp only at hSw); go_simp; (try (with_reducible rfl))
          try simp only [Act.put, List.setIfInBounds_toArray, List.set_cons_zero, List.set_cons_succ]
          refine wpAnyH_take (i := 11) (oi := { dst := some 65, op := Op.load 31 (Operand.tmp 3), type := 31, pos := "laws.go:370", after := #[{ on := 8, ground := Ground.guard }], guard := some (8, true) }) (v := ?v65) rfl (by kernel_rfl) (by kernel_rfl) (by kernel_rfl) (fun _ _ _ h => h) (Or.inl ⟨by rfl, ?y65⟩) (by assumption) ?r65
          case y65 => intro w_ hSw; (try dsimp only at hSw); go_simp; (try (with_reducible rfl))
          try simp only [Act.put, List.setIfInBounds_toArray, List.set_cons_zero, List.set_cons_succ]
          refine wpAnyH_ready (rs := [10]) (by kernel_rfl) (by simp) ?_
          refine AllReadyH.cons (o := { dst := some 64, op := Op.call { callee := Callee.value (Operand.func 11), args := #[Operand.tmp 63], argTypes := #[31] }, type := 4, pos := "laws.go:370", after := #[{ on := 9, ground := Ground.data }, { on := 8, ground := Ground.chain }, { on := 8, ground := Ground.guard }], guard := some (8, true) }) rfl (fun K hK => ?k66) AllReadyH.nil
          case k66 =>
            go_simp
            refine Calls.mono (hok _ (hHeld.2.2.2.2.2.2.2.2.2.2.2.2.2.2.2.2.2.2.2.2.2.2.2.2)) ?_
            rintro e V10 ⟨rfl, b10⟩
            refine hK.out _ _ ?h67 (fun hHeld => ?j67)
            case h67 => exact HK.out _ _ b10 hHeld
            clear hK K
            try simp only [Act.put, List.setIfInBounds_toArray, List.set_cons_zero, List.set_cons_succ]
            refine wpAnyH_ready (rs := [12]) (by kernel_rfl) (by simp) ?_
            refine AllReadyH.cons (o := { dst := some 66, op := Op.call { callee := Callee.value (Operand.func 25), args := #[Operand.tmp 65], argTypes := #[31] }, type := 4, pos := "laws.go:370", after := #[{ on := 11, ground := Ground.data }, { on := 10, ground := Ground.chain }, { on := 8, ground := Ground.guard }], guard := some (8, true) }) rfl (fun K hK => ?k68) AllReadyH.nil
            case k68 =>
              go_simp
              refine Calls.mono (hsok _ (hHeld.2.2.2.2.2.2.2.2.2.2.2.2.2.2.2.2.2.2.2.2.2.2.2.2)) ?_
              rintro e V12 ⟨rfl, b12⟩
              refine hK.out _ _ ?h69 (fun hHeld => ?j69)
              case h69 => exact HK.out _ _ b12 hHeld
              clear hK K
              try simp only [Act.put, List.setIfInBounds_toArray, List.set_cons_zero, List.set_cons_succ]
              refine wpAnyH_take (i := 13) (oi := { dst := some 67, op := Op.binOp BinOp.eql 4 (Operand.tmp 64) (Operand.tmp 66) 4, type := 4, pos := "laws.go:370", after := #[{ on := 10, ground := Ground.data }, { on := 12, ground := Ground.data }, { on := 8, ground := Ground.guard }], guard := some (8, true) }) (v := ?v70) rfl (by kernel_rfl) (by kernel_rfl) (by kernel_rfl) (fun _ _ _ h => h) (Or.inl ⟨by rfl, ?y70⟩) (by assumption) ?r70
              case y70 => intro w_ hSw; (try dsimp only at hSw); go_simp; (try (with_reducible rfl))
              try simp only [Act.put, List.setIfInBounds_toArray, List.set_cons_zero, List.set_cons_succ]
              refine wpAnyH_take (i := 14) (oi := { dst := some 68, op := Op.pick (Operand.tmp 62) (Operand.tmp 67) (Operand.const (Value.bool false)), type := 4, pos := "laws.go:370", after := #[{ on := 8, ground := Ground.data }, { on := 13, ground := Ground.data }], guard := none }) (v := ?v71) rfl (by kernel_rfl) (by kernel_rfl) (by kernel_rfl) (fun _ _ _ h => h) (Or.inl ⟨by rfl, ?y71⟩) (by assumption) ?r71
              case y71 => intro w_ hSw; (try dsimp only at hSw); go_simp; (try (with_reducible rfl))
              try simp only [Act.put, List.setIfInBounds_toArray, List.set_cons_zero, List.set_cons_succ]
              refine wpAnyH_take (i := 15) (oi := { dst := some 2, op := Op.assign (Operand.tmp 68), type := 4, pos := "laws.go:370", after := #[{ on := 14, ground := Ground.data }, { on := 12, ground := Ground.chain }, { on := 0, ground := Ground.phase }, { on := 1, ground := Ground.phase }, { on := 2, ground := Ground.phase }, { on := 3, ground := Ground.phase }, { on := 4, ground := Ground.phase }, { on := 5, ground := Ground.phase }, { on := 6, ground := Ground.phase }, { on := 7, ground := Ground.phase }, { on := 8, ground := Ground.phase }, { on := 9, ground := Ground.phase }, { on := 10, ground := Ground.phase }, { on := 11, ground := Ground.phase }, { on := 12, ground := Ground.phase }, { on := 13, ground := Ground.phase }, { on := 14, ground := Ground.phase }], guard := none }) (v := ?v72) rfl (by kernel_rfl) (by kernel_rfl) (by kernel_rfl) (fun _ _ _ h => h) (Or.inl ⟨by rfl, ?y72⟩) (by assumption) ?r72
              case y72 => intro w_ hSw; (try dsimp only at hSw); go_simp; (try (with_reducible rfl))
              try simp only [Act.put, List.setIfInBounds_toArray, List.set_cons_zero, List.set_cons_succ]
              refine wpAnyH_done (by kernel_rfl) ?_ _
              exact HKK.out V12 hHeld
      case hk =>
        intro V hHeld
        clear join
        obtain ⟨c0_, c1_, c2_, c3_, c4_, c5_, c6_, c7_, c8_, c9_, c10_, c11_, c12_, c13_, c14_, c15_, c16_, c17_, c18_, c19_, c20_, c21_, c22_, c23_, B4⟩ := hHeld
        go_wp2
        go_ret
        exact ⟨rfl, SZ3.out.trans (B4.mono SZ3.out.size)⟩
  · have HC3 : Aside0 (∀ W, Below V3.heap.size V3 W → W.cell? ⟨w1.heap.size, 0, none⟩ = some (.string x.f0) ∧ W.cell? ⟨w1.heap.size, 1, none⟩ = some (.string x.f1.f0.f0) ∧ W.cell? ⟨w1.heap.size, 2, none⟩ = some (.string x.f1.f0.f1) ∧ W.cell? ⟨w1.heap.size, 3, none⟩ = some (.slice A0 x.f1.f1.length c0) ∧ W.cell? ⟨w1.heap.size, 4, none⟩ = some (.slice A1 x.f1.f2.length c1) ∧ W.cell? ⟨w1.heap.size, 5, none⟩ = some (.int .i64 x.f2) ∧ W.cell? ⟨w1.heap.size, 6, none⟩ = some (.int .i64 x.f3) ∧ W.cell? ⟨w1.heap.size, 7, none⟩ = some (.slice A2 x.f4.length c2) ∧ W.cell? ⟨w2.heap.size, 0, none⟩ = some (.string X.f0) ∧ W.cell? ⟨w2.heap.size, 1, none⟩ = some (.string X.f1.f0.f0) ∧ W.cell? ⟨w2.heap.size, 2, none⟩ = some (.string X.f1.f0.f1) ∧ W.cell? ⟨w2.heap.size, 3, none⟩ = some (.slice D0 X.f1.f1.length d0) ∧ W.cell? ⟨w2.heap.size, 4, none⟩ = some (.slice D1 X.f1.f2.length d1) ∧ W.cell? ⟨w2.heap.size, 5, none⟩ = some (.int .i64 X.f2) ∧ W.cell? ⟨w2.heap.size, 6, none⟩ = some (.int .i64 X.f3) ∧ W.cell? ⟨w2.heap.size, 7, none⟩ = some (.slice D2 X.f4.length d2) ∧ W.cell? ⟨w3.heap.size, 0, none⟩ = some (.string X.f0) ∧ W.cell? ⟨w3.heap.size, 1, none⟩ = some (.string X.f1.f0.f0) ∧ W.cell? ⟨w3.heap.size, 2, none⟩ = some (.string X.f1.f0.f1) ∧ W.cell? ⟨w3.heap.size, 3, none⟩ = some (.slice E0 X.f1.f1.length e0) ∧ W.cell? ⟨w3.heap.size, 4, none⟩ = some (.slice E1 X.f1.f2.length e1) ∧ W.cell? ⟨w3.heap.size, 5, none⟩ = some (.int .i64 X.f2) ∧ W.cell? ⟨w3.heap.size, 6, none⟩ = some (.int .i64 X.f3) ∧ W.cell? ⟨w3.heap.size, 7, none⟩ = some (.slice E2 X.f4.length e2)) := ⟨fun W h => by
      have h1 := cells8 (below_blk HFC.out h)
      have h2 := cells8 (below_blk HFX.out h)
      have h3 := cells8 (below_blk HFW.out h)
      exact ⟨h1.1, h1.2.1, h1.2.2.1, h1.2.2.2.1, h1.2.2.2.2.1, h1.2.2.2.2.2.1, h1.2.2.2.2.2.2.1, h1.2.2.2.2.2.2.2, h2.1, h2.2.1, h2.2.2.1, h2.2.2.2.1, h2.2.2.2.2.1, h2.2.2.2.2.2.1, h2.2.2.2.2.2.2.1, h2.2.2.2.2.2.2.2, h3.1, h3.2.1, h3.2.2.1, h3.2.2.2.1, h3.2.2.2.2.1, h3.2.2.2.2.2.1, h3.2.2.2.2.2.2.1, h3.2.2.2.2.2.2.2⟩⟩
    have hwl := ((cliOk_iff x).1 HQ.out).2
    have hXe : X = (stepC x (codeOf an)).1 := by rw [HXE.out]; exact if_pos HQ.out
    have hXok : cliOk X = true := by rw [hXe]; exact cliOk_step HQ.out _
    have hXl : X.f4.length = x.f4.length := by rw [hXe]; exact (stepC_rest x _).2.2
    have HKP := Lib.hid (fun (i : Nat) (hi : i < x.f4.length) (hn : ¬ (x.f2 = 3 ∧ (i : Int) = x.f3 - 1)) (h2 : x.f4.getD i 0 = 2) => (show X.f4.getD i 0 = 2 by rw [hXe]; exact step_keep hwl (codeOf an) i hi hn h2))
    have HXOK := Lib.hid hXok
    have HXL := Lib.hid hXl
    have hln : x.f4.length ≤ 1048576 := HF.out.2.2.2.2.1
    have hat0 : 0 ≤ x.f3 := hwl.2.1.1
    have hat1 : x.f3 ≤ 1048576 := by have h1 := hwl.2.1.2; have h2 := hwl.2.2.2.1; omega
    clear hwl hXe hXok hXl
    have join : Hid (∀ {goal : Prop} {G : World → Prop} (rg : Hid (∀ V, (V.cell? ⟨w1.heap.size, 0, none⟩ = some (.string x.f0) ∧ V.cell? ⟨w1.heap.size, 1, none⟩ = some (.string x.f1.f0.f0) ∧ V.cell? ⟨w1.heap.size, 2, none⟩ = some (.string x.f1.f0.f1) ∧ V.cell? ⟨w1.heap.size, 3, none⟩ = some (.slice A0 x.f1.f1.length c0) ∧ V.cell? ⟨w1.heap.size, 4, none⟩ = some (.slice A1 x.f1.f2.length c1) ∧ V.cell? ⟨w1.heap.size, 5, none⟩ = some (.int .i64 x.f2) ∧ V.cell? ⟨w1.heap.size, 6, none⟩ = some (.int .i64 x.f3) ∧ V.cell? ⟨w1.heap.size, 7, none⟩ = some (.slice A2 x.f4.length c2) ∧ V.cell? ⟨w2.heap.size, 0, none⟩ = some (.string X.f0) ∧ V.cell? ⟨w2.heap.size, 1, none⟩ = some (.string X.f1.f0.f0) ∧ V.cell? ⟨w2.heap.size, 2, none⟩ = some (.string X.f1.f0.f1) ∧ V.cell? ⟨w2.heap.size, 3, none⟩ = some (.slice D0 X.f1.f1.length d0) ∧ V.cell? ⟨w2.heap.size, 4, none⟩ = some (.slice D1 X.f1.f2.length d1) ∧ V.cell? ⟨w2.heap.size, 5, none⟩ = some (.int .i64 X.f2) ∧ V.cell? ⟨w2.heap.size, 6, none⟩ = some (.int .i64 X.f3) ∧ V.cell? ⟨w2.heap.size, 7, none⟩ = some (.slice D2 X.f4.length d2) ∧ V.cell? ⟨w3.heap.size, 0, none⟩ = some (.string X.f0) ∧ V.cell? ⟨w3.heap.size, 1, none⟩ = some (.string X.f1.f0.f0) ∧ V.cell? ⟨w3.heap.size, 2, none⟩ = some (.string X.f1.f0.f1) ∧ V.cell? ⟨w3.heap.size, 3, none⟩ = some (.slice E0 X.f1.f1.length e0) ∧ V.cell? ⟨w3.heap.size, 4, none⟩ = some (.slice E1 X.f1.f2.length e1) ∧ V.cell? ⟨w3.heap.size, 5, none⟩ = some (.int .i64 X.f2) ∧ V.cell? ⟨w3.heap.size, 6, none⟩ = some (.int .i64 X.f3) ∧ V.cell? ⟨w3.heap.size, 7, none⟩ = some (.slice E2 X.f4.length e2) ∧ Below V3.heap.size V3 V) → G V) → goal) (hk : ∀ V, (V.cell? ⟨w1.heap.size, 0, none⟩ = some (.string x.f0) ∧ V.cell? ⟨w1.heap.size, 1, none⟩ = some (.string x.f1.f0.f0) ∧ V.cell? ⟨w1.heap.size, 2, none⟩ = some (.string x.f1.f0.f1) ∧ V.cell? ⟨w1.heap.size, 3, none⟩ = some (.slice A0 x.f1.f1.length c0) ∧ V.cell? ⟨w1.heap.size, 4, none⟩ = some (.slice A1 x.f1.f2.length c1) ∧ V.cell? ⟨w1.heap.size, 5, none⟩ = some (.int .i64 x.f2) ∧ V.cell? ⟨w1.heap.size, 6, none⟩ = some (.int .i64 x.f3) ∧ V.cell? ⟨w1.heap.size, 7, none⟩ = some (.slice A2 x.f4.length c2) ∧ V.cell? ⟨w2.heap.size, 0, none⟩ = some (.string X.f0) ∧ V.cell? ⟨w2.heap.size, 1, none⟩ = some (.string X.f1.f0.f0) ∧ V.cell? ⟨w2.heap.size, 2, none⟩ = some (.string X.f1.f0.f1) ∧ V.cell? ⟨w2.heap.size, 3, none⟩ = some (.slice D0 X.f1.f1.length d0) ∧ V.cell? ⟨w2.heap.size, 4, none⟩ = some (.slice D1 X.f1.f2.length d1) ∧ V.cell? ⟨w2.heap.size, 5, none⟩ = some (.int .i64 X.f2) ∧ V.cell? ⟨w2.heap.size, 6, none⟩ = some (.int .i64 X.f3) ∧ V.cell? ⟨w2.heap.size, 7, none⟩ = some (.slice D2 X.f4.length d2) ∧ V.cell? ⟨w3.heap.size, 0, none⟩ = some (.string X.f0) ∧ V.cell? ⟨w3.heap.size, 1, none⟩ = some (.string X.f1.f0.f0) ∧ V.cell? ⟨w3.heap.size, 2, none⟩ = some (.string X.f1.f0.f1) ∧ V.cell? ⟨w3.heap.size, 3, none⟩ = some (.slice E0 X.f1.f1.length e0) ∧ V.cell? ⟨w3.heap.size, 4, none⟩ = some (.slice E1 X.f1.f2.length e1) ∧ V.cell? ⟨w3.heap.size, 5, none⟩ = some (.int .i64 X.f2) ∧ V.cell? ⟨w3.heap.size, 6, none⟩ = some (.int .i64 X.f3) ∧ V.cell? ⟨w3.heap.size, 7, none⟩ = some (.slice E2 X.f4.length e2) ∧ Below V3.heap.size V3 V) → G V), goal) := Lib.hid (fun f h => f (Lib.hid h))
    apply join.out
    case rg =>
      intro HKK
      refine wp_region_held_drew (S := (fun W => W.cell? ⟨w1.heap.size, 0, none⟩ = some (.string x.f0) ∧ W.cell? ⟨w1.heap.size, 1, none⟩ = some (.string x.f1.f0.f0) ∧ W.cell? ⟨w1.heap.size, 2, none⟩ = some (.string x.f1.f0.f1) ∧ W.cell? ⟨w1.heap.size, 3, none⟩ = some (.slice A0 x.f1.f1.length c0) ∧ W.cell? ⟨w1.heap.size, 4, none⟩ = some (.slice A1 x.f1.f2.length c1) ∧ W.cell? ⟨w1.heap.size, 5, none⟩ = some (.int .i64 x.f2) ∧ W.cell? ⟨w1.heap.size, 6, none⟩ = some (.int .i64 x.f3) ∧ W.cell? ⟨w1.heap.size, 7, none⟩ = some (.slice A2 x.f4.length c2) ∧ W.cell? ⟨w2.heap.size, 0, none⟩ = some (.string X.f0) ∧ W.cell? ⟨w2.heap.size, 1, none⟩ = some (.string X.f1.f0.f0) ∧ W.cell? ⟨w2.heap.size, 2, none⟩ = some (.string X.f1.f0.f1) ∧ W.cell? ⟨w2.heap.size, 3, none⟩ = some (.slice D0 X.f1.f1.length d0) ∧ W.cell? ⟨w2.heap.size, 4, none⟩ = some (.slice D1 X.f1.f2.length d1) ∧ W.cell? ⟨w2.heap.size, 5, none⟩ = some (.int .i64 X.f2) ∧ W.cell? ⟨w2.heap.size, 6, none⟩ = some (.int .i64 X.f3) ∧ W.cell? ⟨w2.heap.size, 7, none⟩ = some (.slice D2 X.f4.length d2) ∧ W.cell? ⟨w3.heap.size, 0, none⟩ = some (.string X.f0) ∧ W.cell? ⟨w3.heap.size, 1, none⟩ = some (.string X.f1.f0.f0) ∧ W.cell? ⟨w3.heap.size, 2, none⟩ = some (.string X.f1.f0.f1) ∧ W.cell? ⟨w3.heap.size, 3, none⟩ = some (.slice E0 X.f1.f1.length e0) ∧ W.cell? ⟨w3.heap.size, 4, none⟩ = some (.slice E1 X.f1.f2.length e1) ∧ W.cell? ⟨w3.heap.size, 5, none⟩ = some (.int .i64 X.f2) ∧ W.cell? ⟨w3.heap.size, 6, none⟩ = some (.int .i64 X.f3) ∧ W.cell? ⟨w3.heap.size, 7, none⟩ = some (.slice E2 X.f4.length e2) ∧ Below V3.heap.size V3 W)) (by kernel_rfl) ?s27 (fun hHeld => ?t27)
      case s27 => exact HST.out
      generalize World.drew _ = V0 at hHeld ⊢
      refine wpAnyH_take (i := 0) (oi := { dst := some 33, op := Op.move (Operand.tmp 6), type := 9, pos := "laws.go:369", after := #[], guard := none }) (v := ?v28) rfl (by kernel_rfl) (by kernel_rfl) (by kernel_rfl) (fun _ _ _ h => h) (Or.inl ⟨by rfl, ?y28⟩) (by assumption) ?r28
      case y28 => intro w_ hSw; (try dsimp only at hSw); go_simp; (try (with_reducible rfl))
      try simp only [Act.put, List.setIfInBounds_toArray, List.set_cons_zero, List.set_cons_succ]
      refine wpAnyH_take (i := 1) (oi := { dst := some 34, op := Op.move (Operand.tmp 8), type := 9, pos := "laws.go:369", after := #[], guard := none }) (v := ?v29) rfl (by kernel_rfl) (by kernel_rfl) (by kernel_rfl) (fun _ _ _ h => h) (Or.inl ⟨by rfl, ?y29⟩) (by assumption) ?r29
      case y29 => intro w_ hSw; (try dsimp only at hSw); go_simp; (try (with_reducible rfl))
      try simp only [Act.put, List.setIfInBounds_toArray, List.set_cons_zero, List.set_cons_succ]
      refine wpAnyH_take (i := 2) (oi := { dst := some 35, op := Op.binOp BinOp.neq 9 (Operand.tmp 33) (Operand.tmp 34) 9, type := 4, pos := "laws.go:369", after := #[{ on := 0, ground := Ground.data }, { on := 1, ground := Ground.data }], guard := none }) (v := ?v30) rfl (by kernel_rfl) (by kernel_rfl) (by kernel_rfl) (fun _ _ _ h => h) (Or.inl ⟨by rfl, ?y30⟩) (by assumption) ?r30
      case y30 => intro w_ hSw; (try dsimp only at hSw); go_simp; (try (with_reducible rfl))
      try simp only [Act.put, List.setIfInBounds_toArray, List.set_cons_zero, List.set_cons_succ]
      refine wpAnyH_take (i := 3) (oi := { dst := some 36, op := Op.move (Operand.tmp 35), type := 4, pos := "laws.go:369", after := #[{ on := 2, ground := Ground.data }], guard := none }) (v := ?v31) rfl (by kernel_rfl) (by kernel_rfl) (by kernel_rfl) (fun _ _ _ h => h) (Or.inl ⟨by rfl, ?y31⟩) (by assumption) ?r31
      case y31 => intro w_ hSw; (try dsimp only at hSw); go_simp; (try (with_reducible rfl))
      try simp only [Act.put, List.setIfInBounds_toArray, List.set_cons_zero, List.set_cons_succ]
      refine wpAnyH_take (i := 4) (oi := { dst := some 37, op := Op.load 31 (Operand.tmp 5), type := 31, pos := "laws.go:369", after := #[{ on := 3, ground := Ground.guard }], guard := some (3, false) }) (v := ?v32) rfl (by kernel_rfl) (by kernel_rfl) (by kernel_rfl) (fun _ _ _ h => h) (Or.inl ⟨by rfl, ?y32⟩) (by assumption) ?r32
      case y32 => intro w_ hSw; (try dsimp only at hSw); go_simp; (try (with_reducible rfl))
      try simp only [Act.put, List.setIfInBounds_toArray, List.set_cons_zero, List.set_cons_succ]
      refine wpAnyH_take (i := 5) (oi := { dst := some 38, op := Op.load 31 (Operand.tmp 7), type := 31, pos := "laws.go:369", after := #[{ on := 3, ground := Ground.guard }], guard := some (3, false) }) (v := ?v33) rfl (by kernel_rfl) (by kernel_rfl) (by kernel_rfl) (fun _ _ _ h => h) (Or.inl ⟨by rfl, ?y33⟩) (by assumption) ?r33
      case y33 => intro w_ hSw; (try dsimp only at hSw); go_simp; (try (with_reducible rfl))
      try simp only [Act.put, List.setIfInBounds_toArray, List.set_cons_zero, List.set_cons_succ]
      refine wpAnyH_ready (rs := [6]) (by kernel_rfl) (by simp) ?_
      refine AllReadyH.cons (o := { dst := some 39, op := Op.call { callee := Callee.value (Operand.func 24), args := #[Operand.tmp 37, Operand.tmp 38], argTypes := #[31, 31] }, type := 4, pos := "laws.go:369", after := #[{ on := 4, ground := Ground.data }, { on := 5, ground := Ground.data }, { on := 3, ground := Ground.chain }, { on := 3, ground := Ground.guard }], guard := some (3, false) }) rfl (fun K hK => ?k34) AllReadyH.nil
      case k34 =>
        go_simp
        refine Calls.mono (saCli_any X D0 d0 D1 d1 D2 d2 E0 e0 E1 e1 E2 e2 _ HXF.out (Kd.C_below CX0.out (hHeld.2.2.2.2.2.2.2.2.2.2.2.2.2.2.2.2.2.2.2.2.2.2.2.2)) (Kd.C_below CX1.out (hHeld.2.2.2.2.2.2.2.2.2.2.2.2.2.2.2.2.2.2.2.2.2.2.2.2)) (Kd.C_below CX2.out (hHeld.2.2.2.2.2.2.2.2.2.2.2.2.2.2.2.2.2.2.2.2.2.2.2.2)) (Kd.C_below CW0.out (hHeld.2.2.2.2.2.2.2.2.2.2.2.2.2.2.2.2.2.2.2.2.2.2.2.2)) (Kd.C_below CW1.out (hHeld.2.2.2.2.2.2.2.2.2.2.2.2.2.2.2.2.2.2.2.2.2.2.2.2)) (Kd.C_below CW2.out (hHeld.2.2.2.2.2.2.2.2.2.2.2.2.2.2.2.2.2.2.2.2.2.2.2.2))) ?_
        rintro e V6 ⟨rfl, b6⟩
        refine hK.out _ _ ?h35 (fun hHeld => ?j35)
        case h35 => exact HK.out _ _ b6 hHeld
        clear hK K
        try simp only [Act.put, List.setIfInBounds_toArray, List.set_cons_zero, List.set_cons_succ]
        refine wpAnyH_take (i := 7) (oi := { dst := some 40, op := Op.unOp UnOp.not 4 (Operand.tmp 39), type := 4, pos := "laws.go:369", after := #[{ on := 6, ground := Ground.data }, { on := 3, ground := Ground.guard }], guard := some (3, false) }) (v := ?v36) rfl (by kernel_rfl) (by kernel_rfl) (by kernel_rfl) (fun _ _ _ h => h) (Or.inl ⟨by rfl, ?y36⟩) (by assumption) ?r36
        case y36 => intro w_ hSw; (try dsimp only at hSw); go_simp; (try (with_reducible rfl))
        try simp only [Act.put, List.setIfInBounds_toArray, List.set_cons_zero, List.set_cons_succ]
        refine wpAnyH_take (i := 8) (oi := { dst := some 41, op := Op.pick (Operand.tmp 36) (Operand.const (Value.bool true)) (Operand.tmp 40), type := 4, pos := "laws.go:369", after := #[{ on := 3, ground := Ground.data }, { on := 7, ground := Ground.data }], guard := none }) (v := ?v37) rfl (by kernel_rfl) (by kernel_rfl) (by kernel_rfl) (fun _ _ _ h => h) (Or.inl ⟨by rfl, ?y37⟩) (by assumption) ?r37
        case y37 => intro w_ hSw; (try dsimp only at hSw); go_simp; (try (with_reducible rfl))
        try simp only [Act.put, List.setIfInBounds_toArray, List.set_cons_zero, List.set_cons_succ]
        refine wpAnyH_take (i := 9) (oi := { dst := some 42, op := Op.move (Operand.tmp 41), type := 4, pos := "laws.go:369", after := #[{ on := 8, ground := Ground.data }, { on := 6, ground := Ground.chain }], guard := none }) (v := ?v38) rfl (by kernel_rfl) (by kernel_rfl) (by kernel_rfl) (fun _ _ _ h => h) (Or.inl ⟨by rfl, ?y38⟩) (by assumption) ?r38
        case y38 => intro w_ hSw; (try dsimp only at hSw); go_simp; (try (with_reducible rfl))
        try simp only [Act.put, List.setIfInBounds_toArray, List.set_cons_zero, List.set_cons_succ]
        refine wpAnyH_take (i := 10) (oi := { dst := some 43, op := Op.load 31 (Operand.tmp 3), type := 31, pos := "laws.go:369", after := #[{ on := 9, ground := Ground.guard }], guard := some (9, false) }) (v := ?v39) rfl (by kernel_rfl) (by kernel_rfl) (by kernel_rfl) (fun _ _ _ h => h) (Or.inl ⟨by rfl, ?y39⟩) (by assumption) ?r39
        case y39 => intro w_ hSw; (try dsimp only at hSw); go_simp; (try (with_reducible rfl))
        try simp only [Act.put, List.setIfInBounds_toArray, List.set_cons_zero, List.set_cons_succ]
        refine wpAnyH_take (i := 12) (oi := { dst := some 45, op := Op.load 31 (Operand.tmp 3), type := 31, pos := "laws.go:369", after := #[{ on := 9, ground := Ground.guard }], guard := some (9, false) }) (v := ?v40) rfl (by kernel_rfl) (by kernel_rfl) (by kernel_rfl) (fun _ _ _ h => h) (Or.inl ⟨by rfl, ?y40⟩) (by assumption) ?r40
        case y40 => intro w_ hSw; (try dsimp only at hSw); go_simp; (try (with_reducible rfl))
        try simp only [Act.put, List.setIfInBounds_toArray, List.set_cons_zero, List.set_cons_succ]
        refine wpAnyH_ready (rs := [11]) (by kernel_rfl) (by simp) ?_
        refine AllReadyH.cons (o := { dst := some 44, op := Op.call { callee := Callee.value (Operand.func 11), args := #[Operand.tmp 43], argTypes := #[31] }, type := 4, pos := "laws.go:369", after := #[{ on := 10, ground := Ground.data }, { on := 9, ground := Ground.chain }, { on := 9, ground := Ground.guard }], guard := some (9, false) }) rfl (fun K hK => ?k41) AllReadyH.nil
        case k41 =>
          go_simp
          refine Calls.mono (hok _ (hHeld.2.2.2.2.2.2.2.2.2.2.2.2.2.2.2.2.2.2.2.2.2.2.2.2)) ?_
          rintro e V11 ⟨rfl, b11⟩
          refine hK.out _ _ ?h42 (fun hHeld => ?j42)
          case h42 => exact HK.out _ _ b11 hHeld
          clear hK K
          try simp only [Act.put, List.setIfInBounds_toArray, List.set_cons_zero, List.set_cons_succ]
          refine wpAnyH_ready (rs := [13]) (by kernel_rfl) (by simp) ?_
          refine AllReadyH.cons (o := { dst := some 46, op := Op.call { callee := Callee.value (Operand.func 25), args := #[Operand.tmp 45], argTypes := #[31] }, type := 4, pos := "laws.go:369", after := #[{ on := 12, ground := Ground.data }, { on := 11, ground := Ground.chain }, { on := 9, ground := Ground.guard }], guard := some (9, false) }) rfl (fun K hK => ?k43) AllReadyH.nil
          case k43 =>
            go_simp
            refine Calls.mono (hsok _ (hHeld.2.2.2.2.2.2.2.2.2.2.2.2.2.2.2.2.2.2.2.2.2.2.2.2)) ?_
            rintro e V13 ⟨rfl, b13⟩
            refine hK.out _ _ ?h44 (fun hHeld => ?j44)
            case h44 => exact HK.out _ _ b13 hHeld
            clear hK K
            try simp only [Act.put, List.setIfInBounds_toArray, List.set_cons_zero, List.set_cons_succ]
            refine wpAnyH_take (i := 14) (oi := { dst := some 47, op := Op.binOp BinOp.neq 4 (Operand.tmp 44) (Operand.tmp 46) 4, type := 4, pos := "laws.go:369", after := #[{ on := 11, ground := Ground.data }, { on := 13, ground := Ground.data }, { on := 9, ground := Ground.guard }], guard := some (9, false) }) (v := ?v45) rfl (by kernel_rfl) (by kernel_rfl) (by kernel_rfl) (fun _ _ _ h => h) (Or.inl ⟨by rfl, ?y45⟩) (by assumption) ?r45
            case y45 => intro w_ hSw; (try dsimp only at hSw); go_simp; (try (with_reducible rfl))
            try simp only [Act.put, List.setIfInBounds_toArray, List.set_cons_zero, List.set_cons_succ]
            refine wpAnyH_take (i := 15) (oi := { dst := some 48, op := Op.pick (Operand.tmp 42) (Operand.const (Value.bool true)) (Operand.tmp 47), type := 4, pos := "laws.go:369", after := #[{ on := 9, ground := Ground.data }, { on := 14, ground := Ground.data }], guard := none }) (v := ?v46) rfl (by kernel_rfl) (by kernel_rfl) (by kernel_rfl) (fun _ _ _ h => h) (Or.inl ⟨by rfl, ?y46⟩) (by assumption) ?r46
            case y46 => intro w_ hSw; (try dsimp only at hSw); go_simp; (try (with_reducible rfl))
            try simp only [Act.put, List.setIfInBounds_toArray, List.set_cons_zero, List.set_cons_succ]
            refine wpAnyH_take (i := 16) (oi := { dst := some 49, op := Op.move (Operand.tmp 48), type := 4, pos := "laws.go:369", after := #[{ on := 15, ground := Ground.data }, { on := 13, ground := Ground.chain }], guard := none }) (v := ?v47) rfl (by kernel_rfl) (by kernel_rfl) (by kernel_rfl) (fun _ _ _ h => h) (Or.inl ⟨by rfl, ?y47⟩) (by assumption) ?r47
            case y47 => intro w_ hSw; (try dsimp only at hSw); go_simp; (try (with_reducible rfl))
            try simp only [Act.put, List.setIfInBounds_toArray, List.set_cons_zero, List.set_cons_succ]
            refine wpAnyH_take (i := 17) (oi := { dst := some 50, op := Op.load 31 (Operand.tmp 3), type := 31, pos := "laws.go:369", after := #[{ on := 16, ground := Ground.guard }], guard := some (16, false) }) (v := ?v48) rfl (by kernel_rfl) (by kernel_rfl) (by kernel_rfl) (fun _ _ _ h => h) (Or.inl ⟨by rfl, ?y48⟩) (by assumption) ?r48
            case y48 => intro w_ hSw; (try dsimp only at hSw); go_simp; (try (with_reducible rfl))
            try simp only [Act.put, List.setIfInBounds_toArray, List.set_cons_zero, List.set_cons_succ]
            refine wpAnyH_ready (rs := [18]) (by kernel_rfl) (by simp) ?_
            refine AllReadyH.cons (o := { dst := some 51, op := Op.call { callee := Callee.value (Operand.func 11), args := #[Operand.tmp 50], argTypes := #[31] }, type := 4, pos := "laws.go:369", after := #[{ on := 17, ground := Ground.data }, { on := 16, ground := Ground.chain }, { on := 16, ground := Ground.guard }], guard := some (16, false) }) rfl (fun K hK => ?k49) AllReadyH.nil
            case k49 =>
              go_simp
              refine Calls.mono (hok _ (hHeld.2.2.2.2.2.2.2.2.2.2.2.2.2.2.2.2.2.2.2.2.2.2.2.2)) ?_
              rintro e V18 ⟨rfl, b18⟩
              refine hK.out _ _ ?h50 (fun hHeld => ?j50)
              case h50 => exact HK.out _ _ b18 hHeld
              clear hK K
              try simp only [Act.put, List.setIfInBounds_toArray, List.set_cons_zero, List.set_cons_succ]
              refine wpAnyH_take (i := 19) (oi := { dst := some 52, op := Op.unOp UnOp.not 4 (Operand.tmp 51), type := 4, pos := "laws.go:369", after := #[{ on := 18, ground := Ground.data }, { on := 16, ground := Ground.guard }], guard := some (16, false) }) (v := ?v51) rfl (by kernel_rfl) (by kernel_rfl) (by kernel_rfl) (fun _ _ _ h => h) (Or.inl ⟨by rfl, ?y51⟩) (by assumption) ?r51
              case y51 => intro w_ hSw; (try dsimp only at hSw); go_simp; (try (with_reducible rfl))
              try simp only [Act.put, List.setIfInBounds_toArray, List.set_cons_zero, List.set_cons_succ]
              refine wpAnyH_take (i := 20) (oi := { dst := some 53, op := Op.pick (Operand.tmp 49) (Operand.const (Value.bool true)) (Operand.tmp 52), type := 4, pos := "laws.go:369", after := #[{ on := 16, ground := Ground.data }, { on := 19, ground := Ground.data }], guard := none }) (v := ?v52) rfl (by kernel_rfl) (by kernel_rfl) (by kernel_rfl) (fun _ _ _ h => h) (Or.inl ⟨by rfl, ?y52⟩) (by assumption) ?r52
              case y52 => intro w_ hSw; (try dsimp only at hSw); go_simp; (try (with_reducible rfl))
              try simp only [Act.put, List.setIfInBounds_toArray, List.set_cons_zero, List.set_cons_succ]
              refine wpAnyH_done (by kernel_rfl) ?_ _
              exact HKK.out V18 hHeld
    case hk =>
      intro V hHeld
      clear join
      obtain ⟨c0_, c1_, c2_, c3_, c4_, c5_, c6_, c7_, c8_, c9_, c10_, c11_, c12_, c13_, c14_, c15_, c16_, c17_, c18_, c19_, c20_, c21_, c22_, c23_, B4⟩ := hHeld
      go_wp2
      clear c0_ c1_ c2_ c3_ c4_ c5_ c6_ c7_ c8_ c9_ c10_ c11_ c12_ c13_ c14_ c15_ c16_ c17_ c18_ c19_ c20_ c21_ c22_ c23_
      have HB4 := Aside0.mk B4
      clear B4 HST HK
      go_loopg [9, 10] (x.f4.length) (fun gq v9 _ wr => ∃ i : Nat, i ≤ x.f4.length ∧ x.f4.length - i ≤ gq ∧ v9 = .int .i64 (i : Int) ∧ Aside0 (Below V3.heap.size V3 wr))
      case atStart => exact ⟨0, Nat.zero_le _, by omega, rfl, HB4⟩
      case round =>
        clear HB4
        obtain ⟨i, hi, hgi, rfl, BR⟩ := hrel
        obtain ⟨c0_, c1_, c2_, c3_, c4_, c5_, c6_, c7_, c8_, c9_, c10_, c11_, c12_, c13_, c14_, c15_, c16_, c17_, c18_, c19_, c20_, c21_, c22_, c23_⟩ := HC3.out _ BR.out
        by_cases hlt : i < x.f4.length
        · have hlt' : (i : Int) < (x.f4.length : Int) := by omega
          have hltX : (i : Int) < (X.f4.length : Int) := by rw [HXL.out]; exact hlt'
          obtain ⟨ad, e1, p0⟩ := at_Int (Kd.C_below Cx2.out BR.out) i hlt
          obtain ⟨ae, e2, r0⟩ := at_Int (Kd.C_below CX2.out BR.out) i (by rw [HXL.out]; exact hlt)
          have hk := HKP.out i hlt
          obtain rfl := e1
          obtain rfl := e2
          generalize x.f4.getD i 0 = y at p0 hk
          generalize X.f4.getD i 0 = z at r0 hk
          have hw1 : IntKind.i64.wrap (x.f3 - 1) = x.f3 - 1 := IntWalk.i64_in _ (by omega)
          by_cases hs : x.f2 = 3
          · by_cases ha : (i : Int) = x.f3 - 1
            · have hs' : (x.f2 == 3) = true := by simp [hs]
              have ha' : ((i : Int) == x.f3 - 1) = true := by rw [ha]; exact beq_self_eq_true _
              have HS := Lib.hid hs
              have HA := Lib.hid ha
              clear hs ha hk
              go_wp2
              go_roundg (x.f4.length - (i + 1))
              case measure => omega
              case rel => exact ⟨i + 1, by omega, Nat.le_refl _, by go_num, BR⟩
            · have hs' : (x.f2 == 3) = true := by simp [hs]
              have ha' : ((i : Int) == x.f3 - 1) = false := by simp [ha]
              have hk := hk (fun h => ha h.2)
              have HS := Lib.hid hs
              clear hs
              by_cases h2 : y = 2
              · obtain rfl := hk h2
                subst h2
                clear hk
                go_wp2
                go_roundg (x.f4.length - (i + 1))
                case measure => omega
                case rel => exact ⟨i + 1, by omega, Nat.le_refl _, by go_num, BR⟩
              · have h2' : (y == 2) = false := by simp [h2]
                clear hk
                go_wp2
                go_roundg (x.f4.length - (i + 1))
                case measure => omega
                case rel => exact ⟨i + 1, by omega, Nat.le_refl _, by go_num, BR⟩
          · have hs' : (x.f2 == 3) = false := by simp [hs]
            have hk := hk (fun h => hs h.1)
            by_cases h2 : y = 2
            · obtain rfl := hk h2
              subst h2
              clear hk
              go_wp2
              go_roundg (x.f4.length - (i + 1))
              case measure => omega
              case rel => exact ⟨i + 1, by omega, Nat.le_refl _, by go_num, BR⟩
            · have h2' : (y == 2) = false := by simp [h2]
              clear hk
              go_wp2
              go_roundg (x.f4.length - (i + 1))
              case measure => omega
              case rel => exact ⟨i + 1, by omega, Nat.le_refl _, by go_num, BR⟩
        · have hlt' : ¬ (i : Int) < (x.f4.length : Int) := by omega
          go_wp2
          clear c0_ c1_ c2_ c3_ c4_ c5_ c6_ c7_ c8_ c9_ c10_ c11_ c12_ c13_ c14_ c15_ c16_ c17_ c18_ c19_ c20_ c21_ c22_ c23_
          generalize hV4 : World.alloc wr _ = V4
          have fy : V4.heap[wr.heap.size]? = some (.cells #[.string X.f0, .string X.f1.f0.f0, .string X.f1.f0.f1, .slice D0 X.f1.f1.length d0, .slice D1 X.f1.f2.length d1, .int .i64 X.f2, .int .i64 X.f3, .slice D2 X.f4.length d2] 31 (0, 0)) := by rw [← hV4]; exact blk_new _ _
          have b34 : Below V3.heap.size V3 V4 := by rw [← hV4]; exact bel_alloc BR.out _
          have hgy := BR.out.size
          clear hV4
          have FY := Aside0.mk fy
          have B34 := Aside0.mk b34
          have R0 := Aside0.mk (Kd.R_below GX0.out b34)
          have R1 := Aside0.mk (Kd.R_below GX1.out b34)
          have R2 := Aside0.mk (Kd.R_below GX2.out b34)
          clear fy b34
          generalize wr.heap.size = gy at FY hgy ⊢
          go_loopg [12] 16 (fun gq v12 wv => ∃ (n : Nat) (Y : SCli) (P0 : Option Addr) (p0 : Nat) (P1 : Option Addr) (p1 : Nat) (P2 : Option Addr) (p2 : Nat), n ≤ 16 ∧ 16 - n ≤ gq ∧ v12 = .int .i64 (n : Int) ∧ Aside0 (wv.heap[gy]? = some (.cells #[.string Y.f0, .string Y.f1.f0.f0, .string Y.f1.f0.f1, .slice P0 Y.f1.f1.length p0, .slice P1 Y.f1.f2.length p1, .int .i64 Y.f2, .int .i64 Y.f3, .slice P2 Y.f4.length p2] 31 (0, 0))) ∧ Aside0 (Kd.R kAddr 24 wv w1.heap.size (fun _ => True) (.slice P0 Y.f1.f1.length p0) Y.f1.f1) ∧ Aside0 (Kd.R Kd.string 9 wv w1.heap.size (fun _ => True) (.slice P1 Y.f1.f2.length p1) Y.f1.f2) ∧ Aside0 (Kd.R (Kd.int .i64) 3 wv w1.heap.size (fun _ => True) (.slice P2 Y.f4.length p2) Y.f4) ∧ Aside0 (cliOk Y = true ∧ rank Y ≤ 11 - n ∧ fitCli Y) ∧ Aside0 (Below V3.heap.size V3 wv))
          case atStart => exact ⟨0, X, D0, d0, D1, d1, D2, d2, by omega, by omega, rfl, FY, R0, R1, R2, ⟨HXOK.out, rank_max HXOK.out, HXF.out⟩, B34⟩
          case round =>
            clear FY R0 R1 R2 B34
            obtain ⟨n, Y, P0, p0, P1, p1, P2, p2, hn, hgn, rfl, FY, R0, R1, R2, HY, BV⟩ := hrel
            obtain ⟨y0_, y1_, y2_, y3_, y4_, y5_, y6_, y7_⟩ := cells8 FY.out
            by_cases hn16 : n < 16
            · have hn16' : (n : Int) < 16 := by omega
              go_wp2_with fail
              refine Calls.mono (cliStep_any Y P0 p0 P1 p1 P2 p2 an _ HY.out.2.2 HAN.out (Kd.R_reads' R0.out).2.2 (Kd.R_reads' R1.out).2.2 (Kd.R_reads' R2.out).2.2 (HG3.out.below BV.out)) ?_
              rintro e w5 ⟨Q0, q0, Q1, q1, Q2, q2, rfl, g0, g1, g2, b5⟩
              have hYe : stepS Y an = (stepC Y (codeOf an)).1 := if_pos HY.out.1
              have hy2 : cliOk (stepS Y an) = true ∧ rank (stepS Y an) ≤ 11 - (n + 1) ∧ fitCli (stepS Y an) := ⟨by rw [hYe]; exact cliOk_step HY.out.1 _, by rw [hYe]; have h1 := rank_step ((cliOk_iff Y).1 HY.out.1).2 (codeOf an); have h2 := HY.out.2.1; omega, stepS_fit' an HY.out.2.2⟩
              have fy := below_blk FY.out b5
              have hz5 : w1.heap.size ≤ wr.heap.size := Nat.le_trans (by have := ZZ.out.1; have := ZZ.out.2.1; have := ZZ.out.2.2; omega) (BV.out.size)
              have u0 := Kd.R_lower (base' := w1.heap.size) g0 hz5
              have u1 := Kd.R_lower (base' := w1.heap.size) g1 hz5
              have u2 := Kd.R_lower (base' := w1.heap.size) g2 hz5
              have bv5 := bel_then BV.out b5
              generalize stepS Y an = Y2 at *
              generalize stepT Y an = T2 at *
              have n0 := Kd.R_ne u0 fy (by decide)
              have n1 := Kd.R_ne u1 fy (by decide)
              have n2 := Kd.R_ne u2 fy (by decide)
              have Z := Lib.hid (⟨fy, u0, u1, u2, n0, n1, n2, hy2, bv5⟩ : _ ∧ _ ∧ _ ∧ _ ∧ _ ∧ _ ∧ _ ∧ _ ∧ _)
              obtain ⟨y0_, y1_, y2_, y3_, y4_, y5_, y6_, y7_⟩ := cells8 fy
              obtain ⟨z0_, z1_, z2_, z3_, z4_, z5_, z6_, z7_⟩ := froz8 fy
              clear g0 g1 g2 b5 hYe hy2 fy u0 u1 u2 n0 n1 n2 bv5 FY R0 R1 R2 HY
              go_wp2
              go_roundg (16 - (n + 1))
              case measure => omega
              case rel => exact ⟨n + 1, Y2, Q0, q0, Q1, q1, Q2, q2, by omega, Nat.le_refl _, by go_num, ⟨(blk_set1 (blk_set1 (blk_set1 (blk_set1 (blk_set1 (blk_set1 (blk_set1 (blk_set1 (Z.out.1) 0 _) 1 _) 2 _) 3 _) 4 _) 5 _) 6 _) 7 _).trans (by simp)⟩, ⟨R_put1 (R_put1 (R_put1 (R_put1 (R_put1 (R_put1 (R_put1 (R_put1 (Z.out.2.1) rfl Z.out.2.2.2.2.1) rfl Z.out.2.2.2.2.1) rfl Z.out.2.2.2.2.1) rfl Z.out.2.2.2.2.1) rfl Z.out.2.2.2.2.1) rfl Z.out.2.2.2.2.1) rfl Z.out.2.2.2.2.1) rfl Z.out.2.2.2.2.1⟩, ⟨R_put1 (R_put1 (R_put1 (R_put1 (R_put1 (R_put1 (R_put1 (R_put1 (Z.out.2.2.1) rfl Z.out.2.2.2.2.2.1) rfl Z.out.2.2.2.2.2.1) rfl Z.out.2.2.2.2.2.1) rfl Z.out.2.2.2.2.2.1) rfl Z.out.2.2.2.2.2.1) rfl Z.out.2.2.2.2.2.1) rfl Z.out.2.2.2.2.2.1) rfl Z.out.2.2.2.2.2.1⟩, ⟨R_put1 (R_put1 (R_put1 (R_put1 (R_put1 (R_put1 (R_put1 (R_put1 (Z.out.2.2.2.1) rfl Z.out.2.2.2.2.2.2.1) rfl Z.out.2.2.2.2.2.2.1) rfl Z.out.2.2.2.2.2.2.1) rfl Z.out.2.2.2.2.2.2.1) rfl Z.out.2.2.2.2.2.2.1) rfl Z.out.2.2.2.2.2.2.1) rfl Z.out.2.2.2.2.2.2.1) rfl Z.out.2.2.2.2.2.2.1⟩, ⟨Z.out.2.2.2.2.2.2.2.1⟩, ⟨bel_set (bel_set (bel_set (bel_set (bel_set (bel_set (bel_set (bel_set (Z.out.2.2.2.2.2.2.2.2) _ hgy) _ hgy) _ hgy) _ hgy) _ hgy) _ hgy) _ hgy) _ hgy⟩⟩
            · have hn16' : ¬ (n : Int) < 16 := by omega
              have h7 := rank_over ((cliOk_iff Y).1 HY.out.1).2 (by have := HY.out.2.1; omega)
              have h7' : (Y.f2 == 7) = true := by rw [h7]; rfl
              have H7 := Lib.hid h7
              obtain ⟨c0_, c1_, c2_, c3_, c4_, c5_, c6_, c7_, c8_, c9_, c10_, c11_, c12_, c13_, c14_, c15_, c16_, c17_, c18_, c19_, c20_, c21_, c22_, c23_⟩ := HC3.out _ BV.out
              clear h7
              go_wp2_with fail
              refine Calls.mono (by have h := cliOk_any X D0 d0 D1 d1 D2 d2 wr HXF.out (Kd.C_below CX0.out BV.out) (Kd.C_below CX1.out BV.out) (Kd.C_below CX2.out BV.out) (HG3.out.below BV.out); rw [HXOK.out] at h; exact h) ?_
              rintro e w6 ⟨rfl, b6⟩
              have fy := below_blk FY.out b6
              have BE := bel_then BV.out b6
              clear c0_ c1_ c2_ c3_ c4_ c5_ c6_ c7_ c8_ c9_ c10_ c11_ c12_ c13_ c14_ c15_ c16_ c17_ c18_ c19_ c20_ c21_ c22_ c23_ y0_ y1_ y2_ y3_ y4_ y5_ y6_ y7_
              obtain ⟨y0_, y1_, y2_, y3_, y4_, y5_, y6_, y7_⟩ := cells8 fy
              clear fy b6
              go_wp2
              go_ret
              exact ⟨rfl, SZ3.out.trans (BE.mono SZ3.out.size)⟩

end Go.Proofs.YtoppgnmnbbhghaaGreatDoor
