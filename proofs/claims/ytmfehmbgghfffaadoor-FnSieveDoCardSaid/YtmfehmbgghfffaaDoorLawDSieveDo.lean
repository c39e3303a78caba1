/- The law FnSieveDo, walked. -/
import Derived.Test.YtmfehmbgghfffaaDoorDrwSv
import Derived.Test.YtmfehmbgghfffaaDoorSieveX
import Derived.Test.YtmfehmbgghfffaaDoorSaT
import Derived.Deep.RegionHeld3
namespace Go.Proofs.YtmfehmbgghfffaaDoor
open Go.RowKit Go.Proofs.YtmfehmbgghfffaaDoorW.PrintWords
set_option linter.unusedVariables false
set_option linter.unusedSimpArgs false
theorem bounds_u8' {n : Int} (h : (Lit.int .u8 n).wf = true) : 0 ≤ n ∧ n ≤ 255 := by
  simp [Lit.wf, IntKind.min, IntKind.max, IntKind.signed, IntKind.bits] at h
  omega
attribute [local go_sem high] eqA33
set_option maxRecDepth 100000 in
set_option maxHeartbeats 40000000 in
theorem walk_FnSieveDo {w : World} (A : Option Addr) (c : Nat) (xs : List Int) (hr : Kd.C (Kd.int .u8) w A xs.length xs) (hg : xs.length ≤ 9223372036854775807 ∧ ∀ y ∈ xs, (Lit.int .u8 y).wf = true) (hc : xs.length ≤ c) (hG : Glob w) :
    Calls Tryd.prog 6 #[.slice A xs.length c] w fun e w' => e = .returned (.bool true) ∧ Below w.heap.size w w' := by
  by_cases n_code : (1048576 : Int) < (xs.length : Int)
  · generalize xs.length = L at n_code
    go_enter Tryd.func6, Tryd.ntmps6
    go_wp2
    go_ret
    exact ⟨rfl, Below.refl _ _⟩
  have hd := drawSieveDo_any A c xs w ⟨by omega, fun y hy => by have := bounds_u8' (hg.2 y hy); omega⟩ hc hr
  clear hr hg hc
  generalize xs.length = L at n_code hd
  go_enter Tryd.func6, Tryd.ntmps6
  go_wp2_with fail
  refine Calls.mono hd ?_
  rintro e w1 ⟨ys, B, d, x, A0, c0, A1, c1, rfl, ⟨hyl, hys⟩, rr, hm1, r0, r1, b1⟩
  have HG := Lib.hid (hG.below b1)
  have BW := Lib.hid b1
  have SZ := Lib.hid b1.size
  clear hd hG b1

  have hcd : ys.length ≤ d := (Kd.R_reads' rr).2.1
  have hRF : ∀ y ∈ ys, RFit y := fun y hy => by
    obtain ⟨⟨a0, a1⟩, a2, ⟨a3, a4⟩, a5, a6⟩ := hys y hy
    exact ⟨WalkArith.wf_i64 (by omega), WalkArith.wf_i64 (by omega), by omega, by omega, by omega⟩
  have hRA : ∀ y ∈ ys, fitAddr y.f3 := fun y hy => by
    obtain ⟨⟨a0, a1⟩, a2, ⟨a3, a4⟩, a5, a6⟩ := hys y hy
    exact ⟨by omega, by omega⟩
  obtain ⟨⟨m0, m1⟩, ⟨m2, m3⟩, m4, m5⟩ := hm1
  have hu : x.f0.f0.size < 4294967281 := by omega
  have hdd : x.f0.f1.size < 4294967281 := by omega
  have ht : ToFit x.f1 := ⟨by omega, fun y hy => ⟨by have := (m3 y hy).1; omega, by have := (m3 y hy).2; omega⟩⟩
  have hb : BodyFit x.f2 := ⟨by omega, fun y hy => by have := m5 y hy; omega⟩
  have hw : fitMail x := ⟨⟨by omega, by omega⟩, ⟨by omega, fun y hy => ⟨by have := (m3 y hy).1; omega, by have := (m3 y hy).2; omega⟩⟩, ⟨by omega, fun y hy => by have := m5 y hy; omega⟩⟩
  have Cr := Aside0.mk (Kd.R_reads' rr).2.2
  have C0 := Aside0.mk (Kd.R_reads' r0).2.2
  have C1 := Aside0.mk (Kd.R_reads' r1).2.2
  have himpl := fun W (hW : Below w1.heap.size w1 W) => sieveDo_any B d ys x A0 c0 A1 c1 W (Kd.C_below Cr.out hW) (by omega) hRF hw (Kd.C_below C0.out hW) (Kd.C_below C1.out hW) (HG.out.below hW)
  have hspec := fun W (hW : Below w1.heap.size w1 W) => specDo_any B d ys x A0 c0 A1 c1 W (Kd.C_below Cr.out hW) (by omega) hRF hw (Kd.C_below C0.out hW) (Kd.C_below C1.out hW)
  have hnil := fun W (hW : Below w1.heap.size w1 W) => sieveDo_any none 0 [] x A0 c0 A1 c1 W (Kd.C_nil _ _) (by simp) (fun y hy => by cases hy) hw (Kd.C_below C0.out hW) (Kd.C_below C1.out hW) (HG.out.below hW)
  have hfor : ∀ W, Below w1.heap.size w1 W → Calls Tryd.prog 30 #[.slice B ys.length d, .agg #[.string x.f0.f0, .string x.f0.f1, .slice A0 x.f1.length c0, .slice A1 x.f2.length c1]] W fun e w' => e = .returned (.int .i64 (sieveK ys x)) ∧ Below W.heap.size W w' := fun W hW => SieveFor_any B d ys x.f0.f0 x.f0.f1 A0 c0 x.f1 A1 c1 x.f2 W (Kd.C_below Cr.out hW) (by omega) hRF hu hdd (Kd.C_below C0.out hW) ht (Kd.C_below C1.out hW) hb (HG.out.below hW)
  have hfy := do_fit hRA hw
  have hdo := do_law ys x
  generalize sieveK ys x = K at hfor hdo
  generalize sieveDo ys x = yn at himpl hspec hfy hdo
  obtain ⟨y, n⟩ := yn
  dsimp only at himpl hspec hfy hdo
  have HFY := Lib.hid hfy
  have HDO := Lib.hid hdo
  clear hys hRF hRA m0 m1 m2 m3 m4 m5 hu hdd ht hb hw rr r0 r1 hfy hdo
  go_wp2_with fail
  obtain ⟨W0, hW0⟩ : ∃ W, W = (w1.alloc (.cells #[.string x.f0.f0, .string x.f0.f1, .slice A0 x.f1.length c0, .slice A1 x.f2.length c1] 46)) := ⟨_, rfl⟩
  rw [← hW0]
  have HB : Aside0 (Below w1.heap.size w1 W0) := ⟨by rw [hW0]; exact (bel_alloc (Below.refl _ _) _)⟩
  have FM : Aside0 (W0.heap[w1.heap.size]? = some (.cells #[.string x.f0.f0, .string x.f0.f1, .slice A0 x.f1.length c0, .slice A1 x.f2.length c1] 46 (0, 0))) := ⟨by rw [hW0]; exact blk_at _ _ (by first | rfl | (simp; done))⟩
  have HL : Aside0 (w1.heap.size + 1 ≤ W0.heap.size) := ⟨by rw [hW0]; simp⟩
  clear hW0
  refine Calls.mono (himpl _ HB.out) ?_
  rintro e w2 ⟨B0, d0, B1, d1, rfl, rU0, rU1, bw2⟩
  replace FM := Aside0.mk (below_blk FM.out bw2)
  have U0 : Aside0 (Kd.R kAddr 33 w2 w1.heap.size (fun _ => True) (.slice B0 y.f1.length d0) y.f1) := ⟨Kd.R_lower (base' := w1.heap.size) rU0 HB.out.size⟩
  clear rU0
  have U1 : Aside0 (Kd.R Kd.string 9 w2 w1.heap.size (fun _ => True) (.slice B1 y.f2.length d1) y.f2) := ⟨Kd.R_lower (base' := w1.heap.size) rU1 HB.out.size⟩
  clear rU1
  replace HB := Aside0.mk (bel_then HB.out bw2)
  replace HL := Aside0.mk (Nat.le_trans HL.out bw2.size)
  clear bw2
  have zFM := blk_lt FM.out
  have cFM_0 : w2.cell? ⟨w1.heap.size, 0, none⟩ = some (.string x.f0.f0) := by have := FM.out; simp [World.cell?, this]
  have cFM_1 : w2.cell? ⟨w1.heap.size, 1, none⟩ = some (.string x.f0.f1) := by have := FM.out; simp [World.cell?, this]
  have cFM_2 : w2.cell? ⟨w1.heap.size, 2, none⟩ = some (.slice A0 x.f1.length c0) := by have := FM.out; simp [World.cell?, this]
  have cFM_3 : w2.cell? ⟨w1.heap.size, 3, none⟩ = some (.slice A1 x.f2.length c1) := by have := FM.out; simp [World.cell?, this]
  go_wp2_with fail
  generalize hWw3 : World.alloc (w2) _ = w3
  have ltFM := blk_lt FM.out
  have ltb := HB.out.size
  have ltl := HL.out
  have TT : ∀ k, k < w2.heap.size → w3.heap[k]? = w2.heap[k]? := fun k hk => by rw [← hWw3]; (with_reducible repeat (first | rfl | refine hp_set ?_ ?_ | refine hp_alloc ?_ ?_ | refine hp_drew ?_)); all_goals (first | (with_reducible rfl) | omega | (dsimp only; omega) | (simp; omega))
  have TS : w2.heap.size + 1 ≤ w3.heap.size := by rw [← hWw3]; simp
  have nFM : w3.heap[w1.heap.size]? = some (.cells #[.string x.f0.f0, .string x.f0.f1, .slice A0 x.f1.length c0, .slice A1 x.f2.length c1] 46 (0, 0)) := (TT _ ltFM).trans FM.out
  have nFX : w3.heap[w2.heap.size]? = some (.cells #[.string y.f0.f0, .string y.f0.f1, .slice B0 y.f1.length d0, .slice B1 y.f2.length d1] 46 (0, 0)) := by rw [← hWw3]; exact blk_new w2 (.cells #[.string y.f0.f0, .string y.f0.f1, .slice B0 y.f1.length d0, .slice B1 y.f2.length d1] 46)
  have nU0 : Kd.R kAddr 33 w3 w1.heap.size (fun _ => True) (.slice B0 y.f1.length d0) y.f1 := R_keepT U0.out rfl (fun k hk ho => TT k hk)
  have nU1 : Kd.R Kd.string 9 w3 w1.heap.size (fun _ => True) (.slice B1 y.f2.length d1) y.f2 := R_keepT U1.out rfl (fun k hk ho => TT k hk)
  have nHB : Below w1.heap.size w1 w3 := by rw [← hWw3]; exact bel_alloc (HB.out) _
  clear zFM cFM_0 cFM_1 cFM_2 cFM_3
  clear hWw3 FM HB U0 U1
  have FM := Aside0.mk nFM
  clear nFM
  have FX := Aside0.mk nFX
  clear nFX
  have U0 := Aside0.mk nU0
  clear nU0
  have U1 := Aside0.mk nU1
  clear nU1
  have HB := Aside0.mk nHB
  clear nHB
  have oFX_ltFM := ltFM
  have oFX_ltl := ltl
  replace HL := Aside0.mk (Nat.le_trans HL.out (by omega : w2.heap.size ≤ w3.heap.size))
  clear TT TS ltFM ltb ltl
  refine Calls.mono (hspec _ HB.out) ?_
  rintro e w4 ⟨E0, e0, E1, e1, rfl, rV0, rV1, bw4⟩
  replace FM := Aside0.mk (below_blk FM.out bw4)
  replace FX := Aside0.mk (below_blk FX.out bw4)
  replace U0 := Aside0.mk (Kd.R_below U0.out bw4)
  replace U1 := Aside0.mk (Kd.R_below U1.out bw4)
  have V0 : Aside0 (Kd.R kAddr 33 w4 w1.heap.size (fun _ => True) (.slice E0 y.f1.length e0) y.f1) := ⟨Kd.R_lower (base' := w1.heap.size) rV0 HB.out.size⟩
  clear rV0
  have V1 : Aside0 (Kd.R Kd.string 9 w4 w1.heap.size (fun _ => True) (.slice E1 y.f2.length e1) y.f2) := ⟨Kd.R_lower (base' := w1.heap.size) rV1 HB.out.size⟩
  clear rV1
  replace HB := Aside0.mk (bel_then HB.out bw4)
  replace HL := Aside0.mk (Nat.le_trans HL.out bw4.size)
  clear bw4
  have zFM := blk_lt FM.out
  have cFM_0 : w4.cell? ⟨w1.heap.size, 0, none⟩ = some (.string x.f0.f0) := by have := FM.out; simp [World.cell?, this]
  have cFM_1 : w4.cell? ⟨w1.heap.size, 1, none⟩ = some (.string x.f0.f1) := by have := FM.out; simp [World.cell?, this]
  have cFM_2 : w4.cell? ⟨w1.heap.size, 2, none⟩ = some (.slice A0 x.f1.length c0) := by have := FM.out; simp [World.cell?, this]
  have cFM_3 : w4.cell? ⟨w1.heap.size, 3, none⟩ = some (.slice A1 x.f2.length c1) := by have := FM.out; simp [World.cell?, this]
  have zFX := blk_lt FX.out
  have cFX_0 : w4.cell? ⟨w2.heap.size, 0, none⟩ = some (.string y.f0.f0) := by have := FX.out; simp [World.cell?, this]
  have cFX_1 : w4.cell? ⟨w2.heap.size, 1, none⟩ = some (.string y.f0.f1) := by have := FX.out; simp [World.cell?, this]
  have cFX_2 : w4.cell? ⟨w2.heap.size, 2, none⟩ = some (.slice B0 y.f1.length d0) := by have := FX.out; simp [World.cell?, this]
  have cFX_3 : w4.cell? ⟨w2.heap.size, 3, none⟩ = some (.slice B1 y.f2.length d1) := by have := FX.out; simp [World.cell?, this]
  go_wp2_with fail
  generalize hWw5 : World.alloc (w4) _ = w5
  have ltFM := blk_lt FM.out
  have ltFX := blk_lt FX.out
  have ltb := HB.out.size
  have ltl := HL.out
  have TT : ∀ k, k < w4.heap.size → w5.heap[k]? = w4.heap[k]? := fun k hk => by rw [← hWw5]; (with_reducible repeat (first | rfl | refine hp_set ?_ ?_ | refine hp_alloc ?_ ?_ | refine hp_drew ?_)); all_goals (first | (with_reducible rfl) | omega | (dsimp only; omega) | (simp; omega))
  have TS : w4.heap.size + 1 ≤ w5.heap.size := by rw [← hWw5]; simp
  have nFM : w5.heap[w1.heap.size]? = some (.cells #[.string x.f0.f0, .string x.f0.f1, .slice A0 x.f1.length c0, .slice A1 x.f2.length c1] 46 (0, 0)) := (TT _ ltFM).trans FM.out
  have nFX : w5.heap[w2.heap.size]? = some (.cells #[.string y.f0.f0, .string y.f0.f1, .slice B0 y.f1.length d0, .slice B1 y.f2.length d1] 46 (0, 0)) := (TT _ ltFX).trans FX.out
  have nFW : w5.heap[w4.heap.size]? = some (.cells #[.string y.f0.f0, .string y.f0.f1, .slice E0 y.f1.length e0, .slice E1 y.f2.length e1] 46 (0, 0)) := by rw [← hWw5]; exact blk_new w4 (.cells #[.string y.f0.f0, .string y.f0.f1, .slice E0 y.f1.length e0, .slice E1 y.f2.length e1] 46)
  have nU0 : Kd.R kAddr 33 w5 w1.heap.size (fun _ => True) (.slice B0 y.f1.length d0) y.f1 := R_keepT U0.out rfl (fun k hk ho => TT k hk)
  have nU1 : Kd.R Kd.string 9 w5 w1.heap.size (fun _ => True) (.slice B1 y.f2.length d1) y.f2 := R_keepT U1.out rfl (fun k hk ho => TT k hk)
  have nV0 : Kd.R kAddr 33 w5 w1.heap.size (fun _ => True) (.slice E0 y.f1.length e0) y.f1 := R_keepT V0.out rfl (fun k hk ho => TT k hk)
  have nV1 : Kd.R Kd.string 9 w5 w1.heap.size (fun _ => True) (.slice E1 y.f2.length e1) y.f2 := R_keepT V1.out rfl (fun k hk ho => TT k hk)
  have nHB : Below w1.heap.size w1 w5 := by rw [← hWw5]; exact bel_alloc (HB.out) _
  clear zFM cFM_0 cFM_1 cFM_2 cFM_3 zFX cFX_0 cFX_1 cFX_2 cFX_3
  clear hWw5 FM FX HB U0 U1 V0 V1
  have FM := Aside0.mk nFM
  clear nFM
  have FX := Aside0.mk nFX
  clear nFX
  have FW := Aside0.mk nFW
  clear nFW
  have U0 := Aside0.mk nU0
  clear nU0
  have U1 := Aside0.mk nU1
  clear nU1
  have V0 := Aside0.mk nV0
  clear nV0
  have V1 := Aside0.mk nV1
  clear nV1
  have HB := Aside0.mk nHB
  clear nHB
  have oFW_ltFM := ltFM
  have oFW_ltFX := ltFX
  have oFW_ltl := ltl
  replace HL := Aside0.mk (Nat.le_trans HL.out (by omega : w4.heap.size ≤ w5.heap.size))
  clear TT TS ltFM ltFX ltb ltl
  refine Calls.mono (saMail_any y B0 d0 B1 d1 E0 e0 E1 e1 _ HFY.out (Kd.R_reads' U0.out).2.2 (Kd.R_reads' U1.out).2.2 (Kd.R_reads' V0.out).2.2 (Kd.R_reads' V1.out).2.2) ?_
  rintro e w6 ⟨rfl, bw6⟩
  replace FM := Aside0.mk (below_blk FM.out bw6)
  replace FX := Aside0.mk (below_blk FX.out bw6)
  replace FW := Aside0.mk (below_blk FW.out bw6)
  replace U0 := Aside0.mk (Kd.R_below U0.out bw6)
  replace U1 := Aside0.mk (Kd.R_below U1.out bw6)
  replace V0 := Aside0.mk (Kd.R_below V0.out bw6)
  replace V1 := Aside0.mk (Kd.R_below V1.out bw6)
  replace HB := Aside0.mk (bel_then HB.out bw6)
  replace HL := Aside0.mk (Nat.le_trans HL.out bw6.size)
  clear bw6
  rcases HDO.out with hneg | ⟨hn1, hn0, hc⟩
  · subst hneg
    have zFX := blk_lt FX.out
    have cFX_0 : w6.cell? ⟨w2.heap.size, 0, none⟩ = some (.string y.f0.f0) := by have := FX.out; simp [World.cell?, this]
    have cFX_1 : w6.cell? ⟨w2.heap.size, 1, none⟩ = some (.string y.f0.f1) := by have := FX.out; simp [World.cell?, this]
    have cFX_2 : w6.cell? ⟨w2.heap.size, 2, none⟩ = some (.slice B0 y.f1.length d0) := by have := FX.out; simp [World.cell?, this]
    have cFX_3 : w6.cell? ⟨w2.heap.size, 3, none⟩ = some (.slice B1 y.f2.length d1) := by have := FX.out; simp [World.cell?, this]
    have zFW := blk_lt FW.out
    have cFW_0 : w6.cell? ⟨w4.heap.size, 0, none⟩ = some (.string y.f0.f0) := by have := FW.out; simp [World.cell?, this]
    have cFW_1 : w6.cell? ⟨w4.heap.size, 1, none⟩ = some (.string y.f0.f1) := by have := FW.out; simp [World.cell?, this]
    have cFW_2 : w6.cell? ⟨w4.heap.size, 2, none⟩ = some (.slice E0 y.f1.length e0) := by have := FW.out; simp [World.cell?, this]
    have cFW_3 : w6.cell? ⟨w4.heap.size, 3, none⟩ = some (.slice E1 y.f2.length e1) := by have := FW.out; simp [World.cell?, this]
    go_wp2_with fail
    refine Calls.mono (saMail_any y B0 d0 B1 d1 E0 e0 E1 e1 _ HFY.out (Kd.R_reads' U0.out).2.2 (Kd.R_reads' U1.out).2.2 (Kd.R_reads' V0.out).2.2 (Kd.R_reads' V1.out).2.2) ?_
    rintro e w7 ⟨rfl, bw7⟩
    clear zFX cFX_0 cFX_1 cFX_2 cFX_3 zFW cFW_0 cFW_1 cFW_2 cFW_3
    replace FM := Aside0.mk (below_blk FM.out bw7)
    replace FX := Aside0.mk (below_blk FX.out bw7)
    replace FW := Aside0.mk (below_blk FW.out bw7)
    replace U0 := Aside0.mk (Kd.R_below U0.out bw7)
    replace U1 := Aside0.mk (Kd.R_below U1.out bw7)
    replace V0 := Aside0.mk (Kd.R_below V0.out bw7)
    replace V1 := Aside0.mk (Kd.R_below V1.out bw7)
    replace HB := Aside0.mk (bel_then HB.out bw7)
    replace HL := Aside0.mk (Nat.le_trans HL.out bw7.size)
    clear bw7
    go_wp2
    go_ret
    exact ⟨rfl, BW.out.trans (HB.out.mono SZ.out)⟩
  · have hn2 : ¬ n < 0 := by omega
    have hnn : (n == n) = true := beq_self_eq_true _
    have zFM := blk_lt FM.out
    have cFM_0 : w6.cell? ⟨w1.heap.size, 0, none⟩ = some (.string x.f0.f0) := by have := FM.out; simp [World.cell?, this]
    have cFM_1 : w6.cell? ⟨w1.heap.size, 1, none⟩ = some (.string x.f0.f1) := by have := FM.out; simp [World.cell?, this]
    have cFM_2 : w6.cell? ⟨w1.heap.size, 2, none⟩ = some (.slice A0 x.f1.length c0) := by have := FM.out; simp [World.cell?, this]
    have cFM_3 : w6.cell? ⟨w1.heap.size, 3, none⟩ = some (.slice A1 x.f2.length c1) := by have := FM.out; simp [World.cell?, this]
    have zFX := blk_lt FX.out
    have cFX_0 : w6.cell? ⟨w2.heap.size, 0, none⟩ = some (.string y.f0.f0) := by have := FX.out; simp [World.cell?, this]
    have cFX_1 : w6.cell? ⟨w2.heap.size, 1, none⟩ = some (.string y.f0.f1) := by have := FX.out; simp [World.cell?, this]
    have cFX_2 : w6.cell? ⟨w2.heap.size, 2, none⟩ = some (.slice B0 y.f1.length d0) := by have := FX.out; simp [World.cell?, this]
    have cFX_3 : w6.cell? ⟨w2.heap.size, 3, none⟩ = some (.slice B1 y.f2.length d1) := by have := FX.out; simp [World.cell?, this]
    have zFW := blk_lt FW.out
    have cFW_0 : w6.cell? ⟨w4.heap.size, 0, none⟩ = some (.string y.f0.f0) := by have := FW.out; simp [World.cell?, this]
    have cFW_1 : w6.cell? ⟨w4.heap.size, 1, none⟩ = some (.string y.f0.f1) := by have := FW.out; simp [World.cell?, this]
    have cFW_2 : w6.cell? ⟨w4.heap.size, 2, none⟩ = some (.slice E0 y.f1.length e0) := by have := FW.out; simp [World.cell?, this]
    have cFW_3 : w6.cell? ⟨w4.heap.size, 3, none⟩ = some (.slice E1 y.f2.length e1) := by have := FW.out; simp [World.cell?, this]
    rw [hn1] at hnil
    go_wp2_with fail
    refine Calls.mono (hnil _ HB.out) ?_
    rintro e w7 ⟨G0, g0, G1, g1, rfl, -, -, bw7⟩
    clear zFM cFM_0 cFM_1 cFM_2 cFM_3 zFX cFX_0 cFX_1 cFX_2 cFX_3 zFW cFW_0 cFW_1 cFW_2 cFW_3
    replace FM := Aside0.mk (below_blk FM.out bw7)
    replace FX := Aside0.mk (below_blk FX.out bw7)
    replace FW := Aside0.mk (below_blk FW.out bw7)
    replace U0 := Aside0.mk (Kd.R_below U0.out bw7)
    replace U1 := Aside0.mk (Kd.R_below U1.out bw7)
    replace V0 := Aside0.mk (Kd.R_below V0.out bw7)
    replace V1 := Aside0.mk (Kd.R_below V1.out bw7)
    replace HB := Aside0.mk (bel_then HB.out bw7)
    replace HL := Aside0.mk (Nat.le_trans HL.out bw7.size)
    clear bw7
    have zFM := blk_lt FM.out
    have cFM_0 : w7.cell? ⟨w1.heap.size, 0, none⟩ = some (.string x.f0.f0) := by have := FM.out; simp [World.cell?, this]
    have cFM_1 : w7.cell? ⟨w1.heap.size, 1, none⟩ = some (.string x.f0.f1) := by have := FM.out; simp [World.cell?, this]
    have cFM_2 : w7.cell? ⟨w1.heap.size, 2, none⟩ = some (.slice A0 x.f1.length c0) := by have := FM.out; simp [World.cell?, this]
    have cFM_3 : w7.cell? ⟨w1.heap.size, 3, none⟩ = some (.slice A1 x.f2.length c1) := by have := FM.out; simp [World.cell?, this]
    go_wp2_with fail
    generalize hWw8 : World.alloc (w7) _ = w8
    have ltFM := blk_lt FM.out
    have ltFX := blk_lt FX.out
    have ltFW := blk_lt FW.out
    have ltb := HB.out.size
    have ltl := HL.out
    have TT : ∀ k, k < w7.heap.size → w8.heap[k]? = w7.heap[k]? := fun k hk => by rw [← hWw8]; (with_reducible repeat (first | rfl | refine hp_set ?_ ?_ | refine hp_alloc ?_ ?_ | refine hp_drew ?_)); all_goals (first | (with_reducible rfl) | omega | (dsimp only; omega) | (simp; omega))
    have TS : w7.heap.size + 1 ≤ w8.heap.size := by rw [← hWw8]; simp
    have nFM : w8.heap[w1.heap.size]? = some (.cells #[.string x.f0.f0, .string x.f0.f1, .slice A0 x.f1.length c0, .slice A1 x.f2.length c1] 46 (0, 0)) := (TT _ ltFM).trans FM.out
    have nFX : w8.heap[w2.heap.size]? = some (.cells #[.string y.f0.f0, .string y.f0.f1, .slice B0 y.f1.length d0, .slice B1 y.f2.length d1] 46 (0, 0)) := (TT _ ltFX).trans FX.out
    have nFW : w8.heap[w4.heap.size]? = some (.cells #[.string y.f0.f0, .string y.f0.f1, .slice E0 y.f1.length e0, .slice E1 y.f2.length e1] 46 (0, 0)) := (TT _ ltFW).trans FW.out
    have nU0 : Kd.R kAddr 33 w8 w1.heap.size (fun _ => True) (.slice B0 y.f1.length d0) y.f1 := R_keepT U0.out rfl (fun k hk ho => TT k hk)
    have nU1 : Kd.R Kd.string 9 w8 w1.heap.size (fun _ => True) (.slice B1 y.f2.length d1) y.f2 := R_keepT U1.out rfl (fun k hk ho => TT k hk)
    have nV0 : Kd.R kAddr 33 w8 w1.heap.size (fun _ => True) (.slice E0 y.f1.length e0) y.f1 := R_keepT V0.out rfl (fun k hk ho => TT k hk)
    have nV1 : Kd.R Kd.string 9 w8 w1.heap.size (fun _ => True) (.slice E1 y.f2.length e1) y.f2 := R_keepT V1.out rfl (fun k hk ho => TT k hk)
    have nHB : Below w1.heap.size w1 w8 := by rw [← hWw8]; exact bel_alloc (HB.out) _
    clear zFM cFM_0 cFM_1 cFM_2 cFM_3
    clear hWw8 FM FX FW HB U0 U1 V0 V1
    have FM := Aside0.mk nFM
    clear nFM
    have FX := Aside0.mk nFX
    clear nFX
    have FW := Aside0.mk nFW
    clear nFW
    have U0 := Aside0.mk nU0
    clear nU0
    have U1 := Aside0.mk nU1
    clear nU1
    have V0 := Aside0.mk nV0
    clear nV0
    have V1 := Aside0.mk nV1
    clear nV1
    have HB := Aside0.mk nHB
    clear nHB
    replace HL := Aside0.mk (Nat.le_trans HL.out (by omega : w7.heap.size ≤ w8.heap.size))
    clear TT TS ltFM ltFX ltFW ltb ltl
    refine Calls.mono (hfor _ HB.out) ?_
    rintro e w9 ⟨rfl, bw9⟩
    replace FM := Aside0.mk (below_blk FM.out bw9)
    replace FX := Aside0.mk (below_blk FX.out bw9)
    replace FW := Aside0.mk (below_blk FW.out bw9)
    replace U0 := Aside0.mk (Kd.R_below U0.out bw9)
    replace U1 := Aside0.mk (Kd.R_below U1.out bw9)
    replace V0 := Aside0.mk (Kd.R_below V0.out bw9)
    replace V1 := Aside0.mk (Kd.R_below V1.out bw9)
    replace HB := Aside0.mk (bel_then HB.out bw9)
    replace HL := Aside0.mk (Nat.le_trans HL.out bw9.size)
    clear bw9
    clear himpl hspec hnil hfor hnn hn2
    generalize hq : ((y.f0.f0.toList == x.f0.f0.toList) && (y.f0.f1.toList == x.f0.f1.toList)) = q
    rcases hc with ⟨hyx, hn3, hK⟩ | ⟨k, hK, hk, ⟨hn3, hf2⟩ | ⟨hn3, hy0, hy1, hy2, hmy⟩⟩
    · subst hn3
      have hsm : ∀ W, Below w1.heap.size w1 W → Kd.C kAddr W B0 y.f1.length y.f1 → Kd.C Kd.string W B1 y.f2.length y.f2 → Calls Tryd.prog 21 #[.agg #[.string y.f0.f0, .string y.f0.f1, .slice B0 y.f1.length d0, .slice B1 y.f2.length d1], .agg #[.string x.f0.f0, .string x.f0.f1, .slice A0 x.f1.length c0, .slice A1 x.f2.length c1]] W fun e w' => e = .returned (.bool true) ∧ Below W.heap.size W w' := fun W hW h0 h1 => by
        have hf := HFY.out
        have k0 := Kd.C_below C0.out hW
        have k1 := Kd.C_below C1.out hW
        subst hyx
        exact saMail_any _ B0 d0 B1 d1 A0 c0 A1 c1 W hf h0 h1 k0 k1
      clear hyx
      cases q
      · have zFM := blk_lt FM.out
        have cFM_0 : w9.cell? ⟨w1.heap.size, 0, none⟩ = some (.string x.f0.f0) := by have := FM.out; simp [World.cell?, this]
        have cFM_1 : w9.cell? ⟨w1.heap.size, 1, none⟩ = some (.string x.f0.f1) := by have := FM.out; simp [World.cell?, this]
        have cFM_2 : w9.cell? ⟨w1.heap.size, 2, none⟩ = some (.slice A0 x.f1.length c0) := by have := FM.out; simp [World.cell?, this]
        have cFM_3 : w9.cell? ⟨w1.heap.size, 3, none⟩ = some (.slice A1 x.f2.length c1) := by have := FM.out; simp [World.cell?, this]
        have zFX := blk_lt FX.out
        have cFX_0 : w9.cell? ⟨w2.heap.size, 0, none⟩ = some (.string y.f0.f0) := by have := FX.out; simp [World.cell?, this]
        have cFX_1 : w9.cell? ⟨w2.heap.size, 1, none⟩ = some (.string y.f0.f1) := by have := FX.out; simp [World.cell?, this]
        have cFX_2 : w9.cell? ⟨w2.heap.size, 2, none⟩ = some (.slice B0 y.f1.length d0) := by have := FX.out; simp [World.cell?, this]
        have cFX_3 : w9.cell? ⟨w2.heap.size, 3, none⟩ = some (.slice B1 y.f2.length d1) := by have := FX.out; simp [World.cell?, this]
        go_wp2_with fail
        refine Calls.mono (hsm _ HB.out (Kd.R_reads' U0.out).2.2 (Kd.R_reads' U1.out).2.2) ?_
        rintro e w11 ⟨rfl, bw11⟩
        clear zFM cFM_0 cFM_1 cFM_2 cFM_3 zFX cFX_0 cFX_1 cFX_2 cFX_3
        replace FM := Aside0.mk (below_blk FM.out bw11)
        replace FX := Aside0.mk (below_blk FX.out bw11)
        replace FW := Aside0.mk (below_blk FW.out bw11)
        replace U0 := Aside0.mk (Kd.R_below U0.out bw11)
        replace U1 := Aside0.mk (Kd.R_below U1.out bw11)
        replace V0 := Aside0.mk (Kd.R_below V0.out bw11)
        replace V1 := Aside0.mk (Kd.R_below V1.out bw11)
        replace HB := Aside0.mk (bel_then HB.out bw11)
        replace HL := Aside0.mk (Nat.le_trans HL.out bw11.size)
        clear bw11
        clear hsm
        rcases hK with hK | hK
        · subst hK
          go_wp2
          go_ret
          exact ⟨rfl, BW.out.trans (HB.out.mono SZ.out)⟩
        · obtain ⟨k, hK, hk, hf2⟩ := hK
          subst hK
          obtain ⟨ad, e1, p0, p1, p2, p3, p4⟩ := at_Rule (Kd.C_below Cr.out HB.out) k hk
          generalize ys.getD k zRule = r at p0 p1 p2 p3 p4 hf2
          have hk1 : (k : Int) < (ys.length : Int) := by omega
          have hk2 : ¬ (k : Int) < 0 := by omega
          have hk3 : (0 : Int) ≤ (k : Int) := by omega
          subst e1
          rw [hf2] at p2
          go_wp2
          go_ret
          exact ⟨rfl, BW.out.trans (HB.out.mono SZ.out)⟩
      · have zFM := blk_lt FM.out
        have cFM_0 : w9.cell? ⟨w1.heap.size, 0, none⟩ = some (.string x.f0.f0) := by have := FM.out; simp [World.cell?, this]
        have cFM_1 : w9.cell? ⟨w1.heap.size, 1, none⟩ = some (.string x.f0.f1) := by have := FM.out; simp [World.cell?, this]
        have cFM_2 : w9.cell? ⟨w1.heap.size, 2, none⟩ = some (.slice A0 x.f1.length c0) := by have := FM.out; simp [World.cell?, this]
        have cFM_3 : w9.cell? ⟨w1.heap.size, 3, none⟩ = some (.slice A1 x.f2.length c1) := by have := FM.out; simp [World.cell?, this]
        have zFX := blk_lt FX.out
        have cFX_0 : w9.cell? ⟨w2.heap.size, 0, none⟩ = some (.string y.f0.f0) := by have := FX.out; simp [World.cell?, this]
        have cFX_1 : w9.cell? ⟨w2.heap.size, 1, none⟩ = some (.string y.f0.f1) := by have := FX.out; simp [World.cell?, this]
        have cFX_2 : w9.cell? ⟨w2.heap.size, 2, none⟩ = some (.slice B0 y.f1.length d0) := by have := FX.out; simp [World.cell?, this]
        have cFX_3 : w9.cell? ⟨w2.heap.size, 3, none⟩ = some (.slice B1 y.f2.length d1) := by have := FX.out; simp [World.cell?, this]
        go_wp2_with fail
        refine Calls.mono (saTexts_some B1 d1 A1 c1 y.f2 x.f2 _ (by have := HFY.out; exact this.2.2.1) (Kd.R_reads' U1.out).2.2 (Kd.C_below C1.out HB.out)) ?_
        rintro e w10 ⟨⟨bq, rfl⟩, bw10⟩
        clear zFM cFM_0 cFM_1 cFM_2 cFM_3 zFX cFX_0 cFX_1 cFX_2 cFX_3
        replace FM := Aside0.mk (below_blk FM.out bw10)
        replace FX := Aside0.mk (below_blk FX.out bw10)
        replace FW := Aside0.mk (below_blk FW.out bw10)
        replace U0 := Aside0.mk (Kd.R_below U0.out bw10)
        replace U1 := Aside0.mk (Kd.R_below U1.out bw10)
        replace V0 := Aside0.mk (Kd.R_below V0.out bw10)
        replace V1 := Aside0.mk (Kd.R_below V1.out bw10)
        replace HB := Aside0.mk (bel_then HB.out bw10)
        replace HL := Aside0.mk (Nat.le_trans HL.out bw10.size)
        clear bw10
        have zFM := blk_lt FM.out
        have cFM_0 : w10.cell? ⟨w1.heap.size, 0, none⟩ = some (.string x.f0.f0) := by have := FM.out; simp [World.cell?, this]
        have cFM_1 : w10.cell? ⟨w1.heap.size, 1, none⟩ = some (.string x.f0.f1) := by have := FM.out; simp [World.cell?, this]
        have cFM_2 : w10.cell? ⟨w1.heap.size, 2, none⟩ = some (.slice A0 x.f1.length c0) := by have := FM.out; simp [World.cell?, this]
        have cFM_3 : w10.cell? ⟨w1.heap.size, 3, none⟩ = some (.slice A1 x.f2.length c1) := by have := FM.out; simp [World.cell?, this]
        have zFX := blk_lt FX.out
        have cFX_0 : w10.cell? ⟨w2.heap.size, 0, none⟩ = some (.string y.f0.f0) := by have := FX.out; simp [World.cell?, this]
        have cFX_1 : w10.cell? ⟨w2.heap.size, 1, none⟩ = some (.string y.f0.f1) := by have := FX.out; simp [World.cell?, this]
        have cFX_2 : w10.cell? ⟨w2.heap.size, 2, none⟩ = some (.slice B0 y.f1.length d0) := by have := FX.out; simp [World.cell?, this]
        have cFX_3 : w10.cell? ⟨w2.heap.size, 3, none⟩ = some (.slice B1 y.f2.length d1) := by have := FX.out; simp [World.cell?, this]
        go_wp2_with fail
        refine Calls.mono (hsm _ HB.out (Kd.R_reads' U0.out).2.2 (Kd.R_reads' U1.out).2.2) ?_
        rintro e w11 ⟨rfl, bw11⟩
        clear zFM cFM_0 cFM_1 cFM_2 cFM_3 zFX cFX_0 cFX_1 cFX_2 cFX_3
        replace FM := Aside0.mk (below_blk FM.out bw11)
        replace FX := Aside0.mk (below_blk FX.out bw11)
        replace FW := Aside0.mk (below_blk FW.out bw11)
        replace U0 := Aside0.mk (Kd.R_below U0.out bw11)
        replace U1 := Aside0.mk (Kd.R_below U1.out bw11)
        replace V0 := Aside0.mk (Kd.R_below V0.out bw11)
        replace V1 := Aside0.mk (Kd.R_below V1.out bw11)
        replace HB := Aside0.mk (bel_then HB.out bw11)
        replace HL := Aside0.mk (Nat.le_trans HL.out bw11.size)
        clear bw11
        clear hsm
        rcases hK with hK | hK
        · subst hK
          go_wp2
          go_ret
          exact ⟨rfl, BW.out.trans (HB.out.mono SZ.out)⟩
        · obtain ⟨k, hK, hk, hf2⟩ := hK
          subst hK
          obtain ⟨ad, e1, p0, p1, p2, p3, p4⟩ := at_Rule (Kd.C_below Cr.out HB.out) k hk
          generalize ys.getD k zRule = r at p0 p1 p2 p3 p4 hf2
          have hk1 : (k : Int) < (ys.length : Int) := by omega
          have hk2 : ¬ (k : Int) < 0 := by omega
          have hk3 : (0 : Int) ≤ (k : Int) := by omega
          subst e1
          rw [hf2] at p2
          go_wp2
          go_ret
          exact ⟨rfl, BW.out.trans (HB.out.mono SZ.out)⟩
    · subst hn3
      subst hK
      cases q
      · have zFM := blk_lt FM.out
        have cFM_0 : w9.cell? ⟨w1.heap.size, 0, none⟩ = some (.string x.f0.f0) := by have := FM.out; simp [World.cell?, this]
        have cFM_1 : w9.cell? ⟨w1.heap.size, 1, none⟩ = some (.string x.f0.f1) := by have := FM.out; simp [World.cell?, this]
        have cFM_2 : w9.cell? ⟨w1.heap.size, 2, none⟩ = some (.slice A0 x.f1.length c0) := by have := FM.out; simp [World.cell?, this]
        have cFM_3 : w9.cell? ⟨w1.heap.size, 3, none⟩ = some (.slice A1 x.f2.length c1) := by have := FM.out; simp [World.cell?, this]
        have zFX := blk_lt FX.out
        have cFX_0 : w9.cell? ⟨w2.heap.size, 0, none⟩ = some (.string y.f0.f0) := by have := FX.out; simp [World.cell?, this]
        have cFX_1 : w9.cell? ⟨w2.heap.size, 1, none⟩ = some (.string y.f0.f1) := by have := FX.out; simp [World.cell?, this]
        have cFX_2 : w9.cell? ⟨w2.heap.size, 2, none⟩ = some (.slice B0 y.f1.length d0) := by have := FX.out; simp [World.cell?, this]
        have cFX_3 : w9.cell? ⟨w2.heap.size, 3, none⟩ = some (.slice B1 y.f2.length d1) := by have := FX.out; simp [World.cell?, this]
        obtain ⟨ad, e1, p0, p1, p2, p3, p4⟩ := at_Rule (Kd.C_below Cr.out HB.out) k hk
        generalize ys.getD k zRule = r at p0 p1 p2 p3 p4 hf2
        have hk1 : (k : Int) < (ys.length : Int) := by omega
        have hk2 : ¬ (k : Int) < 0 := by omega
        have hk3 : (0 : Int) ≤ (k : Int) := by omega
        subst e1
        rw [hf2] at p2
        go_wp2
        go_ret
        exact ⟨rfl, BW.out.trans (HB.out.mono SZ.out)⟩
      · have zFM := blk_lt FM.out
        have cFM_0 : w9.cell? ⟨w1.heap.size, 0, none⟩ = some (.string x.f0.f0) := by have := FM.out; simp [World.cell?, this]
        have cFM_1 : w9.cell? ⟨w1.heap.size, 1, none⟩ = some (.string x.f0.f1) := by have := FM.out; simp [World.cell?, this]
        have cFM_2 : w9.cell? ⟨w1.heap.size, 2, none⟩ = some (.slice A0 x.f1.length c0) := by have := FM.out; simp [World.cell?, this]
        have cFM_3 : w9.cell? ⟨w1.heap.size, 3, none⟩ = some (.slice A1 x.f2.length c1) := by have := FM.out; simp [World.cell?, this]
        have zFX := blk_lt FX.out
        have cFX_0 : w9.cell? ⟨w2.heap.size, 0, none⟩ = some (.string y.f0.f0) := by have := FX.out; simp [World.cell?, this]
        have cFX_1 : w9.cell? ⟨w2.heap.size, 1, none⟩ = some (.string y.f0.f1) := by have := FX.out; simp [World.cell?, this]
        have cFX_2 : w9.cell? ⟨w2.heap.size, 2, none⟩ = some (.slice B0 y.f1.length d0) := by have := FX.out; simp [World.cell?, this]
        have cFX_3 : w9.cell? ⟨w2.heap.size, 3, none⟩ = some (.slice B1 y.f2.length d1) := by have := FX.out; simp [World.cell?, this]
        go_wp2_with fail
        refine Calls.mono (saTexts_some B1 d1 A1 c1 y.f2 x.f2 _ (by have := HFY.out; exact this.2.2.1) (Kd.R_reads' U1.out).2.2 (Kd.C_below C1.out HB.out)) ?_
        rintro e w10 ⟨⟨bq, rfl⟩, bw10⟩
        clear zFM cFM_0 cFM_1 cFM_2 cFM_3 zFX cFX_0 cFX_1 cFX_2 cFX_3
        replace FM := Aside0.mk (below_blk FM.out bw10)
        replace FX := Aside0.mk (below_blk FX.out bw10)
        replace FW := Aside0.mk (below_blk FW.out bw10)
        replace U0 := Aside0.mk (Kd.R_below U0.out bw10)
        replace U1 := Aside0.mk (Kd.R_below U1.out bw10)
        replace V0 := Aside0.mk (Kd.R_below V0.out bw10)
        replace V1 := Aside0.mk (Kd.R_below V1.out bw10)
        replace HB := Aside0.mk (bel_then HB.out bw10)
        replace HL := Aside0.mk (Nat.le_trans HL.out bw10.size)
        clear bw10
        have zFM := blk_lt FM.out
        have cFM_0 : w10.cell? ⟨w1.heap.size, 0, none⟩ = some (.string x.f0.f0) := by have := FM.out; simp [World.cell?, this]
        have cFM_1 : w10.cell? ⟨w1.heap.size, 1, none⟩ = some (.string x.f0.f1) := by have := FM.out; simp [World.cell?, this]
        have cFM_2 : w10.cell? ⟨w1.heap.size, 2, none⟩ = some (.slice A0 x.f1.length c0) := by have := FM.out; simp [World.cell?, this]
        have cFM_3 : w10.cell? ⟨w1.heap.size, 3, none⟩ = some (.slice A1 x.f2.length c1) := by have := FM.out; simp [World.cell?, this]
        have zFX := blk_lt FX.out
        have cFX_0 : w10.cell? ⟨w2.heap.size, 0, none⟩ = some (.string y.f0.f0) := by have := FX.out; simp [World.cell?, this]
        have cFX_1 : w10.cell? ⟨w2.heap.size, 1, none⟩ = some (.string y.f0.f1) := by have := FX.out; simp [World.cell?, this]
        have cFX_2 : w10.cell? ⟨w2.heap.size, 2, none⟩ = some (.slice B0 y.f1.length d0) := by have := FX.out; simp [World.cell?, this]
        have cFX_3 : w10.cell? ⟨w2.heap.size, 3, none⟩ = some (.slice B1 y.f2.length d1) := by have := FX.out; simp [World.cell?, this]
        obtain ⟨ad, e1, p0, p1, p2, p3, p4⟩ := at_Rule (Kd.C_below Cr.out HB.out) k hk
        generalize ys.getD k zRule = r at p0 p1 p2 p3 p4 hf2
        have hk1 : (k : Int) < (ys.length : Int) := by omega
        have hk2 : ¬ (k : Int) < 0 := by omega
        have hk3 : (0 : Int) ≤ (k : Int) := by omega
        subst e1
        rw [hf2] at p2
        go_wp2
        go_ret
        exact ⟨rfl, BW.out.trans (HB.out.mono SZ.out)⟩
    · subst hn3
      subst hK
      obtain rfl : q = true := by rw [← hq, hy0]; simp
      have HY1 := Lib.hid hy1
      have HY2 := Lib.hid hy2
      have HMY := Lib.hid hmy
      clear hy0 hy1 hy2 hmy
      have zFM := blk_lt FM.out
      have cFM_0 : w9.cell? ⟨w1.heap.size, 0, none⟩ = some (.string x.f0.f0) := by have := FM.out; simp [World.cell?, this]
      have cFM_1 : w9.cell? ⟨w1.heap.size, 1, none⟩ = some (.string x.f0.f1) := by have := FM.out; simp [World.cell?, this]
      have cFM_2 : w9.cell? ⟨w1.heap.size, 2, none⟩ = some (.slice A0 x.f1.length c0) := by have := FM.out; simp [World.cell?, this]
      have cFM_3 : w9.cell? ⟨w1.heap.size, 3, none⟩ = some (.slice A1 x.f2.length c1) := by have := FM.out; simp [World.cell?, this]
      have zFX := blk_lt FX.out
      have cFX_0 : w9.cell? ⟨w2.heap.size, 0, none⟩ = some (.string y.f0.f0) := by have := FX.out; simp [World.cell?, this]
      have cFX_1 : w9.cell? ⟨w2.heap.size, 1, none⟩ = some (.string y.f0.f1) := by have := FX.out; simp [World.cell?, this]
      have cFX_2 : w9.cell? ⟨w2.heap.size, 2, none⟩ = some (.slice B0 y.f1.length d0) := by have := FX.out; simp [World.cell?, this]
      have cFX_3 : w9.cell? ⟨w2.heap.size, 3, none⟩ = some (.slice B1 y.f2.length d1) := by have := FX.out; simp [World.cell?, this]
      go_wp2_with fail
      have hst : ∀ W, Below w1.heap.size w1 W → Kd.C Kd.string W B1 y.f2.length y.f2 → Calls Tryd.prog 31 #[.slice B1 y.f2.length d1, .slice A1 x.f2.length c1] W fun e w' => e = .returned (.bool true) ∧ Below W.heap.size W w' := fun W hW h1 => by
        have k1 := Kd.C_below C1.out hW
        have hf := HFY.out.2.2
        rw [HY2.out] at hf h1 ⊢
        exact saTexts_any B1 d1 A1 c1 x.f2 W hf h1 k1
      refine Calls.mono (hst _ HB.out (Kd.R_reads' U1.out).2.2) ?_
      rintro e w10 ⟨rfl, bw10⟩
      clear zFM cFM_0 cFM_1 cFM_2 cFM_3 zFX cFX_0 cFX_1 cFX_2 cFX_3
      replace FM := Aside0.mk (below_blk FM.out bw10)
      replace FX := Aside0.mk (below_blk FX.out bw10)
      replace FW := Aside0.mk (below_blk FW.out bw10)
      replace U0 := Aside0.mk (Kd.R_below U0.out bw10)
      replace U1 := Aside0.mk (Kd.R_below U1.out bw10)
      replace V0 := Aside0.mk (Kd.R_below V0.out bw10)
      replace V1 := Aside0.mk (Kd.R_below V1.out bw10)
      replace HB := Aside0.mk (bel_then HB.out bw10)
      replace HL := Aside0.mk (Nat.le_trans HL.out bw10.size)
      clear bw10
      clear hst
      have hy1 := HY1.out
      clear HY1
      obtain ⟨ad, e1, p0, p1, p2, p3, p4⟩ := at_Rule (Kd.C_below Cr.out HB.out) k hk
      generalize ys.getD k zRule = r at p0 p1 p2 p3 p4 hy1
      have hk1 : (k : Int) < (ys.length : Int) := by omega
      have hk2 : ¬ (k : Int) < 0 := by omega
      have hk3 : (0 : Int) ≤ (k : Int) := by omega
      have HY1 := Lib.hid hy1
      clear hy1
      subst e1
      have zFX := blk_lt FX.out
      have cFX_0 : w10.cell? ⟨w2.heap.size, 0, none⟩ = some (.string y.f0.f0) := by have := FX.out; simp [World.cell?, this]
      have cFX_1 : w10.cell? ⟨w2.heap.size, 1, none⟩ = some (.string y.f0.f1) := by have := FX.out; simp [World.cell?, this]
      have cFX_2 : w10.cell? ⟨w2.heap.size, 2, none⟩ = some (.slice B0 y.f1.length d0) := by have := FX.out; simp [World.cell?, this]
      have cFX_3 : w10.cell? ⟨w2.heap.size, 3, none⟩ = some (.slice B1 y.f2.length d1) := by have := FX.out; simp [World.cell?, this]
      go_wp2
      have HK : Aside0 (∀ W W1, Below W.heap.size W W1 → (W.cell? ⟨w2.heap.size, 0, none⟩ = some (.string y.f0.f0) ∧ W.cell? ⟨w2.heap.size, 1, none⟩ = some (.string y.f0.f1) ∧ W.cell? ⟨w2.heap.size, 2, none⟩ = some (.slice B0 y.f1.length d0) ∧ W.cell? ⟨w2.heap.size, 3, none⟩ = some (.slice B1 y.f2.length d1) ∧ W.cell? ⟨(ad.add (k * 5)).block, (ad.add (k * 5)).off + 3, none⟩ = some (.string r.f3.f0) ∧ W.cell? ⟨(ad.add (k * 5)).block, (ad.add (k * 5)).off + 4, none⟩ = some (.string r.f3.f1) ∧ Below w10.heap.size w10 W) → (W1.cell? ⟨w2.heap.size, 0, none⟩ = some (.string y.f0.f0) ∧ W1.cell? ⟨w2.heap.size, 1, none⟩ = some (.string y.f0.f1) ∧ W1.cell? ⟨w2.heap.size, 2, none⟩ = some (.slice B0 y.f1.length d0) ∧ W1.cell? ⟨w2.heap.size, 3, none⟩ = some (.slice B1 y.f2.length d1) ∧ W1.cell? ⟨(ad.add (k * 5)).block, (ad.add (k * 5)).off + 3, none⟩ = some (.string r.f3.f0) ∧ W1.cell? ⟨(ad.add (k * 5)).block, (ad.add (k * 5)).off + 4, none⟩ = some (.string r.f3.f1) ∧ Below w10.heap.size w10 W1)) := ⟨fun W W1 hb h => ⟨(hb.cell (World.block_lt_of_cell? W _ (h.1))).trans (h.1), (hb.cell (World.block_lt_of_cell? W _ (h.2.1))).trans (h.2.1), (hb.cell (World.block_lt_of_cell? W _ (h.2.2.1))).trans (h.2.2.1), (hb.cell (World.block_lt_of_cell? W _ (h.2.2.2.1))).trans (h.2.2.2.1), (hb.cell (World.block_lt_of_cell? W _ (h.2.2.2.2.1))).trans (h.2.2.2.2.1), (hb.cell (World.block_lt_of_cell? W _ (h.2.2.2.2.2.1))).trans (h.2.2.2.2.2.1), bel_then (h.2.2.2.2.2.2) hb⟩⟩
      have hso : ∀ W C, Below w10.heap.size w10 W → Kd.C kAddr W C 1 [r.f3] → Calls Tryd.prog 32 #[.slice B0 y.f1.length d0, .slice C 1 1] W fun e w' => e = .returned (.bool true) ∧ Below W.heap.size W w' := fun W C hW hC => by
        have h0 := Kd.C_below (Kd.R_reads' U0.out).2.2 hW
        rw [HY1.out] at h0 ⊢
        exact saAddrs_any B0 d0 C 1 [r.f3] W (by simp) h0 hC
      have hmo : ∀ W, Below w10.heap.size w10 W → Calls Tryd.prog 25 #[.agg #[.string y.f0.f0, .string y.f0.f1, .slice B0 y.f1.length d0, .slice B1 y.f2.length d1]] W fun e w' => e = .returned (.bool true) ∧ Below W.heap.size W w' := fun W hW => by
        have hf := HFY.out
        have h := MailOk_any y.f0.f0 y.f0.f1 B0 d0 y.f1 B1 d1 y.f2 W (by have := hf.1.1; omega) (by have := hf.1.2; omega) (Kd.C_below (Kd.R_reads' U0.out).2.2 hW) (by have := hf.2.1.1; omega) (fun z hz => afit_of z (hf.2.1.2 z hz)) (Kd.C_below (Kd.R_reads' U1.out).2.2 hW) (bfit_of hf.2.2).1 (bfit_of hf.2.2).2 (HG.out.below (bel_then HB.out hW))
        have e : mailOk y.f0.f0.data.toList y.f0.f1.data.toList y.f1 y.f2 = true := HMY.out
        rw [e] at h
        exact h
      have HST : Aside0 ((fun W => W.cell? ⟨w2.heap.size, 0, none⟩ = some (.string y.f0.f0) ∧ W.cell? ⟨w2.heap.size, 1, none⟩ = some (.string y.f0.f1) ∧ W.cell? ⟨w2.heap.size, 2, none⟩ = some (.slice B0 y.f1.length d0) ∧ W.cell? ⟨w2.heap.size, 3, none⟩ = some (.slice B1 y.f2.length d1) ∧ W.cell? ⟨(ad.add (k * 5)).block, (ad.add (k * 5)).off + 3, none⟩ = some (.string r.f3.f0) ∧ W.cell? ⟨(ad.add (k * 5)).block, (ad.add (k * 5)).off + 4, none⟩ = some (.string r.f3.f1) ∧ Below w10.heap.size w10 W) w10.drew) := ⟨⟨cFX_0, cFX_1, cFX_2, cFX_3, p3, p4, drew_below0 w10⟩⟩
      refine wp_region_held_drew (S := (fun W => W.cell? ⟨w2.heap.size, 0, none⟩ = some (.string y.f0.f0) ∧ W.cell? ⟨w2.heap.size, 1, none⟩ = some (.string y.f0.f1) ∧ W.cell? ⟨w2.heap.size, 2, none⟩ = some (.slice B0 y.f1.length d0) ∧ W.cell? ⟨w2.heap.size, 3, none⟩ = some (.slice B1 y.f2.length d1) ∧ W.cell? ⟨(ad.add (k * 5)).block, (ad.add (k * 5)).off + 3, none⟩ = some (.string r.f3.f0) ∧ W.cell? ⟨(ad.add (k * 5)).block, (ad.add (k * 5)).off + 4, none⟩ = some (.string r.f3.f1) ∧ Below w10.heap.size w10 W)) (by kernel_rfl) ?s82 (fun hHeld => ?t82)
      case s82 => exact HST.out
      generalize World.drew _ = V0 at hHeld ⊢
      refine wpAnyH_take (i := 0) (oi := { dst := some 112, op := Op.move (Operand.tmp 12), type := 4, pos := "laws.go:1394", after := #[], guard := none }) (v := ?v83) rfl (by kernel_rfl) (by kernel_rfl) (by kernel_rfl) (fun _ _ _ h => h) (Or.inl ⟨by rfl, ?y83⟩) (by assumption) ?r83
      case y83 => intro w_ hSw; (try dsimp only at hSw); go_simp; (try (with_reducible rfl))
      try simp only [Act.put, List.setIfInBounds_toArray, List.set_cons_zero, List.set_cons_succ]
      refine wpAnyH_take (i := 1) (oi := { dst := some 113, op := Op.move (Operand.tmp 112), type := 4, pos := "laws.go:1394", after := #[{ on := 0, ground := Ground.data }], guard := none }) (v := ?v84) rfl (by kernel_rfl) (by kernel_rfl) (by kernel_rfl) (fun _ _ _ h => h) (Or.inl ⟨by rfl, ?y84⟩) (by assumption) ?r84
      case y84 => intro w_ hSw; (try dsimp only at hSw); go_simp; (try (with_reducible rfl))
      try simp only [Act.put, List.setIfInBounds_toArray, List.set_cons_zero, List.set_cons_succ]
      refine wpAnyH_take (i := 2) (oi := { dst := some 114, op := Op.move (Operand.tmp 11), type := 3, pos := "laws.go:1394", after := #[{ on := 1, ground := Ground.guard }], guard := some (1, true) }) (v := ?v85) rfl (by kernel_rfl) (by kernel_rfl) (by kernel_rfl) (fun _ _ _ h => h) (Or.inl ⟨by rfl, ?y85⟩) (by assumption) ?r85
      case y85 => intro w_ hSw; (try dsimp only at hSw); go_simp; (try (with_reducible rfl))
      try simp only [Act.put, List.setIfInBounds_toArray, List.set_cons_zero, List.set_cons_succ]
      refine wpAnyH_take (i := 3) (oi := { dst := some 115, op := Op.binOp BinOp.geq 3 (Operand.tmp 114) (Operand.const (Value.int IntKind.i64 0)) 3, type := 4, pos := "laws.go:1394", after := #[{ on := 2, ground := Ground.data }, { on := 1, ground := Ground.guard }], guard := some (1, true) }) (v := ?v86) rfl (by kernel_rfl) (by kernel_rfl) (by kernel_rfl) (fun _ _ _ h => h) (Or.inl ⟨by rfl, ?y86⟩) (by assumption) ?r86
      case y86 => intro w_ hSw; (try dsimp only at hSw); go_simp; (try (with_reducible rfl))
      try simp only [Act.put, List.setIfInBounds_toArray, List.set_cons_zero, List.set_cons_succ]
      refine wpAnyH_take (i := 4) (oi := { dst := some 116, op := Op.pick (Operand.tmp 113) (Operand.tmp 115) (Operand.const (Value.bool false)), type := 4, pos := "laws.go:1394", after := #[{ on := 1, ground := Ground.data }, { on := 3, ground := Ground.data }], guard := none }) (v := ?v87) rfl (by kernel_rfl) (by kernel_rfl) (by kernel_rfl) (fun _ _ _ h => h) (Or.inl ⟨by rfl, ?y87⟩) (by assumption) ?r87
      case y87 => intro w_ hSw; (try dsimp only at hSw); go_simp; (try (with_reducible rfl))
      try simp only [Act.put, List.setIfInBounds_toArray, List.set_cons_zero, List.set_cons_succ]
      refine wpAnyH_take (i := 5) (oi := { dst := some 117, op := Op.move (Operand.tmp 116), type := 4, pos := "laws.go:1394", after := #[{ on := 4, ground := Ground.data }, { on := 1, ground := Ground.chain }], guard := none }) (v := ?v88) rfl (by kernel_rfl) (by kernel_rfl) (by kernel_rfl) (fun _ _ _ h => h) (Or.inl ⟨by rfl, ?y88⟩) (by assumption) ?r88
      case y88 => intro w_ hSw; (try dsimp only at hSw); go_simp; (try (with_reducible rfl))
      try simp only [Act.put, List.setIfInBounds_toArray, List.set_cons_zero, List.set_cons_succ]
      refine wpAnyH_take (i := 6) (oi := { dst := some 118, op := Op.fieldAddr 46 (Operand.tmp 5) 1, type := 0, pos := "laws.go:1394", after := #[{ on := 5, ground := Ground.guard }], guard := some (5, true) }) (v := ?v89) rfl (by kernel_rfl) (by kernel_rfl) (by kernel_rfl) (fun _ _ _ h => h) (Or.inl ⟨by rfl, ?y89⟩) (by assumption) ?r89
      case y89 => intro w_ hSw; (try dsimp only at hSw); go_simp; (try (with_reducible rfl))
      try simp only [Act.put, List.setIfInBounds_toArray, List.set_cons_zero, List.set_cons_succ]
      refine wpAnyH_take (i := 7) (oi := { dst := some 119, op := Op.load 44 (Operand.tmp 118), type := 44, pos := "laws.go:1394", after := #[{ on := 6, ground := Ground.data }, { on := 5, ground := Ground.guard }], guard := some (5, true) }) (v := ?v90) rfl (by kernel_rfl) (by kernel_rfl) (by kernel_rfl) (fun _ _ _ h => h) (Or.inl ⟨by rfl, ?y90⟩) (by assumption) ?r90
      case y90 => intro w_ hSw; (try dsimp only at hSw); go_simp; (try (with_reducible rfl))
      try simp only [Act.put, List.setIfInBounds_toArray, List.set_cons_zero, List.set_cons_succ]
      refine wpAnyH_take (i := 8) (oi := { dst := some 120, op := Op.move (Operand.tmp 3), type := 41, pos := "laws.go:1394", after := #[{ on := 5, ground := Ground.guard }], guard := some (5, true) }) (v := ?v91) rfl (by kernel_rfl) (by kernel_rfl) (by kernel_rfl) (fun _ _ _ h => h) (Or.inl ⟨by rfl, ?y91⟩) (by assumption) ?r91
      case y91 => intro w_ hSw; (try dsimp only at hSw); go_simp; (try (with_reducible rfl))
      try simp only [Act.put, List.setIfInBounds_toArray, List.set_cons_zero, List.set_cons_succ]
      refine wpAnyH_take (i := 9) (oi := { dst := some 121, op := Op.move (Operand.tmp 11), type := 3, pos := "laws.go:1394", after := #[{ on := 5, ground := Ground.guard }], guard := some (5, true) }) (v := ?v92) rfl (by kernel_rfl) (by kernel_rfl) (by kernel_rfl) (fun _ _ _ h => h) (Or.inl ⟨by rfl, ?y92⟩) (by assumption) ?r92
      case y92 => intro w_ hSw; (try dsimp only at hSw); go_simp; (try (with_reducible rfl))
      try simp only [Act.put, List.setIfInBounds_toArray, List.set_cons_zero, List.set_cons_succ]
      refine wpAnyH_take (i := 10) (oi := { dst := some 122, op := Op.indexAddr 41 (Operand.tmp 120) (Operand.tmp 121), type := 0, pos := "laws.go:1394", after := #[{ on := 8, ground := Ground.data }, { on := 9, ground := Ground.data }, { on := 5, ground := Ground.guard }], guard := some (5, true) }) (v := ?v93) rfl (by kernel_rfl) (by kernel_rfl) (by kernel_rfl) (fun _ _ _ h => h) (Or.inl ⟨by rfl, ?y93⟩) (by assumption) ?r93
      case y93 => intro w_ hSw; (try dsimp only at hSw); go_simp; (try (with_reducible rfl))
      try simp only [Act.put, List.setIfInBounds_toArray, List.set_cons_zero, List.set_cons_succ]
      refine wpAnyH_take (i := 11) (oi := { dst := some 123, op := Op.fieldAddr 65 (Operand.tmp 122) 3, type := 0, pos := "laws.go:1394", after := #[{ on := 10, ground := Ground.data }, { on := 5, ground := Ground.guard }], guard := some (5, true) }) (v := ?v94) rfl (by kernel_rfl) (by kernel_rfl) (by kernel_rfl) (fun _ _ _ h => h) (Or.inl ⟨by rfl, ?y94⟩) (by assumption) ?r94
      case y94 => intro w_ hSw; (try dsimp only at hSw); go_simp; (try (with_reducible rfl))
      try simp only [Act.put, List.setIfInBounds_toArray, List.set_cons_zero, List.set_cons_succ]
      refine wpAnyH_take (i := 12) (oi := { dst := some 124, op := Op.load 33 (Operand.tmp 123), type := 33, pos := "laws.go:1394", after := #[{ on := 11, ground := Ground.data }, { on := 5, ground := Ground.guard }], guard := some (5, true) }) (v := ?v95) rfl (by kernel_rfl) (by kernel_rfl) (by kernel_rfl) (fun _ _ _ h => h) (Or.inl ⟨by rfl, ?y95⟩) (by assumption) ?r95
      case y95 => intro w_ hSw; (try dsimp only at hSw); go_simp; (try (with_reducible rfl))
      try simp only [Act.put, List.setIfInBounds_toArray, List.set_cons_zero, List.set_cons_succ]
      refine wpAnyH_ready (rs := [13]) (by kernel_rfl) (by simp) ?_
      refine AllReadyH.cons (o := { dst := some 125, op := Op.buildSlice 44 1 #[(0, Operand.tmp 124)], type := 44, pos := "laws.go:1394", after := #[{ on := 12, ground := Ground.data }, { on := 5, ground := Ground.guard }], guard := some (5, true) }) rfl (fun K hK => ?k96) AllReadyH.nil
      case k96 =>
        have lo13 : w10.heap.size ≤ V0.heap.size := hHeld.2.2.2.2.2.2.size
        go_simp
        refine hK.out _ _ ?h97 (fun hHeld => ?j97)
        case h97 => exact HK.out _ _ (bel_alloc (Below.refl _ _) _) hHeld
        clear hK K
        try simp only [Act.put, List.setIfInBounds_toArray, List.set_cons_zero, List.set_cons_succ]
        generalize hV13 : World.alloc V0 _ = V13 at hHeld ⊢
        have b13 : Below V0.heap.size V0 V13 := by rw [← hV13]; exact bel_alloc (Below.refl _ _) _
        have z13 : V0.heap.size < V13.heap.size := by rw [← hV13]; simp
        have F3 := Aside0.mk (hV13 ▸ R_one kAddr 33 V0 w10.heap.size r.f3 [.string r.f3.f0, .string r.f3.f1] (kAddr_mkM _ _ _ r.f3) lo13)
        obtain ⟨g13, hg13⟩ : ∃ g, g = V0.heap.size := ⟨_, rfl⟩
        rw [← hg13] at F3 z13 ⊢
        clear hV13 hg13
        refine wpAnyH_ready (rs := [14]) (by kernel_rfl) (by simp) ?_
        refine AllReadyH.cons (o := { dst := some 126, op := Op.call { callee := Callee.value (Operand.func 32), args := #[Operand.tmp 119, Operand.tmp 125], argTypes := #[44, 44] }, type := 4, pos := "laws.go:1394", after := #[{ on := 7, ground := Ground.data }, { on := 13, ground := Ground.data }, { on := 5, ground := Ground.chain }, { on := 5, ground := Ground.guard }], guard := some (5, true) }) rfl (fun K hK => ?k98) AllReadyH.nil
        case k98 =>
          go_simp
          refine Calls.mono (hso _ _ (hHeld.2.2.2.2.2.2) (Kd.R_reads' F3.out).2.2) ?_
          rintro e V14 ⟨rfl, b14⟩
          refine hK.out _ _ ?h99 (fun hHeld => ?j99)
          case h99 => exact HK.out _ _ b14 hHeld
          clear hK K
          try simp only [Act.put, List.setIfInBounds_toArray, List.set_cons_zero, List.set_cons_succ]
          replace F3 := Aside0.mk (Kd.R_below F3.out b14)
          refine wpAnyH_take (i := 15) (oi := { dst := some 127, op := Op.pick (Operand.tmp 117) (Operand.tmp 126) (Operand.const (Value.bool false)), type := 4, pos := "laws.go:1394", after := #[{ on := 5, ground := Ground.data }, { on := 14, ground := Ground.data }], guard := none }) (v := ?v100) rfl (by kernel_rfl) (by kernel_rfl) (by kernel_rfl) (fun _ _ _ h => h) (Or.inl ⟨by rfl, ?y100⟩) (by assumption) ?r100
          case y100 => intro w_ hSw; (try dsimp only at hSw); go_simp; (try (with_reducible rfl))
          try simp only [Act.put, List.setIfInBounds_toArray, List.set_cons_zero, List.set_cons_succ]
          refine wpAnyH_take (i := 16) (oi := { dst := some 128, op := Op.move (Operand.tmp 127), type := 4, pos := "laws.go:1394", after := #[{ on := 15, ground := Ground.data }, { on := 14, ground := Ground.chain }], guard := none }) (v := ?v101) rfl (by kernel_rfl) (by kernel_rfl) (by kernel_rfl) (fun _ _ _ h => h) (Or.inl ⟨by rfl, ?y101⟩) (by assumption) ?r101
          case y101 => intro w_ hSw; (try dsimp only at hSw); go_simp; (try (with_reducible rfl))
          try simp only [Act.put, List.setIfInBounds_toArray, List.set_cons_zero, List.set_cons_succ]
          refine wpAnyH_take (i := 17) (oi := { dst := some 129, op := Op.load 46 (Operand.tmp 5), type := 46, pos := "laws.go:1394", after := #[{ on := 16, ground := Ground.guard }], guard := some (16, true) }) (v := ?v102) rfl (by kernel_rfl) (by kernel_rfl) (by kernel_rfl) (fun _ _ _ h => h) (Or.inl ⟨by rfl, ?y102⟩) (by assumption) ?r102
          case y102 => intro w_ hSw; (try dsimp only at hSw); go_simp; (try (with_reducible rfl))
          try simp only [Act.put, List.setIfInBounds_toArray, List.set_cons_zero, List.set_cons_succ]
          refine wpAnyH_ready (rs := [18]) (by kernel_rfl) (by simp) ?_
          refine AllReadyH.cons (o := { dst := some 130, op := Op.call { callee := Callee.value (Operand.func 25), args := #[Operand.tmp 129], argTypes := #[46] }, type := 4, pos := "laws.go:1394", after := #[{ on := 17, ground := Ground.data }, { on := 16, ground := Ground.chain }, { on := 16, ground := Ground.guard }], guard := some (16, true) }) rfl (fun K hK => ?k103) AllReadyH.nil
          case k103 =>
            go_simp
            refine Calls.mono (hmo _ (hHeld.2.2.2.2.2.2)) ?_
            rintro e V18 ⟨rfl, b18⟩
            refine hK.out _ _ ?h104 (fun hHeld => ?j104)
            case h104 => exact HK.out _ _ b18 hHeld
            clear hK K
            try simp only [Act.put, List.setIfInBounds_toArray, List.set_cons_zero, List.set_cons_succ]
            replace F3 := Aside0.mk (Kd.R_below F3.out b18)
            refine wpAnyH_take (i := 19) (oi := { dst := some 131, op := Op.pick (Operand.tmp 128) (Operand.tmp 130) (Operand.const (Value.bool false)), type := 4, pos := "laws.go:1394", after := #[{ on := 16, ground := Ground.data }, { on := 18, ground := Ground.data }], guard := none }) (v := ?v105) rfl (by kernel_rfl) (by kernel_rfl) (by kernel_rfl) (fun _ _ _ h => h) (Or.inl ⟨by rfl, ?y105⟩) (by assumption) ?r105
            case y105 => intro w_ hSw; (try dsimp only at hSw); go_simp; (try (with_reducible rfl))
            try simp only [Act.put, List.setIfInBounds_toArray, List.set_cons_zero, List.set_cons_succ]
            refine wpAnyH_take (i := 20) (oi := { dst := some 2, op := Op.assign (Operand.tmp 131), type := 4, pos := "laws.go:1394", after := #[{ on := 19, ground := Ground.data }, { on := 18, ground := Ground.chain }, { on := 0, ground := Ground.phase }, { on := 1, ground := Ground.phase }, { on := 2, ground := Ground.phase }, { on := 3, ground := Ground.phase }, { on := 4, ground := Ground.phase }, { on := 5, ground := Ground.phase }, { on := 6, ground := Ground.phase }, { on := 7, ground := Ground.phase }, { on := 8, ground := Ground.phase }, { on := 9, ground := Ground.phase }, { on := 10, ground := Ground.phase }, { on := 11, ground := Ground.phase }, { on := 12, ground := Ground.phase }, { on := 13, ground := Ground.phase }, { on := 14, ground := Ground.phase }, { on := 15, ground := Ground.phase }, { on := 16, ground := Ground.phase }, { on := 17, ground := Ground.phase }, { on := 18, ground := Ground.phase }, { on := 19, ground := Ground.phase }], guard := none }) (v := ?v106) rfl (by kernel_rfl) (by kernel_rfl) (by kernel_rfl) (fun _ _ _ h => h) (Or.inl ⟨by rfl, ?y106⟩) (by assumption) ?r106
            case y106 => intro w_ hSw; (try dsimp only at hSw); go_simp; (try (with_reducible rfl))
            try simp only [Act.put, List.setIfInBounds_toArray, List.set_cons_zero, List.set_cons_succ]
            refine wpAnyH_done (by kernel_rfl) ?_ _
            go_wp2
            go_ret
            exact ⟨rfl, BW.out.trans ((bel_then HB.out (hHeld.2.2.2.2.2.2)).mono SZ.out)⟩

end Go.Proofs.YtmfehmbgghfffaaDoor
