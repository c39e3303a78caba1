/- The law FnSieveTidy, walked. -/
import Derived.Test.YtmfehmbgghfffaaDoorDrwSv
import Derived.Test.YtmfehmbgghfffaaDoorSieveX
import Derived.Test.YtmfehmbgghfffaaDoorTidyS
import Derived.Test.YtmfehmbgghfffaaDoorSaR
import Derived.Deep.RegionHeld3
namespace Go.Proofs.YtmfehmbgghfffaaDoor
open Go.RowKit Go.Proofs.YtmfehmbgghfffaaDoorW.PrintWords
set_option linter.unusedVariables false
set_option linter.unusedSimpArgs false
theorem bounds_u8' {n : Int} (h : (Lit.int .u8 n).wf = true) : 0 ≤ n ∧ n ≤ 255 := by
  simp [Lit.wf, IntKind.min, IntKind.max, IntKind.signed, IntKind.bits] at h
  omega
set_option maxRecDepth 100000 in
set_option maxHeartbeats 40000000 in
theorem walk_FnSieveTidy {w : World} (A : Option Addr) (c : Nat) (xs : List Int) (hr : Kd.C (Kd.int .u8) w A xs.length xs) (hg : xs.length ≤ 9223372036854775807 ∧ ∀ y ∈ xs, (Lit.int .u8 y).wf = true) (hc : xs.length ≤ c) (A2 : Option Addr) (c2 : Nat) (xs2 : List Int) (hr2 : Kd.C (Kd.int .u8) w A2 xs2.length xs2) (hg2 : xs2.length ≤ 9223372036854775807 ∧ ∀ y ∈ xs2, (Lit.int .u8 y).wf = true) (hc2 : xs2.length ≤ c2) (hG : Glob w) :
    Calls Tryd.prog 4 #[.slice A xs.length c, .slice A2 xs2.length c2] w fun e w' => e = .returned (.bool true) ∧ Below w.heap.size w w' := by
  by_cases n1 : (1048576 : Int) < (xs.length : Int)
  · generalize xs.length = L at n1
    generalize xs2.length = L2
    go_enter Tryd.func4, Tryd.ntmps4
    go_wp2
    go_ret
    exact ⟨rfl, Below.refl _ _⟩
  by_cases n2 : (1048576 : Int) < (xs2.length : Int)
  · generalize xs.length = L at n1
    generalize xs2.length = L2 at n2
    go_enter Tryd.func4, Tryd.ntmps4
    go_wp2
    go_ret
    exact ⟨rfl, Below.refl _ _⟩
  have hd := drawSieveTidy_any A c xs w ⟨by omega, fun y hy => by have := bounds_u8' (hg.2 y hy); omega⟩ hc hr
  have hd2 := fun W (hW : Below w.heap.size w W) => drawSieveFor_any A2 c2 xs2 W ⟨by omega, fun y hy => by have := bounds_u8' (hg2.2 y hy); omega⟩ hc2 (Kd.C_below hr2 hW)
  clear hr hg hc hr2 hg2 hc2
  generalize xs.length = L at n1 hd
  generalize xs2.length = L2 at n2 hd2
  go_enter Tryd.func4, Tryd.ntmps4
  go_wp2_with fail
  refine Calls.mono hd ?_
  rintro e w1 ⟨ys, B, d, rfl, ⟨hyl, hys⟩, rr, b1⟩
  have HG := Lib.hid (hG.below b1)
  have BW := Lib.hid b1
  have SZ := Lib.hid b1.size
  have hdr2 := fun W (hW : Below w1.heap.size w1 W) => hd2 W (BW.out.trans (hW.mono SZ.out))
  have hRF : ∀ y ∈ ys, RFit y := fun y hy => by
    obtain ⟨⟨a0, a1⟩, a2, ⟨a3, a4⟩, a5, a6⟩ := hys y hy
    exact ⟨WalkArith.wf_i64 (by omega), WalkArith.wf_i64 (by omega), by omega, by omega, by omega⟩
  have hRA : ∀ y ∈ ys, fitAddr y.f3 := fun y hy => by
    obtain ⟨⟨a0, a1⟩, a2, ⟨a3, a4⟩, a5, a6⟩ := hys y hy
    exact ⟨by omega, by omega⟩
  have HRF := Lib.hid hRF
  have HRFt := Lib.hid (fun y (hy : y ∈ tidy ys) => hRF y (tidy_mem hy))
  have HRA := Lib.hid hRA
  have HYL := Lib.hid hyl
  have Cr := Aside0.mk (Kd.R_reads' rr).2.2
  have htidy := fun W (hW : Below w1.heap.size w1 W) => sieveTidy_any B d ys W (Kd.C_below Cr.out hW) (by omega) hRF (HG.out.below hW)
  clear hd hd2 hG b1 hys hRF hRA rr
  have HB : Aside0 (Below w1.heap.size w1 w1) := ⟨Below.refl _ _⟩
  have HL : Aside0 (w1.heap.size ≤ w1.heap.size) := ⟨Nat.le_refl _⟩
  go_wp2_with fail
  refine Calls.mono (htidy _ HB.out) ?_
  rintro e w2 ⟨A', c', rfl, hfc, hF0, bw2⟩
  replace HB := Aside0.mk (bel_then HB.out bw2)
  replace HL := Aside0.mk (Nat.le_trans HL.out bw2.size)
  clear bw2
  have HF := Aside0.mk hF0
  clear hF0
  go_wp2_with fail
  refine Calls.mono (hdr2 _ HB.out) ?_
  rintro e w3 ⟨zs, B2, d2, x, A0, c0, A1, c1, rfl, -, -, hm1, r0, r1, bw3⟩
  replace HB := Aside0.mk (bel_then HB.out bw3)
  replace HL := Aside0.mk (Nat.le_trans HL.out bw3.size)
  replace HF := Aside0.mk (Kd.C_below HF.out bw3)
  clear bw3
  obtain ⟨⟨m0, m1⟩, ⟨m2, m3⟩, m4, m5⟩ := hm1
  have hw : fitMail x := ⟨⟨by omega, by omega⟩, ⟨by omega, fun y hy => ⟨by have := (m3 y hy).1; omega, by have := (m3 y hy).2; omega⟩⟩, ⟨by omega, fun y hy => by have := m5 y hy; omega⟩⟩
  have C0 := Aside0.mk (Kd.R_reads' r0).2.2
  have C1 := Aside0.mk (Kd.R_reads' r1).2.2
  have CF := Aside0.mk HF.out
  have HG3 := Lib.hid (HG.out.below HB.out)
  have CR := Aside0.mk (Kd.C_below Cr.out HB.out)
  have BW3 := Lib.hid (BW.out.trans (HB.out.mono SZ.out))
  have SZ3 := Lib.hid (Nat.le_trans SZ.out HB.out.size)
  clear m0 m1 m2 m3 m4 m5 r0 r1 HF hdr2
  have hdoL := fun W (hW : Below w3.heap.size w3 W) => sieveDo_any B d ys x A0 c0 A1 c1 W (Kd.C_below CR.out hW) (by have := HYL.out; omega) HRF.out hw (Kd.C_below C0.out hW) (Kd.C_below C1.out hW) (HG3.out.below hW)
  have hdoF := fun W (hW : Below w3.heap.size w3 W) => sieveDo_any A' c' (tidy ys) x A0 c0 A1 c1 W (Kd.C_below CF.out hW) (by have := HYL.out; have := tidy_len ys; omega) HRFt.out hw (Kd.C_below C0.out hW) (Kd.C_below C1.out hW) (HG3.out.below hW)
  have hsp := fun W (hW : Below w3.heap.size w3 W) => specTidy_any B d ys W (Kd.C_below CR.out hW) (by have := HYL.out; omega) HRF.out
  have hti2 := fun W (hW : Below w3.heap.size w3 W) => sieveTidy_any A' c' (tidy ys) W (Kd.C_below CF.out hW) (by have := HYL.out; have := tidy_len ys; omega) HRFt.out (HG3.out.below hW)
  have hokL := fun W (hW : Below w3.heap.size w3 W) => SieveOk_any B d ys W (Kd.C_below CR.out hW) (by have := HYL.out; omega) HRF.out (HG3.out.below hW)
  have hokF := fun W (hW : Below w3.heap.size w3 W) => SieveOk_any A' c' (tidy ys) W (Kd.C_below CF.out hW) (by have := HYL.out; have := tidy_len ys; omega) HRFt.out (HG3.out.below hW)
  have hsaR := fun W (hW : Below w3.heap.size w3 W) G e (hG' : Kd.C kRule W G (tidy ys).length (tidy ys)) => saRules_any A' c' G e (tidy ys) W (by have := HYL.out; have := tidy_len ys; omega) (Kd.C_below CF.out hW) hG'
  have hfy := do_fit (xs := ys) (x := x) HRA.out hw
  clear Cr HRF HRFt HRA hw
  go_wp2_with fail
  clear HB HL
  obtain ⟨w4, hw4⟩ : ∃ W, W = (w3.alloc (.cells #[.string x.f0.f0, .string x.f0.f1, .slice A0 x.f1.length c0, .slice A1 x.f2.length c1] 46)) := ⟨_, rfl⟩
  rw [← hw4]
  have HB : Aside0 (Below w3.heap.size w3 w4) := ⟨by rw [hw4]; exact (bel_alloc (Below.refl _ _) _)⟩
  have FM : Aside0 (w4.heap[w3.heap.size]? = some (.cells #[.string x.f0.f0, .string x.f0.f1, .slice A0 x.f1.length c0, .slice A1 x.f2.length c1] 46 (0, 0))) := ⟨by rw [hw4]; exact blk_at _ _ (by first | rfl | (simp; done))⟩
  have HL : Aside0 (w3.heap.size + 1 ≤ w4.heap.size) := ⟨by rw [hw4]; simp⟩
  clear hw4
  refine Calls.mono (hsp _ HB.out) ?_
  rintro e w5 ⟨A2', c2', rfl, hfc2, hF2, bw5⟩
  replace FM := Aside0.mk (below_blk FM.out bw5)
  replace HB := Aside0.mk (bel_then HB.out bw5)
  replace HL := Aside0.mk (Nat.le_trans HL.out bw5.size)
  clear bw5
  have zFM := blk_lt FM.out
  have cFM_0 : w5.cell? ⟨w3.heap.size, 0, none⟩ = some (.string x.f0.f0) := by have := FM.out; simp [World.cell?, this]
  have cFM_1 : w5.cell? ⟨w3.heap.size, 1, none⟩ = some (.string x.f0.f1) := by have := FM.out; simp [World.cell?, this]
  have cFM_2 : w5.cell? ⟨w3.heap.size, 2, none⟩ = some (.slice A0 x.f1.length c0) := by have := FM.out; simp [World.cell?, this]
  have cFM_3 : w5.cell? ⟨w3.heap.size, 3, none⟩ = some (.slice A1 x.f2.length c1) := by have := FM.out; simp [World.cell?, this]
  go_wp2_with fail
  refine Calls.mono (hsaR _ HB.out _ _ hF2) ?_
  rintro e w6 ⟨rfl, bw6⟩
  clear zFM cFM_0 cFM_1 cFM_2 cFM_3
  replace FM := Aside0.mk (below_blk FM.out bw6)
  replace HB := Aside0.mk (bel_then HB.out bw6)
  replace HL := Aside0.mk (Nat.le_trans HL.out bw6.size)
  clear bw6
  clear hfc2 hF2
  have zFM := blk_lt FM.out
  have cFM_0 : w6.cell? ⟨w3.heap.size, 0, none⟩ = some (.string x.f0.f0) := by have := FM.out; simp [World.cell?, this]
  have cFM_1 : w6.cell? ⟨w3.heap.size, 1, none⟩ = some (.string x.f0.f1) := by have := FM.out; simp [World.cell?, this]
  have cFM_2 : w6.cell? ⟨w3.heap.size, 2, none⟩ = some (.slice A0 x.f1.length c0) := by have := FM.out; simp [World.cell?, this]
  have cFM_3 : w6.cell? ⟨w3.heap.size, 3, none⟩ = some (.slice A1 x.f2.length c1) := by have := FM.out; simp [World.cell?, this]
  go_wp2_with fail
  refine Calls.mono (hokL _ HB.out) ?_
  rintro e w7 ⟨rfl, bw7⟩
  clear zFM cFM_0 cFM_1 cFM_2 cFM_3
  replace FM := Aside0.mk (below_blk FM.out bw7)
  replace HB := Aside0.mk (bel_then HB.out bw7)
  replace HL := Aside0.mk (Nat.le_trans HL.out bw7.size)
  clear bw7
  cases hq : sieveOk ys
  · clear hdoL hdoF hti2 hokL hokF
    have zFM := blk_lt FM.out
    have cFM_0 : w7.cell? ⟨w3.heap.size, 0, none⟩ = some (.string x.f0.f0) := by have := FM.out; simp [World.cell?, this]
    have cFM_1 : w7.cell? ⟨w3.heap.size, 1, none⟩ = some (.string x.f0.f1) := by have := FM.out; simp [World.cell?, this]
    have cFM_2 : w7.cell? ⟨w3.heap.size, 2, none⟩ = some (.slice A0 x.f1.length c0) := by have := FM.out; simp [World.cell?, this]
    have cFM_3 : w7.cell? ⟨w3.heap.size, 3, none⟩ = some (.slice A1 x.f2.length c1) := by have := FM.out; simp [World.cell?, this]
    go_wp2_with fail
    refine Calls.mono (hsp _ HB.out) ?_
    rintro e w8 ⟨A2', c2', rfl, hfc2, hF2, bw8⟩
    clear zFM cFM_0 cFM_1 cFM_2 cFM_3
    replace FM := Aside0.mk (below_blk FM.out bw8)
    replace HB := Aside0.mk (bel_then HB.out bw8)
    replace HL := Aside0.mk (Nat.le_trans HL.out bw8.size)
    clear bw8
    have zFM := blk_lt FM.out
    have cFM_0 : w8.cell? ⟨w3.heap.size, 0, none⟩ = some (.string x.f0.f0) := by have := FM.out; simp [World.cell?, this]
    have cFM_1 : w8.cell? ⟨w3.heap.size, 1, none⟩ = some (.string x.f0.f1) := by have := FM.out; simp [World.cell?, this]
    have cFM_2 : w8.cell? ⟨w3.heap.size, 2, none⟩ = some (.slice A0 x.f1.length c0) := by have := FM.out; simp [World.cell?, this]
    have cFM_3 : w8.cell? ⟨w3.heap.size, 3, none⟩ = some (.slice A1 x.f2.length c1) := by have := FM.out; simp [World.cell?, this]
    go_wp2_with fail
    refine Calls.mono (hsaR _ HB.out _ _ hF2) ?_
    rintro e w9 ⟨rfl, bw9⟩
    clear zFM cFM_0 cFM_1 cFM_2 cFM_3
    replace FM := Aside0.mk (below_blk FM.out bw9)
    replace HB := Aside0.mk (bel_then HB.out bw9)
    replace HL := Aside0.mk (Nat.le_trans HL.out bw9.size)
    clear bw9
    go_wp2
    go_ret
    exact ⟨rfl, BW3.out.trans (HB.out.mono SZ3.out)⟩
  · rw [tidy_same hq x] at hdoF
    rw [tidy_ok hq] at hokF
    rw [tidy_twice hq] at hti2
    have hln := tidy_len ys
    generalize sieveDo ys x = yn at hdoL hdoF hfy
    obtain ⟨y, n⟩ := yn
    dsimp only at hdoL hdoF hfy
    have HFY := Lib.hid hfy
    generalize tidy ys = ts at *
    have hln' : ((ts.length : Int) ≤ (ys.length : Int)) := by omega
    have hnn : (n == n) = true := beq_self_eq_true _
    clear hsp hokL hq hfy
    have zFM := blk_lt FM.out
    have cFM_0 : w7.cell? ⟨w3.heap.size, 0, none⟩ = some (.string x.f0.f0) := by have := FM.out; simp [World.cell?, this]
    have cFM_1 : w7.cell? ⟨w3.heap.size, 1, none⟩ = some (.string x.f0.f1) := by have := FM.out; simp [World.cell?, this]
    have cFM_2 : w7.cell? ⟨w3.heap.size, 2, none⟩ = some (.slice A0 x.f1.length c0) := by have := FM.out; simp [World.cell?, this]
    have cFM_3 : w7.cell? ⟨w3.heap.size, 3, none⟩ = some (.slice A1 x.f2.length c1) := by have := FM.out; simp [World.cell?, this]
    go_wp2_with fail
    refine Calls.mono (hdoL _ HB.out) ?_
    rintro e w8 ⟨B0, d0, B1, d1, rfl, rU0, rU1, bw8⟩
    clear zFM cFM_0 cFM_1 cFM_2 cFM_3
    replace FM := Aside0.mk (below_blk FM.out bw8)
    have U0 : Aside0 (Kd.R kAddr 33 w8 w3.heap.size (fun _ => True) (.slice B0 y.f1.length d0) y.f1) := ⟨Kd.R_lower (base' := w3.heap.size) rU0 HB.out.size⟩
    clear rU0
    have U1 : Aside0 (Kd.R Kd.string 9 w8 w3.heap.size (fun _ => True) (.slice B1 y.f2.length d1) y.f2) := ⟨Kd.R_lower (base' := w3.heap.size) rU1 HB.out.size⟩
    clear rU1
    replace HB := Aside0.mk (bel_then HB.out bw8)
    replace HL := Aside0.mk (Nat.le_trans HL.out bw8.size)
    clear bw8
    have zFM := blk_lt FM.out
    have cFM_0 : w8.cell? ⟨w3.heap.size, 0, none⟩ = some (.string x.f0.f0) := by have := FM.out; simp [World.cell?, this]
    have cFM_1 : w8.cell? ⟨w3.heap.size, 1, none⟩ = some (.string x.f0.f1) := by have := FM.out; simp [World.cell?, this]
    have cFM_2 : w8.cell? ⟨w3.heap.size, 2, none⟩ = some (.slice A0 x.f1.length c0) := by have := FM.out; simp [World.cell?, this]
    have cFM_3 : w8.cell? ⟨w3.heap.size, 3, none⟩ = some (.slice A1 x.f2.length c1) := by have := FM.out; simp [World.cell?, this]
    go_wp2_with fail
    generalize hWw9 : World.alloc (w8) _ = w9
    have ltFM := blk_lt FM.out
    have ltb := HB.out.size
    have ltl := HL.out
    have TT : ∀ k, k < w8.heap.size → w9.heap[k]? = w8.heap[k]? := fun k hk => by rw [← hWw9]; (with_reducible repeat (first | rfl | refine hp_set ?_ ?_ | refine hp_alloc ?_ ?_ | refine hp_drew ?_)); all_goals (first | (with_reducible rfl) | omega | (dsimp only; omega) | (simp; omega))
    have TS : w8.heap.size + 1 ≤ w9.heap.size := by rw [← hWw9]; simp
    have nFM : w9.heap[w3.heap.size]? = some (.cells #[.string x.f0.f0, .string x.f0.f1, .slice A0 x.f1.length c0, .slice A1 x.f2.length c1] 46 (0, 0)) := (TT _ ltFM).trans FM.out
    have nFX : w9.heap[w8.heap.size]? = some (.cells #[.string y.f0.f0, .string y.f0.f1, .slice B0 y.f1.length d0, .slice B1 y.f2.length d1] 46 (0, 0)) := by rw [← hWw9]; exact blk_new w8 (.cells #[.string y.f0.f0, .string y.f0.f1, .slice B0 y.f1.length d0, .slice B1 y.f2.length d1] 46)
    have nU0 : Kd.R kAddr 33 w9 w3.heap.size (fun _ => True) (.slice B0 y.f1.length d0) y.f1 := R_keepT U0.out rfl (fun k hk ho => TT k hk)
    have nU1 : Kd.R Kd.string 9 w9 w3.heap.size (fun _ => True) (.slice B1 y.f2.length d1) y.f2 := R_keepT U1.out rfl (fun k hk ho => TT k hk)
    have nHB : Below w3.heap.size w3 w9 := by rw [← hWw9]; exact bel_alloc (HB.out) _
    clear zFM cFM_0 cFM_1 cFM_2 cFM_3
    clear hWw9 FM HB U0 U1
    have FM := Aside0.mk nFM
    clear nFM
    have FX := Aside0.mk nFX
    clear nFX
    have U0 := Aside0.mk nU0
    clear nU0
    have U1 := Aside0.mk nU1
    clear nU1
    have HB := Aside0.mk nHB
    clear nHB
    have oFX_ltFM := ltFM
    have oFX_ltl := ltl
    replace HL := Aside0.mk (Nat.le_trans HL.out (by omega : w8.heap.size ≤ w9.heap.size))
    clear TT TS ltFM ltb ltl
    refine Calls.mono (hdoF _ HB.out) ?_
    rintro e w10 ⟨E0, e0, E1, e1, rfl, rV0, rV1, bw10⟩
    replace FM := Aside0.mk (below_blk FM.out bw10)
    replace FX := Aside0.mk (below_blk FX.out bw10)
    replace U0 := Aside0.mk (Kd.R_below U0.out bw10)
    replace U1 := Aside0.mk (Kd.R_below U1.out bw10)
    have V0 : Aside0 (Kd.R kAddr 33 w10 w3.heap.size (fun _ => True) (.slice E0 y.f1.length e0) y.f1) := ⟨Kd.R_lower (base' := w3.heap.size) rV0 HB.out.size⟩
    clear rV0
    have V1 : Aside0 (Kd.R Kd.string 9 w10 w3.heap.size (fun _ => True) (.slice E1 y.f2.length e1) y.f2) := ⟨Kd.R_lower (base' := w3.heap.size) rV1 HB.out.size⟩
    clear rV1
    replace HB := Aside0.mk (bel_then HB.out bw10)
    replace HL := Aside0.mk (Nat.le_trans HL.out bw10.size)
    clear bw10
    have zFM := blk_lt FM.out
    have cFM_0 : w10.cell? ⟨w3.heap.size, 0, none⟩ = some (.string x.f0.f0) := by have := FM.out; simp [World.cell?, this]
    have cFM_1 : w10.cell? ⟨w3.heap.size, 1, none⟩ = some (.string x.f0.f1) := by have := FM.out; simp [World.cell?, this]
    have cFM_2 : w10.cell? ⟨w3.heap.size, 2, none⟩ = some (.slice A0 x.f1.length c0) := by have := FM.out; simp [World.cell?, this]
    have cFM_3 : w10.cell? ⟨w3.heap.size, 3, none⟩ = some (.slice A1 x.f2.length c1) := by have := FM.out; simp [World.cell?, this]
    have zFX := blk_lt FX.out
    have cFX_0 : w10.cell? ⟨w8.heap.size, 0, none⟩ = some (.string y.f0.f0) := by have := FX.out; simp [World.cell?, this]
    have cFX_1 : w10.cell? ⟨w8.heap.size, 1, none⟩ = some (.string y.f0.f1) := by have := FX.out; simp [World.cell?, this]
    have cFX_2 : w10.cell? ⟨w8.heap.size, 2, none⟩ = some (.slice B0 y.f1.length d0) := by have := FX.out; simp [World.cell?, this]
    have cFX_3 : w10.cell? ⟨w8.heap.size, 3, none⟩ = some (.slice B1 y.f2.length d1) := by have := FX.out; simp [World.cell?, this]
    go_wp2_with fail
    generalize hWw11 : World.alloc (w10) _ = w11
    have ltFM := blk_lt FM.out
    have ltFX := blk_lt FX.out
    have ltb := HB.out.size
    have ltl := HL.out
    have TT : ∀ k, k < w10.heap.size → w11.heap[k]? = w10.heap[k]? := fun k hk => by rw [← hWw11]; (with_reducible repeat (first | rfl | refine hp_set ?_ ?_ | refine hp_alloc ?_ ?_ | refine hp_drew ?_)); all_goals (first | (with_reducible rfl) | omega | (dsimp only; omega) | (simp; omega))
    have TS : w10.heap.size + 1 ≤ w11.heap.size := by rw [← hWw11]; simp
    have nFM : w11.heap[w3.heap.size]? = some (.cells #[.string x.f0.f0, .string x.f0.f1, .slice A0 x.f1.length c0, .slice A1 x.f2.length c1] 46 (0, 0)) := (TT _ ltFM).trans FM.out
    have nFX : w11.heap[w8.heap.size]? = some (.cells #[.string y.f0.f0, .string y.f0.f1, .slice B0 y.f1.length d0, .slice B1 y.f2.length d1] 46 (0, 0)) := (TT _ ltFX).trans FX.out
    have nFW : w11.heap[w10.heap.size]? = some (.cells #[.string y.f0.f0, .string y.f0.f1, .slice E0 y.f1.length e0, .slice E1 y.f2.length e1] 46 (0, 0)) := by rw [← hWw11]; exact blk_new w10 (.cells #[.string y.f0.f0, .string y.f0.f1, .slice E0 y.f1.length e0, .slice E1 y.f2.length e1] 46)
    have nU0 : Kd.R kAddr 33 w11 w3.heap.size (fun _ => True) (.slice B0 y.f1.length d0) y.f1 := R_keepT U0.out rfl (fun k hk ho => TT k hk)
    have nU1 : Kd.R Kd.string 9 w11 w3.heap.size (fun _ => True) (.slice B1 y.f2.length d1) y.f2 := R_keepT U1.out rfl (fun k hk ho => TT k hk)
    have nV0 : Kd.R kAddr 33 w11 w3.heap.size (fun _ => True) (.slice E0 y.f1.length e0) y.f1 := R_keepT V0.out rfl (fun k hk ho => TT k hk)
    have nV1 : Kd.R Kd.string 9 w11 w3.heap.size (fun _ => True) (.slice E1 y.f2.length e1) y.f2 := R_keepT V1.out rfl (fun k hk ho => TT k hk)
    have nHB : Below w3.heap.size w3 w11 := by rw [← hWw11]; exact bel_alloc (HB.out) _
    clear zFM cFM_0 cFM_1 cFM_2 cFM_3 zFX cFX_0 cFX_1 cFX_2 cFX_3
    clear hWw11 FM FX HB U0 U1 V0 V1
    have FM := Aside0.mk nFM
    clear nFM
    have FX := Aside0.mk nFX
    clear nFX
    have FW := Aside0.mk nFW
    clear nFW
    have U0 := Aside0.mk nU0
    clear nU0
    have U1 := Aside0.mk nU1
    clear nU1
    have V0 := Aside0.mk nV0
    clear nV0
    have V1 := Aside0.mk nV1
    clear nV1
    have HB := Aside0.mk nHB
    clear nHB
    have oFW_ltFM := ltFM
    have oFW_ltFX := ltFX
    have oFW_ltl := ltl
    replace HL := Aside0.mk (Nat.le_trans HL.out (by omega : w10.heap.size ≤ w11.heap.size))
    clear TT TS ltFM ltFX ltb ltl
    refine Calls.mono (hokF _ HB.out) ?_
    rintro e w12 ⟨rfl, bw12⟩
    replace FM := Aside0.mk (below_blk FM.out bw12)
    replace FX := Aside0.mk (below_blk FX.out bw12)
    replace FW := Aside0.mk (below_blk FW.out bw12)
    replace U0 := Aside0.mk (Kd.R_below U0.out bw12)
    replace U1 := Aside0.mk (Kd.R_below U1.out bw12)
    replace V0 := Aside0.mk (Kd.R_below V0.out bw12)
    replace V1 := Aside0.mk (Kd.R_below V1.out bw12)
    replace HB := Aside0.mk (bel_then HB.out bw12)
    replace HL := Aside0.mk (Nat.le_trans HL.out bw12.size)
    clear bw12
    have zFX := blk_lt FX.out
    have cFX_0 : w12.cell? ⟨w8.heap.size, 0, none⟩ = some (.string y.f0.f0) := by have := FX.out; simp [World.cell?, this]
    have cFX_1 : w12.cell? ⟨w8.heap.size, 1, none⟩ = some (.string y.f0.f1) := by have := FX.out; simp [World.cell?, this]
    have cFX_2 : w12.cell? ⟨w8.heap.size, 2, none⟩ = some (.slice B0 y.f1.length d0) := by have := FX.out; simp [World.cell?, this]
    have cFX_3 : w12.cell? ⟨w8.heap.size, 3, none⟩ = some (.slice B1 y.f2.length d1) := by have := FX.out; simp [World.cell?, this]
    have zFW := blk_lt FW.out
    have cFW_0 : w12.cell? ⟨w10.heap.size, 0, none⟩ = some (.string y.f0.f0) := by have := FW.out; simp [World.cell?, this]
    have cFW_1 : w12.cell? ⟨w10.heap.size, 1, none⟩ = some (.string y.f0.f1) := by have := FW.out; simp [World.cell?, this]
    have cFW_2 : w12.cell? ⟨w10.heap.size, 2, none⟩ = some (.slice E0 y.f1.length e0) := by have := FW.out; simp [World.cell?, this]
    have cFW_3 : w12.cell? ⟨w10.heap.size, 3, none⟩ = some (.slice E1 y.f2.length e1) := by have := FW.out; simp [World.cell?, this]
    go_wp2_with fail
    refine Calls.mono (hti2 _ HB.out) ?_
    rintro e w13 ⟨A3', c3', rfl, hfc3, hF3, bw13⟩
    clear zFX cFX_0 cFX_1 cFX_2 cFX_3 zFW cFW_0 cFW_1 cFW_2 cFW_3
    replace FM := Aside0.mk (below_blk FM.out bw13)
    replace FX := Aside0.mk (below_blk FX.out bw13)
    replace FW := Aside0.mk (below_blk FW.out bw13)
    replace U0 := Aside0.mk (Kd.R_below U0.out bw13)
    replace U1 := Aside0.mk (Kd.R_below U1.out bw13)
    replace V0 := Aside0.mk (Kd.R_below V0.out bw13)
    replace V1 := Aside0.mk (Kd.R_below V1.out bw13)
    replace HB := Aside0.mk (bel_then HB.out bw13)
    replace HL := Aside0.mk (Nat.le_trans HL.out bw13.size)
    clear bw13
    have zFX := blk_lt FX.out
    have cFX_0 : w13.cell? ⟨w8.heap.size, 0, none⟩ = some (.string y.f0.f0) := by have := FX.out; simp [World.cell?, this]
    have cFX_1 : w13.cell? ⟨w8.heap.size, 1, none⟩ = some (.string y.f0.f1) := by have := FX.out; simp [World.cell?, this]
    have cFX_2 : w13.cell? ⟨w8.heap.size, 2, none⟩ = some (.slice B0 y.f1.length d0) := by have := FX.out; simp [World.cell?, this]
    have cFX_3 : w13.cell? ⟨w8.heap.size, 3, none⟩ = some (.slice B1 y.f2.length d1) := by have := FX.out; simp [World.cell?, this]
    have zFW := blk_lt FW.out
    have cFW_0 : w13.cell? ⟨w10.heap.size, 0, none⟩ = some (.string y.f0.f0) := by have := FW.out; simp [World.cell?, this]
    have cFW_1 : w13.cell? ⟨w10.heap.size, 1, none⟩ = some (.string y.f0.f1) := by have := FW.out; simp [World.cell?, this]
    have cFW_2 : w13.cell? ⟨w10.heap.size, 2, none⟩ = some (.slice E0 y.f1.length e0) := by have := FW.out; simp [World.cell?, this]
    have cFW_3 : w13.cell? ⟨w10.heap.size, 3, none⟩ = some (.slice E1 y.f2.length e1) := by have := FW.out; simp [World.cell?, this]
    go_wp2_with fail
    have hsR2 : Calls Tryd.prog 17 #[.slice A3' ts.length c3', .slice A' ts.length c'] w13 fun e w' => e = .returned (.bool true) ∧ Below w13.heap.size w13 w' := saRules_any A3' c3' A' c' ts w13 (by have := HYL.out; omega) hF3 (Kd.C_below CF.out HB.out)
    refine Calls.mono (hsR2) ?_
    rintro e w14 ⟨rfl, bw14⟩
    clear zFX cFX_0 cFX_1 cFX_2 cFX_3 zFW cFW_0 cFW_1 cFW_2 cFW_3
    replace FM := Aside0.mk (below_blk FM.out bw14)
    replace FX := Aside0.mk (below_blk FX.out bw14)
    replace FW := Aside0.mk (below_blk FW.out bw14)
    replace U0 := Aside0.mk (Kd.R_below U0.out bw14)
    replace U1 := Aside0.mk (Kd.R_below U1.out bw14)
    replace V0 := Aside0.mk (Kd.R_below V0.out bw14)
    replace V1 := Aside0.mk (Kd.R_below V1.out bw14)
    replace HB := Aside0.mk (bel_then HB.out bw14)
    replace HL := Aside0.mk (Nat.le_trans HL.out bw14.size)
    clear bw14
    clear hsR2 hfc3 hF3
    have zFX := blk_lt FX.out
    have cFX_0 : w14.cell? ⟨w8.heap.size, 0, none⟩ = some (.string y.f0.f0) := by have := FX.out; simp [World.cell?, this]
    have cFX_1 : w14.cell? ⟨w8.heap.size, 1, none⟩ = some (.string y.f0.f1) := by have := FX.out; simp [World.cell?, this]
    have cFX_2 : w14.cell? ⟨w8.heap.size, 2, none⟩ = some (.slice B0 y.f1.length d0) := by have := FX.out; simp [World.cell?, this]
    have cFX_3 : w14.cell? ⟨w8.heap.size, 3, none⟩ = some (.slice B1 y.f2.length d1) := by have := FX.out; simp [World.cell?, this]
    have zFW := blk_lt FW.out
    have cFW_0 : w14.cell? ⟨w10.heap.size, 0, none⟩ = some (.string y.f0.f0) := by have := FW.out; simp [World.cell?, this]
    have cFW_1 : w14.cell? ⟨w10.heap.size, 1, none⟩ = some (.string y.f0.f1) := by have := FW.out; simp [World.cell?, this]
    have cFW_2 : w14.cell? ⟨w10.heap.size, 2, none⟩ = some (.slice E0 y.f1.length e0) := by have := FW.out; simp [World.cell?, this]
    have cFW_3 : w14.cell? ⟨w10.heap.size, 3, none⟩ = some (.slice E1 y.f2.length e1) := by have := FW.out; simp [World.cell?, this]
    go_wp2_with fail
    refine Calls.mono (saMail_any y B0 d0 B1 d1 E0 e0 E1 e1 _ HFY.out (Kd.R_reads' U0.out).2.2 (Kd.R_reads' U1.out).2.2 (Kd.R_reads' V0.out).2.2 (Kd.R_reads' V1.out).2.2) ?_
    rintro e w15 ⟨rfl, bw15⟩
    clear zFX cFX_0 cFX_1 cFX_2 cFX_3 zFW cFW_0 cFW_1 cFW_2 cFW_3
    replace FM := Aside0.mk (below_blk FM.out bw15)
    replace FX := Aside0.mk (below_blk FX.out bw15)
    replace FW := Aside0.mk (below_blk FW.out bw15)
    replace U0 := Aside0.mk (Kd.R_below U0.out bw15)
    replace U1 := Aside0.mk (Kd.R_below U1.out bw15)
    replace V0 := Aside0.mk (Kd.R_below V0.out bw15)
    replace V1 := Aside0.mk (Kd.R_below V1.out bw15)
    replace HB := Aside0.mk (bel_then HB.out bw15)
    replace HL := Aside0.mk (Nat.le_trans HL.out bw15.size)
    clear bw15
    go_wp2
    go_ret
    exact ⟨rfl, BW3.out.trans (HB.out.mono SZ3.out)⟩

end Go.Proofs.YtmfehmbgghfffaaDoor
