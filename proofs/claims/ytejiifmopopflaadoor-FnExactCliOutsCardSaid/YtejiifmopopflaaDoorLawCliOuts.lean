/- The law FnExactCliOuts, walked. -/
import Derived.Test.YtejiifmopopflaaDoorCliOS
import Derived.Test.YtejiifmopopflaaDoorTo
import Derived.Test.YtejiifmopopflaaDoorEq
import Derived.Test.YtejiifmopopflaaDoorHeldN
namespace Go.Proofs.YtejiifmopopflaaDoor
open Go.RowKit Go.Proofs.YtejiifmopopflaaDoorW.PrintWords
set_option linter.unusedVariables false
set_option linter.unusedSimpArgs false

theorem cliOuts_fit {c : SCli} (hc : fitCli c) : (cliOuts c).length ≤ 1048576 ∧ ∀ y ∈ cliOuts c, (Lit.int .i64 y).wf = true := by
  unfold cliOuts
  split
  · refine ⟨by rw [becomes_length]; exact hc.2.2.2.2.1, fun y hy => ?_⟩
    unfold becomes at hy
    obtain ⟨x, hx, rfl⟩ := List.mem_map.1 hy
    split
    · decide
    · exact hc.2.2.2.2.2 x hx
  · exact ⟨Nat.zero_le _, fun y hy => by cases hy⟩
set_option maxRecDepth 100000 in
set_option maxHeartbeats 40000000 in
theorem walk_FnExactCliOuts {w : World} (c : SCli) (Ac0 : Option Addr) (cc0 : Nat) (Ac1 : Option Addr) (cc1 : Nat) (Ac2 : Option Addr) (cc2 : Nat) (hw_c : wideCli c) (hr_c0 : Kd.C kAddr w Ac0 c.f1.f1.length c.f1.f1) (hr_c1 : Kd.C Kd.string w Ac1 c.f1.f2.length c.f1.f2) (hr_c2 : Kd.C (Kd.int .i64) w Ac2 c.f4.length c.f4) (hG : Glob w) :
    Calls Tryd.prog 5 #[.agg #[.string c.f0, .string c.f1.f0.f0, .string c.f1.f0.f1, .slice Ac0 c.f1.f1.length cc0, .slice Ac1 c.f1.f2.length cc1, .int .i64 c.f2, .int .i64 c.f3, .slice Ac2 c.f4.length cc2]] w fun e w' => e = .returned (.bool true) ∧ Below w.heap.size w w' := by
  have hsz_c := fun (l : Int) (W : World) (hW : Below w.heap.size w W) (l0_ : 0 ≤ l) (l1_ : l ≤ 1048576) => szCli_any c Ac0 cc0 Ac1 cc1 Ac2 cc2 l W l0_ l1_ hw_c (Kd.C_below hr_c0 hW) (Kd.C_below hr_c1 hW) (Kd.C_below hr_c2 hW)
  have hto_c := fun (W : World) (hW : Below w.heap.size w W) (hf : fitCli c) => toCli_any c Ac0 cc0 Ac1 cc1 Ac2 cc2 W hf (Kd.C_below hr_c0 hW) (Kd.C_below hr_c1 hW) (Kd.C_below hr_c2 hW)
  have HG := Lib.hid hG
  obtain ⟨M0, hm0⟩ : ∃ M, M = cliOuts c := ⟨_, rfl⟩
  have HV0 := Lib.hid hm0.symm
  clear hm0
  clear hw_c hr_c0 hr_c1 hr_c2 hG
  go_enter Tryd.func5, Tryd.ntmps5
  go_wp2_with fail
  obtain ⟨W0, hW0⟩ : ∃ W0, W0 = (w.alloc (.cells #[.string c.f0, .string c.f1.f0.f0, .string c.f1.f0.f1, .slice Ac0 c.f1.f1.length cc0, .slice Ac1 c.f1.f2.length cc1, .int .i64 c.f2, .int .i64 c.f3, .slice Ac2 c.f4.length cc2] 59)) := ⟨_, rfl⟩
  rw [← hW0]
  have B0 : Below w.heap.size w W0 := by rw [hW0]; exact (bel_alloc (Below.refl _ _) _)
  have Z0 : w.heap.size < W0.heap.size := by rw [hW0]; simp
  have c0_ : W0.cell? ⟨w.heap.size, 0, none⟩ = some (.string c.f0) := by rw [hW0]; first | (simp; done) | (rw [World.cell?_alloc_lt _ _ _ (by first | (simp; done) | (simp; omega))]; first | (simp; done) | (rw [World.cell?_alloc_lt _ _ _ (by first | (simp; done) | (simp; omega))]; simp))
  have c1_ : W0.cell? ⟨w.heap.size, 1, none⟩ = some (.string c.f1.f0.f0) := by rw [hW0]; first | (simp; done) | (rw [World.cell?_alloc_lt _ _ _ (by first | (simp; done) | (simp; omega))]; first | (simp; done) | (rw [World.cell?_alloc_lt _ _ _ (by first | (simp; done) | (simp; omega))]; simp))
  have c2_ : W0.cell? ⟨w.heap.size, 2, none⟩ = some (.string c.f1.f0.f1) := by rw [hW0]; first | (simp; done) | (rw [World.cell?_alloc_lt _ _ _ (by first | (simp; done) | (simp; omega))]; first | (simp; done) | (rw [World.cell?_alloc_lt _ _ _ (by first | (simp; done) | (simp; omega))]; simp))
  have c3_ : W0.cell? ⟨w.heap.size, 3, none⟩ = some (.slice Ac0 c.f1.f1.length cc0) := by rw [hW0]; first | (simp; done) | (rw [World.cell?_alloc_lt _ _ _ (by first | (simp; done) | (simp; omega))]; first | (simp; done) | (rw [World.cell?_alloc_lt _ _ _ (by first | (simp; done) | (simp; omega))]; simp))
  have c4_ : W0.cell? ⟨w.heap.size, 4, none⟩ = some (.slice Ac1 c.f1.f2.length cc1) := by rw [hW0]; first | (simp; done) | (rw [World.cell?_alloc_lt _ _ _ (by first | (simp; done) | (simp; omega))]; first | (simp; done) | (rw [World.cell?_alloc_lt _ _ _ (by first | (simp; done) | (simp; omega))]; simp))
  have c5_ : W0.cell? ⟨w.heap.size, 5, none⟩ = some (.int .i64 c.f2) := by rw [hW0]; first | (simp; done) | (rw [World.cell?_alloc_lt _ _ _ (by first | (simp; done) | (simp; omega))]; first | (simp; done) | (rw [World.cell?_alloc_lt _ _ _ (by first | (simp; done) | (simp; omega))]; simp))
  have c6_ : W0.cell? ⟨w.heap.size, 6, none⟩ = some (.int .i64 c.f3) := by rw [hW0]; first | (simp; done) | (rw [World.cell?_alloc_lt _ _ _ (by first | (simp; done) | (simp; omega))]; first | (simp; done) | (rw [World.cell?_alloc_lt _ _ _ (by first | (simp; done) | (simp; omega))]; simp))
  have c7_ : W0.cell? ⟨w.heap.size, 7, none⟩ = some (.slice Ac2 c.f4.length cc2) := by rw [hW0]; first | (simp; done) | (rw [World.cell?_alloc_lt _ _ _ (by first | (simp; done) | (simp; omega))]; first | (simp; done) | (rw [World.cell?_alloc_lt _ _ _ (by first | (simp; done) | (simp; omega))]; simp))
  have HC : Aside0 (∀ W, Below W0.heap.size W0 W → W.cell? ⟨w.heap.size, 0, none⟩ = some (.string c.f0) ∧ W.cell? ⟨w.heap.size, 1, none⟩ = some (.string c.f1.f0.f0) ∧ W.cell? ⟨w.heap.size, 2, none⟩ = some (.string c.f1.f0.f1) ∧ W.cell? ⟨w.heap.size, 3, none⟩ = some (.slice Ac0 c.f1.f1.length cc0) ∧ W.cell? ⟨w.heap.size, 4, none⟩ = some (.slice Ac1 c.f1.f2.length cc1) ∧ W.cell? ⟨w.heap.size, 5, none⟩ = some (.int .i64 c.f2) ∧ W.cell? ⟨w.heap.size, 6, none⟩ = some (.int .i64 c.f3) ∧ W.cell? ⟨w.heap.size, 7, none⟩ = some (.slice Ac2 c.f4.length cc2)) := ⟨fun W h => ⟨(h.cell (p := ⟨w.heap.size, 0, none⟩) Z0).trans c0_, (h.cell (p := ⟨w.heap.size, 1, none⟩) Z0).trans c1_, (h.cell (p := ⟨w.heap.size, 2, none⟩) Z0).trans c2_, (h.cell (p := ⟨w.heap.size, 3, none⟩) Z0).trans c3_, (h.cell (p := ⟨w.heap.size, 4, none⟩) Z0).trans c4_, (h.cell (p := ⟨w.heap.size, 5, none⟩) Z0).trans c5_, (h.cell (p := ⟨w.heap.size, 6, none⟩) Z0).trans c6_, (h.cell (p := ⟨w.heap.size, 7, none⟩) Z0).trans c7_⟩⟩
  clear hW0 c0_ c1_ c2_ c3_ c4_ c5_ c6_ c7_
  have HB0 := Aside0.mk B0
  have hsz := B0.size
  clear B0
  obtain ⟨c0_, c1_, c2_, c3_, c4_, c5_, c6_, c7_⟩ := HC.out _ (Below.refl W0.heap.size W0)
  have zz0_ : w.heap.size < W0.heap.size := Nat.lt_of_lt_of_le Z0 (Below.refl W0.heap.size W0).size
  go_wp2_with fail
  refine (hsz_c _ _ (bel_then HB0.out (Below.refl W0.heap.size W0)) (by omega) (by omega)).mono ?_
  rintro e w1 ⟨r_c, rfl, le_c, s_c, b1⟩
  have bb1 := bel_then (Below.refl W0.heap.size W0) b1
  have B1 := bel_then (Below.refl W0.heap.size W0) bb1
  have sz1 := bb1.size
  clear c0_ c1_ c2_ c3_ c4_ c5_ c6_ c7_ zz0_
  obtain ⟨c0_, c1_, c2_, c3_, c4_, c5_, c6_, c7_⟩ := HC.out _ B1
  have zz0_ : w.heap.size < w1.heap.size := Nat.lt_of_lt_of_le Z0 B1.size
  clear b1 bb1 hsz_c
  by_cases n_c : r_c < 0
  · go_wp2
    go_ret
    exact ⟨rfl, bel_then HB0.out B1⟩
  rw [Int.not_lt] at n_c
  have f_c := s_c n_c
  clear s_c
  have HVF0 : Hid ((M0.length ≤ 1048576 ∧ ∀ y ∈ M0, (Lit.int .i64 y).wf = true)) := Lib.hid (by have h := cliOuts_fit f_c; rw [HV0.out] at h; exact h)
  have hcall := fun (W : World) (hW : Below w1.heap.size w1 W) => hto_c W (bel_then HB0.out (bel_then B1 hW)) f_c
  go_wp2_with fail
  refine (hcall _ (Below.refl _ _)).mono ?_
  rintro e w2 ⟨Qc0, qc0, Qc1, qc1, Qc2, qc2, rfl, gq_c0, gq_c1, gq_c2, b2⟩
  clear hcall
  have bb2 := bel_then (Below.refl w1.heap.size w1) b2
  have B2 := bel_then B1 bb2
  have sz2 := bb2.size
  clear c0_ c1_ c2_ c3_ c4_ c5_ c6_ c7_ zz0_
  obtain ⟨c0_, c1_, c2_, c3_, c4_, c5_, c6_, c7_⟩ := HC.out _ B2
  have zz0_ : w.heap.size < w2.heap.size := Nat.lt_of_lt_of_le Z0 B2.size
  have Tc0 := Aside0.mk gq_c0
  clear gq_c0
  have Tc1 := Aside0.mk gq_c1
  clear gq_c1
  have Tc2 := Aside0.mk gq_c2
  clear gq_c2
  clear b2 bb2
  have hcall := fun (W : World) (hW : Below w2.heap.size w2 W) => specCliOuts_any c Qc0 qc0 Qc1 qc1 Qc2 qc2 W f_c (Kd.C_below (Kd.R_reads' Tc0.out).2.2 hW) (Kd.C_below (Kd.R_reads' Tc1.out).2.2 hW) (Kd.C_below (Kd.R_reads' Tc2.out).2.2 hW)
  simp only [HV0.out] at hcall
  go_wp2_with fail
  refine (hcall _ (Below.refl _ _)).mono ?_
  rintro e w3 ⟨D0_0, dd0_0, rfl, gu0_0, b3⟩
  clear hcall
  clear Tc0 Tc1 Tc2
  have lo3 : w2.heap.size ≤ w3.heap.size := by have := b3.size; (try simp at this); omega
  have HW0_0 := Aside0.mk (Kd.R_mono (Kd.R_bound gu0_0) (ok' := (fun q => w2.heap.size ≤ q ∧ q < w3.heap.size)) (fun q hq => ⟨by have h2 := hq.2.1; (try simp at h2); omega, hq.2.2.1⟩))
  clear gu0_0
  have bb3 := bel_then (Below.refl w2.heap.size w2) b3
  have B3 := bel_then B2 bb3
  have sz3 := bb3.size
  clear c0_ c1_ c2_ c3_ c4_ c5_ c6_ c7_ zz0_
  obtain ⟨c0_, c1_, c2_, c3_, c4_, c5_, c6_, c7_⟩ := HC.out _ B3
  have zz0_ : w.heap.size < w3.heap.size := Nat.lt_of_lt_of_le Z0 B3.size
  clear b3 bb3
  have hcall := fun (W : World) (hW : Below w3.heap.size w3 W) => hto_c W (bel_then HB0.out (bel_then B3 hW)) f_c
  go_wp2_with fail
  refine (hcall _ (Below.refl _ _)).mono ?_
  rintro e w4 ⟨Ec0, ec0, Ec1, ec1, Ec2, ec2, rfl, gx_c0, gx_c1, gx_c2, b4⟩
  clear hcall
  have lo4 : w3.heap.size ≤ w4.heap.size := by have := b4.size; (try simp at this); omega
  have Xc0 := Aside0.mk (Kd.R_mono (Kd.R_bound gx_c0) (ok' := fun q => w3.heap.size ≤ q ∧ q < w4.heap.size) (fun q hq => ⟨by have h2 := hq.2.1; (try simp at h2); omega, hq.2.2.1⟩))
  clear gx_c0
  have Xc1 := Aside0.mk (Kd.R_mono (Kd.R_bound gx_c1) (ok' := fun q => w3.heap.size ≤ q ∧ q < w4.heap.size) (fun q hq => ⟨by have h2 := hq.2.1; (try simp at h2); omega, hq.2.2.1⟩))
  clear gx_c1
  have Xc2 := Aside0.mk (Kd.R_mono (Kd.R_bound gx_c2) (ok' := fun q => w3.heap.size ≤ q ∧ q < w4.heap.size) (fun q hq => ⟨by have h2 := hq.2.1; (try simp at h2); omega, hq.2.2.1⟩))
  clear gx_c2
  have bb4 := bel_then (Below.refl w3.heap.size w3) b4
  have B4 := bel_then B3 bb4
  have sz4 := bb4.size
  replace HW0_0 := Aside0.mk (Kd.R_below HW0_0.out bb4)
  clear c0_ c1_ c2_ c3_ c4_ c5_ c6_ c7_ zz0_
  obtain ⟨c0_, c1_, c2_, c3_, c4_, c5_, c6_, c7_⟩ := HC.out _ B4
  have zz0_ : w.heap.size < w4.heap.size := Nat.lt_of_lt_of_le Z0 B4.size
  clear b4 bb4
  have hcall := fun (W : World) (hW : Below w4.heap.size w4 W) => cliOuts_any c Ec0 ec0 Ec1 ec1 Ec2 ec2 W f_c (Kd.C_below (Kd.R_reads' Xc0.out).2.2 hW) (Kd.C_below (Kd.R_reads' Xc1.out).2.2 hW) (Kd.C_below (Kd.R_reads' Xc2.out).2.2 hW) (HG.out.below (bel_then HB0.out (bel_then B4 hW)))
  simp only [HV0.out] at hcall
  go_wp2_with fail
  refine (hcall _ (bel_alloc (Below.refl _ _) _)).mono ?_
  rintro e w5 ⟨G0_0, gd0_0, rfl, gu0_0, b5⟩
  clear hcall
  have lo5 : w4.heap.size + 1 ≤ w5.heap.size := by have := b5.size; (try simp at this); omega
  have HG0_0 := Aside0.mk (Kd.R_mono (Kd.R_bound gu0_0) (ok' := (fun q => w4.heap.size + 1 ≤ q ∧ q < w5.heap.size)) (fun q hq => ⟨by have h2 := hq.2.1; (try simp at h2); omega, hq.2.2.1⟩))
  clear gu0_0
  have bb5 := bel_then (bel_alloc (Below.refl w4.heap.size w4) _) b5
  have B5 := bel_then B4 bb5
  have sz5 := bb5.size
  replace HW0_0 := Aside0.mk (Kd.R_below HW0_0.out bb5)
  replace Xc0 := Aside0.mk (Kd.R_below Xc0.out bb5)
  replace Xc1 := Aside0.mk (Kd.R_below Xc1.out bb5)
  replace Xc2 := Aside0.mk (Kd.R_below Xc2.out bb5)
  have FXc := Aside0.mk (below_blk (blk_new w4 (.cells #[.string c.f0, .string c.f1.f0.f0, .string c.f1.f0.f1, .slice Ec0 c.f1.f1.length ec0, .slice Ec1 c.f1.f2.length ec1, .int .i64 c.f2, .int .i64 c.f3, .slice Ec2 c.f4.length ec2] 52)) b5)
  clear c0_ c1_ c2_ c3_ c4_ c5_ c6_ c7_ zz0_
  obtain ⟨c0_, c1_, c2_, c3_, c4_, c5_, c6_, c7_⟩ := HC.out _ B5
  have zz0_ : w.heap.size < w5.heap.size := Nat.lt_of_lt_of_le Z0 B5.size
  have yFXc_0 : w5.cell? ⟨w4.heap.size, 0, none⟩ = some (.string c.f0) := by simp [World.cell?, FXc.out]
  have yFXc_1 : w5.cell? ⟨w4.heap.size, 1, none⟩ = some (.string c.f1.f0.f0) := by simp [World.cell?, FXc.out]
  have yFXc_2 : w5.cell? ⟨w4.heap.size, 2, none⟩ = some (.string c.f1.f0.f1) := by simp [World.cell?, FXc.out]
  have yFXc_3 : w5.cell? ⟨w4.heap.size, 3, none⟩ = some (.slice Ec0 c.f1.f1.length ec0) := by simp [World.cell?, FXc.out]
  have yFXc_4 : w5.cell? ⟨w4.heap.size, 4, none⟩ = some (.slice Ec1 c.f1.f2.length ec1) := by simp [World.cell?, FXc.out]
  have yFXc_5 : w5.cell? ⟨w4.heap.size, 5, none⟩ = some (.int .i64 c.f2) := by simp [World.cell?, FXc.out]
  have yFXc_6 : w5.cell? ⟨w4.heap.size, 6, none⟩ = some (.int .i64 c.f3) := by simp [World.cell?, FXc.out]
  have yFXc_7 : w5.cell? ⟨w4.heap.size, 7, none⟩ = some (.slice Ec2 c.f4.length ec2) := by simp [World.cell?, FXc.out]
  have lFXc : w4.heap.size < w5.heap.size := blk_lt FXc.out
  clear b5 bb5
  have hcall := fun (W : World) (hW : Below w5.heap.size w5 W) => eqIntS_any G0_0 gd0_0 D0_0 dd0_0 M0 W HVF0.out (Kd.C_below (Kd.R_reads' HG0_0.out).2.2 hW) (Kd.C_below (Kd.R_reads' HW0_0.out).2.2 hW)
  go_wp2_with fail
  refine (hcall _ (Below.refl _ _)).mono ?_
  rintro e w6 ⟨rfl, b6⟩
  clear hcall
  have bb6 := bel_then (Below.refl w5.heap.size w5) b6
  have B6 := bel_then B5 bb6
  have sz6 := bb6.size
  replace HW0_0 := Aside0.mk (Kd.R_below HW0_0.out bb6)
  replace Xc0 := Aside0.mk (Kd.R_below Xc0.out bb6)
  replace Xc1 := Aside0.mk (Kd.R_below Xc1.out bb6)
  replace Xc2 := Aside0.mk (Kd.R_below Xc2.out bb6)
  replace HG0_0 := Aside0.mk (Kd.R_below HG0_0.out bb6)
  replace FXc := Aside0.mk (below_blk FXc.out bb6)
  clear c0_ c1_ c2_ c3_ c4_ c5_ c6_ c7_ zz0_ yFXc_0 yFXc_1 yFXc_2 yFXc_3 yFXc_4 yFXc_5 yFXc_6 yFXc_7 lFXc
  obtain ⟨c0_, c1_, c2_, c3_, c4_, c5_, c6_, c7_⟩ := HC.out _ B6
  have zz0_ : w.heap.size < w6.heap.size := Nat.lt_of_lt_of_le Z0 B6.size
  have yFXc_0 : w6.cell? ⟨w4.heap.size, 0, none⟩ = some (.string c.f0) := by simp [World.cell?, FXc.out]
  have yFXc_1 : w6.cell? ⟨w4.heap.size, 1, none⟩ = some (.string c.f1.f0.f0) := by simp [World.cell?, FXc.out]
  have yFXc_2 : w6.cell? ⟨w4.heap.size, 2, none⟩ = some (.string c.f1.f0.f1) := by simp [World.cell?, FXc.out]
  have yFXc_3 : w6.cell? ⟨w4.heap.size, 3, none⟩ = some (.slice Ec0 c.f1.f1.length ec0) := by simp [World.cell?, FXc.out]
  have yFXc_4 : w6.cell? ⟨w4.heap.size, 4, none⟩ = some (.slice Ec1 c.f1.f2.length ec1) := by simp [World.cell?, FXc.out]
  have yFXc_5 : w6.cell? ⟨w4.heap.size, 5, none⟩ = some (.int .i64 c.f2) := by simp [World.cell?, FXc.out]
  have yFXc_6 : w6.cell? ⟨w4.heap.size, 6, none⟩ = some (.int .i64 c.f3) := by simp [World.cell?, FXc.out]
  have yFXc_7 : w6.cell? ⟨w4.heap.size, 7, none⟩ = some (.slice Ec2 c.f4.length ec2) := by simp [World.cell?, FXc.out]
  have lFXc : w4.heap.size < w6.heap.size := blk_lt FXc.out
  clear b6 bb6
  go_wp2
  have HK : Aside0 (∀ W W1, Below W.heap.size W W1 → (W.cell? ⟨w.heap.size, 0, none⟩ = some (.string c.f0) ∧ W.cell? ⟨w.heap.size, 1, none⟩ = some (.string c.f1.f0.f0) ∧ W.cell? ⟨w.heap.size, 2, none⟩ = some (.string c.f1.f0.f1) ∧ W.cell? ⟨w.heap.size, 3, none⟩ = some (.slice Ac0 c.f1.f1.length cc0) ∧ W.cell? ⟨w.heap.size, 4, none⟩ = some (.slice Ac1 c.f1.f2.length cc1) ∧ W.cell? ⟨w.heap.size, 5, none⟩ = some (.int .i64 c.f2) ∧ W.cell? ⟨w.heap.size, 6, none⟩ = some (.int .i64 c.f3) ∧ W.cell? ⟨w.heap.size, 7, none⟩ = some (.slice Ac2 c.f4.length cc2) ∧ W.cell? ⟨w4.heap.size, 0, none⟩ = some (.string c.f0) ∧ W.cell? ⟨w4.heap.size, 1, none⟩ = some (.string c.f1.f0.f0) ∧ W.cell? ⟨w4.heap.size, 2, none⟩ = some (.string c.f1.f0.f1) ∧ W.cell? ⟨w4.heap.size, 3, none⟩ = some (.slice Ec0 c.f1.f1.length ec0) ∧ W.cell? ⟨w4.heap.size, 4, none⟩ = some (.slice Ec1 c.f1.f2.length ec1) ∧ W.cell? ⟨w4.heap.size, 5, none⟩ = some (.int .i64 c.f2) ∧ W.cell? ⟨w4.heap.size, 6, none⟩ = some (.int .i64 c.f3) ∧ W.cell? ⟨w4.heap.size, 7, none⟩ = some (.slice Ec2 c.f4.length ec2) ∧ Below w6.heap.size w6 W) → (W1.cell? ⟨w.heap.size, 0, none⟩ = some (.string c.f0) ∧ W1.cell? ⟨w.heap.size, 1, none⟩ = some (.string c.f1.f0.f0) ∧ W1.cell? ⟨w.heap.size, 2, none⟩ = some (.string c.f1.f0.f1) ∧ W1.cell? ⟨w.heap.size, 3, none⟩ = some (.slice Ac0 c.f1.f1.length cc0) ∧ W1.cell? ⟨w.heap.size, 4, none⟩ = some (.slice Ac1 c.f1.f2.length cc1) ∧ W1.cell? ⟨w.heap.size, 5, none⟩ = some (.int .i64 c.f2) ∧ W1.cell? ⟨w.heap.size, 6, none⟩ = some (.int .i64 c.f3) ∧ W1.cell? ⟨w.heap.size, 7, none⟩ = some (.slice Ac2 c.f4.length cc2) ∧ W1.cell? ⟨w4.heap.size, 0, none⟩ = some (.string c.f0) ∧ W1.cell? ⟨w4.heap.size, 1, none⟩ = some (.string c.f1.f0.f0) ∧ W1.cell? ⟨w4.heap.size, 2, none⟩ = some (.string c.f1.f0.f1) ∧ W1.cell? ⟨w4.heap.size, 3, none⟩ = some (.slice Ec0 c.f1.f1.length ec0) ∧ W1.cell? ⟨w4.heap.size, 4, none⟩ = some (.slice Ec1 c.f1.f2.length ec1) ∧ W1.cell? ⟨w4.heap.size, 5, none⟩ = some (.int .i64 c.f2) ∧ W1.cell? ⟨w4.heap.size, 6, none⟩ = some (.int .i64 c.f3) ∧ W1.cell? ⟨w4.heap.size, 7, none⟩ = some (.slice Ec2 c.f4.length ec2) ∧ Below w6.heap.size w6 W1)) := ⟨fun W W1 hb h => ⟨(hb.cell (World.block_lt_of_cell? W _ (h.1))).trans (h.1), (hb.cell (World.block_lt_of_cell? W _ (h.2.1))).trans (h.2.1), (hb.cell (World.block_lt_of_cell? W _ (h.2.2.1))).trans (h.2.2.1), (hb.cell (World.block_lt_of_cell? W _ (h.2.2.2.1))).trans (h.2.2.2.1), (hb.cell (World.block_lt_of_cell? W _ (h.2.2.2.2.1))).trans (h.2.2.2.2.1), (hb.cell (World.block_lt_of_cell? W _ (h.2.2.2.2.2.1))).trans (h.2.2.2.2.2.1), (hb.cell (World.block_lt_of_cell? W _ (h.2.2.2.2.2.2.1))).trans (h.2.2.2.2.2.2.1), (hb.cell (World.block_lt_of_cell? W _ (h.2.2.2.2.2.2.2.1))).trans (h.2.2.2.2.2.2.2.1), (hb.cell (World.block_lt_of_cell? W _ (h.2.2.2.2.2.2.2.2.1))).trans (h.2.2.2.2.2.2.2.2.1), (hb.cell (World.block_lt_of_cell? W _ (h.2.2.2.2.2.2.2.2.2.1))).trans (h.2.2.2.2.2.2.2.2.2.1), (hb.cell (World.block_lt_of_cell? W _ (h.2.2.2.2.2.2.2.2.2.2.1))).trans (h.2.2.2.2.2.2.2.2.2.2.1), (hb.cell (World.block_lt_of_cell? W _ (h.2.2.2.2.2.2.2.2.2.2.2.1))).trans (h.2.2.2.2.2.2.2.2.2.2.2.1), (hb.cell (World.block_lt_of_cell? W _ (h.2.2.2.2.2.2.2.2.2.2.2.2.1))).trans (h.2.2.2.2.2.2.2.2.2.2.2.2.1), (hb.cell (World.block_lt_of_cell? W _ (h.2.2.2.2.2.2.2.2.2.2.2.2.2.1))).trans (h.2.2.2.2.2.2.2.2.2.2.2.2.2.1), (hb.cell (World.block_lt_of_cell? W _ (h.2.2.2.2.2.2.2.2.2.2.2.2.2.2.1))).trans (h.2.2.2.2.2.2.2.2.2.2.2.2.2.2.1), (hb.cell (World.block_lt_of_cell? W _ (h.2.2.2.2.2.2.2.2.2.2.2.2.2.2.2.1))).trans (h.2.2.2.2.2.2.2.2.2.2.2.2.2.2.2.1), bel_then (h.2.2.2.2.2.2.2.2.2.2.2.2.2.2.2.2) hb⟩⟩
  refine wp_region_held_drew (S := (fun W => W.cell? ⟨w.heap.size, 0, none⟩ = some (.string c.f0) ∧ W.cell? ⟨w.heap.size, 1, none⟩ = some (.string c.f1.f0.f0) ∧ W.cell? ⟨w.heap.size, 2, none⟩ = some (.string c.f1.f0.f1) ∧ W.cell? ⟨w.heap.size, 3, none⟩ = some (.slice Ac0 c.f1.f1.length cc0) ∧ W.cell? ⟨w.heap.size, 4, none⟩ = some (.slice Ac1 c.f1.f2.length cc1) ∧ W.cell? ⟨w.heap.size, 5, none⟩ = some (.int .i64 c.f2) ∧ W.cell? ⟨w.heap.size, 6, none⟩ = some (.int .i64 c.f3) ∧ W.cell? ⟨w.heap.size, 7, none⟩ = some (.slice Ac2 c.f4.length cc2) ∧ W.cell? ⟨w4.heap.size, 0, none⟩ = some (.string c.f0) ∧ W.cell? ⟨w4.heap.size, 1, none⟩ = some (.string c.f1.f0.f0) ∧ W.cell? ⟨w4.heap.size, 2, none⟩ = some (.string c.f1.f0.f1) ∧ W.cell? ⟨w4.heap.size, 3, none⟩ = some (.slice Ec0 c.f1.f1.length ec0) ∧ W.cell? ⟨w4.heap.size, 4, none⟩ = some (.slice Ec1 c.f1.f2.length ec1) ∧ W.cell? ⟨w4.heap.size, 5, none⟩ = some (.int .i64 c.f2) ∧ W.cell? ⟨w4.heap.size, 6, none⟩ = some (.int .i64 c.f3) ∧ W.cell? ⟨w4.heap.size, 7, none⟩ = some (.slice Ec2 c.f4.length ec2) ∧ Below w6.heap.size w6 W)) (by kernel_rfl) ?s1 (fun hHeld => ?t1)
  case s1 => exact ⟨c0_, c1_, c2_, c3_, c4_, c5_, c6_, c7_, yFXc_0, yFXc_1, yFXc_2, yFXc_3, yFXc_4, yFXc_5, yFXc_6, yFXc_7, bel_then (Below.refl _ _) (drew_below0 w6)⟩
  refine wpAnyH_take (i := 0) (oi := { dst := some 27, op := Op.load 52 (Operand.tmp 5), type := 52, pos := "exact.go:3299", after := #[], guard := none }) (v := ?v2) rfl (by kernel_rfl) (by kernel_rfl) (by kernel_rfl) (fun _ _ _ h => h) (Or.inl ⟨by rfl, ?y2⟩) (by assumption) ?r2
  case y2 => intro w_ hSw; (try dsimp only at hSw); go_simp; (try (with_reducible rfl))
  try simp only [Act.put, List.setIfInBounds_toArray, List.set_cons_zero, List.set_cons_succ]
  refine wpAnyH_take (i := 1) (oi := { dst := some 28, op := Op.load 59 (Operand.tmp 1), type := 59, pos := "exact.go:3299", after := #[], guard := none }) (v := ?v3) rfl (by kernel_rfl) (by kernel_rfl) (by kernel_rfl) (fun _ _ _ h => h) (Or.inl ⟨by rfl, ?y3⟩) (by assumption) ?r3
  case y3 => intro w_ hSw; (try dsimp only at hSw); go_simp; (try (with_reducible rfl))
  try simp only [Act.put, List.setIfInBounds_toArray, List.set_cons_zero, List.set_cons_succ]
  refine wpAnyH_ready (rs := [2]) (by kernel_rfl) (by simp) ?_
  refine AllReadyH.cons (o := { dst := some 29, op := Op.call { callee := Callee.value (Operand.func 27), args := #[Operand.tmp 28], argTypes := #[59] }, type := 52, pos := "exact.go:3299", after := #[{ on := 1, ground := Ground.data }], guard := none }) rfl (fun K hK => ?k4) AllReadyH.nil
  case' k4 => skip
  go_simp
  refine (hto_c _ (bel_then HB0.out (bel_then B6 hHeld.2.2.2.2.2.2.2.2.2.2.2.2.2.2.2.2)) f_c).mono ?_
  rintro e wa7 ⟨Qc0, qc0, Qc1, qc1, Qc2, qc2, rfl, ga_c0, ga_c1, ga_c2, ba⟩
  have Ca_0 := (Kd.R_reads' ga_c0).2.2
  have Ca_1 := (Kd.R_reads' ga_c1).2.2
  have Ca_2 := (Kd.R_reads' ga_c2).2.2
  have hBa := bel_then hHeld.2.2.2.2.2.2.2.2.2.2.2.2.2.2.2.2 ba
  refine hK.out _ _ ?h4 (fun hHeld => ?j4)
  case h4 => exact HK.out _ _ ba hHeld
  clear hK K
  try simp only [Act.put, List.setIfInBounds_toArray, List.set_cons_zero, List.set_cons_succ]
  refine wpAnyH_ready (rs := [3]) (by kernel_rfl) (by simp) ?_
  refine AllReadyH.cons (o := { dst := some 30, op := Op.call { callee := Callee.value (Operand.func 22), args := #[Operand.tmp 27, Operand.tmp 29], argTypes := #[52, 52] }, type := 4, pos := "exact.go:3299", after := #[{ on := 0, ground := Ground.data }, { on := 2, ground := Ground.data }, { on := 2, ground := Ground.chain }], guard := none }) rfl (fun K hK => ?k5) AllReadyH.nil
  case' k5 => skip
  go_simp
  refine (eqCli_any c Ec0 ec0 Ec1 ec1 Ec2 ec2 Qc0 qc0 Qc1 qc1 Qc2 qc2 _ f_c (Kd.C_below (Kd.R_reads' Xc0.out).2.2 hBa) (Kd.C_below (Kd.R_reads' Xc1.out).2.2 hBa) (Kd.C_below (Kd.R_reads' Xc2.out).2.2 hBa) Ca_0 Ca_1 Ca_2).mono ?_
  rintro e w7 ⟨rfl, bb⟩
  have hBb := bel_then hBa bb
  refine hK.out _ _ ?h5 (fun hHeld => ?j5)
  case h5 => exact HK.out _ _ bb hHeld
  clear hK K
  try simp only [Act.put, List.setIfInBounds_toArray, List.set_cons_zero, List.set_cons_succ]
  refine wpAnyH_take (i := 4) (oi := { dst := some 31, op := Op.unOp UnOp.not 4 (Operand.tmp 30), type := 4, pos := "exact.go:3299", after := #[{ on := 3, ground := Ground.data }], guard := none }) (v := ?v6) rfl (by kernel_rfl) (by kernel_rfl) (by kernel_rfl) (fun _ _ _ h => h) (Or.inl ⟨by rfl, ?y6⟩) (by assumption) ?r6
  case y6 => intro w_ hSw; (try dsimp only at hSw); go_simp; (try (with_reducible rfl))
  try simp only [Act.put, List.setIfInBounds_toArray, List.set_cons_zero, List.set_cons_succ]
  refine wpAnyH_done (by kernel_rfl) ?_ _
  clear HK c0_ c1_ c2_ c3_ c4_ c5_ c6_ c7_ yFXc_0 yFXc_1 yFXc_2 yFXc_3 yFXc_4 yFXc_5 yFXc_6 yFXc_7
  have bb7 := hHeld.2.2.2.2.2.2.2.2.2.2.2.2.2.2.2.2
  have B7 := bel_then B6 bb7
  have sz7 := bb7.size
  clear hHeld
  replace HW0_0 := Aside0.mk (Kd.R_below HW0_0.out bb7)
  replace Xc0 := Aside0.mk (Kd.R_below Xc0.out bb7)
  replace Xc1 := Aside0.mk (Kd.R_below Xc1.out bb7)
  replace Xc2 := Aside0.mk (Kd.R_below Xc2.out bb7)
  replace HG0_0 := Aside0.mk (Kd.R_below HG0_0.out bb7)
  replace FXc := Aside0.mk (below_blk FXc.out bb7)
  clear zz0_ lFXc
  obtain ⟨c0_, c1_, c2_, c3_, c4_, c5_, c6_, c7_⟩ := HC.out _ B7
  have zz0_ : w.heap.size < w7.heap.size := Nat.lt_of_lt_of_le Z0 B7.size
  have yFXc_0 : w7.cell? ⟨w4.heap.size, 0, none⟩ = some (.string c.f0) := by simp [World.cell?, FXc.out]
  have yFXc_1 : w7.cell? ⟨w4.heap.size, 1, none⟩ = some (.string c.f1.f0.f0) := by simp [World.cell?, FXc.out]
  have yFXc_2 : w7.cell? ⟨w4.heap.size, 2, none⟩ = some (.string c.f1.f0.f1) := by simp [World.cell?, FXc.out]
  have yFXc_3 : w7.cell? ⟨w4.heap.size, 3, none⟩ = some (.slice Ec0 c.f1.f1.length ec0) := by simp [World.cell?, FXc.out]
  have yFXc_4 : w7.cell? ⟨w4.heap.size, 4, none⟩ = some (.slice Ec1 c.f1.f2.length ec1) := by simp [World.cell?, FXc.out]
  have yFXc_5 : w7.cell? ⟨w4.heap.size, 5, none⟩ = some (.int .i64 c.f2) := by simp [World.cell?, FXc.out]
  have yFXc_6 : w7.cell? ⟨w4.heap.size, 6, none⟩ = some (.int .i64 c.f3) := by simp [World.cell?, FXc.out]
  have yFXc_7 : w7.cell? ⟨w4.heap.size, 7, none⟩ = some (.slice Ec2 c.f4.length ec2) := by simp [World.cell?, FXc.out]
  have lFXc : w4.heap.size < w7.heap.size := blk_lt FXc.out
  clear bb7
  go_wp2_with fail
  refine (calls_at (a := 1) rfl (markCli_any c Ec0 ec0 Ec1 ec1 Ec2 ec2 1 _ _ _ f_c Xc0.out Xc1.out Xc2.out (by omega))).mono ?_
  rintro e w8 ⟨he, le_, _, _, _, t_⟩
  have hl_0 : c.f1.f1.length ≤ 1048576 := (by have h := f_c; unfold fitCli fitMail at h; omega)
  have hl_1 : c.f1.f2.length ≤ 1048576 := (by have h := f_c; unfold fitCli fitMail at h; omega)
  have hl_2 : c.f4.length ≤ 1048576 := (by have h := f_c; unfold fitCli fitMail at h; omega)
  obtain ⟨k8, hk8, rfl⟩ : ∃ r : Nat, r ≤ 1099511627776 ∧ e = .returned (.int .i64 (r : Int)) := ⟨_, by omega, he⟩
  have nk8 : ¬ (k8 : Int) < 0 := by omega
  have B8 := bel_tch B7 t_ B7.size (fun q hq => by have h1 := hq.1; omega)
  have sz8 := t_.size
  replace HW0_0 := Aside0.mk (R_tch HW0_0.out t_ (fun q hq h => by have h1 := hq.1; have h2 := hq.2; have h3 := h.1; have h4 := h.2; omega))
  replace HG0_0 := Aside0.mk (R_tch HG0_0.out t_ (fun q hq h => by have h1 := hq.1; have h2 := hq.2; have h3 := h.1; have h4 := h.2; omega))
  replace FXc := Aside0.mk ((t_.block _ (blk_lt FXc.out) (fun h => by have h3 := h.1; have h4 := h.2; omega)).trans FXc.out)
  clear c0_ c1_ c2_ c3_ c4_ c5_ c6_ c7_ zz0_ yFXc_0 yFXc_1 yFXc_2 yFXc_3 yFXc_4 yFXc_5 yFXc_6 yFXc_7 lFXc
  obtain ⟨c0_, c1_, c2_, c3_, c4_, c5_, c6_, c7_⟩ := HC.out _ B8
  have zz0_ : w.heap.size < w8.heap.size := Nat.lt_of_lt_of_le Z0 B8.size
  have yFXc_0 : w8.cell? ⟨w4.heap.size, 0, none⟩ = some (.string c.f0) := by simp [World.cell?, FXc.out]
  have yFXc_1 : w8.cell? ⟨w4.heap.size, 1, none⟩ = some (.string c.f1.f0.f0) := by simp [World.cell?, FXc.out]
  have yFXc_2 : w8.cell? ⟨w4.heap.size, 2, none⟩ = some (.string c.f1.f0.f1) := by simp [World.cell?, FXc.out]
  have yFXc_3 : w8.cell? ⟨w4.heap.size, 3, none⟩ = some (.slice Ec0 c.f1.f1.length ec0) := by simp [World.cell?, FXc.out]
  have yFXc_4 : w8.cell? ⟨w4.heap.size, 4, none⟩ = some (.slice Ec1 c.f1.f2.length ec1) := by simp [World.cell?, FXc.out]
  have yFXc_5 : w8.cell? ⟨w4.heap.size, 5, none⟩ = some (.int .i64 c.f2) := by simp [World.cell?, FXc.out]
  have yFXc_6 : w8.cell? ⟨w4.heap.size, 6, none⟩ = some (.int .i64 c.f3) := by simp [World.cell?, FXc.out]
  have yFXc_7 : w8.cell? ⟨w4.heap.size, 7, none⟩ = some (.slice Ec2 c.f4.length ec2) := by simp [World.cell?, FXc.out]
  have lFXc : w4.heap.size < w8.heap.size := blk_lt FXc.out
  clear he t_ le_ hl_0 hl_1 hl_2
  clear Xc0 Xc1 Xc2 FXc
  have hcall := fun (W : World) (hW : Below w8.heap.size w8 W) => eqIntS_any G0_0 gd0_0 D0_0 dd0_0 M0 W HVF0.out (Kd.C_below (Kd.R_reads' HG0_0.out).2.2 hW) (Kd.C_below (Kd.R_reads' HW0_0.out).2.2 hW)
  go_wp2_with fail
  refine (hcall _ (Below.refl _ _)).mono ?_
  rintro e w9 ⟨rfl, b9⟩
  clear hcall
  have bb9 := bel_then (Below.refl w8.heap.size w8) b9
  have B9 := bel_then B8 bb9
  have sz9 := bb9.size
  replace HW0_0 := Aside0.mk (Kd.R_below HW0_0.out bb9)
  replace HG0_0 := Aside0.mk (Kd.R_below HG0_0.out bb9)
  clear c0_ c1_ c2_ c3_ c4_ c5_ c6_ c7_ zz0_ yFXc_0 yFXc_1 yFXc_2 yFXc_3 yFXc_4 yFXc_5 yFXc_6 yFXc_7 lFXc
  obtain ⟨c0_, c1_, c2_, c3_, c4_, c5_, c6_, c7_⟩ := HC.out _ B9
  have zz0_ : w.heap.size < w9.heap.size := Nat.lt_of_lt_of_le Z0 B9.size
  clear b9 bb9
  have hl0_0 : M0.length ≤ 1048576 := HVF0.out.1
  go_wp2_with fail
  refine (calls_at (a := 1) rfl (markIntS_any G0_0 gd0_0 gd0_0 M0.length M0 1 _ _ _ HG0_0.out hl0_0 (by omega))).mono ?_
  rintro e w10 ⟨he, m_0, g_⟩
  have t_ : Tch _ _ w10 := (Tch.refl _ _).row g_ (fun q hq => HG0_0.out.1 q hq)
  clear g_
  obtain ⟨m10, hm10, rfl⟩ : ∃ r : Nat, r = 1 + 1 * M0.length ∧ e = .returned (.int .i64 (r : Int)) := ⟨_, rfl, he⟩
  have hb10 : m10 ≤ 1099511627776 := by omega
  have nk10 : ¬ (m10 : Int) < 0 := by omega
  have RV0 := Lib.hid hm10
  clear hm10
  have B10 := bel_tch B9 t_ B9.size (fun q hq => by have h1 := hq.1; omega)
  have sz10 := t_.size
  replace HW0_0 := Aside0.mk (R_tch HW0_0.out t_ (fun q hq h => by have h1 := hq.1; have h2 := hq.2; have h3 := h.1; have h4 := h.2; omega))
  clear c0_ c1_ c2_ c3_ c4_ c5_ c6_ c7_ zz0_
  obtain ⟨c0_, c1_, c2_, c3_, c4_, c5_, c6_, c7_⟩ := HC.out _ B10
  have zz0_ : w.heap.size < w10.heap.size := Nat.lt_of_lt_of_le Z0 B10.size
  replace HG0_0 := Aside0.mk m_0
  clear he t_ m_0
  have hC0 := (Kd.R_reads' HG0_0.out).2.2
  rw [mksInt_length] at hC0
  have hcall := fun (W : World) (hW : Below w10.heap.size w10 W) => calls_at (a := 1) rfl (heldIntS_any G0_0 gd0_0 M0.length 1 W (Kd.C_below hC0 hW) hl0_0 (by omega))
  go_wp2_with fail
  refine (hcall _ (Below.refl _ _)).mono ?_
  rintro e w11 ⟨he, b11⟩
  clear hcall
  obtain rfl : e = .returned (.int .i64 (m10 : Int)) := by rw [he, RV0.out]
  have bb11 := bel_then (Below.refl w10.heap.size w10) b11
  have B11 := bel_then B10 bb11
  have sz11 := bb11.size
  replace HW0_0 := Aside0.mk (Kd.R_below HW0_0.out bb11)
  replace HG0_0 := Aside0.mk (Kd.R_below HG0_0.out bb11)
  clear c0_ c1_ c2_ c3_ c4_ c5_ c6_ c7_ zz0_
  obtain ⟨c0_, c1_, c2_, c3_, c4_, c5_, c6_, c7_⟩ := HC.out _ B11
  have zz0_ : w.heap.size < w11.heap.size := Nat.lt_of_lt_of_le Z0 B11.size
  clear he b11 bb11 hC0
  have hcall := fun (W : World) (hW : Below w11.heap.size w11 W) => hto_c W (bel_then HB0.out (bel_then B11 hW)) f_c
  go_wp2_with fail
  refine (hcall _ (Below.refl _ _)).mono ?_
  rintro e w12 ⟨Qc0, qc0, Qc1, qc1, Qc2, qc2, rfl, gq_c0, gq_c1, gq_c2, b12⟩
  clear hcall
  have bb12 := bel_then (Below.refl w11.heap.size w11) b12
  have B12 := bel_then B11 bb12
  have sz12 := bb12.size
  replace HW0_0 := Aside0.mk (Kd.R_below HW0_0.out bb12)
  replace HG0_0 := Aside0.mk (Kd.R_below HG0_0.out bb12)
  clear c0_ c1_ c2_ c3_ c4_ c5_ c6_ c7_ zz0_
  obtain ⟨c0_, c1_, c2_, c3_, c4_, c5_, c6_, c7_⟩ := HC.out _ B12
  have zz0_ : w.heap.size < w12.heap.size := Nat.lt_of_lt_of_le Z0 B12.size
  have Tc0 := Aside0.mk gq_c0
  clear gq_c0
  have Tc1 := Aside0.mk gq_c1
  clear gq_c1
  have Tc2 := Aside0.mk gq_c2
  clear gq_c2
  clear b12 bb12
  have hcall := fun (W : World) (hW : Below w12.heap.size w12 W) => cliOuts_any c Qc0 qc0 Qc1 qc1 Qc2 qc2 W f_c (Kd.C_below (Kd.R_reads' Tc0.out).2.2 hW) (Kd.C_below (Kd.R_reads' Tc1.out).2.2 hW) (Kd.C_below (Kd.R_reads' Tc2.out).2.2 hW) (HG.out.below (bel_then HB0.out (bel_then B12 hW)))
  simp only [HV0.out] at hcall
  go_wp2_with fail
  refine (hcall _ (Below.refl _ _)).mono ?_
  rintro e w13 ⟨H0_0, hd0_0, rfl, gu0_0, b13⟩
  clear hcall
  clear Tc0 Tc1 Tc2
  have lo13 : w12.heap.size ≤ w13.heap.size := by have := b13.size; (try simp at this); omega
  have HH0_0 := Aside0.mk (Kd.R_mono (Kd.R_bound gu0_0) (ok' := (fun q => w12.heap.size ≤ q ∧ q < w13.heap.size)) (fun q hq => ⟨by have h2 := hq.2.1; (try simp at h2); omega, hq.2.2.1⟩))
  clear gu0_0
  have bb13 := bel_then (Below.refl w12.heap.size w12) b13
  have B13 := bel_then B12 bb13
  have sz13 := bb13.size
  replace HW0_0 := Aside0.mk (Kd.R_below HW0_0.out bb13)
  replace HG0_0 := Aside0.mk (Kd.R_below HG0_0.out bb13)
  clear c0_ c1_ c2_ c3_ c4_ c5_ c6_ c7_ zz0_
  obtain ⟨c0_, c1_, c2_, c3_, c4_, c5_, c6_, c7_⟩ := HC.out _ B13
  have zz0_ : w.heap.size < w13.heap.size := Nat.lt_of_lt_of_le Z0 B13.size
  clear b13 bb13
  have hcall := fun (W : World) (hW : Below w13.heap.size w13 W) => eqIntS_any H0_0 hd0_0 D0_0 dd0_0 M0 W HVF0.out (Kd.C_below (Kd.R_reads' HH0_0.out).2.2 hW) (Kd.C_below (Kd.R_reads' HW0_0.out).2.2 hW)
  go_wp2_with fail
  refine (hcall _ (Below.refl _ _)).mono ?_
  rintro e w14 ⟨rfl, b14⟩
  clear hcall
  have bb14 := bel_then (Below.refl w13.heap.size w13) b14
  have B14 := bel_then B13 bb14
  have sz14 := bb14.size
  replace HW0_0 := Aside0.mk (Kd.R_below HW0_0.out bb14)
  replace HG0_0 := Aside0.mk (Kd.R_below HG0_0.out bb14)
  replace HH0_0 := Aside0.mk (Kd.R_below HH0_0.out bb14)
  clear c0_ c1_ c2_ c3_ c4_ c5_ c6_ c7_ zz0_
  obtain ⟨c0_, c1_, c2_, c3_, c4_, c5_, c6_, c7_⟩ := HC.out _ B14
  have zz0_ : w.heap.size < w14.heap.size := Nat.lt_of_lt_of_le Z0 B14.size
  clear b14 bb14
  have hC0 := (Kd.R_reads' HG0_0.out).2.2
  rw [mksInt_length] at hC0
  have hcall := fun (W : World) (hW : Below w14.heap.size w14 W) => calls_at (a := 1) rfl (heldIntS_any G0_0 gd0_0 M0.length 1 W (Kd.C_below hC0 hW) hl0_0 (by omega))
  go_wp2_with fail
  refine (hcall _ (Below.refl _ _)).mono ?_
  rintro e w15 ⟨he, b15⟩
  clear hcall
  obtain rfl : e = .returned (.int .i64 (m10 : Int)) := by rw [he, RV0.out]
  have bb15 := bel_then (Below.refl w14.heap.size w14) b15
  have B15 := bel_then B14 bb15
  have sz15 := bb15.size
  replace HW0_0 := Aside0.mk (Kd.R_below HW0_0.out bb15)
  replace HG0_0 := Aside0.mk (Kd.R_below HG0_0.out bb15)
  replace HH0_0 := Aside0.mk (Kd.R_below HH0_0.out bb15)
  clear c0_ c1_ c2_ c3_ c4_ c5_ c6_ c7_ zz0_
  obtain ⟨c0_, c1_, c2_, c3_, c4_, c5_, c6_, c7_⟩ := HC.out _ B15
  have zz0_ : w.heap.size < w15.heap.size := Nat.lt_of_lt_of_le Z0 B15.size
  clear he b15 bb15 hC0
  go_wp2
  go_ret
  exact ⟨rfl, bel_then HB0.out B15⟩
end Go.Proofs.YtejiifmopopflaaDoor
