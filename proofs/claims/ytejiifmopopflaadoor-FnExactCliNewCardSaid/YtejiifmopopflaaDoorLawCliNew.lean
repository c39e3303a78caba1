/- The law FnExactCliNew, walked. -/
import Derived.Test.YtejiifmopopflaaDoorCliNewS
import Derived.Test.YtejiifmopopflaaDoorTo
import Derived.Test.YtejiifmopopflaaDoorEq
import Derived.Test.YtejiifmopopflaaDoorHeldN
namespace Go.Proofs.YtejiifmopopflaaDoor
open Go.RowKit Go.Proofs.YtejiifmopopflaaDoorW.PrintWords
set_option linter.unusedVariables false
set_option linter.unusedSimpArgs false

theorem cliNew_fit {nm : ByteArray} {m : SMail} (hn : nm.size ≤ 1048576) (hm : fitMail m) : fitCli (cliNew nm m) := by
  have z : (⟨#[]⟩ : ByteArray).size ≤ 1048576 := Nat.zero_le _
  unfold cliNew
  split
  · exact cliB_fit hn hm
  · exact ⟨z, ⟨⟨z, z⟩, ⟨Nat.zero_le _, fun y hy => by cases hy⟩, ⟨Nat.zero_le _, fun y hy => by cases hy⟩⟩, by decide, by decide, ⟨Nat.zero_le _, fun y hy => by cases hy⟩⟩
set_option maxRecDepth 100000 in
set_option maxHeartbeats 40000000 in
theorem walk_FnExactCliNew {w : World} (name : ByteArray) (hw_name : name.size ≤ 9223372036854775807) (m : SMail) (Am0 : Option Addr) (cm0 : Nat) (Am1 : Option Addr) (cm1 : Nat) (hw_m : wideMail m) (hr_m0 : Kd.C kAddr w Am0 m.f1.length m.f1) (hr_m1 : Kd.C Kd.string w Am1 m.f2.length m.f2) (hG : Glob w) :
    Calls Tryd.prog 4 #[.string name, .agg #[.string m.f0.f0, .string m.f0.f1, .slice Am0 m.f1.length cm0, .slice Am1 m.f2.length cm1]] w fun e w' => e = .returned (.bool true) ∧ Below w.heap.size w w' := by
  have hsz_m := fun (l : Int) (W : World) (hW : Below w.heap.size w W) (l0_ : 0 ≤ l) (l1_ : l ≤ 1048576) => szMail_any m Am0 cm0 Am1 cm1 l W l0_ l1_ hw_m (Kd.C_below hr_m0 hW) (Kd.C_below hr_m1 hW)
  have hto_m := fun (W : World) (hW : Below w.heap.size w W) (hf : fitMail m) => toMail_any m Am0 cm0 Am1 cm1 W hf (Kd.C_below hr_m0 hW) (Kd.C_below hr_m1 hW)
  have HG := Lib.hid hG
  obtain ⟨M0, hm0⟩ : ∃ M, M = cliNew name m := ⟨_, rfl⟩
  have HV0 := Lib.hid hm0.symm
  clear hm0
  clear hw_m hr_m0 hr_m1 hG
  by_cases n_name : (1048576 : Int) < (name.size : Int)
  · go_enter Tryd.func4, Tryd.ntmps4
    go_wp2
    go_ret
    exact ⟨rfl, by (with_reducible repeat (first | exact (Below.refl _ _) | refine bel_alloc ?_ _ | refine bel_set ?_ _ ?_ | refine blw_drewN ?_ _ | refine Below.drew ?_)); all_goals (first | (simp; done) | (simp; omega) | omega)⟩
  have f_name : name.size ≤ 1048576 := by omega
  go_enter Tryd.func4, Tryd.ntmps4
  go_wp2_with fail
  obtain ⟨W0, hW0⟩ : ∃ W0, W0 = (w.alloc (.cells #[.string m.f0.f0, .string m.f0.f1, .slice Am0 m.f1.length cm0, .slice Am1 m.f2.length cm1] 48)) := ⟨_, rfl⟩
  rw [← hW0]
  have B0 : Below w.heap.size w W0 := by rw [hW0]; exact (bel_alloc (Below.refl _ _) _)
  have Z0 : w.heap.size < W0.heap.size := by rw [hW0]; simp
  have c0_ : W0.cell? ⟨w.heap.size, 0, none⟩ = some (.string m.f0.f0) := by rw [hW0]; first | (simp; done) | (rw [World.cell?_alloc_lt _ _ _ (by first | (simp; done) | (simp; omega))]; first | (simp; done) | (rw [World.cell?_alloc_lt _ _ _ (by first | (simp; done) | (simp; omega))]; simp))
  have c1_ : W0.cell? ⟨w.heap.size, 1, none⟩ = some (.string m.f0.f1) := by rw [hW0]; first | (simp; done) | (rw [World.cell?_alloc_lt _ _ _ (by first | (simp; done) | (simp; omega))]; first | (simp; done) | (rw [World.cell?_alloc_lt _ _ _ (by first | (simp; done) | (simp; omega))]; simp))
  have c2_ : W0.cell? ⟨w.heap.size, 2, none⟩ = some (.slice Am0 m.f1.length cm0) := by rw [hW0]; first | (simp; done) | (rw [World.cell?_alloc_lt _ _ _ (by first | (simp; done) | (simp; omega))]; first | (simp; done) | (rw [World.cell?_alloc_lt _ _ _ (by first | (simp; done) | (simp; omega))]; simp))
  have c3_ : W0.cell? ⟨w.heap.size, 3, none⟩ = some (.slice Am1 m.f2.length cm1) := by rw [hW0]; first | (simp; done) | (rw [World.cell?_alloc_lt _ _ _ (by first | (simp; done) | (simp; omega))]; first | (simp; done) | (rw [World.cell?_alloc_lt _ _ _ (by first | (simp; done) | (simp; omega))]; simp))
  have HC : Aside0 (∀ W, Below W0.heap.size W0 W → W.cell? ⟨w.heap.size, 0, none⟩ = some (.string m.f0.f0) ∧ W.cell? ⟨w.heap.size, 1, none⟩ = some (.string m.f0.f1) ∧ W.cell? ⟨w.heap.size, 2, none⟩ = some (.slice Am0 m.f1.length cm0) ∧ W.cell? ⟨w.heap.size, 3, none⟩ = some (.slice Am1 m.f2.length cm1)) := ⟨fun W h => ⟨(h.cell (p := ⟨w.heap.size, 0, none⟩) Z0).trans c0_, (h.cell (p := ⟨w.heap.size, 1, none⟩) Z0).trans c1_, (h.cell (p := ⟨w.heap.size, 2, none⟩) Z0).trans c2_, (h.cell (p := ⟨w.heap.size, 3, none⟩) Z0).trans c3_⟩⟩
  clear hW0 c0_ c1_ c2_ c3_
  have HB0 := Aside0.mk B0
  have hsz := B0.size
  clear B0
  obtain ⟨c0_, c1_, c2_, c3_⟩ := HC.out _ (Below.refl W0.heap.size W0)
  have zz0_ : w.heap.size < W0.heap.size := Nat.lt_of_lt_of_le Z0 (Below.refl W0.heap.size W0).size
  go_wp2_with fail
  refine (hsz_m _ _ (bel_then HB0.out (Below.refl W0.heap.size W0)) (by omega) (by omega)).mono ?_
  rintro e w1 ⟨r_m, rfl, le_m, s_m, b1⟩
  have bb1 := bel_then (Below.refl W0.heap.size W0) b1
  have B1 := bel_then (Below.refl W0.heap.size W0) bb1
  have sz1 := bb1.size
  clear c0_ c1_ c2_ c3_ zz0_
  obtain ⟨c0_, c1_, c2_, c3_⟩ := HC.out _ B1
  have zz0_ : w.heap.size < w1.heap.size := Nat.lt_of_lt_of_le Z0 B1.size
  clear b1 bb1 hsz_m
  by_cases n_m : r_m < 0
  · go_wp2
    go_ret
    exact ⟨rfl, bel_then HB0.out B1⟩
  rw [Int.not_lt] at n_m
  have f_m := s_m n_m
  clear s_m
  have HVF0 : Hid (fitCli M0) := Lib.hid (by have h := cliNew_fit f_name f_m; rw [HV0.out] at h; exact h)
  have hcall := fun (W : World) (hW : Below w1.heap.size w1 W) => hto_m W (bel_then HB0.out (bel_then B1 hW)) f_m
  go_wp2_with fail
  refine (hcall _ (Below.refl _ _)).mono ?_
  rintro e w2 ⟨Qm0, qm0, Qm1, qm1, rfl, gq_m0, gq_m1, b2⟩
  clear hcall
  have bb2 := bel_then (Below.refl w1.heap.size w1) b2
  have B2 := bel_then B1 bb2
  have sz2 := bb2.size
  clear c0_ c1_ c2_ c3_ zz0_
  obtain ⟨c0_, c1_, c2_, c3_⟩ := HC.out _ B2
  have zz0_ : w.heap.size < w2.heap.size := Nat.lt_of_lt_of_le Z0 B2.size
  have Tm0 := Aside0.mk gq_m0
  clear gq_m0
  have Tm1 := Aside0.mk gq_m1
  clear gq_m1
  clear b2 bb2
  have hcall := fun (W : World) (hW : Below w2.heap.size w2 W) => specCliNew_any name m Qm0 qm0 Qm1 qm1 W f_name f_m (Kd.C_below (Kd.R_reads' Tm0.out).2.2 hW) (Kd.C_below (Kd.R_reads' Tm1.out).2.2 hW)
  simp only [HV0.out] at hcall
  go_wp2_with fail
  refine (hcall _ (Below.refl _ _)).mono ?_
  rintro e w3 ⟨D0_0, dd0_0, D0_1, dd0_1, D0_2, dd0_2, rfl, gu0_0, gu0_1, gu0_2, b3⟩
  clear hcall
  clear Tm0 Tm1
  have lo3 : w2.heap.size ≤ w3.heap.size := by have := b3.size; (try simp at this); omega
  have HW0_0 := Aside0.mk (Kd.R_mono (Kd.R_bound gu0_0) (ok' := (fun q => w2.heap.size ≤ q ∧ q < w3.heap.size)) (fun q hq => ⟨by have h2 := hq.2.1; (try simp at h2); omega, hq.2.2.1⟩))
  clear gu0_0
  have HW0_1 := Aside0.mk (Kd.R_mono (Kd.R_bound gu0_1) (ok' := (fun q => w2.heap.size ≤ q ∧ q < w3.heap.size)) (fun q hq => ⟨by have h2 := hq.2.1; (try simp at h2); omega, hq.2.2.1⟩))
  clear gu0_1
  have HW0_2 := Aside0.mk (Kd.R_mono (Kd.R_bound gu0_2) (ok' := (fun q => w2.heap.size ≤ q ∧ q < w3.heap.size)) (fun q hq => ⟨by have h2 := hq.2.1; (try simp at h2); omega, hq.2.2.1⟩))
  clear gu0_2
  have bb3 := bel_then (Below.refl w2.heap.size w2) b3
  have B3 := bel_then B2 bb3
  have sz3 := bb3.size
  clear c0_ c1_ c2_ c3_ zz0_
  obtain ⟨c0_, c1_, c2_, c3_⟩ := HC.out _ B3
  have zz0_ : w.heap.size < w3.heap.size := Nat.lt_of_lt_of_le Z0 B3.size
  clear b3 bb3
  have hcall := fun (W : World) (hW : Below w3.heap.size w3 W) => hto_m W (bel_then HB0.out (bel_then B3 hW)) f_m
  go_wp2_with fail
  refine (hcall _ (bel_alloc (Below.refl _ _) _)).mono ?_
  rintro e w4 ⟨Em0, em0, Em1, em1, rfl, gx_m0, gx_m1, b4⟩
  clear hcall
  have lo4 : w3.heap.size + 1 ≤ w4.heap.size := by have := b4.size; (try simp at this); omega
  have Xm0 := Aside0.mk (Kd.R_mono (Kd.R_bound gx_m0) (ok' := fun q => w3.heap.size + 1 ≤ q ∧ q < w4.heap.size) (fun q hq => ⟨by have h2 := hq.2.1; (try simp at h2); omega, hq.2.2.1⟩))
  clear gx_m0
  have Xm1 := Aside0.mk (Kd.R_mono (Kd.R_bound gx_m1) (ok' := fun q => w3.heap.size + 1 ≤ q ∧ q < w4.heap.size) (fun q hq => ⟨by have h2 := hq.2.1; (try simp at h2); omega, hq.2.2.1⟩))
  clear gx_m1
  have bb4 := bel_then (bel_alloc (Below.refl w3.heap.size w3) _) b4
  have B4 := bel_then B3 bb4
  have sz4 := bb4.size
  replace HW0_0 := Aside0.mk (Kd.R_below HW0_0.out bb4)
  replace HW0_1 := Aside0.mk (Kd.R_below HW0_1.out bb4)
  replace HW0_2 := Aside0.mk (Kd.R_below HW0_2.out bb4)
  have Fgw0 := Aside0.mk (below_blk (blk_new w3 (.cells #[.string M0.f0, .string M0.f1.f0.f0, .string M0.f1.f0.f1, .slice D0_0 M0.f1.f1.length dd0_0, .slice D0_1 M0.f1.f2.length dd0_1, .int .i64 M0.f2, .int .i64 M0.f3, .slice D0_2 M0.f4.length dd0_2] 52)) b4)
  clear c0_ c1_ c2_ c3_ zz0_
  obtain ⟨c0_, c1_, c2_, c3_⟩ := HC.out _ B4
  have zz0_ : w.heap.size < w4.heap.size := Nat.lt_of_lt_of_le Z0 B4.size
  have yFgw0_0 : w4.cell? ⟨w3.heap.size, 0, none⟩ = some (.string M0.f0) := by simp [World.cell?, Fgw0.out]
  have yFgw0_1 : w4.cell? ⟨w3.heap.size, 1, none⟩ = some (.string M0.f1.f0.f0) := by simp [World.cell?, Fgw0.out]
  have yFgw0_2 : w4.cell? ⟨w3.heap.size, 2, none⟩ = some (.string M0.f1.f0.f1) := by simp [World.cell?, Fgw0.out]
  have yFgw0_3 : w4.cell? ⟨w3.heap.size, 3, none⟩ = some (.slice D0_0 M0.f1.f1.length dd0_0) := by simp [World.cell?, Fgw0.out]
  have yFgw0_4 : w4.cell? ⟨w3.heap.size, 4, none⟩ = some (.slice D0_1 M0.f1.f2.length dd0_1) := by simp [World.cell?, Fgw0.out]
  have yFgw0_5 : w4.cell? ⟨w3.heap.size, 5, none⟩ = some (.int .i64 M0.f2) := by simp [World.cell?, Fgw0.out]
  have yFgw0_6 : w4.cell? ⟨w3.heap.size, 6, none⟩ = some (.int .i64 M0.f3) := by simp [World.cell?, Fgw0.out]
  have yFgw0_7 : w4.cell? ⟨w3.heap.size, 7, none⟩ = some (.slice D0_2 M0.f4.length dd0_2) := by simp [World.cell?, Fgw0.out]
  have lFgw0 : w3.heap.size < w4.heap.size := blk_lt Fgw0.out
  clear b4 bb4
  have hcall := fun (W : World) (hW : Below w4.heap.size w4 W) => cliNew_any name m Em0 em0 Em1 em1 W f_name f_m (Kd.C_below (Kd.R_reads' Xm0.out).2.2 hW) (Kd.C_below (Kd.R_reads' Xm1.out).2.2 hW) (HG.out.below (bel_then HB0.out (bel_then B4 hW)))
  simp only [HV0.out] at hcall
  go_wp2_with fail
  refine (hcall _ (bel_alloc (Below.refl _ _) _)).mono ?_
  rintro e w5 ⟨G0_0, gd0_0, G0_1, gd0_1, G0_2, gd0_2, rfl, gu0_0, gu0_1, gu0_2, b5⟩
  clear hcall
  have lo5 : w4.heap.size + 1 ≤ w5.heap.size := by have := b5.size; (try simp at this); omega
  have HG0_0 := Aside0.mk (Kd.R_mono (Kd.R_bound gu0_0) (ok' := (fun q => w4.heap.size + 1 ≤ q ∧ q < w5.heap.size)) (fun q hq => ⟨by have h2 := hq.2.1; (try simp at h2); omega, hq.2.2.1⟩))
  clear gu0_0
  have HG0_1 := Aside0.mk (Kd.R_mono (Kd.R_bound gu0_1) (ok' := (fun q => w4.heap.size + 1 ≤ q ∧ q < w5.heap.size)) (fun q hq => ⟨by have h2 := hq.2.1; (try simp at h2); omega, hq.2.2.1⟩))
  clear gu0_1
  have HG0_2 := Aside0.mk (Kd.R_mono (Kd.R_bound gu0_2) (ok' := (fun q => w4.heap.size + 1 ≤ q ∧ q < w5.heap.size)) (fun q hq => ⟨by have h2 := hq.2.1; (try simp at h2); omega, hq.2.2.1⟩))
  clear gu0_2
  have bb5 := bel_then (bel_alloc (Below.refl w4.heap.size w4) _) b5
  have B5 := bel_then B4 bb5
  have sz5 := bb5.size
  replace HW0_0 := Aside0.mk (Kd.R_below HW0_0.out bb5)
  replace HW0_1 := Aside0.mk (Kd.R_below HW0_1.out bb5)
  replace HW0_2 := Aside0.mk (Kd.R_below HW0_2.out bb5)
  replace Xm0 := Aside0.mk (Kd.R_below Xm0.out bb5)
  replace Xm1 := Aside0.mk (Kd.R_below Xm1.out bb5)
  replace Fgw0 := Aside0.mk (below_blk Fgw0.out bb5)
  have FXm := Aside0.mk (below_blk (blk_new w4 (.cells #[.string m.f0.f0, .string m.f0.f1, .slice Em0 m.f1.length em0, .slice Em1 m.f2.length em1] 33)) b5)
  clear c0_ c1_ c2_ c3_ zz0_ yFgw0_0 yFgw0_1 yFgw0_2 yFgw0_3 yFgw0_4 yFgw0_5 yFgw0_6 yFgw0_7 lFgw0
  obtain ⟨c0_, c1_, c2_, c3_⟩ := HC.out _ B5
  have zz0_ : w.heap.size < w5.heap.size := Nat.lt_of_lt_of_le Z0 B5.size
  have yFgw0_0 : w5.cell? ⟨w3.heap.size, 0, none⟩ = some (.string M0.f0) := by simp [World.cell?, Fgw0.out]
  have yFgw0_1 : w5.cell? ⟨w3.heap.size, 1, none⟩ = some (.string M0.f1.f0.f0) := by simp [World.cell?, Fgw0.out]
  have yFgw0_2 : w5.cell? ⟨w3.heap.size, 2, none⟩ = some (.string M0.f1.f0.f1) := by simp [World.cell?, Fgw0.out]
  have yFgw0_3 : w5.cell? ⟨w3.heap.size, 3, none⟩ = some (.slice D0_0 M0.f1.f1.length dd0_0) := by simp [World.cell?, Fgw0.out]
  have yFgw0_4 : w5.cell? ⟨w3.heap.size, 4, none⟩ = some (.slice D0_1 M0.f1.f2.length dd0_1) := by simp [World.cell?, Fgw0.out]
  have yFgw0_5 : w5.cell? ⟨w3.heap.size, 5, none⟩ = some (.int .i64 M0.f2) := by simp [World.cell?, Fgw0.out]
  have yFgw0_6 : w5.cell? ⟨w3.heap.size, 6, none⟩ = some (.int .i64 M0.f3) := by simp [World.cell?, Fgw0.out]
  have yFgw0_7 : w5.cell? ⟨w3.heap.size, 7, none⟩ = some (.slice D0_2 M0.f4.length dd0_2) := by simp [World.cell?, Fgw0.out]
  have lFgw0 : w3.heap.size < w5.heap.size := blk_lt Fgw0.out
  have yFXm_0 : w5.cell? ⟨w4.heap.size, 0, none⟩ = some (.string m.f0.f0) := by simp [World.cell?, FXm.out]
  have yFXm_1 : w5.cell? ⟨w4.heap.size, 1, none⟩ = some (.string m.f0.f1) := by simp [World.cell?, FXm.out]
  have yFXm_2 : w5.cell? ⟨w4.heap.size, 2, none⟩ = some (.slice Em0 m.f1.length em0) := by simp [World.cell?, FXm.out]
  have yFXm_3 : w5.cell? ⟨w4.heap.size, 3, none⟩ = some (.slice Em1 m.f2.length em1) := by simp [World.cell?, FXm.out]
  have lFXm : w4.heap.size < w5.heap.size := blk_lt FXm.out
  clear b5 bb5
  have hcall := fun (W : World) (hW : Below w5.heap.size w5 W) => eqCli_any M0 G0_0 gd0_0 G0_1 gd0_1 G0_2 gd0_2 D0_0 dd0_0 D0_1 dd0_1 D0_2 dd0_2 W HVF0.out (Kd.C_below (Kd.R_reads' HG0_0.out).2.2 hW) (Kd.C_below (Kd.R_reads' HG0_1.out).2.2 hW) (Kd.C_below (Kd.R_reads' HG0_2.out).2.2 hW) (Kd.C_below (Kd.R_reads' HW0_0.out).2.2 hW) (Kd.C_below (Kd.R_reads' HW0_1.out).2.2 hW) (Kd.C_below (Kd.R_reads' HW0_2.out).2.2 hW)
  go_wp2_with fail
  refine (hcall _ (bel_alloc (Below.refl _ _) _)).mono ?_
  rintro e w6 ⟨rfl, b6⟩
  clear hcall
  have bb6 := bel_then (bel_alloc (Below.refl w5.heap.size w5) _) b6
  have B6 := bel_then B5 bb6
  have sz6 := bb6.size
  replace HW0_0 := Aside0.mk (Kd.R_below HW0_0.out bb6)
  replace HW0_1 := Aside0.mk (Kd.R_below HW0_1.out bb6)
  replace HW0_2 := Aside0.mk (Kd.R_below HW0_2.out bb6)
  replace Xm0 := Aside0.mk (Kd.R_below Xm0.out bb6)
  replace Xm1 := Aside0.mk (Kd.R_below Xm1.out bb6)
  replace HG0_0 := Aside0.mk (Kd.R_below HG0_0.out bb6)
  replace HG0_1 := Aside0.mk (Kd.R_below HG0_1.out bb6)
  replace HG0_2 := Aside0.mk (Kd.R_below HG0_2.out bb6)
  replace Fgw0 := Aside0.mk (below_blk Fgw0.out bb6)
  replace FXm := Aside0.mk (below_blk FXm.out bb6)
  have Fgg0 := Aside0.mk (below_blk (blk_new w5 (.cells #[.string M0.f0, .string M0.f1.f0.f0, .string M0.f1.f0.f1, .slice G0_0 M0.f1.f1.length gd0_0, .slice G0_1 M0.f1.f2.length gd0_1, .int .i64 M0.f2, .int .i64 M0.f3, .slice G0_2 M0.f4.length gd0_2] 52)) b6)
  clear c0_ c1_ c2_ c3_ zz0_ yFgw0_0 yFgw0_1 yFgw0_2 yFgw0_3 yFgw0_4 yFgw0_5 yFgw0_6 yFgw0_7 lFgw0 yFXm_0 yFXm_1 yFXm_2 yFXm_3 lFXm
  obtain ⟨c0_, c1_, c2_, c3_⟩ := HC.out _ B6
  have zz0_ : w.heap.size < w6.heap.size := Nat.lt_of_lt_of_le Z0 B6.size
  have yFgw0_0 : w6.cell? ⟨w3.heap.size, 0, none⟩ = some (.string M0.f0) := by simp [World.cell?, Fgw0.out]
  have yFgw0_1 : w6.cell? ⟨w3.heap.size, 1, none⟩ = some (.string M0.f1.f0.f0) := by simp [World.cell?, Fgw0.out]
  have yFgw0_2 : w6.cell? ⟨w3.heap.size, 2, none⟩ = some (.string M0.f1.f0.f1) := by simp [World.cell?, Fgw0.out]
  have yFgw0_3 : w6.cell? ⟨w3.heap.size, 3, none⟩ = some (.slice D0_0 M0.f1.f1.length dd0_0) := by simp [World.cell?, Fgw0.out]
  have yFgw0_4 : w6.cell? ⟨w3.heap.size, 4, none⟩ = some (.slice D0_1 M0.f1.f2.length dd0_1) := by simp [World.cell?, Fgw0.out]
  have yFgw0_5 : w6.cell? ⟨w3.heap.size, 5, none⟩ = some (.int .i64 M0.f2) := by simp [World.cell?, Fgw0.out]
  have yFgw0_6 : w6.cell? ⟨w3.heap.size, 6, none⟩ = some (.int .i64 M0.f3) := by simp [World.cell?, Fgw0.out]
  have yFgw0_7 : w6.cell? ⟨w3.heap.size, 7, none⟩ = some (.slice D0_2 M0.f4.length dd0_2) := by simp [World.cell?, Fgw0.out]
  have lFgw0 : w3.heap.size < w6.heap.size := blk_lt Fgw0.out
  have yFXm_0 : w6.cell? ⟨w4.heap.size, 0, none⟩ = some (.string m.f0.f0) := by simp [World.cell?, FXm.out]
  have yFXm_1 : w6.cell? ⟨w4.heap.size, 1, none⟩ = some (.string m.f0.f1) := by simp [World.cell?, FXm.out]
  have yFXm_2 : w6.cell? ⟨w4.heap.size, 2, none⟩ = some (.slice Em0 m.f1.length em0) := by simp [World.cell?, FXm.out]
  have yFXm_3 : w6.cell? ⟨w4.heap.size, 3, none⟩ = some (.slice Em1 m.f2.length em1) := by simp [World.cell?, FXm.out]
  have lFXm : w4.heap.size < w6.heap.size := blk_lt FXm.out
  have yFgg0_0 : w6.cell? ⟨w5.heap.size, 0, none⟩ = some (.string M0.f0) := by simp [World.cell?, Fgg0.out]
  have yFgg0_1 : w6.cell? ⟨w5.heap.size, 1, none⟩ = some (.string M0.f1.f0.f0) := by simp [World.cell?, Fgg0.out]
  have yFgg0_2 : w6.cell? ⟨w5.heap.size, 2, none⟩ = some (.string M0.f1.f0.f1) := by simp [World.cell?, Fgg0.out]
  have yFgg0_3 : w6.cell? ⟨w5.heap.size, 3, none⟩ = some (.slice G0_0 M0.f1.f1.length gd0_0) := by simp [World.cell?, Fgg0.out]
  have yFgg0_4 : w6.cell? ⟨w5.heap.size, 4, none⟩ = some (.slice G0_1 M0.f1.f2.length gd0_1) := by simp [World.cell?, Fgg0.out]
  have yFgg0_5 : w6.cell? ⟨w5.heap.size, 5, none⟩ = some (.int .i64 M0.f2) := by simp [World.cell?, Fgg0.out]
  have yFgg0_6 : w6.cell? ⟨w5.heap.size, 6, none⟩ = some (.int .i64 M0.f3) := by simp [World.cell?, Fgg0.out]
  have yFgg0_7 : w6.cell? ⟨w5.heap.size, 7, none⟩ = some (.slice G0_2 M0.f4.length gd0_2) := by simp [World.cell?, Fgg0.out]
  have lFgg0 : w5.heap.size < w6.heap.size := blk_lt Fgg0.out
  clear b6 bb6
  go_wp2
  have HK : Aside0 (∀ W W1, Below W.heap.size W W1 → (W.cell? ⟨w.heap.size, 0, none⟩ = some (.string m.f0.f0) ∧ W.cell? ⟨w.heap.size, 1, none⟩ = some (.string m.f0.f1) ∧ W.cell? ⟨w.heap.size, 2, none⟩ = some (.slice Am0 m.f1.length cm0) ∧ W.cell? ⟨w.heap.size, 3, none⟩ = some (.slice Am1 m.f2.length cm1) ∧ W.cell? ⟨w4.heap.size, 0, none⟩ = some (.string m.f0.f0) ∧ W.cell? ⟨w4.heap.size, 1, none⟩ = some (.string m.f0.f1) ∧ W.cell? ⟨w4.heap.size, 2, none⟩ = some (.slice Em0 m.f1.length em0) ∧ W.cell? ⟨w4.heap.size, 3, none⟩ = some (.slice Em1 m.f2.length em1) ∧ Below w6.heap.size w6 W) → (W1.cell? ⟨w.heap.size, 0, none⟩ = some (.string m.f0.f0) ∧ W1.cell? ⟨w.heap.size, 1, none⟩ = some (.string m.f0.f1) ∧ W1.cell? ⟨w.heap.size, 2, none⟩ = some (.slice Am0 m.f1.length cm0) ∧ W1.cell? ⟨w.heap.size, 3, none⟩ = some (.slice Am1 m.f2.length cm1) ∧ W1.cell? ⟨w4.heap.size, 0, none⟩ = some (.string m.f0.f0) ∧ W1.cell? ⟨w4.heap.size, 1, none⟩ = some (.string m.f0.f1) ∧ W1.cell? ⟨w4.heap.size, 2, none⟩ = some (.slice Em0 m.f1.length em0) ∧ W1.cell? ⟨w4.heap.size, 3, none⟩ = some (.slice Em1 m.f2.length em1) ∧ Below w6.heap.size w6 W1)) := ⟨fun W W1 hb h => ⟨(hb.cell (World.block_lt_of_cell? W _ (h.1))).trans (h.1), (hb.cell (World.block_lt_of_cell? W _ (h.2.1))).trans (h.2.1), (hb.cell (World.block_lt_of_cell? W _ (h.2.2.1))).trans (h.2.2.1), (hb.cell (World.block_lt_of_cell? W _ (h.2.2.2.1))).trans (h.2.2.2.1), (hb.cell (World.block_lt_of_cell? W _ (h.2.2.2.2.1))).trans (h.2.2.2.2.1), (hb.cell (World.block_lt_of_cell? W _ (h.2.2.2.2.2.1))).trans (h.2.2.2.2.2.1), (hb.cell (World.block_lt_of_cell? W _ (h.2.2.2.2.2.2.1))).trans (h.2.2.2.2.2.2.1), (hb.cell (World.block_lt_of_cell? W _ (h.2.2.2.2.2.2.2.1))).trans (h.2.2.2.2.2.2.2.1), bel_then (h.2.2.2.2.2.2.2.2) hb⟩⟩
  refine wp_region_held_drew (S := (fun W => W.cell? ⟨w.heap.size, 0, none⟩ = some (.string m.f0.f0) ∧ W.cell? ⟨w.heap.size, 1, none⟩ = some (.string m.f0.f1) ∧ W.cell? ⟨w.heap.size, 2, none⟩ = some (.slice Am0 m.f1.length cm0) ∧ W.cell? ⟨w.heap.size, 3, none⟩ = some (.slice Am1 m.f2.length cm1) ∧ W.cell? ⟨w4.heap.size, 0, none⟩ = some (.string m.f0.f0) ∧ W.cell? ⟨w4.heap.size, 1, none⟩ = some (.string m.f0.f1) ∧ W.cell? ⟨w4.heap.size, 2, none⟩ = some (.slice Em0 m.f1.length em0) ∧ W.cell? ⟨w4.heap.size, 3, none⟩ = some (.slice Em1 m.f2.length em1) ∧ Below w6.heap.size w6 W)) (by kernel_rfl) ?s1 (fun hHeld => ?t1)
  case s1 => exact ⟨c0_, c1_, c2_, c3_, yFXm_0, yFXm_1, yFXm_2, yFXm_3, bel_then (Below.refl _ _) (drew_below0 w6)⟩
  refine wpAnyH_take (i := 0) (oi := { dst := some 34, op := Op.load 33 (Operand.tmp 7), type := 33, pos := "exact.go:3204", after := #[], guard := none }) (v := ?v2) rfl (by kernel_rfl) (by kernel_rfl) (by kernel_rfl) (fun _ _ _ h => h) (Or.inl ⟨by rfl, ?y2⟩) (by assumption) ?r2
  case y2 => intro w_ hSw; (try dsimp only at hSw); go_simp; (try (with_reducible rfl))
  try simp only [Act.put, List.setIfInBounds_toArray, List.set_cons_zero, List.set_cons_succ]
  refine wpAnyH_take (i := 1) (oi := { dst := some 35, op := Op.load 48 (Operand.tmp 3), type := 48, pos := "exact.go:3204", after := #[], guard := none }) (v := ?v3) rfl (by kernel_rfl) (by kernel_rfl) (by kernel_rfl) (fun _ _ _ h => h) (Or.inl ⟨by rfl, ?y3⟩) (by assumption) ?r3
  case y3 => intro w_ hSw; (try dsimp only at hSw); go_simp; (try (with_reducible rfl))
  try simp only [Act.put, List.setIfInBounds_toArray, List.set_cons_zero, List.set_cons_succ]
  refine wpAnyH_ready (rs := [2]) (by kernel_rfl) (by simp) ?_
  refine AllReadyH.cons (o := { dst := some 36, op := Op.call { callee := Callee.value (Operand.func 20), args := #[Operand.tmp 35], argTypes := #[48] }, type := 33, pos := "exact.go:3204", after := #[{ on := 1, ground := Ground.data }], guard := none }) rfl (fun K hK => ?k4) AllReadyH.nil
  case' k4 => skip
  go_simp
  refine (hto_m _ (bel_then HB0.out (bel_then B6 hHeld.2.2.2.2.2.2.2.2)) f_m).mono ?_
  rintro e wa7 ⟨Qm0, qm0, Qm1, qm1, rfl, ga_m0, ga_m1, ba⟩
  have Ca_0 := (Kd.R_reads' ga_m0).2.2
  have Ca_1 := (Kd.R_reads' ga_m1).2.2
  have hBa := bel_then hHeld.2.2.2.2.2.2.2.2 ba
  refine hK.out _ _ ?h4 (fun hHeld => ?j4)
  case h4 => exact HK.out _ _ ba hHeld
  clear hK K
  try simp only [Act.put, List.setIfInBounds_toArray, List.set_cons_zero, List.set_cons_succ]
  refine wpAnyH_ready (rs := [3]) (by kernel_rfl) (by simp) ?_
  refine AllReadyH.cons (o := { dst := some 37, op := Op.call { callee := Callee.value (Operand.func 13), args := #[Operand.tmp 34, Operand.tmp 36], argTypes := #[33, 33] }, type := 4, pos := "exact.go:3204", after := #[{ on := 0, ground := Ground.data }, { on := 2, ground := Ground.data }, { on := 2, ground := Ground.chain }], guard := none }) rfl (fun K hK => ?k5) AllReadyH.nil
  case' k5 => skip
  go_simp
  refine (eqMail_any m Em0 em0 Em1 em1 Qm0 qm0 Qm1 qm1 _ f_m (Kd.C_below (Kd.R_reads' Xm0.out).2.2 hBa) (Kd.C_below (Kd.R_reads' Xm1.out).2.2 hBa) Ca_0 Ca_1).mono ?_
  rintro e w7 ⟨rfl, bb⟩
  have hBb := bel_then hBa bb
  refine hK.out _ _ ?h5 (fun hHeld => ?j5)
  case h5 => exact HK.out _ _ bb hHeld
  clear hK K
  try simp only [Act.put, List.setIfInBounds_toArray, List.set_cons_zero, List.set_cons_succ]
  refine wpAnyH_take (i := 4) (oi := { dst := some 38, op := Op.unOp UnOp.not 4 (Operand.tmp 37), type := 4, pos := "exact.go:3204", after := #[{ on := 3, ground := Ground.data }], guard := none }) (v := ?v6) rfl (by kernel_rfl) (by kernel_rfl) (by kernel_rfl) (fun _ _ _ h => h) (Or.inl ⟨by rfl, ?y6⟩) (by assumption) ?r6
  case y6 => intro w_ hSw; (try dsimp only at hSw); go_simp; (try (with_reducible rfl))
  try simp only [Act.put, List.setIfInBounds_toArray, List.set_cons_zero, List.set_cons_succ]
  refine wpAnyH_done (by kernel_rfl) ?_ _
  clear HK c0_ c1_ c2_ c3_ yFgw0_0 yFgw0_1 yFgw0_2 yFgw0_3 yFgw0_4 yFgw0_5 yFgw0_6 yFgw0_7 yFXm_0 yFXm_1 yFXm_2 yFXm_3 yFgg0_0 yFgg0_1 yFgg0_2 yFgg0_3 yFgg0_4 yFgg0_5 yFgg0_6 yFgg0_7
  have bb7 := hHeld.2.2.2.2.2.2.2.2
  have B7 := bel_then B6 bb7
  have sz7 := bb7.size
  clear hHeld
  replace HW0_0 := Aside0.mk (Kd.R_below HW0_0.out bb7)
  replace HW0_1 := Aside0.mk (Kd.R_below HW0_1.out bb7)
  replace HW0_2 := Aside0.mk (Kd.R_below HW0_2.out bb7)
  replace Xm0 := Aside0.mk (Kd.R_below Xm0.out bb7)
  replace Xm1 := Aside0.mk (Kd.R_below Xm1.out bb7)
  replace HG0_0 := Aside0.mk (Kd.R_below HG0_0.out bb7)
  replace HG0_1 := Aside0.mk (Kd.R_below HG0_1.out bb7)
  replace HG0_2 := Aside0.mk (Kd.R_below HG0_2.out bb7)
  replace Fgw0 := Aside0.mk (below_blk Fgw0.out bb7)
  replace FXm := Aside0.mk (below_blk FXm.out bb7)
  replace Fgg0 := Aside0.mk (below_blk Fgg0.out bb7)
  clear zz0_ lFgw0 lFXm lFgg0
  obtain ⟨c0_, c1_, c2_, c3_⟩ := HC.out _ B7
  have zz0_ : w.heap.size < w7.heap.size := Nat.lt_of_lt_of_le Z0 B7.size
  have yFgw0_0 : w7.cell? ⟨w3.heap.size, 0, none⟩ = some (.string M0.f0) := by simp [World.cell?, Fgw0.out]
  have yFgw0_1 : w7.cell? ⟨w3.heap.size, 1, none⟩ = some (.string M0.f1.f0.f0) := by simp [World.cell?, Fgw0.out]
  have yFgw0_2 : w7.cell? ⟨w3.heap.size, 2, none⟩ = some (.string M0.f1.f0.f1) := by simp [World.cell?, Fgw0.out]
  have yFgw0_3 : w7.cell? ⟨w3.heap.size, 3, none⟩ = some (.slice D0_0 M0.f1.f1.length dd0_0) := by simp [World.cell?, Fgw0.out]
  have yFgw0_4 : w7.cell? ⟨w3.heap.size, 4, none⟩ = some (.slice D0_1 M0.f1.f2.length dd0_1) := by simp [World.cell?, Fgw0.out]
  have yFgw0_5 : w7.cell? ⟨w3.heap.size, 5, none⟩ = some (.int .i64 M0.f2) := by simp [World.cell?, Fgw0.out]
  have yFgw0_6 : w7.cell? ⟨w3.heap.size, 6, none⟩ = some (.int .i64 M0.f3) := by simp [World.cell?, Fgw0.out]
  have yFgw0_7 : w7.cell? ⟨w3.heap.size, 7, none⟩ = some (.slice D0_2 M0.f4.length dd0_2) := by simp [World.cell?, Fgw0.out]
  have lFgw0 : w3.heap.size < w7.heap.size := blk_lt Fgw0.out
  have yFXm_0 : w7.cell? ⟨w4.heap.size, 0, none⟩ = some (.string m.f0.f0) := by simp [World.cell?, FXm.out]
  have yFXm_1 : w7.cell? ⟨w4.heap.size, 1, none⟩ = some (.string m.f0.f1) := by simp [World.cell?, FXm.out]
  have yFXm_2 : w7.cell? ⟨w4.heap.size, 2, none⟩ = some (.slice Em0 m.f1.length em0) := by simp [World.cell?, FXm.out]
  have yFXm_3 : w7.cell? ⟨w4.heap.size, 3, none⟩ = some (.slice Em1 m.f2.length em1) := by simp [World.cell?, FXm.out]
  have lFXm : w4.heap.size < w7.heap.size := blk_lt FXm.out
  have yFgg0_0 : w7.cell? ⟨w5.heap.size, 0, none⟩ = some (.string M0.f0) := by simp [World.cell?, Fgg0.out]
  have yFgg0_1 : w7.cell? ⟨w5.heap.size, 1, none⟩ = some (.string M0.f1.f0.f0) := by simp [World.cell?, Fgg0.out]
  have yFgg0_2 : w7.cell? ⟨w5.heap.size, 2, none⟩ = some (.string M0.f1.f0.f1) := by simp [World.cell?, Fgg0.out]
  have yFgg0_3 : w7.cell? ⟨w5.heap.size, 3, none⟩ = some (.slice G0_0 M0.f1.f1.length gd0_0) := by simp [World.cell?, Fgg0.out]
  have yFgg0_4 : w7.cell? ⟨w5.heap.size, 4, none⟩ = some (.slice G0_1 M0.f1.f2.length gd0_1) := by simp [World.cell?, Fgg0.out]
  have yFgg0_5 : w7.cell? ⟨w5.heap.size, 5, none⟩ = some (.int .i64 M0.f2) := by simp [World.cell?, Fgg0.out]
  have yFgg0_6 : w7.cell? ⟨w5.heap.size, 6, none⟩ = some (.int .i64 M0.f3) := by simp [World.cell?, Fgg0.out]
  have yFgg0_7 : w7.cell? ⟨w5.heap.size, 7, none⟩ = some (.slice G0_2 M0.f4.length gd0_2) := by simp [World.cell?, Fgg0.out]
  have lFgg0 : w5.heap.size < w7.heap.size := blk_lt Fgg0.out
  clear bb7
  go_wp2_with fail
  refine (calls_at (a := 1) rfl (markMail_any m Em0 em0 Em1 em1 1 _ _ _ f_m Xm0.out Xm1.out (by omega))).mono ?_
  rintro e w8 ⟨he, le_, _, _, t_⟩
  have hl_0 : m.f1.length ≤ 1048576 := (by have h := f_m; unfold fitMail at h; omega)
  have hl_1 : m.f2.length ≤ 1048576 := (by have h := f_m; unfold fitMail at h; omega)
  obtain ⟨k8, hk8, rfl⟩ : ∃ r : Nat, r ≤ 1099511627776 ∧ e = .returned (.int .i64 (r : Int)) := ⟨_, by omega, he⟩
  have nk8 : ¬ (k8 : Int) < 0 := by omega
  have B8 := bel_tch B7 t_ B7.size (fun q hq => by have h1 := hq.1; omega)
  have sz8 := t_.size
  replace HW0_0 := Aside0.mk (R_tch HW0_0.out t_ (fun q hq h => by have h1 := hq.1; have h2 := hq.2; have h3 := h.1; have h4 := h.2; omega))
  replace HW0_1 := Aside0.mk (R_tch HW0_1.out t_ (fun q hq h => by have h1 := hq.1; have h2 := hq.2; have h3 := h.1; have h4 := h.2; omega))
  replace HW0_2 := Aside0.mk (R_tch HW0_2.out t_ (fun q hq h => by have h1 := hq.1; have h2 := hq.2; have h3 := h.1; have h4 := h.2; omega))
  replace HG0_0 := Aside0.mk (R_tch HG0_0.out t_ (fun q hq h => by have h1 := hq.1; have h2 := hq.2; have h3 := h.1; have h4 := h.2; omega))
  replace HG0_1 := Aside0.mk (R_tch HG0_1.out t_ (fun q hq h => by have h1 := hq.1; have h2 := hq.2; have h3 := h.1; have h4 := h.2; omega))
  replace HG0_2 := Aside0.mk (R_tch HG0_2.out t_ (fun q hq h => by have h1 := hq.1; have h2 := hq.2; have h3 := h.1; have h4 := h.2; omega))
  replace Fgw0 := Aside0.mk ((t_.block _ (blk_lt Fgw0.out) (fun h => by have h3 := h.1; have h4 := h.2; omega)).trans Fgw0.out)
  replace FXm := Aside0.mk ((t_.block _ (blk_lt FXm.out) (fun h => by have h3 := h.1; have h4 := h.2; omega)).trans FXm.out)
  replace Fgg0 := Aside0.mk ((t_.block _ (blk_lt Fgg0.out) (fun h => by have h3 := h.1; have h4 := h.2; omega)).trans Fgg0.out)
  clear c0_ c1_ c2_ c3_ zz0_ yFgw0_0 yFgw0_1 yFgw0_2 yFgw0_3 yFgw0_4 yFgw0_5 yFgw0_6 yFgw0_7 lFgw0 yFXm_0 yFXm_1 yFXm_2 yFXm_3 lFXm yFgg0_0 yFgg0_1 yFgg0_2 yFgg0_3 yFgg0_4 yFgg0_5 yFgg0_6 yFgg0_7 lFgg0
  obtain ⟨c0_, c1_, c2_, c3_⟩ := HC.out _ B8
  have zz0_ : w.heap.size < w8.heap.size := Nat.lt_of_lt_of_le Z0 B8.size
  have yFgw0_0 : w8.cell? ⟨w3.heap.size, 0, none⟩ = some (.string M0.f0) := by simp [World.cell?, Fgw0.out]
  have yFgw0_1 : w8.cell? ⟨w3.heap.size, 1, none⟩ = some (.string M0.f1.f0.f0) := by simp [World.cell?, Fgw0.out]
  have yFgw0_2 : w8.cell? ⟨w3.heap.size, 2, none⟩ = some (.string M0.f1.f0.f1) := by simp [World.cell?, Fgw0.out]
  have yFgw0_3 : w8.cell? ⟨w3.heap.size, 3, none⟩ = some (.slice D0_0 M0.f1.f1.length dd0_0) := by simp [World.cell?, Fgw0.out]
  have yFgw0_4 : w8.cell? ⟨w3.heap.size, 4, none⟩ = some (.slice D0_1 M0.f1.f2.length dd0_1) := by simp [World.cell?, Fgw0.out]
  have yFgw0_5 : w8.cell? ⟨w3.heap.size, 5, none⟩ = some (.int .i64 M0.f2) := by simp [World.cell?, Fgw0.out]
  have yFgw0_6 : w8.cell? ⟨w3.heap.size, 6, none⟩ = some (.int .i64 M0.f3) := by simp [World.cell?, Fgw0.out]
  have yFgw0_7 : w8.cell? ⟨w3.heap.size, 7, none⟩ = some (.slice D0_2 M0.f4.length dd0_2) := by simp [World.cell?, Fgw0.out]
  have lFgw0 : w3.heap.size < w8.heap.size := blk_lt Fgw0.out
  have yFXm_0 : w8.cell? ⟨w4.heap.size, 0, none⟩ = some (.string m.f0.f0) := by simp [World.cell?, FXm.out]
  have yFXm_1 : w8.cell? ⟨w4.heap.size, 1, none⟩ = some (.string m.f0.f1) := by simp [World.cell?, FXm.out]
  have yFXm_2 : w8.cell? ⟨w4.heap.size, 2, none⟩ = some (.slice Em0 m.f1.length em0) := by simp [World.cell?, FXm.out]
  have yFXm_3 : w8.cell? ⟨w4.heap.size, 3, none⟩ = some (.slice Em1 m.f2.length em1) := by simp [World.cell?, FXm.out]
  have lFXm : w4.heap.size < w8.heap.size := blk_lt FXm.out
  have yFgg0_0 : w8.cell? ⟨w5.heap.size, 0, none⟩ = some (.string M0.f0) := by simp [World.cell?, Fgg0.out]
  have yFgg0_1 : w8.cell? ⟨w5.heap.size, 1, none⟩ = some (.string M0.f1.f0.f0) := by simp [World.cell?, Fgg0.out]
  have yFgg0_2 : w8.cell? ⟨w5.heap.size, 2, none⟩ = some (.string M0.f1.f0.f1) := by simp [World.cell?, Fgg0.out]
  have yFgg0_3 : w8.cell? ⟨w5.heap.size, 3, none⟩ = some (.slice G0_0 M0.f1.f1.length gd0_0) := by simp [World.cell?, Fgg0.out]
  have yFgg0_4 : w8.cell? ⟨w5.heap.size, 4, none⟩ = some (.slice G0_1 M0.f1.f2.length gd0_1) := by simp [World.cell?, Fgg0.out]
  have yFgg0_5 : w8.cell? ⟨w5.heap.size, 5, none⟩ = some (.int .i64 M0.f2) := by simp [World.cell?, Fgg0.out]
  have yFgg0_6 : w8.cell? ⟨w5.heap.size, 6, none⟩ = some (.int .i64 M0.f3) := by simp [World.cell?, Fgg0.out]
  have yFgg0_7 : w8.cell? ⟨w5.heap.size, 7, none⟩ = some (.slice G0_2 M0.f4.length gd0_2) := by simp [World.cell?, Fgg0.out]
  have lFgg0 : w5.heap.size < w8.heap.size := blk_lt Fgg0.out
  clear he t_ le_ hl_0 hl_1
  clear Xm0 Xm1 FXm
  have hcall := fun (W : World) (hW : Below w8.heap.size w8 W) => eqCli_any M0 G0_0 gd0_0 G0_1 gd0_1 G0_2 gd0_2 D0_0 dd0_0 D0_1 dd0_1 D0_2 dd0_2 W HVF0.out (Kd.C_below (Kd.R_reads' HG0_0.out).2.2 hW) (Kd.C_below (Kd.R_reads' HG0_1.out).2.2 hW) (Kd.C_below (Kd.R_reads' HG0_2.out).2.2 hW) (Kd.C_below (Kd.R_reads' HW0_0.out).2.2 hW) (Kd.C_below (Kd.R_reads' HW0_1.out).2.2 hW) (Kd.C_below (Kd.R_reads' HW0_2.out).2.2 hW)
  go_wp2_with fail
  refine (hcall _ (Below.refl _ _)).mono ?_
  rintro e w9 ⟨rfl, b9⟩
  clear hcall
  have bb9 := bel_then (Below.refl w8.heap.size w8) b9
  have B9 := bel_then B8 bb9
  have sz9 := bb9.size
  replace HW0_0 := Aside0.mk (Kd.R_below HW0_0.out bb9)
  replace HW0_1 := Aside0.mk (Kd.R_below HW0_1.out bb9)
  replace HW0_2 := Aside0.mk (Kd.R_below HW0_2.out bb9)
  replace HG0_0 := Aside0.mk (Kd.R_below HG0_0.out bb9)
  replace HG0_1 := Aside0.mk (Kd.R_below HG0_1.out bb9)
  replace HG0_2 := Aside0.mk (Kd.R_below HG0_2.out bb9)
  replace Fgw0 := Aside0.mk (below_blk Fgw0.out bb9)
  replace Fgg0 := Aside0.mk (below_blk Fgg0.out bb9)
  clear c0_ c1_ c2_ c3_ zz0_ yFgw0_0 yFgw0_1 yFgw0_2 yFgw0_3 yFgw0_4 yFgw0_5 yFgw0_6 yFgw0_7 lFgw0 yFXm_0 yFXm_1 yFXm_2 yFXm_3 lFXm yFgg0_0 yFgg0_1 yFgg0_2 yFgg0_3 yFgg0_4 yFgg0_5 yFgg0_6 yFgg0_7 lFgg0
  obtain ⟨c0_, c1_, c2_, c3_⟩ := HC.out _ B9
  have zz0_ : w.heap.size < w9.heap.size := Nat.lt_of_lt_of_le Z0 B9.size
  have yFgw0_0 : w9.cell? ⟨w3.heap.size, 0, none⟩ = some (.string M0.f0) := by simp [World.cell?, Fgw0.out]
  have yFgw0_1 : w9.cell? ⟨w3.heap.size, 1, none⟩ = some (.string M0.f1.f0.f0) := by simp [World.cell?, Fgw0.out]
  have yFgw0_2 : w9.cell? ⟨w3.heap.size, 2, none⟩ = some (.string M0.f1.f0.f1) := by simp [World.cell?, Fgw0.out]
  have yFgw0_3 : w9.cell? ⟨w3.heap.size, 3, none⟩ = some (.slice D0_0 M0.f1.f1.length dd0_0) := by simp [World.cell?, Fgw0.out]
  have yFgw0_4 : w9.cell? ⟨w3.heap.size, 4, none⟩ = some (.slice D0_1 M0.f1.f2.length dd0_1) := by simp [World.cell?, Fgw0.out]
  have yFgw0_5 : w9.cell? ⟨w3.heap.size, 5, none⟩ = some (.int .i64 M0.f2) := by simp [World.cell?, Fgw0.out]
  have yFgw0_6 : w9.cell? ⟨w3.heap.size, 6, none⟩ = some (.int .i64 M0.f3) := by simp [World.cell?, Fgw0.out]
  have yFgw0_7 : w9.cell? ⟨w3.heap.size, 7, none⟩ = some (.slice D0_2 M0.f4.length dd0_2) := by simp [World.cell?, Fgw0.out]
  have lFgw0 : w3.heap.size < w9.heap.size := blk_lt Fgw0.out
  have yFgg0_0 : w9.cell? ⟨w5.heap.size, 0, none⟩ = some (.string M0.f0) := by simp [World.cell?, Fgg0.out]
  have yFgg0_1 : w9.cell? ⟨w5.heap.size, 1, none⟩ = some (.string M0.f1.f0.f0) := by simp [World.cell?, Fgg0.out]
  have yFgg0_2 : w9.cell? ⟨w5.heap.size, 2, none⟩ = some (.string M0.f1.f0.f1) := by simp [World.cell?, Fgg0.out]
  have yFgg0_3 : w9.cell? ⟨w5.heap.size, 3, none⟩ = some (.slice G0_0 M0.f1.f1.length gd0_0) := by simp [World.cell?, Fgg0.out]
  have yFgg0_4 : w9.cell? ⟨w5.heap.size, 4, none⟩ = some (.slice G0_1 M0.f1.f2.length gd0_1) := by simp [World.cell?, Fgg0.out]
  have yFgg0_5 : w9.cell? ⟨w5.heap.size, 5, none⟩ = some (.int .i64 M0.f2) := by simp [World.cell?, Fgg0.out]
  have yFgg0_6 : w9.cell? ⟨w5.heap.size, 6, none⟩ = some (.int .i64 M0.f3) := by simp [World.cell?, Fgg0.out]
  have yFgg0_7 : w9.cell? ⟨w5.heap.size, 7, none⟩ = some (.slice G0_2 M0.f4.length gd0_2) := by simp [World.cell?, Fgg0.out]
  have lFgg0 : w5.heap.size < w9.heap.size := blk_lt Fgg0.out
  clear b9 bb9
  have hl0_0 : M0.f1.f1.length ≤ 1048576 := (by have h := HVF0.out; unfold fitCli fitMail at h; omega)
  have hl0_1 : M0.f1.f2.length ≤ 1048576 := (by have h := HVF0.out; unfold fitCli fitMail at h; omega)
  have hl0_2 : M0.f4.length ≤ 1048576 := (by have h := HVF0.out; unfold fitCli fitMail at h; omega)
  go_wp2_with fail
  refine (calls_at (a := 1) rfl (markCli_any M0 G0_0 gd0_0 G0_1 gd0_1 G0_2 gd0_2 1 _ _ _ HVF0.out HG0_0.out HG0_1.out HG0_2.out (by omega))).mono ?_
  rintro e w10 ⟨he, le_, m_0, m_1, m_2, t_⟩
  obtain ⟨m10, hm10, rfl⟩ : ∃ r : Nat, r = 1 + 2 * M0.f1.f1.length + 1 * M0.f1.f2.length + 1 * M0.f4.length ∧ e = .returned (.int .i64 (r : Int)) := ⟨_, rfl, he⟩
  have hb10 : m10 ≤ 1099511627776 := by omega
  have nk10 : ¬ (m10 : Int) < 0 := by omega
  have RV0 := Lib.hid hm10
  clear hm10
  have B10 := bel_tch B9 t_ B9.size (fun q hq => by have h1 := hq.1; omega)
  have sz10 := t_.size
  replace HW0_0 := Aside0.mk (R_tch HW0_0.out t_ (fun q hq h => by have h1 := hq.1; have h2 := hq.2; have h3 := h.1; have h4 := h.2; omega))
  replace HW0_1 := Aside0.mk (R_tch HW0_1.out t_ (fun q hq h => by have h1 := hq.1; have h2 := hq.2; have h3 := h.1; have h4 := h.2; omega))
  replace HW0_2 := Aside0.mk (R_tch HW0_2.out t_ (fun q hq h => by have h1 := hq.1; have h2 := hq.2; have h3 := h.1; have h4 := h.2; omega))
  replace Fgw0 := Aside0.mk ((t_.block _ (blk_lt Fgw0.out) (fun h => by have h3 := h.1; have h4 := h.2; omega)).trans Fgw0.out)
  replace Fgg0 := Aside0.mk ((t_.block _ (blk_lt Fgg0.out) (fun h => by have h3 := h.1; have h4 := h.2; omega)).trans Fgg0.out)
  clear c0_ c1_ c2_ c3_ zz0_ yFgw0_0 yFgw0_1 yFgw0_2 yFgw0_3 yFgw0_4 yFgw0_5 yFgw0_6 yFgw0_7 lFgw0 yFgg0_0 yFgg0_1 yFgg0_2 yFgg0_3 yFgg0_4 yFgg0_5 yFgg0_6 yFgg0_7 lFgg0
  obtain ⟨c0_, c1_, c2_, c3_⟩ := HC.out _ B10
  have zz0_ : w.heap.size < w10.heap.size := Nat.lt_of_lt_of_le Z0 B10.size
  have yFgw0_0 : w10.cell? ⟨w3.heap.size, 0, none⟩ = some (.string M0.f0) := by simp [World.cell?, Fgw0.out]
  have yFgw0_1 : w10.cell? ⟨w3.heap.size, 1, none⟩ = some (.string M0.f1.f0.f0) := by simp [World.cell?, Fgw0.out]
  have yFgw0_2 : w10.cell? ⟨w3.heap.size, 2, none⟩ = some (.string M0.f1.f0.f1) := by simp [World.cell?, Fgw0.out]
  have yFgw0_3 : w10.cell? ⟨w3.heap.size, 3, none⟩ = some (.slice D0_0 M0.f1.f1.length dd0_0) := by simp [World.cell?, Fgw0.out]
  have yFgw0_4 : w10.cell? ⟨w3.heap.size, 4, none⟩ = some (.slice D0_1 M0.f1.f2.length dd0_1) := by simp [World.cell?, Fgw0.out]
  have yFgw0_5 : w10.cell? ⟨w3.heap.size, 5, none⟩ = some (.int .i64 M0.f2) := by simp [World.cell?, Fgw0.out]
  have yFgw0_6 : w10.cell? ⟨w3.heap.size, 6, none⟩ = some (.int .i64 M0.f3) := by simp [World.cell?, Fgw0.out]
  have yFgw0_7 : w10.cell? ⟨w3.heap.size, 7, none⟩ = some (.slice D0_2 M0.f4.length dd0_2) := by simp [World.cell?, Fgw0.out]
  have lFgw0 : w3.heap.size < w10.heap.size := blk_lt Fgw0.out
  have yFgg0_0 : w10.cell? ⟨w5.heap.size, 0, none⟩ = some (.string M0.f0) := by simp [World.cell?, Fgg0.out]
  have yFgg0_1 : w10.cell? ⟨w5.heap.size, 1, none⟩ = some (.string M0.f1.f0.f0) := by simp [World.cell?, Fgg0.out]
  have yFgg0_2 : w10.cell? ⟨w5.heap.size, 2, none⟩ = some (.string M0.f1.f0.f1) := by simp [World.cell?, Fgg0.out]
  have yFgg0_3 : w10.cell? ⟨w5.heap.size, 3, none⟩ = some (.slice G0_0 M0.f1.f1.length gd0_0) := by simp [World.cell?, Fgg0.out]
  have yFgg0_4 : w10.cell? ⟨w5.heap.size, 4, none⟩ = some (.slice G0_1 M0.f1.f2.length gd0_1) := by simp [World.cell?, Fgg0.out]
  have yFgg0_5 : w10.cell? ⟨w5.heap.size, 5, none⟩ = some (.int .i64 M0.f2) := by simp [World.cell?, Fgg0.out]
  have yFgg0_6 : w10.cell? ⟨w5.heap.size, 6, none⟩ = some (.int .i64 M0.f3) := by simp [World.cell?, Fgg0.out]
  have yFgg0_7 : w10.cell? ⟨w5.heap.size, 7, none⟩ = some (.slice G0_2 M0.f4.length gd0_2) := by simp [World.cell?, Fgg0.out]
  have lFgg0 : w5.heap.size < w10.heap.size := blk_lt Fgg0.out
  replace HG0_0 := Aside0.mk m_0
  replace HG0_1 := Aside0.mk m_1
  replace HG0_2 := Aside0.mk m_2
  clear he t_ m_0 m_1 m_2 le_
  have hC0 := (Kd.R_reads' HG0_0.out).2.2
  rw [mksAddr_length] at hC0
  have hC1 := (Kd.R_reads' HG0_1.out).2.2
  rw [mksString_length] at hC1
  have hC2 := (Kd.R_reads' HG0_2.out).2.2
  rw [mksInt_length] at hC2
  have hcall := fun (W : World) (hW : Below w10.heap.size w10 W) => calls_at (a := 1) rfl (heldCli_any M0 G0_0 gd0_0 G0_1 gd0_1 G0_2 gd0_2 1 W hl0_0 hl0_1 hl0_2 (Kd.C_below hC0 hW) (Kd.C_below hC1 hW) (Kd.C_below hC2 hW) (by omega))
  go_wp2_with fail
  refine (hcall _ (Below.refl _ _)).mono ?_
  rintro e w11 ⟨he, b11⟩
  clear hcall
  obtain rfl : e = .returned (.int .i64 (m10 : Int)) := by rw [he, RV0.out]
  have bb11 := bel_then (Below.refl w10.heap.size w10) b11
  have B11 := bel_then B10 bb11
  have sz11 := bb11.size
  replace HW0_0 := Aside0.mk (Kd.R_below HW0_0.out bb11)
  replace HW0_1 := Aside0.mk (Kd.R_below HW0_1.out bb11)
  replace HW0_2 := Aside0.mk (Kd.R_below HW0_2.out bb11)
  replace HG0_0 := Aside0.mk (Kd.R_below HG0_0.out bb11)
  replace HG0_1 := Aside0.mk (Kd.R_below HG0_1.out bb11)
  replace HG0_2 := Aside0.mk (Kd.R_below HG0_2.out bb11)
  replace Fgw0 := Aside0.mk (below_blk Fgw0.out bb11)
  replace Fgg0 := Aside0.mk (below_blk Fgg0.out bb11)
  clear c0_ c1_ c2_ c3_ zz0_ yFgw0_0 yFgw0_1 yFgw0_2 yFgw0_3 yFgw0_4 yFgw0_5 yFgw0_6 yFgw0_7 lFgw0 yFgg0_0 yFgg0_1 yFgg0_2 yFgg0_3 yFgg0_4 yFgg0_5 yFgg0_6 yFgg0_7 lFgg0
  obtain ⟨c0_, c1_, c2_, c3_⟩ := HC.out _ B11
  have zz0_ : w.heap.size < w11.heap.size := Nat.lt_of_lt_of_le Z0 B11.size
  have yFgw0_0 : w11.cell? ⟨w3.heap.size, 0, none⟩ = some (.string M0.f0) := by simp [World.cell?, Fgw0.out]
  have yFgw0_1 : w11.cell? ⟨w3.heap.size, 1, none⟩ = some (.string M0.f1.f0.f0) := by simp [World.cell?, Fgw0.out]
  have yFgw0_2 : w11.cell? ⟨w3.heap.size, 2, none⟩ = some (.string M0.f1.f0.f1) := by simp [World.cell?, Fgw0.out]
  have yFgw0_3 : w11.cell? ⟨w3.heap.size, 3, none⟩ = some (.slice D0_0 M0.f1.f1.length dd0_0) := by simp [World.cell?, Fgw0.out]
  have yFgw0_4 : w11.cell? ⟨w3.heap.size, 4, none⟩ = some (.slice D0_1 M0.f1.f2.length dd0_1) := by simp [World.cell?, Fgw0.out]
  have yFgw0_5 : w11.cell? ⟨w3.heap.size, 5, none⟩ = some (.int .i64 M0.f2) := by simp [World.cell?, Fgw0.out]
  have yFgw0_6 : w11.cell? ⟨w3.heap.size, 6, none⟩ = some (.int .i64 M0.f3) := by simp [World.cell?, Fgw0.out]
  have yFgw0_7 : w11.cell? ⟨w3.heap.size, 7, none⟩ = some (.slice D0_2 M0.f4.length dd0_2) := by simp [World.cell?, Fgw0.out]
  have lFgw0 : w3.heap.size < w11.heap.size := blk_lt Fgw0.out
  have yFgg0_0 : w11.cell? ⟨w5.heap.size, 0, none⟩ = some (.string M0.f0) := by simp [World.cell?, Fgg0.out]
  have yFgg0_1 : w11.cell? ⟨w5.heap.size, 1, none⟩ = some (.string M0.f1.f0.f0) := by simp [World.cell?, Fgg0.out]
  have yFgg0_2 : w11.cell? ⟨w5.heap.size, 2, none⟩ = some (.string M0.f1.f0.f1) := by simp [World.cell?, Fgg0.out]
  have yFgg0_3 : w11.cell? ⟨w5.heap.size, 3, none⟩ = some (.slice G0_0 M0.f1.f1.length gd0_0) := by simp [World.cell?, Fgg0.out]
  have yFgg0_4 : w11.cell? ⟨w5.heap.size, 4, none⟩ = some (.slice G0_1 M0.f1.f2.length gd0_1) := by simp [World.cell?, Fgg0.out]
  have yFgg0_5 : w11.cell? ⟨w5.heap.size, 5, none⟩ = some (.int .i64 M0.f2) := by simp [World.cell?, Fgg0.out]
  have yFgg0_6 : w11.cell? ⟨w5.heap.size, 6, none⟩ = some (.int .i64 M0.f3) := by simp [World.cell?, Fgg0.out]
  have yFgg0_7 : w11.cell? ⟨w5.heap.size, 7, none⟩ = some (.slice G0_2 M0.f4.length gd0_2) := by simp [World.cell?, Fgg0.out]
  have lFgg0 : w5.heap.size < w11.heap.size := blk_lt Fgg0.out
  clear he b11 bb11 hC0 hC1 hC2
  have hcall := fun (W : World) (hW : Below w11.heap.size w11 W) => hto_m W (bel_then HB0.out (bel_then B11 hW)) f_m
  go_wp2_with fail
  refine (hcall _ (Below.refl _ _)).mono ?_
  rintro e w12 ⟨Qm0, qm0, Qm1, qm1, rfl, gq_m0, gq_m1, b12⟩
  clear hcall
  have bb12 := bel_then (Below.refl w11.heap.size w11) b12
  have B12 := bel_then B11 bb12
  have sz12 := bb12.size
  replace HW0_0 := Aside0.mk (Kd.R_below HW0_0.out bb12)
  replace HW0_1 := Aside0.mk (Kd.R_below HW0_1.out bb12)
  replace HW0_2 := Aside0.mk (Kd.R_below HW0_2.out bb12)
  replace HG0_0 := Aside0.mk (Kd.R_below HG0_0.out bb12)
  replace HG0_1 := Aside0.mk (Kd.R_below HG0_1.out bb12)
  replace HG0_2 := Aside0.mk (Kd.R_below HG0_2.out bb12)
  replace Fgw0 := Aside0.mk (below_blk Fgw0.out bb12)
  replace Fgg0 := Aside0.mk (below_blk Fgg0.out bb12)
  clear c0_ c1_ c2_ c3_ zz0_ yFgw0_0 yFgw0_1 yFgw0_2 yFgw0_3 yFgw0_4 yFgw0_5 yFgw0_6 yFgw0_7 lFgw0 yFgg0_0 yFgg0_1 yFgg0_2 yFgg0_3 yFgg0_4 yFgg0_5 yFgg0_6 yFgg0_7 lFgg0
  obtain ⟨c0_, c1_, c2_, c3_⟩ := HC.out _ B12
  have zz0_ : w.heap.size < w12.heap.size := Nat.lt_of_lt_of_le Z0 B12.size
  have yFgw0_0 : w12.cell? ⟨w3.heap.size, 0, none⟩ = some (.string M0.f0) := by simp [World.cell?, Fgw0.out]
  have yFgw0_1 : w12.cell? ⟨w3.heap.size, 1, none⟩ = some (.string M0.f1.f0.f0) := by simp [World.cell?, Fgw0.out]
  have yFgw0_2 : w12.cell? ⟨w3.heap.size, 2, none⟩ = some (.string M0.f1.f0.f1) := by simp [World.cell?, Fgw0.out]
  have yFgw0_3 : w12.cell? ⟨w3.heap.size, 3, none⟩ = some (.slice D0_0 M0.f1.f1.length dd0_0) := by simp [World.cell?, Fgw0.out]
  have yFgw0_4 : w12.cell? ⟨w3.heap.size, 4, none⟩ = some (.slice D0_1 M0.f1.f2.length dd0_1) := by simp [World.cell?, Fgw0.out]
  have yFgw0_5 : w12.cell? ⟨w3.heap.size, 5, none⟩ = some (.int .i64 M0.f2) := by simp [World.cell?, Fgw0.out]
  have yFgw0_6 : w12.cell? ⟨w3.heap.size, 6, none⟩ = some (.int .i64 M0.f3) := by simp [World.cell?, Fgw0.out]
  have yFgw0_7 : w12.cell? ⟨w3.heap.size, 7, none⟩ = some (.slice D0_2 M0.f4.length dd0_2) := by simp [World.cell?, Fgw0.out]
  have lFgw0 : w3.heap.size < w12.heap.size := blk_lt Fgw0.out
  have yFgg0_0 : w12.cell? ⟨w5.heap.size, 0, none⟩ = some (.string M0.f0) := by simp [World.cell?, Fgg0.out]
  have yFgg0_1 : w12.cell? ⟨w5.heap.size, 1, none⟩ = some (.string M0.f1.f0.f0) := by simp [World.cell?, Fgg0.out]
  have yFgg0_2 : w12.cell? ⟨w5.heap.size, 2, none⟩ = some (.string M0.f1.f0.f1) := by simp [World.cell?, Fgg0.out]
  have yFgg0_3 : w12.cell? ⟨w5.heap.size, 3, none⟩ = some (.slice G0_0 M0.f1.f1.length gd0_0) := by simp [World.cell?, Fgg0.out]
  have yFgg0_4 : w12.cell? ⟨w5.heap.size, 4, none⟩ = some (.slice G0_1 M0.f1.f2.length gd0_1) := by simp [World.cell?, Fgg0.out]
  have yFgg0_5 : w12.cell? ⟨w5.heap.size, 5, none⟩ = some (.int .i64 M0.f2) := by simp [World.cell?, Fgg0.out]
  have yFgg0_6 : w12.cell? ⟨w5.heap.size, 6, none⟩ = some (.int .i64 M0.f3) := by simp [World.cell?, Fgg0.out]
  have yFgg0_7 : w12.cell? ⟨w5.heap.size, 7, none⟩ = some (.slice G0_2 M0.f4.length gd0_2) := by simp [World.cell?, Fgg0.out]
  have lFgg0 : w5.heap.size < w12.heap.size := blk_lt Fgg0.out
  have Tm0 := Aside0.mk gq_m0
  clear gq_m0
  have Tm1 := Aside0.mk gq_m1
  clear gq_m1
  clear b12 bb12
  have hcall := fun (W : World) (hW : Below w12.heap.size w12 W) => cliNew_any name m Qm0 qm0 Qm1 qm1 W f_name f_m (Kd.C_below (Kd.R_reads' Tm0.out).2.2 hW) (Kd.C_below (Kd.R_reads' Tm1.out).2.2 hW) (HG.out.below (bel_then HB0.out (bel_then B12 hW)))
  simp only [HV0.out] at hcall
  go_wp2_with fail
  refine (hcall _ (Below.refl _ _)).mono ?_
  rintro e w13 ⟨H0_0, hd0_0, H0_1, hd0_1, H0_2, hd0_2, rfl, gu0_0, gu0_1, gu0_2, b13⟩
  clear hcall
  clear Tm0 Tm1
  have lo13 : w12.heap.size ≤ w13.heap.size := by have := b13.size; (try simp at this); omega
  have HH0_0 := Aside0.mk (Kd.R_mono (Kd.R_bound gu0_0) (ok' := (fun q => w12.heap.size ≤ q ∧ q < w13.heap.size)) (fun q hq => ⟨by have h2 := hq.2.1; (try simp at h2); omega, hq.2.2.1⟩))
  clear gu0_0
  have HH0_1 := Aside0.mk (Kd.R_mono (Kd.R_bound gu0_1) (ok' := (fun q => w12.heap.size ≤ q ∧ q < w13.heap.size)) (fun q hq => ⟨by have h2 := hq.2.1; (try simp at h2); omega, hq.2.2.1⟩))
  clear gu0_1
  have HH0_2 := Aside0.mk (Kd.R_mono (Kd.R_bound gu0_2) (ok' := (fun q => w12.heap.size ≤ q ∧ q < w13.heap.size)) (fun q hq => ⟨by have h2 := hq.2.1; (try simp at h2); omega, hq.2.2.1⟩))
  clear gu0_2
  have bb13 := bel_then (Below.refl w12.heap.size w12) b13
  have B13 := bel_then B12 bb13
  have sz13 := bb13.size
  replace HW0_0 := Aside0.mk (Kd.R_below HW0_0.out bb13)
  replace HW0_1 := Aside0.mk (Kd.R_below HW0_1.out bb13)
  replace HW0_2 := Aside0.mk (Kd.R_below HW0_2.out bb13)
  replace HG0_0 := Aside0.mk (Kd.R_below HG0_0.out bb13)
  replace HG0_1 := Aside0.mk (Kd.R_below HG0_1.out bb13)
  replace HG0_2 := Aside0.mk (Kd.R_below HG0_2.out bb13)
  replace Fgw0 := Aside0.mk (below_blk Fgw0.out bb13)
  replace Fgg0 := Aside0.mk (below_blk Fgg0.out bb13)
  clear c0_ c1_ c2_ c3_ zz0_ yFgw0_0 yFgw0_1 yFgw0_2 yFgw0_3 yFgw0_4 yFgw0_5 yFgw0_6 yFgw0_7 lFgw0 yFgg0_0 yFgg0_1 yFgg0_2 yFgg0_3 yFgg0_4 yFgg0_5 yFgg0_6 yFgg0_7 lFgg0
  obtain ⟨c0_, c1_, c2_, c3_⟩ := HC.out _ B13
  have zz0_ : w.heap.size < w13.heap.size := Nat.lt_of_lt_of_le Z0 B13.size
  have yFgw0_0 : w13.cell? ⟨w3.heap.size, 0, none⟩ = some (.string M0.f0) := by simp [World.cell?, Fgw0.out]
  have yFgw0_1 : w13.cell? ⟨w3.heap.size, 1, none⟩ = some (.string M0.f1.f0.f0) := by simp [World.cell?, Fgw0.out]
  have yFgw0_2 : w13.cell? ⟨w3.heap.size, 2, none⟩ = some (.string M0.f1.f0.f1) := by simp [World.cell?, Fgw0.out]
  have yFgw0_3 : w13.cell? ⟨w3.heap.size, 3, none⟩ = some (.slice D0_0 M0.f1.f1.length dd0_0) := by simp [World.cell?, Fgw0.out]
  have yFgw0_4 : w13.cell? ⟨w3.heap.size, 4, none⟩ = some (.slice D0_1 M0.f1.f2.length dd0_1) := by simp [World.cell?, Fgw0.out]
  have yFgw0_5 : w13.cell? ⟨w3.heap.size, 5, none⟩ = some (.int .i64 M0.f2) := by simp [World.cell?, Fgw0.out]
  have yFgw0_6 : w13.cell? ⟨w3.heap.size, 6, none⟩ = some (.int .i64 M0.f3) := by simp [World.cell?, Fgw0.out]
  have yFgw0_7 : w13.cell? ⟨w3.heap.size, 7, none⟩ = some (.slice D0_2 M0.f4.length dd0_2) := by simp [World.cell?, Fgw0.out]
  have lFgw0 : w3.heap.size < w13.heap.size := blk_lt Fgw0.out
  have yFgg0_0 : w13.cell? ⟨w5.heap.size, 0, none⟩ = some (.string M0.f0) := by simp [World.cell?, Fgg0.out]
  have yFgg0_1 : w13.cell? ⟨w5.heap.size, 1, none⟩ = some (.string M0.f1.f0.f0) := by simp [World.cell?, Fgg0.out]
  have yFgg0_2 : w13.cell? ⟨w5.heap.size, 2, none⟩ = some (.string M0.f1.f0.f1) := by simp [World.cell?, Fgg0.out]
  have yFgg0_3 : w13.cell? ⟨w5.heap.size, 3, none⟩ = some (.slice G0_0 M0.f1.f1.length gd0_0) := by simp [World.cell?, Fgg0.out]
  have yFgg0_4 : w13.cell? ⟨w5.heap.size, 4, none⟩ = some (.slice G0_1 M0.f1.f2.length gd0_1) := by simp [World.cell?, Fgg0.out]
  have yFgg0_5 : w13.cell? ⟨w5.heap.size, 5, none⟩ = some (.int .i64 M0.f2) := by simp [World.cell?, Fgg0.out]
  have yFgg0_6 : w13.cell? ⟨w5.heap.size, 6, none⟩ = some (.int .i64 M0.f3) := by simp [World.cell?, Fgg0.out]
  have yFgg0_7 : w13.cell? ⟨w5.heap.size, 7, none⟩ = some (.slice G0_2 M0.f4.length gd0_2) := by simp [World.cell?, Fgg0.out]
  have lFgg0 : w5.heap.size < w13.heap.size := blk_lt Fgg0.out
  clear b13 bb13
  have hcall := fun (W : World) (hW : Below w13.heap.size w13 W) => eqCli_any M0 H0_0 hd0_0 H0_1 hd0_1 H0_2 hd0_2 D0_0 dd0_0 D0_1 dd0_1 D0_2 dd0_2 W HVF0.out (Kd.C_below (Kd.R_reads' HH0_0.out).2.2 hW) (Kd.C_below (Kd.R_reads' HH0_1.out).2.2 hW) (Kd.C_below (Kd.R_reads' HH0_2.out).2.2 hW) (Kd.C_below (Kd.R_reads' HW0_0.out).2.2 hW) (Kd.C_below (Kd.R_reads' HW0_1.out).2.2 hW) (Kd.C_below (Kd.R_reads' HW0_2.out).2.2 hW)
  go_wp2_with fail
  refine (hcall _ (bel_alloc (Below.refl _ _) _)).mono ?_
  rintro e w14 ⟨rfl, b14⟩
  clear hcall
  have bb14 := bel_then (bel_alloc (Below.refl w13.heap.size w13) _) b14
  have B14 := bel_then B13 bb14
  have sz14 := bb14.size
  replace HW0_0 := Aside0.mk (Kd.R_below HW0_0.out bb14)
  replace HW0_1 := Aside0.mk (Kd.R_below HW0_1.out bb14)
  replace HW0_2 := Aside0.mk (Kd.R_below HW0_2.out bb14)
  replace HG0_0 := Aside0.mk (Kd.R_below HG0_0.out bb14)
  replace HG0_1 := Aside0.mk (Kd.R_below HG0_1.out bb14)
  replace HG0_2 := Aside0.mk (Kd.R_below HG0_2.out bb14)
  replace HH0_0 := Aside0.mk (Kd.R_below HH0_0.out bb14)
  replace HH0_1 := Aside0.mk (Kd.R_below HH0_1.out bb14)
  replace HH0_2 := Aside0.mk (Kd.R_below HH0_2.out bb14)
  replace Fgw0 := Aside0.mk (below_blk Fgw0.out bb14)
  replace Fgg0 := Aside0.mk (below_blk Fgg0.out bb14)
  have Fgh0 := Aside0.mk (below_blk (blk_new w13 (.cells #[.string M0.f0, .string M0.f1.f0.f0, .string M0.f1.f0.f1, .slice H0_0 M0.f1.f1.length hd0_0, .slice H0_1 M0.f1.f2.length hd0_1, .int .i64 M0.f2, .int .i64 M0.f3, .slice H0_2 M0.f4.length hd0_2] 52)) b14)
  clear c0_ c1_ c2_ c3_ zz0_ yFgw0_0 yFgw0_1 yFgw0_2 yFgw0_3 yFgw0_4 yFgw0_5 yFgw0_6 yFgw0_7 lFgw0 yFgg0_0 yFgg0_1 yFgg0_2 yFgg0_3 yFgg0_4 yFgg0_5 yFgg0_6 yFgg0_7 lFgg0
  obtain ⟨c0_, c1_, c2_, c3_⟩ := HC.out _ B14
  have zz0_ : w.heap.size < w14.heap.size := Nat.lt_of_lt_of_le Z0 B14.size
  have yFgw0_0 : w14.cell? ⟨w3.heap.size, 0, none⟩ = some (.string M0.f0) := by simp [World.cell?, Fgw0.out]
  have yFgw0_1 : w14.cell? ⟨w3.heap.size, 1, none⟩ = some (.string M0.f1.f0.f0) := by simp [World.cell?, Fgw0.out]
  have yFgw0_2 : w14.cell? ⟨w3.heap.size, 2, none⟩ = some (.string M0.f1.f0.f1) := by simp [World.cell?, Fgw0.out]
  have yFgw0_3 : w14.cell? ⟨w3.heap.size, 3, none⟩ = some (.slice D0_0 M0.f1.f1.length dd0_0) := by simp [World.cell?, Fgw0.out]
  have yFgw0_4 : w14.cell? ⟨w3.heap.size, 4, none⟩ = some (.slice D0_1 M0.f1.f2.length dd0_1) := by simp [World.cell?, Fgw0.out]
  have yFgw0_5 : w14.cell? ⟨w3.heap.size, 5, none⟩ = some (.int .i64 M0.f2) := by simp [World.cell?, Fgw0.out]
  have yFgw0_6 : w14.cell? ⟨w3.heap.size, 6, none⟩ = some (.int .i64 M0.f3) := by simp [World.cell?, Fgw0.out]
  have yFgw0_7 : w14.cell? ⟨w3.heap.size, 7, none⟩ = some (.slice D0_2 M0.f4.length dd0_2) := by simp [World.cell?, Fgw0.out]
  have lFgw0 : w3.heap.size < w14.heap.size := blk_lt Fgw0.out
  have yFgg0_0 : w14.cell? ⟨w5.heap.size, 0, none⟩ = some (.string M0.f0) := by simp [World.cell?, Fgg0.out]
  have yFgg0_1 : w14.cell? ⟨w5.heap.size, 1, none⟩ = some (.string M0.f1.f0.f0) := by simp [World.cell?, Fgg0.out]
  have yFgg0_2 : w14.cell? ⟨w5.heap.size, 2, none⟩ = some (.string M0.f1.f0.f1) := by simp [World.cell?, Fgg0.out]
  have yFgg0_3 : w14.cell? ⟨w5.heap.size, 3, none⟩ = some (.slice G0_0 M0.f1.f1.length gd0_0) := by simp [World.cell?, Fgg0.out]
  have yFgg0_4 : w14.cell? ⟨w5.heap.size, 4, none⟩ = some (.slice G0_1 M0.f1.f2.length gd0_1) := by simp [World.cell?, Fgg0.out]
  have yFgg0_5 : w14.cell? ⟨w5.heap.size, 5, none⟩ = some (.int .i64 M0.f2) := by simp [World.cell?, Fgg0.out]
  have yFgg0_6 : w14.cell? ⟨w5.heap.size, 6, none⟩ = some (.int .i64 M0.f3) := by simp [World.cell?, Fgg0.out]
  have yFgg0_7 : w14.cell? ⟨w5.heap.size, 7, none⟩ = some (.slice G0_2 M0.f4.length gd0_2) := by simp [World.cell?, Fgg0.out]
  have lFgg0 : w5.heap.size < w14.heap.size := blk_lt Fgg0.out
  have yFgh0_0 : w14.cell? ⟨w13.heap.size, 0, none⟩ = some (.string M0.f0) := by simp [World.cell?, Fgh0.out]
  have yFgh0_1 : w14.cell? ⟨w13.heap.size, 1, none⟩ = some (.string M0.f1.f0.f0) := by simp [World.cell?, Fgh0.out]
  have yFgh0_2 : w14.cell? ⟨w13.heap.size, 2, none⟩ = some (.string M0.f1.f0.f1) := by simp [World.cell?, Fgh0.out]
  have yFgh0_3 : w14.cell? ⟨w13.heap.size, 3, none⟩ = some (.slice H0_0 M0.f1.f1.length hd0_0) := by simp [World.cell?, Fgh0.out]
  have yFgh0_4 : w14.cell? ⟨w13.heap.size, 4, none⟩ = some (.slice H0_1 M0.f1.f2.length hd0_1) := by simp [World.cell?, Fgh0.out]
  have yFgh0_5 : w14.cell? ⟨w13.heap.size, 5, none⟩ = some (.int .i64 M0.f2) := by simp [World.cell?, Fgh0.out]
  have yFgh0_6 : w14.cell? ⟨w13.heap.size, 6, none⟩ = some (.int .i64 M0.f3) := by simp [World.cell?, Fgh0.out]
  have yFgh0_7 : w14.cell? ⟨w13.heap.size, 7, none⟩ = some (.slice H0_2 M0.f4.length hd0_2) := by simp [World.cell?, Fgh0.out]
  have lFgh0 : w13.heap.size < w14.heap.size := blk_lt Fgh0.out
  clear b14 bb14
  have hC0 := (Kd.R_reads' HG0_0.out).2.2
  rw [mksAddr_length] at hC0
  have hC1 := (Kd.R_reads' HG0_1.out).2.2
  rw [mksString_length] at hC1
  have hC2 := (Kd.R_reads' HG0_2.out).2.2
  rw [mksInt_length] at hC2
  have hcall := fun (W : World) (hW : Below w14.heap.size w14 W) => calls_at (a := 1) rfl (heldCli_any M0 G0_0 gd0_0 G0_1 gd0_1 G0_2 gd0_2 1 W hl0_0 hl0_1 hl0_2 (Kd.C_below hC0 hW) (Kd.C_below hC1 hW) (Kd.C_below hC2 hW) (by omega))
  go_wp2_with fail
  refine (hcall _ (Below.refl _ _)).mono ?_
  rintro e w15 ⟨he, b15⟩
  clear hcall
  obtain rfl : e = .returned (.int .i64 (m10 : Int)) := by rw [he, RV0.out]
  have bb15 := bel_then (Below.refl w14.heap.size w14) b15
  have B15 := bel_then B14 bb15
  have sz15 := bb15.size
  replace HW0_0 := Aside0.mk (Kd.R_below HW0_0.out bb15)
  replace HW0_1 := Aside0.mk (Kd.R_below HW0_1.out bb15)
  replace HW0_2 := Aside0.mk (Kd.R_below HW0_2.out bb15)
  replace HG0_0 := Aside0.mk (Kd.R_below HG0_0.out bb15)
  replace HG0_1 := Aside0.mk (Kd.R_below HG0_1.out bb15)
  replace HG0_2 := Aside0.mk (Kd.R_below HG0_2.out bb15)
  replace HH0_0 := Aside0.mk (Kd.R_below HH0_0.out bb15)
  replace HH0_1 := Aside0.mk (Kd.R_below HH0_1.out bb15)
  replace HH0_2 := Aside0.mk (Kd.R_below HH0_2.out bb15)
  replace Fgw0 := Aside0.mk (below_blk Fgw0.out bb15)
  replace Fgg0 := Aside0.mk (below_blk Fgg0.out bb15)
  replace Fgh0 := Aside0.mk (below_blk Fgh0.out bb15)
  clear c0_ c1_ c2_ c3_ zz0_ yFgw0_0 yFgw0_1 yFgw0_2 yFgw0_3 yFgw0_4 yFgw0_5 yFgw0_6 yFgw0_7 lFgw0 yFgg0_0 yFgg0_1 yFgg0_2 yFgg0_3 yFgg0_4 yFgg0_5 yFgg0_6 yFgg0_7 lFgg0 yFgh0_0 yFgh0_1 yFgh0_2 yFgh0_3 yFgh0_4 yFgh0_5 yFgh0_6 yFgh0_7 lFgh0
  obtain ⟨c0_, c1_, c2_, c3_⟩ := HC.out _ B15
  have zz0_ : w.heap.size < w15.heap.size := Nat.lt_of_lt_of_le Z0 B15.size
  have yFgw0_0 : w15.cell? ⟨w3.heap.size, 0, none⟩ = some (.string M0.f0) := by simp [World.cell?, Fgw0.out]
  have yFgw0_1 : w15.cell? ⟨w3.heap.size, 1, none⟩ = some (.string M0.f1.f0.f0) := by simp [World.cell?, Fgw0.out]
  have yFgw0_2 : w15.cell? ⟨w3.heap.size, 2, none⟩ = some (.string M0.f1.f0.f1) := by simp [World.cell?, Fgw0.out]
  have yFgw0_3 : w15.cell? ⟨w3.heap.size, 3, none⟩ = some (.slice D0_0 M0.f1.f1.length dd0_0) := by simp [World.cell?, Fgw0.out]
  have yFgw0_4 : w15.cell? ⟨w3.heap.size, 4, none⟩ = some (.slice D0_1 M0.f1.f2.length dd0_1) := by simp [World.cell?, Fgw0.out]
  have yFgw0_5 : w15.cell? ⟨w3.heap.size, 5, none⟩ = some (.int .i64 M0.f2) := by simp [World.cell?, Fgw0.out]
  have yFgw0_6 : w15.cell? ⟨w3.heap.size, 6, none⟩ = some (.int .i64 M0.f3) := by simp [World.cell?, Fgw0.out]
  have yFgw0_7 : w15.cell? ⟨w3.heap.size, 7, none⟩ = some (.slice D0_2 M0.f4.length dd0_2) := by simp [World.cell?, Fgw0.out]
  have lFgw0 : w3.heap.size < w15.heap.size := blk_lt Fgw0.out
  have yFgg0_0 : w15.cell? ⟨w5.heap.size, 0, none⟩ = some (.string M0.f0) := by simp [World.cell?, Fgg0.out]
  have yFgg0_1 : w15.cell? ⟨w5.heap.size, 1, none⟩ = some (.string M0.f1.f0.f0) := by simp [World.cell?, Fgg0.out]
  have yFgg0_2 : w15.cell? ⟨w5.heap.size, 2, none⟩ = some (.string M0.f1.f0.f1) := by simp [World.cell?, Fgg0.out]
  have yFgg0_3 : w15.cell? ⟨w5.heap.size, 3, none⟩ = some (.slice G0_0 M0.f1.f1.length gd0_0) := by simp [World.cell?, Fgg0.out]
  have yFgg0_4 : w15.cell? ⟨w5.heap.size, 4, none⟩ = some (.slice G0_1 M0.f1.f2.length gd0_1) := by simp [World.cell?, Fgg0.out]
  have yFgg0_5 : w15.cell? ⟨w5.heap.size, 5, none⟩ = some (.int .i64 M0.f2) := by simp [World.cell?, Fgg0.out]
  have yFgg0_6 : w15.cell? ⟨w5.heap.size, 6, none⟩ = some (.int .i64 M0.f3) := by simp [World.cell?, Fgg0.out]
  have yFgg0_7 : w15.cell? ⟨w5.heap.size, 7, none⟩ = some (.slice G0_2 M0.f4.length gd0_2) := by simp [World.cell?, Fgg0.out]
  have lFgg0 : w5.heap.size < w15.heap.size := blk_lt Fgg0.out
  have yFgh0_0 : w15.cell? ⟨w13.heap.size, 0, none⟩ = some (.string M0.f0) := by simp [World.cell?, Fgh0.out]
  have yFgh0_1 : w15.cell? ⟨w13.heap.size, 1, none⟩ = some (.string M0.f1.f0.f0) := by simp [World.cell?, Fgh0.out]
  have yFgh0_2 : w15.cell? ⟨w13.heap.size, 2, none⟩ = some (.string M0.f1.f0.f1) := by simp [World.cell?, Fgh0.out]
  have yFgh0_3 : w15.cell? ⟨w13.heap.size, 3, none⟩ = some (.slice H0_0 M0.f1.f1.length hd0_0) := by simp [World.cell?, Fgh0.out]
  have yFgh0_4 : w15.cell? ⟨w13.heap.size, 4, none⟩ = some (.slice H0_1 M0.f1.f2.length hd0_1) := by simp [World.cell?, Fgh0.out]
  have yFgh0_5 : w15.cell? ⟨w13.heap.size, 5, none⟩ = some (.int .i64 M0.f2) := by simp [World.cell?, Fgh0.out]
  have yFgh0_6 : w15.cell? ⟨w13.heap.size, 6, none⟩ = some (.int .i64 M0.f3) := by simp [World.cell?, Fgh0.out]
  have yFgh0_7 : w15.cell? ⟨w13.heap.size, 7, none⟩ = some (.slice H0_2 M0.f4.length hd0_2) := by simp [World.cell?, Fgh0.out]
  have lFgh0 : w13.heap.size < w15.heap.size := blk_lt Fgh0.out
  clear he b15 bb15 hC0 hC1 hC2
  go_wp2
  go_ret
  exact ⟨rfl, bel_then HB0.out B15⟩
end Go.Proofs.YtejiifmopopflaaDoor
