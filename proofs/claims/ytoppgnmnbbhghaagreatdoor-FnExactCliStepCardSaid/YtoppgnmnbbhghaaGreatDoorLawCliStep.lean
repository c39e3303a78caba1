/- The law FnExactCliStep, walked. -/
import Derived.Test.YtoppgnmnbbhghaaGreatDoorStepP
import Derived.Test.YtoppgnmnbbhghaaGreatDoorStepS
import Derived.Test.YtoppgnmnbbhghaaGreatDoorTo
import Derived.Test.YtoppgnmnbbhghaaGreatDoorEq
import Derived.Test.YtoppgnmnbbhghaaGreatDoorHeldN
namespace Go.Proofs.YtoppgnmnbbhghaaGreatDoor
open Go.RowKit Go.Proofs.YtoppgnmnbbhghaaGreatDoorW.PrintWords
set_option linter.unusedVariables false
set_option linter.unusedSimpArgs false

theorem becomes_wf {nv : Int} {fs xs : List Int} (hn : (Lit.int .i64 nv).wf = true) (h : ∀ y ∈ xs, (Lit.int .i64 y).wf = true) : ∀ y ∈ becomes nv fs xs, (Lit.int .i64 y).wf = true := by
  intro y hy
  unfold becomes at hy
  obtain ⟨x, hx, rfl⟩ := List.mem_map.1 hy
  split
  · exact hn
  · exact h x hx
theorem failC_wf (code : Int) : (Lit.int .i64 (failC code)).wf = true := by unfold failC; split <;> decide
theorem nextC_wf (c : SCli) (h0 : 0 ≤ c.f3) (hl : c.f1.f1.length ≤ 1048576) (h3 : (Lit.int .i64 c.f3).wf = true) : (Lit.int .i64 (nextC c).1.f2).wf = true ∧ (Lit.int .i64 (nextC c).1.f3).wf = true := by
  unfold nextC
  split
  · exact ⟨by dsimp only; decide, WalkArith.wf_i64 (by dsimp only; omega)⟩
  · split
    · exact ⟨by dsimp only; decide, h3⟩
    · exact ⟨by dsimp only; decide, h3⟩
theorem stepC_wf (c : SCli) (code : Int) (h0 : 0 ≤ c.f3) (hl : c.f1.f1.length ≤ 1048576) (h3 : (Lit.int .i64 c.f3).wf = true) (h4 : ∀ y ∈ c.f4, (Lit.int .i64 y).wf = true) :
    (Lit.int .i64 (stepC c code).1.f2).wf = true ∧ (Lit.int .i64 (stepC c code).1.f3).wf = true ∧ ∀ y ∈ (stepC c code).1.f4, (Lit.int .i64 y).wf = true := by
  unfold stepC
  split
  · exact ⟨by dsimp only; decide, h3, h4⟩
  split
  · exact ⟨by dsimp only; decide, h3, h4⟩
  split
  · exact ⟨by dsimp only; decide, h3, h4⟩
  split
  · exact ⟨(nextC_wf c h0 hl h3).1, (nextC_wf c h0 hl h3).2, by rw [(nextC_rest _).2.2]; exact h4⟩
  split
  · generalize hd : (⟨c.f0, c.f1, c.f2, c.f3, c.f4.set (c.f3 - 1).toNat (if code = 250 then 1 else failC code)⟩ : SCli) = d
    have e3 : d.f3 = c.f3 := by rw [← hd]
    have e1 : d.f1 = c.f1 := by rw [← hd]
    have e4 : d.f4 = c.f4.set (c.f3 - 1).toNat (if code = 250 then 1 else failC code) := by rw [← hd]
    have h := nextC_wf d (by rw [e3]; exact h0) (by rw [e1]; exact hl) (by rw [e3]; exact h3)
    refine ⟨h.1, h.2, ?_⟩
    rw [(nextC_rest _).2.2, e4]
    intro y hy
    rcases List.mem_or_eq_of_mem_set hy with hy | rfl
    · exact h4 y hy
    · split
      · decide
      · exact failC_wf code
  split
  · exact ⟨by dsimp only; decide, h3, h4⟩
  split
  · exact ⟨by dsimp only; decide, h3, becomes_wf (by decide) h4⟩
  · exact ⟨by dsimp only; decide, h3, becomes_wf (failC_wf code) h4⟩
theorem stepS_fit {c : SCli} (answer : ByteArray) (hc : fitCli c) : fitCli (stepS c answer) := by
  have z : (⟨#[]⟩ : ByteArray).size ≤ 1048576 := Nat.zero_le _
  unfold stepS
  split
  · rename_i hok
    obtain ⟨h0, h1, h2, h3, h4, h5⟩ := hc
    have hf := cliOk_facts c hok
    have hr := stepC_rest c (codeOf answer)
    have hw := stepC_wf c (codeOf answer) hf.2.1.1 h1.2.1.1 h3 h5
    exact ⟨by rw [hr.1]; exact h0, by rw [hr.2.1]; exact h1, hw.1, hw.2.1, by rw [hr.2.2]; exact h4, hw.2.2⟩
  · exact ⟨z, ⟨⟨z, z⟩, ⟨Nat.zero_le _, fun y hy => by cases hy⟩, ⟨Nat.zero_le _, fun y hy => by cases hy⟩⟩, by decide, by decide, ⟨Nat.zero_le _, fun y hy => by cases hy⟩⟩
set_option maxRecDepth 100000 in
set_option maxHeartbeats 40000000 in
theorem walk_FnExactCliStep {w : World} (c : SCli) (Ac0 : Option Addr) (cc0 : Nat) (Ac1 : Option Addr) (cc1 : Nat) (Ac2 : Option Addr) (cc2 : Nat) (hw_c : wideCli c) (hr_c0 : Kd.C kAddr w Ac0 c.f1.f1.length c.f1.f1) (hr_c1 : Kd.C Kd.string w Ac1 c.f1.f2.length c.f1.f2) (hr_c2 : Kd.C (Kd.int .i64) w Ac2 c.f4.length c.f4) (answer : ByteArray) (hw_answer : answer.size ≤ 9223372036854775807) (hG : Glob w) :
    Calls Tryz.prog 6 #[.agg #[.string c.f0, .string c.f1.f0.f0, .string c.f1.f0.f1, .slice Ac0 c.f1.f1.length cc0, .slice Ac1 c.f1.f2.length cc1, .int .i64 c.f2, .int .i64 c.f3, .slice Ac2 c.f4.length cc2], .string answer] w fun e w' => e = .returned (.bool true) ∧ Below w.heap.size w w' := by
  have hsz_c := fun (l : Int) (W : World) (hW : Below w.heap.size w W) (l0_ : 0 ≤ l) (l1_ : l ≤ 1048576) => szCli_any c Ac0 cc0 Ac1 cc1 Ac2 cc2 l W l0_ l1_ hw_c (Kd.C_below hr_c0 hW) (Kd.C_below hr_c1 hW) (Kd.C_below hr_c2 hW)
  have hto_c := fun (W : World) (hW : Below w.heap.size w W) (hf : fitCli c) => toCli_any c Ac0 cc0 Ac1 cc1 Ac2 cc2 W hf (Kd.C_below hr_c0 hW) (Kd.C_below hr_c1 hW) (Kd.C_below hr_c2 hW)
  have HG := Lib.hid hG
  obtain ⟨M0, hm0⟩ : ∃ M, M = stepS c answer := ⟨_, rfl⟩
  have HV0 := Lib.hid hm0.symm
  clear hm0
  obtain ⟨M1, hm1⟩ : ∃ M, M = stepT c answer := ⟨_, rfl⟩
  have HV1 := Lib.hid hm1.symm
  clear hm1
  clear hw_c hr_c0 hr_c1 hr_c2 hG
  by_cases n_answer : (1048576 : Int) < (answer.size : Int)
  · go_enter Tryz.func6, Tryz.ntmps6
    go_wp2
    go_ret
    exact ⟨rfl, by (with_reducible repeat (first | exact (Below.refl _ _) | refine bel_alloc ?_ _ | refine bel_set ?_ _ ?_ | refine blw_drewN ?_ _ | refine Below.drew ?_)); all_goals (first | (simp; done) | (simp; omega) | omega)⟩
  have f_answer : answer.size ≤ 1048576 := by omega
  go_enter Tryz.func6, Tryz.ntmps6
  go_wp2_with fail
  obtain ⟨W0, hW0⟩ : ∃ W0, W0 = (w.alloc (.cells #[.string c.f0, .string c.f1.f0.f0, .string c.f1.f0.f1, .slice Ac0 c.f1.f1.length cc0, .slice Ac1 c.f1.f2.length cc1, .int .i64 c.f2, .int .i64 c.f3, .slice Ac2 c.f4.length cc2] 61)) := ⟨_, rfl⟩
  rw [← hW0]
  have B0 : Below w.heap.size w W0 := by rw [hW0]; exact (bel_alloc (Below.refl _ _) _)
  have Z0 : w.heap.size < W0.heap.size := by rw [hW0]; simp
  have c0_ : W0.cell? ⟨w.heap.size, 0, none⟩ = some (.string c.f0) := by rw [hW0]; first | (simp; done) | (rw [World.cell?_alloc_lt _ _ _ (by first | (simp; done) | (simp; omega))]; first | (simp; done) | (rw [World.cell?_alloc_lt _ _ _ (by first | (simp; done) | (simp; omega))]; simp))
  have c1_ : W0.cell? ⟨w.heap.size, 1, none⟩ = some (.string c.f1.f0.f0) := by rw [hW0]; first | (simp; done) | (rw [World.cell?_alloc_lt _ _ _ (by first | (simp; done) | (simp; omega))]; first | (simp; done) | (rw [World.cell?_alloc_lt _ _ _ (by first | (simp; done) | (simp; omega))]; simp))
  have c2_ : W0.cell? ⟨w.heap.size, 2, none⟩ = some (.string c.f1.f0.f1) := by rw [hW0]; first | (simp; done) | (rw [World.cell?_alloc_lt _ _ _ (by first | (simp; done) | (simp; omega))]; first | (simp; done) | (rw [World.cell?_alloc_lt _ _ _ (by first | (simp; done) | (simp; omega))]; simp))
  have c3_ : W0.cell? ⟨w.heap.size, 3, none⟩ = some (.slice Ac0 c.f1.f1.length cc0) := by rw [hW0]; first | (simp; done) | (rw [World.cell?_alloc_lt _ _ _ (by first | (simp; done) | (simp; omega))]; first | (simp; done) | (rw [World.cell?_alloc_lt _ _ _ (by first | (simp; done) | (simp; omega))]; simp))
  have c4_ : W0.cell? ⟨w.heap.size, 4, none⟩ = some (.slice Ac1 c.f1.f2.length cc1) := by rw [hW0]; first | (simp; done) | (rw [World.cell?_alloc_lt _ _ _ (by first | (simp; done) | (simp; omega))]; first | (simp; done) | (rw [World.cell?_alloc_lt _ _ _ (by first | (simp; done) | (simp; omega))]; simp))
  have c5_ : W0.cell? ⟨w.heap.size, 5, none⟩ = some (.int .i64 c.f2) := by rw [hW0]; first | (simp; done) | (rw [World.cell?_alloc_lt _ _ _ (by first | (simp; done) | (simp; omega))]; first | (simp; done) | (rw [World.cell?_alloc_lt _ _ _ (by first | (simp; done) | (simp; omega))]; simp))
  have c6_ : W0.cell? ⟨w.heap.size, 6, none⟩ = some (.int .i64 c.f3) := by rw [hW0]; first | (simp; done) | (rw [World.cell?_alloc_lt _ _ _ (by first | (simp; done) | (simp; omega))]; first | (simp; done) | (rw [World.cell?_alloc_lt _ _ _ (by first | (simp; done) | (simp; omega))]; simp))
  have c7_ : W0.cell? ⟨w.heap.size, 7, none⟩ = some (.slice Ac2 c.f4.length cc2) := by rw [hW0]; first | (simp; done) | (rw [World.cell?_alloc_lt _ _ _ (by first | (simp; done) | (simp; omega))]; first | (simp; done) | (rw [World.cell?_alloc_lt _ _ _ (by first | (simp; done) | (simp; omega))]; simp))
  have HC : Aside0 (∀ W, Below W0.heap.size W0 W → W.cell? ⟨w.heap.size, 0, none⟩ = some (.string c.f0) ∧ W.cell? ⟨w.heap.size, 1, none⟩ = some (.string c.f1.f0.f0) ∧ W.cell? ⟨w.heap.size, 2, none⟩ = some (.string c.f1.f0.f1) ∧ W.cell? ⟨w.heap.size, 3, none⟩ = some (.slice Ac0 c.f1.f1.length cc0) ∧ W.cell? ⟨w.heap.size, 4, none⟩ = some (.slice Ac1 c.f1.f2.length cc1) ∧ W.cell? ⟨w.heap.size, 5, none⟩ = some (.int .i64 c.f2) ∧ W.cell? ⟨w.heap.size, 6, none⟩ = some (.int .i64 c.f3) ∧ W.cell? ⟨w.heap.size, 7, none⟩ = some (.slice Ac2 c.f4.length cc2)) := ⟨fun W h => ⟨(h.cell (p := ⟨w.heap.size, 0, none⟩) Z0).trans c0_, (h.cell (p := ⟨w.heap.size, 1, none⟩) Z0).trans c1_, (h.cell (p := ⟨w.heap.size, 2, none⟩) Z0).trans c2_, (h.cell (p := ⟨w.heap.size, 3, none⟩) Z0).trans c3_, (h.cell (p := ⟨w.heap.size, 4, none⟩) Z0).trans c4_, (h.cell (p := ⟨w.heap.size, 5, none⟩) Z0).trans c5_, (h.cell (p := ⟨w.heap.size, 6, none⟩) Z0).trans c6_, (h.cell (p := ⟨w.heap.size, 7, none⟩) Z0).trans c7_⟩⟩
  clear hW0 c0_ c1_ c2_ c3_ c4_ c5_ c6_ c7_
  have HB0 := Aside0.mk B0
  have hsz := B0.size
  clear B0
  obtain ⟨c0_, c1_, c2_, c3_, c4_, c5_, c6_, c7_⟩ := HC.out _ (Below.refl W0.heap.size W0)
  have zz0_ : w.heap.size < W0.heap.size := Nat.lt_of_lt_of_le Z0 (Below.refl W0.heap.size W0).size
  go_wp2_with fail
  refine (hsz_c _ _ (bel_then HB0.out (Below.refl W0.heap.size W0)) (by omega) (by omega)).mono ?_
  rintro e w1 ⟨r_c, rfl, le_c, s_c, b1⟩
  have bb1 := bel_then (Below.refl W0.heap.size W0) b1
  have B1 := bel_then (Below.refl W0.heap.size W0) bb1
  have sz1 := bb1.size
  clear c0_ c1_ c2_ c3_ c4_ c5_ c6_ c7_ zz0_
  obtain ⟨c0_, c1_, c2_, c3_, c4_, c5_, c6_, c7_⟩ := HC.out _ B1
  have zz0_ : w.heap.size < w1.heap.size := Nat.lt_of_lt_of_le Z0 B1.size
  clear b1 bb1 hsz_c
  by_cases n_c : r_c < 0
  · go_wp2
    go_ret
    exact ⟨rfl, bel_then HB0.out B1⟩
  rw [Int.not_lt] at n_c
  have f_c := s_c n_c
  clear s_c
  have HVF0 : Hid (fitCli M0) := Lib.hid (by have h := stepS_fit answer f_c; rw [HV0.out] at h; exact h)
  have hcall := fun (W : World) (hW : Below w1.heap.size w1 W) => hto_c W (bel_then HB0.out (bel_then B1 hW)) f_c
  go_wp2_with fail
  refine (hcall _ (Below.refl _ _)).mono ?_
  rintro e w2 ⟨Qc0, qc0, Qc1, qc1, Qc2, qc2, rfl, gq_c0, gq_c1, gq_c2, b2⟩
  clear hcall
  have bb2 := bel_then (Below.refl w1.heap.size w1) b2
  have B2 := bel_then B1 bb2
  have sz2 := bb2.size
  clear c0_ c1_ c2_ c3_ c4_ c5_ c6_ c7_ zz0_
  obtain ⟨c0_, c1_, c2_, c3_, c4_, c5_, c6_, c7_⟩ := HC.out _ B2
  have zz0_ : w.heap.size < w2.heap.size := Nat.lt_of_lt_of_le Z0 B2.size
  have Tc0 := Aside0.mk gq_c0
  clear gq_c0
  have Tc1 := Aside0.mk gq_c1
  clear gq_c1
  have Tc2 := Aside0.mk gq_c2
  clear gq_c2
  clear b2 bb2
  have hcall := fun (W : World) (hW : Below w2.heap.size w2 W) => specCliStep_any c Qc0 qc0 Qc1 qc1 Qc2 qc2 answer W f_c f_answer (Kd.C_below (Kd.R_reads' Tc0.out).2.2 hW) (Kd.C_below (Kd.R_reads' Tc1.out).2.2 hW) (Kd.C_below (Kd.R_reads' Tc2.out).2.2 hW)
  simp only [HV0.out, HV1.out] at hcall
  go_wp2_with fail
  refine (hcall _ (Below.refl _ _)).mono ?_
  rintro e w3 ⟨D0_0, dd0_0, D0_1, dd0_1, D0_2, dd0_2, rfl, gu0_0, gu0_1, gu0_2, b3⟩
  clear hcall
  clear Tc0 Tc1 Tc2
  have lo3 : w2.heap.size ≤ w3.heap.size := by have := b3.size; (try simp at this); omega
  have HW0_0 := Aside0.mk (Kd.R_mono (Kd.R_bound gu0_0) (ok' := (fun q => w2.heap.size ≤ q ∧ q < w3.heap.size)) (fun q hq => ⟨by have h2 := hq.2.1; (try simp at h2); omega, hq.2.2.1⟩))
  clear gu0_0
  have HW0_1 := Aside0.mk (Kd.R_mono (Kd.R_bound gu0_1) (ok' := (fun q => w2.heap.size ≤ q ∧ q < w3.heap.size)) (fun q hq => ⟨by have h2 := hq.2.1; (try simp at h2); omega, hq.2.2.1⟩))
  clear gu0_1
  have HW0_2 := Aside0.mk (Kd.R_mono (Kd.R_bound gu0_2) (ok' := (fun q => w2.heap.size ≤ q ∧ q < w3.heap.size)) (fun q hq => ⟨by have h2 := hq.2.1; (try simp at h2); omega, hq.2.2.1⟩))
  clear gu0_2
  have bb3 := bel_then (Below.refl w2.heap.size w2) b3
  have B3 := bel_then B2 bb3
  have sz3 := bb3.size
  clear c0_ c1_ c2_ c3_ c4_ c5_ c6_ c7_ zz0_
  obtain ⟨c0_, c1_, c2_, c3_, c4_, c5_, c6_, c7_⟩ := HC.out _ B3
  have zz0_ : w.heap.size < w3.heap.size := Nat.lt_of_lt_of_le Z0 B3.size
  clear b3 bb3
  have hcall := fun (W : World) (hW : Below w3.heap.size w3 W) => hto_c W (bel_then HB0.out (bel_then B3 hW)) f_c
  go_wp2_with fail
  refine (hcall _ (bel_alloc (Below.refl _ _) _)).mono ?_
  rintro e w4 ⟨Ec0, ec0, Ec1, ec1, Ec2, ec2, rfl, gx_c0, gx_c1, gx_c2, b4⟩
  clear hcall
  have lo4 : w3.heap.size + 1 ≤ w4.heap.size := by have := b4.size; (try simp at this); omega
  have Xc0 := Aside0.mk (Kd.R_mono (Kd.R_bound gx_c0) (ok' := fun q => w3.heap.size + 1 ≤ q ∧ q < w4.heap.size) (fun q hq => ⟨by have h2 := hq.2.1; (try simp at h2); omega, hq.2.2.1⟩))
  clear gx_c0
  have Xc1 := Aside0.mk (Kd.R_mono (Kd.R_bound gx_c1) (ok' := fun q => w3.heap.size + 1 ≤ q ∧ q < w4.heap.size) (fun q hq => ⟨by have h2 := hq.2.1; (try simp at h2); omega, hq.2.2.1⟩))
  clear gx_c1
  have Xc2 := Aside0.mk (Kd.R_mono (Kd.R_bound gx_c2) (ok' := fun q => w3.heap.size + 1 ≤ q ∧ q < w4.heap.size) (fun q hq => ⟨by have h2 := hq.2.1; (try simp at h2); omega, hq.2.2.1⟩))
  clear gx_c2
  have bb4 := bel_then (bel_alloc (Below.refl w3.heap.size w3) _) b4
  have B4 := bel_then B3 bb4
  have sz4 := bb4.size
  replace HW0_0 := Aside0.mk (Kd.R_below HW0_0.out bb4)
  replace HW0_1 := Aside0.mk (Kd.R_below HW0_1.out bb4)
  replace HW0_2 := Aside0.mk (Kd.R_below HW0_2.out bb4)
  have Fgw0 := Aside0.mk (below_blk (blk_new w3 (.cells #[.string M0.f0, .string M0.f1.f0.f0, .string M0.f1.f0.f1, .slice D0_0 M0.f1.f1.length dd0_0, .slice D0_1 M0.f1.f2.length dd0_1, .int .i64 M0.f2, .int .i64 M0.f3, .slice D0_2 M0.f4.length dd0_2] 31)) b4)
  clear c0_ c1_ c2_ c3_ c4_ c5_ c6_ c7_ zz0_
  obtain ⟨c0_, c1_, c2_, c3_, c4_, c5_, c6_, c7_⟩ := HC.out _ B4
  have zz0_ : w.heap.size < w4.heap.size := Nat.lt_of_lt_of_le Z0 B4.size
  have yFgw0_0 : w4.cell? ⟨w3.heap.size, 0, none⟩ = some (.string M0.f0) := by simp [World.cell?, Fgw0.out]
  have yFgw0_1 : w4.cell? ⟨w3.heap.size, 1, none⟩ = some (.string M0.f1.f0.f0) := by simp [World.cell?, Fgw0.out]
  have yFgw0_2 : w4.cell? ⟨w3.heap.size, 2, none⟩ = some (.string M0.f1.f0.f1) := by simp [World.cell?, Fgw0.out]
  have yFgw0_3 : w4.cell? ⟨w3.heap.size, 3, none⟩ = some (.slice D0_0 M0.f1.f1.length dd0_0) := by simp [World.cell?, Fgw0.out]
  have yFgw0_4 : w4.cell? ⟨w3.heap.size, 4, none⟩ = some (.slice D0_1 M0.f1.f2.length dd0_1) := by simp [World.cell?, Fgw0.out]
  have yFgw0_5 : w4.cell? ⟨w3.heap.size, 5, none⟩ = some (.int .i64 M0.f2) := by simp [World.cell?, Fgw0.out]
  have yFgw0_6 : w4.cell? ⟨w3.heap.size, 6, none⟩ = some (.int .i64 M0.f3) := by simp [World.cell?, Fgw0.out]
  have yFgw0_7 : w4.cell? ⟨w3.heap.size, 7, none⟩ = some (.slice D0_2 M0.f4.length dd0_2) := by simp [World.cell?, Fgw0.out]
  have lFgw0 : w3.heap.size < w4.heap.size := blk_lt Fgw0.out
  clear b4 bb4
  have hcall := fun (W : World) (hW : Below w4.heap.size w4 W) => cliStep_any c Ec0 ec0 Ec1 ec1 Ec2 ec2 answer W f_c f_answer (Kd.C_below (Kd.R_reads' Xc0.out).2.2 hW) (Kd.C_below (Kd.R_reads' Xc1.out).2.2 hW) (Kd.C_below (Kd.R_reads' Xc2.out).2.2 hW) (HG.out.below (bel_then HB0.out (bel_then B4 hW)))
  simp only [HV0.out, HV1.out] at hcall
  go_wp2_with fail
  refine (hcall _ (bel_alloc (Below.refl _ _) _)).mono ?_
  rintro e w5 ⟨G0_0, gd0_0, G0_1, gd0_1, G0_2, gd0_2, rfl, gu0_0, gu0_1, gu0_2, b5⟩
  clear hcall
  have lo5 : w4.heap.size + 1 ≤ w5.heap.size := by have := b5.size; (try simp at this); omega
  have HG0_0 := Aside0.mk (Kd.R_mono (Kd.R_bound gu0_0) (ok' := (fun q => w4.heap.size + 1 ≤ q ∧ q < w5.heap.size)) (fun q hq => ⟨by have h2 := hq.2.1; (try simp at h2); omega, hq.2.2.1⟩))
  clear gu0_0
  have HG0_1 := Aside0.mk (Kd.R_mono (Kd.R_bound gu0_1) (ok' := (fun q => w4.heap.size + 1 ≤ q ∧ q < w5.heap.size)) (fun q hq => ⟨by have h2 := hq.2.1; (try simp at h2); omega, hq.2.2.1⟩))
  clear gu0_1
  have HG0_2 := Aside0.mk (Kd.R_mono (Kd.R_bound gu0_2) (ok' := (fun q => w4.heap.size + 1 ≤ q ∧ q < w5.heap.size)) (fun q hq => ⟨by have h2 := hq.2.1; (try simp at h2); omega, hq.2.2.1⟩))
  clear gu0_2
  have bb5 := bel_then (bel_alloc (Below.refl w4.heap.size w4) _) b5
  have B5 := bel_then B4 bb5
  have sz5 := bb5.size
  replace HW0_0 := Aside0.mk (Kd.R_below HW0_0.out bb5)
  replace HW0_1 := Aside0.mk (Kd.R_below HW0_1.out bb5)
  replace HW0_2 := Aside0.mk (Kd.R_below HW0_2.out bb5)
  replace Xc0 := Aside0.mk (Kd.R_below Xc0.out bb5)
  replace Xc1 := Aside0.mk (Kd.R_below Xc1.out bb5)
  replace Xc2 := Aside0.mk (Kd.R_below Xc2.out bb5)
  replace Fgw0 := Aside0.mk (below_blk Fgw0.out bb5)
  have FXc := Aside0.mk (below_blk (blk_new w4 (.cells #[.string c.f0, .string c.f1.f0.f0, .string c.f1.f0.f1, .slice Ec0 c.f1.f1.length ec0, .slice Ec1 c.f1.f2.length ec1, .int .i64 c.f2, .int .i64 c.f3, .slice Ec2 c.f4.length ec2] 31)) b5)
  clear c0_ c1_ c2_ c3_ c4_ c5_ c6_ c7_ zz0_ yFgw0_0 yFgw0_1 yFgw0_2 yFgw0_3 yFgw0_4 yFgw0_5 yFgw0_6 yFgw0_7 lFgw0
  obtain ⟨c0_, c1_, c2_, c3_, c4_, c5_, c6_, c7_⟩ := HC.out _ B5
  have zz0_ : w.heap.size < w5.heap.size := Nat.lt_of_lt_of_le Z0 B5.size
  have yFgw0_0 : w5.cell? ⟨w3.heap.size, 0, none⟩ = some (.string M0.f0) := by simp [World.cell?, Fgw0.out]
  have yFgw0_1 : w5.cell? ⟨w3.heap.size, 1, none⟩ = some (.string M0.f1.f0.f0) := by simp [World.cell?, Fgw0.out]
  have yFgw0_2 : w5.cell? ⟨w3.heap.size, 2, none⟩ = some (.string M0.f1.f0.f1) := by simp [World.cell?, Fgw0.out]
  have yFgw0_3 : w5.cell? ⟨w3.heap.size, 3, none⟩ = some (.slice D0_0 M0.f1.f1.length dd0_0) := by simp [World.cell?, Fgw0.out]
  have yFgw0_4 : w5.cell? ⟨w3.heap.size, 4, none⟩ = some (.slice D0_1 M0.f1.f2.length dd0_1) := by simp [World.cell?, Fgw0.out]
  have yFgw0_5 : w5.cell? ⟨w3.heap.size, 5, none⟩ = some (.int .i64 M0.f2) := by simp [World.cell?, Fgw0.out]
  have yFgw0_6 : w5.cell? ⟨w3.heap.size, 6, none⟩ = some (.int .i64 M0.f3) := by simp [World.cell?, Fgw0.out]
  have yFgw0_7 : w5.cell? ⟨w3.heap.size, 7, none⟩ = some (.slice D0_2 M0.f4.length dd0_2) := by simp [World.cell?, Fgw0.out]
  have lFgw0 : w3.heap.size < w5.heap.size := blk_lt Fgw0.out
  have yFXc_0 : w5.cell? ⟨w4.heap.size, 0, none⟩ = some (.string c.f0) := by simp [World.cell?, FXc.out]
  have yFXc_1 : w5.cell? ⟨w4.heap.size, 1, none⟩ = some (.string c.f1.f0.f0) := by simp [World.cell?, FXc.out]
  have yFXc_2 : w5.cell? ⟨w4.heap.size, 2, none⟩ = some (.string c.f1.f0.f1) := by simp [World.cell?, FXc.out]
  have yFXc_3 : w5.cell? ⟨w4.heap.size, 3, none⟩ = some (.slice Ec0 c.f1.f1.length ec0) := by simp [World.cell?, FXc.out]
  have yFXc_4 : w5.cell? ⟨w4.heap.size, 4, none⟩ = some (.slice Ec1 c.f1.f2.length ec1) := by simp [World.cell?, FXc.out]
  have yFXc_5 : w5.cell? ⟨w4.heap.size, 5, none⟩ = some (.int .i64 c.f2) := by simp [World.cell?, FXc.out]
  have yFXc_6 : w5.cell? ⟨w4.heap.size, 6, none⟩ = some (.int .i64 c.f3) := by simp [World.cell?, FXc.out]
  have yFXc_7 : w5.cell? ⟨w4.heap.size, 7, none⟩ = some (.slice Ec2 c.f4.length ec2) := by simp [World.cell?, FXc.out]
  have lFXc : w4.heap.size < w5.heap.size := blk_lt FXc.out
  clear b5 bb5
  have hcall := fun (W : World) (hW : Below w5.heap.size w5 W) => eqCli_any M0 G0_0 gd0_0 G0_1 gd0_1 G0_2 gd0_2 D0_0 dd0_0 D0_1 dd0_1 D0_2 dd0_2 W HVF0.out (Kd.C_below (Kd.R_reads' HG0_0.out).2.2 hW) (Kd.C_below (Kd.R_reads' HG0_1.out).2.2 hW) (Kd.C_below (Kd.R_reads' HG0_2.out).2.2 hW) (Kd.C_below (Kd.R_reads' HW0_0.out).2.2 hW) (Kd.C_below (Kd.R_reads' HW0_1.out).2.2 hW) (Kd.C_below (Kd.R_reads' HW0_2.out).2.2 hW)
  go_wp2_with fail
  refine (hcall _ (bel_alloc (Below.refl _ _) _)).mono ?_
  rintro e w6 ⟨rfl, b6⟩
  clear hcall
  have bb6 := bel_then (bel_alloc (Below.refl w5.heap.size w5) _) b6
  have B6 := bel_then B5 bb6
  have sz6 := bb6.size
  replace HW0_0 := Aside0.mk (Kd.R_below HW0_0.out bb6)
  replace HW0_1 := Aside0.mk (Kd.R_below HW0_1.out bb6)
  replace HW0_2 := Aside0.mk (Kd.R_below HW0_2.out bb6)
  replace Xc0 := Aside0.mk (Kd.R_below Xc0.out bb6)
  replace Xc1 := Aside0.mk (Kd.R_below Xc1.out bb6)
  replace Xc2 := Aside0.mk (Kd.R_below Xc2.out bb6)
  replace HG0_0 := Aside0.mk (Kd.R_below HG0_0.out bb6)
  replace HG0_1 := Aside0.mk (Kd.R_below HG0_1.out bb6)
  replace HG0_2 := Aside0.mk (Kd.R_below HG0_2.out bb6)
  replace Fgw0 := Aside0.mk (below_blk Fgw0.out bb6)
  replace FXc := Aside0.mk (below_blk FXc.out bb6)
  have Fgg0 := Aside0.mk (below_blk (blk_new w5 (.cells #[.string M0.f0, .string M0.f1.f0.f0, .string M0.f1.f0.f1, .slice G0_0 M0.f1.f1.length gd0_0, .slice G0_1 M0.f1.f2.length gd0_1, .int .i64 M0.f2, .int .i64 M0.f3, .slice G0_2 M0.f4.length gd0_2] 31)) b6)
  clear c0_ c1_ c2_ c3_ c4_ c5_ c6_ c7_ zz0_ yFgw0_0 yFgw0_1 yFgw0_2 yFgw0_3 yFgw0_4 yFgw0_5 yFgw0_6 yFgw0_7 lFgw0 yFXc_0 yFXc_1 yFXc_2 yFXc_3 yFXc_4 yFXc_5 yFXc_6 yFXc_7 lFXc
  obtain ⟨c0_, c1_, c2_, c3_, c4_, c5_, c6_, c7_⟩ := HC.out _ B6
  have zz0_ : w.heap.size < w6.heap.size := Nat.lt_of_lt_of_le Z0 B6.size
  have yFgw0_0 : w6.cell? ⟨w3.heap.size, 0, none⟩ = some (.string M0.f0) := by simp [World.cell?, Fgw0.out]
  have yFgw0_1 : w6.cell? ⟨w3.heap.size, 1, none⟩ = some (.string M0.f1.f0.f0) := by simp [World.cell?, Fgw0.out]
  have yFgw0_2 : w6.cell? ⟨w3.heap.size, 2, none⟩ = some (.string M0.f1.f0.f1) := by simp [World.cell?, Fgw0.out]
  have yFgw0_3 : w6.cell? ⟨w3.heap.size, 3, none⟩ = some (.slice D0_0 M0.f1.f1.length dd0_0) := by simp [World.cell?, Fgw0.out]
  have yFgw0_4 : w6.cell? ⟨w3.heap.size, 4, none⟩ = some (.slice D0_1 M0.f1.f2.length dd0_1) := by simp [World.cell?, Fgw0.out]
  have yFgw0_5 : w6.cell? ⟨w3.heap.size, 5, none⟩ = some (.int .i64 M0.f2) := by simp [World.cell?, Fgw0.out]
  have yFgw0_6 : w6.cell? ⟨w3.heap.size, 6, none⟩ = some (.int .i64 M0.f3) := by simp [World.cell?, Fgw0.out]
  have yFgw0_7 : w6.cell? ⟨w3.heap.size, 7, none⟩ = some (.slice D0_2 M0.f4.length dd0_2) := by simp [World.cell?, Fgw0.out]
  have lFgw0 : w3.heap.size < w6.heap.size := blk_lt Fgw0.out
  have yFXc_0 : w6.cell? ⟨w4.heap.size, 0, none⟩ = some (.string c.f0) := by simp [World.cell?, FXc.out]
  have yFXc_1 : w6.cell? ⟨w4.heap.size, 1, none⟩ = some (.string c.f1.f0.f0) := by simp [World.cell?, FXc.out]
  have yFXc_2 : w6.cell? ⟨w4.heap.size, 2, none⟩ = some (.string c.f1.f0.f1) := by simp [World.cell?, FXc.out]
  have yFXc_3 : w6.cell? ⟨w4.heap.size, 3, none⟩ = some (.slice Ec0 c.f1.f1.length ec0) := by simp [World.cell?, FXc.out]
  have yFXc_4 : w6.cell? ⟨w4.heap.size, 4, none⟩ = some (.slice Ec1 c.f1.f2.length ec1) := by simp [World.cell?, FXc.out]
  have yFXc_5 : w6.cell? ⟨w4.heap.size, 5, none⟩ = some (.int .i64 c.f2) := by simp [World.cell?, FXc.out]
  have yFXc_6 : w6.cell? ⟨w4.heap.size, 6, none⟩ = some (.int .i64 c.f3) := by simp [World.cell?, FXc.out]
  have yFXc_7 : w6.cell? ⟨w4.heap.size, 7, none⟩ = some (.slice Ec2 c.f4.length ec2) := by simp [World.cell?, FXc.out]
  have lFXc : w4.heap.size < w6.heap.size := blk_lt FXc.out
  have yFgg0_0 : w6.cell? ⟨w5.heap.size, 0, none⟩ = some (.string M0.f0) := by simp [World.cell?, Fgg0.out]
  have yFgg0_1 : w6.cell? ⟨w5.heap.size, 1, none⟩ = some (.string M0.f1.f0.f0) := by simp [World.cell?, Fgg0.out]
  have yFgg0_2 : w6.cell? ⟨w5.heap.size, 2, none⟩ = some (.string M0.f1.f0.f1) := by simp [World.cell?, Fgg0.out]
  have yFgg0_3 : w6.cell? ⟨w5.heap.size, 3, none⟩ = some (.slice G0_0 M0.f1.f1.length gd0_0) := by simp [World.cell?, Fgg0.out]
  have yFgg0_4 : w6.cell? ⟨w5.heap.size, 4, none⟩ = some (.slice G0_1 M0.f1.f2.length gd0_1) := by simp [World.cell?, Fgg0.out]
  have yFgg0_5 : w6.cell? ⟨w5.heap.size, 5, none⟩ = some (.int .i64 M0.f2) := by simp [World.cell?, Fgg0.out]
  have yFgg0_6 : w6.cell? ⟨w5.heap.size, 6, none⟩ = some (.int .i64 M0.f3) := by simp [World.cell?, Fgg0.out]
  have yFgg0_7 : w6.cell? ⟨w5.heap.size, 7, none⟩ = some (.slice G0_2 M0.f4.length gd0_2) := by simp [World.cell?, Fgg0.out]
  have lFgg0 : w5.heap.size < w6.heap.size := blk_lt Fgg0.out
  clear b6 bb6
  go_wp2
  have HK : Aside0 (∀ W W1, Below W.heap.size W W1 → (W.cell? ⟨w.heap.size, 0, none⟩ = some (.string c.f0) ∧ W.cell? ⟨w.heap.size, 1, none⟩ = some (.string c.f1.f0.f0) ∧ W.cell? ⟨w.heap.size, 2, none⟩ = some (.string c.f1.f0.f1) ∧ W.cell? ⟨w.heap.size, 3, none⟩ = some (.slice Ac0 c.f1.f1.length cc0) ∧ W.cell? ⟨w.heap.size, 4, none⟩ = some (.slice Ac1 c.f1.f2.length cc1) ∧ W.cell? ⟨w.heap.size, 5, none⟩ = some (.int .i64 c.f2) ∧ W.cell? ⟨w.heap.size, 6, none⟩ = some (.int .i64 c.f3) ∧ W.cell? ⟨w.heap.size, 7, none⟩ = some (.slice Ac2 c.f4.length cc2) ∧ W.cell? ⟨w4.heap.size, 0, none⟩ = some (.string c.f0) ∧ W.cell? ⟨w4.heap.size, 1, none⟩ = some (.string c.f1.f0.f0) ∧ W.cell? ⟨w4.heap.size, 2, none⟩ = some (.string c.f1.f0.f1) ∧ W.cell? ⟨w4.heap.size, 3, none⟩ = some (.slice Ec0 c.f1.f1.length ec0) ∧ W.cell? ⟨w4.heap.size, 4, none⟩ = some (.slice Ec1 c.f1.f2.length ec1) ∧ W.cell? ⟨w4.heap.size, 5, none⟩ = some (.int .i64 c.f2) ∧ W.cell? ⟨w4.heap.size, 6, none⟩ = some (.int .i64 c.f3) ∧ W.cell? ⟨w4.heap.size, 7, none⟩ = some (.slice Ec2 c.f4.length ec2) ∧ Below w6.heap.size w6 W) → (W1.cell? ⟨w.heap.size, 0, none⟩ = some (.string c.f0) ∧ W1.cell? ⟨w.heap.size, 1, none⟩ = some (.string c.f1.f0.f0) ∧ W1.cell? ⟨w.heap.size, 2, none⟩ = some (.string c.f1.f0.f1) ∧ W1.cell? ⟨w.heap.size, 3, none⟩ = some (.slice Ac0 c.f1.f1.length cc0) ∧ W1.cell? ⟨w.heap.size, 4, none⟩ = some (.slice Ac1 c.f1.f2.length cc1) ∧ W1.cell? ⟨w.heap.size, 5, none⟩ = some (.int .i64 c.f2) ∧ W1.cell? ⟨w.heap.size, 6, none⟩ = some (.int .i64 c.f3) ∧ W1.cell? ⟨w.heap.size, 7, none⟩ = some (.slice Ac2 c.f4.length cc2) ∧ W1.cell? ⟨w4.heap.size, 0, none⟩ = some (.string c.f0) ∧ W1.cell? ⟨w4.heap.size, 1, none⟩ = some (.string c.f1.f0.f0) ∧ W1.cell? ⟨w4.heap.size, 2, none⟩ = some (.string c.f1.f0.f1) ∧ W1.cell? ⟨w4.heap.size, 3, none⟩ = some (.slice Ec0 c.f1.f1.length ec0) ∧ W1.cell? ⟨w4.heap.size, 4, none⟩ = some (.slice Ec1 c.f1.f2.length ec1) ∧ W1.cell? ⟨w4.heap.size, 5, none⟩ = some (.int .i64 c.f2) ∧ W1.cell? ⟨w4.heap.size, 6, none⟩ = some (.int .i64 c.f3) ∧ W1.cell? ⟨w4.heap.size, 7, none⟩ = some (.slice Ec2 c.f4.length ec2) ∧ Below w6.heap.size w6 W1)) := ⟨fun W W1 hb h => ⟨(hb.cell (World.block_lt_of_cell? W _ (h.1))).trans (h.1), (hb.cell (World.block_lt_of_cell? W _ (h.2.1))).trans (h.2.1), (hb.cell (World.block_lt_of_cell? W _ (h.2.2.1))).trans (h.2.2.1), (hb.cell (World.block_lt_of_cell? W _ (h.2.2.2.1))).trans (h.2.2.2.1), (hb.cell (World.block_lt_of_cell? W _ (h.2.2.2.2.1))).trans (h.2.2.2.2.1), (hb.cell (World.block_lt_of_cell? W _ (h.2.2.2.2.2.1))).trans (h.2.2.2.2.2.1), (hb.cell (World.block_lt_of_cell? W _ (h.2.2.2.2.2.2.1))).trans (h.2.2.2.2.2.2.1), (hb.cell (World.block_lt_of_cell? W _ (h.2.2.2.2.2.2.2.1))).trans (h.2.2.2.2.2.2.2.1), (hb.cell (World.block_lt_of_cell? W _ (h.2.2.2.2.2.2.2.2.1))).trans (h.2.2.2.2.2.2.2.2.1), (hb.cell (World.block_lt_of_cell? W _ (h.2.2.2.2.2.2.2.2.2.1))).trans (h.2.2.2.2.2.2.2.2.2.1), (hb.cell (World.block_lt_of_cell? W _ (h.2.2.2.2.2.2.2.2.2.2.1))).trans (h.2.2.2.2.2.2.2.2.2.2.1), (hb.cell (World.block_lt_of_cell? W _ (h.2.2.2.2.2.2.2.2.2.2.2.1))).trans (h.2.2.2.2.2.2.2.2.2.2.2.1), (hb.cell (World.block_lt_of_cell? W _ (h.2.2.2.2.2.2.2.2.2.2.2.2.1))).trans (h.2.2.2.2.2.2.2.2.2.2.2.2.1), (hb.cell (World.block_lt_of_cell? W _ (h.2.2.2.2.2.2.2.2.2.2.2.2.2.1))).trans (h.2.2.2.2.2.2.2.2.2.2.2.2.2.1), (hb.cell (World.block_lt_of_cell? W _ (h.2.2.2.2.2.2.2.2.2.2.2.2.2.2.1))).trans (h.2.2.2.2.2.2.2.2.2.2.2.2.2.2.1), (hb.cell (World.block_lt_of_cell? W _ (h.2.2.2.2.2.2.2.2.2.2.2.2.2.2.2.1))).trans (h.2.2.2.2.2.2.2.2.2.2.2.2.2.2.2.1), bel_then (h.2.2.2.2.2.2.2.2.2.2.2.2.2.2.2.2) hb⟩⟩
  refine wp_region_held_drew (S := (fun W => W.cell? ⟨w.heap.size, 0, none⟩ = some (.string c.f0) ∧ W.cell? ⟨w.heap.size, 1, none⟩ = some (.string c.f1.f0.f0) ∧ W.cell? ⟨w.heap.size, 2, none⟩ = some (.string c.f1.f0.f1) ∧ W.cell? ⟨w.heap.size, 3, none⟩ = some (.slice Ac0 c.f1.f1.length cc0) ∧ W.cell? ⟨w.heap.size, 4, none⟩ = some (.slice Ac1 c.f1.f2.length cc1) ∧ W.cell? ⟨w.heap.size, 5, none⟩ = some (.int .i64 c.f2) ∧ W.cell? ⟨w.heap.size, 6, none⟩ = some (.int .i64 c.f3) ∧ W.cell? ⟨w.heap.size, 7, none⟩ = some (.slice Ac2 c.f4.length cc2) ∧ W.cell? ⟨w4.heap.size, 0, none⟩ = some (.string c.f0) ∧ W.cell? ⟨w4.heap.size, 1, none⟩ = some (.string c.f1.f0.f0) ∧ W.cell? ⟨w4.heap.size, 2, none⟩ = some (.string c.f1.f0.f1) ∧ W.cell? ⟨w4.heap.size, 3, none⟩ = some (.slice Ec0 c.f1.f1.length ec0) ∧ W.cell? ⟨w4.heap.size, 4, none⟩ = some (.slice Ec1 c.f1.f2.length ec1) ∧ W.cell? ⟨w4.heap.size, 5, none⟩ = some (.int .i64 c.f2) ∧ W.cell? ⟨w4.heap.size, 6, none⟩ = some (.int .i64 c.f3) ∧ W.cell? ⟨w4.heap.size, 7, none⟩ = some (.slice Ec2 c.f4.length ec2) ∧ Below w6.heap.size w6 W)) (by kernel_rfl) ?s132 (fun hHeld => ?t132)
  case s132 => exact ⟨c0_, c1_, c2_, c3_, c4_, c5_, c6_, c7_, yFXc_0, yFXc_1, yFXc_2, yFXc_3, yFXc_4, yFXc_5, yFXc_6, yFXc_7, bel_then (Below.refl _ _) (drew_below0 w6)⟩
  refine wpAnyH_take (i := 0) (oi := { dst := some 48, op := Op.load 31 (Operand.tmp 8), type := 31, pos := "exact.go:3253", after := #[], guard := none }) (v := ?v133) rfl (by kernel_rfl) (by kernel_rfl) (by kernel_rfl) (fun _ _ _ h => h) (Or.inl ⟨by rfl, ?y133⟩) (by assumption) ?r133
  case y133 => intro w_ hSw; (try dsimp only at hSw); go_simp; (try (with_reducible rfl))
  try simp only [Act.put, List.setIfInBounds_toArray, List.set_cons_zero, List.set_cons_succ]
  refine wpAnyH_take (i := 1) (oi := { dst := some 49, op := Op.load 61 (Operand.tmp 2), type := 61, pos := "exact.go:3253", after := #[], guard := none }) (v := ?v134) rfl (by kernel_rfl) (by kernel_rfl) (by kernel_rfl) (fun _ _ _ h => h) (Or.inl ⟨by rfl, ?y134⟩) (by assumption) ?r134
  case y134 => intro w_ hSw; (try dsimp only at hSw); go_simp; (try (with_reducible rfl))
  try simp only [Act.put, List.setIfInBounds_toArray, List.set_cons_zero, List.set_cons_succ]
  refine wpAnyH_ready (rs := [2]) (by kernel_rfl) (by simp) ?_
  refine AllReadyH.cons (o := { dst := some 50, op := Op.call { callee := Callee.value (Operand.func 27), args := #[Operand.tmp 49], argTypes := #[61] }, type := 31, pos := "exact.go:3253", after := #[{ on := 1, ground := Ground.data }], guard := none }) rfl (fun K hK => ?k135) AllReadyH.nil
  case' k135 => skip
  go_simp
  refine (hto_c _ (bel_then HB0.out (bel_then B6 hHeld.2.2.2.2.2.2.2.2.2.2.2.2.2.2.2.2)) f_c).mono ?_
  rintro e wa7 ⟨Qc0, qc0, Qc1, qc1, Qc2, qc2, rfl, ga_c0, ga_c1, ga_c2, ba⟩
  have Ca_0 := (Kd.R_reads' ga_c0).2.2
  have Ca_1 := (Kd.R_reads' ga_c1).2.2
  have Ca_2 := (Kd.R_reads' ga_c2).2.2
  have hBa := bel_then hHeld.2.2.2.2.2.2.2.2.2.2.2.2.2.2.2.2 ba
  refine hK.out _ _ ?h135 (fun hHeld => ?j135)
  case h135 => exact HK.out _ _ ba hHeld
  clear hK K
  try simp only [Act.put, List.setIfInBounds_toArray, List.set_cons_zero, List.set_cons_succ]
  refine wpAnyH_ready (rs := [3]) (by kernel_rfl) (by simp) ?_
  refine AllReadyH.cons (o := { dst := some 51, op := Op.call { callee := Callee.value (Operand.func 28), args := #[Operand.tmp 48, Operand.tmp 50], argTypes := #[31, 31] }, type := 4, pos := "exact.go:3253", after := #[{ on := 0, ground := Ground.data }, { on := 2, ground := Ground.data }, { on := 2, ground := Ground.chain }], guard := none }) rfl (fun K hK => ?k136) AllReadyH.nil
  case' k136 => skip
  go_simp
  refine (eqCli_any c Ec0 ec0 Ec1 ec1 Ec2 ec2 Qc0 qc0 Qc1 qc1 Qc2 qc2 _ f_c (Kd.C_below (Kd.R_reads' Xc0.out).2.2 hBa) (Kd.C_below (Kd.R_reads' Xc1.out).2.2 hBa) (Kd.C_below (Kd.R_reads' Xc2.out).2.2 hBa) Ca_0 Ca_1 Ca_2).mono ?_
  rintro e w7 ⟨rfl, bb⟩
  have hBb := bel_then hBa bb
  refine hK.out _ _ ?h136 (fun hHeld => ?j136)
  case h136 => exact HK.out _ _ bb hHeld
  clear hK K
  try simp only [Act.put, List.setIfInBounds_toArray, List.set_cons_zero, List.set_cons_succ]
  refine wpAnyH_take (i := 4) (oi := { dst := some 52, op := Op.unOp UnOp.not 4 (Operand.tmp 51), type := 4, pos := "exact.go:3253", after := #[{ on := 3, ground := Ground.data }], guard := none }) (v := ?v137) rfl (by kernel_rfl) (by kernel_rfl) (by kernel_rfl) (fun _ _ _ h => h) (Or.inl ⟨by rfl, ?y137⟩) (by assumption) ?r137
  case y137 => intro w_ hSw; (try dsimp only at hSw); go_simp; (try (with_reducible rfl))
  try simp only [Act.put, List.setIfInBounds_toArray, List.set_cons_zero, List.set_cons_succ]
  refine wpAnyH_done (by kernel_rfl) ?_ _
  clear HK c0_ c1_ c2_ c3_ c4_ c5_ c6_ c7_ yFgw0_0 yFgw0_1 yFgw0_2 yFgw0_3 yFgw0_4 yFgw0_5 yFgw0_6 yFgw0_7 yFXc_0 yFXc_1 yFXc_2 yFXc_3 yFXc_4 yFXc_5 yFXc_6 yFXc_7 yFgg0_0 yFgg0_1 yFgg0_2 yFgg0_3 yFgg0_4 yFgg0_5 yFgg0_6 yFgg0_7
  have bb7 := hHeld.2.2.2.2.2.2.2.2.2.2.2.2.2.2.2.2
  have B7 := bel_then B6 bb7
  have sz7 := bb7.size
  clear hHeld
  replace HW0_0 := Aside0.mk (Kd.R_below HW0_0.out bb7)
  replace HW0_1 := Aside0.mk (Kd.R_below HW0_1.out bb7)
  replace HW0_2 := Aside0.mk (Kd.R_below HW0_2.out bb7)
  replace Xc0 := Aside0.mk (Kd.R_below Xc0.out bb7)
  replace Xc1 := Aside0.mk (Kd.R_below Xc1.out bb7)
  replace Xc2 := Aside0.mk (Kd.R_below Xc2.out bb7)
  replace HG0_0 := Aside0.mk (Kd.R_below HG0_0.out bb7)
  replace HG0_1 := Aside0.mk (Kd.R_below HG0_1.out bb7)
  replace HG0_2 := Aside0.mk (Kd.R_below HG0_2.out bb7)
  replace Fgw0 := Aside0.mk (below_blk Fgw0.out bb7)
  replace FXc := Aside0.mk (below_blk FXc.out bb7)
  replace Fgg0 := Aside0.mk (below_blk Fgg0.out bb7)
  clear zz0_ lFgw0 lFXc lFgg0
  obtain ⟨c0_, c1_, c2_, c3_, c4_, c5_, c6_, c7_⟩ := HC.out _ B7
  have zz0_ : w.heap.size < w7.heap.size := Nat.lt_of_lt_of_le Z0 B7.size
  have yFgw0_0 : w7.cell? ⟨w3.heap.size, 0, none⟩ = some (.string M0.f0) := by simp [World.cell?, Fgw0.out]
  have yFgw0_1 : w7.cell? ⟨w3.heap.size, 1, none⟩ = some (.string M0.f1.f0.f0) := by simp [World.cell?, Fgw0.out]
  have yFgw0_2 : w7.cell? ⟨w3.heap.size, 2, none⟩ = some (.string M0.f1.f0.f1) := by simp [World.cell?, Fgw0.out]
  have yFgw0_3 : w7.cell? ⟨w3.heap.size, 3, none⟩ = some (.slice D0_0 M0.f1.f1.length dd0_0) := by simp [World.cell?, Fgw0.out]
  have yFgw0_4 : w7.cell? ⟨w3.heap.size, 4, none⟩ = some (.slice D0_1 M0.f1.f2.length dd0_1) := by simp [World.cell?, Fgw0.out]
  have yFgw0_5 : w7.cell? ⟨w3.heap.size, 5, none⟩ = some (.int .i64 M0.f2) := by simp [World.cell?, Fgw0.out]
  have yFgw0_6 : w7.cell? ⟨w3.heap.size, 6, none⟩ = some (.int .i64 M0.f3) := by simp [World.cell?, Fgw0.out]
  have yFgw0_7 : w7.cell? ⟨w3.heap.size, 7, none⟩ = some (.slice D0_2 M0.f4.length dd0_2) := by simp [World.cell?, Fgw0.out]
  have lFgw0 : w3.heap.size < w7.heap.size := blk_lt Fgw0.out
  have yFXc_0 : w7.cell? ⟨w4.heap.size, 0, none⟩ = some (.string c.f0) := by simp [World.cell?, FXc.out]
  have yFXc_1 : w7.cell? ⟨w4.heap.size, 1, none⟩ = some (.string c.f1.f0.f0) := by simp [World.cell?, FXc.out]
  have yFXc_2 : w7.cell? ⟨w4.heap.size, 2, none⟩ = some (.string c.f1.f0.f1) := by simp [World.cell?, FXc.out]
  have yFXc_3 : w7.cell? ⟨w4.heap.size, 3, none⟩ = some (.slice Ec0 c.f1.f1.length ec0) := by simp [World.cell?, FXc.out]
  have yFXc_4 : w7.cell? ⟨w4.heap.size, 4, none⟩ = some (.slice Ec1 c.f1.f2.length ec1) := by simp [World.cell?, FXc.out]
  have yFXc_5 : w7.cell? ⟨w4.heap.size, 5, none⟩ = some (.int .i64 c.f2) := by simp [World.cell?, FXc.out]
  have yFXc_6 : w7.cell? ⟨w4.heap.size, 6, none⟩ = some (.int .i64 c.f3) := by simp [World.cell?, FXc.out]
  have yFXc_7 : w7.cell? ⟨w4.heap.size, 7, none⟩ = some (.slice Ec2 c.f4.length ec2) := by simp [World.cell?, FXc.out]
  have lFXc : w4.heap.size < w7.heap.size := blk_lt FXc.out
  have yFgg0_0 : w7.cell? ⟨w5.heap.size, 0, none⟩ = some (.string M0.f0) := by simp [World.cell?, Fgg0.out]
  have yFgg0_1 : w7.cell? ⟨w5.heap.size, 1, none⟩ = some (.string M0.f1.f0.f0) := by simp [World.cell?, Fgg0.out]
  have yFgg0_2 : w7.cell? ⟨w5.heap.size, 2, none⟩ = some (.string M0.f1.f0.f1) := by simp [World.cell?, Fgg0.out]
  have yFgg0_3 : w7.cell? ⟨w5.heap.size, 3, none⟩ = some (.slice G0_0 M0.f1.f1.length gd0_0) := by simp [World.cell?, Fgg0.out]
  have yFgg0_4 : w7.cell? ⟨w5.heap.size, 4, none⟩ = some (.slice G0_1 M0.f1.f2.length gd0_1) := by simp [World.cell?, Fgg0.out]
  have yFgg0_5 : w7.cell? ⟨w5.heap.size, 5, none⟩ = some (.int .i64 M0.f2) := by simp [World.cell?, Fgg0.out]
  have yFgg0_6 : w7.cell? ⟨w5.heap.size, 6, none⟩ = some (.int .i64 M0.f3) := by simp [World.cell?, Fgg0.out]
  have yFgg0_7 : w7.cell? ⟨w5.heap.size, 7, none⟩ = some (.slice G0_2 M0.f4.length gd0_2) := by simp [World.cell?, Fgg0.out]
  have lFgg0 : w5.heap.size < w7.heap.size := blk_lt Fgg0.out
  clear bb7
  go_wp2_with fail
  refine (calls_at (a := 1) rfl (markCli_any c Ec0 ec0 Ec1 ec1 Ec2 ec2 1 _ _ _ f_c Xc0.out Xc1.out Xc2.out (by omega))).mono ?_
  rintro e w8 ⟨he, le_, _, _, _, t_⟩
  have hl_0 : c.f1.f1.length ≤ 1048576 := (by have h := f_c; unfold fitCli fitMail at h; omega)
  have hl_1 : c.f1.f2.length ≤ 1048576 := (by have h := f_c; unfold fitCli fitMail at h; omega)
  have hl_2 : c.f4.length ≤ 1048576 := (by have h := f_c; unfold fitCli fitMail at h; omega)
  obtain ⟨k8, hk8, rfl⟩ : ∃ r : Nat, r ≤ 1099511627776 ∧ e = .returned (.int .i64 (r : Int)) := ⟨_, by omega, he⟩
  have nk8 : ¬ (k8 : Int) < 0 := by omega
  have B8 := bel_tch B7 t_ B7.size (fun q hq => by have h1 := hq.1; omega)
  have sz8 := t_.size
  replace HW0_0 := Aside0.mk (R_tch HW0_0.out t_ (fun q hq h => by have h1 := hq.1; have h2 := hq.2; have h3 := h.1; have h4 := h.2; omega))
  replace HW0_1 := Aside0.mk (R_tch HW0_1.out t_ (fun q hq h => by have h1 := hq.1; have h2 := hq.2; have h3 := h.1; have h4 := h.2; omega))
  replace HW0_2 := Aside0.mk (R_tch HW0_2.out t_ (fun q hq h => by have h1 := hq.1; have h2 := hq.2; have h3 := h.1; have h4 := h.2; omega))
  replace HG0_0 := Aside0.mk (R_tch HG0_0.out t_ (fun q hq h => by have h1 := hq.1; have h2 := hq.2; have h3 := h.1; have h4 := h.2; omega))
  replace HG0_1 := Aside0.mk (R_tch HG0_1.out t_ (fun q hq h => by have h1 := hq.1; have h2 := hq.2; have h3 := h.1; have h4 := h.2; omega))
  replace HG0_2 := Aside0.mk (R_tch HG0_2.out t_ (fun q hq h => by have h1 := hq.1; have h2 := hq.2; have h3 := h.1; have h4 := h.2; omega))
  replace Fgw0 := Aside0.mk ((t_.block _ (blk_lt Fgw0.out) (fun h => by have h3 := h.1; have h4 := h.2; omega)).trans Fgw0.out)
  replace FXc := Aside0.mk ((t_.block _ (blk_lt FXc.out) (fun h => by have h3 := h.1; have h4 := h.2; omega)).trans FXc.out)
  replace Fgg0 := Aside0.mk ((t_.block _ (blk_lt Fgg0.out) (fun h => by have h3 := h.1; have h4 := h.2; omega)).trans Fgg0.out)
  clear c0_ c1_ c2_ c3_ c4_ c5_ c6_ c7_ zz0_ yFgw0_0 yFgw0_1 yFgw0_2 yFgw0_3 yFgw0_4 yFgw0_5 yFgw0_6 yFgw0_7 lFgw0 yFXc_0 yFXc_1 yFXc_2 yFXc_3 yFXc_4 yFXc_5 yFXc_6 yFXc_7 lFXc yFgg0_0 yFgg0_1 yFgg0_2 yFgg0_3 yFgg0_4 yFgg0_5 yFgg0_6 yFgg0_7 lFgg0
  obtain ⟨c0_, c1_, c2_, c3_, c4_, c5_, c6_, c7_⟩ := HC.out _ B8
  have zz0_ : w.heap.size < w8.heap.size := Nat.lt_of_lt_of_le Z0 B8.size
  have yFgw0_0 : w8.cell? ⟨w3.heap.size, 0, none⟩ = some (.string M0.f0) := by simp [World.cell?, Fgw0.out]
  have yFgw0_1 : w8.cell? ⟨w3.heap.size, 1, none⟩ = some (.string M0.f1.f0.f0) := by simp [World.cell?, Fgw0.out]
  have yFgw0_2 : w8.cell? ⟨w3.heap.size, 2, none⟩ = some (.string M0.f1.f0.f1) := by simp [World.cell?, Fgw0.out]
  have yFgw0_3 : w8.cell? ⟨w3.heap.size, 3, none⟩ = some (.slice D0_0 M0.f1.f1.length dd0_0) := by simp [World.cell?, Fgw0.out]
  have yFgw0_4 : w8.cell? ⟨w3.heap.size, 4, none⟩ = some (.slice D0_1 M0.f1.f2.length dd0_1) := by simp [World.cell?, Fgw0.out]
  have yFgw0_5 : w8.cell? ⟨w3.heap.size, 5, none⟩ = some (.int .i64 M0.f2) := by simp [World.cell?, Fgw0.out]
  have yFgw0_6 : w8.cell? ⟨w3.heap.size, 6, none⟩ = some (.int .i64 M0.f3) := by simp [World.cell?, Fgw0.out]
  have yFgw0_7 : w8.cell? ⟨w3.heap.size, 7, none⟩ = some (.slice D0_2 M0.f4.length dd0_2) := by simp [World.cell?, Fgw0.out]
  have lFgw0 : w3.heap.size < w8.heap.size := blk_lt Fgw0.out
  have yFXc_0 : w8.cell? ⟨w4.heap.size, 0, none⟩ = some (.string c.f0) := by simp [World.cell?, FXc.out]
  have yFXc_1 : w8.cell? ⟨w4.heap.size, 1, none⟩ = some (.string c.f1.f0.f0) := by simp [World.cell?, FXc.out]
  have yFXc_2 : w8.cell? ⟨w4.heap.size, 2, none⟩ = some (.string c.f1.f0.f1) := by simp [World.cell?, FXc.out]
  have yFXc_3 : w8.cell? ⟨w4.heap.size, 3, none⟩ = some (.slice Ec0 c.f1.f1.length ec0) := by simp [World.cell?, FXc.out]
  have yFXc_4 : w8.cell? ⟨w4.heap.size, 4, none⟩ = some (.slice Ec1 c.f1.f2.length ec1) := by simp [World.cell?, FXc.out]
  have yFXc_5 : w8.cell? ⟨w4.heap.size, 5, none⟩ = some (.int .i64 c.f2) := by simp [World.cell?, FXc.out]
  have yFXc_6 : w8.cell? ⟨w4.heap.size, 6, none⟩ = some (.int .i64 c.f3) := by simp [World.cell?, FXc.out]
  have yFXc_7 : w8.cell? ⟨w4.heap.size, 7, none⟩ = some (.slice Ec2 c.f4.length ec2) := by simp [World.cell?, FXc.out]
  have lFXc : w4.heap.size < w8.heap.size := blk_lt FXc.out
  have yFgg0_0 : w8.cell? ⟨w5.heap.size, 0, none⟩ = some (.string M0.f0) := by simp [World.cell?, Fgg0.out]
  have yFgg0_1 : w8.cell? ⟨w5.heap.size, 1, none⟩ = some (.string M0.f1.f0.f0) := by simp [World.cell?, Fgg0.out]
  have yFgg0_2 : w8.cell? ⟨w5.heap.size, 2, none⟩ = some (.string M0.f1.f0.f1) := by simp [World.cell?, Fgg0.out]
  have yFgg0_3 : w8.cell? ⟨w5.heap.size, 3, none⟩ = some (.slice G0_0 M0.f1.f1.length gd0_0) := by simp [World.cell?, Fgg0.out]
  have yFgg0_4 : w8.cell? ⟨w5.heap.size, 4, none⟩ = some (.slice G0_1 M0.f1.f2.length gd0_1) := by simp [World.cell?, Fgg0.out]
  have yFgg0_5 : w8.cell? ⟨w5.heap.size, 5, none⟩ = some (.int .i64 M0.f2) := by simp [World.cell?, Fgg0.out]
  have yFgg0_6 : w8.cell? ⟨w5.heap.size, 6, none⟩ = some (.int .i64 M0.f3) := by simp [World.cell?, Fgg0.out]
  have yFgg0_7 : w8.cell? ⟨w5.heap.size, 7, none⟩ = some (.slice G0_2 M0.f4.length gd0_2) := by simp [World.cell?, Fgg0.out]
  have lFgg0 : w5.heap.size < w8.heap.size := blk_lt Fgg0.out
  clear he t_ le_ hl_0 hl_1 hl_2
  clear Xc0 Xc1 Xc2 FXc
  have hcall := fun (W : World) (hW : Below w8.heap.size w8 W) => eqCli_any M0 G0_0 gd0_0 G0_1 gd0_1 G0_2 gd0_2 D0_0 dd0_0 D0_1 dd0_1 D0_2 dd0_2 W HVF0.out (Kd.C_below (Kd.R_reads' HG0_0.out).2.2 hW) (Kd.C_below (Kd.R_reads' HG0_1.out).2.2 hW) (Kd.C_below (Kd.R_reads' HG0_2.out).2.2 hW) (Kd.C_below (Kd.R_reads' HW0_0.out).2.2 hW) (Kd.C_below (Kd.R_reads' HW0_1.out).2.2 hW) (Kd.C_below (Kd.R_reads' HW0_2.out).2.2 hW)
  go_wp2_with fail
  refine (hcall _ (Below.refl _ _)).mono ?_
  rintro e w9 ⟨rfl, b9⟩
  clear hcall
  have bb9 := bel_then (Below.refl w8.heap.size w8) b9
  have B9 := bel_then B8 bb9
  have sz9 := bb9.size
  replace HW0_0 := Aside0.mk (Kd.R_below HW0_0.out bb9)
  replace HW0_1 := Aside0.mk (Kd.R_below HW0_1.out bb9)
  replace HW0_2 := Aside0.mk (Kd.R_below HW0_2.out bb9)
  replace HG0_0 := Aside0.mk (Kd.R_below HG0_0.out bb9)
  replace HG0_1 := Aside0.mk (Kd.R_below HG0_1.out bb9)
  replace HG0_2 := Aside0.mk (Kd.R_below HG0_2.out bb9)
  replace Fgw0 := Aside0.mk (below_blk Fgw0.out bb9)
  replace Fgg0 := Aside0.mk (below_blk Fgg0.out bb9)
  clear c0_ c1_ c2_ c3_ c4_ c5_ c6_ c7_ zz0_ yFgw0_0 yFgw0_1 yFgw0_2 yFgw0_3 yFgw0_4 yFgw0_5 yFgw0_6 yFgw0_7 lFgw0 yFXc_0 yFXc_1 yFXc_2 yFXc_3 yFXc_4 yFXc_5 yFXc_6 yFXc_7 lFXc yFgg0_0 yFgg0_1 yFgg0_2 yFgg0_3 yFgg0_4 yFgg0_5 yFgg0_6 yFgg0_7 lFgg0
  obtain ⟨c0_, c1_, c2_, c3_, c4_, c5_, c6_, c7_⟩ := HC.out _ B9
  have zz0_ : w.heap.size < w9.heap.size := Nat.lt_of_lt_of_le Z0 B9.size
  have yFgw0_0 : w9.cell? ⟨w3.heap.size, 0, none⟩ = some (.string M0.f0) := by simp [World.cell?, Fgw0.out]
  have yFgw0_1 : w9.cell? ⟨w3.heap.size, 1, none⟩ = some (.string M0.f1.f0.f0) := by simp [World.cell?, Fgw0.out]
  have yFgw0_2 : w9.cell? ⟨w3.heap.size, 2, none⟩ = some (.string M0.f1.f0.f1) := by simp [World.cell?, Fgw0.out]
  have yFgw0_3 : w9.cell? ⟨w3.heap.size, 3, none⟩ = some (.slice D0_0 M0.f1.f1.length dd0_0) := by simp [World.cell?, Fgw0.out]
  have yFgw0_4 : w9.cell? ⟨w3.heap.size, 4, none⟩ = some (.slice D0_1 M0.f1.f2.length dd0_1) := by simp [World.cell?, Fgw0.out]
  have yFgw0_5 : w9.cell? ⟨w3.heap.size, 5, none⟩ = some (.int .i64 M0.f2) := by simp [World.cell?, Fgw0.out]
  have yFgw0_6 : w9.cell? ⟨w3.heap.size, 6, none⟩ = some (.int .i64 M0.f3) := by simp [World.cell?, Fgw0.out]
  have yFgw0_7 : w9.cell? ⟨w3.heap.size, 7, none⟩ = some (.slice D0_2 M0.f4.length dd0_2) := by simp [World.cell?, Fgw0.out]
  have lFgw0 : w3.heap.size < w9.heap.size := blk_lt Fgw0.out
  have yFgg0_0 : w9.cell? ⟨w5.heap.size, 0, none⟩ = some (.string M0.f0) := by simp [World.cell?, Fgg0.out]
  have yFgg0_1 : w9.cell? ⟨w5.heap.size, 1, none⟩ = some (.string M0.f1.f0.f0) := by simp [World.cell?, Fgg0.out]
  have yFgg0_2 : w9.cell? ⟨w5.heap.size, 2, none⟩ = some (.string M0.f1.f0.f1) := by simp [World.cell?, Fgg0.out]
  have yFgg0_3 : w9.cell? ⟨w5.heap.size, 3, none⟩ = some (.slice G0_0 M0.f1.f1.length gd0_0) := by simp [World.cell?, Fgg0.out]
  have yFgg0_4 : w9.cell? ⟨w5.heap.size, 4, none⟩ = some (.slice G0_1 M0.f1.f2.length gd0_1) := by simp [World.cell?, Fgg0.out]
  have yFgg0_5 : w9.cell? ⟨w5.heap.size, 5, none⟩ = some (.int .i64 M0.f2) := by simp [World.cell?, Fgg0.out]
  have yFgg0_6 : w9.cell? ⟨w5.heap.size, 6, none⟩ = some (.int .i64 M0.f3) := by simp [World.cell?, Fgg0.out]
  have yFgg0_7 : w9.cell? ⟨w5.heap.size, 7, none⟩ = some (.slice G0_2 M0.f4.length gd0_2) := by simp [World.cell?, Fgg0.out]
  have lFgg0 : w5.heap.size < w9.heap.size := blk_lt Fgg0.out
  clear b9 bb9
  have hl0_0 : M0.f1.f1.length ≤ 1048576 := (by have h := HVF0.out; unfold fitCli fitMail at h; omega)
  have hl0_1 : M0.f1.f2.length ≤ 1048576 := (by have h := HVF0.out; unfold fitCli fitMail at h; omega)
  have hl0_2 : M0.f4.length ≤ 1048576 := (by have h := HVF0.out; unfold fitCli fitMail at h; omega)
  go_wp2_with fail
  refine (calls_at (a := 1) rfl (markCli_any M0 G0_0 gd0_0 G0_1 gd0_1 G0_2 gd0_2 1 _ _ _ HVF0.out HG0_0.out HG0_1.out HG0_2.out (by omega))).mono ?_
  rintro e w10 ⟨he, le_, m_0, m_1, m_2, t_⟩
  obtain ⟨m10, hm10, rfl⟩ : ∃ r : Nat, r = 1 + 2 * M0.f1.f1.length + 1 * M0.f1.f2.length + 1 * M0.f4.length ∧ e = .returned (.int .i64 (r : Int)) := ⟨_, rfl, he⟩
  have hb10 : m10 ≤ 1099511627776 := by omega
  have nk10 : ¬ (m10 : Int) < 0 := by omega
  have RV0 := Lib.hid hm10
  clear hm10
  have B10 := bel_tch B9 t_ B9.size (fun q hq => by have h1 := hq.1; omega)
  have sz10 := t_.size
  replace HW0_0 := Aside0.mk (R_tch HW0_0.out t_ (fun q hq h => by have h1 := hq.1; have h2 := hq.2; have h3 := h.1; have h4 := h.2; omega))
  replace HW0_1 := Aside0.mk (R_tch HW0_1.out t_ (fun q hq h => by have h1 := hq.1; have h2 := hq.2; have h3 := h.1; have h4 := h.2; omega))
  replace HW0_2 := Aside0.mk (R_tch HW0_2.out t_ (fun q hq h => by have h1 := hq.1; have h2 := hq.2; have h3 := h.1; have h4 := h.2; omega))
  replace Fgw0 := Aside0.mk ((t_.block _ (blk_lt Fgw0.out) (fun h => by have h3 := h.1; have h4 := h.2; omega)).trans Fgw0.out)
  replace Fgg0 := Aside0.mk ((t_.block _ (blk_lt Fgg0.out) (fun h => by have h3 := h.1; have h4 := h.2; omega)).trans Fgg0.out)
  clear c0_ c1_ c2_ c3_ c4_ c5_ c6_ c7_ zz0_ yFgw0_0 yFgw0_1 yFgw0_2 yFgw0_3 yFgw0_4 yFgw0_5 yFgw0_6 yFgw0_7 lFgw0 yFgg0_0 yFgg0_1 yFgg0_2 yFgg0_3 yFgg0_4 yFgg0_5 yFgg0_6 yFgg0_7 lFgg0
  obtain ⟨c0_, c1_, c2_, c3_, c4_, c5_, c6_, c7_⟩ := HC.out _ B10
  have zz0_ : w.heap.size < w10.heap.size := Nat.lt_of_lt_of_le Z0 B10.size
  have yFgw0_0 : w10.cell? ⟨w3.heap.size, 0, none⟩ = some (.string M0.f0) := by simp [World.cell?, Fgw0.out]
  have yFgw0_1 : w10.cell? ⟨w3.heap.size, 1, none⟩ = some (.string M0.f1.f0.f0) := by simp [World.cell?, Fgw0.out]
  have yFgw0_2 : w10.cell? ⟨w3.heap.size, 2, none⟩ = some (.string M0.f1.f0.f1) := by simp [World.cell?, Fgw0.out]
  have yFgw0_3 : w10.cell? ⟨w3.heap.size, 3, none⟩ = some (.slice D0_0 M0.f1.f1.length dd0_0) := by simp [World.cell?, Fgw0.out]
  have yFgw0_4 : w10.cell? ⟨w3.heap.size, 4, none⟩ = some (.slice D0_1 M0.f1.f2.length dd0_1) := by simp [World.cell?, Fgw0.out]
  have yFgw0_5 : w10.cell? ⟨w3.heap.size, 5, none⟩ = some (.int .i64 M0.f2) := by simp [World.cell?, Fgw0.out]
  have yFgw0_6 : w10.cell? ⟨w3.heap.size, 6, none⟩ = some (.int .i64 M0.f3) := by simp [World.cell?, Fgw0.out]
  have yFgw0_7 : w10.cell? ⟨w3.heap.size, 7, none⟩ = some (.slice D0_2 M0.f4.length dd0_2) := by simp [World.cell?, Fgw0.out]
  have lFgw0 : w3.heap.size < w10.heap.size := blk_lt Fgw0.out
  have yFgg0_0 : w10.cell? ⟨w5.heap.size, 0, none⟩ = some (.string M0.f0) := by simp [World.cell?, Fgg0.out]
  have yFgg0_1 : w10.cell? ⟨w5.heap.size, 1, none⟩ = some (.string M0.f1.f0.f0) := by simp [World.cell?, Fgg0.out]
  have yFgg0_2 : w10.cell? ⟨w5.heap.size, 2, none⟩ = some (.string M0.f1.f0.f1) := by simp [World.cell?, Fgg0.out]
  have yFgg0_3 : w10.cell? ⟨w5.heap.size, 3, none⟩ = some (.slice G0_0 M0.f1.f1.length gd0_0) := by simp [World.cell?, Fgg0.out]
  have yFgg0_4 : w10.cell? ⟨w5.heap.size, 4, none⟩ = some (.slice G0_1 M0.f1.f2.length gd0_1) := by simp [World.cell?, Fgg0.out]
  have yFgg0_5 : w10.cell? ⟨w5.heap.size, 5, none⟩ = some (.int .i64 M0.f2) := by simp [World.cell?, Fgg0.out]
  have yFgg0_6 : w10.cell? ⟨w5.heap.size, 6, none⟩ = some (.int .i64 M0.f3) := by simp [World.cell?, Fgg0.out]
  have yFgg0_7 : w10.cell? ⟨w5.heap.size, 7, none⟩ = some (.slice G0_2 M0.f4.length gd0_2) := by simp [World.cell?, Fgg0.out]
  have lFgg0 : w5.heap.size < w10.heap.size := blk_lt Fgg0.out
  replace HG0_0 := Aside0.mk m_0
  replace HG0_1 := Aside0.mk m_1
  replace HG0_2 := Aside0.mk m_2
  clear he t_ m_0 m_1 m_2 le_
  have hC0 := (Kd.R_reads' HG0_0.out).2.2
  rw [mksAddr_length] at hC0
  have hC1 := (Kd.R_reads' HG0_1.out).2.2
  rw [mksString_length] at hC1
  have hC2 := (Kd.R_reads' HG0_2.out).2.2
  rw [mksInt_length] at hC2
  have hcall := fun (W : World) (hW : Below w10.heap.size w10 W) => calls_at (a := 1) rfl (heldCli_any M0 G0_0 gd0_0 G0_1 gd0_1 G0_2 gd0_2 1 W hl0_0 hl0_1 hl0_2 (Kd.C_below hC0 hW) (Kd.C_below hC1 hW) (Kd.C_below hC2 hW) (by omega))
  go_wp2_with fail
  refine (hcall _ (Below.refl _ _)).mono ?_
  rintro e w11 ⟨he, b11⟩
  clear hcall
  obtain rfl : e = .returned (.int .i64 (m10 : Int)) := by rw [he, RV0.out]
  have bb11 := bel_then (Below.refl w10.heap.size w10) b11
  have B11 := bel_then B10 bb11
  have sz11 := bb11.size
  replace HW0_0 := Aside0.mk (Kd.R_below HW0_0.out bb11)
  replace HW0_1 := Aside0.mk (Kd.R_below HW0_1.out bb11)
  replace HW0_2 := Aside0.mk (Kd.R_below HW0_2.out bb11)
  replace HG0_0 := Aside0.mk (Kd.R_below HG0_0.out bb11)
  replace HG0_1 := Aside0.mk (Kd.R_below HG0_1.out bb11)
  replace HG0_2 := Aside0.mk (Kd.R_below HG0_2.out bb11)
  replace Fgw0 := Aside0.mk (below_blk Fgw0.out bb11)
  replace Fgg0 := Aside0.mk (below_blk Fgg0.out bb11)
  clear c0_ c1_ c2_ c3_ c4_ c5_ c6_ c7_ zz0_ yFgw0_0 yFgw0_1 yFgw0_2 yFgw0_3 yFgw0_4 yFgw0_5 yFgw0_6 yFgw0_7 lFgw0 yFgg0_0 yFgg0_1 yFgg0_2 yFgg0_3 yFgg0_4 yFgg0_5 yFgg0_6 yFgg0_7 lFgg0
  obtain ⟨c0_, c1_, c2_, c3_, c4_, c5_, c6_, c7_⟩ := HC.out _ B11
  have zz0_ : w.heap.size < w11.heap.size := Nat.lt_of_lt_of_le Z0 B11.size
  have yFgw0_0 : w11.cell? ⟨w3.heap.size, 0, none⟩ = some (.string M0.f0) := by simp [World.cell?, Fgw0.out]
  have yFgw0_1 : w11.cell? ⟨w3.heap.size, 1, none⟩ = some (.string M0.f1.f0.f0) := by simp [World.cell?, Fgw0.out]
  have yFgw0_2 : w11.cell? ⟨w3.heap.size, 2, none⟩ = some (.string M0.f1.f0.f1) := by simp [World.cell?, Fgw0.out]
  have yFgw0_3 : w11.cell? ⟨w3.heap.size, 3, none⟩ = some (.slice D0_0 M0.f1.f1.length dd0_0) := by simp [World.cell?, Fgw0.out]
  have yFgw0_4 : w11.cell? ⟨w3.heap.size, 4, none⟩ = some (.slice D0_1 M0.f1.f2.length dd0_1) := by simp [World.cell?, Fgw0.out]
  have yFgw0_5 : w11.cell? ⟨w3.heap.size, 5, none⟩ = some (.int .i64 M0.f2) := by simp [World.cell?, Fgw0.out]
  have yFgw0_6 : w11.cell? ⟨w3.heap.size, 6, none⟩ = some (.int .i64 M0.f3) := by simp [World.cell?, Fgw0.out]
  have yFgw0_7 : w11.cell? ⟨w3.heap.size, 7, none⟩ = some (.slice D0_2 M0.f4.length dd0_2) := by simp [World.cell?, Fgw0.out]
  have lFgw0 : w3.heap.size < w11.heap.size := blk_lt Fgw0.out
  have yFgg0_0 : w11.cell? ⟨w5.heap.size, 0, none⟩ = some (.string M0.f0) := by simp [World.cell?, Fgg0.out]
  have yFgg0_1 : w11.cell? ⟨w5.heap.size, 1, none⟩ = some (.string M0.f1.f0.f0) := by simp [World.cell?, Fgg0.out]
  have yFgg0_2 : w11.cell? ⟨w5.heap.size, 2, none⟩ = some (.string M0.f1.f0.f1) := by simp [World.cell?, Fgg0.out]
  have yFgg0_3 : w11.cell? ⟨w5.heap.size, 3, none⟩ = some (.slice G0_0 M0.f1.f1.length gd0_0) := by simp [World.cell?, Fgg0.out]
  have yFgg0_4 : w11.cell? ⟨w5.heap.size, 4, none⟩ = some (.slice G0_1 M0.f1.f2.length gd0_1) := by simp [World.cell?, Fgg0.out]
  have yFgg0_5 : w11.cell? ⟨w5.heap.size, 5, none⟩ = some (.int .i64 M0.f2) := by simp [World.cell?, Fgg0.out]
  have yFgg0_6 : w11.cell? ⟨w5.heap.size, 6, none⟩ = some (.int .i64 M0.f3) := by simp [World.cell?, Fgg0.out]
  have yFgg0_7 : w11.cell? ⟨w5.heap.size, 7, none⟩ = some (.slice G0_2 M0.f4.length gd0_2) := by simp [World.cell?, Fgg0.out]
  have lFgg0 : w5.heap.size < w11.heap.size := blk_lt Fgg0.out
  clear he b11 bb11 hC0 hC1 hC2
  have hcall := fun (W : World) (hW : Below w11.heap.size w11 W) => hto_c W (bel_then HB0.out (bel_then B11 hW)) f_c
  go_wp2_with fail
  refine (hcall _ (Below.refl _ _)).mono ?_
  rintro e w12 ⟨Qc0, qc0, Qc1, qc1, Qc2, qc2, rfl, gq_c0, gq_c1, gq_c2, b12⟩
  clear hcall
  have bb12 := bel_then (Below.refl w11.heap.size w11) b12
  have B12 := bel_then B11 bb12
  have sz12 := bb12.size
  replace HW0_0 := Aside0.mk (Kd.R_below HW0_0.out bb12)
  replace HW0_1 := Aside0.mk (Kd.R_below HW0_1.out bb12)
  replace HW0_2 := Aside0.mk (Kd.R_below HW0_2.out bb12)
  replace HG0_0 := Aside0.mk (Kd.R_below HG0_0.out bb12)
  replace HG0_1 := Aside0.mk (Kd.R_below HG0_1.out bb12)
  replace HG0_2 := Aside0.mk (Kd.R_below HG0_2.out bb12)
  replace Fgw0 := Aside0.mk (below_blk Fgw0.out bb12)
  replace Fgg0 := Aside0.mk (below_blk Fgg0.out bb12)
  clear c0_ c1_ c2_ c3_ c4_ c5_ c6_ c7_ zz0_ yFgw0_0 yFgw0_1 yFgw0_2 yFgw0_3 yFgw0_4 yFgw0_5 yFgw0_6 yFgw0_7 lFgw0 yFgg0_0 yFgg0_1 yFgg0_2 yFgg0_3 yFgg0_4 yFgg0_5 yFgg0_6 yFgg0_7 lFgg0
  obtain ⟨c0_, c1_, c2_, c3_, c4_, c5_, c6_, c7_⟩ := HC.out _ B12
  have zz0_ : w.heap.size < w12.heap.size := Nat.lt_of_lt_of_le Z0 B12.size
  have yFgw0_0 : w12.cell? ⟨w3.heap.size, 0, none⟩ = some (.string M0.f0) := by simp [World.cell?, Fgw0.out]
  have yFgw0_1 : w12.cell? ⟨w3.heap.size, 1, none⟩ = some (.string M0.f1.f0.f0) := by simp [World.cell?, Fgw0.out]
  have yFgw0_2 : w12.cell? ⟨w3.heap.size, 2, none⟩ = some (.string M0.f1.f0.f1) := by simp [World.cell?, Fgw0.out]
  have yFgw0_3 : w12.cell? ⟨w3.heap.size, 3, none⟩ = some (.slice D0_0 M0.f1.f1.length dd0_0) := by simp [World.cell?, Fgw0.out]
  have yFgw0_4 : w12.cell? ⟨w3.heap.size, 4, none⟩ = some (.slice D0_1 M0.f1.f2.length dd0_1) := by simp [World.cell?, Fgw0.out]
  have yFgw0_5 : w12.cell? ⟨w3.heap.size, 5, none⟩ = some (.int .i64 M0.f2) := by simp [World.cell?, Fgw0.out]
  have yFgw0_6 : w12.cell? ⟨w3.heap.size, 6, none⟩ = some (.int .i64 M0.f3) := by simp [World.cell?, Fgw0.out]
  have yFgw0_7 : w12.cell? ⟨w3.heap.size, 7, none⟩ = some (.slice D0_2 M0.f4.length dd0_2) := by simp [World.cell?, Fgw0.out]
  have lFgw0 : w3.heap.size < w12.heap.size := blk_lt Fgw0.out
  have yFgg0_0 : w12.cell? ⟨w5.heap.size, 0, none⟩ = some (.string M0.f0) := by simp [World.cell?, Fgg0.out]
  have yFgg0_1 : w12.cell? ⟨w5.heap.size, 1, none⟩ = some (.string M0.f1.f0.f0) := by simp [World.cell?, Fgg0.out]
  have yFgg0_2 : w12.cell? ⟨w5.heap.size, 2, none⟩ = some (.string M0.f1.f0.f1) := by simp [World.cell?, Fgg0.out]
  have yFgg0_3 : w12.cell? ⟨w5.heap.size, 3, none⟩ = some (.slice G0_0 M0.f1.f1.length gd0_0) := by simp [World.cell?, Fgg0.out]
  have yFgg0_4 : w12.cell? ⟨w5.heap.size, 4, none⟩ = some (.slice G0_1 M0.f1.f2.length gd0_1) := by simp [World.cell?, Fgg0.out]
  have yFgg0_5 : w12.cell? ⟨w5.heap.size, 5, none⟩ = some (.int .i64 M0.f2) := by simp [World.cell?, Fgg0.out]
  have yFgg0_6 : w12.cell? ⟨w5.heap.size, 6, none⟩ = some (.int .i64 M0.f3) := by simp [World.cell?, Fgg0.out]
  have yFgg0_7 : w12.cell? ⟨w5.heap.size, 7, none⟩ = some (.slice G0_2 M0.f4.length gd0_2) := by simp [World.cell?, Fgg0.out]
  have lFgg0 : w5.heap.size < w12.heap.size := blk_lt Fgg0.out
  have Tc0 := Aside0.mk gq_c0
  clear gq_c0
  have Tc1 := Aside0.mk gq_c1
  clear gq_c1
  have Tc2 := Aside0.mk gq_c2
  clear gq_c2
  clear b12 bb12
  have hcall := fun (W : World) (hW : Below w12.heap.size w12 W) => cliStep_any c Qc0 qc0 Qc1 qc1 Qc2 qc2 answer W f_c f_answer (Kd.C_below (Kd.R_reads' Tc0.out).2.2 hW) (Kd.C_below (Kd.R_reads' Tc1.out).2.2 hW) (Kd.C_below (Kd.R_reads' Tc2.out).2.2 hW) (HG.out.below (bel_then HB0.out (bel_then B12 hW)))
  simp only [HV0.out, HV1.out] at hcall
  go_wp2_with fail
  refine (hcall _ (Below.refl _ _)).mono ?_
  rintro e w13 ⟨H0_0, hd0_0, H0_1, hd0_1, H0_2, hd0_2, rfl, gu0_0, gu0_1, gu0_2, b13⟩
  clear hcall
  clear Tc0 Tc1 Tc2
  have lo13 : w12.heap.size ≤ w13.heap.size := by have := b13.size; (try simp at this); omega
  have HH0_0 := Aside0.mk (Kd.R_mono (Kd.R_bound gu0_0) (ok' := (fun q => w12.heap.size ≤ q ∧ q < w13.heap.size)) (fun q hq => ⟨by have h2 := hq.2.1; (try simp at h2); omega, hq.2.2.1⟩))
  clear gu0_0
  have HH0_1 := Aside0.mk (Kd.R_mono (Kd.R_bound gu0_1) (ok' := (fun q => w12.heap.size ≤ q ∧ q < w13.heap.size)) (fun q hq => ⟨by have h2 := hq.2.1; (try simp at h2); omega, hq.2.2.1⟩))
  clear gu0_1
  have HH0_2 := Aside0.mk (Kd.R_mono (Kd.R_bound gu0_2) (ok' := (fun q => w12.heap.size ≤ q ∧ q < w13.heap.size)) (fun q hq => ⟨by have h2 := hq.2.1; (try simp at h2); omega, hq.2.2.1⟩))
  clear gu0_2
  have bb13 := bel_then (Below.refl w12.heap.size w12) b13
  have B13 := bel_then B12 bb13
  have sz13 := bb13.size
  replace HW0_0 := Aside0.mk (Kd.R_below HW0_0.out bb13)
  replace HW0_1 := Aside0.mk (Kd.R_below HW0_1.out bb13)
  replace HW0_2 := Aside0.mk (Kd.R_below HW0_2.out bb13)
  replace HG0_0 := Aside0.mk (Kd.R_below HG0_0.out bb13)
  replace HG0_1 := Aside0.mk (Kd.R_below HG0_1.out bb13)
  replace HG0_2 := Aside0.mk (Kd.R_below HG0_2.out bb13)
  replace Fgw0 := Aside0.mk (below_blk Fgw0.out bb13)
  replace Fgg0 := Aside0.mk (below_blk Fgg0.out bb13)
  clear c0_ c1_ c2_ c3_ c4_ c5_ c6_ c7_ zz0_ yFgw0_0 yFgw0_1 yFgw0_2 yFgw0_3 yFgw0_4 yFgw0_5 yFgw0_6 yFgw0_7 lFgw0 yFgg0_0 yFgg0_1 yFgg0_2 yFgg0_3 yFgg0_4 yFgg0_5 yFgg0_6 yFgg0_7 lFgg0
  obtain ⟨c0_, c1_, c2_, c3_, c4_, c5_, c6_, c7_⟩ := HC.out _ B13
  have zz0_ : w.heap.size < w13.heap.size := Nat.lt_of_lt_of_le Z0 B13.size
  have yFgw0_0 : w13.cell? ⟨w3.heap.size, 0, none⟩ = some (.string M0.f0) := by simp [World.cell?, Fgw0.out]
  have yFgw0_1 : w13.cell? ⟨w3.heap.size, 1, none⟩ = some (.string M0.f1.f0.f0) := by simp [World.cell?, Fgw0.out]
  have yFgw0_2 : w13.cell? ⟨w3.heap.size, 2, none⟩ = some (.string M0.f1.f0.f1) := by simp [World.cell?, Fgw0.out]
  have yFgw0_3 : w13.cell? ⟨w3.heap.size, 3, none⟩ = some (.slice D0_0 M0.f1.f1.length dd0_0) := by simp [World.cell?, Fgw0.out]
  have yFgw0_4 : w13.cell? ⟨w3.heap.size, 4, none⟩ = some (.slice D0_1 M0.f1.f2.length dd0_1) := by simp [World.cell?, Fgw0.out]
  have yFgw0_5 : w13.cell? ⟨w3.heap.size, 5, none⟩ = some (.int .i64 M0.f2) := by simp [World.cell?, Fgw0.out]
  have yFgw0_6 : w13.cell? ⟨w3.heap.size, 6, none⟩ = some (.int .i64 M0.f3) := by simp [World.cell?, Fgw0.out]
  have yFgw0_7 : w13.cell? ⟨w3.heap.size, 7, none⟩ = some (.slice D0_2 M0.f4.length dd0_2) := by simp [World.cell?, Fgw0.out]
  have lFgw0 : w3.heap.size < w13.heap.size := blk_lt Fgw0.out
  have yFgg0_0 : w13.cell? ⟨w5.heap.size, 0, none⟩ = some (.string M0.f0) := by simp [World.cell?, Fgg0.out]
  have yFgg0_1 : w13.cell? ⟨w5.heap.size, 1, none⟩ = some (.string M0.f1.f0.f0) := by simp [World.cell?, Fgg0.out]
  have yFgg0_2 : w13.cell? ⟨w5.heap.size, 2, none⟩ = some (.string M0.f1.f0.f1) := by simp [World.cell?, Fgg0.out]
  have yFgg0_3 : w13.cell? ⟨w5.heap.size, 3, none⟩ = some (.slice G0_0 M0.f1.f1.length gd0_0) := by simp [World.cell?, Fgg0.out]
  have yFgg0_4 : w13.cell? ⟨w5.heap.size, 4, none⟩ = some (.slice G0_1 M0.f1.f2.length gd0_1) := by simp [World.cell?, Fgg0.out]
  have yFgg0_5 : w13.cell? ⟨w5.heap.size, 5, none⟩ = some (.int .i64 M0.f2) := by simp [World.cell?, Fgg0.out]
  have yFgg0_6 : w13.cell? ⟨w5.heap.size, 6, none⟩ = some (.int .i64 M0.f3) := by simp [World.cell?, Fgg0.out]
  have yFgg0_7 : w13.cell? ⟨w5.heap.size, 7, none⟩ = some (.slice G0_2 M0.f4.length gd0_2) := by simp [World.cell?, Fgg0.out]
  have lFgg0 : w5.heap.size < w13.heap.size := blk_lt Fgg0.out
  clear b13 bb13
  have hcall := fun (W : World) (hW : Below w13.heap.size w13 W) => eqCli_any M0 H0_0 hd0_0 H0_1 hd0_1 H0_2 hd0_2 D0_0 dd0_0 D0_1 dd0_1 D0_2 dd0_2 W HVF0.out (Kd.C_below (Kd.R_reads' HH0_0.out).2.2 hW) (Kd.C_below (Kd.R_reads' HH0_1.out).2.2 hW) (Kd.C_below (Kd.R_reads' HH0_2.out).2.2 hW) (Kd.C_below (Kd.R_reads' HW0_0.out).2.2 hW) (Kd.C_below (Kd.R_reads' HW0_1.out).2.2 hW) (Kd.C_below (Kd.R_reads' HW0_2.out).2.2 hW)
  go_wp2_with fail
  refine (hcall _ (bel_alloc (Below.refl _ _) _)).mono ?_
  rintro e w14 ⟨rfl, b14⟩
  clear hcall
  have bb14 := bel_then (bel_alloc (Below.refl w13.heap.size w13) _) b14
  have B14 := bel_then B13 bb14
  have sz14 := bb14.size
  replace HW0_0 := Aside0.mk (Kd.R_below HW0_0.out bb14)
  replace HW0_1 := Aside0.mk (Kd.R_below HW0_1.out bb14)
  replace HW0_2 := Aside0.mk (Kd.R_below HW0_2.out bb14)
  replace HG0_0 := Aside0.mk (Kd.R_below HG0_0.out bb14)
  replace HG0_1 := Aside0.mk (Kd.R_below HG0_1.out bb14)
  replace HG0_2 := Aside0.mk (Kd.R_below HG0_2.out bb14)
  replace HH0_0 := Aside0.mk (Kd.R_below HH0_0.out bb14)
  replace HH0_1 := Aside0.mk (Kd.R_below HH0_1.out bb14)
  replace HH0_2 := Aside0.mk (Kd.R_below HH0_2.out bb14)
  replace Fgw0 := Aside0.mk (below_blk Fgw0.out bb14)
  replace Fgg0 := Aside0.mk (below_blk Fgg0.out bb14)
  have Fgh0 := Aside0.mk (below_blk (blk_new w13 (.cells #[.string M0.f0, .string M0.f1.f0.f0, .string M0.f1.f0.f1, .slice H0_0 M0.f1.f1.length hd0_0, .slice H0_1 M0.f1.f2.length hd0_1, .int .i64 M0.f2, .int .i64 M0.f3, .slice H0_2 M0.f4.length hd0_2] 31)) b14)
  clear c0_ c1_ c2_ c3_ c4_ c5_ c6_ c7_ zz0_ yFgw0_0 yFgw0_1 yFgw0_2 yFgw0_3 yFgw0_4 yFgw0_5 yFgw0_6 yFgw0_7 lFgw0 yFgg0_0 yFgg0_1 yFgg0_2 yFgg0_3 yFgg0_4 yFgg0_5 yFgg0_6 yFgg0_7 lFgg0
  obtain ⟨c0_, c1_, c2_, c3_, c4_, c5_, c6_, c7_⟩ := HC.out _ B14
  have zz0_ : w.heap.size < w14.heap.size := Nat.lt_of_lt_of_le Z0 B14.size
  have yFgw0_0 : w14.cell? ⟨w3.heap.size, 0, none⟩ = some (.string M0.f0) := by simp [World.cell?, Fgw0.out]
  have yFgw0_1 : w14.cell? ⟨w3.heap.size, 1, none⟩ = some (.string M0.f1.f0.f0) := by simp [World.cell?, Fgw0.out]
  have yFgw0_2 : w14.cell? ⟨w3.heap.size, 2, none⟩ = some (.string M0.f1.f0.f1) := by simp [World.cell?, Fgw0.out]
  have yFgw0_3 : w14.cell? ⟨w3.heap.size, 3, none⟩ = some (.slice D0_0 M0.f1.f1.length dd0_0) := by simp [World.cell?, Fgw0.out]
  have yFgw0_4 : w14.cell? ⟨w3.heap.size, 4, none⟩ = some (.slice D0_1 M0.f1.f2.length dd0_1) := by simp [World.cell?, Fgw0.out]
  have yFgw0_5 : w14.cell? ⟨w3.heap.size, 5, none⟩ = some (.int .i64 M0.f2) := by simp [World.cell?, Fgw0.out]
  have yFgw0_6 : w14.cell? ⟨w3.heap.size, 6, none⟩ = some (.int .i64 M0.f3) := by simp [World.cell?, Fgw0.out]
  have yFgw0_7 : w14.cell? ⟨w3.heap.size, 7, none⟩ = some (.slice D0_2 M0.f4.length dd0_2) := by simp [World.cell?, Fgw0.out]
  have lFgw0 : w3.heap.size < w14.heap.size := blk_lt Fgw0.out
  have yFgg0_0 : w14.cell? ⟨w5.heap.size, 0, none⟩ = some (.string M0.f0) := by simp [World.cell?, Fgg0.out]
  have yFgg0_1 : w14.cell? ⟨w5.heap.size, 1, none⟩ = some (.string M0.f1.f0.f0) := by simp [World.cell?, Fgg0.out]
  have yFgg0_2 : w14.cell? ⟨w5.heap.size, 2, none⟩ = some (.string M0.f1.f0.f1) := by simp [World.cell?, Fgg0.out]
  have yFgg0_3 : w14.cell? ⟨w5.heap.size, 3, none⟩ = some (.slice G0_0 M0.f1.f1.length gd0_0) := by simp [World.cell?, Fgg0.out]
  have yFgg0_4 : w14.cell? ⟨w5.heap.size, 4, none⟩ = some (.slice G0_1 M0.f1.f2.length gd0_1) := by simp [World.cell?, Fgg0.out]
  have yFgg0_5 : w14.cell? ⟨w5.heap.size, 5, none⟩ = some (.int .i64 M0.f2) := by simp [World.cell?, Fgg0.out]
  have yFgg0_6 : w14.cell? ⟨w5.heap.size, 6, none⟩ = some (.int .i64 M0.f3) := by simp [World.cell?, Fgg0.out]
  have yFgg0_7 : w14.cell? ⟨w5.heap.size, 7, none⟩ = some (.slice G0_2 M0.f4.length gd0_2) := by simp [World.cell?, Fgg0.out]
  have lFgg0 : w5.heap.size < w14.heap.size := blk_lt Fgg0.out
  have yFgh0_0 : w14.cell? ⟨w13.heap.size, 0, none⟩ = some (.string M0.f0) := by simp [World.cell?, Fgh0.out]
  have yFgh0_1 : w14.cell? ⟨w13.heap.size, 1, none⟩ = some (.string M0.f1.f0.f0) := by simp [World.cell?, Fgh0.out]
  have yFgh0_2 : w14.cell? ⟨w13.heap.size, 2, none⟩ = some (.string M0.f1.f0.f1) := by simp [World.cell?, Fgh0.out]
  have yFgh0_3 : w14.cell? ⟨w13.heap.size, 3, none⟩ = some (.slice H0_0 M0.f1.f1.length hd0_0) := by simp [World.cell?, Fgh0.out]
  have yFgh0_4 : w14.cell? ⟨w13.heap.size, 4, none⟩ = some (.slice H0_1 M0.f1.f2.length hd0_1) := by simp [World.cell?, Fgh0.out]
  have yFgh0_5 : w14.cell? ⟨w13.heap.size, 5, none⟩ = some (.int .i64 M0.f2) := by simp [World.cell?, Fgh0.out]
  have yFgh0_6 : w14.cell? ⟨w13.heap.size, 6, none⟩ = some (.int .i64 M0.f3) := by simp [World.cell?, Fgh0.out]
  have yFgh0_7 : w14.cell? ⟨w13.heap.size, 7, none⟩ = some (.slice H0_2 M0.f4.length hd0_2) := by simp [World.cell?, Fgh0.out]
  have lFgh0 : w13.heap.size < w14.heap.size := blk_lt Fgh0.out
  clear b14 bb14
  have hC0 := (Kd.R_reads' HG0_0.out).2.2
  rw [mksAddr_length] at hC0
  have hC1 := (Kd.R_reads' HG0_1.out).2.2
  rw [mksString_length] at hC1
  have hC2 := (Kd.R_reads' HG0_2.out).2.2
  rw [mksInt_length] at hC2
  have hcall := fun (W : World) (hW : Below w14.heap.size w14 W) => calls_at (a := 1) rfl (heldCli_any M0 G0_0 gd0_0 G0_1 gd0_1 G0_2 gd0_2 1 W hl0_0 hl0_1 hl0_2 (Kd.C_below hC0 hW) (Kd.C_below hC1 hW) (Kd.C_below hC2 hW) (by omega))
  go_wp2_with fail
  refine (hcall _ (Below.refl _ _)).mono ?_
  rintro e w15 ⟨he, b15⟩
  clear hcall
  obtain rfl : e = .returned (.int .i64 (m10 : Int)) := by rw [he, RV0.out]
  have bb15 := bel_then (Below.refl w14.heap.size w14) b15
  have B15 := bel_then B14 bb15
  have sz15 := bb15.size
  replace HW0_0 := Aside0.mk (Kd.R_below HW0_0.out bb15)
  replace HW0_1 := Aside0.mk (Kd.R_below HW0_1.out bb15)
  replace HW0_2 := Aside0.mk (Kd.R_below HW0_2.out bb15)
  replace HG0_0 := Aside0.mk (Kd.R_below HG0_0.out bb15)
  replace HG0_1 := Aside0.mk (Kd.R_below HG0_1.out bb15)
  replace HG0_2 := Aside0.mk (Kd.R_below HG0_2.out bb15)
  replace HH0_0 := Aside0.mk (Kd.R_below HH0_0.out bb15)
  replace HH0_1 := Aside0.mk (Kd.R_below HH0_1.out bb15)
  replace HH0_2 := Aside0.mk (Kd.R_below HH0_2.out bb15)
  replace Fgw0 := Aside0.mk (below_blk Fgw0.out bb15)
  replace Fgg0 := Aside0.mk (below_blk Fgg0.out bb15)
  replace Fgh0 := Aside0.mk (below_blk Fgh0.out bb15)
  clear c0_ c1_ c2_ c3_ c4_ c5_ c6_ c7_ zz0_ yFgw0_0 yFgw0_1 yFgw0_2 yFgw0_3 yFgw0_4 yFgw0_5 yFgw0_6 yFgw0_7 lFgw0 yFgg0_0 yFgg0_1 yFgg0_2 yFgg0_3 yFgg0_4 yFgg0_5 yFgg0_6 yFgg0_7 lFgg0 yFgh0_0 yFgh0_1 yFgh0_2 yFgh0_3 yFgh0_4 yFgh0_5 yFgh0_6 yFgh0_7 lFgh0
  obtain ⟨c0_, c1_, c2_, c3_, c4_, c5_, c6_, c7_⟩ := HC.out _ B15
  have zz0_ : w.heap.size < w15.heap.size := Nat.lt_of_lt_of_le Z0 B15.size
  have yFgw0_0 : w15.cell? ⟨w3.heap.size, 0, none⟩ = some (.string M0.f0) := by simp [World.cell?, Fgw0.out]
  have yFgw0_1 : w15.cell? ⟨w3.heap.size, 1, none⟩ = some (.string M0.f1.f0.f0) := by simp [World.cell?, Fgw0.out]
  have yFgw0_2 : w15.cell? ⟨w3.heap.size, 2, none⟩ = some (.string M0.f1.f0.f1) := by simp [World.cell?, Fgw0.out]
  have yFgw0_3 : w15.cell? ⟨w3.heap.size, 3, none⟩ = some (.slice D0_0 M0.f1.f1.length dd0_0) := by simp [World.cell?, Fgw0.out]
  have yFgw0_4 : w15.cell? ⟨w3.heap.size, 4, none⟩ = some (.slice D0_1 M0.f1.f2.length dd0_1) := by simp [World.cell?, Fgw0.out]
  have yFgw0_5 : w15.cell? ⟨w3.heap.size, 5, none⟩ = some (.int .i64 M0.f2) := by simp [World.cell?, Fgw0.out]
  have yFgw0_6 : w15.cell? ⟨w3.heap.size, 6, none⟩ = some (.int .i64 M0.f3) := by simp [World.cell?, Fgw0.out]
  have yFgw0_7 : w15.cell? ⟨w3.heap.size, 7, none⟩ = some (.slice D0_2 M0.f4.length dd0_2) := by simp [World.cell?, Fgw0.out]
  have lFgw0 : w3.heap.size < w15.heap.size := blk_lt Fgw0.out
  have yFgg0_0 : w15.cell? ⟨w5.heap.size, 0, none⟩ = some (.string M0.f0) := by simp [World.cell?, Fgg0.out]
  have yFgg0_1 : w15.cell? ⟨w5.heap.size, 1, none⟩ = some (.string M0.f1.f0.f0) := by simp [World.cell?, Fgg0.out]
  have yFgg0_2 : w15.cell? ⟨w5.heap.size, 2, none⟩ = some (.string M0.f1.f0.f1) := by simp [World.cell?, Fgg0.out]
  have yFgg0_3 : w15.cell? ⟨w5.heap.size, 3, none⟩ = some (.slice G0_0 M0.f1.f1.length gd0_0) := by simp [World.cell?, Fgg0.out]
  have yFgg0_4 : w15.cell? ⟨w5.heap.size, 4, none⟩ = some (.slice G0_1 M0.f1.f2.length gd0_1) := by simp [World.cell?, Fgg0.out]
  have yFgg0_5 : w15.cell? ⟨w5.heap.size, 5, none⟩ = some (.int .i64 M0.f2) := by simp [World.cell?, Fgg0.out]
  have yFgg0_6 : w15.cell? ⟨w5.heap.size, 6, none⟩ = some (.int .i64 M0.f3) := by simp [World.cell?, Fgg0.out]
  have yFgg0_7 : w15.cell? ⟨w5.heap.size, 7, none⟩ = some (.slice G0_2 M0.f4.length gd0_2) := by simp [World.cell?, Fgg0.out]
  have lFgg0 : w5.heap.size < w15.heap.size := blk_lt Fgg0.out
  have yFgh0_0 : w15.cell? ⟨w13.heap.size, 0, none⟩ = some (.string M0.f0) := by simp [World.cell?, Fgh0.out]
  have yFgh0_1 : w15.cell? ⟨w13.heap.size, 1, none⟩ = some (.string M0.f1.f0.f0) := by simp [World.cell?, Fgh0.out]
  have yFgh0_2 : w15.cell? ⟨w13.heap.size, 2, none⟩ = some (.string M0.f1.f0.f1) := by simp [World.cell?, Fgh0.out]
  have yFgh0_3 : w15.cell? ⟨w13.heap.size, 3, none⟩ = some (.slice H0_0 M0.f1.f1.length hd0_0) := by simp [World.cell?, Fgh0.out]
  have yFgh0_4 : w15.cell? ⟨w13.heap.size, 4, none⟩ = some (.slice H0_1 M0.f1.f2.length hd0_1) := by simp [World.cell?, Fgh0.out]
  have yFgh0_5 : w15.cell? ⟨w13.heap.size, 5, none⟩ = some (.int .i64 M0.f2) := by simp [World.cell?, Fgh0.out]
  have yFgh0_6 : w15.cell? ⟨w13.heap.size, 6, none⟩ = some (.int .i64 M0.f3) := by simp [World.cell?, Fgh0.out]
  have yFgh0_7 : w15.cell? ⟨w13.heap.size, 7, none⟩ = some (.slice H0_2 M0.f4.length hd0_2) := by simp [World.cell?, Fgh0.out]
  have lFgh0 : w13.heap.size < w15.heap.size := blk_lt Fgh0.out
  clear he b15 bb15 hC0 hC1 hC2
  go_wp2
  go_ret
  exact ⟨rfl, bel_then HB0.out B15⟩
end Go.Proofs.YtoppgnmnbbhghaaGreatDoor
