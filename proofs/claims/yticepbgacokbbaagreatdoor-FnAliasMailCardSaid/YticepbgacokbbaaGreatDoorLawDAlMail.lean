/- The law FnAliasMail, walked. -/
import Derived.Test.YticepbgacokbbaaGreatDoorReg
import Derived.Test.YticepbgacokbbaaGreatDoorDrawAlM
import Derived.Test.YticepbgacokbbaaGreatDoorSaAl
import Derived.Test.YticepbgacokbbaaGreatDoorAlMailS
import Derived.Deep.RegionHeld3
namespace Go.Proofs.YticepbgacokbbaaGreatDoor
open Go.RowKit Go.Proofs.YticepbgacokbbaaGreatDoorW.PrintWords
set_option linter.unusedVariables false
set_option linter.unusedSimpArgs false
theorem bounds_u8' {n : Int} (h : (Lit.int .u8 n).wf = true) : 0 ≤ n ∧ n ≤ 255 := by
 simp [Lit.wf, IntKind.min, IntKind.max, IntKind.signed, IntKind.bits] at h
 omega

theorem mail_again {ys : List SAlias} {x : SMail} (h : aliasMailOk ys x = true) : (aliasMail ys x).f0 = x.f0 ∧ (aliasMail ys x).f2 = x.f2 ∧ mailOkS (aliasMail ys x) = true ∧ aliasMailOk ys (aliasMail ys x) = true ∧ aliasMail ys (aliasMail ys x) = aliasMail ys x ∧ ∀ b ∈ (aliasMail ys x).f1, isAl ys b = false := by
 have e : aliasMail ys x = ⟨x.f0, ends ys x.f1, x.f2⟩ := by unfold aliasMail; rw [h]; rfl
 have h' := h
 unfold aliasMailOk at h'
 rw [Bool.and_eq_true, Bool.and_eq_true] at h'
 obtain ⟨h1, h2, h3⟩ := h'
 have h4 : mailOkS ⟨x.f0, ends ys x.f1, x.f2⟩ = true := by
  unfold mailOkS mailOk at h2 ⊢
  simp only [Bool.and_eq_true] at h2 h3 ⊢
  exact ⟨h2.1, h3, List.all_eq_true.2 (fun b hb => ends_addr h1 (fun a ha => List.all_eq_true.1 h2.2.2.1 a ha) hb), decide_eq_true (rise_nodup (ends_rise ys x.f1)), h2.2.2.2.2⟩
 have h5 : aliasMailOk ys ⟨x.f0, ends ys x.f1, x.f2⟩ = true := by
  unfold aliasMailOk
  dsimp only
  rw [h1, h4, ends_again, h3]
  rfl
 rw [e]
 refine ⟨rfl, rfl, h4, h5, ?_, fun b hb => ((mem_ends _ _ _).1 hb).2⟩
 unfold aliasMail
 rw [h5, ends_again]
 rfl
theorem saTexts2 (A : Option Addr) (c : Nat) (B : Option Addr) (d : Nat) (xs ys : List ByteArray) (e : xs = ys) (w : World) (hw : (xs.length ≤ 1048576 ∧ ∀ y ∈ xs, y.size ≤ 1048576)) (hr : Kd.C Kd.string w A xs.length xs) (gr : Kd.C Kd.string w B ys.length ys) :
  Calls Tryz.prog 11 #[.slice A xs.length c, .slice B ys.length d] w fun e w' => e = .returned (.bool true) ∧ Below w.heap.size w w' := by
 subst e
 exact saTexts_any A c B d xs w hw hr gr

theorem aliasMail_fit {xs : List SAlias} {m : SMail} (hw : xs.length ≤ 1048576 ∧ ∀ x ∈ xs, fitAlias x) (hm : fitMail m) : fitMail (aliasMail xs m) := by
 have z : (⟨#[]⟩ : ByteArray).size ≤ 1048576 := Nat.zero_le _
 unfold aliasMail
 split
 ·rename_i h
  have h4 : (ends xs m.f1).length ≤ 4 := by
   unfold aliasMailOk at h
   simp only [Bool.and_eq_true] at h
   have := of_decide_eq_true h.2.2.2
   omega
  refine ⟨hm.1, ⟨by show (ends xs m.f1).length ≤ _; omega, fun y hy => ?_⟩, hm.2.2⟩
  obtain ⟨⟨a, ha, k⟩, _⟩ := (mem_ends _ _ _).1 hy
  rcases k.univ with rfl | h2
  ·exact hm.2.1.2 _ ha
  ·obtain ⟨x, hx, h3⟩ := List.mem_flatMap.1 h2
   exact (hw.2 x hx).2.2 y h3
 ·exact ⟨⟨z, z⟩, ⟨by simp [zMailA], fun y hy => by simp [zMailA] at hy⟩, ⟨by simp [zMailA], fun y hy => by simp [zMailA] at hy⟩⟩
attribute [local go_sem high] eqA25
set_option maxRecDepth 100000 in
set_option maxHeartbeats 8000000 in
theorem walk_FnAliasMail {w : World} (A : Option Addr) (c : Nat) (xs : List Int) (hr : Kd.C (Kd.int .u8) w A xs.length xs) (hg : xs.length ≤ 9223372036854775807 ∧ ∀ y ∈ xs, (Lit.int .u8 y).wf = true) (hc : xs.length ≤ c) (hG : Glob w) :
  Calls Tryz.prog 3 #[.slice A xs.length c] w fun e w' => e = .returned (.bool true) ∧ Below w.heap.size w w' := by
 by_cases n_code : (1048576 : Int) < (xs.length : Int)
 ·generalize xs.length = L at n_code
  go_enter Tryz.func3, Tryz.ntmps3
  go_wp2
  go_ret
  exact ⟨rfl, Below.refl _ _⟩
 have hd := drawAliasMail_any A c xs w ⟨by omega, fun y hy => by have := bounds_u8' (hg.2 y hy); omega⟩ hc hr
 clear hr hg hc
 generalize xs.length = L at n_code hd
 go_enter Tryz.func3, Tryz.ntmps3
 go_wp2_with fail
 refine Calls.mono hd ?_
 rintro e w1 ⟨ys, B, d, x, A0, c0, A1, c1, rfl, hs, hm, rr, r0, r1, b1⟩
 have HG := Lib.hid (hG.below b1)
 have BW := Lib.hid b1
 have SZ := Lib.hid b1.size
 clear hd hG b1
 have CR := Aside0.mk (Kd.R_reads' rr).2.2
 have C0 := Aside0.mk (Kd.R_reads' r0).2.2
 have C1 := Aside0.mk (Kd.R_reads' r1).2.2
 have hys := hs.1
 have hw : ys.length ≤ 1048576 ∧ ∀ x ∈ ys, fitAlias x := ⟨by omega, fun x hx => smallAl_fit (by omega) (hs.2 x hx)⟩
 have hfm : fitMail x := by
  obtain ⟨⟨a0, a1⟩, ⟨a2, a3⟩, a4, a5⟩ := hm
  exact ⟨⟨by omega, by omega⟩, ⟨by omega, fun y hy => ⟨by have := (a3 y hy).1; omega, by have := (a3 y hy).2; omega⟩⟩, ⟨by omega, fun y hy => by have := a5 y hy; omega⟩⟩
 have HAG := Lib.hid (fun (h : aliasMailOk ys x = true) => mail_again h)
 have hmf := aliasMail_fit hw hfm
 have ham := fun W (hW : Below w1.heap.size w1 W) => aliasMail_any B d ys x A0 c0 A1 c1 W hw hfm (Kd.C_below CR.out hW) (Kd.C_below C0.out hW) (Kd.C_below C1.out hW) (HG.out.below hW)
 have hsp := fun W (hW : Below w1.heap.size w1 W) => specAliasMail_any B d ys x A0 c0 A1 c1 W hw hfm (Kd.C_below CR.out hW) (Kd.C_below C0.out hW) (Kd.C_below C1.out hW)
 have hst := fun W (hW : Below w1.heap.size w1 W) (b : SAddr) => saStands_any B d ys b W (Kd.C_below CR.out hW) (by omega)
 obtain ⟨M, eM⟩ : ∃ M, M = aliasMail ys x := ⟨_, rfl⟩
 obtain ⟨q, eq⟩ : ∃ q, q = aliasMailOk ys x := ⟨_, rfl⟩
 simp only [← eM, ← eq] at ham hsp HAG hmf
 have HAM := Lib.hid (fun W (hW : Below w1.heap.size w1 W) E0 e0 E1 e1 (g0 : Kd.C kAddr W E0 M.f1.length M.f1) (g1 : Kd.C Kd.string W E1 M.f2.length M.f2) => aliasMail_any B d ys M E0 e0 E1 e1 W hw hmf (Kd.C_below CR.out hW) g0 g1 (HG.out.below hW))
 have HMO := Lib.hid (fun W (hW : Below w1.heap.size w1 W) E0 e0 E1 e1 (g0 : Kd.C kAddr W E0 M.f1.length M.f1) (g1 : Kd.C Kd.string W E1 M.f2.length M.f2) => (show Calls Tryz.prog 10 #[.agg #[.string M.f0.f0, .string M.f0.f1, .slice E0 M.f1.length e0, .slice E1 M.f2.length e1]] W fun e w' => e = .returned (.bool (mailOkS M)) ∧ Below W.heap.size W w' from MailOk_any M.f0.f0 M.f0.f1 E0 e0 M.f1 E1 e1 M.f2 W (by have := hmf.1.1; omega) (by have := hmf.1.2; omega) g0 (by have := hmf.2.1.1; omega) (fun z hz => afit_of z (hmf.2.1.2 z hz)) g1 (bfit_of hmf.2.2).1 (bfit_of hmf.2.2).2 (HG.out.below hW)))
 have HMF := Lib.hid hmf
 have hml : M.f1.length ≤ 1048576 := hmf.2.1.1
 have HBX := Lib.hid hfm.2.2
 clear eM eq hs rr r0 r1 hm hw hfm hmf
 have HB : Aside0 (Below w1.heap.size w1 w1) := ⟨Below.refl _ _⟩
 have HL : Aside0 (w1.heap.size ≤ w1.heap.size) := ⟨Nat.le_refl _⟩
 go_wp2_with fail
 generalize hWW0 : World.alloc (w1) _ = W0
 have ltb := HB.out.size
 have ltl := HL.out
 have TT : ∀ k, k < w1.heap.size → W0.heap[k]? = w1.heap[k]? := fun k hk => by rw [← hWW0]; (with_reducible repeat (first | rfl | refine hp_set ?_ ?_ | refine hp_alloc ?_ ?_ | refine hp_drew ?_)); all_goals (first | (with_reducible rfl) | omega | (dsimp only; omega) | (simp; omega))
 have TS : w1.heap.size + 1 ≤ W0.heap.size := by rw [← hWW0]; simp
 have nFM : W0.heap[w1.heap.size]? = some (.cells #[.string x.f0.f0, .string x.f0.f1, .slice A0 x.f1.length c0, .slice A1 x.f2.length c1] 29 (0, 0)) := by rw [← hWW0]; exact blk_new w1 (.cells #[.string x.f0.f0, .string x.f0.f1, .slice A0 x.f1.length c0, .slice A1 x.f2.length c1] 29)
 have nHB : Below w1.heap.size w1 W0 := by rw [← hWW0]; exact bel_alloc (HB.out) _
 clear hWW0  HB 
 have FM := Aside0.mk nFM
 clear nFM
 have HB := Aside0.mk nHB
 clear nHB
 have oFM_ltl := ltl
 have oFM_ts := TS
 replace HL := Aside0.mk (Nat.le_trans HL.out (by omega : w1.heap.size ≤ W0.heap.size))
 clear TT TS ltb ltl
 refine Calls.mono (ham _ HB.out) ?_
 rintro e w2 ⟨B2, d2, C2, f2, rfl, rR0, rR1, bw2⟩
 replace FM := Aside0.mk (below_blk FM.out bw2)
 have R0 : Aside0 (Kd.R kAddr 25 w2 w1.heap.size (fun _ => True) (.slice B2 M.f1.length d2) M.f1) := ⟨Kd.R_lower (base' := w1.heap.size) rR0 HB.out.size⟩
 clear rR0
 have R1 : Aside0 (Kd.R Kd.string 9 w2 w1.heap.size (fun _ => True) (.slice C2 M.f2.length f2) M.f2) := ⟨Kd.R_lower (base' := w1.heap.size) rR1 HB.out.size⟩
 clear rR1
 replace HB := Aside0.mk (bel_then HB.out bw2)
 replace HL := Aside0.mk (Nat.le_trans HL.out bw2.size)
 clear bw2
 have zFM := blk_lt FM.out
 have cFM_0 : w2.cell? ⟨w1.heap.size, 0, none⟩ = some (.string x.f0.f0) := clq FM.out 0 rfl
 have cFM_1 : w2.cell? ⟨w1.heap.size, 1, none⟩ = some (.string x.f0.f1) := clq FM.out 1 rfl
 have cFM_2 : w2.cell? ⟨w1.heap.size, 2, none⟩ = some (.slice A0 x.f1.length c0) := clq FM.out 2 rfl
 have cFM_3 : w2.cell? ⟨w1.heap.size, 3, none⟩ = some (.slice A1 x.f2.length c1) := clq FM.out 3 rfl
 clear ham
 go_wp2_with fail
 generalize hWw3 : World.alloc (w2) _ = w3
 have ltFM := blk_lt FM.out
 have ltb := HB.out.size
 have ltl := HL.out
 have TT : ∀ k, k < w2.heap.size → w3.heap[k]? = w2.heap[k]? := fun k hk => by rw [← hWw3]; (with_reducible repeat (first | rfl | refine hp_set ?_ ?_ | refine hp_alloc ?_ ?_ | refine hp_drew ?_)); all_goals (first | (with_reducible rfl) | omega | (dsimp only; omega) | (simp; omega))
 have TS : w2.heap.size + 1 ≤ w3.heap.size := by rw [← hWw3]; simp
 have nFM : w3.heap[w1.heap.size]? = some (.cells #[.string x.f0.f0, .string x.f0.f1, .slice A0 x.f1.length c0, .slice A1 x.f2.length c1] 29 (0, 0)) := (TT _ ltFM).trans FM.out
 have nFX : w3.heap[w2.heap.size]? = some (.cells #[.string M.f0.f0, .string M.f0.f1, .slice B2 M.f1.length d2, .slice C2 M.f2.length f2] 29 (0, 0)) := by rw [← hWw3]; exact blk_new w2 (.cells #[.string M.f0.f0, .string M.f0.f1, .slice B2 M.f1.length d2, .slice C2 M.f2.length f2] 29)
 have nR0 : Kd.R kAddr 25 w3 w1.heap.size (fun _ => True) (.slice B2 M.f1.length d2) M.f1 := R_keepT R0.out rfl (fun k hk ho => TT k hk)
 have nR1 : Kd.R Kd.string 9 w3 w1.heap.size (fun _ => True) (.slice C2 M.f2.length f2) M.f2 := R_keepT R1.out rfl (fun k hk ho => TT k hk)
 have nHB : Below w1.heap.size w1 w3 := by rw [← hWw3]; exact bel_alloc (HB.out) _
 clear zFM cFM_0 cFM_1 cFM_2 cFM_3
 clear hWw3 FM HB R0 R1
 have FM := Aside0.mk nFM
 clear nFM
 have FX := Aside0.mk nFX
 clear nFX
 have R0 := Aside0.mk nR0
 clear nR0
 have R1 := Aside0.mk nR1
 clear nR1
 have HB := Aside0.mk nHB
 clear nHB
 have oFX_ltFM := ltFM
 have oFX_ltl := ltl
 have oFX_ts := TS
 replace HL := Aside0.mk (Nat.le_trans HL.out (by omega : w2.heap.size ≤ w3.heap.size))
 clear TT TS ltFM ltb ltl
 refine Calls.mono (hsp _ HB.out) ?_
 rintro e w4 ⟨B3, d3, C3, f3, rfl, rS0, rS1, bw4⟩
 replace FM := Aside0.mk (below_blk FM.out bw4)
 replace FX := Aside0.mk (below_blk FX.out bw4)
 replace R0 := Aside0.mk (Kd.R_below R0.out bw4)
 replace R1 := Aside0.mk (Kd.R_below R1.out bw4)
 have S0 : Aside0 (Kd.R kAddr 25 w4 w1.heap.size (fun _ => True) (.slice B3 M.f1.length d3) M.f1) := ⟨Kd.R_lower (base' := w1.heap.size) rS0 HB.out.size⟩
 clear rS0
 have S1 : Aside0 (Kd.R Kd.string 9 w4 w1.heap.size (fun _ => True) (.slice C3 M.f2.length f3) M.f2) := ⟨Kd.R_lower (base' := w1.heap.size) rS1 HB.out.size⟩
 clear rS1
 replace HB := Aside0.mk (bel_then HB.out bw4)
 replace HL := Aside0.mk (Nat.le_trans HL.out bw4.size)
 clear bw4
 clear hsp
 cases q
 ·clear HAG HAM HMO hst
  have zFX := blk_lt FX.out
  have cFX_0 : w4.cell? ⟨w2.heap.size, 0, none⟩ = some (.string M.f0.f0) := clq FX.out 0 rfl
  have cFX_1 : w4.cell? ⟨w2.heap.size, 1, none⟩ = some (.string M.f0.f1) := clq FX.out 1 rfl
  have cFX_2 : w4.cell? ⟨w2.heap.size, 2, none⟩ = some (.slice B2 M.f1.length d2) := clq FX.out 2 rfl
  have cFX_3 : w4.cell? ⟨w2.heap.size, 3, none⟩ = some (.slice C2 M.f2.length f2) := clq FX.out 3 rfl
  go_wp2_with fail
  generalize hWw5 : World.alloc (w4) _ = w5
  have ltFM := blk_lt FM.out
  have ltFX := blk_lt FX.out
  have ltb := HB.out.size
  have ltl := HL.out
  have TT : ∀ k, k < w4.heap.size → w5.heap[k]? = w4.heap[k]? := fun k hk => by rw [← hWw5]; (with_reducible repeat (first | rfl | refine hp_set ?_ ?_ | refine hp_alloc ?_ ?_ | refine hp_drew ?_)); all_goals (first | (with_reducible rfl) | omega | (dsimp only; omega) | (simp; omega))
  have TS : w4.heap.size + 1 ≤ w5.heap.size := by rw [← hWw5]; simp
  have nFM : w5.heap[w1.heap.size]? = some (.cells #[.string x.f0.f0, .string x.f0.f1, .slice A0 x.f1.length c0, .slice A1 x.f2.length c1] 29 (0, 0)) := (TT _ ltFM).trans FM.out
  have nFX : w5.heap[w2.heap.size]? = some (.cells #[.string M.f0.f0, .string M.f0.f1, .slice B2 M.f1.length d2, .slice C2 M.f2.length f2] 29 (0, 0)) := (TT _ ltFX).trans FX.out
  have nFS : w5.heap[w4.heap.size]? = some (.cells #[.string M.f0.f0, .string M.f0.f1, .slice B3 M.f1.length d3, .slice C3 M.f2.length f3] 29 (0, 0)) := by rw [← hWw5]; exact blk_new w4 (.cells #[.string M.f0.f0, .string M.f0.f1, .slice B3 M.f1.length d3, .slice C3 M.f2.length f3] 29)
  have nR0 : Kd.R kAddr 25 w5 w1.heap.size (fun _ => True) (.slice B2 M.f1.length d2) M.f1 := R_keepT R0.out rfl (fun k hk ho => TT k hk)
  have nR1 : Kd.R Kd.string 9 w5 w1.heap.size (fun _ => True) (.slice C2 M.f2.length f2) M.f2 := R_keepT R1.out rfl (fun k hk ho => TT k hk)
  have nS0 : Kd.R kAddr 25 w5 w1.heap.size (fun _ => True) (.slice B3 M.f1.length d3) M.f1 := R_keepT S0.out rfl (fun k hk ho => TT k hk)
  have nS1 : Kd.R Kd.string 9 w5 w1.heap.size (fun _ => True) (.slice C3 M.f2.length f3) M.f2 := R_keepT S1.out rfl (fun k hk ho => TT k hk)
  have nHB : Below w1.heap.size w1 w5 := by rw [← hWw5]; exact bel_alloc (HB.out) _
  clear zFX cFX_0 cFX_1 cFX_2 cFX_3
  clear hWw5 FM FX HB R0 R1 S0 S1
  have FM := Aside0.mk nFM
  clear nFM
  have FX := Aside0.mk nFX
  clear nFX
  have FS := Aside0.mk nFS
  clear nFS
  have R0 := Aside0.mk nR0
  clear nR0
  have R1 := Aside0.mk nR1
  clear nR1
  have S0 := Aside0.mk nS0
  clear nS0
  have S1 := Aside0.mk nS1
  clear nS1
  have HB := Aside0.mk nHB
  clear nHB
  have oFS_ltFM := ltFM
  have oFS_ltFX := ltFX
  have oFS_ltl := ltl
  have oFS_ts := TS
  replace HL := Aside0.mk (Nat.le_trans HL.out (by omega : w4.heap.size ≤ w5.heap.size))
  clear TT TS ltFM ltFX ltb ltl
  refine Calls.mono (saMail_any M B2 d2 C2 f2 B3 d3 C3 f3 _ HMF.out (Kd.R_reads' R0.out).2.2 (Kd.R_reads' R1.out).2.2 (Kd.R_reads' S0.out).2.2 (Kd.R_reads' S1.out).2.2) ?_
  rintro e w6 ⟨rfl, bw6⟩
  replace FM := Aside0.mk (below_blk FM.out bw6)
  replace FX := Aside0.mk (below_blk FX.out bw6)
  replace FS := Aside0.mk (below_blk FS.out bw6)
  replace R0 := Aside0.mk (Kd.R_below R0.out bw6)
  replace R1 := Aside0.mk (Kd.R_below R1.out bw6)
  replace S0 := Aside0.mk (Kd.R_below S0.out bw6)
  replace S1 := Aside0.mk (Kd.R_below S1.out bw6)
  replace HB := Aside0.mk (bel_then HB.out bw6)
  replace HL := Aside0.mk (Nat.le_trans HL.out bw6.size)
  clear bw6
  have zFX := blk_lt FX.out
  have cFX_0 : w6.cell? ⟨w2.heap.size, 0, none⟩ = some (.string M.f0.f0) := clq FX.out 0 rfl
  have cFX_1 : w6.cell? ⟨w2.heap.size, 1, none⟩ = some (.string M.f0.f1) := clq FX.out 1 rfl
  have cFX_2 : w6.cell? ⟨w2.heap.size, 2, none⟩ = some (.slice B2 M.f1.length d2) := clq FX.out 2 rfl
  have cFX_3 : w6.cell? ⟨w2.heap.size, 3, none⟩ = some (.slice C2 M.f2.length f2) := clq FX.out 3 rfl
  have zFS := blk_lt FS.out
  have cFS_0 : w6.cell? ⟨w4.heap.size, 0, none⟩ = some (.string M.f0.f0) := clq FS.out 0 rfl
  have cFS_1 : w6.cell? ⟨w4.heap.size, 1, none⟩ = some (.string M.f0.f1) := clq FS.out 1 rfl
  have cFS_2 : w6.cell? ⟨w4.heap.size, 2, none⟩ = some (.slice B3 M.f1.length d3) := clq FS.out 2 rfl
  have cFS_3 : w6.cell? ⟨w4.heap.size, 3, none⟩ = some (.slice C3 M.f2.length f3) := clq FS.out 3 rfl
  go_wp2_with fail
  refine Calls.mono (saMail_any M B2 d2 C2 f2 B3 d3 C3 f3 _ HMF.out (Kd.R_reads' R0.out).2.2 (Kd.R_reads' R1.out).2.2 (Kd.R_reads' S0.out).2.2 (Kd.R_reads' S1.out).2.2) ?_
  rintro e w7 ⟨rfl, bw7⟩
  clear zFX cFX_0 cFX_1 cFX_2 cFX_3 zFS cFS_0 cFS_1 cFS_2 cFS_3
  replace FM := Aside0.mk (below_blk FM.out bw7)
  replace FX := Aside0.mk (below_blk FX.out bw7)
  replace FS := Aside0.mk (below_blk FS.out bw7)
  replace R0 := Aside0.mk (Kd.R_below R0.out bw7)
  replace R1 := Aside0.mk (Kd.R_below R1.out bw7)
  replace S0 := Aside0.mk (Kd.R_below S0.out bw7)
  replace S1 := Aside0.mk (Kd.R_below S1.out bw7)
  replace HB := Aside0.mk (bel_then HB.out bw7)
  replace HL := Aside0.mk (Nat.le_trans HL.out bw7.size)
  clear bw7
  go_wp2
  go_ret
  exact ⟨rfl, BW.out.trans (HB.out.mono SZ.out)⟩
 ·have zFX := blk_lt FX.out
  have cFX_0 : w4.cell? ⟨w2.heap.size, 0, none⟩ = some (.string M.f0.f0) := clq FX.out 0 rfl
  have cFX_1 : w4.cell? ⟨w2.heap.size, 1, none⟩ = some (.string M.f0.f1) := clq FX.out 1 rfl
  have cFX_2 : w4.cell? ⟨w2.heap.size, 2, none⟩ = some (.slice B2 M.f1.length d2) := clq FX.out 2 rfl
  have cFX_3 : w4.cell? ⟨w2.heap.size, 3, none⟩ = some (.slice C2 M.f2.length f2) := clq FX.out 3 rfl
  go_wp2_with fail
  generalize hWw5 : World.alloc (w4) _ = w5
  have ltFM := blk_lt FM.out
  have ltFX := blk_lt FX.out
  have ltb := HB.out.size
  have ltl := HL.out
  have TT : ∀ k, k < w4.heap.size → w5.heap[k]? = w4.heap[k]? := fun k hk => by rw [← hWw5]; (with_reducible repeat (first | rfl | refine hp_set ?_ ?_ | refine hp_alloc ?_ ?_ | refine hp_drew ?_)); all_goals (first | (with_reducible rfl) | omega | (dsimp only; omega) | (simp; omega))
  have TS : w4.heap.size + 1 ≤ w5.heap.size := by rw [← hWw5]; simp
  have nFM : w5.heap[w1.heap.size]? = some (.cells #[.string x.f0.f0, .string x.f0.f1, .slice A0 x.f1.length c0, .slice A1 x.f2.length c1] 29 (0, 0)) := (TT _ ltFM).trans FM.out
  have nFX : w5.heap[w2.heap.size]? = some (.cells #[.string M.f0.f0, .string M.f0.f1, .slice B2 M.f1.length d2, .slice C2 M.f2.length f2] 29 (0, 0)) := (TT _ ltFX).trans FX.out
  have nFS : w5.heap[w4.heap.size]? = some (.cells #[.string M.f0.f0, .string M.f0.f1, .slice B3 M.f1.length d3, .slice C3 M.f2.length f3] 29 (0, 0)) := by rw [← hWw5]; exact blk_new w4 (.cells #[.string M.f0.f0, .string M.f0.f1, .slice B3 M.f1.length d3, .slice C3 M.f2.length f3] 29)
  have nR0 : Kd.R kAddr 25 w5 w1.heap.size (fun _ => True) (.slice B2 M.f1.length d2) M.f1 := R_keepT R0.out rfl (fun k hk ho => TT k hk)
  have nR1 : Kd.R Kd.string 9 w5 w1.heap.size (fun _ => True) (.slice C2 M.f2.length f2) M.f2 := R_keepT R1.out rfl (fun k hk ho => TT k hk)
  have nS0 : Kd.R kAddr 25 w5 w1.heap.size (fun _ => True) (.slice B3 M.f1.length d3) M.f1 := R_keepT S0.out rfl (fun k hk ho => TT k hk)
  have nS1 : Kd.R Kd.string 9 w5 w1.heap.size (fun _ => True) (.slice C3 M.f2.length f3) M.f2 := R_keepT S1.out rfl (fun k hk ho => TT k hk)
  have nHB : Below w1.heap.size w1 w5 := by rw [← hWw5]; exact bel_alloc (HB.out) _
  clear zFX cFX_0 cFX_1 cFX_2 cFX_3
  clear hWw5 FM FX HB R0 R1 S0 S1
  have FM := Aside0.mk nFM
  clear nFM
  have FX := Aside0.mk nFX
  clear nFX
  have FS := Aside0.mk nFS
  clear nFS
  have R0 := Aside0.mk nR0
  clear nR0
  have R1 := Aside0.mk nR1
  clear nR1
  have S0 := Aside0.mk nS0
  clear nS0
  have S1 := Aside0.mk nS1
  clear nS1
  have HB := Aside0.mk nHB
  clear nHB
  have oFS_ltFM := ltFM
  have oFS_ltFX := ltFX
  have oFS_ltl := ltl
  have oFS_ts := TS
  replace HL := Aside0.mk (Nat.le_trans HL.out (by omega : w4.heap.size ≤ w5.heap.size))
  clear TT TS ltFM ltFX ltb ltl
  refine Calls.mono (saMail_any M B2 d2 C2 f2 B3 d3 C3 f3 _ HMF.out (Kd.R_reads' R0.out).2.2 (Kd.R_reads' R1.out).2.2 (Kd.R_reads' S0.out).2.2 (Kd.R_reads' S1.out).2.2) ?_
  rintro e w6 ⟨rfl, bw6⟩
  replace FM := Aside0.mk (below_blk FM.out bw6)
  replace FX := Aside0.mk (below_blk FX.out bw6)
  replace FS := Aside0.mk (below_blk FS.out bw6)
  replace R0 := Aside0.mk (Kd.R_below R0.out bw6)
  replace R1 := Aside0.mk (Kd.R_below R1.out bw6)
  replace S0 := Aside0.mk (Kd.R_below S0.out bw6)
  replace S1 := Aside0.mk (Kd.R_below S1.out bw6)
  replace HB := Aside0.mk (bel_then HB.out bw6)
  replace HL := Aside0.mk (Nat.le_trans HL.out bw6.size)
  clear bw6
  clear S0 S1
  obtain ⟨e0, e2, e3, e4, e5, e6⟩ := HAG.out (by trivial)
  have ham2 := HAM.out
  simp only [e5, e4] at ham2
  have hmo := HMO.out
  simp only [e3] at hmo
  have HE2 := Lib.hid e2
  have HNO := Lib.hid e6
  have he0 : (M.f0.f0.toList == x.f0.f0.toList) = true := by rw [e0]; exact beq_self_eq_true _
  have he1 : (M.f0.f1.toList == x.f0.f1.toList) = true := by rw [e0]; exact beq_self_eq_true _
  clear e0 e2 e3 e4 e5 e6 HAG HAM HMO
  go_wp2
  go_loopg [9] (M.f1.length) (fun g v9 wr => ∃ i : Nat, i ≤ M.f1.length ∧ M.f1.length - i ≤ g ∧ v9 = .int .i64 (i : Int) ∧ Aside0 (Below w6.heap.size w6 wr))
  case atStart => exact ⟨0, Nat.zero_le _, by omega, rfl, ⟨Below.refl _ _⟩⟩
  case round =>
   obtain ⟨i, hi, hg, rfl, BV⟩ := hrel
   replace FM := Aside0.mk (below_blk FM.out BV.out)
   replace FX := Aside0.mk (below_blk FX.out BV.out)
   replace FS := Aside0.mk (below_blk FS.out BV.out)
   replace R0 := Aside0.mk (Kd.R_below R0.out BV.out)
   replace R1 := Aside0.mk (Kd.R_below R1.out BV.out)
   replace HB := Aside0.mk (bel_then HB.out BV.out)
   replace HL := Aside0.mk (Nat.le_trans HL.out BV.out.size)
   have zFX := blk_lt FX.out
   have cFX_0 : wr.cell? ⟨w2.heap.size, 0, none⟩ = some (.string M.f0.f0) := clq FX.out 0 rfl
   have cFX_1 : wr.cell? ⟨w2.heap.size, 1, none⟩ = some (.string M.f0.f1) := clq FX.out 1 rfl
   have cFX_2 : wr.cell? ⟨w2.heap.size, 2, none⟩ = some (.slice B2 M.f1.length d2) := clq FX.out 2 rfl
   have cFX_3 : wr.cell? ⟨w2.heap.size, 3, none⟩ = some (.slice C2 M.f2.length f2) := clq FX.out 3 rfl
   by_cases hlt : i < M.f1.length
   ·have hlt' : (i : Int) < (M.f1.length : Int) := by omega
    obtain ⟨ad, e1, p0, p1⟩ := at_Addr (Kd.R_reads' R0.out).2.2 i hlt
    subst e1
    have hno := HNO.out _ (getD_mem M.f1 zAddr hlt)
    generalize M.f1.getD i zAddr = y at p0 p1 hno
    have hs1 := hst wr HB.out y
    rw [hno] at hs1
    clear hno
    go_wp2_with fail
    refine Calls.mono hs1 ?_
    rintro e w7 ⟨rfl, b7⟩
    have BN := Aside0.mk (bel_then BV.out b7)
    clear b7 p0 p1 cFX_0 cFX_1 cFX_2 cFX_3 zFX
    go_wp2
    go_roundg (M.f1.length - (i + 1))
    case measure => omega
    case rel => exact ⟨i + 1, by omega, Nat.le_refl _, by go_num, BN⟩
   ·have hlt' : ¬ (i : Int) < (M.f1.length : Int) := by omega
    clear BV
    go_wp2_with fail
    refine Calls.mono (ham2 _ HB.out B2 d2 C2 f2 (Kd.R_reads' R0.out).2.2 (Kd.R_reads' R1.out).2.2) ?_
    rintro e w7 ⟨B7, d7, C7, f7, rfl, rT0, rT1, bw7⟩
    clear zFX cFX_0 cFX_1 cFX_2 cFX_3
    replace FM := Aside0.mk (below_blk FM.out bw7)
    replace FX := Aside0.mk (below_blk FX.out bw7)
    replace FS := Aside0.mk (below_blk FS.out bw7)
    replace R0 := Aside0.mk (Kd.R_below R0.out bw7)
    replace R1 := Aside0.mk (Kd.R_below R1.out bw7)
    have T0 : Aside0 (Kd.R kAddr 25 w7 w1.heap.size (fun _ => True) (.slice B7 M.f1.length d7) M.f1) := ⟨Kd.R_lower (base' := w1.heap.size) rT0 HB.out.size⟩
    clear rT0
    have T1 : Aside0 (Kd.R Kd.string 9 w7 w1.heap.size (fun _ => True) (.slice C7 M.f2.length f7) M.f2) := ⟨Kd.R_lower (base' := w1.heap.size) rT1 HB.out.size⟩
    clear rT1
    replace HB := Aside0.mk (bel_then HB.out bw7)
    replace HL := Aside0.mk (Nat.le_trans HL.out bw7.size)
    clear bw7
    have zFX := blk_lt FX.out
    have cFX_0 : w7.cell? ⟨w2.heap.size, 0, none⟩ = some (.string M.f0.f0) := clq FX.out 0 rfl
    have cFX_1 : w7.cell? ⟨w2.heap.size, 1, none⟩ = some (.string M.f0.f1) := clq FX.out 1 rfl
    have cFX_2 : w7.cell? ⟨w2.heap.size, 2, none⟩ = some (.slice B2 M.f1.length d2) := clq FX.out 2 rfl
    have cFX_3 : w7.cell? ⟨w2.heap.size, 3, none⟩ = some (.slice C2 M.f2.length f2) := clq FX.out 3 rfl
    go_wp2_with fail
    generalize hWw8 : World.alloc (w7) _ = w8
    have ltFM := blk_lt FM.out
    have ltFX := blk_lt FX.out
    have ltFS := blk_lt FS.out
    have ltb := HB.out.size
    have ltl := HL.out
    have TT : ∀ k, k < w7.heap.size → w8.heap[k]? = w7.heap[k]? := fun k hk => by rw [← hWw8]; (with_reducible repeat (first | rfl | refine hp_set ?_ ?_ | refine hp_alloc ?_ ?_ | refine hp_drew ?_)); all_goals (first | (with_reducible rfl) | omega | (dsimp only; omega) | (simp; omega))
    have TS : w7.heap.size + 1 ≤ w8.heap.size := by rw [← hWw8]; simp
    have nFM : w8.heap[w1.heap.size]? = some (.cells #[.string x.f0.f0, .string x.f0.f1, .slice A0 x.f1.length c0, .slice A1 x.f2.length c1] 29 (0, 0)) := (TT _ ltFM).trans FM.out
    have nFX : w8.heap[w2.heap.size]? = some (.cells #[.string M.f0.f0, .string M.f0.f1, .slice B2 M.f1.length d2, .slice C2 M.f2.length f2] 29 (0, 0)) := (TT _ ltFX).trans FX.out
    have nFS : w8.heap[w4.heap.size]? = some (.cells #[.string M.f0.f0, .string M.f0.f1, .slice B3 M.f1.length d3, .slice C3 M.f2.length f3] 29 (0, 0)) := (TT _ ltFS).trans FS.out
    have nFT : w8.heap[w7.heap.size]? = some (.cells #[.string M.f0.f0, .string M.f0.f1, .slice B7 M.f1.length d7, .slice C7 M.f2.length f7] 29 (0, 0)) := by rw [← hWw8]; exact blk_new w7 (.cells #[.string M.f0.f0, .string M.f0.f1, .slice B7 M.f1.length d7, .slice C7 M.f2.length f7] 29)
    have nR0 : Kd.R kAddr 25 w8 w1.heap.size (fun _ => True) (.slice B2 M.f1.length d2) M.f1 := R_keepT R0.out rfl (fun k hk ho => TT k hk)
    have nR1 : Kd.R Kd.string 9 w8 w1.heap.size (fun _ => True) (.slice C2 M.f2.length f2) M.f2 := R_keepT R1.out rfl (fun k hk ho => TT k hk)
    have nT0 : Kd.R kAddr 25 w8 w1.heap.size (fun _ => True) (.slice B7 M.f1.length d7) M.f1 := R_keepT T0.out rfl (fun k hk ho => TT k hk)
    have nT1 : Kd.R Kd.string 9 w8 w1.heap.size (fun _ => True) (.slice C7 M.f2.length f7) M.f2 := R_keepT T1.out rfl (fun k hk ho => TT k hk)
    have nHB : Below w1.heap.size w1 w8 := by rw [← hWw8]; exact bel_alloc (HB.out) _
    clear zFX cFX_0 cFX_1 cFX_2 cFX_3
    clear hWw8 FM FX FS HB R0 R1 T0 T1
    have FM := Aside0.mk nFM
    clear nFM
    have FX := Aside0.mk nFX
    clear nFX
    have FS := Aside0.mk nFS
    clear nFS
    have FT := Aside0.mk nFT
    clear nFT
    have R0 := Aside0.mk nR0
    clear nR0
    have R1 := Aside0.mk nR1
    clear nR1
    have T0 := Aside0.mk nT0
    clear nT0
    have T1 := Aside0.mk nT1
    clear nT1
    have HB := Aside0.mk nHB
    clear nHB
    have oFT_ltFM := ltFM
    have oFT_ltFX := ltFX
    have oFT_ltFS := ltFS
    have oFT_ltl := ltl
    have oFT_ts := TS
    replace HL := Aside0.mk (Nat.le_trans HL.out (by omega : w7.heap.size ≤ w8.heap.size))
    clear TT TS ltFM ltFX ltFS ltb ltl
    refine Calls.mono (hmo _ HB.out B2 d2 C2 f2 (Kd.R_reads' R0.out).2.2 (Kd.R_reads' R1.out).2.2) ?_
    rintro e w9 ⟨rfl, bw9⟩
    replace FM := Aside0.mk (below_blk FM.out bw9)
    replace FX := Aside0.mk (below_blk FX.out bw9)
    replace FS := Aside0.mk (below_blk FS.out bw9)
    replace FT := Aside0.mk (below_blk FT.out bw9)
    replace R0 := Aside0.mk (Kd.R_below R0.out bw9)
    replace R1 := Aside0.mk (Kd.R_below R1.out bw9)
    replace T0 := Aside0.mk (Kd.R_below T0.out bw9)
    replace T1 := Aside0.mk (Kd.R_below T1.out bw9)
    replace HB := Aside0.mk (bel_then HB.out bw9)
    replace HL := Aside0.mk (Nat.le_trans HL.out bw9.size)
    clear bw9
    have zFX := blk_lt FX.out
    have cFX_0 : w9.cell? ⟨w2.heap.size, 0, none⟩ = some (.string M.f0.f0) := clq FX.out 0 rfl
    have cFX_1 : w9.cell? ⟨w2.heap.size, 1, none⟩ = some (.string M.f0.f1) := clq FX.out 1 rfl
    have cFX_2 : w9.cell? ⟨w2.heap.size, 2, none⟩ = some (.slice B2 M.f1.length d2) := clq FX.out 2 rfl
    have cFX_3 : w9.cell? ⟨w2.heap.size, 3, none⟩ = some (.slice C2 M.f2.length f2) := clq FX.out 3 rfl
    have zFM := blk_lt FM.out
    have cFM_0 : w9.cell? ⟨w1.heap.size, 0, none⟩ = some (.string x.f0.f0) := clq FM.out 0 rfl
    have cFM_1 : w9.cell? ⟨w1.heap.size, 1, none⟩ = some (.string x.f0.f1) := clq FM.out 1 rfl
    have cFM_2 : w9.cell? ⟨w1.heap.size, 2, none⟩ = some (.slice A0 x.f1.length c0) := clq FM.out 2 rfl
    have cFM_3 : w9.cell? ⟨w1.heap.size, 3, none⟩ = some (.slice A1 x.f2.length c1) := clq FM.out 3 rfl
    go_wp2_with fail
    refine Calls.mono (saTexts2 C2 f2 A1 c1 M.f2 x.f2 HE2.out _ HMF.out.2.2 (Kd.R_reads' R1.out).2.2 (Kd.C_below C1.out HB.out)) ?_
    rintro e w10 ⟨rfl, bw10⟩
    clear zFX cFX_0 cFX_1 cFX_2 cFX_3 zFM cFM_0 cFM_1 cFM_2 cFM_3
    replace FM := Aside0.mk (below_blk FM.out bw10)
    replace FX := Aside0.mk (below_blk FX.out bw10)
    replace FS := Aside0.mk (below_blk FS.out bw10)
    replace FT := Aside0.mk (below_blk FT.out bw10)
    replace R0 := Aside0.mk (Kd.R_below R0.out bw10)
    replace R1 := Aside0.mk (Kd.R_below R1.out bw10)
    replace T0 := Aside0.mk (Kd.R_below T0.out bw10)
    replace T1 := Aside0.mk (Kd.R_below T1.out bw10)
    replace HB := Aside0.mk (bel_then HB.out bw10)
    replace HL := Aside0.mk (Nat.le_trans HL.out bw10.size)
    clear bw10
    have zFX := blk_lt FX.out
    have cFX_0 : w10.cell? ⟨w2.heap.size, 0, none⟩ = some (.string M.f0.f0) := clq FX.out 0 rfl
    have cFX_1 : w10.cell? ⟨w2.heap.size, 1, none⟩ = some (.string M.f0.f1) := clq FX.out 1 rfl
    have cFX_2 : w10.cell? ⟨w2.heap.size, 2, none⟩ = some (.slice B2 M.f1.length d2) := clq FX.out 2 rfl
    have cFX_3 : w10.cell? ⟨w2.heap.size, 3, none⟩ = some (.slice C2 M.f2.length f2) := clq FX.out 3 rfl
    have zFT := blk_lt FT.out
    have cFT_0 : w10.cell? ⟨w7.heap.size, 0, none⟩ = some (.string M.f0.f0) := clq FT.out 0 rfl
    have cFT_1 : w10.cell? ⟨w7.heap.size, 1, none⟩ = some (.string M.f0.f1) := clq FT.out 1 rfl
    have cFT_2 : w10.cell? ⟨w7.heap.size, 2, none⟩ = some (.slice B7 M.f1.length d7) := clq FT.out 2 rfl
    have cFT_3 : w10.cell? ⟨w7.heap.size, 3, none⟩ = some (.slice C7 M.f2.length f7) := clq FT.out 3 rfl
    go_wp2_with fail
    refine Calls.mono (saMail_any M B7 d7 C7 f7 B2 d2 C2 f2 _ HMF.out (Kd.R_reads' T0.out).2.2 (Kd.R_reads' T1.out).2.2 (Kd.R_reads' R0.out).2.2 (Kd.R_reads' R1.out).2.2) ?_
    rintro e w11 ⟨rfl, bw11⟩
    clear zFX cFX_0 cFX_1 cFX_2 cFX_3 zFT cFT_0 cFT_1 cFT_2 cFT_3
    replace FM := Aside0.mk (below_blk FM.out bw11)
    replace FX := Aside0.mk (below_blk FX.out bw11)
    replace FS := Aside0.mk (below_blk FS.out bw11)
    replace FT := Aside0.mk (below_blk FT.out bw11)
    replace R0 := Aside0.mk (Kd.R_below R0.out bw11)
    replace R1 := Aside0.mk (Kd.R_below R1.out bw11)
    replace T0 := Aside0.mk (Kd.R_below T0.out bw11)
    replace T1 := Aside0.mk (Kd.R_below T1.out bw11)
    replace HB := Aside0.mk (bel_then HB.out bw11)
    replace HL := Aside0.mk (Nat.le_trans HL.out bw11.size)
    clear bw11
    go_wp2
    go_ret
    exact ⟨rfl, BW.out.trans (HB.out.mono SZ.out)⟩

end Go.Proofs.YticepbgacokbbaaGreatDoor
