/- The law FnBounce, walked. -/
import Derived.Test.YtiaibgkpohmihaaDoorReg
import Derived.Test.YtiaibgkpohmihaaDoorDrawBnc
import Derived.Test.YtiaibgkpohmihaaDoorBncP
import Derived.Test.YtiaibgkpohmihaaDoorBounceS
import Derived.Test.YtiaibgkpohmihaaDoorSaB
import Derived.Deep.RegionHeld3
namespace Go.Proofs.YtiaibgkpohmihaaDoor
open Go.RowKit Go.Proofs.YtiaibgkpohmihaaDoorW.PrintWords
set_option linter.unusedVariables false
set_option linter.unusedSimpArgs false
theorem bounds_u8' {n : Int} (h : (Lit.int .u8 n).wf = true) : 0 ≤ n ∧ n ≤ 255 := by
 simp [Lit.wf, IntKind.min, IntKind.max, IntKind.signed, IntKind.bits] at h
 omega
attribute [local go_sem high] eqA24
set_option maxRecDepth 100000 in
set_option maxHeartbeats 8000000 in
theorem walk_FnBounce {w : World} (A : Option Addr) (c : Nat) (xs : List Int) (hr : Kd.C (Kd.int .u8) w A xs.length xs) (hg : xs.length ≤ 9223372036854775807 ∧ ∀ y ∈ xs, (Lit.int .u8 y).wf = true) (hc : xs.length ≤ c) (hG : Glob w) :
  Calls Tryd.prog 3 #[.slice A xs.length c] w fun e w' => e = .returned (.bool true) ∧ Below w.heap.size w w' := by
 by_cases n_code : (1048576 : Int) < (xs.length : Int)
 ·generalize xs.length = L at n_code
  go_enter Tryd.func3, Tryd.ntmps3
  go_wp2
  go_ret
  exact ⟨rfl, Below.refl _ _⟩
 have hd := drawBounceOf_any A c xs w ⟨by omega, fun y hy => by have := bounds_u8' (hg.2 y hy); omega⟩ hc hr
 clear hr hg hc
 generalize xs.length = L at n_code hd
 go_enter Tryd.func3, Tryd.ntmps3
 go_wp2_with fail
 refine Calls.mono hd ?_
 rintro e w1 ⟨x, A0, c0, A1, c1, a, rfl, hwx, hsa, r0, r1, b1⟩
 have HG := Lib.hid (hG.below b1)
 have BW := Lib.hid b1
 have SZ := Lib.hid b1.size
 clear hd hG b1

 have hw := wideI_fit hwx
 have ha : fitAddr a := ⟨by have := hsa.1; omega, by have := hsa.2; omega⟩
 have C0 := Aside0.mk (Kd.R_reads' r0).2.2
 have C1 := Aside0.mk (Kd.R_reads' r1).2.2
 have hb := fun W (hW : Below w1.heap.size w1 W) => bounceOf_any x A0 c0 A1 c1 a W hw ha (Kd.C_below C0.out hW) (Kd.C_below C1.out hW) (HG.out.below hW)
 have hsp := fun W (hW : Below w1.heap.size w1 W) => specBounce_any x A0 c0 A1 c1 a W hw ha (Kd.C_below C0.out hW) (Kd.C_below C1.out hW)
 have HLAW := Lib.hid (@bnc_law x a)
 have HFM := Lib.hid (bnc_fit (x := x) (a := a) hw)
 have HW := Lib.hid hw
 have HA := Lib.hid ha
 clear hw ha hwx hsa r0 r1
 generalize bounce x a = M at hb hsp HLAW HFM
 generalize bounceOk x a = q at hb hsp HLAW
 go_wp2_with fail
 obtain ⟨W0, hW0⟩ : ∃ W, W = (w1.alloc (.cells #[.int .i64 x.f0, .string x.f1.f0, .string x.f1.f1, .slice A0 x.f2.length c0, .slice A1 x.f3.length c1] 28)).alloc (.cells #[.string a.f0, .string a.f1] 24) := ⟨_, rfl⟩
 rw [← hW0]
 have HB : Aside0 (Below w1.heap.size w1 W0) := ⟨by rw [hW0]; exact bel_alloc (bel_alloc (Below.refl _ _) _) _⟩
 have FX : Aside0 (W0.heap[w1.heap.size]? = some (.cells #[.int .i64 x.f0, .string x.f1.f0, .string x.f1.f1, .slice A0 x.f2.length c0, .slice A1 x.f3.length c1] 28 (0, 0))) := ⟨by rw [hW0]; exact blk_alloc (blk_new _ _) _⟩
 have FA : Aside0 (W0.heap[w1.heap.size + 1]? = some (.cells #[.string a.f0, .string a.f1] 24 (0, 0))) := ⟨by rw [hW0]; exact blk_at _ _ (by simp)⟩
 clear hW0
 refine Calls.mono (hb W0 HB.out) ?_
 rintro e w2 ⟨B2, d2, C2, f2, rfl, s0, s1, b2⟩
 replace FX := Aside0.mk (below_blk FX.out b2)
 replace FA := Aside0.mk (below_blk FA.out b2)
 replace HB := Aside0.mk (bel_then HB.out b2)
 have R0 := Aside0.mk (Kd.R_reads' s0).2.2
 have R1 := Aside0.mk (Kd.R_reads' s1).2.2
 have hd2 := (Kd.R_reads' s0).2.1
 have hf2 := (Kd.R_reads' s1).2.1
 clear s0 s1 b2 hb
 have cFX_0 : w2.cell? ⟨w1.heap.size, 0, none⟩ = some (.int .i64 x.f0) := clq FX.out 0 rfl
 have cFX_1 : w2.cell? ⟨w1.heap.size, 1, none⟩ = some (.string x.f1.f0) := clq FX.out 1 rfl
 have cFX_2 : w2.cell? ⟨w1.heap.size, 2, none⟩ = some (.string x.f1.f1) := clq FX.out 2 rfl
 have cFX_3 : w2.cell? ⟨w1.heap.size, 3, none⟩ = some (.slice A0 x.f2.length c0) := clq FX.out 3 rfl
 have cFX_4 : w2.cell? ⟨w1.heap.size, 4, none⟩ = some (.slice A1 x.f3.length c1) := clq FX.out 4 rfl
 have cFA_0 : w2.cell? ⟨w1.heap.size + 1, 0, none⟩ = some (.string a.f0) := clq FA.out 0 rfl
 have cFA_1 : w2.cell? ⟨w1.heap.size + 1, 1, none⟩ = some (.string a.f1) := clq FA.out 1 rfl
 have zFX := blk_lt FX.out
 have zFA := blk_lt FA.out
 go_wp2_with fail
 clear cFX_0 cFX_1 cFX_2 cFX_3 cFX_4 cFA_0 cFA_1 zFX zFA
 generalize hX : World.alloc w2 _ = w3
 have bX : Below w2.heap.size w2 w3 := by rw [← hX]; exact bel_alloc (Below.refl _ _) _
 have FM : Aside0 (w3.heap[w2.heap.size]? = some (.cells #[.string M.f0.f0, .string M.f0.f1, .slice B2 M.f1.length d2, .slice C2 M.f2.length f2] 33 (0, 0))) := ⟨by rw [← hX]; exact blk_new _ _⟩
 clear hX
 replace FX := Aside0.mk (below_blk FX.out bX)
 replace FA := Aside0.mk (below_blk FA.out bX)
 replace R0 := Aside0.mk (Kd.C_below R0.out bX)
 replace R1 := Aside0.mk (Kd.C_below R1.out bX)
 replace HB := Aside0.mk (bel_then HB.out bX)
 clear bX
 refine Calls.mono (hsp w3 HB.out) ?_
 rintro e w4 ⟨B4, d4, C4, f4, rfl, s0, s1, b4⟩
 replace FX := Aside0.mk (below_blk FX.out b4)
 replace FA := Aside0.mk (below_blk FA.out b4)
 replace FM := Aside0.mk (below_blk FM.out b4)
 replace R0 := Aside0.mk (Kd.C_below R0.out b4)
 replace R1 := Aside0.mk (Kd.C_below R1.out b4)
 replace HB := Aside0.mk (bel_then HB.out b4)
 have T0 := Aside0.mk (Kd.R_reads' s0).2.2
 have T1 := Aside0.mk (Kd.R_reads' s1).2.2
 clear s0 s1 b4 hsp
 have cFX_0 : w4.cell? ⟨w1.heap.size, 0, none⟩ = some (.int .i64 x.f0) := clq FX.out 0 rfl
 have cFX_1 : w4.cell? ⟨w1.heap.size, 1, none⟩ = some (.string x.f1.f0) := clq FX.out 1 rfl
 have cFX_2 : w4.cell? ⟨w1.heap.size, 2, none⟩ = some (.string x.f1.f1) := clq FX.out 2 rfl
 have cFX_3 : w4.cell? ⟨w1.heap.size, 3, none⟩ = some (.slice A0 x.f2.length c0) := clq FX.out 3 rfl
 have cFX_4 : w4.cell? ⟨w1.heap.size, 4, none⟩ = some (.slice A1 x.f3.length c1) := clq FX.out 4 rfl
 have cFA_0 : w4.cell? ⟨w1.heap.size + 1, 0, none⟩ = some (.string a.f0) := clq FA.out 0 rfl
 have cFA_1 : w4.cell? ⟨w1.heap.size + 1, 1, none⟩ = some (.string a.f1) := clq FA.out 1 rfl
 have cFM_0 : w4.cell? ⟨w2.heap.size, 0, none⟩ = some (.string M.f0.f0) := clq FM.out 0 rfl
 have cFM_1 : w4.cell? ⟨w2.heap.size, 1, none⟩ = some (.string M.f0.f1) := clq FM.out 1 rfl
 have cFM_2 : w4.cell? ⟨w2.heap.size, 2, none⟩ = some (.slice B2 M.f1.length d2) := clq FM.out 2 rfl
 have cFM_3 : w4.cell? ⟨w2.heap.size, 3, none⟩ = some (.slice C2 M.f2.length f2) := clq FM.out 3 rfl
 have zFX := blk_lt FX.out
 have zFA := blk_lt FA.out
 have zFM := blk_lt FM.out
 cases q
 ·go_wp2_with fail
  clear cFX_0 cFX_1 cFX_2 cFX_3 cFX_4 cFA_0 cFA_1 cFM_0 cFM_1 cFM_2 cFM_3 zFX zFA zFM
  generalize hX : World.alloc w4 _ = w5
  have bX : Below w4.heap.size w4 w5 := by rw [← hX]; exact bel_alloc (Below.refl _ _) _
  have FW : Aside0 (w5.heap[w4.heap.size]? = some (.cells #[.string M.f0.f0, .string M.f0.f1, .slice B4 M.f1.length d4, .slice C4 M.f2.length f4] 33 (0, 0))) := ⟨by rw [← hX]; exact blk_new _ _⟩
  clear hX
  replace FX := Aside0.mk (below_blk FX.out bX)
  replace FA := Aside0.mk (below_blk FA.out bX)
  replace FM := Aside0.mk (below_blk FM.out bX)
  replace R0 := Aside0.mk (Kd.C_below R0.out bX)
  replace R1 := Aside0.mk (Kd.C_below R1.out bX)
  replace T0 := Aside0.mk (Kd.C_below T0.out bX)
  replace T1 := Aside0.mk (Kd.C_below T1.out bX)
  replace HB := Aside0.mk (bel_then HB.out bX)
  clear bX
  refine Calls.mono (saMail_any M B2 d2 C2 f2 B4 d4 C4 f4 w5 HFM.out R0.out R1.out T0.out T1.out) ?_
  rintro e w6 ⟨rfl, b6⟩
  replace FX := Aside0.mk (below_blk FX.out b6)
  replace FA := Aside0.mk (below_blk FA.out b6)
  replace FM := Aside0.mk (below_blk FM.out b6)
  replace FW := Aside0.mk (below_blk FW.out b6)
  replace R0 := Aside0.mk (Kd.C_below R0.out b6)
  replace R1 := Aside0.mk (Kd.C_below R1.out b6)
  replace T0 := Aside0.mk (Kd.C_below T0.out b6)
  replace T1 := Aside0.mk (Kd.C_below T1.out b6)
  replace HB := Aside0.mk (bel_then HB.out b6)
  clear b6
  have cFX_0 : w6.cell? ⟨w1.heap.size, 0, none⟩ = some (.int .i64 x.f0) := clq FX.out 0 rfl
  have cFX_1 : w6.cell? ⟨w1.heap.size, 1, none⟩ = some (.string x.f1.f0) := clq FX.out 1 rfl
  have cFX_2 : w6.cell? ⟨w1.heap.size, 2, none⟩ = some (.string x.f1.f1) := clq FX.out 2 rfl
  have cFX_3 : w6.cell? ⟨w1.heap.size, 3, none⟩ = some (.slice A0 x.f2.length c0) := clq FX.out 3 rfl
  have cFX_4 : w6.cell? ⟨w1.heap.size, 4, none⟩ = some (.slice A1 x.f3.length c1) := clq FX.out 4 rfl
  have cFA_0 : w6.cell? ⟨w1.heap.size + 1, 0, none⟩ = some (.string a.f0) := clq FA.out 0 rfl
  have cFA_1 : w6.cell? ⟨w1.heap.size + 1, 1, none⟩ = some (.string a.f1) := clq FA.out 1 rfl
  have cFM_0 : w6.cell? ⟨w2.heap.size, 0, none⟩ = some (.string M.f0.f0) := clq FM.out 0 rfl
  have cFM_1 : w6.cell? ⟨w2.heap.size, 1, none⟩ = some (.string M.f0.f1) := clq FM.out 1 rfl
  have cFM_2 : w6.cell? ⟨w2.heap.size, 2, none⟩ = some (.slice B2 M.f1.length d2) := clq FM.out 2 rfl
  have cFM_3 : w6.cell? ⟨w2.heap.size, 3, none⟩ = some (.slice C2 M.f2.length f2) := clq FM.out 3 rfl
  have cFW_0 : w6.cell? ⟨w4.heap.size, 0, none⟩ = some (.string M.f0.f0) := clq FW.out 0 rfl
  have cFW_1 : w6.cell? ⟨w4.heap.size, 1, none⟩ = some (.string M.f0.f1) := clq FW.out 1 rfl
  have cFW_2 : w6.cell? ⟨w4.heap.size, 2, none⟩ = some (.slice B4 M.f1.length d4) := clq FW.out 2 rfl
  have cFW_3 : w6.cell? ⟨w4.heap.size, 3, none⟩ = some (.slice C4 M.f2.length f4) := clq FW.out 3 rfl
  have zFX := blk_lt FX.out
  have zFA := blk_lt FA.out
  have zFM := blk_lt FM.out
  have zFW := blk_lt FW.out
  go_wp2_with fail
  refine Calls.mono (saMail_any M B2 d2 C2 f2 B4 d4 C4 f4 w6 HFM.out R0.out R1.out T0.out T1.out) ?_
  rintro e w7 ⟨rfl, b7⟩
  replace HB := Aside0.mk (bel_then HB.out b7)
  go_wp2
  go_ret
  exact ⟨rfl, BW.out.trans (HB.out.mono SZ.out)⟩
 ·go_wp2_with fail
  clear cFX_0 cFX_1 cFX_2 cFX_3 cFX_4 cFA_0 cFA_1 cFM_0 cFM_1 cFM_2 cFM_3 zFX zFA zFM
  generalize hX : World.alloc w4 _ = w5
  have bX : Below w4.heap.size w4 w5 := by rw [← hX]; exact bel_alloc (Below.refl _ _) _
  have FW : Aside0 (w5.heap[w4.heap.size]? = some (.cells #[.string M.f0.f0, .string M.f0.f1, .slice B4 M.f1.length d4, .slice C4 M.f2.length f4] 33 (0, 0))) := ⟨by rw [← hX]; exact blk_new _ _⟩
  clear hX
  replace FX := Aside0.mk (below_blk FX.out bX)
  replace FA := Aside0.mk (below_blk FA.out bX)
  replace FM := Aside0.mk (below_blk FM.out bX)
  replace R0 := Aside0.mk (Kd.C_below R0.out bX)
  replace R1 := Aside0.mk (Kd.C_below R1.out bX)
  replace T0 := Aside0.mk (Kd.C_below T0.out bX)
  replace T1 := Aside0.mk (Kd.C_below T1.out bX)
  replace HB := Aside0.mk (bel_then HB.out bX)
  clear bX
  refine Calls.mono (saMail_any M B2 d2 C2 f2 B4 d4 C4 f4 w5 HFM.out R0.out R1.out T0.out T1.out) ?_
  rintro e w6 ⟨rfl, b6⟩
  replace FX := Aside0.mk (below_blk FX.out b6)
  replace FA := Aside0.mk (below_blk FA.out b6)
  replace FM := Aside0.mk (below_blk FM.out b6)
  replace FW := Aside0.mk (below_blk FW.out b6)
  replace R0 := Aside0.mk (Kd.C_below R0.out b6)
  replace R1 := Aside0.mk (Kd.C_below R1.out b6)
  replace T0 := Aside0.mk (Kd.C_below T0.out b6)
  replace T1 := Aside0.mk (Kd.C_below T1.out b6)
  replace HB := Aside0.mk (bel_then HB.out b6)
  clear b6
  have cFX_0 : w6.cell? ⟨w1.heap.size, 0, none⟩ = some (.int .i64 x.f0) := clq FX.out 0 rfl
  have cFX_1 : w6.cell? ⟨w1.heap.size, 1, none⟩ = some (.string x.f1.f0) := clq FX.out 1 rfl
  have cFX_2 : w6.cell? ⟨w1.heap.size, 2, none⟩ = some (.string x.f1.f1) := clq FX.out 2 rfl
  have cFX_3 : w6.cell? ⟨w1.heap.size, 3, none⟩ = some (.slice A0 x.f2.length c0) := clq FX.out 3 rfl
  have cFX_4 : w6.cell? ⟨w1.heap.size, 4, none⟩ = some (.slice A1 x.f3.length c1) := clq FX.out 4 rfl
  have cFA_0 : w6.cell? ⟨w1.heap.size + 1, 0, none⟩ = some (.string a.f0) := clq FA.out 0 rfl
  have cFA_1 : w6.cell? ⟨w1.heap.size + 1, 1, none⟩ = some (.string a.f1) := clq FA.out 1 rfl
  have cFM_0 : w6.cell? ⟨w2.heap.size, 0, none⟩ = some (.string M.f0.f0) := clq FM.out 0 rfl
  have cFM_1 : w6.cell? ⟨w2.heap.size, 1, none⟩ = some (.string M.f0.f1) := clq FM.out 1 rfl
  have cFM_2 : w6.cell? ⟨w2.heap.size, 2, none⟩ = some (.slice B2 M.f1.length d2) := clq FM.out 2 rfl
  have cFM_3 : w6.cell? ⟨w2.heap.size, 3, none⟩ = some (.slice C2 M.f2.length f2) := clq FM.out 3 rfl
  have cFW_0 : w6.cell? ⟨w4.heap.size, 0, none⟩ = some (.string M.f0.f0) := clq FW.out 0 rfl
  have cFW_1 : w6.cell? ⟨w4.heap.size, 1, none⟩ = some (.string M.f0.f1) := clq FW.out 1 rfl
  have cFW_2 : w6.cell? ⟨w4.heap.size, 2, none⟩ = some (.slice B4 M.f1.length d4) := clq FW.out 2 rfl
  have cFW_3 : w6.cell? ⟨w4.heap.size, 3, none⟩ = some (.slice C4 M.f2.length f4) := clq FW.out 3 rfl
  have zFX := blk_lt FX.out
  have zFA := blk_lt FA.out
  have zFM := blk_lt FM.out
  have zFW := blk_lt FW.out
  go_wp2_with fail
  obtain ⟨h1, h2, h3, h4, e0, e1, e2, ⟨r, e3, hr⟩, e4⟩ := HLAW.out trivial
  have HM1 := Lib.hid h1
  have HM2 := Lib.hid h2
  have HM3 := Lib.hid h3
  have HM4 := Lib.hid h4
  have l1 : M.f1.length = 1 := by rw [e2]; rfl
  have l2 : 2 ≤ M.f2.length := by rw [e3]; simp
  have l3 : (1 : Int) < (M.f2.length : Int) := by omega
  obtain ⟨ta, et, p0, p1⟩ := at_Addr R0.out 0 (by omega)
  obtain ⟨ca, ec, p2⟩ := at_Str R1.out 1 (by omega)
  simp only [e2, List.getD_cons_zero, Nat.zero_mul] at p0 p1
  rw [show ta.add 0 = ta by cases ta; simp [Addr.add]] at p0 p1
  rw [show ca.add 1 = ⟨ca.block, ca.off + 1, none⟩ by simp [Addr.add]] at p2
  simp only [e3, List.getD_cons_succ, List.getD_cons_zero, Nat.one_mul] at p2
  subst et
  subst ec
  rw [e0] at cFM_0
  rw [e1] at cFM_1
  rw [l1] at cFM_2
  generalize htx : textS a.f0 a.f1 = tx at p2 e3
  have HTX := Lib.hid htx
  clear htx h1 h2 h3 h4 hr
  have hmo : ∀ W, Below w6.heap.size w6 W → Calls Tryd.prog 10 #[.agg #[.string ⟨#[]⟩, .string ⟨#[]⟩, .slice (some ta) 1 d2, .slice (some ca) M.f2.length f2]] W fun e w' => e = .returned (.bool true) ∧ Below W.heap.size W w' := fun W hW => by
   have hf := HFM.out
   have h := MailOk_any M.f0.f0 M.f0.f1 (some ta) d2 M.f1 (some ca) f2 M.f2 W (by have := hf.1.1; omega) (by have := hf.1.2; omega) (Kd.C_below R0.out hW) (by have := hf.2.1.1; omega) (fun z hz => afit_of z (hf.2.1.2 z hz)) (Kd.C_below R1.out hW) (bfit_of hf.2.2).1 (bfit_of hf.2.2).2 (HG.out.below (bel_then HB.out hW))
   have e : mailOk M.f0.f0.data.toList M.f0.f1.data.toList M.f1 M.f2 = true := HM1.out
   rw [e, e0, e1, l1] at h
   exact h
  have hap : ∀ W, Below w6.heap.size w6 W → Calls Tryd.prog 11 #[.agg #[.string a.f0, .string a.f1]] W fun e w' => e = .returned (.string tx) ∧ Below W.heap.size W w' := fun W hW => by
   have h := addrPut_any a W HA.out HM4.out (HG.out.below (bel_then HB.out hW))
   rw [HTX.out] at h
   exact h
  have hk1 : ∀ W, Below w6.heap.size w6 W → Calls Tryd.prog 12 #[.slice (some ca) M.f2.length f2] W fun e w' => e = .returned (.string (markOf x.f3)) ∧ Below W.heap.size W w' := fun W hW => by
   have hf := HFM.out
   have h := markOf_any (some ca) f2 M.f2 W (Kd.C_below R1.out hW) hf.2.2.1 (fun z hz => (bfit_of hf.2.2).2 z hz) HM2.out
   rw [e4] at h
   exact h
  have hk2 : ∀ W, Below w6.heap.size w6 W → Calls Tryd.prog 12 #[.slice A1 x.f3.length c1] W fun e w' => e = .returned (.string (markOf x.f3)) ∧ Below W.heap.size W w' := fun W hW => by
   have hf := HW.out
   exact markOf_any A1 c1 x.f3 W (Kd.C_below C1.out (bel_then HB.out hW)) hf.2.2.2.1 (fun z hz => (bfit_of hf.2.2.2).2 z hz) HM3.out
  have HK : Aside0 (∀ W W1, Below W.heap.size W W1 → (W.cell? ⟨w2.heap.size, 0, none⟩ = some (.string ⟨#[]⟩) ∧ W.cell? ⟨w2.heap.size, 1, none⟩ = some (.string ⟨#[]⟩) ∧ W.cell? ⟨w2.heap.size, 2, none⟩ = some (.slice (some ta) 1 d2) ∧ W.cell? ⟨w2.heap.size, 3, none⟩ = some (.slice (some ca) M.f2.length f2) ∧ W.cell? ⟨w1.heap.size, 1, none⟩ = some (.string x.f1.f0) ∧ W.cell? ⟨w1.heap.size, 2, none⟩ = some (.string x.f1.f1) ∧ W.cell? ⟨w1.heap.size, 4, none⟩ = some (.slice A1 x.f3.length c1) ∧ W.cell? ⟨w1.heap.size + 1, 0, none⟩ = some (.string a.f0) ∧ W.cell? ⟨w1.heap.size + 1, 1, none⟩ = some (.string a.f1) ∧ W.cell? ta = some (.string x.f1.f0) ∧ W.cell? ⟨ta.block, ta.off + 1, none⟩ = some (.string x.f1.f1) ∧ W.cell? ⟨ca.block, ca.off + 1, none⟩ = some (.string tx) ∧ Below w6.heap.size w6 W) → (W1.cell? ⟨w2.heap.size, 0, none⟩ = some (.string ⟨#[]⟩) ∧ W1.cell? ⟨w2.heap.size, 1, none⟩ = some (.string ⟨#[]⟩) ∧ W1.cell? ⟨w2.heap.size, 2, none⟩ = some (.slice (some ta) 1 d2) ∧ W1.cell? ⟨w2.heap.size, 3, none⟩ = some (.slice (some ca) M.f2.length f2) ∧ W1.cell? ⟨w1.heap.size, 1, none⟩ = some (.string x.f1.f0) ∧ W1.cell? ⟨w1.heap.size, 2, none⟩ = some (.string x.f1.f1) ∧ W1.cell? ⟨w1.heap.size, 4, none⟩ = some (.slice A1 x.f3.length c1) ∧ W1.cell? ⟨w1.heap.size + 1, 0, none⟩ = some (.string a.f0) ∧ W1.cell? ⟨w1.heap.size + 1, 1, none⟩ = some (.string a.f1) ∧ W1.cell? ta = some (.string x.f1.f0) ∧ W1.cell? ⟨ta.block, ta.off + 1, none⟩ = some (.string x.f1.f1) ∧ W1.cell? ⟨ca.block, ca.off + 1, none⟩ = some (.string tx) ∧ Below w6.heap.size w6 W1)) := ⟨fun W W1 hb h => ⟨(hb.cell (World.block_lt_of_cell? W _ (h.1))).trans (h.1), (hb.cell (World.block_lt_of_cell? W _ (h.2.1))).trans (h.2.1), (hb.cell (World.block_lt_of_cell? W _ (h.2.2.1))).trans (h.2.2.1), (hb.cell (World.block_lt_of_cell? W _ (h.2.2.2.1))).trans (h.2.2.2.1), (hb.cell (World.block_lt_of_cell? W _ (h.2.2.2.2.1))).trans (h.2.2.2.2.1), (hb.cell (World.block_lt_of_cell? W _ (h.2.2.2.2.2.1))).trans (h.2.2.2.2.2.1), (hb.cell (World.block_lt_of_cell? W _ (h.2.2.2.2.2.2.1))).trans (h.2.2.2.2.2.2.1), (hb.cell (World.block_lt_of_cell? W _ (h.2.2.2.2.2.2.2.1))).trans (h.2.2.2.2.2.2.2.1), (hb.cell (World.block_lt_of_cell? W _ (h.2.2.2.2.2.2.2.2.1))).trans (h.2.2.2.2.2.2.2.2.1), (hb.cell (World.block_lt_of_cell? W _ (h.2.2.2.2.2.2.2.2.2.1))).trans (h.2.2.2.2.2.2.2.2.2.1), (hb.cell (World.block_lt_of_cell? W _ (h.2.2.2.2.2.2.2.2.2.2.1))).trans (h.2.2.2.2.2.2.2.2.2.2.1), (hb.cell (World.block_lt_of_cell? W _ (h.2.2.2.2.2.2.2.2.2.2.2.1))).trans (h.2.2.2.2.2.2.2.2.2.2.2.1), bel_then (h.2.2.2.2.2.2.2.2.2.2.2.2) hb⟩⟩
  have HST : Aside0 ((fun W => W.cell? ⟨w2.heap.size, 0, none⟩ = some (.string ⟨#[]⟩) ∧ W.cell? ⟨w2.heap.size, 1, none⟩ = some (.string ⟨#[]⟩) ∧ W.cell? ⟨w2.heap.size, 2, none⟩ = some (.slice (some ta) 1 d2) ∧ W.cell? ⟨w2.heap.size, 3, none⟩ = some (.slice (some ca) M.f2.length f2) ∧ W.cell? ⟨w1.heap.size, 1, none⟩ = some (.string x.f1.f0) ∧ W.cell? ⟨w1.heap.size, 2, none⟩ = some (.string x.f1.f1) ∧ W.cell? ⟨w1.heap.size, 4, none⟩ = some (.slice A1 x.f3.length c1) ∧ W.cell? ⟨w1.heap.size + 1, 0, none⟩ = some (.string a.f0) ∧ W.cell? ⟨w1.heap.size + 1, 1, none⟩ = some (.string a.f1) ∧ W.cell? ta = some (.string x.f1.f0) ∧ W.cell? ⟨ta.block, ta.off + 1, none⟩ = some (.string x.f1.f1) ∧ W.cell? ⟨ca.block, ca.off + 1, none⟩ = some (.string tx) ∧ Below w6.heap.size w6 W) w6.drew) := ⟨⟨cFM_0, cFM_1, cFM_2, cFM_3, cFX_1, cFX_2, cFX_4, cFA_0, cFA_1, p0, p1, p2, drew_below0 w6⟩⟩
  generalize markOf x.f3 = mk at hk1 hk2
  clear cFX_0 cFX_1 cFX_2 cFX_3 cFX_4 cFA_0 cFA_1 cFM_0 cFM_1 cFM_2 cFM_3 cFW_0 cFW_1 cFW_2 cFW_3 zFX zFA zFM zFW
  clear p0 p1 p2 R0 R1 T0 T1 FX FA FM FW C0 C1 HLAW HFM HW HA HM1 HM2 HM3 HM4 HTX e0 e1 e2 e3 e4 l1
  refine wp_region_held_drew (S := (fun W => W.cell? ⟨w2.heap.size, 0, none⟩ = some (.string ⟨#[]⟩) ∧ W.cell? ⟨w2.heap.size, 1, none⟩ = some (.string ⟨#[]⟩) ∧ W.cell? ⟨w2.heap.size, 2, none⟩ = some (.slice (some ta) 1 d2) ∧ W.cell? ⟨w2.heap.size, 3, none⟩ = some (.slice (some ca) M.f2.length f2) ∧ W.cell? ⟨w1.heap.size, 1, none⟩ = some (.string x.f1.f0) ∧ W.cell? ⟨w1.heap.size, 2, none⟩ = some (.string x.f1.f1) ∧ W.cell? ⟨w1.heap.size, 4, none⟩ = some (.slice A1 x.f3.length c1) ∧ W.cell? ⟨w1.heap.size + 1, 0, none⟩ = some (.string a.f0) ∧ W.cell? ⟨w1.heap.size + 1, 1, none⟩ = some (.string a.f1) ∧ W.cell? ta = some (.string x.f1.f0) ∧ W.cell? ⟨ta.block, ta.off + 1, none⟩ = some (.string x.f1.f1) ∧ W.cell? ⟨ca.block, ca.off + 1, none⟩ = some (.string tx) ∧ Below w6.heap.size w6 W)) (by kernel_rfl) ?s746 (fun hHeld => ?t746)
  case s746 => exact HST.out
  generalize World.drew _ = V0 at hHeld ⊢
  refine tk 0 ?v747 ?y747 ?r747
  case y747 => intro w_ hSw; (try dsimp only at hSw); go_simp; (try (with_reducible rfl))
  try simp only [Act.put, List.setIfInBounds_toArray, List.set_cons_zero, List.set_cons_succ]
  refine rdy (rs := [1]) ?_
  refine rc (fun K hK => ?k748) AllReadyH.nil
  case k748 =>
   go_simp
   refine Calls.mono (hmo _ (hHeld.2.2.2.2.2.2.2.2.2.2.2.2)) ?_
   rintro e V1 ⟨rfl, b1⟩
   refine hK.out _ _ ?h749 (fun hHeld => ?j749)
   case h749 => exact HK.out _ _ b1 hHeld
   clear hK K
   try simp only [Act.put, List.setIfInBounds_toArray, List.set_cons_zero, List.set_cons_succ]
   refine tk 2 ?v750 ?y750 ?r750
   case y750 => intro w_ hSw; (try dsimp only at hSw); go_simp; (try (with_reducible rfl))
   try simp only [Act.put, List.setIfInBounds_toArray, List.set_cons_zero, List.set_cons_succ]
   refine tk 3 ?v751 ?y751 ?r751
   case y751 => intro w_ hSw; (try dsimp only at hSw); go_simp; (try (with_reducible rfl))
   try simp only [Act.put, List.setIfInBounds_toArray, List.set_cons_zero, List.set_cons_succ]
   refine tk 4 ?v752 ?y752 ?r752
   case y752 => intro w_ hSw; (try dsimp only at hSw); go_simp; (try (with_reducible rfl))
   try simp only [Act.put, List.setIfInBounds_toArray, List.set_cons_zero, List.set_cons_succ]
   refine tk 5 ?v753 ?y753 ?r753
   case y753 => intro w_ hSw; (try dsimp only at hSw); go_simp; (try (with_reducible rfl))
   try simp only [Act.put, List.setIfInBounds_toArray, List.set_cons_zero, List.set_cons_succ]
   refine tk 6 ?v754 ?y754 ?r754
   case y754 => intro w_ hSw; (try dsimp only at hSw); go_simp; (try (with_reducible rfl))
   try simp only [Act.put, List.setIfInBounds_toArray, List.set_cons_zero, List.set_cons_succ]
   refine tk 7 ?v755 ?y755 ?r755
   case y755 => intro w_ hSw; (try dsimp only at hSw); go_simp; (try (with_reducible rfl))
   try simp only [Act.put, List.setIfInBounds_toArray, List.set_cons_zero, List.set_cons_succ]
   refine tk 8 ?v756 ?y756 ?r756
   case y756 => intro w_ hSw; (try dsimp only at hSw); go_simp; (try (with_reducible rfl))
   try simp only [Act.put, List.setIfInBounds_toArray, List.set_cons_zero, List.set_cons_succ]
   refine tk 9 ?v757 ?y757 ?r757
   case y757 => intro w_ hSw; (try dsimp only at hSw); go_simp; (try (with_reducible rfl))
   try simp only [Act.put, List.setIfInBounds_toArray, List.set_cons_zero, List.set_cons_succ]
   refine tk 10 ?v758 ?y758 ?r758
   case y758 => intro w_ hSw; (try dsimp only at hSw); go_simp; (try (with_reducible rfl))
   try simp only [Act.put, List.setIfInBounds_toArray, List.set_cons_zero, List.set_cons_succ]
   refine tk 11 ?v759 ?y759 ?r759
   case y759 => intro w_ hSw; (try dsimp only at hSw); go_simp; (try (with_reducible rfl))
   try simp only [Act.put, List.setIfInBounds_toArray, List.set_cons_zero, List.set_cons_succ]
   refine tk 12 ?v760 ?y760 ?r760
   case y760 => intro w_ hSw; (try dsimp only at hSw); go_simp; (try (with_reducible rfl))
   try simp only [Act.put, List.setIfInBounds_toArray, List.set_cons_zero, List.set_cons_succ]
   refine tk 13 ?v761 ?y761 ?r761
   case y761 => intro w_ hSw; (try dsimp only at hSw); go_simp; (try (with_reducible rfl))
   try simp only [Act.put, List.setIfInBounds_toArray, List.set_cons_zero, List.set_cons_succ]
   refine tk 14 ?v762 ?y762 ?r762
   case y762 => intro w_ hSw; (try dsimp only at hSw); go_simp; (try (with_reducible rfl))
   try simp only [Act.put, List.setIfInBounds_toArray, List.set_cons_zero, List.set_cons_succ]
   refine tk 15 ?v763 ?y763 ?r763
   case y763 => intro w_ hSw; (try dsimp only at hSw); go_simp; (try (with_reducible rfl))
   try simp only [Act.put, List.setIfInBounds_toArray, List.set_cons_zero, List.set_cons_succ]
   refine tk 16 ?v764 ?y764 ?r764
   case y764 => intro w_ hSw; (try dsimp only at hSw); go_simp; (try (with_reducible rfl))
   try simp only [Act.put, List.setIfInBounds_toArray, List.set_cons_zero, List.set_cons_succ]
   refine tk 17 ?v765 ?y765 ?r765
   case y765 => intro w_ hSw; (try dsimp only at hSw); go_simp; (try (with_reducible rfl))
   try simp only [Act.put, List.setIfInBounds_toArray, List.set_cons_zero, List.set_cons_succ]
   refine tk 18 ?v766 ?y766 ?r766
   case y766 => intro w_ hSw; (try dsimp only at hSw); go_simp; (try (with_reducible rfl))
   try simp only [Act.put, List.setIfInBounds_toArray, List.set_cons_zero, List.set_cons_succ]
   refine tk 19 ?v767 ?y767 ?r767
   case y767 => intro w_ hSw; (try dsimp only at hSw); go_simp; (try (with_reducible rfl))
   try simp only [Act.put, List.setIfInBounds_toArray, List.set_cons_zero, List.set_cons_succ]
   refine tk 20 ?v768 ?y768 ?r768
   case y768 => intro w_ hSw; (try dsimp only at hSw); go_simp; (try (with_reducible rfl))
   try simp only [Act.put, List.setIfInBounds_toArray, List.set_cons_zero, List.set_cons_succ]
   refine tk 21 ?v769 ?y769 ?r769
   case y769 => intro w_ hSw; (try dsimp only at hSw); go_simp; (try (with_reducible rfl))
   try simp only [Act.put, List.setIfInBounds_toArray, List.set_cons_zero, List.set_cons_succ]
   refine tk 22 ?v770 ?y770 ?r770
   case y770 => intro w_ hSw; (try dsimp only at hSw); go_simp; (try (with_reducible rfl))
   try simp only [Act.put, List.setIfInBounds_toArray, List.set_cons_zero, List.set_cons_succ]
   refine tk 23 ?v771 ?y771 ?r771
   case y771 => intro w_ hSw; (try dsimp only at hSw); go_simp; (try (with_reducible rfl))
   try simp only [Act.put, List.setIfInBounds_toArray, List.set_cons_zero, List.set_cons_succ]
   refine tk 24 ?v772 ?y772 ?r772
   case y772 => intro w_ hSw; (try dsimp only at hSw); go_simp; (try (with_reducible rfl))
   try simp only [Act.put, List.setIfInBounds_toArray, List.set_cons_zero, List.set_cons_succ]
   refine tk 25 ?v773 ?y773 ?r773
   case y773 => intro w_ hSw; (try dsimp only at hSw); go_simp; (try (with_reducible rfl))
   try simp only [Act.put, List.setIfInBounds_toArray, List.set_cons_zero, List.set_cons_succ]
   refine tk 26 ?v774 ?y774 ?r774
   case y774 => intro w_ hSw; (try dsimp only at hSw); go_simp; (try (with_reducible rfl))
   try simp only [Act.put, List.setIfInBounds_toArray, List.set_cons_zero, List.set_cons_succ]
   refine tk 27 ?v775 ?y775 ?r775
   case y775 => intro w_ hSw; (try dsimp only at hSw); go_simp; (try (with_reducible rfl))
   try simp only [Act.put, List.setIfInBounds_toArray, List.set_cons_zero, List.set_cons_succ]
   refine tk 28 ?v776 ?y776 ?r776
   case y776 => intro w_ hSw; (try dsimp only at hSw); go_simp; (try (with_reducible rfl))
   try simp only [Act.put, List.setIfInBounds_toArray, List.set_cons_zero, List.set_cons_succ]
   refine rdy (rs := [29]) ?_
   refine rc (fun K hK => ?k777) AllReadyH.nil
   case k777 =>
    go_simp
    refine Calls.mono (hap _ (hHeld.2.2.2.2.2.2.2.2.2.2.2.2)) ?_
    rintro e V29 ⟨rfl, b29⟩
    refine hK.out _ _ ?h778 (fun hHeld => ?j778)
    case h778 => exact HK.out _ _ b29 hHeld
    clear hK K
    try simp only [Act.put, List.setIfInBounds_toArray, List.set_cons_zero, List.set_cons_succ]
    refine tk 30 ?v779 ?y779 ?r779
    case y779 => intro w_ hSw; (try dsimp only at hSw); go_simp; (try (with_reducible rfl))
    try simp only [Act.put, List.setIfInBounds_toArray, List.set_cons_zero, List.set_cons_succ]
    refine tk 31 ?v780 ?y780 ?r780
    case y780 => intro w_ hSw; (try dsimp only at hSw); go_simp; (try (with_reducible rfl))
    try simp only [Act.put, List.setIfInBounds_toArray, List.set_cons_zero, List.set_cons_succ]
    refine tk 32 ?v781 ?y781 ?r781
    case y781 => intro w_ hSw; (try dsimp only at hSw); go_simp; (try (with_reducible rfl))
    try simp only [Act.put, List.setIfInBounds_toArray, List.set_cons_zero, List.set_cons_succ]
    refine tk 33 ?v782 ?y782 ?r782
    case y782 => intro w_ hSw; (try dsimp only at hSw); go_simp; (try (with_reducible rfl))
    try simp only [Act.put, List.setIfInBounds_toArray, List.set_cons_zero, List.set_cons_succ]
    refine tk 34 ?v783 ?y783 ?r783
    case y783 => intro w_ hSw; (try dsimp only at hSw); go_simp; (try (with_reducible rfl))
    try simp only [Act.put, List.setIfInBounds_toArray, List.set_cons_zero, List.set_cons_succ]
    refine tk 36 ?v784 ?y784 ?r784
    case y784 => intro w_ hSw; (try dsimp only at hSw); go_simp; (try (with_reducible rfl))
    try simp only [Act.put, List.setIfInBounds_toArray, List.set_cons_zero, List.set_cons_succ]
    refine tk 37 ?v785 ?y785 ?r785
    case y785 => intro w_ hSw; (try dsimp only at hSw); go_simp; (try (with_reducible rfl))
    try simp only [Act.put, List.setIfInBounds_toArray, List.set_cons_zero, List.set_cons_succ]
    refine rdy (rs := [35]) ?_
    refine rc (fun K hK => ?k786) AllReadyH.nil
    case k786 =>
     go_simp
     refine Calls.mono (hk1 _ (hHeld.2.2.2.2.2.2.2.2.2.2.2.2)) ?_
     rintro e V35 ⟨rfl, b35⟩
     refine hK.out _ _ ?h787 (fun hHeld => ?j787)
     case h787 => exact HK.out _ _ b35 hHeld
     clear hK K
     try simp only [Act.put, List.setIfInBounds_toArray, List.set_cons_zero, List.set_cons_succ]
     refine rdy (rs := [38]) ?_
     refine rc (fun K hK => ?k788) AllReadyH.nil
     case k788 =>
      go_simp
      refine Calls.mono (hk2 _ (hHeld.2.2.2.2.2.2.2.2.2.2.2.2)) ?_
      rintro e V38 ⟨rfl, b38⟩
      refine hK.out _ _ ?h789 (fun hHeld => ?j789)
      case h789 => exact HK.out _ _ b38 hHeld
      clear hK K
      try simp only [Act.put, List.setIfInBounds_toArray, List.set_cons_zero, List.set_cons_succ]
      refine tk 39 ?v790 ?y790 ?r790
      case y790 => intro w_ hSw; (try dsimp only at hSw); go_simp; (try (with_reducible rfl))
      try simp only [Act.put, List.setIfInBounds_toArray, List.set_cons_zero, List.set_cons_succ]
      refine tk 40 ?v791 ?y791 ?r791
      case y791 => intro w_ hSw; (try dsimp only at hSw); go_simp; (try (with_reducible rfl))
      try simp only [Act.put, List.setIfInBounds_toArray, List.set_cons_zero, List.set_cons_succ]
      refine tk 41 ?v792 ?y792 ?r792
      case y792 => intro w_ hSw; (try dsimp only at hSw); go_simp; (try (with_reducible rfl))
      try simp only [Act.put, List.setIfInBounds_toArray, List.set_cons_zero, List.set_cons_succ]
      refine wpAnyH_done (by kernel_rfl) ?_ _
      go_wp2
      go_ret
      exact ⟨rfl, BW.out.trans ((bel_then HB.out (hHeld.2.2.2.2.2.2.2.2.2.2.2.2)).mono SZ.out)⟩

end Go.Proofs.YtiaibgkpohmihaaDoor
