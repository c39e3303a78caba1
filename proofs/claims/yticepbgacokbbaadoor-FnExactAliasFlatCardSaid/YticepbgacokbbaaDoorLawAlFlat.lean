/- The law FnExactAliasFlat, walked. -/
import Derived.Test.YticepbgacokbbaaDoorAlS5
import Derived.Test.YticepbgacokbbaaDoorAlFit
import Derived.Test.YticepbgacokbbaaDoorTo
import Derived.Test.YticepbgacokbbaaDoorEq
import Derived.Test.YticepbgacokbbaaDoorHeldN
namespace Go.Proofs.YticepbgacokbbaaDoor
open Go.RowKit Go.Proofs.YticepbgacokbbaaDoorW.PrintWords
set_option linter.unusedVariables false
set_option linter.unusedSimpArgs false
set_option maxRecDepth 100000 in
set_option maxHeartbeats 40000000 in
theorem walk_FnExactAliasFlat {w : World} (Alist0 : Option Addr) (clist0 : Nat) (list : (List SAlias)) (hr_list0 : Kd.C kAlias w Alist0 list.length list) (hw_list : (list.length ≤ 9223372036854775807 ∧ ∀ y ∈ list, wideAlias y)) (hG : Glob w) :
  Calls Tryd.prog 9 #[.slice Alist0 list.length clist0] w fun e w' => e = .returned (.bool true) ∧ Below w.heap.size w w' := by
 have hsz_list := fun (l : Int) (W : World) (hW : Below w.heap.size w W) (l0_ : 0 ≤ l) (l1_ : l ≤ 1048576) => szAliasS_any Alist0 clist0 list l W l0_ l1_ hw_list (Kd.C_below hr_list0 hW)
 have hto_list := fun (W : World) (hW : Below w.heap.size w W) (hf : (list.length ≤ 1048576 ∧ ∀ y ∈ list, fitAlias y)) => toAliasS_any Alist0 clist0 list W hf (Kd.C_below hr_list0 hW)
 have HG := Lib.hid hG
 obtain ⟨M0, hm0⟩ : ∃ M, M = aliasFlat list := ⟨_, rfl⟩
 have HV0 := Lib.hid hm0.symm
 clear hm0
 clear hw_list hr_list0 hG
 go_enter Tryd.func9, Tryd.ntmps9
 go_wp2_with fail
 have HB0 := Aside0.mk (Below.refl w.heap.size w)
 go_wp2_with fail
 refine (hsz_list _ _ (bel_then HB0.out (Below.refl w.heap.size w)) (by omega) (by omega)).mono ?_
 rintro e w1 ⟨r_list, rfl, le_list, s_list, b1⟩
 have bb1 := bel_then (Below.refl w.heap.size w) b1
 have B1 := bel_then (Below.refl w.heap.size w) bb1
 have sz1 := bb1.size
 clear b1 bb1 hsz_list
 by_cases n_list : r_list < 0
 ·go_wp2
  go_ret
  exact ⟨rfl, bel_then HB0.out B1⟩
 rw [Int.not_lt] at n_list
 have f_list := s_list n_list
 clear s_list
 have HVF0 : Hid ((M0.length ≤ 1048576 ∧ ∀ y ∈ M0, fitAlias y)) := Lib.hid (by have h := aliasFlat_fit f_list; rw [HV0.out] at h; exact h)
 have hcall := fun (W : World) (hW : Below w1.heap.size w1 W) => hto_list W (bel_then HB0.out (bel_then B1 hW)) f_list
 go_wp2_with fail
 refine (hcall _ (Below.refl _ _)).mono ?_
 rintro e w2 ⟨Qlist0, qlist0, rfl, gq_list0, b2⟩
 clear hcall
 have bb2 := bel_then (Below.refl w1.heap.size w1) b2
 have B2 := bel_then B1 bb2
 have sz2 := bb2.size
 have Tlist0 := Aside0.mk gq_list0
 clear gq_list0
 clear b2 bb2
 have hcall := fun (W : World) (hW : Below w2.heap.size w2 W) => specAliasFlat_any Qlist0 qlist0 list W f_list (Kd.C_below (Kd.S_reads' Tlist0.out).2.2 hW)
 simp only [HV0.out] at hcall
 go_wp2_with fail
 refine (hcall _ (Below.refl _ _)).mono ?_
 rintro e w3 ⟨D0_0, dd0_0, rfl, gu0_0, b3⟩
 clear hcall
 clear Tlist0
 have lo3 : w2.heap.size ≤ w3.heap.size := by have := b3.size; (try simp at this); omega
 have HW0_0 := Aside0.mk (Kd.S_mono (Kd.S_bound gu0_0) (ok' := (fun q => w2.heap.size ≤ q ∧ q < w3.heap.size)) (fun q hq => ⟨by have h2 := hq.2.1; (try simp at h2); omega, hq.2.2.1⟩))
 clear gu0_0
 have bb3 := bel_then (Below.refl w2.heap.size w2) b3
 have B3 := bel_then B2 bb3
 have sz3 := bb3.size
 clear b3 bb3
 have hcall := fun (W : World) (hW : Below w3.heap.size w3 W) => hto_list W (bel_then HB0.out (bel_then B3 hW)) f_list
 go_wp2_with fail
 refine (hcall _ (Below.refl _ _)).mono ?_
 rintro e w4 ⟨Elist0, elist0, rfl, gx_list0, b4⟩
 clear hcall
 have lo4 : w3.heap.size ≤ w4.heap.size := by have := b4.size; (try simp at this); omega
 have Xlist0 := Aside0.mk (Kd.S_mono (Kd.S_bound gx_list0) (ok' := fun q => w3.heap.size ≤ q ∧ q < w4.heap.size) (fun q hq => ⟨by have h2 := hq.2.1; (try simp at h2); omega, hq.2.2.1⟩))
 clear gx_list0
 have bb4 := bel_then (Below.refl w3.heap.size w3) b4
 have B4 := bel_then B3 bb4
 have sz4 := bb4.size
 replace HW0_0 := Aside0.mk (Kd.S_below HW0_0.out bb4)
 clear b4 bb4
 have hcall := fun (W : World) (hW : Below w4.heap.size w4 W) => aliasFlat_any Elist0 elist0 list W f_list (Kd.C_below (Kd.S_reads' Xlist0.out).2.2 hW) (HG.out.below (bel_then HB0.out (bel_then B4 hW)))
 simp only [HV0.out] at hcall
 go_wp2_with fail
 refine (hcall _ (Below.refl _ _)).mono ?_
 rintro e w5 ⟨G0_0, gd0_0, rfl, gu0_0, b5⟩
 clear hcall
 have lo5 : w4.heap.size ≤ w5.heap.size := by have := b5.size; (try simp at this); omega
 have HG0_0 := Aside0.mk (Kd.S_mono (Kd.S_bound gu0_0) (ok' := (fun q => w4.heap.size ≤ q ∧ q < w5.heap.size)) (fun q hq => ⟨by have h2 := hq.2.1; (try simp at h2); omega, hq.2.2.1⟩))
 clear gu0_0
 have bb5 := bel_then (Below.refl w4.heap.size w4) b5
 have B5 := bel_then B4 bb5
 have sz5 := bb5.size
 replace HW0_0 := Aside0.mk (Kd.S_below HW0_0.out bb5)
 replace Xlist0 := Aside0.mk (Kd.S_below Xlist0.out bb5)
 clear b5 bb5
 have hcall := fun (W : World) (hW : Below w5.heap.size w5 W) => eqAliasS_any G0_0 gd0_0 D0_0 dd0_0 M0 W HVF0.out (Kd.C_below (Kd.S_reads' HG0_0.out).2.2 hW) (Kd.C_below (Kd.S_reads' HW0_0.out).2.2 hW)
 go_wp2_with fail
 refine (hcall _ (Below.refl _ _)).mono ?_
 rintro e w6 ⟨rfl, b6⟩
 clear hcall
 have bb6 := bel_then (Below.refl w5.heap.size w5) b6
 have B6 := bel_then B5 bb6
 have sz6 := bb6.size
 replace HW0_0 := Aside0.mk (Kd.S_below HW0_0.out bb6)
 replace Xlist0 := Aside0.mk (Kd.S_below Xlist0.out bb6)
 replace HG0_0 := Aside0.mk (Kd.S_below HG0_0.out bb6)
 clear b6 bb6
 have hcall := fun (W : World) (hW : Below w6.heap.size w6 W) => hto_list W (bel_then HB0.out (bel_then B6 hW)) f_list
 go_wp2_with fail
 refine (hcall _ (Below.refl _ _)).mono ?_
 rintro e w7 ⟨Qlist0, qlist0, rfl, gq_list0, b7⟩
 clear hcall
 have bb7 := bel_then (Below.refl w6.heap.size w6) b7
 have B7 := bel_then B6 bb7
 have sz7 := bb7.size
 replace HW0_0 := Aside0.mk (Kd.S_below HW0_0.out bb7)
 replace Xlist0 := Aside0.mk (Kd.S_below Xlist0.out bb7)
 replace HG0_0 := Aside0.mk (Kd.S_below HG0_0.out bb7)
 have Tlist0 := Aside0.mk gq_list0
 clear gq_list0
 clear b7 bb7
 have hcall := fun (W : World) (hW : Below w7.heap.size w7 W) => eqAliasS_any Elist0 elist0 Qlist0 qlist0 list W f_list (Kd.C_below (Kd.S_reads' Xlist0.out).2.2 hW) (Kd.C_below (Kd.S_reads' Tlist0.out).2.2 hW)
 go_wp2_with fail
 refine (hcall _ (Below.refl _ _)).mono ?_
 rintro e w8 ⟨rfl, b8⟩
 clear hcall
 have bb8 := bel_then (Below.refl w7.heap.size w7) b8
 have B8 := bel_then B7 bb8
 have sz8 := bb8.size
 replace HW0_0 := Aside0.mk (Kd.S_below HW0_0.out bb8)
 replace Xlist0 := Aside0.mk (Kd.S_below Xlist0.out bb8)
 replace HG0_0 := Aside0.mk (Kd.S_below HG0_0.out bb8)
 replace Tlist0 := Aside0.mk (Kd.S_below Tlist0.out bb8)
 clear b8 bb8
 clear Tlist0
 go_wp2_with fail
 refine (calls_at (a := 1) rfl (markAliasS_any Elist0 elist0 elist0 list.length list 1 _ _ _ Xlist0.out f_list.1 (fun y hy => Alias_lens (f_list.2 y hy)) (by omega))).mono ?_
 rintro e w9 ⟨he, le_, _, t_⟩
 have hl_0 : list.length ≤ 1048576 := f_list.1
 obtain ⟨k9, hk9, rfl⟩ : ∃ r : Nat, r ≤ 70368744177664 ∧ e = .returned (.int .i64 (r : Int)) := ⟨_, by omega, he⟩
 have nk9 : ¬ (k9 : Int) < 0 := by omega
 have B9 := bel_tch B8 t_ B8.size (fun q hq => by have h1 := hq.1; omega)
 have sz9 := t_.size
 replace HW0_0 := Aside0.mk (S_tch HW0_0.out t_ (fun q hq h => by have h1 := hq.1; have h2 := hq.2; have h3 := h.1; have h4 := h.2; omega))
 replace HG0_0 := Aside0.mk (S_tch HG0_0.out t_ (fun q hq h => by have h1 := hq.1; have h2 := hq.2; have h3 := h.1; have h4 := h.2; omega))
 clear he t_ le_ hl_0
 clear Xlist0
 have hcall := fun (W : World) (hW : Below w9.heap.size w9 W) => eqAliasS_any G0_0 gd0_0 D0_0 dd0_0 M0 W HVF0.out (Kd.C_below (Kd.S_reads' HG0_0.out).2.2 hW) (Kd.C_below (Kd.S_reads' HW0_0.out).2.2 hW)
 go_wp2_with fail
 refine (hcall _ (Below.refl _ _)).mono ?_
 rintro e w10 ⟨rfl, b10⟩
 clear hcall
 have bb10 := bel_then (Below.refl w9.heap.size w9) b10
 have B10 := bel_then B9 bb10
 have sz10 := bb10.size
 replace HW0_0 := Aside0.mk (Kd.S_below HW0_0.out bb10)
 replace HG0_0 := Aside0.mk (Kd.S_below HG0_0.out bb10)
 clear b10 bb10
 have hl0_0 : M0.length ≤ 1048576 := HVF0.out.1
 go_wp2_with fail
 refine (calls_at (a := 1) rfl (markAliasS_any G0_0 gd0_0 gd0_0 M0.length M0 1 _ _ _ HG0_0.out hl0_0 (fun y hy => Alias_lens (HVF0.out.2 y hy)) (by omega))).mono ?_
 rintro e w11 ⟨he, le_, m_0, t_⟩
 obtain ⟨m11, hm11, rfl⟩ : ∃ r : Nat, r = 1 + offAlias M0 M0.length ∧ e = .returned (.int .i64 (r : Int)) := ⟨_, rfl, he⟩
 have hb11 : m11 ≤ 70368744177664 := by omega
 have nk11 : ¬ (m11 : Int) < 0 := by omega
 have RV0 := Lib.hid hm11
 clear hm11
 have B11 := bel_tch B10 t_ B10.size (fun q hq => by have h1 := hq.1; omega)
 have sz11 := t_.size
 replace HW0_0 := Aside0.mk (S_tch HW0_0.out t_ (fun q hq h => by have h1 := hq.1; have h2 := hq.2; have h3 := h.1; have h4 := h.2; omega))
 replace HG0_0 := Aside0.mk m_0
 clear he t_ m_0 le_
 have hC0 := (Kd.S_reads' HG0_0.out).2.2
 rw [mksAlias_length] at hC0
 have hcall := fun (W : World) (hW : Below w11.heap.size w11 W) => calls_at (a := 1) rfl (heldAliasS_any G0_0 gd0_0 M0.length M0 1 W (Kd.C_below hC0 hW) rfl hl0_0 (fun y hy => Alias_lens (HVF0.out.2 y hy)) (by omega))
 go_wp2_with fail
 refine (hcall _ (Below.refl _ _)).mono ?_
 rintro e w12 ⟨he, b12⟩
 clear hcall
 obtain rfl : e = .returned (.int .i64 (m11 : Int)) := by rw [he, RV0.out]
 have bb12 := bel_then (Below.refl w11.heap.size w11) b12
 have B12 := bel_then B11 bb12
 have sz12 := bb12.size
 replace HW0_0 := Aside0.mk (Kd.S_below HW0_0.out bb12)
 replace HG0_0 := Aside0.mk (Kd.S_below HG0_0.out bb12)
 clear he b12 bb12 hC0
 have hcall := fun (W : World) (hW : Below w12.heap.size w12 W) => hto_list W (bel_then HB0.out (bel_then B12 hW)) f_list
 go_wp2_with fail
 refine (hcall _ (Below.refl _ _)).mono ?_
 rintro e w13 ⟨Qlist0, qlist0, rfl, gq_list0, b13⟩
 clear hcall
 have bb13 := bel_then (Below.refl w12.heap.size w12) b13
 have B13 := bel_then B12 bb13
 have sz13 := bb13.size
 replace HW0_0 := Aside0.mk (Kd.S_below HW0_0.out bb13)
 replace HG0_0 := Aside0.mk (Kd.S_below HG0_0.out bb13)
 have Tlist0 := Aside0.mk gq_list0
 clear gq_list0
 clear b13 bb13
 have hcall := fun (W : World) (hW : Below w13.heap.size w13 W) => aliasFlat_any Qlist0 qlist0 list W f_list (Kd.C_below (Kd.S_reads' Tlist0.out).2.2 hW) (HG.out.below (bel_then HB0.out (bel_then B13 hW)))
 simp only [HV0.out] at hcall
 go_wp2_with fail
 refine (hcall _ (Below.refl _ _)).mono ?_
 rintro e w14 ⟨H0_0, hd0_0, rfl, gu0_0, b14⟩
 clear hcall
 clear Tlist0
 have lo14 : w13.heap.size ≤ w14.heap.size := by have := b14.size; (try simp at this); omega
 have HH0_0 := Aside0.mk (Kd.S_mono (Kd.S_bound gu0_0) (ok' := (fun q => w13.heap.size ≤ q ∧ q < w14.heap.size)) (fun q hq => ⟨by have h2 := hq.2.1; (try simp at h2); omega, hq.2.2.1⟩))
 clear gu0_0
 have bb14 := bel_then (Below.refl w13.heap.size w13) b14
 have B14 := bel_then B13 bb14
 have sz14 := bb14.size
 replace HW0_0 := Aside0.mk (Kd.S_below HW0_0.out bb14)
 replace HG0_0 := Aside0.mk (Kd.S_below HG0_0.out bb14)
 clear b14 bb14
 have hcall := fun (W : World) (hW : Below w14.heap.size w14 W) => eqAliasS_any H0_0 hd0_0 D0_0 dd0_0 M0 W HVF0.out (Kd.C_below (Kd.S_reads' HH0_0.out).2.2 hW) (Kd.C_below (Kd.S_reads' HW0_0.out).2.2 hW)
 go_wp2_with fail
 refine (hcall _ (Below.refl _ _)).mono ?_
 rintro e w15 ⟨rfl, b15⟩
 clear hcall
 have bb15 := bel_then (Below.refl w14.heap.size w14) b15
 have B15 := bel_then B14 bb15
 have sz15 := bb15.size
 replace HW0_0 := Aside0.mk (Kd.S_below HW0_0.out bb15)
 replace HG0_0 := Aside0.mk (Kd.S_below HG0_0.out bb15)
 replace HH0_0 := Aside0.mk (Kd.S_below HH0_0.out bb15)
 clear b15 bb15
 have hC0 := (Kd.S_reads' HG0_0.out).2.2
 rw [mksAlias_length] at hC0
 have hcall := fun (W : World) (hW : Below w15.heap.size w15 W) => calls_at (a := 1) rfl (heldAliasS_any G0_0 gd0_0 M0.length M0 1 W (Kd.C_below hC0 hW) rfl hl0_0 (fun y hy => Alias_lens (HVF0.out.2 y hy)) (by omega))
 go_wp2_with fail
 refine (hcall _ (Below.refl _ _)).mono ?_
 rintro e w16 ⟨he, b16⟩
 clear hcall
 obtain rfl : e = .returned (.int .i64 (m11 : Int)) := by rw [he, RV0.out]
 have bb16 := bel_then (Below.refl w15.heap.size w15) b16
 have B16 := bel_then B15 bb16
 have sz16 := bb16.size
 replace HW0_0 := Aside0.mk (Kd.S_below HW0_0.out bb16)
 replace HG0_0 := Aside0.mk (Kd.S_below HG0_0.out bb16)
 replace HH0_0 := Aside0.mk (Kd.S_below HH0_0.out bb16)
 clear he b16 bb16 hC0
 go_wp2
 go_ret
 exact ⟨rfl, bel_then HB0.out B16⟩
end Go.Proofs.YticepbgacokbbaaDoor
