/- The law FnExactAliasFor, walked. -/
import Derived.Test.YticepbgacokbbaaDoorReg
import Derived.Test.YticepbgacokbbaaDoorAlSpec
import Derived.Test.YticepbgacokbbaaDoorAlFit
import Derived.Test.YticepbgacokbbaaDoorTo
import Derived.Test.YticepbgacokbbaaDoorEq
import Derived.Test.YticepbgacokbbaaDoorHeldN
namespace Go.Proofs.YticepbgacokbbaaDoor
open Go.RowKit Go.Proofs.YticepbgacokbbaaDoorW.PrintWords
set_option linter.unusedVariables false
set_option linter.unusedSimpArgs false
set_option maxRecDepth 100000 in
set_option maxHeartbeats 40000000 in
theorem walk_FnExactAliasFor {w : World} (Alist0 : Option Addr) (clist0 : Nat) (list : (List SAlias)) (hr_list0 : Kd.C kAlias w Alist0 list.length list) (hw_list : (list.length ≤ 9223372036854775807 ∧ ∀ y ∈ list, wideAlias y)) (a : SAddr)  (hw_a : wideAddr a)  (hG : Glob w) :
  Calls Tryd.prog 7 #[.slice Alist0 list.length clist0, .agg #[.string a.f0, .string a.f1]] w fun e w' => e = .returned (.bool true) ∧ Below w.heap.size w w' := by
 have hsz_list := fun (l : Int) (W : World) (hW : Below w.heap.size w W) (l0_ : 0 ≤ l) (l1_ : l ≤ 1048576) => szAliasS_any Alist0 clist0 list l W l0_ l1_ hw_list (Kd.C_below hr_list0 hW)
 have hto_list := fun (W : World) (hW : Below w.heap.size w W) (hf : (list.length ≤ 1048576 ∧ ∀ y ∈ list, fitAlias y)) => toAliasS_any Alist0 clist0 list W hf (Kd.C_below hr_list0 hW)
 have hsz_a := fun (l : Int) (W : World) (hW : Below w.heap.size w W) (l0_ : 0 ≤ l) (l1_ : l ≤ 1048576) => szAddr_any a  l W l0_ l1_ hw_a
 have hto_a := fun (W : World) (hW : Below w.heap.size w W) (hf : fitAddr a) => toAddr_any a  W hf
 have HG := Lib.hid hG
 obtain ⟨M0, hm0⟩ : ∃ M, M = aliasFor list a := ⟨_, rfl⟩
 have HV0 := Lib.hid hm0.symm
 clear hm0
 clear hw_list hr_list0 hw_a hG
 go_enter Tryd.func7, Tryd.ntmps7
 go_wp2_with fail
 obtain ⟨W0, hW0⟩ : ∃ W0, W0 = (w.alloc (.cells #[.string a.f0, .string a.f1] 42)) := ⟨_, rfl⟩
 rw [← hW0]
 have B0 : Below w.heap.size w W0 := by rw [hW0]; exact (bel_alloc (Below.refl _ _) _)
 have Z0 : w.heap.size < W0.heap.size := by rw [hW0]; simp
 have c0_ : W0.cell? ⟨w.heap.size, 0, none⟩ = some (.string a.f0) := by rw [hW0]; first | (simp; done) | (rw [World.cell?_alloc_lt _ _ _ (by first | (simp; done) | (simp; omega))]; first | (simp; done) | (rw [World.cell?_alloc_lt _ _ _ (by first | (simp; done) | (simp; omega))]; simp))
 have c1_ : W0.cell? ⟨w.heap.size, 1, none⟩ = some (.string a.f1) := by rw [hW0]; first | (simp; done) | (rw [World.cell?_alloc_lt _ _ _ (by first | (simp; done) | (simp; omega))]; first | (simp; done) | (rw [World.cell?_alloc_lt _ _ _ (by first | (simp; done) | (simp; omega))]; simp))
 have HC : Aside0 (∀ W, Below W0.heap.size W0 W → W.cell? ⟨w.heap.size, 0, none⟩ = some (.string a.f0) ∧ W.cell? ⟨w.heap.size, 1, none⟩ = some (.string a.f1)) := ⟨fun W h => ⟨(h.cell (p := ⟨w.heap.size, 0, none⟩) Z0).trans c0_, (h.cell (p := ⟨w.heap.size, 1, none⟩) Z0).trans c1_⟩⟩
 clear hW0 c0_ c1_
 have HB0 := Aside0.mk B0
 have hsz := B0.size
 clear B0
 obtain ⟨c0_, c1_⟩ := HC.out _ (Below.refl W0.heap.size W0)
 have zz0_ : w.heap.size < W0.heap.size := Nat.lt_of_lt_of_le Z0 (Below.refl W0.heap.size W0).size
 go_wp2_with fail
 refine (hsz_list _ _ (bel_then HB0.out (Below.refl W0.heap.size W0)) (by omega) (by omega)).mono ?_
 rintro e w1 ⟨r_list, rfl, le_list, s_list, b1⟩
 have bb1 := bel_then (Below.refl W0.heap.size W0) b1
 have B1 := bel_then (Below.refl W0.heap.size W0) bb1
 have sz1 := bb1.size
 clear c0_ c1_ zz0_
 obtain ⟨c0_, c1_⟩ := HC.out _ B1
 have zz0_ : w.heap.size < w1.heap.size := Nat.lt_of_lt_of_le Z0 B1.size
 clear b1 bb1 hsz_list
 by_cases n_list : r_list < 0
 ·go_wp2
  go_ret
  exact ⟨rfl, bel_then HB0.out B1⟩
 rw [Int.not_lt] at n_list
 have f_list := s_list n_list
 clear s_list
 go_wp2_with fail
 refine (hsz_a _ _ (bel_then HB0.out B1) (by omega) (by omega)).mono ?_
 rintro e w2 ⟨r_a, rfl, le_a, s_a, b2⟩
 have bb2 := bel_then (Below.refl w1.heap.size w1) b2
 have B2 := bel_then B1 bb2
 have sz2 := bb2.size
 clear c0_ c1_ zz0_
 obtain ⟨c0_, c1_⟩ := HC.out _ B2
 have zz0_ : w.heap.size < w2.heap.size := Nat.lt_of_lt_of_le Z0 B2.size
 clear b2 bb2 hsz_a
 by_cases n_a : r_a < 0
 ·go_wp2
  go_ret
  exact ⟨rfl, bel_then HB0.out B2⟩
 rw [Int.not_lt] at n_a
 have f_a := s_a n_a
 clear s_a
 have HVF0 : Hid ((M0.length ≤ 1048576 ∧ ∀ y ∈ M0, fitAddr y)) := Lib.hid (by have h := aliasFor_fit f_list f_a; rw [HV0.out] at h; exact h)
 go_wp2
 have HK : Aside0 (∀ W W1, Below W.heap.size W W1 → (W.cell? ⟨w.heap.size, 0, none⟩ = some (.string a.f0) ∧ W.cell? ⟨w.heap.size, 1, none⟩ = some (.string a.f1) ∧ Below w2.heap.size w2 W) → (W1.cell? ⟨w.heap.size, 0, none⟩ = some (.string a.f0) ∧ W1.cell? ⟨w.heap.size, 1, none⟩ = some (.string a.f1) ∧ Below w2.heap.size w2 W1)) := ⟨fun W W1 hb h => ⟨(hb.cell (World.block_lt_of_cell? W _ (h.1))).trans (h.1), (hb.cell (World.block_lt_of_cell? W _ (h.2.1))).trans (h.2.1), bel_then (h.2.2) hb⟩⟩
 have join : Hid (∀ {goal : Prop} {G : Option Addr → Nat → Option Addr → Nat → World → Prop} (rg : Hid (∀ (D0_0 : Option Addr) (dd0_0 : Nat) (Qlist0 : Option Addr) (qlist0 : Nat) (V : World), Below w2.heap.size w2 V ∧ Kd.R kAddr 30 V w2.heap.size (fun q => w2.heap.size ≤ q ∧ q < V.heap.size) (.slice D0_0 M0.length dd0_0) M0 → G D0_0 dd0_0 Qlist0 qlist0 V) → goal) (hk : ∀ (D0_0 : Option Addr) (dd0_0 : Nat) (Qlist0 : Option Addr) (qlist0 : Nat) (V : World), Below w2.heap.size w2 V ∧ Kd.R kAddr 30 V w2.heap.size (fun q => w2.heap.size ≤ q ∧ q < V.heap.size) (.slice D0_0 M0.length dd0_0) M0 → G D0_0 dd0_0 Qlist0 qlist0 V), goal) := Lib.hid (fun f h => f (Lib.hid h))
 have HST : Aside0 ((fun W => W.cell? ⟨w.heap.size, 0, none⟩ = some (.string a.f0) ∧ W.cell? ⟨w.heap.size, 1, none⟩ = some (.string a.f1) ∧ Below w2.heap.size w2 W) (w2).drew) := ⟨⟨c0_, c1_, bel_then (Below.refl w2.heap.size w2) (drew_below0 _)⟩⟩
 clear c0_ c1_
 apply join.out
 case rg =>
  intro HKK
  refine wp_region_held_drew (S := (fun W => W.cell? ⟨w.heap.size, 0, none⟩ = some (.string a.f0) ∧ W.cell? ⟨w.heap.size, 1, none⟩ = some (.string a.f1) ∧ Below w2.heap.size w2 W)) (by kernel_rfl) ?s85 (fun hHeld => ?t85)
  case s85 => exact HST.out
  generalize World.drew _ = V0 at hHeld ⊢
  have s0_ : w2.heap.size ≤ V0.heap.size := hHeld.2.2.size
  refine tk 0 ?v86 ?y86 ?r86
  case y86 => intro w_ hSw; (try dsimp only at hSw); go_simp; (try (with_reducible rfl))
  try simp only [Act.put, List.setIfInBounds_toArray, List.set_cons_zero, List.set_cons_succ]
  refine tk 2 ?v87 ?y87 ?r87
  case y87 => intro w_ hSw; (try dsimp only at hSw); go_simp; (try (with_reducible rfl))
  try simp only [Act.put, List.setIfInBounds_toArray, List.set_cons_zero, List.set_cons_succ]
  refine rdy (rs := [1]) ?_
  refine rc (fun K hK => ?k88) AllReadyH.nil
  case k88 =>
   go_simp
   refine (hto_list _ (bel_then HB0.out (bel_then B2 hHeld.2.2)) f_list).mono ?_
   rintro e V1 ⟨Qlist0, qlist0, rfl, gq_list0, b1⟩
   refine hK.out _ _ ?h89 (fun hHeld => ?j89)
   case h89 => exact HK.out _ _ b1 hHeld
   clear hK K
   try simp only [Act.put, List.setIfInBounds_toArray, List.set_cons_zero, List.set_cons_succ]
   have Tlist0 := Aside0.mk gq_list0
   clear gq_list0
   have s1_ := b1.size
   refine rdy (rs := [3]) ?_
   refine rc (fun K hK => ?k90) AllReadyH.nil
   case k90 =>
    go_simp
    refine (hto_a _ (bel_then HB0.out (bel_then B2 hHeld.2.2)) f_a).mono ?_
    rintro e V3 ⟨rfl, b3⟩
    refine hK.out _ _ ?h91 (fun hHeld => ?j91)
    case h91 => exact HK.out _ _ b3 hHeld
    clear hK K
    try simp only [Act.put, List.setIfInBounds_toArray, List.set_cons_zero, List.set_cons_succ]
    have s3_ := b3.size
    replace Tlist0 := Aside0.mk (Kd.S_below Tlist0.out b3)
    refine rdy (rs := [4]) ?_
    refine rc (fun K hK => ?k92) AllReadyH.nil
    case k92 =>
     go_simp
     have hcl := specAliasFor_any Qlist0 qlist0 list a V3 f_list f_a (Kd.S_reads' Tlist0.out).2.2
     rw [HV0.out] at hcl
     refine hcl.mono ?_
     clear hcl
     rintro e V4 ⟨D0_0, dd0_0, rfl, gu0_0, b4⟩
     refine hK.out _ _ ?h93 (fun hHeld => ?j93)
     case h93 => exact HK.out _ _ b4 hHeld
     clear hK K
     try simp only [Act.put, List.setIfInBounds_toArray, List.set_cons_zero, List.set_cons_succ]
     have U0_0 := Aside0.mk (Kd.R_lower (base' := w2.heap.size) (Kd.R_mono (Kd.R_bound gu0_0) (ok' := fun q => V3.heap.size ≤ q ∧ q < V4.heap.size) (fun q hq => ⟨hq.2.1, hq.2.2.1⟩)) (by have := hHeld.2.2.size; omega))
     clear gu0_0
     have s4_ := b4.size
     replace Tlist0 := Aside0.mk (Kd.S_below Tlist0.out b4)
     refine tk 5 ?v94 ?y94 ?r94
     case y94 => intro w_ hSw; (try dsimp only at hSw); go_simp; (try (with_reducible rfl))
     try simp only [Act.put, List.setIfInBounds_toArray, List.set_cons_zero, List.set_cons_succ]
     refine wpAnyH_done (by kernel_rfl) ?_ _
     exact HKK.out D0_0 dd0_0 Qlist0 qlist0 V4 ⟨hHeld.2.2, Kd.R_mono U0_0.out (fun q hq => by have h1 := hq.1; have h2 := hq.2; refine ⟨?_, ?_⟩ <;> omega)⟩
 case hk =>
  intro D0_0 dd0_0 Qlist0 qlist0 w3 ⟨bb3, hHW0_0⟩
  clear HST HK join
  have B3 := bel_then B2 bb3
  have sz3 := bb3.size
  have HW0_0 := Aside0.mk hHW0_0
  clear hHW0_0
  clear zz0_
  obtain ⟨c0_, c1_⟩ := HC.out _ B3
  have zz0_ : w.heap.size < w3.heap.size := Nat.lt_of_lt_of_le Z0 B3.size
  have hcall := fun (W : World) (hW : Below w3.heap.size w3 W) => hto_list W (bel_then HB0.out (bel_then B3 hW)) f_list
  go_wp2_with fail
  refine (hcall _ (Below.refl _ _)).mono ?_
  rintro e w4 ⟨Elist0, elist0, rfl, gx_list0, b4⟩
  clear hcall
  have lo4 : w3.heap.size ≤ w4.heap.size := by have := b4.size; (try simp at this); omega
  have Xlist0 := Aside0.mk (Kd.S_mono (Kd.S_bound gx_list0) (ok' := fun q => w3.heap.size ≤ q ∧ q < w4.heap.size) (fun q hq => ⟨by have h2 := hq.2.1; (try simp at h2); omega, hq.2.2.1⟩))
  clear gx_list0
  have bb4 := bel_then (Below.refl w3.heap.size w3) b4
  have B4 := bel_then B3 bb4
  have sz4 := bb4.size
  replace HW0_0 := Aside0.mk (Kd.R_below HW0_0.out bb4)
  clear c0_ c1_ zz0_
  obtain ⟨c0_, c1_⟩ := HC.out _ B4
  have zz0_ : w.heap.size < w4.heap.size := Nat.lt_of_lt_of_le Z0 B4.size
  clear b4 bb4
  have hcall := fun (W : World) (hW : Below w4.heap.size w4 W) => hto_a W (bel_then HB0.out (bel_then B4 hW)) f_a
  go_wp2_with fail
  refine (hcall _ (Below.refl _ _)).mono ?_
  rintro e w5 ⟨rfl, b5⟩
  clear hcall
  have bb5 := bel_then (Below.refl w4.heap.size w4) b5
  have B5 := bel_then B4 bb5
  have sz5 := bb5.size
  replace HW0_0 := Aside0.mk (Kd.R_below HW0_0.out bb5)
  replace Xlist0 := Aside0.mk (Kd.S_below Xlist0.out bb5)
  clear c0_ c1_ zz0_
  obtain ⟨c0_, c1_⟩ := HC.out _ B5
  have zz0_ : w.heap.size < w5.heap.size := Nat.lt_of_lt_of_le Z0 B5.size
  clear b5 bb5
  have hcall := fun (W : World) (hW : Below w5.heap.size w5 W) => aliasFor_any Elist0 elist0 list a W f_list f_a (Kd.C_below (Kd.S_reads' Xlist0.out).2.2 hW) (HG.out.below (bel_then HB0.out (bel_then B5 hW)))
  simp only [HV0.out] at hcall
  go_wp2_with fail
  refine (hcall _ (Below.refl _ _)).mono ?_
  rintro e w6 ⟨G0_0, gd0_0, rfl, gu0_0, b6⟩
  clear hcall
  have lo6 : w5.heap.size ≤ w6.heap.size := by have := b6.size; (try simp at this); omega
  have HG0_0 := Aside0.mk (Kd.R_mono (Kd.R_bound gu0_0) (ok' := (fun q => w5.heap.size ≤ q ∧ q < w6.heap.size)) (fun q hq => ⟨by have h2 := hq.2.1; (try simp at h2); omega, hq.2.2.1⟩))
  clear gu0_0
  have bb6 := bel_then (Below.refl w5.heap.size w5) b6
  have B6 := bel_then B5 bb6
  have sz6 := bb6.size
  replace HW0_0 := Aside0.mk (Kd.R_below HW0_0.out bb6)
  replace Xlist0 := Aside0.mk (Kd.S_below Xlist0.out bb6)
  clear c0_ c1_ zz0_
  obtain ⟨c0_, c1_⟩ := HC.out _ B6
  have zz0_ : w.heap.size < w6.heap.size := Nat.lt_of_lt_of_le Z0 B6.size
  clear b6 bb6
  have hcall := fun (W : World) (hW : Below w6.heap.size w6 W) => eqAddrS_any G0_0 gd0_0 D0_0 dd0_0 M0 W HVF0.out (Kd.C_below (Kd.R_reads' HG0_0.out).2.2 hW) (Kd.C_below (Kd.R_reads' HW0_0.out).2.2 hW)
  go_wp2_with fail
  refine (hcall _ (Below.refl _ _)).mono ?_
  rintro e w7 ⟨rfl, b7⟩
  clear hcall
  have bb7 := bel_then (Below.refl w6.heap.size w6) b7
  have B7 := bel_then B6 bb7
  have sz7 := bb7.size
  replace HW0_0 := Aside0.mk (Kd.R_below HW0_0.out bb7)
  replace Xlist0 := Aside0.mk (Kd.S_below Xlist0.out bb7)
  replace HG0_0 := Aside0.mk (Kd.R_below HG0_0.out bb7)
  clear c0_ c1_ zz0_
  obtain ⟨c0_, c1_⟩ := HC.out _ B7
  have zz0_ : w.heap.size < w7.heap.size := Nat.lt_of_lt_of_le Z0 B7.size
  clear b7 bb7
  have hcall := fun (W : World) (hW : Below w7.heap.size w7 W) => hto_list W (bel_then HB0.out (bel_then B7 hW)) f_list
  go_wp2_with fail
  refine (hcall _ (Below.refl _ _)).mono ?_
  rintro e w8 ⟨Qlist0, qlist0, rfl, gq_list0, b8⟩
  clear hcall
  have bb8 := bel_then (Below.refl w7.heap.size w7) b8
  have B8 := bel_then B7 bb8
  have sz8 := bb8.size
  replace HW0_0 := Aside0.mk (Kd.R_below HW0_0.out bb8)
  replace Xlist0 := Aside0.mk (Kd.S_below Xlist0.out bb8)
  replace HG0_0 := Aside0.mk (Kd.R_below HG0_0.out bb8)
  clear c0_ c1_ zz0_
  obtain ⟨c0_, c1_⟩ := HC.out _ B8
  have zz0_ : w.heap.size < w8.heap.size := Nat.lt_of_lt_of_le Z0 B8.size
  have Tlist0 := Aside0.mk gq_list0
  clear gq_list0
  clear b8 bb8
  have hcall := fun (W : World) (hW : Below w8.heap.size w8 W) => eqAliasS_any Elist0 elist0 Qlist0 qlist0 list W f_list (Kd.C_below (Kd.S_reads' Xlist0.out).2.2 hW) (Kd.C_below (Kd.S_reads' Tlist0.out).2.2 hW)
  go_wp2_with fail
  refine (hcall _ (Below.refl _ _)).mono ?_
  rintro e w9 ⟨rfl, b9⟩
  clear hcall
  have bb9 := bel_then (Below.refl w8.heap.size w8) b9
  have B9 := bel_then B8 bb9
  have sz9 := bb9.size
  replace HW0_0 := Aside0.mk (Kd.R_below HW0_0.out bb9)
  replace Xlist0 := Aside0.mk (Kd.S_below Xlist0.out bb9)
  replace HG0_0 := Aside0.mk (Kd.R_below HG0_0.out bb9)
  replace Tlist0 := Aside0.mk (Kd.S_below Tlist0.out bb9)
  clear c0_ c1_ zz0_
  obtain ⟨c0_, c1_⟩ := HC.out _ B9
  have zz0_ : w.heap.size < w9.heap.size := Nat.lt_of_lt_of_le Z0 B9.size
  clear b9 bb9
  clear Tlist0
  go_wp2_with fail
  refine (calls_at (a := 1) rfl (markAliasS_any Elist0 elist0 elist0 list.length list 1 _ _ _ Xlist0.out f_list.1 (fun y hy => Alias_lens (f_list.2 y hy)) (by omega))).mono ?_
  rintro e w10 ⟨he, le_, _, t_⟩
  have hl_0 : list.length ≤ 1048576 := f_list.1
  obtain ⟨k10, hk10, rfl⟩ : ∃ r : Nat, r ≤ 70368744177664 ∧ e = .returned (.int .i64 (r : Int)) := ⟨_, by omega, he⟩
  have nk10 : ¬ (k10 : Int) < 0 := by omega
  have B10 := bel_tch B9 t_ B9.size (fun q hq => by have h1 := hq.1; omega)
  have sz10 := t_.size
  replace HW0_0 := Aside0.mk (R_tch HW0_0.out t_ (fun q hq h => by have h1 := hq.1; have h2 := hq.2; have h3 := h.1; have h4 := h.2; omega))
  replace HG0_0 := Aside0.mk (R_tch HG0_0.out t_ (fun q hq h => by have h1 := hq.1; have h2 := hq.2; have h3 := h.1; have h4 := h.2; omega))
  clear c0_ c1_ zz0_
  obtain ⟨c0_, c1_⟩ := HC.out _ B10
  have zz0_ : w.heap.size < w10.heap.size := Nat.lt_of_lt_of_le Z0 B10.size
  clear he t_ le_ hl_0
  clear Xlist0
  have hcall := fun (W : World) (hW : Below w10.heap.size w10 W) => eqAddrS_any G0_0 gd0_0 D0_0 dd0_0 M0 W HVF0.out (Kd.C_below (Kd.R_reads' HG0_0.out).2.2 hW) (Kd.C_below (Kd.R_reads' HW0_0.out).2.2 hW)
  go_wp2_with fail
  refine (hcall _ (Below.refl _ _)).mono ?_
  rintro e w11 ⟨rfl, b11⟩
  clear hcall
  have bb11 := bel_then (Below.refl w10.heap.size w10) b11
  have B11 := bel_then B10 bb11
  have sz11 := bb11.size
  replace HW0_0 := Aside0.mk (Kd.R_below HW0_0.out bb11)
  replace HG0_0 := Aside0.mk (Kd.R_below HG0_0.out bb11)
  clear c0_ c1_ zz0_
  obtain ⟨c0_, c1_⟩ := HC.out _ B11
  have zz0_ : w.heap.size < w11.heap.size := Nat.lt_of_lt_of_le Z0 B11.size
  clear b11 bb11
  have hl0_0 : M0.length ≤ 1048576 := HVF0.out.1
  go_wp2_with fail
  refine (calls_at (a := 1) rfl (markAddrS_any G0_0 gd0_0 gd0_0 M0.length M0 1 _ _ _ HG0_0.out hl0_0 (by omega))).mono ?_
  rintro e w12 ⟨he, m_0, g_⟩
  have t_ : Tch _ _ w12 := (Tch.refl _ _).row g_ (fun q hq => HG0_0.out.1 q hq)
  clear g_
  obtain ⟨m12, hm12, rfl⟩ : ∃ r : Nat, r = 1 + 2 * M0.length ∧ e = .returned (.int .i64 (r : Int)) := ⟨_, rfl, he⟩
  have hb12 : m12 ≤ 70368744177664 := by omega
  have nk12 : ¬ (m12 : Int) < 0 := by omega
  have RV0 := Lib.hid hm12
  clear hm12
  have B12 := bel_tch B11 t_ B11.size (fun q hq => by have h1 := hq.1; omega)
  have sz12 := t_.size
  replace HW0_0 := Aside0.mk (R_tch HW0_0.out t_ (fun q hq h => by have h1 := hq.1; have h2 := hq.2; have h3 := h.1; have h4 := h.2; omega))
  clear c0_ c1_ zz0_
  obtain ⟨c0_, c1_⟩ := HC.out _ B12
  have zz0_ : w.heap.size < w12.heap.size := Nat.lt_of_lt_of_le Z0 B12.size
  replace HG0_0 := Aside0.mk m_0
  clear he t_ m_0
  have hC0 := (Kd.R_reads' HG0_0.out).2.2
  rw [mksAddr_length] at hC0
  have hcall := fun (W : World) (hW : Below w12.heap.size w12 W) => calls_at (a := 1) rfl (heldAddrS_any G0_0 gd0_0 M0.length 1 W (Kd.C_below hC0 hW) hl0_0 (by omega))
  go_wp2_with fail
  refine (hcall _ (Below.refl _ _)).mono ?_
  rintro e w13 ⟨he, b13⟩
  clear hcall
  obtain rfl : e = .returned (.int .i64 (m12 : Int)) := by rw [he, RV0.out]
  have bb13 := bel_then (Below.refl w12.heap.size w12) b13
  have B13 := bel_then B12 bb13
  have sz13 := bb13.size
  replace HW0_0 := Aside0.mk (Kd.R_below HW0_0.out bb13)
  replace HG0_0 := Aside0.mk (Kd.R_below HG0_0.out bb13)
  clear c0_ c1_ zz0_
  obtain ⟨c0_, c1_⟩ := HC.out _ B13
  have zz0_ : w.heap.size < w13.heap.size := Nat.lt_of_lt_of_le Z0 B13.size
  clear he b13 bb13 hC0
  go_wp2
  have HK : Aside0 (∀ W W1, Below W.heap.size W W1 → (W.cell? ⟨w.heap.size, 0, none⟩ = some (.string a.f0) ∧ W.cell? ⟨w.heap.size, 1, none⟩ = some (.string a.f1) ∧ Below w13.heap.size w13 W) → (W1.cell? ⟨w.heap.size, 0, none⟩ = some (.string a.f0) ∧ W1.cell? ⟨w.heap.size, 1, none⟩ = some (.string a.f1) ∧ Below w13.heap.size w13 W1)) := ⟨fun W W1 hb h => ⟨(hb.cell (World.block_lt_of_cell? W _ (h.1))).trans (h.1), (hb.cell (World.block_lt_of_cell? W _ (h.2.1))).trans (h.2.1), bel_then (h.2.2) hb⟩⟩
  have join : Hid (∀ {goal : Prop} {G : Option Addr → Nat → Option Addr → Nat → World → Prop} (rg : Hid (∀ (H0_0 : Option Addr) (hd0_0 : Nat) (Qlist0 : Option Addr) (qlist0 : Nat) (V : World), Below w13.heap.size w13 V ∧ Kd.R kAddr 30 V w13.heap.size (fun q => w13.heap.size ≤ q ∧ q < V.heap.size) (.slice H0_0 M0.length hd0_0) M0 → G H0_0 hd0_0 Qlist0 qlist0 V) → goal) (hk : ∀ (H0_0 : Option Addr) (hd0_0 : Nat) (Qlist0 : Option Addr) (qlist0 : Nat) (V : World), Below w13.heap.size w13 V ∧ Kd.R kAddr 30 V w13.heap.size (fun q => w13.heap.size ≤ q ∧ q < V.heap.size) (.slice H0_0 M0.length hd0_0) M0 → G H0_0 hd0_0 Qlist0 qlist0 V), goal) := Lib.hid (fun f h => f (Lib.hid h))
  have HST : Aside0 ((fun W => W.cell? ⟨w.heap.size, 0, none⟩ = some (.string a.f0) ∧ W.cell? ⟨w.heap.size, 1, none⟩ = some (.string a.f1) ∧ Below w13.heap.size w13 W) (w13).drew) := ⟨⟨c0_, c1_, bel_then (Below.refl w13.heap.size w13) (drew_below0 _)⟩⟩
  clear c0_ c1_
  apply join.out
  case rg =>
   intro HKK
   refine wp_region_held_drew (S := (fun W => W.cell? ⟨w.heap.size, 0, none⟩ = some (.string a.f0) ∧ W.cell? ⟨w.heap.size, 1, none⟩ = some (.string a.f1) ∧ Below w13.heap.size w13 W)) (by kernel_rfl) ?s95 (fun hHeld => ?t95)
   case s95 => exact HST.out
   generalize World.drew _ = V0 at hHeld ⊢
   have s0_ : w13.heap.size ≤ V0.heap.size := hHeld.2.2.size
   refine tk 0 ?v96 ?y96 ?r96
   case y96 => intro w_ hSw; (try dsimp only at hSw); go_simp; (try (with_reducible rfl))
   try simp only [Act.put, List.setIfInBounds_toArray, List.set_cons_zero, List.set_cons_succ]
   refine tk 2 ?v97 ?y97 ?r97
   case y97 => intro w_ hSw; (try dsimp only at hSw); go_simp; (try (with_reducible rfl))
   try simp only [Act.put, List.setIfInBounds_toArray, List.set_cons_zero, List.set_cons_succ]
   refine rdy (rs := [1]) ?_
   refine rc (fun K hK => ?k98) AllReadyH.nil
   case k98 =>
    go_simp
    refine (hto_list _ (bel_then HB0.out (bel_then B13 hHeld.2.2)) f_list).mono ?_
    rintro e V1 ⟨Qlist0, qlist0, rfl, gq_list0, b1⟩
    refine hK.out _ _ ?h99 (fun hHeld => ?j99)
    case h99 => exact HK.out _ _ b1 hHeld
    clear hK K
    try simp only [Act.put, List.setIfInBounds_toArray, List.set_cons_zero, List.set_cons_succ]
    have Tlist0 := Aside0.mk gq_list0
    clear gq_list0
    have s1_ := b1.size
    refine rdy (rs := [3]) ?_
    refine rc (fun K hK => ?k100) AllReadyH.nil
    case k100 =>
     go_simp
     refine (hto_a _ (bel_then HB0.out (bel_then B13 hHeld.2.2)) f_a).mono ?_
     rintro e V3 ⟨rfl, b3⟩
     refine hK.out _ _ ?h101 (fun hHeld => ?j101)
     case h101 => exact HK.out _ _ b3 hHeld
     clear hK K
     try simp only [Act.put, List.setIfInBounds_toArray, List.set_cons_zero, List.set_cons_succ]
     have s3_ := b3.size
     replace Tlist0 := Aside0.mk (Kd.S_below Tlist0.out b3)
     refine rdy (rs := [4]) ?_
     refine rc (fun K hK => ?k102) AllReadyH.nil
     case k102 =>
      go_simp
      have hcl := aliasFor_any Qlist0 qlist0 list a V3 f_list f_a (Kd.S_reads' Tlist0.out).2.2 (HG.out.below (bel_then HB0.out (bel_then B13 hHeld.2.2)))
      rw [HV0.out] at hcl
      refine hcl.mono ?_
      clear hcl
      rintro e V4 ⟨H0_0, hd0_0, rfl, gu0_0, b4⟩
      refine hK.out _ _ ?h103 (fun hHeld => ?j103)
      case h103 => exact HK.out _ _ b4 hHeld
      clear hK K
      try simp only [Act.put, List.setIfInBounds_toArray, List.set_cons_zero, List.set_cons_succ]
      have U0_0 := Aside0.mk (Kd.R_lower (base' := w13.heap.size) (Kd.R_mono (Kd.R_bound gu0_0) (ok' := fun q => V3.heap.size ≤ q ∧ q < V4.heap.size) (fun q hq => ⟨hq.2.1, hq.2.2.1⟩)) (by have := hHeld.2.2.size; omega))
      clear gu0_0
      have s4_ := b4.size
      replace Tlist0 := Aside0.mk (Kd.S_below Tlist0.out b4)
      refine tk 5 ?v104 ?y104 ?r104
      case y104 => intro w_ hSw; (try dsimp only at hSw); go_simp; (try (with_reducible rfl))
      try simp only [Act.put, List.setIfInBounds_toArray, List.set_cons_zero, List.set_cons_succ]
      refine wpAnyH_done (by kernel_rfl) ?_ _
      exact HKK.out H0_0 hd0_0 Qlist0 qlist0 V4 ⟨hHeld.2.2, Kd.R_mono U0_0.out (fun q hq => by have h1 := hq.1; have h2 := hq.2; refine ⟨?_, ?_⟩ <;> omega)⟩
  case hk =>
   intro H0_0 hd0_0 Qlist0 qlist0 w14 ⟨bb14, hHH0_0⟩
   clear HST HK join
   have B14 := bel_then B13 bb14
   have sz14 := bb14.size
   replace HW0_0 := Aside0.mk (Kd.R_below HW0_0.out bb14)
   replace HG0_0 := Aside0.mk (Kd.R_below HG0_0.out bb14)
   have HH0_0 := Aside0.mk hHH0_0
   clear hHH0_0
   clear zz0_
   obtain ⟨c0_, c1_⟩ := HC.out _ B14
   have zz0_ : w.heap.size < w14.heap.size := Nat.lt_of_lt_of_le Z0 B14.size
   have hcall := fun (W : World) (hW : Below w14.heap.size w14 W) => eqAddrS_any H0_0 hd0_0 D0_0 dd0_0 M0 W HVF0.out (Kd.C_below (Kd.R_reads' HH0_0.out).2.2 hW) (Kd.C_below (Kd.R_reads' HW0_0.out).2.2 hW)
   go_wp2_with fail
   refine (hcall _ (Below.refl _ _)).mono ?_
   rintro e w15 ⟨rfl, b15⟩
   clear hcall
   have bb15 := bel_then (Below.refl w14.heap.size w14) b15
   have B15 := bel_then B14 bb15
   have sz15 := bb15.size
   replace HW0_0 := Aside0.mk (Kd.R_below HW0_0.out bb15)
   replace HG0_0 := Aside0.mk (Kd.R_below HG0_0.out bb15)
   replace HH0_0 := Aside0.mk (Kd.R_below HH0_0.out bb15)
   clear c0_ c1_ zz0_
   obtain ⟨c0_, c1_⟩ := HC.out _ B15
   have zz0_ : w.heap.size < w15.heap.size := Nat.lt_of_lt_of_le Z0 B15.size
   clear b15 bb15
   have hC0 := (Kd.R_reads' HG0_0.out).2.2
   rw [mksAddr_length] at hC0
   have hcall := fun (W : World) (hW : Below w15.heap.size w15 W) => calls_at (a := 1) rfl (heldAddrS_any G0_0 gd0_0 M0.length 1 W (Kd.C_below hC0 hW) hl0_0 (by omega))
   go_wp2_with fail
   refine (hcall _ (Below.refl _ _)).mono ?_
   rintro e w16 ⟨he, b16⟩
   clear hcall
   obtain rfl : e = .returned (.int .i64 (m12 : Int)) := by rw [he, RV0.out]
   have bb16 := bel_then (Below.refl w15.heap.size w15) b16
   have B16 := bel_then B15 bb16
   have sz16 := bb16.size
   replace HW0_0 := Aside0.mk (Kd.R_below HW0_0.out bb16)
   replace HG0_0 := Aside0.mk (Kd.R_below HG0_0.out bb16)
   replace HH0_0 := Aside0.mk (Kd.R_below HH0_0.out bb16)
   clear c0_ c1_ zz0_
   obtain ⟨c0_, c1_⟩ := HC.out _ B16
   have zz0_ : w.heap.size < w16.heap.size := Nat.lt_of_lt_of_le Z0 B16.size
   clear he b16 bb16 hC0
   go_wp2
   go_ret
   exact ⟨rfl, bel_then HB0.out B16⟩
end Go.Proofs.YticepbgacokbbaaDoor
