/- The law FnExactAliasMail, walked. -/
import Derived.Test.YticepbgacokbbaaGreatDoorReg
import Derived.Test.YticepbgacokbbaaGreatDoorAlMailS
import Derived.Test.YticepbgacokbbaaGreatDoorTo
import Derived.Test.YticepbgacokbbaaGreatDoorEq
import Derived.Test.YticepbgacokbbaaGreatDoorHeldN
namespace Go.Proofs.YticepbgacokbbaaGreatDoor
open Go.RowKit Go.Proofs.YticepbgacokbbaaGreatDoorW.PrintWords
set_option linter.unusedVariables false
set_option linter.unusedSimpArgs false

theorem aliasMail_fit {xs : List SAlias} {m : SMail} (hw : xs.length ≤ 1048576 ∧ ∀ x ∈ xs, fitAlias x) (hm : fitMail m) : fitMail (aliasMail xs m) := by
 have z : (⟨#[]⟩ : ByteArray).size ≤ 1048576 := Nat.zero_le _
 unfold aliasMail
 split
 ·rename_i h
  have h4 : (ends xs m.f1).length ≤ 4 := by
   unfold aliasMailOk at h
   simp only [Bool.and_eq_true] at h
   have := of_decide_eq_true h.2.2.2
   omega
  refine ⟨hm.1, ⟨by show (ends xs m.f1).length ≤ _; omega, fun y hy => ?_⟩, hm.2.2⟩
  obtain ⟨⟨a, ha, k⟩, _⟩ := (mem_ends _ _ _).1 hy
  rcases k.univ with rfl | h2
  ·exact hm.2.1.2 _ ha
  ·obtain ⟨x, hx, h3⟩ := List.mem_flatMap.1 h2
   exact (hw.2 x hx).2.2 y h3
 ·exact ⟨⟨z, z⟩, ⟨by simp [zMailA], fun y hy => by simp [zMailA] at hy⟩, ⟨by simp [zMailA], fun y hy => by simp [zMailA] at hy⟩⟩
set_option maxRecDepth 100000 in
set_option maxHeartbeats 40000000 in
theorem walk_FnExactAliasMail {w : World} (Alist0 : Option Addr) (clist0 : Nat) (list : (List SAlias)) (hr_list0 : Kd.C kAlias w Alist0 list.length list) (hw_list : (list.length ≤ 9223372036854775807 ∧ ∀ y ∈ list, wideAlias y)) (m : SMail) (Am0 : Option Addr) (cm0 : Nat) (Am1 : Option Addr) (cm1 : Nat) (hw_m : wideMail m) (hr_m0 : Kd.C kAddr w Am0 m.f1.length m.f1) (hr_m1 : Kd.C Kd.string w Am1 m.f2.length m.f2) (hG : Glob w) :
  Calls Tryz.prog 4 #[.slice Alist0 list.length clist0, .agg #[.string m.f0.f0, .string m.f0.f1, .slice Am0 m.f1.length cm0, .slice Am1 m.f2.length cm1]] w fun e w' => e = .returned (.bool true) ∧ Below w.heap.size w w' := by
 have hsz_list := fun (l : Int) (W : World) (hW : Below w.heap.size w W) (l0_ : 0 ≤ l) (l1_ : l ≤ 1048576) => szAliasS_any Alist0 clist0 list l W l0_ l1_ hw_list (Kd.C_below hr_list0 hW)
 have hto_list := fun (W : World) (hW : Below w.heap.size w W) (hf : (list.length ≤ 1048576 ∧ ∀ y ∈ list, fitAlias y)) => toAliasS_any Alist0 clist0 list W hf (Kd.C_below hr_list0 hW)
 have hsz_m := fun (l : Int) (W : World) (hW : Below w.heap.size w W) (l0_ : 0 ≤ l) (l1_ : l ≤ 1048576) => szMail_any m Am0 cm0 Am1 cm1 l W l0_ l1_ hw_m (Kd.C_below hr_m0 hW) (Kd.C_below hr_m1 hW)
 have hto_m := fun (W : World) (hW : Below w.heap.size w W) (hf : fitMail m) => toMail_any m Am0 cm0 Am1 cm1 W hf (Kd.C_below hr_m0 hW) (Kd.C_below hr_m1 hW)
 have HG := Lib.hid hG
 obtain ⟨M0, hm0⟩ : ∃ M, M = aliasMail list m := ⟨_, rfl⟩
 have HV0 := Lib.hid hm0.symm
 clear hm0
 obtain ⟨M1, hm1⟩ : ∃ M, M = aliasMailOk list m := ⟨_, rfl⟩
 have HV1 := Lib.hid hm1.symm
 clear hm1
 clear hw_list hr_list0 hw_m hr_m0 hr_m1 hG
 go_enter Tryz.func4, Tryz.ntmps4
 go_wp2_with fail
 obtain ⟨W0, hW0⟩ : ∃ W0, W0 = (w.alloc (.cells #[.string m.f0.f0, .string m.f0.f1, .slice Am0 m.f1.length cm0, .slice Am1 m.f2.length cm1] 43)) := ⟨_, rfl⟩
 rw [← hW0]
 have B0 : Below w.heap.size w W0 := by rw [hW0]; exact (bel_alloc (Below.refl _ _) _)
 have Z0 : w.heap.size < W0.heap.size := by rw [hW0]; simp
 have c0_ : W0.cell? ⟨w.heap.size, 0, none⟩ = some (.string m.f0.f0) := by rw [hW0]; first | (simp; done) | (rw [World.cell?_alloc_lt _ _ _ (by first | (simp; done) | (simp; omega))]; first | (simp; done) | (rw [World.cell?_alloc_lt _ _ _ (by first | (simp; done) | (simp; omega))]; simp))
 have c1_ : W0.cell? ⟨w.heap.size, 1, none⟩ = some (.string m.f0.f1) := by rw [hW0]; first | (simp; done) | (rw [World.cell?_alloc_lt _ _ _ (by first | (simp; done) | (simp; omega))]; first | (simp; done) | (rw [World.cell?_alloc_lt _ _ _ (by first | (simp; done) | (simp; omega))]; simp))
 have c2_ : W0.cell? ⟨w.heap.size, 2, none⟩ = some (.slice Am0 m.f1.length cm0) := by rw [hW0]; first | (simp; done) | (rw [World.cell?_alloc_lt _ _ _ (by first | (simp; done) | (simp; omega))]; first | (simp; done) | (rw [World.cell?_alloc_lt _ _ _ (by first | (simp; done) | (simp; omega))]; simp))
 have c3_ : W0.cell? ⟨w.heap.size, 3, none⟩ = some (.slice Am1 m.f2.length cm1) := by rw [hW0]; first | (simp; done) | (rw [World.cell?_alloc_lt _ _ _ (by first | (simp; done) | (simp; omega))]; first | (simp; done) | (rw [World.cell?_alloc_lt _ _ _ (by first | (simp; done) | (simp; omega))]; simp))
 have HC : Aside0 (∀ W, Below W0.heap.size W0 W → W.cell? ⟨w.heap.size, 0, none⟩ = some (.string m.f0.f0) ∧ W.cell? ⟨w.heap.size, 1, none⟩ = some (.string m.f0.f1) ∧ W.cell? ⟨w.heap.size, 2, none⟩ = some (.slice Am0 m.f1.length cm0) ∧ W.cell? ⟨w.heap.size, 3, none⟩ = some (.slice Am1 m.f2.length cm1)) := ⟨fun W h => ⟨(h.cell (p := ⟨w.heap.size, 0, none⟩) Z0).trans c0_, (h.cell (p := ⟨w.heap.size, 1, none⟩) Z0).trans c1_, (h.cell (p := ⟨w.heap.size, 2, none⟩) Z0).trans c2_, (h.cell (p := ⟨w.heap.size, 3, none⟩) Z0).trans c3_⟩⟩
 clear hW0 c0_ c1_ c2_ c3_
 have HB0 := Aside0.mk B0
 have hsz := B0.size
 clear B0
 obtain ⟨c0_, c1_, c2_, c3_⟩ := HC.out _ (Below.refl W0.heap.size W0)
 have zz0_ : w.heap.size < W0.heap.size := Nat.lt_of_lt_of_le Z0 (Below.refl W0.heap.size W0).size
 go_wp2_with fail
 refine (hsz_list _ _ (bel_then HB0.out (Below.refl W0.heap.size W0)) (by omega) (by omega)).mono ?_
 rintro e w1 ⟨r_list, rfl, le_list, s_list, b1⟩
 have bb1 := bel_then (Below.refl W0.heap.size W0) b1
 have B1 := bel_then (Below.refl W0.heap.size W0) bb1
 have sz1 := bb1.size
 clear c0_ c1_ c2_ c3_ zz0_
 obtain ⟨c0_, c1_, c2_, c3_⟩ := HC.out _ B1
 have zz0_ : w.heap.size < w1.heap.size := Nat.lt_of_lt_of_le Z0 B1.size
 clear b1 bb1 hsz_list
 by_cases n_list : r_list < 0
 ·go_wp2
  go_ret
  exact ⟨rfl, bel_then HB0.out B1⟩
 rw [Int.not_lt] at n_list
 have f_list := s_list n_list
 clear s_list
 go_wp2_with fail
 refine (hsz_m _ _ (bel_then HB0.out B1) (by omega) (by omega)).mono ?_
 rintro e w2 ⟨r_m, rfl, le_m, s_m, b2⟩
 have bb2 := bel_then (Below.refl w1.heap.size w1) b2
 have B2 := bel_then B1 bb2
 have sz2 := bb2.size
 clear c0_ c1_ c2_ c3_ zz0_
 obtain ⟨c0_, c1_, c2_, c3_⟩ := HC.out _ B2
 have zz0_ : w.heap.size < w2.heap.size := Nat.lt_of_lt_of_le Z0 B2.size
 clear b2 bb2 hsz_m
 by_cases n_m : r_m < 0
 ·go_wp2
  go_ret
  exact ⟨rfl, bel_then HB0.out B2⟩
 rw [Int.not_lt] at n_m
 have f_m := s_m n_m
 clear s_m
 have HVF0 : Hid (fitMail M0) := Lib.hid (by have h := aliasMail_fit f_list f_m; rw [HV0.out] at h; exact h)
 go_wp2
 have HK : Aside0 (∀ W W1, Below W.heap.size W W1 → (W.cell? ⟨w.heap.size, 0, none⟩ = some (.string m.f0.f0) ∧ W.cell? ⟨w.heap.size, 1, none⟩ = some (.string m.f0.f1) ∧ W.cell? ⟨w.heap.size, 2, none⟩ = some (.slice Am0 m.f1.length cm0) ∧ W.cell? ⟨w.heap.size, 3, none⟩ = some (.slice Am1 m.f2.length cm1) ∧ Below w2.heap.size w2 W) → (W1.cell? ⟨w.heap.size, 0, none⟩ = some (.string m.f0.f0) ∧ W1.cell? ⟨w.heap.size, 1, none⟩ = some (.string m.f0.f1) ∧ W1.cell? ⟨w.heap.size, 2, none⟩ = some (.slice Am0 m.f1.length cm0) ∧ W1.cell? ⟨w.heap.size, 3, none⟩ = some (.slice Am1 m.f2.length cm1) ∧ Below w2.heap.size w2 W1)) := ⟨fun W W1 hb h => ⟨(hb.cell (World.block_lt_of_cell? W _ (h.1))).trans (h.1), (hb.cell (World.block_lt_of_cell? W _ (h.2.1))).trans (h.2.1), (hb.cell (World.block_lt_of_cell? W _ (h.2.2.1))).trans (h.2.2.1), (hb.cell (World.block_lt_of_cell? W _ (h.2.2.2.1))).trans (h.2.2.2.1), bel_then (h.2.2.2.2) hb⟩⟩
 have join : Hid (∀ {goal : Prop} {G : Option Addr → Nat → Option Addr → Nat → Option Addr → Nat → Option Addr → Nat → Option Addr → Nat → Nat → World → Prop} (rg : Hid (∀ (D0_0 : Option Addr) (dd0_0 : Nat) (D0_1 : Option Addr) (dd0_1 : Nat) (Qlist0 : Option Addr) (qlist0 : Nat) (Qm0 : Option Addr) (qm0 : Nat) (Qm1 : Option Addr) (qm1 : Nat) (g0 : Nat) (V : World), Below w2.heap.size w2 V ∧ w2.heap.size ≤ g0 ∧ Kd.R kAddr 25 V w2.heap.size (fun q => w2.heap.size ≤ q ∧ q < V.heap.size ∧ q ≠ g0) (.slice D0_0 M0.f1.length dd0_0) M0.f1 ∧ Kd.R Kd.string 9 V w2.heap.size (fun q => w2.heap.size ≤ q ∧ q < V.heap.size ∧ q ≠ g0) (.slice D0_1 M0.f2.length dd0_1) M0.f2 ∧ V.heap[g0]? = some (.cells #[.string M0.f0.f0, .string M0.f0.f1, .slice D0_0 M0.f1.length dd0_0, .slice D0_1 M0.f2.length dd0_1] 29 (0, 0)) → G D0_0 dd0_0 D0_1 dd0_1 Qlist0 qlist0 Qm0 qm0 Qm1 qm1 g0 V) → goal) (hk : ∀ (D0_0 : Option Addr) (dd0_0 : Nat) (D0_1 : Option Addr) (dd0_1 : Nat) (Qlist0 : Option Addr) (qlist0 : Nat) (Qm0 : Option Addr) (qm0 : Nat) (Qm1 : Option Addr) (qm1 : Nat) (g0 : Nat) (V : World), Below w2.heap.size w2 V ∧ w2.heap.size ≤ g0 ∧ Kd.R kAddr 25 V w2.heap.size (fun q => w2.heap.size ≤ q ∧ q < V.heap.size ∧ q ≠ g0) (.slice D0_0 M0.f1.length dd0_0) M0.f1 ∧ Kd.R Kd.string 9 V w2.heap.size (fun q => w2.heap.size ≤ q ∧ q < V.heap.size ∧ q ≠ g0) (.slice D0_1 M0.f2.length dd0_1) M0.f2 ∧ V.heap[g0]? = some (.cells #[.string M0.f0.f0, .string M0.f0.f1, .slice D0_0 M0.f1.length dd0_0, .slice D0_1 M0.f2.length dd0_1] 29 (0, 0)) → G D0_0 dd0_0 D0_1 dd0_1 Qlist0 qlist0 Qm0 qm0 Qm1 qm1 g0 V), goal) := Lib.hid (fun f h => f (Lib.hid h))
 have HST : Aside0 ((fun W => W.cell? ⟨w.heap.size, 0, none⟩ = some (.string m.f0.f0) ∧ W.cell? ⟨w.heap.size, 1, none⟩ = some (.string m.f0.f1) ∧ W.cell? ⟨w.heap.size, 2, none⟩ = some (.slice Am0 m.f1.length cm0) ∧ W.cell? ⟨w.heap.size, 3, none⟩ = some (.slice Am1 m.f2.length cm1) ∧ Below w2.heap.size w2 W) (w2).drew) := ⟨⟨c0_, c1_, c2_, c3_, bel_then (Below.refl w2.heap.size w2) (drew_below0 _)⟩⟩
 clear c0_ c1_ c2_ c3_
 apply join.out
 case rg =>
  intro HKK
  refine wp_region_held_drew (S := (fun W => W.cell? ⟨w.heap.size, 0, none⟩ = some (.string m.f0.f0) ∧ W.cell? ⟨w.heap.size, 1, none⟩ = some (.string m.f0.f1) ∧ W.cell? ⟨w.heap.size, 2, none⟩ = some (.slice Am0 m.f1.length cm0) ∧ W.cell? ⟨w.heap.size, 3, none⟩ = some (.slice Am1 m.f2.length cm1) ∧ Below w2.heap.size w2 W)) (by kernel_rfl) ?s1 (fun hHeld => ?t1)
  case s1 => exact HST.out
  generalize World.drew _ = V0 at hHeld ⊢
  have s0_ : w2.heap.size ≤ V0.heap.size := hHeld.2.2.2.2.size
  refine tk 0 ?v2 ?y2 ?r2
  case y2 => intro w_ hSw; (try dsimp only at hSw); go_simp; (try (with_reducible rfl))
  try simp only [Act.put, List.setIfInBounds_toArray, List.set_cons_zero, List.set_cons_succ]
  refine tk 2 ?v3 ?y3 ?r3
  case y3 => intro w_ hSw; (try dsimp only at hSw); go_simp; (try (with_reducible rfl))
  try simp only [Act.put, List.setIfInBounds_toArray, List.set_cons_zero, List.set_cons_succ]
  refine rdy (rs := [1, 8]) ?_
  refine rc (fun K hK => ?k4) (rc (fun K hK => ?k5) AllReadyH.nil)
  case k4 =>
   go_simp
   refine (hto_list _ (bel_then HB0.out (bel_then B2 hHeld.2.2.2.2)) f_list).mono ?_
   rintro e V1 ⟨Qlist0, qlist0, rfl, gq_list0, b1⟩
   refine hK.out _ _ ?h6 (fun hHeld => ?j6)
   case h6 => exact HK.out _ _ b1 hHeld
   clear hK K
   try simp only [Act.put, List.setIfInBounds_toArray, List.set_cons_zero, List.set_cons_succ]
   have Tlist0 := Aside0.mk gq_list0
   clear gq_list0
   have s1_ := b1.size
   refine rdy (rs := [3, 8]) ?_
   refine rc (fun K hK => ?k7) (rc (fun K hK => ?k8) AllReadyH.nil)
   case k7 =>
    go_simp
    refine (hto_m _ (bel_then HB0.out (bel_then B2 hHeld.2.2.2.2)) f_m).mono ?_
    rintro e V3 ⟨Qm0, qm0, Qm1, qm1, rfl, gq_m0, gq_m1, b3⟩
    refine hK.out _ _ ?h9 (fun hHeld => ?j9)
    case h9 => exact HK.out _ _ b3 hHeld
    clear hK K
    try simp only [Act.put, List.setIfInBounds_toArray, List.set_cons_zero, List.set_cons_succ]
    have Tm0 := Aside0.mk gq_m0
    have Tm1 := Aside0.mk gq_m1
    clear gq_m0
    clear gq_m1
    have s3_ := b3.size
    replace Tlist0 := Aside0.mk (Kd.S_below Tlist0.out b3)
    refine rdy (rs := [4, 8]) ?_
    refine rc (fun K hK => ?k10) (rc (fun K hK => ?k11) AllReadyH.nil)
    case k10 =>
     go_simp
     have hcl := specAliasMail_any Qlist0 qlist0 list m Qm0 qm0 Qm1 qm1 V3 f_list f_m (Kd.S_reads' Tlist0.out).2.2 (Kd.R_reads' Tm0.out).2.2 (Kd.R_reads' Tm1.out).2.2
     rw [HV0.out, HV1.out] at hcl
     refine hcl.mono ?_
     clear hcl
     rintro e V4 ⟨D0_0, dd0_0, D0_1, dd0_1, rfl, gu0_0, gu0_1, b4⟩
     refine hK.out _ _ ?h12 (fun hHeld => ?j12)
     case h12 => exact HK.out _ _ b4 hHeld
     clear hK K
     try simp only [Act.put, List.setIfInBounds_toArray, List.set_cons_zero, List.set_cons_succ]
     have U0_0 := Aside0.mk (Kd.R_lower (base' := w2.heap.size) (Kd.R_mono (Kd.R_bound gu0_0) (ok' := fun q => V3.heap.size ≤ q ∧ q < V4.heap.size) (fun q hq => ⟨hq.2.1, hq.2.2.1⟩)) (by have := hHeld.2.2.2.2.size; omega))
     have U0_1 := Aside0.mk (Kd.R_lower (base' := w2.heap.size) (Kd.R_mono (Kd.R_bound gu0_1) (ok' := fun q => V3.heap.size ≤ q ∧ q < V4.heap.size) (fun q hq => ⟨hq.2.1, hq.2.2.1⟩)) (by have := hHeld.2.2.2.2.size; omega))
     clear gu0_0 gu0_1
     have s4_ := b4.size
     replace Tlist0 := Aside0.mk (Kd.S_below Tlist0.out b4)
     replace Tm0 := Aside0.mk (Kd.R_below Tm0.out b4)
     replace Tm1 := Aside0.mk (Kd.R_below Tm1.out b4)
     refine tk 5 ?v13 ?y13 ?r13
     case y13 => intro w_ hSw; (try dsimp only at hSw); go_simp; (try (with_reducible rfl))
     try simp only [Act.put, List.setIfInBounds_toArray, List.set_cons_zero, List.set_cons_succ]
     refine tk 6 ?v14 ?y14 ?r14
     case y14 => intro w_ hSw; (try dsimp only at hSw); go_simp; (try (with_reducible rfl))
     try simp only [Act.put, List.setIfInBounds_toArray, List.set_cons_zero, List.set_cons_succ]
     refine tk 7 ?v15 ?y15 ?r15
     case y15 => intro w_ hSw; (try dsimp only at hSw); go_simp; (try (with_reducible rfl))
     try simp only [Act.put, List.setIfInBounds_toArray, List.set_cons_zero, List.set_cons_succ]
     refine rdy (rs := [8]) ?_
     refine rc (fun K hK => ?k16) AllReadyH.nil
     case k16 =>
      go_simp
      refine hK.out _ _ ?h17 (fun hHeld => ?j17)
      case h17 => exact HK.out _ _ (bel_alloc (Below.refl _ _) _) hHeld
      clear hK K
      try simp only [Act.put, List.setIfInBounds_toArray, List.set_cons_zero, List.set_cons_succ]
      generalize hV8 : World.alloc V4 _ = V8 at hHeld ⊢
      have b8 : Below V4.heap.size V4 V8 := by rw [← hV8]; exact bel_alloc (Below.refl _ _) _
      have z8 : V4.heap.size < V8.heap.size := by rw [← hV8]; simp
      have F0 := Aside0.mk (by rw [← hV8]; exact blk_new _ _ : V8.heap[V4.heap.size]? = some (.cells #[.string ⟨#[]⟩, .string ⟨#[]⟩, .slice none 0 0, .slice none 0 0] 29 (0, 0)))
      obtain ⟨g0, hg0⟩ : ∃ g, g = V4.heap.size := ⟨_, rfl⟩
      have lo0 : V4.heap.size ≤ g0 := by omega
      have al0 : w2.heap.size ≤ g0 := by omega
      have hi0 : g0 < V8.heap.size := by omega
      rw [← hg0] at F0 ⊢
      clear hV8 hg0 z8
      have s8_ := b8.size
      replace Tlist0 := Aside0.mk (Kd.S_below Tlist0.out b8)
      replace Tm0 := Aside0.mk (Kd.R_below Tm0.out b8)
      replace Tm1 := Aside0.mk (Kd.R_below Tm1.out b8)
      replace U0_0 := Aside0.mk (Kd.R_below U0_0.out b8)
      replace U0_1 := Aside0.mk (Kd.R_below U0_1.out b8)
      refine rdy (rs := [9]) ?_
      refine rc (fun K hK => ?k18) AllReadyH.nil
      case k18 =>
       have hb7 := F0.out
       have v0_ : V8.cell? ⟨g0, 0, none⟩ = some (.string ⟨#[]⟩) := by simp [World.cell?, hb7]
       have v1_ : V8.cell? ⟨g0, 1, none⟩ = some (.string ⟨#[]⟩) := by simp [World.cell?, hb7]
       have v2_ : V8.cell? ⟨g0, 2, none⟩ = some (.slice none 0 0) := by simp [World.cell?, hb7]
       have v3_ : V8.cell? ⟨g0, 3, none⟩ = some (.slice none 0 0) := by simp [World.cell?, hb7]
       have u0_ : V8.frozen? ⟨g0, 0, none⟩ = false := by simp [World.frozen?, hb7]
       have u1_ : V8.frozen? ⟨g0, 1, none⟩ = false := by simp [World.frozen?, hb7]
       have u2_ : V8.frozen? ⟨g0, 2, none⟩ = false := by simp [World.frozen?, hb7]
       have u3_ : V8.frozen? ⟨g0, 3, none⟩ = false := by simp [World.frozen?, hb7]
       go_simp
       generalize hV9 : World.setCell (World.setCell (World.setCell (World.setCell V8 ⟨g0, 0, none⟩ _) ⟨g0, 1, none⟩ _) ⟨g0, 2, none⟩ _) ⟨g0, 3, none⟩ _ = V9
       have G9 : V8.grownBy V9 (some g0) := by rw [← hV9]; exact (((grown_set1 _ _ _ _).trans (grown_set1 _ _ _ _)).trans (grown_set1 _ _ _ _)).trans (grown_set1 _ _ _ _)
       have FF0 : V9.heap[g0]? = some (.cells #[.string M0.f0.f0, .string M0.f0.f1, .slice D0_0 M0.f1.length dd0_0, .slice D0_1 M0.f2.length dd0_1] 29 (0, 0)) := by rw [← hV9, blk_set1 (blk_set1 (blk_set1 (blk_set1 (F0.out) 0 _) 1 _) 2 _) 3 _]; simp
       have BB : Below w2.heap.size w2 V9 := by rw [← hV9]; exact (bel_set (bel_set (bel_set (bel_set (hHeld.2.2.2.2) _ al0) _ al0) _ al0) _ al0)
       clear hV9
       refine hK.out _ _ ?h19 (fun hHeld => ?j19)
       case h19 => (exact ⟨(World.cell?_of_block (G9.block _ (World.block_lt_of_cell? _ _ hHeld.1) (fun e => by have e := Option.some.inj e; (try dsimp only at e); omega))).trans hHeld.1, (World.cell?_of_block (G9.block _ (World.block_lt_of_cell? _ _ hHeld.2.1) (fun e => by have e := Option.some.inj e; (try dsimp only at e); omega))).trans hHeld.2.1, (World.cell?_of_block (G9.block _ (World.block_lt_of_cell? _ _ hHeld.2.2.1) (fun e => by have e := Option.some.inj e; (try dsimp only at e); omega))).trans hHeld.2.2.1, (World.cell?_of_block (G9.block _ (World.block_lt_of_cell? _ _ hHeld.2.2.2.1) (fun e => by have e := Option.some.inj e; (try dsimp only at e); omega))).trans hHeld.2.2.2.1, BB⟩)
       clear hK K
       try simp only [Act.put, List.setIfInBounds_toArray, List.set_cons_zero, List.set_cons_succ]
       replace U0_0 := Aside0.mk (Kd.R_grown U0_0.out G9 (fun q hq e => by injection e with e; have h1 := hq.1; have h2 := hq.2; omega))
       replace U0_1 := Aside0.mk (Kd.R_grown U0_1.out G9 (fun q hq e => by injection e with e; have h1 := hq.1; have h2 := hq.2; omega))
       replace F0 := Aside0.mk FF0
       have s9_ : V8.heap.size ≤ V9.heap.size := G9.size
       refine tk 10 ?v20 ?y20 ?r20
       case y20 => intro w_ hSw; (try dsimp only at hSw); go_simp; (try (with_reducible rfl))
       try simp only [Act.put, List.setIfInBounds_toArray, List.set_cons_zero, List.set_cons_succ]
       refine wpAnyH_done (by kernel_rfl) ?_ _
       exact HKK.out D0_0 dd0_0 D0_1 dd0_1 Qlist0 qlist0 Qm0 qm0 Qm1 qm1 g0 V9 ⟨hHeld.2.2.2.2, (by omega), Kd.R_mono U0_0.out (fun q hq => by have h1 := hq.1; have h2 := hq.2; refine ⟨?_, ?_, ?_⟩ <;> omega), Kd.R_mono U0_1.out (fun q hq => by have h1 := hq.1; have h2 := hq.2; refine ⟨?_, ?_, ?_⟩ <;> omega), F0.out⟩
    case k11 =>
     go_simp
     refine hK.out _ _ ?h21 (fun hHeld => ?j21)
     case h21 => exact HK.out _ _ (bel_alloc (Below.refl _ _) _) hHeld
     clear hK K
     try simp only [Act.put, List.setIfInBounds_toArray, List.set_cons_zero, List.set_cons_succ]
     generalize hV8 : World.alloc V3 _ = V8 at hHeld ⊢
     have b8 : Below V3.heap.size V3 V8 := by rw [← hV8]; exact bel_alloc (Below.refl _ _) _
     have z8 : V3.heap.size < V8.heap.size := by rw [← hV8]; simp
     have F0 := Aside0.mk (by rw [← hV8]; exact blk_new _ _ : V8.heap[V3.heap.size]? = some (.cells #[.string ⟨#[]⟩, .string ⟨#[]⟩, .slice none 0 0, .slice none 0 0] 29 (0, 0)))
     obtain ⟨g0, hg0⟩ : ∃ g, g = V3.heap.size := ⟨_, rfl⟩
     have lo0 : V3.heap.size ≤ g0 := by omega
     have al0 : w2.heap.size ≤ g0 := by omega
     have hi0 : g0 < V8.heap.size := by omega
     rw [← hg0] at F0 ⊢
     clear hV8 hg0 z8
     have s8_ := b8.size
     replace Tlist0 := Aside0.mk (Kd.S_below Tlist0.out b8)
     replace Tm0 := Aside0.mk (Kd.R_below Tm0.out b8)
     replace Tm1 := Aside0.mk (Kd.R_below Tm1.out b8)
     refine rdy (rs := [4]) ?_
     refine rc (fun K hK => ?k22) AllReadyH.nil
     case k22 =>
      go_simp
      have hcl := specAliasMail_any Qlist0 qlist0 list m Qm0 qm0 Qm1 qm1 V8 f_list f_m (Kd.S_reads' Tlist0.out).2.2 (Kd.R_reads' Tm0.out).2.2 (Kd.R_reads' Tm1.out).2.2
      rw [HV0.out, HV1.out] at hcl
      refine hcl.mono ?_
      clear hcl
      rintro e V4 ⟨D0_0, dd0_0, D0_1, dd0_1, rfl, gu0_0, gu0_1, b4⟩
      refine hK.out _ _ ?h23 (fun hHeld => ?j23)
      case h23 => exact HK.out _ _ b4 hHeld
      clear hK K
      try simp only [Act.put, List.setIfInBounds_toArray, List.set_cons_zero, List.set_cons_succ]
      have U0_0 := Aside0.mk (Kd.R_lower (base' := w2.heap.size) (Kd.R_mono (Kd.R_bound gu0_0) (ok' := fun q => V8.heap.size ≤ q ∧ q < V4.heap.size) (fun q hq => ⟨hq.2.1, hq.2.2.1⟩)) (by have := hHeld.2.2.2.2.size; omega))
      have U0_1 := Aside0.mk (Kd.R_lower (base' := w2.heap.size) (Kd.R_mono (Kd.R_bound gu0_1) (ok' := fun q => V8.heap.size ≤ q ∧ q < V4.heap.size) (fun q hq => ⟨hq.2.1, hq.2.2.1⟩)) (by have := hHeld.2.2.2.2.size; omega))
      clear gu0_0 gu0_1
      have s4_ := b4.size
      replace Tlist0 := Aside0.mk (Kd.S_below Tlist0.out b4)
      replace Tm0 := Aside0.mk (Kd.R_below Tm0.out b4)
      replace Tm1 := Aside0.mk (Kd.R_below Tm1.out b4)
      replace F0 := Aside0.mk (below_blk F0.out b4)
      refine tk 5 ?v24 ?y24 ?r24
      case y24 => intro w_ hSw; (try dsimp only at hSw); go_simp; (try (with_reducible rfl))
      try simp only [Act.put, List.setIfInBounds_toArray, List.set_cons_zero, List.set_cons_succ]
      refine tk 6 ?v25 ?y25 ?r25
      case y25 => intro w_ hSw; (try dsimp only at hSw); go_simp; (try (with_reducible rfl))
      try simp only [Act.put, List.setIfInBounds_toArray, List.set_cons_zero, List.set_cons_succ]
      refine tk 7 ?v26 ?y26 ?r26
      case y26 => intro w_ hSw; (try dsimp only at hSw); go_simp; (try (with_reducible rfl))
      try simp only [Act.put, List.setIfInBounds_toArray, List.set_cons_zero, List.set_cons_succ]
      refine rdy (rs := [9]) ?_
      refine rc (fun K hK => ?k27) AllReadyH.nil
      case k27 =>
       have hb7 := F0.out
       have v0_ : V4.cell? ⟨g0, 0, none⟩ = some (.string ⟨#[]⟩) := by simp [World.cell?, hb7]
       have v1_ : V4.cell? ⟨g0, 1, none⟩ = some (.string ⟨#[]⟩) := by simp [World.cell?, hb7]
       have v2_ : V4.cell? ⟨g0, 2, none⟩ = some (.slice none 0 0) := by simp [World.cell?, hb7]
       have v3_ : V4.cell? ⟨g0, 3, none⟩ = some (.slice none 0 0) := by simp [World.cell?, hb7]
       have u0_ : V4.frozen? ⟨g0, 0, none⟩ = false := by simp [World.frozen?, hb7]
       have u1_ : V4.frozen? ⟨g0, 1, none⟩ = false := by simp [World.frozen?, hb7]
       have u2_ : V4.frozen? ⟨g0, 2, none⟩ = false := by simp [World.frozen?, hb7]
       have u3_ : V4.frozen? ⟨g0, 3, none⟩ = false := by simp [World.frozen?, hb7]
       go_simp
       generalize hV9 : World.setCell (World.setCell (World.setCell (World.setCell V4 ⟨g0, 0, none⟩ _) ⟨g0, 1, none⟩ _) ⟨g0, 2, none⟩ _) ⟨g0, 3, none⟩ _ = V9
       have G9 : V4.grownBy V9 (some g0) := by rw [← hV9]; exact (((grown_set1 _ _ _ _).trans (grown_set1 _ _ _ _)).trans (grown_set1 _ _ _ _)).trans (grown_set1 _ _ _ _)
       have FF0 : V9.heap[g0]? = some (.cells #[.string M0.f0.f0, .string M0.f0.f1, .slice D0_0 M0.f1.length dd0_0, .slice D0_1 M0.f2.length dd0_1] 29 (0, 0)) := by rw [← hV9, blk_set1 (blk_set1 (blk_set1 (blk_set1 (F0.out) 0 _) 1 _) 2 _) 3 _]; simp
       have BB : Below w2.heap.size w2 V9 := by rw [← hV9]; exact (bel_set (bel_set (bel_set (bel_set (hHeld.2.2.2.2) _ al0) _ al0) _ al0) _ al0)
       clear hV9
       refine hK.out _ _ ?h28 (fun hHeld => ?j28)
       case h28 => (exact ⟨(World.cell?_of_block (G9.block _ (World.block_lt_of_cell? _ _ hHeld.1) (fun e => by have e := Option.some.inj e; (try dsimp only at e); omega))).trans hHeld.1, (World.cell?_of_block (G9.block _ (World.block_lt_of_cell? _ _ hHeld.2.1) (fun e => by have e := Option.some.inj e; (try dsimp only at e); omega))).trans hHeld.2.1, (World.cell?_of_block (G9.block _ (World.block_lt_of_cell? _ _ hHeld.2.2.1) (fun e => by have e := Option.some.inj e; (try dsimp only at e); omega))).trans hHeld.2.2.1, (World.cell?_of_block (G9.block _ (World.block_lt_of_cell? _ _ hHeld.2.2.2.1) (fun e => by have e := Option.some.inj e; (try dsimp only at e); omega))).trans hHeld.2.2.2.1, BB⟩)
       clear hK K
       try simp only [Act.put, List.setIfInBounds_toArray, List.set_cons_zero, List.set_cons_succ]
       replace U0_0 := Aside0.mk (Kd.R_grown U0_0.out G9 (fun q hq e => by injection e with e; have h1 := hq.1; have h2 := hq.2; omega))
       replace U0_1 := Aside0.mk (Kd.R_grown U0_1.out G9 (fun q hq e => by injection e with e; have h1 := hq.1; have h2 := hq.2; omega))
       replace F0 := Aside0.mk FF0
       have s9_ : V4.heap.size ≤ V9.heap.size := G9.size
       refine tk 10 ?v29 ?y29 ?r29
       case y29 => intro w_ hSw; (try dsimp only at hSw); go_simp; (try (with_reducible rfl))
       try simp only [Act.put, List.setIfInBounds_toArray, List.set_cons_zero, List.set_cons_succ]
       refine wpAnyH_done (by kernel_rfl) ?_ _
       exact HKK.out D0_0 dd0_0 D0_1 dd0_1 Qlist0 qlist0 Qm0 qm0 Qm1 qm1 g0 V9 ⟨hHeld.2.2.2.2, (by omega), Kd.R_mono U0_0.out (fun q hq => by have h1 := hq.1; have h2 := hq.2; refine ⟨?_, ?_, ?_⟩ <;> omega), Kd.R_mono U0_1.out (fun q hq => by have h1 := hq.1; have h2 := hq.2; refine ⟨?_, ?_, ?_⟩ <;> omega), F0.out⟩
   case k8 =>
    go_simp
    refine hK.out _ _ ?h30 (fun hHeld => ?j30)
    case h30 => exact HK.out _ _ (bel_alloc (Below.refl _ _) _) hHeld
    clear hK K
    try simp only [Act.put, List.setIfInBounds_toArray, List.set_cons_zero, List.set_cons_succ]
    generalize hV8 : World.alloc V1 _ = V8 at hHeld ⊢
    have b8 : Below V1.heap.size V1 V8 := by rw [← hV8]; exact bel_alloc (Below.refl _ _) _
    have z8 : V1.heap.size < V8.heap.size := by rw [← hV8]; simp
    have F0 := Aside0.mk (by rw [← hV8]; exact blk_new _ _ : V8.heap[V1.heap.size]? = some (.cells #[.string ⟨#[]⟩, .string ⟨#[]⟩, .slice none 0 0, .slice none 0 0] 29 (0, 0)))
    obtain ⟨g0, hg0⟩ : ∃ g, g = V1.heap.size := ⟨_, rfl⟩
    have lo0 : V1.heap.size ≤ g0 := by omega
    have al0 : w2.heap.size ≤ g0 := by omega
    have hi0 : g0 < V8.heap.size := by omega
    rw [← hg0] at F0 ⊢
    clear hV8 hg0 z8
    have s8_ := b8.size
    replace Tlist0 := Aside0.mk (Kd.S_below Tlist0.out b8)
    refine rdy (rs := [3]) ?_
    refine rc (fun K hK => ?k31) AllReadyH.nil
    case k31 =>
     go_simp
     refine (hto_m _ (bel_then HB0.out (bel_then B2 hHeld.2.2.2.2)) f_m).mono ?_
     rintro e V3 ⟨Qm0, qm0, Qm1, qm1, rfl, gq_m0, gq_m1, b3⟩
     refine hK.out _ _ ?h32 (fun hHeld => ?j32)
     case h32 => exact HK.out _ _ b3 hHeld
     clear hK K
     try simp only [Act.put, List.setIfInBounds_toArray, List.set_cons_zero, List.set_cons_succ]
     have Tm0 := Aside0.mk gq_m0
     have Tm1 := Aside0.mk gq_m1
     clear gq_m0
     clear gq_m1
     have s3_ := b3.size
     replace Tlist0 := Aside0.mk (Kd.S_below Tlist0.out b3)
     replace F0 := Aside0.mk (below_blk F0.out b3)
     refine rdy (rs := [4]) ?_
     refine rc (fun K hK => ?k33) AllReadyH.nil
     case k33 =>
      go_simp
      have hcl := specAliasMail_any Qlist0 qlist0 list m Qm0 qm0 Qm1 qm1 V3 f_list f_m (Kd.S_reads' Tlist0.out).2.2 (Kd.R_reads' Tm0.out).2.2 (Kd.R_reads' Tm1.out).2.2
      rw [HV0.out, HV1.out] at hcl
      refine hcl.mono ?_
      clear hcl
      rintro e V4 ⟨D0_0, dd0_0, D0_1, dd0_1, rfl, gu0_0, gu0_1, b4⟩
      refine hK.out _ _ ?h34 (fun hHeld => ?j34)
      case h34 => exact HK.out _ _ b4 hHeld
      clear hK K
      try simp only [Act.put, List.setIfInBounds_toArray, List.set_cons_zero, List.set_cons_succ]
      have U0_0 := Aside0.mk (Kd.R_lower (base' := w2.heap.size) (Kd.R_mono (Kd.R_bound gu0_0) (ok' := fun q => V3.heap.size ≤ q ∧ q < V4.heap.size) (fun q hq => ⟨hq.2.1, hq.2.2.1⟩)) (by have := hHeld.2.2.2.2.size; omega))
      have U0_1 := Aside0.mk (Kd.R_lower (base' := w2.heap.size) (Kd.R_mono (Kd.R_bound gu0_1) (ok' := fun q => V3.heap.size ≤ q ∧ q < V4.heap.size) (fun q hq => ⟨hq.2.1, hq.2.2.1⟩)) (by have := hHeld.2.2.2.2.size; omega))
      clear gu0_0 gu0_1
      have s4_ := b4.size
      replace Tlist0 := Aside0.mk (Kd.S_below Tlist0.out b4)
      replace F0 := Aside0.mk (below_blk F0.out b4)
      replace Tm0 := Aside0.mk (Kd.R_below Tm0.out b4)
      replace Tm1 := Aside0.mk (Kd.R_below Tm1.out b4)
      refine tk 5 ?v35 ?y35 ?r35
      case y35 => intro w_ hSw; (try dsimp only at hSw); go_simp; (try (with_reducible rfl))
      try simp only [Act.put, List.setIfInBounds_toArray, List.set_cons_zero, List.set_cons_succ]
      refine tk 6 ?v36 ?y36 ?r36
      case y36 => intro w_ hSw; (try dsimp only at hSw); go_simp; (try (with_reducible rfl))
      try simp only [Act.put, List.setIfInBounds_toArray, List.set_cons_zero, List.set_cons_succ]
      refine tk 7 ?v37 ?y37 ?r37
      case y37 => intro w_ hSw; (try dsimp only at hSw); go_simp; (try (with_reducible rfl))
      try simp only [Act.put, List.setIfInBounds_toArray, List.set_cons_zero, List.set_cons_succ]
      refine rdy (rs := [9]) ?_
      refine rc (fun K hK => ?k38) AllReadyH.nil
      case k38 =>
       have hb7 := F0.out
       have v0_ : V4.cell? ⟨g0, 0, none⟩ = some (.string ⟨#[]⟩) := by simp [World.cell?, hb7]
       have v1_ : V4.cell? ⟨g0, 1, none⟩ = some (.string ⟨#[]⟩) := by simp [World.cell?, hb7]
       have v2_ : V4.cell? ⟨g0, 2, none⟩ = some (.slice none 0 0) := by simp [World.cell?, hb7]
       have v3_ : V4.cell? ⟨g0, 3, none⟩ = some (.slice none 0 0) := by simp [World.cell?, hb7]
       have u0_ : V4.frozen? ⟨g0, 0, none⟩ = false := by simp [World.frozen?, hb7]
       have u1_ : V4.frozen? ⟨g0, 1, none⟩ = false := by simp [World.frozen?, hb7]
       have u2_ : V4.frozen? ⟨g0, 2, none⟩ = false := by simp [World.frozen?, hb7]
       have u3_ : V4.frozen? ⟨g0, 3, none⟩ = false := by simp [World.frozen?, hb7]
       go_simp
       generalize hV9 : World.setCell (World.setCell (World.setCell (World.setCell V4 ⟨g0, 0, none⟩ _) ⟨g0, 1, none⟩ _) ⟨g0, 2, none⟩ _) ⟨g0, 3, none⟩ _ = V9
       have G9 : V4.grownBy V9 (some g0) := by rw [← hV9]; exact (((grown_set1 _ _ _ _).trans (grown_set1 _ _ _ _)).trans (grown_set1 _ _ _ _)).trans (grown_set1 _ _ _ _)
       have FF0 : V9.heap[g0]? = some (.cells #[.string M0.f0.f0, .string M0.f0.f1, .slice D0_0 M0.f1.length dd0_0, .slice D0_1 M0.f2.length dd0_1] 29 (0, 0)) := by rw [← hV9, blk_set1 (blk_set1 (blk_set1 (blk_set1 (F0.out) 0 _) 1 _) 2 _) 3 _]; simp
       have BB : Below w2.heap.size w2 V9 := by rw [← hV9]; exact (bel_set (bel_set (bel_set (bel_set (hHeld.2.2.2.2) _ al0) _ al0) _ al0) _ al0)
       clear hV9
       refine hK.out _ _ ?h39 (fun hHeld => ?j39)
       case h39 => (exact ⟨(World.cell?_of_block (G9.block _ (World.block_lt_of_cell? _ _ hHeld.1) (fun e => by have e := Option.some.inj e; (try dsimp only at e); omega))).trans hHeld.1, (World.cell?_of_block (G9.block _ (World.block_lt_of_cell? _ _ hHeld.2.1) (fun e => by have e := Option.some.inj e; (try dsimp only at e); omega))).trans hHeld.2.1, (World.cell?_of_block (G9.block _ (World.block_lt_of_cell? _ _ hHeld.2.2.1) (fun e => by have e := Option.some.inj e; (try dsimp only at e); omega))).trans hHeld.2.2.1, (World.cell?_of_block (G9.block _ (World.block_lt_of_cell? _ _ hHeld.2.2.2.1) (fun e => by have e := Option.some.inj e; (try dsimp only at e); omega))).trans hHeld.2.2.2.1, BB⟩)
       clear hK K
       try simp only [Act.put, List.setIfInBounds_toArray, List.set_cons_zero, List.set_cons_succ]
       replace U0_0 := Aside0.mk (Kd.R_grown U0_0.out G9 (fun q hq e => by injection e with e; have h1 := hq.1; have h2 := hq.2; omega))
       replace U0_1 := Aside0.mk (Kd.R_grown U0_1.out G9 (fun q hq e => by injection e with e; have h1 := hq.1; have h2 := hq.2; omega))
       replace F0 := Aside0.mk FF0
       have s9_ : V4.heap.size ≤ V9.heap.size := G9.size
       refine tk 10 ?v40 ?y40 ?r40
       case y40 => intro w_ hSw; (try dsimp only at hSw); go_simp; (try (with_reducible rfl))
       try simp only [Act.put, List.setIfInBounds_toArray, List.set_cons_zero, List.set_cons_succ]
       refine wpAnyH_done (by kernel_rfl) ?_ _
       exact HKK.out D0_0 dd0_0 D0_1 dd0_1 Qlist0 qlist0 Qm0 qm0 Qm1 qm1 g0 V9 ⟨hHeld.2.2.2.2, (by omega), Kd.R_mono U0_0.out (fun q hq => by have h1 := hq.1; have h2 := hq.2; refine ⟨?_, ?_, ?_⟩ <;> omega), Kd.R_mono U0_1.out (fun q hq => by have h1 := hq.1; have h2 := hq.2; refine ⟨?_, ?_, ?_⟩ <;> omega), F0.out⟩
  case k5 =>
   go_simp
   refine hK.out _ _ ?h41 (fun hHeld => ?j41)
   case h41 => exact HK.out _ _ (bel_alloc (Below.refl _ _) _) hHeld
   clear hK K
   try simp only [Act.put, List.setIfInBounds_toArray, List.set_cons_zero, List.set_cons_succ]
   generalize hV8 : World.alloc V0 _ = V8 at hHeld ⊢
   have b8 : Below V0.heap.size V0 V8 := by rw [← hV8]; exact bel_alloc (Below.refl _ _) _
   have z8 : V0.heap.size < V8.heap.size := by rw [← hV8]; simp
   have F0 := Aside0.mk (by rw [← hV8]; exact blk_new _ _ : V8.heap[V0.heap.size]? = some (.cells #[.string ⟨#[]⟩, .string ⟨#[]⟩, .slice none 0 0, .slice none 0 0] 29 (0, 0)))
   obtain ⟨g0, hg0⟩ : ∃ g, g = V0.heap.size := ⟨_, rfl⟩
   have lo0 : V0.heap.size ≤ g0 := by omega
   have al0 : w2.heap.size ≤ g0 := by omega
   have hi0 : g0 < V8.heap.size := by omega
   rw [← hg0] at F0 ⊢
   clear hV8 hg0 z8
   have s8_ := b8.size
   refine rdy (rs := [1]) ?_
   refine rc (fun K hK => ?k42) AllReadyH.nil
   case k42 =>
    go_simp
    refine (hto_list _ (bel_then HB0.out (bel_then B2 hHeld.2.2.2.2)) f_list).mono ?_
    rintro e V1 ⟨Qlist0, qlist0, rfl, gq_list0, b1⟩
    refine hK.out _ _ ?h43 (fun hHeld => ?j43)
    case h43 => exact HK.out _ _ b1 hHeld
    clear hK K
    try simp only [Act.put, List.setIfInBounds_toArray, List.set_cons_zero, List.set_cons_succ]
    have Tlist0 := Aside0.mk gq_list0
    clear gq_list0
    have s1_ := b1.size
    replace F0 := Aside0.mk (below_blk F0.out b1)
    refine rdy (rs := [3]) ?_
    refine rc (fun K hK => ?k44) AllReadyH.nil
    case k44 =>
     go_simp
     refine (hto_m _ (bel_then HB0.out (bel_then B2 hHeld.2.2.2.2)) f_m).mono ?_
     rintro e V3 ⟨Qm0, qm0, Qm1, qm1, rfl, gq_m0, gq_m1, b3⟩
     refine hK.out _ _ ?h45 (fun hHeld => ?j45)
     case h45 => exact HK.out _ _ b3 hHeld
     clear hK K
     try simp only [Act.put, List.setIfInBounds_toArray, List.set_cons_zero, List.set_cons_succ]
     have Tm0 := Aside0.mk gq_m0
     have Tm1 := Aside0.mk gq_m1
     clear gq_m0
     clear gq_m1
     have s3_ := b3.size
     replace F0 := Aside0.mk (below_blk F0.out b3)
     replace Tlist0 := Aside0.mk (Kd.S_below Tlist0.out b3)
     refine rdy (rs := [4]) ?_
     refine rc (fun K hK => ?k46) AllReadyH.nil
     case k46 =>
      go_simp
      have hcl := specAliasMail_any Qlist0 qlist0 list m Qm0 qm0 Qm1 qm1 V3 f_list f_m (Kd.S_reads' Tlist0.out).2.2 (Kd.R_reads' Tm0.out).2.2 (Kd.R_reads' Tm1.out).2.2
      rw [HV0.out, HV1.out] at hcl
      refine hcl.mono ?_
      clear hcl
      rintro e V4 ⟨D0_0, dd0_0, D0_1, dd0_1, rfl, gu0_0, gu0_1, b4⟩
      refine hK.out _ _ ?h47 (fun hHeld => ?j47)
      case h47 => exact HK.out _ _ b4 hHeld
      clear hK K
      try simp only [Act.put, List.setIfInBounds_toArray, List.set_cons_zero, List.set_cons_succ]
      have U0_0 := Aside0.mk (Kd.R_lower (base' := w2.heap.size) (Kd.R_mono (Kd.R_bound gu0_0) (ok' := fun q => V3.heap.size ≤ q ∧ q < V4.heap.size) (fun q hq => ⟨hq.2.1, hq.2.2.1⟩)) (by have := hHeld.2.2.2.2.size; omega))
      have U0_1 := Aside0.mk (Kd.R_lower (base' := w2.heap.size) (Kd.R_mono (Kd.R_bound gu0_1) (ok' := fun q => V3.heap.size ≤ q ∧ q < V4.heap.size) (fun q hq => ⟨hq.2.1, hq.2.2.1⟩)) (by have := hHeld.2.2.2.2.size; omega))
      clear gu0_0 gu0_1
      have s4_ := b4.size
      replace F0 := Aside0.mk (below_blk F0.out b4)
      replace Tlist0 := Aside0.mk (Kd.S_below Tlist0.out b4)
      replace Tm0 := Aside0.mk (Kd.R_below Tm0.out b4)
      replace Tm1 := Aside0.mk (Kd.R_below Tm1.out b4)
      refine tk 5 ?v48 ?y48 ?r48
      case y48 => intro w_ hSw; (try dsimp only at hSw); go_simp; (try (with_reducible rfl))
      try simp only [Act.put, List.setIfInBounds_toArray, List.set_cons_zero, List.set_cons_succ]
      refine tk 6 ?v49 ?y49 ?r49
      case y49 => intro w_ hSw; (try dsimp only at hSw); go_simp; (try (with_reducible rfl))
      try simp only [Act.put, List.setIfInBounds_toArray, List.set_cons_zero, List.set_cons_succ]
      refine tk 7 ?v50 ?y50 ?r50
      case y50 => intro w_ hSw; (try dsimp only at hSw); go_simp; (try (with_reducible rfl))
      try simp only [Act.put, List.setIfInBounds_toArray, List.set_cons_zero, List.set_cons_succ]
      refine rdy (rs := [9]) ?_
      refine rc (fun K hK => ?k51) AllReadyH.nil
      case k51 =>
       have hb7 := F0.out
       have v0_ : V4.cell? ⟨g0, 0, none⟩ = some (.string ⟨#[]⟩) := by simp [World.cell?, hb7]
       have v1_ : V4.cell? ⟨g0, 1, none⟩ = some (.string ⟨#[]⟩) := by simp [World.cell?, hb7]
       have v2_ : V4.cell? ⟨g0, 2, none⟩ = some (.slice none 0 0) := by simp [World.cell?, hb7]
       have v3_ : V4.cell? ⟨g0, 3, none⟩ = some (.slice none 0 0) := by simp [World.cell?, hb7]
       have u0_ : V4.frozen? ⟨g0, 0, none⟩ = false := by simp [World.frozen?, hb7]
       have u1_ : V4.frozen? ⟨g0, 1, none⟩ = false := by simp [World.frozen?, hb7]
       have u2_ : V4.frozen? ⟨g0, 2, none⟩ = false := by simp [World.frozen?, hb7]
       have u3_ : V4.frozen? ⟨g0, 3, none⟩ = false := by simp [World.frozen?, hb7]
       go_simp
       generalize hV9 : World.setCell (World.setCell (World.setCell (World.setCell V4 ⟨g0, 0, none⟩ _) ⟨g0, 1, none⟩ _) ⟨g0, 2, none⟩ _) ⟨g0, 3, none⟩ _ = V9
       have G9 : V4.grownBy V9 (some g0) := by rw [← hV9]; exact (((grown_set1 _ _ _ _).trans (grown_set1 _ _ _ _)).trans (grown_set1 _ _ _ _)).trans (grown_set1 _ _ _ _)
       have FF0 : V9.heap[g0]? = some (.cells #[.string M0.f0.f0, .string M0.f0.f1, .slice D0_0 M0.f1.length dd0_0, .slice D0_1 M0.f2.length dd0_1] 29 (0, 0)) := by rw [← hV9, blk_set1 (blk_set1 (blk_set1 (blk_set1 (F0.out) 0 _) 1 _) 2 _) 3 _]; simp
       have BB : Below w2.heap.size w2 V9 := by rw [← hV9]; exact (bel_set (bel_set (bel_set (bel_set (hHeld.2.2.2.2) _ al0) _ al0) _ al0) _ al0)
       clear hV9
       refine hK.out _ _ ?h52 (fun hHeld => ?j52)
       case h52 => (exact ⟨(World.cell?_of_block (G9.block _ (World.block_lt_of_cell? _ _ hHeld.1) (fun e => by have e := Option.some.inj e; (try dsimp only at e); omega))).trans hHeld.1, (World.cell?_of_block (G9.block _ (World.block_lt_of_cell? _ _ hHeld.2.1) (fun e => by have e := Option.some.inj e; (try dsimp only at e); omega))).trans hHeld.2.1, (World.cell?_of_block (G9.block _ (World.block_lt_of_cell? _ _ hHeld.2.2.1) (fun e => by have e := Option.some.inj e; (try dsimp only at e); omega))).trans hHeld.2.2.1, (World.cell?_of_block (G9.block _ (World.block_lt_of_cell? _ _ hHeld.2.2.2.1) (fun e => by have e := Option.some.inj e; (try dsimp only at e); omega))).trans hHeld.2.2.2.1, BB⟩)
       clear hK K
       try simp only [Act.put, List.setIfInBounds_toArray, List.set_cons_zero, List.set_cons_succ]
       replace U0_0 := Aside0.mk (Kd.R_grown U0_0.out G9 (fun q hq e => by injection e with e; have h1 := hq.1; have h2 := hq.2; omega))
       replace U0_1 := Aside0.mk (Kd.R_grown U0_1.out G9 (fun q hq e => by injection e with e; have h1 := hq.1; have h2 := hq.2; omega))
       replace F0 := Aside0.mk FF0
       have s9_ : V4.heap.size ≤ V9.heap.size := G9.size
       refine tk 10 ?v53 ?y53 ?r53
       case y53 => intro w_ hSw; (try dsimp only at hSw); go_simp; (try (with_reducible rfl))
       try simp only [Act.put, List.setIfInBounds_toArray, List.set_cons_zero, List.set_cons_succ]
       refine wpAnyH_done (by kernel_rfl) ?_ _
       exact HKK.out D0_0 dd0_0 D0_1 dd0_1 Qlist0 qlist0 Qm0 qm0 Qm1 qm1 g0 V9 ⟨hHeld.2.2.2.2, (by omega), Kd.R_mono U0_0.out (fun q hq => by have h1 := hq.1; have h2 := hq.2; refine ⟨?_, ?_, ?_⟩ <;> omega), Kd.R_mono U0_1.out (fun q hq => by have h1 := hq.1; have h2 := hq.2; refine ⟨?_, ?_, ?_⟩ <;> omega), F0.out⟩
 case hk =>
  intro D0_0 dd0_0 D0_1 dd0_1 Qlist0 qlist0 Qm0 qm0 Qm1 qm1 gw0 w3 ⟨bb3, agw0, hHW0_0, hHW0_1, fgw0⟩
  clear HST HK join
  have B3 := bel_then B2 bb3
  have sz3 := bb3.size
  have HW0_0 := Aside0.mk hHW0_0
  clear hHW0_0
  have HW0_1 := Aside0.mk hHW0_1
  clear hHW0_1
  have Fgw0 := Aside0.mk fgw0
  have ubgw0 : gw0 < w3.heap.size := blk_lt fgw0
  clear fgw0
  clear zz0_
  obtain ⟨c0_, c1_, c2_, c3_⟩ := HC.out _ B3
  have zz0_ : w.heap.size < w3.heap.size := Nat.lt_of_lt_of_le Z0 B3.size
  have yFgw0_0 : w3.cell? ⟨gw0, 0, none⟩ = some (.string M0.f0.f0) := by simp [World.cell?, Fgw0.out]
  have yFgw0_1 : w3.cell? ⟨gw0, 1, none⟩ = some (.string M0.f0.f1) := by simp [World.cell?, Fgw0.out]
  have yFgw0_2 : w3.cell? ⟨gw0, 2, none⟩ = some (.slice D0_0 M0.f1.length dd0_0) := by simp [World.cell?, Fgw0.out]
  have yFgw0_3 : w3.cell? ⟨gw0, 3, none⟩ = some (.slice D0_1 M0.f2.length dd0_1) := by simp [World.cell?, Fgw0.out]
  have lFgw0 : gw0 < w3.heap.size := blk_lt Fgw0.out
  have hcall := fun (W : World) (hW : Below w3.heap.size w3 W) => hto_list W (bel_then HB0.out (bel_then B3 hW)) f_list
  go_wp2_with fail
  refine (hcall _ (Below.refl _ _)).mono ?_
  rintro e w4 ⟨Elist0, elist0, rfl, gx_list0, b4⟩
  clear hcall
  have lo4 : w3.heap.size ≤ w4.heap.size := by have := b4.size; (try simp at this); omega
  have Xlist0 := Aside0.mk (Kd.S_mono (Kd.S_bound gx_list0) (ok' := fun q => w3.heap.size ≤ q ∧ q < w4.heap.size) (fun q hq => ⟨by have h2 := hq.2.1; (try simp at h2); omega, hq.2.2.1⟩))
  clear gx_list0
  have bb4 := bel_then (Below.refl w3.heap.size w3) b4
  have B4 := bel_then B3 bb4
  have sz4 := bb4.size
  replace HW0_0 := Aside0.mk (Kd.R_below HW0_0.out bb4)
  replace HW0_1 := Aside0.mk (Kd.R_below HW0_1.out bb4)
  replace Fgw0 := Aside0.mk (below_blk Fgw0.out bb4)
  clear c0_ c1_ c2_ c3_ zz0_ yFgw0_0 yFgw0_1 yFgw0_2 yFgw0_3 lFgw0
  obtain ⟨c0_, c1_, c2_, c3_⟩ := HC.out _ B4
  have zz0_ : w.heap.size < w4.heap.size := Nat.lt_of_lt_of_le Z0 B4.size
  have yFgw0_0 : w4.cell? ⟨gw0, 0, none⟩ = some (.string M0.f0.f0) := by simp [World.cell?, Fgw0.out]
  have yFgw0_1 : w4.cell? ⟨gw0, 1, none⟩ = some (.string M0.f0.f1) := by simp [World.cell?, Fgw0.out]
  have yFgw0_2 : w4.cell? ⟨gw0, 2, none⟩ = some (.slice D0_0 M0.f1.length dd0_0) := by simp [World.cell?, Fgw0.out]
  have yFgw0_3 : w4.cell? ⟨gw0, 3, none⟩ = some (.slice D0_1 M0.f2.length dd0_1) := by simp [World.cell?, Fgw0.out]
  have lFgw0 : gw0 < w4.heap.size := blk_lt Fgw0.out
  clear b4 bb4
  have hcall := fun (W : World) (hW : Below w4.heap.size w4 W) => hto_m W (bel_then HB0.out (bel_then B4 hW)) f_m
  go_wp2_with fail
  refine (hcall _ (Below.refl _ _)).mono ?_
  rintro e w5 ⟨Em0, em0, Em1, em1, rfl, gx_m0, gx_m1, b5⟩
  clear hcall
  have lo5 : w4.heap.size ≤ w5.heap.size := by have := b5.size; (try simp at this); omega
  have Xm0 := Aside0.mk (Kd.R_mono (Kd.R_bound gx_m0) (ok' := fun q => w4.heap.size ≤ q ∧ q < w5.heap.size) (fun q hq => ⟨by have h2 := hq.2.1; (try simp at h2); omega, hq.2.2.1⟩))
  clear gx_m0
  have Xm1 := Aside0.mk (Kd.R_mono (Kd.R_bound gx_m1) (ok' := fun q => w4.heap.size ≤ q ∧ q < w5.heap.size) (fun q hq => ⟨by have h2 := hq.2.1; (try simp at h2); omega, hq.2.2.1⟩))
  clear gx_m1
  have bb5 := bel_then (Below.refl w4.heap.size w4) b5
  have B5 := bel_then B4 bb5
  have sz5 := bb5.size
  replace HW0_0 := Aside0.mk (Kd.R_below HW0_0.out bb5)
  replace HW0_1 := Aside0.mk (Kd.R_below HW0_1.out bb5)
  replace Xlist0 := Aside0.mk (Kd.S_below Xlist0.out bb5)
  replace Fgw0 := Aside0.mk (below_blk Fgw0.out bb5)
  clear c0_ c1_ c2_ c3_ zz0_ yFgw0_0 yFgw0_1 yFgw0_2 yFgw0_3 lFgw0
  obtain ⟨c0_, c1_, c2_, c3_⟩ := HC.out _ B5
  have zz0_ : w.heap.size < w5.heap.size := Nat.lt_of_lt_of_le Z0 B5.size
  have yFgw0_0 : w5.cell? ⟨gw0, 0, none⟩ = some (.string M0.f0.f0) := by simp [World.cell?, Fgw0.out]
  have yFgw0_1 : w5.cell? ⟨gw0, 1, none⟩ = some (.string M0.f0.f1) := by simp [World.cell?, Fgw0.out]
  have yFgw0_2 : w5.cell? ⟨gw0, 2, none⟩ = some (.slice D0_0 M0.f1.length dd0_0) := by simp [World.cell?, Fgw0.out]
  have yFgw0_3 : w5.cell? ⟨gw0, 3, none⟩ = some (.slice D0_1 M0.f2.length dd0_1) := by simp [World.cell?, Fgw0.out]
  have lFgw0 : gw0 < w5.heap.size := blk_lt Fgw0.out
  clear b5 bb5
  have hcall := fun (W : World) (hW : Below w5.heap.size w5 W) => aliasMail_any Elist0 elist0 list m Em0 em0 Em1 em1 W f_list f_m (Kd.C_below (Kd.S_reads' Xlist0.out).2.2 hW) (Kd.C_below (Kd.R_reads' Xm0.out).2.2 hW) (Kd.C_below (Kd.R_reads' Xm1.out).2.2 hW) (HG.out.below (bel_then HB0.out (bel_then B5 hW)))
  simp only [HV0.out, HV1.out] at hcall
  go_wp2_with fail
  refine (hcall _ (bel_alloc (Below.refl _ _) _)).mono ?_
  rintro e w6 ⟨G0_0, gd0_0, G0_1, gd0_1, rfl, gu0_0, gu0_1, b6⟩
  clear hcall
  have lo6 : w5.heap.size + 1 ≤ w6.heap.size := by have := b6.size; (try simp at this); omega
  have HG0_0 := Aside0.mk (Kd.R_mono (Kd.R_bound gu0_0) (ok' := (fun q => w5.heap.size + 1 ≤ q ∧ q < w6.heap.size)) (fun q hq => ⟨by have h2 := hq.2.1; (try simp at h2); omega, hq.2.2.1⟩))
  clear gu0_0
  have HG0_1 := Aside0.mk (Kd.R_mono (Kd.R_bound gu0_1) (ok' := (fun q => w5.heap.size + 1 ≤ q ∧ q < w6.heap.size)) (fun q hq => ⟨by have h2 := hq.2.1; (try simp at h2); omega, hq.2.2.1⟩))
  clear gu0_1
  have bb6 := bel_then (bel_alloc (Below.refl w5.heap.size w5) _) b6
  have B6 := bel_then B5 bb6
  have sz6 := bb6.size
  replace HW0_0 := Aside0.mk (Kd.R_below HW0_0.out bb6)
  replace HW0_1 := Aside0.mk (Kd.R_below HW0_1.out bb6)
  replace Xlist0 := Aside0.mk (Kd.S_below Xlist0.out bb6)
  replace Xm0 := Aside0.mk (Kd.R_below Xm0.out bb6)
  replace Xm1 := Aside0.mk (Kd.R_below Xm1.out bb6)
  replace Fgw0 := Aside0.mk (below_blk Fgw0.out bb6)
  have FXm := Aside0.mk (below_blk (blk_new w5 (.cells #[.string m.f0.f0, .string m.f0.f1, .slice Em0 m.f1.length em0, .slice Em1 m.f2.length em1] 29)) b6)
  clear c0_ c1_ c2_ c3_ zz0_ yFgw0_0 yFgw0_1 yFgw0_2 yFgw0_3 lFgw0
  obtain ⟨c0_, c1_, c2_, c3_⟩ := HC.out _ B6
  have zz0_ : w.heap.size < w6.heap.size := Nat.lt_of_lt_of_le Z0 B6.size
  have yFgw0_0 : w6.cell? ⟨gw0, 0, none⟩ = some (.string M0.f0.f0) := by simp [World.cell?, Fgw0.out]
  have yFgw0_1 : w6.cell? ⟨gw0, 1, none⟩ = some (.string M0.f0.f1) := by simp [World.cell?, Fgw0.out]
  have yFgw0_2 : w6.cell? ⟨gw0, 2, none⟩ = some (.slice D0_0 M0.f1.length dd0_0) := by simp [World.cell?, Fgw0.out]
  have yFgw0_3 : w6.cell? ⟨gw0, 3, none⟩ = some (.slice D0_1 M0.f2.length dd0_1) := by simp [World.cell?, Fgw0.out]
  have lFgw0 : gw0 < w6.heap.size := blk_lt Fgw0.out
  have yFXm_0 : w6.cell? ⟨w5.heap.size, 0, none⟩ = some (.string m.f0.f0) := by simp [World.cell?, FXm.out]
  have yFXm_1 : w6.cell? ⟨w5.heap.size, 1, none⟩ = some (.string m.f0.f1) := by simp [World.cell?, FXm.out]
  have yFXm_2 : w6.cell? ⟨w5.heap.size, 2, none⟩ = some (.slice Em0 m.f1.length em0) := by simp [World.cell?, FXm.out]
  have yFXm_3 : w6.cell? ⟨w5.heap.size, 3, none⟩ = some (.slice Em1 m.f2.length em1) := by simp [World.cell?, FXm.out]
  have lFXm : w5.heap.size < w6.heap.size := blk_lt FXm.out
  clear b6 bb6
  have hcall := fun (W : World) (hW : Below w6.heap.size w6 W) => eqMail_any M0 G0_0 gd0_0 G0_1 gd0_1 D0_0 dd0_0 D0_1 dd0_1 W HVF0.out (Kd.C_below (Kd.R_reads' HG0_0.out).2.2 hW) (Kd.C_below (Kd.R_reads' HG0_1.out).2.2 hW) (Kd.C_below (Kd.R_reads' HW0_0.out).2.2 hW) (Kd.C_below (Kd.R_reads' HW0_1.out).2.2 hW)
  go_wp2_with fail
  refine (hcall _ (bel_alloc (Below.refl _ _) _)).mono ?_
  rintro e w7 ⟨rfl, b7⟩
  clear hcall
  have bb7 := bel_then (bel_alloc (Below.refl w6.heap.size w6) _) b7
  have B7 := bel_then B6 bb7
  have sz7 := bb7.size
  replace HW0_0 := Aside0.mk (Kd.R_below HW0_0.out bb7)
  replace HW0_1 := Aside0.mk (Kd.R_below HW0_1.out bb7)
  replace Xlist0 := Aside0.mk (Kd.S_below Xlist0.out bb7)
  replace Xm0 := Aside0.mk (Kd.R_below Xm0.out bb7)
  replace Xm1 := Aside0.mk (Kd.R_below Xm1.out bb7)
  replace HG0_0 := Aside0.mk (Kd.R_below HG0_0.out bb7)
  replace HG0_1 := Aside0.mk (Kd.R_below HG0_1.out bb7)
  replace Fgw0 := Aside0.mk (below_blk Fgw0.out bb7)
  replace FXm := Aside0.mk (below_blk FXm.out bb7)
  have Fgg0 := Aside0.mk (below_blk (blk_new w6 (.cells #[.string M0.f0.f0, .string M0.f0.f1, .slice G0_0 M0.f1.length gd0_0, .slice G0_1 M0.f2.length gd0_1] 29)) b7)
  clear c0_ c1_ c2_ c3_ zz0_ yFgw0_0 yFgw0_1 yFgw0_2 yFgw0_3 lFgw0 yFXm_0 yFXm_1 yFXm_2 yFXm_3 lFXm
  obtain ⟨c0_, c1_, c2_, c3_⟩ := HC.out _ B7
  have zz0_ : w.heap.size < w7.heap.size := Nat.lt_of_lt_of_le Z0 B7.size
  have yFgw0_0 : w7.cell? ⟨gw0, 0, none⟩ = some (.string M0.f0.f0) := by simp [World.cell?, Fgw0.out]
  have yFgw0_1 : w7.cell? ⟨gw0, 1, none⟩ = some (.string M0.f0.f1) := by simp [World.cell?, Fgw0.out]
  have yFgw0_2 : w7.cell? ⟨gw0, 2, none⟩ = some (.slice D0_0 M0.f1.length dd0_0) := by simp [World.cell?, Fgw0.out]
  have yFgw0_3 : w7.cell? ⟨gw0, 3, none⟩ = some (.slice D0_1 M0.f2.length dd0_1) := by simp [World.cell?, Fgw0.out]
  have lFgw0 : gw0 < w7.heap.size := blk_lt Fgw0.out
  have yFXm_0 : w7.cell? ⟨w5.heap.size, 0, none⟩ = some (.string m.f0.f0) := by simp [World.cell?, FXm.out]
  have yFXm_1 : w7.cell? ⟨w5.heap.size, 1, none⟩ = some (.string m.f0.f1) := by simp [World.cell?, FXm.out]
  have yFXm_2 : w7.cell? ⟨w5.heap.size, 2, none⟩ = some (.slice Em0 m.f1.length em0) := by simp [World.cell?, FXm.out]
  have yFXm_3 : w7.cell? ⟨w5.heap.size, 3, none⟩ = some (.slice Em1 m.f2.length em1) := by simp [World.cell?, FXm.out]
  have lFXm : w5.heap.size < w7.heap.size := blk_lt FXm.out
  have yFgg0_0 : w7.cell? ⟨w6.heap.size, 0, none⟩ = some (.string M0.f0.f0) := by simp [World.cell?, Fgg0.out]
  have yFgg0_1 : w7.cell? ⟨w6.heap.size, 1, none⟩ = some (.string M0.f0.f1) := by simp [World.cell?, Fgg0.out]
  have yFgg0_2 : w7.cell? ⟨w6.heap.size, 2, none⟩ = some (.slice G0_0 M0.f1.length gd0_0) := by simp [World.cell?, Fgg0.out]
  have yFgg0_3 : w7.cell? ⟨w6.heap.size, 3, none⟩ = some (.slice G0_1 M0.f2.length gd0_1) := by simp [World.cell?, Fgg0.out]
  have lFgg0 : w6.heap.size < w7.heap.size := blk_lt Fgg0.out
  clear b7 bb7
  have hcall := fun (W : World) (hW : Below w7.heap.size w7 W) => hto_list W (bel_then HB0.out (bel_then B7 hW)) f_list
  go_wp2_with fail
  refine (hcall _ (Below.refl _ _)).mono ?_
  rintro e w8 ⟨Qlist0, qlist0, rfl, gq_list0, b8⟩
  clear hcall
  have bb8 := bel_then (Below.refl w7.heap.size w7) b8
  have B8 := bel_then B7 bb8
  have sz8 := bb8.size
  replace HW0_0 := Aside0.mk (Kd.R_below HW0_0.out bb8)
  replace HW0_1 := Aside0.mk (Kd.R_below HW0_1.out bb8)
  replace Xlist0 := Aside0.mk (Kd.S_below Xlist0.out bb8)
  replace Xm0 := Aside0.mk (Kd.R_below Xm0.out bb8)
  replace Xm1 := Aside0.mk (Kd.R_below Xm1.out bb8)
  replace HG0_0 := Aside0.mk (Kd.R_below HG0_0.out bb8)
  replace HG0_1 := Aside0.mk (Kd.R_below HG0_1.out bb8)
  replace Fgw0 := Aside0.mk (below_blk Fgw0.out bb8)
  replace FXm := Aside0.mk (below_blk FXm.out bb8)
  replace Fgg0 := Aside0.mk (below_blk Fgg0.out bb8)
  clear c0_ c1_ c2_ c3_ zz0_ yFgw0_0 yFgw0_1 yFgw0_2 yFgw0_3 lFgw0 yFXm_0 yFXm_1 yFXm_2 yFXm_3 lFXm yFgg0_0 yFgg0_1 yFgg0_2 yFgg0_3 lFgg0
  obtain ⟨c0_, c1_, c2_, c3_⟩ := HC.out _ B8
  have zz0_ : w.heap.size < w8.heap.size := Nat.lt_of_lt_of_le Z0 B8.size
  have yFgw0_0 : w8.cell? ⟨gw0, 0, none⟩ = some (.string M0.f0.f0) := by simp [World.cell?, Fgw0.out]
  have yFgw0_1 : w8.cell? ⟨gw0, 1, none⟩ = some (.string M0.f0.f1) := by simp [World.cell?, Fgw0.out]
  have yFgw0_2 : w8.cell? ⟨gw0, 2, none⟩ = some (.slice D0_0 M0.f1.length dd0_0) := by simp [World.cell?, Fgw0.out]
  have yFgw0_3 : w8.cell? ⟨gw0, 3, none⟩ = some (.slice D0_1 M0.f2.length dd0_1) := by simp [World.cell?, Fgw0.out]
  have lFgw0 : gw0 < w8.heap.size := blk_lt Fgw0.out
  have yFXm_0 : w8.cell? ⟨w5.heap.size, 0, none⟩ = some (.string m.f0.f0) := by simp [World.cell?, FXm.out]
  have yFXm_1 : w8.cell? ⟨w5.heap.size, 1, none⟩ = some (.string m.f0.f1) := by simp [World.cell?, FXm.out]
  have yFXm_2 : w8.cell? ⟨w5.heap.size, 2, none⟩ = some (.slice Em0 m.f1.length em0) := by simp [World.cell?, FXm.out]
  have yFXm_3 : w8.cell? ⟨w5.heap.size, 3, none⟩ = some (.slice Em1 m.f2.length em1) := by simp [World.cell?, FXm.out]
  have lFXm : w5.heap.size < w8.heap.size := blk_lt FXm.out
  have yFgg0_0 : w8.cell? ⟨w6.heap.size, 0, none⟩ = some (.string M0.f0.f0) := by simp [World.cell?, Fgg0.out]
  have yFgg0_1 : w8.cell? ⟨w6.heap.size, 1, none⟩ = some (.string M0.f0.f1) := by simp [World.cell?, Fgg0.out]
  have yFgg0_2 : w8.cell? ⟨w6.heap.size, 2, none⟩ = some (.slice G0_0 M0.f1.length gd0_0) := by simp [World.cell?, Fgg0.out]
  have yFgg0_3 : w8.cell? ⟨w6.heap.size, 3, none⟩ = some (.slice G0_1 M0.f2.length gd0_1) := by simp [World.cell?, Fgg0.out]
  have lFgg0 : w6.heap.size < w8.heap.size := blk_lt Fgg0.out
  have Tlist0 := Aside0.mk gq_list0
  clear gq_list0
  clear b8 bb8
  have hcall := fun (W : World) (hW : Below w8.heap.size w8 W) => eqAliasS_any Elist0 elist0 Qlist0 qlist0 list W f_list (Kd.C_below (Kd.S_reads' Xlist0.out).2.2 hW) (Kd.C_below (Kd.S_reads' Tlist0.out).2.2 hW)
  go_wp2_with fail
  refine (hcall _ (Below.refl _ _)).mono ?_
  rintro e w9 ⟨rfl, b9⟩
  clear hcall
  have bb9 := bel_then (Below.refl w8.heap.size w8) b9
  have B9 := bel_then B8 bb9
  have sz9 := bb9.size
  replace HW0_0 := Aside0.mk (Kd.R_below HW0_0.out bb9)
  replace HW0_1 := Aside0.mk (Kd.R_below HW0_1.out bb9)
  replace Xlist0 := Aside0.mk (Kd.S_below Xlist0.out bb9)
  replace Xm0 := Aside0.mk (Kd.R_below Xm0.out bb9)
  replace Xm1 := Aside0.mk (Kd.R_below Xm1.out bb9)
  replace HG0_0 := Aside0.mk (Kd.R_below HG0_0.out bb9)
  replace HG0_1 := Aside0.mk (Kd.R_below HG0_1.out bb9)
  replace Tlist0 := Aside0.mk (Kd.S_below Tlist0.out bb9)
  replace Fgw0 := Aside0.mk (below_blk Fgw0.out bb9)
  replace FXm := Aside0.mk (below_blk FXm.out bb9)
  replace Fgg0 := Aside0.mk (below_blk Fgg0.out bb9)
  clear c0_ c1_ c2_ c3_ zz0_ yFgw0_0 yFgw0_1 yFgw0_2 yFgw0_3 lFgw0 yFXm_0 yFXm_1 yFXm_2 yFXm_3 lFXm yFgg0_0 yFgg0_1 yFgg0_2 yFgg0_3 lFgg0
  obtain ⟨c0_, c1_, c2_, c3_⟩ := HC.out _ B9
  have zz0_ : w.heap.size < w9.heap.size := Nat.lt_of_lt_of_le Z0 B9.size
  have yFgw0_0 : w9.cell? ⟨gw0, 0, none⟩ = some (.string M0.f0.f0) := by simp [World.cell?, Fgw0.out]
  have yFgw0_1 : w9.cell? ⟨gw0, 1, none⟩ = some (.string M0.f0.f1) := by simp [World.cell?, Fgw0.out]
  have yFgw0_2 : w9.cell? ⟨gw0, 2, none⟩ = some (.slice D0_0 M0.f1.length dd0_0) := by simp [World.cell?, Fgw0.out]
  have yFgw0_3 : w9.cell? ⟨gw0, 3, none⟩ = some (.slice D0_1 M0.f2.length dd0_1) := by simp [World.cell?, Fgw0.out]
  have lFgw0 : gw0 < w9.heap.size := blk_lt Fgw0.out
  have yFXm_0 : w9.cell? ⟨w5.heap.size, 0, none⟩ = some (.string m.f0.f0) := by simp [World.cell?, FXm.out]
  have yFXm_1 : w9.cell? ⟨w5.heap.size, 1, none⟩ = some (.string m.f0.f1) := by simp [World.cell?, FXm.out]
  have yFXm_2 : w9.cell? ⟨w5.heap.size, 2, none⟩ = some (.slice Em0 m.f1.length em0) := by simp [World.cell?, FXm.out]
  have yFXm_3 : w9.cell? ⟨w5.heap.size, 3, none⟩ = some (.slice Em1 m.f2.length em1) := by simp [World.cell?, FXm.out]
  have lFXm : w5.heap.size < w9.heap.size := blk_lt FXm.out
  have yFgg0_0 : w9.cell? ⟨w6.heap.size, 0, none⟩ = some (.string M0.f0.f0) := by simp [World.cell?, Fgg0.out]
  have yFgg0_1 : w9.cell? ⟨w6.heap.size, 1, none⟩ = some (.string M0.f0.f1) := by simp [World.cell?, Fgg0.out]
  have yFgg0_2 : w9.cell? ⟨w6.heap.size, 2, none⟩ = some (.slice G0_0 M0.f1.length gd0_0) := by simp [World.cell?, Fgg0.out]
  have yFgg0_3 : w9.cell? ⟨w6.heap.size, 3, none⟩ = some (.slice G0_1 M0.f2.length gd0_1) := by simp [World.cell?, Fgg0.out]
  have lFgg0 : w6.heap.size < w9.heap.size := blk_lt Fgg0.out
  clear b9 bb9
  clear Tlist0
  go_wp2
  have HK : Aside0 (∀ W W1, Below W.heap.size W W1 → (W.cell? ⟨w.heap.size, 0, none⟩ = some (.string m.f0.f0) ∧ W.cell? ⟨w.heap.size, 1, none⟩ = some (.string m.f0.f1) ∧ W.cell? ⟨w.heap.size, 2, none⟩ = some (.slice Am0 m.f1.length cm0) ∧ W.cell? ⟨w.heap.size, 3, none⟩ = some (.slice Am1 m.f2.length cm1) ∧ W.cell? ⟨w5.heap.size, 0, none⟩ = some (.string m.f0.f0) ∧ W.cell? ⟨w5.heap.size, 1, none⟩ = some (.string m.f0.f1) ∧ W.cell? ⟨w5.heap.size, 2, none⟩ = some (.slice Em0 m.f1.length em0) ∧ W.cell? ⟨w5.heap.size, 3, none⟩ = some (.slice Em1 m.f2.length em1) ∧ Below w9.heap.size w9 W) → (W1.cell? ⟨w.heap.size, 0, none⟩ = some (.string m.f0.f0) ∧ W1.cell? ⟨w.heap.size, 1, none⟩ = some (.string m.f0.f1) ∧ W1.cell? ⟨w.heap.size, 2, none⟩ = some (.slice Am0 m.f1.length cm0) ∧ W1.cell? ⟨w.heap.size, 3, none⟩ = some (.slice Am1 m.f2.length cm1) ∧ W1.cell? ⟨w5.heap.size, 0, none⟩ = some (.string m.f0.f0) ∧ W1.cell? ⟨w5.heap.size, 1, none⟩ = some (.string m.f0.f1) ∧ W1.cell? ⟨w5.heap.size, 2, none⟩ = some (.slice Em0 m.f1.length em0) ∧ W1.cell? ⟨w5.heap.size, 3, none⟩ = some (.slice Em1 m.f2.length em1) ∧ Below w9.heap.size w9 W1)) := ⟨fun W W1 hb h => ⟨(hb.cell (World.block_lt_of_cell? W _ (h.1))).trans (h.1), (hb.cell (World.block_lt_of_cell? W _ (h.2.1))).trans (h.2.1), (hb.cell (World.block_lt_of_cell? W _ (h.2.2.1))).trans (h.2.2.1), (hb.cell (World.block_lt_of_cell? W _ (h.2.2.2.1))).trans (h.2.2.2.1), (hb.cell (World.block_lt_of_cell? W _ (h.2.2.2.2.1))).trans (h.2.2.2.2.1), (hb.cell (World.block_lt_of_cell? W _ (h.2.2.2.2.2.1))).trans (h.2.2.2.2.2.1), (hb.cell (World.block_lt_of_cell? W _ (h.2.2.2.2.2.2.1))).trans (h.2.2.2.2.2.2.1), (hb.cell (World.block_lt_of_cell? W _ (h.2.2.2.2.2.2.2.1))).trans (h.2.2.2.2.2.2.2.1), bel_then (h.2.2.2.2.2.2.2.2) hb⟩⟩
  refine wp_region_held_drew (S := (fun W => W.cell? ⟨w.heap.size, 0, none⟩ = some (.string m.f0.f0) ∧ W.cell? ⟨w.heap.size, 1, none⟩ = some (.string m.f0.f1) ∧ W.cell? ⟨w.heap.size, 2, none⟩ = some (.slice Am0 m.f1.length cm0) ∧ W.cell? ⟨w.heap.size, 3, none⟩ = some (.slice Am1 m.f2.length cm1) ∧ W.cell? ⟨w5.heap.size, 0, none⟩ = some (.string m.f0.f0) ∧ W.cell? ⟨w5.heap.size, 1, none⟩ = some (.string m.f0.f1) ∧ W.cell? ⟨w5.heap.size, 2, none⟩ = some (.slice Em0 m.f1.length em0) ∧ W.cell? ⟨w5.heap.size, 3, none⟩ = some (.slice Em1 m.f2.length em1) ∧ Below w9.heap.size w9 W)) (by kernel_rfl) ?s54 (fun hHeld => ?t54)
  case s54 => exact ⟨c0_, c1_, c2_, c3_, yFXm_0, yFXm_1, yFXm_2, yFXm_3, bel_then (Below.refl _ _) (drew_below0 w9)⟩
  refine tk 0 ?v55 ?y55 ?r55
  case y55 => intro w_ hSw; (try dsimp only at hSw); go_simp; (try (with_reducible rfl))
  try simp only [Act.put, List.setIfInBounds_toArray, List.set_cons_zero, List.set_cons_succ]
  refine tk 1 ?v56 ?y56 ?r56
  case y56 => intro w_ hSw; (try dsimp only at hSw); go_simp; (try (with_reducible rfl))
  try simp only [Act.put, List.setIfInBounds_toArray, List.set_cons_zero, List.set_cons_succ]
  refine rdy (rs := [2]) ?_
  refine rc (fun K hK => ?k57) AllReadyH.nil
  case' k57 => skip
  go_simp
  refine (hto_m _ (bel_then HB0.out (bel_then B9 hHeld.2.2.2.2.2.2.2.2)) f_m).mono ?_
  rintro e wa10 ⟨Qm0, qm0, Qm1, qm1, rfl, ga_m0, ga_m1, ba⟩
  have Ca_0 := (Kd.R_reads' ga_m0).2.2
  have Ca_1 := (Kd.R_reads' ga_m1).2.2
  have hBa := bel_then hHeld.2.2.2.2.2.2.2.2 ba
  refine hK.out _ _ ?h57 (fun hHeld => ?j57)
  case h57 => exact HK.out _ _ ba hHeld
  clear hK K
  try simp only [Act.put, List.setIfInBounds_toArray, List.set_cons_zero, List.set_cons_succ]
  refine rdy (rs := [3]) ?_
  refine rc (fun K hK => ?k58) AllReadyH.nil
  case' k58 => skip
  go_simp
  refine (eqMail_any m Em0 em0 Em1 em1 Qm0 qm0 Qm1 qm1 _ f_m (Kd.C_below (Kd.R_reads' Xm0.out).2.2 hBa) (Kd.C_below (Kd.R_reads' Xm1.out).2.2 hBa) Ca_0 Ca_1).mono ?_
  rintro e w10 ⟨rfl, bb⟩
  have hBb := bel_then hBa bb
  refine hK.out _ _ ?h58 (fun hHeld => ?j58)
  case h58 => exact HK.out _ _ bb hHeld
  clear hK K
  try simp only [Act.put, List.setIfInBounds_toArray, List.set_cons_zero, List.set_cons_succ]
  refine tk 4 ?v59 ?y59 ?r59
  case y59 => intro w_ hSw; (try dsimp only at hSw); go_simp; (try (with_reducible rfl))
  try simp only [Act.put, List.setIfInBounds_toArray, List.set_cons_zero, List.set_cons_succ]
  refine wpAnyH_done (by kernel_rfl) ?_ _
  clear HK c0_ c1_ c2_ c3_ yFgw0_0 yFgw0_1 yFgw0_2 yFgw0_3 yFXm_0 yFXm_1 yFXm_2 yFXm_3 yFgg0_0 yFgg0_1 yFgg0_2 yFgg0_3
  have bb10 := hHeld.2.2.2.2.2.2.2.2
  have B10 := bel_then B9 bb10
  have sz10 := bb10.size
  clear hHeld
  replace HW0_0 := Aside0.mk (Kd.R_below HW0_0.out bb10)
  replace HW0_1 := Aside0.mk (Kd.R_below HW0_1.out bb10)
  replace Xlist0 := Aside0.mk (Kd.S_below Xlist0.out bb10)
  replace Xm0 := Aside0.mk (Kd.R_below Xm0.out bb10)
  replace Xm1 := Aside0.mk (Kd.R_below Xm1.out bb10)
  replace HG0_0 := Aside0.mk (Kd.R_below HG0_0.out bb10)
  replace HG0_1 := Aside0.mk (Kd.R_below HG0_1.out bb10)
  replace Fgw0 := Aside0.mk (below_blk Fgw0.out bb10)
  replace FXm := Aside0.mk (below_blk FXm.out bb10)
  replace Fgg0 := Aside0.mk (below_blk Fgg0.out bb10)
  clear zz0_ lFgw0 lFXm lFgg0
  obtain ⟨c0_, c1_, c2_, c3_⟩ := HC.out _ B10
  have zz0_ : w.heap.size < w10.heap.size := Nat.lt_of_lt_of_le Z0 B10.size
  have yFgw0_0 : w10.cell? ⟨gw0, 0, none⟩ = some (.string M0.f0.f0) := by simp [World.cell?, Fgw0.out]
  have yFgw0_1 : w10.cell? ⟨gw0, 1, none⟩ = some (.string M0.f0.f1) := by simp [World.cell?, Fgw0.out]
  have yFgw0_2 : w10.cell? ⟨gw0, 2, none⟩ = some (.slice D0_0 M0.f1.length dd0_0) := by simp [World.cell?, Fgw0.out]
  have yFgw0_3 : w10.cell? ⟨gw0, 3, none⟩ = some (.slice D0_1 M0.f2.length dd0_1) := by simp [World.cell?, Fgw0.out]
  have lFgw0 : gw0 < w10.heap.size := blk_lt Fgw0.out
  have yFXm_0 : w10.cell? ⟨w5.heap.size, 0, none⟩ = some (.string m.f0.f0) := by simp [World.cell?, FXm.out]
  have yFXm_1 : w10.cell? ⟨w5.heap.size, 1, none⟩ = some (.string m.f0.f1) := by simp [World.cell?, FXm.out]
  have yFXm_2 : w10.cell? ⟨w5.heap.size, 2, none⟩ = some (.slice Em0 m.f1.length em0) := by simp [World.cell?, FXm.out]
  have yFXm_3 : w10.cell? ⟨w5.heap.size, 3, none⟩ = some (.slice Em1 m.f2.length em1) := by simp [World.cell?, FXm.out]
  have lFXm : w5.heap.size < w10.heap.size := blk_lt FXm.out
  have yFgg0_0 : w10.cell? ⟨w6.heap.size, 0, none⟩ = some (.string M0.f0.f0) := by simp [World.cell?, Fgg0.out]
  have yFgg0_1 : w10.cell? ⟨w6.heap.size, 1, none⟩ = some (.string M0.f0.f1) := by simp [World.cell?, Fgg0.out]
  have yFgg0_2 : w10.cell? ⟨w6.heap.size, 2, none⟩ = some (.slice G0_0 M0.f1.length gd0_0) := by simp [World.cell?, Fgg0.out]
  have yFgg0_3 : w10.cell? ⟨w6.heap.size, 3, none⟩ = some (.slice G0_1 M0.f2.length gd0_1) := by simp [World.cell?, Fgg0.out]
  have lFgg0 : w6.heap.size < w10.heap.size := blk_lt Fgg0.out
  clear bb10
  go_wp2_with fail
  refine (calls_at (a := 1) rfl (markAliasS_any Elist0 elist0 elist0 list.length list 1 _ _ _ Xlist0.out f_list.1 (fun y hy => Alias_lens (f_list.2 y hy)) (by omega))).mono ?_
  rintro e w11 ⟨he, le_, _, t_⟩
  have hl_0 : list.length ≤ 1048576 := f_list.1
  obtain ⟨k11, hk11, rfl⟩ : ∃ r : Nat, r ≤ 17592186044416 ∧ e = .returned (.int .i64 (r : Int)) := ⟨_, by omega, he⟩
  have nk11 : ¬ (k11 : Int) < 0 := by omega
  have B11 := bel_tch B10 t_ B10.size (fun q hq => by have h1 := hq.1; omega)
  have sz11 := t_.size
  replace HW0_0 := Aside0.mk (R_tch HW0_0.out t_ (fun q hq h => by have h1 := hq.1; have h2 := hq.2; have h3 := h.1; have h4 := h.2; omega))
  replace HW0_1 := Aside0.mk (R_tch HW0_1.out t_ (fun q hq h => by have h1 := hq.1; have h2 := hq.2; have h3 := h.1; have h4 := h.2; omega))
  replace Xm0 := Aside0.mk (R_tch Xm0.out t_ (fun q hq h => by have h1 := hq.1; have h2 := hq.2; have h3 := h.1; have h4 := h.2; omega))
  replace Xm1 := Aside0.mk (R_tch Xm1.out t_ (fun q hq h => by have h1 := hq.1; have h2 := hq.2; have h3 := h.1; have h4 := h.2; omega))
  replace HG0_0 := Aside0.mk (R_tch HG0_0.out t_ (fun q hq h => by have h1 := hq.1; have h2 := hq.2; have h3 := h.1; have h4 := h.2; omega))
  replace HG0_1 := Aside0.mk (R_tch HG0_1.out t_ (fun q hq h => by have h1 := hq.1; have h2 := hq.2; have h3 := h.1; have h4 := h.2; omega))
  replace Fgw0 := Aside0.mk ((t_.block _ (blk_lt Fgw0.out) (fun h => by have h3 := h.1; have h4 := h.2; omega)).trans Fgw0.out)
  replace FXm := Aside0.mk ((t_.block _ (blk_lt FXm.out) (fun h => by have h3 := h.1; have h4 := h.2; omega)).trans FXm.out)
  replace Fgg0 := Aside0.mk ((t_.block _ (blk_lt Fgg0.out) (fun h => by have h3 := h.1; have h4 := h.2; omega)).trans Fgg0.out)
  clear c0_ c1_ c2_ c3_ zz0_ yFgw0_0 yFgw0_1 yFgw0_2 yFgw0_3 lFgw0 yFXm_0 yFXm_1 yFXm_2 yFXm_3 lFXm yFgg0_0 yFgg0_1 yFgg0_2 yFgg0_3 lFgg0
  obtain ⟨c0_, c1_, c2_, c3_⟩ := HC.out _ B11
  have zz0_ : w.heap.size < w11.heap.size := Nat.lt_of_lt_of_le Z0 B11.size
  have yFgw0_0 : w11.cell? ⟨gw0, 0, none⟩ = some (.string M0.f0.f0) := by simp [World.cell?, Fgw0.out]
  have yFgw0_1 : w11.cell? ⟨gw0, 1, none⟩ = some (.string M0.f0.f1) := by simp [World.cell?, Fgw0.out]
  have yFgw0_2 : w11.cell? ⟨gw0, 2, none⟩ = some (.slice D0_0 M0.f1.length dd0_0) := by simp [World.cell?, Fgw0.out]
  have yFgw0_3 : w11.cell? ⟨gw0, 3, none⟩ = some (.slice D0_1 M0.f2.length dd0_1) := by simp [World.cell?, Fgw0.out]
  have lFgw0 : gw0 < w11.heap.size := blk_lt Fgw0.out
  have yFXm_0 : w11.cell? ⟨w5.heap.size, 0, none⟩ = some (.string m.f0.f0) := by simp [World.cell?, FXm.out]
  have yFXm_1 : w11.cell? ⟨w5.heap.size, 1, none⟩ = some (.string m.f0.f1) := by simp [World.cell?, FXm.out]
  have yFXm_2 : w11.cell? ⟨w5.heap.size, 2, none⟩ = some (.slice Em0 m.f1.length em0) := by simp [World.cell?, FXm.out]
  have yFXm_3 : w11.cell? ⟨w5.heap.size, 3, none⟩ = some (.slice Em1 m.f2.length em1) := by simp [World.cell?, FXm.out]
  have lFXm : w5.heap.size < w11.heap.size := blk_lt FXm.out
  have yFgg0_0 : w11.cell? ⟨w6.heap.size, 0, none⟩ = some (.string M0.f0.f0) := by simp [World.cell?, Fgg0.out]
  have yFgg0_1 : w11.cell? ⟨w6.heap.size, 1, none⟩ = some (.string M0.f0.f1) := by simp [World.cell?, Fgg0.out]
  have yFgg0_2 : w11.cell? ⟨w6.heap.size, 2, none⟩ = some (.slice G0_0 M0.f1.length gd0_0) := by simp [World.cell?, Fgg0.out]
  have yFgg0_3 : w11.cell? ⟨w6.heap.size, 3, none⟩ = some (.slice G0_1 M0.f2.length gd0_1) := by simp [World.cell?, Fgg0.out]
  have lFgg0 : w6.heap.size < w11.heap.size := blk_lt Fgg0.out
  clear he t_ le_ hl_0
  clear Xlist0
  go_wp2_with fail
  refine (calls_at (a := k11) rfl (markMail_any m Em0 em0 Em1 em1 k11 _ _ _ f_m Xm0.out Xm1.out (by omega))).mono ?_
  rintro e w12 ⟨he, le_, _, _, t_⟩
  have hl_0 : m.f1.length ≤ 1048576 := (by have h := f_m; unfold fitMail at h; omega)
  have hl_1 : m.f2.length ≤ 1048576 := (by have h := f_m; unfold fitMail at h; omega)
  obtain ⟨k12, hk12, rfl⟩ : ∃ r : Nat, r ≤ 87960930222080 ∧ e = .returned (.int .i64 (r : Int)) := ⟨_, by omega, he⟩
  have nk12 : ¬ (k12 : Int) < 0 := by omega
  have B12 := bel_tch B11 t_ B11.size (fun q hq => by have h1 := hq.1; omega)
  have sz12 := t_.size
  replace HW0_0 := Aside0.mk (R_tch HW0_0.out t_ (fun q hq h => by have h1 := hq.1; have h2 := hq.2; have h3 := h.1; have h4 := h.2; omega))
  replace HW0_1 := Aside0.mk (R_tch HW0_1.out t_ (fun q hq h => by have h1 := hq.1; have h2 := hq.2; have h3 := h.1; have h4 := h.2; omega))
  replace HG0_0 := Aside0.mk (R_tch HG0_0.out t_ (fun q hq h => by have h1 := hq.1; have h2 := hq.2; have h3 := h.1; have h4 := h.2; omega))
  replace HG0_1 := Aside0.mk (R_tch HG0_1.out t_ (fun q hq h => by have h1 := hq.1; have h2 := hq.2; have h3 := h.1; have h4 := h.2; omega))
  replace Fgw0 := Aside0.mk ((t_.block _ (blk_lt Fgw0.out) (fun h => by have h3 := h.1; have h4 := h.2; omega)).trans Fgw0.out)
  replace FXm := Aside0.mk ((t_.block _ (blk_lt FXm.out) (fun h => by have h3 := h.1; have h4 := h.2; omega)).trans FXm.out)
  replace Fgg0 := Aside0.mk ((t_.block _ (blk_lt Fgg0.out) (fun h => by have h3 := h.1; have h4 := h.2; omega)).trans Fgg0.out)
  clear c0_ c1_ c2_ c3_ zz0_ yFgw0_0 yFgw0_1 yFgw0_2 yFgw0_3 lFgw0 yFXm_0 yFXm_1 yFXm_2 yFXm_3 lFXm yFgg0_0 yFgg0_1 yFgg0_2 yFgg0_3 lFgg0
  obtain ⟨c0_, c1_, c2_, c3_⟩ := HC.out _ B12
  have zz0_ : w.heap.size < w12.heap.size := Nat.lt_of_lt_of_le Z0 B12.size
  have yFgw0_0 : w12.cell? ⟨gw0, 0, none⟩ = some (.string M0.f0.f0) := by simp [World.cell?, Fgw0.out]
  have yFgw0_1 : w12.cell? ⟨gw0, 1, none⟩ = some (.string M0.f0.f1) := by simp [World.cell?, Fgw0.out]
  have yFgw0_2 : w12.cell? ⟨gw0, 2, none⟩ = some (.slice D0_0 M0.f1.length dd0_0) := by simp [World.cell?, Fgw0.out]
  have yFgw0_3 : w12.cell? ⟨gw0, 3, none⟩ = some (.slice D0_1 M0.f2.length dd0_1) := by simp [World.cell?, Fgw0.out]
  have lFgw0 : gw0 < w12.heap.size := blk_lt Fgw0.out
  have yFXm_0 : w12.cell? ⟨w5.heap.size, 0, none⟩ = some (.string m.f0.f0) := by simp [World.cell?, FXm.out]
  have yFXm_1 : w12.cell? ⟨w5.heap.size, 1, none⟩ = some (.string m.f0.f1) := by simp [World.cell?, FXm.out]
  have yFXm_2 : w12.cell? ⟨w5.heap.size, 2, none⟩ = some (.slice Em0 m.f1.length em0) := by simp [World.cell?, FXm.out]
  have yFXm_3 : w12.cell? ⟨w5.heap.size, 3, none⟩ = some (.slice Em1 m.f2.length em1) := by simp [World.cell?, FXm.out]
  have lFXm : w5.heap.size < w12.heap.size := blk_lt FXm.out
  have yFgg0_0 : w12.cell? ⟨w6.heap.size, 0, none⟩ = some (.string M0.f0.f0) := by simp [World.cell?, Fgg0.out]
  have yFgg0_1 : w12.cell? ⟨w6.heap.size, 1, none⟩ = some (.string M0.f0.f1) := by simp [World.cell?, Fgg0.out]
  have yFgg0_2 : w12.cell? ⟨w6.heap.size, 2, none⟩ = some (.slice G0_0 M0.f1.length gd0_0) := by simp [World.cell?, Fgg0.out]
  have yFgg0_3 : w12.cell? ⟨w6.heap.size, 3, none⟩ = some (.slice G0_1 M0.f2.length gd0_1) := by simp [World.cell?, Fgg0.out]
  have lFgg0 : w6.heap.size < w12.heap.size := blk_lt Fgg0.out
  clear he t_ le_ hl_0 hl_1
  clear Xm0 Xm1
  clear FXm
  have hcall := fun (W : World) (hW : Below w12.heap.size w12 W) => eqMail_any M0 G0_0 gd0_0 G0_1 gd0_1 D0_0 dd0_0 D0_1 dd0_1 W HVF0.out (Kd.C_below (Kd.R_reads' HG0_0.out).2.2 hW) (Kd.C_below (Kd.R_reads' HG0_1.out).2.2 hW) (Kd.C_below (Kd.R_reads' HW0_0.out).2.2 hW) (Kd.C_below (Kd.R_reads' HW0_1.out).2.2 hW)
  go_wp2_with fail
  refine (hcall _ (Below.refl _ _)).mono ?_
  rintro e w13 ⟨rfl, b13⟩
  clear hcall
  have bb13 := bel_then (Below.refl w12.heap.size w12) b13
  have B13 := bel_then B12 bb13
  have sz13 := bb13.size
  replace HW0_0 := Aside0.mk (Kd.R_below HW0_0.out bb13)
  replace HW0_1 := Aside0.mk (Kd.R_below HW0_1.out bb13)
  replace HG0_0 := Aside0.mk (Kd.R_below HG0_0.out bb13)
  replace HG0_1 := Aside0.mk (Kd.R_below HG0_1.out bb13)
  replace Fgw0 := Aside0.mk (below_blk Fgw0.out bb13)
  replace Fgg0 := Aside0.mk (below_blk Fgg0.out bb13)
  clear c0_ c1_ c2_ c3_ zz0_ yFgw0_0 yFgw0_1 yFgw0_2 yFgw0_3 lFgw0 yFXm_0 yFXm_1 yFXm_2 yFXm_3 lFXm yFgg0_0 yFgg0_1 yFgg0_2 yFgg0_3 lFgg0
  obtain ⟨c0_, c1_, c2_, c3_⟩ := HC.out _ B13
  have zz0_ : w.heap.size < w13.heap.size := Nat.lt_of_lt_of_le Z0 B13.size
  have yFgw0_0 : w13.cell? ⟨gw0, 0, none⟩ = some (.string M0.f0.f0) := by simp [World.cell?, Fgw0.out]
  have yFgw0_1 : w13.cell? ⟨gw0, 1, none⟩ = some (.string M0.f0.f1) := by simp [World.cell?, Fgw0.out]
  have yFgw0_2 : w13.cell? ⟨gw0, 2, none⟩ = some (.slice D0_0 M0.f1.length dd0_0) := by simp [World.cell?, Fgw0.out]
  have yFgw0_3 : w13.cell? ⟨gw0, 3, none⟩ = some (.slice D0_1 M0.f2.length dd0_1) := by simp [World.cell?, Fgw0.out]
  have lFgw0 : gw0 < w13.heap.size := blk_lt Fgw0.out
  have yFgg0_0 : w13.cell? ⟨w6.heap.size, 0, none⟩ = some (.string M0.f0.f0) := by simp [World.cell?, Fgg0.out]
  have yFgg0_1 : w13.cell? ⟨w6.heap.size, 1, none⟩ = some (.string M0.f0.f1) := by simp [World.cell?, Fgg0.out]
  have yFgg0_2 : w13.cell? ⟨w6.heap.size, 2, none⟩ = some (.slice G0_0 M0.f1.length gd0_0) := by simp [World.cell?, Fgg0.out]
  have yFgg0_3 : w13.cell? ⟨w6.heap.size, 3, none⟩ = some (.slice G0_1 M0.f2.length gd0_1) := by simp [World.cell?, Fgg0.out]
  have lFgg0 : w6.heap.size < w13.heap.size := blk_lt Fgg0.out
  clear b13 bb13
  have hl0_0 : M0.f1.length ≤ 1048576 := (by have h := HVF0.out; unfold fitMail at h; omega)
  have hl0_1 : M0.f2.length ≤ 1048576 := (by have h := HVF0.out; unfold fitMail at h; omega)
  go_wp2_with fail
  refine (calls_at (a := 1) rfl (markMail_any M0 G0_0 gd0_0 G0_1 gd0_1 1 _ _ _ HVF0.out HG0_0.out HG0_1.out (by omega))).mono ?_
  rintro e w14 ⟨he, le_, m_0, m_1, t_⟩
  obtain ⟨m14, hm14, rfl⟩ : ∃ r : Nat, r = 1 + 2 * M0.f1.length + 1 * M0.f2.length ∧ e = .returned (.int .i64 (r : Int)) := ⟨_, rfl, he⟩
  have hb14 : m14 ≤ 70368744177664 := by omega
  have nk14 : ¬ (m14 : Int) < 0 := by omega
  have RV0 := Lib.hid hm14
  clear hm14
  have B14 := bel_tch B13 t_ B13.size (fun q hq => by have h1 := hq.1; omega)
  have sz14 := t_.size
  replace HW0_0 := Aside0.mk (R_tch HW0_0.out t_ (fun q hq h => by have h1 := hq.1; have h2 := hq.2; have h3 := h.1; have h4 := h.2; omega))
  replace HW0_1 := Aside0.mk (R_tch HW0_1.out t_ (fun q hq h => by have h1 := hq.1; have h2 := hq.2; have h3 := h.1; have h4 := h.2; omega))
  replace Fgw0 := Aside0.mk ((t_.block _ (blk_lt Fgw0.out) (fun h => by have h3 := h.1; have h4 := h.2; omega)).trans Fgw0.out)
  replace Fgg0 := Aside0.mk ((t_.block _ (blk_lt Fgg0.out) (fun h => by have h3 := h.1; have h4 := h.2; omega)).trans Fgg0.out)
  clear c0_ c1_ c2_ c3_ zz0_ yFgw0_0 yFgw0_1 yFgw0_2 yFgw0_3 lFgw0 yFgg0_0 yFgg0_1 yFgg0_2 yFgg0_3 lFgg0
  obtain ⟨c0_, c1_, c2_, c3_⟩ := HC.out _ B14
  have zz0_ : w.heap.size < w14.heap.size := Nat.lt_of_lt_of_le Z0 B14.size
  have yFgw0_0 : w14.cell? ⟨gw0, 0, none⟩ = some (.string M0.f0.f0) := by simp [World.cell?, Fgw0.out]
  have yFgw0_1 : w14.cell? ⟨gw0, 1, none⟩ = some (.string M0.f0.f1) := by simp [World.cell?, Fgw0.out]
  have yFgw0_2 : w14.cell? ⟨gw0, 2, none⟩ = some (.slice D0_0 M0.f1.length dd0_0) := by simp [World.cell?, Fgw0.out]
  have yFgw0_3 : w14.cell? ⟨gw0, 3, none⟩ = some (.slice D0_1 M0.f2.length dd0_1) := by simp [World.cell?, Fgw0.out]
  have lFgw0 : gw0 < w14.heap.size := blk_lt Fgw0.out
  have yFgg0_0 : w14.cell? ⟨w6.heap.size, 0, none⟩ = some (.string M0.f0.f0) := by simp [World.cell?, Fgg0.out]
  have yFgg0_1 : w14.cell? ⟨w6.heap.size, 1, none⟩ = some (.string M0.f0.f1) := by simp [World.cell?, Fgg0.out]
  have yFgg0_2 : w14.cell? ⟨w6.heap.size, 2, none⟩ = some (.slice G0_0 M0.f1.length gd0_0) := by simp [World.cell?, Fgg0.out]
  have yFgg0_3 : w14.cell? ⟨w6.heap.size, 3, none⟩ = some (.slice G0_1 M0.f2.length gd0_1) := by simp [World.cell?, Fgg0.out]
  have lFgg0 : w6.heap.size < w14.heap.size := blk_lt Fgg0.out
  replace HG0_0 := Aside0.mk m_0
  replace HG0_1 := Aside0.mk m_1
  clear he t_ m_0 m_1 le_
  have hC0 := (Kd.R_reads' HG0_0.out).2.2
  rw [mksAddr_length] at hC0
  have hC1 := (Kd.R_reads' HG0_1.out).2.2
  rw [mksString_length] at hC1
  have hcall := fun (W : World) (hW : Below w14.heap.size w14 W) => calls_at (a := 1) rfl (heldMail_any M0 G0_0 gd0_0 G0_1 gd0_1 1 W hl0_0 hl0_1 (Kd.C_below hC0 hW) (Kd.C_below hC1 hW) (by omega))
  go_wp2_with fail
  refine (hcall _ (Below.refl _ _)).mono ?_
  rintro e w15 ⟨he, b15⟩
  clear hcall
  obtain rfl : e = .returned (.int .i64 (m14 : Int)) := by rw [he, RV0.out]
  have bb15 := bel_then (Below.refl w14.heap.size w14) b15
  have B15 := bel_then B14 bb15
  have sz15 := bb15.size
  replace HW0_0 := Aside0.mk (Kd.R_below HW0_0.out bb15)
  replace HW0_1 := Aside0.mk (Kd.R_below HW0_1.out bb15)
  replace HG0_0 := Aside0.mk (Kd.R_below HG0_0.out bb15)
  replace HG0_1 := Aside0.mk (Kd.R_below HG0_1.out bb15)
  replace Fgw0 := Aside0.mk (below_blk Fgw0.out bb15)
  replace Fgg0 := Aside0.mk (below_blk Fgg0.out bb15)
  clear c0_ c1_ c2_ c3_ zz0_ yFgw0_0 yFgw0_1 yFgw0_2 yFgw0_3 lFgw0 yFgg0_0 yFgg0_1 yFgg0_2 yFgg0_3 lFgg0
  obtain ⟨c0_, c1_, c2_, c3_⟩ := HC.out _ B15
  have zz0_ : w.heap.size < w15.heap.size := Nat.lt_of_lt_of_le Z0 B15.size
  have yFgw0_0 : w15.cell? ⟨gw0, 0, none⟩ = some (.string M0.f0.f0) := by simp [World.cell?, Fgw0.out]
  have yFgw0_1 : w15.cell? ⟨gw0, 1, none⟩ = some (.string M0.f0.f1) := by simp [World.cell?, Fgw0.out]
  have yFgw0_2 : w15.cell? ⟨gw0, 2, none⟩ = some (.slice D0_0 M0.f1.length dd0_0) := by simp [World.cell?, Fgw0.out]
  have yFgw0_3 : w15.cell? ⟨gw0, 3, none⟩ = some (.slice D0_1 M0.f2.length dd0_1) := by simp [World.cell?, Fgw0.out]
  have lFgw0 : gw0 < w15.heap.size := blk_lt Fgw0.out
  have yFgg0_0 : w15.cell? ⟨w6.heap.size, 0, none⟩ = some (.string M0.f0.f0) := by simp [World.cell?, Fgg0.out]
  have yFgg0_1 : w15.cell? ⟨w6.heap.size, 1, none⟩ = some (.string M0.f0.f1) := by simp [World.cell?, Fgg0.out]
  have yFgg0_2 : w15.cell? ⟨w6.heap.size, 2, none⟩ = some (.slice G0_0 M0.f1.length gd0_0) := by simp [World.cell?, Fgg0.out]
  have yFgg0_3 : w15.cell? ⟨w6.heap.size, 3, none⟩ = some (.slice G0_1 M0.f2.length gd0_1) := by simp [World.cell?, Fgg0.out]
  have lFgg0 : w6.heap.size < w15.heap.size := blk_lt Fgg0.out
  clear he b15 bb15 hC0 hC1
  go_wp2
  have HK : Aside0 (∀ W W1, Below W.heap.size W W1 → (W.cell? ⟨w.heap.size, 0, none⟩ = some (.string m.f0.f0) ∧ W.cell? ⟨w.heap.size, 1, none⟩ = some (.string m.f0.f1) ∧ W.cell? ⟨w.heap.size, 2, none⟩ = some (.slice Am0 m.f1.length cm0) ∧ W.cell? ⟨w.heap.size, 3, none⟩ = some (.slice Am1 m.f2.length cm1) ∧ W.cell? ⟨gw0, 0, none⟩ = some (.string M0.f0.f0) ∧ W.cell? ⟨gw0, 1, none⟩ = some (.string M0.f0.f1) ∧ W.cell? ⟨gw0, 2, none⟩ = some (.slice D0_0 M0.f1.length dd0_0) ∧ W.cell? ⟨gw0, 3, none⟩ = some (.slice D0_1 M0.f2.length dd0_1) ∧ W.cell? ⟨w6.heap.size, 0, none⟩ = some (.string M0.f0.f0) ∧ W.cell? ⟨w6.heap.size, 1, none⟩ = some (.string M0.f0.f1) ∧ W.cell? ⟨w6.heap.size, 2, none⟩ = some (.slice G0_0 M0.f1.length gd0_0) ∧ W.cell? ⟨w6.heap.size, 3, none⟩ = some (.slice G0_1 M0.f2.length gd0_1) ∧ Below w15.heap.size w15 W) → (W1.cell? ⟨w.heap.size, 0, none⟩ = some (.string m.f0.f0) ∧ W1.cell? ⟨w.heap.size, 1, none⟩ = some (.string m.f0.f1) ∧ W1.cell? ⟨w.heap.size, 2, none⟩ = some (.slice Am0 m.f1.length cm0) ∧ W1.cell? ⟨w.heap.size, 3, none⟩ = some (.slice Am1 m.f2.length cm1) ∧ W1.cell? ⟨gw0, 0, none⟩ = some (.string M0.f0.f0) ∧ W1.cell? ⟨gw0, 1, none⟩ = some (.string M0.f0.f1) ∧ W1.cell? ⟨gw0, 2, none⟩ = some (.slice D0_0 M0.f1.length dd0_0) ∧ W1.cell? ⟨gw0, 3, none⟩ = some (.slice D0_1 M0.f2.length dd0_1) ∧ W1.cell? ⟨w6.heap.size, 0, none⟩ = some (.string M0.f0.f0) ∧ W1.cell? ⟨w6.heap.size, 1, none⟩ = some (.string M0.f0.f1) ∧ W1.cell? ⟨w6.heap.size, 2, none⟩ = some (.slice G0_0 M0.f1.length gd0_0) ∧ W1.cell? ⟨w6.heap.size, 3, none⟩ = some (.slice G0_1 M0.f2.length gd0_1) ∧ Below w15.heap.size w15 W1)) := ⟨fun W W1 hb h => ⟨(hb.cell (World.block_lt_of_cell? W _ (h.1))).trans (h.1), (hb.cell (World.block_lt_of_cell? W _ (h.2.1))).trans (h.2.1), (hb.cell (World.block_lt_of_cell? W _ (h.2.2.1))).trans (h.2.2.1), (hb.cell (World.block_lt_of_cell? W _ (h.2.2.2.1))).trans (h.2.2.2.1), (hb.cell (World.block_lt_of_cell? W _ (h.2.2.2.2.1))).trans (h.2.2.2.2.1), (hb.cell (World.block_lt_of_cell? W _ (h.2.2.2.2.2.1))).trans (h.2.2.2.2.2.1), (hb.cell (World.block_lt_of_cell? W _ (h.2.2.2.2.2.2.1))).trans (h.2.2.2.2.2.2.1), (hb.cell (World.block_lt_of_cell? W _ (h.2.2.2.2.2.2.2.1))).trans (h.2.2.2.2.2.2.2.1), (hb.cell (World.block_lt_of_cell? W _ (h.2.2.2.2.2.2.2.2.1))).trans (h.2.2.2.2.2.2.2.2.1), (hb.cell (World.block_lt_of_cell? W _ (h.2.2.2.2.2.2.2.2.2.1))).trans (h.2.2.2.2.2.2.2.2.2.1), (hb.cell (World.block_lt_of_cell? W _ (h.2.2.2.2.2.2.2.2.2.2.1))).trans (h.2.2.2.2.2.2.2.2.2.2.1), (hb.cell (World.block_lt_of_cell? W _ (h.2.2.2.2.2.2.2.2.2.2.2.1))).trans (h.2.2.2.2.2.2.2.2.2.2.2.1), bel_then (h.2.2.2.2.2.2.2.2.2.2.2.2) hb⟩⟩
  have join : Hid (∀ {goal : Prop} {G : Option Addr → Nat → Option Addr → Nat → Option Addr → Nat → Option Addr → Nat → Option Addr → Nat → Nat → World → Prop} (rg : Hid (∀ (H0_0 : Option Addr) (hd0_0 : Nat) (H0_1 : Option Addr) (hd0_1 : Nat) (Qlist0 : Option Addr) (qlist0 : Nat) (Qm0 : Option Addr) (qm0 : Nat) (Qm1 : Option Addr) (qm1 : Nat) (g0 : Nat) (V : World), Below w15.heap.size w15 V ∧ w15.heap.size ≤ g0 ∧ Kd.R kAddr 25 V w15.heap.size (fun q => w15.heap.size ≤ q ∧ q < V.heap.size ∧ q ≠ g0) (.slice H0_0 M0.f1.length hd0_0) M0.f1 ∧ Kd.R Kd.string 9 V w15.heap.size (fun q => w15.heap.size ≤ q ∧ q < V.heap.size ∧ q ≠ g0) (.slice H0_1 M0.f2.length hd0_1) M0.f2 ∧ V.heap[g0]? = some (.cells #[.string M0.f0.f0, .string M0.f0.f1, .slice H0_0 M0.f1.length hd0_0, .slice H0_1 M0.f2.length hd0_1] 29 (0, 0)) → G H0_0 hd0_0 H0_1 hd0_1 Qlist0 qlist0 Qm0 qm0 Qm1 qm1 g0 V) → goal) (hk : ∀ (H0_0 : Option Addr) (hd0_0 : Nat) (H0_1 : Option Addr) (hd0_1 : Nat) (Qlist0 : Option Addr) (qlist0 : Nat) (Qm0 : Option Addr) (qm0 : Nat) (Qm1 : Option Addr) (qm1 : Nat) (g0 : Nat) (V : World), Below w15.heap.size w15 V ∧ w15.heap.size ≤ g0 ∧ Kd.R kAddr 25 V w15.heap.size (fun q => w15.heap.size ≤ q ∧ q < V.heap.size ∧ q ≠ g0) (.slice H0_0 M0.f1.length hd0_0) M0.f1 ∧ Kd.R Kd.string 9 V w15.heap.size (fun q => w15.heap.size ≤ q ∧ q < V.heap.size ∧ q ≠ g0) (.slice H0_1 M0.f2.length hd0_1) M0.f2 ∧ V.heap[g0]? = some (.cells #[.string M0.f0.f0, .string M0.f0.f1, .slice H0_0 M0.f1.length hd0_0, .slice H0_1 M0.f2.length hd0_1] 29 (0, 0)) → G H0_0 hd0_0 H0_1 hd0_1 Qlist0 qlist0 Qm0 qm0 Qm1 qm1 g0 V), goal) := Lib.hid (fun f h => f (Lib.hid h))
  have HST : Aside0 ((fun W => W.cell? ⟨w.heap.size, 0, none⟩ = some (.string m.f0.f0) ∧ W.cell? ⟨w.heap.size, 1, none⟩ = some (.string m.f0.f1) ∧ W.cell? ⟨w.heap.size, 2, none⟩ = some (.slice Am0 m.f1.length cm0) ∧ W.cell? ⟨w.heap.size, 3, none⟩ = some (.slice Am1 m.f2.length cm1) ∧ W.cell? ⟨gw0, 0, none⟩ = some (.string M0.f0.f0) ∧ W.cell? ⟨gw0, 1, none⟩ = some (.string M0.f0.f1) ∧ W.cell? ⟨gw0, 2, none⟩ = some (.slice D0_0 M0.f1.length dd0_0) ∧ W.cell? ⟨gw0, 3, none⟩ = some (.slice D0_1 M0.f2.length dd0_1) ∧ W.cell? ⟨w6.heap.size, 0, none⟩ = some (.string M0.f0.f0) ∧ W.cell? ⟨w6.heap.size, 1, none⟩ = some (.string M0.f0.f1) ∧ W.cell? ⟨w6.heap.size, 2, none⟩ = some (.slice G0_0 M0.f1.length gd0_0) ∧ W.cell? ⟨w6.heap.size, 3, none⟩ = some (.slice G0_1 M0.f2.length gd0_1) ∧ Below w15.heap.size w15 W) (w15).drew) := ⟨⟨c0_, c1_, c2_, c3_, yFgw0_0, yFgw0_1, yFgw0_2, yFgw0_3, yFgg0_0, yFgg0_1, yFgg0_2, yFgg0_3, bel_then (Below.refl w15.heap.size w15) (drew_below0 _)⟩⟩
  clear c0_ c1_ c2_ c3_ yFgw0_0 yFgw0_1 yFgw0_2 yFgw0_3 yFgg0_0 yFgg0_1 yFgg0_2 yFgg0_3
  apply join.out
  case rg =>
   intro HKK
   refine wp_region_held_drew (S := (fun W => W.cell? ⟨w.heap.size, 0, none⟩ = some (.string m.f0.f0) ∧ W.cell? ⟨w.heap.size, 1, none⟩ = some (.string m.f0.f1) ∧ W.cell? ⟨w.heap.size, 2, none⟩ = some (.slice Am0 m.f1.length cm0) ∧ W.cell? ⟨w.heap.size, 3, none⟩ = some (.slice Am1 m.f2.length cm1) ∧ W.cell? ⟨gw0, 0, none⟩ = some (.string M0.f0.f0) ∧ W.cell? ⟨gw0, 1, none⟩ = some (.string M0.f0.f1) ∧ W.cell? ⟨gw0, 2, none⟩ = some (.slice D0_0 M0.f1.length dd0_0) ∧ W.cell? ⟨gw0, 3, none⟩ = some (.slice D0_1 M0.f2.length dd0_1) ∧ W.cell? ⟨w6.heap.size, 0, none⟩ = some (.string M0.f0.f0) ∧ W.cell? ⟨w6.heap.size, 1, none⟩ = some (.string M0.f0.f1) ∧ W.cell? ⟨w6.heap.size, 2, none⟩ = some (.slice G0_0 M0.f1.length gd0_0) ∧ W.cell? ⟨w6.heap.size, 3, none⟩ = some (.slice G0_1 M0.f2.length gd0_1) ∧ Below w15.heap.size w15 W)) (by kernel_rfl) ?s60 (fun hHeld => ?t60)
   case s60 => exact HST.out
   generalize World.drew _ = V0 at hHeld ⊢
   have s0_ : w15.heap.size ≤ V0.heap.size := hHeld.2.2.2.2.2.2.2.2.2.2.2.2.size
   refine tk 0 ?v61 ?y61 ?r61
   case y61 => intro w_ hSw; (try dsimp only at hSw); go_simp; (try (with_reducible rfl))
   try simp only [Act.put, List.setIfInBounds_toArray, List.set_cons_zero, List.set_cons_succ]
   refine tk 2 ?v62 ?y62 ?r62
   case y62 => intro w_ hSw; (try dsimp only at hSw); go_simp; (try (with_reducible rfl))
   try simp only [Act.put, List.setIfInBounds_toArray, List.set_cons_zero, List.set_cons_succ]
   refine rdy (rs := [1, 8]) ?_
   refine rc (fun K hK => ?k63) (rc (fun K hK => ?k64) AllReadyH.nil)
   case k63 =>
    go_simp
    refine (hto_list _ (bel_then HB0.out (bel_then B15 hHeld.2.2.2.2.2.2.2.2.2.2.2.2)) f_list).mono ?_
    rintro e V1 ⟨Qlist0, qlist0, rfl, gq_list0, b1⟩
    refine hK.out _ _ ?h65 (fun hHeld => ?j65)
    case h65 => exact HK.out _ _ b1 hHeld
    clear hK K
    try simp only [Act.put, List.setIfInBounds_toArray, List.set_cons_zero, List.set_cons_succ]
    have Tlist0 := Aside0.mk gq_list0
    clear gq_list0
    have s1_ := b1.size
    refine rdy (rs := [3, 8]) ?_
    refine rc (fun K hK => ?k66) (rc (fun K hK => ?k67) AllReadyH.nil)
    case k66 =>
     go_simp
     refine (hto_m _ (bel_then HB0.out (bel_then B15 hHeld.2.2.2.2.2.2.2.2.2.2.2.2)) f_m).mono ?_
     rintro e V3 ⟨Qm0, qm0, Qm1, qm1, rfl, gq_m0, gq_m1, b3⟩
     refine hK.out _ _ ?h68 (fun hHeld => ?j68)
     case h68 => exact HK.out _ _ b3 hHeld
     clear hK K
     try simp only [Act.put, List.setIfInBounds_toArray, List.set_cons_zero, List.set_cons_succ]
     have Tm0 := Aside0.mk gq_m0
     have Tm1 := Aside0.mk gq_m1
     clear gq_m0
     clear gq_m1
     have s3_ := b3.size
     replace Tlist0 := Aside0.mk (Kd.S_below Tlist0.out b3)
     refine rdy (rs := [4, 8]) ?_
     refine rc (fun K hK => ?k69) (rc (fun K hK => ?k70) AllReadyH.nil)
     case k69 =>
      go_simp
      have hcl := aliasMail_any Qlist0 qlist0 list m Qm0 qm0 Qm1 qm1 V3 f_list f_m (Kd.S_reads' Tlist0.out).2.2 (Kd.R_reads' Tm0.out).2.2 (Kd.R_reads' Tm1.out).2.2 (HG.out.below (bel_then HB0.out (bel_then B15 hHeld.2.2.2.2.2.2.2.2.2.2.2.2)))
      rw [HV0.out, HV1.out] at hcl
      refine hcl.mono ?_
      clear hcl
      rintro e V4 ⟨H0_0, hd0_0, H0_1, hd0_1, rfl, gu0_0, gu0_1, b4⟩
      refine hK.out _ _ ?h71 (fun hHeld => ?j71)
      case h71 => exact HK.out _ _ b4 hHeld
      clear hK K
      try simp only [Act.put, List.setIfInBounds_toArray, List.set_cons_zero, List.set_cons_succ]
      have U0_0 := Aside0.mk (Kd.R_lower (base' := w15.heap.size) (Kd.R_mono (Kd.R_bound gu0_0) (ok' := fun q => V3.heap.size ≤ q ∧ q < V4.heap.size) (fun q hq => ⟨hq.2.1, hq.2.2.1⟩)) (by have := hHeld.2.2.2.2.2.2.2.2.2.2.2.2.size; omega))
      have U0_1 := Aside0.mk (Kd.R_lower (base' := w15.heap.size) (Kd.R_mono (Kd.R_bound gu0_1) (ok' := fun q => V3.heap.size ≤ q ∧ q < V4.heap.size) (fun q hq => ⟨hq.2.1, hq.2.2.1⟩)) (by have := hHeld.2.2.2.2.2.2.2.2.2.2.2.2.size; omega))
      clear gu0_0 gu0_1
      have s4_ := b4.size
      replace Tlist0 := Aside0.mk (Kd.S_below Tlist0.out b4)
      replace Tm0 := Aside0.mk (Kd.R_below Tm0.out b4)
      replace Tm1 := Aside0.mk (Kd.R_below Tm1.out b4)
      refine tk 5 ?v72 ?y72 ?r72
      case y72 => intro w_ hSw; (try dsimp only at hSw); go_simp; (try (with_reducible rfl))
      try simp only [Act.put, List.setIfInBounds_toArray, List.set_cons_zero, List.set_cons_succ]
      refine tk 6 ?v73 ?y73 ?r73
      case y73 => intro w_ hSw; (try dsimp only at hSw); go_simp; (try (with_reducible rfl))
      try simp only [Act.put, List.setIfInBounds_toArray, List.set_cons_zero, List.set_cons_succ]
      refine tk 7 ?v74 ?y74 ?r74
      case y74 => intro w_ hSw; (try dsimp only at hSw); go_simp; (try (with_reducible rfl))
      try simp only [Act.put, List.setIfInBounds_toArray, List.set_cons_zero, List.set_cons_succ]
      refine rdy (rs := [8]) ?_
      refine rc (fun K hK => ?k75) AllReadyH.nil
      case k75 =>
       go_simp
       refine hK.out _ _ ?h76 (fun hHeld => ?j76)
       case h76 => exact HK.out _ _ (bel_alloc (Below.refl _ _) _) hHeld
       clear hK K
       try simp only [Act.put, List.setIfInBounds_toArray, List.set_cons_zero, List.set_cons_succ]
       generalize hV8 : World.alloc V4 _ = V8 at hHeld ⊢
       have b8 : Below V4.heap.size V4 V8 := by rw [← hV8]; exact bel_alloc (Below.refl _ _) _
       have z8 : V4.heap.size < V8.heap.size := by rw [← hV8]; simp
       have F0 := Aside0.mk (by rw [← hV8]; exact blk_new _ _ : V8.heap[V4.heap.size]? = some (.cells #[.string ⟨#[]⟩, .string ⟨#[]⟩, .slice none 0 0, .slice none 0 0] 29 (0, 0)))
       obtain ⟨g0, hg0⟩ : ∃ g, g = V4.heap.size := ⟨_, rfl⟩
       have lo0 : V4.heap.size ≤ g0 := by omega
       have al0 : w15.heap.size ≤ g0 := by omega
       have hi0 : g0 < V8.heap.size := by omega
       rw [← hg0] at F0 ⊢
       clear hV8 hg0 z8
       have s8_ := b8.size
       replace Tlist0 := Aside0.mk (Kd.S_below Tlist0.out b8)
       replace Tm0 := Aside0.mk (Kd.R_below Tm0.out b8)
       replace Tm1 := Aside0.mk (Kd.R_below Tm1.out b8)
       replace U0_0 := Aside0.mk (Kd.R_below U0_0.out b8)
       replace U0_1 := Aside0.mk (Kd.R_below U0_1.out b8)
       refine rdy (rs := [9]) ?_
       refine rc (fun K hK => ?k77) AllReadyH.nil
       case k77 =>
        have hb7 := F0.out
        have v0_ : V8.cell? ⟨g0, 0, none⟩ = some (.string ⟨#[]⟩) := by simp [World.cell?, hb7]
        have v1_ : V8.cell? ⟨g0, 1, none⟩ = some (.string ⟨#[]⟩) := by simp [World.cell?, hb7]
        have v2_ : V8.cell? ⟨g0, 2, none⟩ = some (.slice none 0 0) := by simp [World.cell?, hb7]
        have v3_ : V8.cell? ⟨g0, 3, none⟩ = some (.slice none 0 0) := by simp [World.cell?, hb7]
        have u0_ : V8.frozen? ⟨g0, 0, none⟩ = false := by simp [World.frozen?, hb7]
        have u1_ : V8.frozen? ⟨g0, 1, none⟩ = false := by simp [World.frozen?, hb7]
        have u2_ : V8.frozen? ⟨g0, 2, none⟩ = false := by simp [World.frozen?, hb7]
        have u3_ : V8.frozen? ⟨g0, 3, none⟩ = false := by simp [World.frozen?, hb7]
        go_simp
        generalize hV9 : World.setCell (World.setCell (World.setCell (World.setCell V8 ⟨g0, 0, none⟩ _) ⟨g0, 1, none⟩ _) ⟨g0, 2, none⟩ _) ⟨g0, 3, none⟩ _ = V9
        have G9 : V8.grownBy V9 (some g0) := by rw [← hV9]; exact (((grown_set1 _ _ _ _).trans (grown_set1 _ _ _ _)).trans (grown_set1 _ _ _ _)).trans (grown_set1 _ _ _ _)
        have FF0 : V9.heap[g0]? = some (.cells #[.string M0.f0.f0, .string M0.f0.f1, .slice H0_0 M0.f1.length hd0_0, .slice H0_1 M0.f2.length hd0_1] 29 (0, 0)) := by rw [← hV9, blk_set1 (blk_set1 (blk_set1 (blk_set1 (F0.out) 0 _) 1 _) 2 _) 3 _]; simp
        have BB : Below w15.heap.size w15 V9 := by rw [← hV9]; exact (bel_set (bel_set (bel_set (bel_set (hHeld.2.2.2.2.2.2.2.2.2.2.2.2) _ al0) _ al0) _ al0) _ al0)
        clear hV9
        refine hK.out _ _ ?h78 (fun hHeld => ?j78)
        case h78 => (exact ⟨(World.cell?_of_block (G9.block _ (World.block_lt_of_cell? _ _ hHeld.1) (fun e => by have e := Option.some.inj e; (try dsimp only at e); omega))).trans hHeld.1, (World.cell?_of_block (G9.block _ (World.block_lt_of_cell? _ _ hHeld.2.1) (fun e => by have e := Option.some.inj e; (try dsimp only at e); omega))).trans hHeld.2.1, (World.cell?_of_block (G9.block _ (World.block_lt_of_cell? _ _ hHeld.2.2.1) (fun e => by have e := Option.some.inj e; (try dsimp only at e); omega))).trans hHeld.2.2.1, (World.cell?_of_block (G9.block _ (World.block_lt_of_cell? _ _ hHeld.2.2.2.1) (fun e => by have e := Option.some.inj e; (try dsimp only at e); omega))).trans hHeld.2.2.2.1, (World.cell?_of_block (G9.block _ (World.block_lt_of_cell? _ _ hHeld.2.2.2.2.1) (fun e => by have e := Option.some.inj e; (try dsimp only at e); omega))).trans hHeld.2.2.2.2.1, (World.cell?_of_block (G9.block _ (World.block_lt_of_cell? _ _ hHeld.2.2.2.2.2.1) (fun e => by have e := Option.some.inj e; (try dsimp only at e); omega))).trans hHeld.2.2.2.2.2.1, (World.cell?_of_block (G9.block _ (World.block_lt_of_cell? _ _ hHeld.2.2.2.2.2.2.1) (fun e => by have e := Option.some.inj e; (try dsimp only at e); omega))).trans hHeld.2.2.2.2.2.2.1, (World.cell?_of_block (G9.block _ (World.block_lt_of_cell? _ _ hHeld.2.2.2.2.2.2.2.1) (fun e => by have e := Option.some.inj e; (try dsimp only at e); omega))).trans hHeld.2.2.2.2.2.2.2.1, (World.cell?_of_block (G9.block _ (World.block_lt_of_cell? _ _ hHeld.2.2.2.2.2.2.2.2.1) (fun e => by have e := Option.some.inj e; (try dsimp only at e); omega))).trans hHeld.2.2.2.2.2.2.2.2.1, (World.cell?_of_block (G9.block _ (World.block_lt_of_cell? _ _ hHeld.2.2.2.2.2.2.2.2.2.1) (fun e => by have e := Option.some.inj e; (try dsimp only at e); omega))).trans hHeld.2.2.2.2.2.2.2.2.2.1, (World.cell?_of_block (G9.block _ (World.block_lt_of_cell? _ _ hHeld.2.2.2.2.2.2.2.2.2.2.1) (fun e => by have e := Option.some.inj e; (try dsimp only at e); omega))).trans hHeld.2.2.2.2.2.2.2.2.2.2.1, (World.cell?_of_block (G9.block _ (World.block_lt_of_cell? _ _ hHeld.2.2.2.2.2.2.2.2.2.2.2.1) (fun e => by have e := Option.some.inj e; (try dsimp only at e); omega))).trans hHeld.2.2.2.2.2.2.2.2.2.2.2.1, BB⟩)
        clear hK K
        try simp only [Act.put, List.setIfInBounds_toArray, List.set_cons_zero, List.set_cons_succ]
        replace U0_0 := Aside0.mk (Kd.R_grown U0_0.out G9 (fun q hq e => by injection e with e; have h1 := hq.1; have h2 := hq.2; omega))
        replace U0_1 := Aside0.mk (Kd.R_grown U0_1.out G9 (fun q hq e => by injection e with e; have h1 := hq.1; have h2 := hq.2; omega))
        replace F0 := Aside0.mk FF0
        have s9_ : V8.heap.size ≤ V9.heap.size := G9.size
        refine tk 10 ?v79 ?y79 ?r79
        case y79 => intro w_ hSw; (try dsimp only at hSw); go_simp; (try (with_reducible rfl))
        try simp only [Act.put, List.setIfInBounds_toArray, List.set_cons_zero, List.set_cons_succ]
        refine wpAnyH_done (by kernel_rfl) ?_ _
        exact HKK.out H0_0 hd0_0 H0_1 hd0_1 Qlist0 qlist0 Qm0 qm0 Qm1 qm1 g0 V9 ⟨hHeld.2.2.2.2.2.2.2.2.2.2.2.2, (by omega), Kd.R_mono U0_0.out (fun q hq => by have h1 := hq.1; have h2 := hq.2; refine ⟨?_, ?_, ?_⟩ <;> omega), Kd.R_mono U0_1.out (fun q hq => by have h1 := hq.1; have h2 := hq.2; refine ⟨?_, ?_, ?_⟩ <;> omega), F0.out⟩
     case k70 =>
      go_simp
      refine hK.out _ _ ?h80 (fun hHeld => ?j80)
      case h80 => exact HK.out _ _ (bel_alloc (Below.refl _ _) _) hHeld
      clear hK K
      try simp only [Act.put, List.setIfInBounds_toArray, List.set_cons_zero, List.set_cons_succ]
      generalize hV8 : World.alloc V3 _ = V8 at hHeld ⊢
      have b8 : Below V3.heap.size V3 V8 := by rw [← hV8]; exact bel_alloc (Below.refl _ _) _
      have z8 : V3.heap.size < V8.heap.size := by rw [← hV8]; simp
      have F0 := Aside0.mk (by rw [← hV8]; exact blk_new _ _ : V8.heap[V3.heap.size]? = some (.cells #[.string ⟨#[]⟩, .string ⟨#[]⟩, .slice none 0 0, .slice none 0 0] 29 (0, 0)))
      obtain ⟨g0, hg0⟩ : ∃ g, g = V3.heap.size := ⟨_, rfl⟩
      have lo0 : V3.heap.size ≤ g0 := by omega
      have al0 : w15.heap.size ≤ g0 := by omega
      have hi0 : g0 < V8.heap.size := by omega
      rw [← hg0] at F0 ⊢
      clear hV8 hg0 z8
      have s8_ := b8.size
      replace Tlist0 := Aside0.mk (Kd.S_below Tlist0.out b8)
      replace Tm0 := Aside0.mk (Kd.R_below Tm0.out b8)
      replace Tm1 := Aside0.mk (Kd.R_below Tm1.out b8)
      refine rdy (rs := [4]) ?_
      refine rc (fun K hK => ?k81) AllReadyH.nil
      case k81 =>
       go_simp
       have hcl := aliasMail_any Qlist0 qlist0 list m Qm0 qm0 Qm1 qm1 V8 f_list f_m (Kd.S_reads' Tlist0.out).2.2 (Kd.R_reads' Tm0.out).2.2 (Kd.R_reads' Tm1.out).2.2 (HG.out.below (bel_then HB0.out (bel_then B15 hHeld.2.2.2.2.2.2.2.2.2.2.2.2)))
       rw [HV0.out, HV1.out] at hcl
       refine hcl.mono ?_
       clear hcl
       rintro e V4 ⟨H0_0, hd0_0, H0_1, hd0_1, rfl, gu0_0, gu0_1, b4⟩
       refine hK.out _ _ ?h82 (fun hHeld => ?j82)
       case h82 => exact HK.out _ _ b4 hHeld
       clear hK K
       try simp only [Act.put, List.setIfInBounds_toArray, List.set_cons_zero, List.set_cons_succ]
       have U0_0 := Aside0.mk (Kd.R_lower (base' := w15.heap.size) (Kd.R_mono (Kd.R_bound gu0_0) (ok' := fun q => V8.heap.size ≤ q ∧ q < V4.heap.size) (fun q hq => ⟨hq.2.1, hq.2.2.1⟩)) (by have := hHeld.2.2.2.2.2.2.2.2.2.2.2.2.size; omega))
       have U0_1 := Aside0.mk (Kd.R_lower (base' := w15.heap.size) (Kd.R_mono (Kd.R_bound gu0_1) (ok' := fun q => V8.heap.size ≤ q ∧ q < V4.heap.size) (fun q hq => ⟨hq.2.1, hq.2.2.1⟩)) (by have := hHeld.2.2.2.2.2.2.2.2.2.2.2.2.size; omega))
       clear gu0_0 gu0_1
       have s4_ := b4.size
       replace Tlist0 := Aside0.mk (Kd.S_below Tlist0.out b4)
       replace Tm0 := Aside0.mk (Kd.R_below Tm0.out b4)
       replace Tm1 := Aside0.mk (Kd.R_below Tm1.out b4)
       replace F0 := Aside0.mk (below_blk F0.out b4)
       refine tk 5 ?v83 ?y83 ?r83
       case y83 => intro w_ hSw; (try dsimp only at hSw); go_simp; (try (with_reducible rfl))
       try simp only [Act.put, List.setIfInBounds_toArray, List.set_cons_zero, List.set_cons_succ]
       refine tk 6 ?v84 ?y84 ?r84
       case y84 => intro w_ hSw; (try dsimp only at hSw); go_simp; (try (with_reducible rfl))
       try simp only [Act.put, List.setIfInBounds_toArray, List.set_cons_zero, List.set_cons_succ]
       refine tk 7 ?v85 ?y85 ?r85
       case y85 => intro w_ hSw; (try dsimp only at hSw); go_simp; (try (with_reducible rfl))
       try simp only [Act.put, List.setIfInBounds_toArray, List.set_cons_zero, List.set_cons_succ]
       refine rdy (rs := [9]) ?_
       refine rc (fun K hK => ?k86) AllReadyH.nil
       case k86 =>
        have hb7 := F0.out
        have v0_ : V4.cell? ⟨g0, 0, none⟩ = some (.string ⟨#[]⟩) := by simp [World.cell?, hb7]
        have v1_ : V4.cell? ⟨g0, 1, none⟩ = some (.string ⟨#[]⟩) := by simp [World.cell?, hb7]
        have v2_ : V4.cell? ⟨g0, 2, none⟩ = some (.slice none 0 0) := by simp [World.cell?, hb7]
        have v3_ : V4.cell? ⟨g0, 3, none⟩ = some (.slice none 0 0) := by simp [World.cell?, hb7]
        have u0_ : V4.frozen? ⟨g0, 0, none⟩ = false := by simp [World.frozen?, hb7]
        have u1_ : V4.frozen? ⟨g0, 1, none⟩ = false := by simp [World.frozen?, hb7]
        have u2_ : V4.frozen? ⟨g0, 2, none⟩ = false := by simp [World.frozen?, hb7]
        have u3_ : V4.frozen? ⟨g0, 3, none⟩ = false := by simp [World.frozen?, hb7]
        go_simp
        generalize hV9 : World.setCell (World.setCell (World.setCell (World.setCell V4 ⟨g0, 0, none⟩ _) ⟨g0, 1, none⟩ _) ⟨g0, 2, none⟩ _) ⟨g0, 3, none⟩ _ = V9
        have G9 : V4.grownBy V9 (some g0) := by rw [← hV9]; exact (((grown_set1 _ _ _ _).trans (grown_set1 _ _ _ _)).trans (grown_set1 _ _ _ _)).trans (grown_set1 _ _ _ _)
        have FF0 : V9.heap[g0]? = some (.cells #[.string M0.f0.f0, .string M0.f0.f1, .slice H0_0 M0.f1.length hd0_0, .slice H0_1 M0.f2.length hd0_1] 29 (0, 0)) := by rw [← hV9, blk_set1 (blk_set1 (blk_set1 (blk_set1 (F0.out) 0 _) 1 _) 2 _) 3 _]; simp
        have BB : Below w15.heap.size w15 V9 := by rw [← hV9]; exact (bel_set (bel_set (bel_set (bel_set (hHeld.2.2.2.2.2.2.2.2.2.2.2.2) _ al0) _ al0) _ al0) _ al0)
        clear hV9
        refine hK.out _ _ ?h87 (fun hHeld => ?j87)
        case h87 => (exact ⟨(World.cell?_of_block (G9.block _ (World.block_lt_of_cell? _ _ hHeld.1) (fun e => by have e := Option.some.inj e; (try dsimp only at e); omega))).trans hHeld.1, (World.cell?_of_block (G9.block _ (World.block_lt_of_cell? _ _ hHeld.2.1) (fun e => by have e := Option.some.inj e; (try dsimp only at e); omega))).trans hHeld.2.1, (World.cell?_of_block (G9.block _ (World.block_lt_of_cell? _ _ hHeld.2.2.1) (fun e => by have e := Option.some.inj e; (try dsimp only at e); omega))).trans hHeld.2.2.1, (World.cell?_of_block (G9.block _ (World.block_lt_of_cell? _ _ hHeld.2.2.2.1) (fun e => by have e := Option.some.inj e; (try dsimp only at e); omega))).trans hHeld.2.2.2.1, (World.cell?_of_block (G9.block _ (World.block_lt_of_cell? _ _ hHeld.2.2.2.2.1) (fun e => by have e := Option.some.inj e; (try dsimp only at e); omega))).trans hHeld.2.2.2.2.1, (World.cell?_of_block (G9.block _ (World.block_lt_of_cell? _ _ hHeld.2.2.2.2.2.1) (fun e => by have e := Option.some.inj e; (try dsimp only at e); omega))).trans hHeld.2.2.2.2.2.1, (World.cell?_of_block (G9.block _ (World.block_lt_of_cell? _ _ hHeld.2.2.2.2.2.2.1) (fun e => by have e := Option.some.inj e; (try dsimp only at e); omega))).trans hHeld.2.2.2.2.2.2.1, (World.cell?_of_block (G9.block _ (World.block_lt_of_cell? _ _ hHeld.2.2.2.2.2.2.2.1) (fun e => by have e := Option.some.inj e; (try dsimp only at e); omega))).trans hHeld.2.2.2.2.2.2.2.1, (World.cell?_of_block (G9.block _ (World.block_lt_of_cell? _ _ hHeld.2.2.2.2.2.2.2.2.1) (fun e => by have e := Option.some.inj e; (try dsimp only at e); omega))).trans hHeld.2.2.2.2.2.2.2.2.1, (World.cell?_of_block (G9.block _ (World.block_lt_of_cell? _ _ hHeld.2.2.2.2.2.2.2.2.2.1) (fun e => by have e := Option.some.inj e; (try dsimp only at e); omega))).trans hHeld.2.2.2.2.2.2.2.2.2.1, (World.cell?_of_block (G9.block _ (World.block_lt_of_cell? _ _ hHeld.2.2.2.2.2.2.2.2.2.2.1) (fun e => by have e := Option.some.inj e; (try dsimp only at e); omega))).trans hHeld.2.2.2.2.2.2.2.2.2.2.1, (World.cell?_of_block (G9.block _ (World.block_lt_of_cell? _ _ hHeld.2.2.2.2.2.2.2.2.2.2.2.1) (fun e => by have e := Option.some.inj e; (try dsimp only at e); omega))).trans hHeld.2.2.2.2.2.2.2.2.2.2.2.1, BB⟩)
        clear hK K
        try simp only [Act.put, List.setIfInBounds_toArray, List.set_cons_zero, List.set_cons_succ]
        replace U0_0 := Aside0.mk (Kd.R_grown U0_0.out G9 (fun q hq e => by injection e with e; have h1 := hq.1; have h2 := hq.2; omega))
        replace U0_1 := Aside0.mk (Kd.R_grown U0_1.out G9 (fun q hq e => by injection e with e; have h1 := hq.1; have h2 := hq.2; omega))
        replace F0 := Aside0.mk FF0
        have s9_ : V4.heap.size ≤ V9.heap.size := G9.size
        refine tk 10 ?v88 ?y88 ?r88
        case y88 => intro w_ hSw; (try dsimp only at hSw); go_simp; (try (with_reducible rfl))
        try simp only [Act.put, List.setIfInBounds_toArray, List.set_cons_zero, List.set_cons_succ]
        refine wpAnyH_done (by kernel_rfl) ?_ _
        exact HKK.out H0_0 hd0_0 H0_1 hd0_1 Qlist0 qlist0 Qm0 qm0 Qm1 qm1 g0 V9 ⟨hHeld.2.2.2.2.2.2.2.2.2.2.2.2, (by omega), Kd.R_mono U0_0.out (fun q hq => by have h1 := hq.1; have h2 := hq.2; refine ⟨?_, ?_, ?_⟩ <;> omega), Kd.R_mono U0_1.out (fun q hq => by have h1 := hq.1; have h2 := hq.2; refine ⟨?_, ?_, ?_⟩ <;> omega), F0.out⟩
    case k67 =>
     go_simp
     refine hK.out _ _ ?h89 (fun hHeld => ?j89)
     case h89 => exact HK.out _ _ (bel_alloc (Below.refl _ _) _) hHeld
     clear hK K
     try simp only [Act.put, List.setIfInBounds_toArray, List.set_cons_zero, List.set_cons_succ]
     generalize hV8 : World.alloc V1 _ = V8 at hHeld ⊢
     have b8 : Below V1.heap.size V1 V8 := by rw [← hV8]; exact bel_alloc (Below.refl _ _) _
     have z8 : V1.heap.size < V8.heap.size := by rw [← hV8]; simp
     have F0 := Aside0.mk (by rw [← hV8]; exact blk_new _ _ : V8.heap[V1.heap.size]? = some (.cells #[.string ⟨#[]⟩, .string ⟨#[]⟩, .slice none 0 0, .slice none 0 0] 29 (0, 0)))
     obtain ⟨g0, hg0⟩ : ∃ g, g = V1.heap.size := ⟨_, rfl⟩
     have lo0 : V1.heap.size ≤ g0 := by omega
     have al0 : w15.heap.size ≤ g0 := by omega
     have hi0 : g0 < V8.heap.size := by omega
     rw [← hg0] at F0 ⊢
     clear hV8 hg0 z8
     have s8_ := b8.size
     replace Tlist0 := Aside0.mk (Kd.S_below Tlist0.out b8)
     refine rdy (rs := [3]) ?_
     refine rc (fun K hK => ?k90) AllReadyH.nil
     case k90 =>
      go_simp
      refine (hto_m _ (bel_then HB0.out (bel_then B15 hHeld.2.2.2.2.2.2.2.2.2.2.2.2)) f_m).mono ?_
      rintro e V3 ⟨Qm0, qm0, Qm1, qm1, rfl, gq_m0, gq_m1, b3⟩
      refine hK.out _ _ ?h91 (fun hHeld => ?j91)
      case h91 => exact HK.out _ _ b3 hHeld
      clear hK K
      try simp only [Act.put, List.setIfInBounds_toArray, List.set_cons_zero, List.set_cons_succ]
      have Tm0 := Aside0.mk gq_m0
      have Tm1 := Aside0.mk gq_m1
      clear gq_m0
      clear gq_m1
      have s3_ := b3.size
      replace Tlist0 := Aside0.mk (Kd.S_below Tlist0.out b3)
      replace F0 := Aside0.mk (below_blk F0.out b3)
      refine rdy (rs := [4]) ?_
      refine rc (fun K hK => ?k92) AllReadyH.nil
      case k92 =>
       go_simp
       have hcl := aliasMail_any Qlist0 qlist0 list m Qm0 qm0 Qm1 qm1 V3 f_list f_m (Kd.S_reads' Tlist0.out).2.2 (Kd.R_reads' Tm0.out).2.2 (Kd.R_reads' Tm1.out).2.2 (HG.out.below (bel_then HB0.out (bel_then B15 hHeld.2.2.2.2.2.2.2.2.2.2.2.2)))
       rw [HV0.out, HV1.out] at hcl
       refine hcl.mono ?_
       clear hcl
       rintro e V4 ⟨H0_0, hd0_0, H0_1, hd0_1, rfl, gu0_0, gu0_1, b4⟩
       refine hK.out _ _ ?h93 (fun hHeld => ?j93)
       case h93 => exact HK.out _ _ b4 hHeld
       clear hK K
       try simp only [Act.put, List.setIfInBounds_toArray, List.set_cons_zero, List.set_cons_succ]
       have U0_0 := Aside0.mk (Kd.R_lower (base' := w15.heap.size) (Kd.R_mono (Kd.R_bound gu0_0) (ok' := fun q => V3.heap.size ≤ q ∧ q < V4.heap.size) (fun q hq => ⟨hq.2.1, hq.2.2.1⟩)) (by have := hHeld.2.2.2.2.2.2.2.2.2.2.2.2.size; omega))
       have U0_1 := Aside0.mk (Kd.R_lower (base' := w15.heap.size) (Kd.R_mono (Kd.R_bound gu0_1) (ok' := fun q => V3.heap.size ≤ q ∧ q < V4.heap.size) (fun q hq => ⟨hq.2.1, hq.2.2.1⟩)) (by have := hHeld.2.2.2.2.2.2.2.2.2.2.2.2.size; omega))
       clear gu0_0 gu0_1
       have s4_ := b4.size
       replace Tlist0 := Aside0.mk (Kd.S_below Tlist0.out b4)
       replace F0 := Aside0.mk (below_blk F0.out b4)
       replace Tm0 := Aside0.mk (Kd.R_below Tm0.out b4)
       replace Tm1 := Aside0.mk (Kd.R_below Tm1.out b4)
       refine tk 5 ?v94 ?y94 ?r94
       case y94 => intro w_ hSw; (try dsimp only at hSw); go_simp; (try (with_reducible rfl))
       try simp only [Act.put, List.setIfInBounds_toArray, List.set_cons_zero, List.set_cons_succ]
       refine tk 6 ?v95 ?y95 ?r95
       case y95 => intro w_ hSw; (try dsimp only at hSw); go_simp; (try (with_reducible rfl))
       try simp only [Act.put, List.setIfInBounds_toArray, List.set_cons_zero, List.set_cons_succ]
       refine tk 7 ?v96 ?y96 ?r96
       case y96 => intro w_ hSw; (try dsimp only at hSw); go_simp; (try (with_reducible rfl))
       try simp only [Act.put, List.setIfInBounds_toArray, List.set_cons_zero, List.set_cons_succ]
       refine rdy (rs := [9]) ?_
       refine rc (fun K hK => ?k97) AllReadyH.nil
       case k97 =>
        have hb7 := F0.out
        have v0_ : V4.cell? ⟨g0, 0, none⟩ = some (.string ⟨#[]⟩) := by simp [World.cell?, hb7]
        have v1_ : V4.cell? ⟨g0, 1, none⟩ = some (.string ⟨#[]⟩) := by simp [World.cell?, hb7]
        have v2_ : V4.cell? ⟨g0, 2, none⟩ = some (.slice none 0 0) := by simp [World.cell?, hb7]
        have v3_ : V4.cell? ⟨g0, 3, none⟩ = some (.slice none 0 0) := by simp [World.cell?, hb7]
        have u0_ : V4.frozen? ⟨g0, 0, none⟩ = false := by simp [World.frozen?, hb7]
        have u1_ : V4.frozen? ⟨g0, 1, none⟩ = false := by simp [World.frozen?, hb7]
        have u2_ : V4.frozen? ⟨g0, 2, none⟩ = false := by simp [World.frozen?, hb7]
        have u3_ : V4.frozen? ⟨g0, 3, none⟩ = false := by simp [World.frozen?, hb7]
        go_simp
        generalize hV9 : World.setCell (World.setCell (World.setCell (World.setCell V4 ⟨g0, 0, none⟩ _) ⟨g0, 1, none⟩ _) ⟨g0, 2, none⟩ _) ⟨g0, 3, none⟩ _ = V9
        have G9 : V4.grownBy V9 (some g0) := by rw [← hV9]; exact (((grown_set1 _ _ _ _).trans (grown_set1 _ _ _ _)).trans (grown_set1 _ _ _ _)).trans (grown_set1 _ _ _ _)
        have FF0 : V9.heap[g0]? = some (.cells #[.string M0.f0.f0, .string M0.f0.f1, .slice H0_0 M0.f1.length hd0_0, .slice H0_1 M0.f2.length hd0_1] 29 (0, 0)) := by rw [← hV9, blk_set1 (blk_set1 (blk_set1 (blk_set1 (F0.out) 0 _) 1 _) 2 _) 3 _]; simp
        have BB : Below w15.heap.size w15 V9 := by rw [← hV9]; exact (bel_set (bel_set (bel_set (bel_set (hHeld.2.2.2.2.2.2.2.2.2.2.2.2) _ al0) _ al0) _ al0) _ al0)
        clear hV9
        refine hK.out _ _ ?h98 (fun hHeld => ?j98)
        case h98 => (exact ⟨(World.cell?_of_block (G9.block _ (World.block_lt_of_cell? _ _ hHeld.1) (fun e => by have e := Option.some.inj e; (try dsimp only at e); omega))).trans hHeld.1, (World.cell?_of_block (G9.block _ (World.block_lt_of_cell? _ _ hHeld.2.1) (fun e => by have e := Option.some.inj e; (try dsimp only at e); omega))).trans hHeld.2.1, (World.cell?_of_block (G9.block _ (World.block_lt_of_cell? _ _ hHeld.2.2.1) (fun e => by have e := Option.some.inj e; (try dsimp only at e); omega))).trans hHeld.2.2.1, (World.cell?_of_block (G9.block _ (World.block_lt_of_cell? _ _ hHeld.2.2.2.1) (fun e => by have e := Option.some.inj e; (try dsimp only at e); omega))).trans hHeld.2.2.2.1, (World.cell?_of_block (G9.block _ (World.block_lt_of_cell? _ _ hHeld.2.2.2.2.1) (fun e => by have e := Option.some.inj e; (try dsimp only at e); omega))).trans hHeld.2.2.2.2.1, (World.cell?_of_block (G9.block _ (World.block_lt_of_cell? _ _ hHeld.2.2.2.2.2.1) (fun e => by have e := Option.some.inj e; (try dsimp only at e); omega))).trans hHeld.2.2.2.2.2.1, (World.cell?_of_block (G9.block _ (World.block_lt_of_cell? _ _ hHeld.2.2.2.2.2.2.1) (fun e => by have e := Option.some.inj e; (try dsimp only at e); omega))).trans hHeld.2.2.2.2.2.2.1, (World.cell?_of_block (G9.block _ (World.block_lt_of_cell? _ _ hHeld.2.2.2.2.2.2.2.1) (fun e => by have e := Option.some.inj e; (try dsimp only at e); omega))).trans hHeld.2.2.2.2.2.2.2.1, (World.cell?_of_block (G9.block _ (World.block_lt_of_cell? _ _ hHeld.2.2.2.2.2.2.2.2.1) (fun e => by have e := Option.some.inj e; (try dsimp only at e); omega))).trans hHeld.2.2.2.2.2.2.2.2.1, (World.cell?_of_block (G9.block _ (World.block_lt_of_cell? _ _ hHeld.2.2.2.2.2.2.2.2.2.1) (fun e => by have e := Option.some.inj e; (try dsimp only at e); omega))).trans hHeld.2.2.2.2.2.2.2.2.2.1, (World.cell?_of_block (G9.block _ (World.block_lt_of_cell? _ _ hHeld.2.2.2.2.2.2.2.2.2.2.1) (fun e => by have e := Option.some.inj e; (try dsimp only at e); omega))).trans hHeld.2.2.2.2.2.2.2.2.2.2.1, (World.cell?_of_block (G9.block _ (World.block_lt_of_cell? _ _ hHeld.2.2.2.2.2.2.2.2.2.2.2.1) (fun e => by have e := Option.some.inj e; (try dsimp only at e); omega))).trans hHeld.2.2.2.2.2.2.2.2.2.2.2.1, BB⟩)
        clear hK K
        try simp only [Act.put, List.setIfInBounds_toArray, List.set_cons_zero, List.set_cons_succ]
        replace U0_0 := Aside0.mk (Kd.R_grown U0_0.out G9 (fun q hq e => by injection e with e; have h1 := hq.1; have h2 := hq.2; omega))
        replace U0_1 := Aside0.mk (Kd.R_grown U0_1.out G9 (fun q hq e => by injection e with e; have h1 := hq.1; have h2 := hq.2; omega))
        replace F0 := Aside0.mk FF0
        have s9_ : V4.heap.size ≤ V9.heap.size := G9.size
        refine tk 10 ?v99 ?y99 ?r99
        case y99 => intro w_ hSw; (try dsimp only at hSw); go_simp; (try (with_reducible rfl))
        try simp only [Act.put, List.setIfInBounds_toArray, List.set_cons_zero, List.set_cons_succ]
        refine wpAnyH_done (by kernel_rfl) ?_ _
        exact HKK.out H0_0 hd0_0 H0_1 hd0_1 Qlist0 qlist0 Qm0 qm0 Qm1 qm1 g0 V9 ⟨hHeld.2.2.2.2.2.2.2.2.2.2.2.2, (by omega), Kd.R_mono U0_0.out (fun q hq => by have h1 := hq.1; have h2 := hq.2; refine ⟨?_, ?_, ?_⟩ <;> omega), Kd.R_mono U0_1.out (fun q hq => by have h1 := hq.1; have h2 := hq.2; refine ⟨?_, ?_, ?_⟩ <;> omega), F0.out⟩
   case k64 =>
    go_simp
    refine hK.out _ _ ?h100 (fun hHeld => ?j100)
    case h100 => exact HK.out _ _ (bel_alloc (Below.refl _ _) _) hHeld
    clear hK K
    try simp only [Act.put, List.setIfInBounds_toArray, List.set_cons_zero, List.set_cons_succ]
    generalize hV8 : World.alloc V0 _ = V8 at hHeld ⊢
    have b8 : Below V0.heap.size V0 V8 := by rw [← hV8]; exact bel_alloc (Below.refl _ _) _
    have z8 : V0.heap.size < V8.heap.size := by rw [← hV8]; simp
    have F0 := Aside0.mk (by rw [← hV8]; exact blk_new _ _ : V8.heap[V0.heap.size]? = some (.cells #[.string ⟨#[]⟩, .string ⟨#[]⟩, .slice none 0 0, .slice none 0 0] 29 (0, 0)))
    obtain ⟨g0, hg0⟩ : ∃ g, g = V0.heap.size := ⟨_, rfl⟩
    have lo0 : V0.heap.size ≤ g0 := by omega
    have al0 : w15.heap.size ≤ g0 := by omega
    have hi0 : g0 < V8.heap.size := by omega
    rw [← hg0] at F0 ⊢
    clear hV8 hg0 z8
    have s8_ := b8.size
    refine rdy (rs := [1]) ?_
    refine rc (fun K hK => ?k101) AllReadyH.nil
    case k101 =>
     go_simp
     refine (hto_list _ (bel_then HB0.out (bel_then B15 hHeld.2.2.2.2.2.2.2.2.2.2.2.2)) f_list).mono ?_
     rintro e V1 ⟨Qlist0, qlist0, rfl, gq_list0, b1⟩
     refine hK.out _ _ ?h102 (fun hHeld => ?j102)
     case h102 => exact HK.out _ _ b1 hHeld
     clear hK K
     try simp only [Act.put, List.setIfInBounds_toArray, List.set_cons_zero, List.set_cons_succ]
     have Tlist0 := Aside0.mk gq_list0
     clear gq_list0
     have s1_ := b1.size
     replace F0 := Aside0.mk (below_blk F0.out b1)
     refine rdy (rs := [3]) ?_
     refine rc (fun K hK => ?k103) AllReadyH.nil
     case k103 =>
      go_simp
      refine (hto_m _ (bel_then HB0.out (bel_then B15 hHeld.2.2.2.2.2.2.2.2.2.2.2.2)) f_m).mono ?_
      rintro e V3 ⟨Qm0, qm0, Qm1, qm1, rfl, gq_m0, gq_m1, b3⟩
      refine hK.out _ _ ?h104 (fun hHeld => ?j104)
      case h104 => exact HK.out _ _ b3 hHeld
      clear hK K
      try simp only [Act.put, List.setIfInBounds_toArray, List.set_cons_zero, List.set_cons_succ]
      have Tm0 := Aside0.mk gq_m0
      have Tm1 := Aside0.mk gq_m1
      clear gq_m0
      clear gq_m1
      have s3_ := b3.size
      replace F0 := Aside0.mk (below_blk F0.out b3)
      replace Tlist0 := Aside0.mk (Kd.S_below Tlist0.out b3)
      refine rdy (rs := [4]) ?_
      refine rc (fun K hK => ?k105) AllReadyH.nil
      case k105 =>
       go_simp
       have hcl := aliasMail_any Qlist0 qlist0 list m Qm0 qm0 Qm1 qm1 V3 f_list f_m (Kd.S_reads' Tlist0.out).2.2 (Kd.R_reads' Tm0.out).2.2 (Kd.R_reads' Tm1.out).2.2 (HG.out.below (bel_then HB0.out (bel_then B15 hHeld.2.2.2.2.2.2.2.2.2.2.2.2)))
       rw [HV0.out, HV1.out] at hcl
       refine hcl.mono ?_
       clear hcl
       rintro e V4 ⟨H0_0, hd0_0, H0_1, hd0_1, rfl, gu0_0, gu0_1, b4⟩
       refine hK.out _ _ ?h106 (fun hHeld => ?j106)
       case h106 => exact HK.out _ _ b4 hHeld
       clear hK K
       try simp only [Act.put, List.setIfInBounds_toArray, List.set_cons_zero, List.set_cons_succ]
       have U0_0 := Aside0.mk (Kd.R_lower (base' := w15.heap.size) (Kd.R_mono (Kd.R_bound gu0_0) (ok' := fun q => V3.heap.size ≤ q ∧ q < V4.heap.size) (fun q hq => ⟨hq.2.1, hq.2.2.1⟩)) (by have := hHeld.2.2.2.2.2.2.2.2.2.2.2.2.size; omega))
       have U0_1 := Aside0.mk (Kd.R_lower (base' := w15.heap.size) (Kd.R_mono (Kd.R_bound gu0_1) (ok' := fun q => V3.heap.size ≤ q ∧ q < V4.heap.size) (fun q hq => ⟨hq.2.1, hq.2.2.1⟩)) (by have := hHeld.2.2.2.2.2.2.2.2.2.2.2.2.size; omega))
       clear gu0_0 gu0_1
       have s4_ := b4.size
       replace F0 := Aside0.mk (below_blk F0.out b4)
       replace Tlist0 := Aside0.mk (Kd.S_below Tlist0.out b4)
       replace Tm0 := Aside0.mk (Kd.R_below Tm0.out b4)
       replace Tm1 := Aside0.mk (Kd.R_below Tm1.out b4)
       refine tk 5 ?v107 ?y107 ?r107
       case y107 => intro w_ hSw; (try dsimp only at hSw); go_simp; (try (with_reducible rfl))
       try simp only [Act.put, List.setIfInBounds_toArray, List.set_cons_zero, List.set_cons_succ]
       refine tk 6 ?v108 ?y108 ?r108
       case y108 => intro w_ hSw; (try dsimp only at hSw); go_simp; (try (with_reducible rfl))
       try simp only [Act.put, List.setIfInBounds_toArray, List.set_cons_zero, List.set_cons_succ]
       refine tk 7 ?v109 ?y109 ?r109
       case y109 => intro w_ hSw; (try dsimp only at hSw); go_simp; (try (with_reducible rfl))
       try simp only [Act.put, List.setIfInBounds_toArray, List.set_cons_zero, List.set_cons_succ]
       refine rdy (rs := [9]) ?_
       refine rc (fun K hK => ?k110) AllReadyH.nil
       case k110 =>
        have hb7 := F0.out
        have v0_ : V4.cell? ⟨g0, 0, none⟩ = some (.string ⟨#[]⟩) := by simp [World.cell?, hb7]
        have v1_ : V4.cell? ⟨g0, 1, none⟩ = some (.string ⟨#[]⟩) := by simp [World.cell?, hb7]
        have v2_ : V4.cell? ⟨g0, 2, none⟩ = some (.slice none 0 0) := by simp [World.cell?, hb7]
        have v3_ : V4.cell? ⟨g0, 3, none⟩ = some (.slice none 0 0) := by simp [World.cell?, hb7]
        have u0_ : V4.frozen? ⟨g0, 0, none⟩ = false := by simp [World.frozen?, hb7]
        have u1_ : V4.frozen? ⟨g0, 1, none⟩ = false := by simp [World.frozen?, hb7]
        have u2_ : V4.frozen? ⟨g0, 2, none⟩ = false := by simp [World.frozen?, hb7]
        have u3_ : V4.frozen? ⟨g0, 3, none⟩ = false := by simp [World.frozen?, hb7]
        go_simp
        generalize hV9 : World.setCell (World.setCell (World.setCell (World.setCell V4 ⟨g0, 0, none⟩ _) ⟨g0, 1, none⟩ _) ⟨g0, 2, none⟩ _) ⟨g0, 3, none⟩ _ = V9
        have G9 : V4.grownBy V9 (some g0) := by rw [← hV9]; exact (((grown_set1 _ _ _ _).trans (grown_set1 _ _ _ _)).trans (grown_set1 _ _ _ _)).trans (grown_set1 _ _ _ _)
        have FF0 : V9.heap[g0]? = some (.cells #[.string M0.f0.f0, .string M0.f0.f1, .slice H0_0 M0.f1.length hd0_0, .slice H0_1 M0.f2.length hd0_1] 29 (0, 0)) := by rw [← hV9, blk_set1 (blk_set1 (blk_set1 (blk_set1 (F0.out) 0 _) 1 _) 2 _) 3 _]; simp
        have BB : Below w15.heap.size w15 V9 := by rw [← hV9]; exact (bel_set (bel_set (bel_set (bel_set (hHeld.2.2.2.2.2.2.2.2.2.2.2.2) _ al0) _ al0) _ al0) _ al0)
        clear hV9
        refine hK.out _ _ ?h111 (fun hHeld => ?j111)
        case h111 => (exact ⟨(World.cell?_of_block (G9.block _ (World.block_lt_of_cell? _ _ hHeld.1) (fun e => by have e := Option.some.inj e; (try dsimp only at e); omega))).trans hHeld.1, (World.cell?_of_block (G9.block _ (World.block_lt_of_cell? _ _ hHeld.2.1) (fun e => by have e := Option.some.inj e; (try dsimp only at e); omega))).trans hHeld.2.1, (World.cell?_of_block (G9.block _ (World.block_lt_of_cell? _ _ hHeld.2.2.1) (fun e => by have e := Option.some.inj e; (try dsimp only at e); omega))).trans hHeld.2.2.1, (World.cell?_of_block (G9.block _ (World.block_lt_of_cell? _ _ hHeld.2.2.2.1) (fun e => by have e := Option.some.inj e; (try dsimp only at e); omega))).trans hHeld.2.2.2.1, (World.cell?_of_block (G9.block _ (World.block_lt_of_cell? _ _ hHeld.2.2.2.2.1) (fun e => by have e := Option.some.inj e; (try dsimp only at e); omega))).trans hHeld.2.2.2.2.1, (World.cell?_of_block (G9.block _ (World.block_lt_of_cell? _ _ hHeld.2.2.2.2.2.1) (fun e => by have e := Option.some.inj e; (try dsimp only at e); omega))).trans hHeld.2.2.2.2.2.1, (World.cell?_of_block (G9.block _ (World.block_lt_of_cell? _ _ hHeld.2.2.2.2.2.2.1) (fun e => by have e := Option.some.inj e; (try dsimp only at e); omega))).trans hHeld.2.2.2.2.2.2.1, (World.cell?_of_block (G9.block _ (World.block_lt_of_cell? _ _ hHeld.2.2.2.2.2.2.2.1) (fun e => by have e := Option.some.inj e; (try dsimp only at e); omega))).trans hHeld.2.2.2.2.2.2.2.1, (World.cell?_of_block (G9.block _ (World.block_lt_of_cell? _ _ hHeld.2.2.2.2.2.2.2.2.1) (fun e => by have e := Option.some.inj e; (try dsimp only at e); omega))).trans hHeld.2.2.2.2.2.2.2.2.1, (World.cell?_of_block (G9.block _ (World.block_lt_of_cell? _ _ hHeld.2.2.2.2.2.2.2.2.2.1) (fun e => by have e := Option.some.inj e; (try dsimp only at e); omega))).trans hHeld.2.2.2.2.2.2.2.2.2.1, (World.cell?_of_block (G9.block _ (World.block_lt_of_cell? _ _ hHeld.2.2.2.2.2.2.2.2.2.2.1) (fun e => by have e := Option.some.inj e; (try dsimp only at e); omega))).trans hHeld.2.2.2.2.2.2.2.2.2.2.1, (World.cell?_of_block (G9.block _ (World.block_lt_of_cell? _ _ hHeld.2.2.2.2.2.2.2.2.2.2.2.1) (fun e => by have e := Option.some.inj e; (try dsimp only at e); omega))).trans hHeld.2.2.2.2.2.2.2.2.2.2.2.1, BB⟩)
        clear hK K
        try simp only [Act.put, List.setIfInBounds_toArray, List.set_cons_zero, List.set_cons_succ]
        replace U0_0 := Aside0.mk (Kd.R_grown U0_0.out G9 (fun q hq e => by injection e with e; have h1 := hq.1; have h2 := hq.2; omega))
        replace U0_1 := Aside0.mk (Kd.R_grown U0_1.out G9 (fun q hq e => by injection e with e; have h1 := hq.1; have h2 := hq.2; omega))
        replace F0 := Aside0.mk FF0
        have s9_ : V4.heap.size ≤ V9.heap.size := G9.size
        refine tk 10 ?v112 ?y112 ?r112
        case y112 => intro w_ hSw; (try dsimp only at hSw); go_simp; (try (with_reducible rfl))
        try simp only [Act.put, List.setIfInBounds_toArray, List.set_cons_zero, List.set_cons_succ]
        refine wpAnyH_done (by kernel_rfl) ?_ _
        exact HKK.out H0_0 hd0_0 H0_1 hd0_1 Qlist0 qlist0 Qm0 qm0 Qm1 qm1 g0 V9 ⟨hHeld.2.2.2.2.2.2.2.2.2.2.2.2, (by omega), Kd.R_mono U0_0.out (fun q hq => by have h1 := hq.1; have h2 := hq.2; refine ⟨?_, ?_, ?_⟩ <;> omega), Kd.R_mono U0_1.out (fun q hq => by have h1 := hq.1; have h2 := hq.2; refine ⟨?_, ?_, ?_⟩ <;> omega), F0.out⟩
  case hk =>
   intro H0_0 hd0_0 H0_1 hd0_1 Qlist0 qlist0 Qm0 qm0 Qm1 qm1 gh0 w16 ⟨bb16, agh0, hHH0_0, hHH0_1, fgh0⟩
   clear HST HK join
   have B16 := bel_then B15 bb16
   have sz16 := bb16.size
   replace HW0_0 := Aside0.mk (Kd.R_below HW0_0.out bb16)
   replace HW0_1 := Aside0.mk (Kd.R_below HW0_1.out bb16)
   replace HG0_0 := Aside0.mk (Kd.R_below HG0_0.out bb16)
   replace HG0_1 := Aside0.mk (Kd.R_below HG0_1.out bb16)
   replace Fgw0 := Aside0.mk (below_blk Fgw0.out bb16)
   replace Fgg0 := Aside0.mk (below_blk Fgg0.out bb16)
   have HH0_0 := Aside0.mk hHH0_0
   clear hHH0_0
   have HH0_1 := Aside0.mk hHH0_1
   clear hHH0_1
   have Fgh0 := Aside0.mk fgh0
   have ubgh0 : gh0 < w16.heap.size := blk_lt fgh0
   clear fgh0
   clear zz0_ lFgw0 lFgg0
   obtain ⟨c0_, c1_, c2_, c3_⟩ := HC.out _ B16
   have zz0_ : w.heap.size < w16.heap.size := Nat.lt_of_lt_of_le Z0 B16.size
   have yFgw0_0 : w16.cell? ⟨gw0, 0, none⟩ = some (.string M0.f0.f0) := by simp [World.cell?, Fgw0.out]
   have yFgw0_1 : w16.cell? ⟨gw0, 1, none⟩ = some (.string M0.f0.f1) := by simp [World.cell?, Fgw0.out]
   have yFgw0_2 : w16.cell? ⟨gw0, 2, none⟩ = some (.slice D0_0 M0.f1.length dd0_0) := by simp [World.cell?, Fgw0.out]
   have yFgw0_3 : w16.cell? ⟨gw0, 3, none⟩ = some (.slice D0_1 M0.f2.length dd0_1) := by simp [World.cell?, Fgw0.out]
   have lFgw0 : gw0 < w16.heap.size := blk_lt Fgw0.out
   have yFgg0_0 : w16.cell? ⟨w6.heap.size, 0, none⟩ = some (.string M0.f0.f0) := by simp [World.cell?, Fgg0.out]
   have yFgg0_1 : w16.cell? ⟨w6.heap.size, 1, none⟩ = some (.string M0.f0.f1) := by simp [World.cell?, Fgg0.out]
   have yFgg0_2 : w16.cell? ⟨w6.heap.size, 2, none⟩ = some (.slice G0_0 M0.f1.length gd0_0) := by simp [World.cell?, Fgg0.out]
   have yFgg0_3 : w16.cell? ⟨w6.heap.size, 3, none⟩ = some (.slice G0_1 M0.f2.length gd0_1) := by simp [World.cell?, Fgg0.out]
   have lFgg0 : w6.heap.size < w16.heap.size := blk_lt Fgg0.out
   have yFgh0_0 : w16.cell? ⟨gh0, 0, none⟩ = some (.string M0.f0.f0) := by simp [World.cell?, Fgh0.out]
   have yFgh0_1 : w16.cell? ⟨gh0, 1, none⟩ = some (.string M0.f0.f1) := by simp [World.cell?, Fgh0.out]
   have yFgh0_2 : w16.cell? ⟨gh0, 2, none⟩ = some (.slice H0_0 M0.f1.length hd0_0) := by simp [World.cell?, Fgh0.out]
   have yFgh0_3 : w16.cell? ⟨gh0, 3, none⟩ = some (.slice H0_1 M0.f2.length hd0_1) := by simp [World.cell?, Fgh0.out]
   have lFgh0 : gh0 < w16.heap.size := blk_lt Fgh0.out
   have hcall := fun (W : World) (hW : Below w16.heap.size w16 W) => eqMail_any M0 H0_0 hd0_0 H0_1 hd0_1 D0_0 dd0_0 D0_1 dd0_1 W HVF0.out (Kd.C_below (Kd.R_reads' HH0_0.out).2.2 hW) (Kd.C_below (Kd.R_reads' HH0_1.out).2.2 hW) (Kd.C_below (Kd.R_reads' HW0_0.out).2.2 hW) (Kd.C_below (Kd.R_reads' HW0_1.out).2.2 hW)
   go_wp2_with fail
   refine (hcall _ (Below.refl _ _)).mono ?_
   rintro e w17 ⟨rfl, b17⟩
   clear hcall
   have bb17 := bel_then (Below.refl w16.heap.size w16) b17
   have B17 := bel_then B16 bb17
   have sz17 := bb17.size
   replace HW0_0 := Aside0.mk (Kd.R_below HW0_0.out bb17)
   replace HW0_1 := Aside0.mk (Kd.R_below HW0_1.out bb17)
   replace HG0_0 := Aside0.mk (Kd.R_below HG0_0.out bb17)
   replace HG0_1 := Aside0.mk (Kd.R_below HG0_1.out bb17)
   replace HH0_0 := Aside0.mk (Kd.R_below HH0_0.out bb17)
   replace HH0_1 := Aside0.mk (Kd.R_below HH0_1.out bb17)
   replace Fgw0 := Aside0.mk (below_blk Fgw0.out bb17)
   replace Fgg0 := Aside0.mk (below_blk Fgg0.out bb17)
   replace Fgh0 := Aside0.mk (below_blk Fgh0.out bb17)
   clear c0_ c1_ c2_ c3_ zz0_ yFgw0_0 yFgw0_1 yFgw0_2 yFgw0_3 lFgw0 yFgg0_0 yFgg0_1 yFgg0_2 yFgg0_3 lFgg0 yFgh0_0 yFgh0_1 yFgh0_2 yFgh0_3 lFgh0
   obtain ⟨c0_, c1_, c2_, c3_⟩ := HC.out _ B17
   have zz0_ : w.heap.size < w17.heap.size := Nat.lt_of_lt_of_le Z0 B17.size
   have yFgw0_0 : w17.cell? ⟨gw0, 0, none⟩ = some (.string M0.f0.f0) := by simp [World.cell?, Fgw0.out]
   have yFgw0_1 : w17.cell? ⟨gw0, 1, none⟩ = some (.string M0.f0.f1) := by simp [World.cell?, Fgw0.out]
   have yFgw0_2 : w17.cell? ⟨gw0, 2, none⟩ = some (.slice D0_0 M0.f1.length dd0_0) := by simp [World.cell?, Fgw0.out]
   have yFgw0_3 : w17.cell? ⟨gw0, 3, none⟩ = some (.slice D0_1 M0.f2.length dd0_1) := by simp [World.cell?, Fgw0.out]
   have lFgw0 : gw0 < w17.heap.size := blk_lt Fgw0.out
   have yFgg0_0 : w17.cell? ⟨w6.heap.size, 0, none⟩ = some (.string M0.f0.f0) := by simp [World.cell?, Fgg0.out]
   have yFgg0_1 : w17.cell? ⟨w6.heap.size, 1, none⟩ = some (.string M0.f0.f1) := by simp [World.cell?, Fgg0.out]
   have yFgg0_2 : w17.cell? ⟨w6.heap.size, 2, none⟩ = some (.slice G0_0 M0.f1.length gd0_0) := by simp [World.cell?, Fgg0.out]
   have yFgg0_3 : w17.cell? ⟨w6.heap.size, 3, none⟩ = some (.slice G0_1 M0.f2.length gd0_1) := by simp [World.cell?, Fgg0.out]
   have lFgg0 : w6.heap.size < w17.heap.size := blk_lt Fgg0.out
   have yFgh0_0 : w17.cell? ⟨gh0, 0, none⟩ = some (.string M0.f0.f0) := by simp [World.cell?, Fgh0.out]
   have yFgh0_1 : w17.cell? ⟨gh0, 1, none⟩ = some (.string M0.f0.f1) := by simp [World.cell?, Fgh0.out]
   have yFgh0_2 : w17.cell? ⟨gh0, 2, none⟩ = some (.slice H0_0 M0.f1.length hd0_0) := by simp [World.cell?, Fgh0.out]
   have yFgh0_3 : w17.cell? ⟨gh0, 3, none⟩ = some (.slice H0_1 M0.f2.length hd0_1) := by simp [World.cell?, Fgh0.out]
   have lFgh0 : gh0 < w17.heap.size := blk_lt Fgh0.out
   clear b17 bb17
   have hC0 := (Kd.R_reads' HG0_0.out).2.2
   rw [mksAddr_length] at hC0
   have hC1 := (Kd.R_reads' HG0_1.out).2.2
   rw [mksString_length] at hC1
   have hcall := fun (W : World) (hW : Below w17.heap.size w17 W) => calls_at (a := 1) rfl (heldMail_any M0 G0_0 gd0_0 G0_1 gd0_1 1 W hl0_0 hl0_1 (Kd.C_below hC0 hW) (Kd.C_below hC1 hW) (by omega))
   go_wp2_with fail
   refine (hcall _ (Below.refl _ _)).mono ?_
   rintro e w18 ⟨he, b18⟩
   clear hcall
   obtain rfl : e = .returned (.int .i64 (m14 : Int)) := by rw [he, RV0.out]
   have bb18 := bel_then (Below.refl w17.heap.size w17) b18
   have B18 := bel_then B17 bb18
   have sz18 := bb18.size
   replace HW0_0 := Aside0.mk (Kd.R_below HW0_0.out bb18)
   replace HW0_1 := Aside0.mk (Kd.R_below HW0_1.out bb18)
   replace HG0_0 := Aside0.mk (Kd.R_below HG0_0.out bb18)
   replace HG0_1 := Aside0.mk (Kd.R_below HG0_1.out bb18)
   replace HH0_0 := Aside0.mk (Kd.R_below HH0_0.out bb18)
   replace HH0_1 := Aside0.mk (Kd.R_below HH0_1.out bb18)
   replace Fgw0 := Aside0.mk (below_blk Fgw0.out bb18)
   replace Fgg0 := Aside0.mk (below_blk Fgg0.out bb18)
   replace Fgh0 := Aside0.mk (below_blk Fgh0.out bb18)
   clear c0_ c1_ c2_ c3_ zz0_ yFgw0_0 yFgw0_1 yFgw0_2 yFgw0_3 lFgw0 yFgg0_0 yFgg0_1 yFgg0_2 yFgg0_3 lFgg0 yFgh0_0 yFgh0_1 yFgh0_2 yFgh0_3 lFgh0
   obtain ⟨c0_, c1_, c2_, c3_⟩ := HC.out _ B18
   have zz0_ : w.heap.size < w18.heap.size := Nat.lt_of_lt_of_le Z0 B18.size
   have yFgw0_0 : w18.cell? ⟨gw0, 0, none⟩ = some (.string M0.f0.f0) := by simp [World.cell?, Fgw0.out]
   have yFgw0_1 : w18.cell? ⟨gw0, 1, none⟩ = some (.string M0.f0.f1) := by simp [World.cell?, Fgw0.out]
   have yFgw0_2 : w18.cell? ⟨gw0, 2, none⟩ = some (.slice D0_0 M0.f1.length dd0_0) := by simp [World.cell?, Fgw0.out]
   have yFgw0_3 : w18.cell? ⟨gw0, 3, none⟩ = some (.slice D0_1 M0.f2.length dd0_1) := by simp [World.cell?, Fgw0.out]
   have lFgw0 : gw0 < w18.heap.size := blk_lt Fgw0.out
   have yFgg0_0 : w18.cell? ⟨w6.heap.size, 0, none⟩ = some (.string M0.f0.f0) := by simp [World.cell?, Fgg0.out]
   have yFgg0_1 : w18.cell? ⟨w6.heap.size, 1, none⟩ = some (.string M0.f0.f1) := by simp [World.cell?, Fgg0.out]
   have yFgg0_2 : w18.cell? ⟨w6.heap.size, 2, none⟩ = some (.slice G0_0 M0.f1.length gd0_0) := by simp [World.cell?, Fgg0.out]
   have yFgg0_3 : w18.cell? ⟨w6.heap.size, 3, none⟩ = some (.slice G0_1 M0.f2.length gd0_1) := by simp [World.cell?, Fgg0.out]
   have lFgg0 : w6.heap.size < w18.heap.size := blk_lt Fgg0.out
   have yFgh0_0 : w18.cell? ⟨gh0, 0, none⟩ = some (.string M0.f0.f0) := by simp [World.cell?, Fgh0.out]
   have yFgh0_1 : w18.cell? ⟨gh0, 1, none⟩ = some (.string M0.f0.f1) := by simp [World.cell?, Fgh0.out]
   have yFgh0_2 : w18.cell? ⟨gh0, 2, none⟩ = some (.slice H0_0 M0.f1.length hd0_0) := by simp [World.cell?, Fgh0.out]
   have yFgh0_3 : w18.cell? ⟨gh0, 3, none⟩ = some (.slice H0_1 M0.f2.length hd0_1) := by simp [World.cell?, Fgh0.out]
   have lFgh0 : gh0 < w18.heap.size := blk_lt Fgh0.out
   clear he b18 bb18 hC0 hC1
   go_wp2
   go_ret
   exact ⟨rfl, bel_then HB0.out B18⟩
end Go.Proofs.YticepbgacokbbaaGreatDoor
