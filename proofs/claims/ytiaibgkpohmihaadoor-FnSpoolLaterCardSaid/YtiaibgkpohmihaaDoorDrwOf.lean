/- An item of a drawn spool, and one whom it is for: a weak contract. -/
import Derived.Test.YtiaibgkpohmihaaDoorReg
import Derived.Test.YtiaibgkpohmihaaDoorDrwAnySp
import Derived.Deep.RegionHeld3
namespace Go.Proofs.YtiaibgkpohmihaaDoor
open Go.RowKit Go.Proofs.YtiaibgkpohmihaaDoorW.PrintWords
set_option linter.unusedVariables false
set_option linter.unusedSimpArgs false
set_option maxRecDepth 100000 in
set_option maxHeartbeats 8000000 in
theorem drOf_any (g m : Nat) (s : SSpool) (A0 : Option Addr) (c0 b : Nat) (w : World) (h : Rd g m w) (hm : m + 5 ≤ 1000000000) (hgb : g < b) (hs : wideS s) (hQ : Kd.R kItem 28 w b (fun _ => True) (.slice A0 s.f1.length c0) s.f1) :
  Calls Tryd.prog 46 #[.pointer (some ⟨g, 0, none⟩), .agg #[.int .i64 s.f0, .slice A0 s.f1.length c0]] w fun e w' => ∃ (id : Int) (a : SAddr), e = .returned (.tuple #[.int .i64 id, .agg #[.string a.f0, .string a.f1]]) ∧ (0 ≤ id ∧ id ≤ 1000) ∧ smallA a ∧ Rd g (m + 5) w' ∧ Dr g w w' := by
 have HR := Aside0.mk h
 have HD := Aside0.mk (Dr.refl g w)
 have hgl := h.lt
 have ng0 : ¬ w.heap.size = g := by omega
 have ng1 : ¬ w.heap.size + 1 = g := by omega
 have ng2 : ¬ w.heap.size + 2 = g := by omega
 clear h
 have HQ := Aside0.mk hQ
 have hn8 := hs.2.1
 clear hQ
 go_enter Tryd.func46, Tryd.ntmps46
 by_cases hn0 : 0 < s.f1.length
 ·have hn' : ¬ (s.f1.length : Int) = 0 := by omega
  have hn2 : ((s.f1.length : Int) == 0) = false := by rw [beq_eq_false_iff_ne]; exact hn'
  obtain ⟨gb, hgb_, hgb1, hgb2⟩ := own_form2 HQ.out (by omega)
  subst hgb_
  go_wp2_with fail
  obtain ⟨W0, hW0⟩ : ∃ W, W = (w.alloc (.cells #[.int .i64 s.f0, .slice (some ⟨gb, 0, none⟩) s.f1.length c0] 43)).alloc (.cells #[.string ⟨#[]⟩, .string ⟨#[]⟩] 24) := ⟨_, rfl⟩
  rw [← hW0]
  have b0 : Below w.heap.size w W0 := by rw [hW0]; exact bel_alloc (bel_alloc (Below.refl _ _) _) _
  have F0 : Aside0 (W0.heap[w.heap.size]? = some (.cells #[.int .i64 s.f0, .slice (some ⟨gb, 0, none⟩) s.f1.length c0] 43 (0, 0))) := ⟨by rw [hW0]; exact blk_alloc (blk_new _ _) _⟩
  have FR : Aside0 (W0.heap[w.heap.size + 1]? = some (.cells #[.string ⟨#[]⟩, .string ⟨#[]⟩] 24 (0, 0))) := ⟨by rw [hW0]; exact blk_at _ _ (by simp)⟩
  clear hW0
  replace HR := Aside0.mk (HR.out.below b0)
  replace HD := Aside0.mk (HD.out.below b0)
  have yW0 : w.heap.size + 2 ≤ W0.heap.size := blk_lt FR.out
  replace HQ := Aside0.mk (Kd.R_below HQ.out b0)
  clear b0
  refine Calls.mono (pick_any g _ 6 _ HR.out (by omega) (by omega)) ?_
  rintro e w1 ⟨k1, rfl, hk1, hr_, hd_⟩
  replace F0 := Aside0.mk (hd_.blk F0.out (by omega))
  replace FR := Aside0.mk (hd_.blk FR.out (by omega))
  replace HQ := Aside0.mk (Dr.R hd_ HQ.out hgb)
  replace HR := Aside0.mk hr_
  replace HD := Aside0.mk (Dr.then_ HD.out hd_)
  have yw1 := HD.out.size
  clear hr_ hd_
  have zF0 := blk_lt F0.out
  have cF0_0 : w1.cell? ⟨w.heap.size, 0, none⟩ = some (.int .i64 s.f0) := clq F0.out 0 rfl
  have cF0_1 : w1.cell? ⟨w.heap.size, 1, none⟩ = some (.slice (some ⟨gb, 0, none⟩) s.f1.length c0) := clq F0.out 1 rfl
  by_cases hk10 : k1 = 0
  ·subst hk10
   go_wp2_with fail
   refine Calls.mono (pick_any g _ 4 _ HR.out (by omega) (by omega)) ?_
   rintro e wA ⟨k9, rfl, hk9, hr_, hd_⟩
   clear zF0 cF0_0 cF0_1
   replace F0 := Aside0.mk (hd_.blk F0.out (by omega))
   replace FR := Aside0.mk (hd_.blk FR.out (by omega))
   replace HQ := Aside0.mk (Dr.R hd_ HQ.out hgb)
   replace HR := Aside0.mk hr_
   replace HD := Aside0.mk (Dr.then_ HD.out hd_)
   have ywA := HD.out.size
   clear hr_ hd_
   have zFR := blk_lt FR.out
   have cFR_0 : wA.cell? ⟨w.heap.size + 1, 0, none⟩ = some (.string ⟨#[]⟩) := clq FR.out 0 rfl
   have cFR_1 : wA.cell? ⟨w.heap.size + 1, 1, none⟩ = some (.string ⟨#[]⟩) := clq FR.out 1 rfl
   have hk9 := hk9 (by omega)
   go_wp2_with fail
   refine Calls.mono (drAddr_any g _ _ HR.out (by omega)) ?_
   rintro e wB ⟨a, rfl, ha, hr_, hd_⟩
   clear zFR cFR_0 cFR_1
   replace F0 := Aside0.mk (hd_.blk F0.out (by omega))
   replace FR := Aside0.mk (hd_.blk FR.out (by omega))
   replace HQ := Aside0.mk (Dr.R hd_ HQ.out hgb)
   replace HR := Aside0.mk hr_
   replace HD := Aside0.mk (Dr.then_ HD.out hd_)
   have ywB := HD.out.size
   clear hr_ hd_
   have zFR := blk_lt FR.out
   have cFR_0 : wB.cell? ⟨w.heap.size + 1, 0, none⟩ = some (.string ⟨#[]⟩) := clq FR.out 0 rfl
   have dFR_0 := fzq FR.out 0
   have cFR_1 : wB.cell? ⟨w.heap.size + 1, 1, none⟩ = some (.string ⟨#[]⟩) := clq FR.out 1 rfl
   have dFR_1 := fzq FR.out 1
   go_wp2
   refine bodyPost_ret (v := .tuple #[.int .i64 (k9 : Int), .agg #[.string a.f0, .string a.f1]]) ?hrZ rfl ?hpZ
   case hrZ => simp [results, Tryd.results46, go_sem, zFR, cFR_0, dFR_0, cFR_1, dFR_1]
   case hpZ => exact ⟨(k9 : Int), ⟨a.f0, a.f1⟩, rfl, ⟨by omega, by omega⟩, ha, (Rd.grown HR.out ((grown_set1 _ (w.heap.size + 1) 0 _).trans (grown_set1 _ _ 1 _)) (fun q hq => by have := Option.some.inj hq; omega)).up (by omega), Dr.grown HD.out ((grown_set1 _ (w.heap.size + 1) 0 _).trans (grown_set1 _ _ 1 _)) (fun q hq => .inl (by have := Option.some.inj hq; omega))⟩
  ·have hk11 : ¬ (k1 : Int) = 0 := by omega
   have hk12 : ((k1 : Int) == 0) = false := by simp; omega
   go_wp2_with fail
   clear hk1 hk10 hk11 hk12 hn2
   have join : Hid (∀ {goal : Prop} {G : Nat → Nat → SItem → Option Addr → Nat → Option Addr → Nat → World → Prop} (rg : Hid (∀ (k3 : Nat) (gx : Nat) (y : SItem) (UX : Option Addr) (du : Nat) (Q1 : Option Addr) (dv : Nat) (V : World), V.heap[w.heap.size + 1]? = some (.cells #[.string ⟨#[]⟩, .string ⟨#[]⟩] 24 (0, 0)) ∧ V.heap[gx]? = some (.cells #[.int .i64 y.f0, .string y.f1.f0, .string y.f1.f1, .slice UX y.f2.length du, .slice Q1 y.f3.length dv] 28 (0, 0)) ∧ Kd.R kRcpt 55 V b (fun _ => True) (.slice UX y.f2.length du) y.f2 ∧ wideI y ∧ Rd g (m + 2) V ∧ Dr g w V ∧ w.heap.size + 1 < gx → G k3 gx y UX du Q1 dv V) → goal) (hk : ∀ (k3 : Nat) (gx : Nat) (y : SItem) (UX : Option Addr) (du : Nat) (Q1 : Option Addr) (dv : Nat) (V : World), V.heap[w.heap.size + 1]? = some (.cells #[.string ⟨#[]⟩, .string ⟨#[]⟩] 24 (0, 0)) ∧ V.heap[gx]? = some (.cells #[.int .i64 y.f0, .string y.f1.f0, .string y.f1.f1, .slice UX y.f2.length du, .slice Q1 y.f3.length dv] 28 (0, 0)) ∧ Kd.R kRcpt 55 V b (fun _ => True) (.slice UX y.f2.length du) y.f2 ∧ wideI y ∧ Rd g (m + 2) V ∧ Dr g w V ∧ w.heap.size + 1 < gx → G k3 gx y UX du Q1 dv V), goal) := Lib.hid (fun f h => f (Lib.hid h))
   apply join.out
   case rg =>
    intro HKK
    refine wp_region_held_drew (S := (fun W => W.cell? ⟨w.heap.size, 0, none⟩ = some (.int .i64 s.f0) ∧ W.cell? ⟨w.heap.size, 1, none⟩ = some (.slice (some ⟨gb, 0, none⟩) s.f1.length c0))) (by kernel_rfl) ?s21 (fun hHeld => ?t21)
    case s21 => exact (show (fun W => W.cell? ⟨w.heap.size, 0, none⟩ = some (.int .i64 s.f0) ∧ W.cell? ⟨w.heap.size, 1, none⟩ = some (.slice (some ⟨gb, 0, none⟩) s.f1.length c0)) w1.drew from ⟨cF0_0, cF0_1⟩)
    generalize hV0 : World.drew w1 = V0 at hHeld ⊢
    have bV : Below w1.heap.size w1 V0 := by rw [← hV0]; exact drew_below0 w1
    clear hV0
    replace F0 := Aside0.mk (below_blk F0.out bV)
    replace FR := Aside0.mk (below_blk FR.out bV)
    replace HQ := Aside0.mk (Kd.R_below HQ.out bV)
    replace HR := Aside0.mk (HR.out.below bV)
    replace HD := Aside0.mk (HD.out.below bV)
    have yV0 := HD.out.size
    clear bV
    have zF0 := blk_lt F0.out
    have cF0_0 : V0.cell? ⟨w.heap.size, 0, none⟩ = some (.int .i64 s.f0) := clq F0.out 0 rfl
    have cF0_1 : V0.cell? ⟨w.heap.size, 1, none⟩ = some (.slice (some ⟨gb, 0, none⟩) s.f1.length c0) := clq F0.out 1 rfl
    refine tk 0 ?v22 ?y22 ?r22
    case y22 => intro w_ hSw; (try dsimp only at hSw); go_simp; (try (with_reducible rfl))
    try simp only [Act.put, List.setIfInBounds_toArray, List.set_cons_zero, List.set_cons_succ]
    refine tk 1 ?v23 ?y23 ?r23
    case y23 => intro w_ hSw; (try dsimp only at hSw); go_simp; (try (with_reducible rfl))
    try simp only [Act.put, List.setIfInBounds_toArray, List.set_cons_zero, List.set_cons_succ]
    refine tk 2 ?v24 ?y24 ?r24
    case y24 => intro w_ hSw; (try dsimp only at hSw); go_simp; (try (with_reducible rfl))
    try simp only [Act.put, List.setIfInBounds_toArray, List.set_cons_zero, List.set_cons_succ]
    refine tk 3 ?v25 ?y25 ?r25
    case y25 => intro w_ hSw; (try dsimp only at hSw); go_simp; (try (with_reducible rfl))
    try simp only [Act.put, List.setIfInBounds_toArray, List.set_cons_zero, List.set_cons_succ]
    refine tk 4 ?v26 ?y26 ?r26
    case y26 => intro w_ hSw; (try dsimp only at hSw); go_simp; (try (with_reducible rfl))
    try simp only [Act.put, List.setIfInBounds_toArray, List.set_cons_zero, List.set_cons_succ]
    refine tk 5 ?v27 ?y27 ?r27
    case y27 => intro w_ hSw; (try dsimp only at hSw); go_simp; (try (with_reducible rfl))
    try simp only [Act.put, List.setIfInBounds_toArray, List.set_cons_zero, List.set_cons_succ]
    refine rdy (rs := [6, 9]) ?_
    refine rc (fun K hK => ?k28) (rc (fun K hK => ?k29) AllReadyH.nil)
    case k28 =>
     go_simp
     refine Calls.mono (pick_any g _ (s.f1.length : Int) _ HR.out (by omega) (by omega)) ?_
     rintro e V6 ⟨k3, rfl, hk3, hr_, hd_⟩
     clear zF0 cF0_0 cF0_1
     replace F0 := Aside0.mk (hd_.blk F0.out (by omega))
     replace FR := Aside0.mk (hd_.blk FR.out (by omega))
     replace HQ := Aside0.mk (Dr.R hd_ HQ.out hgb)
     replace HR := Aside0.mk hr_
     replace HD := Aside0.mk (Dr.then_ HD.out hd_)
     have yV6 := HD.out.size
     clear hr_ hd_
     have hk3 := hk3 (by omega)
     have hk3n : k3 < s.f1.length := by omega
     have zF0 := blk_lt F0.out
     have cF0_0 : V6.cell? ⟨w.heap.size, 0, none⟩ = some (.int .i64 s.f0) := clq F0.out 0 rfl
     have cF0_1 : V6.cell? ⟨w.heap.size, 1, none⟩ = some (.slice (some ⟨gb, 0, none⟩) s.f1.length c0) := clq F0.out 1 rfl
     refine hK.out _ _ ?h30 (fun hHeld => ?j30)
     case h30 => exact ⟨cF0_0, cF0_1⟩
     clear hK K
     try simp only [Act.put, List.setIfInBounds_toArray, List.set_cons_zero, List.set_cons_succ]
     refine tk 7 ?v31 ?y31 ?r31
     case y31 => intro w_ hSw; (try dsimp only at hSw); go_simp; (try (with_reducible rfl))
     try simp only [Act.put, List.setIfInBounds_toArray, List.set_cons_zero, List.set_cons_succ]
     refine rdy (rs := [8, 9]) ?_
     refine rc (fun K hK => ?k32) (rc (fun K hK => ?k33) AllReadyH.nil)
     case k32 =>
      obtain ⟨ci, hil, hiM, hic, _⟩ := Kd.R_elem HQ.out zItem (k3 : Int) (by omega) (by omega)
      rw [Int.toNat_natCast] at hiM hic
      have hyw := hs.2.2 (s.f1.getD k3 zItem) (getD_mem _ _ hk3n)
      generalize s.f1.getD k3 zItem = y at hiM hyw
      obtain ⟨v0, v1, rfl, u0, u1⟩ := kItem_openM hiM
      obtain ⟨UX, du, hv⟩ := Kd.R_slice u0
      subst hv
      obtain ⟨Q1, dv, hv⟩ := Kd.R_slice u1
      subst hv
      simp only [show kItem.sz = 5 from rfl] at hic
      have i0_ : V6.cell? ⟨gb, k3 * 5, none⟩ = some (.int .i64 y.f0) := hic 0 _ rfl
      have i1_ : V6.cell? ⟨gb, k3 * 5 + 1, none⟩ = some (.string y.f1.f0) := hic 1 _ rfl
      have i2_ : V6.cell? ⟨gb, k3 * 5 + 2, none⟩ = some (.string y.f1.f1) := hic 2 _ rfl
      have i3_ : V6.cell? ⟨gb, k3 * 5 + 3, none⟩ = some (.slice UX y.f2.length du) := hic 3 _ rfl
      have i4_ : V6.cell? ⟨gb, k3 * 5 + 4, none⟩ = some (.slice Q1 y.f3.length dv) := hic 4 _ rfl
      have U0 : Aside0 (Kd.R kRcpt 55 V6 b (fun _ => True) (.slice UX y.f2.length du) y.f2) := ⟨Kd.R_mono u0 (fun _ _ => trivial)⟩
      have HYW := Lib.hid hyw
      clear hic hiM hil u0 u1 hyw
      go_simp
      refine hK.out _ _ ?h34 (fun hHeld => ?j34)
      case h34 => exact hHeld
      clear hK K
      try simp only [Act.put, List.setIfInBounds_toArray, List.set_cons_zero, List.set_cons_succ]
      refine rdy (rs := [9]) ?_
      refine rc (fun K hK => ?k35) AllReadyH.nil
      case k35 =>
       go_simp
       clear i0_ i1_ i2_ i3_ i4_
       obtain ⟨gx, hgx⟩ : ∃ q, q = V6.heap.size := ⟨_, rfl⟩
       rw [← hgx]
       generalize hVa : World.alloc V6 _ = V9
       have bV : Below V6.heap.size V6 V9 := by rw [← hVa]; exact bel_alloc (Below.refl _ _) _
       have nFX : Aside0 (V9.heap[gx]? = some (.cells #[.int .i64 0, .string ⟨#[]⟩, .string ⟨#[]⟩, .slice none 0 0, .slice none 0 0] 28 (0, 0))) := ⟨by rw [← hVa, hgx]; exact blk_new _ _⟩
       clear hVa
       have hgx1 : w.heap.size + 1 < gx := by have := blk_lt FR.out; omega
       have hgx2 : g < gx := by omega
       clear zF0 cF0_0 cF0_1
       replace F0 := Aside0.mk (below_blk F0.out bV)
       replace FR := Aside0.mk (below_blk FR.out bV)
       replace HQ := Aside0.mk (Kd.R_below HQ.out bV)
       replace U0 := Aside0.mk (Kd.R_below U0.out bV)
       replace HR := Aside0.mk (HR.out.below bV)
       replace HD := Aside0.mk (HD.out.below bV)
       have yV9 := HD.out.size
       have FX := nFX
       clear nFX bV hgx
       have zF0 := blk_lt F0.out
       have cF0_0 : V9.cell? ⟨w.heap.size, 0, none⟩ = some (.int .i64 s.f0) := clq F0.out 0 rfl
       have cF0_1 : V9.cell? ⟨w.heap.size, 1, none⟩ = some (.slice (some ⟨gb, 0, none⟩) s.f1.length c0) := clq F0.out 1 rfl
       refine hK.out _ _ ?h36 (fun hHeld => ?j36)
       case h36 => exact ⟨cF0_0, cF0_1⟩
       clear hK K
       try simp only [Act.put, List.setIfInBounds_toArray, List.set_cons_zero, List.set_cons_succ]
       refine rdy (rs := [10]) ?_
       refine rc (fun K hK => ?k37) AllReadyH.nil
       case k37 =>
        clear HQ
        have zFX := blk_lt FX.out
        have cFX_0 : V9.cell? ⟨gx, 0, none⟩ = some (.int .i64 0) := clq FX.out 0 rfl
        have dFX_0 := fzq FX.out 0
        have cFX_1 : V9.cell? ⟨gx, 1, none⟩ = some (.string ⟨#[]⟩) := clq FX.out 1 rfl
        have dFX_1 := fzq FX.out 1
        have cFX_2 : V9.cell? ⟨gx, 2, none⟩ = some (.string ⟨#[]⟩) := clq FX.out 2 rfl
        have dFX_2 := fzq FX.out 2
        have cFX_3 : V9.cell? ⟨gx, 3, none⟩ = some (.slice none 0 0) := clq FX.out 3 rfl
        have dFX_3 := fzq FX.out 3
        have cFX_4 : V9.cell? ⟨gx, 4, none⟩ = some (.slice none 0 0) := clq FX.out 4 rfl
        have dFX_4 := fzq FX.out 4
        go_simp
        generalize hWX : World.setCell (World.setCell (World.setCell (World.setCell (World.setCell (V9) _ _) _ _) _ _) _ _) _ _ = V10
        have nFX : V10.heap[gx]? = some (.cells #[.int .i64 y.f0, .string y.f1.f0, .string y.f1.f1, .slice UX y.f2.length du, .slice Q1 y.f3.length dv] 28 (0, 0)) := by rw [← hWX]; have h := blk_set1 (blk_set1 (blk_set1 (blk_set1 (blk_set1 (FX.out) 0 (.int .i64 y.f0)) 1 (.string y.f1.f0)) 2 (.string y.f1.f1)) 3 (.slice UX y.f2.length du)) 4 (.slice Q1 y.f3.length dv); simpa using h
        have hgr := ((((grown_set1 V9 (gx) 0 (.int .i64 y.f0)).trans (grown_set1 _ (gx) 1 (.string y.f1.f0))).trans (grown_set1 _ (gx) 2 (.string y.f1.f1))).trans (grown_set1 _ (gx) 3 (.slice UX y.f2.length du))).trans (grown_set1 _ (gx) 4 (.slice Q1 y.f3.length dv))
        rw [hWX] at hgr
        clear zF0 cF0_0 cF0_1 zFX cFX_0 dFX_0 cFX_1 dFX_1 cFX_2 dFX_2 cFX_3 dFX_3 cFX_4 dFX_4
        have nF0 : V10.heap[w.heap.size]? = some (.cells #[.int .i64 s.f0, .slice (some ⟨gb, 0, none⟩) s.f1.length c0] 43 (0, 0)) := (hgr.block _ (blk_lt F0.out) (fun e => by have e := Option.some.inj e; (try dsimp only at e); omega)).trans F0.out
        have nFR : V10.heap[w.heap.size + 1]? = some (.cells #[.string ⟨#[]⟩, .string ⟨#[]⟩] 24 (0, 0)) := (hgr.block _ (blk_lt FR.out) (fun e => by have e := Option.some.inj e; (try dsimp only at e); omega)).trans FR.out
        have nU0 := R_other U0.out FX.out (by decide) hgr
        have nHR := Rd.grown HR.out hgr (fun q hq => by have := Option.some.inj hq; omega)
        have nHD := Dr.grown HD.out hgr (fun q hq => .inl (by have := Option.some.inj hq; omega))
        clear hWX hgr HR HD F0 FR FX U0
        have F0 := Aside0.mk nF0
        clear nF0
        have FR := Aside0.mk nFR
        clear nFR
        have FX := Aside0.mk nFX
        clear nFX
        have U0 := Aside0.mk nU0
        clear nU0
        have HR := Aside0.mk nHR
        clear nHR
        have HD := Aside0.mk nHD
        clear nHD
        have yV10 := HD.out.size
        have zF0 := blk_lt F0.out
        have cF0_0 : V10.cell? ⟨w.heap.size, 0, none⟩ = some (.int .i64 s.f0) := clq F0.out 0 rfl
        have cF0_1 : V10.cell? ⟨w.heap.size, 1, none⟩ = some (.slice (some ⟨gb, 0, none⟩) s.f1.length c0) := clq F0.out 1 rfl
        refine hK.out _ _ ?h38 (fun hHeld => ?j38)
        case h38 => exact ⟨cF0_0, cF0_1⟩
        clear hK K
        try simp only [Act.put, List.setIfInBounds_toArray, List.set_cons_zero, List.set_cons_succ]
        refine wpAnyH_done (by kernel_rfl) ?_ _
        exact HKK.out k3 gx y UX du Q1 dv V10 ⟨FR.out, FX.out, U0.out, HYW.out, HR.out.up (by omega), HD.out, hgx1⟩
     case k33 =>
      go_simp
      obtain ⟨gx, hgx⟩ : ∃ q, q = V6.heap.size := ⟨_, rfl⟩
      rw [← hgx]
      generalize hVa : World.alloc V6 _ = V9
      have bV : Below V6.heap.size V6 V9 := by rw [← hVa]; exact bel_alloc (Below.refl _ _) _
      have nFX : Aside0 (V9.heap[gx]? = some (.cells #[.int .i64 0, .string ⟨#[]⟩, .string ⟨#[]⟩, .slice none 0 0, .slice none 0 0] 28 (0, 0))) := ⟨by rw [← hVa, hgx]; exact blk_new _ _⟩
      clear hVa
      have hgx1 : w.heap.size + 1 < gx := by have := blk_lt FR.out; omega
      have hgx2 : g < gx := by omega
      clear zF0 cF0_0 cF0_1
      replace F0 := Aside0.mk (below_blk F0.out bV)
      replace FR := Aside0.mk (below_blk FR.out bV)
      replace HQ := Aside0.mk (Kd.R_below HQ.out bV)
      replace HR := Aside0.mk (HR.out.below bV)
      replace HD := Aside0.mk (HD.out.below bV)
      have yV9 := HD.out.size
      have FX := nFX
      clear nFX bV hgx
      have zF0 := blk_lt F0.out
      have cF0_0 : V9.cell? ⟨w.heap.size, 0, none⟩ = some (.int .i64 s.f0) := clq F0.out 0 rfl
      have cF0_1 : V9.cell? ⟨w.heap.size, 1, none⟩ = some (.slice (some ⟨gb, 0, none⟩) s.f1.length c0) := clq F0.out 1 rfl
      refine hK.out _ _ ?h39 (fun hHeld => ?j39)
      case h39 => exact ⟨cF0_0, cF0_1⟩
      clear hK K
      try simp only [Act.put, List.setIfInBounds_toArray, List.set_cons_zero, List.set_cons_succ]
      refine rdy (rs := [8]) ?_
      refine rc (fun K hK => ?k40) AllReadyH.nil
      case k40 =>
       obtain ⟨ci, hil, hiM, hic, _⟩ := Kd.R_elem HQ.out zItem (k3 : Int) (by omega) (by omega)
       rw [Int.toNat_natCast] at hiM hic
       have hyw := hs.2.2 (s.f1.getD k3 zItem) (getD_mem _ _ hk3n)
       generalize s.f1.getD k3 zItem = y at hiM hyw
       obtain ⟨v0, v1, rfl, u0, u1⟩ := kItem_openM hiM
       obtain ⟨UX, du, hv⟩ := Kd.R_slice u0
       subst hv
       obtain ⟨Q1, dv, hv⟩ := Kd.R_slice u1
       subst hv
       simp only [show kItem.sz = 5 from rfl] at hic
       have i0_ : V9.cell? ⟨gb, k3 * 5, none⟩ = some (.int .i64 y.f0) := hic 0 _ rfl
       have i1_ : V9.cell? ⟨gb, k3 * 5 + 1, none⟩ = some (.string y.f1.f0) := hic 1 _ rfl
       have i2_ : V9.cell? ⟨gb, k3 * 5 + 2, none⟩ = some (.string y.f1.f1) := hic 2 _ rfl
       have i3_ : V9.cell? ⟨gb, k3 * 5 + 3, none⟩ = some (.slice UX y.f2.length du) := hic 3 _ rfl
       have i4_ : V9.cell? ⟨gb, k3 * 5 + 4, none⟩ = some (.slice Q1 y.f3.length dv) := hic 4 _ rfl
       have U0 : Aside0 (Kd.R kRcpt 55 V9 b (fun _ => True) (.slice UX y.f2.length du) y.f2) := ⟨Kd.R_mono u0 (fun _ _ => trivial)⟩
       have HYW := Lib.hid hyw
       clear hic hiM hil u0 u1 hyw
       go_simp
       refine hK.out _ _ ?h41 (fun hHeld => ?j41)
       case h41 => exact hHeld
       clear hK K
       try simp only [Act.put, List.setIfInBounds_toArray, List.set_cons_zero, List.set_cons_succ]
       refine rdy (rs := [10]) ?_
       refine rc (fun K hK => ?k42) AllReadyH.nil
       case k42 =>
        clear HQ
        have zFX := blk_lt FX.out
        have cFX_0 : V9.cell? ⟨gx, 0, none⟩ = some (.int .i64 0) := clq FX.out 0 rfl
        have dFX_0 := fzq FX.out 0
        have cFX_1 : V9.cell? ⟨gx, 1, none⟩ = some (.string ⟨#[]⟩) := clq FX.out 1 rfl
        have dFX_1 := fzq FX.out 1
        have cFX_2 : V9.cell? ⟨gx, 2, none⟩ = some (.string ⟨#[]⟩) := clq FX.out 2 rfl
        have dFX_2 := fzq FX.out 2
        have cFX_3 : V9.cell? ⟨gx, 3, none⟩ = some (.slice none 0 0) := clq FX.out 3 rfl
        have dFX_3 := fzq FX.out 3
        have cFX_4 : V9.cell? ⟨gx, 4, none⟩ = some (.slice none 0 0) := clq FX.out 4 rfl
        have dFX_4 := fzq FX.out 4
        go_simp
        generalize hWX : World.setCell (World.setCell (World.setCell (World.setCell (World.setCell (V9) _ _) _ _) _ _) _ _) _ _ = V10
        have nFX : V10.heap[gx]? = some (.cells #[.int .i64 y.f0, .string y.f1.f0, .string y.f1.f1, .slice UX y.f2.length du, .slice Q1 y.f3.length dv] 28 (0, 0)) := by rw [← hWX]; have h := blk_set1 (blk_set1 (blk_set1 (blk_set1 (blk_set1 (FX.out) 0 (.int .i64 y.f0)) 1 (.string y.f1.f0)) 2 (.string y.f1.f1)) 3 (.slice UX y.f2.length du)) 4 (.slice Q1 y.f3.length dv); simpa using h
        have hgr := ((((grown_set1 V9 (gx) 0 (.int .i64 y.f0)).trans (grown_set1 _ (gx) 1 (.string y.f1.f0))).trans (grown_set1 _ (gx) 2 (.string y.f1.f1))).trans (grown_set1 _ (gx) 3 (.slice UX y.f2.length du))).trans (grown_set1 _ (gx) 4 (.slice Q1 y.f3.length dv))
        rw [hWX] at hgr
        clear zF0 cF0_0 cF0_1 zFX cFX_0 dFX_0 cFX_1 dFX_1 cFX_2 dFX_2 cFX_3 dFX_3 cFX_4 dFX_4
        have nF0 : V10.heap[w.heap.size]? = some (.cells #[.int .i64 s.f0, .slice (some ⟨gb, 0, none⟩) s.f1.length c0] 43 (0, 0)) := (hgr.block _ (blk_lt F0.out) (fun e => by have e := Option.some.inj e; (try dsimp only at e); omega)).trans F0.out
        have nFR : V10.heap[w.heap.size + 1]? = some (.cells #[.string ⟨#[]⟩, .string ⟨#[]⟩] 24 (0, 0)) := (hgr.block _ (blk_lt FR.out) (fun e => by have e := Option.some.inj e; (try dsimp only at e); omega)).trans FR.out
        have nU0 := R_other U0.out FX.out (by decide) hgr
        have nHR := Rd.grown HR.out hgr (fun q hq => by have := Option.some.inj hq; omega)
        have nHD := Dr.grown HD.out hgr (fun q hq => .inl (by have := Option.some.inj hq; omega))
        clear hWX hgr HR HD F0 FR FX U0
        have F0 := Aside0.mk nF0
        clear nF0
        have FR := Aside0.mk nFR
        clear nFR
        have FX := Aside0.mk nFX
        clear nFX
        have U0 := Aside0.mk nU0
        clear nU0
        have HR := Aside0.mk nHR
        clear nHR
        have HD := Aside0.mk nHD
        clear nHD
        have yV10 := HD.out.size
        have zF0 := blk_lt F0.out
        have cF0_0 : V10.cell? ⟨w.heap.size, 0, none⟩ = some (.int .i64 s.f0) := clq F0.out 0 rfl
        have cF0_1 : V10.cell? ⟨w.heap.size, 1, none⟩ = some (.slice (some ⟨gb, 0, none⟩) s.f1.length c0) := clq F0.out 1 rfl
        refine hK.out _ _ ?h43 (fun hHeld => ?j43)
        case h43 => exact ⟨cF0_0, cF0_1⟩
        clear hK K
        try simp only [Act.put, List.setIfInBounds_toArray, List.set_cons_zero, List.set_cons_succ]
        refine wpAnyH_done (by kernel_rfl) ?_ _
        exact HKK.out k3 gx y UX du Q1 dv V10 ⟨FR.out, FX.out, U0.out, HYW.out, HR.out.up (by omega), HD.out, hgx1⟩
    case k29 =>
     go_simp
     obtain ⟨gx, hgx⟩ : ∃ q, q = V0.heap.size := ⟨_, rfl⟩
     rw [← hgx]
     generalize hVa : World.alloc V0 _ = V9
     have bV : Below V0.heap.size V0 V9 := by rw [← hVa]; exact bel_alloc (Below.refl _ _) _
     have nFX : Aside0 (V9.heap[gx]? = some (.cells #[.int .i64 0, .string ⟨#[]⟩, .string ⟨#[]⟩, .slice none 0 0, .slice none 0 0] 28 (0, 0))) := ⟨by rw [← hVa, hgx]; exact blk_new _ _⟩
     clear hVa
     have hgx1 : w.heap.size + 1 < gx := by have := blk_lt FR.out; omega
     have hgx2 : g < gx := by omega
     clear zF0 cF0_0 cF0_1
     replace F0 := Aside0.mk (below_blk F0.out bV)
     replace FR := Aside0.mk (below_blk FR.out bV)
     replace HQ := Aside0.mk (Kd.R_below HQ.out bV)
     replace HR := Aside0.mk (HR.out.below bV)
     replace HD := Aside0.mk (HD.out.below bV)
     have yV9 := HD.out.size
     have FX := nFX
     clear nFX bV hgx
     have zF0 := blk_lt F0.out
     have cF0_0 : V9.cell? ⟨w.heap.size, 0, none⟩ = some (.int .i64 s.f0) := clq F0.out 0 rfl
     have cF0_1 : V9.cell? ⟨w.heap.size, 1, none⟩ = some (.slice (some ⟨gb, 0, none⟩) s.f1.length c0) := clq F0.out 1 rfl
     refine hK.out _ _ ?h44 (fun hHeld => ?j44)
     case h44 => exact ⟨cF0_0, cF0_1⟩
     clear hK K
     try simp only [Act.put, List.setIfInBounds_toArray, List.set_cons_zero, List.set_cons_succ]
     refine rdy (rs := [6]) ?_
     refine rc (fun K hK => ?k45) AllReadyH.nil
     case k45 =>
      go_simp
      refine Calls.mono (pick_any g _ (s.f1.length : Int) _ HR.out (by omega) (by omega)) ?_
      rintro e V6 ⟨k3, rfl, hk3, hr_, hd_⟩
      clear zF0 cF0_0 cF0_1
      replace F0 := Aside0.mk (hd_.blk F0.out (by omega))
      replace FR := Aside0.mk (hd_.blk FR.out (by omega))
      replace FX := Aside0.mk (hd_.blk FX.out (by omega))
      replace HQ := Aside0.mk (Dr.R hd_ HQ.out hgb)
      replace HR := Aside0.mk hr_
      replace HD := Aside0.mk (Dr.then_ HD.out hd_)
      have yV6 := HD.out.size
      clear hr_ hd_
      have hk3 := hk3 (by omega)
      have hk3n : k3 < s.f1.length := by omega
      have zF0 := blk_lt F0.out
      have cF0_0 : V6.cell? ⟨w.heap.size, 0, none⟩ = some (.int .i64 s.f0) := clq F0.out 0 rfl
      have cF0_1 : V6.cell? ⟨w.heap.size, 1, none⟩ = some (.slice (some ⟨gb, 0, none⟩) s.f1.length c0) := clq F0.out 1 rfl
      refine hK.out _ _ ?h46 (fun hHeld => ?j46)
      case h46 => exact ⟨cF0_0, cF0_1⟩
      clear hK K
      try simp only [Act.put, List.setIfInBounds_toArray, List.set_cons_zero, List.set_cons_succ]
      refine tk 7 ?v47 ?y47 ?r47
      case y47 => intro w_ hSw; (try dsimp only at hSw); go_simp; (try (with_reducible rfl))
      try simp only [Act.put, List.setIfInBounds_toArray, List.set_cons_zero, List.set_cons_succ]
      refine rdy (rs := [8]) ?_
      refine rc (fun K hK => ?k48) AllReadyH.nil
      case k48 =>
       obtain ⟨ci, hil, hiM, hic, _⟩ := Kd.R_elem HQ.out zItem (k3 : Int) (by omega) (by omega)
       rw [Int.toNat_natCast] at hiM hic
       have hyw := hs.2.2 (s.f1.getD k3 zItem) (getD_mem _ _ hk3n)
       generalize s.f1.getD k3 zItem = y at hiM hyw
       obtain ⟨v0, v1, rfl, u0, u1⟩ := kItem_openM hiM
       obtain ⟨UX, du, hv⟩ := Kd.R_slice u0
       subst hv
       obtain ⟨Q1, dv, hv⟩ := Kd.R_slice u1
       subst hv
       simp only [show kItem.sz = 5 from rfl] at hic
       have i0_ : V6.cell? ⟨gb, k3 * 5, none⟩ = some (.int .i64 y.f0) := hic 0 _ rfl
       have i1_ : V6.cell? ⟨gb, k3 * 5 + 1, none⟩ = some (.string y.f1.f0) := hic 1 _ rfl
       have i2_ : V6.cell? ⟨gb, k3 * 5 + 2, none⟩ = some (.string y.f1.f1) := hic 2 _ rfl
       have i3_ : V6.cell? ⟨gb, k3 * 5 + 3, none⟩ = some (.slice UX y.f2.length du) := hic 3 _ rfl
       have i4_ : V6.cell? ⟨gb, k3 * 5 + 4, none⟩ = some (.slice Q1 y.f3.length dv) := hic 4 _ rfl
       have U0 : Aside0 (Kd.R kRcpt 55 V6 b (fun _ => True) (.slice UX y.f2.length du) y.f2) := ⟨Kd.R_mono u0 (fun _ _ => trivial)⟩
       have HYW := Lib.hid hyw
       clear hic hiM hil u0 u1 hyw
       go_simp
       refine hK.out _ _ ?h49 (fun hHeld => ?j49)
       case h49 => exact hHeld
       clear hK K
       try simp only [Act.put, List.setIfInBounds_toArray, List.set_cons_zero, List.set_cons_succ]
       refine rdy (rs := [10]) ?_
       refine rc (fun K hK => ?k50) AllReadyH.nil
       case k50 =>
        clear HQ
        have zFX := blk_lt FX.out
        have cFX_0 : V6.cell? ⟨gx, 0, none⟩ = some (.int .i64 0) := clq FX.out 0 rfl
        have dFX_0 := fzq FX.out 0
        have cFX_1 : V6.cell? ⟨gx, 1, none⟩ = some (.string ⟨#[]⟩) := clq FX.out 1 rfl
        have dFX_1 := fzq FX.out 1
        have cFX_2 : V6.cell? ⟨gx, 2, none⟩ = some (.string ⟨#[]⟩) := clq FX.out 2 rfl
        have dFX_2 := fzq FX.out 2
        have cFX_3 : V6.cell? ⟨gx, 3, none⟩ = some (.slice none 0 0) := clq FX.out 3 rfl
        have dFX_3 := fzq FX.out 3
        have cFX_4 : V6.cell? ⟨gx, 4, none⟩ = some (.slice none 0 0) := clq FX.out 4 rfl
        have dFX_4 := fzq FX.out 4
        go_simp
        generalize hWX : World.setCell (World.setCell (World.setCell (World.setCell (World.setCell (V6) _ _) _ _) _ _) _ _) _ _ = V10
        have nFX : V10.heap[gx]? = some (.cells #[.int .i64 y.f0, .string y.f1.f0, .string y.f1.f1, .slice UX y.f2.length du, .slice Q1 y.f3.length dv] 28 (0, 0)) := by rw [← hWX]; have h := blk_set1 (blk_set1 (blk_set1 (blk_set1 (blk_set1 (FX.out) 0 (.int .i64 y.f0)) 1 (.string y.f1.f0)) 2 (.string y.f1.f1)) 3 (.slice UX y.f2.length du)) 4 (.slice Q1 y.f3.length dv); simpa using h
        have hgr := ((((grown_set1 V6 (gx) 0 (.int .i64 y.f0)).trans (grown_set1 _ (gx) 1 (.string y.f1.f0))).trans (grown_set1 _ (gx) 2 (.string y.f1.f1))).trans (grown_set1 _ (gx) 3 (.slice UX y.f2.length du))).trans (grown_set1 _ (gx) 4 (.slice Q1 y.f3.length dv))
        rw [hWX] at hgr
        clear zF0 cF0_0 cF0_1 zFX cFX_0 dFX_0 cFX_1 dFX_1 cFX_2 dFX_2 cFX_3 dFX_3 cFX_4 dFX_4
        have nF0 : V10.heap[w.heap.size]? = some (.cells #[.int .i64 s.f0, .slice (some ⟨gb, 0, none⟩) s.f1.length c0] 43 (0, 0)) := (hgr.block _ (blk_lt F0.out) (fun e => by have e := Option.some.inj e; (try dsimp only at e); omega)).trans F0.out
        have nFR : V10.heap[w.heap.size + 1]? = some (.cells #[.string ⟨#[]⟩, .string ⟨#[]⟩] 24 (0, 0)) := (hgr.block _ (blk_lt FR.out) (fun e => by have e := Option.some.inj e; (try dsimp only at e); omega)).trans FR.out
        have nU0 := R_other U0.out FX.out (by decide) hgr
        have nHR := Rd.grown HR.out hgr (fun q hq => by have := Option.some.inj hq; omega)
        have nHD := Dr.grown HD.out hgr (fun q hq => .inl (by have := Option.some.inj hq; omega))
        clear hWX hgr HR HD F0 FR FX U0
        have F0 := Aside0.mk nF0
        clear nF0
        have FR := Aside0.mk nFR
        clear nFR
        have FX := Aside0.mk nFX
        clear nFX
        have U0 := Aside0.mk nU0
        clear nU0
        have HR := Aside0.mk nHR
        clear nHR
        have HD := Aside0.mk nHD
        clear nHD
        have yV10 := HD.out.size
        have zF0 := blk_lt F0.out
        have cF0_0 : V10.cell? ⟨w.heap.size, 0, none⟩ = some (.int .i64 s.f0) := clq F0.out 0 rfl
        have cF0_1 : V10.cell? ⟨w.heap.size, 1, none⟩ = some (.slice (some ⟨gb, 0, none⟩) s.f1.length c0) := clq F0.out 1 rfl
        refine hK.out _ _ ?h51 (fun hHeld => ?j51)
        case h51 => exact ⟨cF0_0, cF0_1⟩
        clear hK K
        try simp only [Act.put, List.setIfInBounds_toArray, List.set_cons_zero, List.set_cons_succ]
        refine wpAnyH_done (by kernel_rfl) ?_ _
        exact HKK.out k3 gx y UX du Q1 dv V10 ⟨FR.out, FX.out, U0.out, HYW.out, HR.out.up (by omega), HD.out, hgx1⟩
   case hk =>
    intro k3 gx y UX du Q1 dv V ⟨fR, fX, u0, hyw, hr_, hd_, hgx1⟩
    clear join HQ HR HD F0 FR cF0_0 cF0_1 zF0
    have FR := Aside0.mk fR
    have FX := Aside0.mk fX
    have U0 := Aside0.mk u0
    have HR := Aside0.mk hr_
    have HD := Aside0.mk hd_
    have yV := HD.out.size
    clear fR fX u0 hr_ hd_
    have zFX := blk_lt FX.out
    have cFX_0 : V.cell? ⟨gx, 0, none⟩ = some (.int .i64 y.f0) := clq FX.out 0 rfl
    have cFX_1 : V.cell? ⟨gx, 1, none⟩ = some (.string y.f1.f0) := clq FX.out 1 rfl
    have cFX_2 : V.cell? ⟨gx, 2, none⟩ = some (.string y.f1.f1) := clq FX.out 2 rfl
    have cFX_3 : V.cell? ⟨gx, 3, none⟩ = some (.slice UX y.f2.length du) := clq FX.out 3 rfl
    have cFX_4 : V.cell? ⟨gx, 4, none⟩ = some (.slice Q1 y.f3.length dv) := clq FX.out 4 rfl
    by_cases hl0 : y.f2.length = 0
    ·have hl1 : ((y.f2.length : Int) == 0) = true := by rw [beq_iff_eq]; omega
     clear hl0
     go_wp2_with fail
     refine wp_region_held_drew (S := (fun W => W.cell? ⟨gx, 0, none⟩ = some (.int .i64 y.f0))) (by kernel_rfl) ?s52 (fun hHeld => ?t52)
     case s52 => exact (show (fun W => W.cell? ⟨gx, 0, none⟩ = some (.int .i64 y.f0)) V.drew from cFX_0)
     generalize hV0 : World.drew V = V0 at hHeld ⊢
     have bV : Below V.heap.size V V0 := by rw [← hV0]; exact drew_below0 V
     clear hV0
     clear zFX cFX_0 cFX_1 cFX_2 cFX_3 cFX_4
     replace FR := Aside0.mk (below_blk FR.out bV)
     replace FX := Aside0.mk (below_blk FX.out bV)
     replace U0 := Aside0.mk (Kd.R_below U0.out bV)
     replace HR := Aside0.mk (HR.out.below bV)
     replace HD := Aside0.mk (HD.out.below bV)
     have yV0 := HD.out.size
     clear bV
     have zFX := blk_lt FX.out
     have cFX_0 : V0.cell? ⟨gx, 0, none⟩ = some (.int .i64 y.f0) := clq FX.out 0 rfl
     have cFX_1 : V0.cell? ⟨gx, 1, none⟩ = some (.string y.f1.f0) := clq FX.out 1 rfl
     have cFX_2 : V0.cell? ⟨gx, 2, none⟩ = some (.string y.f1.f1) := clq FX.out 2 rfl
     have cFX_3 : V0.cell? ⟨gx, 3, none⟩ = some (.slice UX y.f2.length du) := clq FX.out 3 rfl
     have cFX_4 : V0.cell? ⟨gx, 4, none⟩ = some (.slice Q1 y.f3.length dv) := clq FX.out 4 rfl
     refine tk 0 ?v53 ?y53 ?r53
     case y53 => intro w_ hSw; (try dsimp only at hSw); go_simp; (try (with_reducible rfl))
     try simp only [Act.put, List.setIfInBounds_toArray, List.set_cons_zero, List.set_cons_succ]
     refine tk 1 ?v54 ?y54 ?r54
     case y54 => intro w_ hSw; (try dsimp only at hSw); go_simp; (try (with_reducible rfl))
     try simp only [Act.put, List.setIfInBounds_toArray, List.set_cons_zero, List.set_cons_succ]
     refine tk 2 ?v55 ?y55 ?r55
     case y55 => intro w_ hSw; (try dsimp only at hSw); go_simp; (try (with_reducible rfl))
     try simp only [Act.put, List.setIfInBounds_toArray, List.set_cons_zero, List.set_cons_succ]
     refine rdy (rs := [3]) ?_
     refine rc (fun K hK => ?k56) AllReadyH.nil
     case k56 =>
      go_simp
      refine Calls.mono (drAddr_any g _ _ HR.out (by omega)) ?_
      rintro e V3 ⟨a, rfl, ha, hr_, hd_⟩
      clear zFX cFX_0 cFX_1 cFX_2 cFX_3 cFX_4
      replace FR := Aside0.mk (hd_.blk FR.out (by omega))
      replace FX := Aside0.mk (hd_.blk FX.out (by omega))
      replace U0 := Aside0.mk (Dr.R hd_ U0.out hgb)
      replace HR := Aside0.mk hr_
      replace HD := Aside0.mk (Dr.then_ HD.out hd_)
      have yV3 := HD.out.size
      clear hr_ hd_
      have zFX := blk_lt FX.out
      have cFX_0 : V3.cell? ⟨gx, 0, none⟩ = some (.int .i64 y.f0) := clq FX.out 0 rfl
      have cFX_1 : V3.cell? ⟨gx, 1, none⟩ = some (.string y.f1.f0) := clq FX.out 1 rfl
      have cFX_2 : V3.cell? ⟨gx, 2, none⟩ = some (.string y.f1.f1) := clq FX.out 2 rfl
      have cFX_3 : V3.cell? ⟨gx, 3, none⟩ = some (.slice UX y.f2.length du) := clq FX.out 3 rfl
      have cFX_4 : V3.cell? ⟨gx, 4, none⟩ = some (.slice Q1 y.f3.length dv) := clq FX.out 4 rfl
      refine hK.out _ _ ?h57 (fun hHeld => ?j57)
      case h57 => exact cFX_0
      clear hK K
      try simp only [Act.put, List.setIfInBounds_toArray, List.set_cons_zero, List.set_cons_succ]
      refine tk 4 ?v58 ?y58 ?r58
      case y58 => intro w_ hSw; (try dsimp only at hSw); go_simp; (try (with_reducible rfl))
      try simp only [Act.put, List.setIfInBounds_toArray, List.set_cons_zero, List.set_cons_succ]
      refine rdy (rs := [5]) ?_
      refine rc (fun K hK => ?k59) AllReadyH.nil
      case k59 =>
       have zFR := blk_lt FR.out
       have cFR_0 : V3.cell? ⟨w.heap.size + 1, 0, none⟩ = some (.string ⟨#[]⟩) := clq FR.out 0 rfl
       have dFR_0 := fzq FR.out 0
       have cFR_1 : V3.cell? ⟨w.heap.size + 1, 1, none⟩ = some (.string ⟨#[]⟩) := clq FR.out 1 rfl
       have dFR_1 := fzq FR.out 1
       go_simp
       generalize hWX : World.setCell (World.setCell (V3) _ _) _ _ = V5
       have nFR : V5.heap[w.heap.size + 1]? = some (.cells #[.string a.f0, .string a.f1] 24 (0, 0)) := by rw [← hWX]; have h := blk_set1 (blk_set1 (FR.out) 0 (.string a.f0)) 1 (.string a.f1); simpa using h
       have hgr := (grown_set1 V3 (w.heap.size + 1) 0 (.string a.f0)).trans (grown_set1 _ (w.heap.size + 1) 1 (.string a.f1))
       rw [hWX] at hgr
       clear zFX cFX_0 cFX_1 cFX_2 cFX_3 cFX_4 zFR cFR_0 dFR_0 cFR_1 dFR_1
       have nFX : V5.heap[gx]? = some (.cells #[.int .i64 y.f0, .string y.f1.f0, .string y.f1.f1, .slice UX y.f2.length du, .slice Q1 y.f3.length dv] 28 (0, 0)) := (hgr.block _ (blk_lt FX.out) (fun e => by have e := Option.some.inj e; (try dsimp only at e); omega)).trans FX.out
       have nU0 := R_other U0.out FR.out (by decide) hgr
       have nHR := Rd.grown HR.out hgr (fun q hq => by have := Option.some.inj hq; omega)
       have nHD := Dr.grown HD.out hgr (fun q hq => .inl (by have := Option.some.inj hq; omega))
       clear hWX hgr HR HD FR FX U0
       have FR := Aside0.mk nFR
       clear nFR
       have FX := Aside0.mk nFX
       clear nFX
       have U0 := Aside0.mk nU0
       clear nU0
       have HR := Aside0.mk nHR
       clear nHR
       have HD := Aside0.mk nHD
       clear nHD
       have yV5 := HD.out.size
       have zFX := blk_lt FX.out
       have cFX_0 : V5.cell? ⟨gx, 0, none⟩ = some (.int .i64 y.f0) := clq FX.out 0 rfl
       have cFX_1 : V5.cell? ⟨gx, 1, none⟩ = some (.string y.f1.f0) := clq FX.out 1 rfl
       have cFX_2 : V5.cell? ⟨gx, 2, none⟩ = some (.string y.f1.f1) := clq FX.out 2 rfl
       have cFX_3 : V5.cell? ⟨gx, 3, none⟩ = some (.slice UX y.f2.length du) := clq FX.out 3 rfl
       have cFX_4 : V5.cell? ⟨gx, 4, none⟩ = some (.slice Q1 y.f3.length dv) := clq FX.out 4 rfl
       refine hK.out _ _ ?h60 (fun hHeld => ?j60)
       case h60 => exact cFX_0
       clear hK K
       try simp only [Act.put, List.setIfInBounds_toArray, List.set_cons_zero, List.set_cons_succ]
       refine wpAnyH_done (by kernel_rfl) ?_ _
       have zFR := blk_lt FR.out
       have cFR_0 : V5.cell? ⟨w.heap.size + 1, 0, none⟩ = some (.string a.f0) := clq FR.out 0 rfl
       have cFR_1 : V5.cell? ⟨w.heap.size + 1, 1, none⟩ = some (.string a.f1) := clq FR.out 1 rfl
       go_wp2
       refine bodyPost_ret (v := .tuple #[.int .i64 y.f0, .agg #[.string a.f0, .string a.f1]]) ?hrE rfl ?hpE
       case hrE => simp [results, Tryd.results46, go_sem, cFR_0, cFR_1]
       case hpE => exact ⟨y.f0, ⟨a.f0, a.f1⟩, rfl, hyw.1, ha, HR.out.up (by omega), HD.out⟩
    ·have hl1 : ¬ (y.f2.length : Int) = 0 := by omega
     have hl2 : ((y.f2.length : Int) == 0) = false := by rw [beq_eq_false_iff_ne]; exact hl1
     have hl4 := hyw.2.2.1.1
     go_wp2_with fail
     refine wp_region_held_drew (S := (fun W => W.cell? ⟨gx, 0, none⟩ = some (.int .i64 y.f0) ∧ W.cell? ⟨gx, 3, none⟩ = some (.slice UX y.f2.length du))) (by kernel_rfl) ?s61 (fun hHeld => ?t61)
     case s61 => exact (show (fun W => W.cell? ⟨gx, 0, none⟩ = some (.int .i64 y.f0) ∧ W.cell? ⟨gx, 3, none⟩ = some (.slice UX y.f2.length du)) V.drew from ⟨cFX_0, cFX_3⟩)
     generalize hV0 : World.drew V = V0 at hHeld ⊢
     have bV : Below V.heap.size V V0 := by rw [← hV0]; exact drew_below0 V
     clear hV0
     clear zFX cFX_0 cFX_1 cFX_2 cFX_3 cFX_4
     replace FR := Aside0.mk (below_blk FR.out bV)
     replace FX := Aside0.mk (below_blk FX.out bV)
     replace U0 := Aside0.mk (Kd.R_below U0.out bV)
     replace HR := Aside0.mk (HR.out.below bV)
     replace HD := Aside0.mk (HD.out.below bV)
     have yV0 := HD.out.size
     clear bV
     have zFX := blk_lt FX.out
     have cFX_0 : V0.cell? ⟨gx, 0, none⟩ = some (.int .i64 y.f0) := clq FX.out 0 rfl
     have cFX_1 : V0.cell? ⟨gx, 1, none⟩ = some (.string y.f1.f0) := clq FX.out 1 rfl
     have cFX_2 : V0.cell? ⟨gx, 2, none⟩ = some (.string y.f1.f1) := clq FX.out 2 rfl
     have cFX_3 : V0.cell? ⟨gx, 3, none⟩ = some (.slice UX y.f2.length du) := clq FX.out 3 rfl
     have cFX_4 : V0.cell? ⟨gx, 4, none⟩ = some (.slice Q1 y.f3.length dv) := clq FX.out 4 rfl
     refine tk 0 ?v62 ?y62 ?r62
     case y62 => intro w_ hSw; (try dsimp only at hSw); go_simp; (try (with_reducible rfl))
     try simp only [Act.put, List.setIfInBounds_toArray, List.set_cons_zero, List.set_cons_succ]
     refine tk 1 ?v63 ?y63 ?r63
     case y63 => intro w_ hSw; (try dsimp only at hSw); go_simp; (try (with_reducible rfl))
     try simp only [Act.put, List.setIfInBounds_toArray, List.set_cons_zero, List.set_cons_succ]
     refine tk 2 ?v64 ?y64 ?r64
     case y64 => intro w_ hSw; (try dsimp only at hSw); go_simp; (try (with_reducible rfl))
     try simp only [Act.put, List.setIfInBounds_toArray, List.set_cons_zero, List.set_cons_succ]
     refine tk 3 ?v65 ?y65 ?r65
     case y65 => intro w_ hSw; (try dsimp only at hSw); go_simp; (try (with_reducible rfl))
     try simp only [Act.put, List.setIfInBounds_toArray, List.set_cons_zero, List.set_cons_succ]
     refine tk 4 ?v66 ?y66 ?r66
     case y66 => intro w_ hSw; (try dsimp only at hSw); go_simp; (try (with_reducible rfl))
     try simp only [Act.put, List.setIfInBounds_toArray, List.set_cons_zero, List.set_cons_succ]
     refine tk 5 ?v67 ?y67 ?r67
     case y67 => intro w_ hSw; (try dsimp only at hSw); go_simp; (try (with_reducible rfl))
     try simp only [Act.put, List.setIfInBounds_toArray, List.set_cons_zero, List.set_cons_succ]
     refine tk 6 ?v68 ?y68 ?r68
     case y68 => intro w_ hSw; (try dsimp only at hSw); go_simp; (try (with_reducible rfl))
     try simp only [Act.put, List.setIfInBounds_toArray, List.set_cons_zero, List.set_cons_succ]
     refine tk 7 ?v69 ?y69 ?r69
     case y69 => intro w_ hSw; (try dsimp only at hSw); go_simp; (try (with_reducible rfl))
     try simp only [Act.put, List.setIfInBounds_toArray, List.set_cons_zero, List.set_cons_succ]
     refine rdy (rs := [8]) ?_
     refine rc (fun K hK => ?k70) AllReadyH.nil
     case k70 =>
      go_simp
      refine Calls.mono (pick_any g _ (y.f2.length : Int) _ HR.out (by omega) (by omega)) ?_
      rintro e V8 ⟨k5, rfl, hk5, hr_, hd_⟩
      clear zFX cFX_0 cFX_1 cFX_2 cFX_3 cFX_4
      replace FR := Aside0.mk (hd_.blk FR.out (by omega))
      replace FX := Aside0.mk (hd_.blk FX.out (by omega))
      replace U0 := Aside0.mk (Dr.R hd_ U0.out hgb)
      replace HR := Aside0.mk hr_
      replace HD := Aside0.mk (Dr.then_ HD.out hd_)
      have yV8 := HD.out.size
      clear hr_ hd_
      have hk5 := hk5 (by omega)
      have hk5n : k5 < y.f2.length := by omega
      have hk5' : (k5 : Int) < (y.f2.length : Int) := by omega
      have zFX := blk_lt FX.out
      have cFX_0 : V8.cell? ⟨gx, 0, none⟩ = some (.int .i64 y.f0) := clq FX.out 0 rfl
      have cFX_1 : V8.cell? ⟨gx, 1, none⟩ = some (.string y.f1.f0) := clq FX.out 1 rfl
      have cFX_2 : V8.cell? ⟨gx, 2, none⟩ = some (.string y.f1.f1) := clq FX.out 2 rfl
      have cFX_3 : V8.cell? ⟨gx, 3, none⟩ = some (.slice UX y.f2.length du) := clq FX.out 3 rfl
      have cFX_4 : V8.cell? ⟨gx, 4, none⟩ = some (.slice Q1 y.f3.length dv) := clq FX.out 4 rfl
      obtain ⟨ad, e1, p0, p1, p2, p3⟩ := at_Rcpt (Kd.R_reads' U0.out).2.2 k5 hk5n
      have hrw := hyw.2.2.1.2 (y.f2.getD k5 zRcpt) (getD_mem _ _ hk5n)
      generalize y.f2.getD k5 zRcpt = z at p0 p1 p2 p3 hrw
      subst e1
      skip
      refine hK.out _ _ ?h71 (fun hHeld => ?j71)
      case h71 => exact ⟨cFX_0, cFX_3⟩
      clear hK K
      try simp only [Act.put, List.setIfInBounds_toArray, List.set_cons_zero, List.set_cons_succ]
      refine tk 9 ?v72 ?y72 ?r72
      case y72 => intro w_ hSw; (try dsimp only at hSw); go_simp; (try (with_reducible rfl))
      try simp only [Act.put, List.setIfInBounds_toArray, List.set_cons_zero, List.set_cons_succ]
      refine tk 10 ?v73 ?y73 ?r73
      case y73 => intro w_ hSw; (try dsimp only at hSw); go_simp; (try (with_reducible rfl))
      try simp only [Act.put, List.setIfInBounds_toArray, List.set_cons_zero, List.set_cons_succ]
      refine tk 12 ?v74 ?y74 ?r74
      case y74 => intro w_ hSw; (try dsimp only at hSw); go_simp; (try (with_reducible rfl))
      try simp only [Act.put, List.setIfInBounds_toArray, List.set_cons_zero, List.set_cons_succ]
      refine rdy (rs := [11]) ?_
      refine rc (fun K hK => ?k75) AllReadyH.nil
      case k75 =>
       skip
       go_simp
       refine hK.out _ _ ?h76 (fun hHeld => ?j76)
       case h76 => exact hHeld
       clear hK K
       try simp only [Act.put, List.setIfInBounds_toArray, List.set_cons_zero, List.set_cons_succ]
       refine rdy (rs := [13]) ?_
       refine rc (fun K hK => ?k77) AllReadyH.nil
       case k77 =>
        clear p0 p1 p2 p3
        have zFR := blk_lt FR.out
        have cFR_0 : V8.cell? ⟨w.heap.size + 1, 0, none⟩ = some (.string ⟨#[]⟩) := clq FR.out 0 rfl
        have dFR_0 := fzq FR.out 0
        have cFR_1 : V8.cell? ⟨w.heap.size + 1, 1, none⟩ = some (.string ⟨#[]⟩) := clq FR.out 1 rfl
        have dFR_1 := fzq FR.out 1
        go_simp
        generalize hWX : World.setCell (World.setCell (V8) _ _) _ _ = V5
        have nFR : V5.heap[w.heap.size + 1]? = some (.cells #[.string z.f0.f0, .string z.f0.f1] 24 (0, 0)) := by rw [← hWX]; have h := blk_set1 (blk_set1 (FR.out) 0 (.string z.f0.f0)) 1 (.string z.f0.f1); simpa using h
        have hgr := (grown_set1 V8 (w.heap.size + 1) 0 (.string z.f0.f0)).trans (grown_set1 _ (w.heap.size + 1) 1 (.string z.f0.f1))
        rw [hWX] at hgr
        clear zFX cFX_0 cFX_1 cFX_2 cFX_3 cFX_4 zFR cFR_0 dFR_0 cFR_1 dFR_1
        have nFX : V5.heap[gx]? = some (.cells #[.int .i64 y.f0, .string y.f1.f0, .string y.f1.f1, .slice (some ad) y.f2.length du, .slice Q1 y.f3.length dv] 28 (0, 0)) := (hgr.block _ (blk_lt FX.out) (fun e => by have e := Option.some.inj e; (try dsimp only at e); omega)).trans FX.out
        have nU0 := R_other U0.out FR.out (by decide) hgr
        have nHR := Rd.grown HR.out hgr (fun q hq => by have := Option.some.inj hq; omega)
        have nHD := Dr.grown HD.out hgr (fun q hq => .inl (by have := Option.some.inj hq; omega))
        clear hWX hgr HR HD FR FX U0
        have FR := Aside0.mk nFR
        clear nFR
        have FX := Aside0.mk nFX
        clear nFX
        have U0 := Aside0.mk nU0
        clear nU0
        have HR := Aside0.mk nHR
        clear nHR
        have HD := Aside0.mk nHD
        clear nHD
        have yV5 := HD.out.size
        have zFX := blk_lt FX.out
        have cFX_0 : V5.cell? ⟨gx, 0, none⟩ = some (.int .i64 y.f0) := clq FX.out 0 rfl
        have cFX_1 : V5.cell? ⟨gx, 1, none⟩ = some (.string y.f1.f0) := clq FX.out 1 rfl
        have cFX_2 : V5.cell? ⟨gx, 2, none⟩ = some (.string y.f1.f1) := clq FX.out 2 rfl
        have cFX_3 : V5.cell? ⟨gx, 3, none⟩ = some (.slice (some ad) y.f2.length du) := clq FX.out 3 rfl
        have cFX_4 : V5.cell? ⟨gx, 4, none⟩ = some (.slice Q1 y.f3.length dv) := clq FX.out 4 rfl
        refine hK.out _ _ ?h78 (fun hHeld => ?j78)
        case h78 => exact ⟨cFX_0, cFX_3⟩
        clear hK K
        try simp only [Act.put, List.setIfInBounds_toArray, List.set_cons_zero, List.set_cons_succ]
        refine wpAnyH_done (by kernel_rfl) ?_ _
        have zFR := blk_lt FR.out
        have cFR_0 : V5.cell? ⟨w.heap.size + 1, 0, none⟩ = some (.string z.f0.f0) := clq FR.out 0 rfl
        have cFR_1 : V5.cell? ⟨w.heap.size + 1, 1, none⟩ = some (.string z.f0.f1) := clq FR.out 1 rfl
        go_wp2
        refine bodyPost_ret (v := .tuple #[.int .i64 y.f0, .agg #[.string z.f0.f0, .string z.f0.f1]]) ?hrF rfl ?hpF
        case hrF => simp [results, Tryd.results46, go_sem, cFR_0, cFR_1]
        case hpF => exact ⟨y.f0, ⟨z.f0.f0, z.f0.f1⟩, rfl, hyw.1, hrw.1, HR.out.up (by omega), HD.out⟩
 ·have hn2 : ((s.f1.length : Int) == 0) = true := by rw [beq_iff_eq]; omega
  clear hn0
  go_wp2_with fail
  obtain ⟨W0, hW0⟩ : ∃ W, W = (w.alloc (.cells #[.int .i64 s.f0, .slice A0 s.f1.length c0] 43)).alloc (.cells #[.string ⟨#[]⟩, .string ⟨#[]⟩] 24) := ⟨_, rfl⟩
  rw [← hW0]
  have b0 : Below w.heap.size w W0 := by rw [hW0]; exact bel_alloc (bel_alloc (Below.refl _ _) _) _
  have F0 : Aside0 (W0.heap[w.heap.size]? = some (.cells #[.int .i64 s.f0, .slice A0 s.f1.length c0] 43 (0, 0))) := ⟨by rw [hW0]; exact blk_alloc (blk_new _ _) _⟩
  have FR : Aside0 (W0.heap[w.heap.size + 1]? = some (.cells #[.string ⟨#[]⟩, .string ⟨#[]⟩] 24 (0, 0))) := ⟨by rw [hW0]; exact blk_at _ _ (by simp)⟩
  clear hW0
  replace HR := Aside0.mk (HR.out.below b0)
  replace HD := Aside0.mk (HD.out.below b0)
  have yW0 : w.heap.size + 2 ≤ W0.heap.size := blk_lt FR.out
  replace HQ := Aside0.mk (Kd.R_below HQ.out b0)
  clear b0
  refine Calls.mono (pick_any g _ 4 _ HR.out (by omega) (by omega)) ?_
  rintro e wA ⟨k9, rfl, hk9, hr_, hd_⟩
  replace F0 := Aside0.mk (hd_.blk F0.out (by omega))
  replace FR := Aside0.mk (hd_.blk FR.out (by omega))
  replace HQ := Aside0.mk (Dr.R hd_ HQ.out hgb)
  replace HR := Aside0.mk hr_
  replace HD := Aside0.mk (Dr.then_ HD.out hd_)
  have ywA := HD.out.size
  clear hr_ hd_
  have zFR := blk_lt FR.out
  have cFR_0 : wA.cell? ⟨w.heap.size + 1, 0, none⟩ = some (.string ⟨#[]⟩) := clq FR.out 0 rfl
  have cFR_1 : wA.cell? ⟨w.heap.size + 1, 1, none⟩ = some (.string ⟨#[]⟩) := clq FR.out 1 rfl
  have hk9 := hk9 (by omega)
  go_wp2_with fail
  refine Calls.mono (drAddr_any g _ _ HR.out (by omega)) ?_
  rintro e wB ⟨a, rfl, ha, hr_, hd_⟩
  clear zFR cFR_0 cFR_1
  replace F0 := Aside0.mk (hd_.blk F0.out (by omega))
  replace FR := Aside0.mk (hd_.blk FR.out (by omega))
  replace HQ := Aside0.mk (Dr.R hd_ HQ.out hgb)
  replace HR := Aside0.mk hr_
  replace HD := Aside0.mk (Dr.then_ HD.out hd_)
  have ywB := HD.out.size
  clear hr_ hd_
  have zFR := blk_lt FR.out
  have cFR_0 : wB.cell? ⟨w.heap.size + 1, 0, none⟩ = some (.string ⟨#[]⟩) := clq FR.out 0 rfl
  have dFR_0 := fzq FR.out 0
  have cFR_1 : wB.cell? ⟨w.heap.size + 1, 1, none⟩ = some (.string ⟨#[]⟩) := clq FR.out 1 rfl
  have dFR_1 := fzq FR.out 1
  go_wp2
  refine bodyPost_ret (v := .tuple #[.int .i64 (k9 : Int), .agg #[.string a.f0, .string a.f1]]) ?hrN rfl ?hpN
  case hrN => simp [results, Tryd.results46, go_sem, zFR, cFR_0, dFR_0, cFR_1, dFR_1]
  case hpN => exact ⟨(k9 : Int), ⟨a.f0, a.f1⟩, rfl, ⟨by omega, by omega⟩, ha, (Rd.grown HR.out ((grown_set1 _ (w.heap.size + 1) 0 _).trans (grown_set1 _ _ 1 _)) (fun q hq => by have := Option.some.inj hq; omega)).up (by omega), Dr.grown HD.out ((grown_set1 _ (w.heap.size + 1) 0 _).trans (grown_set1 _ _ 1 _)) (fun q hq => .inl (by have := Option.some.inj hq; omega))⟩

end Go.Proofs.YtiaibgkpohmihaaDoor
