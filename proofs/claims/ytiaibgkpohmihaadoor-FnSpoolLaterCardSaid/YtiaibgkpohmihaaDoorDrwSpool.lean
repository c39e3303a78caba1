/- Drawn spools: a weak contract. -/
import Derived.Test.YtiaibgkpohmihaaDoorReg
import Derived.Test.YtiaibgkpohmihaaDoorCpLater
import Derived.Test.YtiaibgkpohmihaaDoorDrw0
import Derived.Deep.RegionHeld3
namespace Go.Proofs.YtiaibgkpohmihaaDoor
open Go.RowKit Go.Proofs.YtiaibgkpohmihaaDoorW.PrintWords
set_option linter.unusedVariables false
set_option linter.unusedSimpArgs false

def goodR (r : SRcpt) : Prop := smallA r.f0 ∧ (0 ≤ r.f1 ∧ r.f1 ≤ 3) ∧ (0 ≤ r.f2 ∧ r.f2 ≤ 100000)
def goodI (x : SItem) : Prop := (0 ≤ x.f0 ∧ x.f0 ≤ 1000) ∧ smallA x.f1 ∧ (0 < x.f2.length ∧ x.f2.length ≤ 4 ∧ ∀ r ∈ x.f2, goodR r) ∧ smallB x.f3
theorem goodI_fit {x : SItem} (h : goodI x) : fitItem x := by
 obtain ⟨⟨a0, a1⟩, ⟨a2, a3⟩, ⟨b0, b1, b2⟩, c0, c1⟩ := h
 exact ⟨WalkArith.wf_i64 (by omega), ⟨by omega, by omega⟩, ⟨by omega, fun r hr => by
  obtain ⟨⟨d0, d1⟩, ⟨d2, d3⟩, d4, d5⟩ := b2 r hr
  exact ⟨⟨by omega, by omega⟩, WalkArith.wf_i64 (by omega), WalkArith.wf_i64 (by omega)⟩⟩, by omega, fun y hy => by have := c1 y hy; omega⟩
theorem fit_spool {la : Int} {xs : List SItem} (hl : -1000000000 ≤ la ∧ la ≤ 1000000000) (hn : xs.length ≤ 100) (hx : ∀ x ∈ xs, goodI x) : fitSpool ⟨la, xs⟩ := ⟨WalkArith.wf_i64 (by dsimp only; omega), by show xs.length ≤ _; omega, fun x hm => goodI_fit (hx x hm)⟩
theorem good_new {la : Int} {xs : List SItem} {m : SMail} {now : Int} (hl : 0 ≤ la ∧ la ≤ 900) (hn : 0 ≤ now ∧ now ≤ 100000) (hx : ∀ x ∈ xs, goodI x) (hm : smallM m) : ∀ x ∈ xs ++ [newItem ⟨la, xs⟩ m now], goodI x := by
 intro x hxm
 rcases List.mem_append.1 hxm with h | h
 ·exact hx x h
 ·obtain rfl := List.mem_singleton.1 h
  obtain ⟨h1, ⟨h2, h3, h4⟩, h5⟩ := hm
  refine ⟨⟨by show 0 ≤ la + 1; omega, by show la + 1 ≤ 1000; omega⟩, h1, ⟨by show 0 < (m.f1.map _).length; rw [List.length_map]; exact h2, by show (m.f1.map _).length ≤ 4; rw [List.length_map]; exact h3, fun r hr => ?_⟩, h5⟩
  obtain ⟨a, ha, rfl⟩ := List.mem_map.1 hr
  exact ⟨h4 a ha, ⟨by show (0:Int) ≤ 0; omega, by show (0:Int) ≤ 3; omega⟩, hn⟩
theorem done_le {xs : List SItem} {a k : Nat} (ha : a < xs.length) : (doneL xs a k).length ≤ xs.length := by
 unfold doneL
 rw [List.length_append, List.length_append, List.length_take, List.length_drop]
 split <;> simp <;> omega
theorem good_done {xs : List SItem} {a k : Nat} (ha : a < xs.length) (hk : k < (xs.getD a zItem).f2.length) (hx : ∀ x ∈ xs, goodI x) : ∀ x ∈ doneL xs a k, goodI x := by
 intro x hxm
 unfold doneL at hxm
 have hy := hx _ (getD_mem xs zItem ha)
 generalize xs.getD a zItem = y at hxm hy hk
 rcases List.mem_append.1 hxm with h | h
 ·rcases List.mem_append.1 h with h | h
  ·exact hx x (List.mem_of_mem_take h)
  ·split at h
   ·rename_i h0
    obtain rfl := List.mem_singleton.1 h
    obtain ⟨g0, g1, ⟨g2, g3, g4⟩, g5⟩ := hy
    refine ⟨g0, g1, ⟨h0, ?_, fun r hr => ?_⟩, g5⟩
    ·show (y.f2.take k ++ y.f2.drop (k + 1)).length ≤ 4
     rw [List.length_append, List.length_take, List.length_drop]; omega
    ·have hr' : r ∈ y.f2.take k ++ y.f2.drop (k + 1) := hr
     rcases List.mem_append.1 hr' with h | h
     ·exact g4 r (List.mem_of_mem_take h)
     ·exact g4 r (List.mem_of_mem_drop h)
   ·cases h
 ·exact hx x (List.mem_of_mem_drop h)
theorem good_later {xs : List SItem} {a k : Nat} {now : Int} (ha : a < xs.length) (hk : k < (xs.getD a zItem).f2.length) (hn : 0 ≤ now) (hno : ¬ laterNo ((xs.getD a zItem).f2.getD k zRcpt) now) (hx : ∀ x ∈ xs, goodI x) : ∀ x ∈ laterL xs a k now, goodI x := by
 intro x hxm
 unfold laterL at hxm
 have hy := hx _ (getD_mem xs zItem ha)
 generalize xs.getD a zItem = y at hxm hy hk hno
 rcases List.mem_or_eq_of_mem_set hxm with h | h
 ·exact hx x h
 ·subst h
  obtain ⟨g0, g1, ⟨g2, g3, g4⟩, g5⟩ := hy
  refine ⟨g0, g1, ⟨by show 0 < (y.f2.set _ _).length; rw [List.length_set]; exact g2, by show (y.f2.set _ _).length ≤ 4; rw [List.length_set]; exact g3, fun r hr => ?_⟩, g5⟩
  rcases List.mem_or_eq_of_mem_set hr with h | h
  ·exact g4 r h
  ·subst h
   have hz := g4 _ (getD_mem y.f2 zRcpt hk)
   generalize y.f2.getD k zRcpt = z at hz hno
   unfold laterNo at hno
   have hp := pow_le (z.f1 + 1) (by have := hz.2.1.1; omega) (by omega)
   exact ⟨hz.1, ⟨by show 0 ≤ z.f1 + 1; have := hz.2.1.1; omega, by show z.f1 + 1 ≤ 3; omega⟩, ⟨by show 0 ≤ now + _; omega, by show now + _ ≤ 100000; omega⟩⟩
set_option maxRecDepth 100000 in
theorem specRoom_any (la : Int) (A : Option Addr) (n c : Nat) (w : World) (h1 : n < 10) (h2 : la < 999) :
  Calls Tryd.prog 86 #[.agg #[.int .i64 la, .slice A n c]] w fun e w' => e = .returned (.bool true) ∧ Below w.heap.size w w' := by
 have h1' : (n : Int) < 10 := by omega
 go_enter Tryd.func86, Tryd.ntmps86
 go_wp2
 go_ret
 exact ⟨rfl, bel_alloc (Below.refl _ _) _⟩
set_option maxRecDepth 100000 in
set_option maxHeartbeats 8000000 in
theorem drSpool_any (g m : Nat) (w : World) (h : Rd g m w) (hm : m + 1100 ≤ 1000000000) :
  Calls Tryd.prog 61 #[.pointer (some ⟨g, 0, none⟩)] w fun e w' => ∃ (s : SSpool) (B : Option Addr) (d : Nat), e = .returned (.agg #[.int .i64 s.f0, .slice B s.f1.length d]) ∧ ((0 ≤ s.f0 ∧ s.f0 ≤ 10) ∧ s.f1.length ≤ 8 ∧ ∀ x ∈ s.f1, goodI x) ∧ Kd.S kItem 28 w' w.heap.size (fun _ => True) (.slice B s.f1.length d) s.f1 ∧ Rd g (m + 1100) w' ∧ Dr g w w' := by
 have HR := Aside0.mk h
 have HD := Aside0.mk (Dr.refl g w)
 have hgl := h.lt
 have ng0 : ¬ w.heap.size = g := by omega
 have ng1 : ¬ w.heap.size + 1 = g := by omega
 have ng2 : ¬ w.heap.size + 2 = g := by omega
 clear h
 go_enter Tryd.func61, Tryd.ntmps61
 go_wp2_with fail
 obtain ⟨W0, hW0⟩ : ∃ W, W = ((w.alloc (.cells #[.int .i64 0, .slice none 0 0] 43)).alloc (.cells #[.int .i64 0, .slice none 0 0] 43)) := ⟨_, rfl⟩
 rw [← hW0]
 have F2 : Aside0 (W0.heap[w.heap.size]? = some (.cells #[.int .i64 0, .slice none 0 0] 43 (0, 0))) := ⟨by rw [hW0]; exact blk_alloc (blk_new _ _) _⟩
 have F1 : Aside0 (W0.heap[w.heap.size + 1]? = some (.cells #[.int .i64 0, .slice none 0 0] 43 (0, 0))) := ⟨by rw [hW0]; exact blk_at _ _ (by simp)⟩
 have HO : Aside0 (Kd.R kItem 28 W0 w.heap.size (fun _ => True) (.slice none 0 0) []) := ⟨Kd.R_nil _ _ _ _ _⟩
 replace HR := Aside0.mk (by rw [hW0]; exact (HR.out.alloc _).alloc _ : Rd g m W0)
 replace HD := Aside0.mk (by rw [hW0]; exact (HD.out.alloc _).alloc _ : Dr g w W0)
 clear hW0
 refine Calls.mono (pick_any g _ 9 _ HR.out (by omega) (by omega)) ?_
 rintro e w0 ⟨k0, rfl, hk0, hr_, hd_⟩
 replace F1 := Aside0.mk (hd_.blk F1.out (by omega))
 replace F2 := Aside0.mk (hd_.blk F2.out (by omega))
 replace HO := Aside0.mk (hd_.R HO.out hgl)
 replace HR := Aside0.mk hr_
 replace HD := Aside0.mk (Dr.then_ HD.out hd_)
 have yw0 := HD.out.size
 clear hr_ hd_
 have hk0 := hk0 (by omega)
 go_wp2
 go_loopg [4, 5, 6, 7, 8, 9] 9 (fun gq v4 v5 _ _ _ _ wr => ∃ (kk : Nat) (nw la : Int) (xs : List SItem) (A : Option Addr) (c : Nat), kk ≤ gq ∧ kk ≤ 8 ∧ v5 = .int .i64 (kk : Int) ∧ v4 = .int .i64 nw ∧ (0 ≤ nw ∧ nw ≤ 100 * (9 - (kk : Int))) ∧ (0 ≤ la ∧ la ≤ 10 - (kk : Int)) ∧ xs.length ≤ 8 - kk ∧ Aside0 (∀ x ∈ xs, goodI x) ∧ Aside0 (wr.heap[w.heap.size + 1]? = some (.cells #[.int .i64 la, .slice A xs.length c] 43 (0, 0))) ∧ Aside0 (wr.heap[w.heap.size]? = some (.cells #[.int .i64 0, .slice none 0 0] 43 (0, 0))) ∧ Aside0 (Kd.R kItem 28 wr w.heap.size (fun _ => True) (.slice A xs.length c) xs) ∧ Aside0 (Rd g (m + 1 + 130 * (8 - kk)) wr) ∧ Aside0 (Dr g w wr))
 case atStart => exact ⟨k0, 0, 0, [], none, 0, by omega, by omega, rfl, rfl, by omega, by omega, by simp, ⟨fun x hx => by cases hx⟩, F1, F2, HO, ⟨HR.out.up (by omega)⟩, HD⟩
 case round =>
  clear F1 F2 HO HR HD
  obtain ⟨kk, nw, la, xs, A, c, hkg, hk8, rfl, rfl, hnw, hla, hxl, HX, F1, F2, HO, HR, HD⟩ := hrel
  have ywr := HD.out.size
  have cF1_0 : wr.cell? ⟨w.heap.size + 1, 0, none⟩ = some (.int .i64 la) := clq F1.out 0 rfl
  have cF1_1 : wr.cell? ⟨w.heap.size + 1, 1, none⟩ = some (.slice A xs.length c) := clq F1.out 1 rfl
  have dF1_0 := fzq F1.out 0
  have dF1_1 := fzq F1.out 1
  have zF1 := blk_lt F1.out
  by_cases hlt : 0 < kk
  ·have hlt' : (0 : Int) < (kk : Int) := by omega
   go_wp2_with fail
   refine Calls.mono (pick_any g _ 5 _ HR.out (by omega) (by omega)) ?_
   rintro e w1 ⟨k1, rfl, hk1, hr_, hd_⟩
   clear cF1_0 cF1_1 dF1_0 dF1_1 zF1
   replace F1 := Aside0.mk (hd_.blk F1.out (by omega))
   replace F2 := Aside0.mk (hd_.blk F2.out (by omega))
   replace HO := Aside0.mk (hd_.R HO.out hgl)
   replace HR := Aside0.mk hr_
   replace HD := Aside0.mk (Dr.then_ HD.out hd_)
   have yw1 := HD.out.size
   clear hr_ hd_
   have hk1 := hk1 (by omega)
   have hwn : IntKind.i64.wrap (nw + (k1 : Int)) = nw + (k1 : Int) := IntWalk.i64_in _ (by omega)
   have cF1_0 : w1.cell? ⟨w.heap.size + 1, 0, none⟩ = some (.int .i64 la) := clq F1.out 0 rfl
   have cF1_1 : w1.cell? ⟨w.heap.size + 1, 1, none⟩ = some (.slice A xs.length c) := clq F1.out 1 rfl
   have dF1_0 := fzq F1.out 0
   have dF1_1 := fzq F1.out 1
   have zF1 := blk_lt F1.out
   by_cases hx0 : xs.length = 0
   ·have hx0' : ((xs.length : Int) == 0) = true := by simp [hx0]
    have HX0 := Lib.hid hx0
    clear hx0
    go_wp2_with fail
    refine Calls.mono (specRoom_any la A xs.length c _ (by omega) (by omega)) ?_
    rintro e wA ⟨rfl, bA⟩
    clear cF1_0 cF1_1 dF1_0 dF1_1 zF1
    replace F1 := Aside0.mk (below_blk F1.out bA)
    replace F2 := Aside0.mk (below_blk F2.out bA)
    replace HO := Aside0.mk (Kd.R_below HO.out bA)
    replace HR := Aside0.mk (HR.out.below bA)
    replace HD := Aside0.mk (HD.out.below bA)
    have ywA := HD.out.size
    clear bA
    have cF1_0 : wA.cell? ⟨w.heap.size + 1, 0, none⟩ = some (.int .i64 la) := clq F1.out 0 rfl
    have cF1_1 : wA.cell? ⟨w.heap.size + 1, 1, none⟩ = some (.slice A xs.length c) := clq F1.out 1 rfl
    have dF1_0 := fzq F1.out 0
    have dF1_1 := fzq F1.out 1
    have zF1 := blk_lt F1.out
    go_wp2
    refine wp_region_held_drew (S := (fun _ => True)) (by kernel_rfl) ?s305 (fun hHeld => ?t305)
    case s305 => exact trivial
    generalize hV0 : World.drew wA = V0
    have bV : Below wA.heap.size wA V0 := by rw [← hV0]; exact drew_below0 wA
    clear hV0
    clear cF1_0 cF1_1 dF1_0 dF1_1 zF1
    replace F1 := Aside0.mk (below_blk F1.out bV)
    replace F2 := Aside0.mk (below_blk F2.out bV)
    replace HO := Aside0.mk (Kd.R_below HO.out bV)
    replace HR := Aside0.mk (HR.out.below bV)
    replace HD := Aside0.mk (HD.out.below bV)
    have yV0 := HD.out.size
    clear bV
    have cF1_0 : V0.cell? ⟨w.heap.size + 1, 0, none⟩ = some (.int .i64 la) := clq F1.out 0 rfl
    have cF1_1 : V0.cell? ⟨w.heap.size + 1, 1, none⟩ = some (.slice A xs.length c) := clq F1.out 1 rfl
    have dF1_0 := fzq F1.out 0
    have dF1_1 := fzq F1.out 1
    have zF1 := blk_lt F1.out
    refine tk 1 ?v306 ?y306 ?r306
    case y306 => intro w_ hSw; (try dsimp only at hSw); go_simp; (try (with_reducible rfl))
    try simp only [Act.put, List.setIfInBounds_toArray, List.set_cons_zero, List.set_cons_succ]
    refine tk 3 ?v307 ?y307 ?r307
    case y307 => intro w_ hSw; (try dsimp only at hSw); go_simp; (try (with_reducible rfl))
    try simp only [Act.put, List.setIfInBounds_toArray, List.set_cons_zero, List.set_cons_succ]
    refine rdy (rs := [0, 2]) ?_
    refine rc (fun K hK => ?k308) (rc (fun K hK => ?k309) AllReadyH.nil)
    case k308 =>
     go_simp
     refine hK.out _ _ ?h310 (fun hHeld => ?j310)
     case h310 => exact hHeld
     clear hK K
     try simp only [Act.put, List.setIfInBounds_toArray, List.set_cons_zero, List.set_cons_succ]
     refine rdy (rs := [2]) ?_
     refine rc (fun K hK => ?k311) AllReadyH.nil
     case k311 =>
      go_simp
      refine Calls.mono (drMail_any g _ V0 HR.out (by omega)) ?_
      rintro e V2 ⟨x, A0, c0, A1, c1, rfl, hm, r0, r1, hr_, hd_⟩
      clear cF1_0 cF1_1 dF1_0 dF1_1 zF1
      replace F1 := Aside0.mk (hd_.blk F1.out (by omega))
      replace F2 := Aside0.mk (hd_.blk F2.out (by omega))
      replace HO := Aside0.mk (hd_.R HO.out hgl)
      replace HR := Aside0.mk hr_
      replace HD := Aside0.mk (Dr.then_ HD.out hd_)
      have yV2 := HD.out.size
      clear hr_ hd_
      have cF1_0 : V2.cell? ⟨w.heap.size + 1, 0, none⟩ = some (.int .i64 la) := clq F1.out 0 rfl
      have cF1_1 : V2.cell? ⟨w.heap.size + 1, 1, none⟩ = some (.slice A xs.length c) := clq F1.out 1 rfl
      have dF1_0 := fzq F1.out 0
      have dF1_1 := fzq F1.out 1
      have zF1 := blk_lt F1.out
      have R0 := Aside0.mk r0
      have R1 := Aside0.mk r1
      have HM := Lib.hid hm
      clear r0 r1 hm
      refine hK.out _ _ ?h312 (fun hHeld => ?j312)
      case h312 => exact trivial
      clear hK K
      try simp only [Act.put, List.setIfInBounds_toArray, List.set_cons_zero, List.set_cons_succ]
      refine rdy (rs := [4]) ?_
      refine rc (fun K hK => ?k313) AllReadyH.nil
      case k313 =>
       go_simp
       refine Calls.mono (specAdd_any w.heap.size ⟨la, xs⟩ x (nw + (k1 : Int)) A c A0 c0 A1 c1 V2 (by omega) (by dsimp only; omega) (by dsimp only; omega) (by have := HM.out.2.1.2.1; omega) (by have := HM.out.2.2.1; omega) HO.out (Kd.R_reads' R0.out).2.2 (Kd.R_reads' R1.out).2.2) ?_
       rintro e V4 ⟨B2, d2, rfl, hO2, b4⟩
       clear cF1_0 cF1_1 dF1_0 dF1_1 zF1
       replace F1 := Aside0.mk (below_blk F1.out b4)
       replace F2 := Aside0.mk (below_blk F2.out b4)
       replace HR := Aside0.mk (HR.out.below b4)
       replace HD := Aside0.mk (HD.out.below b4)
       have yV4 := HD.out.size
       clear HO
       obtain ⟨L2, eL2⟩ : ∃ l, l = (xs ++ [newItem ⟨la, xs⟩ x (nw + (k1 : Int))]) := ⟨_, rfl⟩
       rw [← eL2] at hO2 ⊢
       have HL2 := Lib.hid eL2
       have HO := Aside0.mk hO2
       clear hO2 b4 eL2
       have cF1_0 : V4.cell? ⟨w.heap.size + 1, 0, none⟩ = some (.int .i64 la) := clq F1.out 0 rfl
       have cF1_1 : V4.cell? ⟨w.heap.size + 1, 1, none⟩ = some (.slice A xs.length c) := clq F1.out 1 rfl
       have dF1_0 := fzq F1.out 0
       have dF1_1 := fzq F1.out 1
       have zF1 := blk_lt F1.out
       refine hK.out _ _ ?h314 (fun hHeld => ?j314)
       case h314 => exact trivial
       clear hK K
       try simp only [Act.put, List.setIfInBounds_toArray, List.set_cons_zero, List.set_cons_succ]
       refine rdy (rs := [5]) ?_
       refine rc (fun K hK => ?k315) AllReadyH.nil
       case k315 =>
        go_simp
        generalize hWX : World.setCell (World.setCell V4 _ _) _ _ = V5
        have nF1 : V5.heap[w.heap.size + 1]? = some (.cells #[.int .i64 (la + 1), .slice B2 L2.length d2] 43 (0, 0)) := by rw [← hWX]; have h := blk_set1 (blk_set1 F1.out 0 (.int .i64 (la + 1))) 1 (.slice B2 L2.length d2); simpa using h
        have nF2 : V5.heap[w.heap.size]? = some (.cells #[.int .i64 0, .slice none 0 0] 43 (0, 0)) := by rw [← hWX]; exact blk_far (blk_far F2.out (by show w.heap.size ≠ w.heap.size + 1; omega) _) (by show w.heap.size ≠ w.heap.size + 1; omega) _
        have nHO := R_other HO.out F1.out (by decide) ((grown_set1 V4 (w.heap.size + 1) 0 (.int .i64 (la + 1))).trans (grown_set1 _ (w.heap.size + 1) 1 (.slice B2 L2.length d2)))
        rw [hWX] at nHO
        have nHR := Aside0.mk ((HR.out.set (p := ⟨w.heap.size + 1, 0, none⟩) (.int .i64 (la + 1)) (by show g < w.heap.size + 1; omega)).set (p := ⟨w.heap.size + 1, 1, none⟩) (.slice B2 L2.length d2) (by show g < w.heap.size + 1; omega))
        rw [hWX] at nHR
        have nHD := Aside0.mk ((HD.out.set (p := ⟨w.heap.size + 1, 0, none⟩) (.int .i64 (la + 1)) (.inl (by show w.heap.size ≤ w.heap.size + 1; omega))).set (p := ⟨w.heap.size + 1, 1, none⟩) (.slice B2 L2.length d2) (.inl (by show w.heap.size ≤ w.heap.size + 1; omega)))
        rw [hWX] at nHD
        clear cF1_0 cF1_1 dF1_0 dF1_1 zF1
        clear hWX F1 F2 HO HR HD
        have F1 := Aside0.mk nF1
        have F2 := Aside0.mk nF2
        have HO := Aside0.mk nHO
        have HR := nHR
        have HD := nHD
        clear nF1 nF2 nHO nHR nHD
        refine hK.out _ _ ?h316 (fun hHeld => ?j316)
        case h316 => exact trivial
        clear hK K
        try simp only [Act.put, List.setIfInBounds_toArray, List.set_cons_zero, List.set_cons_succ]
        refine wpAnyH_done (by kernel_rfl) ?_ _
        have hLn : L2.length = xs.length + 1 := by rw [HL2.out, List.length_append]; rfl
        have HLn := Lib.hid hLn
        clear hLn
        go_wp2
        go_roundg (kk - 1)
        case measure => omega
        case rel => exact ⟨kk - 1, nw + (k1 : Int), la + 1, L2, B2, d2, Nat.le_refl _, by omega, congrArg (Value.int .i64) (by omega), rfl, by omega, by omega, (by have := HLn.out; omega), ⟨by rw [HL2.out]; exact good_new (by omega) (by omega) HX.out HM.out⟩, F1, F2, HO, ⟨HR.out.up (by omega)⟩, HD⟩
    case k309 =>
     go_simp
     refine Calls.mono (drMail_any g _ V0 HR.out (by omega)) ?_
     rintro e V2 ⟨x, A0, c0, A1, c1, rfl, hm, r0, r1, hr_, hd_⟩
     clear cF1_0 cF1_1 dF1_0 dF1_1 zF1
     replace F1 := Aside0.mk (hd_.blk F1.out (by omega))
     replace F2 := Aside0.mk (hd_.blk F2.out (by omega))
     replace HO := Aside0.mk (hd_.R HO.out hgl)
     replace HR := Aside0.mk hr_
     replace HD := Aside0.mk (Dr.then_ HD.out hd_)
     have yV2 := HD.out.size
     clear hr_ hd_
     have cF1_0 : V2.cell? ⟨w.heap.size + 1, 0, none⟩ = some (.int .i64 la) := clq F1.out 0 rfl
     have cF1_1 : V2.cell? ⟨w.heap.size + 1, 1, none⟩ = some (.slice A xs.length c) := clq F1.out 1 rfl
     have dF1_0 := fzq F1.out 0
     have dF1_1 := fzq F1.out 1
     have zF1 := blk_lt F1.out
     have R0 := Aside0.mk r0
     have R1 := Aside0.mk r1
     have HM := Lib.hid hm
     clear r0 r1 hm
     refine hK.out _ _ ?h317 (fun hHeld => ?j317)
     case h317 => exact trivial
     clear hK K
     try simp only [Act.put, List.setIfInBounds_toArray, List.set_cons_zero, List.set_cons_succ]
     refine rdy (rs := [0]) ?_
     refine rc (fun K hK => ?k318) AllReadyH.nil
     case k318 =>
      go_simp
      refine hK.out _ _ ?h319 (fun hHeld => ?j319)
      case h319 => exact hHeld
      clear hK K
      try simp only [Act.put, List.setIfInBounds_toArray, List.set_cons_zero, List.set_cons_succ]
      refine rdy (rs := [4]) ?_
      refine rc (fun K hK => ?k320) AllReadyH.nil
      case k320 =>
       go_simp
       refine Calls.mono (specAdd_any w.heap.size ⟨la, xs⟩ x (nw + (k1 : Int)) A c A0 c0 A1 c1 V2 (by omega) (by dsimp only; omega) (by dsimp only; omega) (by have := HM.out.2.1.2.1; omega) (by have := HM.out.2.2.1; omega) HO.out (Kd.R_reads' R0.out).2.2 (Kd.R_reads' R1.out).2.2) ?_
       rintro e V4 ⟨B2, d2, rfl, hO2, b4⟩
       clear cF1_0 cF1_1 dF1_0 dF1_1 zF1
       replace F1 := Aside0.mk (below_blk F1.out b4)
       replace F2 := Aside0.mk (below_blk F2.out b4)
       replace HR := Aside0.mk (HR.out.below b4)
       replace HD := Aside0.mk (HD.out.below b4)
       have yV4 := HD.out.size
       clear HO
       obtain ⟨L2, eL2⟩ : ∃ l, l = (xs ++ [newItem ⟨la, xs⟩ x (nw + (k1 : Int))]) := ⟨_, rfl⟩
       rw [← eL2] at hO2 ⊢
       have HL2 := Lib.hid eL2
       have HO := Aside0.mk hO2
       clear hO2 b4 eL2
       have cF1_0 : V4.cell? ⟨w.heap.size + 1, 0, none⟩ = some (.int .i64 la) := clq F1.out 0 rfl
       have cF1_1 : V4.cell? ⟨w.heap.size + 1, 1, none⟩ = some (.slice A xs.length c) := clq F1.out 1 rfl
       have dF1_0 := fzq F1.out 0
       have dF1_1 := fzq F1.out 1
       have zF1 := blk_lt F1.out
       refine hK.out _ _ ?h321 (fun hHeld => ?j321)
       case h321 => exact trivial
       clear hK K
       try simp only [Act.put, List.setIfInBounds_toArray, List.set_cons_zero, List.set_cons_succ]
       refine rdy (rs := [5]) ?_
       refine rc (fun K hK => ?k322) AllReadyH.nil
       case k322 =>
        go_simp
        generalize hWX : World.setCell (World.setCell V4 _ _) _ _ = V5
        have nF1 : V5.heap[w.heap.size + 1]? = some (.cells #[.int .i64 (la + 1), .slice B2 L2.length d2] 43 (0, 0)) := by rw [← hWX]; have h := blk_set1 (blk_set1 F1.out 0 (.int .i64 (la + 1))) 1 (.slice B2 L2.length d2); simpa using h
        have nF2 : V5.heap[w.heap.size]? = some (.cells #[.int .i64 0, .slice none 0 0] 43 (0, 0)) := by rw [← hWX]; exact blk_far (blk_far F2.out (by show w.heap.size ≠ w.heap.size + 1; omega) _) (by show w.heap.size ≠ w.heap.size + 1; omega) _
        have nHO := R_other HO.out F1.out (by decide) ((grown_set1 V4 (w.heap.size + 1) 0 (.int .i64 (la + 1))).trans (grown_set1 _ (w.heap.size + 1) 1 (.slice B2 L2.length d2)))
        rw [hWX] at nHO
        have nHR := Aside0.mk ((HR.out.set (p := ⟨w.heap.size + 1, 0, none⟩) (.int .i64 (la + 1)) (by show g < w.heap.size + 1; omega)).set (p := ⟨w.heap.size + 1, 1, none⟩) (.slice B2 L2.length d2) (by show g < w.heap.size + 1; omega))
        rw [hWX] at nHR
        have nHD := Aside0.mk ((HD.out.set (p := ⟨w.heap.size + 1, 0, none⟩) (.int .i64 (la + 1)) (.inl (by show w.heap.size ≤ w.heap.size + 1; omega))).set (p := ⟨w.heap.size + 1, 1, none⟩) (.slice B2 L2.length d2) (.inl (by show w.heap.size ≤ w.heap.size + 1; omega)))
        rw [hWX] at nHD
        clear cF1_0 cF1_1 dF1_0 dF1_1 zF1
        clear hWX F1 F2 HO HR HD
        have F1 := Aside0.mk nF1
        have F2 := Aside0.mk nF2
        have HO := Aside0.mk nHO
        have HR := nHR
        have HD := nHD
        clear nF1 nF2 nHO nHR nHD
        refine hK.out _ _ ?h323 (fun hHeld => ?j323)
        case h323 => exact trivial
        clear hK K
        try simp only [Act.put, List.setIfInBounds_toArray, List.set_cons_zero, List.set_cons_succ]
        refine wpAnyH_done (by kernel_rfl) ?_ _
        have hLn : L2.length = xs.length + 1 := by rw [HL2.out, List.length_append]; rfl
        have HLn := Lib.hid hLn
        clear hLn
        go_wp2
        go_roundg (kk - 1)
        case measure => omega
        case rel => exact ⟨kk - 1, nw + (k1 : Int), la + 1, L2, B2, d2, Nat.le_refl _, by omega, congrArg (Value.int .i64) (by omega), rfl, by omega, by omega, (by have := HLn.out; omega), ⟨by rw [HL2.out]; exact good_new (by omega) (by omega) HX.out HM.out⟩, F1, F2, HO, ⟨HR.out.up (by omega)⟩, HD⟩
   ·have hx0' : ((xs.length : Int) == 0) = false := by simp [hx0]
    have hxp : 0 < xs.length := by omega
    clear hx0
    go_wp2_with fail
    refine Calls.mono (pick_any g _ 2 _ HR.out (by omega) (by omega)) ?_
    rintro e w2 ⟨k2, rfl, hk2, hr_, hd_⟩
    clear cF1_0 cF1_1 dF1_0 dF1_1 zF1
    replace F1 := Aside0.mk (hd_.blk F1.out (by omega))
    replace F2 := Aside0.mk (hd_.blk F2.out (by omega))
    replace HO := Aside0.mk (hd_.R HO.out hgl)
    replace HR := Aside0.mk hr_
    replace HD := Aside0.mk (Dr.then_ HD.out hd_)
    have yw2 := HD.out.size
    clear hr_ hd_
    have hk2 := hk2 (by omega)
    have cF1_0 : w2.cell? ⟨w.heap.size + 1, 0, none⟩ = some (.int .i64 la) := clq F1.out 0 rfl
    have cF1_1 : w2.cell? ⟨w.heap.size + 1, 1, none⟩ = some (.slice A xs.length c) := clq F1.out 1 rfl
    have dF1_0 := fzq F1.out 0
    have dF1_1 := fzq F1.out 1
    have zF1 := blk_lt F1.out
    by_cases hq2 : k2 = 0
    ·have hq2' : ((k2 : Int) == 0) = true := by simp [hq2]
     clear hq2
     go_wp2_with fail
     refine Calls.mono (specRoom_any la A xs.length c _ (by omega) (by omega)) ?_
     rintro e wA ⟨rfl, bA⟩
     clear cF1_0 cF1_1 dF1_0 dF1_1 zF1
     replace F1 := Aside0.mk (below_blk F1.out bA)
     replace F2 := Aside0.mk (below_blk F2.out bA)
     replace HO := Aside0.mk (Kd.R_below HO.out bA)
     replace HR := Aside0.mk (HR.out.below bA)
     replace HD := Aside0.mk (HD.out.below bA)
     have ywA := HD.out.size
     clear bA
     have cF1_0 : wA.cell? ⟨w.heap.size + 1, 0, none⟩ = some (.int .i64 la) := clq F1.out 0 rfl
     have cF1_1 : wA.cell? ⟨w.heap.size + 1, 1, none⟩ = some (.slice A xs.length c) := clq F1.out 1 rfl
     have dF1_0 := fzq F1.out 0
     have dF1_1 := fzq F1.out 1
     have zF1 := blk_lt F1.out
     go_wp2
     refine wp_region_held_drew (S := (fun _ => True)) (by kernel_rfl) ?s324 (fun hHeld => ?t324)
     case s324 => exact trivial
     generalize hV0 : World.drew wA = V0
     have bV : Below wA.heap.size wA V0 := by rw [← hV0]; exact drew_below0 wA
     clear hV0
     clear cF1_0 cF1_1 dF1_0 dF1_1 zF1
     replace F1 := Aside0.mk (below_blk F1.out bV)
     replace F2 := Aside0.mk (below_blk F2.out bV)
     replace HO := Aside0.mk (Kd.R_below HO.out bV)
     replace HR := Aside0.mk (HR.out.below bV)
     replace HD := Aside0.mk (HD.out.below bV)
     have yV0 := HD.out.size
     clear bV
     have cF1_0 : V0.cell? ⟨w.heap.size + 1, 0, none⟩ = some (.int .i64 la) := clq F1.out 0 rfl
     have cF1_1 : V0.cell? ⟨w.heap.size + 1, 1, none⟩ = some (.slice A xs.length c) := clq F1.out 1 rfl
     have dF1_0 := fzq F1.out 0
     have dF1_1 := fzq F1.out 1
     have zF1 := blk_lt F1.out
     refine tk 1 ?v325 ?y325 ?r325
     case y325 => intro w_ hSw; (try dsimp only at hSw); go_simp; (try (with_reducible rfl))
     try simp only [Act.put, List.setIfInBounds_toArray, List.set_cons_zero, List.set_cons_succ]
     refine tk 3 ?v326 ?y326 ?r326
     case y326 => intro w_ hSw; (try dsimp only at hSw); go_simp; (try (with_reducible rfl))
     try simp only [Act.put, List.setIfInBounds_toArray, List.set_cons_zero, List.set_cons_succ]
     refine rdy (rs := [0, 2]) ?_
     refine rc (fun K hK => ?k327) (rc (fun K hK => ?k328) AllReadyH.nil)
     case k327 =>
      go_simp
      refine hK.out _ _ ?h329 (fun hHeld => ?j329)
      case h329 => exact hHeld
      clear hK K
      try simp only [Act.put, List.setIfInBounds_toArray, List.set_cons_zero, List.set_cons_succ]
      refine rdy (rs := [2]) ?_
      refine rc (fun K hK => ?k330) AllReadyH.nil
      case k330 =>
       go_simp
       refine Calls.mono (drMail_any g _ V0 HR.out (by omega)) ?_
       rintro e V2 ⟨x, A0, c0, A1, c1, rfl, hm, r0, r1, hr_, hd_⟩
       clear cF1_0 cF1_1 dF1_0 dF1_1 zF1
       replace F1 := Aside0.mk (hd_.blk F1.out (by omega))
       replace F2 := Aside0.mk (hd_.blk F2.out (by omega))
       replace HO := Aside0.mk (hd_.R HO.out hgl)
       replace HR := Aside0.mk hr_
       replace HD := Aside0.mk (Dr.then_ HD.out hd_)
       have yV2 := HD.out.size
       clear hr_ hd_
       have cF1_0 : V2.cell? ⟨w.heap.size + 1, 0, none⟩ = some (.int .i64 la) := clq F1.out 0 rfl
       have cF1_1 : V2.cell? ⟨w.heap.size + 1, 1, none⟩ = some (.slice A xs.length c) := clq F1.out 1 rfl
       have dF1_0 := fzq F1.out 0
       have dF1_1 := fzq F1.out 1
       have zF1 := blk_lt F1.out
       have R0 := Aside0.mk r0
       have R1 := Aside0.mk r1
       have HM := Lib.hid hm
       clear r0 r1 hm
       refine hK.out _ _ ?h331 (fun hHeld => ?j331)
       case h331 => exact trivial
       clear hK K
       try simp only [Act.put, List.setIfInBounds_toArray, List.set_cons_zero, List.set_cons_succ]
       refine rdy (rs := [4]) ?_
       refine rc (fun K hK => ?k332) AllReadyH.nil
       case k332 =>
        go_simp
        refine Calls.mono (specAdd_any w.heap.size ⟨la, xs⟩ x (nw + (k1 : Int)) A c A0 c0 A1 c1 V2 (by omega) (by dsimp only; omega) (by dsimp only; omega) (by have := HM.out.2.1.2.1; omega) (by have := HM.out.2.2.1; omega) HO.out (Kd.R_reads' R0.out).2.2 (Kd.R_reads' R1.out).2.2) ?_
        rintro e V4 ⟨B2, d2, rfl, hO2, b4⟩
        clear cF1_0 cF1_1 dF1_0 dF1_1 zF1
        replace F1 := Aside0.mk (below_blk F1.out b4)
        replace F2 := Aside0.mk (below_blk F2.out b4)
        replace HR := Aside0.mk (HR.out.below b4)
        replace HD := Aside0.mk (HD.out.below b4)
        have yV4 := HD.out.size
        clear HO
        obtain ⟨L2, eL2⟩ : ∃ l, l = (xs ++ [newItem ⟨la, xs⟩ x (nw + (k1 : Int))]) := ⟨_, rfl⟩
        rw [← eL2] at hO2 ⊢
        have HL2 := Lib.hid eL2
        have HO := Aside0.mk hO2
        clear hO2 b4 eL2
        have cF1_0 : V4.cell? ⟨w.heap.size + 1, 0, none⟩ = some (.int .i64 la) := clq F1.out 0 rfl
        have cF1_1 : V4.cell? ⟨w.heap.size + 1, 1, none⟩ = some (.slice A xs.length c) := clq F1.out 1 rfl
        have dF1_0 := fzq F1.out 0
        have dF1_1 := fzq F1.out 1
        have zF1 := blk_lt F1.out
        refine hK.out _ _ ?h333 (fun hHeld => ?j333)
        case h333 => exact trivial
        clear hK K
        try simp only [Act.put, List.setIfInBounds_toArray, List.set_cons_zero, List.set_cons_succ]
        refine rdy (rs := [5]) ?_
        refine rc (fun K hK => ?k334) AllReadyH.nil
        case k334 =>
         go_simp
         generalize hWX : World.setCell (World.setCell V4 _ _) _ _ = V5
         have nF1 : V5.heap[w.heap.size + 1]? = some (.cells #[.int .i64 (la + 1), .slice B2 L2.length d2] 43 (0, 0)) := by rw [← hWX]; have h := blk_set1 (blk_set1 F1.out 0 (.int .i64 (la + 1))) 1 (.slice B2 L2.length d2); simpa using h
         have nF2 : V5.heap[w.heap.size]? = some (.cells #[.int .i64 0, .slice none 0 0] 43 (0, 0)) := by rw [← hWX]; exact blk_far (blk_far F2.out (by show w.heap.size ≠ w.heap.size + 1; omega) _) (by show w.heap.size ≠ w.heap.size + 1; omega) _
         have nHO := R_other HO.out F1.out (by decide) ((grown_set1 V4 (w.heap.size + 1) 0 (.int .i64 (la + 1))).trans (grown_set1 _ (w.heap.size + 1) 1 (.slice B2 L2.length d2)))
         rw [hWX] at nHO
         have nHR := Aside0.mk ((HR.out.set (p := ⟨w.heap.size + 1, 0, none⟩) (.int .i64 (la + 1)) (by show g < w.heap.size + 1; omega)).set (p := ⟨w.heap.size + 1, 1, none⟩) (.slice B2 L2.length d2) (by show g < w.heap.size + 1; omega))
         rw [hWX] at nHR
         have nHD := Aside0.mk ((HD.out.set (p := ⟨w.heap.size + 1, 0, none⟩) (.int .i64 (la + 1)) (.inl (by show w.heap.size ≤ w.heap.size + 1; omega))).set (p := ⟨w.heap.size + 1, 1, none⟩) (.slice B2 L2.length d2) (.inl (by show w.heap.size ≤ w.heap.size + 1; omega)))
         rw [hWX] at nHD
         clear cF1_0 cF1_1 dF1_0 dF1_1 zF1
         clear hWX F1 F2 HO HR HD
         have F1 := Aside0.mk nF1
         have F2 := Aside0.mk nF2
         have HO := Aside0.mk nHO
         have HR := nHR
         have HD := nHD
         clear nF1 nF2 nHO nHR nHD
         refine hK.out _ _ ?h335 (fun hHeld => ?j335)
         case h335 => exact trivial
         clear hK K
         try simp only [Act.put, List.setIfInBounds_toArray, List.set_cons_zero, List.set_cons_succ]
         refine wpAnyH_done (by kernel_rfl) ?_ _
         have hLn : L2.length = xs.length + 1 := by rw [HL2.out, List.length_append]; rfl
         have HLn := Lib.hid hLn
         clear hLn
         go_wp2
         go_roundg (kk - 1)
         case measure => omega
         case rel => exact ⟨kk - 1, nw + (k1 : Int), la + 1, L2, B2, d2, Nat.le_refl _, by omega, congrArg (Value.int .i64) (by omega), rfl, by omega, by omega, (by have := HLn.out; omega), ⟨by rw [HL2.out]; exact good_new (by omega) (by omega) HX.out HM.out⟩, F1, F2, HO, ⟨HR.out.up (by omega)⟩, HD⟩
     case k328 =>
      go_simp
      refine Calls.mono (drMail_any g _ V0 HR.out (by omega)) ?_
      rintro e V2 ⟨x, A0, c0, A1, c1, rfl, hm, r0, r1, hr_, hd_⟩
      clear cF1_0 cF1_1 dF1_0 dF1_1 zF1
      replace F1 := Aside0.mk (hd_.blk F1.out (by omega))
      replace F2 := Aside0.mk (hd_.blk F2.out (by omega))
      replace HO := Aside0.mk (hd_.R HO.out hgl)
      replace HR := Aside0.mk hr_
      replace HD := Aside0.mk (Dr.then_ HD.out hd_)
      have yV2 := HD.out.size
      clear hr_ hd_
      have cF1_0 : V2.cell? ⟨w.heap.size + 1, 0, none⟩ = some (.int .i64 la) := clq F1.out 0 rfl
      have cF1_1 : V2.cell? ⟨w.heap.size + 1, 1, none⟩ = some (.slice A xs.length c) := clq F1.out 1 rfl
      have dF1_0 := fzq F1.out 0
      have dF1_1 := fzq F1.out 1
      have zF1 := blk_lt F1.out
      have R0 := Aside0.mk r0
      have R1 := Aside0.mk r1
      have HM := Lib.hid hm
      clear r0 r1 hm
      refine hK.out _ _ ?h336 (fun hHeld => ?j336)
      case h336 => exact trivial
      clear hK K
      try simp only [Act.put, List.setIfInBounds_toArray, List.set_cons_zero, List.set_cons_succ]
      refine rdy (rs := [0]) ?_
      refine rc (fun K hK => ?k337) AllReadyH.nil
      case k337 =>
       go_simp
       refine hK.out _ _ ?h338 (fun hHeld => ?j338)
       case h338 => exact hHeld
       clear hK K
       try simp only [Act.put, List.setIfInBounds_toArray, List.set_cons_zero, List.set_cons_succ]
       refine rdy (rs := [4]) ?_
       refine rc (fun K hK => ?k339) AllReadyH.nil
       case k339 =>
        go_simp
        refine Calls.mono (specAdd_any w.heap.size ⟨la, xs⟩ x (nw + (k1 : Int)) A c A0 c0 A1 c1 V2 (by omega) (by dsimp only; omega) (by dsimp only; omega) (by have := HM.out.2.1.2.1; omega) (by have := HM.out.2.2.1; omega) HO.out (Kd.R_reads' R0.out).2.2 (Kd.R_reads' R1.out).2.2) ?_
        rintro e V4 ⟨B2, d2, rfl, hO2, b4⟩
        clear cF1_0 cF1_1 dF1_0 dF1_1 zF1
        replace F1 := Aside0.mk (below_blk F1.out b4)
        replace F2 := Aside0.mk (below_blk F2.out b4)
        replace HR := Aside0.mk (HR.out.below b4)
        replace HD := Aside0.mk (HD.out.below b4)
        have yV4 := HD.out.size
        clear HO
        obtain ⟨L2, eL2⟩ : ∃ l, l = (xs ++ [newItem ⟨la, xs⟩ x (nw + (k1 : Int))]) := ⟨_, rfl⟩
        rw [← eL2] at hO2 ⊢
        have HL2 := Lib.hid eL2
        have HO := Aside0.mk hO2
        clear hO2 b4 eL2
        have cF1_0 : V4.cell? ⟨w.heap.size + 1, 0, none⟩ = some (.int .i64 la) := clq F1.out 0 rfl
        have cF1_1 : V4.cell? ⟨w.heap.size + 1, 1, none⟩ = some (.slice A xs.length c) := clq F1.out 1 rfl
        have dF1_0 := fzq F1.out 0
        have dF1_1 := fzq F1.out 1
        have zF1 := blk_lt F1.out
        refine hK.out _ _ ?h340 (fun hHeld => ?j340)
        case h340 => exact trivial
        clear hK K
        try simp only [Act.put, List.setIfInBounds_toArray, List.set_cons_zero, List.set_cons_succ]
        refine rdy (rs := [5]) ?_
        refine rc (fun K hK => ?k341) AllReadyH.nil
        case k341 =>
         go_simp
         generalize hWX : World.setCell (World.setCell V4 _ _) _ _ = V5
         have nF1 : V5.heap[w.heap.size + 1]? = some (.cells #[.int .i64 (la + 1), .slice B2 L2.length d2] 43 (0, 0)) := by rw [← hWX]; have h := blk_set1 (blk_set1 F1.out 0 (.int .i64 (la + 1))) 1 (.slice B2 L2.length d2); simpa using h
         have nF2 : V5.heap[w.heap.size]? = some (.cells #[.int .i64 0, .slice none 0 0] 43 (0, 0)) := by rw [← hWX]; exact blk_far (blk_far F2.out (by show w.heap.size ≠ w.heap.size + 1; omega) _) (by show w.heap.size ≠ w.heap.size + 1; omega) _
         have nHO := R_other HO.out F1.out (by decide) ((grown_set1 V4 (w.heap.size + 1) 0 (.int .i64 (la + 1))).trans (grown_set1 _ (w.heap.size + 1) 1 (.slice B2 L2.length d2)))
         rw [hWX] at nHO
         have nHR := Aside0.mk ((HR.out.set (p := ⟨w.heap.size + 1, 0, none⟩) (.int .i64 (la + 1)) (by show g < w.heap.size + 1; omega)).set (p := ⟨w.heap.size + 1, 1, none⟩) (.slice B2 L2.length d2) (by show g < w.heap.size + 1; omega))
         rw [hWX] at nHR
         have nHD := Aside0.mk ((HD.out.set (p := ⟨w.heap.size + 1, 0, none⟩) (.int .i64 (la + 1)) (.inl (by show w.heap.size ≤ w.heap.size + 1; omega))).set (p := ⟨w.heap.size + 1, 1, none⟩) (.slice B2 L2.length d2) (.inl (by show w.heap.size ≤ w.heap.size + 1; omega)))
         rw [hWX] at nHD
         clear cF1_0 cF1_1 dF1_0 dF1_1 zF1
         clear hWX F1 F2 HO HR HD
         have F1 := Aside0.mk nF1
         have F2 := Aside0.mk nF2
         have HO := Aside0.mk nHO
         have HR := nHR
         have HD := nHD
         clear nF1 nF2 nHO nHR nHD
         refine hK.out _ _ ?h342 (fun hHeld => ?j342)
         case h342 => exact trivial
         clear hK K
         try simp only [Act.put, List.setIfInBounds_toArray, List.set_cons_zero, List.set_cons_succ]
         refine wpAnyH_done (by kernel_rfl) ?_ _
         have hLn : L2.length = xs.length + 1 := by rw [HL2.out, List.length_append]; rfl
         have HLn := Lib.hid hLn
         clear hLn
         go_wp2
         go_roundg (kk - 1)
         case measure => omega
         case rel => exact ⟨kk - 1, nw + (k1 : Int), la + 1, L2, B2, d2, Nat.le_refl _, by omega, congrArg (Value.int .i64) (by omega), rfl, by omega, by omega, (by have := HLn.out; omega), ⟨by rw [HL2.out]; exact good_new (by omega) (by omega) HX.out HM.out⟩, F1, F2, HO, ⟨HR.out.up (by omega)⟩, HD⟩
    ·have hq2' : ((k2 : Int) == 0) = false := by simp [hq2]
     clear hq2
     go_wp2_with fail
     refine Calls.mono (pick_any g _ (xs.length : Int) _ HR.out (by omega) (by omega)) ?_
     rintro e w3 ⟨k3, rfl, hk3, hr_, hd_⟩
     clear cF1_0 cF1_1 dF1_0 dF1_1 zF1
     replace F1 := Aside0.mk (hd_.blk F1.out (by omega))
     replace F2 := Aside0.mk (hd_.blk F2.out (by omega))
     replace HO := Aside0.mk (hd_.R HO.out hgl)
     replace HR := Aside0.mk hr_
     replace HD := Aside0.mk (Dr.then_ HD.out hd_)
     have yw3 := HD.out.size
     clear hr_ hd_
     have hk3 := hk3 (by omega)
     have hk3n : k3 < xs.length := by omega
     obtain ⟨ad, Q0, qc0, Q1, qc1, e1, p0, p1, p2, p3, p4, l0, kq0, l1, kq1⟩ := at_Item (Kd.R_reads' HO.out).2.2 k3 hk3n
     subst e1
     have hyg := HX.out _ (getD_mem xs zItem hk3n)
     have hyl := hyg.2.2.1.1
     have hyl4 := hyg.2.2.1.2.1
     clear l0 kq0 l1 kq1 p0 p1 p2 p4 hyg
     obtain ⟨y, ey⟩ : ∃ y, y = xs.getD k3 zItem := ⟨_, rfl⟩
     rw [← ey] at p3 hyl hyl4
     have HY := Lib.hid ey
     clear ey
     have cF1_0 : w3.cell? ⟨w.heap.size + 1, 0, none⟩ = some (.int .i64 la) := clq F1.out 0 rfl
     have cF1_1 : w3.cell? ⟨w.heap.size + 1, 1, none⟩ = some (.slice (some ad) xs.length c) := clq F1.out 1 rfl
     have dF1_0 := fzq F1.out 0
     have dF1_1 := fzq F1.out 1
     have zF1 := blk_lt F1.out
     go_wp2_with fail
     refine Calls.mono (pick_any g _ (y.f2.length : Int) _ HR.out (by omega) (by omega)) ?_
     rintro e w4 ⟨k4, rfl, hk4, hr_, hd_⟩
     clear cF1_0 cF1_1 dF1_0 dF1_1 zF1
     replace F1 := Aside0.mk (hd_.blk F1.out (by omega))
     replace F2 := Aside0.mk (hd_.blk F2.out (by omega))
     replace HO := Aside0.mk (hd_.R HO.out hgl)
     replace HR := Aside0.mk hr_
     replace HD := Aside0.mk (Dr.then_ HD.out hd_)
     have yw4 := HD.out.size
     clear hr_ hd_
     have hk4 := hk4 (by omega)
     have hk4n : k4 < (xs.getD k3 zItem).f2.length := by rw [← HY.out]; omega
     clear p3 hyl hyl4 hk4 HY
     have cF1_0 : w4.cell? ⟨w.heap.size + 1, 0, none⟩ = some (.int .i64 la) := clq F1.out 0 rfl
     have cF1_1 : w4.cell? ⟨w.heap.size + 1, 1, none⟩ = some (.slice (some ad) xs.length c) := clq F1.out 1 rfl
     have dF1_0 := fzq F1.out 0
     have dF1_1 := fzq F1.out 1
     have zF1 := blk_lt F1.out
     go_wp2_with fail
     refine Calls.mono (pick_any g _ 2 _ HR.out (by omega) (by omega)) ?_
     rintro e w5 ⟨k5, rfl, hk5, hr_, hd_⟩
     clear cF1_0 cF1_1 dF1_0 dF1_1 zF1
     replace F1 := Aside0.mk (hd_.blk F1.out (by omega))
     replace F2 := Aside0.mk (hd_.blk F2.out (by omega))
     replace HO := Aside0.mk (hd_.R HO.out hgl)
     replace HR := Aside0.mk hr_
     replace HD := Aside0.mk (Dr.then_ HD.out hd_)
     have yw5 := HD.out.size
     clear hr_ hd_
     have hk5 := hk5 (by omega)
     have cF1_0 : w5.cell? ⟨w.heap.size + 1, 0, none⟩ = some (.int .i64 la) := clq F1.out 0 rfl
     have cF1_1 : w5.cell? ⟨w.heap.size + 1, 1, none⟩ = some (.slice (some ad) xs.length c) := clq F1.out 1 rfl
     have dF1_0 := fzq F1.out 0
     have dF1_1 := fzq F1.out 1
     have zF1 := blk_lt F1.out
     by_cases hq5 : k5 = 0
     ·have hq5' : ((k5 : Int) == 0) = true := by simp [hq5]
      clear hq5
      go_wp2_with fail
      refine Calls.mono (specDone_any w.heap.size ⟨la, xs⟩ k3 k4 (some ad) c _ (by omega) (fit_spool (by omega) (by omega) HX.out) hk3n hk4n HO.out) ?_
      rintro e w6 ⟨B2, d2, rfl, hO2, b4⟩
      clear cF1_0 cF1_1 dF1_0 dF1_1 zF1
      replace F1 := Aside0.mk (below_blk F1.out b4)
      replace F2 := Aside0.mk (below_blk F2.out b4)
      replace HR := Aside0.mk (HR.out.below b4)
      replace HD := Aside0.mk (HD.out.below b4)
      have yw6 := HD.out.size
      clear HO
      have hle := done_le (k := k4) hk3n
      have hgd := good_done hk3n hk4n HX.out
      dsimp only at hO2 hle hgd
      generalize doneL xs k3 k4 = L2 at hO2 hle hgd ⊢
      have HO := Aside0.mk hO2
      have HGD := Lib.hid hgd
      clear hO2 b4 hgd
      have cF1_0 : w6.cell? ⟨w.heap.size + 1, 0, none⟩ = some (.int .i64 la) := clq F1.out 0 rfl
      have cF1_1 : w6.cell? ⟨w.heap.size + 1, 1, none⟩ = some (.slice (some ad) xs.length c) := clq F1.out 1 rfl
      have dF1_0 := fzq F1.out 0
      have dF1_1 := fzq F1.out 1
      have zF1 := blk_lt F1.out
      go_wp2
      generalize hWX : World.setCell (World.setCell w6 _ _) _ _ = w7
      have nF1 : w7.heap[w.heap.size + 1]? = some (.cells #[.int .i64 la, .slice B2 L2.length d2] 43 (0, 0)) := by rw [← hWX]; have h := blk_set1 (blk_set1 F1.out 0 (.int .i64 la)) 1 (.slice B2 L2.length d2); simpa using h
      have nF2 : w7.heap[w.heap.size]? = some (.cells #[.int .i64 0, .slice none 0 0] 43 (0, 0)) := by rw [← hWX]; exact blk_far (blk_far F2.out (by show w.heap.size ≠ w.heap.size + 1; omega) _) (by show w.heap.size ≠ w.heap.size + 1; omega) _
      have nHO := R_other HO.out F1.out (by decide) ((grown_set1 w6 (w.heap.size + 1) 0 (.int .i64 la)).trans (grown_set1 _ (w.heap.size + 1) 1 (.slice B2 L2.length d2)))
      rw [hWX] at nHO
      have nHR := Aside0.mk ((HR.out.set (p := ⟨w.heap.size + 1, 0, none⟩) (.int .i64 la) (by show g < w.heap.size + 1; omega)).set (p := ⟨w.heap.size + 1, 1, none⟩) (.slice B2 L2.length d2) (by show g < w.heap.size + 1; omega))
      rw [hWX] at nHR
      have nHD := Aside0.mk ((HD.out.set (p := ⟨w.heap.size + 1, 0, none⟩) (.int .i64 la) (.inl (by show w.heap.size ≤ w.heap.size + 1; omega))).set (p := ⟨w.heap.size + 1, 1, none⟩) (.slice B2 L2.length d2) (.inl (by show w.heap.size ≤ w.heap.size + 1; omega)))
      rw [hWX] at nHD
      clear cF1_0 cF1_1 dF1_0 dF1_1 zF1
      clear hWX F1 F2 HO HR HD
      have F1 := Aside0.mk nF1
      have F2 := Aside0.mk nF2
      have HO := Aside0.mk nHO
      have HR := nHR
      have HD := nHD
      clear nF1 nF2 nHO nHR nHD
      go_wp2
      go_roundg (kk - 1)
      case measure => omega
      case rel => exact ⟨kk - 1, nw + (k1 : Int), la, L2, B2, d2, Nat.le_refl _, by omega, congrArg (Value.int .i64) (by omega), rfl, by omega, by omega, (by omega), ⟨HGD.out⟩, F1, F2, HO, ⟨HR.out.up (by omega)⟩, HD⟩
     ·have hq5' : ((k5 : Int) == 0) = false := by simp [hq5]
      clear hq5
      go_wp2_with fail
      have hzz := (HX.out _ (getD_mem xs zItem hk3n)).2.2.1.2.2 _ (getD_mem _ zRcpt hk4n)
      refine Calls.mono (specLater_any w.heap.size ⟨la, xs⟩ k3 k4 (nw + (k1 : Int)) (some ad) c _ (by omega) (fit_spool (by omega) (by omega) HX.out) hk3n hk4n hzz.2.1.1 hzz.2.1.2 (by omega) HO.out) ?_
      clear hzz
      intro e w6 hp
      by_cases hno : laterNo ((xs.getD k3 zItem).f2.getD k4 zRcpt) (nw + (k1 : Int))
      ·obtain ⟨rfl, b4⟩ := hp.1 hno
       clear hp hno
       clear cF1_0 cF1_1 dF1_0 dF1_1 zF1
       replace F1 := Aside0.mk (below_blk F1.out b4)
       replace F2 := Aside0.mk (below_blk F2.out b4)
       replace HO := Aside0.mk (Kd.R_below HO.out b4)
       replace HR := Aside0.mk (HR.out.below b4)
       replace HD := Aside0.mk (HD.out.below b4)
       have yw6 := HD.out.size
       clear b4
       have cF1_0 : w6.cell? ⟨w.heap.size + 1, 0, none⟩ = some (.int .i64 la) := clq F1.out 0 rfl
       have cF1_1 : w6.cell? ⟨w.heap.size + 1, 1, none⟩ = some (.slice (some ad) xs.length c) := clq F1.out 1 rfl
       have dF1_0 := fzq F1.out 0
       have dF1_1 := fzq F1.out 1
       have zF1 := blk_lt F1.out
       go_wp2
       generalize hWX : World.setCell (World.setCell w6 _ _) _ _ = w7
       have nF1 : w7.heap[w.heap.size + 1]? = some (.cells #[.int .i64 la, .slice (some ad) xs.length c] 43 (0, 0)) := by rw [← hWX]; have h := blk_set1 (blk_set1 F1.out 0 (.int .i64 la)) 1 (.slice (some ad) xs.length c); simpa using h
       have nF2 : w7.heap[w.heap.size]? = some (.cells #[.int .i64 0, .slice none 0 0] 43 (0, 0)) := by rw [← hWX]; exact blk_far (blk_far F2.out (by show w.heap.size ≠ w.heap.size + 1; omega) _) (by show w.heap.size ≠ w.heap.size + 1; omega) _
       have nHO := R_other HO.out F1.out (by decide) ((grown_set1 w6 (w.heap.size + 1) 0 (.int .i64 la)).trans (grown_set1 _ (w.heap.size + 1) 1 (.slice (some ad) xs.length c)))
       rw [hWX] at nHO
       have nHR := Aside0.mk ((HR.out.set (p := ⟨w.heap.size + 1, 0, none⟩) (.int .i64 la) (by show g < w.heap.size + 1; omega)).set (p := ⟨w.heap.size + 1, 1, none⟩) (.slice (some ad) xs.length c) (by show g < w.heap.size + 1; omega))
       rw [hWX] at nHR
       have nHD := Aside0.mk ((HD.out.set (p := ⟨w.heap.size + 1, 0, none⟩) (.int .i64 la) (.inl (by show w.heap.size ≤ w.heap.size + 1; omega))).set (p := ⟨w.heap.size + 1, 1, none⟩) (.slice (some ad) xs.length c) (.inl (by show w.heap.size ≤ w.heap.size + 1; omega)))
       rw [hWX] at nHD
       clear cF1_0 cF1_1 dF1_0 dF1_1 zF1
       clear hWX F1 F2 HO HR HD
       have F1 := Aside0.mk nF1
       have F2 := Aside0.mk nF2
       have HO := Aside0.mk nHO
       have HR := nHR
       have HD := nHD
       clear nF1 nF2 nHO nHR nHD
       generalize hAL : World.alloc w7 _ = w8
       have b8 : Below w7.heap.size w7 w8 := by rw [← hAL]; exact bel_alloc (Below.refl _ _) _
       clear hAL
       replace F1 := Aside0.mk (below_blk F1.out b8)
       replace F2 := Aside0.mk (below_blk F2.out b8)
       replace HO := Aside0.mk (Kd.R_below HO.out b8)
       replace HR := Aside0.mk (HR.out.below b8)
       replace HD := Aside0.mk (HD.out.below b8)
       have yw8 := HD.out.size
       clear b8
       go_wp2
       go_roundg (kk - 1)
       case measure => omega
       case rel => exact ⟨kk - 1, nw + (k1 : Int), la, xs, (some ad), c, Nat.le_refl _, by omega, congrArg (Value.int .i64) (by omega), rfl, by omega, by omega, (by omega), ⟨HX.out⟩, F1, F2, HO, ⟨HR.out.up (by omega)⟩, HD⟩
      ·obtain ⟨B2, d2, rfl, hO2, b4⟩ := hp.2 hno
       clear cF1_0 cF1_1 dF1_0 dF1_1 zF1
       replace F1 := Aside0.mk (below_blk F1.out b4)
       replace F2 := Aside0.mk (below_blk F2.out b4)
       replace HR := Aside0.mk (HR.out.below b4)
       replace HD := Aside0.mk (HD.out.below b4)
       have yw6 := HD.out.size
       clear HO hp
       have hll : (laterL xs k3 k4 (nw + (k1 : Int))).length = xs.length := by unfold laterL; rw [List.length_set]
       have hgd := good_later hk3n hk4n (by omega) hno HX.out
       dsimp only at hO2
       generalize laterL xs k3 k4 (nw + (k1 : Int)) = L2 at hO2 hll hgd ⊢
       have HO := Aside0.mk hO2
       have HGD := Lib.hid hgd
       have HLL := Lib.hid hll
       clear hO2 b4 hgd hll hno
       have cF1_0 : w6.cell? ⟨w.heap.size + 1, 0, none⟩ = some (.int .i64 la) := clq F1.out 0 rfl
       have cF1_1 : w6.cell? ⟨w.heap.size + 1, 1, none⟩ = some (.slice (some ad) xs.length c) := clq F1.out 1 rfl
       have dF1_0 := fzq F1.out 0
       have dF1_1 := fzq F1.out 1
       have zF1 := blk_lt F1.out
       go_wp2
       generalize hWX : World.setCell (World.setCell w6 _ _) _ _ = w7
       have nF1 : w7.heap[w.heap.size + 1]? = some (.cells #[.int .i64 la, .slice B2 L2.length d2] 43 (0, 0)) := by rw [← hWX]; have h := blk_set1 (blk_set1 F1.out 0 (.int .i64 la)) 1 (.slice B2 L2.length d2); simpa using h
       have nF2 : w7.heap[w.heap.size]? = some (.cells #[.int .i64 0, .slice none 0 0] 43 (0, 0)) := by rw [← hWX]; exact blk_far (blk_far F2.out (by show w.heap.size ≠ w.heap.size + 1; omega) _) (by show w.heap.size ≠ w.heap.size + 1; omega) _
       have nHO := R_other HO.out F1.out (by decide) ((grown_set1 w6 (w.heap.size + 1) 0 (.int .i64 la)).trans (grown_set1 _ (w.heap.size + 1) 1 (.slice B2 L2.length d2)))
       rw [hWX] at nHO
       have nHR := Aside0.mk ((HR.out.set (p := ⟨w.heap.size + 1, 0, none⟩) (.int .i64 la) (by show g < w.heap.size + 1; omega)).set (p := ⟨w.heap.size + 1, 1, none⟩) (.slice B2 L2.length d2) (by show g < w.heap.size + 1; omega))
       rw [hWX] at nHR
       have nHD := Aside0.mk ((HD.out.set (p := ⟨w.heap.size + 1, 0, none⟩) (.int .i64 la) (.inl (by show w.heap.size ≤ w.heap.size + 1; omega))).set (p := ⟨w.heap.size + 1, 1, none⟩) (.slice B2 L2.length d2) (.inl (by show w.heap.size ≤ w.heap.size + 1; omega)))
       rw [hWX] at nHD
       clear cF1_0 cF1_1 dF1_0 dF1_1 zF1
       clear hWX F1 F2 HO HR HD
       have F1 := Aside0.mk nF1
       have F2 := Aside0.mk nF2
       have HO := Aside0.mk nHO
       have HR := nHR
       have HD := nHD
       clear nF1 nF2 nHO nHR nHD
       generalize hAL : World.alloc w7 _ = w8
       have b8 : Below w7.heap.size w7 w8 := by rw [← hAL]; exact bel_alloc (Below.refl _ _) _
       clear hAL
       replace F1 := Aside0.mk (below_blk F1.out b8)
       replace F2 := Aside0.mk (below_blk F2.out b8)
       replace HO := Aside0.mk (Kd.R_below HO.out b8)
       replace HR := Aside0.mk (HR.out.below b8)
       replace HD := Aside0.mk (HD.out.below b8)
       have yw8 := HD.out.size
       clear b8
       go_wp2
       go_roundg (kk - 1)
       case measure => omega
       case rel => exact ⟨kk - 1, nw + (k1 : Int), la, L2, B2, d2, Nat.le_refl _, by omega, congrArg (Value.int .i64) (by omega), rfl, by omega, by omega, (by have := HLL.out; omega), ⟨HGD.out⟩, F1, F2, HO, ⟨HR.out.up (by omega)⟩, HD⟩
  ·have hlt' : ¬ (0 : Int) < (kk : Int) := by omega
   go_wp2_with fail
   refine Calls.mono (specCopySpool_any ⟨la, xs⟩ A c _ (fit_spool (by omega) (by omega) HX.out) (Kd.R_reads' HO.out).2.2) ?_
   rintro e w9 ⟨B, d, rfl, hS, b9⟩
   clear cF1_0 cF1_1 dF1_0 dF1_1 zF1
   replace F1 := Aside0.mk (below_blk F1.out b9)
   replace F2 := Aside0.mk (below_blk F2.out b9)
   replace HR := Aside0.mk (HR.out.below b9)
   replace HD := Aside0.mk (HD.out.below b9)
   have yw9 := HD.out.size
   have FZ := F2.out
   have cF2_0 : w9.cell? ⟨w.heap.size, 0, none⟩ = some (.int .i64 0) := by simp [World.cell?, FZ]
   have cF2_1 : w9.cell? ⟨w.heap.size, 1, none⟩ = some (.slice none 0 0) := by simp [World.cell?, FZ]
   have dF2_0 : w9.frozen? ⟨w.heap.size, 0, none⟩ = false := by simp [World.frozen?, FZ]
   have dF2_1 : w9.frozen? ⟨w.heap.size, 1, none⟩ = false := by simp [World.frozen?, FZ]
   have hwr9 : w.heap.size ≤ wr.heap.size := ywr
   have HS := Aside0.mk (Kd.S_lower (base' := w.heap.size) hS hwr9)
   clear b9 hS FZ
   go_wp2
   refine bodyPost_ret (v := .agg #[.int .i64 la, .slice B xs.length d]) ?hr rfl ?hp
   case hr => simp [results, Tryd.results61, go_sem, cF2_0, cF2_1, dF2_0, dF2_1]
   case hp => exact ⟨⟨la, xs⟩, B, d, rfl, ⟨by dsimp only; omega, by dsimp only; omega, HX.out⟩, S_other HS.out F2.out (by decide) ((grown_set1 _ _ _ _).trans (grown_set1 _ _ _ _)), ((HR.out.set _ (by show g < w.heap.size; omega)).set _ (by show g < w.heap.size; omega)).up (by omega), (HD.out.set _ (.inl (Nat.le_refl _))).set _ (.inl (Nat.le_refl _))⟩

end Go.Proofs.YtiaibgkpohmihaaDoor
