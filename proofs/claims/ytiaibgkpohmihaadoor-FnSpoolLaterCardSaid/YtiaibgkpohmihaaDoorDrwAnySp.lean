/- Any drawn spool: a weak contract. -/
import Derived.Test.YtiaibgkpohmihaaDoorReg
import Derived.Test.YtiaibgkpohmihaaDoorDrwSpool
import Derived.Deep.RegionHeld3
namespace Go.Proofs.YtiaibgkpohmihaaDoor
open Go.RowKit Go.Proofs.YtiaibgkpohmihaaDoorW.PrintWords
set_option linter.unusedVariables false
set_option linter.unusedSimpArgs false

def wideR (r : SRcpt) : Prop := smallA r.f0 ∧ (-1 ≤ r.f1 ∧ r.f1 ≤ 4) ∧ (0 ≤ r.f2 ∧ r.f2 ≤ 100000)
def wideI (x : SItem) : Prop := (0 ≤ x.f0 ∧ x.f0 ≤ 1000) ∧ smallA x.f1 ∧ (x.f2.length ≤ 4 ∧ ∀ r ∈ x.f2, wideR r) ∧ smallB x.f3
def wideS (s : SSpool) : Prop := (-1 ≤ s.f0 ∧ s.f0 ≤ 1000) ∧ s.f1.length ≤ 8 ∧ ∀ x ∈ s.f1, wideI x
theorem wideI_fit {x : SItem} (h : wideI x) : fitItem x := by
 obtain ⟨⟨a0, a1⟩, ⟨a2, a3⟩, ⟨b1, b2⟩, c0, c1⟩ := h
 exact ⟨WalkArith.wf_i64 (by omega), ⟨by omega, by omega⟩, ⟨by omega, fun r hr => by
  obtain ⟨⟨d0, d1⟩, ⟨d2, d3⟩, d4, d5⟩ := b2 r hr
  exact ⟨⟨by omega, by omega⟩, WalkArith.wf_i64 (by omega), WalkArith.wf_i64 (by omega)⟩⟩, by omega, fun y hy => by have := c1 y hy; omega⟩
theorem wideS_fit {s : SSpool} (h : wideS s) : fitSpool s := ⟨WalkArith.wf_i64 (by have := h.1; omega), by have := h.2.1; omega, fun x hm => wideI_fit (h.2.2 x hm)⟩
theorem goodR_wide {r : SRcpt} (h : goodR r) : wideR r := ⟨h.1, by have := h.2.1; omega, h.2.2⟩
theorem goodI_wide {x : SItem} (h : goodI x) : wideI x := ⟨h.1, h.2.1, ⟨h.2.2.1.2.1, fun r hr => goodR_wide (h.2.2.1.2.2 r hr)⟩, h.2.2.2⟩
theorem wide_set {xs : List SItem} {k : Nat} {x : SItem} (hx : ∀ x ∈ xs, goodI x) (h : wideI x) : ∀ y ∈ xs.set k x, wideI y := by
 intro y hy
 rcases List.mem_or_eq_of_mem_set hy with h1 | h1
 ·exact goodI_wide (hx y h1)
 ·subst h1; exact h
theorem wide_tries {y : SItem} {z : Int} (h : goodI y) (hz : -1 ≤ z ∧ z ≤ 4) : wideI ⟨y.f0, y.f1, y.f2.set 0 ⟨(y.f2.getD 0 zRcpt).f0, z, (y.f2.getD 0 zRcpt).f2⟩, y.f3⟩ := by
 obtain ⟨h1, h2, ⟨h3, h4, h5⟩, h6⟩ := h
 refine ⟨h1, h2, ⟨by show (y.f2.set 0 _).length ≤ 4; rw [List.length_set]; exact h4, fun r hr => ?_⟩, h6⟩
 rcases List.mem_or_eq_of_mem_set hr with h | h
 ·exact goodR_wide (h5 r h)
 ·subst h
  have hq := h5 _ (getD_mem y.f2 zRcpt h3)
  exact ⟨hq.1, hz, hq.2.2⟩
theorem cell_of {W : World} {g t : Nat} {cs : Array Value} {p : Nat} {u : Value} (hb : W.heap[g]? = some (.cells cs t (0, 0))) (h : cs[p]? = some u) : W.cell? ⟨g, p, none⟩ = some u := by simp [World.cell?, hb, h]
theorem cells_at {W : World} {g t : Nat} {cs : Array Value} {p : Nat} {u : Value} (hb : W.heap[g]? = some (.cells cs t (0, 0))) (h : W.cell? ⟨g, p, none⟩ = some u) : cs[p]? = some u := by simpa [World.cell?, hb] using h
set_option maxRecDepth 100000 in
set_option maxHeartbeats 8000000 in
theorem drAnySpool_any (g m : Nat) (w : World) (h : Rd g m w) (hm : m + 1110 ≤ 1000000000) :
  Calls Tryd.prog 24 #[.pointer (some ⟨g, 0, none⟩)] w fun e w' => ∃ (s : SSpool) (B : Option Addr) (d : Nat), e = .returned (.agg #[.int .i64 s.f0, .slice B s.f1.length d]) ∧ wideS s ∧ Kd.R kItem 28 w' w.heap.size (fun _ => True) (.slice B s.f1.length d) s.f1 ∧ Rd g (m + 1110) w' ∧ Dr g w w' := by
 have HR := Aside0.mk h
 have HD := Aside0.mk (Dr.refl g w)
 have hgl := h.lt
 have ng0 : ¬ w.heap.size = g := by omega
 have ng1 : ¬ w.heap.size + 1 = g := by omega
 have ng2 : ¬ w.heap.size + 2 = g := by omega
 clear h
 go_enter Tryd.func24, Tryd.ntmps24
 go_wp2_with fail
 obtain ⟨W0, hW0⟩ : ∃ W, W = w.alloc (.cells #[.int .i64 0, .slice none 0 0] 43) := ⟨_, rfl⟩
 rw [← hW0]
 have F2 : Aside0 (W0.heap[w.heap.size]? = some (.cells #[.int .i64 0, .slice none 0 0] 43 (0, 0))) := ⟨by rw [hW0]; exact blk_new _ _⟩
 have hW0s : w.heap.size < W0.heap.size := by rw [hW0]; simp
 replace HR := Aside0.mk (by rw [hW0]; exact HR.out.alloc _ : Rd g m W0)
 replace HD := Aside0.mk (by rw [hW0]; exact HD.out.alloc _ : Dr g w W0)
 clear hW0
 refine Calls.mono (drSpool_any g m W0 HR.out (by omega)) ?_
 rintro e w1 ⟨⟨la, xs⟩, B, d, rfl, ⟨hla, hln, hgo⟩, hS, hr_, hd_⟩
 dsimp only at hla hln hgo hS ⊢
 have HS := Aside0.mk (Kd.S_lower (base' := w.heap.size) hS (by omega))
 have HX := Lib.hid hgo
 replace F2 := Aside0.mk (hd_.blk F2.out (by omega))
 replace HR := Aside0.mk hr_
 replace HD := Aside0.mk (Dr.then_ HD.out hd_)
 have yw1 := hd_.size
 clear hS hgo hr_ hd_
 by_cases hx0 : 0 < xs.length
 ·have hx0' : (0 : Int) < (xs.length : Int) := by omega
  obtain ⟨gb, hgb, hgb1, hgb2⟩ := own_form2 (Kd.S_R HS.out) hx0
  subst hgb
  obtain ⟨CI, hCI⟩ := Kd.S_typed HS.out gb rfl
  have FI := Aside0.mk hCI
  clear hCI
  go_wp2_with fail
  generalize hW2 : World.alloc w1 _ = w2
  have b2 : Below w1.heap.size w1 w2 := by rw [← hW2]; exact bel_alloc (Below.refl _ _) _
  have nF1 : Aside0 (w2.heap[w1.heap.size]? = some (.cells #[.int .i64 la, .slice (some ⟨gb, 0, none⟩) xs.length d] 43 (0, 0))) := ⟨by rw [← hW2]; exact blk_new _ _⟩
  clear hW2
  replace F2 := Aside0.mk (below_blk F2.out b2)
  replace FI := Aside0.mk (below_blk FI.out b2)
  replace HS := Aside0.mk (Kd.S_below HS.out b2)
  replace HR := Aside0.mk (HR.out.below b2)
  replace HD := Aside0.mk (HD.out.below b2)
  have yw2 := HD.out.size
  clear b2
  have F1 := nF1
  clear nF1
  refine Calls.mono (pick_any g _ (xs.length : Int) _ HR.out (by omega) (by omega)) ?_
  rintro e w3 ⟨k3, rfl, hk3, hr_, hd_⟩
  replace F1 := Aside0.mk (hd_.blk F1.out (by omega))
  replace F2 := Aside0.mk (hd_.blk F2.out (by omega))
  replace FI := Aside0.mk (hd_.blk FI.out (by omega))
  replace HS := Aside0.mk (Dr.S hd_ HS.out hgl)
  replace HR := Aside0.mk hr_
  replace HD := Aside0.mk (Dr.then_ HD.out hd_)
  have yw3 := HD.out.size
  clear hr_ hd_
  have hk3 := hk3 (by omega)
  have hk3n : k3 < xs.length := by omega
  obtain ⟨y, ey⟩ : ∃ y, y = xs.getD k3 zItem := ⟨_, rfl⟩
  have hgy := HX.out _ (getD_mem xs zItem hk3n)
  rw [← ey] at hgy
  have HGY := Lib.hid hgy
  have hy4 := hgy.2.2.1.2.1
  have hy0 := hgy.2.2.1.1
  have HY := Lib.hid ey.symm
  clear ey hgy
  have cF1_0 : w3.cell? ⟨w1.heap.size, 0, none⟩ = some (.int .i64 la) := clq F1.out 0 rfl
  have dF1_0 := fzq F1.out 0
  have cF1_1 : w3.cell? ⟨w1.heap.size, 1, none⟩ = some (.slice (some ⟨gb, 0, none⟩) xs.length d) := clq F1.out 1 rfl
  have dF1_1 := fzq F1.out 1
  have cF2_0 : w3.cell? ⟨w.heap.size, 0, none⟩ = some (.int .i64 0) := clq F2.out 0 rfl
  have dF2_0 := fzq F2.out 0
  have cF2_1 : w3.cell? ⟨w.heap.size, 1, none⟩ = some (.slice none 0 0) := clq F2.out 1 rfl
  have dF2_1 := fzq F2.out 1
  have zF1 := blk_lt F1.out
  have zF2 := blk_lt F2.out
  go_wp2_with fail
  refine Calls.mono (pick_any g _ 14 _ HR.out (by omega) (by omega)) ?_
  rintro e w4 ⟨k4, rfl, hk4, hr_, hd_⟩
  clear cF1_0 cF1_1 dF1_0 dF1_1 cF2_0 cF2_1 dF2_0 dF2_1 zF1 zF2
  replace F1 := Aside0.mk (hd_.blk F1.out (by omega))
  replace F2 := Aside0.mk (hd_.blk F2.out (by omega))
  replace FI := Aside0.mk (hd_.blk FI.out (by omega))
  replace HS := Aside0.mk (Dr.S hd_ HS.out hgl)
  replace HR := Aside0.mk hr_
  replace HD := Aside0.mk (Dr.then_ HD.out hd_)
  have yw4 := HD.out.size
  clear hr_ hd_
  have cF1_0 : w4.cell? ⟨w1.heap.size, 0, none⟩ = some (.int .i64 la) := clq F1.out 0 rfl
  have dF1_0 := fzq F1.out 0
  have cF1_1 : w4.cell? ⟨w1.heap.size, 1, none⟩ = some (.slice (some ⟨gb, 0, none⟩) xs.length d) := clq F1.out 1 rfl
  have dF1_1 := fzq F1.out 1
  have cF2_0 : w4.cell? ⟨w.heap.size, 0, none⟩ = some (.int .i64 0) := clq F2.out 0 rfl
  have dF2_0 := fzq F2.out 0
  have cF2_1 : w4.cell? ⟨w.heap.size, 1, none⟩ = some (.slice none 0 0) := clq F2.out 1 rfl
  have dF2_1 := fzq F2.out 1
  have zF1 := blk_lt F1.out
  have zF2 := blk_lt F2.out
  have hk4 := hk4 (by omega)
  have nef1 : ¬ gb = w1.heap.size := by omega
  have nef2 : ¬ gb = w.heap.size := fun e => Kd.S_ne HS.out F2.out (by decide) (by rw [e]; rfl)
  have nef3 : ¬ w1.heap.size = w.heap.size := by omega
  rcases (by omega : k4 = 0 ∨ k4 = 1 ∨ k4 = 2 ∨ k4 = 3 ∨ 4 ≤ k4) with h4 | h4 | h4 | h4 | h4
  ·have q0' : ((k4 : Int) == 0) = true := by simp; omega
   clear h4
   go_wp2
   refine wp_region_held_drew (S := (fun _ => True)) (by kernel_rfl) ?s343 (fun hHeld => ?t343)
   case s343 => exact trivial
   generalize hV0 : World.drew w4 = V0
   have bV : Below w4.heap.size w4 V0 := by rw [← hV0]; exact drew_below0 w4
   clear hV0
   clear cF1_0 cF1_1 dF1_0 dF1_1 cF2_0 cF2_1 dF2_0 dF2_1 zF1 zF2
   replace F1 := Aside0.mk (below_blk F1.out bV)
   replace F2 := Aside0.mk (below_blk F2.out bV)
   replace FI := Aside0.mk (below_blk FI.out bV)
   replace HS := Aside0.mk (Kd.S_below HS.out bV)
   replace HR := Aside0.mk (HR.out.below bV)
   replace HD := Aside0.mk (HD.out.below bV)
   have yV0 := HD.out.size
   clear bV
   have cF1_0 : V0.cell? ⟨w1.heap.size, 0, none⟩ = some (.int .i64 la) := clq F1.out 0 rfl
   have dF1_0 := fzq F1.out 0
   have cF1_1 : V0.cell? ⟨w1.heap.size, 1, none⟩ = some (.slice (some ⟨gb, 0, none⟩) xs.length d) := clq F1.out 1 rfl
   have dF1_1 := fzq F1.out 1
   have cF2_0 : V0.cell? ⟨w.heap.size, 0, none⟩ = some (.int .i64 0) := clq F2.out 0 rfl
   have dF2_0 := fzq F2.out 0
   have cF2_1 : V0.cell? ⟨w.heap.size, 1, none⟩ = some (.slice none 0 0) := clq F2.out 1 rfl
   have dF2_1 := fzq F2.out 1
   have zF1 := blk_lt F1.out
   have zF2 := blk_lt F2.out
   refine tk 0 ?v344 ?y344 ?r344
   case y344 => intro w_ hSw; (try dsimp only at hSw); go_simp; (try (with_reducible rfl))
   try simp only [Act.put, List.setIfInBounds_toArray, List.set_cons_zero, List.set_cons_succ]
   refine tk 2 ?v345 ?y345 ?r345
   case y345 => intro w_ hSw; (try dsimp only at hSw); go_simp; (try (with_reducible rfl))
   try simp only [Act.put, List.setIfInBounds_toArray, List.set_cons_zero, List.set_cons_succ]
   refine tk 3 ?v346 ?y346 ?r346
   case y346 => intro w_ hSw; (try dsimp only at hSw); go_simp; (try (with_reducible rfl))
   try simp only [Act.put, List.setIfInBounds_toArray, List.set_cons_zero, List.set_cons_succ]
   refine rdy (rs := [1, 4]) ?_
   refine rc (fun K hK => ?k347) (rc (fun K hK => ?k348) AllReadyH.nil)
   case k347 =>
    go_simp
    refine hK.out _ _ ?h349 (fun hHeld => ?j349)
    case h349 => exact hHeld
    clear hK K
    try simp only [Act.put, List.setIfInBounds_toArray, List.set_cons_zero, List.set_cons_succ]
    refine rdy (rs := [4]) ?_
    refine rc (fun K hK => ?k350) AllReadyH.nil
    case k350 =>
     go_simp
     generalize hVa : World.alloc V0 _ = V4
     have bV : Below V0.heap.size V0 V4 := by rw [← hVa]; exact bel_alloc (Below.refl _ _) _
     have FL : Aside0 (V4.heap[V0.heap.size]? = some (.cells #[.int .i64 0, .int .i64 1, .int .i64 99] 3 (0, 0))) := ⟨by rw [← hVa]; exact blk_new _ _⟩
     clear hVa
     clear cF1_0 cF1_1 dF1_0 dF1_1 cF2_0 cF2_1 dF2_0 dF2_1 zF1 zF2
     replace F1 := Aside0.mk (below_blk F1.out bV)
     replace F2 := Aside0.mk (below_blk F2.out bV)
     replace FI := Aside0.mk (below_blk FI.out bV)
     replace HS := Aside0.mk (Kd.S_below HS.out bV)
     replace HR := Aside0.mk (HR.out.below bV)
     replace HD := Aside0.mk (HD.out.below bV)
     have yV4 := HD.out.size
     clear bV
     have cF1_0 : V4.cell? ⟨w1.heap.size, 0, none⟩ = some (.int .i64 la) := clq F1.out 0 rfl
     have dF1_0 := fzq F1.out 0
     have cF1_1 : V4.cell? ⟨w1.heap.size, 1, none⟩ = some (.slice (some ⟨gb, 0, none⟩) xs.length d) := clq F1.out 1 rfl
     have dF1_1 := fzq F1.out 1
     have cF2_0 : V4.cell? ⟨w.heap.size, 0, none⟩ = some (.int .i64 0) := clq F2.out 0 rfl
     have dF2_0 := fzq F2.out 0
     have cF2_1 : V4.cell? ⟨w.heap.size, 1, none⟩ = some (.slice none 0 0) := clq F2.out 1 rfl
     have dF2_1 := fzq F2.out 1
     have zF1 := blk_lt F1.out
     have zF2 := blk_lt F2.out
     refine hK.out _ _ ?h351 (fun hHeld => ?j351)
     case h351 => exact trivial
     clear hK K
     try simp only [Act.put, List.setIfInBounds_toArray, List.set_cons_zero, List.set_cons_succ]
     refine rdy (rs := [5]) ?_
     refine rc (fun K hK => ?k352) AllReadyH.nil
     case k352 =>
      go_simp
      refine Calls.mono (one_any (0) 99 g _ _ _ _ _ _ V4 HR.out (by omega) FL.out (by decide) (by rfl) (by decide) (by decide) (by rfl)) ?_
      rintro e V5 ⟨z, rfl, hz, hr_, hd_⟩
      clear cF1_0 cF1_1 dF1_0 dF1_1 cF2_0 cF2_1 dF2_0 dF2_1 zF1 zF2
      clear FL
      replace F1 := Aside0.mk (hd_.blk F1.out (by omega))
      replace F2 := Aside0.mk (hd_.blk F2.out (by omega))
      replace FI := Aside0.mk (hd_.blk FI.out (by omega))
      replace HS := Aside0.mk (Dr.S hd_ HS.out hgl)
      replace HR := Aside0.mk hr_
      replace HD := Aside0.mk (Dr.then_ HD.out hd_)
      have yV5 := HD.out.size
      clear hr_ hd_
      have cF1_0 : V5.cell? ⟨w1.heap.size, 0, none⟩ = some (.int .i64 la) := clq F1.out 0 rfl
      have dF1_0 := fzq F1.out 0
      have cF1_1 : V5.cell? ⟨w1.heap.size, 1, none⟩ = some (.slice (some ⟨gb, 0, none⟩) xs.length d) := clq F1.out 1 rfl
      have dF1_1 := fzq F1.out 1
      have cF2_0 : V5.cell? ⟨w.heap.size, 0, none⟩ = some (.int .i64 0) := clq F2.out 0 rfl
      have dF2_0 := fzq F2.out 0
      have cF2_1 : V5.cell? ⟨w.heap.size, 1, none⟩ = some (.slice none 0 0) := clq F2.out 1 rfl
      have dF2_1 := fzq F2.out 1
      have zF1 := blk_lt F1.out
      have zF2 := blk_lt F2.out
      refine hK.out _ _ ?h353 (fun hHeld => ?j353)
      case h353 => exact trivial
      clear hK K
      try simp only [Act.put, List.setIfInBounds_toArray, List.set_cons_zero, List.set_cons_succ]
      refine tk 6 ?v354 ?y354 ?r354
      case y354 => intro w_ hSw; (try dsimp only at hSw); go_simp; (try (with_reducible rfl))
      try simp only [Act.put, List.setIfInBounds_toArray, List.set_cons_zero, List.set_cons_succ]
      refine tk 7 ?v355 ?y355 ?r355
      case y355 => intro w_ hSw; (try dsimp only at hSw); go_simp; (try (with_reducible rfl))
      try simp only [Act.put, List.setIfInBounds_toArray, List.set_cons_zero, List.set_cons_succ]
      refine rdy (rs := [8]) ?_
      refine rc (fun K hK => ?k356) AllReadyH.nil
      case k356 =>
       obtain ⟨ci, hil, hiM, hic, hif⟩ := Kd.R_elem (Kd.S_R HS.out) zItem (k3 : Int) (by omega) (by omega)
       rw [Int.toNat_natCast] at hiM hic hif
       rw [HY.out] at hiM
       obtain ⟨v0, v1, rfl, u0, u1⟩ := kItem_openM hiM
       simp only [show kItem.sz = 5 from rfl] at hic hif
       have i0_ : V5.cell? ⟨gb, k3 * 5, none⟩ = some (.int .i64 y.f0) := hic 0 _ rfl
       have j0_ : V5.frozen? ⟨gb, k3 * 5, none⟩ = false := hif 0
       go_simp
       generalize hW8 : World.setCell V5 _ _ = V8
       have hs := Kd.R_seg (Kd.S_R HS.out) (k3 : Int) (by omega) (by omega) (seg := [.int .i64 z]) (j := 0) hil (by rw [Int.toNat_natCast]; exact hic) (by show 0 + 1 ≤ 5; omega) (x' := (⟨z, y.f1, y.f2, y.f3⟩ : SItem)) (okp := fun k => True ∧ k ≠ gb) (kItem_mkM _ _ _ (⟨z, y.f1, y.f2, y.f3⟩ : SItem) u0 u1) (fun _ h => h)
       rw [Int.toNat_natCast] at hs
       simp only [World.setCells, show kItem.sz = 5 from rfl, Nat.add_zero] at hs
       rw [hW8] at hs
       have nF1 := Aside0.mk (by rw [← hW8]; exact blk_far F1.out (by show w1.heap.size ≠ gb; omega) _ : V8.heap[w1.heap.size]? = some (.cells #[.int .i64 la, .slice (some ⟨gb, 0, none⟩) xs.length d] 43 (0, 0)))
       have nF2 := Aside0.mk (by rw [← hW8]; exact blk_far F2.out (by show w.heap.size ≠ gb; omega) _ : V8.heap[w.heap.size]? = some (.cells #[.int .i64 0, .slice none 0 0] 43 (0, 0)))
       have nHR := HR.out.set (p := ⟨gb, k3 * 5, none⟩) (.int .i64 z) (by show g < gb; omega)
       have nHD := HD.out.set (p := ⟨gb, k3 * 5, none⟩) (.int .i64 z) (.inl (by show w.heap.size ≤ gb; omega))
       rw [hW8] at nHR nHD
       have HO := Aside0.mk hs.1
       clear cF1_0 cF1_1 dF1_0 dF1_1 cF2_0 cF2_1 dF2_0 dF2_1 zF1 zF2
       clear hW8 hs F1 F2 FI HR HD HS i0_ j0_ hic hif u0 u1 hil hiM
       have F1 := nF1
       have F2 := nF2
       have HR := Aside0.mk nHR
       have HD := Aside0.mk nHD
       clear nF1 nF2 nHR nHD
       have cF1_0 : V8.cell? ⟨w1.heap.size, 0, none⟩ = some (.int .i64 la) := clq F1.out 0 rfl
       have dF1_0 := fzq F1.out 0
       have cF1_1 : V8.cell? ⟨w1.heap.size, 1, none⟩ = some (.slice (some ⟨gb, 0, none⟩) xs.length d) := clq F1.out 1 rfl
       have dF1_1 := fzq F1.out 1
       have cF2_0 : V8.cell? ⟨w.heap.size, 0, none⟩ = some (.int .i64 0) := clq F2.out 0 rfl
       have dF2_0 := fzq F2.out 0
       have cF2_1 : V8.cell? ⟨w.heap.size, 1, none⟩ = some (.slice none 0 0) := clq F2.out 1 rfl
       have dF2_1 := fzq F2.out 1
       have zF1 := blk_lt F1.out
       have zF2 := blk_lt F2.out
       refine hK.out _ _ ?h357 (fun hHeld => ?j357)
       case h357 => exact trivial
       clear hK K
       try simp only [Act.put, List.setIfInBounds_toArray, List.set_cons_zero, List.set_cons_succ]
       refine wpAnyH_done (by kernel_rfl) ?_ _
       go_wp2
       refine bodyPost_ret (v := .agg #[.int .i64 la, .slice (some ⟨gb, 0, none⟩) xs.length d]) ?hr rfl ?hp
       case hr => simp [results, Tryd.results24, go_sem, cF2_0, cF2_1, dF2_0, dF2_1]
       case hp => exact ⟨⟨la, xs.set k3 (⟨z, y.f1, y.f2, y.f3⟩ : SItem)⟩, (some ⟨gb, 0, none⟩), d, (by show _ = _; rw [List.length_set]), ⟨⟨by dsimp only; omega, by dsimp only; omega⟩, by show (xs.set k3 _).length ≤ 8; rw [List.length_set]; omega, wide_set HX.out ⟨⟨by dsimp only; omega, by dsimp only; omega⟩, HGY.out.2.1, (goodI_wide HGY.out).2.2.1, HGY.out.2.2.2⟩⟩, R_other (by rw [List.length_set]; exact HO.out) (F2.out) (by decide) ((grown_set1 _ _ _ _).trans (grown_set1 _ _ _ _)), ((HR.out.set _ (by show g < w.heap.size; omega)).set _ (by show g < w.heap.size; omega)).up (by omega), (HD.out.set _ (.inl (Nat.le_refl _))).set _ (.inl (Nat.le_refl _))⟩
   case k348 =>
    go_simp
    generalize hVa : World.alloc V0 _ = V4
    have bV : Below V0.heap.size V0 V4 := by rw [← hVa]; exact bel_alloc (Below.refl _ _) _
    have FL : Aside0 (V4.heap[V0.heap.size]? = some (.cells #[.int .i64 0, .int .i64 1, .int .i64 99] 3 (0, 0))) := ⟨by rw [← hVa]; exact blk_new _ _⟩
    clear hVa
    clear cF1_0 cF1_1 dF1_0 dF1_1 cF2_0 cF2_1 dF2_0 dF2_1 zF1 zF2
    replace F1 := Aside0.mk (below_blk F1.out bV)
    replace F2 := Aside0.mk (below_blk F2.out bV)
    replace FI := Aside0.mk (below_blk FI.out bV)
    replace HS := Aside0.mk (Kd.S_below HS.out bV)
    replace HR := Aside0.mk (HR.out.below bV)
    replace HD := Aside0.mk (HD.out.below bV)
    have yV4 := HD.out.size
    clear bV
    have cF1_0 : V4.cell? ⟨w1.heap.size, 0, none⟩ = some (.int .i64 la) := clq F1.out 0 rfl
    have dF1_0 := fzq F1.out 0
    have cF1_1 : V4.cell? ⟨w1.heap.size, 1, none⟩ = some (.slice (some ⟨gb, 0, none⟩) xs.length d) := clq F1.out 1 rfl
    have dF1_1 := fzq F1.out 1
    have cF2_0 : V4.cell? ⟨w.heap.size, 0, none⟩ = some (.int .i64 0) := clq F2.out 0 rfl
    have dF2_0 := fzq F2.out 0
    have cF2_1 : V4.cell? ⟨w.heap.size, 1, none⟩ = some (.slice none 0 0) := clq F2.out 1 rfl
    have dF2_1 := fzq F2.out 1
    have zF1 := blk_lt F1.out
    have zF2 := blk_lt F2.out
    refine hK.out _ _ ?h358 (fun hHeld => ?j358)
    case h358 => exact trivial
    clear hK K
    try simp only [Act.put, List.setIfInBounds_toArray, List.set_cons_zero, List.set_cons_succ]
    refine rdy (rs := [1, 5]) ?_
    refine rc (fun K hK => ?k359) (rc (fun K hK => ?k360) AllReadyH.nil)
    case k359 =>
     go_simp
     refine hK.out _ _ ?h361 (fun hHeld => ?j361)
     case h361 => exact hHeld
     clear hK K
     try simp only [Act.put, List.setIfInBounds_toArray, List.set_cons_zero, List.set_cons_succ]
     refine rdy (rs := [5]) ?_
     refine rc (fun K hK => ?k362) AllReadyH.nil
     case k362 =>
      go_simp
      refine Calls.mono (one_any (0) 99 g _ _ _ _ _ _ V4 HR.out (by omega) FL.out (by decide) (by rfl) (by decide) (by decide) (by rfl)) ?_
      rintro e V5 ⟨z, rfl, hz, hr_, hd_⟩
      clear cF1_0 cF1_1 dF1_0 dF1_1 cF2_0 cF2_1 dF2_0 dF2_1 zF1 zF2
      clear FL
      replace F1 := Aside0.mk (hd_.blk F1.out (by omega))
      replace F2 := Aside0.mk (hd_.blk F2.out (by omega))
      replace FI := Aside0.mk (hd_.blk FI.out (by omega))
      replace HS := Aside0.mk (Dr.S hd_ HS.out hgl)
      replace HR := Aside0.mk hr_
      replace HD := Aside0.mk (Dr.then_ HD.out hd_)
      have yV5 := HD.out.size
      clear hr_ hd_
      have cF1_0 : V5.cell? ⟨w1.heap.size, 0, none⟩ = some (.int .i64 la) := clq F1.out 0 rfl
      have dF1_0 := fzq F1.out 0
      have cF1_1 : V5.cell? ⟨w1.heap.size, 1, none⟩ = some (.slice (some ⟨gb, 0, none⟩) xs.length d) := clq F1.out 1 rfl
      have dF1_1 := fzq F1.out 1
      have cF2_0 : V5.cell? ⟨w.heap.size, 0, none⟩ = some (.int .i64 0) := clq F2.out 0 rfl
      have dF2_0 := fzq F2.out 0
      have cF2_1 : V5.cell? ⟨w.heap.size, 1, none⟩ = some (.slice none 0 0) := clq F2.out 1 rfl
      have dF2_1 := fzq F2.out 1
      have zF1 := blk_lt F1.out
      have zF2 := blk_lt F2.out
      refine hK.out _ _ ?h363 (fun hHeld => ?j363)
      case h363 => exact trivial
      clear hK K
      try simp only [Act.put, List.setIfInBounds_toArray, List.set_cons_zero, List.set_cons_succ]
      refine tk 6 ?v364 ?y364 ?r364
      case y364 => intro w_ hSw; (try dsimp only at hSw); go_simp; (try (with_reducible rfl))
      try simp only [Act.put, List.setIfInBounds_toArray, List.set_cons_zero, List.set_cons_succ]
      refine tk 7 ?v365 ?y365 ?r365
      case y365 => intro w_ hSw; (try dsimp only at hSw); go_simp; (try (with_reducible rfl))
      try simp only [Act.put, List.setIfInBounds_toArray, List.set_cons_zero, List.set_cons_succ]
      refine rdy (rs := [8]) ?_
      refine rc (fun K hK => ?k366) AllReadyH.nil
      case k366 =>
       obtain ⟨ci, hil, hiM, hic, hif⟩ := Kd.R_elem (Kd.S_R HS.out) zItem (k3 : Int) (by omega) (by omega)
       rw [Int.toNat_natCast] at hiM hic hif
       rw [HY.out] at hiM
       obtain ⟨v0, v1, rfl, u0, u1⟩ := kItem_openM hiM
       simp only [show kItem.sz = 5 from rfl] at hic hif
       have i0_ : V5.cell? ⟨gb, k3 * 5, none⟩ = some (.int .i64 y.f0) := hic 0 _ rfl
       have j0_ : V5.frozen? ⟨gb, k3 * 5, none⟩ = false := hif 0
       go_simp
       generalize hW8 : World.setCell V5 _ _ = V8
       have hs := Kd.R_seg (Kd.S_R HS.out) (k3 : Int) (by omega) (by omega) (seg := [.int .i64 z]) (j := 0) hil (by rw [Int.toNat_natCast]; exact hic) (by show 0 + 1 ≤ 5; omega) (x' := (⟨z, y.f1, y.f2, y.f3⟩ : SItem)) (okp := fun k => True ∧ k ≠ gb) (kItem_mkM _ _ _ (⟨z, y.f1, y.f2, y.f3⟩ : SItem) u0 u1) (fun _ h => h)
       rw [Int.toNat_natCast] at hs
       simp only [World.setCells, show kItem.sz = 5 from rfl, Nat.add_zero] at hs
       rw [hW8] at hs
       have nF1 := Aside0.mk (by rw [← hW8]; exact blk_far F1.out (by show w1.heap.size ≠ gb; omega) _ : V8.heap[w1.heap.size]? = some (.cells #[.int .i64 la, .slice (some ⟨gb, 0, none⟩) xs.length d] 43 (0, 0)))
       have nF2 := Aside0.mk (by rw [← hW8]; exact blk_far F2.out (by show w.heap.size ≠ gb; omega) _ : V8.heap[w.heap.size]? = some (.cells #[.int .i64 0, .slice none 0 0] 43 (0, 0)))
       have nHR := HR.out.set (p := ⟨gb, k3 * 5, none⟩) (.int .i64 z) (by show g < gb; omega)
       have nHD := HD.out.set (p := ⟨gb, k3 * 5, none⟩) (.int .i64 z) (.inl (by show w.heap.size ≤ gb; omega))
       rw [hW8] at nHR nHD
       have HO := Aside0.mk hs.1
       clear cF1_0 cF1_1 dF1_0 dF1_1 cF2_0 cF2_1 dF2_0 dF2_1 zF1 zF2
       clear hW8 hs F1 F2 FI HR HD HS i0_ j0_ hic hif u0 u1 hil hiM
       have F1 := nF1
       have F2 := nF2
       have HR := Aside0.mk nHR
       have HD := Aside0.mk nHD
       clear nF1 nF2 nHR nHD
       have cF1_0 : V8.cell? ⟨w1.heap.size, 0, none⟩ = some (.int .i64 la) := clq F1.out 0 rfl
       have dF1_0 := fzq F1.out 0
       have cF1_1 : V8.cell? ⟨w1.heap.size, 1, none⟩ = some (.slice (some ⟨gb, 0, none⟩) xs.length d) := clq F1.out 1 rfl
       have dF1_1 := fzq F1.out 1
       have cF2_0 : V8.cell? ⟨w.heap.size, 0, none⟩ = some (.int .i64 0) := clq F2.out 0 rfl
       have dF2_0 := fzq F2.out 0
       have cF2_1 : V8.cell? ⟨w.heap.size, 1, none⟩ = some (.slice none 0 0) := clq F2.out 1 rfl
       have dF2_1 := fzq F2.out 1
       have zF1 := blk_lt F1.out
       have zF2 := blk_lt F2.out
       refine hK.out _ _ ?h367 (fun hHeld => ?j367)
       case h367 => exact trivial
       clear hK K
       try simp only [Act.put, List.setIfInBounds_toArray, List.set_cons_zero, List.set_cons_succ]
       refine wpAnyH_done (by kernel_rfl) ?_ _
       go_wp2
       refine bodyPost_ret (v := .agg #[.int .i64 la, .slice (some ⟨gb, 0, none⟩) xs.length d]) ?hr rfl ?hp
       case hr => simp [results, Tryd.results24, go_sem, cF2_0, cF2_1, dF2_0, dF2_1]
       case hp => exact ⟨⟨la, xs.set k3 (⟨z, y.f1, y.f2, y.f3⟩ : SItem)⟩, (some ⟨gb, 0, none⟩), d, (by show _ = _; rw [List.length_set]), ⟨⟨by dsimp only; omega, by dsimp only; omega⟩, by show (xs.set k3 _).length ≤ 8; rw [List.length_set]; omega, wide_set HX.out ⟨⟨by dsimp only; omega, by dsimp only; omega⟩, HGY.out.2.1, (goodI_wide HGY.out).2.2.1, HGY.out.2.2.2⟩⟩, R_other (by rw [List.length_set]; exact HO.out) (F2.out) (by decide) ((grown_set1 _ _ _ _).trans (grown_set1 _ _ _ _)), ((HR.out.set _ (by show g < w.heap.size; omega)).set _ (by show g < w.heap.size; omega)).up (by omega), (HD.out.set _ (.inl (Nat.le_refl _))).set _ (.inl (Nat.le_refl _))⟩
    case k360 =>
     go_simp
     refine Calls.mono (one_any (0) 99 g _ _ _ _ _ _ V4 HR.out (by omega) FL.out (by decide) (by rfl) (by decide) (by decide) (by rfl)) ?_
     rintro e V5 ⟨z, rfl, hz, hr_, hd_⟩
     clear cF1_0 cF1_1 dF1_0 dF1_1 cF2_0 cF2_1 dF2_0 dF2_1 zF1 zF2
     clear FL
     replace F1 := Aside0.mk (hd_.blk F1.out (by omega))
     replace F2 := Aside0.mk (hd_.blk F2.out (by omega))
     replace FI := Aside0.mk (hd_.blk FI.out (by omega))
     replace HS := Aside0.mk (Dr.S hd_ HS.out hgl)
     replace HR := Aside0.mk hr_
     replace HD := Aside0.mk (Dr.then_ HD.out hd_)
     have yV5 := HD.out.size
     clear hr_ hd_
     have cF1_0 : V5.cell? ⟨w1.heap.size, 0, none⟩ = some (.int .i64 la) := clq F1.out 0 rfl
     have dF1_0 := fzq F1.out 0
     have cF1_1 : V5.cell? ⟨w1.heap.size, 1, none⟩ = some (.slice (some ⟨gb, 0, none⟩) xs.length d) := clq F1.out 1 rfl
     have dF1_1 := fzq F1.out 1
     have cF2_0 : V5.cell? ⟨w.heap.size, 0, none⟩ = some (.int .i64 0) := clq F2.out 0 rfl
     have dF2_0 := fzq F2.out 0
     have cF2_1 : V5.cell? ⟨w.heap.size, 1, none⟩ = some (.slice none 0 0) := clq F2.out 1 rfl
     have dF2_1 := fzq F2.out 1
     have zF1 := blk_lt F1.out
     have zF2 := blk_lt F2.out
     refine hK.out _ _ ?h368 (fun hHeld => ?j368)
     case h368 => exact trivial
     clear hK K
     try simp only [Act.put, List.setIfInBounds_toArray, List.set_cons_zero, List.set_cons_succ]
     refine rdy (rs := [1]) ?_
     refine rc (fun K hK => ?k369) AllReadyH.nil
     case k369 =>
      go_simp
      refine hK.out _ _ ?h370 (fun hHeld => ?j370)
      case h370 => exact hHeld
      clear hK K
      try simp only [Act.put, List.setIfInBounds_toArray, List.set_cons_zero, List.set_cons_succ]
      refine tk 6 ?v371 ?y371 ?r371
      case y371 => intro w_ hSw; (try dsimp only at hSw); go_simp; (try (with_reducible rfl))
      try simp only [Act.put, List.setIfInBounds_toArray, List.set_cons_zero, List.set_cons_succ]
      refine tk 7 ?v372 ?y372 ?r372
      case y372 => intro w_ hSw; (try dsimp only at hSw); go_simp; (try (with_reducible rfl))
      try simp only [Act.put, List.setIfInBounds_toArray, List.set_cons_zero, List.set_cons_succ]
      refine rdy (rs := [8]) ?_
      refine rc (fun K hK => ?k373) AllReadyH.nil
      case k373 =>
       obtain ⟨ci, hil, hiM, hic, hif⟩ := Kd.R_elem (Kd.S_R HS.out) zItem (k3 : Int) (by omega) (by omega)
       rw [Int.toNat_natCast] at hiM hic hif
       rw [HY.out] at hiM
       obtain ⟨v0, v1, rfl, u0, u1⟩ := kItem_openM hiM
       simp only [show kItem.sz = 5 from rfl] at hic hif
       have i0_ : V5.cell? ⟨gb, k3 * 5, none⟩ = some (.int .i64 y.f0) := hic 0 _ rfl
       have j0_ : V5.frozen? ⟨gb, k3 * 5, none⟩ = false := hif 0
       go_simp
       generalize hW8 : World.setCell V5 _ _ = V8
       have hs := Kd.R_seg (Kd.S_R HS.out) (k3 : Int) (by omega) (by omega) (seg := [.int .i64 z]) (j := 0) hil (by rw [Int.toNat_natCast]; exact hic) (by show 0 + 1 ≤ 5; omega) (x' := (⟨z, y.f1, y.f2, y.f3⟩ : SItem)) (okp := fun k => True ∧ k ≠ gb) (kItem_mkM _ _ _ (⟨z, y.f1, y.f2, y.f3⟩ : SItem) u0 u1) (fun _ h => h)
       rw [Int.toNat_natCast] at hs
       simp only [World.setCells, show kItem.sz = 5 from rfl, Nat.add_zero] at hs
       rw [hW8] at hs
       have nF1 := Aside0.mk (by rw [← hW8]; exact blk_far F1.out (by show w1.heap.size ≠ gb; omega) _ : V8.heap[w1.heap.size]? = some (.cells #[.int .i64 la, .slice (some ⟨gb, 0, none⟩) xs.length d] 43 (0, 0)))
       have nF2 := Aside0.mk (by rw [← hW8]; exact blk_far F2.out (by show w.heap.size ≠ gb; omega) _ : V8.heap[w.heap.size]? = some (.cells #[.int .i64 0, .slice none 0 0] 43 (0, 0)))
       have nHR := HR.out.set (p := ⟨gb, k3 * 5, none⟩) (.int .i64 z) (by show g < gb; omega)
       have nHD := HD.out.set (p := ⟨gb, k3 * 5, none⟩) (.int .i64 z) (.inl (by show w.heap.size ≤ gb; omega))
       rw [hW8] at nHR nHD
       have HO := Aside0.mk hs.1
       clear cF1_0 cF1_1 dF1_0 dF1_1 cF2_0 cF2_1 dF2_0 dF2_1 zF1 zF2
       clear hW8 hs F1 F2 FI HR HD HS i0_ j0_ hic hif u0 u1 hil hiM
       have F1 := nF1
       have F2 := nF2
       have HR := Aside0.mk nHR
       have HD := Aside0.mk nHD
       clear nF1 nF2 nHR nHD
       have cF1_0 : V8.cell? ⟨w1.heap.size, 0, none⟩ = some (.int .i64 la) := clq F1.out 0 rfl
       have dF1_0 := fzq F1.out 0
       have cF1_1 : V8.cell? ⟨w1.heap.size, 1, none⟩ = some (.slice (some ⟨gb, 0, none⟩) xs.length d) := clq F1.out 1 rfl
       have dF1_1 := fzq F1.out 1
       have cF2_0 : V8.cell? ⟨w.heap.size, 0, none⟩ = some (.int .i64 0) := clq F2.out 0 rfl
       have dF2_0 := fzq F2.out 0
       have cF2_1 : V8.cell? ⟨w.heap.size, 1, none⟩ = some (.slice none 0 0) := clq F2.out 1 rfl
       have dF2_1 := fzq F2.out 1
       have zF1 := blk_lt F1.out
       have zF2 := blk_lt F2.out
       refine hK.out _ _ ?h374 (fun hHeld => ?j374)
       case h374 => exact trivial
       clear hK K
       try simp only [Act.put, List.setIfInBounds_toArray, List.set_cons_zero, List.set_cons_succ]
       refine wpAnyH_done (by kernel_rfl) ?_ _
       go_wp2
       refine bodyPost_ret (v := .agg #[.int .i64 la, .slice (some ⟨gb, 0, none⟩) xs.length d]) ?hr rfl ?hp
       case hr => simp [results, Tryd.results24, go_sem, cF2_0, cF2_1, dF2_0, dF2_1]
       case hp => exact ⟨⟨la, xs.set k3 (⟨z, y.f1, y.f2, y.f3⟩ : SItem)⟩, (some ⟨gb, 0, none⟩), d, (by show _ = _; rw [List.length_set]), ⟨⟨by dsimp only; omega, by dsimp only; omega⟩, by show (xs.set k3 _).length ≤ 8; rw [List.length_set]; omega, wide_set HX.out ⟨⟨by dsimp only; omega, by dsimp only; omega⟩, HGY.out.2.1, (goodI_wide HGY.out).2.2.1, HGY.out.2.2.2⟩⟩, R_other (by rw [List.length_set]; exact HO.out) (F2.out) (by decide) ((grown_set1 _ _ _ _).trans (grown_set1 _ _ _ _)), ((HR.out.set _ (by show g < w.heap.size; omega)).set _ (by show g < w.heap.size; omega)).up (by omega), (HD.out.set _ (.inl (Nat.le_refl _))).set _ (.inl (Nat.le_refl _))⟩
  ·have q0' : ((k4 : Int) == 0) = false := by simp; omega
   have q1' : ((k4 : Int) == 1) = true := by simp; omega
   clear h4
   obtain ⟨ci, hil, hiM, hic, hif⟩ := Kd.R_elem (Kd.S_R HS.out) zItem (k3 : Int) (by omega) (by omega)
   rw [Int.toNat_natCast] at hiM hic hif
   rw [HY.out] at hiM
   obtain ⟨v0, v1, rfl, u0, u1⟩ := kItem_openM hiM
   simp only [show kItem.sz = 5 from rfl] at hic hif
   have i3_ : w4.cell? ⟨gb, k3 * 5 + 3, none⟩ = some (v0) := hic 3 _ rfl
   have j3_ : w4.frozen? ⟨gb, k3 * 5 + 3, none⟩ = false := hif 3
   go_wp2
   have hs := Kd.R_seg (Kd.S_R HS.out) (k3 : Int) (by omega) (by omega) (seg := [.slice none 0 0]) (j := 3) hil (by rw [Int.toNat_natCast]; exact hic) (by show 3 + 1 ≤ 5; omega) (x' := (⟨y.f0, y.f1, [], y.f3⟩ : SItem)) (okp := fun k => True ∧ k ≠ gb) (kItem_mkM _ _ _ (⟨y.f0, y.f1, [], y.f3⟩ : SItem) (Kd.R_nil _ _ _ _ _) u1) (fun _ h => h)
   rw [Int.toNat_natCast] at hs
   simp only [World.setCells, show kItem.sz = 5 from rfl, Nat.add_zero] at hs
   refine bodyPost_ret (v := .agg #[.int .i64 la, .slice (some ⟨gb, 0, none⟩) xs.length d]) ?hr rfl ?hp
   case hr => simp [results, Tryd.results24, go_sem, cF2_0, cF2_1, dF2_0, dF2_1]
   case hp => exact ⟨⟨la, xs.set k3 (⟨y.f0, y.f1, [], y.f3⟩ : SItem)⟩, (some ⟨gb, 0, none⟩), d, (by show _ = _; rw [List.length_set]), ⟨⟨by dsimp only; omega, by dsimp only; omega⟩, by show (xs.set k3 _).length ≤ 8; rw [List.length_set]; omega, wide_set HX.out ⟨HGY.out.1, HGY.out.2.1, ⟨by show 0 ≤ 4; omega, fun r hr => by cases hr⟩, HGY.out.2.2.2⟩⟩, R_other (by rw [List.length_set]; exact hs.1) (blk_far F2.out (p := ⟨gb, k3 * 5 + 3, none⟩) (by show w.heap.size ≠ gb; omega) _) (by decide) ((grown_set1 _ _ _ _).trans (grown_set1 _ _ _ _)), (((HR.out.set (p := ⟨gb, k3 * 5 + 3, none⟩) _ (by show g < gb; omega)).set _ (by show g < w.heap.size; omega)).set _ (by show g < w.heap.size; omega)).up (by omega), ((HD.out.set (p := ⟨gb, k3 * 5 + 3, none⟩) _ (.inl (by show w.heap.size ≤ gb; omega))).set _ (.inl (Nat.le_refl _))).set _ (.inl (Nat.le_refl _))⟩
  ·have q0' : ((k4 : Int) == 0) = false := by simp; omega
   have q1' : ((k4 : Int) == 1) = false := by simp; omega
   have q2' : ((k4 : Int) == 2) = true := by simp; omega
   clear h4
   obtain ⟨ci, hil, hiM, hic, hif⟩ := Kd.R_elem (Kd.S_R HS.out) zItem (k3 : Int) (by omega) (by omega)
   rw [Int.toNat_natCast] at hiM hic hif
   rw [HY.out] at hiM
   obtain ⟨v0, v1, rfl, u0, u1⟩ := kItem_openM hiM
   simp only [show kItem.sz = 5 from rfl] at hic hif
   obtain ⟨A0, du, hv⟩ := Kd.R_slice u0
   subst hv
   obtain ⟨gu, hgu, hgu1, hgu2⟩ := own_form2 u0 (by omega)
   subst hgu
   have hci := cells_at FI.out (hic 3 _ rfl)
   have HCI := Lib.hid hci
   clear hic hif u0 u1 hil hiM hci
   go_wp2
   refine wp_region_held_drew (S := (fun _ => True)) (by kernel_rfl) ?s375 (fun hHeld => ?t375)
   case s375 => exact trivial
   generalize hV0 : World.drew w4 = V0
   have bV : Below w4.heap.size w4 V0 := by rw [← hV0]; exact drew_below0 w4
   clear hV0
   clear cF1_0 cF1_1 dF1_0 dF1_1 cF2_0 cF2_1 dF2_0 dF2_1 zF1 zF2
   replace F1 := Aside0.mk (below_blk F1.out bV)
   replace F2 := Aside0.mk (below_blk F2.out bV)
   replace FI := Aside0.mk (below_blk FI.out bV)
   replace HS := Aside0.mk (Kd.S_below HS.out bV)
   replace HR := Aside0.mk (HR.out.below bV)
   replace HD := Aside0.mk (HD.out.below bV)
   have yV0 := HD.out.size
   clear bV
   have cF1_0 : V0.cell? ⟨w1.heap.size, 0, none⟩ = some (.int .i64 la) := clq F1.out 0 rfl
   have dF1_0 := fzq F1.out 0
   have cF1_1 : V0.cell? ⟨w1.heap.size, 1, none⟩ = some (.slice (some ⟨gb, 0, none⟩) xs.length d) := clq F1.out 1 rfl
   have dF1_1 := fzq F1.out 1
   have cF2_0 : V0.cell? ⟨w.heap.size, 0, none⟩ = some (.int .i64 0) := clq F2.out 0 rfl
   have dF2_0 := fzq F2.out 0
   have cF2_1 : V0.cell? ⟨w.heap.size, 1, none⟩ = some (.slice none 0 0) := clq F2.out 1 rfl
   have dF2_1 := fzq F2.out 1
   have zF1 := blk_lt F1.out
   have zF2 := blk_lt F2.out
   refine tk 0 ?v376 ?y376 ?r376
   case y376 => intro w_ hSw; (try dsimp only at hSw); go_simp; (try (with_reducible rfl))
   try simp only [Act.put, List.setIfInBounds_toArray, List.set_cons_zero, List.set_cons_succ]
   refine tk 2 ?v377 ?y377 ?r377
   case y377 => intro w_ hSw; (try dsimp only at hSw); go_simp; (try (with_reducible rfl))
   try simp only [Act.put, List.setIfInBounds_toArray, List.set_cons_zero, List.set_cons_succ]
   refine tk 6 ?v378 ?y378 ?r378
   case y378 => intro w_ hSw; (try dsimp only at hSw); go_simp; (try (with_reducible rfl))
   try simp only [Act.put, List.setIfInBounds_toArray, List.set_cons_zero, List.set_cons_succ]
   refine rdy (rs := [1, 7]) ?_
   refine rc (fun K hK => ?k379) (rc (fun K hK => ?k380) AllReadyH.nil)
   case k379 =>
    go_simp
    refine hK.out _ _ ?h381 (fun hHeld => ?j381)
    case h381 => exact hHeld
    clear hK K
    try simp only [Act.put, List.setIfInBounds_toArray, List.set_cons_zero, List.set_cons_succ]
    refine tk 3 ?v382 ?y382 ?r382
    case y382 => intro w_ hSw; (try dsimp only at hSw); go_simp; (try (with_reducible rfl))
    try simp only [Act.put, List.setIfInBounds_toArray, List.set_cons_zero, List.set_cons_succ]
    refine tk 4 ?v383 ?y383 ?r383
    case y383 => intro w_ hSw; (try dsimp only at hSw); go_simp; (try (with_reducible rfl))
    try simp only [Act.put, List.setIfInBounds_toArray, List.set_cons_zero, List.set_cons_succ]
    refine rdy (rs := [5, 7]) ?_
    refine rc (fun K hK => ?k384) (rc (fun K hK => ?k385) AllReadyH.nil)
    case k384 =>
     have i3_ : V0.cell? ⟨gb, k3 * 5 + 3, none⟩ = some (.slice (some ⟨gu, 0, none⟩) y.f2.length du) := cell_of FI.out HCI.out
     go_simp
     refine hK.out _ _ ?h386 (fun hHeld => ?j386)
     case h386 => exact hHeld
     clear hK K
     try simp only [Act.put, List.setIfInBounds_toArray, List.set_cons_zero, List.set_cons_succ]
     refine rdy (rs := [7]) ?_
     refine rc (fun K hK => ?k387) AllReadyH.nil
     case k387 =>
      go_simp
      generalize hVa : World.alloc V0 _ = V7
      have bV : Below V0.heap.size V0 V7 := by rw [← hVa]; exact bel_alloc (Below.refl _ _) _
      have FL : Aside0 (V7.heap[V0.heap.size]? = some (.cells #[.int .i64 (-1), .int .i64 4] 3 (0, 0))) := ⟨by rw [← hVa]; exact blk_new _ _⟩
      clear hVa
      clear cF1_0 cF1_1 dF1_0 dF1_1 cF2_0 cF2_1 dF2_0 dF2_1 zF1 zF2
      replace F1 := Aside0.mk (below_blk F1.out bV)
      replace F2 := Aside0.mk (below_blk F2.out bV)
      replace FI := Aside0.mk (below_blk FI.out bV)
      replace HS := Aside0.mk (Kd.S_below HS.out bV)
      replace HR := Aside0.mk (HR.out.below bV)
      replace HD := Aside0.mk (HD.out.below bV)
      have yV7 := HD.out.size
      clear bV
      have cF1_0 : V7.cell? ⟨w1.heap.size, 0, none⟩ = some (.int .i64 la) := clq F1.out 0 rfl
      have dF1_0 := fzq F1.out 0
      have cF1_1 : V7.cell? ⟨w1.heap.size, 1, none⟩ = some (.slice (some ⟨gb, 0, none⟩) xs.length d) := clq F1.out 1 rfl
      have dF1_1 := fzq F1.out 1
      have cF2_0 : V7.cell? ⟨w.heap.size, 0, none⟩ = some (.int .i64 0) := clq F2.out 0 rfl
      have dF2_0 := fzq F2.out 0
      have cF2_1 : V7.cell? ⟨w.heap.size, 1, none⟩ = some (.slice none 0 0) := clq F2.out 1 rfl
      have dF2_1 := fzq F2.out 1
      have zF1 := blk_lt F1.out
      have zF2 := blk_lt F2.out
      refine hK.out _ _ ?h388 (fun hHeld => ?j388)
      case h388 => exact trivial
      clear hK K
      try simp only [Act.put, List.setIfInBounds_toArray, List.set_cons_zero, List.set_cons_succ]
      refine rdy (rs := [8]) ?_
      refine rc (fun K hK => ?k389) AllReadyH.nil
      case k389 =>
       go_simp
       refine Calls.mono (one_any (-1) 4 g _ _ _ _ _ _ V7 HR.out (by omega) FL.out (by decide) (by rfl) (by decide) (by decide) (by rfl)) ?_
       rintro e V8 ⟨z, rfl, hz, hr_, hd_⟩
       clear cF1_0 cF1_1 dF1_0 dF1_1 cF2_0 cF2_1 dF2_0 dF2_1 zF1 zF2
       clear FL
       replace F1 := Aside0.mk (hd_.blk F1.out (by omega))
       replace F2 := Aside0.mk (hd_.blk F2.out (by omega))
       replace FI := Aside0.mk (hd_.blk FI.out (by omega))
       replace HS := Aside0.mk (Dr.S hd_ HS.out hgl)
       replace HR := Aside0.mk hr_
       replace HD := Aside0.mk (Dr.then_ HD.out hd_)
       have yV8 := HD.out.size
       clear hr_ hd_
       have cF1_0 : V8.cell? ⟨w1.heap.size, 0, none⟩ = some (.int .i64 la) := clq F1.out 0 rfl
       have dF1_0 := fzq F1.out 0
       have cF1_1 : V8.cell? ⟨w1.heap.size, 1, none⟩ = some (.slice (some ⟨gb, 0, none⟩) xs.length d) := clq F1.out 1 rfl
       have dF1_1 := fzq F1.out 1
       have cF2_0 : V8.cell? ⟨w.heap.size, 0, none⟩ = some (.int .i64 0) := clq F2.out 0 rfl
       have dF2_0 := fzq F2.out 0
       have cF2_1 : V8.cell? ⟨w.heap.size, 1, none⟩ = some (.slice none 0 0) := clq F2.out 1 rfl
       have dF2_1 := fzq F2.out 1
       have zF1 := blk_lt F1.out
       have zF2 := blk_lt F2.out
       refine hK.out _ _ ?h390 (fun hHeld => ?j390)
       case h390 => exact trivial
       clear hK K
       try simp only [Act.put, List.setIfInBounds_toArray, List.set_cons_zero, List.set_cons_succ]
       refine tk 9 ?v391 ?y391 ?r391
       case y391 => intro w_ hSw; (try dsimp only at hSw); go_simp; (try (with_reducible rfl))
       try simp only [Act.put, List.setIfInBounds_toArray, List.set_cons_zero, List.set_cons_succ]
       refine tk 10 ?v392 ?y392 ?r392
       case y392 => intro w_ hSw; (try dsimp only at hSw); go_simp; (try (with_reducible rfl))
       try simp only [Act.put, List.setIfInBounds_toArray, List.set_cons_zero, List.set_cons_succ]
       refine rdy (rs := [11]) ?_
       refine rc (fun K hK => ?k393) AllReadyH.nil
       case k393 =>
        obtain ⟨oki, ci, hcl, hiM, hic, hoki, hH⟩ := Kd.S_lend HS.out zItem (k3 : Int) (by omega) (by omega)
        rw [Int.toNat_natCast] at hiM hic
        rw [HY.out] at hiM
        obtain ⟨v0, v1, rfl, u0, u1⟩ := kItem_openM hiM
        simp only [show kItem.sz = 5 from rfl] at hic
        obtain rfl : v0 = .slice (some ⟨gu, 0, none⟩) y.f2.length du := Option.some.inj ((hic 3 _ rfl).symm.trans (cell_of FI.out HCI.out))
        obtain ⟨ce, hce, hM_, hcc, hfr⟩ := Kd.R_elem u0 zRcpt ((0 : Nat) : Int) (by omega) (by omega)
        rw [Int.toNat_natCast] at hM_ hcc hfr
        obtain rfl := kRcpt_openM hM_
        have r2_ : V8.cell? ⟨gu, 2, none⟩ = some (.int .i64 (y.f2.getD 0 zRcpt).f1) := by have h_ := hcc 2 _ rfl; simpa using h_
        have f2_ : V8.frozen? ⟨gu, 2, none⟩ = false := by have h_ := hfr 2; simpa using h_
        go_simp
        generalize hW8 : World.setCell V8 _ _ = V9
        have hu := own_put2 u0 0 (by omega) (⟨(y.f2.getD 0 zRcpt).f0, z, (y.f2.getD 0 zRcpt).f2⟩ : SRcpt) [.string (y.f2.getD 0 zRcpt).f0.f0, .string (y.f2.getD 0 zRcpt).f0.f1, .int .i64 (y.f2.getD 0 zRcpt).f1, .int .i64 (y.f2.getD 0 zRcpt).f2] rfl 2 (.int .i64 z) (by decide) (kRcpt_mkM _ _ _ (⟨(y.f2.getD 0 zRcpt).f0, z, (y.f2.getD 0 zRcpt).f2⟩ : SRcpt)) hcc
        simp only [Nat.zero_mul, Nat.zero_add] at hu
        rw [hW8] at hu
        have hs := Kd.H_back (Kd.H_grown hH hu.2 (fun q hq => u0.1 q hq)) (kItem_mkM _ _ _ (⟨y.f0, y.f1, y.f2.set 0 (⟨(y.f2.getD 0 zRcpt).f0, z, (y.f2.getD 0 zRcpt).f2⟩ : SRcpt), y.f3⟩ : SItem) hu.1 (Kd.R_over' u1 (Kd.R_typed u0) (by decide) hu.2)) (fun _ h => h)
        rw [Int.toNat_natCast] at hs
        have nF1 := Aside0.mk (by rw [← hW8]; exact blk_far F1.out (by show w1.heap.size ≠ gu; exact fun e => Kd.R_ne u0 F1.out (by decide) (by rw [e]; rfl)) _ : V9.heap[w1.heap.size]? = some (.cells #[.int .i64 la, .slice (some ⟨gb, 0, none⟩) xs.length d] 43 (0, 0)))
        have nF2 := Aside0.mk (by rw [← hW8]; exact blk_far F2.out (by show w.heap.size ≠ gu; exact fun e => Kd.R_ne u0 F2.out (by decide) (by rw [e]; rfl)) _ : V9.heap[w.heap.size]? = some (.cells #[.int .i64 0, .slice none 0 0] 43 (0, 0)))
        have nHR := HR.out.set (p := ⟨gu, 2, none⟩) (.int .i64 z) (by show g < gu; omega)
        have nHD := HD.out.set (p := ⟨gu, 2, none⟩) (.int .i64 z) (.inl (by show w.heap.size ≤ gu; omega))
        rw [hW8] at nHR nHD
        have HO := Aside0.mk (Kd.S_R hs)
        clear cF1_0 cF1_1 dF1_0 dF1_1 cF2_0 cF2_1 dF2_0 dF2_1 zF1 zF2
        clear hW8 hs hu F1 F2 FI HR HD HS r2_ f2_ hcc hfr u0 u1 hcl hH hoki hic hiM hM_ hce
        have F1 := nF1
        have F2 := nF2
        have HR := Aside0.mk nHR
        have HD := Aside0.mk nHD
        clear nF1 nF2 nHR nHD
        have cF1_0 : V9.cell? ⟨w1.heap.size, 0, none⟩ = some (.int .i64 la) := clq F1.out 0 rfl
        have dF1_0 := fzq F1.out 0
        have cF1_1 : V9.cell? ⟨w1.heap.size, 1, none⟩ = some (.slice (some ⟨gb, 0, none⟩) xs.length d) := clq F1.out 1 rfl
        have dF1_1 := fzq F1.out 1
        have cF2_0 : V9.cell? ⟨w.heap.size, 0, none⟩ = some (.int .i64 0) := clq F2.out 0 rfl
        have dF2_0 := fzq F2.out 0
        have cF2_1 : V9.cell? ⟨w.heap.size, 1, none⟩ = some (.slice none 0 0) := clq F2.out 1 rfl
        have dF2_1 := fzq F2.out 1
        have zF1 := blk_lt F1.out
        have zF2 := blk_lt F2.out
        refine hK.out _ _ ?h394 (fun hHeld => ?j394)
        case h394 => exact trivial
        clear hK K
        try simp only [Act.put, List.setIfInBounds_toArray, List.set_cons_zero, List.set_cons_succ]
        refine wpAnyH_done (by kernel_rfl) ?_ _
        go_wp2
        refine bodyPost_ret (v := .agg #[.int .i64 la, .slice (some ⟨gb, 0, none⟩) xs.length d]) ?hr rfl ?hp
        case hr => simp [results, Tryd.results24, go_sem, cF2_0, cF2_1, dF2_0, dF2_1]
        case hp => exact ⟨⟨la, xs.set k3 (⟨y.f0, y.f1, y.f2.set 0 (⟨(y.f2.getD 0 zRcpt).f0, z, (y.f2.getD 0 zRcpt).f2⟩ : SRcpt), y.f3⟩ : SItem)⟩, (some ⟨gb, 0, none⟩), d, (by show _ = _; rw [List.length_set]), ⟨⟨by dsimp only; omega, by dsimp only; omega⟩, by show (xs.set k3 _).length ≤ 8; rw [List.length_set]; omega, wide_set HX.out (wide_tries HGY.out hz)⟩, R_other (by rw [List.length_set]; exact HO.out) (F2.out) (by decide) ((grown_set1 _ _ _ _).trans (grown_set1 _ _ _ _)), ((HR.out.set _ (by show g < w.heap.size; omega)).set _ (by show g < w.heap.size; omega)).up (by omega), (HD.out.set _ (.inl (Nat.le_refl _))).set _ (.inl (Nat.le_refl _))⟩
    case k385 =>
     go_simp
     generalize hVa : World.alloc V0 _ = V7
     have bV : Below V0.heap.size V0 V7 := by rw [← hVa]; exact bel_alloc (Below.refl _ _) _
     have FL : Aside0 (V7.heap[V0.heap.size]? = some (.cells #[.int .i64 (-1), .int .i64 4] 3 (0, 0))) := ⟨by rw [← hVa]; exact blk_new _ _⟩
     clear hVa
     clear cF1_0 cF1_1 dF1_0 dF1_1 cF2_0 cF2_1 dF2_0 dF2_1 zF1 zF2
     replace F1 := Aside0.mk (below_blk F1.out bV)
     replace F2 := Aside0.mk (below_blk F2.out bV)
     replace FI := Aside0.mk (below_blk FI.out bV)
     replace HS := Aside0.mk (Kd.S_below HS.out bV)
     replace HR := Aside0.mk (HR.out.below bV)
     replace HD := Aside0.mk (HD.out.below bV)
     have yV7 := HD.out.size
     clear bV
     have cF1_0 : V7.cell? ⟨w1.heap.size, 0, none⟩ = some (.int .i64 la) := clq F1.out 0 rfl
     have dF1_0 := fzq F1.out 0
     have cF1_1 : V7.cell? ⟨w1.heap.size, 1, none⟩ = some (.slice (some ⟨gb, 0, none⟩) xs.length d) := clq F1.out 1 rfl
     have dF1_1 := fzq F1.out 1
     have cF2_0 : V7.cell? ⟨w.heap.size, 0, none⟩ = some (.int .i64 0) := clq F2.out 0 rfl
     have dF2_0 := fzq F2.out 0
     have cF2_1 : V7.cell? ⟨w.heap.size, 1, none⟩ = some (.slice none 0 0) := clq F2.out 1 rfl
     have dF2_1 := fzq F2.out 1
     have zF1 := blk_lt F1.out
     have zF2 := blk_lt F2.out
     refine hK.out _ _ ?h395 (fun hHeld => ?j395)
     case h395 => exact trivial
     clear hK K
     try simp only [Act.put, List.setIfInBounds_toArray, List.set_cons_zero, List.set_cons_succ]
     refine rdy (rs := [5, 8]) ?_
     refine rc (fun K hK => ?k396) (rc (fun K hK => ?k397) AllReadyH.nil)
     case k396 =>
      have i3_ : V7.cell? ⟨gb, k3 * 5 + 3, none⟩ = some (.slice (some ⟨gu, 0, none⟩) y.f2.length du) := cell_of FI.out HCI.out
      go_simp
      refine hK.out _ _ ?h398 (fun hHeld => ?j398)
      case h398 => exact hHeld
      clear hK K
      try simp only [Act.put, List.setIfInBounds_toArray, List.set_cons_zero, List.set_cons_succ]
      refine rdy (rs := [8]) ?_
      refine rc (fun K hK => ?k399) AllReadyH.nil
      case k399 =>
       go_simp
       refine Calls.mono (one_any (-1) 4 g _ _ _ _ _ _ V7 HR.out (by omega) FL.out (by decide) (by rfl) (by decide) (by decide) (by rfl)) ?_
       rintro e V8 ⟨z, rfl, hz, hr_, hd_⟩
       clear cF1_0 cF1_1 dF1_0 dF1_1 cF2_0 cF2_1 dF2_0 dF2_1 zF1 zF2
       clear FL
       replace F1 := Aside0.mk (hd_.blk F1.out (by omega))
       replace F2 := Aside0.mk (hd_.blk F2.out (by omega))
       replace FI := Aside0.mk (hd_.blk FI.out (by omega))
       replace HS := Aside0.mk (Dr.S hd_ HS.out hgl)
       replace HR := Aside0.mk hr_
       replace HD := Aside0.mk (Dr.then_ HD.out hd_)
       have yV8 := HD.out.size
       clear hr_ hd_
       have cF1_0 : V8.cell? ⟨w1.heap.size, 0, none⟩ = some (.int .i64 la) := clq F1.out 0 rfl
       have dF1_0 := fzq F1.out 0
       have cF1_1 : V8.cell? ⟨w1.heap.size, 1, none⟩ = some (.slice (some ⟨gb, 0, none⟩) xs.length d) := clq F1.out 1 rfl
       have dF1_1 := fzq F1.out 1
       have cF2_0 : V8.cell? ⟨w.heap.size, 0, none⟩ = some (.int .i64 0) := clq F2.out 0 rfl
       have dF2_0 := fzq F2.out 0
       have cF2_1 : V8.cell? ⟨w.heap.size, 1, none⟩ = some (.slice none 0 0) := clq F2.out 1 rfl
       have dF2_1 := fzq F2.out 1
       have zF1 := blk_lt F1.out
       have zF2 := blk_lt F2.out
       refine hK.out _ _ ?h400 (fun hHeld => ?j400)
       case h400 => exact trivial
       clear hK K
       try simp only [Act.put, List.setIfInBounds_toArray, List.set_cons_zero, List.set_cons_succ]
       refine tk 9 ?v401 ?y401 ?r401
       case y401 => intro w_ hSw; (try dsimp only at hSw); go_simp; (try (with_reducible rfl))
       try simp only [Act.put, List.setIfInBounds_toArray, List.set_cons_zero, List.set_cons_succ]
       refine tk 10 ?v402 ?y402 ?r402
       case y402 => intro w_ hSw; (try dsimp only at hSw); go_simp; (try (with_reducible rfl))
       try simp only [Act.put, List.setIfInBounds_toArray, List.set_cons_zero, List.set_cons_succ]
       refine rdy (rs := [11]) ?_
       refine rc (fun K hK => ?k403) AllReadyH.nil
       case k403 =>
        obtain ⟨oki, ci, hcl, hiM, hic, hoki, hH⟩ := Kd.S_lend HS.out zItem (k3 : Int) (by omega) (by omega)
        rw [Int.toNat_natCast] at hiM hic
        rw [HY.out] at hiM
        obtain ⟨v0, v1, rfl, u0, u1⟩ := kItem_openM hiM
        simp only [show kItem.sz = 5 from rfl] at hic
        obtain rfl : v0 = .slice (some ⟨gu, 0, none⟩) y.f2.length du := Option.some.inj ((hic 3 _ rfl).symm.trans (cell_of FI.out HCI.out))
        obtain ⟨ce, hce, hM_, hcc, hfr⟩ := Kd.R_elem u0 zRcpt ((0 : Nat) : Int) (by omega) (by omega)
        rw [Int.toNat_natCast] at hM_ hcc hfr
        obtain rfl := kRcpt_openM hM_
        have r2_ : V8.cell? ⟨gu, 2, none⟩ = some (.int .i64 (y.f2.getD 0 zRcpt).f1) := by have h_ := hcc 2 _ rfl; simpa using h_
        have f2_ : V8.frozen? ⟨gu, 2, none⟩ = false := by have h_ := hfr 2; simpa using h_
        go_simp
        generalize hW8 : World.setCell V8 _ _ = V9
        have hu := own_put2 u0 0 (by omega) (⟨(y.f2.getD 0 zRcpt).f0, z, (y.f2.getD 0 zRcpt).f2⟩ : SRcpt) [.string (y.f2.getD 0 zRcpt).f0.f0, .string (y.f2.getD 0 zRcpt).f0.f1, .int .i64 (y.f2.getD 0 zRcpt).f1, .int .i64 (y.f2.getD 0 zRcpt).f2] rfl 2 (.int .i64 z) (by decide) (kRcpt_mkM _ _ _ (⟨(y.f2.getD 0 zRcpt).f0, z, (y.f2.getD 0 zRcpt).f2⟩ : SRcpt)) hcc
        simp only [Nat.zero_mul, Nat.zero_add] at hu
        rw [hW8] at hu
        have hs := Kd.H_back (Kd.H_grown hH hu.2 (fun q hq => u0.1 q hq)) (kItem_mkM _ _ _ (⟨y.f0, y.f1, y.f2.set 0 (⟨(y.f2.getD 0 zRcpt).f0, z, (y.f2.getD 0 zRcpt).f2⟩ : SRcpt), y.f3⟩ : SItem) hu.1 (Kd.R_over' u1 (Kd.R_typed u0) (by decide) hu.2)) (fun _ h => h)
        rw [Int.toNat_natCast] at hs
        have nF1 := Aside0.mk (by rw [← hW8]; exact blk_far F1.out (by show w1.heap.size ≠ gu; exact fun e => Kd.R_ne u0 F1.out (by decide) (by rw [e]; rfl)) _ : V9.heap[w1.heap.size]? = some (.cells #[.int .i64 la, .slice (some ⟨gb, 0, none⟩) xs.length d] 43 (0, 0)))
        have nF2 := Aside0.mk (by rw [← hW8]; exact blk_far F2.out (by show w.heap.size ≠ gu; exact fun e => Kd.R_ne u0 F2.out (by decide) (by rw [e]; rfl)) _ : V9.heap[w.heap.size]? = some (.cells #[.int .i64 0, .slice none 0 0] 43 (0, 0)))
        have nHR := HR.out.set (p := ⟨gu, 2, none⟩) (.int .i64 z) (by show g < gu; omega)
        have nHD := HD.out.set (p := ⟨gu, 2, none⟩) (.int .i64 z) (.inl (by show w.heap.size ≤ gu; omega))
        rw [hW8] at nHR nHD
        have HO := Aside0.mk (Kd.S_R hs)
        clear cF1_0 cF1_1 dF1_0 dF1_1 cF2_0 cF2_1 dF2_0 dF2_1 zF1 zF2
        clear hW8 hs hu F1 F2 FI HR HD HS r2_ f2_ hcc hfr u0 u1 hcl hH hoki hic hiM hM_ hce
        have F1 := nF1
        have F2 := nF2
        have HR := Aside0.mk nHR
        have HD := Aside0.mk nHD
        clear nF1 nF2 nHR nHD
        have cF1_0 : V9.cell? ⟨w1.heap.size, 0, none⟩ = some (.int .i64 la) := clq F1.out 0 rfl
        have dF1_0 := fzq F1.out 0
        have cF1_1 : V9.cell? ⟨w1.heap.size, 1, none⟩ = some (.slice (some ⟨gb, 0, none⟩) xs.length d) := clq F1.out 1 rfl
        have dF1_1 := fzq F1.out 1
        have cF2_0 : V9.cell? ⟨w.heap.size, 0, none⟩ = some (.int .i64 0) := clq F2.out 0 rfl
        have dF2_0 := fzq F2.out 0
        have cF2_1 : V9.cell? ⟨w.heap.size, 1, none⟩ = some (.slice none 0 0) := clq F2.out 1 rfl
        have dF2_1 := fzq F2.out 1
        have zF1 := blk_lt F1.out
        have zF2 := blk_lt F2.out
        refine hK.out _ _ ?h404 (fun hHeld => ?j404)
        case h404 => exact trivial
        clear hK K
        try simp only [Act.put, List.setIfInBounds_toArray, List.set_cons_zero, List.set_cons_succ]
        refine wpAnyH_done (by kernel_rfl) ?_ _
        go_wp2
        refine bodyPost_ret (v := .agg #[.int .i64 la, .slice (some ⟨gb, 0, none⟩) xs.length d]) ?hr rfl ?hp
        case hr => simp [results, Tryd.results24, go_sem, cF2_0, cF2_1, dF2_0, dF2_1]
        case hp => exact ⟨⟨la, xs.set k3 (⟨y.f0, y.f1, y.f2.set 0 (⟨(y.f2.getD 0 zRcpt).f0, z, (y.f2.getD 0 zRcpt).f2⟩ : SRcpt), y.f3⟩ : SItem)⟩, (some ⟨gb, 0, none⟩), d, (by show _ = _; rw [List.length_set]), ⟨⟨by dsimp only; omega, by dsimp only; omega⟩, by show (xs.set k3 _).length ≤ 8; rw [List.length_set]; omega, wide_set HX.out (wide_tries HGY.out hz)⟩, R_other (by rw [List.length_set]; exact HO.out) (F2.out) (by decide) ((grown_set1 _ _ _ _).trans (grown_set1 _ _ _ _)), ((HR.out.set _ (by show g < w.heap.size; omega)).set _ (by show g < w.heap.size; omega)).up (by omega), (HD.out.set _ (.inl (Nat.le_refl _))).set _ (.inl (Nat.le_refl _))⟩
     case k397 =>
      go_simp
      refine Calls.mono (one_any (-1) 4 g _ _ _ _ _ _ V7 HR.out (by omega) FL.out (by decide) (by rfl) (by decide) (by decide) (by rfl)) ?_
      rintro e V8 ⟨z, rfl, hz, hr_, hd_⟩
      clear cF1_0 cF1_1 dF1_0 dF1_1 cF2_0 cF2_1 dF2_0 dF2_1 zF1 zF2
      clear FL
      replace F1 := Aside0.mk (hd_.blk F1.out (by omega))
      replace F2 := Aside0.mk (hd_.blk F2.out (by omega))
      replace FI := Aside0.mk (hd_.blk FI.out (by omega))
      replace HS := Aside0.mk (Dr.S hd_ HS.out hgl)
      replace HR := Aside0.mk hr_
      replace HD := Aside0.mk (Dr.then_ HD.out hd_)
      have yV8 := HD.out.size
      clear hr_ hd_
      have cF1_0 : V8.cell? ⟨w1.heap.size, 0, none⟩ = some (.int .i64 la) := clq F1.out 0 rfl
      have dF1_0 := fzq F1.out 0
      have cF1_1 : V8.cell? ⟨w1.heap.size, 1, none⟩ = some (.slice (some ⟨gb, 0, none⟩) xs.length d) := clq F1.out 1 rfl
      have dF1_1 := fzq F1.out 1
      have cF2_0 : V8.cell? ⟨w.heap.size, 0, none⟩ = some (.int .i64 0) := clq F2.out 0 rfl
      have dF2_0 := fzq F2.out 0
      have cF2_1 : V8.cell? ⟨w.heap.size, 1, none⟩ = some (.slice none 0 0) := clq F2.out 1 rfl
      have dF2_1 := fzq F2.out 1
      have zF1 := blk_lt F1.out
      have zF2 := blk_lt F2.out
      refine hK.out _ _ ?h405 (fun hHeld => ?j405)
      case h405 => exact trivial
      clear hK K
      try simp only [Act.put, List.setIfInBounds_toArray, List.set_cons_zero, List.set_cons_succ]
      refine rdy (rs := [5]) ?_
      refine rc (fun K hK => ?k406) AllReadyH.nil
      case k406 =>
       have i3_ : V8.cell? ⟨gb, k3 * 5 + 3, none⟩ = some (.slice (some ⟨gu, 0, none⟩) y.f2.length du) := cell_of FI.out HCI.out
       go_simp
       refine hK.out _ _ ?h407 (fun hHeld => ?j407)
       case h407 => exact hHeld
       clear hK K
       try simp only [Act.put, List.setIfInBounds_toArray, List.set_cons_zero, List.set_cons_succ]
       refine tk 9 ?v408 ?y408 ?r408
       case y408 => intro w_ hSw; (try dsimp only at hSw); go_simp; (try (with_reducible rfl))
       try simp only [Act.put, List.setIfInBounds_toArray, List.set_cons_zero, List.set_cons_succ]
       refine tk 10 ?v409 ?y409 ?r409
       case y409 => intro w_ hSw; (try dsimp only at hSw); go_simp; (try (with_reducible rfl))
       try simp only [Act.put, List.setIfInBounds_toArray, List.set_cons_zero, List.set_cons_succ]
       refine rdy (rs := [11]) ?_
       refine rc (fun K hK => ?k410) AllReadyH.nil
       case k410 =>
        obtain ⟨oki, ci, hcl, hiM, hic, hoki, hH⟩ := Kd.S_lend HS.out zItem (k3 : Int) (by omega) (by omega)
        rw [Int.toNat_natCast] at hiM hic
        rw [HY.out] at hiM
        obtain ⟨v0, v1, rfl, u0, u1⟩ := kItem_openM hiM
        simp only [show kItem.sz = 5 from rfl] at hic
        obtain rfl : v0 = .slice (some ⟨gu, 0, none⟩) y.f2.length du := Option.some.inj ((hic 3 _ rfl).symm.trans (cell_of FI.out HCI.out))
        obtain ⟨ce, hce, hM_, hcc, hfr⟩ := Kd.R_elem u0 zRcpt ((0 : Nat) : Int) (by omega) (by omega)
        rw [Int.toNat_natCast] at hM_ hcc hfr
        obtain rfl := kRcpt_openM hM_
        have r2_ : V8.cell? ⟨gu, 2, none⟩ = some (.int .i64 (y.f2.getD 0 zRcpt).f1) := by have h_ := hcc 2 _ rfl; simpa using h_
        have f2_ : V8.frozen? ⟨gu, 2, none⟩ = false := by have h_ := hfr 2; simpa using h_
        go_simp
        generalize hW8 : World.setCell V8 _ _ = V9
        have hu := own_put2 u0 0 (by omega) (⟨(y.f2.getD 0 zRcpt).f0, z, (y.f2.getD 0 zRcpt).f2⟩ : SRcpt) [.string (y.f2.getD 0 zRcpt).f0.f0, .string (y.f2.getD 0 zRcpt).f0.f1, .int .i64 (y.f2.getD 0 zRcpt).f1, .int .i64 (y.f2.getD 0 zRcpt).f2] rfl 2 (.int .i64 z) (by decide) (kRcpt_mkM _ _ _ (⟨(y.f2.getD 0 zRcpt).f0, z, (y.f2.getD 0 zRcpt).f2⟩ : SRcpt)) hcc
        simp only [Nat.zero_mul, Nat.zero_add] at hu
        rw [hW8] at hu
        have hs := Kd.H_back (Kd.H_grown hH hu.2 (fun q hq => u0.1 q hq)) (kItem_mkM _ _ _ (⟨y.f0, y.f1, y.f2.set 0 (⟨(y.f2.getD 0 zRcpt).f0, z, (y.f2.getD 0 zRcpt).f2⟩ : SRcpt), y.f3⟩ : SItem) hu.1 (Kd.R_over' u1 (Kd.R_typed u0) (by decide) hu.2)) (fun _ h => h)
        rw [Int.toNat_natCast] at hs
        have nF1 := Aside0.mk (by rw [← hW8]; exact blk_far F1.out (by show w1.heap.size ≠ gu; exact fun e => Kd.R_ne u0 F1.out (by decide) (by rw [e]; rfl)) _ : V9.heap[w1.heap.size]? = some (.cells #[.int .i64 la, .slice (some ⟨gb, 0, none⟩) xs.length d] 43 (0, 0)))
        have nF2 := Aside0.mk (by rw [← hW8]; exact blk_far F2.out (by show w.heap.size ≠ gu; exact fun e => Kd.R_ne u0 F2.out (by decide) (by rw [e]; rfl)) _ : V9.heap[w.heap.size]? = some (.cells #[.int .i64 0, .slice none 0 0] 43 (0, 0)))
        have nHR := HR.out.set (p := ⟨gu, 2, none⟩) (.int .i64 z) (by show g < gu; omega)
        have nHD := HD.out.set (p := ⟨gu, 2, none⟩) (.int .i64 z) (.inl (by show w.heap.size ≤ gu; omega))
        rw [hW8] at nHR nHD
        have HO := Aside0.mk (Kd.S_R hs)
        clear cF1_0 cF1_1 dF1_0 dF1_1 cF2_0 cF2_1 dF2_0 dF2_1 zF1 zF2
        clear hW8 hs hu F1 F2 FI HR HD HS r2_ f2_ hcc hfr u0 u1 hcl hH hoki hic hiM hM_ hce
        have F1 := nF1
        have F2 := nF2
        have HR := Aside0.mk nHR
        have HD := Aside0.mk nHD
        clear nF1 nF2 nHR nHD
        have cF1_0 : V9.cell? ⟨w1.heap.size, 0, none⟩ = some (.int .i64 la) := clq F1.out 0 rfl
        have dF1_0 := fzq F1.out 0
        have cF1_1 : V9.cell? ⟨w1.heap.size, 1, none⟩ = some (.slice (some ⟨gb, 0, none⟩) xs.length d) := clq F1.out 1 rfl
        have dF1_1 := fzq F1.out 1
        have cF2_0 : V9.cell? ⟨w.heap.size, 0, none⟩ = some (.int .i64 0) := clq F2.out 0 rfl
        have dF2_0 := fzq F2.out 0
        have cF2_1 : V9.cell? ⟨w.heap.size, 1, none⟩ = some (.slice none 0 0) := clq F2.out 1 rfl
        have dF2_1 := fzq F2.out 1
        have zF1 := blk_lt F1.out
        have zF2 := blk_lt F2.out
        refine hK.out _ _ ?h411 (fun hHeld => ?j411)
        case h411 => exact trivial
        clear hK K
        try simp only [Act.put, List.setIfInBounds_toArray, List.set_cons_zero, List.set_cons_succ]
        refine wpAnyH_done (by kernel_rfl) ?_ _
        go_wp2
        refine bodyPost_ret (v := .agg #[.int .i64 la, .slice (some ⟨gb, 0, none⟩) xs.length d]) ?hr rfl ?hp
        case hr => simp [results, Tryd.results24, go_sem, cF2_0, cF2_1, dF2_0, dF2_1]
        case hp => exact ⟨⟨la, xs.set k3 (⟨y.f0, y.f1, y.f2.set 0 (⟨(y.f2.getD 0 zRcpt).f0, z, (y.f2.getD 0 zRcpt).f2⟩ : SRcpt), y.f3⟩ : SItem)⟩, (some ⟨gb, 0, none⟩), d, (by show _ = _; rw [List.length_set]), ⟨⟨by dsimp only; omega, by dsimp only; omega⟩, by show (xs.set k3 _).length ≤ 8; rw [List.length_set]; omega, wide_set HX.out (wide_tries HGY.out hz)⟩, R_other (by rw [List.length_set]; exact HO.out) (F2.out) (by decide) ((grown_set1 _ _ _ _).trans (grown_set1 _ _ _ _)), ((HR.out.set _ (by show g < w.heap.size; omega)).set _ (by show g < w.heap.size; omega)).up (by omega), (HD.out.set _ (.inl (Nat.le_refl _))).set _ (.inl (Nat.le_refl _))⟩
   case k380 =>
    go_simp
    generalize hVa : World.alloc V0 _ = V7
    have bV : Below V0.heap.size V0 V7 := by rw [← hVa]; exact bel_alloc (Below.refl _ _) _
    have FL : Aside0 (V7.heap[V0.heap.size]? = some (.cells #[.int .i64 (-1), .int .i64 4] 3 (0, 0))) := ⟨by rw [← hVa]; exact blk_new _ _⟩
    clear hVa
    clear cF1_0 cF1_1 dF1_0 dF1_1 cF2_0 cF2_1 dF2_0 dF2_1 zF1 zF2
    replace F1 := Aside0.mk (below_blk F1.out bV)
    replace F2 := Aside0.mk (below_blk F2.out bV)
    replace FI := Aside0.mk (below_blk FI.out bV)
    replace HS := Aside0.mk (Kd.S_below HS.out bV)
    replace HR := Aside0.mk (HR.out.below bV)
    replace HD := Aside0.mk (HD.out.below bV)
    have yV7 := HD.out.size
    clear bV
    have cF1_0 : V7.cell? ⟨w1.heap.size, 0, none⟩ = some (.int .i64 la) := clq F1.out 0 rfl
    have dF1_0 := fzq F1.out 0
    have cF1_1 : V7.cell? ⟨w1.heap.size, 1, none⟩ = some (.slice (some ⟨gb, 0, none⟩) xs.length d) := clq F1.out 1 rfl
    have dF1_1 := fzq F1.out 1
    have cF2_0 : V7.cell? ⟨w.heap.size, 0, none⟩ = some (.int .i64 0) := clq F2.out 0 rfl
    have dF2_0 := fzq F2.out 0
    have cF2_1 : V7.cell? ⟨w.heap.size, 1, none⟩ = some (.slice none 0 0) := clq F2.out 1 rfl
    have dF2_1 := fzq F2.out 1
    have zF1 := blk_lt F1.out
    have zF2 := blk_lt F2.out
    refine hK.out _ _ ?h412 (fun hHeld => ?j412)
    case h412 => exact trivial
    clear hK K
    try simp only [Act.put, List.setIfInBounds_toArray, List.set_cons_zero, List.set_cons_succ]
    refine rdy (rs := [1, 8]) ?_
    refine rc (fun K hK => ?k413) (rc (fun K hK => ?k414) AllReadyH.nil)
    case k413 =>
     go_simp
     refine hK.out _ _ ?h415 (fun hHeld => ?j415)
     case h415 => exact hHeld
     clear hK K
     try simp only [Act.put, List.setIfInBounds_toArray, List.set_cons_zero, List.set_cons_succ]
     refine tk 3 ?v416 ?y416 ?r416
     case y416 => intro w_ hSw; (try dsimp only at hSw); go_simp; (try (with_reducible rfl))
     try simp only [Act.put, List.setIfInBounds_toArray, List.set_cons_zero, List.set_cons_succ]
     refine tk 4 ?v417 ?y417 ?r417
     case y417 => intro w_ hSw; (try dsimp only at hSw); go_simp; (try (with_reducible rfl))
     try simp only [Act.put, List.setIfInBounds_toArray, List.set_cons_zero, List.set_cons_succ]
     refine rdy (rs := [5, 8]) ?_
     refine rc (fun K hK => ?k418) (rc (fun K hK => ?k419) AllReadyH.nil)
     case k418 =>
      have i3_ : V7.cell? ⟨gb, k3 * 5 + 3, none⟩ = some (.slice (some ⟨gu, 0, none⟩) y.f2.length du) := cell_of FI.out HCI.out
      go_simp
      refine hK.out _ _ ?h420 (fun hHeld => ?j420)
      case h420 => exact hHeld
      clear hK K
      try simp only [Act.put, List.setIfInBounds_toArray, List.set_cons_zero, List.set_cons_succ]
      refine rdy (rs := [8]) ?_
      refine rc (fun K hK => ?k421) AllReadyH.nil
      case k421 =>
       go_simp
       refine Calls.mono (one_any (-1) 4 g _ _ _ _ _ _ V7 HR.out (by omega) FL.out (by decide) (by rfl) (by decide) (by decide) (by rfl)) ?_
       rintro e V8 ⟨z, rfl, hz, hr_, hd_⟩
       clear cF1_0 cF1_1 dF1_0 dF1_1 cF2_0 cF2_1 dF2_0 dF2_1 zF1 zF2
       clear FL
       replace F1 := Aside0.mk (hd_.blk F1.out (by omega))
       replace F2 := Aside0.mk (hd_.blk F2.out (by omega))
       replace FI := Aside0.mk (hd_.blk FI.out (by omega))
       replace HS := Aside0.mk (Dr.S hd_ HS.out hgl)
       replace HR := Aside0.mk hr_
       replace HD := Aside0.mk (Dr.then_ HD.out hd_)
       have yV8 := HD.out.size
       clear hr_ hd_
       have cF1_0 : V8.cell? ⟨w1.heap.size, 0, none⟩ = some (.int .i64 la) := clq F1.out 0 rfl
       have dF1_0 := fzq F1.out 0
       have cF1_1 : V8.cell? ⟨w1.heap.size, 1, none⟩ = some (.slice (some ⟨gb, 0, none⟩) xs.length d) := clq F1.out 1 rfl
       have dF1_1 := fzq F1.out 1
       have cF2_0 : V8.cell? ⟨w.heap.size, 0, none⟩ = some (.int .i64 0) := clq F2.out 0 rfl
       have dF2_0 := fzq F2.out 0
       have cF2_1 : V8.cell? ⟨w.heap.size, 1, none⟩ = some (.slice none 0 0) := clq F2.out 1 rfl
       have dF2_1 := fzq F2.out 1
       have zF1 := blk_lt F1.out
       have zF2 := blk_lt F2.out
       refine hK.out _ _ ?h422 (fun hHeld => ?j422)
       case h422 => exact trivial
       clear hK K
       try simp only [Act.put, List.setIfInBounds_toArray, List.set_cons_zero, List.set_cons_succ]
       refine tk 9 ?v423 ?y423 ?r423
       case y423 => intro w_ hSw; (try dsimp only at hSw); go_simp; (try (with_reducible rfl))
       try simp only [Act.put, List.setIfInBounds_toArray, List.set_cons_zero, List.set_cons_succ]
       refine tk 10 ?v424 ?y424 ?r424
       case y424 => intro w_ hSw; (try dsimp only at hSw); go_simp; (try (with_reducible rfl))
       try simp only [Act.put, List.setIfInBounds_toArray, List.set_cons_zero, List.set_cons_succ]
       refine rdy (rs := [11]) ?_
       refine rc (fun K hK => ?k425) AllReadyH.nil
       case k425 =>
        obtain ⟨oki, ci, hcl, hiM, hic, hoki, hH⟩ := Kd.S_lend HS.out zItem (k3 : Int) (by omega) (by omega)
        rw [Int.toNat_natCast] at hiM hic
        rw [HY.out] at hiM
        obtain ⟨v0, v1, rfl, u0, u1⟩ := kItem_openM hiM
        simp only [show kItem.sz = 5 from rfl] at hic
        obtain rfl : v0 = .slice (some ⟨gu, 0, none⟩) y.f2.length du := Option.some.inj ((hic 3 _ rfl).symm.trans (cell_of FI.out HCI.out))
        obtain ⟨ce, hce, hM_, hcc, hfr⟩ := Kd.R_elem u0 zRcpt ((0 : Nat) : Int) (by omega) (by omega)
        rw [Int.toNat_natCast] at hM_ hcc hfr
        obtain rfl := kRcpt_openM hM_
        have r2_ : V8.cell? ⟨gu, 2, none⟩ = some (.int .i64 (y.f2.getD 0 zRcpt).f1) := by have h_ := hcc 2 _ rfl; simpa using h_
        have f2_ : V8.frozen? ⟨gu, 2, none⟩ = false := by have h_ := hfr 2; simpa using h_
        go_simp
        generalize hW8 : World.setCell V8 _ _ = V9
        have hu := own_put2 u0 0 (by omega) (⟨(y.f2.getD 0 zRcpt).f0, z, (y.f2.getD 0 zRcpt).f2⟩ : SRcpt) [.string (y.f2.getD 0 zRcpt).f0.f0, .string (y.f2.getD 0 zRcpt).f0.f1, .int .i64 (y.f2.getD 0 zRcpt).f1, .int .i64 (y.f2.getD 0 zRcpt).f2] rfl 2 (.int .i64 z) (by decide) (kRcpt_mkM _ _ _ (⟨(y.f2.getD 0 zRcpt).f0, z, (y.f2.getD 0 zRcpt).f2⟩ : SRcpt)) hcc
        simp only [Nat.zero_mul, Nat.zero_add] at hu
        rw [hW8] at hu
        have hs := Kd.H_back (Kd.H_grown hH hu.2 (fun q hq => u0.1 q hq)) (kItem_mkM _ _ _ (⟨y.f0, y.f1, y.f2.set 0 (⟨(y.f2.getD 0 zRcpt).f0, z, (y.f2.getD 0 zRcpt).f2⟩ : SRcpt), y.f3⟩ : SItem) hu.1 (Kd.R_over' u1 (Kd.R_typed u0) (by decide) hu.2)) (fun _ h => h)
        rw [Int.toNat_natCast] at hs
        have nF1 := Aside0.mk (by rw [← hW8]; exact blk_far F1.out (by show w1.heap.size ≠ gu; exact fun e => Kd.R_ne u0 F1.out (by decide) (by rw [e]; rfl)) _ : V9.heap[w1.heap.size]? = some (.cells #[.int .i64 la, .slice (some ⟨gb, 0, none⟩) xs.length d] 43 (0, 0)))
        have nF2 := Aside0.mk (by rw [← hW8]; exact blk_far F2.out (by show w.heap.size ≠ gu; exact fun e => Kd.R_ne u0 F2.out (by decide) (by rw [e]; rfl)) _ : V9.heap[w.heap.size]? = some (.cells #[.int .i64 0, .slice none 0 0] 43 (0, 0)))
        have nHR := HR.out.set (p := ⟨gu, 2, none⟩) (.int .i64 z) (by show g < gu; omega)
        have nHD := HD.out.set (p := ⟨gu, 2, none⟩) (.int .i64 z) (.inl (by show w.heap.size ≤ gu; omega))
        rw [hW8] at nHR nHD
        have HO := Aside0.mk (Kd.S_R hs)
        clear cF1_0 cF1_1 dF1_0 dF1_1 cF2_0 cF2_1 dF2_0 dF2_1 zF1 zF2
        clear hW8 hs hu F1 F2 FI HR HD HS r2_ f2_ hcc hfr u0 u1 hcl hH hoki hic hiM hM_ hce
        have F1 := nF1
        have F2 := nF2
        have HR := Aside0.mk nHR
        have HD := Aside0.mk nHD
        clear nF1 nF2 nHR nHD
        have cF1_0 : V9.cell? ⟨w1.heap.size, 0, none⟩ = some (.int .i64 la) := clq F1.out 0 rfl
        have dF1_0 := fzq F1.out 0
        have cF1_1 : V9.cell? ⟨w1.heap.size, 1, none⟩ = some (.slice (some ⟨gb, 0, none⟩) xs.length d) := clq F1.out 1 rfl
        have dF1_1 := fzq F1.out 1
        have cF2_0 : V9.cell? ⟨w.heap.size, 0, none⟩ = some (.int .i64 0) := clq F2.out 0 rfl
        have dF2_0 := fzq F2.out 0
        have cF2_1 : V9.cell? ⟨w.heap.size, 1, none⟩ = some (.slice none 0 0) := clq F2.out 1 rfl
        have dF2_1 := fzq F2.out 1
        have zF1 := blk_lt F1.out
        have zF2 := blk_lt F2.out
        refine hK.out _ _ ?h426 (fun hHeld => ?j426)
        case h426 => exact trivial
        clear hK K
        try simp only [Act.put, List.setIfInBounds_toArray, List.set_cons_zero, List.set_cons_succ]
        refine wpAnyH_done (by kernel_rfl) ?_ _
        go_wp2
        refine bodyPost_ret (v := .agg #[.int .i64 la, .slice (some ⟨gb, 0, none⟩) xs.length d]) ?hr rfl ?hp
        case hr => simp [results, Tryd.results24, go_sem, cF2_0, cF2_1, dF2_0, dF2_1]
        case hp => exact ⟨⟨la, xs.set k3 (⟨y.f0, y.f1, y.f2.set 0 (⟨(y.f2.getD 0 zRcpt).f0, z, (y.f2.getD 0 zRcpt).f2⟩ : SRcpt), y.f3⟩ : SItem)⟩, (some ⟨gb, 0, none⟩), d, (by show _ = _; rw [List.length_set]), ⟨⟨by dsimp only; omega, by dsimp only; omega⟩, by show (xs.set k3 _).length ≤ 8; rw [List.length_set]; omega, wide_set HX.out (wide_tries HGY.out hz)⟩, R_other (by rw [List.length_set]; exact HO.out) (F2.out) (by decide) ((grown_set1 _ _ _ _).trans (grown_set1 _ _ _ _)), ((HR.out.set _ (by show g < w.heap.size; omega)).set _ (by show g < w.heap.size; omega)).up (by omega), (HD.out.set _ (.inl (Nat.le_refl _))).set _ (.inl (Nat.le_refl _))⟩
     case k419 =>
      go_simp
      refine Calls.mono (one_any (-1) 4 g _ _ _ _ _ _ V7 HR.out (by omega) FL.out (by decide) (by rfl) (by decide) (by decide) (by rfl)) ?_
      rintro e V8 ⟨z, rfl, hz, hr_, hd_⟩
      clear cF1_0 cF1_1 dF1_0 dF1_1 cF2_0 cF2_1 dF2_0 dF2_1 zF1 zF2
      clear FL
      replace F1 := Aside0.mk (hd_.blk F1.out (by omega))
      replace F2 := Aside0.mk (hd_.blk F2.out (by omega))
      replace FI := Aside0.mk (hd_.blk FI.out (by omega))
      replace HS := Aside0.mk (Dr.S hd_ HS.out hgl)
      replace HR := Aside0.mk hr_
      replace HD := Aside0.mk (Dr.then_ HD.out hd_)
      have yV8 := HD.out.size
      clear hr_ hd_
      have cF1_0 : V8.cell? ⟨w1.heap.size, 0, none⟩ = some (.int .i64 la) := clq F1.out 0 rfl
      have dF1_0 := fzq F1.out 0
      have cF1_1 : V8.cell? ⟨w1.heap.size, 1, none⟩ = some (.slice (some ⟨gb, 0, none⟩) xs.length d) := clq F1.out 1 rfl
      have dF1_1 := fzq F1.out 1
      have cF2_0 : V8.cell? ⟨w.heap.size, 0, none⟩ = some (.int .i64 0) := clq F2.out 0 rfl
      have dF2_0 := fzq F2.out 0
      have cF2_1 : V8.cell? ⟨w.heap.size, 1, none⟩ = some (.slice none 0 0) := clq F2.out 1 rfl
      have dF2_1 := fzq F2.out 1
      have zF1 := blk_lt F1.out
      have zF2 := blk_lt F2.out
      refine hK.out _ _ ?h427 (fun hHeld => ?j427)
      case h427 => exact trivial
      clear hK K
      try simp only [Act.put, List.setIfInBounds_toArray, List.set_cons_zero, List.set_cons_succ]
      refine rdy (rs := [5]) ?_
      refine rc (fun K hK => ?k428) AllReadyH.nil
      case k428 =>
       have i3_ : V8.cell? ⟨gb, k3 * 5 + 3, none⟩ = some (.slice (some ⟨gu, 0, none⟩) y.f2.length du) := cell_of FI.out HCI.out
       go_simp
       refine hK.out _ _ ?h429 (fun hHeld => ?j429)
       case h429 => exact hHeld
       clear hK K
       try simp only [Act.put, List.setIfInBounds_toArray, List.set_cons_zero, List.set_cons_succ]
       refine tk 9 ?v430 ?y430 ?r430
       case y430 => intro w_ hSw; (try dsimp only at hSw); go_simp; (try (with_reducible rfl))
       try simp only [Act.put, List.setIfInBounds_toArray, List.set_cons_zero, List.set_cons_succ]
       refine tk 10 ?v431 ?y431 ?r431
       case y431 => intro w_ hSw; (try dsimp only at hSw); go_simp; (try (with_reducible rfl))
       try simp only [Act.put, List.setIfInBounds_toArray, List.set_cons_zero, List.set_cons_succ]
       refine rdy (rs := [11]) ?_
       refine rc (fun K hK => ?k432) AllReadyH.nil
       case k432 =>
        obtain ⟨oki, ci, hcl, hiM, hic, hoki, hH⟩ := Kd.S_lend HS.out zItem (k3 : Int) (by omega) (by omega)
        rw [Int.toNat_natCast] at hiM hic
        rw [HY.out] at hiM
        obtain ⟨v0, v1, rfl, u0, u1⟩ := kItem_openM hiM
        simp only [show kItem.sz = 5 from rfl] at hic
        obtain rfl : v0 = .slice (some ⟨gu, 0, none⟩) y.f2.length du := Option.some.inj ((hic 3 _ rfl).symm.trans (cell_of FI.out HCI.out))
        obtain ⟨ce, hce, hM_, hcc, hfr⟩ := Kd.R_elem u0 zRcpt ((0 : Nat) : Int) (by omega) (by omega)
        rw [Int.toNat_natCast] at hM_ hcc hfr
        obtain rfl := kRcpt_openM hM_
        have r2_ : V8.cell? ⟨gu, 2, none⟩ = some (.int .i64 (y.f2.getD 0 zRcpt).f1) := by have h_ := hcc 2 _ rfl; simpa using h_
        have f2_ : V8.frozen? ⟨gu, 2, none⟩ = false := by have h_ := hfr 2; simpa using h_
        go_simp
        generalize hW8 : World.setCell V8 _ _ = V9
        have hu := own_put2 u0 0 (by omega) (⟨(y.f2.getD 0 zRcpt).f0, z, (y.f2.getD 0 zRcpt).f2⟩ : SRcpt) [.string (y.f2.getD 0 zRcpt).f0.f0, .string (y.f2.getD 0 zRcpt).f0.f1, .int .i64 (y.f2.getD 0 zRcpt).f1, .int .i64 (y.f2.getD 0 zRcpt).f2] rfl 2 (.int .i64 z) (by decide) (kRcpt_mkM _ _ _ (⟨(y.f2.getD 0 zRcpt).f0, z, (y.f2.getD 0 zRcpt).f2⟩ : SRcpt)) hcc
        simp only [Nat.zero_mul, Nat.zero_add] at hu
        rw [hW8] at hu
        have hs := Kd.H_back (Kd.H_grown hH hu.2 (fun q hq => u0.1 q hq)) (kItem_mkM _ _ _ (⟨y.f0, y.f1, y.f2.set 0 (⟨(y.f2.getD 0 zRcpt).f0, z, (y.f2.getD 0 zRcpt).f2⟩ : SRcpt), y.f3⟩ : SItem) hu.1 (Kd.R_over' u1 (Kd.R_typed u0) (by decide) hu.2)) (fun _ h => h)
        rw [Int.toNat_natCast] at hs
        have nF1 := Aside0.mk (by rw [← hW8]; exact blk_far F1.out (by show w1.heap.size ≠ gu; exact fun e => Kd.R_ne u0 F1.out (by decide) (by rw [e]; rfl)) _ : V9.heap[w1.heap.size]? = some (.cells #[.int .i64 la, .slice (some ⟨gb, 0, none⟩) xs.length d] 43 (0, 0)))
        have nF2 := Aside0.mk (by rw [← hW8]; exact blk_far F2.out (by show w.heap.size ≠ gu; exact fun e => Kd.R_ne u0 F2.out (by decide) (by rw [e]; rfl)) _ : V9.heap[w.heap.size]? = some (.cells #[.int .i64 0, .slice none 0 0] 43 (0, 0)))
        have nHR := HR.out.set (p := ⟨gu, 2, none⟩) (.int .i64 z) (by show g < gu; omega)
        have nHD := HD.out.set (p := ⟨gu, 2, none⟩) (.int .i64 z) (.inl (by show w.heap.size ≤ gu; omega))
        rw [hW8] at nHR nHD
        have HO := Aside0.mk (Kd.S_R hs)
        clear cF1_0 cF1_1 dF1_0 dF1_1 cF2_0 cF2_1 dF2_0 dF2_1 zF1 zF2
        clear hW8 hs hu F1 F2 FI HR HD HS r2_ f2_ hcc hfr u0 u1 hcl hH hoki hic hiM hM_ hce
        have F1 := nF1
        have F2 := nF2
        have HR := Aside0.mk nHR
        have HD := Aside0.mk nHD
        clear nF1 nF2 nHR nHD
        have cF1_0 : V9.cell? ⟨w1.heap.size, 0, none⟩ = some (.int .i64 la) := clq F1.out 0 rfl
        have dF1_0 := fzq F1.out 0
        have cF1_1 : V9.cell? ⟨w1.heap.size, 1, none⟩ = some (.slice (some ⟨gb, 0, none⟩) xs.length d) := clq F1.out 1 rfl
        have dF1_1 := fzq F1.out 1
        have cF2_0 : V9.cell? ⟨w.heap.size, 0, none⟩ = some (.int .i64 0) := clq F2.out 0 rfl
        have dF2_0 := fzq F2.out 0
        have cF2_1 : V9.cell? ⟨w.heap.size, 1, none⟩ = some (.slice none 0 0) := clq F2.out 1 rfl
        have dF2_1 := fzq F2.out 1
        have zF1 := blk_lt F1.out
        have zF2 := blk_lt F2.out
        refine hK.out _ _ ?h433 (fun hHeld => ?j433)
        case h433 => exact trivial
        clear hK K
        try simp only [Act.put, List.setIfInBounds_toArray, List.set_cons_zero, List.set_cons_succ]
        refine wpAnyH_done (by kernel_rfl) ?_ _
        go_wp2
        refine bodyPost_ret (v := .agg #[.int .i64 la, .slice (some ⟨gb, 0, none⟩) xs.length d]) ?hr rfl ?hp
        case hr => simp [results, Tryd.results24, go_sem, cF2_0, cF2_1, dF2_0, dF2_1]
        case hp => exact ⟨⟨la, xs.set k3 (⟨y.f0, y.f1, y.f2.set 0 (⟨(y.f2.getD 0 zRcpt).f0, z, (y.f2.getD 0 zRcpt).f2⟩ : SRcpt), y.f3⟩ : SItem)⟩, (some ⟨gb, 0, none⟩), d, (by show _ = _; rw [List.length_set]), ⟨⟨by dsimp only; omega, by dsimp only; omega⟩, by show (xs.set k3 _).length ≤ 8; rw [List.length_set]; omega, wide_set HX.out (wide_tries HGY.out hz)⟩, R_other (by rw [List.length_set]; exact HO.out) (F2.out) (by decide) ((grown_set1 _ _ _ _).trans (grown_set1 _ _ _ _)), ((HR.out.set _ (by show g < w.heap.size; omega)).set _ (by show g < w.heap.size; omega)).up (by omega), (HD.out.set _ (.inl (Nat.le_refl _))).set _ (.inl (Nat.le_refl _))⟩
    case k414 =>
     go_simp
     refine Calls.mono (one_any (-1) 4 g _ _ _ _ _ _ V7 HR.out (by omega) FL.out (by decide) (by rfl) (by decide) (by decide) (by rfl)) ?_
     rintro e V8 ⟨z, rfl, hz, hr_, hd_⟩
     clear cF1_0 cF1_1 dF1_0 dF1_1 cF2_0 cF2_1 dF2_0 dF2_1 zF1 zF2
     clear FL
     replace F1 := Aside0.mk (hd_.blk F1.out (by omega))
     replace F2 := Aside0.mk (hd_.blk F2.out (by omega))
     replace FI := Aside0.mk (hd_.blk FI.out (by omega))
     replace HS := Aside0.mk (Dr.S hd_ HS.out hgl)
     replace HR := Aside0.mk hr_
     replace HD := Aside0.mk (Dr.then_ HD.out hd_)
     have yV8 := HD.out.size
     clear hr_ hd_
     have cF1_0 : V8.cell? ⟨w1.heap.size, 0, none⟩ = some (.int .i64 la) := clq F1.out 0 rfl
     have dF1_0 := fzq F1.out 0
     have cF1_1 : V8.cell? ⟨w1.heap.size, 1, none⟩ = some (.slice (some ⟨gb, 0, none⟩) xs.length d) := clq F1.out 1 rfl
     have dF1_1 := fzq F1.out 1
     have cF2_0 : V8.cell? ⟨w.heap.size, 0, none⟩ = some (.int .i64 0) := clq F2.out 0 rfl
     have dF2_0 := fzq F2.out 0
     have cF2_1 : V8.cell? ⟨w.heap.size, 1, none⟩ = some (.slice none 0 0) := clq F2.out 1 rfl
     have dF2_1 := fzq F2.out 1
     have zF1 := blk_lt F1.out
     have zF2 := blk_lt F2.out
     refine hK.out _ _ ?h434 (fun hHeld => ?j434)
     case h434 => exact trivial
     clear hK K
     try simp only [Act.put, List.setIfInBounds_toArray, List.set_cons_zero, List.set_cons_succ]
     refine rdy (rs := [1]) ?_
     refine rc (fun K hK => ?k435) AllReadyH.nil
     case k435 =>
      go_simp
      refine hK.out _ _ ?h436 (fun hHeld => ?j436)
      case h436 => exact hHeld
      clear hK K
      try simp only [Act.put, List.setIfInBounds_toArray, List.set_cons_zero, List.set_cons_succ]
      refine tk 3 ?v437 ?y437 ?r437
      case y437 => intro w_ hSw; (try dsimp only at hSw); go_simp; (try (with_reducible rfl))
      try simp only [Act.put, List.setIfInBounds_toArray, List.set_cons_zero, List.set_cons_succ]
      refine tk 4 ?v438 ?y438 ?r438
      case y438 => intro w_ hSw; (try dsimp only at hSw); go_simp; (try (with_reducible rfl))
      try simp only [Act.put, List.setIfInBounds_toArray, List.set_cons_zero, List.set_cons_succ]
      refine rdy (rs := [5]) ?_
      refine rc (fun K hK => ?k439) AllReadyH.nil
      case k439 =>
       have i3_ : V8.cell? ⟨gb, k3 * 5 + 3, none⟩ = some (.slice (some ⟨gu, 0, none⟩) y.f2.length du) := cell_of FI.out HCI.out
       go_simp
       refine hK.out _ _ ?h440 (fun hHeld => ?j440)
       case h440 => exact hHeld
       clear hK K
       try simp only [Act.put, List.setIfInBounds_toArray, List.set_cons_zero, List.set_cons_succ]
       refine tk 9 ?v441 ?y441 ?r441
       case y441 => intro w_ hSw; (try dsimp only at hSw); go_simp; (try (with_reducible rfl))
       try simp only [Act.put, List.setIfInBounds_toArray, List.set_cons_zero, List.set_cons_succ]
       refine tk 10 ?v442 ?y442 ?r442
       case y442 => intro w_ hSw; (try dsimp only at hSw); go_simp; (try (with_reducible rfl))
       try simp only [Act.put, List.setIfInBounds_toArray, List.set_cons_zero, List.set_cons_succ]
       refine rdy (rs := [11]) ?_
       refine rc (fun K hK => ?k443) AllReadyH.nil
       case k443 =>
        obtain ⟨oki, ci, hcl, hiM, hic, hoki, hH⟩ := Kd.S_lend HS.out zItem (k3 : Int) (by omega) (by omega)
        rw [Int.toNat_natCast] at hiM hic
        rw [HY.out] at hiM
        obtain ⟨v0, v1, rfl, u0, u1⟩ := kItem_openM hiM
        simp only [show kItem.sz = 5 from rfl] at hic
        obtain rfl : v0 = .slice (some ⟨gu, 0, none⟩) y.f2.length du := Option.some.inj ((hic 3 _ rfl).symm.trans (cell_of FI.out HCI.out))
        obtain ⟨ce, hce, hM_, hcc, hfr⟩ := Kd.R_elem u0 zRcpt ((0 : Nat) : Int) (by omega) (by omega)
        rw [Int.toNat_natCast] at hM_ hcc hfr
        obtain rfl := kRcpt_openM hM_
        have r2_ : V8.cell? ⟨gu, 2, none⟩ = some (.int .i64 (y.f2.getD 0 zRcpt).f1) := by have h_ := hcc 2 _ rfl; simpa using h_
        have f2_ : V8.frozen? ⟨gu, 2, none⟩ = false := by have h_ := hfr 2; simpa using h_
        go_simp
        generalize hW8 : World.setCell V8 _ _ = V9
        have hu := own_put2 u0 0 (by omega) (⟨(y.f2.getD 0 zRcpt).f0, z, (y.f2.getD 0 zRcpt).f2⟩ : SRcpt) [.string (y.f2.getD 0 zRcpt).f0.f0, .string (y.f2.getD 0 zRcpt).f0.f1, .int .i64 (y.f2.getD 0 zRcpt).f1, .int .i64 (y.f2.getD 0 zRcpt).f2] rfl 2 (.int .i64 z) (by decide) (kRcpt_mkM _ _ _ (⟨(y.f2.getD 0 zRcpt).f0, z, (y.f2.getD 0 zRcpt).f2⟩ : SRcpt)) hcc
        simp only [Nat.zero_mul, Nat.zero_add] at hu
        rw [hW8] at hu
        have hs := Kd.H_back (Kd.H_grown hH hu.2 (fun q hq => u0.1 q hq)) (kItem_mkM _ _ _ (⟨y.f0, y.f1, y.f2.set 0 (⟨(y.f2.getD 0 zRcpt).f0, z, (y.f2.getD 0 zRcpt).f2⟩ : SRcpt), y.f3⟩ : SItem) hu.1 (Kd.R_over' u1 (Kd.R_typed u0) (by decide) hu.2)) (fun _ h => h)
        rw [Int.toNat_natCast] at hs
        have nF1 := Aside0.mk (by rw [← hW8]; exact blk_far F1.out (by show w1.heap.size ≠ gu; exact fun e => Kd.R_ne u0 F1.out (by decide) (by rw [e]; rfl)) _ : V9.heap[w1.heap.size]? = some (.cells #[.int .i64 la, .slice (some ⟨gb, 0, none⟩) xs.length d] 43 (0, 0)))
        have nF2 := Aside0.mk (by rw [← hW8]; exact blk_far F2.out (by show w.heap.size ≠ gu; exact fun e => Kd.R_ne u0 F2.out (by decide) (by rw [e]; rfl)) _ : V9.heap[w.heap.size]? = some (.cells #[.int .i64 0, .slice none 0 0] 43 (0, 0)))
        have nHR := HR.out.set (p := ⟨gu, 2, none⟩) (.int .i64 z) (by show g < gu; omega)
        have nHD := HD.out.set (p := ⟨gu, 2, none⟩) (.int .i64 z) (.inl (by show w.heap.size ≤ gu; omega))
        rw [hW8] at nHR nHD
        have HO := Aside0.mk (Kd.S_R hs)
        clear cF1_0 cF1_1 dF1_0 dF1_1 cF2_0 cF2_1 dF2_0 dF2_1 zF1 zF2
        clear hW8 hs hu F1 F2 FI HR HD HS r2_ f2_ hcc hfr u0 u1 hcl hH hoki hic hiM hM_ hce
        have F1 := nF1
        have F2 := nF2
        have HR := Aside0.mk nHR
        have HD := Aside0.mk nHD
        clear nF1 nF2 nHR nHD
        have cF1_0 : V9.cell? ⟨w1.heap.size, 0, none⟩ = some (.int .i64 la) := clq F1.out 0 rfl
        have dF1_0 := fzq F1.out 0
        have cF1_1 : V9.cell? ⟨w1.heap.size, 1, none⟩ = some (.slice (some ⟨gb, 0, none⟩) xs.length d) := clq F1.out 1 rfl
        have dF1_1 := fzq F1.out 1
        have cF2_0 : V9.cell? ⟨w.heap.size, 0, none⟩ = some (.int .i64 0) := clq F2.out 0 rfl
        have dF2_0 := fzq F2.out 0
        have cF2_1 : V9.cell? ⟨w.heap.size, 1, none⟩ = some (.slice none 0 0) := clq F2.out 1 rfl
        have dF2_1 := fzq F2.out 1
        have zF1 := blk_lt F1.out
        have zF2 := blk_lt F2.out
        refine hK.out _ _ ?h444 (fun hHeld => ?j444)
        case h444 => exact trivial
        clear hK K
        try simp only [Act.put, List.setIfInBounds_toArray, List.set_cons_zero, List.set_cons_succ]
        refine wpAnyH_done (by kernel_rfl) ?_ _
        go_wp2
        refine bodyPost_ret (v := .agg #[.int .i64 la, .slice (some ⟨gb, 0, none⟩) xs.length d]) ?hr rfl ?hp
        case hr => simp [results, Tryd.results24, go_sem, cF2_0, cF2_1, dF2_0, dF2_1]
        case hp => exact ⟨⟨la, xs.set k3 (⟨y.f0, y.f1, y.f2.set 0 (⟨(y.f2.getD 0 zRcpt).f0, z, (y.f2.getD 0 zRcpt).f2⟩ : SRcpt), y.f3⟩ : SItem)⟩, (some ⟨gb, 0, none⟩), d, (by show _ = _; rw [List.length_set]), ⟨⟨by dsimp only; omega, by dsimp only; omega⟩, by show (xs.set k3 _).length ≤ 8; rw [List.length_set]; omega, wide_set HX.out (wide_tries HGY.out hz)⟩, R_other (by rw [List.length_set]; exact HO.out) (F2.out) (by decide) ((grown_set1 _ _ _ _).trans (grown_set1 _ _ _ _)), ((HR.out.set _ (by show g < w.heap.size; omega)).set _ (by show g < w.heap.size; omega)).up (by omega), (HD.out.set _ (.inl (Nat.le_refl _))).set _ (.inl (Nat.le_refl _))⟩
  ·have q0' : ((k4 : Int) == 0) = false := by simp; omega
   have q1' : ((k4 : Int) == 1) = false := by simp; omega
   have q2' : ((k4 : Int) == 2) = false := by simp; omega
   have q3' : ((k4 : Int) == 3) = true := by simp; omega
   clear h4
   go_wp2_with fail
   generalize hVa : World.alloc w4 _ = w5
   have bV : Below w4.heap.size w4 w5 := by rw [← hVa]; exact bel_alloc (Below.refl _ _) _
   have FL : Aside0 (w5.heap[w4.heap.size]? = some (.cells #[.int .i64 (-1), .int .i64 0, .int .i64 1000, .int .i64 999] 3 (0, 0))) := ⟨by rw [← hVa]; exact blk_new _ _⟩
   clear hVa
   clear cF1_0 cF1_1 dF1_0 dF1_1 cF2_0 cF2_1 dF2_0 dF2_1 zF1 zF2
   replace F1 := Aside0.mk (below_blk F1.out bV)
   replace F2 := Aside0.mk (below_blk F2.out bV)
   replace FI := Aside0.mk (below_blk FI.out bV)
   replace HS := Aside0.mk (Kd.S_below HS.out bV)
   replace HR := Aside0.mk (HR.out.below bV)
   replace HD := Aside0.mk (HD.out.below bV)
   have yw5 := HD.out.size
   clear bV
   have cF1_0 : w5.cell? ⟨w1.heap.size, 0, none⟩ = some (.int .i64 la) := clq F1.out 0 rfl
   have dF1_0 := fzq F1.out 0
   have cF1_1 : w5.cell? ⟨w1.heap.size, 1, none⟩ = some (.slice (some ⟨gb, 0, none⟩) xs.length d) := clq F1.out 1 rfl
   have dF1_1 := fzq F1.out 1
   have cF2_0 : w5.cell? ⟨w.heap.size, 0, none⟩ = some (.int .i64 0) := clq F2.out 0 rfl
   have dF2_0 := fzq F2.out 0
   have cF2_1 : w5.cell? ⟨w.heap.size, 1, none⟩ = some (.slice none 0 0) := clq F2.out 1 rfl
   have dF2_1 := fzq F2.out 1
   have zF1 := blk_lt F1.out
   have zF2 := blk_lt F2.out
   refine Calls.mono (one_any (-1) 1000 g _ _ _ _ _ _ w5 HR.out (by omega) FL.out (by decide) (by rfl) (by decide) (by decide) (by rfl)) ?_
   rintro e w6 ⟨z, rfl, hz, hr_, hd_⟩
   clear cF1_0 cF1_1 dF1_0 dF1_1 cF2_0 cF2_1 dF2_0 dF2_1 zF1 zF2
   clear FL
   replace F1 := Aside0.mk (hd_.blk F1.out (by omega))
   replace F2 := Aside0.mk (hd_.blk F2.out (by omega))
   replace FI := Aside0.mk (hd_.blk FI.out (by omega))
   replace HS := Aside0.mk (Dr.S hd_ HS.out hgl)
   replace HR := Aside0.mk hr_
   replace HD := Aside0.mk (Dr.then_ HD.out hd_)
   have yw6 := HD.out.size
   clear hr_ hd_
   have cF1_0 : w6.cell? ⟨w1.heap.size, 0, none⟩ = some (.int .i64 la) := clq F1.out 0 rfl
   have dF1_0 := fzq F1.out 0
   have cF1_1 : w6.cell? ⟨w1.heap.size, 1, none⟩ = some (.slice (some ⟨gb, 0, none⟩) xs.length d) := clq F1.out 1 rfl
   have dF1_1 := fzq F1.out 1
   have cF2_0 : w6.cell? ⟨w.heap.size, 0, none⟩ = some (.int .i64 0) := clq F2.out 0 rfl
   have dF2_0 := fzq F2.out 0
   have cF2_1 : w6.cell? ⟨w.heap.size, 1, none⟩ = some (.slice none 0 0) := clq F2.out 1 rfl
   have dF2_1 := fzq F2.out 1
   have zF1 := blk_lt F1.out
   have zF2 := blk_lt F2.out
   go_wp2
   refine bodyPost_ret (v := .agg #[.int .i64 z, .slice (some ⟨gb, 0, none⟩) xs.length d]) ?hr rfl ?hp
   case hr => simp [results, Tryd.results24, go_sem, cF2_0, cF2_1, dF2_0, dF2_1]
   case hp => exact ⟨⟨z, xs⟩, (some ⟨gb, 0, none⟩), d, rfl, ⟨⟨by dsimp only; omega, by dsimp only; omega⟩, by dsimp only; omega, fun x hx => goodI_wide (HX.out x hx)⟩, R_other (R_other (Kd.S_R HS.out) F1.out (by decide) (grown_set1 _ _ 0 (.int .i64 z))) (blk_far F2.out (p := ⟨w1.heap.size, 0, none⟩) (by show w.heap.size ≠ w1.heap.size; omega) _) (by decide) ((grown_set1 _ _ _ _).trans (grown_set1 _ _ _ _)), (((HR.out.set (p := ⟨w1.heap.size, 0, none⟩) _ (by show g < w1.heap.size; omega)).set _ (by show g < w.heap.size; omega)).set _ (by show g < w.heap.size; omega)).up (by omega), ((HD.out.set (p := ⟨w1.heap.size, 0, none⟩) _ (.inl (by show w.heap.size ≤ w1.heap.size; omega))).set _ (.inl (Nat.le_refl _))).set _ (.inl (Nat.le_refl _))⟩
  ·have q0' : ((k4 : Int) == 0) = false := by simp; omega
   have q1' : ((k4 : Int) == 1) = false := by simp; omega
   have q2' : ((k4 : Int) == 2) = false := by simp; omega
   have q3' : ((k4 : Int) == 3) = false := by simp; omega
   clear h4
   go_wp2
   refine bodyPost_ret (v := .agg #[.int .i64 la, .slice (some ⟨gb, 0, none⟩) xs.length d]) ?hr rfl ?hp
   case hr => simp [results, Tryd.results24, go_sem, cF2_0, cF2_1, dF2_0, dF2_1]
   case hp => exact ⟨⟨la, xs⟩, (some ⟨gb, 0, none⟩), d, rfl, ⟨⟨by dsimp only; omega, by dsimp only; omega⟩, by dsimp only; omega, fun x hx => goodI_wide (HX.out x hx)⟩, R_other (Kd.S_R HS.out) (F2.out) (by decide) ((grown_set1 _ _ _ _).trans (grown_set1 _ _ _ _)), ((HR.out.set _ (by show g < w.heap.size; omega)).set _ (by show g < w.heap.size; omega)).up (by omega), (HD.out.set _ (.inl (Nat.le_refl _))).set _ (.inl (Nat.le_refl _))⟩
 ·have hx0' : ¬ (0 : Int) < (xs.length : Int) := by omega
  have zF2 := blk_lt F2.out
  have cF2_0 : w1.cell? ⟨w.heap.size, 0, none⟩ = some (.int .i64 0) := clq F2.out 0 rfl
  have dF2_0 := fzq F2.out 0
  have cF2_1 : w1.cell? ⟨w.heap.size, 1, none⟩ = some (.slice none 0 0) := clq F2.out 1 rfl
  have dF2_1 := fzq F2.out 1
  go_wp2
  have hF := blk_set1 (blk_set1 F2.out 0 (.int .i64 la)) 1 (.slice B xs.length d)
  have hO := R_other (Kd.S_R HS.out) F2.out (by decide) ((grown_set1 w1 w.heap.size 0 (.int .i64 la)).trans (grown_set1 _ w.heap.size 1 (.slice B xs.length d)))
  have hR := (HR.out.set (p := ⟨w.heap.size, 0, none⟩) (.int .i64 la) (by show g < w.heap.size; omega)).set (p := ⟨w.heap.size, 1, none⟩) (.slice B xs.length d) (by show g < w.heap.size; omega)
  have hD := (HD.out.set (p := ⟨w.heap.size, 0, none⟩) (.int .i64 la) (.inl (Nat.le_refl _))).set (p := ⟨w.heap.size, 1, none⟩) (.slice B xs.length d) (.inl (Nat.le_refl _))
  generalize World.setCell (World.setCell w1 _ _) _ _ = w2 at hF hO hR hD ⊢
  have hF3 := blk_alloc hF (.cells #[.int .i64 la, .slice B xs.length d] 43)
  simp at hF3
  have hO3 := Kd.R_alloc hO (.cells #[.int .i64 la, .slice B xs.length d] 43)
  have hR3 := hR.alloc (.cells #[.int .i64 la, .slice B xs.length d] 43)
  have hD3 := hD.alloc (.cells #[.int .i64 la, .slice B xs.length d] 43)
  generalize World.alloc w2 _ = w3 at hF3 hO3 hR3 hD3 ⊢
  have c0_ : w3.cell? ⟨w.heap.size, 0, none⟩ = some (.int .i64 la) := by simp [World.cell?, hF3]
  have c1_ : w3.cell? ⟨w.heap.size, 1, none⟩ = some (.slice B xs.length d) := by simp [World.cell?, hF3]
  refine bodyPost_ret (v := .agg #[.int .i64 la, .slice B xs.length d]) ?hr rfl ?hp
  case hr => simp [results, Tryd.results24, go_sem, c0_, c1_]
  case hp => exact ⟨⟨la, xs⟩, B, d, rfl, ⟨⟨by dsimp only; omega, by dsimp only; omega⟩, by dsimp only; omega, fun x hx => goodI_wide (HX.out x hx)⟩, hO3, hR3.up (by omega), hD3⟩

end Go.Proofs.YtiaibgkpohmihaaDoor
