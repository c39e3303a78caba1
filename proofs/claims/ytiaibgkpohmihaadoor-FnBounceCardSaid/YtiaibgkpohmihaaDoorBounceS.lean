/- BounceOf of the reference: contracts. -/
import Derived.Test.YtiaibgkpohmihaaDoorReg
import Derived.Test.YtiaibgkpohmihaaDoorBounceI
namespace Go.Proofs.YtiaibgkpohmihaaDoor
open Go.RowKit Go.Proofs.YtiaibgkpohmihaaDoorW.PrintWords
set_option linter.unusedVariables false
set_option linter.unusedSimpArgs false

def bounceB (x : SItem) (a : SAddr) : SMail := ⟨⟨⟨#[]⟩, ⟨#[]⟩⟩, [x.f1], [⟨#[110, 111, 116, 32, 100, 101, 108, 105, 118, 101, 114, 101, 100, 58]⟩, textS a.f0 a.f1] ++ if markOf x.f3 = ⟨#[]⟩ then [] else [markOf x.f3]⟩
set_option maxRecDepth 100000 in
set_option maxHeartbeats 8000000 in
theorem specBounce1_any (x : SItem) (A0 : Option Addr) (c0 : Nat) (A1 : Option Addr) (c1 : Nat) (a : SAddr) (w : World) (hw : fitItem x) (ha : fitAddr a) (hr0 : Kd.C kRcpt w A0 x.f2.length x.f2) (hr1 : Kd.C Kd.string w A1 x.f3.length x.f3) :
  Calls Tryd.prog 37 #[.agg #[.int .i64 x.f0, .string x.f1.f0, .string x.f1.f1, .slice A0 x.f2.length c0, .slice A1 x.f3.length c1], .agg #[.string a.f0, .string a.f1]] w fun e w' => ∃ B d C f, e = .returned (.agg #[.string (bounceB x a).f0.f0, .string (bounceB x a).f0.f1, .slice B (bounceB x a).f1.length d, .slice C (bounceB x a).f2.length f]) ∧ Kd.R kAddr 24 w' w.heap.size (fun _ => True) (.slice B (bounceB x a).f1.length d) (bounceB x a).f1 ∧ Kd.R Kd.string 9 w' w.heap.size (fun _ => True) (.slice C (bounceB x a).f2.length f) (bounceB x a).f2 ∧ Below w.heap.size w w' := by
 have htext := fun W => specPut_any a.f0 a.f1 W ha.1 ha.2
 have hmark := fun W (hW : Below w.heap.size w W) => specMark_any A1 c1 x.f3 W (Kd.C_below hr1 hW) hw.2.2.2.1 hw.2.2.2.2
 clear hr0 hr1
 have HM := Lib.hid (show bounceB x a = ⟨⟨⟨#[]⟩, ⟨#[]⟩⟩, [x.f1], [⟨#[110, 111, 116, 32, 100, 101, 108, 105, 118, 101, 114, 101, 100, 58]⟩, textS a.f0 a.f1] ++ if markOf x.f3 = ⟨#[]⟩ then [] else [markOf x.f3]⟩ from rfl)
 generalize bounceB x a = M at HM
 go_enter Tryd.func37, Tryd.ntmps37
 go_wp2_with fail
 obtain ⟨W0, hW0⟩ : ∃ W0, W0 = (((w.alloc (.cells #[.int .i64 x.f0, .string x.f1.f0, .string x.f1.f1, .slice A0 x.f2.length c0, .slice A1 x.f3.length c1] 28)).alloc (.cells #[.string a.f0, .string a.f1] 24)).alloc (.cells #[.string ⟨#[]⟩, .string ⟨#[]⟩, .slice none 0 0, .slice none 0 0] 33)) := ⟨_, rfl⟩
 rw [← hW0]
 have B0 : Below w.heap.size w W0 := by rw [hW0]; exact (bel_alloc (bel_alloc (bel_alloc (Below.refl _ _) _) _) _)
 have Z0 : w.heap.size < W0.heap.size := by rw [hW0]; simp; try omega
 have c0_ : W0.cell? ⟨w.heap.size, 0, none⟩ = some (.int .i64 x.f0) := by rw [hW0]; first | (simp; done) | (rw [World.cell?_alloc_lt _ _ _ (by first | (simp; done) | (simp; omega))]; first | (simp; done) | (rw [World.cell?_alloc_lt _ _ _ (by first | (simp; done) | (simp; omega))]; simp))
 have c1_ : W0.cell? ⟨w.heap.size, 1, none⟩ = some (.string x.f1.f0) := by rw [hW0]; first | (simp; done) | (rw [World.cell?_alloc_lt _ _ _ (by first | (simp; done) | (simp; omega))]; first | (simp; done) | (rw [World.cell?_alloc_lt _ _ _ (by first | (simp; done) | (simp; omega))]; simp))
 have c2_ : W0.cell? ⟨w.heap.size, 2, none⟩ = some (.string x.f1.f1) := by rw [hW0]; first | (simp; done) | (rw [World.cell?_alloc_lt _ _ _ (by first | (simp; done) | (simp; omega))]; first | (simp; done) | (rw [World.cell?_alloc_lt _ _ _ (by first | (simp; done) | (simp; omega))]; simp))
 have c3_ : W0.cell? ⟨w.heap.size, 3, none⟩ = some (.slice A0 x.f2.length c0) := by rw [hW0]; first | (simp; done) | (rw [World.cell?_alloc_lt _ _ _ (by first | (simp; done) | (simp; omega))]; first | (simp; done) | (rw [World.cell?_alloc_lt _ _ _ (by first | (simp; done) | (simp; omega))]; simp))
 have c4_ : W0.cell? ⟨w.heap.size, 4, none⟩ = some (.slice A1 x.f3.length c1) := by rw [hW0]; first | (simp; done) | (rw [World.cell?_alloc_lt _ _ _ (by first | (simp; done) | (simp; omega))]; first | (simp; done) | (rw [World.cell?_alloc_lt _ _ _ (by first | (simp; done) | (simp; omega))]; simp))
 have Z1 : w.heap.size + 1 < W0.heap.size := by rw [hW0]; simp; try omega
 have c5_ : W0.cell? ⟨w.heap.size + 1, 0, none⟩ = some (.string a.f0) := by rw [hW0]; first | (simp; done) | (rw [World.cell?_alloc_lt _ _ _ (by first | (simp; done) | (simp; omega))]; first | (simp; done) | (rw [World.cell?_alloc_lt _ _ _ (by first | (simp; done) | (simp; omega))]; simp))
 have c6_ : W0.cell? ⟨w.heap.size + 1, 1, none⟩ = some (.string a.f1) := by rw [hW0]; first | (simp; done) | (rw [World.cell?_alloc_lt _ _ _ (by first | (simp; done) | (simp; omega))]; first | (simp; done) | (rw [World.cell?_alloc_lt _ _ _ (by first | (simp; done) | (simp; omega))]; simp))
 have Z2 : w.heap.size + 1 + 1 < W0.heap.size := by rw [hW0]; simp; try omega
 have c7_ : W0.cell? ⟨w.heap.size + 1 + 1, 0, none⟩ = some (.string ⟨#[]⟩) := by rw [hW0, show w.heap.size + 1 + 1 = ((w.alloc (.cells #[.int .i64 x.f0, .string x.f1.f0, .string x.f1.f1, .slice A0 x.f2.length c0, .slice A1 x.f3.length c1] 28)).alloc (.cells #[.string a.f0, .string a.f1] 24)).heap.size by simp]; exact cell_new _ _ _ 0 _ rfl
 have c8_ : W0.cell? ⟨w.heap.size + 1 + 1, 1, none⟩ = some (.string ⟨#[]⟩) := by rw [hW0, show w.heap.size + 1 + 1 = ((w.alloc (.cells #[.int .i64 x.f0, .string x.f1.f0, .string x.f1.f1, .slice A0 x.f2.length c0, .slice A1 x.f3.length c1] 28)).alloc (.cells #[.string a.f0, .string a.f1] 24)).heap.size by simp]; exact cell_new _ _ _ 1 _ rfl
 have c9_ : W0.cell? ⟨w.heap.size + 1 + 1, 2, none⟩ = some (.slice none 0 0) := by rw [hW0, show w.heap.size + 1 + 1 = ((w.alloc (.cells #[.int .i64 x.f0, .string x.f1.f0, .string x.f1.f1, .slice A0 x.f2.length c0, .slice A1 x.f3.length c1] 28)).alloc (.cells #[.string a.f0, .string a.f1] 24)).heap.size by simp]; exact cell_new _ _ _ 2 _ rfl
 have c10_ : W0.cell? ⟨w.heap.size + 1 + 1, 3, none⟩ = some (.slice none 0 0) := by rw [hW0, show w.heap.size + 1 + 1 = ((w.alloc (.cells #[.int .i64 x.f0, .string x.f1.f0, .string x.f1.f1, .slice A0 x.f2.length c0, .slice A1 x.f3.length c1] 28)).alloc (.cells #[.string a.f0, .string a.f1] 24)).heap.size by simp]; exact cell_new _ _ _ 3 _ rfl
 have c11_ : W0.frozen? ⟨w.heap.size + 1 + 1, 0, none⟩ = false := by rw [hW0, show w.heap.size + 1 + 1 = ((w.alloc (.cells #[.int .i64 x.f0, .string x.f1.f0, .string x.f1.f1, .slice A0 x.f2.length c0, .slice A1 x.f3.length c1] 28)).alloc (.cells #[.string a.f0, .string a.f1] 24)).heap.size by simp]; exact frozen_new _ _ _ _
 have c12_ : W0.frozen? ⟨w.heap.size + 1 + 1, 1, none⟩ = false := by rw [hW0, show w.heap.size + 1 + 1 = ((w.alloc (.cells #[.int .i64 x.f0, .string x.f1.f0, .string x.f1.f1, .slice A0 x.f2.length c0, .slice A1 x.f3.length c1] 28)).alloc (.cells #[.string a.f0, .string a.f1] 24)).heap.size by simp]; exact frozen_new _ _ _ _
 have c13_ : W0.frozen? ⟨w.heap.size + 1 + 1, 2, none⟩ = false := by rw [hW0, show w.heap.size + 1 + 1 = ((w.alloc (.cells #[.int .i64 x.f0, .string x.f1.f0, .string x.f1.f1, .slice A0 x.f2.length c0, .slice A1 x.f3.length c1] 28)).alloc (.cells #[.string a.f0, .string a.f1] 24)).heap.size by simp]; exact frozen_new _ _ _ _
 have c14_ : W0.frozen? ⟨w.heap.size + 1 + 1, 3, none⟩ = false := by rw [hW0, show w.heap.size + 1 + 1 = ((w.alloc (.cells #[.int .i64 x.f0, .string x.f1.f0, .string x.f1.f1, .slice A0 x.f2.length c0, .slice A1 x.f3.length c1] 28)).alloc (.cells #[.string a.f0, .string a.f1] 24)).heap.size by simp]; exact frozen_new _ _ _ _
 have HC : Aside0 (∀ W, Below W0.heap.size W0 W → W.cell? ⟨w.heap.size, 0, none⟩ = some (.int .i64 x.f0) ∧ W.cell? ⟨w.heap.size, 1, none⟩ = some (.string x.f1.f0) ∧ W.cell? ⟨w.heap.size, 2, none⟩ = some (.string x.f1.f1) ∧ W.cell? ⟨w.heap.size, 3, none⟩ = some (.slice A0 x.f2.length c0) ∧ W.cell? ⟨w.heap.size, 4, none⟩ = some (.slice A1 x.f3.length c1) ∧ W.cell? ⟨w.heap.size + 1, 0, none⟩ = some (.string a.f0) ∧ W.cell? ⟨w.heap.size + 1, 1, none⟩ = some (.string a.f1) ∧ W.cell? ⟨w.heap.size + 1 + 1, 0, none⟩ = some (.string ⟨#[]⟩) ∧ W.cell? ⟨w.heap.size + 1 + 1, 1, none⟩ = some (.string ⟨#[]⟩) ∧ W.cell? ⟨w.heap.size + 1 + 1, 2, none⟩ = some (.slice none 0 0) ∧ W.cell? ⟨w.heap.size + 1 + 1, 3, none⟩ = some (.slice none 0 0) ∧ W.frozen? ⟨w.heap.size + 1 + 1, 0, none⟩ = false ∧ W.frozen? ⟨w.heap.size + 1 + 1, 1, none⟩ = false ∧ W.frozen? ⟨w.heap.size + 1 + 1, 2, none⟩ = false ∧ W.frozen? ⟨w.heap.size + 1 + 1, 3, none⟩ = false) := ⟨fun W h => ⟨(h.cell (p := ⟨w.heap.size, 0, none⟩) Z0).trans c0_, (h.cell (p := ⟨w.heap.size, 1, none⟩) Z0).trans c1_, (h.cell (p := ⟨w.heap.size, 2, none⟩) Z0).trans c2_, (h.cell (p := ⟨w.heap.size, 3, none⟩) Z0).trans c3_, (h.cell (p := ⟨w.heap.size, 4, none⟩) Z0).trans c4_, (h.cell (p := ⟨w.heap.size + 1, 0, none⟩) Z1).trans c5_, (h.cell (p := ⟨w.heap.size + 1, 1, none⟩) Z1).trans c6_, (h.cell (p := ⟨w.heap.size + 1 + 1, 0, none⟩) Z2).trans c7_, (h.cell (p := ⟨w.heap.size + 1 + 1, 1, none⟩) Z2).trans c8_, (h.cell (p := ⟨w.heap.size + 1 + 1, 2, none⟩) Z2).trans c9_, (h.cell (p := ⟨w.heap.size + 1 + 1, 3, none⟩) Z2).trans c10_, (h.frozen (p := ⟨w.heap.size + 1 + 1, 0, none⟩) Z2).trans c11_, (h.frozen (p := ⟨w.heap.size + 1 + 1, 1, none⟩) Z2).trans c12_, (h.frozen (p := ⟨w.heap.size + 1 + 1, 2, none⟩) Z2).trans c13_, (h.frozen (p := ⟨w.heap.size + 1 + 1, 3, none⟩) Z2).trans c14_⟩⟩
 clear hW0 c0_ c1_ c2_ c3_ c4_ c5_ c6_ c7_ c8_ c9_ c10_ c11_ c12_ c13_ c14_
 have HB0 := Aside0.mk B0
 have hsz := B0.size
 clear B0
 obtain ⟨e0_, e1_, e2_, e3_, e4_, e5_, e6_, e7_, e8_, e9_, e10_, e11_, e12_, e13_, e14_⟩ := HC.out _ (Below.refl _ _)
 go_wp2_with fail
 have HK : Aside0 (∀ W W1, Below W.heap.size W W1 → (W.cell? ⟨w.heap.size, 1, none⟩ = some (.string x.f1.f0) ∧ W.cell? ⟨w.heap.size, 2, none⟩ = some (.string x.f1.f1) ∧ W.cell? ⟨w.heap.size + 1, 0, none⟩ = some (.string a.f0) ∧ W.cell? ⟨w.heap.size + 1, 1, none⟩ = some (.string a.f1) ∧ Below W0.heap.size W0 W) → (W1.cell? ⟨w.heap.size, 1, none⟩ = some (.string x.f1.f0) ∧ W1.cell? ⟨w.heap.size, 2, none⟩ = some (.string x.f1.f1) ∧ W1.cell? ⟨w.heap.size + 1, 0, none⟩ = some (.string a.f0) ∧ W1.cell? ⟨w.heap.size + 1, 1, none⟩ = some (.string a.f1) ∧ Below W0.heap.size W0 W1)) := ⟨fun W W1 hb h => ⟨(hb.cell (World.block_lt_of_cell? W _ (h.1))).trans (h.1), (hb.cell (World.block_lt_of_cell? W _ (h.2.1))).trans (h.2.1), (hb.cell (World.block_lt_of_cell? W _ (h.2.2.1))).trans (h.2.2.1), (hb.cell (World.block_lt_of_cell? W _ (h.2.2.2.1))).trans (h.2.2.2.1), bel_then (h.2.2.2.2) hb⟩⟩
 have join : Hid (∀ {goal : Prop} {G : Nat → Nat → Nat → World → Prop} (rg : Hid (∀ g2 g5 g7 V, Below W0.heap.size W0 V ∧ W0.heap.size ≤ g7 ∧ g7 < V.heap.size ∧ Kd.R kAddr 24 V W0.heap.size (fun _ => True) (.slice (some ⟨g2, 0, none⟩) 1 1) [x.f1] ∧ Kd.R Kd.string 9 V W0.heap.size (fun _ => True) (.slice (some ⟨g5, 0, none⟩) 2 2) [⟨#[110, 111, 116, 32, 100, 101, 108, 105, 118, 101, 114, 101, 100, 58]⟩, textS a.f0 a.f1] ∧ V.heap[g7]? = some (.cells #[.string ⟨#[]⟩, .string ⟨#[]⟩, .slice (some ⟨g2, 0, none⟩) 1 1, .slice (some ⟨g5, 0, none⟩) 2 2] 33 (0, 0)) → G g2 g5 g7 V) → goal) (hk : ∀ g2 g5 g7 V, Below W0.heap.size W0 V ∧ W0.heap.size ≤ g7 ∧ g7 < V.heap.size ∧ Kd.R kAddr 24 V W0.heap.size (fun _ => True) (.slice (some ⟨g2, 0, none⟩) 1 1) [x.f1] ∧ Kd.R Kd.string 9 V W0.heap.size (fun _ => True) (.slice (some ⟨g5, 0, none⟩) 2 2) [⟨#[110, 111, 116, 32, 100, 101, 108, 105, 118, 101, 114, 101, 100, 58]⟩, textS a.f0 a.f1] ∧ V.heap[g7]? = some (.cells #[.string ⟨#[]⟩, .string ⟨#[]⟩, .slice (some ⟨g2, 0, none⟩) 1 1, .slice (some ⟨g5, 0, none⟩) 2 2] 33 (0, 0)) → G g2 g5 g7 V), goal) := Lib.hid (fun f h => f (Lib.hid h))
 have HST : Aside0 ((fun W => W.cell? ⟨w.heap.size, 1, none⟩ = some (.string x.f1.f0) ∧ W.cell? ⟨w.heap.size, 2, none⟩ = some (.string x.f1.f1) ∧ W.cell? ⟨w.heap.size + 1, 0, none⟩ = some (.string a.f0) ∧ W.cell? ⟨w.heap.size + 1, 1, none⟩ = some (.string a.f1) ∧ Below W0.heap.size W0 W) W0.drew) := ⟨⟨e1_, e2_, e5_, e6_, bel_then (Below.refl _ _) (drew_below0 W0)⟩⟩
 clear e0_ e1_ e2_ e3_ e4_ e5_ e6_ e7_ e8_ e9_ e10_ e11_ e12_ e13_ e14_
 apply join.out
 case rg =>
  intro HKK
  refine wp_region_held_drew (S := (fun W => W.cell? ⟨w.heap.size, 1, none⟩ = some (.string x.f1.f0) ∧ W.cell? ⟨w.heap.size, 2, none⟩ = some (.string x.f1.f1) ∧ W.cell? ⟨w.heap.size + 1, 0, none⟩ = some (.string a.f0) ∧ W.cell? ⟨w.heap.size + 1, 1, none⟩ = some (.string a.f1) ∧ Below W0.heap.size W0 W)) (by kernel_rfl) ?s638 (fun hHeld => ?t638)
  case s638 => exact HST.out
  generalize World.drew _ = V0 at hHeld ⊢
  have s0_ : W0.heap.size ≤ V0.heap.size := hHeld.2.2.2.2.size
  refine tk 0 ?v639 ?y639 ?r639
  case y639 => intro w_ hSw; (try dsimp only at hSw); go_simp; (try (with_reducible rfl))
  try simp only [Act.put, List.setIfInBounds_toArray, List.set_cons_zero, List.set_cons_succ]
  refine tk 1 ?v640 ?y640 ?r640
  case y640 => intro w_ hSw; (try dsimp only at hSw); go_simp; (try (with_reducible rfl))
  try simp only [Act.put, List.setIfInBounds_toArray, List.set_cons_zero, List.set_cons_succ]
  refine tk 3 ?v641 ?y641 ?r641
  case y641 => intro w_ hSw; (try dsimp only at hSw); go_simp; (try (with_reducible rfl))
  try simp only [Act.put, List.setIfInBounds_toArray, List.set_cons_zero, List.set_cons_succ]
  refine rdy (rs := [2, 4, 7]) ?_
  refine rc (fun K hK => ?k642) (rc (fun K hK => ?k643) (rc (fun K hK => ?k644) AllReadyH.nil))
  case k642 =>
   go_simp
   refine hK.out _ _ ?h645 (fun hHeld => ?j645)
   case h645 => exact HK.out _ _ (bel_alloc (Below.refl _ _) _) hHeld
   clear hK K
   try simp only [Act.put, List.setIfInBounds_toArray, List.set_cons_zero, List.set_cons_succ]
   generalize hV2 : World.alloc V0 _ = V2 at hHeld ⊢
   have b2 : Below V0.heap.size V0 V2 := by rw [← hV2]; exact bel_alloc (Below.refl _ _) _
   have z2 : V0.heap.size < V2.heap.size := by rw [← hV2]; simp
   have F2 := Aside0.mk (hV2 ▸ R_one kAddr 24 V0 W0.heap.size x.f1 [.string x.f1.f0, .string x.f1.f1] (kAddr_mkM _ _ _ x.f1) (by omega))
   have a2 : W0.heap.size ≤ V0.heap.size := by omega
   obtain ⟨g2, hg2⟩ : ∃ g, g = V0.heap.size := ⟨_, rfl⟩
   rw [← hg2] at F2 z2 a2 ⊢
   clear hV2 hg2
   have s2_ : W0.heap.size ≤ V2.heap.size := hHeld.2.2.2.2.size
   refine rdy (rs := [4, 7]) ?_
   refine rc (fun K hK => ?k646) (rc (fun K hK => ?k647) AllReadyH.nil)
   case k646 =>
    go_simp
    refine ((htext V2)).mono ?_
    rintro e V4 ⟨rfl, b4⟩
    refine hK.out _ _ ?h648 (fun hHeld => ?j648)
    case h648 => exact HK.out _ _ b4 hHeld
    clear hK K
    try simp only [Act.put, List.setIfInBounds_toArray, List.set_cons_zero, List.set_cons_succ]
    have s4_ : W0.heap.size ≤ V4.heap.size := hHeld.2.2.2.2.size
    replace F2 := Aside0.mk (Kd.R_below F2.out b4)
    refine rdy (rs := [5, 7]) ?_
    refine rc (fun K hK => ?k649) (rc (fun K hK => ?k650) AllReadyH.nil)
    case k649 =>
     go_simp
     refine hK.out _ _ ?h651 (fun hHeld => ?j651)
     case h651 => exact HK.out _ _ (bel_alloc (Below.refl _ _) _) hHeld
     clear hK K
     try simp only [Act.put, List.setIfInBounds_toArray, List.set_cons_zero, List.set_cons_succ]
     generalize hV5 : World.alloc V4 _ = V5 at hHeld ⊢
     have b5 : Below V4.heap.size V4 V5 := by rw [← hV5]; exact bel_alloc (Below.refl _ _) _
     have z5 : V4.heap.size < V5.heap.size := by rw [← hV5]; simp
     have F5 := Aside0.mk (hV5 ▸ R_two Kd.string 9 V4 W0.heap.size ⟨#[110, 111, 116, 32, 100, 101, 108, 105, 118, 101, 114, 101, 100, 58]⟩ (textS a.f0 a.f1) [.string ⟨#[110, 111, 116, 32, 100, 101, 108, 105, 118, 101, 114, 101, 100, 58]⟩] [.string (textS a.f0 a.f1)] rfl rfl (by omega))
     have a5 : W0.heap.size ≤ V4.heap.size := by omega
     obtain ⟨g5, hg5⟩ : ∃ g, g = V4.heap.size := ⟨_, rfl⟩
     rw [← hg5] at F5 z5 a5 ⊢
     clear hV5 hg5
     have s5_ : W0.heap.size ≤ V5.heap.size := hHeld.2.2.2.2.size
     replace F2 := Aside0.mk (Kd.R_below F2.out b5)
     refine tk 6 ?v652 ?y652 ?r652
     case y652 => intro w_ hSw; (try dsimp only at hSw); go_simp; (try (with_reducible rfl))
     try simp only [Act.put, List.setIfInBounds_toArray, List.set_cons_zero, List.set_cons_succ]
     refine rdy (rs := [7]) ?_
     refine rc (fun K hK => ?k653) AllReadyH.nil
     case k653 =>
      go_simp
      refine hK.out _ _ ?h654 (fun hHeld => ?j654)
      case h654 => exact HK.out _ _ (bel_alloc (Below.refl _ _) _) hHeld
      clear hK K
      try simp only [Act.put, List.setIfInBounds_toArray, List.set_cons_zero, List.set_cons_succ]
      generalize hV7 : World.alloc V5 _ = V7 at hHeld ⊢
      have b7 : Below V5.heap.size V5 V7 := by rw [← hV7]; exact bel_alloc (Below.refl _ _) _
      have z7 : V5.heap.size < V7.heap.size := by rw [← hV7]; simp
      have F7 := Aside0.mk ((by rw [← hV7]; exact blk_new _ _ : V7.heap[V5.heap.size]? = some (.cells #[.string ⟨#[]⟩, .string ⟨#[]⟩, .slice none 0 0, .slice none 0 0] 33 (0, 0))))
      have a7 : W0.heap.size ≤ V5.heap.size := by omega
      obtain ⟨g7, hg7⟩ : ∃ g, g = V5.heap.size := ⟨_, rfl⟩
      rw [← hg7] at F7 z7 a7 ⊢
      clear hV7 hg7
      have s7_ : W0.heap.size ≤ V7.heap.size := hHeld.2.2.2.2.size
      replace F2 := Aside0.mk (Kd.R_below F2.out b7)
      replace F5 := Aside0.mk (Kd.R_below F5.out b7)
      refine rdy (rs := [8]) ?_
      refine rc (fun K hK => ?k655) AllReadyH.nil
      case k655 =>
       have hb7 := F7.out
       have y0_ : V7.cell? ⟨g7, 0, none⟩ = some (.string ⟨#[]⟩) := by simp [World.cell?, hb7]
       have y1_ : V7.cell? ⟨g7, 1, none⟩ = some (.string ⟨#[]⟩) := by simp [World.cell?, hb7]
       have y2_ : V7.cell? ⟨g7, 2, none⟩ = some (.slice none 0 0) := by simp [World.cell?, hb7]
       have y3_ : V7.cell? ⟨g7, 3, none⟩ = some (.slice none 0 0) := by simp [World.cell?, hb7]
       have u0_ : V7.frozen? ⟨g7, 0, none⟩ = false := by simp [World.frozen?, hb7]
       have u1_ : V7.frozen? ⟨g7, 1, none⟩ = false := by simp [World.frozen?, hb7]
       have u2_ : V7.frozen? ⟨g7, 2, none⟩ = false := by simp [World.frozen?, hb7]
       have u3_ : V7.frozen? ⟨g7, 3, none⟩ = false := by simp [World.frozen?, hb7]
       go_simp
       generalize hV8 : World.setCell (World.setCell (World.setCell (World.setCell V7 ⟨g7, 0, none⟩ _) ⟨g7, 1, none⟩ _) ⟨g7, 2, none⟩ _) ⟨g7, 3, none⟩ _ = V8
       have G8 : V7.grownBy V8 (some g7) := by rw [← hV8]; exact grown_set4 _ _ _ _ _ _
       have F8 : V8.heap[g7]? = some (.cells #[.string ⟨#[]⟩, .string ⟨#[]⟩, .slice (some ⟨g2, 0, none⟩) 1 1, .slice (some ⟨g5, 0, none⟩) 2 2] 33 (0, 0)) := by rw [← hV8]; exact blk_set4 F7.out _ _ _ _
       have BB : Below W0.heap.size W0 V8 := by rw [← hV8]; exact bel_set (bel_set (bel_set (bel_set hHeld.2.2.2.2 _ a7) _ a7) _ a7) _ a7
       clear hV8
       refine hK.out _ _ ?h656 (fun hHeld => ?j656)
       case h656 => (obtain ⟨k0, k1, k2, k3, k4, k5, k6, _⟩ := HC.out _ BB; exact ⟨k1, k2, k5, k6, BB⟩)
       clear hK K
       try simp only [Act.put, List.setIfInBounds_toArray, List.set_cons_zero, List.set_cons_succ]
       replace F2 := Aside0.mk (R_else F2.out rfl G8 (Kd.R_ne F2.out F7.out (by decide)))
       replace F5 := Aside0.mk (R_else F5.out rfl G8 (Kd.R_ne F5.out F7.out (by decide)))
       replace F7 := Aside0.mk F8
       have s8_ : W0.heap.size ≤ V8.heap.size := hHeld.2.2.2.2.size
       refine wpAnyH_done (by kernel_rfl) ?_ _
       exact HKK.out g2 g5 g7 V8 ⟨BB, a7, blk_lt F7.out, F2.out, F5.out, F7.out⟩
    case k650 =>
     go_simp
     refine hK.out _ _ ?h657 (fun hHeld => ?j657)
     case h657 => exact HK.out _ _ (bel_alloc (Below.refl _ _) _) hHeld
     clear hK K
     try simp only [Act.put, List.setIfInBounds_toArray, List.set_cons_zero, List.set_cons_succ]
     generalize hV7 : World.alloc V4 _ = V7 at hHeld ⊢
     have b7 : Below V4.heap.size V4 V7 := by rw [← hV7]; exact bel_alloc (Below.refl _ _) _
     have z7 : V4.heap.size < V7.heap.size := by rw [← hV7]; simp
     have F7 := Aside0.mk ((by rw [← hV7]; exact blk_new _ _ : V7.heap[V4.heap.size]? = some (.cells #[.string ⟨#[]⟩, .string ⟨#[]⟩, .slice none 0 0, .slice none 0 0] 33 (0, 0))))
     have a7 : W0.heap.size ≤ V4.heap.size := by omega
     obtain ⟨g7, hg7⟩ : ∃ g, g = V4.heap.size := ⟨_, rfl⟩
     rw [← hg7] at F7 z7 a7 ⊢
     clear hV7 hg7
     have s7_ : W0.heap.size ≤ V7.heap.size := hHeld.2.2.2.2.size
     replace F2 := Aside0.mk (Kd.R_below F2.out b7)
     refine rdy (rs := [5]) ?_
     refine rc (fun K hK => ?k658) AllReadyH.nil
     case k658 =>
      go_simp
      refine hK.out _ _ ?h659 (fun hHeld => ?j659)
      case h659 => exact HK.out _ _ (bel_alloc (Below.refl _ _) _) hHeld
      clear hK K
      try simp only [Act.put, List.setIfInBounds_toArray, List.set_cons_zero, List.set_cons_succ]
      generalize hV5 : World.alloc V7 _ = V5 at hHeld ⊢
      have b5 : Below V7.heap.size V7 V5 := by rw [← hV5]; exact bel_alloc (Below.refl _ _) _
      have z5 : V7.heap.size < V5.heap.size := by rw [← hV5]; simp
      have F5 := Aside0.mk (hV5 ▸ R_two Kd.string 9 V7 W0.heap.size ⟨#[110, 111, 116, 32, 100, 101, 108, 105, 118, 101, 114, 101, 100, 58]⟩ (textS a.f0 a.f1) [.string ⟨#[110, 111, 116, 32, 100, 101, 108, 105, 118, 101, 114, 101, 100, 58]⟩] [.string (textS a.f0 a.f1)] rfl rfl (by omega))
      have a5 : W0.heap.size ≤ V7.heap.size := by omega
      obtain ⟨g5, hg5⟩ : ∃ g, g = V7.heap.size := ⟨_, rfl⟩
      rw [← hg5] at F5 z5 a5 ⊢
      clear hV5 hg5
      have s5_ : W0.heap.size ≤ V5.heap.size := hHeld.2.2.2.2.size
      replace F2 := Aside0.mk (Kd.R_below F2.out b5)
      replace F7 := Aside0.mk (below_blk F7.out b5)
      refine tk 6 ?v660 ?y660 ?r660
      case y660 => intro w_ hSw; (try dsimp only at hSw); go_simp; (try (with_reducible rfl))
      try simp only [Act.put, List.setIfInBounds_toArray, List.set_cons_zero, List.set_cons_succ]
      refine rdy (rs := [8]) ?_
      refine rc (fun K hK => ?k661) AllReadyH.nil
      case k661 =>
       have hb7 := F7.out
       have y0_ : V5.cell? ⟨g7, 0, none⟩ = some (.string ⟨#[]⟩) := by simp [World.cell?, hb7]
       have y1_ : V5.cell? ⟨g7, 1, none⟩ = some (.string ⟨#[]⟩) := by simp [World.cell?, hb7]
       have y2_ : V5.cell? ⟨g7, 2, none⟩ = some (.slice none 0 0) := by simp [World.cell?, hb7]
       have y3_ : V5.cell? ⟨g7, 3, none⟩ = some (.slice none 0 0) := by simp [World.cell?, hb7]
       have u0_ : V5.frozen? ⟨g7, 0, none⟩ = false := by simp [World.frozen?, hb7]
       have u1_ : V5.frozen? ⟨g7, 1, none⟩ = false := by simp [World.frozen?, hb7]
       have u2_ : V5.frozen? ⟨g7, 2, none⟩ = false := by simp [World.frozen?, hb7]
       have u3_ : V5.frozen? ⟨g7, 3, none⟩ = false := by simp [World.frozen?, hb7]
       go_simp
       generalize hV8 : World.setCell (World.setCell (World.setCell (World.setCell V5 ⟨g7, 0, none⟩ _) ⟨g7, 1, none⟩ _) ⟨g7, 2, none⟩ _) ⟨g7, 3, none⟩ _ = V8
       have G8 : V5.grownBy V8 (some g7) := by rw [← hV8]; exact grown_set4 _ _ _ _ _ _
       have F8 : V8.heap[g7]? = some (.cells #[.string ⟨#[]⟩, .string ⟨#[]⟩, .slice (some ⟨g2, 0, none⟩) 1 1, .slice (some ⟨g5, 0, none⟩) 2 2] 33 (0, 0)) := by rw [← hV8]; exact blk_set4 F7.out _ _ _ _
       have BB : Below W0.heap.size W0 V8 := by rw [← hV8]; exact bel_set (bel_set (bel_set (bel_set hHeld.2.2.2.2 _ a7) _ a7) _ a7) _ a7
       clear hV8
       refine hK.out _ _ ?h662 (fun hHeld => ?j662)
       case h662 => (obtain ⟨k0, k1, k2, k3, k4, k5, k6, _⟩ := HC.out _ BB; exact ⟨k1, k2, k5, k6, BB⟩)
       clear hK K
       try simp only [Act.put, List.setIfInBounds_toArray, List.set_cons_zero, List.set_cons_succ]
       replace F2 := Aside0.mk (R_else F2.out rfl G8 (Kd.R_ne F2.out F7.out (by decide)))
       replace F5 := Aside0.mk (R_else F5.out rfl G8 (Kd.R_ne F5.out F7.out (by decide)))
       replace F7 := Aside0.mk F8
       have s8_ : W0.heap.size ≤ V8.heap.size := hHeld.2.2.2.2.size
       refine wpAnyH_done (by kernel_rfl) ?_ _
       exact HKK.out g2 g5 g7 V8 ⟨BB, a7, blk_lt F7.out, F2.out, F5.out, F7.out⟩
   case k647 =>
    go_simp
    refine hK.out _ _ ?h663 (fun hHeld => ?j663)
    case h663 => exact HK.out _ _ (bel_alloc (Below.refl _ _) _) hHeld
    clear hK K
    try simp only [Act.put, List.setIfInBounds_toArray, List.set_cons_zero, List.set_cons_succ]
    generalize hV7 : World.alloc V2 _ = V7 at hHeld ⊢
    have b7 : Below V2.heap.size V2 V7 := by rw [← hV7]; exact bel_alloc (Below.refl _ _) _
    have z7 : V2.heap.size < V7.heap.size := by rw [← hV7]; simp
    have F7 := Aside0.mk ((by rw [← hV7]; exact blk_new _ _ : V7.heap[V2.heap.size]? = some (.cells #[.string ⟨#[]⟩, .string ⟨#[]⟩, .slice none 0 0, .slice none 0 0] 33 (0, 0))))
    have a7 : W0.heap.size ≤ V2.heap.size := by omega
    obtain ⟨g7, hg7⟩ : ∃ g, g = V2.heap.size := ⟨_, rfl⟩
    rw [← hg7] at F7 z7 a7 ⊢
    clear hV7 hg7
    have s7_ : W0.heap.size ≤ V7.heap.size := hHeld.2.2.2.2.size
    replace F2 := Aside0.mk (Kd.R_below F2.out b7)
    refine rdy (rs := [4]) ?_
    refine rc (fun K hK => ?k664) AllReadyH.nil
    case k664 =>
     go_simp
     refine ((htext V7)).mono ?_
     rintro e V4 ⟨rfl, b4⟩
     refine hK.out _ _ ?h665 (fun hHeld => ?j665)
     case h665 => exact HK.out _ _ b4 hHeld
     clear hK K
     try simp only [Act.put, List.setIfInBounds_toArray, List.set_cons_zero, List.set_cons_succ]
     have s4_ : W0.heap.size ≤ V4.heap.size := hHeld.2.2.2.2.size
     replace F2 := Aside0.mk (Kd.R_below F2.out b4)
     replace F7 := Aside0.mk (below_blk F7.out b4)
     refine rdy (rs := [5]) ?_
     refine rc (fun K hK => ?k666) AllReadyH.nil
     case k666 =>
      go_simp
      refine hK.out _ _ ?h667 (fun hHeld => ?j667)
      case h667 => exact HK.out _ _ (bel_alloc (Below.refl _ _) _) hHeld
      clear hK K
      try simp only [Act.put, List.setIfInBounds_toArray, List.set_cons_zero, List.set_cons_succ]
      generalize hV5 : World.alloc V4 _ = V5 at hHeld ⊢
      have b5 : Below V4.heap.size V4 V5 := by rw [← hV5]; exact bel_alloc (Below.refl _ _) _
      have z5 : V4.heap.size < V5.heap.size := by rw [← hV5]; simp
      have F5 := Aside0.mk (hV5 ▸ R_two Kd.string 9 V4 W0.heap.size ⟨#[110, 111, 116, 32, 100, 101, 108, 105, 118, 101, 114, 101, 100, 58]⟩ (textS a.f0 a.f1) [.string ⟨#[110, 111, 116, 32, 100, 101, 108, 105, 118, 101, 114, 101, 100, 58]⟩] [.string (textS a.f0 a.f1)] rfl rfl (by omega))
      have a5 : W0.heap.size ≤ V4.heap.size := by omega
      obtain ⟨g5, hg5⟩ : ∃ g, g = V4.heap.size := ⟨_, rfl⟩
      rw [← hg5] at F5 z5 a5 ⊢
      clear hV5 hg5
      have s5_ : W0.heap.size ≤ V5.heap.size := hHeld.2.2.2.2.size
      replace F2 := Aside0.mk (Kd.R_below F2.out b5)
      replace F7 := Aside0.mk (below_blk F7.out b5)
      refine tk 6 ?v668 ?y668 ?r668
      case y668 => intro w_ hSw; (try dsimp only at hSw); go_simp; (try (with_reducible rfl))
      try simp only [Act.put, List.setIfInBounds_toArray, List.set_cons_zero, List.set_cons_succ]
      refine rdy (rs := [8]) ?_
      refine rc (fun K hK => ?k669) AllReadyH.nil
      case k669 =>
       have hb7 := F7.out
       have y0_ : V5.cell? ⟨g7, 0, none⟩ = some (.string ⟨#[]⟩) := by simp [World.cell?, hb7]
       have y1_ : V5.cell? ⟨g7, 1, none⟩ = some (.string ⟨#[]⟩) := by simp [World.cell?, hb7]
       have y2_ : V5.cell? ⟨g7, 2, none⟩ = some (.slice none 0 0) := by simp [World.cell?, hb7]
       have y3_ : V5.cell? ⟨g7, 3, none⟩ = some (.slice none 0 0) := by simp [World.cell?, hb7]
       have u0_ : V5.frozen? ⟨g7, 0, none⟩ = false := by simp [World.frozen?, hb7]
       have u1_ : V5.frozen? ⟨g7, 1, none⟩ = false := by simp [World.frozen?, hb7]
       have u2_ : V5.frozen? ⟨g7, 2, none⟩ = false := by simp [World.frozen?, hb7]
       have u3_ : V5.frozen? ⟨g7, 3, none⟩ = false := by simp [World.frozen?, hb7]
       go_simp
       generalize hV8 : World.setCell (World.setCell (World.setCell (World.setCell V5 ⟨g7, 0, none⟩ _) ⟨g7, 1, none⟩ _) ⟨g7, 2, none⟩ _) ⟨g7, 3, none⟩ _ = V8
       have G8 : V5.grownBy V8 (some g7) := by rw [← hV8]; exact grown_set4 _ _ _ _ _ _
       have F8 : V8.heap[g7]? = some (.cells #[.string ⟨#[]⟩, .string ⟨#[]⟩, .slice (some ⟨g2, 0, none⟩) 1 1, .slice (some ⟨g5, 0, none⟩) 2 2] 33 (0, 0)) := by rw [← hV8]; exact blk_set4 F7.out _ _ _ _
       have BB : Below W0.heap.size W0 V8 := by rw [← hV8]; exact bel_set (bel_set (bel_set (bel_set hHeld.2.2.2.2 _ a7) _ a7) _ a7) _ a7
       clear hV8
       refine hK.out _ _ ?h670 (fun hHeld => ?j670)
       case h670 => (obtain ⟨k0, k1, k2, k3, k4, k5, k6, _⟩ := HC.out _ BB; exact ⟨k1, k2, k5, k6, BB⟩)
       clear hK K
       try simp only [Act.put, List.setIfInBounds_toArray, List.set_cons_zero, List.set_cons_succ]
       replace F2 := Aside0.mk (R_else F2.out rfl G8 (Kd.R_ne F2.out F7.out (by decide)))
       replace F5 := Aside0.mk (R_else F5.out rfl G8 (Kd.R_ne F5.out F7.out (by decide)))
       replace F7 := Aside0.mk F8
       have s8_ : W0.heap.size ≤ V8.heap.size := hHeld.2.2.2.2.size
       refine wpAnyH_done (by kernel_rfl) ?_ _
       exact HKK.out g2 g5 g7 V8 ⟨BB, a7, blk_lt F7.out, F2.out, F5.out, F7.out⟩
  case k643 =>
   go_simp
   refine ((htext V0)).mono ?_
   rintro e V4 ⟨rfl, b4⟩
   refine hK.out _ _ ?h671 (fun hHeld => ?j671)
   case h671 => exact HK.out _ _ b4 hHeld
   clear hK K
   try simp only [Act.put, List.setIfInBounds_toArray, List.set_cons_zero, List.set_cons_succ]
   have s4_ : W0.heap.size ≤ V4.heap.size := hHeld.2.2.2.2.size
   refine rdy (rs := [2, 5, 7]) ?_
   refine rc (fun K hK => ?k672) (rc (fun K hK => ?k673) (rc (fun K hK => ?k674) AllReadyH.nil))
   case k672 =>
    go_simp
    refine hK.out _ _ ?h675 (fun hHeld => ?j675)
    case h675 => exact HK.out _ _ (bel_alloc (Below.refl _ _) _) hHeld
    clear hK K
    try simp only [Act.put, List.setIfInBounds_toArray, List.set_cons_zero, List.set_cons_succ]
    generalize hV2 : World.alloc V4 _ = V2 at hHeld ⊢
    have b2 : Below V4.heap.size V4 V2 := by rw [← hV2]; exact bel_alloc (Below.refl _ _) _
    have z2 : V4.heap.size < V2.heap.size := by rw [← hV2]; simp
    have F2 := Aside0.mk (hV2 ▸ R_one kAddr 24 V4 W0.heap.size x.f1 [.string x.f1.f0, .string x.f1.f1] (kAddr_mkM _ _ _ x.f1) (by omega))
    have a2 : W0.heap.size ≤ V4.heap.size := by omega
    obtain ⟨g2, hg2⟩ : ∃ g, g = V4.heap.size := ⟨_, rfl⟩
    rw [← hg2] at F2 z2 a2 ⊢
    clear hV2 hg2
    have s2_ : W0.heap.size ≤ V2.heap.size := hHeld.2.2.2.2.size
    refine rdy (rs := [5, 7]) ?_
    refine rc (fun K hK => ?k676) (rc (fun K hK => ?k677) AllReadyH.nil)
    case k676 =>
     go_simp
     refine hK.out _ _ ?h678 (fun hHeld => ?j678)
     case h678 => exact HK.out _ _ (bel_alloc (Below.refl _ _) _) hHeld
     clear hK K
     try simp only [Act.put, List.setIfInBounds_toArray, List.set_cons_zero, List.set_cons_succ]
     generalize hV5 : World.alloc V2 _ = V5 at hHeld ⊢
     have b5 : Below V2.heap.size V2 V5 := by rw [← hV5]; exact bel_alloc (Below.refl _ _) _
     have z5 : V2.heap.size < V5.heap.size := by rw [← hV5]; simp
     have F5 := Aside0.mk (hV5 ▸ R_two Kd.string 9 V2 W0.heap.size ⟨#[110, 111, 116, 32, 100, 101, 108, 105, 118, 101, 114, 101, 100, 58]⟩ (textS a.f0 a.f1) [.string ⟨#[110, 111, 116, 32, 100, 101, 108, 105, 118, 101, 114, 101, 100, 58]⟩] [.string (textS a.f0 a.f1)] rfl rfl (by omega))
     have a5 : W0.heap.size ≤ V2.heap.size := by omega
     obtain ⟨g5, hg5⟩ : ∃ g, g = V2.heap.size := ⟨_, rfl⟩
     rw [← hg5] at F5 z5 a5 ⊢
     clear hV5 hg5
     have s5_ : W0.heap.size ≤ V5.heap.size := hHeld.2.2.2.2.size
     replace F2 := Aside0.mk (Kd.R_below F2.out b5)
     refine tk 6 ?v679 ?y679 ?r679
     case y679 => intro w_ hSw; (try dsimp only at hSw); go_simp; (try (with_reducible rfl))
     try simp only [Act.put, List.setIfInBounds_toArray, List.set_cons_zero, List.set_cons_succ]
     refine rdy (rs := [7]) ?_
     refine rc (fun K hK => ?k680) AllReadyH.nil
     case k680 =>
      go_simp
      refine hK.out _ _ ?h681 (fun hHeld => ?j681)
      case h681 => exact HK.out _ _ (bel_alloc (Below.refl _ _) _) hHeld
      clear hK K
      try simp only [Act.put, List.setIfInBounds_toArray, List.set_cons_zero, List.set_cons_succ]
      generalize hV7 : World.alloc V5 _ = V7 at hHeld ⊢
      have b7 : Below V5.heap.size V5 V7 := by rw [← hV7]; exact bel_alloc (Below.refl _ _) _
      have z7 : V5.heap.size < V7.heap.size := by rw [← hV7]; simp
      have F7 := Aside0.mk ((by rw [← hV7]; exact blk_new _ _ : V7.heap[V5.heap.size]? = some (.cells #[.string ⟨#[]⟩, .string ⟨#[]⟩, .slice none 0 0, .slice none 0 0] 33 (0, 0))))
      have a7 : W0.heap.size ≤ V5.heap.size := by omega
      obtain ⟨g7, hg7⟩ : ∃ g, g = V5.heap.size := ⟨_, rfl⟩
      rw [← hg7] at F7 z7 a7 ⊢
      clear hV7 hg7
      have s7_ : W0.heap.size ≤ V7.heap.size := hHeld.2.2.2.2.size
      replace F2 := Aside0.mk (Kd.R_below F2.out b7)
      replace F5 := Aside0.mk (Kd.R_below F5.out b7)
      refine rdy (rs := [8]) ?_
      refine rc (fun K hK => ?k682) AllReadyH.nil
      case k682 =>
       have hb7 := F7.out
       have y0_ : V7.cell? ⟨g7, 0, none⟩ = some (.string ⟨#[]⟩) := by simp [World.cell?, hb7]
       have y1_ : V7.cell? ⟨g7, 1, none⟩ = some (.string ⟨#[]⟩) := by simp [World.cell?, hb7]
       have y2_ : V7.cell? ⟨g7, 2, none⟩ = some (.slice none 0 0) := by simp [World.cell?, hb7]
       have y3_ : V7.cell? ⟨g7, 3, none⟩ = some (.slice none 0 0) := by simp [World.cell?, hb7]
       have u0_ : V7.frozen? ⟨g7, 0, none⟩ = false := by simp [World.frozen?, hb7]
       have u1_ : V7.frozen? ⟨g7, 1, none⟩ = false := by simp [World.frozen?, hb7]
       have u2_ : V7.frozen? ⟨g7, 2, none⟩ = false := by simp [World.frozen?, hb7]
       have u3_ : V7.frozen? ⟨g7, 3, none⟩ = false := by simp [World.frozen?, hb7]
       go_simp
       generalize hV8 : World.setCell (World.setCell (World.setCell (World.setCell V7 ⟨g7, 0, none⟩ _) ⟨g7, 1, none⟩ _) ⟨g7, 2, none⟩ _) ⟨g7, 3, none⟩ _ = V8
       have G8 : V7.grownBy V8 (some g7) := by rw [← hV8]; exact grown_set4 _ _ _ _ _ _
       have F8 : V8.heap[g7]? = some (.cells #[.string ⟨#[]⟩, .string ⟨#[]⟩, .slice (some ⟨g2, 0, none⟩) 1 1, .slice (some ⟨g5, 0, none⟩) 2 2] 33 (0, 0)) := by rw [← hV8]; exact blk_set4 F7.out _ _ _ _
       have BB : Below W0.heap.size W0 V8 := by rw [← hV8]; exact bel_set (bel_set (bel_set (bel_set hHeld.2.2.2.2 _ a7) _ a7) _ a7) _ a7
       clear hV8
       refine hK.out _ _ ?h683 (fun hHeld => ?j683)
       case h683 => (obtain ⟨k0, k1, k2, k3, k4, k5, k6, _⟩ := HC.out _ BB; exact ⟨k1, k2, k5, k6, BB⟩)
       clear hK K
       try simp only [Act.put, List.setIfInBounds_toArray, List.set_cons_zero, List.set_cons_succ]
       replace F2 := Aside0.mk (R_else F2.out rfl G8 (Kd.R_ne F2.out F7.out (by decide)))
       replace F5 := Aside0.mk (R_else F5.out rfl G8 (Kd.R_ne F5.out F7.out (by decide)))
       replace F7 := Aside0.mk F8
       have s8_ : W0.heap.size ≤ V8.heap.size := hHeld.2.2.2.2.size
       refine wpAnyH_done (by kernel_rfl) ?_ _
       exact HKK.out g2 g5 g7 V8 ⟨BB, a7, blk_lt F7.out, F2.out, F5.out, F7.out⟩
    case k677 =>
     go_simp
     refine hK.out _ _ ?h684 (fun hHeld => ?j684)
     case h684 => exact HK.out _ _ (bel_alloc (Below.refl _ _) _) hHeld
     clear hK K
     try simp only [Act.put, List.setIfInBounds_toArray, List.set_cons_zero, List.set_cons_succ]
     generalize hV7 : World.alloc V2 _ = V7 at hHeld ⊢
     have b7 : Below V2.heap.size V2 V7 := by rw [← hV7]; exact bel_alloc (Below.refl _ _) _
     have z7 : V2.heap.size < V7.heap.size := by rw [← hV7]; simp
     have F7 := Aside0.mk ((by rw [← hV7]; exact blk_new _ _ : V7.heap[V2.heap.size]? = some (.cells #[.string ⟨#[]⟩, .string ⟨#[]⟩, .slice none 0 0, .slice none 0 0] 33 (0, 0))))
     have a7 : W0.heap.size ≤ V2.heap.size := by omega
     obtain ⟨g7, hg7⟩ : ∃ g, g = V2.heap.size := ⟨_, rfl⟩
     rw [← hg7] at F7 z7 a7 ⊢
     clear hV7 hg7
     have s7_ : W0.heap.size ≤ V7.heap.size := hHeld.2.2.2.2.size
     replace F2 := Aside0.mk (Kd.R_below F2.out b7)
     refine rdy (rs := [5]) ?_
     refine rc (fun K hK => ?k685) AllReadyH.nil
     case k685 =>
      go_simp
      refine hK.out _ _ ?h686 (fun hHeld => ?j686)
      case h686 => exact HK.out _ _ (bel_alloc (Below.refl _ _) _) hHeld
      clear hK K
      try simp only [Act.put, List.setIfInBounds_toArray, List.set_cons_zero, List.set_cons_succ]
      generalize hV5 : World.alloc V7 _ = V5 at hHeld ⊢
      have b5 : Below V7.heap.size V7 V5 := by rw [← hV5]; exact bel_alloc (Below.refl _ _) _
      have z5 : V7.heap.size < V5.heap.size := by rw [← hV5]; simp
      have F5 := Aside0.mk (hV5 ▸ R_two Kd.string 9 V7 W0.heap.size ⟨#[110, 111, 116, 32, 100, 101, 108, 105, 118, 101, 114, 101, 100, 58]⟩ (textS a.f0 a.f1) [.string ⟨#[110, 111, 116, 32, 100, 101, 108, 105, 118, 101, 114, 101, 100, 58]⟩] [.string (textS a.f0 a.f1)] rfl rfl (by omega))
      have a5 : W0.heap.size ≤ V7.heap.size := by omega
      obtain ⟨g5, hg5⟩ : ∃ g, g = V7.heap.size := ⟨_, rfl⟩
      rw [← hg5] at F5 z5 a5 ⊢
      clear hV5 hg5
      have s5_ : W0.heap.size ≤ V5.heap.size := hHeld.2.2.2.2.size
      replace F2 := Aside0.mk (Kd.R_below F2.out b5)
      replace F7 := Aside0.mk (below_blk F7.out b5)
      refine tk 6 ?v687 ?y687 ?r687
      case y687 => intro w_ hSw; (try dsimp only at hSw); go_simp; (try (with_reducible rfl))
      try simp only [Act.put, List.setIfInBounds_toArray, List.set_cons_zero, List.set_cons_succ]
      refine rdy (rs := [8]) ?_
      refine rc (fun K hK => ?k688) AllReadyH.nil
      case k688 =>
       have hb7 := F7.out
       have y0_ : V5.cell? ⟨g7, 0, none⟩ = some (.string ⟨#[]⟩) := by simp [World.cell?, hb7]
       have y1_ : V5.cell? ⟨g7, 1, none⟩ = some (.string ⟨#[]⟩) := by simp [World.cell?, hb7]
       have y2_ : V5.cell? ⟨g7, 2, none⟩ = some (.slice none 0 0) := by simp [World.cell?, hb7]
       have y3_ : V5.cell? ⟨g7, 3, none⟩ = some (.slice none 0 0) := by simp [World.cell?, hb7]
       have u0_ : V5.frozen? ⟨g7, 0, none⟩ = false := by simp [World.frozen?, hb7]
       have u1_ : V5.frozen? ⟨g7, 1, none⟩ = false := by simp [World.frozen?, hb7]
       have u2_ : V5.frozen? ⟨g7, 2, none⟩ = false := by simp [World.frozen?, hb7]
       have u3_ : V5.frozen? ⟨g7, 3, none⟩ = false := by simp [World.frozen?, hb7]
       go_simp
       generalize hV8 : World.setCell (World.setCell (World.setCell (World.setCell V5 ⟨g7, 0, none⟩ _) ⟨g7, 1, none⟩ _) ⟨g7, 2, none⟩ _) ⟨g7, 3, none⟩ _ = V8
       have G8 : V5.grownBy V8 (some g7) := by rw [← hV8]; exact grown_set4 _ _ _ _ _ _
       have F8 : V8.heap[g7]? = some (.cells #[.string ⟨#[]⟩, .string ⟨#[]⟩, .slice (some ⟨g2, 0, none⟩) 1 1, .slice (some ⟨g5, 0, none⟩) 2 2] 33 (0, 0)) := by rw [← hV8]; exact blk_set4 F7.out _ _ _ _
       have BB : Below W0.heap.size W0 V8 := by rw [← hV8]; exact bel_set (bel_set (bel_set (bel_set hHeld.2.2.2.2 _ a7) _ a7) _ a7) _ a7
       clear hV8
       refine hK.out _ _ ?h689 (fun hHeld => ?j689)
       case h689 => (obtain ⟨k0, k1, k2, k3, k4, k5, k6, _⟩ := HC.out _ BB; exact ⟨k1, k2, k5, k6, BB⟩)
       clear hK K
       try simp only [Act.put, List.setIfInBounds_toArray, List.set_cons_zero, List.set_cons_succ]
       replace F2 := Aside0.mk (R_else F2.out rfl G8 (Kd.R_ne F2.out F7.out (by decide)))
       replace F5 := Aside0.mk (R_else F5.out rfl G8 (Kd.R_ne F5.out F7.out (by decide)))
       replace F7 := Aside0.mk F8
       have s8_ : W0.heap.size ≤ V8.heap.size := hHeld.2.2.2.2.size
       refine wpAnyH_done (by kernel_rfl) ?_ _
       exact HKK.out g2 g5 g7 V8 ⟨BB, a7, blk_lt F7.out, F2.out, F5.out, F7.out⟩
   case k673 =>
    go_simp
    refine hK.out _ _ ?h690 (fun hHeld => ?j690)
    case h690 => exact HK.out _ _ (bel_alloc (Below.refl _ _) _) hHeld
    clear hK K
    try simp only [Act.put, List.setIfInBounds_toArray, List.set_cons_zero, List.set_cons_succ]
    generalize hV5 : World.alloc V4 _ = V5 at hHeld ⊢
    have b5 : Below V4.heap.size V4 V5 := by rw [← hV5]; exact bel_alloc (Below.refl _ _) _
    have z5 : V4.heap.size < V5.heap.size := by rw [← hV5]; simp
    have F5 := Aside0.mk (hV5 ▸ R_two Kd.string 9 V4 W0.heap.size ⟨#[110, 111, 116, 32, 100, 101, 108, 105, 118, 101, 114, 101, 100, 58]⟩ (textS a.f0 a.f1) [.string ⟨#[110, 111, 116, 32, 100, 101, 108, 105, 118, 101, 114, 101, 100, 58]⟩] [.string (textS a.f0 a.f1)] rfl rfl (by omega))
    have a5 : W0.heap.size ≤ V4.heap.size := by omega
    obtain ⟨g5, hg5⟩ : ∃ g, g = V4.heap.size := ⟨_, rfl⟩
    rw [← hg5] at F5 z5 a5 ⊢
    clear hV5 hg5
    have s5_ : W0.heap.size ≤ V5.heap.size := hHeld.2.2.2.2.size
    refine rdy (rs := [2, 7]) ?_
    refine rc (fun K hK => ?k691) (rc (fun K hK => ?k692) AllReadyH.nil)
    case k691 =>
     go_simp
     refine hK.out _ _ ?h693 (fun hHeld => ?j693)
     case h693 => exact HK.out _ _ (bel_alloc (Below.refl _ _) _) hHeld
     clear hK K
     try simp only [Act.put, List.setIfInBounds_toArray, List.set_cons_zero, List.set_cons_succ]
     generalize hV2 : World.alloc V5 _ = V2 at hHeld ⊢
     have b2 : Below V5.heap.size V5 V2 := by rw [← hV2]; exact bel_alloc (Below.refl _ _) _
     have z2 : V5.heap.size < V2.heap.size := by rw [← hV2]; simp
     have F2 := Aside0.mk (hV2 ▸ R_one kAddr 24 V5 W0.heap.size x.f1 [.string x.f1.f0, .string x.f1.f1] (kAddr_mkM _ _ _ x.f1) (by omega))
     have a2 : W0.heap.size ≤ V5.heap.size := by omega
     obtain ⟨g2, hg2⟩ : ∃ g, g = V5.heap.size := ⟨_, rfl⟩
     rw [← hg2] at F2 z2 a2 ⊢
     clear hV2 hg2
     have s2_ : W0.heap.size ≤ V2.heap.size := hHeld.2.2.2.2.size
     replace F5 := Aside0.mk (Kd.R_below F5.out b2)
     refine tk 6 ?v694 ?y694 ?r694
     case y694 => intro w_ hSw; (try dsimp only at hSw); go_simp; (try (with_reducible rfl))
     try simp only [Act.put, List.setIfInBounds_toArray, List.set_cons_zero, List.set_cons_succ]
     refine rdy (rs := [7]) ?_
     refine rc (fun K hK => ?k695) AllReadyH.nil
     case k695 =>
      go_simp
      refine hK.out _ _ ?h696 (fun hHeld => ?j696)
      case h696 => exact HK.out _ _ (bel_alloc (Below.refl _ _) _) hHeld
      clear hK K
      try simp only [Act.put, List.setIfInBounds_toArray, List.set_cons_zero, List.set_cons_succ]
      generalize hV7 : World.alloc V2 _ = V7 at hHeld ⊢
      have b7 : Below V2.heap.size V2 V7 := by rw [← hV7]; exact bel_alloc (Below.refl _ _) _
      have z7 : V2.heap.size < V7.heap.size := by rw [← hV7]; simp
      have F7 := Aside0.mk ((by rw [← hV7]; exact blk_new _ _ : V7.heap[V2.heap.size]? = some (.cells #[.string ⟨#[]⟩, .string ⟨#[]⟩, .slice none 0 0, .slice none 0 0] 33 (0, 0))))
      have a7 : W0.heap.size ≤ V2.heap.size := by omega
      obtain ⟨g7, hg7⟩ : ∃ g, g = V2.heap.size := ⟨_, rfl⟩
      rw [← hg7] at F7 z7 a7 ⊢
      clear hV7 hg7
      have s7_ : W0.heap.size ≤ V7.heap.size := hHeld.2.2.2.2.size
      replace F5 := Aside0.mk (Kd.R_below F5.out b7)
      replace F2 := Aside0.mk (Kd.R_below F2.out b7)
      refine rdy (rs := [8]) ?_
      refine rc (fun K hK => ?k697) AllReadyH.nil
      case k697 =>
       have hb7 := F7.out
       have y0_ : V7.cell? ⟨g7, 0, none⟩ = some (.string ⟨#[]⟩) := by simp [World.cell?, hb7]
       have y1_ : V7.cell? ⟨g7, 1, none⟩ = some (.string ⟨#[]⟩) := by simp [World.cell?, hb7]
       have y2_ : V7.cell? ⟨g7, 2, none⟩ = some (.slice none 0 0) := by simp [World.cell?, hb7]
       have y3_ : V7.cell? ⟨g7, 3, none⟩ = some (.slice none 0 0) := by simp [World.cell?, hb7]
       have u0_ : V7.frozen? ⟨g7, 0, none⟩ = false := by simp [World.frozen?, hb7]
       have u1_ : V7.frozen? ⟨g7, 1, none⟩ = false := by simp [World.frozen?, hb7]
       have u2_ : V7.frozen? ⟨g7, 2, none⟩ = false := by simp [World.frozen?, hb7]
       have u3_ : V7.frozen? ⟨g7, 3, none⟩ = false := by simp [World.frozen?, hb7]
       go_simp
       generalize hV8 : World.setCell (World.setCell (World.setCell (World.setCell V7 ⟨g7, 0, none⟩ _) ⟨g7, 1, none⟩ _) ⟨g7, 2, none⟩ _) ⟨g7, 3, none⟩ _ = V8
       have G8 : V7.grownBy V8 (some g7) := by rw [← hV8]; exact grown_set4 _ _ _ _ _ _
       have F8 : V8.heap[g7]? = some (.cells #[.string ⟨#[]⟩, .string ⟨#[]⟩, .slice (some ⟨g2, 0, none⟩) 1 1, .slice (some ⟨g5, 0, none⟩) 2 2] 33 (0, 0)) := by rw [← hV8]; exact blk_set4 F7.out _ _ _ _
       have BB : Below W0.heap.size W0 V8 := by rw [← hV8]; exact bel_set (bel_set (bel_set (bel_set hHeld.2.2.2.2 _ a7) _ a7) _ a7) _ a7
       clear hV8
       refine hK.out _ _ ?h698 (fun hHeld => ?j698)
       case h698 => (obtain ⟨k0, k1, k2, k3, k4, k5, k6, _⟩ := HC.out _ BB; exact ⟨k1, k2, k5, k6, BB⟩)
       clear hK K
       try simp only [Act.put, List.setIfInBounds_toArray, List.set_cons_zero, List.set_cons_succ]
       replace F2 := Aside0.mk (R_else F2.out rfl G8 (Kd.R_ne F2.out F7.out (by decide)))
       replace F5 := Aside0.mk (R_else F5.out rfl G8 (Kd.R_ne F5.out F7.out (by decide)))
       replace F7 := Aside0.mk F8
       have s8_ : W0.heap.size ≤ V8.heap.size := hHeld.2.2.2.2.size
       refine wpAnyH_done (by kernel_rfl) ?_ _
       exact HKK.out g2 g5 g7 V8 ⟨BB, a7, blk_lt F7.out, F2.out, F5.out, F7.out⟩
    case k692 =>
     go_simp
     refine hK.out _ _ ?h699 (fun hHeld => ?j699)
     case h699 => exact HK.out _ _ (bel_alloc (Below.refl _ _) _) hHeld
     clear hK K
     try simp only [Act.put, List.setIfInBounds_toArray, List.set_cons_zero, List.set_cons_succ]
     generalize hV7 : World.alloc V5 _ = V7 at hHeld ⊢
     have b7 : Below V5.heap.size V5 V7 := by rw [← hV7]; exact bel_alloc (Below.refl _ _) _
     have z7 : V5.heap.size < V7.heap.size := by rw [← hV7]; simp
     have F7 := Aside0.mk ((by rw [← hV7]; exact blk_new _ _ : V7.heap[V5.heap.size]? = some (.cells #[.string ⟨#[]⟩, .string ⟨#[]⟩, .slice none 0 0, .slice none 0 0] 33 (0, 0))))
     have a7 : W0.heap.size ≤ V5.heap.size := by omega
     obtain ⟨g7, hg7⟩ : ∃ g, g = V5.heap.size := ⟨_, rfl⟩
     rw [← hg7] at F7 z7 a7 ⊢
     clear hV7 hg7
     have s7_ : W0.heap.size ≤ V7.heap.size := hHeld.2.2.2.2.size
     replace F5 := Aside0.mk (Kd.R_below F5.out b7)
     refine rdy (rs := [2]) ?_
     refine rc (fun K hK => ?k700) AllReadyH.nil
     case k700 =>
      go_simp
      refine hK.out _ _ ?h701 (fun hHeld => ?j701)
      case h701 => exact HK.out _ _ (bel_alloc (Below.refl _ _) _) hHeld
      clear hK K
      try simp only [Act.put, List.setIfInBounds_toArray, List.set_cons_zero, List.set_cons_succ]
      generalize hV2 : World.alloc V7 _ = V2 at hHeld ⊢
      have b2 : Below V7.heap.size V7 V2 := by rw [← hV2]; exact bel_alloc (Below.refl _ _) _
      have z2 : V7.heap.size < V2.heap.size := by rw [← hV2]; simp
      have F2 := Aside0.mk (hV2 ▸ R_one kAddr 24 V7 W0.heap.size x.f1 [.string x.f1.f0, .string x.f1.f1] (kAddr_mkM _ _ _ x.f1) (by omega))
      have a2 : W0.heap.size ≤ V7.heap.size := by omega
      obtain ⟨g2, hg2⟩ : ∃ g, g = V7.heap.size := ⟨_, rfl⟩
      rw [← hg2] at F2 z2 a2 ⊢
      clear hV2 hg2
      have s2_ : W0.heap.size ≤ V2.heap.size := hHeld.2.2.2.2.size
      replace F5 := Aside0.mk (Kd.R_below F5.out b2)
      replace F7 := Aside0.mk (below_blk F7.out b2)
      refine tk 6 ?v702 ?y702 ?r702
      case y702 => intro w_ hSw; (try dsimp only at hSw); go_simp; (try (with_reducible rfl))
      try simp only [Act.put, List.setIfInBounds_toArray, List.set_cons_zero, List.set_cons_succ]
      refine rdy (rs := [8]) ?_
      refine rc (fun K hK => ?k703) AllReadyH.nil
      case k703 =>
       have hb7 := F7.out
       have y0_ : V2.cell? ⟨g7, 0, none⟩ = some (.string ⟨#[]⟩) := by simp [World.cell?, hb7]
       have y1_ : V2.cell? ⟨g7, 1, none⟩ = some (.string ⟨#[]⟩) := by simp [World.cell?, hb7]
       have y2_ : V2.cell? ⟨g7, 2, none⟩ = some (.slice none 0 0) := by simp [World.cell?, hb7]
       have y3_ : V2.cell? ⟨g7, 3, none⟩ = some (.slice none 0 0) := by simp [World.cell?, hb7]
       have u0_ : V2.frozen? ⟨g7, 0, none⟩ = false := by simp [World.frozen?, hb7]
       have u1_ : V2.frozen? ⟨g7, 1, none⟩ = false := by simp [World.frozen?, hb7]
       have u2_ : V2.frozen? ⟨g7, 2, none⟩ = false := by simp [World.frozen?, hb7]
       have u3_ : V2.frozen? ⟨g7, 3, none⟩ = false := by simp [World.frozen?, hb7]
       go_simp
       generalize hV8 : World.setCell (World.setCell (World.setCell (World.setCell V2 ⟨g7, 0, none⟩ _) ⟨g7, 1, none⟩ _) ⟨g7, 2, none⟩ _) ⟨g7, 3, none⟩ _ = V8
       have G8 : V2.grownBy V8 (some g7) := by rw [← hV8]; exact grown_set4 _ _ _ _ _ _
       have F8 : V8.heap[g7]? = some (.cells #[.string ⟨#[]⟩, .string ⟨#[]⟩, .slice (some ⟨g2, 0, none⟩) 1 1, .slice (some ⟨g5, 0, none⟩) 2 2] 33 (0, 0)) := by rw [← hV8]; exact blk_set4 F7.out _ _ _ _
       have BB : Below W0.heap.size W0 V8 := by rw [← hV8]; exact bel_set (bel_set (bel_set (bel_set hHeld.2.2.2.2 _ a7) _ a7) _ a7) _ a7
       clear hV8
       refine hK.out _ _ ?h704 (fun hHeld => ?j704)
       case h704 => (obtain ⟨k0, k1, k2, k3, k4, k5, k6, _⟩ := HC.out _ BB; exact ⟨k1, k2, k5, k6, BB⟩)
       clear hK K
       try simp only [Act.put, List.setIfInBounds_toArray, List.set_cons_zero, List.set_cons_succ]
       replace F2 := Aside0.mk (R_else F2.out rfl G8 (Kd.R_ne F2.out F7.out (by decide)))
       replace F5 := Aside0.mk (R_else F5.out rfl G8 (Kd.R_ne F5.out F7.out (by decide)))
       replace F7 := Aside0.mk F8
       have s8_ : W0.heap.size ≤ V8.heap.size := hHeld.2.2.2.2.size
       refine wpAnyH_done (by kernel_rfl) ?_ _
       exact HKK.out g2 g5 g7 V8 ⟨BB, a7, blk_lt F7.out, F2.out, F5.out, F7.out⟩
   case k674 =>
    go_simp
    refine hK.out _ _ ?h705 (fun hHeld => ?j705)
    case h705 => exact HK.out _ _ (bel_alloc (Below.refl _ _) _) hHeld
    clear hK K
    try simp only [Act.put, List.setIfInBounds_toArray, List.set_cons_zero, List.set_cons_succ]
    generalize hV7 : World.alloc V4 _ = V7 at hHeld ⊢
    have b7 : Below V4.heap.size V4 V7 := by rw [← hV7]; exact bel_alloc (Below.refl _ _) _
    have z7 : V4.heap.size < V7.heap.size := by rw [← hV7]; simp
    have F7 := Aside0.mk ((by rw [← hV7]; exact blk_new _ _ : V7.heap[V4.heap.size]? = some (.cells #[.string ⟨#[]⟩, .string ⟨#[]⟩, .slice none 0 0, .slice none 0 0] 33 (0, 0))))
    have a7 : W0.heap.size ≤ V4.heap.size := by omega
    obtain ⟨g7, hg7⟩ : ∃ g, g = V4.heap.size := ⟨_, rfl⟩
    rw [← hg7] at F7 z7 a7 ⊢
    clear hV7 hg7
    have s7_ : W0.heap.size ≤ V7.heap.size := hHeld.2.2.2.2.size
    refine rdy (rs := [2, 5]) ?_
    refine rc (fun K hK => ?k706) (rc (fun K hK => ?k707) AllReadyH.nil)
    case k706 =>
     go_simp
     refine hK.out _ _ ?h708 (fun hHeld => ?j708)
     case h708 => exact HK.out _ _ (bel_alloc (Below.refl _ _) _) hHeld
     clear hK K
     try simp only [Act.put, List.setIfInBounds_toArray, List.set_cons_zero, List.set_cons_succ]
     generalize hV2 : World.alloc V7 _ = V2 at hHeld ⊢
     have b2 : Below V7.heap.size V7 V2 := by rw [← hV2]; exact bel_alloc (Below.refl _ _) _
     have z2 : V7.heap.size < V2.heap.size := by rw [← hV2]; simp
     have F2 := Aside0.mk (hV2 ▸ R_one kAddr 24 V7 W0.heap.size x.f1 [.string x.f1.f0, .string x.f1.f1] (kAddr_mkM _ _ _ x.f1) (by omega))
     have a2 : W0.heap.size ≤ V7.heap.size := by omega
     obtain ⟨g2, hg2⟩ : ∃ g, g = V7.heap.size := ⟨_, rfl⟩
     rw [← hg2] at F2 z2 a2 ⊢
     clear hV2 hg2
     have s2_ : W0.heap.size ≤ V2.heap.size := hHeld.2.2.2.2.size
     replace F7 := Aside0.mk (below_blk F7.out b2)
     refine rdy (rs := [5]) ?_
     refine rc (fun K hK => ?k709) AllReadyH.nil
     case k709 =>
      go_simp
      refine hK.out _ _ ?h710 (fun hHeld => ?j710)
      case h710 => exact HK.out _ _ (bel_alloc (Below.refl _ _) _) hHeld
      clear hK K
      try simp only [Act.put, List.setIfInBounds_toArray, List.set_cons_zero, List.set_cons_succ]
      generalize hV5 : World.alloc V2 _ = V5 at hHeld ⊢
      have b5 : Below V2.heap.size V2 V5 := by rw [← hV5]; exact bel_alloc (Below.refl _ _) _
      have z5 : V2.heap.size < V5.heap.size := by rw [← hV5]; simp
      have F5 := Aside0.mk (hV5 ▸ R_two Kd.string 9 V2 W0.heap.size ⟨#[110, 111, 116, 32, 100, 101, 108, 105, 118, 101, 114, 101, 100, 58]⟩ (textS a.f0 a.f1) [.string ⟨#[110, 111, 116, 32, 100, 101, 108, 105, 118, 101, 114, 101, 100, 58]⟩] [.string (textS a.f0 a.f1)] rfl rfl (by omega))
      have a5 : W0.heap.size ≤ V2.heap.size := by omega
      obtain ⟨g5, hg5⟩ : ∃ g, g = V2.heap.size := ⟨_, rfl⟩
      rw [← hg5] at F5 z5 a5 ⊢
      clear hV5 hg5
      have s5_ : W0.heap.size ≤ V5.heap.size := hHeld.2.2.2.2.size
      replace F7 := Aside0.mk (below_blk F7.out b5)
      replace F2 := Aside0.mk (Kd.R_below F2.out b5)
      refine tk 6 ?v711 ?y711 ?r711
      case y711 => intro w_ hSw; (try dsimp only at hSw); go_simp; (try (with_reducible rfl))
      try simp only [Act.put, List.setIfInBounds_toArray, List.set_cons_zero, List.set_cons_succ]
      refine rdy (rs := [8]) ?_
      refine rc (fun K hK => ?k712) AllReadyH.nil
      case k712 =>
       have hb7 := F7.out
       have y0_ : V5.cell? ⟨g7, 0, none⟩ = some (.string ⟨#[]⟩) := by simp [World.cell?, hb7]
       have y1_ : V5.cell? ⟨g7, 1, none⟩ = some (.string ⟨#[]⟩) := by simp [World.cell?, hb7]
       have y2_ : V5.cell? ⟨g7, 2, none⟩ = some (.slice none 0 0) := by simp [World.cell?, hb7]
       have y3_ : V5.cell? ⟨g7, 3, none⟩ = some (.slice none 0 0) := by simp [World.cell?, hb7]
       have u0_ : V5.frozen? ⟨g7, 0, none⟩ = false := by simp [World.frozen?, hb7]
       have u1_ : V5.frozen? ⟨g7, 1, none⟩ = false := by simp [World.frozen?, hb7]
       have u2_ : V5.frozen? ⟨g7, 2, none⟩ = false := by simp [World.frozen?, hb7]
       have u3_ : V5.frozen? ⟨g7, 3, none⟩ = false := by simp [World.frozen?, hb7]
       go_simp
       generalize hV8 : World.setCell (World.setCell (World.setCell (World.setCell V5 ⟨g7, 0, none⟩ _) ⟨g7, 1, none⟩ _) ⟨g7, 2, none⟩ _) ⟨g7, 3, none⟩ _ = V8
       have G8 : V5.grownBy V8 (some g7) := by rw [← hV8]; exact grown_set4 _ _ _ _ _ _
       have F8 : V8.heap[g7]? = some (.cells #[.string ⟨#[]⟩, .string ⟨#[]⟩, .slice (some ⟨g2, 0, none⟩) 1 1, .slice (some ⟨g5, 0, none⟩) 2 2] 33 (0, 0)) := by rw [← hV8]; exact blk_set4 F7.out _ _ _ _
       have BB : Below W0.heap.size W0 V8 := by rw [← hV8]; exact bel_set (bel_set (bel_set (bel_set hHeld.2.2.2.2 _ a7) _ a7) _ a7) _ a7
       clear hV8
       refine hK.out _ _ ?h713 (fun hHeld => ?j713)
       case h713 => (obtain ⟨k0, k1, k2, k3, k4, k5, k6, _⟩ := HC.out _ BB; exact ⟨k1, k2, k5, k6, BB⟩)
       clear hK K
       try simp only [Act.put, List.setIfInBounds_toArray, List.set_cons_zero, List.set_cons_succ]
       replace F2 := Aside0.mk (R_else F2.out rfl G8 (Kd.R_ne F2.out F7.out (by decide)))
       replace F5 := Aside0.mk (R_else F5.out rfl G8 (Kd.R_ne F5.out F7.out (by decide)))
       replace F7 := Aside0.mk F8
       have s8_ : W0.heap.size ≤ V8.heap.size := hHeld.2.2.2.2.size
       refine wpAnyH_done (by kernel_rfl) ?_ _
       exact HKK.out g2 g5 g7 V8 ⟨BB, a7, blk_lt F7.out, F2.out, F5.out, F7.out⟩
    case k707 =>
     go_simp
     refine hK.out _ _ ?h714 (fun hHeld => ?j714)
     case h714 => exact HK.out _ _ (bel_alloc (Below.refl _ _) _) hHeld
     clear hK K
     try simp only [Act.put, List.setIfInBounds_toArray, List.set_cons_zero, List.set_cons_succ]
     generalize hV5 : World.alloc V7 _ = V5 at hHeld ⊢
     have b5 : Below V7.heap.size V7 V5 := by rw [← hV5]; exact bel_alloc (Below.refl _ _) _
     have z5 : V7.heap.size < V5.heap.size := by rw [← hV5]; simp
     have F5 := Aside0.mk (hV5 ▸ R_two Kd.string 9 V7 W0.heap.size ⟨#[110, 111, 116, 32, 100, 101, 108, 105, 118, 101, 114, 101, 100, 58]⟩ (textS a.f0 a.f1) [.string ⟨#[110, 111, 116, 32, 100, 101, 108, 105, 118, 101, 114, 101, 100, 58]⟩] [.string (textS a.f0 a.f1)] rfl rfl (by omega))
     have a5 : W0.heap.size ≤ V7.heap.size := by omega
     obtain ⟨g5, hg5⟩ : ∃ g, g = V7.heap.size := ⟨_, rfl⟩
     rw [← hg5] at F5 z5 a5 ⊢
     clear hV5 hg5
     have s5_ : W0.heap.size ≤ V5.heap.size := hHeld.2.2.2.2.size
     replace F7 := Aside0.mk (below_blk F7.out b5)
     refine rdy (rs := [2]) ?_
     refine rc (fun K hK => ?k715) AllReadyH.nil
     case k715 =>
      go_simp
      refine hK.out _ _ ?h716 (fun hHeld => ?j716)
      case h716 => exact HK.out _ _ (bel_alloc (Below.refl _ _) _) hHeld
      clear hK K
      try simp only [Act.put, List.setIfInBounds_toArray, List.set_cons_zero, List.set_cons_succ]
      generalize hV2 : World.alloc V5 _ = V2 at hHeld ⊢
      have b2 : Below V5.heap.size V5 V2 := by rw [← hV2]; exact bel_alloc (Below.refl _ _) _
      have z2 : V5.heap.size < V2.heap.size := by rw [← hV2]; simp
      have F2 := Aside0.mk (hV2 ▸ R_one kAddr 24 V5 W0.heap.size x.f1 [.string x.f1.f0, .string x.f1.f1] (kAddr_mkM _ _ _ x.f1) (by omega))
      have a2 : W0.heap.size ≤ V5.heap.size := by omega
      obtain ⟨g2, hg2⟩ : ∃ g, g = V5.heap.size := ⟨_, rfl⟩
      rw [← hg2] at F2 z2 a2 ⊢
      clear hV2 hg2
      have s2_ : W0.heap.size ≤ V2.heap.size := hHeld.2.2.2.2.size
      replace F7 := Aside0.mk (below_blk F7.out b2)
      replace F5 := Aside0.mk (Kd.R_below F5.out b2)
      refine tk 6 ?v717 ?y717 ?r717
      case y717 => intro w_ hSw; (try dsimp only at hSw); go_simp; (try (with_reducible rfl))
      try simp only [Act.put, List.setIfInBounds_toArray, List.set_cons_zero, List.set_cons_succ]
      refine rdy (rs := [8]) ?_
      refine rc (fun K hK => ?k718) AllReadyH.nil
      case k718 =>
       have hb7 := F7.out
       have y0_ : V2.cell? ⟨g7, 0, none⟩ = some (.string ⟨#[]⟩) := by simp [World.cell?, hb7]
       have y1_ : V2.cell? ⟨g7, 1, none⟩ = some (.string ⟨#[]⟩) := by simp [World.cell?, hb7]
       have y2_ : V2.cell? ⟨g7, 2, none⟩ = some (.slice none 0 0) := by simp [World.cell?, hb7]
       have y3_ : V2.cell? ⟨g7, 3, none⟩ = some (.slice none 0 0) := by simp [World.cell?, hb7]
       have u0_ : V2.frozen? ⟨g7, 0, none⟩ = false := by simp [World.frozen?, hb7]
       have u1_ : V2.frozen? ⟨g7, 1, none⟩ = false := by simp [World.frozen?, hb7]
       have u2_ : V2.frozen? ⟨g7, 2, none⟩ = false := by simp [World.frozen?, hb7]
       have u3_ : V2.frozen? ⟨g7, 3, none⟩ = false := by simp [World.frozen?, hb7]
       go_simp
       generalize hV8 : World.setCell (World.setCell (World.setCell (World.setCell V2 ⟨g7, 0, none⟩ _) ⟨g7, 1, none⟩ _) ⟨g7, 2, none⟩ _) ⟨g7, 3, none⟩ _ = V8
       have G8 : V2.grownBy V8 (some g7) := by rw [← hV8]; exact grown_set4 _ _ _ _ _ _
       have F8 : V8.heap[g7]? = some (.cells #[.string ⟨#[]⟩, .string ⟨#[]⟩, .slice (some ⟨g2, 0, none⟩) 1 1, .slice (some ⟨g5, 0, none⟩) 2 2] 33 (0, 0)) := by rw [← hV8]; exact blk_set4 F7.out _ _ _ _
       have BB : Below W0.heap.size W0 V8 := by rw [← hV8]; exact bel_set (bel_set (bel_set (bel_set hHeld.2.2.2.2 _ a7) _ a7) _ a7) _ a7
       clear hV8
       refine hK.out _ _ ?h719 (fun hHeld => ?j719)
       case h719 => (obtain ⟨k0, k1, k2, k3, k4, k5, k6, _⟩ := HC.out _ BB; exact ⟨k1, k2, k5, k6, BB⟩)
       clear hK K
       try simp only [Act.put, List.setIfInBounds_toArray, List.set_cons_zero, List.set_cons_succ]
       replace F2 := Aside0.mk (R_else F2.out rfl G8 (Kd.R_ne F2.out F7.out (by decide)))
       replace F5 := Aside0.mk (R_else F5.out rfl G8 (Kd.R_ne F5.out F7.out (by decide)))
       replace F7 := Aside0.mk F8
       have s8_ : W0.heap.size ≤ V8.heap.size := hHeld.2.2.2.2.size
       refine wpAnyH_done (by kernel_rfl) ?_ _
       exact HKK.out g2 g5 g7 V8 ⟨BB, a7, blk_lt F7.out, F2.out, F5.out, F7.out⟩
  case k644 =>
   go_simp
   refine hK.out _ _ ?h720 (fun hHeld => ?j720)
   case h720 => exact HK.out _ _ (bel_alloc (Below.refl _ _) _) hHeld
   clear hK K
   try simp only [Act.put, List.setIfInBounds_toArray, List.set_cons_zero, List.set_cons_succ]
   generalize hV7 : World.alloc V0 _ = V7 at hHeld ⊢
   have b7 : Below V0.heap.size V0 V7 := by rw [← hV7]; exact bel_alloc (Below.refl _ _) _
   have z7 : V0.heap.size < V7.heap.size := by rw [← hV7]; simp
   have F7 := Aside0.mk ((by rw [← hV7]; exact blk_new _ _ : V7.heap[V0.heap.size]? = some (.cells #[.string ⟨#[]⟩, .string ⟨#[]⟩, .slice none 0 0, .slice none 0 0] 33 (0, 0))))
   have a7 : W0.heap.size ≤ V0.heap.size := by omega
   obtain ⟨g7, hg7⟩ : ∃ g, g = V0.heap.size := ⟨_, rfl⟩
   rw [← hg7] at F7 z7 a7 ⊢
   clear hV7 hg7
   have s7_ : W0.heap.size ≤ V7.heap.size := hHeld.2.2.2.2.size
   refine rdy (rs := [2, 4]) ?_
   refine rc (fun K hK => ?k721) (rc (fun K hK => ?k722) AllReadyH.nil)
   case k721 =>
    go_simp
    refine hK.out _ _ ?h723 (fun hHeld => ?j723)
    case h723 => exact HK.out _ _ (bel_alloc (Below.refl _ _) _) hHeld
    clear hK K
    try simp only [Act.put, List.setIfInBounds_toArray, List.set_cons_zero, List.set_cons_succ]
    generalize hV2 : World.alloc V7 _ = V2 at hHeld ⊢
    have b2 : Below V7.heap.size V7 V2 := by rw [← hV2]; exact bel_alloc (Below.refl _ _) _
    have z2 : V7.heap.size < V2.heap.size := by rw [← hV2]; simp
    have F2 := Aside0.mk (hV2 ▸ R_one kAddr 24 V7 W0.heap.size x.f1 [.string x.f1.f0, .string x.f1.f1] (kAddr_mkM _ _ _ x.f1) (by omega))
    have a2 : W0.heap.size ≤ V7.heap.size := by omega
    obtain ⟨g2, hg2⟩ : ∃ g, g = V7.heap.size := ⟨_, rfl⟩
    rw [← hg2] at F2 z2 a2 ⊢
    clear hV2 hg2
    have s2_ : W0.heap.size ≤ V2.heap.size := hHeld.2.2.2.2.size
    replace F7 := Aside0.mk (below_blk F7.out b2)
    refine rdy (rs := [4]) ?_
    refine rc (fun K hK => ?k724) AllReadyH.nil
    case k724 =>
     go_simp
     refine ((htext V2)).mono ?_
     rintro e V4 ⟨rfl, b4⟩
     refine hK.out _ _ ?h725 (fun hHeld => ?j725)
     case h725 => exact HK.out _ _ b4 hHeld
     clear hK K
     try simp only [Act.put, List.setIfInBounds_toArray, List.set_cons_zero, List.set_cons_succ]
     have s4_ : W0.heap.size ≤ V4.heap.size := hHeld.2.2.2.2.size
     replace F7 := Aside0.mk (below_blk F7.out b4)
     replace F2 := Aside0.mk (Kd.R_below F2.out b4)
     refine rdy (rs := [5]) ?_
     refine rc (fun K hK => ?k726) AllReadyH.nil
     case k726 =>
      go_simp
      refine hK.out _ _ ?h727 (fun hHeld => ?j727)
      case h727 => exact HK.out _ _ (bel_alloc (Below.refl _ _) _) hHeld
      clear hK K
      try simp only [Act.put, List.setIfInBounds_toArray, List.set_cons_zero, List.set_cons_succ]
      generalize hV5 : World.alloc V4 _ = V5 at hHeld ⊢
      have b5 : Below V4.heap.size V4 V5 := by rw [← hV5]; exact bel_alloc (Below.refl _ _) _
      have z5 : V4.heap.size < V5.heap.size := by rw [← hV5]; simp
      have F5 := Aside0.mk (hV5 ▸ R_two Kd.string 9 V4 W0.heap.size ⟨#[110, 111, 116, 32, 100, 101, 108, 105, 118, 101, 114, 101, 100, 58]⟩ (textS a.f0 a.f1) [.string ⟨#[110, 111, 116, 32, 100, 101, 108, 105, 118, 101, 114, 101, 100, 58]⟩] [.string (textS a.f0 a.f1)] rfl rfl (by omega))
      have a5 : W0.heap.size ≤ V4.heap.size := by omega
      obtain ⟨g5, hg5⟩ : ∃ g, g = V4.heap.size := ⟨_, rfl⟩
      rw [← hg5] at F5 z5 a5 ⊢
      clear hV5 hg5
      have s5_ : W0.heap.size ≤ V5.heap.size := hHeld.2.2.2.2.size
      replace F7 := Aside0.mk (below_blk F7.out b5)
      replace F2 := Aside0.mk (Kd.R_below F2.out b5)
      refine tk 6 ?v728 ?y728 ?r728
      case y728 => intro w_ hSw; (try dsimp only at hSw); go_simp; (try (with_reducible rfl))
      try simp only [Act.put, List.setIfInBounds_toArray, List.set_cons_zero, List.set_cons_succ]
      refine rdy (rs := [8]) ?_
      refine rc (fun K hK => ?k729) AllReadyH.nil
      case k729 =>
       have hb7 := F7.out
       have y0_ : V5.cell? ⟨g7, 0, none⟩ = some (.string ⟨#[]⟩) := by simp [World.cell?, hb7]
       have y1_ : V5.cell? ⟨g7, 1, none⟩ = some (.string ⟨#[]⟩) := by simp [World.cell?, hb7]
       have y2_ : V5.cell? ⟨g7, 2, none⟩ = some (.slice none 0 0) := by simp [World.cell?, hb7]
       have y3_ : V5.cell? ⟨g7, 3, none⟩ = some (.slice none 0 0) := by simp [World.cell?, hb7]
       have u0_ : V5.frozen? ⟨g7, 0, none⟩ = false := by simp [World.frozen?, hb7]
       have u1_ : V5.frozen? ⟨g7, 1, none⟩ = false := by simp [World.frozen?, hb7]
       have u2_ : V5.frozen? ⟨g7, 2, none⟩ = false := by simp [World.frozen?, hb7]
       have u3_ : V5.frozen? ⟨g7, 3, none⟩ = false := by simp [World.frozen?, hb7]
       go_simp
       generalize hV8 : World.setCell (World.setCell (World.setCell (World.setCell V5 ⟨g7, 0, none⟩ _) ⟨g7, 1, none⟩ _) ⟨g7, 2, none⟩ _) ⟨g7, 3, none⟩ _ = V8
       have G8 : V5.grownBy V8 (some g7) := by rw [← hV8]; exact grown_set4 _ _ _ _ _ _
       have F8 : V8.heap[g7]? = some (.cells #[.string ⟨#[]⟩, .string ⟨#[]⟩, .slice (some ⟨g2, 0, none⟩) 1 1, .slice (some ⟨g5, 0, none⟩) 2 2] 33 (0, 0)) := by rw [← hV8]; exact blk_set4 F7.out _ _ _ _
       have BB : Below W0.heap.size W0 V8 := by rw [← hV8]; exact bel_set (bel_set (bel_set (bel_set hHeld.2.2.2.2 _ a7) _ a7) _ a7) _ a7
       clear hV8
       refine hK.out _ _ ?h730 (fun hHeld => ?j730)
       case h730 => (obtain ⟨k0, k1, k2, k3, k4, k5, k6, _⟩ := HC.out _ BB; exact ⟨k1, k2, k5, k6, BB⟩)
       clear hK K
       try simp only [Act.put, List.setIfInBounds_toArray, List.set_cons_zero, List.set_cons_succ]
       replace F2 := Aside0.mk (R_else F2.out rfl G8 (Kd.R_ne F2.out F7.out (by decide)))
       replace F5 := Aside0.mk (R_else F5.out rfl G8 (Kd.R_ne F5.out F7.out (by decide)))
       replace F7 := Aside0.mk F8
       have s8_ : W0.heap.size ≤ V8.heap.size := hHeld.2.2.2.2.size
       refine wpAnyH_done (by kernel_rfl) ?_ _
       exact HKK.out g2 g5 g7 V8 ⟨BB, a7, blk_lt F7.out, F2.out, F5.out, F7.out⟩
   case k722 =>
    go_simp
    refine ((htext V7)).mono ?_
    rintro e V4 ⟨rfl, b4⟩
    refine hK.out _ _ ?h731 (fun hHeld => ?j731)
    case h731 => exact HK.out _ _ b4 hHeld
    clear hK K
    try simp only [Act.put, List.setIfInBounds_toArray, List.set_cons_zero, List.set_cons_succ]
    have s4_ : W0.heap.size ≤ V4.heap.size := hHeld.2.2.2.2.size
    replace F7 := Aside0.mk (below_blk F7.out b4)
    refine rdy (rs := [2, 5]) ?_
    refine rc (fun K hK => ?k732) (rc (fun K hK => ?k733) AllReadyH.nil)
    case k732 =>
     go_simp
     refine hK.out _ _ ?h734 (fun hHeld => ?j734)
     case h734 => exact HK.out _ _ (bel_alloc (Below.refl _ _) _) hHeld
     clear hK K
     try simp only [Act.put, List.setIfInBounds_toArray, List.set_cons_zero, List.set_cons_succ]
     generalize hV2 : World.alloc V4 _ = V2 at hHeld ⊢
     have b2 : Below V4.heap.size V4 V2 := by rw [← hV2]; exact bel_alloc (Below.refl _ _) _
     have z2 : V4.heap.size < V2.heap.size := by rw [← hV2]; simp
     have F2 := Aside0.mk (hV2 ▸ R_one kAddr 24 V4 W0.heap.size x.f1 [.string x.f1.f0, .string x.f1.f1] (kAddr_mkM _ _ _ x.f1) (by omega))
     have a2 : W0.heap.size ≤ V4.heap.size := by omega
     obtain ⟨g2, hg2⟩ : ∃ g, g = V4.heap.size := ⟨_, rfl⟩
     rw [← hg2] at F2 z2 a2 ⊢
     clear hV2 hg2
     have s2_ : W0.heap.size ≤ V2.heap.size := hHeld.2.2.2.2.size
     replace F7 := Aside0.mk (below_blk F7.out b2)
     refine rdy (rs := [5]) ?_
     refine rc (fun K hK => ?k735) AllReadyH.nil
     case k735 =>
      go_simp
      refine hK.out _ _ ?h736 (fun hHeld => ?j736)
      case h736 => exact HK.out _ _ (bel_alloc (Below.refl _ _) _) hHeld
      clear hK K
      try simp only [Act.put, List.setIfInBounds_toArray, List.set_cons_zero, List.set_cons_succ]
      generalize hV5 : World.alloc V2 _ = V5 at hHeld ⊢
      have b5 : Below V2.heap.size V2 V5 := by rw [← hV5]; exact bel_alloc (Below.refl _ _) _
      have z5 : V2.heap.size < V5.heap.size := by rw [← hV5]; simp
      have F5 := Aside0.mk (hV5 ▸ R_two Kd.string 9 V2 W0.heap.size ⟨#[110, 111, 116, 32, 100, 101, 108, 105, 118, 101, 114, 101, 100, 58]⟩ (textS a.f0 a.f1) [.string ⟨#[110, 111, 116, 32, 100, 101, 108, 105, 118, 101, 114, 101, 100, 58]⟩] [.string (textS a.f0 a.f1)] rfl rfl (by omega))
      have a5 : W0.heap.size ≤ V2.heap.size := by omega
      obtain ⟨g5, hg5⟩ : ∃ g, g = V2.heap.size := ⟨_, rfl⟩
      rw [← hg5] at F5 z5 a5 ⊢
      clear hV5 hg5
      have s5_ : W0.heap.size ≤ V5.heap.size := hHeld.2.2.2.2.size
      replace F7 := Aside0.mk (below_blk F7.out b5)
      replace F2 := Aside0.mk (Kd.R_below F2.out b5)
      refine tk 6 ?v737 ?y737 ?r737
      case y737 => intro w_ hSw; (try dsimp only at hSw); go_simp; (try (with_reducible rfl))
      try simp only [Act.put, List.setIfInBounds_toArray, List.set_cons_zero, List.set_cons_succ]
      refine rdy (rs := [8]) ?_
      refine rc (fun K hK => ?k738) AllReadyH.nil
      case k738 =>
       have hb7 := F7.out
       have y0_ : V5.cell? ⟨g7, 0, none⟩ = some (.string ⟨#[]⟩) := by simp [World.cell?, hb7]
       have y1_ : V5.cell? ⟨g7, 1, none⟩ = some (.string ⟨#[]⟩) := by simp [World.cell?, hb7]
       have y2_ : V5.cell? ⟨g7, 2, none⟩ = some (.slice none 0 0) := by simp [World.cell?, hb7]
       have y3_ : V5.cell? ⟨g7, 3, none⟩ = some (.slice none 0 0) := by simp [World.cell?, hb7]
       have u0_ : V5.frozen? ⟨g7, 0, none⟩ = false := by simp [World.frozen?, hb7]
       have u1_ : V5.frozen? ⟨g7, 1, none⟩ = false := by simp [World.frozen?, hb7]
       have u2_ : V5.frozen? ⟨g7, 2, none⟩ = false := by simp [World.frozen?, hb7]
       have u3_ : V5.frozen? ⟨g7, 3, none⟩ = false := by simp [World.frozen?, hb7]
       go_simp
       generalize hV8 : World.setCell (World.setCell (World.setCell (World.setCell V5 ⟨g7, 0, none⟩ _) ⟨g7, 1, none⟩ _) ⟨g7, 2, none⟩ _) ⟨g7, 3, none⟩ _ = V8
       have G8 : V5.grownBy V8 (some g7) := by rw [← hV8]; exact grown_set4 _ _ _ _ _ _
       have F8 : V8.heap[g7]? = some (.cells #[.string ⟨#[]⟩, .string ⟨#[]⟩, .slice (some ⟨g2, 0, none⟩) 1 1, .slice (some ⟨g5, 0, none⟩) 2 2] 33 (0, 0)) := by rw [← hV8]; exact blk_set4 F7.out _ _ _ _
       have BB : Below W0.heap.size W0 V8 := by rw [← hV8]; exact bel_set (bel_set (bel_set (bel_set hHeld.2.2.2.2 _ a7) _ a7) _ a7) _ a7
       clear hV8
       refine hK.out _ _ ?h739 (fun hHeld => ?j739)
       case h739 => (obtain ⟨k0, k1, k2, k3, k4, k5, k6, _⟩ := HC.out _ BB; exact ⟨k1, k2, k5, k6, BB⟩)
       clear hK K
       try simp only [Act.put, List.setIfInBounds_toArray, List.set_cons_zero, List.set_cons_succ]
       replace F2 := Aside0.mk (R_else F2.out rfl G8 (Kd.R_ne F2.out F7.out (by decide)))
       replace F5 := Aside0.mk (R_else F5.out rfl G8 (Kd.R_ne F5.out F7.out (by decide)))
       replace F7 := Aside0.mk F8
       have s8_ : W0.heap.size ≤ V8.heap.size := hHeld.2.2.2.2.size
       refine wpAnyH_done (by kernel_rfl) ?_ _
       exact HKK.out g2 g5 g7 V8 ⟨BB, a7, blk_lt F7.out, F2.out, F5.out, F7.out⟩
    case k733 =>
     go_simp
     refine hK.out _ _ ?h740 (fun hHeld => ?j740)
     case h740 => exact HK.out _ _ (bel_alloc (Below.refl _ _) _) hHeld
     clear hK K
     try simp only [Act.put, List.setIfInBounds_toArray, List.set_cons_zero, List.set_cons_succ]
     generalize hV5 : World.alloc V4 _ = V5 at hHeld ⊢
     have b5 : Below V4.heap.size V4 V5 := by rw [← hV5]; exact bel_alloc (Below.refl _ _) _
     have z5 : V4.heap.size < V5.heap.size := by rw [← hV5]; simp
     have F5 := Aside0.mk (hV5 ▸ R_two Kd.string 9 V4 W0.heap.size ⟨#[110, 111, 116, 32, 100, 101, 108, 105, 118, 101, 114, 101, 100, 58]⟩ (textS a.f0 a.f1) [.string ⟨#[110, 111, 116, 32, 100, 101, 108, 105, 118, 101, 114, 101, 100, 58]⟩] [.string (textS a.f0 a.f1)] rfl rfl (by omega))
     have a5 : W0.heap.size ≤ V4.heap.size := by omega
     obtain ⟨g5, hg5⟩ : ∃ g, g = V4.heap.size := ⟨_, rfl⟩
     rw [← hg5] at F5 z5 a5 ⊢
     clear hV5 hg5
     have s5_ : W0.heap.size ≤ V5.heap.size := hHeld.2.2.2.2.size
     replace F7 := Aside0.mk (below_blk F7.out b5)
     refine rdy (rs := [2]) ?_
     refine rc (fun K hK => ?k741) AllReadyH.nil
     case k741 =>
      go_simp
      refine hK.out _ _ ?h742 (fun hHeld => ?j742)
      case h742 => exact HK.out _ _ (bel_alloc (Below.refl _ _) _) hHeld
      clear hK K
      try simp only [Act.put, List.setIfInBounds_toArray, List.set_cons_zero, List.set_cons_succ]
      generalize hV2 : World.alloc V5 _ = V2 at hHeld ⊢
      have b2 : Below V5.heap.size V5 V2 := by rw [← hV2]; exact bel_alloc (Below.refl _ _) _
      have z2 : V5.heap.size < V2.heap.size := by rw [← hV2]; simp
      have F2 := Aside0.mk (hV2 ▸ R_one kAddr 24 V5 W0.heap.size x.f1 [.string x.f1.f0, .string x.f1.f1] (kAddr_mkM _ _ _ x.f1) (by omega))
      have a2 : W0.heap.size ≤ V5.heap.size := by omega
      obtain ⟨g2, hg2⟩ : ∃ g, g = V5.heap.size := ⟨_, rfl⟩
      rw [← hg2] at F2 z2 a2 ⊢
      clear hV2 hg2
      have s2_ : W0.heap.size ≤ V2.heap.size := hHeld.2.2.2.2.size
      replace F7 := Aside0.mk (below_blk F7.out b2)
      replace F5 := Aside0.mk (Kd.R_below F5.out b2)
      refine tk 6 ?v743 ?y743 ?r743
      case y743 => intro w_ hSw; (try dsimp only at hSw); go_simp; (try (with_reducible rfl))
      try simp only [Act.put, List.setIfInBounds_toArray, List.set_cons_zero, List.set_cons_succ]
      refine rdy (rs := [8]) ?_
      refine rc (fun K hK => ?k744) AllReadyH.nil
      case k744 =>
       have hb7 := F7.out
       have y0_ : V2.cell? ⟨g7, 0, none⟩ = some (.string ⟨#[]⟩) := by simp [World.cell?, hb7]
       have y1_ : V2.cell? ⟨g7, 1, none⟩ = some (.string ⟨#[]⟩) := by simp [World.cell?, hb7]
       have y2_ : V2.cell? ⟨g7, 2, none⟩ = some (.slice none 0 0) := by simp [World.cell?, hb7]
       have y3_ : V2.cell? ⟨g7, 3, none⟩ = some (.slice none 0 0) := by simp [World.cell?, hb7]
       have u0_ : V2.frozen? ⟨g7, 0, none⟩ = false := by simp [World.frozen?, hb7]
       have u1_ : V2.frozen? ⟨g7, 1, none⟩ = false := by simp [World.frozen?, hb7]
       have u2_ : V2.frozen? ⟨g7, 2, none⟩ = false := by simp [World.frozen?, hb7]
       have u3_ : V2.frozen? ⟨g7, 3, none⟩ = false := by simp [World.frozen?, hb7]
       go_simp
       generalize hV8 : World.setCell (World.setCell (World.setCell (World.setCell V2 ⟨g7, 0, none⟩ _) ⟨g7, 1, none⟩ _) ⟨g7, 2, none⟩ _) ⟨g7, 3, none⟩ _ = V8
       have G8 : V2.grownBy V8 (some g7) := by rw [← hV8]; exact grown_set4 _ _ _ _ _ _
       have F8 : V8.heap[g7]? = some (.cells #[.string ⟨#[]⟩, .string ⟨#[]⟩, .slice (some ⟨g2, 0, none⟩) 1 1, .slice (some ⟨g5, 0, none⟩) 2 2] 33 (0, 0)) := by rw [← hV8]; exact blk_set4 F7.out _ _ _ _
       have BB : Below W0.heap.size W0 V8 := by rw [← hV8]; exact bel_set (bel_set (bel_set (bel_set hHeld.2.2.2.2 _ a7) _ a7) _ a7) _ a7
       clear hV8
       refine hK.out _ _ ?h745 (fun hHeld => ?j745)
       case h745 => (obtain ⟨k0, k1, k2, k3, k4, k5, k6, _⟩ := HC.out _ BB; exact ⟨k1, k2, k5, k6, BB⟩)
       clear hK K
       try simp only [Act.put, List.setIfInBounds_toArray, List.set_cons_zero, List.set_cons_succ]
       replace F2 := Aside0.mk (R_else F2.out rfl G8 (Kd.R_ne F2.out F7.out (by decide)))
       replace F5 := Aside0.mk (R_else F5.out rfl G8 (Kd.R_ne F5.out F7.out (by decide)))
       replace F7 := Aside0.mk F8
       have s8_ : W0.heap.size ≤ V8.heap.size := hHeld.2.2.2.2.size
       refine wpAnyH_done (by kernel_rfl) ?_ _
       exact HKK.out g2 g5 g7 V8 ⟨BB, a7, blk_lt F7.out, F2.out, F5.out, F7.out⟩
 case hk =>
  intro g2 g5 g7 V ⟨BV, a7, l7, f2, f5, f7⟩
  have F2 := Aside0.mk f2
  have F5 := Aside0.mk f5
  have F7 := Aside0.mk f7
  clear f2 f5 f7 HST HK join
  obtain ⟨m0_, m1_, m2_, m3_, m4_, m5_, m6_, m7_, m8_, m9_, m10_, m11_, m12_, m13_, m14_⟩ := HC.out _ BV
  have y0_ : V.cell? ⟨g7, 0, none⟩ = some (.string ⟨#[]⟩) := (by simp [World.cell?, F7.out]); have y1_ : V.cell? ⟨g7, 1, none⟩ = some (.string ⟨#[]⟩) := (by simp [World.cell?, F7.out]); have y2_ : V.cell? ⟨g7, 2, none⟩ = some (.slice (some ⟨g2, 0, none⟩) 1 1) := (by simp [World.cell?, F7.out]); have y3_ : V.cell? ⟨g7, 3, none⟩ = some (.slice (some ⟨g5, 0, none⟩) 2 2) := (by simp [World.cell?, F7.out]); have u0_ : V.frozen? ⟨g7, 0, none⟩ = false := (by simp [World.frozen?, F7.out]); have u1_ : V.frozen? ⟨g7, 1, none⟩ = false := (by simp [World.frozen?, F7.out]); have u2_ : V.frozen? ⟨g7, 2, none⟩ = false := (by simp [World.frozen?, F7.out]); have u3_ : V.frozen? ⟨g7, 3, none⟩ = false := (by simp [World.frozen?, F7.out])
  have ne1 : ¬ g7 = w.heap.size + 1 + 1 := by omega
  have ne2 : ¬ w.heap.size + 1 + 1 = g7 := by omega
  generalize markOf x.f3 = k at hmark HM
  by_cases hk : k = ⟨#[]⟩
  ·subst hk
   obtain rfl : M = ⟨⟨⟨#[]⟩, ⟨#[]⟩⟩, [x.f1], [⟨#[110, 111, 116, 32, 100, 101, 108, 105, 118, 101, 114, 101, 100, 58]⟩, textS a.f0 a.f1]⟩ := by rw [HM.out]; rfl
   go_wp2_with (go_at_call 73; refine (hmark _ (bel_then HB0.out BV)).mono ?_; rintro e w4 ⟨rfl, b4⟩; have B4 : Below W0.heap.size W0 w4 := bel_then BV b4; obtain ⟨n0_, n1_, n2_, n3_, n4_, n5_, n6_, n7_, n8_, n9_, n10_, n11_, n12_, n13_, n14_⟩ := HC.out _ B4; replace F2 := Aside0.mk (Kd.R_below F2.out b4); replace F5 := Aside0.mk (Kd.R_below F5.out b4); replace F7 := Aside0.mk (below_blk F7.out b4); clear y0_ y1_ y2_ y3_ u0_ u1_ u2_ u3_; have y0_ : w4.cell? ⟨g7, 0, none⟩ = some (.string ⟨#[]⟩) := (by simp [World.cell?, F7.out]); have y1_ : w4.cell? ⟨g7, 1, none⟩ = some (.string ⟨#[]⟩) := (by simp [World.cell?, F7.out]); have y2_ : w4.cell? ⟨g7, 2, none⟩ = some (.slice (some ⟨g2, 0, none⟩) 1 1) := (by simp [World.cell?, F7.out]); have y3_ : w4.cell? ⟨g7, 3, none⟩ = some (.slice (some ⟨g5, 0, none⟩) 2 2) := (by simp [World.cell?, F7.out]); have u0_ : w4.frozen? ⟨g7, 0, none⟩ = false := (by simp [World.frozen?, F7.out]); have u1_ : w4.frozen? ⟨g7, 1, none⟩ = false := (by simp [World.frozen?, F7.out]); have u2_ : w4.frozen? ⟨g7, 2, none⟩ = false := (by simp [World.frozen?, F7.out]); have u3_ : w4.frozen? ⟨g7, 3, none⟩ = false := (by simp [World.frozen?, F7.out]); have l4 := blk_lt F7.out; clear b4)
   refine bodyPost_ret (v := .agg #[.string ⟨#[]⟩, .string ⟨#[]⟩, .slice (some ⟨g2, 0, none⟩) 1 1, .slice (some ⟨g5, 0, none⟩) 2 2]) ?hrA rfl ?hpA
   case hrA => simp [results, Tryd.results37, go_sem, n7_, n8_, n9_, n10_, n11_, n12_, n13_, n14_]
   case hpA => exact ⟨_, _, _, _, rfl, Kd.R_lower (base := W0.heap.size) (by (with_reducible repeat (first | exact F2.out | refine R_setLow ?_ _ ?_)); all_goals omega) (by omega), Kd.R_lower (base := W0.heap.size) (by (with_reducible repeat (first | exact F5.out | refine R_setLow ?_ _ ?_)); all_goals omega) (by omega), by (with_reducible repeat (first | exact (bel_then HB0.out B4) | refine bel_alloc ?_ _ | refine bel_set ?_ _ ?_ | refine blw_drewN ?_ _ | refine Below.drew ?_)); all_goals (first | (simp; done) | (simp; omega) | omega)⟩
  ·have hk2 : (k.toList == ([] : List UInt8)) = false := by
    rw [beq_eq_false_iff_ne, bl]
    intro h
    apply hk
    cases k
    simp at h
    simp [h]
   obtain rfl : M = ⟨⟨⟨#[]⟩, ⟨#[]⟩⟩, [x.f1], [⟨#[110, 111, 116, 32, 100, 101, 108, 105, 118, 101, 114, 101, 100, 58]⟩, textS a.f0 a.f1] ++ [k]⟩ := by rw [HM.out]; rw [if_neg hk]
   have HKN := Lib.hid hk
   clear hk
   go_wp2_with (first | (go_at_call 73; refine (hmark _ (bel_then HB0.out BV)).mono ?_; rintro e w4 ⟨rfl, b4⟩; have B4 : Below W0.heap.size W0 w4 := bel_then BV b4; obtain ⟨n0_, n1_, n2_, n3_, n4_, n5_, n6_, n7_, n8_, n9_, n10_, n11_, n12_, n13_, n14_⟩ := HC.out _ B4; replace F2 := Aside0.mk (Kd.R_below F2.out b4); replace F5 := Aside0.mk (Kd.R_below F5.out b4); replace F7 := Aside0.mk (below_blk F7.out b4); clear y0_ y1_ y2_ y3_ u0_ u1_ u2_ u3_; have y0_ : w4.cell? ⟨g7, 0, none⟩ = some (.string ⟨#[]⟩) := (by simp [World.cell?, F7.out]); have y1_ : w4.cell? ⟨g7, 1, none⟩ = some (.string ⟨#[]⟩) := (by simp [World.cell?, F7.out]); have y2_ : w4.cell? ⟨g7, 2, none⟩ = some (.slice (some ⟨g2, 0, none⟩) 1 1) := (by simp [World.cell?, F7.out]); have y3_ : w4.cell? ⟨g7, 3, none⟩ = some (.slice (some ⟨g5, 0, none⟩) 2 2) := (by simp [World.cell?, F7.out]); have u0_ : w4.frozen? ⟨g7, 0, none⟩ = false := (by simp [World.frozen?, F7.out]); have u1_ : w4.frozen? ⟨g7, 1, none⟩ = false := (by simp [World.frozen?, F7.out]); have u2_ : w4.frozen? ⟨g7, 2, none⟩ = false := (by simp [World.frozen?, F7.out]); have u3_ : w4.frozen? ⟨g7, 3, none⟩ = false := (by simp [World.frozen?, F7.out]); have l4 := blk_lt F7.out; clear b4) | ((with_reducible refine gate_builtin (b := .append) (xs := #[.tmp 20, .tmp 22]) rfl ?_); (try (refine gate_guard (by rfl) ?_; dsimp only)); at_builtin; (refine Kd.R_append Kd.string (w0 := W0) (W0.heap.size) rfl (.tmp 20) (.tmp 22) 26 9 (.string ⟨#[]⟩) 16 rfl Tryd.underlying26 info9 rfl (by decide) (by omega) (.slice (some ⟨g5, 0, none⟩) 2 2) ([⟨#[110, 111, 116, 32, 100, 101, 108, 105, 118, 101, 114, 101, 100, 58]⟩, textS a.f0 a.f1]) (k) [.string k] (fun _ => True) (fun _ => False) rfl rfl rfl (fun _ hk => hk.elim) (fun _ _ => trivial) ?aO9 ?aB9 ?aS9 ?aL9 ?_); (case aB9 => exact (by (with_reducible repeat (first | exact B4 | refine bel_alloc ?_ _ | refine bel_set ?_ _ ?_ | refine blw_drewN ?_ _ | refine Below.drew ?_)); all_goals (first | (simp; done) | (simp; omega) | omega))); (case aO9 => exact F5.out); (case aS9 => (refine Below.size (B := (W0.heap.size)) (w := W0) ?_; exact (by (with_reducible repeat (first | exact B4 | refine bel_alloc ?_ _ | refine bel_set ?_ _ ?_ | refine blw_drewN ?_ _ | refine Below.drew ?_)); all_goals (first | (simp; done) | (simp; omega) | omega)))); (case aL9 => exact (by simp)); intro v9 w9 ho hb hg hat; have HO9 := Aside0.mk ho; have B9 := hb; replace F7 := Aside0.mk ((hg.block g7 l4 (Kd.R_ne F5.out F7.out (by decide))).trans F7.out); replace F2 := Aside0.mk (Kd.R_over' F2.out (Kd.R_typed F5.out) (by decide) hg); obtain ⟨vB, vd, hv9⟩ := Kd.R_slice ho; subst hv9; clear y0_ y1_ y2_ y3_ u0_ u1_ u2_ u3_; have y0_ : w9.cell? ⟨g7, 0, none⟩ = some (.string ⟨#[]⟩) := (by simp [World.cell?, F7.out]); have y1_ : w9.cell? ⟨g7, 1, none⟩ = some (.string ⟨#[]⟩) := (by simp [World.cell?, F7.out]); have y2_ : w9.cell? ⟨g7, 2, none⟩ = some (.slice (some ⟨g2, 0, none⟩) 1 1) := (by simp [World.cell?, F7.out]); have y3_ : w9.cell? ⟨g7, 3, none⟩ = some (.slice (some ⟨g5, 0, none⟩) 2 2) := (by simp [World.cell?, F7.out]); have u0_ : w9.frozen? ⟨g7, 0, none⟩ = false := (by simp [World.frozen?, F7.out]); have u1_ : w9.frozen? ⟨g7, 1, none⟩ = false := (by simp [World.frozen?, F7.out]); have u2_ : w9.frozen? ⟨g7, 2, none⟩ = false := (by simp [World.frozen?, F7.out]); have u3_ : w9.frozen? ⟨g7, 3, none⟩ = false := (by simp [World.frozen?, F7.out]); obtain ⟨q0_, q1_, q2_, q3_, q4_, q5_, q6_, q7_, q8_, q9_, q10_, q11_, q12_, q13_, q14_⟩ := HC.out _ B9; clear ho hb hg hat))
   have ho9 : Kd.R Kd.string 9 w9 W0.heap.size (fun _ => True) (.slice vB 3 vd) [⟨#[110, 111, 116, 32, 100, 101, 108, 105, 118, 101, 114, 101, 100, 58]⟩, textS a.f0 a.f1, k] := HO9.out
   have F2b := Aside0.mk (R_else F2.out rfl (grown_set1 w9 g7 3 (.slice vB 3 vd)) (Kd.R_ne F2.out F7.out (by decide)))
   have F5b := Aside0.mk (R_else ho9 rfl (grown_set1 w9 g7 3 (.slice vB 3 vd)) (Kd.R_ne ho9 F7.out (by decide)))
   refine bodyPost_ret (v := .agg #[.string ⟨#[]⟩, .string ⟨#[]⟩, .slice (some ⟨g2, 0, none⟩) 1 1, .slice vB 3 vd]) ?hrB rfl ?hpB
   case hrB => simp [results, Tryd.results37, go_sem, q7_, q8_, q9_, q10_, q11_, q12_, q13_, q14_, ne1, ne2]
   case hpB => exact ⟨_, _, _, _, rfl, Kd.R_lower (base := W0.heap.size) (by (with_reducible repeat (first | exact F2b.out | refine R_setLow ?_ _ ?_)); all_goals omega) (by omega), Kd.R_lower (base := W0.heap.size) (by (with_reducible repeat (first | exact F5b.out | refine R_setLow ?_ _ ?_)); all_goals omega) (by omega), by (with_reducible repeat (first | exact (bel_then HB0.out B9) | refine bel_alloc ?_ _ | refine bel_set ?_ _ ?_ | refine blw_drewN ?_ _ | refine Below.drew ?_)); all_goals (first | (simp; done) | (simp; omega) | omega)⟩

set_option maxRecDepth 100000 in
set_option maxHeartbeats 8000000 in
theorem specBounce_any (x : SItem) (A0 : Option Addr) (c0 : Nat) (A1 : Option Addr) (c1 : Nat) (a : SAddr) (w : World) (hw : fitItem x) (ha : fitAddr a) (hr0 : Kd.C kRcpt w A0 x.f2.length x.f2) (hr1 : Kd.C Kd.string w A1 x.f3.length x.f3) :
  Calls Tryd.prog 8 #[.agg #[.int .i64 x.f0, .string x.f1.f0, .string x.f1.f1, .slice A0 x.f2.length c0, .slice A1 x.f3.length c1], .agg #[.string a.f0, .string a.f1]] w fun e w' => ∃ B d C f, e = .returned (.tuple #[.agg #[.string (bounce x a).f0.f0, .string (bounce x a).f0.f1, .slice B (bounce x a).f1.length d, .slice C (bounce x a).f2.length f], .bool (bounceOk x a)]) ∧ Kd.R kAddr 24 w' w.heap.size (fun _ => True) (.slice B (bounce x a).f1.length d) (bounce x a).f1 ∧ Kd.R Kd.string 9 w' w.heap.size (fun _ => True) (.slice C (bounce x a).f2.length f) (bounce x a).f2 ∧ Below w.heap.size w w' := by
 have h1 := fun W (hW : Below w.heap.size w W) => specItem_any x A0 c0 A1 c1 W hw (Kd.C_below hr0 hW) (Kd.C_below hr1 hW)
 have h2 := fun W => specAddr_any a.f0 a.f1 W (by have := ha.1; omega) (by have := ha.2; omega)
 have h3 := fun W => specNull_any x.f1.f0 x.f1.f1 W
 have h4 := fun W (hW : Below w.heap.size w W) => specBounce1_any x A0 c0 A1 c1 a W hw ha (Kd.C_below hr0 hW) (Kd.C_below hr1 hW)
 clear hr0 hr1
 have HO := Lib.hid (show bounceOk x a = (!(nul x.f1.f0.data.toList x.f1.f1.data.toList) && (addr a.f0.data.toList a.f1.data.toList && itemOk x)) from rfl)
 have HM := Lib.hid (show bounce x a = if bounceOk x a then bounceB x a else zMailS from rfl)
 generalize bounceB x a = N at h4 HM
 generalize bounce x a = M at HM
 generalize bounceOk x a = q at HM HO
 generalize nul x.f1.f0.data.toList x.f1.f1.data.toList = q1 at h3 HO
 generalize addr a.f0.data.toList a.f1.data.toList = q2 at h2 HO
 generalize itemOk x = q3 at h1 HO
 go_enter Tryd.func8, Tryd.ntmps8
 go_wp2_with fail
 obtain ⟨W0, hW0⟩ : ∃ W0, W0 = (((w.alloc (.cells #[.int .i64 x.f0, .string x.f1.f0, .string x.f1.f1, .slice A0 x.f2.length c0, .slice A1 x.f3.length c1] 28)).alloc (.cells #[.string a.f0, .string a.f1] 24)).alloc (.cells #[.string ⟨#[]⟩, .string ⟨#[]⟩, .slice none 0 0, .slice none 0 0] 33)) := ⟨_, rfl⟩
 rw [← hW0]
 have B0 : Below w.heap.size w W0 := by rw [hW0]; exact (bel_alloc (bel_alloc (bel_alloc (Below.refl _ _) _) _) _)
 have Z0 : w.heap.size < W0.heap.size := by rw [hW0]; simp; try omega
 have c0_ : W0.cell? ⟨w.heap.size, 0, none⟩ = some (.int .i64 x.f0) := by rw [hW0]; first | (simp; done) | (rw [World.cell?_alloc_lt _ _ _ (by first | (simp; done) | (simp; omega))]; first | (simp; done) | (rw [World.cell?_alloc_lt _ _ _ (by first | (simp; done) | (simp; omega))]; simp))
 have c1_ : W0.cell? ⟨w.heap.size, 1, none⟩ = some (.string x.f1.f0) := by rw [hW0]; first | (simp; done) | (rw [World.cell?_alloc_lt _ _ _ (by first | (simp; done) | (simp; omega))]; first | (simp; done) | (rw [World.cell?_alloc_lt _ _ _ (by first | (simp; done) | (simp; omega))]; simp))
 have c2_ : W0.cell? ⟨w.heap.size, 2, none⟩ = some (.string x.f1.f1) := by rw [hW0]; first | (simp; done) | (rw [World.cell?_alloc_lt _ _ _ (by first | (simp; done) | (simp; omega))]; first | (simp; done) | (rw [World.cell?_alloc_lt _ _ _ (by first | (simp; done) | (simp; omega))]; simp))
 have c3_ : W0.cell? ⟨w.heap.size, 3, none⟩ = some (.slice A0 x.f2.length c0) := by rw [hW0]; first | (simp; done) | (rw [World.cell?_alloc_lt _ _ _ (by first | (simp; done) | (simp; omega))]; first | (simp; done) | (rw [World.cell?_alloc_lt _ _ _ (by first | (simp; done) | (simp; omega))]; simp))
 have c4_ : W0.cell? ⟨w.heap.size, 4, none⟩ = some (.slice A1 x.f3.length c1) := by rw [hW0]; first | (simp; done) | (rw [World.cell?_alloc_lt _ _ _ (by first | (simp; done) | (simp; omega))]; first | (simp; done) | (rw [World.cell?_alloc_lt _ _ _ (by first | (simp; done) | (simp; omega))]; simp))
 have Z1 : w.heap.size + 1 < W0.heap.size := by rw [hW0]; simp; try omega
 have c5_ : W0.cell? ⟨w.heap.size + 1, 0, none⟩ = some (.string a.f0) := by rw [hW0]; first | (simp; done) | (rw [World.cell?_alloc_lt _ _ _ (by first | (simp; done) | (simp; omega))]; first | (simp; done) | (rw [World.cell?_alloc_lt _ _ _ (by first | (simp; done) | (simp; omega))]; simp))
 have c6_ : W0.cell? ⟨w.heap.size + 1, 1, none⟩ = some (.string a.f1) := by rw [hW0]; first | (simp; done) | (rw [World.cell?_alloc_lt _ _ _ (by first | (simp; done) | (simp; omega))]; first | (simp; done) | (rw [World.cell?_alloc_lt _ _ _ (by first | (simp; done) | (simp; omega))]; simp))
 have Z2 : w.heap.size + 1 + 1 < W0.heap.size := by rw [hW0]; simp; try omega
 have c7_ : W0.cell? ⟨w.heap.size + 1 + 1, 0, none⟩ = some (.string ⟨#[]⟩) := by rw [hW0, show w.heap.size + 1 + 1 = ((w.alloc (.cells #[.int .i64 x.f0, .string x.f1.f0, .string x.f1.f1, .slice A0 x.f2.length c0, .slice A1 x.f3.length c1] 28)).alloc (.cells #[.string a.f0, .string a.f1] 24)).heap.size by simp]; exact cell_new _ _ _ 0 _ rfl
 have c8_ : W0.cell? ⟨w.heap.size + 1 + 1, 1, none⟩ = some (.string ⟨#[]⟩) := by rw [hW0, show w.heap.size + 1 + 1 = ((w.alloc (.cells #[.int .i64 x.f0, .string x.f1.f0, .string x.f1.f1, .slice A0 x.f2.length c0, .slice A1 x.f3.length c1] 28)).alloc (.cells #[.string a.f0, .string a.f1] 24)).heap.size by simp]; exact cell_new _ _ _ 1 _ rfl
 have c9_ : W0.cell? ⟨w.heap.size + 1 + 1, 2, none⟩ = some (.slice none 0 0) := by rw [hW0, show w.heap.size + 1 + 1 = ((w.alloc (.cells #[.int .i64 x.f0, .string x.f1.f0, .string x.f1.f1, .slice A0 x.f2.length c0, .slice A1 x.f3.length c1] 28)).alloc (.cells #[.string a.f0, .string a.f1] 24)).heap.size by simp]; exact cell_new _ _ _ 2 _ rfl
 have c10_ : W0.cell? ⟨w.heap.size + 1 + 1, 3, none⟩ = some (.slice none 0 0) := by rw [hW0, show w.heap.size + 1 + 1 = ((w.alloc (.cells #[.int .i64 x.f0, .string x.f1.f0, .string x.f1.f1, .slice A0 x.f2.length c0, .slice A1 x.f3.length c1] 28)).alloc (.cells #[.string a.f0, .string a.f1] 24)).heap.size by simp]; exact cell_new _ _ _ 3 _ rfl
 have c11_ : W0.frozen? ⟨w.heap.size + 1 + 1, 0, none⟩ = false := by rw [hW0, show w.heap.size + 1 + 1 = ((w.alloc (.cells #[.int .i64 x.f0, .string x.f1.f0, .string x.f1.f1, .slice A0 x.f2.length c0, .slice A1 x.f3.length c1] 28)).alloc (.cells #[.string a.f0, .string a.f1] 24)).heap.size by simp]; exact frozen_new _ _ _ _
 have c12_ : W0.frozen? ⟨w.heap.size + 1 + 1, 1, none⟩ = false := by rw [hW0, show w.heap.size + 1 + 1 = ((w.alloc (.cells #[.int .i64 x.f0, .string x.f1.f0, .string x.f1.f1, .slice A0 x.f2.length c0, .slice A1 x.f3.length c1] 28)).alloc (.cells #[.string a.f0, .string a.f1] 24)).heap.size by simp]; exact frozen_new _ _ _ _
 have c13_ : W0.frozen? ⟨w.heap.size + 1 + 1, 2, none⟩ = false := by rw [hW0, show w.heap.size + 1 + 1 = ((w.alloc (.cells #[.int .i64 x.f0, .string x.f1.f0, .string x.f1.f1, .slice A0 x.f2.length c0, .slice A1 x.f3.length c1] 28)).alloc (.cells #[.string a.f0, .string a.f1] 24)).heap.size by simp]; exact frozen_new _ _ _ _
 have c14_ : W0.frozen? ⟨w.heap.size + 1 + 1, 3, none⟩ = false := by rw [hW0, show w.heap.size + 1 + 1 = ((w.alloc (.cells #[.int .i64 x.f0, .string x.f1.f0, .string x.f1.f1, .slice A0 x.f2.length c0, .slice A1 x.f3.length c1] 28)).alloc (.cells #[.string a.f0, .string a.f1] 24)).heap.size by simp]; exact frozen_new _ _ _ _
 have HC : Aside0 (∀ W, Below W0.heap.size W0 W → W.cell? ⟨w.heap.size, 0, none⟩ = some (.int .i64 x.f0) ∧ W.cell? ⟨w.heap.size, 1, none⟩ = some (.string x.f1.f0) ∧ W.cell? ⟨w.heap.size, 2, none⟩ = some (.string x.f1.f1) ∧ W.cell? ⟨w.heap.size, 3, none⟩ = some (.slice A0 x.f2.length c0) ∧ W.cell? ⟨w.heap.size, 4, none⟩ = some (.slice A1 x.f3.length c1) ∧ W.cell? ⟨w.heap.size + 1, 0, none⟩ = some (.string a.f0) ∧ W.cell? ⟨w.heap.size + 1, 1, none⟩ = some (.string a.f1) ∧ W.cell? ⟨w.heap.size + 1 + 1, 0, none⟩ = some (.string ⟨#[]⟩) ∧ W.cell? ⟨w.heap.size + 1 + 1, 1, none⟩ = some (.string ⟨#[]⟩) ∧ W.cell? ⟨w.heap.size + 1 + 1, 2, none⟩ = some (.slice none 0 0) ∧ W.cell? ⟨w.heap.size + 1 + 1, 3, none⟩ = some (.slice none 0 0) ∧ W.frozen? ⟨w.heap.size + 1 + 1, 0, none⟩ = false ∧ W.frozen? ⟨w.heap.size + 1 + 1, 1, none⟩ = false ∧ W.frozen? ⟨w.heap.size + 1 + 1, 2, none⟩ = false ∧ W.frozen? ⟨w.heap.size + 1 + 1, 3, none⟩ = false) := ⟨fun W h => ⟨(h.cell (p := ⟨w.heap.size, 0, none⟩) Z0).trans c0_, (h.cell (p := ⟨w.heap.size, 1, none⟩) Z0).trans c1_, (h.cell (p := ⟨w.heap.size, 2, none⟩) Z0).trans c2_, (h.cell (p := ⟨w.heap.size, 3, none⟩) Z0).trans c3_, (h.cell (p := ⟨w.heap.size, 4, none⟩) Z0).trans c4_, (h.cell (p := ⟨w.heap.size + 1, 0, none⟩) Z1).trans c5_, (h.cell (p := ⟨w.heap.size + 1, 1, none⟩) Z1).trans c6_, (h.cell (p := ⟨w.heap.size + 1 + 1, 0, none⟩) Z2).trans c7_, (h.cell (p := ⟨w.heap.size + 1 + 1, 1, none⟩) Z2).trans c8_, (h.cell (p := ⟨w.heap.size + 1 + 1, 2, none⟩) Z2).trans c9_, (h.cell (p := ⟨w.heap.size + 1 + 1, 3, none⟩) Z2).trans c10_, (h.frozen (p := ⟨w.heap.size + 1 + 1, 0, none⟩) Z2).trans c11_, (h.frozen (p := ⟨w.heap.size + 1 + 1, 1, none⟩) Z2).trans c12_, (h.frozen (p := ⟨w.heap.size + 1 + 1, 2, none⟩) Z2).trans c13_, (h.frozen (p := ⟨w.heap.size + 1 + 1, 3, none⟩) Z2).trans c14_⟩⟩
 clear hW0 c0_ c1_ c2_ c3_ c4_ c5_ c6_ c7_ c8_ c9_ c10_ c11_ c12_ c13_ c14_
 have HB0 := Aside0.mk B0
 have hsz := B0.size
 clear B0
 cases q3
 ·obtain rfl : q = false := by rw [HO.out]; cases q1 <;> cases q2 <;> rfl
  obtain rfl : M = zMailS := HM.out
  go_wp2_with (go_at_call 34; refine (h1 _ (bel_then HB0.out (by (with_reducible repeat (first | exact (Below.refl _ _) | refine bel_alloc ?_ _ | refine bel_set ?_ _ ?_ | refine blw_drewN ?_ _ | refine Below.drew ?_)); all_goals (first | (simp; done) | (simp; omega) | omega)))).mono ?_; rintro e w1 ⟨rfl, b1⟩; have B1 : Below W0.heap.size W0 w1 := bel_then (by (with_reducible repeat (first | exact (Below.refl _ _) | refine bel_alloc ?_ _ | refine bel_set ?_ _ ?_ | refine blw_drewN ?_ _ | refine Below.drew ?_)); all_goals (first | (simp; done) | (simp; omega) | omega)) b1; obtain ⟨d0_, d1_, d2_, d3_, d4_, d5_, d6_, d7_, d8_, d9_, d10_, d11_, d12_, d13_, d14_⟩ := HC.out _ B1; clear b1)
  refine bodyPost_ret (v := .tuple #[.agg #[.string ⟨#[]⟩, .string ⟨#[]⟩, .slice none 0 0, .slice none 0 0], .bool false]) ?hr rfl ?hp
  case hr => simp [results, Tryd.results8, go_sem, d7_, d8_, d9_, d10_, d11_, d12_, d13_, d14_]
  case hp => exact ⟨none, 0, none, 0, rfl, Kd.R_nil _ _ _ _ _, Kd.R_nil _ _ _ _ _, by (with_reducible repeat (first | exact (bel_then HB0.out B1) | refine bel_alloc ?_ _ | refine bel_set ?_ _ ?_ | refine blw_drewN ?_ _ | refine Below.drew ?_)); all_goals (first | (simp; done) | (simp; omega) | omega)⟩
 ·cases q2
  ·obtain rfl : q = false := by rw [HO.out]; cases q1 <;> rfl
   obtain rfl : M = zMailS := HM.out
   go_wp2_with (first | (go_at_call 34; refine (h1 _ (bel_then HB0.out (by (with_reducible repeat (first | exact (Below.refl _ _) | refine bel_alloc ?_ _ | refine bel_set ?_ _ ?_ | refine blw_drewN ?_ _ | refine Below.drew ?_)); all_goals (first | (simp; done) | (simp; omega) | omega)))).mono ?_; rintro e w1 ⟨rfl, b1⟩; have B1 : Below W0.heap.size W0 w1 := bel_then (by (with_reducible repeat (first | exact (Below.refl _ _) | refine bel_alloc ?_ _ | refine bel_set ?_ _ ?_ | refine blw_drewN ?_ _ | refine Below.drew ?_)); all_goals (first | (simp; done) | (simp; omega) | omega)) b1; obtain ⟨d0_, d1_, d2_, d3_, d4_, d5_, d6_, d7_, d8_, d9_, d10_, d11_, d12_, d13_, d14_⟩ := HC.out _ B1; clear b1) | (go_at_call 35; refine (h2 _).mono ?_; rintro e w2 ⟨rfl, b2⟩; have B2 : Below W0.heap.size W0 w2 := bel_then (by (with_reducible repeat (first | exact B1 | refine bel_alloc ?_ _ | refine bel_set ?_ _ ?_ | refine blw_drewN ?_ _ | refine Below.drew ?_)); all_goals (first | (simp; done) | (simp; omega) | omega)) b2; obtain ⟨n0_, n1_, n2_, n3_, n4_, n5_, n6_, n7_, n8_, n9_, n10_, n11_, n12_, n13_, n14_⟩ := HC.out _ B2; clear b2))
   refine bodyPost_ret (v := .tuple #[.agg #[.string ⟨#[]⟩, .string ⟨#[]⟩, .slice none 0 0, .slice none 0 0], .bool false]) ?hr rfl ?hp
   case hr => simp [results, Tryd.results8, go_sem, n7_, n8_, n9_, n10_, n11_, n12_, n13_, n14_]
   case hp => exact ⟨none, 0, none, 0, rfl, Kd.R_nil _ _ _ _ _, Kd.R_nil _ _ _ _ _, by (with_reducible repeat (first | exact (bel_then HB0.out B2) | refine bel_alloc ?_ _ | refine bel_set ?_ _ ?_ | refine blw_drewN ?_ _ | refine Below.drew ?_)); all_goals (first | (simp; done) | (simp; omega) | omega)⟩
  ·cases q1
   ·obtain rfl : q = true := HO.out
    obtain rfl : M = N := HM.out
    go_wp2_with (first | (go_at_call 34; refine (h1 _ (bel_then HB0.out (by (with_reducible repeat (first | exact (Below.refl _ _) | refine bel_alloc ?_ _ | refine bel_set ?_ _ ?_ | refine blw_drewN ?_ _ | refine Below.drew ?_)); all_goals (first | (simp; done) | (simp; omega) | omega)))).mono ?_; rintro e w1 ⟨rfl, b1⟩; have B1 : Below W0.heap.size W0 w1 := bel_then (by (with_reducible repeat (first | exact (Below.refl _ _) | refine bel_alloc ?_ _ | refine bel_set ?_ _ ?_ | refine blw_drewN ?_ _ | refine Below.drew ?_)); all_goals (first | (simp; done) | (simp; omega) | omega)) b1; obtain ⟨d0_, d1_, d2_, d3_, d4_, d5_, d6_, d7_, d8_, d9_, d10_, d11_, d12_, d13_, d14_⟩ := HC.out _ B1; clear b1) | (go_at_call 35; refine (h2 _).mono ?_; rintro e w2 ⟨rfl, b2⟩; have B2 : Below W0.heap.size W0 w2 := bel_then (by (with_reducible repeat (first | exact B1 | refine bel_alloc ?_ _ | refine bel_set ?_ _ ?_ | refine blw_drewN ?_ _ | refine Below.drew ?_)); all_goals (first | (simp; done) | (simp; omega) | omega)) b2; obtain ⟨n0_, n1_, n2_, n3_, n4_, n5_, n6_, n7_, n8_, n9_, n10_, n11_, n12_, n13_, n14_⟩ := HC.out _ B2; clear b2) | (go_at_call 36; refine (h3 _).mono ?_; rintro e w3 ⟨rfl, b3⟩; have B3 : Below W0.heap.size W0 w3 := bel_then (by (with_reducible repeat (first | exact B2 | refine bel_alloc ?_ _ | refine bel_set ?_ _ ?_ | refine blw_drewN ?_ _ | refine Below.drew ?_)); all_goals (first | (simp; done) | (simp; omega) | omega)) b3; obtain ⟨m0_, m1_, m2_, m3_, m4_, m5_, m6_, m7_, m8_, m9_, m10_, m11_, m12_, m13_, m14_⟩ := HC.out _ B3; clear b3) | (go_at_call 37; refine (h4 _ (bel_then HB0.out (by (with_reducible repeat (first | exact B3 | refine bel_alloc ?_ _ | refine bel_set ?_ _ ?_ | refine blw_drewN ?_ _ | refine Below.drew ?_)); all_goals (first | (simp; done) | (simp; omega) | omega)))).mono ?_; rintro e w4 ⟨B, d, C, f, rfl, g0, g1, b4⟩; have B4 : Below W0.heap.size W0 w4 := bel_then (by (with_reducible repeat (first | exact B3 | refine bel_alloc ?_ _ | refine bel_set ?_ _ ?_ | refine blw_drewN ?_ _ | refine Below.drew ?_)); all_goals (first | (simp; done) | (simp; omega) | omega)) b4; obtain ⟨q0_, q1_, q2_, q3_, q4_, q5_, q6_, q7_, q8_, q9_, q10_, q11_, q12_, q13_, q14_⟩ := HC.out _ B4; have s4 := b4.size; have s3 := Nat.lt_of_lt_of_le Z2 B3.size; clear b4))
    refine bodyPost_ret (v := .tuple #[.agg #[.string M.f0.f0, .string M.f0.f1, .slice B M.f1.length d, .slice C M.f2.length f], .bool true]) ?hr rfl ?hp
    case hr => simp [results, Tryd.results8, go_sem, q7_, q8_, q9_, q10_, q11_, q12_, q13_, q14_]
    case hp => exact ⟨B, d, C, f, rfl, Kd.R_lower (base := w3.heap.size) (by (with_reducible repeat (first | exact g0 | refine R_setLow ?_ _ ?_)); all_goals omega) (by omega), Kd.R_lower (base := w3.heap.size) (by (with_reducible repeat (first | exact g1 | refine R_setLow ?_ _ ?_)); all_goals omega) (by omega), by (with_reducible repeat (first | exact (bel_then HB0.out B4) | refine bel_alloc ?_ _ | refine bel_set ?_ _ ?_ | refine blw_drewN ?_ _ | refine Below.drew ?_)); all_goals (first | (simp; done) | (simp; omega) | omega)⟩
   ·obtain rfl : q = false := HO.out
    obtain rfl : M = zMailS := HM.out
    go_wp2_with (first | (go_at_call 34; refine (h1 _ (bel_then HB0.out (by (with_reducible repeat (first | exact (Below.refl _ _) | refine bel_alloc ?_ _ | refine bel_set ?_ _ ?_ | refine blw_drewN ?_ _ | refine Below.drew ?_)); all_goals (first | (simp; done) | (simp; omega) | omega)))).mono ?_; rintro e w1 ⟨rfl, b1⟩; have B1 : Below W0.heap.size W0 w1 := bel_then (by (with_reducible repeat (first | exact (Below.refl _ _) | refine bel_alloc ?_ _ | refine bel_set ?_ _ ?_ | refine blw_drewN ?_ _ | refine Below.drew ?_)); all_goals (first | (simp; done) | (simp; omega) | omega)) b1; obtain ⟨d0_, d1_, d2_, d3_, d4_, d5_, d6_, d7_, d8_, d9_, d10_, d11_, d12_, d13_, d14_⟩ := HC.out _ B1; clear b1) | (go_at_call 35; refine (h2 _).mono ?_; rintro e w2 ⟨rfl, b2⟩; have B2 : Below W0.heap.size W0 w2 := bel_then (by (with_reducible repeat (first | exact B1 | refine bel_alloc ?_ _ | refine bel_set ?_ _ ?_ | refine blw_drewN ?_ _ | refine Below.drew ?_)); all_goals (first | (simp; done) | (simp; omega) | omega)) b2; obtain ⟨n0_, n1_, n2_, n3_, n4_, n5_, n6_, n7_, n8_, n9_, n10_, n11_, n12_, n13_, n14_⟩ := HC.out _ B2; clear b2) | (go_at_call 36; refine (h3 _).mono ?_; rintro e w3 ⟨rfl, b3⟩; have B3 : Below W0.heap.size W0 w3 := bel_then (by (with_reducible repeat (first | exact B2 | refine bel_alloc ?_ _ | refine bel_set ?_ _ ?_ | refine blw_drewN ?_ _ | refine Below.drew ?_)); all_goals (first | (simp; done) | (simp; omega) | omega)) b3; obtain ⟨m0_, m1_, m2_, m3_, m4_, m5_, m6_, m7_, m8_, m9_, m10_, m11_, m12_, m13_, m14_⟩ := HC.out _ B3; clear b3))
    refine bodyPost_ret (v := .tuple #[.agg #[.string ⟨#[]⟩, .string ⟨#[]⟩, .slice none 0 0, .slice none 0 0], .bool false]) ?hr rfl ?hp
    case hr => simp [results, Tryd.results8, go_sem, m7_, m8_, m9_, m10_, m11_, m12_, m13_, m14_]
    case hp => exact ⟨none, 0, none, 0, rfl, Kd.R_nil _ _ _ _ _, Kd.R_nil _ _ _ _ _, by (with_reducible repeat (first | exact (bel_then HB0.out B3) | refine bel_alloc ?_ _ | refine bel_set ?_ _ ?_ | refine blw_drewN ?_ _ | refine Below.drew ?_)); all_goals (first | (simp; done) | (simp; omega) | omega)⟩

end Go.Proofs.YtiaibgkpohmihaaDoor
