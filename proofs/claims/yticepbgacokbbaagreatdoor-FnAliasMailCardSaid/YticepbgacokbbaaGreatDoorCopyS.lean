/- Copies of mails, of the reference: a contract. -/
import Derived.Test.YticepbgacokbbaaGreatDoorReg
import Derived.Test.YticepbgacokbbaaGreatDoorCopyM
namespace Go.Proofs.YticepbgacokbbaaGreatDoor
open Go.RowKit Go.Proofs.YticepbgacokbbaaGreatDoorW.PrintWords
set_option linter.unusedVariables false
set_option linter.unusedSimpArgs false

set_option maxRecDepth 100000 in
set_option maxHeartbeats 4000000 in
theorem specCopy_any (m : SMail) (A0 : Option Addr) (c0 : Nat) (A1 : Option Addr) (c1 : Nat) (w : World) (hw : fitMail m) (hr0 : Kd.C kAddr w A0 m.f1.length m.f1) (hr1 : Kd.C Kd.string w A1 m.f2.length m.f2) :
  Calls Tryz.prog 35 #[.agg #[.string m.f0.f0, .string m.f0.f1, .slice A0 m.f1.length c0, .slice A1 m.f2.length c1]] w fun e w' => ∃ B0 d0 B1 d1, e = .returned (.agg #[.string m.f0.f0, .string m.f0.f1, .slice B0 m.f1.length d0, .slice B1 m.f2.length d1]) ∧ Kd.R kAddr 25 w' w.heap.size (fun _ => True) (.slice B0 m.f1.length d0) m.f1 ∧ Kd.R Kd.string 9 w' w.heap.size (fun _ => True) (.slice B1 m.f2.length d1) m.f2 ∧ Below w.heap.size w w' := by
 have hl0 : m.f1.length ≤ 1048576 := hw.2.1.1
 have hl1 : m.f2.length ≤ 1048576 := hw.2.2.1
 clear hw
 go_enter Tryz.func35, Tryz.ntmps35
 go_wp2
 obtain ⟨W0, hW0⟩ : ∃ W, W = (w.alloc (.cells #[.string m.f0.f0, .string m.f0.f1, .slice A0 m.f1.length c0, .slice A1 m.f2.length c1] 29)).alloc (.cells #[.string ⟨#[]⟩, .string ⟨#[]⟩, .slice none 0 0, .slice none 0 0] 29) := ⟨_, rfl⟩
 rw [← hW0]
 have f0 : W0.heap[w.heap.size]? = some (.cells #[.string m.f0.f0, .string m.f0.f1, .slice A0 m.f1.length c0, .slice A1 m.f2.length c1] 29 (0, 0)) := by rw [hW0]; exact below_blk (blk_new _ _) (bel_alloc (Below.refl _ _) _)
 have HF1 : Aside0 (W0.heap[w.heap.size + 1]? = some (.cells #[.string ⟨#[]⟩, .string ⟨#[]⟩, .slice none 0 0, .slice none 0 0] 29 (0, 0))) := ⟨by rw [hW0, show w.heap.size + 1 = (w.alloc (.cells #[.string m.f0.f0, .string m.f0.f1, .slice A0 m.f1.length c0, .slice A1 m.f2.length c1] 29)).heap.size by simp]; exact blk_new _ _⟩
 have B0 : Below w.heap.size w W0 := by rw [hW0]; exact bel_alloc (bel_alloc (Below.refl _ _) _) _
 clear hW0
 have join : Hid (∀ {goal : Prop} {G : Option Addr → Nat → Option Addr → Nat → Nat → Nat → World → Prop} (rg : Hid (∀ (B0 : Option Addr) (d0 : Nat) (B1 : Option Addr) (d1 : Nat) (g0 g1 : Nat) (V : World), Below w.heap.size w V ∧ V.heap[w.heap.size + 1]? = some (.cells #[.string m.f0.f0, .string m.f0.f1, .slice B0 m.f1.length d0, .slice B1 m.f2.length d1] 29 (0, 0)) ∧ Kd.R kAddr 25 V w.heap.size (fun _ => True) (.slice B0 m.f1.length d0) m.f1 ∧ Kd.R Kd.string 9 V w.heap.size (fun _ => True) (.slice B1 m.f2.length d1) m.f2 → G B0 d0 B1 d1 g0 g1 V) → goal) (hk : ∀ (B0 : Option Addr) (d0 : Nat) (B1 : Option Addr) (d1 : Nat) (g0 g1 : Nat) (V : World), Below w.heap.size w V ∧ V.heap[w.heap.size + 1]? = some (.cells #[.string m.f0.f0, .string m.f0.f1, .slice B0 m.f1.length d0, .slice B1 m.f2.length d1] 29 (0, 0)) ∧ Kd.R kAddr 25 V w.heap.size (fun _ => True) (.slice B0 m.f1.length d0) m.f1 ∧ Kd.R Kd.string 9 V w.heap.size (fun _ => True) (.slice B1 m.f2.length d1) m.f2 → G B0 d0 B1 d1 g0 g1 V), goal) := Lib.hid (fun f h => f (Lib.hid h))
 have HK : Aside0 (∀ W W1, Below W.heap.size W W1 → (W.cell? ⟨w.heap.size, 0, none⟩ = some (.string m.f0.f0) ∧ W.cell? ⟨w.heap.size, 1, none⟩ = some (.string m.f0.f1) ∧ W.cell? ⟨w.heap.size, 2, none⟩ = some (.slice A0 m.f1.length c0) ∧ W.cell? ⟨w.heap.size, 3, none⟩ = some (.slice A1 m.f2.length c1) ∧ Below w.heap.size w W) → (W1.cell? ⟨w.heap.size, 0, none⟩ = some (.string m.f0.f0) ∧ W1.cell? ⟨w.heap.size, 1, none⟩ = some (.string m.f0.f1) ∧ W1.cell? ⟨w.heap.size, 2, none⟩ = some (.slice A0 m.f1.length c0) ∧ W1.cell? ⟨w.heap.size, 3, none⟩ = some (.slice A1 m.f2.length c1) ∧ Below w.heap.size w W1)) := ⟨fun W W1 hb h => ⟨(hb.cell (World.block_lt_of_cell? W _ (h.1))).trans (h.1), (hb.cell (World.block_lt_of_cell? W _ (h.2.1))).trans (h.2.1), (hb.cell (World.block_lt_of_cell? W _ (h.2.2.1))).trans (h.2.2.1), (hb.cell (World.block_lt_of_cell? W _ (h.2.2.2.1))).trans (h.2.2.2.1), bel_then (h.2.2.2.2) hb⟩⟩
 have x0_ : W0.cell? ⟨w.heap.size, 0, none⟩ = some (.string m.f0.f0) := by simp [World.cell?, f0]
 have x1_ : W0.cell? ⟨w.heap.size, 1, none⟩ = some (.string m.f0.f1) := by simp [World.cell?, f0]
 have x2_ : W0.cell? ⟨w.heap.size, 2, none⟩ = some (.slice A0 m.f1.length c0) := by simp [World.cell?, f0]
 have x3_ : W0.cell? ⟨w.heap.size, 3, none⟩ = some (.slice A1 m.f2.length c1) := by simp [World.cell?, f0]
 have HST : Aside0 ((fun W => W.cell? ⟨w.heap.size, 0, none⟩ = some (.string m.f0.f0) ∧ W.cell? ⟨w.heap.size, 1, none⟩ = some (.string m.f0.f1) ∧ W.cell? ⟨w.heap.size, 2, none⟩ = some (.slice A0 m.f1.length c0) ∧ W.cell? ⟨w.heap.size, 3, none⟩ = some (.slice A1 m.f2.length c1) ∧ Below w.heap.size w W) W0.drew) := ⟨⟨x0_, x1_, x2_, x3_, bel_then B0 (drew_below0 W0)⟩⟩
 clear f0 B0 x0_ x1_ x2_ x3_
 apply join.out
 case rg =>
  intro HKK
  refine wp_region_held_drew (S := (fun W => W.cell? ⟨w.heap.size, 0, none⟩ = some (.string m.f0.f0) ∧ W.cell? ⟨w.heap.size, 1, none⟩ = some (.string m.f0.f1) ∧ W.cell? ⟨w.heap.size, 2, none⟩ = some (.slice A0 m.f1.length c0) ∧ W.cell? ⟨w.heap.size, 3, none⟩ = some (.slice A1 m.f2.length c1) ∧ Below w.heap.size w W)) (by kernel_rfl) ?s1 (fun hHeld => ?t1)
  case s1 => exact HST.out
  generalize hV0 : World.drew _ = V0 at hHeld ⊢
  have F1 : Aside0 (V0.heap[w.heap.size + 1]? = some (.cells #[.string ⟨#[]⟩, .string ⟨#[]⟩, .slice none 0 0, .slice none 0 0] 29 (0, 0))) := ⟨by rw [← hV0]; exact HF1.out⟩
  have s0_ : w.heap.size + 1 < V0.heap.size := blk_lt F1.out
  clear hV0
  refine tk 0 ?v2 ?y2 ?r2
  case y2 => intro w_ hSw; (try dsimp only at hSw); go_simp; (try (with_reducible rfl))
  try simp only [Act.put, List.setIfInBounds_toArray, List.set_cons_zero, List.set_cons_succ]
  refine tk 1 ?v3 ?y3 ?r3
  case y3 => intro w_ hSw; (try dsimp only at hSw); go_simp; (try (with_reducible rfl))
  try simp only [Act.put, List.setIfInBounds_toArray, List.set_cons_zero, List.set_cons_succ]
  refine tk 3 ?v4 ?y4 ?r4
  case y4 => intro w_ hSw; (try dsimp only at hSw); go_simp; (try (with_reducible rfl))
  try simp only [Act.put, List.setIfInBounds_toArray, List.set_cons_zero, List.set_cons_succ]
  refine tk 4 ?v5 ?y5 ?r5
  case y5 => intro w_ hSw; (try dsimp only at hSw); go_simp; (try (with_reducible rfl))
  try simp only [Act.put, List.setIfInBounds_toArray, List.set_cons_zero, List.set_cons_succ]
  refine tk 7 ?v6 ?y6 ?r6
  case y6 => intro w_ hSw; (try dsimp only at hSw); go_simp; (try (with_reducible rfl))
  try simp only [Act.put, List.setIfInBounds_toArray, List.set_cons_zero, List.set_cons_succ]
  refine tk 8 ?v7 ?y7 ?r7
  case y7 => intro w_ hSw; (try dsimp only at hSw); go_simp; (try (with_reducible rfl))
  try simp only [Act.put, List.setIfInBounds_toArray, List.set_cons_zero, List.set_cons_succ]
  refine rdy (rs := [2, 6]) ?_
  refine rc (fun K hK => ?k8) (rc (fun K hK => ?k9) AllReadyH.nil)
  case k8 =>
   go_simp
   refine hK.out _ _ ?h10 (fun hHeld => ?j10)
   case h10 => exact HK.out _ _ (bel_alloc (Below.refl _ _) _) hHeld
   clear hK K
   try simp only [Act.put, List.setIfInBounds_toArray, List.set_cons_zero, List.set_cons_succ]
   generalize hV2 : World.alloc V0 _ = V2 at hHeld ⊢
   have b2 : Below V0.heap.size V0 V2 := by rw [← hV2]; exact bel_alloc (Below.refl _ _) _
   have z2 : V0.heap.size < V2.heap.size := by rw [← hV2]; simp
   have lo2 : w.heap.size + 1 < V0.heap.size := by omega
   have E0 : Aside0 (Kd.R kAddr 25 V2 w.heap.size (fun _ => True) (.slice (some ⟨V0.heap.size, 0, none⟩) 0 0) []) := ⟨by rw [← hV2]; exact R_empty kAddr 25 V0 w.heap.size (by omega) trivial⟩
   obtain ⟨g0, hg2⟩ : ∃ g, g = V0.heap.size := ⟨_, rfl⟩
   have lg0 : w.heap.size + 1 < g0 := by omega
   rw [← hg2] at E0 ⊢
   have s2_ : w.heap.size + 1 < V2.heap.size := by omega
   clear hV2 hg2 z2
   replace F1 := Aside0.mk (below_blk F1.out b2)
   refine rdy (rs := [5, 6]) ?_
   refine rc (fun K hK => ?k11) (rc (fun K hK => ?k12) AllReadyH.nil)
   case k11 =>
    refine Kd.R_append_rows_step kAddr (w0 := w) (w.heap.size) (by rfl) (.tmp 5) (.tmp 7) 26 25 (.agg #[(.string ⟨#[]⟩), (.string ⟨#[]⟩)]) 32 rfl Tryz.underlying26 info25 rfl (by decide) (by omega) (.slice (some ⟨g0, 0, none⟩) 0 0) [] m.f1 _ _ _ (fun _ => True) (fun _ => False) rfl rfl ?aO5 ?aR5 (fun _ _ h => h) (fun _ h => h.elim) (fun _ _ => trivial) ?aB5 ?aS5 ?aL5 ?_
    case aO5 => exact E0.out
    case aR5 => exact Kd.C_below hr0 hHeld.2.2.2.2
    case aB5 => exact hHeld.2.2.2.2
    case aS5 => exact (hHeld.2.2.2.2).size
    case aL5 => (simp; omega)
    intro v5 V5 ho hb hg hat
    have ho : Kd.R kAddr 25 V5 w.heap.size (fun _ => True) v5 m.f1 := ho
    obtain ⟨B0, d0, hv5⟩ := Kd.R_slice ho
    subst hv5
    have GR5 : V2.grownBy V5 (some g0) := hg
    clear hg hat
    refine hK.out _ _ ?h13 (fun hHeld => ?j13)
    case h13 => exact ⟨(World.cell?_of_block (GR5.block _ (World.block_lt_of_cell? _ _ hHeld.1) (fun e => by have e := Option.some.inj e; (try dsimp only at e); omega))).trans hHeld.1, (World.cell?_of_block (GR5.block _ (World.block_lt_of_cell? _ _ hHeld.2.1) (fun e => by have e := Option.some.inj e; (try dsimp only at e); omega))).trans hHeld.2.1, (World.cell?_of_block (GR5.block _ (World.block_lt_of_cell? _ _ hHeld.2.2.1) (fun e => by have e := Option.some.inj e; (try dsimp only at e); omega))).trans hHeld.2.2.1, (World.cell?_of_block (GR5.block _ (World.block_lt_of_cell? _ _ hHeld.2.2.2.1) (fun e => by have e := Option.some.inj e; (try dsimp only at e); omega))).trans hHeld.2.2.2.1, hb⟩
    clear hK K
    try simp only [Act.put, List.setIfInBounds_toArray, List.set_cons_zero, List.set_cons_succ]
    have U0 := Aside0.mk ho
    have s5_ : w.heap.size + 1 < V5.heap.size := by have := GR5.size; omega
    replace F1 := Aside0.mk ((GR5.block _ (blk_lt F1.out) (fun e => by have e := Option.some.inj e; omega)).trans F1.out)
    clear ho hb E0
    refine rdy (rs := [6]) ?_
    refine rc (fun K hK => ?k14) AllReadyH.nil
    case k14 =>
     go_simp
     refine hK.out _ _ ?h15 (fun hHeld => ?j15)
     case h15 => exact HK.out _ _ (bel_alloc (Below.refl _ _) _) hHeld
     clear hK K
     try simp only [Act.put, List.setIfInBounds_toArray, List.set_cons_zero, List.set_cons_succ]
     generalize hV6 : World.alloc V5 _ = V6 at hHeld ⊢
     have b6 : Below V5.heap.size V5 V6 := by rw [← hV6]; exact bel_alloc (Below.refl _ _) _
     have z6 : V5.heap.size < V6.heap.size := by rw [← hV6]; simp
     have lo6 : w.heap.size + 1 < V5.heap.size := by omega
     have E1 : Aside0 (Kd.R Kd.string 9 V6 w.heap.size (fun _ => True) (.slice (some ⟨V5.heap.size, 0, none⟩) 0 0) []) := ⟨by rw [← hV6]; exact R_empty Kd.string 9 V5 w.heap.size (by omega) trivial⟩
     obtain ⟨g1, hg6⟩ : ∃ g, g = V5.heap.size := ⟨_, rfl⟩
     have lg1 : w.heap.size + 1 < g1 := by omega
     rw [← hg6] at E1 ⊢
     have s6_ : w.heap.size + 1 < V6.heap.size := by omega
     clear hV6 hg6 z6
     replace F1 := Aside0.mk (below_blk F1.out b6)
     replace U0 := Aside0.mk (Kd.R_below U0.out b6)
     refine rdy (rs := [9]) ?_
     refine rc (fun K hK => ?k16) AllReadyH.nil
     case k16 =>
      refine Kd.R_append_rows_step Kd.string (w0 := w) (w.heap.size) (by rfl) (.tmp 9) (.tmp 11) 27 9 (.string ⟨#[]⟩) 16 rfl Tryz.underlying27 info9 rfl (by decide) (by omega) (.slice (some ⟨g1, 0, none⟩) 0 0) [] m.f2 _ _ _ (fun _ => True) (fun _ => False) rfl rfl ?aO9 ?aR9 (fun _ _ h => h) (fun _ h => h.elim) (fun _ _ => trivial) ?aB9 ?aS9 ?aL9 ?_
      case aO9 => exact E1.out
      case aR9 => exact Kd.C_below hr1 hHeld.2.2.2.2
      case aB9 => exact hHeld.2.2.2.2
      case aS9 => exact (hHeld.2.2.2.2).size
      case aL9 => (simp; omega)
      intro v9 V9 ho hb hg hat
      have ho : Kd.R Kd.string 9 V9 w.heap.size (fun _ => True) v9 m.f2 := ho
      obtain ⟨B1, d1, hv9⟩ := Kd.R_slice ho
      subst hv9
      have GR9 : V6.grownBy V9 (some g1) := hg
      clear hg hat
      refine hK.out _ _ ?h17 (fun hHeld => ?j17)
      case h17 => exact ⟨(World.cell?_of_block (GR9.block _ (World.block_lt_of_cell? _ _ hHeld.1) (fun e => by have e := Option.some.inj e; (try dsimp only at e); omega))).trans hHeld.1, (World.cell?_of_block (GR9.block _ (World.block_lt_of_cell? _ _ hHeld.2.1) (fun e => by have e := Option.some.inj e; (try dsimp only at e); omega))).trans hHeld.2.1, (World.cell?_of_block (GR9.block _ (World.block_lt_of_cell? _ _ hHeld.2.2.1) (fun e => by have e := Option.some.inj e; (try dsimp only at e); omega))).trans hHeld.2.2.1, (World.cell?_of_block (GR9.block _ (World.block_lt_of_cell? _ _ hHeld.2.2.2.1) (fun e => by have e := Option.some.inj e; (try dsimp only at e); omega))).trans hHeld.2.2.2.1, hb⟩
      clear hK K
      try simp only [Act.put, List.setIfInBounds_toArray, List.set_cons_zero, List.set_cons_succ]
      have U1 := Aside0.mk ho
      have s9_ : w.heap.size + 1 < V9.heap.size := by have := GR9.size; omega
      replace F1 := Aside0.mk ((GR9.block _ (blk_lt F1.out) (fun e => by have e := Option.some.inj e; omega)).trans F1.out)
      replace U0 := Aside0.mk (Kd.R_over' U0.out (Kd.R_typed E1.out) (by decide) GR9)
      clear ho hb E1
      refine tk 10 ?v18 ?y18 ?r18
      case y18 => intro w_ hSw; (try dsimp only at hSw); go_simp; (try (with_reducible rfl))
      try simp only [Act.put, List.setIfInBounds_toArray, List.set_cons_zero, List.set_cons_succ]
      refine rdy (rs := [11]) ?_
      refine rc (fun K hK => ?k19) AllReadyH.nil
      case k19 =>
       have hb7 := F1.out
       have v0_ : V9.cell? ⟨w.heap.size + 1, 0, none⟩ = some (.string ⟨#[]⟩) := by simp [World.cell?, hb7]
       have v1_ : V9.cell? ⟨w.heap.size + 1, 1, none⟩ = some (.string ⟨#[]⟩) := by simp [World.cell?, hb7]
       have v2_ : V9.cell? ⟨w.heap.size + 1, 2, none⟩ = some (.slice none 0 0) := by simp [World.cell?, hb7]
       have v3_ : V9.cell? ⟨w.heap.size + 1, 3, none⟩ = some (.slice none 0 0) := by simp [World.cell?, hb7]
       have u0_ : V9.frozen? ⟨w.heap.size + 1, 0, none⟩ = false := by simp [World.frozen?, hb7]
       have u1_ : V9.frozen? ⟨w.heap.size + 1, 1, none⟩ = false := by simp [World.frozen?, hb7]
       have u2_ : V9.frozen? ⟨w.heap.size + 1, 2, none⟩ = false := by simp [World.frozen?, hb7]
       have u3_ : V9.frozen? ⟨w.heap.size + 1, 3, none⟩ = false := by simp [World.frozen?, hb7]
       go_simp
       generalize hV11 : World.setCell (World.setCell (World.setCell (World.setCell V9 ⟨w.heap.size + 1, 0, none⟩ _) ⟨w.heap.size + 1, 1, none⟩ _) ⟨w.heap.size + 1, 2, none⟩ _) ⟨w.heap.size + 1, 3, none⟩ _ = V11
       have G11 : V9.grownBy V11 (some (w.heap.size + 1)) := by rw [← hV11]; exact (((grown_set1 _ _ _ _).trans (grown_set1 _ _ _ _)).trans (grown_set1 _ _ _ _)).trans (grown_set1 _ _ _ _)
       have FF : V11.heap[w.heap.size + 1]? = some (.cells #[.string m.f0.f0, .string m.f0.f1, .slice B0 m.f1.length d0, .slice B1 m.f2.length d1] 29 (0, 0)) := by rw [← hV11, blk_set1 (blk_set1 (blk_set1 (blk_set1 (F1.out) 0 _) 1 _) 2 _) 3 _]; simp
       have BB : Below w.heap.size w V11 := by rw [← hV11]; exact (bel_set (bel_set (bel_set (bel_set hHeld.2.2.2.2 _ (by show w.heap.size ≤ w.heap.size + 1; omega)) _ (by show w.heap.size ≤ w.heap.size + 1; omega)) _ (by show w.heap.size ≤ w.heap.size + 1; omega)) _ (by show w.heap.size ≤ w.heap.size + 1; omega))
       clear hV11
       refine hK.out _ _ ?h20 (fun hHeld => ?j20)
       case h20 => exact ⟨(World.cell?_of_block (G11.block _ (World.block_lt_of_cell? _ _ hHeld.1) (fun e => by have e := Option.some.inj e; (try dsimp only at e); omega))).trans hHeld.1, (World.cell?_of_block (G11.block _ (World.block_lt_of_cell? _ _ hHeld.2.1) (fun e => by have e := Option.some.inj e; (try dsimp only at e); omega))).trans hHeld.2.1, (World.cell?_of_block (G11.block _ (World.block_lt_of_cell? _ _ hHeld.2.2.1) (fun e => by have e := Option.some.inj e; (try dsimp only at e); omega))).trans hHeld.2.2.1, (World.cell?_of_block (G11.block _ (World.block_lt_of_cell? _ _ hHeld.2.2.2.1) (fun e => by have e := Option.some.inj e; (try dsimp only at e); omega))).trans hHeld.2.2.2.1, BB⟩
       clear hK K
       try simp only [Act.put, List.setIfInBounds_toArray, List.set_cons_zero, List.set_cons_succ]
       replace U0 := Aside0.mk (R_else U0.out rfl G11 (Kd.R_ne U0.out F1.out (by decide)))
       replace U1 := Aside0.mk (R_else U1.out rfl G11 (Kd.R_ne U1.out F1.out (by decide)))
       replace F1 := Aside0.mk FF
       clear FF
       refine wpAnyH_done (by kernel_rfl) ?_ _
       exact HKK.out B0 d0 B1 d1 g0 g1 V11 ⟨hHeld.2.2.2.2, F1.out, U0.out, U1.out⟩
   case k12 =>
    go_simp
    refine hK.out _ _ ?h21 (fun hHeld => ?j21)
    case h21 => exact HK.out _ _ (bel_alloc (Below.refl _ _) _) hHeld
    clear hK K
    try simp only [Act.put, List.setIfInBounds_toArray, List.set_cons_zero, List.set_cons_succ]
    generalize hV6 : World.alloc V2 _ = V6 at hHeld ⊢
    have b6 : Below V2.heap.size V2 V6 := by rw [← hV6]; exact bel_alloc (Below.refl _ _) _
    have z6 : V2.heap.size < V6.heap.size := by rw [← hV6]; simp
    have lo6 : w.heap.size + 1 < V2.heap.size := by omega
    have E1 : Aside0 (Kd.R Kd.string 9 V6 w.heap.size (fun _ => True) (.slice (some ⟨V2.heap.size, 0, none⟩) 0 0) []) := ⟨by rw [← hV6]; exact R_empty Kd.string 9 V2 w.heap.size (by omega) trivial⟩
    obtain ⟨g1, hg6⟩ : ∃ g, g = V2.heap.size := ⟨_, rfl⟩
    have lg1 : w.heap.size + 1 < g1 := by omega
    rw [← hg6] at E1 ⊢
    have s6_ : w.heap.size + 1 < V6.heap.size := by omega
    clear hV6 hg6 z6
    replace F1 := Aside0.mk (below_blk F1.out b6)
    replace E0 := Aside0.mk (Kd.R_below E0.out b6)
    refine rdy (rs := [5]) ?_
    refine rc (fun K hK => ?k22) AllReadyH.nil
    case k22 =>
     refine Kd.R_append_rows_step kAddr (w0 := w) (w.heap.size) (by rfl) (.tmp 5) (.tmp 7) 26 25 (.agg #[(.string ⟨#[]⟩), (.string ⟨#[]⟩)]) 32 rfl Tryz.underlying26 info25 rfl (by decide) (by omega) (.slice (some ⟨g0, 0, none⟩) 0 0) [] m.f1 _ _ _ (fun _ => True) (fun _ => False) rfl rfl ?aO5 ?aR5 (fun _ _ h => h) (fun _ h => h.elim) (fun _ _ => trivial) ?aB5 ?aS5 ?aL5 ?_
     case aO5 => exact E0.out
     case aR5 => exact Kd.C_below hr0 hHeld.2.2.2.2
     case aB5 => exact hHeld.2.2.2.2
     case aS5 => exact (hHeld.2.2.2.2).size
     case aL5 => (simp; omega)
     intro v5 V5 ho hb hg hat
     have ho : Kd.R kAddr 25 V5 w.heap.size (fun _ => True) v5 m.f1 := ho
     obtain ⟨B0, d0, hv5⟩ := Kd.R_slice ho
     subst hv5
     have GR5 : V6.grownBy V5 (some g0) := hg
     clear hg hat
     refine hK.out _ _ ?h23 (fun hHeld => ?j23)
     case h23 => exact ⟨(World.cell?_of_block (GR5.block _ (World.block_lt_of_cell? _ _ hHeld.1) (fun e => by have e := Option.some.inj e; (try dsimp only at e); omega))).trans hHeld.1, (World.cell?_of_block (GR5.block _ (World.block_lt_of_cell? _ _ hHeld.2.1) (fun e => by have e := Option.some.inj e; (try dsimp only at e); omega))).trans hHeld.2.1, (World.cell?_of_block (GR5.block _ (World.block_lt_of_cell? _ _ hHeld.2.2.1) (fun e => by have e := Option.some.inj e; (try dsimp only at e); omega))).trans hHeld.2.2.1, (World.cell?_of_block (GR5.block _ (World.block_lt_of_cell? _ _ hHeld.2.2.2.1) (fun e => by have e := Option.some.inj e; (try dsimp only at e); omega))).trans hHeld.2.2.2.1, hb⟩
     clear hK K
     try simp only [Act.put, List.setIfInBounds_toArray, List.set_cons_zero, List.set_cons_succ]
     have U0 := Aside0.mk ho
     have s5_ : w.heap.size + 1 < V5.heap.size := by have := GR5.size; omega
     replace F1 := Aside0.mk ((GR5.block _ (blk_lt F1.out) (fun e => by have e := Option.some.inj e; omega)).trans F1.out)
     replace E1 := Aside0.mk (Kd.R_over' E1.out (Kd.R_typed E0.out) (by decide) GR5)
     clear ho hb E0
     refine rdy (rs := [9]) ?_
     refine rc (fun K hK => ?k24) AllReadyH.nil
     case k24 =>
      refine Kd.R_append_rows_step Kd.string (w0 := w) (w.heap.size) (by rfl) (.tmp 9) (.tmp 11) 27 9 (.string ⟨#[]⟩) 16 rfl Tryz.underlying27 info9 rfl (by decide) (by omega) (.slice (some ⟨g1, 0, none⟩) 0 0) [] m.f2 _ _ _ (fun _ => True) (fun _ => False) rfl rfl ?aO9 ?aR9 (fun _ _ h => h) (fun _ h => h.elim) (fun _ _ => trivial) ?aB9 ?aS9 ?aL9 ?_
      case aO9 => exact E1.out
      case aR9 => exact Kd.C_below hr1 hHeld.2.2.2.2
      case aB9 => exact hHeld.2.2.2.2
      case aS9 => exact (hHeld.2.2.2.2).size
      case aL9 => (simp; omega)
      intro v9 V9 ho hb hg hat
      have ho : Kd.R Kd.string 9 V9 w.heap.size (fun _ => True) v9 m.f2 := ho
      obtain ⟨B1, d1, hv9⟩ := Kd.R_slice ho
      subst hv9
      have GR9 : V5.grownBy V9 (some g1) := hg
      clear hg hat
      refine hK.out _ _ ?h25 (fun hHeld => ?j25)
      case h25 => exact ⟨(World.cell?_of_block (GR9.block _ (World.block_lt_of_cell? _ _ hHeld.1) (fun e => by have e := Option.some.inj e; (try dsimp only at e); omega))).trans hHeld.1, (World.cell?_of_block (GR9.block _ (World.block_lt_of_cell? _ _ hHeld.2.1) (fun e => by have e := Option.some.inj e; (try dsimp only at e); omega))).trans hHeld.2.1, (World.cell?_of_block (GR9.block _ (World.block_lt_of_cell? _ _ hHeld.2.2.1) (fun e => by have e := Option.some.inj e; (try dsimp only at e); omega))).trans hHeld.2.2.1, (World.cell?_of_block (GR9.block _ (World.block_lt_of_cell? _ _ hHeld.2.2.2.1) (fun e => by have e := Option.some.inj e; (try dsimp only at e); omega))).trans hHeld.2.2.2.1, hb⟩
      clear hK K
      try simp only [Act.put, List.setIfInBounds_toArray, List.set_cons_zero, List.set_cons_succ]
      have U1 := Aside0.mk ho
      have s9_ : w.heap.size + 1 < V9.heap.size := by have := GR9.size; omega
      replace F1 := Aside0.mk ((GR9.block _ (blk_lt F1.out) (fun e => by have e := Option.some.inj e; omega)).trans F1.out)
      replace U0 := Aside0.mk (Kd.R_over' U0.out (Kd.R_typed E1.out) (by decide) GR9)
      clear ho hb E1
      refine tk 10 ?v26 ?y26 ?r26
      case y26 => intro w_ hSw; (try dsimp only at hSw); go_simp; (try (with_reducible rfl))
      try simp only [Act.put, List.setIfInBounds_toArray, List.set_cons_zero, List.set_cons_succ]
      refine rdy (rs := [11]) ?_
      refine rc (fun K hK => ?k27) AllReadyH.nil
      case k27 =>
       have hb7 := F1.out
       have v0_ : V9.cell? ⟨w.heap.size + 1, 0, none⟩ = some (.string ⟨#[]⟩) := by simp [World.cell?, hb7]
       have v1_ : V9.cell? ⟨w.heap.size + 1, 1, none⟩ = some (.string ⟨#[]⟩) := by simp [World.cell?, hb7]
       have v2_ : V9.cell? ⟨w.heap.size + 1, 2, none⟩ = some (.slice none 0 0) := by simp [World.cell?, hb7]
       have v3_ : V9.cell? ⟨w.heap.size + 1, 3, none⟩ = some (.slice none 0 0) := by simp [World.cell?, hb7]
       have u0_ : V9.frozen? ⟨w.heap.size + 1, 0, none⟩ = false := by simp [World.frozen?, hb7]
       have u1_ : V9.frozen? ⟨w.heap.size + 1, 1, none⟩ = false := by simp [World.frozen?, hb7]
       have u2_ : V9.frozen? ⟨w.heap.size + 1, 2, none⟩ = false := by simp [World.frozen?, hb7]
       have u3_ : V9.frozen? ⟨w.heap.size + 1, 3, none⟩ = false := by simp [World.frozen?, hb7]
       go_simp
       generalize hV11 : World.setCell (World.setCell (World.setCell (World.setCell V9 ⟨w.heap.size + 1, 0, none⟩ _) ⟨w.heap.size + 1, 1, none⟩ _) ⟨w.heap.size + 1, 2, none⟩ _) ⟨w.heap.size + 1, 3, none⟩ _ = V11
       have G11 : V9.grownBy V11 (some (w.heap.size + 1)) := by rw [← hV11]; exact (((grown_set1 _ _ _ _).trans (grown_set1 _ _ _ _)).trans (grown_set1 _ _ _ _)).trans (grown_set1 _ _ _ _)
       have FF : V11.heap[w.heap.size + 1]? = some (.cells #[.string m.f0.f0, .string m.f0.f1, .slice B0 m.f1.length d0, .slice B1 m.f2.length d1] 29 (0, 0)) := by rw [← hV11, blk_set1 (blk_set1 (blk_set1 (blk_set1 (F1.out) 0 _) 1 _) 2 _) 3 _]; simp
       have BB : Below w.heap.size w V11 := by rw [← hV11]; exact (bel_set (bel_set (bel_set (bel_set hHeld.2.2.2.2 _ (by show w.heap.size ≤ w.heap.size + 1; omega)) _ (by show w.heap.size ≤ w.heap.size + 1; omega)) _ (by show w.heap.size ≤ w.heap.size + 1; omega)) _ (by show w.heap.size ≤ w.heap.size + 1; omega))
       clear hV11
       refine hK.out _ _ ?h28 (fun hHeld => ?j28)
       case h28 => exact ⟨(World.cell?_of_block (G11.block _ (World.block_lt_of_cell? _ _ hHeld.1) (fun e => by have e := Option.some.inj e; (try dsimp only at e); omega))).trans hHeld.1, (World.cell?_of_block (G11.block _ (World.block_lt_of_cell? _ _ hHeld.2.1) (fun e => by have e := Option.some.inj e; (try dsimp only at e); omega))).trans hHeld.2.1, (World.cell?_of_block (G11.block _ (World.block_lt_of_cell? _ _ hHeld.2.2.1) (fun e => by have e := Option.some.inj e; (try dsimp only at e); omega))).trans hHeld.2.2.1, (World.cell?_of_block (G11.block _ (World.block_lt_of_cell? _ _ hHeld.2.2.2.1) (fun e => by have e := Option.some.inj e; (try dsimp only at e); omega))).trans hHeld.2.2.2.1, BB⟩
       clear hK K
       try simp only [Act.put, List.setIfInBounds_toArray, List.set_cons_zero, List.set_cons_succ]
       replace U0 := Aside0.mk (R_else U0.out rfl G11 (Kd.R_ne U0.out F1.out (by decide)))
       replace U1 := Aside0.mk (R_else U1.out rfl G11 (Kd.R_ne U1.out F1.out (by decide)))
       replace F1 := Aside0.mk FF
       clear FF
       refine wpAnyH_done (by kernel_rfl) ?_ _
       exact HKK.out B0 d0 B1 d1 g0 g1 V11 ⟨hHeld.2.2.2.2, F1.out, U0.out, U1.out⟩
  case k9 =>
   go_simp
   refine hK.out _ _ ?h29 (fun hHeld => ?j29)
   case h29 => exact HK.out _ _ (bel_alloc (Below.refl _ _) _) hHeld
   clear hK K
   try simp only [Act.put, List.setIfInBounds_toArray, List.set_cons_zero, List.set_cons_succ]
   generalize hV6 : World.alloc V0 _ = V6 at hHeld ⊢
   have b6 : Below V0.heap.size V0 V6 := by rw [← hV6]; exact bel_alloc (Below.refl _ _) _
   have z6 : V0.heap.size < V6.heap.size := by rw [← hV6]; simp
   have lo6 : w.heap.size + 1 < V0.heap.size := by omega
   have E1 : Aside0 (Kd.R Kd.string 9 V6 w.heap.size (fun _ => True) (.slice (some ⟨V0.heap.size, 0, none⟩) 0 0) []) := ⟨by rw [← hV6]; exact R_empty Kd.string 9 V0 w.heap.size (by omega) trivial⟩
   obtain ⟨g1, hg6⟩ : ∃ g, g = V0.heap.size := ⟨_, rfl⟩
   have lg1 : w.heap.size + 1 < g1 := by omega
   rw [← hg6] at E1 ⊢
   have s6_ : w.heap.size + 1 < V6.heap.size := by omega
   clear hV6 hg6 z6
   replace F1 := Aside0.mk (below_blk F1.out b6)
   refine rdy (rs := [2]) ?_
   refine rc (fun K hK => ?k30) AllReadyH.nil
   case k30 =>
    go_simp
    refine hK.out _ _ ?h31 (fun hHeld => ?j31)
    case h31 => exact HK.out _ _ (bel_alloc (Below.refl _ _) _) hHeld
    clear hK K
    try simp only [Act.put, List.setIfInBounds_toArray, List.set_cons_zero, List.set_cons_succ]
    generalize hV2 : World.alloc V6 _ = V2 at hHeld ⊢
    have b2 : Below V6.heap.size V6 V2 := by rw [← hV2]; exact bel_alloc (Below.refl _ _) _
    have z2 : V6.heap.size < V2.heap.size := by rw [← hV2]; simp
    have lo2 : w.heap.size + 1 < V6.heap.size := by omega
    have E0 : Aside0 (Kd.R kAddr 25 V2 w.heap.size (fun _ => True) (.slice (some ⟨V6.heap.size, 0, none⟩) 0 0) []) := ⟨by rw [← hV2]; exact R_empty kAddr 25 V6 w.heap.size (by omega) trivial⟩
    obtain ⟨g0, hg2⟩ : ∃ g, g = V6.heap.size := ⟨_, rfl⟩
    have lg0 : w.heap.size + 1 < g0 := by omega
    rw [← hg2] at E0 ⊢
    have s2_ : w.heap.size + 1 < V2.heap.size := by omega
    clear hV2 hg2 z2
    replace F1 := Aside0.mk (below_blk F1.out b2)
    replace E1 := Aside0.mk (Kd.R_below E1.out b2)
    refine rdy (rs := [5]) ?_
    refine rc (fun K hK => ?k32) AllReadyH.nil
    case k32 =>
     refine Kd.R_append_rows_step kAddr (w0 := w) (w.heap.size) (by rfl) (.tmp 5) (.tmp 7) 26 25 (.agg #[(.string ⟨#[]⟩), (.string ⟨#[]⟩)]) 32 rfl Tryz.underlying26 info25 rfl (by decide) (by omega) (.slice (some ⟨g0, 0, none⟩) 0 0) [] m.f1 _ _ _ (fun _ => True) (fun _ => False) rfl rfl ?aO5 ?aR5 (fun _ _ h => h) (fun _ h => h.elim) (fun _ _ => trivial) ?aB5 ?aS5 ?aL5 ?_
     case aO5 => exact E0.out
     case aR5 => exact Kd.C_below hr0 hHeld.2.2.2.2
     case aB5 => exact hHeld.2.2.2.2
     case aS5 => exact (hHeld.2.2.2.2).size
     case aL5 => (simp; omega)
     intro v5 V5 ho hb hg hat
     have ho : Kd.R kAddr 25 V5 w.heap.size (fun _ => True) v5 m.f1 := ho
     obtain ⟨B0, d0, hv5⟩ := Kd.R_slice ho
     subst hv5
     have GR5 : V2.grownBy V5 (some g0) := hg
     clear hg hat
     refine hK.out _ _ ?h33 (fun hHeld => ?j33)
     case h33 => exact ⟨(World.cell?_of_block (GR5.block _ (World.block_lt_of_cell? _ _ hHeld.1) (fun e => by have e := Option.some.inj e; (try dsimp only at e); omega))).trans hHeld.1, (World.cell?_of_block (GR5.block _ (World.block_lt_of_cell? _ _ hHeld.2.1) (fun e => by have e := Option.some.inj e; (try dsimp only at e); omega))).trans hHeld.2.1, (World.cell?_of_block (GR5.block _ (World.block_lt_of_cell? _ _ hHeld.2.2.1) (fun e => by have e := Option.some.inj e; (try dsimp only at e); omega))).trans hHeld.2.2.1, (World.cell?_of_block (GR5.block _ (World.block_lt_of_cell? _ _ hHeld.2.2.2.1) (fun e => by have e := Option.some.inj e; (try dsimp only at e); omega))).trans hHeld.2.2.2.1, hb⟩
     clear hK K
     try simp only [Act.put, List.setIfInBounds_toArray, List.set_cons_zero, List.set_cons_succ]
     have U0 := Aside0.mk ho
     have s5_ : w.heap.size + 1 < V5.heap.size := by have := GR5.size; omega
     replace F1 := Aside0.mk ((GR5.block _ (blk_lt F1.out) (fun e => by have e := Option.some.inj e; omega)).trans F1.out)
     replace E1 := Aside0.mk (Kd.R_over' E1.out (Kd.R_typed E0.out) (by decide) GR5)
     clear ho hb E0
     refine rdy (rs := [9]) ?_
     refine rc (fun K hK => ?k34) AllReadyH.nil
     case k34 =>
      refine Kd.R_append_rows_step Kd.string (w0 := w) (w.heap.size) (by rfl) (.tmp 9) (.tmp 11) 27 9 (.string ⟨#[]⟩) 16 rfl Tryz.underlying27 info9 rfl (by decide) (by omega) (.slice (some ⟨g1, 0, none⟩) 0 0) [] m.f2 _ _ _ (fun _ => True) (fun _ => False) rfl rfl ?aO9 ?aR9 (fun _ _ h => h) (fun _ h => h.elim) (fun _ _ => trivial) ?aB9 ?aS9 ?aL9 ?_
      case aO9 => exact E1.out
      case aR9 => exact Kd.C_below hr1 hHeld.2.2.2.2
      case aB9 => exact hHeld.2.2.2.2
      case aS9 => exact (hHeld.2.2.2.2).size
      case aL9 => (simp; omega)
      intro v9 V9 ho hb hg hat
      have ho : Kd.R Kd.string 9 V9 w.heap.size (fun _ => True) v9 m.f2 := ho
      obtain ⟨B1, d1, hv9⟩ := Kd.R_slice ho
      subst hv9
      have GR9 : V5.grownBy V9 (some g1) := hg
      clear hg hat
      refine hK.out _ _ ?h35 (fun hHeld => ?j35)
      case h35 => exact ⟨(World.cell?_of_block (GR9.block _ (World.block_lt_of_cell? _ _ hHeld.1) (fun e => by have e := Option.some.inj e; (try dsimp only at e); omega))).trans hHeld.1, (World.cell?_of_block (GR9.block _ (World.block_lt_of_cell? _ _ hHeld.2.1) (fun e => by have e := Option.some.inj e; (try dsimp only at e); omega))).trans hHeld.2.1, (World.cell?_of_block (GR9.block _ (World.block_lt_of_cell? _ _ hHeld.2.2.1) (fun e => by have e := Option.some.inj e; (try dsimp only at e); omega))).trans hHeld.2.2.1, (World.cell?_of_block (GR9.block _ (World.block_lt_of_cell? _ _ hHeld.2.2.2.1) (fun e => by have e := Option.some.inj e; (try dsimp only at e); omega))).trans hHeld.2.2.2.1, hb⟩
      clear hK K
      try simp only [Act.put, List.setIfInBounds_toArray, List.set_cons_zero, List.set_cons_succ]
      have U1 := Aside0.mk ho
      have s9_ : w.heap.size + 1 < V9.heap.size := by have := GR9.size; omega
      replace F1 := Aside0.mk ((GR9.block _ (blk_lt F1.out) (fun e => by have e := Option.some.inj e; omega)).trans F1.out)
      replace U0 := Aside0.mk (Kd.R_over' U0.out (Kd.R_typed E1.out) (by decide) GR9)
      clear ho hb E1
      refine tk 10 ?v36 ?y36 ?r36
      case y36 => intro w_ hSw; (try dsimp only at hSw); go_simp; (try (with_reducible rfl))
      try simp only [Act.put, List.setIfInBounds_toArray, List.set_cons_zero, List.set_cons_succ]
      refine rdy (rs := [11]) ?_
      refine rc (fun K hK => ?k37) AllReadyH.nil
      case k37 =>
       have hb7 := F1.out
       have v0_ : V9.cell? ⟨w.heap.size + 1, 0, none⟩ = some (.string ⟨#[]⟩) := by simp [World.cell?, hb7]
       have v1_ : V9.cell? ⟨w.heap.size + 1, 1, none⟩ = some (.string ⟨#[]⟩) := by simp [World.cell?, hb7]
       have v2_ : V9.cell? ⟨w.heap.size + 1, 2, none⟩ = some (.slice none 0 0) := by simp [World.cell?, hb7]
       have v3_ : V9.cell? ⟨w.heap.size + 1, 3, none⟩ = some (.slice none 0 0) := by simp [World.cell?, hb7]
       have u0_ : V9.frozen? ⟨w.heap.size + 1, 0, none⟩ = false := by simp [World.frozen?, hb7]
       have u1_ : V9.frozen? ⟨w.heap.size + 1, 1, none⟩ = false := by simp [World.frozen?, hb7]
       have u2_ : V9.frozen? ⟨w.heap.size + 1, 2, none⟩ = false := by simp [World.frozen?, hb7]
       have u3_ : V9.frozen? ⟨w.heap.size + 1, 3, none⟩ = false := by simp [World.frozen?, hb7]
       go_simp
       generalize hV11 : World.setCell (World.setCell (World.setCell (World.setCell V9 ⟨w.heap.size + 1, 0, none⟩ _) ⟨w.heap.size + 1, 1, none⟩ _) ⟨w.heap.size + 1, 2, none⟩ _) ⟨w.heap.size + 1, 3, none⟩ _ = V11
       have G11 : V9.grownBy V11 (some (w.heap.size + 1)) := by rw [← hV11]; exact (((grown_set1 _ _ _ _).trans (grown_set1 _ _ _ _)).trans (grown_set1 _ _ _ _)).trans (grown_set1 _ _ _ _)
       have FF : V11.heap[w.heap.size + 1]? = some (.cells #[.string m.f0.f0, .string m.f0.f1, .slice B0 m.f1.length d0, .slice B1 m.f2.length d1] 29 (0, 0)) := by rw [← hV11, blk_set1 (blk_set1 (blk_set1 (blk_set1 (F1.out) 0 _) 1 _) 2 _) 3 _]; simp
       have BB : Below w.heap.size w V11 := by rw [← hV11]; exact (bel_set (bel_set (bel_set (bel_set hHeld.2.2.2.2 _ (by show w.heap.size ≤ w.heap.size + 1; omega)) _ (by show w.heap.size ≤ w.heap.size + 1; omega)) _ (by show w.heap.size ≤ w.heap.size + 1; omega)) _ (by show w.heap.size ≤ w.heap.size + 1; omega))
       clear hV11
       refine hK.out _ _ ?h38 (fun hHeld => ?j38)
       case h38 => exact ⟨(World.cell?_of_block (G11.block _ (World.block_lt_of_cell? _ _ hHeld.1) (fun e => by have e := Option.some.inj e; (try dsimp only at e); omega))).trans hHeld.1, (World.cell?_of_block (G11.block _ (World.block_lt_of_cell? _ _ hHeld.2.1) (fun e => by have e := Option.some.inj e; (try dsimp only at e); omega))).trans hHeld.2.1, (World.cell?_of_block (G11.block _ (World.block_lt_of_cell? _ _ hHeld.2.2.1) (fun e => by have e := Option.some.inj e; (try dsimp only at e); omega))).trans hHeld.2.2.1, (World.cell?_of_block (G11.block _ (World.block_lt_of_cell? _ _ hHeld.2.2.2.1) (fun e => by have e := Option.some.inj e; (try dsimp only at e); omega))).trans hHeld.2.2.2.1, BB⟩
       clear hK K
       try simp only [Act.put, List.setIfInBounds_toArray, List.set_cons_zero, List.set_cons_succ]
       replace U0 := Aside0.mk (R_else U0.out rfl G11 (Kd.R_ne U0.out F1.out (by decide)))
       replace U1 := Aside0.mk (R_else U1.out rfl G11 (Kd.R_ne U1.out F1.out (by decide)))
       replace F1 := Aside0.mk FF
       clear FF
       refine wpAnyH_done (by kernel_rfl) ?_ _
       exact HKK.out B0 d0 B1 d1 g0 g1 V11 ⟨hHeld.2.2.2.2, F1.out, U0.out, U1.out⟩
 case hk =>
  intro B0 d0 B1 d1 g0 g1 V ⟨BV, f1, u0, u1⟩
  clear HST HK HF1 join
  have U0 := Aside0.mk u0
  have U1 := Aside0.mk u1
  have F1 := Aside0.mk f1
  have BW := Aside0.mk BV
  clear u0 u1 f1 BV
  have m0_ : V.cell? ⟨w.heap.size + 1, 0, none⟩ = some (.string m.f0.f0) := by simp [World.cell?, F1.out]
  have m1_ : V.cell? ⟨w.heap.size + 1, 1, none⟩ = some (.string m.f0.f1) := by simp [World.cell?, F1.out]
  have m2_ : V.cell? ⟨w.heap.size + 1, 2, none⟩ = some (.slice B0 m.f1.length d0) := by simp [World.cell?, F1.out]
  have m3_ : V.cell? ⟨w.heap.size + 1, 3, none⟩ = some (.slice B1 m.f2.length d1) := by simp [World.cell?, F1.out]
  go_wp2
  refine bodyPost_ret (v := .agg #[.string m.f0.f0, .string m.f0.f1, .slice B0 m.f1.length d0, .slice B1 m.f2.length d1]) ?hr rfl ?hp
  case hr => simp [results, Tryz.results35, go_sem, m0_, m1_, m2_, m3_]
  case hp => exact ⟨B0, d0, B1, d1, rfl, U0.out, U1.out, BW.out⟩

end Go.Proofs.YticepbgacokbbaaGreatDoor
