/- Copies of items, of the reference: a contract. -/
import Derived.Test.YtiaibgkpohmihaaDoorReg
import Derived.Test.YtiaibgkpohmihaaDoorCopyM
import Derived.Test.YtiaibgkpohmihaaDoorDrw0
namespace Go.Proofs.YtiaibgkpohmihaaDoor
open Go.RowKit Go.Proofs.YtiaibgkpohmihaaDoorW.PrintWords
set_option linter.unusedVariables false
set_option linter.unusedSimpArgs false
theorem hp_set {W w : World} {p : Addr} {u : Value} {k : Nat} (h : W.heap[k]? = w.heap[k]?) (hk : k ≠ p.block) : (W.setCell p u).heap[k]? = w.heap[k]? := (Below.heap_setCell _ _ _ k hk).trans h
theorem hp_alloc {W w : World} {o : Obj} {k : Nat} (h : W.heap[k]? = w.heap[k]?) (hk : k < W.heap.size) : (W.alloc o).heap[k]? = w.heap[k]? := (Below.heap_alloc _ _ k hk).trans h
theorem hp_drew {W w : World} {k : Nat} (h : W.heap[k]? = w.heap[k]?) : W.drew.heap[k]? = w.heap[k]? := h
theorem R_oneAt {α : Type} (d : Kd α) (e : Nat) (W : World) (base : Nat) (x : α) (cs : List Value) {b : Nat} (he : b = W.heap.size) (hM : d.M (W.alloc (.cells cs.toArray e)) base (fun _ => False) x cs) (hb : base ≤ W.heap.size) :
  d.R e (W.alloc (.cells cs.toArray e)) base (fun _ => True) (.slice (some ⟨b, 0, none⟩) 1 1) [x] := by subst he; exact R_one d e W base x cs hM hb
theorem R_keepT {α : Type} {d : Kd α} {e base : Nat} {ok : Nat → Prop} {W w1 : World} {v : Value} {xs : List α} (h : d.R e W base ok v xs) (hE : d.E = []) (T : ∀ k, k < W.heap.size → some k = v.ownBlock → w1.heap[k]? = W.heap[k]?) : d.R e w1 base ok v xs :=
 Kd.R_mono (Kd.R_step (Kd.R_tight hE h) (fun k hk hlt => T k hlt hk)) (fun k hk => h.1 k hk.symm)
theorem S_other {α : Type} {d : Kd α} {e base g t : Nat} {ok : Nat → Prop} {W w1 : World} {v : Value} {xs : List α} {cells : Array Value} (h : Kd.S d e W base ok v xs) (hb : W.heap[g]? = some (.cells cells t (0, 0))) (ht : ∀ q, q ∈ e :: d.E → q ≠ t) (hg : W.grownBy w1 (some g)) : Kd.S d e w1 base ok v xs :=
 Kd.S_mono (Kd.S_grown (Kd.S_types h hb ht) hg (fun k hk e => hk.2 (Option.some.inj e))) (fun _ hk => hk.1)
theorem R_other {α : Type} {d : Kd α} {e base g t : Nat} {ok : Nat → Prop} {W w1 : World} {v : Value} {xs : List α} {cells : Array Value} (h : d.R e W base ok v xs) (hb : W.heap[g]? = some (.cells cells t (0, 0))) (ht : ∀ q, q ∈ e :: d.E → q ≠ t) (hg : W.grownBy w1 (some g)) : d.R e w1 base ok v xs :=
 Kd.R_mono (Kd.R_grown (Kd.R_types h hb ht) hg (fun k hk e => hk.2 (Option.some.inj e))) (fun _ hk => hk.1)

set_option maxRecDepth 100000 in
set_option maxHeartbeats 4000000 in
theorem specCopyItem_any (m : SItem) (A0 : Option Addr) (c0 : Nat) (A1 : Option Addr) (c1 : Nat) (w : World) (hw : fitItem m) (hr0 : Kd.C kRcpt w A0 m.f2.length m.f2) (hr1 : Kd.C Kd.string w A1 m.f3.length m.f3) :
  Calls Tryd.prog 84 #[.agg #[.int .i64 m.f0, .string m.f1.f0, .string m.f1.f1, .slice A0 m.f2.length c0, .slice A1 m.f3.length c1]] w fun e w' => ∃ B0 d0 B1 d1, e = .returned (.agg #[.int .i64 m.f0, .string m.f1.f0, .string m.f1.f1, .slice B0 m.f2.length d0, .slice B1 m.f3.length d1]) ∧ Kd.R kRcpt 55 w' w.heap.size (fun _ => True) (.slice B0 m.f2.length d0) m.f2 ∧ Kd.R Kd.string 9 w' w.heap.size (fun _ => True) (.slice B1 m.f3.length d1) m.f3 ∧ Below w.heap.size w w' := by
 have hl0 : m.f2.length ≤ 1048576 := hw.2.2.1.1
 have hl1 : m.f3.length ≤ 1048576 := hw.2.2.2.1
 clear hw
 go_enter Tryd.func84, Tryd.ntmps84
 go_wp2
 obtain ⟨W0, hW0⟩ : ∃ W, W = (w.alloc (.cells #[.int .i64 m.f0, .string m.f1.f0, .string m.f1.f1, .slice A0 m.f2.length c0, .slice A1 m.f3.length c1] 28)).alloc (.cells #[.int .i64 0, .string ⟨#[]⟩, .string ⟨#[]⟩, .slice none 0 0, .slice none 0 0] 28) := ⟨_, rfl⟩
 rw [← hW0]
 have f0 : W0.heap[w.heap.size]? = some (.cells #[.int .i64 m.f0, .string m.f1.f0, .string m.f1.f1, .slice A0 m.f2.length c0, .slice A1 m.f3.length c1] 28 (0, 0)) := by rw [hW0]; exact below_blk (blk_new _ _) (bel_alloc (Below.refl _ _) _)
 have HF1 : Aside0 (W0.heap[w.heap.size + 1]? = some (.cells #[.int .i64 0, .string ⟨#[]⟩, .string ⟨#[]⟩, .slice none 0 0, .slice none 0 0] 28 (0, 0))) := ⟨by rw [hW0, show w.heap.size + 1 = (w.alloc (.cells #[.int .i64 m.f0, .string m.f1.f0, .string m.f1.f1, .slice A0 m.f2.length c0, .slice A1 m.f3.length c1] 28)).heap.size by simp]; exact blk_new _ _⟩
 have B0 : Below w.heap.size w W0 := by rw [hW0]; exact bel_alloc (bel_alloc (Below.refl _ _) _) _
 clear hW0
 have join : Hid (∀ {goal : Prop} {G : Option Addr → Nat → Option Addr → Nat → Nat → Nat → World → Prop} (rg : Hid (∀ (B0 : Option Addr) (d0 : Nat) (B1 : Option Addr) (d1 : Nat) (g0 g1 : Nat) (V : World), Below w.heap.size w V ∧ V.heap[w.heap.size + 1]? = some (.cells #[.int .i64 m.f0, .string m.f1.f0, .string m.f1.f1, .slice B0 m.f2.length d0, .slice B1 m.f3.length d1] 28 (0, 0)) ∧ Kd.R kRcpt 55 V w.heap.size (fun _ => True) (.slice B0 m.f2.length d0) m.f2 ∧ Kd.R Kd.string 9 V w.heap.size (fun _ => True) (.slice B1 m.f3.length d1) m.f3 → G B0 d0 B1 d1 g0 g1 V) → goal) (hk : ∀ (B0 : Option Addr) (d0 : Nat) (B1 : Option Addr) (d1 : Nat) (g0 g1 : Nat) (V : World), Below w.heap.size w V ∧ V.heap[w.heap.size + 1]? = some (.cells #[.int .i64 m.f0, .string m.f1.f0, .string m.f1.f1, .slice B0 m.f2.length d0, .slice B1 m.f3.length d1] 28 (0, 0)) ∧ Kd.R kRcpt 55 V w.heap.size (fun _ => True) (.slice B0 m.f2.length d0) m.f2 ∧ Kd.R Kd.string 9 V w.heap.size (fun _ => True) (.slice B1 m.f3.length d1) m.f3 → G B0 d0 B1 d1 g0 g1 V), goal) := Lib.hid (fun f h => f (Lib.hid h))
 have HK : Aside0 (∀ W W1, Below W.heap.size W W1 → (W.cell? ⟨w.heap.size, 0, none⟩ = some (.int .i64 m.f0) ∧ W.cell? ⟨w.heap.size, 1, none⟩ = some (.string m.f1.f0) ∧ W.cell? ⟨w.heap.size, 2, none⟩ = some (.string m.f1.f1) ∧ W.cell? ⟨w.heap.size, 3, none⟩ = some (.slice A0 m.f2.length c0) ∧ W.cell? ⟨w.heap.size, 4, none⟩ = some (.slice A1 m.f3.length c1) ∧ Below w.heap.size w W) → (W1.cell? ⟨w.heap.size, 0, none⟩ = some (.int .i64 m.f0) ∧ W1.cell? ⟨w.heap.size, 1, none⟩ = some (.string m.f1.f0) ∧ W1.cell? ⟨w.heap.size, 2, none⟩ = some (.string m.f1.f1) ∧ W1.cell? ⟨w.heap.size, 3, none⟩ = some (.slice A0 m.f2.length c0) ∧ W1.cell? ⟨w.heap.size, 4, none⟩ = some (.slice A1 m.f3.length c1) ∧ Below w.heap.size w W1)) := ⟨fun W W1 hb h => ⟨(hb.cell (World.block_lt_of_cell? W _ (h.1))).trans (h.1), (hb.cell (World.block_lt_of_cell? W _ (h.2.1))).trans (h.2.1), (hb.cell (World.block_lt_of_cell? W _ (h.2.2.1))).trans (h.2.2.1), (hb.cell (World.block_lt_of_cell? W _ (h.2.2.2.1))).trans (h.2.2.2.1), (hb.cell (World.block_lt_of_cell? W _ (h.2.2.2.2.1))).trans (h.2.2.2.2.1), bel_then (h.2.2.2.2.2) hb⟩⟩
 have x0_ : W0.cell? ⟨w.heap.size, 0, none⟩ = some (.int .i64 m.f0) := by simp [World.cell?, f0]
 have x1_ : W0.cell? ⟨w.heap.size, 1, none⟩ = some (.string m.f1.f0) := by simp [World.cell?, f0]
 have x2_ : W0.cell? ⟨w.heap.size, 2, none⟩ = some (.string m.f1.f1) := by simp [World.cell?, f0]
 have x3_ : W0.cell? ⟨w.heap.size, 3, none⟩ = some (.slice A0 m.f2.length c0) := by simp [World.cell?, f0]
 have x4_ : W0.cell? ⟨w.heap.size, 4, none⟩ = some (.slice A1 m.f3.length c1) := by simp [World.cell?, f0]
 have HST : Aside0 ((fun W => W.cell? ⟨w.heap.size, 0, none⟩ = some (.int .i64 m.f0) ∧ W.cell? ⟨w.heap.size, 1, none⟩ = some (.string m.f1.f0) ∧ W.cell? ⟨w.heap.size, 2, none⟩ = some (.string m.f1.f1) ∧ W.cell? ⟨w.heap.size, 3, none⟩ = some (.slice A0 m.f2.length c0) ∧ W.cell? ⟨w.heap.size, 4, none⟩ = some (.slice A1 m.f3.length c1) ∧ Below w.heap.size w W) W0.drew) := ⟨⟨x0_, x1_, x2_, x3_, x4_, bel_then B0 (drew_below0 W0)⟩⟩
 clear f0 B0 x0_ x1_ x2_ x3_ x4_
 apply join.out
 case rg =>
  intro HKK
  refine wp_region_held_drew (S := (fun W => W.cell? ⟨w.heap.size, 0, none⟩ = some (.int .i64 m.f0) ∧ W.cell? ⟨w.heap.size, 1, none⟩ = some (.string m.f1.f0) ∧ W.cell? ⟨w.heap.size, 2, none⟩ = some (.string m.f1.f1) ∧ W.cell? ⟨w.heap.size, 3, none⟩ = some (.slice A0 m.f2.length c0) ∧ W.cell? ⟨w.heap.size, 4, none⟩ = some (.slice A1 m.f3.length c1) ∧ Below w.heap.size w W)) (by kernel_rfl) ?s196 (fun hHeld => ?t196)
  case s196 => exact HST.out
  generalize hV0 : World.drew _ = V0 at hHeld ⊢
  have F1 : Aside0 (V0.heap[w.heap.size + 1]? = some (.cells #[.int .i64 0, .string ⟨#[]⟩, .string ⟨#[]⟩, .slice none 0 0, .slice none 0 0] 28 (0, 0))) := ⟨by rw [← hV0]; exact HF1.out⟩
  have s0_ : w.heap.size + 1 < V0.heap.size := blk_lt F1.out
  clear hV0
  refine tk 0 ?v197 ?y197 ?r197
  case y197 => intro w_ hSw; (try dsimp only at hSw); go_simp; (try (with_reducible rfl))
  try simp only [Act.put, List.setIfInBounds_toArray, List.set_cons_zero, List.set_cons_succ]
  refine tk 1 ?v198 ?y198 ?r198
  case y198 => intro w_ hSw; (try dsimp only at hSw); go_simp; (try (with_reducible rfl))
  try simp only [Act.put, List.setIfInBounds_toArray, List.set_cons_zero, List.set_cons_succ]
  refine tk 2 ?v199 ?y199 ?r199
  case y199 => intro w_ hSw; (try dsimp only at hSw); go_simp; (try (with_reducible rfl))
  try simp only [Act.put, List.setIfInBounds_toArray, List.set_cons_zero, List.set_cons_succ]
  refine tk 3 ?v200 ?y200 ?r200
  case y200 => intro w_ hSw; (try dsimp only at hSw); go_simp; (try (with_reducible rfl))
  try simp only [Act.put, List.setIfInBounds_toArray, List.set_cons_zero, List.set_cons_succ]
  refine tk 5 ?v201 ?y201 ?r201
  case y201 => intro w_ hSw; (try dsimp only at hSw); go_simp; (try (with_reducible rfl))
  try simp only [Act.put, List.setIfInBounds_toArray, List.set_cons_zero, List.set_cons_succ]
  refine tk 6 ?v202 ?y202 ?r202
  case y202 => intro w_ hSw; (try dsimp only at hSw); go_simp; (try (with_reducible rfl))
  try simp only [Act.put, List.setIfInBounds_toArray, List.set_cons_zero, List.set_cons_succ]
  refine tk 9 ?v203 ?y203 ?r203
  case y203 => intro w_ hSw; (try dsimp only at hSw); go_simp; (try (with_reducible rfl))
  try simp only [Act.put, List.setIfInBounds_toArray, List.set_cons_zero, List.set_cons_succ]
  refine tk 10 ?v204 ?y204 ?r204
  case y204 => intro w_ hSw; (try dsimp only at hSw); go_simp; (try (with_reducible rfl))
  try simp only [Act.put, List.setIfInBounds_toArray, List.set_cons_zero, List.set_cons_succ]
  refine rdy (rs := [4, 8]) ?_
  refine rc (fun K hK => ?k205) (rc (fun K hK => ?k206) AllReadyH.nil)
  case k205 =>
   go_simp
   refine hK.out _ _ ?h207 (fun hHeld => ?j207)
   case h207 => exact HK.out _ _ (bel_alloc (Below.refl _ _) _) hHeld
   clear hK K
   try simp only [Act.put, List.setIfInBounds_toArray, List.set_cons_zero, List.set_cons_succ]
   generalize hV4 : World.alloc V0 _ = V4 at hHeld ⊢
   have b4 : Below V0.heap.size V0 V4 := by rw [← hV4]; exact bel_alloc (Below.refl _ _) _
   have z4 : V0.heap.size < V4.heap.size := by rw [← hV4]; simp
   have lo4 : w.heap.size + 1 < V0.heap.size := by omega
   have E0 : Aside0 (Kd.R kRcpt 55 V4 w.heap.size (fun _ => True) (.slice (some ⟨V0.heap.size, 0, none⟩) 0 0) []) := ⟨by rw [← hV4]; exact R_empty kRcpt 55 V0 w.heap.size (by omega) trivial⟩
   obtain ⟨g0, hg4⟩ : ∃ g, g = V0.heap.size := ⟨_, rfl⟩
   have lg0 : w.heap.size + 1 < g0 := by omega
   rw [← hg4] at E0 ⊢
   have s4_ : w.heap.size + 1 < V4.heap.size := by omega
   clear hV4 hg4 z4
   replace F1 := Aside0.mk (below_blk F1.out b4)
   refine rdy (rs := [7, 8]) ?_
   refine rc (fun K hK => ?k208) (rc (fun K hK => ?k209) AllReadyH.nil)
   case k208 =>
    refine Kd.R_append_rows_step kRcpt (w0 := w) (w.heap.size) (by rfl) (.tmp 7) (.tmp 9) 25 55 (.agg #[(.string ⟨#[]⟩), (.string ⟨#[]⟩), (.int .i64 0), (.int .i64 0)]) 48 rfl Tryd.underlying25 info55 rfl (by decide) (by omega) (.slice (some ⟨g0, 0, none⟩) 0 0) [] m.f2 _ _ _ (fun _ => True) (fun _ => False) rfl rfl ?aO7 ?aR7 (fun _ _ h => h) (fun _ h => h.elim) (fun _ _ => trivial) ?aB7 ?aS7 ?aL7 ?_
    case aO7 => exact E0.out
    case aR7 => exact Kd.C_below hr0 hHeld.2.2.2.2.2
    case aB7 => exact hHeld.2.2.2.2.2
    case aS7 => exact (hHeld.2.2.2.2.2).size
    case aL7 => (simp; omega)
    intro v7 V7 ho hb hg hat
    have ho : Kd.R kRcpt 55 V7 w.heap.size (fun _ => True) v7 m.f2 := ho
    obtain ⟨B0, d0, hv7⟩ := Kd.R_slice ho
    subst hv7
    have GR7 : V4.grownBy V7 (some g0) := hg
    clear hg hat
    refine hK.out _ _ ?h210 (fun hHeld => ?j210)
    case h210 => exact ⟨(World.cell?_of_block (GR7.block _ (World.block_lt_of_cell? _ _ hHeld.1) (fun e => by have e := Option.some.inj e; (try dsimp only at e); omega))).trans hHeld.1, (World.cell?_of_block (GR7.block _ (World.block_lt_of_cell? _ _ hHeld.2.1) (fun e => by have e := Option.some.inj e; (try dsimp only at e); omega))).trans hHeld.2.1, (World.cell?_of_block (GR7.block _ (World.block_lt_of_cell? _ _ hHeld.2.2.1) (fun e => by have e := Option.some.inj e; (try dsimp only at e); omega))).trans hHeld.2.2.1, (World.cell?_of_block (GR7.block _ (World.block_lt_of_cell? _ _ hHeld.2.2.2.1) (fun e => by have e := Option.some.inj e; (try dsimp only at e); omega))).trans hHeld.2.2.2.1, (World.cell?_of_block (GR7.block _ (World.block_lt_of_cell? _ _ hHeld.2.2.2.2.1) (fun e => by have e := Option.some.inj e; (try dsimp only at e); omega))).trans hHeld.2.2.2.2.1, hb⟩
    clear hK K
    try simp only [Act.put, List.setIfInBounds_toArray, List.set_cons_zero, List.set_cons_succ]
    have U0 := Aside0.mk ho
    have s7_ : w.heap.size + 1 < V7.heap.size := by have := GR7.size; omega
    replace F1 := Aside0.mk ((GR7.block _ (blk_lt F1.out) (fun e => by have e := Option.some.inj e; omega)).trans F1.out)
    clear ho hb E0
    refine rdy (rs := [8]) ?_
    refine rc (fun K hK => ?k211) AllReadyH.nil
    case k211 =>
     go_simp
     refine hK.out _ _ ?h212 (fun hHeld => ?j212)
     case h212 => exact HK.out _ _ (bel_alloc (Below.refl _ _) _) hHeld
     clear hK K
     try simp only [Act.put, List.setIfInBounds_toArray, List.set_cons_zero, List.set_cons_succ]
     generalize hV8 : World.alloc V7 _ = V8 at hHeld ⊢
     have b8 : Below V7.heap.size V7 V8 := by rw [← hV8]; exact bel_alloc (Below.refl _ _) _
     have z8 : V7.heap.size < V8.heap.size := by rw [← hV8]; simp
     have lo8 : w.heap.size + 1 < V7.heap.size := by omega
     have E1 : Aside0 (Kd.R Kd.string 9 V8 w.heap.size (fun _ => True) (.slice (some ⟨V7.heap.size, 0, none⟩) 0 0) []) := ⟨by rw [← hV8]; exact R_empty Kd.string 9 V7 w.heap.size (by omega) trivial⟩
     obtain ⟨g1, hg8⟩ : ∃ g, g = V7.heap.size := ⟨_, rfl⟩
     have lg1 : w.heap.size + 1 < g1 := by omega
     rw [← hg8] at E1 ⊢
     have s8_ : w.heap.size + 1 < V8.heap.size := by omega
     clear hV8 hg8 z8
     replace F1 := Aside0.mk (below_blk F1.out b8)
     replace U0 := Aside0.mk (Kd.R_below U0.out b8)
     refine rdy (rs := [11]) ?_
     refine rc (fun K hK => ?k213) AllReadyH.nil
     case k213 =>
      refine Kd.R_append_rows_step Kd.string (w0 := w) (w.heap.size) (by rfl) (.tmp 11) (.tmp 13) 26 9 (.string ⟨#[]⟩) 16 rfl Tryd.underlying26 info9 rfl (by decide) (by omega) (.slice (some ⟨g1, 0, none⟩) 0 0) [] m.f3 _ _ _ (fun _ => True) (fun _ => False) rfl rfl ?aO11 ?aR11 (fun _ _ h => h) (fun _ h => h.elim) (fun _ _ => trivial) ?aB11 ?aS11 ?aL11 ?_
      case aO11 => exact E1.out
      case aR11 => exact Kd.C_below hr1 hHeld.2.2.2.2.2
      case aB11 => exact hHeld.2.2.2.2.2
      case aS11 => exact (hHeld.2.2.2.2.2).size
      case aL11 => (simp; omega)
      intro v11 V11 ho hb hg hat
      have ho : Kd.R Kd.string 9 V11 w.heap.size (fun _ => True) v11 m.f3 := ho
      obtain ⟨B1, d1, hv11⟩ := Kd.R_slice ho
      subst hv11
      have GR11 : V8.grownBy V11 (some g1) := hg
      clear hg hat
      refine hK.out _ _ ?h214 (fun hHeld => ?j214)
      case h214 => exact ⟨(World.cell?_of_block (GR11.block _ (World.block_lt_of_cell? _ _ hHeld.1) (fun e => by have e := Option.some.inj e; (try dsimp only at e); omega))).trans hHeld.1, (World.cell?_of_block (GR11.block _ (World.block_lt_of_cell? _ _ hHeld.2.1) (fun e => by have e := Option.some.inj e; (try dsimp only at e); omega))).trans hHeld.2.1, (World.cell?_of_block (GR11.block _ (World.block_lt_of_cell? _ _ hHeld.2.2.1) (fun e => by have e := Option.some.inj e; (try dsimp only at e); omega))).trans hHeld.2.2.1, (World.cell?_of_block (GR11.block _ (World.block_lt_of_cell? _ _ hHeld.2.2.2.1) (fun e => by have e := Option.some.inj e; (try dsimp only at e); omega))).trans hHeld.2.2.2.1, (World.cell?_of_block (GR11.block _ (World.block_lt_of_cell? _ _ hHeld.2.2.2.2.1) (fun e => by have e := Option.some.inj e; (try dsimp only at e); omega))).trans hHeld.2.2.2.2.1, hb⟩
      clear hK K
      try simp only [Act.put, List.setIfInBounds_toArray, List.set_cons_zero, List.set_cons_succ]
      have U1 := Aside0.mk ho
      have s11_ : w.heap.size + 1 < V11.heap.size := by have := GR11.size; omega
      replace F1 := Aside0.mk ((GR11.block _ (blk_lt F1.out) (fun e => by have e := Option.some.inj e; omega)).trans F1.out)
      replace U0 := Aside0.mk (Kd.R_over' U0.out (Kd.R_typed E1.out) (by decide) GR11)
      clear ho hb E1
      refine tk 12 ?v215 ?y215 ?r215
      case y215 => intro w_ hSw; (try dsimp only at hSw); go_simp; (try (with_reducible rfl))
      try simp only [Act.put, List.setIfInBounds_toArray, List.set_cons_zero, List.set_cons_succ]
      refine rdy (rs := [13]) ?_
      refine rc (fun K hK => ?k216) AllReadyH.nil
      case k216 =>
       have hb7 := F1.out
       have v0_ : V11.cell? ⟨w.heap.size + 1, 0, none⟩ = some (.int .i64 0) := by simp [World.cell?, hb7]
       have v1_ : V11.cell? ⟨w.heap.size + 1, 1, none⟩ = some (.string ⟨#[]⟩) := by simp [World.cell?, hb7]
       have v2_ : V11.cell? ⟨w.heap.size + 1, 2, none⟩ = some (.string ⟨#[]⟩) := by simp [World.cell?, hb7]
       have v3_ : V11.cell? ⟨w.heap.size + 1, 3, none⟩ = some (.slice none 0 0) := by simp [World.cell?, hb7]
       have v4_ : V11.cell? ⟨w.heap.size + 1, 4, none⟩ = some (.slice none 0 0) := by simp [World.cell?, hb7]
       have u0_ : V11.frozen? ⟨w.heap.size + 1, 0, none⟩ = false := by simp [World.frozen?, hb7]
       have u1_ : V11.frozen? ⟨w.heap.size + 1, 1, none⟩ = false := by simp [World.frozen?, hb7]
       have u2_ : V11.frozen? ⟨w.heap.size + 1, 2, none⟩ = false := by simp [World.frozen?, hb7]
       have u3_ : V11.frozen? ⟨w.heap.size + 1, 3, none⟩ = false := by simp [World.frozen?, hb7]
       have u4_ : V11.frozen? ⟨w.heap.size + 1, 4, none⟩ = false := by simp [World.frozen?, hb7]
       go_simp
       generalize hV13 : World.setCell (World.setCell (World.setCell (World.setCell (World.setCell V11 ⟨w.heap.size + 1, 0, none⟩ _) ⟨w.heap.size + 1, 1, none⟩ _) ⟨w.heap.size + 1, 2, none⟩ _) ⟨w.heap.size + 1, 3, none⟩ _) ⟨w.heap.size + 1, 4, none⟩ _ = V13
       have G13 : V11.grownBy V13 (some (w.heap.size + 1)) := by rw [← hV13]; exact ((((grown_set1 _ _ _ _).trans (grown_set1 _ _ _ _)).trans (grown_set1 _ _ _ _)).trans (grown_set1 _ _ _ _)).trans (grown_set1 _ _ _ _)
       have FF : V13.heap[w.heap.size + 1]? = some (.cells #[.int .i64 m.f0, .string m.f1.f0, .string m.f1.f1, .slice B0 m.f2.length d0, .slice B1 m.f3.length d1] 28 (0, 0)) := by rw [← hV13, blk_set1 (blk_set1 (blk_set1 (blk_set1 (blk_set1 (F1.out) 0 _) 1 _) 2 _) 3 _) 4 _]; simp
       have BB : Below w.heap.size w V13 := by rw [← hV13]; exact (bel_set (bel_set (bel_set (bel_set (bel_set hHeld.2.2.2.2.2 _ (by show w.heap.size ≤ w.heap.size + 1; omega)) _ (by show w.heap.size ≤ w.heap.size + 1; omega)) _ (by show w.heap.size ≤ w.heap.size + 1; omega)) _ (by show w.heap.size ≤ w.heap.size + 1; omega)) _ (by show w.heap.size ≤ w.heap.size + 1; omega))
       clear hV13
       refine hK.out _ _ ?h217 (fun hHeld => ?j217)
       case h217 => exact ⟨(World.cell?_of_block (G13.block _ (World.block_lt_of_cell? _ _ hHeld.1) (fun e => by have e := Option.some.inj e; (try dsimp only at e); omega))).trans hHeld.1, (World.cell?_of_block (G13.block _ (World.block_lt_of_cell? _ _ hHeld.2.1) (fun e => by have e := Option.some.inj e; (try dsimp only at e); omega))).trans hHeld.2.1, (World.cell?_of_block (G13.block _ (World.block_lt_of_cell? _ _ hHeld.2.2.1) (fun e => by have e := Option.some.inj e; (try dsimp only at e); omega))).trans hHeld.2.2.1, (World.cell?_of_block (G13.block _ (World.block_lt_of_cell? _ _ hHeld.2.2.2.1) (fun e => by have e := Option.some.inj e; (try dsimp only at e); omega))).trans hHeld.2.2.2.1, (World.cell?_of_block (G13.block _ (World.block_lt_of_cell? _ _ hHeld.2.2.2.2.1) (fun e => by have e := Option.some.inj e; (try dsimp only at e); omega))).trans hHeld.2.2.2.2.1, BB⟩
       clear hK K
       try simp only [Act.put, List.setIfInBounds_toArray, List.set_cons_zero, List.set_cons_succ]
       replace U0 := Aside0.mk (R_else U0.out rfl G13 (Kd.R_ne U0.out F1.out (by decide)))
       replace U1 := Aside0.mk (R_else U1.out rfl G13 (Kd.R_ne U1.out F1.out (by decide)))
       replace F1 := Aside0.mk FF
       clear FF
       refine wpAnyH_done (by kernel_rfl) ?_ _
       exact HKK.out B0 d0 B1 d1 g0 g1 V13 ⟨hHeld.2.2.2.2.2, F1.out, U0.out, U1.out⟩
   case k209 =>
    go_simp
    refine hK.out _ _ ?h218 (fun hHeld => ?j218)
    case h218 => exact HK.out _ _ (bel_alloc (Below.refl _ _) _) hHeld
    clear hK K
    try simp only [Act.put, List.setIfInBounds_toArray, List.set_cons_zero, List.set_cons_succ]
    generalize hV8 : World.alloc V4 _ = V8 at hHeld ⊢
    have b8 : Below V4.heap.size V4 V8 := by rw [← hV8]; exact bel_alloc (Below.refl _ _) _
    have z8 : V4.heap.size < V8.heap.size := by rw [← hV8]; simp
    have lo8 : w.heap.size + 1 < V4.heap.size := by omega
    have E1 : Aside0 (Kd.R Kd.string 9 V8 w.heap.size (fun _ => True) (.slice (some ⟨V4.heap.size, 0, none⟩) 0 0) []) := ⟨by rw [← hV8]; exact R_empty Kd.string 9 V4 w.heap.size (by omega) trivial⟩
    obtain ⟨g1, hg8⟩ : ∃ g, g = V4.heap.size := ⟨_, rfl⟩
    have lg1 : w.heap.size + 1 < g1 := by omega
    rw [← hg8] at E1 ⊢
    have s8_ : w.heap.size + 1 < V8.heap.size := by omega
    clear hV8 hg8 z8
    replace F1 := Aside0.mk (below_blk F1.out b8)
    replace E0 := Aside0.mk (Kd.R_below E0.out b8)
    refine rdy (rs := [7]) ?_
    refine rc (fun K hK => ?k219) AllReadyH.nil
    case k219 =>
     refine Kd.R_append_rows_step kRcpt (w0 := w) (w.heap.size) (by rfl) (.tmp 7) (.tmp 9) 25 55 (.agg #[(.string ⟨#[]⟩), (.string ⟨#[]⟩), (.int .i64 0), (.int .i64 0)]) 48 rfl Tryd.underlying25 info55 rfl (by decide) (by omega) (.slice (some ⟨g0, 0, none⟩) 0 0) [] m.f2 _ _ _ (fun _ => True) (fun _ => False) rfl rfl ?aO7 ?aR7 (fun _ _ h => h) (fun _ h => h.elim) (fun _ _ => trivial) ?aB7 ?aS7 ?aL7 ?_
     case aO7 => exact E0.out
     case aR7 => exact Kd.C_below hr0 hHeld.2.2.2.2.2
     case aB7 => exact hHeld.2.2.2.2.2
     case aS7 => exact (hHeld.2.2.2.2.2).size
     case aL7 => (simp; omega)
     intro v7 V7 ho hb hg hat
     have ho : Kd.R kRcpt 55 V7 w.heap.size (fun _ => True) v7 m.f2 := ho
     obtain ⟨B0, d0, hv7⟩ := Kd.R_slice ho
     subst hv7
     have GR7 : V8.grownBy V7 (some g0) := hg
     clear hg hat
     refine hK.out _ _ ?h220 (fun hHeld => ?j220)
     case h220 => exact ⟨(World.cell?_of_block (GR7.block _ (World.block_lt_of_cell? _ _ hHeld.1) (fun e => by have e := Option.some.inj e; (try dsimp only at e); omega))).trans hHeld.1, (World.cell?_of_block (GR7.block _ (World.block_lt_of_cell? _ _ hHeld.2.1) (fun e => by have e := Option.some.inj e; (try dsimp only at e); omega))).trans hHeld.2.1, (World.cell?_of_block (GR7.block _ (World.block_lt_of_cell? _ _ hHeld.2.2.1) (fun e => by have e := Option.some.inj e; (try dsimp only at e); omega))).trans hHeld.2.2.1, (World.cell?_of_block (GR7.block _ (World.block_lt_of_cell? _ _ hHeld.2.2.2.1) (fun e => by have e := Option.some.inj e; (try dsimp only at e); omega))).trans hHeld.2.2.2.1, (World.cell?_of_block (GR7.block _ (World.block_lt_of_cell? _ _ hHeld.2.2.2.2.1) (fun e => by have e := Option.some.inj e; (try dsimp only at e); omega))).trans hHeld.2.2.2.2.1, hb⟩
     clear hK K
     try simp only [Act.put, List.setIfInBounds_toArray, List.set_cons_zero, List.set_cons_succ]
     have U0 := Aside0.mk ho
     have s7_ : w.heap.size + 1 < V7.heap.size := by have := GR7.size; omega
     replace F1 := Aside0.mk ((GR7.block _ (blk_lt F1.out) (fun e => by have e := Option.some.inj e; omega)).trans F1.out)
     replace E1 := Aside0.mk (Kd.R_over' E1.out (Kd.R_typed E0.out) (by decide) GR7)
     clear ho hb E0
     refine rdy (rs := [11]) ?_
     refine rc (fun K hK => ?k221) AllReadyH.nil
     case k221 =>
      refine Kd.R_append_rows_step Kd.string (w0 := w) (w.heap.size) (by rfl) (.tmp 11) (.tmp 13) 26 9 (.string ⟨#[]⟩) 16 rfl Tryd.underlying26 info9 rfl (by decide) (by omega) (.slice (some ⟨g1, 0, none⟩) 0 0) [] m.f3 _ _ _ (fun _ => True) (fun _ => False) rfl rfl ?aO11 ?aR11 (fun _ _ h => h) (fun _ h => h.elim) (fun _ _ => trivial) ?aB11 ?aS11 ?aL11 ?_
      case aO11 => exact E1.out
      case aR11 => exact Kd.C_below hr1 hHeld.2.2.2.2.2
      case aB11 => exact hHeld.2.2.2.2.2
      case aS11 => exact (hHeld.2.2.2.2.2).size
      case aL11 => (simp; omega)
      intro v11 V11 ho hb hg hat
      have ho : Kd.R Kd.string 9 V11 w.heap.size (fun _ => True) v11 m.f3 := ho
      obtain ⟨B1, d1, hv11⟩ := Kd.R_slice ho
      subst hv11
      have GR11 : V7.grownBy V11 (some g1) := hg
      clear hg hat
      refine hK.out _ _ ?h222 (fun hHeld => ?j222)
      case h222 => exact ⟨(World.cell?_of_block (GR11.block _ (World.block_lt_of_cell? _ _ hHeld.1) (fun e => by have e := Option.some.inj e; (try dsimp only at e); omega))).trans hHeld.1, (World.cell?_of_block (GR11.block _ (World.block_lt_of_cell? _ _ hHeld.2.1) (fun e => by have e := Option.some.inj e; (try dsimp only at e); omega))).trans hHeld.2.1, (World.cell?_of_block (GR11.block _ (World.block_lt_of_cell? _ _ hHeld.2.2.1) (fun e => by have e := Option.some.inj e; (try dsimp only at e); omega))).trans hHeld.2.2.1, (World.cell?_of_block (GR11.block _ (World.block_lt_of_cell? _ _ hHeld.2.2.2.1) (fun e => by have e := Option.some.inj e; (try dsimp only at e); omega))).trans hHeld.2.2.2.1, (World.cell?_of_block (GR11.block _ (World.block_lt_of_cell? _ _ hHeld.2.2.2.2.1) (fun e => by have e := Option.some.inj e; (try dsimp only at e); omega))).trans hHeld.2.2.2.2.1, hb⟩
      clear hK K
      try simp only [Act.put, List.setIfInBounds_toArray, List.set_cons_zero, List.set_cons_succ]
      have U1 := Aside0.mk ho
      have s11_ : w.heap.size + 1 < V11.heap.size := by have := GR11.size; omega
      replace F1 := Aside0.mk ((GR11.block _ (blk_lt F1.out) (fun e => by have e := Option.some.inj e; omega)).trans F1.out)
      replace U0 := Aside0.mk (Kd.R_over' U0.out (Kd.R_typed E1.out) (by decide) GR11)
      clear ho hb E1
      refine tk 12 ?v223 ?y223 ?r223
      case y223 => intro w_ hSw; (try dsimp only at hSw); go_simp; (try (with_reducible rfl))
      try simp only [Act.put, List.setIfInBounds_toArray, List.set_cons_zero, List.set_cons_succ]
      refine rdy (rs := [13]) ?_
      refine rc (fun K hK => ?k224) AllReadyH.nil
      case k224 =>
       have hb7 := F1.out
       have v0_ : V11.cell? ⟨w.heap.size + 1, 0, none⟩ = some (.int .i64 0) := by simp [World.cell?, hb7]
       have v1_ : V11.cell? ⟨w.heap.size + 1, 1, none⟩ = some (.string ⟨#[]⟩) := by simp [World.cell?, hb7]
       have v2_ : V11.cell? ⟨w.heap.size + 1, 2, none⟩ = some (.string ⟨#[]⟩) := by simp [World.cell?, hb7]
       have v3_ : V11.cell? ⟨w.heap.size + 1, 3, none⟩ = some (.slice none 0 0) := by simp [World.cell?, hb7]
       have v4_ : V11.cell? ⟨w.heap.size + 1, 4, none⟩ = some (.slice none 0 0) := by simp [World.cell?, hb7]
       have u0_ : V11.frozen? ⟨w.heap.size + 1, 0, none⟩ = false := by simp [World.frozen?, hb7]
       have u1_ : V11.frozen? ⟨w.heap.size + 1, 1, none⟩ = false := by simp [World.frozen?, hb7]
       have u2_ : V11.frozen? ⟨w.heap.size + 1, 2, none⟩ = false := by simp [World.frozen?, hb7]
       have u3_ : V11.frozen? ⟨w.heap.size + 1, 3, none⟩ = false := by simp [World.frozen?, hb7]
       have u4_ : V11.frozen? ⟨w.heap.size + 1, 4, none⟩ = false := by simp [World.frozen?, hb7]
       go_simp
       generalize hV13 : World.setCell (World.setCell (World.setCell (World.setCell (World.setCell V11 ⟨w.heap.size + 1, 0, none⟩ _) ⟨w.heap.size + 1, 1, none⟩ _) ⟨w.heap.size + 1, 2, none⟩ _) ⟨w.heap.size + 1, 3, none⟩ _) ⟨w.heap.size + 1, 4, none⟩ _ = V13
       have G13 : V11.grownBy V13 (some (w.heap.size + 1)) := by rw [← hV13]; exact ((((grown_set1 _ _ _ _).trans (grown_set1 _ _ _ _)).trans (grown_set1 _ _ _ _)).trans (grown_set1 _ _ _ _)).trans (grown_set1 _ _ _ _)
       have FF : V13.heap[w.heap.size + 1]? = some (.cells #[.int .i64 m.f0, .string m.f1.f0, .string m.f1.f1, .slice B0 m.f2.length d0, .slice B1 m.f3.length d1] 28 (0, 0)) := by rw [← hV13, blk_set1 (blk_set1 (blk_set1 (blk_set1 (blk_set1 (F1.out) 0 _) 1 _) 2 _) 3 _) 4 _]; simp
       have BB : Below w.heap.size w V13 := by rw [← hV13]; exact (bel_set (bel_set (bel_set (bel_set (bel_set hHeld.2.2.2.2.2 _ (by show w.heap.size ≤ w.heap.size + 1; omega)) _ (by show w.heap.size ≤ w.heap.size + 1; omega)) _ (by show w.heap.size ≤ w.heap.size + 1; omega)) _ (by show w.heap.size ≤ w.heap.size + 1; omega)) _ (by show w.heap.size ≤ w.heap.size + 1; omega))
       clear hV13
       refine hK.out _ _ ?h225 (fun hHeld => ?j225)
       case h225 => exact ⟨(World.cell?_of_block (G13.block _ (World.block_lt_of_cell? _ _ hHeld.1) (fun e => by have e := Option.some.inj e; (try dsimp only at e); omega))).trans hHeld.1, (World.cell?_of_block (G13.block _ (World.block_lt_of_cell? _ _ hHeld.2.1) (fun e => by have e := Option.some.inj e; (try dsimp only at e); omega))).trans hHeld.2.1, (World.cell?_of_block (G13.block _ (World.block_lt_of_cell? _ _ hHeld.2.2.1) (fun e => by have e := Option.some.inj e; (try dsimp only at e); omega))).trans hHeld.2.2.1, (World.cell?_of_block (G13.block _ (World.block_lt_of_cell? _ _ hHeld.2.2.2.1) (fun e => by have e := Option.some.inj e; (try dsimp only at e); omega))).trans hHeld.2.2.2.1, (World.cell?_of_block (G13.block _ (World.block_lt_of_cell? _ _ hHeld.2.2.2.2.1) (fun e => by have e := Option.some.inj e; (try dsimp only at e); omega))).trans hHeld.2.2.2.2.1, BB⟩
       clear hK K
       try simp only [Act.put, List.setIfInBounds_toArray, List.set_cons_zero, List.set_cons_succ]
       replace U0 := Aside0.mk (R_else U0.out rfl G13 (Kd.R_ne U0.out F1.out (by decide)))
       replace U1 := Aside0.mk (R_else U1.out rfl G13 (Kd.R_ne U1.out F1.out (by decide)))
       replace F1 := Aside0.mk FF
       clear FF
       refine wpAnyH_done (by kernel_rfl) ?_ _
       exact HKK.out B0 d0 B1 d1 g0 g1 V13 ⟨hHeld.2.2.2.2.2, F1.out, U0.out, U1.out⟩
  case k206 =>
   go_simp
   refine hK.out _ _ ?h226 (fun hHeld => ?j226)
   case h226 => exact HK.out _ _ (bel_alloc (Below.refl _ _) _) hHeld
   clear hK K
   try simp only [Act.put, List.setIfInBounds_toArray, List.set_cons_zero, List.set_cons_succ]
   generalize hV8 : World.alloc V0 _ = V8 at hHeld ⊢
   have b8 : Below V0.heap.size V0 V8 := by rw [← hV8]; exact bel_alloc (Below.refl _ _) _
   have z8 : V0.heap.size < V8.heap.size := by rw [← hV8]; simp
   have lo8 : w.heap.size + 1 < V0.heap.size := by omega
   have E1 : Aside0 (Kd.R Kd.string 9 V8 w.heap.size (fun _ => True) (.slice (some ⟨V0.heap.size, 0, none⟩) 0 0) []) := ⟨by rw [← hV8]; exact R_empty Kd.string 9 V0 w.heap.size (by omega) trivial⟩
   obtain ⟨g1, hg8⟩ : ∃ g, g = V0.heap.size := ⟨_, rfl⟩
   have lg1 : w.heap.size + 1 < g1 := by omega
   rw [← hg8] at E1 ⊢
   have s8_ : w.heap.size + 1 < V8.heap.size := by omega
   clear hV8 hg8 z8
   replace F1 := Aside0.mk (below_blk F1.out b8)
   refine rdy (rs := [4]) ?_
   refine rc (fun K hK => ?k227) AllReadyH.nil
   case k227 =>
    go_simp
    refine hK.out _ _ ?h228 (fun hHeld => ?j228)
    case h228 => exact HK.out _ _ (bel_alloc (Below.refl _ _) _) hHeld
    clear hK K
    try simp only [Act.put, List.setIfInBounds_toArray, List.set_cons_zero, List.set_cons_succ]
    generalize hV4 : World.alloc V8 _ = V4 at hHeld ⊢
    have b4 : Below V8.heap.size V8 V4 := by rw [← hV4]; exact bel_alloc (Below.refl _ _) _
    have z4 : V8.heap.size < V4.heap.size := by rw [← hV4]; simp
    have lo4 : w.heap.size + 1 < V8.heap.size := by omega
    have E0 : Aside0 (Kd.R kRcpt 55 V4 w.heap.size (fun _ => True) (.slice (some ⟨V8.heap.size, 0, none⟩) 0 0) []) := ⟨by rw [← hV4]; exact R_empty kRcpt 55 V8 w.heap.size (by omega) trivial⟩
    obtain ⟨g0, hg4⟩ : ∃ g, g = V8.heap.size := ⟨_, rfl⟩
    have lg0 : w.heap.size + 1 < g0 := by omega
    rw [← hg4] at E0 ⊢
    have s4_ : w.heap.size + 1 < V4.heap.size := by omega
    clear hV4 hg4 z4
    replace F1 := Aside0.mk (below_blk F1.out b4)
    replace E1 := Aside0.mk (Kd.R_below E1.out b4)
    refine rdy (rs := [7]) ?_
    refine rc (fun K hK => ?k229) AllReadyH.nil
    case k229 =>
     refine Kd.R_append_rows_step kRcpt (w0 := w) (w.heap.size) (by rfl) (.tmp 7) (.tmp 9) 25 55 (.agg #[(.string ⟨#[]⟩), (.string ⟨#[]⟩), (.int .i64 0), (.int .i64 0)]) 48 rfl Tryd.underlying25 info55 rfl (by decide) (by omega) (.slice (some ⟨g0, 0, none⟩) 0 0) [] m.f2 _ _ _ (fun _ => True) (fun _ => False) rfl rfl ?aO7 ?aR7 (fun _ _ h => h) (fun _ h => h.elim) (fun _ _ => trivial) ?aB7 ?aS7 ?aL7 ?_
     case aO7 => exact E0.out
     case aR7 => exact Kd.C_below hr0 hHeld.2.2.2.2.2
     case aB7 => exact hHeld.2.2.2.2.2
     case aS7 => exact (hHeld.2.2.2.2.2).size
     case aL7 => (simp; omega)
     intro v7 V7 ho hb hg hat
     have ho : Kd.R kRcpt 55 V7 w.heap.size (fun _ => True) v7 m.f2 := ho
     obtain ⟨B0, d0, hv7⟩ := Kd.R_slice ho
     subst hv7
     have GR7 : V4.grownBy V7 (some g0) := hg
     clear hg hat
     refine hK.out _ _ ?h230 (fun hHeld => ?j230)
     case h230 => exact ⟨(World.cell?_of_block (GR7.block _ (World.block_lt_of_cell? _ _ hHeld.1) (fun e => by have e := Option.some.inj e; (try dsimp only at e); omega))).trans hHeld.1, (World.cell?_of_block (GR7.block _ (World.block_lt_of_cell? _ _ hHeld.2.1) (fun e => by have e := Option.some.inj e; (try dsimp only at e); omega))).trans hHeld.2.1, (World.cell?_of_block (GR7.block _ (World.block_lt_of_cell? _ _ hHeld.2.2.1) (fun e => by have e := Option.some.inj e; (try dsimp only at e); omega))).trans hHeld.2.2.1, (World.cell?_of_block (GR7.block _ (World.block_lt_of_cell? _ _ hHeld.2.2.2.1) (fun e => by have e := Option.some.inj e; (try dsimp only at e); omega))).trans hHeld.2.2.2.1, (World.cell?_of_block (GR7.block _ (World.block_lt_of_cell? _ _ hHeld.2.2.2.2.1) (fun e => by have e := Option.some.inj e; (try dsimp only at e); omega))).trans hHeld.2.2.2.2.1, hb⟩
     clear hK K
     try simp only [Act.put, List.setIfInBounds_toArray, List.set_cons_zero, List.set_cons_succ]
     have U0 := Aside0.mk ho
     have s7_ : w.heap.size + 1 < V7.heap.size := by have := GR7.size; omega
     replace F1 := Aside0.mk ((GR7.block _ (blk_lt F1.out) (fun e => by have e := Option.some.inj e; omega)).trans F1.out)
     replace E1 := Aside0.mk (Kd.R_over' E1.out (Kd.R_typed E0.out) (by decide) GR7)
     clear ho hb E0
     refine rdy (rs := [11]) ?_
     refine rc (fun K hK => ?k231) AllReadyH.nil
     case k231 =>
      refine Kd.R_append_rows_step Kd.string (w0 := w) (w.heap.size) (by rfl) (.tmp 11) (.tmp 13) 26 9 (.string ⟨#[]⟩) 16 rfl Tryd.underlying26 info9 rfl (by decide) (by omega) (.slice (some ⟨g1, 0, none⟩) 0 0) [] m.f3 _ _ _ (fun _ => True) (fun _ => False) rfl rfl ?aO11 ?aR11 (fun _ _ h => h) (fun _ h => h.elim) (fun _ _ => trivial) ?aB11 ?aS11 ?aL11 ?_
      case aO11 => exact E1.out
      case aR11 => exact Kd.C_below hr1 hHeld.2.2.2.2.2
      case aB11 => exact hHeld.2.2.2.2.2
      case aS11 => exact (hHeld.2.2.2.2.2).size
      case aL11 => (simp; omega)
      intro v11 V11 ho hb hg hat
      have ho : Kd.R Kd.string 9 V11 w.heap.size (fun _ => True) v11 m.f3 := ho
      obtain ⟨B1, d1, hv11⟩ := Kd.R_slice ho
      subst hv11
      have GR11 : V7.grownBy V11 (some g1) := hg
      clear hg hat
      refine hK.out _ _ ?h232 (fun hHeld => ?j232)
      case h232 => exact ⟨(World.cell?_of_block (GR11.block _ (World.block_lt_of_cell? _ _ hHeld.1) (fun e => by have e := Option.some.inj e; (try dsimp only at e); omega))).trans hHeld.1, (World.cell?_of_block (GR11.block _ (World.block_lt_of_cell? _ _ hHeld.2.1) (fun e => by have e := Option.some.inj e; (try dsimp only at e); omega))).trans hHeld.2.1, (World.cell?_of_block (GR11.block _ (World.block_lt_of_cell? _ _ hHeld.2.2.1) (fun e => by have e := Option.some.inj e; (try dsimp only at e); omega))).trans hHeld.2.2.1, (World.cell?_of_block (GR11.block _ (World.block_lt_of_cell? _ _ hHeld.2.2.2.1) (fun e => by have e := Option.some.inj e; (try dsimp only at e); omega))).trans hHeld.2.2.2.1, (World.cell?_of_block (GR11.block _ (World.block_lt_of_cell? _ _ hHeld.2.2.2.2.1) (fun e => by have e := Option.some.inj e; (try dsimp only at e); omega))).trans hHeld.2.2.2.2.1, hb⟩
      clear hK K
      try simp only [Act.put, List.setIfInBounds_toArray, List.set_cons_zero, List.set_cons_succ]
      have U1 := Aside0.mk ho
      have s11_ : w.heap.size + 1 < V11.heap.size := by have := GR11.size; omega
      replace F1 := Aside0.mk ((GR11.block _ (blk_lt F1.out) (fun e => by have e := Option.some.inj e; omega)).trans F1.out)
      replace U0 := Aside0.mk (Kd.R_over' U0.out (Kd.R_typed E1.out) (by decide) GR11)
      clear ho hb E1
      refine tk 12 ?v233 ?y233 ?r233
      case y233 => intro w_ hSw; (try dsimp only at hSw); go_simp; (try (with_reducible rfl))
      try simp only [Act.put, List.setIfInBounds_toArray, List.set_cons_zero, List.set_cons_succ]
      refine rdy (rs := [13]) ?_
      refine rc (fun K hK => ?k234) AllReadyH.nil
      case k234 =>
       have hb7 := F1.out
       have v0_ : V11.cell? ⟨w.heap.size + 1, 0, none⟩ = some (.int .i64 0) := by simp [World.cell?, hb7]
       have v1_ : V11.cell? ⟨w.heap.size + 1, 1, none⟩ = some (.string ⟨#[]⟩) := by simp [World.cell?, hb7]
       have v2_ : V11.cell? ⟨w.heap.size + 1, 2, none⟩ = some (.string ⟨#[]⟩) := by simp [World.cell?, hb7]
       have v3_ : V11.cell? ⟨w.heap.size + 1, 3, none⟩ = some (.slice none 0 0) := by simp [World.cell?, hb7]
       have v4_ : V11.cell? ⟨w.heap.size + 1, 4, none⟩ = some (.slice none 0 0) := by simp [World.cell?, hb7]
       have u0_ : V11.frozen? ⟨w.heap.size + 1, 0, none⟩ = false := by simp [World.frozen?, hb7]
       have u1_ : V11.frozen? ⟨w.heap.size + 1, 1, none⟩ = false := by simp [World.frozen?, hb7]
       have u2_ : V11.frozen? ⟨w.heap.size + 1, 2, none⟩ = false := by simp [World.frozen?, hb7]
       have u3_ : V11.frozen? ⟨w.heap.size + 1, 3, none⟩ = false := by simp [World.frozen?, hb7]
       have u4_ : V11.frozen? ⟨w.heap.size + 1, 4, none⟩ = false := by simp [World.frozen?, hb7]
       go_simp
       generalize hV13 : World.setCell (World.setCell (World.setCell (World.setCell (World.setCell V11 ⟨w.heap.size + 1, 0, none⟩ _) ⟨w.heap.size + 1, 1, none⟩ _) ⟨w.heap.size + 1, 2, none⟩ _) ⟨w.heap.size + 1, 3, none⟩ _) ⟨w.heap.size + 1, 4, none⟩ _ = V13
       have G13 : V11.grownBy V13 (some (w.heap.size + 1)) := by rw [← hV13]; exact ((((grown_set1 _ _ _ _).trans (grown_set1 _ _ _ _)).trans (grown_set1 _ _ _ _)).trans (grown_set1 _ _ _ _)).trans (grown_set1 _ _ _ _)
       have FF : V13.heap[w.heap.size + 1]? = some (.cells #[.int .i64 m.f0, .string m.f1.f0, .string m.f1.f1, .slice B0 m.f2.length d0, .slice B1 m.f3.length d1] 28 (0, 0)) := by rw [← hV13, blk_set1 (blk_set1 (blk_set1 (blk_set1 (blk_set1 (F1.out) 0 _) 1 _) 2 _) 3 _) 4 _]; simp
       have BB : Below w.heap.size w V13 := by rw [← hV13]; exact (bel_set (bel_set (bel_set (bel_set (bel_set hHeld.2.2.2.2.2 _ (by show w.heap.size ≤ w.heap.size + 1; omega)) _ (by show w.heap.size ≤ w.heap.size + 1; omega)) _ (by show w.heap.size ≤ w.heap.size + 1; omega)) _ (by show w.heap.size ≤ w.heap.size + 1; omega)) _ (by show w.heap.size ≤ w.heap.size + 1; omega))
       clear hV13
       refine hK.out _ _ ?h235 (fun hHeld => ?j235)
       case h235 => exact ⟨(World.cell?_of_block (G13.block _ (World.block_lt_of_cell? _ _ hHeld.1) (fun e => by have e := Option.some.inj e; (try dsimp only at e); omega))).trans hHeld.1, (World.cell?_of_block (G13.block _ (World.block_lt_of_cell? _ _ hHeld.2.1) (fun e => by have e := Option.some.inj e; (try dsimp only at e); omega))).trans hHeld.2.1, (World.cell?_of_block (G13.block _ (World.block_lt_of_cell? _ _ hHeld.2.2.1) (fun e => by have e := Option.some.inj e; (try dsimp only at e); omega))).trans hHeld.2.2.1, (World.cell?_of_block (G13.block _ (World.block_lt_of_cell? _ _ hHeld.2.2.2.1) (fun e => by have e := Option.some.inj e; (try dsimp only at e); omega))).trans hHeld.2.2.2.1, (World.cell?_of_block (G13.block _ (World.block_lt_of_cell? _ _ hHeld.2.2.2.2.1) (fun e => by have e := Option.some.inj e; (try dsimp only at e); omega))).trans hHeld.2.2.2.2.1, BB⟩
       clear hK K
       try simp only [Act.put, List.setIfInBounds_toArray, List.set_cons_zero, List.set_cons_succ]
       replace U0 := Aside0.mk (R_else U0.out rfl G13 (Kd.R_ne U0.out F1.out (by decide)))
       replace U1 := Aside0.mk (R_else U1.out rfl G13 (Kd.R_ne U1.out F1.out (by decide)))
       replace F1 := Aside0.mk FF
       clear FF
       refine wpAnyH_done (by kernel_rfl) ?_ _
       exact HKK.out B0 d0 B1 d1 g0 g1 V13 ⟨hHeld.2.2.2.2.2, F1.out, U0.out, U1.out⟩
 case hk =>
  intro B0 d0 B1 d1 g0 g1 V ⟨BV, f1, u0, u1⟩
  clear HST HK HF1 join
  have U0 := Aside0.mk u0
  have U1 := Aside0.mk u1
  have F1 := Aside0.mk f1
  have BW := Aside0.mk BV
  clear u0 u1 f1 BV
  have m0_ : V.cell? ⟨w.heap.size + 1, 0, none⟩ = some (.int .i64 m.f0) := by simp [World.cell?, F1.out]
  have m1_ : V.cell? ⟨w.heap.size + 1, 1, none⟩ = some (.string m.f1.f0) := by simp [World.cell?, F1.out]
  have m2_ : V.cell? ⟨w.heap.size + 1, 2, none⟩ = some (.string m.f1.f1) := by simp [World.cell?, F1.out]
  have m3_ : V.cell? ⟨w.heap.size + 1, 3, none⟩ = some (.slice B0 m.f2.length d0) := by simp [World.cell?, F1.out]
  have m4_ : V.cell? ⟨w.heap.size + 1, 4, none⟩ = some (.slice B1 m.f3.length d1) := by simp [World.cell?, F1.out]
  go_wp2
  refine bodyPost_ret (v := .agg #[.int .i64 m.f0, .string m.f1.f0, .string m.f1.f1, .slice B0 m.f2.length d0, .slice B1 m.f3.length d1]) ?hr rfl ?hp
  case hr => simp [results, Tryd.results84, go_sem, m0_, m1_, m2_, m3_, m4_]
  case hp => exact ⟨B0, d0, B1, d1, rfl, U0.out, U1.out, BW.out⟩

end Go.Proofs.YtiaibgkpohmihaaDoor
