/- Blocks: new, written, left alone. -/
import Derived.Test.YticepbgacokbbaaGreatDoorTch
namespace Go.Proofs.YticepbgacokbbaaGreatDoor
open Go.RowKit Go.Proofs.YticepbgacokbbaaGreatDoorW.PrintWords
set_option linter.unusedVariables false
set_option linter.unusedSimpArgs false

theorem cell_new (w : World) (cs : Array Value) (t j : Nat) (v : Value) (h : cs[j]? = some v) : (w.alloc (.cells cs t)).cell? ⟨w.heap.size, j, none⟩ = some v := by simp [h]
theorem frozen_new (w : World) (cs : Array Value) (t j : Nat) : (w.alloc (.cells cs t)).frozen? ⟨w.heap.size, j, none⟩ = false := by simp
theorem blk_new (w : World) (o : Obj) : (w.alloc o).heap[w.heap.size]? = some o := by
 show (w.heap.push o)[w.heap.size]? = some o
 simp
theorem grown_set1 (W : World) (g j : Nat) (u : Value) : W.grownBy (W.setCell ⟨g, j, none⟩ u) (some g) := ⟨rfl, rfl, rfl, by simp, fun k _ hk => Below.heap_setCell W ⟨g, j, none⟩ u k (fun e => hk (by rw [e]))⟩
theorem grown_set4 (W : World) (g : Nat) (a b c d : Value) : W.grownBy ((((W.setCell ⟨g, 0, none⟩ a).setCell ⟨g, 1, none⟩ b).setCell ⟨g, 2, none⟩ c).setCell ⟨g, 3, none⟩ d) (some g) :=
 (((grown_set1 _ _ _ _).trans (grown_set1 _ _ _ _)).trans (grown_set1 _ _ _ _)).trans (grown_set1 _ _ _ _)
theorem blk_set1 {W : World} {g : Nat} {cs : Array Value} {t : Nat} {fr : Nat × Nat} (h : W.heap[g]? = some (.cells cs t fr)) (j : Nat) (u : Value) : (W.setCell ⟨g, j, none⟩ u).heap[g]? = some (.cells (cs.setIfInBounds j u) t fr) := by
 show (W.heap.modify g _)[g]? = _
 rw [Array.getElem?_modify]
 simp [h]
theorem blk_set4 {W : World} {g : Nat} {p q r s : Value} {t : Nat} {fr : Nat × Nat} (h : W.heap[g]? = some (.cells #[p, q, r, s] t fr)) (a b c d : Value) : ((((W.setCell ⟨g, 0, none⟩ a).setCell ⟨g, 1, none⟩ b).setCell ⟨g, 2, none⟩ c).setCell ⟨g, 3, none⟩ d).heap[g]? = some (.cells #[a, b, c, d] t fr) := by
 rw [blk_set1 (blk_set1 (blk_set1 (blk_set1 h 0 a) 1 b) 2 c) 3 d]
 simp
/-- Another row's block has been written: a row whose elements lead nowhere stays. -/
theorem R_else {α : Type} {d : Kd α} {e base : Nat} {ok : Nat → Prop} {W w1 : World} {v : Value} {xs : List α} {g : Nat} (h : d.R e W base ok v xs) (hE : d.E = []) (hg : W.grownBy w1 (some g)) (hne : some g ≠ v.ownBlock) : d.R e w1 base ok v xs :=
 Kd.R_mono (Kd.R_step (Kd.R_tight hE h) (fun k hk hlt => hg.block k hlt (fun e => hne (e.symm.trans hk)))) (fun k hk => h.1 k hk.symm)
theorem R_one {α : Type} (d : Kd α) (e : Nat) (W : World) (base : Nat) (x : α) (cs : List Value) (hM : d.M (W.alloc (.cells cs.toArray e)) base (fun _ => False) x cs) (hb : base ≤ W.heap.size) :
  d.R e (W.alloc (.cells cs.toArray e)) base (fun _ => True) (.slice (some ⟨W.heap.size, 0, none⟩) 1 1) [x] := by
 have hl := d.K_len (d.K_of_M hM)
 refine R_lit0 d e W base (xs := [x]) (inner := cs) ⟨by simp [hl], fun j p hj => ?_⟩ (by simp) hb trivial
 cases j with
 | zero =>
  obtain rfl : x = p := by simpa using hj
  rw [Nat.zero_mul, List.drop_zero, List.take_of_length_le (by omega)]
  exact d.M_mono (fun _ h => h.elim) hM
 | succ j => simp at hj
theorem R_two {α : Type} (d : Kd α) (e : Nat) (W : World) (base : Nat) (x y : α) (cs ds : List Value) (hM : d.M (W.alloc (.cells (cs ++ ds).toArray e)) base (fun _ => False) x cs) (hN : d.M (W.alloc (.cells (cs ++ ds).toArray e)) base (fun _ => False) y ds) (hb : base ≤ W.heap.size) :
  d.R e (W.alloc (.cells (cs ++ ds).toArray e)) base (fun _ => True) (.slice (some ⟨W.heap.size, 0, none⟩) 2 2) [x, y] := by
 have hl := d.K_len (d.K_of_M hM)
 have hk := d.K_len (d.K_of_M hN)
 refine R_lit0 d e W base (xs := [x, y]) (inner := cs ++ ds) ⟨by simp [hl, hk]; omega, fun j p hj => ?_⟩ (by simp) hb trivial
 cases j with
 | zero =>
  obtain rfl : x = p := by simpa using hj
  rw [Nat.zero_mul, List.drop_zero, List.take_left' hl]
  exact d.M_mono (fun _ h => h.elim) hM
 | succ j =>
  cases j with
  | zero =>
   obtain rfl : y = p := by simpa using hj
   rw [Nat.zero_add, Nat.one_mul, List.drop_left' hl, List.take_of_length_le (by omega)]
   exact d.M_mono (fun _ h => h.elim) hN
  | succ j => simp at hj
theorem cells8 {W : World} {g t : Nat} {a0 a1 a2 a3 a4 a5 a6 a7 : Value} (h : W.heap[g]? = some (.cells #[a0, a1, a2, a3, a4, a5, a6, a7] t (0, 0))) : W.cell? ⟨g, 0, none⟩ = some a0 ∧ W.cell? ⟨g, 1, none⟩ = some a1 ∧ W.cell? ⟨g, 2, none⟩ = some a2 ∧ W.cell? ⟨g, 3, none⟩ = some a3 ∧ W.cell? ⟨g, 4, none⟩ = some a4 ∧ W.cell? ⟨g, 5, none⟩ = some a5 ∧ W.cell? ⟨g, 6, none⟩ = some a6 ∧ W.cell? ⟨g, 7, none⟩ = some a7 := by simp [World.cell?, h]
theorem froz8 {W : World} {g t : Nat} {a0 a1 a2 a3 a4 a5 a6 a7 : Value} (h : W.heap[g]? = some (.cells #[a0, a1, a2, a3, a4, a5, a6, a7] t (0, 0))) : W.frozen? ⟨g, 0, none⟩ = false ∧ W.frozen? ⟨g, 1, none⟩ = false ∧ W.frozen? ⟨g, 2, none⟩ = false ∧ W.frozen? ⟨g, 3, none⟩ = false ∧ W.frozen? ⟨g, 4, none⟩ = false ∧ W.frozen? ⟨g, 5, none⟩ = false ∧ W.frozen? ⟨g, 6, none⟩ = false ∧ W.frozen? ⟨g, 7, none⟩ = false := by simp [World.frozen?, h]
theorem below_blk {V V1 : World} {g : Nat} {o : Obj} (h : V.heap[g]? = some o) (b : Below V.heap.size V V1) : V1.heap[g]? = some o := (b.block g (by rcases Nat.lt_or_ge g V.heap.size with h1 | h1; exact h1; rw [Array.getElem?_eq_none h1] at h; cases h)).trans h
theorem bel_base {B : Nat} {a w w1 : World} (h : Below B a w) (k : Below B w w1) : Below B a w1 := h.trans k
theorem bel_grown {B : Nat} {a w w1 : World} {row : Option Nat} (h : Below B a w) (g : w.grownBy w1 row) (hB : B ≤ w.heap.size) (hr : ∀ q, row = some q → B ≤ q) : Below B a w1 :=
 ⟨g.os.trans h.os, g.tape.trans h.tape, g.output.trans h.output, Nat.le_trans h.size g.size, fun k hk => (g.block k (by omega) (fun e => by have := hr k e.symm; omega)).trans (h.block k hk)⟩

end Go.Proofs.YticepbgacokbbaaGreatDoor
