/- What may have changed of a world; rows written in place. -/
import Derived.Test.YticepbgacokbbaaGreatDoorKit0
import Derived.Deep.RegionHeld3
namespace Go.Proofs.YticepbgacokbbaaGreatDoor
open Go.RowKit Go.Proofs.YticepbgacokbbaaGreatDoorW.PrintWords
set_option linter.unusedVariables false
set_option linter.unusedSimpArgs false

theorem drew_below0 (w : World) : Below w.heap.size w w.drew := ⟨rfl, rfl, rfl, Nat.le_refl _, fun _ _ => rfl⟩
theorem own_put2 {α : Type} {d : Kd α} {e : Nat} {W : World} {base g n cap : Nat} {ok : Nat → Prop} {xs : List α} (h : Kd.R d e W base ok (.slice (some ⟨g, 0, none⟩) n cap) xs) (k : Nat) (hk : k < n) (x' : α) (c : List Value) (hcl : c.length = d.sz) (j : Nat) (u : Value) (hj : j < d.sz)
  (hM : d.M W base (fun _ => False) x' (c.take j ++ [u] ++ c.drop (j + 1))) (hcc : ∀ j u, c[j]? = some u → W.cell? ⟨g, k * d.sz + j, none⟩ = some u) :
  Kd.R d e (W.setCell ⟨g, k * d.sz + j, none⟩ u) base ok (.slice (some ⟨g, 0, none⟩) n cap) (xs.set k x') ∧ W.grownBy (W.setCell ⟨g, k * d.sz + j, none⟩ u) (some g) := by
 have := Kd.R_seg h (k : Int) (by omega) (by omega) (seg := [u]) (j := j) (c := c) hcl (by rw [Int.toNat_natCast]; exact hcc) (by simp; omega) (x' := x') hM (fun _ hk => hk.elim)
 rw [Int.toNat_natCast] at this
 exact this
theorem own_form2 {α : Type} {d : Kd α} {e : Nat} {w : World} {base n cap : Nat} {ok : Nat → Prop} {A : Option Addr} {xs : List α} (h : Kd.R d e w base ok (.slice A n cap) xs) (hp : 0 < xs.length) : ∃ g, A = some ⟨g, 0, none⟩ ∧ base ≤ g ∧ g < w.heap.size := by
 obtain ⟨g, cap', he, hb, hg, _⟩ := Kd.R_form h hp
 injection he with h1 h2 h3
 exact ⟨g, h1, hb, hg⟩
theorem set_getD {α : Type} (zs : List α) (k : Nat) (z y : α) (hk : k < zs.length) (j : Nat) : (zs.set k y).getD j z = if j = k then y else zs.getD j z := by
 rw [List.getD, List.getD, List.getElem?_set]
 by_cases e : k = j
 ·subst e; simp [hk]
 ·rw [if_neg e, if_neg (Ne.symm e)]
theorem ext_getD {α : Type} (z : α) {xs ys : List α} (hl : xs.length = ys.length) (h : ∀ j, j < xs.length → xs.getD j z = ys.getD j z) : xs = ys := by
 refine List.ext_getElem hl fun j h1 h2 => ?_
 have := h j h1
 rwa [List.getD, List.getD, List.getElem?_eq_getElem h1, List.getElem?_eq_getElem h2] at this

structure Tch (ok : Nat → Prop) (w w1 : World) : Prop where
 os : w1.os = w.os
 tape : w1.tape = w.tape
 output : w1.output = w.output
 size : w.heap.size ≤ w1.heap.size
 block : ∀ k, k < w.heap.size → ¬ ok k → w1.heap[k]? = w.heap[k]?
theorem Tch.refl (ok : Nat → Prop) (w : World) : Tch ok w w := ⟨rfl, rfl, rfl, Nat.le_refl _, fun _ _ _ => rfl⟩
theorem Tch.trans {ok : Nat → Prop} {w w1 w2 : World} (h : Tch ok w w1) (g : Tch ok w1 w2) : Tch ok w w2 :=
 ⟨g.os.trans h.os, g.tape.trans h.tape, g.output.trans h.output, Nat.le_trans h.size g.size, fun k hk hn => (g.block k (Nat.lt_of_lt_of_le hk h.size) hn).trans (h.block k hk hn)⟩
theorem Tch.row {ok : Nat → Prop} {w w1 w2 : World} {row : Option Nat} (h : Tch ok w w1) (g : w1.grownBy w2 row) (hr : ∀ q, row = some q → ok q) : Tch ok w w2 :=
 h.trans ⟨g.os, g.tape, g.output, g.size, fun k hk hn => g.block k hk (fun e => hn (hr k e.symm))⟩
theorem Tch.below {ok : Nat → Prop} {w w1 w2 : World} (h : Tch ok w w1) (g : Below w1.heap.size w1 w2) : Tch ok w w2 :=
 h.trans ⟨g.os, g.tape, g.output, g.size, fun k hk _ => g.block k hk⟩
theorem Tch.mono {ok ok' : Nat → Prop} {w w1 : World} (h : Tch ok w w1) (hm : ∀ k, ok k → k < w.heap.size → ok' k) : Tch ok' w w1 :=
 ⟨h.os, h.tape, h.output, h.size, fun k hk hn => h.block k hk (fun ho => hn (hm k ho hk))⟩
theorem bel_tch {ok : Nat → Prop} {B : Nat} {a w w1 : World} (h : Below B a w) (t : Tch ok w w1) (hB : B ≤ w.heap.size) (ho : ∀ q, ok q → B ≤ q) : Below B a w1 :=
 ⟨t.os.trans h.os, t.tape.trans h.tape, t.output.trans h.output, Nat.le_trans h.size t.size, fun k hk => (t.block k (by omega) (fun hq => by have := ho k hq; omega)).trans (h.block k hk)⟩
theorem R_tch {α : Type} {d : Kd α} {e base : Nat} {ok okt : Nat → Prop} {w w1 : World} {v : Value} {xs : List α} (h : d.R e w base ok v xs) (t : Tch okt w w1) (hd : ∀ q, ok q → ¬ okt q) : d.R e w1 base ok v xs :=
 Kd.R_step h (fun k hk hlt => t.block k hlt (hd k hk))
theorem S_tch {α : Type} {d : Kd α} {e base : Nat} {ok okt : Nat → Prop} {w w1 : World} {v : Value} {xs : List α} (h : Kd.S d e w base ok v xs) (t : Tch okt w w1) (hd : ∀ q, ok q → ¬ okt q) : Kd.S d e w1 base ok v xs :=
 Kd.S_step h (fun k hk hlt => t.block k hlt (hd k hk))
theorem tch_cell {ok : Nat → Prop} {w w1 : World} (t : Tch ok w w1) {b : Nat} (hb : b < w.heap.size) (hn : ¬ ok b) (o : Nat) : w1.cell? ⟨b, o, none⟩ = w.cell? ⟨b, o, none⟩ :=
 World.cell?_of_block (t.block b hb hn)
theorem calls_at {P : Program} {f : Nat} {v : Value} {z : Int} {a : Nat} {w : World} {Q : Ending → World → Prop} (hz : z = a) (h : Calls P f #[v, .int .i64 (a : Int)] w Q) : Calls P f #[v, .int .i64 z] w Q := by subst hz; exact h
theorem H_at {α : Type} {d : Kd α} {e base g n cap k : Nat} {ok oki : Nat → Prop} {W : World} {xs : List α} {c : List Value} (h : Kd.H d e W base ok (.slice (some ⟨g, 0, none⟩) n cap) xs (k : Int) oki c) (hk : (k : Int) < (n : Int)) :
  (∀ j u, c[j]? = some u → W.cell? ⟨g, k * d.sz + j, none⟩ = some u) ∧ ∀ j, W.frozen? ⟨g, k * d.sz + j, none⟩ = false := by
 obtain ⟨rows, hl, hraw, _, _, hcc, _⟩ := Kd.H_raw h (by omega) hk
 obtain ⟨_, _, _, _, hf⟩ := Kd.R_elem hraw [] (k : Int) (by omega) hk
 rw [Int.toNat_natCast] at hcc hf
 exact ⟨hcc, hf⟩
theorem H_put {α : Type} {d : Kd α} {e base g n cap k : Nat} {ok oki : Nat → Prop} {W : World} {xs : List α} {c : List Value} (h : Kd.H d e W base ok (.slice (some ⟨g, 0, none⟩) n cap) xs (k : Int) oki c) (hk : k < n) (j : Nat) (u : Value) (hj : j < d.sz) (hu : u.oneCell' = true) :
  Kd.H d e (W.setCell ⟨g, k * d.sz + j, none⟩ u) base ok (.slice (some ⟨g, 0, none⟩) n cap) xs (k : Int) oki (c.take j ++ [u] ++ c.drop (j + 1)) ∧ W.grownBy (W.setCell ⟨g, k * d.sz + j, none⟩ u) (some g) := by
 have := Kd.H_seg h (by omega) (by omega) (seg := [u]) (j := j) (by simp; omega) (by simpa using hu)
 rw [Int.toNat_natCast] at this
 exact this

end Go.Proofs.YticepbgacokbbaaGreatDoor
