/- Recipients, items, spools in plain words. -/
import Derived.Test.YticepbgacokbbaaGreatDoorMailB
namespace Go.Proofs.YticepbgacokbbaaGreatDoor
open Go.RowKit Go.Proofs.YticepbgacokbbaaGreatDoorW.PrintWords
set_option linter.unusedVariables false
set_option linter.unusedSimpArgs false

theorem range_all {n : Nat} {p : Nat → Bool} (h : ∀ j, j < n → p j = true) : (List.range n).all p = true := by
 rw [List.all_eq_true]; intro j hj; exact h j (List.mem_range.1 hj)
theorem range_not {n : Nat} {p : Nat → Bool} {j : Nat} (hj : j < n) (h : p j = false) : (List.range n).all p = false := by
 rw [List.all_eq_false]; exact ⟨j, List.mem_range.2 hj, by rw [h]; decide⟩
theorem afit_of (x : SAddr) (h : fitAddr x) : AFit x := ⟨by have := h.1; omega, by have := h.2; omega⟩
theorem bfit_of {xs : List ByteArray} (h : xs.length ≤ 1048576 ∧ ∀ y ∈ xs, y.size ≤ 1048576) : BodyFit xs := ⟨by have := h.1; omega, fun x hx => by have := h.2 x hx; omega⟩
theorem all_upto {α : Type} (p : α → Bool) (xs : List α) (d : α) (h : ∀ j, j < xs.length → p (xs.getD j d) = true) : xs.all p = true := all_getD p xs d h
theorem nodup_at {α β : Type} (f : α → β) (xs : List α) (d : α) (h : ∀ a b, a < b → b < xs.length → f (xs.getD a d) ≠ f (xs.getD b d)) : (xs.map f).Nodup := by
 refine List.pairwise_map.2 (List.pairwise_iff_getElem.2 fun a b ha hb hab => ?_)
 have := h a b hab hb
 rwa [List.getD, List.getD, List.getElem?_eq_getElem ha, List.getElem?_eq_getElem hb] at this
theorem not_nodup {α β : Type} (f : α → β) (xs : List α) (d : α) (a b : Nat) (hab : a < b) (hb : b < xs.length) (h : f (xs.getD a d) = f (xs.getD b d)) : ¬ (xs.map f).Nodup := by
 intro hn
 have := List.pairwise_iff_getElem.1 (List.pairwise_map.1 hn) a b (by omega) hb hab
 rw [List.getD, List.getD, List.getElem?_eq_getElem (show a < xs.length by omega), List.getElem?_eq_getElem hb] at h
 exact this h
theorem addr_eq (y z : SAddr) : ((y.f0.toList == z.f0.toList) && (y.f1.toList == z.f1.toList)) = decide (y = z) := by
 obtain ⟨y0, y1⟩ := y
 obtain ⟨z0, z1⟩ := z
 rw [bl, bl, bl, bl, Bool.eq_iff_iff, Bool.and_eq_true, beq_iff_eq, beq_iff_eq, decide_eq_true_iff]
 constructor
 ·rintro ⟨h1, h2⟩
  have e : ∀ {a b : ByteArray}, a.data.toList = b.data.toList → a = b := by
   intro a b h
   cases a; cases b
   simp at h
   rw [h]
  obtain rfl := e h1
  obtain rfl := e h2
  rfl
 ·intro h
  cases h
  exact ⟨rfl, rfl⟩
end Go.Proofs.YticepbgacokbbaaGreatDoor
