/- Where a list's first element is of which something holds. -/
import Derived.WalkKit
namespace Go.Proofs.YticepbgacokbbaaGreatDoor
set_option linter.unusedVariables false

/-- Where a list's first element is of which p holds; -1. -/
def idx {α : Type} (p : α → Bool) (xs : List α) : Int := if xs.any p then ((xs.findIdx p : Nat) : Int) else -1
theorem idx_hit {α : Type} (p : α → Bool) (xs : List α) (d : α) (k : Nat) (hk : k < xs.length) (h : p (xs.getD k d) = true) (hb : ∀ j, j < k → p (xs.getD j d) = false) : idx p xs = k := by
 unfold idx
 have hg : xs.getD k d = xs[k] := by rw [List.getD, List.getElem?_eq_getElem hk]; rfl
 rw [if_pos (List.any_eq_true.2 ⟨_, List.getElem_mem hk, by rw [← hg]; exact h⟩)]
 have : xs.findIdx p = k := by
  rw [List.findIdx_eq hk]
  refine ⟨by rw [← hg]; exact h, fun j hj => ?_⟩
  have := hb j hj
  rw [List.getD, List.getElem?_eq_getElem (by omega)] at this
  simpa using this
 rw [this]
theorem idx_miss {α : Type} (p : α → Bool) (xs : List α) (d : α) (h : ∀ j, j < xs.length → p (xs.getD j d) = false) : idx p xs = -1 := by
 unfold idx
 rw [if_neg]
 rw [List.any_eq_true]
 rintro ⟨x, hx, hp⟩
 obtain ⟨j, hj, rfl⟩ := List.getElem_of_mem hx
 have := h j hj
 rw [List.getD, List.getElem?_eq_getElem hj] at this
 rw [show (some xs[j]).getD d = xs[j] from rfl, hp] at this
 cases this

theorem idx_any {α : Type} (p : α → Bool) (xs : List α) : decide (idx p xs ≥ 0) = xs.any p := by
 unfold idx
 cases h : xs.any p
 ·simp
 ·simp

end Go.Proofs.YticepbgacokbbaaGreatDoor
