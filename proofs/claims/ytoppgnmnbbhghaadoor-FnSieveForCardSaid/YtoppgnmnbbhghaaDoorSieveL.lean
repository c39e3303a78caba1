/- The mailbox rules: which rule is asked: plain facts. -/
import Derived.Test.YtoppgnmnbbhghaaDoorSieveF
namespace Go.Proofs.YtoppgnmnbbhghaaDoor
open Go.RowKit Go.Proofs.YtoppgnmnbbhghaaDoorW.PrintWords
set_option linter.unusedVariables false
set_option linter.unusedSimpArgs false

theorem idx_one {α : Type} (p : α → Bool) (x : α) : idx p [x] = if p x then 0 else -1 := by
  unfold idx
  cases h : p x <;> simp [h]
theorem idx_lt {α : Type} (p : α → Bool) (xs : List α) : idx p xs < (xs.length : Int) ∧ -1 ≤ idx p xs := by
  unfold idx
  split
  · rename_i h
    have := List.findIdx_lt_length.2 (List.any_eq_true.1 h)
    omega
  · omega
/-- Ahead of the first that holds none holds; the first holds. -/
theorem idx_ahead {α : Type} (p : α → Bool) (xs : List α) (d : α) (i : Nat) (hi : i < xs.length) (h : idx p xs < 0 ∨ (i : Int) < idx p xs) : p (xs.getD i d) = false := by
  unfold idx at h
  rw [List.getD, List.getElem?_eq_getElem hi]
  show p xs[i] = false
  split at h
  · have h2 : i < xs.findIdx p := by omega
    exact List.not_of_lt_findIdx h2
  · rename_i ha
    cases hp : p xs[i]
    · rfl
    · exact absurd (List.any_eq_true.2 ⟨_, List.getElem_mem hi, hp⟩) ha
theorem idx_there {α : Type} (p : α → Bool) (xs : List α) (d : α) (i : Nat) (hi : i < xs.length) (h : (i : Int) = idx p xs) : p (xs.getD i d) = true := by
  unfold idx at h
  rw [List.getD, List.getElem?_eq_getElem hi]
  show p xs[i] = true
  split at h
  · have h2 : i = xs.findIdx p := by omega
    subst h2
    exact List.findIdx_getElem
  · omega
theorem sieveOk_one {xs : List SRule} {i : Nat} (hi : i < xs.length) (h : sieveOk xs = true) : sieveOk [xs.getD i zRule] = true := by
  unfold sieveOk at h ⊢
  rw [Bool.and_eq_true, List.all_eq_true] at h
  have hk := h.2 _ (getD_mem xs zRule hi)
  generalize xs.getD i zRule = y at hk ⊢
  simp [hk]
/-- One rule of those that are ok, asked alone. -/
theorem for_one {xs : List SRule} {u d : List UInt8} {tos : List SAddr} {body : List ByteArray} {i : Nat} (hi : i < xs.length) (h : sieveOk xs = true) (hm : mailOk u d tos body = true) :
    ((sieveFor xs u d tos body < 0 ∨ (i : Int) < sieveFor xs u d tos body) → sieveFor [xs.getD i zRule] u d tos body = -1) ∧ ((i : Int) = sieveFor xs u d tos body → sieveFor [xs.getD i zRule] u d tos body = 0) := by
  have e1 : sieveFor xs u d tos body = idx (holdsS u d body) xs := by unfold sieveFor; rw [h, hm]; rfl
  have e2 : sieveFor [xs.getD i zRule] u d tos body = idx (holdsS u d body) [xs.getD i zRule] := by unfold sieveFor; rw [sieveOk_one hi h, hm]; rfl
  rw [e1, e2, idx_one]
  refine ⟨fun hh => ?_, fun hh => ?_⟩
  · rw [idx_ahead _ _ zRule i hi hh]; rfl
  · rw [idx_there _ _ zRule i hi hh]; rfl
theorem for_lt (xs : List SRule) (u d : List UInt8) (tos : List SAddr) (body : List ByteArray) : sieveFor xs u d tos body < (xs.length : Int) ∧ -1 ≤ sieveFor xs u d tos body := by
  unfold sieveFor
  split
  · exact idx_lt _ _
  · omega
set_option maxRecDepth 100000 in
theorem specSieveOk_any (A : Option Addr) (c : Nat) (xs : List SRule) (w : World) (hr : Kd.C kRule w A xs.length xs) (hl : xs.length ≤ 1048576) (hx : ∀ x ∈ xs, RFit x) :
    Calls Tryd.prog 28 #[.slice A xs.length c] w fun e w' => e = .returned (.bool (sieveOk xs)) ∧ Below w.heap.size w w' := by
  have h := specOk13_any A c xs w hr hl hx
  clear hr hx
  generalize sieveOk xs = q at h
  go_enter Tryd.func28, Tryd.ntmps28
  go_wp2_with fail
  refine Calls.mono h ?_
  rintro e w1 ⟨rfl, b1⟩
  go_wp2
  go_ret
  exact ⟨rfl, b1⟩

end Go.Proofs.YtoppgnmnbbhghaaDoor
