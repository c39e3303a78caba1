/- Cutting a text at a byte, at most so many times: plain Lean. -/
import Derived.Test.YticepbgacokbbaaGreatDoorAddr2
namespace Go.Proofs.YticepbgacokbbaaGreatDoor
open Go.RowKit
set_option linter.unusedVariables false
set_option linter.unusedSimpArgs false

def cutN (c : UInt8) : Nat → List UInt8 → List (List UInt8)
 | _, [] => [[]]
 | 0, b :: r => [b :: r]
 | m + 1, b :: r => if b = c then [] :: cutN c m r else match cutN c (m + 1) r with | h :: t => (b :: h) :: t | [] => [[b]]
theorem cutN_zero (c : UInt8) (l : List UInt8) : cutN c 0 l = [l] := by cases l <;> simp [cutN]
theorem cutN_none (c : UInt8) (m : Nat) (l : List UInt8) (h : l.count c = 0) : cutN c m l = [l] := by
 cases m with
 | zero => exact cutN_zero c l
 | succ m =>
  induction l with
  | nil => simp [cutN]
  | cons b r ih =>
   have hb : b ≠ c := by intro e; subst e; simp at h
   rw [List.count_cons_of_ne hb] at h
   rw [cutN, if_neg hb, ih h]
theorem cutN_at (c : UInt8) (m : Nat) (a r : List UInt8) (h : a.count c = 0) : cutN c (m + 1) (a ++ c :: r) = a :: cutN c m r := by
 induction a with
 | nil => simp [cutN]
 | cons b a ih =>
  have hb : b ≠ c := by intro e; subst e; simp at h
  rw [List.count_cons_of_ne hb] at h
  rw [List.cons_append, cutN, if_neg hb, ih h]
/-- Up to the first c. -/
theorem first_c (c : UInt8) (l : List UInt8) : l.count c = 0 ∨ ∃ a r, l = a ++ c :: r ∧ a.count c = 0 := by
 rcases index_one c l with ⟨h, _⟩ | ⟨a, r, h, h0, _⟩
 ·exact .inl h
 ·exact .inr ⟨a, r, h, h0⟩
theorem cutN_all (c : UInt8) : ∀ (m : Nat) (l : List UInt8), l.count c ≤ m → cutN c m l = cutAll c l
 | 0, l, h => by rw [cutN_zero, cutAll_none c l (by omega)]
 | m + 1, l, h => by
  rcases first_c c l with h0 | ⟨a, r, rfl, h0⟩
  ·rw [cutN_none c _ l h0, cutAll_none c l h0]
  ·rw [cutN_at c m a r h0, cutAll_at c a r h0, cutN_all c m r (by simp [List.count_append] at h; omega)]
theorem cutN_many (c : UInt8) : ∀ (m : Nat) (l : List UInt8), m ≤ l.count c → (cutN c m l).length = m + 1
 | 0, l, h => by rw [cutN_zero]; rfl
 | m + 1, l, h => by
  rcases first_c c l with h0 | ⟨a, r, rfl, h0⟩
  ·omega
  ·rw [cutN_at c m a r h0, List.length_cons, cutN_many c m r (by simp [List.count_append] at h; omega)]
theorem dom_cut (l : List UInt8) : ((cutN 46 3 l).all lab && decide ((cutN 46 3 l).length ≤ 3)) = dom l := by
 unfold dom
 by_cases h : l.count 46 ≤ 3
 ·rw [cutN_all 46 3 l h]
 ·rw [decide_eq_false (p := (cutN 46 3 l).length ≤ 3) (by rw [cutN_many 46 3 l (by omega)]; omega), decide_eq_false (p := (cutAll 46 l).length ≤ 3) (by rw [cutAll_length]; omega), Bool.and_false, Bool.and_false]

theorem drop_byte (l : List UInt8) (fr i : Nat) (h1 : fr ≤ i) (h2 : i < l.length) : l.drop fr = (l.drop fr).take (i - fr) ++ l.getD i 0 :: l.drop (i + 1) := by
 have e : (l.drop fr).drop (i - fr) = l.getD i 0 :: l.drop (i + 1) := by
  rw [List.drop_drop, show fr + (i - fr) = i by omega, List.drop_eq_getElem_cons h2, List.getD, List.getElem?_eq_getElem h2]; rfl
 rw [← e, List.take_append_drop]
theorem take_next (l : List UInt8) (fr i : Nat) (h1 : fr ≤ i) (h2 : i < l.length) : (l.drop fr).take (i + 1 - fr) = (l.drop fr).take (i - fr) ++ [l.getD i 0] := by
 have hl : i - fr < (l.drop fr).length := by rw [List.length_drop]; omega
 rw [show i + 1 - fr = i - fr + 1 by omega, List.take_succ_eq_append_getElem hl]
 congr 2
 rw [List.getElem_drop, List.getD, List.getElem?_eq_getElem h2]
 simp [show fr + (i - fr) = i by omega]
theorem ext_data (s : ByteArray) (a b : Nat) (h : b ≤ s.size) : (s.extract a b).data.toList = (s.data.toList.drop a).take (b - a) := by
 rw [Lib.extract_data]

theorem cutN_le (c : UInt8) : ∀ (m : Nat) (l : List UInt8) (x : List UInt8), x ∈ cutN c m l → x.length ≤ l.length
 | 0, l, x, h => by rw [cutN_zero] at h; simp at h; subst h; exact Nat.le_refl _
 | m + 1, l, x, h => by
  rcases first_c c l with h0 | ⟨a, r, rfl, h0⟩
  ·rw [cutN_none c _ l h0] at h; simp at h; subst h; exact Nat.le_refl _
  ·rw [cutN_at c m a r h0] at h
   rcases List.mem_cons.1 h with rfl | h
   ·simp
   ·have := cutN_le c m r x h; simp; omega
theorem getD_size {ps : List ByteArray} {l : List (List UInt8)} {B : Nat} (h : ps.map (·.data.toList) = l) (hl : ∀ x ∈ l, x.length ≤ B) (k : Nat) : (ps.getD k ⟨#[]⟩).size ≤ B := by
 by_cases hk : k < ps.length
 ·have := hl (ps[k].data.toList) (by rw [← h]; exact List.mem_map.2 ⟨_, List.getElem_mem hk, rfl⟩)
  rw [size_data] at this
  simpa [List.getD, List.getElem?_eq_getElem hk] using this
 ·rw [List.getD, List.getElem?_eq_none (by omega)]; exact Nat.zero_le _
end Go.Proofs.YticepbgacokbbaaGreatDoor
