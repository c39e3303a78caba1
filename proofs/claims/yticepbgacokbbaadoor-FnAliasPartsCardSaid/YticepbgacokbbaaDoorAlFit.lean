/- What the four words answer fits. -/
import Derived.Test.YticepbgacokbbaaDoorAlWalk
namespace Go.Proofs.YticepbgacokbbaaDoor
open Go.RowKit Go.Proofs.YticepbgacokbbaaDoorW.PrintWords
set_option linter.unusedVariables false
set_option linter.unusedSimpArgs false

theorem ends_fit {xs : List SAlias} {fr : List SAddr} (h : aliasOk xs = true) (hw : ∀ x ∈ xs, fitAlias x) (hf : ∀ a ∈ fr, fitAddr a) (hl : fr.length ≤ 1000) : (ends xs fr).length ≤ fr.length + 24 ∧ ∀ y ∈ ends xs fr, fitAddr y := by
 have hs : ∀ b ∈ ends xs fr, b ∈ fr ++ xs.flatMap (·.f1) := fun b hb => by
  obtain ⟨⟨a, ha, k⟩, _⟩ := (mem_ends _ _ _).1 hb
  exact List.mem_append.2 (k.univ.elim (fun e => .inl (e ▸ ha)) .inr)
 refine ⟨?_, fun y hy => ?_⟩
 ·have h1 := nodup_len (rise_nodup (ends_rise xs fr)) hs
  have h2 := ok_univl h
  rw [List.length_append] at h1
  omega
 ·rcases List.mem_append.1 (hs y hy) with h | h
  ·exact hf y h
  ·obtain ⟨x, hx, h⟩ := List.mem_flatMap.1 h
   exact (hw x hx).2.2 y h
theorem aliasFor_fit {xs : List SAlias} {a : SAddr} (hw : xs.length ≤ 1048576 ∧ ∀ x ∈ xs, fitAlias x) (ha : fitAddr a) : (aliasFor xs a).length ≤ 1048576 ∧ ∀ y ∈ aliasFor xs a, fitAddr y := by
 unfold aliasFor
 split
 ·rename_i h
  rw [Bool.and_eq_true] at h
  have := ends_fit (fr := [a]) h.1 hw.2 (fun b hb => List.mem_singleton.1 hb ▸ ha) (by simp)
  simp only [List.length_singleton] at this
  exact ⟨by omega, this.2⟩
 ·exact ⟨Nat.zero_le _, fun y hy => by cases hy⟩

theorem aliasRound_fit {xs : List SAlias} (hw : xs.length ≤ 1048576 ∧ ∀ x ∈ xs, fitAlias x) : (aliasRound xs).length ≤ 1048576 ∧ ∀ y ∈ aliasRound xs, fitAddr y := by
 unfold aliasRound
 split
 ·rename_i h
  have hs : ∀ b ∈ rounds xs, b ∈ xs.map (·.f0) := fun b hb => by
   obtain ⟨t, ht, _⟩ := (mem_rounds _ _).1 hb
   obtain ⟨x, hx, e⟩ := isAl_iff.1 (tos_al ht)
   exact List.mem_map.2 ⟨x, hx, e⟩
  refine ⟨?_, fun y hy => ?_⟩
  ·have := nodup_len (rise_nodup (rounds_rise xs)) hs
   rw [List.length_map] at this
   exact Nat.le_trans this hw.1
  ·obtain ⟨x, hx, e⟩ := List.mem_map.1 (hs y hy)
   exact e ▸ (hw.2 x hx).1
 ·exact ⟨Nat.zero_le _, fun y hy => by cases hy⟩
theorem aliasFlat_fit {xs : List SAlias} (hw : xs.length ≤ 1048576 ∧ ∀ x ∈ xs, fitAlias x) : (aliasFlat xs).length ≤ 1048576 ∧ ∀ y ∈ aliasFlat xs, fitAlias y := by
 unfold aliasFlat
 split
 ·rename_i h
  refine ⟨Nat.le_trans (List.length_filterMap_le _ _) hw.1, fun y hy => ?_⟩
  obtain ⟨x, hx, rfl, _, _⟩ := flat_mem hy
  have hf := ends_fit (fr := [x.f0]) h hw.2 (fun b hb => List.mem_singleton.1 hb ▸ (hw.2 x hx).1) (by simp)
  simp only [List.length_singleton] at hf
  exact ⟨(hw.2 x hx).1, by show (ends xs [x.f0]).length ≤ _; omega, hf.2⟩
 ·exact ⟨Nat.zero_le _, fun y hy => by cases hy⟩

end Go.Proofs.YticepbgacokbbaaDoor
