/- A client's step, plain laws: it stays ok, forgets nobody, comes to an end. -/
import Derived.Test.YtoppgnmnbbhghaaGreatDoorStepL
namespace Go.Proofs.YtoppgnmnbbhghaaGreatDoor
open Go.RowKit Go.Proofs.YtoppgnmnbbhghaaGreatDoorW.PrintWords
set_option linter.unusedVariables false
set_option linter.unusedSimpArgs false

def wellC (c : SCli) : Prop := (0 ≤ c.f2 ∧ c.f2 ≤ 7) ∧ (0 ≤ c.f3 ∧ c.f3 ≤ (c.f1.f1.length : Int)) ∧ (c.f2 = 3 → 0 < c.f3) ∧ c.f4.length = c.f1.f1.length ∧ ∀ y ∈ c.f4, 0 ≤ y ∧ y ≤ 4
theorem cliOk_iff (c : SCli) : cliOk c = true ↔ (dom c.f0.data.toList = true ∧ mailOkS c.f1 = true) ∧ wellC c := by
  unfold cliOk wellC
  simp only [Bool.and_eq_true, Bool.or_eq_true, decide_eq_true_eq, Bool.not_eq_true', beq_eq_false_iff_ne]
  constructor
  · rintro ⟨h0, h1, h2, h3, h4, h5, h6⟩
    refine ⟨⟨h0, h1⟩, h2, h3, fun e => h4.resolve_left (fun k => k e), h5, fun y hy => ?_⟩
    have := List.all_eq_true.1 h6 y hy
    unfold outOk at this
    simp only [Bool.and_eq_true, decide_eq_true_eq] at this
    exact this
  · rintro ⟨⟨h0, h1⟩, h2, h3, h4, h5, h6⟩
    refine ⟨h0, h1, h2, h3, ?_, h5, ?_⟩
    · by_cases e : c.f2 = 3
      · exact .inr (h4 e)
      · exact .inl e
    · rw [List.all_eq_true]
      intro y hy
      unfold outOk
      simp only [Bool.and_eq_true, decide_eq_true_eq]
      exact h6 y hy
theorem wellC_next {c : SCli} (h : wellC c) : wellC (nextC c).1 := by
  obtain ⟨h2, h3, h4, h5, h6⟩ := h
  unfold nextC
  split
  · exact ⟨⟨by show (0 : Int) ≤ 3; omega, by show (3 : Int) ≤ 7; omega⟩, ⟨by show 0 ≤ c.f3 + 1; omega, by show c.f3 + 1 ≤ (c.f1.f1.length : Int); omega⟩, fun _ => by show 0 < c.f3 + 1; omega, h5, h6⟩
  · split
    · exact ⟨⟨by show (0 : Int) ≤ 4; omega, by show (4 : Int) ≤ 7; omega⟩, h3, fun h => absurd h (by show ¬ (4 : Int) = 3; omega), h5, h6⟩
    · exact ⟨⟨by show (0 : Int) ≤ 6; omega, by show (6 : Int) ≤ 7; omega⟩, h3, fun h => absurd h (by show ¬ (6 : Int) = 3; omega), h5, h6⟩
theorem outs_bec' {nv : Int} {fs xs : List Int} (hn : 0 ≤ nv ∧ nv ≤ 4) (h : ∀ y ∈ xs, 0 ≤ y ∧ y ≤ 4) : ∀ y ∈ becomes nv fs xs, 0 ≤ y ∧ y ≤ 4 := by
  intro y hy
  unfold becomes at hy
  obtain ⟨x, hx, rfl⟩ := List.mem_map.1 hy
  split
  · exact hn
  · exact h x hx
theorem failC_r' (code : Int) : 0 ≤ failC code ∧ failC code ≤ 4 := by unfold failC; split <;> omega
theorem wellC_step {c : SCli} (h : wellC c) (code : Int) : wellC (stepC c code).1 := by
  have h' := h
  obtain ⟨h2, h3, h4, h5, h6⟩ := h
  have k : ∀ n : Int, 0 ≤ n → n ≤ 7 → n ≠ 3 → ∀ outs : List Int, outs.length = c.f1.f1.length → (∀ y ∈ outs, 0 ≤ y ∧ y ≤ 4) → wellC ⟨c.f0, c.f1, n, c.f3, outs⟩ := fun n a b d outs e f => ⟨⟨a, b⟩, h3, fun h => absurd h d, e, f⟩
  unfold stepC
  split
  · exact k 7 (by omega) (by omega) (by omega) _ h5 h6
  split
  · exact k 1 (by omega) (by omega) (by omega) _ h5 h6
  split
  · exact k 2 (by omega) (by omega) (by omega) _ h5 h6
  split
  · exact wellC_next h'
  split
  · refine wellC_next ⟨h2, h3, h4, by show (c.f4.set _ _).length = _; rw [List.length_set]; exact h5, fun y hy => ?_⟩
    rcases List.mem_or_eq_of_mem_set hy with hy | rfl
    · exact h6 y hy
    · split
      · omega
      · exact failC_r' code
  split
  · exact k 5 (by omega) (by omega) (by omega) _ h5 h6
  split
  · exact k 6 (by omega) (by omega) (by omega) _ (by rw [becomes_length]; exact h5) (outs_bec' (by omega) h6)
  · exact k 6 (by omega) (by omega) (by omega) _ (by rw [becomes_length]; exact h5) (outs_bec' (failC_r' code) h6)
theorem cliOk_step {c : SCli} (h : cliOk c = true) (code : Int) : cliOk (stepC c code).1 = true := by
  obtain ⟨⟨h0, h1⟩, h2⟩ := (cliOk_iff c).1 h
  have hr := stepC_rest c code
  exact (cliOk_iff _).2 ⟨⟨by rw [hr.1]; exact h0, by rw [hr.2.1]; exact h1⟩, wellC_step h2 code⟩
theorem becomes_getD (nv : Int) (fs xs : List Int) (i : Nat) (h : i < xs.length) : (becomes nv fs xs).getD i 0 = if has fs (xs.getD i 0) then nv else xs.getD i 0 := by
  unfold becomes
  rw [List.getD, List.getD, List.getElem?_map, List.getElem?_eq_getElem h]
  simp
/-- Whoever has the mail, and is not asked for, has it. -/
theorem step_keep {c : SCli} (h : wellC c) (code : Int) (i : Nat) (hi : i < c.f4.length) (hna : ¬ (c.f2 = 3 ∧ (i : Int) = c.f3 - 1)) (h2 : c.f4.getD i 0 = 2) : (stepC c code).1.f4.getD i 0 = 2 := by
  unfold stepC
  split
  · exact h2
  split
  · exact h2
  split
  · exact h2
  split
  · rw [(nextC_rest _).2.2]; exact h2
  split
  · rename_i h3
    rw [(nextC_rest _).2.2]
    show (c.f4.set (c.f3 - 1).toNat _).getD i 0 = 2
    have hp := h.2.2.1 h3
    rw [List.getD, List.getElem?_set_ne (by omega), ← List.getD]
    exact h2
  split
  · exact h2
  split
  · show (becomes 2 [1] c.f4).getD i 0 = 2
    rw [becomes_getD _ _ _ _ hi, h2]
    rfl
  · show (becomes (failC code) [0, 1] c.f4).getD i 0 = 2
    rw [becomes_getD _ _ _ _ hi, h2]
    rfl
/-- How many steps a dialogue may still take. -/
def rank (c : SCli) : Nat := if 4 ≤ c.f2 then (7 - c.f2).toNat else ((7 - c.f2) + ((c.f1.f1.length : Int) - c.f3)).toNat
theorem rank_next {c : SCli} (h : wellC c) (hst : c.f2 = 2 ∨ c.f2 = 3) : rank (nextC c).1 < rank c := by
  have hl := h.2.1.2
  unfold nextC
  split
  · rename_i h1
    show (if (4 : Int) ≤ 3 then (7 - (3 : Int)).toNat else ((7 - (3 : Int)) + ((c.f1.f1.length : Int) - (c.f3 + 1))).toNat) < rank c
    unfold rank
    rw [if_neg (by omega), if_neg (by omega)]
    omega
  · split
    · show (if (4 : Int) ≤ 4 then (7 - (4 : Int)).toNat else _) < rank c
      unfold rank
      rw [if_pos (by omega), if_neg (by omega)]
      omega
    · show (if (4 : Int) ≤ 6 then (7 - (6 : Int)).toNat else _) < rank c
      unfold rank
      rw [if_pos (by omega), if_neg (by omega)]
      omega
theorem rank_step {c : SCli} (h : wellC c) (code : Int) : rank (stepC c code).1 ≤ rank c - 1 := by
  have hl := h.2.1.2
  have h7 := h.1
  have hr : ∀ (n : Int) (outs : List Int), 4 ≤ n → n ≤ 7 → rank ⟨c.f0, c.f1, n, c.f3, outs⟩ = (7 - n).toNat := fun n outs a b => by unfold rank; exact if_pos a
  have hc4 : 4 ≤ c.f2 → rank c = (7 - c.f2).toNat := fun a => if_pos a
  have hc3 : c.f2 < 4 → rank c = ((7 - c.f2) + ((c.f1.f1.length : Int) - c.f3)).toNat := fun a => if_neg (by omega)
  unfold stepC
  split
  · rename_i e
    show rank ⟨c.f0, c.f1, 7, c.f3, c.f4⟩ ≤ _
    rw [hr 7 _ (by omega) (by omega), hc4 (by omega)]
    omega
  rename_i n76
  split
  · rename_i e
    show rank ⟨c.f0, c.f1, 1, c.f3, c.f4⟩ ≤ _
    rw [hc3 (by omega), show rank ⟨c.f0, c.f1, 1, c.f3, c.f4⟩ = ((7 - (1 : Int)) + ((c.f1.f1.length : Int) - c.f3)).toNat from rfl]
    omega
  rename_i n0
  split
  · rename_i e
    show rank ⟨c.f0, c.f1, 2, c.f3, c.f4⟩ ≤ _
    rw [hc3 (by omega), show rank ⟨c.f0, c.f1, 2, c.f3, c.f4⟩ = ((7 - (2 : Int)) + ((c.f1.f1.length : Int) - c.f3)).toNat from rfl]
    omega
  rename_i n1
  split
  · rename_i e
    have := rank_next h (.inl e.1)
    omega
  rename_i n2
  split
  · rename_i e
    have hw : wellC ⟨c.f0, c.f1, c.f2, c.f3, c.f4.set (c.f3 - 1).toNat (if code = 250 then 1 else failC code)⟩ := by
      refine ⟨h.1, h.2.1, h.2.2.1, by show (c.f4.set _ _).length = _; rw [List.length_set]; exact h.2.2.2.1, fun y hy => ?_⟩
      rcases List.mem_or_eq_of_mem_set hy with hy | rfl
      · exact h.2.2.2.2 y hy
      · split
        · omega
        · exact failC_r' code
    have := rank_next hw (.inr e)
    have e2 : rank ⟨c.f0, c.f1, c.f2, c.f3, c.f4.set (c.f3 - 1).toNat (if code = 250 then 1 else failC code)⟩ = rank c := rfl
    omega
  rename_i n3
  split
  · rename_i e
    show rank ⟨c.f0, c.f1, 5, c.f3, c.f4⟩ ≤ _
    rw [hr 5 _ (by omega) (by omega), hc4 (by omega)]
    omega
  rename_i n4
  split
  · rename_i e
    show rank ⟨c.f0, c.f1, 6, c.f3, _⟩ ≤ _
    rw [hr 6 _ (by omega) (by omega), hc4 (by omega)]
    omega
  · show rank ⟨c.f0, c.f1, 6, c.f3, _⟩ ≤ _
    rw [hr 6 _ (by omega) (by omega)]
    by_cases e : 4 ≤ c.f2
    · rw [hc4 e]; omega
    · rw [hc3 (by omega)]; omega
theorem rank_over {c : SCli} (h : wellC c) (h0 : rank c = 0) : c.f2 = 7 := by
  have h1 := h.1
  have h2 := h.2.1.2
  unfold rank at h0
  split at h0 <;> omega
theorem rank_max {c : SCli} (h : cliOk c = true) : rank c ≤ 11 := by
  obtain ⟨⟨_, hm⟩, hw⟩ := (cliOk_iff c).1 h
  unfold mailOkS mailOk at hm
  simp only [Bool.and_eq_true, decide_eq_true_eq] at hm
  have hn := hm.2.1.2
  have h1 := hw.1
  have h2 := hw.2.1
  unfold rank
  split <;> omega
end Go.Proofs.YtoppgnmnbbhghaaGreatDoor
