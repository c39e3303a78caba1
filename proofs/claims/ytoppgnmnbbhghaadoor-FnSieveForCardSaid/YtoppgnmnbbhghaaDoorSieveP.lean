/- What a rule that is ok owes: plain facts. -/
import Derived.Test.YtoppgnmnbbhghaaDoorSieveI
import Derived.Test.YtoppgnmnbbhghaaDoorCut
namespace Go.Proofs.YtoppgnmnbbhghaaDoor
open Go.RowKit Go.Proofs.YtoppgnmnbbhghaaDoorW.PrintWords
set_option linter.unusedVariables false
set_option linter.unusedSimpArgs false


theorem cutAll_mem (c : UInt8) : ∀ (l : List UInt8) (b : UInt8), b ∈ l → b = c ∨ ∃ p ∈ cutAll c l, b ∈ p
  | [], b, h => by cases h
  | x :: r, b, h => by
    by_cases hx : x = c
    · rw [cutAll, if_pos hx]
      rcases List.mem_cons.1 h with rfl | h
      · exact .inl hx
      · rcases cutAll_mem c r b h with e | ⟨p, hp, hb⟩
        · exact .inl e
        · exact .inr ⟨p, List.mem_cons_of_mem _ hp, hb⟩
    · rw [cutAll, if_neg hx]
      cases hc : cutAll c r with
      | nil => exact absurd hc (cutAll_ne c r)
      | cons y t =>
        rcases List.mem_cons.1 h with rfl | h
        · exact .inr ⟨b :: y, List.mem_cons_self, List.mem_cons_self⟩
        · rcases cutAll_mem c r b h with e | ⟨p, hp, hb⟩
          · exact .inl e
          · rw [hc] at hp
            rcases List.mem_cons.1 hp with rfl | hp
            · exact .inr ⟨x :: p, List.mem_cons_self, List.mem_cons_of_mem _ hb⟩
            · exact .inr ⟨p, List.mem_cons_of_mem _ hp, hb⟩
theorem cutAll_sum (c : UInt8) : ∀ (l : List UInt8) (B : Nat), (∀ p ∈ cutAll c l, p.length ≤ B) → l.length + 1 ≤ (cutAll c l).length * (B + 1)
  | [], B, h => by simp [cutAll]
  | x :: r, B, h => by
    by_cases hx : x = c
    · rw [cutAll, if_pos hx] at h ⊢
      have := cutAll_sum c r B (fun p hp => h p (List.mem_cons_of_mem _ hp))
      rw [List.length_cons, List.length_cons, Nat.succ_mul]; omega
    · rw [cutAll, if_neg hx] at h ⊢
      cases hc : cutAll c r with
      | nil => exact absurd hc (cutAll_ne c r)
      | cons y t =>
        rw [hc] at h
        have hy := h (x :: y) List.mem_cons_self
        rw [List.length_cons] at hy
        have ih := fun B' h' => cutAll_sum c r B' h'
        rw [hc] at ih
        have h2 : ∀ (u : List (List UInt8)), (∀ p ∈ u, p.length ≤ B) → True := fun _ _ => trivial
        -- the rest, by a count of its own
        have key : r.length + 1 ≤ y.length + 1 + t.length * (B + 1) := by
          clear ih h2
          have : ∀ (r : List UInt8) (y : List UInt8) (t : List (List UInt8)), cutAll c r = y :: t → (∀ p ∈ t, p.length ≤ B) → r.length + 1 ≤ y.length + 1 + t.length * (B + 1) := by
            intro r
            induction r with
            | nil => intro y t e _; simp [cutAll] at e; obtain ⟨rfl, rfl⟩ := e; simp
            | cons z q ihq =>
              intro y t e ht
              by_cases hz : z = c
              · rw [cutAll, if_pos hz] at e
                obtain ⟨rfl, rfl⟩ := List.cons.inj e
                cases hq : cutAll c q with
                | nil => exact absurd hq (cutAll_ne c q)
                | cons y' t' =>
                  rw [hq] at ht
                  have h1 := ihq y' t' hq (fun p hp => ht p (List.mem_cons_of_mem _ hp))
                  have h3 := ht y' List.mem_cons_self
                  simp only [List.length_cons, List.length_nil, Nat.succ_mul]; omega
              · rw [cutAll, if_neg hz] at e
                cases hq : cutAll c q with
                | nil => exact absurd hq (cutAll_ne c q)
                | cons y' t' =>
                  rw [hq] at e
                  obtain ⟨rfl, rfl⟩ := List.cons.inj e
                  have h1 := ihq y' t' hq ht
                  simp only [List.length_cons]; omega
          exact this r y t hc (fun p hp => h p (List.mem_cons_of_mem _ hp))
        simp only [List.length_cons, Nat.succ_mul]; omega
theorem labc_lineb (b : UInt8) (h : labc b = true) : lineb b = true := by
  unfold labc at h
  rw [Bool.or_eq_true] at h
  unfold lineb
  rcases h with h | h <;> exact decide_eq_true (by have := of_decide_eq_true h; omega)
/-- A domain is a line. -/
theorem dom_line (l : List UInt8) (h : dom l = true) : line l = true := by
  unfold dom at h
  rw [Bool.and_eq_true] at h
  have h1 := List.all_eq_true.1 h.1
  have h2 := of_decide_eq_true h.2
  have hl : ∀ p ∈ cutAll 46 l, p.length ≤ 8 ∧ p.all labc = true := fun p hp => by
    have := h1 p hp
    unfold lab at this
    rw [Bool.and_eq_true] at this
    exact ⟨(of_decide_eq_true this.1).2, this.2⟩
  unfold line
  rw [Bool.and_eq_true]
  constructor
  · rw [List.all_eq_true]
    intro b hb
    rcases cutAll_mem 46 l b hb with rfl | ⟨p, hp, hb⟩
    · decide
    · exact labc_lineb b (List.all_eq_true.1 (hl p hp).2 b hb)
  · have := cutAll_sum 46 l 8 (fun p hp => (hl p hp).1)
    have h3 : (cutAll 46 l).length * 9 ≤ 3 * 9 := Nat.mul_le_mul_right 9 h2
    exact decide_eq_true (by omega)

theorem asksF_out (t : List UInt8) (z : Int) (h : ¬ (1 ≤ z ∧ z ≤ 4)) : asksF t true true true true z = false := by
  unfold asksF
  rw [beq_eq_false_iff_ne.2 (show z ≠ 1 by omega), beq_eq_false_iff_ne.2 (show z ≠ 2 by omega), beq_eq_false_iff_ne.2 (show z ≠ 3 by omega), beq_eq_false_iff_ne.2 (show z ≠ 4 by omega)]; rfl
theorem doesF_out (u d : List UInt8) (z : Int) (h : ¬ (1 ≤ z ∧ z ≤ 3)) : doesF u d true true true z = false := by
  unfold doesF
  rw [beq_eq_false_iff_ne.2 (show z ≠ 1 by omega), beq_eq_false_iff_ne.2 (show z ≠ 2 by omega), beq_eq_false_iff_ne.2 (show z ≠ 3 by omega)]; rfl
theorem doesF_in (u d : List UInt8) (z : Int) (h : 1 ≤ z ∧ z ≤ 3) : doesF u d true true true z = if z = 3 then addr u d else nul u d := by
  unfold doesF
  by_cases h3 : z = 3
  · subst h3; rfl
  · rw [if_neg h3]
    by_cases h1 : z = 1
    · subst h1; rfl
    · obtain rfl : z = 2 := by omega
      rfl
theorem isEmpty_line (l : List UInt8) (h : l.isEmpty = true) : line l = true := by
  cases l with
  | nil => rfl
  | cons a b => cases h
/-- What the asking part must say beside its being a line. -/
theorem asksF_in (t : List UInt8) (z : Int) (h : 1 ≤ z ∧ z ≤ 4) : asksF t true true true true z = (line t && if z = 1 then dom t else if z ≥ 3 then t.isEmpty else true) := by
  unfold asksF
  by_cases h1 : z = 1
  · subst h1
    rw [if_pos rfl]
    cases hd : dom t
    · simp [hd]
    · simp [dom_line t hd, hd]
  · rw [if_neg h1]
    by_cases h2 : z = 2
    · subst h2; simp
    · rw [if_pos (by omega)]
      have e : (z = 3 ∨ z = 4) := by omega
      cases he : t.isEmpty
      · rcases e with rfl | rfl <;> simp [he]
      · rw [isEmpty_line t he]; rcases e with rfl | rfl <;> simp [he]

/-- A rule by the reference's order of tests. -/
theorem ruleOk_by (x : SRule) : ruleOkS x = (decide (1 ≤ x.f0 ∧ x.f0 ≤ 4) && (decide (1 ≤ x.f2 ∧ x.f2 ≤ 3) && (line x.f1.data.toList && (!(decide (3 ≤ x.f0) && !x.f1.data.toList.isEmpty) && (!(decide (x.f0 = 1) && !dom x.f1.data.toList) && (if x.f2 = 3 then addr x.f3.f0.data.toList x.f3.f1.data.toList else nul x.f3.f0.data.toList x.f3.f1.data.toList)))))) := by
  unfold ruleOkS ruleOk
  by_cases h1 : 1 ≤ x.f0 ∧ x.f0 ≤ 4
  · by_cases h2 : 1 ≤ x.f2 ∧ x.f2 ≤ 3
    · rw [asksF_in _ _ h1, doesF_in _ _ _ h2, decide_eq_true h1, decide_eq_true h2]
      generalize (if x.f2 = 3 then addr x.f3.f0.data.toList x.f3.f1.data.toList else nul x.f3.f0.data.toList x.f3.f1.data.toList) = r
      by_cases h3 : x.f0 = 1
      · rw [if_pos h3, decide_eq_true h3, decide_eq_false (by omega : ¬ 3 ≤ x.f0)]
        cases line x.f1.data.toList <;> cases dom x.f1.data.toList <;> rfl
      · rw [if_neg h3, decide_eq_false h3]
        by_cases h4 : 3 ≤ x.f0
        · rw [if_pos h4, decide_eq_true h4]
          cases line x.f1.data.toList <;> cases x.f1.data.toList.isEmpty <;> rfl
        · rw [if_neg (by omega), decide_eq_false h4]
          cases line x.f1.data.toList <;> rfl
    · rw [doesF_out _ _ _ h2, decide_eq_false h2]
      simp
  · rw [asksF_out _ _ h1, decide_eq_false h1]
    simp

end Go.Proofs.YtoppgnmnbbhghaaDoor
