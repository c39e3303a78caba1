/- The reference's word on rules: plain Lean. -/
import Derived.Test.YtomcaichidepnaaDoorPure2
import Derived.Test.YtomcaichidepnaaDoorSieve2
namespace Go.Proofs.YtomcaichidepnaaDoor
open Go.RowKit Go.Proofs.YtomcaichidepnaaDoorW.PrintWords P
set_option linter.unusedVariables false
set_option linter.unusedSimpArgs false

theorem cutAll_mem (c : UInt8) : ∀ (l : List UInt8) (b : UInt8), b ∈ l → b = c ∨ ∃ p ∈ cutAll c l, b ∈ p
  | [], b, h => by cases h
  | x :: r, b, h => by
    by_cases hx : x = c
    · rw [cutAll, if_pos hx]
      rcases List.mem_cons.1 h with rfl | h
      · exact .inl hx
      · rcases cutAll_mem c r b h with e | ⟨p, hp, hb⟩
        · exact .inl e
        · exact .inr ⟨p, List.mem_cons_of_mem _ hp, hb⟩
    · rw [cutAll, if_neg hx]
      cases hc : cutAll c r with
      | nil => exact absurd hc (cutAll_ne c r)
      | cons y t =>
        rcases List.mem_cons.1 h with rfl | h
        · exact .inr ⟨b :: y, List.mem_cons_self, List.mem_cons_self⟩
        · rcases cutAll_mem c r b h with e | ⟨p, hp, hb⟩
          · exact .inl e
          · rw [hc] at hp
            rcases List.mem_cons.1 hp with rfl | hp
            · exact .inr ⟨x :: p, List.mem_cons_self, List.mem_cons_of_mem _ hb⟩
            · exact .inr ⟨p, List.mem_cons_of_mem _ hp, hb⟩
theorem cutAll_sum (c : UInt8) : ∀ (l : List UInt8) (B : Nat), (∀ p ∈ cutAll c l, p.length ≤ B) → l.length + 1 ≤ (cutAll c l).length * (B + 1)
  | [], B, h => by simp [cutAll]
  | x :: r, B, h => by
    by_cases hx : x = c
    · rw [cutAll, if_pos hx] at h ⊢
      have := cutAll_sum c r B (fun p hp => h p (List.mem_cons_of_mem _ hp))
      rw [List.length_cons, List.length_cons, Nat.succ_mul]; omega
    · rw [cutAll, if_neg hx] at h ⊢
      cases hc : cutAll c r with
      | nil => exact absurd hc (cutAll_ne c r)
      | cons y t =>
        rw [hc] at h
        have hy := h (x :: y) List.mem_cons_self
        rw [List.length_cons] at hy
        have ih := fun B' h' => cutAll_sum c r B' h'
        rw [hc] at ih
        have h2 : ∀ (u : List (List UInt8)), (∀ p ∈ u, p.length ≤ B) → True := fun _ _ => trivial
        -- the rest, by a count of its own
        have key : r.length + 1 ≤ y.length + 1 + t.length * (B + 1) := by
          clear ih h2
          have : ∀ (r : List UInt8) (y : List UInt8) (t : List (List UInt8)), cutAll c r = y :: t → (∀ p ∈ t, p.length ≤ B) → r.length + 1 ≤ y.length + 1 + t.length * (B + 1) := by
            intro r
            induction r with
            | nil => intro y t e _; simp [cutAll] at e; obtain ⟨rfl, rfl⟩ := e; simp
            | cons z q ihq =>
              intro y t e ht
              by_cases hz : z = c
              · rw [cutAll, if_pos hz] at e
                obtain ⟨rfl, rfl⟩ := List.cons.inj e
                cases hq : cutAll c q with
                | nil => exact absurd hq (cutAll_ne c q)
                | cons y' t' =>
                  rw [hq] at ht
                  have h1 := ihq y' t' hq (fun p hp => ht p (List.mem_cons_of_mem _ hp))
                  have h3 := ht y' List.mem_cons_self
                  simp only [List.length_cons, List.length_nil, Nat.succ_mul]; omega
              · rw [cutAll, if_neg hz] at e
                cases hq : cutAll c q with
                | nil => exact absurd hq (cutAll_ne c q)
                | cons y' t' =>
                  rw [hq] at e
                  obtain ⟨rfl, rfl⟩ := List.cons.inj e
                  have h1 := ihq y' t' hq ht
                  simp only [List.length_cons]; omega
          exact this r y t hc (fun p hp => h p (List.mem_cons_of_mem _ hp))
        simp only [List.length_cons, Nat.succ_mul]; omega
theorem labc_lineb (b : UInt8) (h : labc b = true) : lineb b = true := by
  unfold labc at h
  rw [Bool.or_eq_true] at h
  unfold lineb
  rcases h with h | h <;> exact decide_eq_true (by have := of_decide_eq_true h; omega)
/-- A domain is a line. -/
theorem dom_line (l : List UInt8) (h : dom l = true) : line l = true := by
  unfold dom at h
  rw [Bool.and_eq_true] at h
  have h1 := List.all_eq_true.1 h.1
  have h2 := of_decide_eq_true h.2
  have hl : ∀ p ∈ cutAll 46 l, p.length ≤ 8 ∧ p.all labc = true := fun p hp => by
    have := h1 p hp
    unfold lab at this
    rw [Bool.and_eq_true] at this
    exact ⟨(of_decide_eq_true this.1).2, this.2⟩
  unfold line
  rw [Bool.and_eq_true]
  constructor
  · rw [List.all_eq_true]
    intro b hb
    rcases cutAll_mem 46 l b hb with rfl | ⟨p, hp, hb⟩
    · decide
    · exact labc_lineb b (List.all_eq_true.1 (hl p hp).2 b hb)
  · have := cutAll_sum 46 l 8 (fun p hp => (hl p hp).1)
    have h3 : (cutAll 46 l).length * 9 ≤ 3 * 9 := Nat.mul_le_mul_right 9 h2
    exact decide_eq_true (by omega)

theorem j1_true (xs : List S57) (k a b : Int) (t u d : ByteArray) : Ev (fun n => spec_l13Ok.j1 n xs k true a t b u d) false := by
  refine shift ?_
  simp only [spec_l13Ok.j1, if_true]
  exact Ev.now _
theorem asksF_out (t : List UInt8) (z : Int) (h : ¬ (1 ≤ z ∧ z ≤ 4)) : asksF t true true true true z = false := by
  unfold asksF
  rw [beq_eq_false_iff_ne.2 (show z ≠ 1 by omega), beq_eq_false_iff_ne.2 (show z ≠ 2 by omega), beq_eq_false_iff_ne.2 (show z ≠ 3 by omega), beq_eq_false_iff_ne.2 (show z ≠ 4 by omega)]; rfl
theorem doesF_out (u d : List UInt8) (z : Int) (h : ¬ (1 ≤ z ∧ z ≤ 3)) : doesF u d true true true z = false := by
  unfold doesF
  rw [beq_eq_false_iff_ne.2 (show z ≠ 1 by omega), beq_eq_false_iff_ne.2 (show z ≠ 2 by omega), beq_eq_false_iff_ne.2 (show z ≠ 3 by omega)]; rfl
theorem doesF_in (u d : List UInt8) (z : Int) (h : 1 ≤ z ∧ z ≤ 3) : doesF u d true true true z = if z = 3 then addr u d else nul u d := by
  unfold doesF
  by_cases h3 : z = 3
  · subst h3; rfl
  · rw [if_neg h3]
    by_cases h1 : z = 1
    · subst h1; rfl
    · obtain rfl : z = 2 := by omega
      rfl
theorem isEmpty_line (l : List UInt8) (h : l.isEmpty = true) : line l = true := by
  cases l with
  | nil => rfl
  | cons a b => cases h
/-- What the asking part must say beside its being a line. -/
theorem asksF_in (t : List UInt8) (z : Int) (h : 1 ≤ z ∧ z ≤ 4) : asksF t true true true true z = (line t && if z = 1 then dom t else if z ≥ 3 then t.isEmpty else true) := by
  unfold asksF
  by_cases h1 : z = 1
  · subst h1
    rw [if_pos rfl]
    cases hd : dom t
    · simp [hd]
    · simp [dom_line t hd, hd]
  · rw [if_neg h1]
    by_cases h2 : z = 2
    · subst h2; simp
    · rw [if_pos (by omega)]
      have e : (z = 3 ∨ z = 4) := by omega
      cases he : t.isEmpty
      · rcases e with rfl | rfl <;> simp [he]
      · rw [isEmpty_line t he]; rcases e with rfl | rfl <;> simp [he]
/-- The reference's last tests of a rule. -/
theorem does_tail (xs : List S57) (k dn : Int) (u d : ByteArray) (r : Bool) (hu : u.size < 9223372036854775807) (hd : d.size < 9223372036854775807) (hdn : 1 ≤ dn ∧ dn ≤ 3)
    (hn : doesF u.data.toList d.data.toList true true true dn = true → Ev (fun n => spec_l13Ok.l0 n xs k) r) (hf : doesF u.data.toList d.data.toList true true true dn = false → r = false) :
    Ev (fun n => if dn = 3 then ((spec_l1AddrOk.f n u d).bind fun t => (if t = true then (spec_l13Ok.l0 n xs k) else (some false))) else ((spec_l1Null.f u d).bind fun t => (if t = true then (spec_l13Ok.l0 n xs k) else (some false)))) r := by
  rw [doesF_in _ _ _ hdn] at hn hf
  by_cases h3 : dn = 3
  · simp only [if_pos h3] at hn hf ⊢
    refine Ev.bind (addrOk_ev u d hu hd) ?_
    cases hq : addr u.data.toList d.data.toList
    · rw [hf hq]; simp only [Bool.false_eq_true, if_false]; exact Ev.now _
    · simp only [if_true]; exact hn hq
  · simp only [if_neg h3] at hn hf ⊢
    rw [null_is]
    simp only [Option.bind_some]
    cases hq : nul u.data.toList d.data.toList
    · rw [hf hq]; simp only [Bool.false_eq_true, if_false]; exact Ev.now _
    · simp only [if_true]; exact hn hq
theorem rule_loop (xs : List S57) (hlen : xs.length < 9223372036854775807) (hx : ∀ x ∈ xs, RFit x) (d : Nat) : ∀ k : Nat, k + d = xs.length → (∀ j, j < k → ruleOkS (xs.getD j z57) = true) →
    Ev (fun n => spec_l13Ok.l0 n xs k) (sieveOk xs) := by
  induction d with
  | zero =>
    intro k hk hb
    refine shift ?_
    simp only [spec_l13Ok.l0]
    simp only [if_neg (show ¬ (k : Int) < (xs.length : Int) by omega)]
    unfold sieveOk
    rw [all_getD _ _ z57 (fun j hj => hb j (by omega)), Bool.and_true, show decide ((xs.length : Int) ≤ 5) = decide (xs.length ≤ 5) from decide_eq_decide.2 (by omega)]
    exact Ev.now _
  | succ d ih =>
    intro k hk hb
    have hlt : k < xs.length := by omega
    have hfit := hx (xs.getD k z57) (by rw [List.getD, List.getElem?_eq_getElem hlt]; exact List.getElem_mem hlt)
    have hn : ruleOkS (xs.getD k z57) = true → Ev (fun n => spec_l13Ok.l0 n xs (wrap64 ((k : Int) + 1))) (sieveOk xs) := fun hq => by
      rw [wrap_nat k (by omega)]
      exact ih (k + 1) (by omega) (fun j hj => by
        by_cases e : j = k
        · subst e; exact hq
        · exact hb j (by omega))
    have hf : ruleOkS (xs.getD k z57) = false → sieveOk xs = false := fun hq => by
      unfold sieveOk
      rw [all_getD_false ruleOkS xs z57 k hlt hq, Bool.and_false]
    refine shift ?_
    simp only [spec_l13Ok.l0]
    simp only [if_pos (show (k : Int) < (xs.length : Int) by omega), if_pos (show (0 : Int) ≤ (k : Int) by omega)]
    have hrd : rd_T57 xs (k : Int) = xs.getD k z57 := rfl
    rw [hrd]
    generalize xs.getD k z57 = x at hfit hn hf
    obtain ⟨ask, t, dn, ⟨u, dm⟩⟩ := x
    obtain ⟨w1, w2, s1, s2, s3⟩ := hfit
    simp only at w1 w2 s1 s2 s3 ⊢
    simp only [l1In_is, Option.bind_some, decide_eq_true_iff]
    unfold ruleOkS ruleOk at hn hf
    simp only at hn hf
    by_cases ha : 1 ≤ ask ∧ ask ≤ 4
    · rw [asksF_in _ _ ha] at hn hf
      by_cases hd : 1 ≤ dn ∧ dn ≤ 3
      · simp only [if_pos ha, if_pos hd]
        refine Ev.bind (lineOk_ev t (by omega)) ?_
        cases hl : line t.data.toList
        · simp only [Bool.false_eq_true, if_false]
          rw [hf (by rw [hl]; rfl)]
          exact j1_true _ _ _ _ _ _ _
        · rw [hl, Bool.true_and] at hn hf
          simp only [if_true]
          by_cases h3 : ask ≥ 3
          · simp only [if_pos h3]
            rw [if_neg (show ¬ ask = 1 by omega), if_pos h3] at hn hf
            rw [bl]
            cases he : t.data.toList.isEmpty
            · have e : (t.data.toList != ([] : List UInt8)) = true := by cases h : t.data.toList with
                | nil => rw [h] at he; cases he
                | cons a b => rfl
              rw [e, hf (by rw [he]; rfl)]
              exact j1_true _ _ _ _ _ _ _
            · have e : (t.data.toList != ([] : List UInt8)) = false := by cases h : t.data.toList with
                | nil => rfl
                | cons a b => rw [h] at he; cases he
              rw [he, Bool.true_and] at hn hf
              rw [e]
              refine shift ?_
              simp only [spec_l13Ok.j1]
              simp only [Bool.false_eq_true, if_false, if_neg (show ¬ ask = 1 by omega)]
              exact does_tail xs _ dn u dm _ (by omega) (by omega) hd hn hf
          · simp only [if_neg h3]
            rw [if_neg h3] at hn hf
            refine shift ?_
            simp only [spec_l13Ok.j1]
            simp only [Bool.false_eq_true, if_false]
            by_cases h1 : ask = 1
            · simp only [if_pos h1] at hn hf ⊢
              refine Ev.bind (domain_ev t (by omega)) ?_
              cases hq : dom t.data.toList
              · rw [hf (by rw [hq]; rfl)]; simp only [Bool.false_eq_true, if_false]; exact Ev.now _
              · rw [hq, Bool.true_and] at hn hf
                simp only [if_true]
                exact does_tail xs _ dn u dm _ (by omega) (by omega) hd hn hf
            · simp only [if_neg h1] at hn hf ⊢
              rw [Bool.true_and] at hn hf
              exact does_tail xs _ dn u dm _ (by omega) (by omega) hd hn hf
      · simp only [if_pos ha, if_neg hd]
        rw [hf (by rw [doesF_out _ _ _ hd, Bool.and_false])]
        exact j1_true _ _ _ _ _ _ _
    · simp only [if_neg ha]
      rw [hf (by rw [asksF_out _ _ ha]; rfl)]
      exact j1_true _ _ _ _ _ _ _
theorem sieveOk_ev (xs : List S57) (hlen : xs.length < 9223372036854775807) (hx : ∀ x ∈ xs, RFit x) : Ev (fun n => spec_l13Ok.f n xs) (sieveOk xs) :=
  rule_loop xs hlen hx xs.length 0 (by omega) (fun j hj => by omega)
end Go.Proofs.YtomcaichidepnaaDoor
