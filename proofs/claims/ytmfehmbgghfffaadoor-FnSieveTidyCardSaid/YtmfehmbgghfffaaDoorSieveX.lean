/- What a rule that is ok owes: plain facts. -/
import Derived.Test.YtmfehmbgghfffaaDoorSieveI
import Derived.Test.YtmfehmbgghfffaaDoorCut
import Derived.Test.YtmfehmbgghfffaaDoorSpecC
import Derived.Test.YtmfehmbgghfffaaDoorBlk
import Derived.Deep.QuietTactic
import Derived.Test.YtmfehmbgghfffaaDoorSieveS
import Derived.Test.YtmfehmbgghfffaaDoorMailS
import Derived.Test.YtmfehmbgghfffaaDoorCopyM
import Derived.Test.YtmfehmbgghfffaaDoorDrw0
import Derived.Deep.RegionHeld3
import Derived.Test.YtmfehmbgghfffaaDoorCopyS
namespace Go.Proofs.YtmfehmbgghfffaaDoor
open Go.RowKit Go.Proofs.YtmfehmbgghfffaaDoorW.PrintWords
set_option linter.unusedVariables false
set_option linter.unusedSimpArgs false


theorem cutAll_mem (c : UInt8) : ∀ (l : List UInt8) (b : UInt8), b ∈ l → b = c ∨ ∃ p ∈ cutAll c l, b ∈ p
  | [], b, h => by cases h
  | x :: r, b, h => by
    by_cases hx : x = c
    · rw [cutAll, if_pos hx]
      rcases List.mem_cons.1 h with rfl | h
      · exact .inl hx
      · rcases cutAll_mem c r b h with e | ⟨p, hp, hb⟩
        · exact .inl e
        · exact .inr ⟨p, List.mem_cons_of_mem _ hp, hb⟩
    · rw [cutAll, if_neg hx]
      cases hc : cutAll c r with
      | nil => exact absurd hc (cutAll_ne c r)
      | cons y t =>
        rcases List.mem_cons.1 h with rfl | h
        · exact .inr ⟨b :: y, List.mem_cons_self, List.mem_cons_self⟩
        · rcases cutAll_mem c r b h with e | ⟨p, hp, hb⟩
          · exact .inl e
          · rw [hc] at hp
            rcases List.mem_cons.1 hp with rfl | hp
            · exact .inr ⟨x :: p, List.mem_cons_self, List.mem_cons_of_mem _ hb⟩
            · exact .inr ⟨p, List.mem_cons_of_mem _ hp, hb⟩
theorem cutAll_sum (c : UInt8) : ∀ (l : List UInt8) (B : Nat), (∀ p ∈ cutAll c l, p.length ≤ B) → l.length + 1 ≤ (cutAll c l).length * (B + 1)
  | [], B, h => by simp [cutAll]
  | x :: r, B, h => by
    by_cases hx : x = c
    · rw [cutAll, if_pos hx] at h ⊢
      have := cutAll_sum c r B (fun p hp => h p (List.mem_cons_of_mem _ hp))
      rw [List.length_cons, List.length_cons, Nat.succ_mul]; omega
    · rw [cutAll, if_neg hx] at h ⊢
      cases hc : cutAll c r with
      | nil => exact absurd hc (cutAll_ne c r)
      | cons y t =>
        rw [hc] at h
        have hy := h (x :: y) List.mem_cons_self
        rw [List.length_cons] at hy
        have ih := fun B' h' => cutAll_sum c r B' h'
        rw [hc] at ih
        have h2 : ∀ (u : List (List UInt8)), (∀ p ∈ u, p.length ≤ B) → True := fun _ _ => trivial
        -- the rest, by a count of its own
        have key : r.length + 1 ≤ y.length + 1 + t.length * (B + 1) := by
          clear ih h2
          have : ∀ (r : List UInt8) (y : List UInt8) (t : List (List UInt8)), cutAll c r = y :: t → (∀ p ∈ t, p.length ≤ B) → r.length + 1 ≤ y.length + 1 + t.length * (B + 1) := by
            intro r
            induction r with
            | nil => intro y t e _; simp [cutAll] at e; obtain ⟨rfl, rfl⟩ := e; simp
            | cons z q ihq =>
              intro y t e ht
              by_cases hz : z = c
              · rw [cutAll, if_pos hz] at e
                obtain ⟨rfl, rfl⟩ := List.cons.inj e
                cases hq : cutAll c q with
                | nil => exact absurd hq (cutAll_ne c q)
                | cons y' t' =>
                  rw [hq] at ht
                  have h1 := ihq y' t' hq (fun p hp => ht p (List.mem_cons_of_mem _ hp))
                  have h3 := ht y' List.mem_cons_self
                  simp only [List.length_cons, List.length_nil, Nat.succ_mul]; omega
              · rw [cutAll, if_neg hz] at e
                cases hq : cutAll c q with
                | nil => exact absurd hq (cutAll_ne c q)
                | cons y' t' =>
                  rw [hq] at e
                  obtain ⟨rfl, rfl⟩ := List.cons.inj e
                  have h1 := ihq y' t' hq ht
                  simp only [List.length_cons]; omega
          exact this r y t hc (fun p hp => h p (List.mem_cons_of_mem _ hp))
        simp only [List.length_cons, Nat.succ_mul]; omega
theorem labc_lineb (b : UInt8) (h : labc b = true) : lineb b = true := by
  unfold labc at h
  rw [Bool.or_eq_true] at h
  unfold lineb
  rcases h with h | h <;> exact decide_eq_true (by have := of_decide_eq_true h; omega)
/-- A domain is a line. -/
theorem dom_line (l : List UInt8) (h : dom l = true) : line l = true := by
  unfold dom at h
  rw [Bool.and_eq_true] at h
  have h1 := List.all_eq_true.1 h.1
  have h2 := of_decide_eq_true h.2
  have hl : ∀ p ∈ cutAll 46 l, p.length ≤ 8 ∧ p.all labc = true := fun p hp => by
    have := h1 p hp
    unfold lab at this
    rw [Bool.and_eq_true] at this
    exact ⟨(of_decide_eq_true this.1).2, this.2⟩
  unfold line
  rw [Bool.and_eq_true]
  constructor
  · rw [List.all_eq_true]
    intro b hb
    rcases cutAll_mem 46 l b hb with rfl | ⟨p, hp, hb⟩
    · decide
    · exact labc_lineb b (List.all_eq_true.1 (hl p hp).2 b hb)
  · have := cutAll_sum 46 l 8 (fun p hp => (hl p hp).1)
    have h3 : (cutAll 46 l).length * 9 ≤ 3 * 9 := Nat.mul_le_mul_right 9 h2
    exact decide_eq_true (by omega)

theorem asksF_out (t : List UInt8) (z : Int) (h : ¬ (1 ≤ z ∧ z ≤ 4)) : asksF t true true true true z = false := by
  unfold asksF
  rw [beq_eq_false_iff_ne.2 (show z ≠ 1 by omega), beq_eq_false_iff_ne.2 (show z ≠ 2 by omega), beq_eq_false_iff_ne.2 (show z ≠ 3 by omega), beq_eq_false_iff_ne.2 (show z ≠ 4 by omega)]; rfl
theorem doesF_out (u d : List UInt8) (z : Int) (h : ¬ (1 ≤ z ∧ z ≤ 3)) : doesF u d true true true z = false := by
  unfold doesF
  rw [beq_eq_false_iff_ne.2 (show z ≠ 1 by omega), beq_eq_false_iff_ne.2 (show z ≠ 2 by omega), beq_eq_false_iff_ne.2 (show z ≠ 3 by omega)]; rfl
theorem doesF_in (u d : List UInt8) (z : Int) (h : 1 ≤ z ∧ z ≤ 3) : doesF u d true true true z = if z = 3 then addr u d else nul u d := by
  unfold doesF
  by_cases h3 : z = 3
  · subst h3; rfl
  · rw [if_neg h3]
    by_cases h1 : z = 1
    · subst h1; rfl
    · obtain rfl : z = 2 := by omega
      rfl
theorem isEmpty_line (l : List UInt8) (h : l.isEmpty = true) : line l = true := by
  cases l with
  | nil => rfl
  | cons a b => cases h
/-- What the asking part must say beside its being a line. -/
theorem asksF_in (t : List UInt8) (z : Int) (h : 1 ≤ z ∧ z ≤ 4) : asksF t true true true true z = (line t && if z = 1 then dom t else if z ≥ 3 then t.isEmpty else true) := by
  unfold asksF
  by_cases h1 : z = 1
  · subst h1
    rw [if_pos rfl]
    cases hd : dom t
    · simp [hd]
    · simp [dom_line t hd, hd]
  · rw [if_neg h1]
    by_cases h2 : z = 2
    · subst h2; simp
    · rw [if_pos (by omega)]
      have e : (z = 3 ∨ z = 4) := by omega
      cases he : t.isEmpty
      · rcases e with rfl | rfl <;> simp [he]
      · rw [isEmpty_line t he]; rcases e with rfl | rfl <;> simp [he]

/-- A rule by the reference's order of tests. -/
theorem ruleOk_by (x : SRule) : ruleOkS x = (decide (1 ≤ x.f0 ∧ x.f0 ≤ 4) && (decide (1 ≤ x.f2 ∧ x.f2 ≤ 3) && (line x.f1.data.toList && (!(decide (3 ≤ x.f0) && !x.f1.data.toList.isEmpty) && (!(decide (x.f0 = 1) && !dom x.f1.data.toList) && (if x.f2 = 3 then addr x.f3.f0.data.toList x.f3.f1.data.toList else nul x.f3.f0.data.toList x.f3.f1.data.toList)))))) := by
  unfold ruleOkS ruleOk
  by_cases h1 : 1 ≤ x.f0 ∧ x.f0 ≤ 4
  · by_cases h2 : 1 ≤ x.f2 ∧ x.f2 ≤ 3
    · rw [asksF_in _ _ h1, doesF_in _ _ _ h2, decide_eq_true h1, decide_eq_true h2]
      generalize (if x.f2 = 3 then addr x.f3.f0.data.toList x.f3.f1.data.toList else nul x.f3.f0.data.toList x.f3.f1.data.toList) = r
      by_cases h3 : x.f0 = 1
      · rw [if_pos h3, decide_eq_true h3, decide_eq_false (by omega : ¬ 3 ≤ x.f0)]
        cases line x.f1.data.toList <;> cases dom x.f1.data.toList <;> rfl
      · rw [if_neg h3, decide_eq_false h3]
        by_cases h4 : 3 ≤ x.f0
        · rw [if_pos h4, decide_eq_true h4]
          cases line x.f1.data.toList <;> cases x.f1.data.toList.isEmpty <;> rfl
        · rw [if_neg (by omega), decide_eq_false h4]
          cases line x.f1.data.toList <;> rfl
    · rw [doesF_out _ _ _ h2, decide_eq_false h2]
      simp
  · rw [asksF_out _ _ h1, decide_eq_false h1]
    simp

end Go.Proofs.YtmfehmbgghfffaaDoor

/- The mailbox rules, of the reference: what is ok: a contract. -/
namespace Go.Proofs.YtmfehmbgghfffaaDoor
open Go.RowKit Go.Proofs.YtmfehmbgghfffaaDoorW.PrintWords
set_option linter.unusedVariables false
set_option linter.unusedSimpArgs false

theorem cells5 {w : World} {b : Nat} {c0 c1 c2 c3 c4 : Value} {t : TypeId} (h : w.heap[b]? = some (.cells #[c0, c1, c2, c3, c4] t (0, 0))) : w.cell? ⟨b, 0, none⟩ = some c0 ∧ w.cell? ⟨b, 1, none⟩ = some c1 ∧ w.cell? ⟨b, 2, none⟩ = some c2 ∧ w.cell? ⟨b, 3, none⟩ = some c3 ∧ w.cell? ⟨b, 4, none⟩ = some c4 := by simp [World.cell?, h]
theorem sieve_no {xs : List SRule} {k : Nat} (hk : k < xs.length) (h : ruleOkS (xs.getD k zRule) = false) : sieveOk xs = false := by
  unfold sieveOk
  rw [Bool.and_eq_false_iff]
  right
  rw [List.all_eq_false]
  exact ⟨_, getD_mem xs zRule hk, by rw [h]; decide⟩
theorem sieve_yes {xs : List SRule} (h : ∀ j, j < xs.length → ruleOkS (xs.getD j zRule) = true) : sieveOk xs = decide (xs.length ≤ 5) := by
  unfold sieveOk
  rw [List.all_eq_true.2 (fun x hx => ?_), Bool.and_true]
  obtain ⟨j, hj, rfl⟩ := List.getElem_of_mem hx
  have := h j hj
  rwa [List.getD, List.getElem?_eq_getElem hj] at this
set_option maxRecDepth 100000 in
set_option maxHeartbeats 8000000 in
theorem specOk13_any (A : Option Addr) (c : Nat) (xs : List SRule) (w : World) (hr : Kd.C kRule w A xs.length xs) (hl : xs.length ≤ 1048576) (hx : ∀ x ∈ xs, RFit x) :
    Calls Tryd.prog 54 #[.slice A xs.length c] w fun e w' => e = .returned (.bool (sieveOk xs)) ∧ Below w.heap.size w w' := by
  have HX := Lib.hid hx
  have HR := Aside0.mk hr
  clear hx hr
  go_enter Tryd.func54, Tryd.ntmps54
  go_wp2
  go_loopg [3, 4] (xs.length) (fun g v _ wr => ∃ k : Nat, k ≤ xs.length ∧ xs.length - k ≤ g ∧ v = .int .i64 k ∧ Aside0 (Below w.heap.size w wr) ∧ Aside0 (∀ j, j < k → ruleOkS (xs.getD j zRule) = true))
  case atStart => exact ⟨0, Nat.zero_le _, by omega, rfl, ⟨Below.refl _ _⟩, ⟨fun j hj => absurd hj (Nat.not_lt_zero _)⟩⟩
  case round =>
    obtain ⟨k, hk, hg, rfl, BW, H⟩ := hrel
    by_cases hlt : k < xs.length
    · have hlt' : (k : Int) < (xs.length : Int) := by omega
      obtain ⟨ad, e1, p0, p1, p2, p3, p4⟩ := at_Rule (Kd.C_below HR.out BW.out) k hlt
      subst e1
      have hxm := HX.out (xs.getD k zRule) (getD_mem xs zRule hlt)
      have hby := ruleOk_by (xs.getD k zRule)
      have hno := fun h => sieve_no (xs := xs) hlt h
      have hps : ruleOkS (xs.getD k zRule) = true → ∀ j, j < k + 1 → ruleOkS (xs.getD j zRule) = true := fun h j hj => by
        by_cases e : j = k
        · subst e; exact h
        · exact H.out j (by omega)
      generalize xs.getD k zRule = y at p0 p1 p2 p3 p4 hxm hby hno hps
      have HBY := Lib.hid hby
      have HFAIL := Lib.hid hno
      have HPASS := Lib.hid hps
      obtain ⟨-, -, s1, s3, s4⟩ := hxm
      have h1 : ∀ W, Below w.heap.size w W → Calls Tryd.prog 87 #[.int .i64 y.f0, .int .i64 1, .int .i64 4] W fun e w' => e = .returned (.bool (decide ((1 : Int) ≤ y.f0) && decide (y.f0 ≤ 4))) ∧ Below W.heap.size W w' := fun W _ => Calls.mono (specIn_any y.f0 1 4 W) (by rintro e w' ⟨rfl, rfl⟩; exact ⟨rfl, Below.refl _ _⟩)
      have h2 : ∀ W, Below w.heap.size w W → Calls Tryd.prog 87 #[.int .i64 y.f2, .int .i64 1, .int .i64 3] W fun e w' => e = .returned (.bool (decide ((1 : Int) ≤ y.f2) && decide (y.f2 ≤ 3))) ∧ Below W.heap.size W w' := fun W _ => Calls.mono (specIn_any y.f2 1 3 W) (by rintro e w' ⟨rfl, rfl⟩; exact ⟨rfl, Below.refl _ _⟩)
      have h3 := fun W (hW : Below w.heap.size w W) => specLine_any y.f1 W (by omega)
      have h4 := fun W (hW : Below w.heap.size w W) => specDomain_any y.f1 W (by omega)
      have h5 := fun W (hW : Below w.heap.size w W) => specAddr_any y.f3.f0 y.f3.f1 W (by omega) (by omega)
      have h6 := fun W (hW : Below w.heap.size w W) => specNull_any y.f3.f0 y.f3.f1 W
      clear hby hno hps s1 s3 s4
      obtain ⟨W0, hW0⟩ : ∃ W0, W0 = wr.alloc (.cells #[.int .i64 y.f0, .string y.f1, .int .i64 y.f2, .string y.f3.f0, .string y.f3.f1] 65) := ⟨_, rfl⟩
      have FB : W0.heap[wr.heap.size]? = some (.cells #[.int .i64 y.f0, .string y.f1, .int .i64 y.f2, .string y.f3.f0, .string y.f3.f1] 65 (0, 0)) := by rw [hW0]; exact blk_new _ _
      have HB0 : Aside0 (Below w.heap.size w W0) := ⟨by rw [hW0]; exact bel_alloc BW.out _⟩
      have HC : Aside0 (∀ W, Below W0.heap.size W0 W → W.cell? ⟨wr.heap.size, 0, none⟩ = some (.int .i64 y.f0) ∧ W.cell? ⟨wr.heap.size, 1, none⟩ = some (.string y.f1) ∧ W.cell? ⟨wr.heap.size, 2, none⟩ = some (.int .i64 y.f2) ∧ W.cell? ⟨wr.heap.size, 3, none⟩ = some (.string y.f3.f0) ∧ W.cell? ⟨wr.heap.size, 4, none⟩ = some (.string y.f3.f1)) := ⟨fun W h => cells5 (below_blk FB h)⟩
      obtain ⟨c0_, c1_, c2_, c3_, c4_⟩ := cells5 FB
      have HW0 := Lib.hid hW0
      clear hW0 FB
      go_wp2_with fail
      rw [← HW0.out]
      clear p0 p1 p2 p3 p4 HW0
      by_cases c1 : 1 ≤ y.f0 ∧ y.f0 ≤ 4
      · have C1 := Lib.hid c1
        have q1 : (decide ((1 : Int) ≤ y.f0) && decide (y.f0 ≤ 4)) = true := by simp [c1.1, c1.2]
        rw [q1] at h1
        clear q1
        by_cases c2 : 1 ≤ y.f2 ∧ y.f2 ≤ 3
        · have C2 := Lib.hid c2
          have q2 : (decide ((1 : Int) ≤ y.f2) && decide (y.f2 ≤ 3)) = true := by simp [c2.1, c2.2]
          rw [q2] at h2
          clear q2
          cases q3 : line y.f1.data.toList
          · rw [q3] at h3
            have Hq3 := Lib.hid q3
            clear q3
            go_wp2_with (first | (go_at_call 87; with_reducible refine (h1 _ ?hbel).mono ?_; (case hbel => exact bel_then HB0.out (by (with_reducible repeat (first | exact (Below.refl _ _) | refine bel_alloc ?_ _ | refine bel_set ?_ _ ?_ | refine blw_drewN ?_ _ | refine Below.drew ?_)); all_goals (first | (simp; done) | (simp; omega) | omega))); rintro e w1 ⟨rfl, b1⟩; have B1 : Below W0.heap.size W0 w1 := bel_then (by (with_reducible repeat (first | exact (Below.refl _ _) | refine bel_alloc ?_ _ | refine bel_set ?_ _ ?_ | refine blw_drewN ?_ _ | refine Below.drew ?_)); all_goals (first | (simp; done) | (simp; omega) | omega)) b1; obtain ⟨da0_, da1_, da2_, da3_, da4_⟩ := HC.out _ B1; clear b1) | (go_at_call 87; with_reducible refine (h2 _ ?hbel).mono ?_; (case hbel => exact bel_then HB0.out (by (with_reducible repeat (first | exact B1 | refine bel_alloc ?_ _ | refine bel_set ?_ _ ?_ | refine blw_drewN ?_ _ | refine Below.drew ?_)); all_goals (first | (simp; done) | (simp; omega) | omega))); rintro e w2 ⟨rfl, b2⟩; have B2 : Below W0.heap.size W0 w2 := bel_then (by (with_reducible repeat (first | exact B1 | refine bel_alloc ?_ _ | refine bel_set ?_ _ ?_ | refine blw_drewN ?_ _ | refine Below.drew ?_)); all_goals (first | (simp; done) | (simp; omega) | omega)) b2; obtain ⟨db0_, db1_, db2_, db3_, db4_⟩ := HC.out _ B2; clear b2) | (go_at_call 99; with_reducible refine (h3 _ ?hbel).mono ?_; (case hbel => exact bel_then HB0.out (by (with_reducible repeat (first | exact B2 | refine bel_alloc ?_ _ | refine bel_set ?_ _ ?_ | refine blw_drewN ?_ _ | refine Below.drew ?_)); all_goals (first | (simp; done) | (simp; omega) | omega))); rintro e w3 ⟨rfl, b3⟩; have B3 : Below W0.heap.size W0 w3 := bel_then (by (with_reducible repeat (first | exact B2 | refine bel_alloc ?_ _ | refine bel_set ?_ _ ?_ | refine blw_drewN ?_ _ | refine Below.drew ?_)); all_goals (first | (simp; done) | (simp; omega) | omega)) b3; obtain ⟨dc0_, dc1_, dc2_, dc3_, dc4_⟩ := HC.out _ B3; clear b3) | (go_at_call 100; with_reducible refine (h4 _ ?hbel).mono ?_; (case hbel => exact bel_then HB0.out (by (with_reducible repeat (first | exact B3 | refine bel_alloc ?_ _ | refine bel_set ?_ _ ?_ | refine blw_drewN ?_ _ | refine Below.drew ?_)); all_goals (first | (simp; done) | (simp; omega) | omega))); rintro e w4 ⟨rfl, b4⟩; have B4 : Below W0.heap.size W0 w4 := bel_then (by (with_reducible repeat (first | exact B3 | refine bel_alloc ?_ _ | refine bel_set ?_ _ ?_ | refine blw_drewN ?_ _ | refine Below.drew ?_)); all_goals (first | (simp; done) | (simp; omega) | omega)) b4; obtain ⟨dd0_, dd1_, dd2_, dd3_, dd4_⟩ := HC.out _ B4; clear b4) | (go_at_call 67; with_reducible refine (h5 _ ?hbel).mono ?_; (case hbel => exact bel_then HB0.out (by (with_reducible repeat (first | exact B3 | refine bel_alloc ?_ _ | refine bel_set ?_ _ ?_ | refine blw_drewN ?_ _ | refine Below.drew ?_)); all_goals (first | (simp; done) | (simp; omega) | omega))); rintro e w5 ⟨rfl, b5⟩; have B5 : Below W0.heap.size W0 w5 := bel_then (by (with_reducible repeat (first | exact B3 | refine bel_alloc ?_ _ | refine bel_set ?_ _ ?_ | refine blw_drewN ?_ _ | refine Below.drew ?_)); all_goals (first | (simp; done) | (simp; omega) | omega)) b5; obtain ⟨de0_, de1_, de2_, de3_, de4_⟩ := HC.out _ B5; clear b5) | (go_at_call 68; with_reducible refine (h6 _ ?hbel).mono ?_; (case hbel => exact bel_then HB0.out (by (with_reducible repeat (first | exact B3 | refine bel_alloc ?_ _ | refine bel_set ?_ _ ?_ | refine blw_drewN ?_ _ | refine Below.drew ?_)); all_goals (first | (simp; done) | (simp; omega) | omega))); rintro e w5 ⟨rfl, b5⟩; have B5 : Below W0.heap.size W0 w5 := bel_then (by (with_reducible repeat (first | exact B3 | refine bel_alloc ?_ _ | refine bel_set ?_ _ ?_ | refine blw_drewN ?_ _ | refine Below.drew ?_)); all_goals (first | (simp; done) | (simp; omega) | omega)) b5; obtain ⟨de0_, de1_, de2_, de3_, de4_⟩ := HC.out _ B5; clear b5))
            go_ret
            exact ⟨retb (HFAIL.out (by rw [HBY.out]; simp [C1.out, C2.out, Hq3.out])).symm, bel_then HB0.out B3⟩
          · rw [q3] at h3
            have Hq3 := Lib.hid q3
            clear q3
            by_cases c3 : 3 ≤ y.f0
            · cases he : y.f1.data.toList.isEmpty
              · have He := Lib.hid he
                clear he
                have e1_ : y.f1.toList.isEmpty = false := by rw [bl]; exact He.out
                have e2_ : (y.f1.toList == []) = false := by rw [bl]; have := He.out; revert this; cases y.f1.data.toList <;> simp
                go_wp2_with (first | (go_at_call 87; with_reducible refine (h1 _ ?hbel).mono ?_; (case hbel => exact bel_then HB0.out (by (with_reducible repeat (first | exact (Below.refl _ _) | refine bel_alloc ?_ _ | refine bel_set ?_ _ ?_ | refine blw_drewN ?_ _ | refine Below.drew ?_)); all_goals (first | (simp; done) | (simp; omega) | omega))); rintro e w1 ⟨rfl, b1⟩; have B1 : Below W0.heap.size W0 w1 := bel_then (by (with_reducible repeat (first | exact (Below.refl _ _) | refine bel_alloc ?_ _ | refine bel_set ?_ _ ?_ | refine blw_drewN ?_ _ | refine Below.drew ?_)); all_goals (first | (simp; done) | (simp; omega) | omega)) b1; obtain ⟨da0_, da1_, da2_, da3_, da4_⟩ := HC.out _ B1; clear b1) | (go_at_call 87; with_reducible refine (h2 _ ?hbel).mono ?_; (case hbel => exact bel_then HB0.out (by (with_reducible repeat (first | exact B1 | refine bel_alloc ?_ _ | refine bel_set ?_ _ ?_ | refine blw_drewN ?_ _ | refine Below.drew ?_)); all_goals (first | (simp; done) | (simp; omega) | omega))); rintro e w2 ⟨rfl, b2⟩; have B2 : Below W0.heap.size W0 w2 := bel_then (by (with_reducible repeat (first | exact B1 | refine bel_alloc ?_ _ | refine bel_set ?_ _ ?_ | refine blw_drewN ?_ _ | refine Below.drew ?_)); all_goals (first | (simp; done) | (simp; omega) | omega)) b2; obtain ⟨db0_, db1_, db2_, db3_, db4_⟩ := HC.out _ B2; clear b2) | (go_at_call 99; with_reducible refine (h3 _ ?hbel).mono ?_; (case hbel => exact bel_then HB0.out (by (with_reducible repeat (first | exact B2 | refine bel_alloc ?_ _ | refine bel_set ?_ _ ?_ | refine blw_drewN ?_ _ | refine Below.drew ?_)); all_goals (first | (simp; done) | (simp; omega) | omega))); rintro e w3 ⟨rfl, b3⟩; have B3 : Below W0.heap.size W0 w3 := bel_then (by (with_reducible repeat (first | exact B2 | refine bel_alloc ?_ _ | refine bel_set ?_ _ ?_ | refine blw_drewN ?_ _ | refine Below.drew ?_)); all_goals (first | (simp; done) | (simp; omega) | omega)) b3; obtain ⟨dc0_, dc1_, dc2_, dc3_, dc4_⟩ := HC.out _ B3; clear b3) | (go_at_call 100; with_reducible refine (h4 _ ?hbel).mono ?_; (case hbel => exact bel_then HB0.out (by (with_reducible repeat (first | exact B3 | refine bel_alloc ?_ _ | refine bel_set ?_ _ ?_ | refine blw_drewN ?_ _ | refine Below.drew ?_)); all_goals (first | (simp; done) | (simp; omega) | omega))); rintro e w4 ⟨rfl, b4⟩; have B4 : Below W0.heap.size W0 w4 := bel_then (by (with_reducible repeat (first | exact B3 | refine bel_alloc ?_ _ | refine bel_set ?_ _ ?_ | refine blw_drewN ?_ _ | refine Below.drew ?_)); all_goals (first | (simp; done) | (simp; omega) | omega)) b4; obtain ⟨dd0_, dd1_, dd2_, dd3_, dd4_⟩ := HC.out _ B4; clear b4) | (go_at_call 67; with_reducible refine (h5 _ ?hbel).mono ?_; (case hbel => exact bel_then HB0.out (by (with_reducible repeat (first | exact B3 | refine bel_alloc ?_ _ | refine bel_set ?_ _ ?_ | refine blw_drewN ?_ _ | refine Below.drew ?_)); all_goals (first | (simp; done) | (simp; omega) | omega))); rintro e w5 ⟨rfl, b5⟩; have B5 : Below W0.heap.size W0 w5 := bel_then (by (with_reducible repeat (first | exact B3 | refine bel_alloc ?_ _ | refine bel_set ?_ _ ?_ | refine blw_drewN ?_ _ | refine Below.drew ?_)); all_goals (first | (simp; done) | (simp; omega) | omega)) b5; obtain ⟨de0_, de1_, de2_, de3_, de4_⟩ := HC.out _ B5; clear b5) | (go_at_call 68; with_reducible refine (h6 _ ?hbel).mono ?_; (case hbel => exact bel_then HB0.out (by (with_reducible repeat (first | exact B3 | refine bel_alloc ?_ _ | refine bel_set ?_ _ ?_ | refine blw_drewN ?_ _ | refine Below.drew ?_)); all_goals (first | (simp; done) | (simp; omega) | omega))); rintro e w5 ⟨rfl, b5⟩; have B5 : Below W0.heap.size W0 w5 := bel_then (by (with_reducible repeat (first | exact B3 | refine bel_alloc ?_ _ | refine bel_set ?_ _ ?_ | refine blw_drewN ?_ _ | refine Below.drew ?_)); all_goals (first | (simp; done) | (simp; omega) | omega)) b5; obtain ⟨de0_, de1_, de2_, de3_, de4_⟩ := HC.out _ B5; clear b5))
                go_ret
                exact ⟨retb (HFAIL.out (by rw [HBY.out]; simp [C1.out, C2.out, Hq3.out, c3, He.out])).symm, bel_then HB0.out B3⟩
              · have He := Lib.hid he
                clear he
                have e1_ : y.f1.toList.isEmpty = true := by rw [bl]; exact He.out
                have e2_ : (y.f1.toList == []) = true := by rw [bl]; have := He.out; revert this; cases y.f1.data.toList <;> simp
                have c0b : (y.f0 == 1) = false := by simp; omega
                have c0 : ¬ y.f0 = 1 := by omega
                by_cases c5 : y.f2 = 3
                · have c5b : (y.f2 == 3) = true := by simp [c5]
                  have C5 := Lib.hid c5
                  clear c5
                  cases q5 : addr y.f3.f0.data.toList y.f3.f1.data.toList
                  · rw [q5] at h5
                    have Hq5 := Lib.hid q5
                    clear q5
                    go_wp2_with (first | (go_at_call 87; with_reducible refine (h1 _ ?hbel).mono ?_; (case hbel => exact bel_then HB0.out (by (with_reducible repeat (first | exact (Below.refl _ _) | refine bel_alloc ?_ _ | refine bel_set ?_ _ ?_ | refine blw_drewN ?_ _ | refine Below.drew ?_)); all_goals (first | (simp; done) | (simp; omega) | omega))); rintro e w1 ⟨rfl, b1⟩; have B1 : Below W0.heap.size W0 w1 := bel_then (by (with_reducible repeat (first | exact (Below.refl _ _) | refine bel_alloc ?_ _ | refine bel_set ?_ _ ?_ | refine blw_drewN ?_ _ | refine Below.drew ?_)); all_goals (first | (simp; done) | (simp; omega) | omega)) b1; obtain ⟨da0_, da1_, da2_, da3_, da4_⟩ := HC.out _ B1; clear b1) | (go_at_call 87; with_reducible refine (h2 _ ?hbel).mono ?_; (case hbel => exact bel_then HB0.out (by (with_reducible repeat (first | exact B1 | refine bel_alloc ?_ _ | refine bel_set ?_ _ ?_ | refine blw_drewN ?_ _ | refine Below.drew ?_)); all_goals (first | (simp; done) | (simp; omega) | omega))); rintro e w2 ⟨rfl, b2⟩; have B2 : Below W0.heap.size W0 w2 := bel_then (by (with_reducible repeat (first | exact B1 | refine bel_alloc ?_ _ | refine bel_set ?_ _ ?_ | refine blw_drewN ?_ _ | refine Below.drew ?_)); all_goals (first | (simp; done) | (simp; omega) | omega)) b2; obtain ⟨db0_, db1_, db2_, db3_, db4_⟩ := HC.out _ B2; clear b2) | (go_at_call 99; with_reducible refine (h3 _ ?hbel).mono ?_; (case hbel => exact bel_then HB0.out (by (with_reducible repeat (first | exact B2 | refine bel_alloc ?_ _ | refine bel_set ?_ _ ?_ | refine blw_drewN ?_ _ | refine Below.drew ?_)); all_goals (first | (simp; done) | (simp; omega) | omega))); rintro e w3 ⟨rfl, b3⟩; have B3 : Below W0.heap.size W0 w3 := bel_then (by (with_reducible repeat (first | exact B2 | refine bel_alloc ?_ _ | refine bel_set ?_ _ ?_ | refine blw_drewN ?_ _ | refine Below.drew ?_)); all_goals (first | (simp; done) | (simp; omega) | omega)) b3; obtain ⟨dc0_, dc1_, dc2_, dc3_, dc4_⟩ := HC.out _ B3; clear b3) | (go_at_call 100; with_reducible refine (h4 _ ?hbel).mono ?_; (case hbel => exact bel_then HB0.out (by (with_reducible repeat (first | exact B3 | refine bel_alloc ?_ _ | refine bel_set ?_ _ ?_ | refine blw_drewN ?_ _ | refine Below.drew ?_)); all_goals (first | (simp; done) | (simp; omega) | omega))); rintro e w4 ⟨rfl, b4⟩; have B4 : Below W0.heap.size W0 w4 := bel_then (by (with_reducible repeat (first | exact B3 | refine bel_alloc ?_ _ | refine bel_set ?_ _ ?_ | refine blw_drewN ?_ _ | refine Below.drew ?_)); all_goals (first | (simp; done) | (simp; omega) | omega)) b4; obtain ⟨dd0_, dd1_, dd2_, dd3_, dd4_⟩ := HC.out _ B4; clear b4) | (go_at_call 67; with_reducible refine (h5 _ ?hbel).mono ?_; (case hbel => exact bel_then HB0.out (by (with_reducible repeat (first | exact B3 | refine bel_alloc ?_ _ | refine bel_set ?_ _ ?_ | refine blw_drewN ?_ _ | refine Below.drew ?_)); all_goals (first | (simp; done) | (simp; omega) | omega))); rintro e w5 ⟨rfl, b5⟩; have B5 : Below W0.heap.size W0 w5 := bel_then (by (with_reducible repeat (first | exact B3 | refine bel_alloc ?_ _ | refine bel_set ?_ _ ?_ | refine blw_drewN ?_ _ | refine Below.drew ?_)); all_goals (first | (simp; done) | (simp; omega) | omega)) b5; obtain ⟨de0_, de1_, de2_, de3_, de4_⟩ := HC.out _ B5; clear b5) | (go_at_call 68; with_reducible refine (h6 _ ?hbel).mono ?_; (case hbel => exact bel_then HB0.out (by (with_reducible repeat (first | exact B3 | refine bel_alloc ?_ _ | refine bel_set ?_ _ ?_ | refine blw_drewN ?_ _ | refine Below.drew ?_)); all_goals (first | (simp; done) | (simp; omega) | omega))); rintro e w5 ⟨rfl, b5⟩; have B5 : Below W0.heap.size W0 w5 := bel_then (by (with_reducible repeat (first | exact B3 | refine bel_alloc ?_ _ | refine bel_set ?_ _ ?_ | refine blw_drewN ?_ _ | refine Below.drew ?_)); all_goals (first | (simp; done) | (simp; omega) | omega)) b5; obtain ⟨de0_, de1_, de2_, de3_, de4_⟩ := HC.out _ B5; clear b5))
                    go_ret
                    exact ⟨retb (HFAIL.out (by rw [HBY.out]; simp [C1.out, C2.out, Hq3.out, c3, He.out, c0, C5.out, Hq5.out])).symm, bel_then HB0.out B5⟩
                  · rw [q5] at h5
                    have Hq5 := Lib.hid q5
                    clear q5
                    go_wp2_with (first | (go_at_call 87; with_reducible refine (h1 _ ?hbel).mono ?_; (case hbel => exact bel_then HB0.out (by (with_reducible repeat (first | exact (Below.refl _ _) | refine bel_alloc ?_ _ | refine bel_set ?_ _ ?_ | refine blw_drewN ?_ _ | refine Below.drew ?_)); all_goals (first | (simp; done) | (simp; omega) | omega))); rintro e w1 ⟨rfl, b1⟩; have B1 : Below W0.heap.size W0 w1 := bel_then (by (with_reducible repeat (first | exact (Below.refl _ _) | refine bel_alloc ?_ _ | refine bel_set ?_ _ ?_ | refine blw_drewN ?_ _ | refine Below.drew ?_)); all_goals (first | (simp; done) | (simp; omega) | omega)) b1; obtain ⟨da0_, da1_, da2_, da3_, da4_⟩ := HC.out _ B1; clear b1) | (go_at_call 87; with_reducible refine (h2 _ ?hbel).mono ?_; (case hbel => exact bel_then HB0.out (by (with_reducible repeat (first | exact B1 | refine bel_alloc ?_ _ | refine bel_set ?_ _ ?_ | refine blw_drewN ?_ _ | refine Below.drew ?_)); all_goals (first | (simp; done) | (simp; omega) | omega))); rintro e w2 ⟨rfl, b2⟩; have B2 : Below W0.heap.size W0 w2 := bel_then (by (with_reducible repeat (first | exact B1 | refine bel_alloc ?_ _ | refine bel_set ?_ _ ?_ | refine blw_drewN ?_ _ | refine Below.drew ?_)); all_goals (first | (simp; done) | (simp; omega) | omega)) b2; obtain ⟨db0_, db1_, db2_, db3_, db4_⟩ := HC.out _ B2; clear b2) | (go_at_call 99; with_reducible refine (h3 _ ?hbel).mono ?_; (case hbel => exact bel_then HB0.out (by (with_reducible repeat (first | exact B2 | refine bel_alloc ?_ _ | refine bel_set ?_ _ ?_ | refine blw_drewN ?_ _ | refine Below.drew ?_)); all_goals (first | (simp; done) | (simp; omega) | omega))); rintro e w3 ⟨rfl, b3⟩; have B3 : Below W0.heap.size W0 w3 := bel_then (by (with_reducible repeat (first | exact B2 | refine bel_alloc ?_ _ | refine bel_set ?_ _ ?_ | refine blw_drewN ?_ _ | refine Below.drew ?_)); all_goals (first | (simp; done) | (simp; omega) | omega)) b3; obtain ⟨dc0_, dc1_, dc2_, dc3_, dc4_⟩ := HC.out _ B3; clear b3) | (go_at_call 100; with_reducible refine (h4 _ ?hbel).mono ?_; (case hbel => exact bel_then HB0.out (by (with_reducible repeat (first | exact B3 | refine bel_alloc ?_ _ | refine bel_set ?_ _ ?_ | refine blw_drewN ?_ _ | refine Below.drew ?_)); all_goals (first | (simp; done) | (simp; omega) | omega))); rintro e w4 ⟨rfl, b4⟩; have B4 : Below W0.heap.size W0 w4 := bel_then (by (with_reducible repeat (first | exact B3 | refine bel_alloc ?_ _ | refine bel_set ?_ _ ?_ | refine blw_drewN ?_ _ | refine Below.drew ?_)); all_goals (first | (simp; done) | (simp; omega) | omega)) b4; obtain ⟨dd0_, dd1_, dd2_, dd3_, dd4_⟩ := HC.out _ B4; clear b4) | (go_at_call 67; with_reducible refine (h5 _ ?hbel).mono ?_; (case hbel => exact bel_then HB0.out (by (with_reducible repeat (first | exact B3 | refine bel_alloc ?_ _ | refine bel_set ?_ _ ?_ | refine blw_drewN ?_ _ | refine Below.drew ?_)); all_goals (first | (simp; done) | (simp; omega) | omega))); rintro e w5 ⟨rfl, b5⟩; have B5 : Below W0.heap.size W0 w5 := bel_then (by (with_reducible repeat (first | exact B3 | refine bel_alloc ?_ _ | refine bel_set ?_ _ ?_ | refine blw_drewN ?_ _ | refine Below.drew ?_)); all_goals (first | (simp; done) | (simp; omega) | omega)) b5; obtain ⟨de0_, de1_, de2_, de3_, de4_⟩ := HC.out _ B5; clear b5) | (go_at_call 68; with_reducible refine (h6 _ ?hbel).mono ?_; (case hbel => exact bel_then HB0.out (by (with_reducible repeat (first | exact B3 | refine bel_alloc ?_ _ | refine bel_set ?_ _ ?_ | refine blw_drewN ?_ _ | refine Below.drew ?_)); all_goals (first | (simp; done) | (simp; omega) | omega))); rintro e w5 ⟨rfl, b5⟩; have B5 : Below W0.heap.size W0 w5 := bel_then (by (with_reducible repeat (first | exact B3 | refine bel_alloc ?_ _ | refine bel_set ?_ _ ?_ | refine blw_drewN ?_ _ | refine Below.drew ?_)); all_goals (first | (simp; done) | (simp; omega) | omega)) b5; obtain ⟨de0_, de1_, de2_, de3_, de4_⟩ := HC.out _ B5; clear b5))
                    go_roundg (xs.length - (k + 1))
                    case measure => omega
                    case rel => exact ⟨k + 1, by omega, Nat.le_refl _, by go_num, ⟨bel_then HB0.out B5⟩, ⟨HPASS.out (by rw [HBY.out]; simp [C1.out, C2.out, Hq3.out, c3, He.out, c0, C5.out, Hq5.out])⟩⟩
                · have c5b : (y.f2 == 3) = false := by simp [c5]
                  have C5 := Lib.hid c5
                  cases q6 : nul y.f3.f0.data.toList y.f3.f1.data.toList
                  · rw [q6] at h6
                    have Hq6 := Lib.hid q6
                    clear q6
                    go_wp2_with (first | (go_at_call 87; with_reducible refine (h1 _ ?hbel).mono ?_; (case hbel => exact bel_then HB0.out (by (with_reducible repeat (first | exact (Below.refl _ _) | refine bel_alloc ?_ _ | refine bel_set ?_ _ ?_ | refine blw_drewN ?_ _ | refine Below.drew ?_)); all_goals (first | (simp; done) | (simp; omega) | omega))); rintro e w1 ⟨rfl, b1⟩; have B1 : Below W0.heap.size W0 w1 := bel_then (by (with_reducible repeat (first | exact (Below.refl _ _) | refine bel_alloc ?_ _ | refine bel_set ?_ _ ?_ | refine blw_drewN ?_ _ | refine Below.drew ?_)); all_goals (first | (simp; done) | (simp; omega) | omega)) b1; obtain ⟨da0_, da1_, da2_, da3_, da4_⟩ := HC.out _ B1; clear b1) | (go_at_call 87; with_reducible refine (h2 _ ?hbel).mono ?_; (case hbel => exact bel_then HB0.out (by (with_reducible repeat (first | exact B1 | refine bel_alloc ?_ _ | refine bel_set ?_ _ ?_ | refine blw_drewN ?_ _ | refine Below.drew ?_)); all_goals (first | (simp; done) | (simp; omega) | omega))); rintro e w2 ⟨rfl, b2⟩; have B2 : Below W0.heap.size W0 w2 := bel_then (by (with_reducible repeat (first | exact B1 | refine bel_alloc ?_ _ | refine bel_set ?_ _ ?_ | refine blw_drewN ?_ _ | refine Below.drew ?_)); all_goals (first | (simp; done) | (simp; omega) | omega)) b2; obtain ⟨db0_, db1_, db2_, db3_, db4_⟩ := HC.out _ B2; clear b2) | (go_at_call 99; with_reducible refine (h3 _ ?hbel).mono ?_; (case hbel => exact bel_then HB0.out (by (with_reducible repeat (first | exact B2 | refine bel_alloc ?_ _ | refine bel_set ?_ _ ?_ | refine blw_drewN ?_ _ | refine Below.drew ?_)); all_goals (first | (simp; done) | (simp; omega) | omega))); rintro e w3 ⟨rfl, b3⟩; have B3 : Below W0.heap.size W0 w3 := bel_then (by (with_reducible repeat (first | exact B2 | refine bel_alloc ?_ _ | refine bel_set ?_ _ ?_ | refine blw_drewN ?_ _ | refine Below.drew ?_)); all_goals (first | (simp; done) | (simp; omega) | omega)) b3; obtain ⟨dc0_, dc1_, dc2_, dc3_, dc4_⟩ := HC.out _ B3; clear b3) | (go_at_call 100; with_reducible refine (h4 _ ?hbel).mono ?_; (case hbel => exact bel_then HB0.out (by (with_reducible repeat (first | exact B3 | refine bel_alloc ?_ _ | refine bel_set ?_ _ ?_ | refine blw_drewN ?_ _ | refine Below.drew ?_)); all_goals (first | (simp; done) | (simp; omega) | omega))); rintro e w4 ⟨rfl, b4⟩; have B4 : Below W0.heap.size W0 w4 := bel_then (by (with_reducible repeat (first | exact B3 | refine bel_alloc ?_ _ | refine bel_set ?_ _ ?_ | refine blw_drewN ?_ _ | refine Below.drew ?_)); all_goals (first | (simp; done) | (simp; omega) | omega)) b4; obtain ⟨dd0_, dd1_, dd2_, dd3_, dd4_⟩ := HC.out _ B4; clear b4) | (go_at_call 67; with_reducible refine (h5 _ ?hbel).mono ?_; (case hbel => exact bel_then HB0.out (by (with_reducible repeat (first | exact B3 | refine bel_alloc ?_ _ | refine bel_set ?_ _ ?_ | refine blw_drewN ?_ _ | refine Below.drew ?_)); all_goals (first | (simp; done) | (simp; omega) | omega))); rintro e w5 ⟨rfl, b5⟩; have B5 : Below W0.heap.size W0 w5 := bel_then (by (with_reducible repeat (first | exact B3 | refine bel_alloc ?_ _ | refine bel_set ?_ _ ?_ | refine blw_drewN ?_ _ | refine Below.drew ?_)); all_goals (first | (simp; done) | (simp; omega) | omega)) b5; obtain ⟨de0_, de1_, de2_, de3_, de4_⟩ := HC.out _ B5; clear b5) | (go_at_call 68; with_reducible refine (h6 _ ?hbel).mono ?_; (case hbel => exact bel_then HB0.out (by (with_reducible repeat (first | exact B3 | refine bel_alloc ?_ _ | refine bel_set ?_ _ ?_ | refine blw_drewN ?_ _ | refine Below.drew ?_)); all_goals (first | (simp; done) | (simp; omega) | omega))); rintro e w5 ⟨rfl, b5⟩; have B5 : Below W0.heap.size W0 w5 := bel_then (by (with_reducible repeat (first | exact B3 | refine bel_alloc ?_ _ | refine bel_set ?_ _ ?_ | refine blw_drewN ?_ _ | refine Below.drew ?_)); all_goals (first | (simp; done) | (simp; omega) | omega)) b5; obtain ⟨de0_, de1_, de2_, de3_, de4_⟩ := HC.out _ B5; clear b5))
                    go_ret
                    exact ⟨retb (HFAIL.out (by rw [HBY.out]; simp [C1.out, C2.out, Hq3.out, c3, He.out, c0, C5.out, Hq6.out])).symm, bel_then HB0.out B5⟩
                  · rw [q6] at h6
                    have Hq6 := Lib.hid q6
                    clear q6
                    go_wp2_with (first | (go_at_call 87; with_reducible refine (h1 _ ?hbel).mono ?_; (case hbel => exact bel_then HB0.out (by (with_reducible repeat (first | exact (Below.refl _ _) | refine bel_alloc ?_ _ | refine bel_set ?_ _ ?_ | refine blw_drewN ?_ _ | refine Below.drew ?_)); all_goals (first | (simp; done) | (simp; omega) | omega))); rintro e w1 ⟨rfl, b1⟩; have B1 : Below W0.heap.size W0 w1 := bel_then (by (with_reducible repeat (first | exact (Below.refl _ _) | refine bel_alloc ?_ _ | refine bel_set ?_ _ ?_ | refine blw_drewN ?_ _ | refine Below.drew ?_)); all_goals (first | (simp; done) | (simp; omega) | omega)) b1; obtain ⟨da0_, da1_, da2_, da3_, da4_⟩ := HC.out _ B1; clear b1) | (go_at_call 87; with_reducible refine (h2 _ ?hbel).mono ?_; (case hbel => exact bel_then HB0.out (by (with_reducible repeat (first | exact B1 | refine bel_alloc ?_ _ | refine bel_set ?_ _ ?_ | refine blw_drewN ?_ _ | refine Below.drew ?_)); all_goals (first | (simp; done) | (simp; omega) | omega))); rintro e w2 ⟨rfl, b2⟩; have B2 : Below W0.heap.size W0 w2 := bel_then (by (with_reducible repeat (first | exact B1 | refine bel_alloc ?_ _ | refine bel_set ?_ _ ?_ | refine blw_drewN ?_ _ | refine Below.drew ?_)); all_goals (first | (simp; done) | (simp; omega) | omega)) b2; obtain ⟨db0_, db1_, db2_, db3_, db4_⟩ := HC.out _ B2; clear b2) | (go_at_call 99; with_reducible refine (h3 _ ?hbel).mono ?_; (case hbel => exact bel_then HB0.out (by (with_reducible repeat (first | exact B2 | refine bel_alloc ?_ _ | refine bel_set ?_ _ ?_ | refine blw_drewN ?_ _ | refine Below.drew ?_)); all_goals (first | (simp; done) | (simp; omega) | omega))); rintro e w3 ⟨rfl, b3⟩; have B3 : Below W0.heap.size W0 w3 := bel_then (by (with_reducible repeat (first | exact B2 | refine bel_alloc ?_ _ | refine bel_set ?_ _ ?_ | refine blw_drewN ?_ _ | refine Below.drew ?_)); all_goals (first | (simp; done) | (simp; omega) | omega)) b3; obtain ⟨dc0_, dc1_, dc2_, dc3_, dc4_⟩ := HC.out _ B3; clear b3) | (go_at_call 100; with_reducible refine (h4 _ ?hbel).mono ?_; (case hbel => exact bel_then HB0.out (by (with_reducible repeat (first | exact B3 | refine bel_alloc ?_ _ | refine bel_set ?_ _ ?_ | refine blw_drewN ?_ _ | refine Below.drew ?_)); all_goals (first | (simp; done) | (simp; omega) | omega))); rintro e w4 ⟨rfl, b4⟩; have B4 : Below W0.heap.size W0 w4 := bel_then (by (with_reducible repeat (first | exact B3 | refine bel_alloc ?_ _ | refine bel_set ?_ _ ?_ | refine blw_drewN ?_ _ | refine Below.drew ?_)); all_goals (first | (simp; done) | (simp; omega) | omega)) b4; obtain ⟨dd0_, dd1_, dd2_, dd3_, dd4_⟩ := HC.out _ B4; clear b4) | (go_at_call 67; with_reducible refine (h5 _ ?hbel).mono ?_; (case hbel => exact bel_then HB0.out (by (with_reducible repeat (first | exact B3 | refine bel_alloc ?_ _ | refine bel_set ?_ _ ?_ | refine blw_drewN ?_ _ | refine Below.drew ?_)); all_goals (first | (simp; done) | (simp; omega) | omega))); rintro e w5 ⟨rfl, b5⟩; have B5 : Below W0.heap.size W0 w5 := bel_then (by (with_reducible repeat (first | exact B3 | refine bel_alloc ?_ _ | refine bel_set ?_ _ ?_ | refine blw_drewN ?_ _ | refine Below.drew ?_)); all_goals (first | (simp; done) | (simp; omega) | omega)) b5; obtain ⟨de0_, de1_, de2_, de3_, de4_⟩ := HC.out _ B5; clear b5) | (go_at_call 68; with_reducible refine (h6 _ ?hbel).mono ?_; (case hbel => exact bel_then HB0.out (by (with_reducible repeat (first | exact B3 | refine bel_alloc ?_ _ | refine bel_set ?_ _ ?_ | refine blw_drewN ?_ _ | refine Below.drew ?_)); all_goals (first | (simp; done) | (simp; omega) | omega))); rintro e w5 ⟨rfl, b5⟩; have B5 : Below W0.heap.size W0 w5 := bel_then (by (with_reducible repeat (first | exact B3 | refine bel_alloc ?_ _ | refine bel_set ?_ _ ?_ | refine blw_drewN ?_ _ | refine Below.drew ?_)); all_goals (first | (simp; done) | (simp; omega) | omega)) b5; obtain ⟨de0_, de1_, de2_, de3_, de4_⟩ := HC.out _ B5; clear b5))
                    go_roundg (xs.length - (k + 1))
                    case measure => omega
                    case rel => exact ⟨k + 1, by omega, Nat.le_refl _, by go_num, ⟨bel_then HB0.out B5⟩, ⟨HPASS.out (by rw [HBY.out]; simp [C1.out, C2.out, Hq3.out, c3, He.out, c0, C5.out, Hq6.out])⟩⟩
            · by_cases c0 : y.f0 = 1
              · have c0b : (y.f0 == 1) = true := by simp [c0]
                have C0 := Lib.hid c0
                clear c0
                cases q4 : dom y.f1.data.toList
                · rw [q4] at h4
                  have Hq4 := Lib.hid q4
                  clear q4
                  go_wp2_with (first | (go_at_call 87; with_reducible refine (h1 _ ?hbel).mono ?_; (case hbel => exact bel_then HB0.out (by (with_reducible repeat (first | exact (Below.refl _ _) | refine bel_alloc ?_ _ | refine bel_set ?_ _ ?_ | refine blw_drewN ?_ _ | refine Below.drew ?_)); all_goals (first | (simp; done) | (simp; omega) | omega))); rintro e w1 ⟨rfl, b1⟩; have B1 : Below W0.heap.size W0 w1 := bel_then (by (with_reducible repeat (first | exact (Below.refl _ _) | refine bel_alloc ?_ _ | refine bel_set ?_ _ ?_ | refine blw_drewN ?_ _ | refine Below.drew ?_)); all_goals (first | (simp; done) | (simp; omega) | omega)) b1; obtain ⟨da0_, da1_, da2_, da3_, da4_⟩ := HC.out _ B1; clear b1) | (go_at_call 87; with_reducible refine (h2 _ ?hbel).mono ?_; (case hbel => exact bel_then HB0.out (by (with_reducible repeat (first | exact B1 | refine bel_alloc ?_ _ | refine bel_set ?_ _ ?_ | refine blw_drewN ?_ _ | refine Below.drew ?_)); all_goals (first | (simp; done) | (simp; omega) | omega))); rintro e w2 ⟨rfl, b2⟩; have B2 : Below W0.heap.size W0 w2 := bel_then (by (with_reducible repeat (first | exact B1 | refine bel_alloc ?_ _ | refine bel_set ?_ _ ?_ | refine blw_drewN ?_ _ | refine Below.drew ?_)); all_goals (first | (simp; done) | (simp; omega) | omega)) b2; obtain ⟨db0_, db1_, db2_, db3_, db4_⟩ := HC.out _ B2; clear b2) | (go_at_call 99; with_reducible refine (h3 _ ?hbel).mono ?_; (case hbel => exact bel_then HB0.out (by (with_reducible repeat (first | exact B2 | refine bel_alloc ?_ _ | refine bel_set ?_ _ ?_ | refine blw_drewN ?_ _ | refine Below.drew ?_)); all_goals (first | (simp; done) | (simp; omega) | omega))); rintro e w3 ⟨rfl, b3⟩; have B3 : Below W0.heap.size W0 w3 := bel_then (by (with_reducible repeat (first | exact B2 | refine bel_alloc ?_ _ | refine bel_set ?_ _ ?_ | refine blw_drewN ?_ _ | refine Below.drew ?_)); all_goals (first | (simp; done) | (simp; omega) | omega)) b3; obtain ⟨dc0_, dc1_, dc2_, dc3_, dc4_⟩ := HC.out _ B3; clear b3) | (go_at_call 100; with_reducible refine (h4 _ ?hbel).mono ?_; (case hbel => exact bel_then HB0.out (by (with_reducible repeat (first | exact B3 | refine bel_alloc ?_ _ | refine bel_set ?_ _ ?_ | refine blw_drewN ?_ _ | refine Below.drew ?_)); all_goals (first | (simp; done) | (simp; omega) | omega))); rintro e w4 ⟨rfl, b4⟩; have B4 : Below W0.heap.size W0 w4 := bel_then (by (with_reducible repeat (first | exact B3 | refine bel_alloc ?_ _ | refine bel_set ?_ _ ?_ | refine blw_drewN ?_ _ | refine Below.drew ?_)); all_goals (first | (simp; done) | (simp; omega) | omega)) b4; obtain ⟨dd0_, dd1_, dd2_, dd3_, dd4_⟩ := HC.out _ B4; clear b4) | (go_at_call 67; with_reducible refine (h5 _ ?hbel).mono ?_; (case hbel => exact bel_then HB0.out (by (with_reducible repeat (first | exact B4 | refine bel_alloc ?_ _ | refine bel_set ?_ _ ?_ | refine blw_drewN ?_ _ | refine Below.drew ?_)); all_goals (first | (simp; done) | (simp; omega) | omega))); rintro e w5 ⟨rfl, b5⟩; have B5 : Below W0.heap.size W0 w5 := bel_then (by (with_reducible repeat (first | exact B4 | refine bel_alloc ?_ _ | refine bel_set ?_ _ ?_ | refine blw_drewN ?_ _ | refine Below.drew ?_)); all_goals (first | (simp; done) | (simp; omega) | omega)) b5; obtain ⟨de0_, de1_, de2_, de3_, de4_⟩ := HC.out _ B5; clear b5) | (go_at_call 68; with_reducible refine (h6 _ ?hbel).mono ?_; (case hbel => exact bel_then HB0.out (by (with_reducible repeat (first | exact B4 | refine bel_alloc ?_ _ | refine bel_set ?_ _ ?_ | refine blw_drewN ?_ _ | refine Below.drew ?_)); all_goals (first | (simp; done) | (simp; omega) | omega))); rintro e w5 ⟨rfl, b5⟩; have B5 : Below W0.heap.size W0 w5 := bel_then (by (with_reducible repeat (first | exact B4 | refine bel_alloc ?_ _ | refine bel_set ?_ _ ?_ | refine blw_drewN ?_ _ | refine Below.drew ?_)); all_goals (first | (simp; done) | (simp; omega) | omega)) b5; obtain ⟨de0_, de1_, de2_, de3_, de4_⟩ := HC.out _ B5; clear b5))
                  go_ret
                  exact ⟨retb (HFAIL.out (by rw [HBY.out]; simp [C1.out, C2.out, Hq3.out, c3, C0.out, Hq4.out])).symm, bel_then HB0.out B4⟩
                · rw [q4] at h4
                  have Hq4 := Lib.hid q4
                  clear q4
                  by_cases c5 : y.f2 = 3
                  · have c5b : (y.f2 == 3) = true := by simp [c5]
                    have C5 := Lib.hid c5
                    clear c5
                    cases q5 : addr y.f3.f0.data.toList y.f3.f1.data.toList
                    · rw [q5] at h5
                      have Hq5 := Lib.hid q5
                      clear q5
                      go_wp2_with (first | (go_at_call 87; with_reducible refine (h1 _ ?hbel).mono ?_; (case hbel => exact bel_then HB0.out (by (with_reducible repeat (first | exact (Below.refl _ _) | refine bel_alloc ?_ _ | refine bel_set ?_ _ ?_ | refine blw_drewN ?_ _ | refine Below.drew ?_)); all_goals (first | (simp; done) | (simp; omega) | omega))); rintro e w1 ⟨rfl, b1⟩; have B1 : Below W0.heap.size W0 w1 := bel_then (by (with_reducible repeat (first | exact (Below.refl _ _) | refine bel_alloc ?_ _ | refine bel_set ?_ _ ?_ | refine blw_drewN ?_ _ | refine Below.drew ?_)); all_goals (first | (simp; done) | (simp; omega) | omega)) b1; obtain ⟨da0_, da1_, da2_, da3_, da4_⟩ := HC.out _ B1; clear b1) | (go_at_call 87; with_reducible refine (h2 _ ?hbel).mono ?_; (case hbel => exact bel_then HB0.out (by (with_reducible repeat (first | exact B1 | refine bel_alloc ?_ _ | refine bel_set ?_ _ ?_ | refine blw_drewN ?_ _ | refine Below.drew ?_)); all_goals (first | (simp; done) | (simp; omega) | omega))); rintro e w2 ⟨rfl, b2⟩; have B2 : Below W0.heap.size W0 w2 := bel_then (by (with_reducible repeat (first | exact B1 | refine bel_alloc ?_ _ | refine bel_set ?_ _ ?_ | refine blw_drewN ?_ _ | refine Below.drew ?_)); all_goals (first | (simp; done) | (simp; omega) | omega)) b2; obtain ⟨db0_, db1_, db2_, db3_, db4_⟩ := HC.out _ B2; clear b2) | (go_at_call 99; with_reducible refine (h3 _ ?hbel).mono ?_; (case hbel => exact bel_then HB0.out (by (with_reducible repeat (first | exact B2 | refine bel_alloc ?_ _ | refine bel_set ?_ _ ?_ | refine blw_drewN ?_ _ | refine Below.drew ?_)); all_goals (first | (simp; done) | (simp; omega) | omega))); rintro e w3 ⟨rfl, b3⟩; have B3 : Below W0.heap.size W0 w3 := bel_then (by (with_reducible repeat (first | exact B2 | refine bel_alloc ?_ _ | refine bel_set ?_ _ ?_ | refine blw_drewN ?_ _ | refine Below.drew ?_)); all_goals (first | (simp; done) | (simp; omega) | omega)) b3; obtain ⟨dc0_, dc1_, dc2_, dc3_, dc4_⟩ := HC.out _ B3; clear b3) | (go_at_call 100; with_reducible refine (h4 _ ?hbel).mono ?_; (case hbel => exact bel_then HB0.out (by (with_reducible repeat (first | exact B3 | refine bel_alloc ?_ _ | refine bel_set ?_ _ ?_ | refine blw_drewN ?_ _ | refine Below.drew ?_)); all_goals (first | (simp; done) | (simp; omega) | omega))); rintro e w4 ⟨rfl, b4⟩; have B4 : Below W0.heap.size W0 w4 := bel_then (by (with_reducible repeat (first | exact B3 | refine bel_alloc ?_ _ | refine bel_set ?_ _ ?_ | refine blw_drewN ?_ _ | refine Below.drew ?_)); all_goals (first | (simp; done) | (simp; omega) | omega)) b4; obtain ⟨dd0_, dd1_, dd2_, dd3_, dd4_⟩ := HC.out _ B4; clear b4) | (go_at_call 67; with_reducible refine (h5 _ ?hbel).mono ?_; (case hbel => exact bel_then HB0.out (by (with_reducible repeat (first | exact B4 | refine bel_alloc ?_ _ | refine bel_set ?_ _ ?_ | refine blw_drewN ?_ _ | refine Below.drew ?_)); all_goals (first | (simp; done) | (simp; omega) | omega))); rintro e w5 ⟨rfl, b5⟩; have B5 : Below W0.heap.size W0 w5 := bel_then (by (with_reducible repeat (first | exact B4 | refine bel_alloc ?_ _ | refine bel_set ?_ _ ?_ | refine blw_drewN ?_ _ | refine Below.drew ?_)); all_goals (first | (simp; done) | (simp; omega) | omega)) b5; obtain ⟨de0_, de1_, de2_, de3_, de4_⟩ := HC.out _ B5; clear b5) | (go_at_call 68; with_reducible refine (h6 _ ?hbel).mono ?_; (case hbel => exact bel_then HB0.out (by (with_reducible repeat (first | exact B4 | refine bel_alloc ?_ _ | refine bel_set ?_ _ ?_ | refine blw_drewN ?_ _ | refine Below.drew ?_)); all_goals (first | (simp; done) | (simp; omega) | omega))); rintro e w5 ⟨rfl, b5⟩; have B5 : Below W0.heap.size W0 w5 := bel_then (by (with_reducible repeat (first | exact B4 | refine bel_alloc ?_ _ | refine bel_set ?_ _ ?_ | refine blw_drewN ?_ _ | refine Below.drew ?_)); all_goals (first | (simp; done) | (simp; omega) | omega)) b5; obtain ⟨de0_, de1_, de2_, de3_, de4_⟩ := HC.out _ B5; clear b5))
                      go_ret
                      exact ⟨retb (HFAIL.out (by rw [HBY.out]; simp [C1.out, C2.out, Hq3.out, c3, C0.out, Hq4.out, C5.out, Hq5.out])).symm, bel_then HB0.out B5⟩
                    · rw [q5] at h5
                      have Hq5 := Lib.hid q5
                      clear q5
                      go_wp2_with (first | (go_at_call 87; with_reducible refine (h1 _ ?hbel).mono ?_; (case hbel => exact bel_then HB0.out (by (with_reducible repeat (first | exact (Below.refl _ _) | refine bel_alloc ?_ _ | refine bel_set ?_ _ ?_ | refine blw_drewN ?_ _ | refine Below.drew ?_)); all_goals (first | (simp; done) | (simp; omega) | omega))); rintro e w1 ⟨rfl, b1⟩; have B1 : Below W0.heap.size W0 w1 := bel_then (by (with_reducible repeat (first | exact (Below.refl _ _) | refine bel_alloc ?_ _ | refine bel_set ?_ _ ?_ | refine blw_drewN ?_ _ | refine Below.drew ?_)); all_goals (first | (simp; done) | (simp; omega) | omega)) b1; obtain ⟨da0_, da1_, da2_, da3_, da4_⟩ := HC.out _ B1; clear b1) | (go_at_call 87; with_reducible refine (h2 _ ?hbel).mono ?_; (case hbel => exact bel_then HB0.out (by (with_reducible repeat (first | exact B1 | refine bel_alloc ?_ _ | refine bel_set ?_ _ ?_ | refine blw_drewN ?_ _ | refine Below.drew ?_)); all_goals (first | (simp; done) | (simp; omega) | omega))); rintro e w2 ⟨rfl, b2⟩; have B2 : Below W0.heap.size W0 w2 := bel_then (by (with_reducible repeat (first | exact B1 | refine bel_alloc ?_ _ | refine bel_set ?_ _ ?_ | refine blw_drewN ?_ _ | refine Below.drew ?_)); all_goals (first | (simp; done) | (simp; omega) | omega)) b2; obtain ⟨db0_, db1_, db2_, db3_, db4_⟩ := HC.out _ B2; clear b2) | (go_at_call 99; with_reducible refine (h3 _ ?hbel).mono ?_; (case hbel => exact bel_then HB0.out (by (with_reducible repeat (first | exact B2 | refine bel_alloc ?_ _ | refine bel_set ?_ _ ?_ | refine blw_drewN ?_ _ | refine Below.drew ?_)); all_goals (first | (simp; done) | (simp; omega) | omega))); rintro e w3 ⟨rfl, b3⟩; have B3 : Below W0.heap.size W0 w3 := bel_then (by (with_reducible repeat (first | exact B2 | refine bel_alloc ?_ _ | refine bel_set ?_ _ ?_ | refine blw_drewN ?_ _ | refine Below.drew ?_)); all_goals (first | (simp; done) | (simp; omega) | omega)) b3; obtain ⟨dc0_, dc1_, dc2_, dc3_, dc4_⟩ := HC.out _ B3; clear b3) | (go_at_call 100; with_reducible refine (h4 _ ?hbel).mono ?_; (case hbel => exact bel_then HB0.out (by (with_reducible repeat (first | exact B3 | refine bel_alloc ?_ _ | refine bel_set ?_ _ ?_ | refine blw_drewN ?_ _ | refine Below.drew ?_)); all_goals (first | (simp; done) | (simp; omega) | omega))); rintro e w4 ⟨rfl, b4⟩; have B4 : Below W0.heap.size W0 w4 := bel_then (by (with_reducible repeat (first | exact B3 | refine bel_alloc ?_ _ | refine bel_set ?_ _ ?_ | refine blw_drewN ?_ _ | refine Below.drew ?_)); all_goals (first | (simp; done) | (simp; omega) | omega)) b4; obtain ⟨dd0_, dd1_, dd2_, dd3_, dd4_⟩ := HC.out _ B4; clear b4) | (go_at_call 67; with_reducible refine (h5 _ ?hbel).mono ?_; (case hbel => exact bel_then HB0.out (by (with_reducible repeat (first | exact B4 | refine bel_alloc ?_ _ | refine bel_set ?_ _ ?_ | refine blw_drewN ?_ _ | refine Below.drew ?_)); all_goals (first | (simp; done) | (simp; omega) | omega))); rintro e w5 ⟨rfl, b5⟩; have B5 : Below W0.heap.size W0 w5 := bel_then (by (with_reducible repeat (first | exact B4 | refine bel_alloc ?_ _ | refine bel_set ?_ _ ?_ | refine blw_drewN ?_ _ | refine Below.drew ?_)); all_goals (first | (simp; done) | (simp; omega) | omega)) b5; obtain ⟨de0_, de1_, de2_, de3_, de4_⟩ := HC.out _ B5; clear b5) | (go_at_call 68; with_reducible refine (h6 _ ?hbel).mono ?_; (case hbel => exact bel_then HB0.out (by (with_reducible repeat (first | exact B4 | refine bel_alloc ?_ _ | refine bel_set ?_ _ ?_ | refine blw_drewN ?_ _ | refine Below.drew ?_)); all_goals (first | (simp; done) | (simp; omega) | omega))); rintro e w5 ⟨rfl, b5⟩; have B5 : Below W0.heap.size W0 w5 := bel_then (by (with_reducible repeat (first | exact B4 | refine bel_alloc ?_ _ | refine bel_set ?_ _ ?_ | refine blw_drewN ?_ _ | refine Below.drew ?_)); all_goals (first | (simp; done) | (simp; omega) | omega)) b5; obtain ⟨de0_, de1_, de2_, de3_, de4_⟩ := HC.out _ B5; clear b5))
                      go_roundg (xs.length - (k + 1))
                      case measure => omega
                      case rel => exact ⟨k + 1, by omega, Nat.le_refl _, by go_num, ⟨bel_then HB0.out B5⟩, ⟨HPASS.out (by rw [HBY.out]; simp [C1.out, C2.out, Hq3.out, c3, C0.out, Hq4.out, C5.out, Hq5.out])⟩⟩
                  · have c5b : (y.f2 == 3) = false := by simp [c5]
                    have C5 := Lib.hid c5
                    cases q6 : nul y.f3.f0.data.toList y.f3.f1.data.toList
                    · rw [q6] at h6
                      have Hq6 := Lib.hid q6
                      clear q6
                      go_wp2_with (first | (go_at_call 87; with_reducible refine (h1 _ ?hbel).mono ?_; (case hbel => exact bel_then HB0.out (by (with_reducible repeat (first | exact (Below.refl _ _) | refine bel_alloc ?_ _ | refine bel_set ?_ _ ?_ | refine blw_drewN ?_ _ | refine Below.drew ?_)); all_goals (first | (simp; done) | (simp; omega) | omega))); rintro e w1 ⟨rfl, b1⟩; have B1 : Below W0.heap.size W0 w1 := bel_then (by (with_reducible repeat (first | exact (Below.refl _ _) | refine bel_alloc ?_ _ | refine bel_set ?_ _ ?_ | refine blw_drewN ?_ _ | refine Below.drew ?_)); all_goals (first | (simp; done) | (simp; omega) | omega)) b1; obtain ⟨da0_, da1_, da2_, da3_, da4_⟩ := HC.out _ B1; clear b1) | (go_at_call 87; with_reducible refine (h2 _ ?hbel).mono ?_; (case hbel => exact bel_then HB0.out (by (with_reducible repeat (first | exact B1 | refine bel_alloc ?_ _ | refine bel_set ?_ _ ?_ | refine blw_drewN ?_ _ | refine Below.drew ?_)); all_goals (first | (simp; done) | (simp; omega) | omega))); rintro e w2 ⟨rfl, b2⟩; have B2 : Below W0.heap.size W0 w2 := bel_then (by (with_reducible repeat (first | exact B1 | refine bel_alloc ?_ _ | refine bel_set ?_ _ ?_ | refine blw_drewN ?_ _ | refine Below.drew ?_)); all_goals (first | (simp; done) | (simp; omega) | omega)) b2; obtain ⟨db0_, db1_, db2_, db3_, db4_⟩ := HC.out _ B2; clear b2) | (go_at_call 99; with_reducible refine (h3 _ ?hbel).mono ?_; (case hbel => exact bel_then HB0.out (by (with_reducible repeat (first | exact B2 | refine bel_alloc ?_ _ | refine bel_set ?_ _ ?_ | refine blw_drewN ?_ _ | refine Below.drew ?_)); all_goals (first | (simp; done) | (simp; omega) | omega))); rintro e w3 ⟨rfl, b3⟩; have B3 : Below W0.heap.size W0 w3 := bel_then (by (with_reducible repeat (first | exact B2 | refine bel_alloc ?_ _ | refine bel_set ?_ _ ?_ | refine blw_drewN ?_ _ | refine Below.drew ?_)); all_goals (first | (simp; done) | (simp; omega) | omega)) b3; obtain ⟨dc0_, dc1_, dc2_, dc3_, dc4_⟩ := HC.out _ B3; clear b3) | (go_at_call 100; with_reducible refine (h4 _ ?hbel).mono ?_; (case hbel => exact bel_then HB0.out (by (with_reducible repeat (first | exact B3 | refine bel_alloc ?_ _ | refine bel_set ?_ _ ?_ | refine blw_drewN ?_ _ | refine Below.drew ?_)); all_goals (first | (simp; done) | (simp; omega) | omega))); rintro e w4 ⟨rfl, b4⟩; have B4 : Below W0.heap.size W0 w4 := bel_then (by (with_reducible repeat (first | exact B3 | refine bel_alloc ?_ _ | refine bel_set ?_ _ ?_ | refine blw_drewN ?_ _ | refine Below.drew ?_)); all_goals (first | (simp; done) | (simp; omega) | omega)) b4; obtain ⟨dd0_, dd1_, dd2_, dd3_, dd4_⟩ := HC.out _ B4; clear b4) | (go_at_call 67; with_reducible refine (h5 _ ?hbel).mono ?_; (case hbel => exact bel_then HB0.out (by (with_reducible repeat (first | exact B4 | refine bel_alloc ?_ _ | refine bel_set ?_ _ ?_ | refine blw_drewN ?_ _ | refine Below.drew ?_)); all_goals (first | (simp; done) | (simp; omega) | omega))); rintro e w5 ⟨rfl, b5⟩; have B5 : Below W0.heap.size W0 w5 := bel_then (by (with_reducible repeat (first | exact B4 | refine bel_alloc ?_ _ | refine bel_set ?_ _ ?_ | refine blw_drewN ?_ _ | refine Below.drew ?_)); all_goals (first | (simp; done) | (simp; omega) | omega)) b5; obtain ⟨de0_, de1_, de2_, de3_, de4_⟩ := HC.out _ B5; clear b5) | (go_at_call 68; with_reducible refine (h6 _ ?hbel).mono ?_; (case hbel => exact bel_then HB0.out (by (with_reducible repeat (first | exact B4 | refine bel_alloc ?_ _ | refine bel_set ?_ _ ?_ | refine blw_drewN ?_ _ | refine Below.drew ?_)); all_goals (first | (simp; done) | (simp; omega) | omega))); rintro e w5 ⟨rfl, b5⟩; have B5 : Below W0.heap.size W0 w5 := bel_then (by (with_reducible repeat (first | exact B4 | refine bel_alloc ?_ _ | refine bel_set ?_ _ ?_ | refine blw_drewN ?_ _ | refine Below.drew ?_)); all_goals (first | (simp; done) | (simp; omega) | omega)) b5; obtain ⟨de0_, de1_, de2_, de3_, de4_⟩ := HC.out _ B5; clear b5))
                      go_ret
                      exact ⟨retb (HFAIL.out (by rw [HBY.out]; simp [C1.out, C2.out, Hq3.out, c3, C0.out, Hq4.out, C5.out, Hq6.out])).symm, bel_then HB0.out B5⟩
                    · rw [q6] at h6
                      have Hq6 := Lib.hid q6
                      clear q6
                      go_wp2_with (first | (go_at_call 87; with_reducible refine (h1 _ ?hbel).mono ?_; (case hbel => exact bel_then HB0.out (by (with_reducible repeat (first | exact (Below.refl _ _) | refine bel_alloc ?_ _ | refine bel_set ?_ _ ?_ | refine blw_drewN ?_ _ | refine Below.drew ?_)); all_goals (first | (simp; done) | (simp; omega) | omega))); rintro e w1 ⟨rfl, b1⟩; have B1 : Below W0.heap.size W0 w1 := bel_then (by (with_reducible repeat (first | exact (Below.refl _ _) | refine bel_alloc ?_ _ | refine bel_set ?_ _ ?_ | refine blw_drewN ?_ _ | refine Below.drew ?_)); all_goals (first | (simp; done) | (simp; omega) | omega)) b1; obtain ⟨da0_, da1_, da2_, da3_, da4_⟩ := HC.out _ B1; clear b1) | (go_at_call 87; with_reducible refine (h2 _ ?hbel).mono ?_; (case hbel => exact bel_then HB0.out (by (with_reducible repeat (first | exact B1 | refine bel_alloc ?_ _ | refine bel_set ?_ _ ?_ | refine blw_drewN ?_ _ | refine Below.drew ?_)); all_goals (first | (simp; done) | (simp; omega) | omega))); rintro e w2 ⟨rfl, b2⟩; have B2 : Below W0.heap.size W0 w2 := bel_then (by (with_reducible repeat (first | exact B1 | refine bel_alloc ?_ _ | refine bel_set ?_ _ ?_ | refine blw_drewN ?_ _ | refine Below.drew ?_)); all_goals (first | (simp; done) | (simp; omega) | omega)) b2; obtain ⟨db0_, db1_, db2_, db3_, db4_⟩ := HC.out _ B2; clear b2) | (go_at_call 99; with_reducible refine (h3 _ ?hbel).mono ?_; (case hbel => exact bel_then HB0.out (by (with_reducible repeat (first | exact B2 | refine bel_alloc ?_ _ | refine bel_set ?_ _ ?_ | refine blw_drewN ?_ _ | refine Below.drew ?_)); all_goals (first | (simp; done) | (simp; omega) | omega))); rintro e w3 ⟨rfl, b3⟩; have B3 : Below W0.heap.size W0 w3 := bel_then (by (with_reducible repeat (first | exact B2 | refine bel_alloc ?_ _ | refine bel_set ?_ _ ?_ | refine blw_drewN ?_ _ | refine Below.drew ?_)); all_goals (first | (simp; done) | (simp; omega) | omega)) b3; obtain ⟨dc0_, dc1_, dc2_, dc3_, dc4_⟩ := HC.out _ B3; clear b3) | (go_at_call 100; with_reducible refine (h4 _ ?hbel).mono ?_; (case hbel => exact bel_then HB0.out (by (with_reducible repeat (first | exact B3 | refine bel_alloc ?_ _ | refine bel_set ?_ _ ?_ | refine blw_drewN ?_ _ | refine Below.drew ?_)); all_goals (first | (simp; done) | (simp; omega) | omega))); rintro e w4 ⟨rfl, b4⟩; have B4 : Below W0.heap.size W0 w4 := bel_then (by (with_reducible repeat (first | exact B3 | refine bel_alloc ?_ _ | refine bel_set ?_ _ ?_ | refine blw_drewN ?_ _ | refine Below.drew ?_)); all_goals (first | (simp; done) | (simp; omega) | omega)) b4; obtain ⟨dd0_, dd1_, dd2_, dd3_, dd4_⟩ := HC.out _ B4; clear b4) | (go_at_call 67; with_reducible refine (h5 _ ?hbel).mono ?_; (case hbel => exact bel_then HB0.out (by (with_reducible repeat (first | exact B4 | refine bel_alloc ?_ _ | refine bel_set ?_ _ ?_ | refine blw_drewN ?_ _ | refine Below.drew ?_)); all_goals (first | (simp; done) | (simp; omega) | omega))); rintro e w5 ⟨rfl, b5⟩; have B5 : Below W0.heap.size W0 w5 := bel_then (by (with_reducible repeat (first | exact B4 | refine bel_alloc ?_ _ | refine bel_set ?_ _ ?_ | refine blw_drewN ?_ _ | refine Below.drew ?_)); all_goals (first | (simp; done) | (simp; omega) | omega)) b5; obtain ⟨de0_, de1_, de2_, de3_, de4_⟩ := HC.out _ B5; clear b5) | (go_at_call 68; with_reducible refine (h6 _ ?hbel).mono ?_; (case hbel => exact bel_then HB0.out (by (with_reducible repeat (first | exact B4 | refine bel_alloc ?_ _ | refine bel_set ?_ _ ?_ | refine blw_drewN ?_ _ | refine Below.drew ?_)); all_goals (first | (simp; done) | (simp; omega) | omega))); rintro e w5 ⟨rfl, b5⟩; have B5 : Below W0.heap.size W0 w5 := bel_then (by (with_reducible repeat (first | exact B4 | refine bel_alloc ?_ _ | refine bel_set ?_ _ ?_ | refine blw_drewN ?_ _ | refine Below.drew ?_)); all_goals (first | (simp; done) | (simp; omega) | omega)) b5; obtain ⟨de0_, de1_, de2_, de3_, de4_⟩ := HC.out _ B5; clear b5))
                      go_roundg (xs.length - (k + 1))
                      case measure => omega
                      case rel => exact ⟨k + 1, by omega, Nat.le_refl _, by go_num, ⟨bel_then HB0.out B5⟩, ⟨HPASS.out (by rw [HBY.out]; simp [C1.out, C2.out, Hq3.out, c3, C0.out, Hq4.out, C5.out, Hq6.out])⟩⟩
              · have c0b : (y.f0 == 1) = false := by simp [c0]
                by_cases c5 : y.f2 = 3
                · have c5b : (y.f2 == 3) = true := by simp [c5]
                  have C5 := Lib.hid c5
                  clear c5
                  cases q5 : addr y.f3.f0.data.toList y.f3.f1.data.toList
                  · rw [q5] at h5
                    have Hq5 := Lib.hid q5
                    clear q5
                    go_wp2_with (first | (go_at_call 87; with_reducible refine (h1 _ ?hbel).mono ?_; (case hbel => exact bel_then HB0.out (by (with_reducible repeat (first | exact (Below.refl _ _) | refine bel_alloc ?_ _ | refine bel_set ?_ _ ?_ | refine blw_drewN ?_ _ | refine Below.drew ?_)); all_goals (first | (simp; done) | (simp; omega) | omega))); rintro e w1 ⟨rfl, b1⟩; have B1 : Below W0.heap.size W0 w1 := bel_then (by (with_reducible repeat (first | exact (Below.refl _ _) | refine bel_alloc ?_ _ | refine bel_set ?_ _ ?_ | refine blw_drewN ?_ _ | refine Below.drew ?_)); all_goals (first | (simp; done) | (simp; omega) | omega)) b1; obtain ⟨da0_, da1_, da2_, da3_, da4_⟩ := HC.out _ B1; clear b1) | (go_at_call 87; with_reducible refine (h2 _ ?hbel).mono ?_; (case hbel => exact bel_then HB0.out (by (with_reducible repeat (first | exact B1 | refine bel_alloc ?_ _ | refine bel_set ?_ _ ?_ | refine blw_drewN ?_ _ | refine Below.drew ?_)); all_goals (first | (simp; done) | (simp; omega) | omega))); rintro e w2 ⟨rfl, b2⟩; have B2 : Below W0.heap.size W0 w2 := bel_then (by (with_reducible repeat (first | exact B1 | refine bel_alloc ?_ _ | refine bel_set ?_ _ ?_ | refine blw_drewN ?_ _ | refine Below.drew ?_)); all_goals (first | (simp; done) | (simp; omega) | omega)) b2; obtain ⟨db0_, db1_, db2_, db3_, db4_⟩ := HC.out _ B2; clear b2) | (go_at_call 99; with_reducible refine (h3 _ ?hbel).mono ?_; (case hbel => exact bel_then HB0.out (by (with_reducible repeat (first | exact B2 | refine bel_alloc ?_ _ | refine bel_set ?_ _ ?_ | refine blw_drewN ?_ _ | refine Below.drew ?_)); all_goals (first | (simp; done) | (simp; omega) | omega))); rintro e w3 ⟨rfl, b3⟩; have B3 : Below W0.heap.size W0 w3 := bel_then (by (with_reducible repeat (first | exact B2 | refine bel_alloc ?_ _ | refine bel_set ?_ _ ?_ | refine blw_drewN ?_ _ | refine Below.drew ?_)); all_goals (first | (simp; done) | (simp; omega) | omega)) b3; obtain ⟨dc0_, dc1_, dc2_, dc3_, dc4_⟩ := HC.out _ B3; clear b3) | (go_at_call 100; with_reducible refine (h4 _ ?hbel).mono ?_; (case hbel => exact bel_then HB0.out (by (with_reducible repeat (first | exact B3 | refine bel_alloc ?_ _ | refine bel_set ?_ _ ?_ | refine blw_drewN ?_ _ | refine Below.drew ?_)); all_goals (first | (simp; done) | (simp; omega) | omega))); rintro e w4 ⟨rfl, b4⟩; have B4 : Below W0.heap.size W0 w4 := bel_then (by (with_reducible repeat (first | exact B3 | refine bel_alloc ?_ _ | refine bel_set ?_ _ ?_ | refine blw_drewN ?_ _ | refine Below.drew ?_)); all_goals (first | (simp; done) | (simp; omega) | omega)) b4; obtain ⟨dd0_, dd1_, dd2_, dd3_, dd4_⟩ := HC.out _ B4; clear b4) | (go_at_call 67; with_reducible refine (h5 _ ?hbel).mono ?_; (case hbel => exact bel_then HB0.out (by (with_reducible repeat (first | exact B3 | refine bel_alloc ?_ _ | refine bel_set ?_ _ ?_ | refine blw_drewN ?_ _ | refine Below.drew ?_)); all_goals (first | (simp; done) | (simp; omega) | omega))); rintro e w5 ⟨rfl, b5⟩; have B5 : Below W0.heap.size W0 w5 := bel_then (by (with_reducible repeat (first | exact B3 | refine bel_alloc ?_ _ | refine bel_set ?_ _ ?_ | refine blw_drewN ?_ _ | refine Below.drew ?_)); all_goals (first | (simp; done) | (simp; omega) | omega)) b5; obtain ⟨de0_, de1_, de2_, de3_, de4_⟩ := HC.out _ B5; clear b5) | (go_at_call 68; with_reducible refine (h6 _ ?hbel).mono ?_; (case hbel => exact bel_then HB0.out (by (with_reducible repeat (first | exact B3 | refine bel_alloc ?_ _ | refine bel_set ?_ _ ?_ | refine blw_drewN ?_ _ | refine Below.drew ?_)); all_goals (first | (simp; done) | (simp; omega) | omega))); rintro e w5 ⟨rfl, b5⟩; have B5 : Below W0.heap.size W0 w5 := bel_then (by (with_reducible repeat (first | exact B3 | refine bel_alloc ?_ _ | refine bel_set ?_ _ ?_ | refine blw_drewN ?_ _ | refine Below.drew ?_)); all_goals (first | (simp; done) | (simp; omega) | omega)) b5; obtain ⟨de0_, de1_, de2_, de3_, de4_⟩ := HC.out _ B5; clear b5))
                    go_ret
                    exact ⟨retb (HFAIL.out (by rw [HBY.out]; simp [C1.out, C2.out, Hq3.out, c3, c0, C5.out, Hq5.out])).symm, bel_then HB0.out B5⟩
                  · rw [q5] at h5
                    have Hq5 := Lib.hid q5
                    clear q5
                    go_wp2_with (first | (go_at_call 87; with_reducible refine (h1 _ ?hbel).mono ?_; (case hbel => exact bel_then HB0.out (by (with_reducible repeat (first | exact (Below.refl _ _) | refine bel_alloc ?_ _ | refine bel_set ?_ _ ?_ | refine blw_drewN ?_ _ | refine Below.drew ?_)); all_goals (first | (simp; done) | (simp; omega) | omega))); rintro e w1 ⟨rfl, b1⟩; have B1 : Below W0.heap.size W0 w1 := bel_then (by (with_reducible repeat (first | exact (Below.refl _ _) | refine bel_alloc ?_ _ | refine bel_set ?_ _ ?_ | refine blw_drewN ?_ _ | refine Below.drew ?_)); all_goals (first | (simp; done) | (simp; omega) | omega)) b1; obtain ⟨da0_, da1_, da2_, da3_, da4_⟩ := HC.out _ B1; clear b1) | (go_at_call 87; with_reducible refine (h2 _ ?hbel).mono ?_; (case hbel => exact bel_then HB0.out (by (with_reducible repeat (first | exact B1 | refine bel_alloc ?_ _ | refine bel_set ?_ _ ?_ | refine blw_drewN ?_ _ | refine Below.drew ?_)); all_goals (first | (simp; done) | (simp; omega) | omega))); rintro e w2 ⟨rfl, b2⟩; have B2 : Below W0.heap.size W0 w2 := bel_then (by (with_reducible repeat (first | exact B1 | refine bel_alloc ?_ _ | refine bel_set ?_ _ ?_ | refine blw_drewN ?_ _ | refine Below.drew ?_)); all_goals (first | (simp; done) | (simp; omega) | omega)) b2; obtain ⟨db0_, db1_, db2_, db3_, db4_⟩ := HC.out _ B2; clear b2) | (go_at_call 99; with_reducible refine (h3 _ ?hbel).mono ?_; (case hbel => exact bel_then HB0.out (by (with_reducible repeat (first | exact B2 | refine bel_alloc ?_ _ | refine bel_set ?_ _ ?_ | refine blw_drewN ?_ _ | refine Below.drew ?_)); all_goals (first | (simp; done) | (simp; omega) | omega))); rintro e w3 ⟨rfl, b3⟩; have B3 : Below W0.heap.size W0 w3 := bel_then (by (with_reducible repeat (first | exact B2 | refine bel_alloc ?_ _ | refine bel_set ?_ _ ?_ | refine blw_drewN ?_ _ | refine Below.drew ?_)); all_goals (first | (simp; done) | (simp; omega) | omega)) b3; obtain ⟨dc0_, dc1_, dc2_, dc3_, dc4_⟩ := HC.out _ B3; clear b3) | (go_at_call 100; with_reducible refine (h4 _ ?hbel).mono ?_; (case hbel => exact bel_then HB0.out (by (with_reducible repeat (first | exact B3 | refine bel_alloc ?_ _ | refine bel_set ?_ _ ?_ | refine blw_drewN ?_ _ | refine Below.drew ?_)); all_goals (first | (simp; done) | (simp; omega) | omega))); rintro e w4 ⟨rfl, b4⟩; have B4 : Below W0.heap.size W0 w4 := bel_then (by (with_reducible repeat (first | exact B3 | refine bel_alloc ?_ _ | refine bel_set ?_ _ ?_ | refine blw_drewN ?_ _ | refine Below.drew ?_)); all_goals (first | (simp; done) | (simp; omega) | omega)) b4; obtain ⟨dd0_, dd1_, dd2_, dd3_, dd4_⟩ := HC.out _ B4; clear b4) | (go_at_call 67; with_reducible refine (h5 _ ?hbel).mono ?_; (case hbel => exact bel_then HB0.out (by (with_reducible repeat (first | exact B3 | refine bel_alloc ?_ _ | refine bel_set ?_ _ ?_ | refine blw_drewN ?_ _ | refine Below.drew ?_)); all_goals (first | (simp; done) | (simp; omega) | omega))); rintro e w5 ⟨rfl, b5⟩; have B5 : Below W0.heap.size W0 w5 := bel_then (by (with_reducible repeat (first | exact B3 | refine bel_alloc ?_ _ | refine bel_set ?_ _ ?_ | refine blw_drewN ?_ _ | refine Below.drew ?_)); all_goals (first | (simp; done) | (simp; omega) | omega)) b5; obtain ⟨de0_, de1_, de2_, de3_, de4_⟩ := HC.out _ B5; clear b5) | (go_at_call 68; with_reducible refine (h6 _ ?hbel).mono ?_; (case hbel => exact bel_then HB0.out (by (with_reducible repeat (first | exact B3 | refine bel_alloc ?_ _ | refine bel_set ?_ _ ?_ | refine blw_drewN ?_ _ | refine Below.drew ?_)); all_goals (first | (simp; done) | (simp; omega) | omega))); rintro e w5 ⟨rfl, b5⟩; have B5 : Below W0.heap.size W0 w5 := bel_then (by (with_reducible repeat (first | exact B3 | refine bel_alloc ?_ _ | refine bel_set ?_ _ ?_ | refine blw_drewN ?_ _ | refine Below.drew ?_)); all_goals (first | (simp; done) | (simp; omega) | omega)) b5; obtain ⟨de0_, de1_, de2_, de3_, de4_⟩ := HC.out _ B5; clear b5))
                    go_roundg (xs.length - (k + 1))
                    case measure => omega
                    case rel => exact ⟨k + 1, by omega, Nat.le_refl _, by go_num, ⟨bel_then HB0.out B5⟩, ⟨HPASS.out (by rw [HBY.out]; simp [C1.out, C2.out, Hq3.out, c3, c0, C5.out, Hq5.out])⟩⟩
                · have c5b : (y.f2 == 3) = false := by simp [c5]
                  have C5 := Lib.hid c5
                  cases q6 : nul y.f3.f0.data.toList y.f3.f1.data.toList
                  · rw [q6] at h6
                    have Hq6 := Lib.hid q6
                    clear q6
                    go_wp2_with (first | (go_at_call 87; with_reducible refine (h1 _ ?hbel).mono ?_; (case hbel => exact bel_then HB0.out (by (with_reducible repeat (first | exact (Below.refl _ _) | refine bel_alloc ?_ _ | refine bel_set ?_ _ ?_ | refine blw_drewN ?_ _ | refine Below.drew ?_)); all_goals (first | (simp; done) | (simp; omega) | omega))); rintro e w1 ⟨rfl, b1⟩; have B1 : Below W0.heap.size W0 w1 := bel_then (by (with_reducible repeat (first | exact (Below.refl _ _) | refine bel_alloc ?_ _ | refine bel_set ?_ _ ?_ | refine blw_drewN ?_ _ | refine Below.drew ?_)); all_goals (first | (simp; done) | (simp; omega) | omega)) b1; obtain ⟨da0_, da1_, da2_, da3_, da4_⟩ := HC.out _ B1; clear b1) | (go_at_call 87; with_reducible refine (h2 _ ?hbel).mono ?_; (case hbel => exact bel_then HB0.out (by (with_reducible repeat (first | exact B1 | refine bel_alloc ?_ _ | refine bel_set ?_ _ ?_ | refine blw_drewN ?_ _ | refine Below.drew ?_)); all_goals (first | (simp; done) | (simp; omega) | omega))); rintro e w2 ⟨rfl, b2⟩; have B2 : Below W0.heap.size W0 w2 := bel_then (by (with_reducible repeat (first | exact B1 | refine bel_alloc ?_ _ | refine bel_set ?_ _ ?_ | refine blw_drewN ?_ _ | refine Below.drew ?_)); all_goals (first | (simp; done) | (simp; omega) | omega)) b2; obtain ⟨db0_, db1_, db2_, db3_, db4_⟩ := HC.out _ B2; clear b2) | (go_at_call 99; with_reducible refine (h3 _ ?hbel).mono ?_; (case hbel => exact bel_then HB0.out (by (with_reducible repeat (first | exact B2 | refine bel_alloc ?_ _ | refine bel_set ?_ _ ?_ | refine blw_drewN ?_ _ | refine Below.drew ?_)); all_goals (first | (simp; done) | (simp; omega) | omega))); rintro e w3 ⟨rfl, b3⟩; have B3 : Below W0.heap.size W0 w3 := bel_then (by (with_reducible repeat (first | exact B2 | refine bel_alloc ?_ _ | refine bel_set ?_ _ ?_ | refine blw_drewN ?_ _ | refine Below.drew ?_)); all_goals (first | (simp; done) | (simp; omega) | omega)) b3; obtain ⟨dc0_, dc1_, dc2_, dc3_, dc4_⟩ := HC.out _ B3; clear b3) | (go_at_call 100; with_reducible refine (h4 _ ?hbel).mono ?_; (case hbel => exact bel_then HB0.out (by (with_reducible repeat (first | exact B3 | refine bel_alloc ?_ _ | refine bel_set ?_ _ ?_ | refine blw_drewN ?_ _ | refine Below.drew ?_)); all_goals (first | (simp; done) | (simp; omega) | omega))); rintro e w4 ⟨rfl, b4⟩; have B4 : Below W0.heap.size W0 w4 := bel_then (by (with_reducible repeat (first | exact B3 | refine bel_alloc ?_ _ | refine bel_set ?_ _ ?_ | refine blw_drewN ?_ _ | refine Below.drew ?_)); all_goals (first | (simp; done) | (simp; omega) | omega)) b4; obtain ⟨dd0_, dd1_, dd2_, dd3_, dd4_⟩ := HC.out _ B4; clear b4) | (go_at_call 67; with_reducible refine (h5 _ ?hbel).mono ?_; (case hbel => exact bel_then HB0.out (by (with_reducible repeat (first | exact B3 | refine bel_alloc ?_ _ | refine bel_set ?_ _ ?_ | refine blw_drewN ?_ _ | refine Below.drew ?_)); all_goals (first | (simp; done) | (simp; omega) | omega))); rintro e w5 ⟨rfl, b5⟩; have B5 : Below W0.heap.size W0 w5 := bel_then (by (with_reducible repeat (first | exact B3 | refine bel_alloc ?_ _ | refine bel_set ?_ _ ?_ | refine blw_drewN ?_ _ | refine Below.drew ?_)); all_goals (first | (simp; done) | (simp; omega) | omega)) b5; obtain ⟨de0_, de1_, de2_, de3_, de4_⟩ := HC.out _ B5; clear b5) | (go_at_call 68; with_reducible refine (h6 _ ?hbel).mono ?_; (case hbel => exact bel_then HB0.out (by (with_reducible repeat (first | exact B3 | refine bel_alloc ?_ _ | refine bel_set ?_ _ ?_ | refine blw_drewN ?_ _ | refine Below.drew ?_)); all_goals (first | (simp; done) | (simp; omega) | omega))); rintro e w5 ⟨rfl, b5⟩; have B5 : Below W0.heap.size W0 w5 := bel_then (by (with_reducible repeat (first | exact B3 | refine bel_alloc ?_ _ | refine bel_set ?_ _ ?_ | refine blw_drewN ?_ _ | refine Below.drew ?_)); all_goals (first | (simp; done) | (simp; omega) | omega)) b5; obtain ⟨de0_, de1_, de2_, de3_, de4_⟩ := HC.out _ B5; clear b5))
                    go_ret
                    exact ⟨retb (HFAIL.out (by rw [HBY.out]; simp [C1.out, C2.out, Hq3.out, c3, c0, C5.out, Hq6.out])).symm, bel_then HB0.out B5⟩
                  · rw [q6] at h6
                    have Hq6 := Lib.hid q6
                    clear q6
                    go_wp2_with (first | (go_at_call 87; with_reducible refine (h1 _ ?hbel).mono ?_; (case hbel => exact bel_then HB0.out (by (with_reducible repeat (first | exact (Below.refl _ _) | refine bel_alloc ?_ _ | refine bel_set ?_ _ ?_ | refine blw_drewN ?_ _ | refine Below.drew ?_)); all_goals (first | (simp; done) | (simp; omega) | omega))); rintro e w1 ⟨rfl, b1⟩; have B1 : Below W0.heap.size W0 w1 := bel_then (by (with_reducible repeat (first | exact (Below.refl _ _) | refine bel_alloc ?_ _ | refine bel_set ?_ _ ?_ | refine blw_drewN ?_ _ | refine Below.drew ?_)); all_goals (first | (simp; done) | (simp; omega) | omega)) b1; obtain ⟨da0_, da1_, da2_, da3_, da4_⟩ := HC.out _ B1; clear b1) | (go_at_call 87; with_reducible refine (h2 _ ?hbel).mono ?_; (case hbel => exact bel_then HB0.out (by (with_reducible repeat (first | exact B1 | refine bel_alloc ?_ _ | refine bel_set ?_ _ ?_ | refine blw_drewN ?_ _ | refine Below.drew ?_)); all_goals (first | (simp; done) | (simp; omega) | omega))); rintro e w2 ⟨rfl, b2⟩; have B2 : Below W0.heap.size W0 w2 := bel_then (by (with_reducible repeat (first | exact B1 | refine bel_alloc ?_ _ | refine bel_set ?_ _ ?_ | refine blw_drewN ?_ _ | refine Below.drew ?_)); all_goals (first | (simp; done) | (simp; omega) | omega)) b2; obtain ⟨db0_, db1_, db2_, db3_, db4_⟩ := HC.out _ B2; clear b2) | (go_at_call 99; with_reducible refine (h3 _ ?hbel).mono ?_; (case hbel => exact bel_then HB0.out (by (with_reducible repeat (first | exact B2 | refine bel_alloc ?_ _ | refine bel_set ?_ _ ?_ | refine blw_drewN ?_ _ | refine Below.drew ?_)); all_goals (first | (simp; done) | (simp; omega) | omega))); rintro e w3 ⟨rfl, b3⟩; have B3 : Below W0.heap.size W0 w3 := bel_then (by (with_reducible repeat (first | exact B2 | refine bel_alloc ?_ _ | refine bel_set ?_ _ ?_ | refine blw_drewN ?_ _ | refine Below.drew ?_)); all_goals (first | (simp; done) | (simp; omega) | omega)) b3; obtain ⟨dc0_, dc1_, dc2_, dc3_, dc4_⟩ := HC.out _ B3; clear b3) | (go_at_call 100; with_reducible refine (h4 _ ?hbel).mono ?_; (case hbel => exact bel_then HB0.out (by (with_reducible repeat (first | exact B3 | refine bel_alloc ?_ _ | refine bel_set ?_ _ ?_ | refine blw_drewN ?_ _ | refine Below.drew ?_)); all_goals (first | (simp; done) | (simp; omega) | omega))); rintro e w4 ⟨rfl, b4⟩; have B4 : Below W0.heap.size W0 w4 := bel_then (by (with_reducible repeat (first | exact B3 | refine bel_alloc ?_ _ | refine bel_set ?_ _ ?_ | refine blw_drewN ?_ _ | refine Below.drew ?_)); all_goals (first | (simp; done) | (simp; omega) | omega)) b4; obtain ⟨dd0_, dd1_, dd2_, dd3_, dd4_⟩ := HC.out _ B4; clear b4) | (go_at_call 67; with_reducible refine (h5 _ ?hbel).mono ?_; (case hbel => exact bel_then HB0.out (by (with_reducible repeat (first | exact B3 | refine bel_alloc ?_ _ | refine bel_set ?_ _ ?_ | refine blw_drewN ?_ _ | refine Below.drew ?_)); all_goals (first | (simp; done) | (simp; omega) | omega))); rintro e w5 ⟨rfl, b5⟩; have B5 : Below W0.heap.size W0 w5 := bel_then (by (with_reducible repeat (first | exact B3 | refine bel_alloc ?_ _ | refine bel_set ?_ _ ?_ | refine blw_drewN ?_ _ | refine Below.drew ?_)); all_goals (first | (simp; done) | (simp; omega) | omega)) b5; obtain ⟨de0_, de1_, de2_, de3_, de4_⟩ := HC.out _ B5; clear b5) | (go_at_call 68; with_reducible refine (h6 _ ?hbel).mono ?_; (case hbel => exact bel_then HB0.out (by (with_reducible repeat (first | exact B3 | refine bel_alloc ?_ _ | refine bel_set ?_ _ ?_ | refine blw_drewN ?_ _ | refine Below.drew ?_)); all_goals (first | (simp; done) | (simp; omega) | omega))); rintro e w5 ⟨rfl, b5⟩; have B5 : Below W0.heap.size W0 w5 := bel_then (by (with_reducible repeat (first | exact B3 | refine bel_alloc ?_ _ | refine bel_set ?_ _ ?_ | refine blw_drewN ?_ _ | refine Below.drew ?_)); all_goals (first | (simp; done) | (simp; omega) | omega)) b5; obtain ⟨de0_, de1_, de2_, de3_, de4_⟩ := HC.out _ B5; clear b5))
                    go_roundg (xs.length - (k + 1))
                    case measure => omega
                    case rel => exact ⟨k + 1, by omega, Nat.le_refl _, by go_num, ⟨bel_then HB0.out B5⟩, ⟨HPASS.out (by rw [HBY.out]; simp [C1.out, C2.out, Hq3.out, c3, c0, C5.out, Hq6.out])⟩⟩
        · have q2 : (decide ((1 : Int) ≤ y.f2) && decide (y.f2 ≤ 3)) = false := by simp; omega
          rw [q2] at h2
          have C2 := Lib.hid c2
          clear q2 c2
          go_wp2_with (first | (go_at_call 87; with_reducible refine (h1 _ ?hbel).mono ?_; (case hbel => exact bel_then HB0.out (by (with_reducible repeat (first | exact (Below.refl _ _) | refine bel_alloc ?_ _ | refine bel_set ?_ _ ?_ | refine blw_drewN ?_ _ | refine Below.drew ?_)); all_goals (first | (simp; done) | (simp; omega) | omega))); rintro e w1 ⟨rfl, b1⟩; have B1 : Below W0.heap.size W0 w1 := bel_then (by (with_reducible repeat (first | exact (Below.refl _ _) | refine bel_alloc ?_ _ | refine bel_set ?_ _ ?_ | refine blw_drewN ?_ _ | refine Below.drew ?_)); all_goals (first | (simp; done) | (simp; omega) | omega)) b1; obtain ⟨da0_, da1_, da2_, da3_, da4_⟩ := HC.out _ B1; clear b1) | (go_at_call 87; with_reducible refine (h2 _ ?hbel).mono ?_; (case hbel => exact bel_then HB0.out (by (with_reducible repeat (first | exact B1 | refine bel_alloc ?_ _ | refine bel_set ?_ _ ?_ | refine blw_drewN ?_ _ | refine Below.drew ?_)); all_goals (first | (simp; done) | (simp; omega) | omega))); rintro e w2 ⟨rfl, b2⟩; have B2 : Below W0.heap.size W0 w2 := bel_then (by (with_reducible repeat (first | exact B1 | refine bel_alloc ?_ _ | refine bel_set ?_ _ ?_ | refine blw_drewN ?_ _ | refine Below.drew ?_)); all_goals (first | (simp; done) | (simp; omega) | omega)) b2; obtain ⟨db0_, db1_, db2_, db3_, db4_⟩ := HC.out _ B2; clear b2))
          go_ret
          exact ⟨retb (HFAIL.out (by rw [HBY.out, decide_eq_false C2.out]; simp)).symm, bel_then HB0.out B2⟩
      · have q1 : (decide ((1 : Int) ≤ y.f0) && decide (y.f0 ≤ 4)) = false := by simp; omega
        rw [q1] at h1
        have C1 := Lib.hid c1
        clear q1 c1
        go_wp2_with (go_at_call 87; with_reducible refine (h1 _ ?hbel).mono ?_; (case hbel => exact bel_then HB0.out (by (with_reducible repeat (first | exact (Below.refl _ _) | refine bel_alloc ?_ _ | refine bel_set ?_ _ ?_ | refine blw_drewN ?_ _ | refine Below.drew ?_)); all_goals (first | (simp; done) | (simp; omega) | omega))); rintro e w1 ⟨rfl, b1⟩; have B1 : Below W0.heap.size W0 w1 := bel_then (by (with_reducible repeat (first | exact (Below.refl _ _) | refine bel_alloc ?_ _ | refine bel_set ?_ _ ?_ | refine blw_drewN ?_ _ | refine Below.drew ?_)); all_goals (first | (simp; done) | (simp; omega) | omega)) b1; obtain ⟨da0_, da1_, da2_, da3_, da4_⟩ := HC.out _ B1; clear b1)
        go_ret
        exact ⟨retb (HFAIL.out (by rw [HBY.out, decide_eq_false C1.out]; simp)).symm, bel_then HB0.out B1⟩
    · have hlt' : ¬ (k : Int) < (xs.length : Int) := by omega
      have hs := sieve_yes (xs := xs) (fun j hj => H.out j (by omega))
      have HS := Lib.hid hs
      clear hs
      by_cases h5 : xs.length ≤ 5
      · have h5' : decide ((xs.length : Int) ≤ 5) = true := by simp; omega
        go_wp2
        go_ret
        exact ⟨retb (by rw [HS.out, decide_eq_true h5]), BW.out⟩
      · have h5' : decide ((xs.length : Int) ≤ 5) = false := by simp; omega
        go_wp2
        go_ret
        exact ⟨retb (by rw [HS.out, decide_eq_false h5]), BW.out⟩

end Go.Proofs.YtmfehmbgghfffaaDoor

/- SieveFor of the reference; both say the same: contracts. -/
namespace Go.Proofs.YtmfehmbgghfffaaDoor
open Go.RowKit Go.Proofs.YtmfehmbgghfffaaDoorW.PrintWords
set_option linter.unusedVariables false
set_option linter.unusedSimpArgs false
def specFor (xs : List SRule) (u d : List UInt8) (tos : List SAddr) (body : List ByteArray) : Int :=
  if sieveOk xs && mailOk u d tos body then idx (asksS u d body) xs else -1
/-- Both ask the same of what is ok. -/
theorem asks_holds (u d : List UInt8) (body : List ByteArray) (x : SRule) (hd : nul u d = true ∨ dom d = true) (hx : x.f0 = 1 → dom x.f1.data.toList = true) : asksS u d body x = holdsS u d body x := by
  unfold asksS holdsS holdsF
  by_cases h1 : x.f0 = 1
  · rw [if_pos h1, if_pos h1]
    rcases hd with hd | hd
    · rw [hd]; rfl
    · have e : domIn d x.f1.data.toList = ends d x.f1.data.toList := by unfold domIn ends; rw [hd, hx h1]; rfl
      rw [e]
  · rw [if_neg h1, if_neg h1]
theorem idx_congr {α : Type} (p q : α → Bool) (xs : List α) (h : ∀ x ∈ xs, p x = q x) : idx p xs = idx q xs := by
  induction xs with
  | nil => rfl
  | cons x xs ih =>
    have hx := h x (by simp)
    have ih := ih (fun y hy => h y (by simp [hy]))
    unfold idx at ih ⊢
    rw [List.any_cons, List.any_cons, List.findIdx_cons, List.findIdx_cons, hx]
    cases q x
    · rw [Bool.false_or, Bool.false_or]
      cases ha : xs.any p
      · cases hb : xs.any q
        · rfl
        · rw [ha, hb] at ih; simp at ih
      · cases hb : xs.any q
        · rw [ha, hb] at ih; simp at ih
        · rw [ha, hb] at ih; simp at ih; simp; exact ih
    · rfl
theorem for_same (xs : List SRule) (u d : List UInt8) (tos : List SAddr) (body : List ByteArray) : specFor xs u d tos body = sieveFor xs u d tos body := by
  unfold specFor sieveFor
  cases h : (sieveOk xs && mailOk u d tos body)
  · rfl
  · rw [if_pos rfl, if_pos rfl]
    rw [Bool.and_eq_true] at h
    refine idx_congr _ _ _ fun x hx => asks_holds u d body x ?_ ?_
    · have := h.2
      unfold mailOk at this
      rw [Bool.and_eq_true, Bool.or_eq_true] at this
      rcases this.1 with h1 | h1
      · exact .inl h1
      · unfold addr at h1
        rw [Bool.and_eq_true] at h1
        exact .inr h1.2
    · intro h1
      have := h.1
      unfold sieveOk at this
      rw [Bool.and_eq_true, List.all_eq_true] at this
      have := this.2 x hx
      unfold ruleOkS ruleOk asksF at this
      rw [h1] at this
      simp at this
      exact this.1

end Go.Proofs.YtmfehmbgghfffaaDoor

/- The mailbox rules: which rule is asked: plain facts. -/
namespace Go.Proofs.YtmfehmbgghfffaaDoor
open Go.RowKit Go.Proofs.YtmfehmbgghfffaaDoorW.PrintWords
set_option linter.unusedVariables false
set_option linter.unusedSimpArgs false

theorem idx_one {α : Type} (p : α → Bool) (x : α) : idx p [x] = if p x then 0 else -1 := by
  unfold idx
  cases h : p x <;> simp [h]
theorem idx_lt {α : Type} (p : α → Bool) (xs : List α) : idx p xs < (xs.length : Int) ∧ -1 ≤ idx p xs := by
  unfold idx
  split
  · rename_i h
    have := List.findIdx_lt_length.2 (List.any_eq_true.1 h)
    omega
  · omega
/-- Ahead of the first that holds none holds; the first holds. -/
theorem idx_ahead {α : Type} (p : α → Bool) (xs : List α) (d : α) (i : Nat) (hi : i < xs.length) (h : idx p xs < 0 ∨ (i : Int) < idx p xs) : p (xs.getD i d) = false := by
  unfold idx at h
  rw [List.getD, List.getElem?_eq_getElem hi]
  show p xs[i] = false
  split at h
  · have h2 : i < xs.findIdx p := by omega
    exact List.not_of_lt_findIdx h2
  · rename_i ha
    cases hp : p xs[i]
    · rfl
    · exact absurd (List.any_eq_true.2 ⟨_, List.getElem_mem hi, hp⟩) ha
theorem idx_there {α : Type} (p : α → Bool) (xs : List α) (d : α) (i : Nat) (hi : i < xs.length) (h : (i : Int) = idx p xs) : p (xs.getD i d) = true := by
  unfold idx at h
  rw [List.getD, List.getElem?_eq_getElem hi]
  show p xs[i] = true
  split at h
  · have h2 : i = xs.findIdx p := by omega
    subst h2
    exact List.findIdx_getElem
  · omega
theorem sieveOk_one {xs : List SRule} {i : Nat} (hi : i < xs.length) (h : sieveOk xs = true) : sieveOk [xs.getD i zRule] = true := by
  unfold sieveOk at h ⊢
  rw [Bool.and_eq_true, List.all_eq_true] at h
  have hk := h.2 _ (getD_mem xs zRule hi)
  generalize xs.getD i zRule = y at hk ⊢
  simp [hk]
/-- One rule of those that are ok, asked alone. -/
theorem for_one {xs : List SRule} {u d : List UInt8} {tos : List SAddr} {body : List ByteArray} {i : Nat} (hi : i < xs.length) (h : sieveOk xs = true) (hm : mailOk u d tos body = true) :
    ((sieveFor xs u d tos body < 0 ∨ (i : Int) < sieveFor xs u d tos body) → sieveFor [xs.getD i zRule] u d tos body = -1) ∧ ((i : Int) = sieveFor xs u d tos body → sieveFor [xs.getD i zRule] u d tos body = 0) := by
  have e1 : sieveFor xs u d tos body = idx (holdsS u d body) xs := by unfold sieveFor; rw [h, hm]; rfl
  have e2 : sieveFor [xs.getD i zRule] u d tos body = idx (holdsS u d body) [xs.getD i zRule] := by unfold sieveFor; rw [sieveOk_one hi h, hm]; rfl
  rw [e1, e2, idx_one]
  refine ⟨fun hh => ?_, fun hh => ?_⟩
  · rw [idx_ahead _ _ zRule i hi hh]; rfl
  · rw [idx_there _ _ zRule i hi hh]; rfl
theorem for_lt (xs : List SRule) (u d : List UInt8) (tos : List SAddr) (body : List ByteArray) : sieveFor xs u d tos body < (xs.length : Int) ∧ -1 ≤ sieveFor xs u d tos body := by
  unfold sieveFor
  split
  · exact idx_lt _ _
  · omega

end Go.Proofs.YtmfehmbgghfffaaDoor

/- The mailbox rules: what is done with a mail; tidied rules: plain facts. -/
namespace Go.Proofs.YtmfehmbgghfffaaDoor
open Go.RowKit Go.Proofs.YtmfehmbgghfffaaDoorW.PrintWords
set_option linter.unusedVariables false
set_option linter.unusedSimpArgs false

def covers (r : SRule) (x : SRule) : Bool := decide (x.f0 = 4) || (decide (x.f0 = r.f0) && decide (x.f1.data.toList = r.f1.data.toList))
def tidyStep (out : List SRule) (r : SRule) : List SRule := if out.any (covers r) then out else out ++ [r]
def tidyEnd (out : List SRule) : List SRule := (out.reverse.dropWhile (fun x => decide (x.f2 = 1))).reverse
def tidy (xs : List SRule) : List SRule := if sieveOk xs then tidyEnd (xs.foldl tidyStep []) else []
theorem ruleOk_do (x : SRule) (h : ruleOkS x = true) : 1 ≤ x.f2 ∧ x.f2 ≤ 3 := by
  rw [ruleOk_by] at h
  simp only [Bool.and_eq_true, decide_eq_true_eq] at h
  exact h.2.1
def firstR (x : SMail) (xs : List SRule) : Option SRule := xs.find? (holdsS x.f0.f0.data.toList x.f0.f1.data.toList x.f2)
def outM (x : SMail) (r : Option SRule) : SMail × Int := match r with
  | none => (x, 1)
  | some r => if r.f2 = 2 then (zMail, 2) else if r.f2 = 3 then (⟨x.f0, [r.f3], x.f2⟩, 3) else (x, 1)
def sieveDo (xs : List SRule) (x : SMail) : SMail × Int := if sieveOk xs && mailOkS x then outM x (firstR x xs) else (zMail, -1)
def sieveK (xs : List SRule) (x : SMail) : Int := sieveFor xs x.f0.f0.data.toList x.f0.f1.data.toList x.f1 x.f2
theorem idx_find {α : Type} (p : α → Bool) (xs : List α) (d : α) : (idx p xs = -1 ∧ xs.find? p = none) ∨ ∃ k : Nat, idx p xs = (k : Int) ∧ k < xs.length ∧ xs.find? p = some (xs.getD k d) := by
  unfold idx
  cases h : xs.any p
  · left
    refine ⟨rfl, ?_⟩
    rw [List.find?_eq_none]
    intro x hx hp
    exact absurd hp (by simpa using List.any_eq_false.1 h x hx)
  · right
    have hl := List.findIdx_lt_length.2 (List.any_eq_true.1 h)
    refine ⟨xs.findIdx p, rfl, hl, ?_⟩
    rw [List.getD, List.getElem?_eq_getElem hl, Option.getD_some, List.find?_eq_some_iff_getElem]
    exact ⟨List.findIdx_getElem, _, hl, rfl, fun j hj => by have := List.not_of_lt_findIdx hj; simpa using this⟩
theorem do_bad {xs : List SRule} {x : SMail} (h : (sieveOk xs && mailOkS x) = false) : sieveDo xs x = (zMail, -1) ∧ sieveK xs x = -1 := by
  unfold sieveDo sieveK sieveFor
  have h' : (sieveOk xs && mailOk x.f0.f0.data.toList x.f0.f1.data.toList x.f1 x.f2) = false := h
  rw [h, h']
  exact ⟨rfl, rfl⟩
theorem do_cases {xs : List SRule} {x : SMail} (h : sieveOk xs = true) (hm : mailOkS x = true) :
    (sieveK xs x = -1 ∧ sieveDo xs x = (x, 1)) ∨ ∃ k : Nat, sieveK xs x = (k : Int) ∧ k < xs.length ∧ sieveDo xs x = outM x (some (xs.getD k zRule)) ∧ 1 ≤ (xs.getD k zRule).f2 ∧ (xs.getD k zRule).f2 ≤ 3 := by
  have e1 : sieveK xs x = idx (holdsS x.f0.f0.data.toList x.f0.f1.data.toList x.f2) xs := by
    have hm' : mailOk x.f0.f0.data.toList x.f0.f1.data.toList x.f1 x.f2 = true := hm
    unfold sieveK sieveFor; rw [h, hm']; rfl
  have e2 : sieveDo xs x = outM x (xs.find? (holdsS x.f0.f0.data.toList x.f0.f1.data.toList x.f2)) := by unfold sieveDo firstR; rw [h, hm]; rfl
  rw [e1, e2]
  rcases idx_find (holdsS x.f0.f0.data.toList x.f0.f1.data.toList x.f2) xs zRule with ⟨h1, h2⟩ | ⟨k, h1, h2, h3⟩
  · left
    rw [h1, h2]
    exact ⟨rfl, rfl⟩
  · right
    refine ⟨k, h1, h2, by rw [h3], ?_⟩
    unfold sieveOk at h
    rw [Bool.and_eq_true, List.all_eq_true] at h
    have hk := h.2 (xs.getD k zRule) (by rw [List.getD, List.getElem?_eq_getElem h2]; exact List.getElem_mem h2)
    exact ruleOk_do _ hk
theorem holds_cov {u d : List UInt8} {body : List ByteArray} {r x : SRule} (hc : covers r x = true) (hr : holdsS u d body r = true) : holdsS u d body x = true := by
  unfold covers at hc
  rw [Bool.or_eq_true, Bool.and_eq_true, decide_eq_true_iff, decide_eq_true_iff, decide_eq_true_iff] at hc
  unfold holdsS at hr ⊢
  rcases hc with h | ⟨h1, h2⟩
  · unfold holdsF
    rw [if_neg (by omega), if_neg (by omega), if_neg (by omega)]
  · rw [h1, h2]; exact hr
theorem step_find (p : SRule → Bool) (hp : ∀ r x, covers r x = true → p r = true → p x = true) (out : List SRule) (r : SRule) : (tidyStep out r).find? p = (out ++ [r]).find? p := by
  unfold tidyStep
  split
  · rename_i h
    obtain ⟨x, hx, hc⟩ := List.any_eq_true.1 h
    rw [List.find?_append]
    cases hf : out.find? p with
    | some y => rfl
    | none =>
      have h1 := List.find?_eq_none.1 hf x hx
      cases hr : p r
      · simp [List.find?, hr]
      · exact absurd (hp r x hc hr) h1
  · rfl
theorem fold_find (p : SRule → Bool) (hp : ∀ r x, covers r x = true → p r = true → p x = true) : ∀ xs out : List SRule, (xs.foldl tidyStep out).find? p = (out ++ xs).find? p
  | [], out => by simp
  | r :: xs, out => by
    rw [List.foldl_cons, fold_find p hp xs, List.find?_append, step_find p hp, ← List.find?_append, List.append_assoc]
    rfl
theorem end_act (x : SMail) (p : SRule → Bool) : ∀ l : List SRule, outM x ((l.dropWhile (fun x => decide (x.f2 = 1))).reverse.find? p) = outM x (l.reverse.find? p)
  | [] => rfl
  | y :: l => by
    rw [List.dropWhile_cons]
    split
    · rename_i h
      have h1 : y.f2 = 1 := of_decide_eq_true h
      rw [end_act x p l, List.reverse_cons, List.find?_append]
      cases hf : l.reverse.find? p with
      | some z => rfl
      | none =>
        cases hy : p y
        · simp [List.find?, hy]
        · simp [List.find?, hy]
          unfold outM
          dsimp only
          rw [if_neg (by omega), if_neg (by omega)]
    · rfl
theorem mem_fold {y : SRule} : ∀ xs out : List SRule, y ∈ xs.foldl tidyStep out → y ∈ out ∨ y ∈ xs
  | [], out => fun h => .inl h
  | r :: xs, out => fun h => by
    rcases mem_fold xs _ h with h | h
    · unfold tidyStep at h
      split at h
      · exact .inl h
      · rcases List.mem_append.1 h with h | h
        · exact .inl h
        · exact .inr (by rw [List.mem_singleton.1 h]; simp)
    · exact .inr (List.mem_cons_of_mem _ h)
theorem fold_len2 : ∀ xs out : List SRule, (xs.foldl tidyStep out).length ≤ out.length + xs.length
  | [], out => by simp
  | r :: xs, out => by
    have h1 := fold_len2 xs (tidyStep out r)
    have h2 : (tidyStep out r).length ≤ out.length + 1 := by
      unfold tidyStep; split
      · omega
      · simp
    rw [List.foldl_cons, List.length_cons]; omega
theorem mem_end {y : SRule} {ys : List SRule} (h : y ∈ tidyEnd ys) : y ∈ ys := by
  unfold tidyEnd at h
  exact List.mem_reverse.1 ((List.dropWhile_sublist _).subset (List.mem_reverse.1 h))
theorem end_len (ys : List SRule) : (tidyEnd ys).length ≤ ys.length := by
  unfold tidyEnd
  rw [List.length_reverse]
  exact Nat.le_trans (List.dropWhile_sublist _).length_le (by rw [List.length_reverse]; exact Nat.le_refl _)
theorem tidy_len (xs : List SRule) : (tidy xs).length ≤ xs.length := by
  unfold tidy
  split
  · have h1 := end_len (xs.foldl tidyStep [])
    have h2 := fold_len2 xs []
    simp at h2
    omega
  · simp
theorem tidy_mem {xs : List SRule} {y : SRule} (h : y ∈ tidy xs) : y ∈ xs := by
  unfold tidy at h
  split at h
  · rcases mem_fold xs [] (mem_end h) with h | h
    · cases h
    · exact h
  · cases h
theorem tidy_ok {xs : List SRule} (h : sieveOk xs = true) : sieveOk (tidy xs) = true := by
  have h0 := h
  unfold sieveOk at h ⊢
  rw [Bool.and_eq_true, List.all_eq_true, decide_eq_true_iff] at h ⊢
  exact ⟨by have := tidy_len xs; omega, fun y hy => h.2 y (tidy_mem hy)⟩
def nice (ys : List SRule) : Prop := ys.foldl tidyStep [] = ys
theorem nice_step {out : List SRule} (h : nice out) (r : SRule) : nice (tidyStep out r) := by
  unfold tidyStep
  split
  · exact h
  · rename_i hn
    unfold nice at h ⊢
    rw [List.foldl_append, h]
    show tidyStep out r = _
    unfold tidyStep
    rw [if_neg hn]
theorem nice_fold : ∀ xs out : List SRule, nice out → nice (xs.foldl tidyStep out)
  | [], out, h => h
  | r :: xs, out, h => nice_fold xs _ (nice_step h r)
theorem nice_cut {ys : List SRule} {y : SRule} (h : nice (ys ++ [y])) : nice ys := by
  unfold nice at h ⊢
  rw [List.foldl_append] at h
  have hl := fold_len2 ys []
  simp only [List.length_nil, Nat.zero_add] at hl
  generalize ys.foldl tidyStep [] = zs at h hl
  change tidyStep zs y = _ at h
  unfold tidyStep at h
  split at h
  · have := congrArg List.length h
    simp at this
    omega
  · exact List.append_cancel_right h
theorem nice_drop : ∀ l : List SRule, nice l.reverse → nice (l.dropWhile (fun x => decide (x.f2 = 1))).reverse
  | [], h => h
  | y :: l, h => by
    rw [List.dropWhile_cons]
    split
    · exact nice_drop l (nice_cut (by rw [List.reverse_cons] at h; exact h))
    · exact h
theorem drop_twice (p : SRule → Bool) : ∀ l : List SRule, (l.dropWhile p).dropWhile p = l.dropWhile p
  | [] => rfl
  | y :: l => by
    rw [List.dropWhile_cons]
    split
    · exact drop_twice p l
    · rename_i h
      rw [List.dropWhile_cons, if_neg h]
theorem tidy_twice {xs : List SRule} (h : sieveOk xs = true) : tidy (tidy xs) = tidy xs := by
  have hk := tidy_ok h
  have e : tidy xs = tidyEnd (xs.foldl tidyStep []) := by unfold tidy; rw [h]; rfl
  rw [e] at hk ⊢
  unfold tidy
  rw [hk, if_pos rfl]
  have hn : nice (tidyEnd (xs.foldl tidyStep [])) := by
    unfold tidyEnd
    exact nice_drop _ (by rw [List.reverse_reverse]; exact nice_fold xs [] rfl)
  unfold nice at hn
  rw [hn]
  unfold tidyEnd
  rw [List.reverse_reverse, drop_twice]
theorem tidy_same {xs : List SRule} (h : sieveOk xs = true) (x : SMail) : sieveDo (tidy xs) x = sieveDo xs x := by
  have hk := tidy_ok h
  unfold sieveDo
  rw [h, hk]
  cases mailOkS x
  · rfl
  · show outM x (firstR x (tidy xs)) = outM x (firstR x xs)
    have e : tidy xs = tidyEnd (xs.foldl tidyStep []) := by unfold tidy; rw [h]; rfl
    rw [e]
    unfold firstR tidyEnd
    rw [end_act, List.reverse_reverse, fold_find _ (fun r y hc hr => holds_cov hc hr)]
    rfl

end Go.Proofs.YtmfehmbgghfffaaDoor

/- SieveDo of the program: a contract. -/
namespace Go.Proofs.YtmfehmbgghfffaaDoor
open Go.RowKit Go.Proofs.YtmfehmbgghfffaaDoorW.PrintWords
set_option linter.unusedVariables false
set_option linter.unusedSimpArgs false
theorem hp_set {W w : World} {p : Addr} {u : Value} {k : Nat} (h : W.heap[k]? = w.heap[k]?) (hk : k ≠ p.block) : (W.setCell p u).heap[k]? = w.heap[k]? := (Below.heap_setCell _ _ _ k hk).trans h
theorem hp_alloc {W w : World} {o : Obj} {k : Nat} (h : W.heap[k]? = w.heap[k]?) (hk : k < W.heap.size) : (W.alloc o).heap[k]? = w.heap[k]? := (Below.heap_alloc _ _ k hk).trans h
theorem hp_drew {W w : World} {k : Nat} (h : W.heap[k]? = w.heap[k]?) : W.drew.heap[k]? = w.heap[k]? := h
theorem R_oneAt {α : Type} (d : Kd α) (e : Nat) (W : World) (base : Nat) (x : α) (cs : List Value) {b : Nat} (he : b = W.heap.size) (hM : d.M (W.alloc (.cells cs.toArray e)) base (fun _ => False) x cs) (hb : base ≤ W.heap.size) :
    d.R e (W.alloc (.cells cs.toArray e)) base (fun _ => True) (.slice (some ⟨b, 0, none⟩) 1 1) [x] := by subst he; exact R_one d e W base x cs hM hb
theorem R_keepT {α : Type} {d : Kd α} {e base : Nat} {ok : Nat → Prop} {W w1 : World} {v : Value} {xs : List α} (h : d.R e W base ok v xs) (hE : d.E = []) (T : ∀ k, k < W.heap.size → some k = v.ownBlock → w1.heap[k]? = W.heap[k]?) : d.R e w1 base ok v xs :=
  Kd.R_mono (Kd.R_step (Kd.R_tight hE h) (fun k hk hlt => T k hlt hk)) (fun k hk => h.1 k hk.symm)

set_option maxRecDepth 100000 in
set_option maxHeartbeats 4000000 in
theorem sieveDo_any (A : Option Addr) (c : Nat) (xs : List SRule) (x : SMail) (A0 : Option Addr) (c0 : Nat) (A1 : Option Addr) (c1 : Nat) (w : World) (hr : Kd.C kRule w A xs.length xs) (hl : xs.length ≤ 1048576) (hx : ∀ y ∈ xs, RFit y) (hw : fitMail x) (hr0 : Kd.C kAddr w A0 x.f1.length x.f1) (hr1 : Kd.C Kd.string w A1 x.f2.length x.f2) (hG : Glob w) :
    Calls Tryd.prog 20 #[.slice A xs.length c, .agg #[.string x.f0.f0, .string x.f0.f1, .slice A0 x.f1.length c0, .slice A1 x.f2.length c1]] w fun e w' => ∃ B0 d0 B1 d1, e = .returned (.tuple #[.agg #[.string (sieveDo xs x).1.f0.f0, .string (sieveDo xs x).1.f0.f1, .slice B0 (sieveDo xs x).1.f1.length d0, .slice B1 (sieveDo xs x).1.f2.length d1], .int .i64 (sieveDo xs x).2]) ∧ Kd.R kAddr 33 w' w.heap.size (fun _ => True) (.slice B0 (sieveDo xs x).1.f1.length d0) (sieveDo xs x).1.f1 ∧ Kd.R Kd.string 9 w' w.heap.size (fun _ => True) (.slice B1 (sieveDo xs x).1.f2.length d1) (sieveDo xs x).1.f2 ∧ Below w.heap.size w w' := by
  have hw' := hw
  obtain ⟨⟨hu, hd⟩, ⟨ht0, ht1⟩, hb0, hb1⟩ := hw'
  have hTo : ToFit x.f1 := ⟨by omega, fun y hy => afit_of y (ht1 y hy)⟩
  have hBo := bfit_of ⟨hb0, hb1⟩
  have hok := fun W (hW : Below w.heap.size w W) => SieveOk_any A c xs W (Kd.C_below hr hW) (by omega) hx (hG.below hW)
  have hmok : ∀ W, Below w.heap.size w W → Calls Tryd.prog 25 #[.agg #[.string x.f0.f0, .string x.f0.f1, .slice A0 x.f1.length c0, .slice A1 x.f2.length c1]] W fun e w' => e = .returned (.bool (mailOkS x)) ∧ Below W.heap.size W w' := fun W hW => MailOk_any x.f0.f0 x.f0.f1 A0 c0 x.f1 A1 c1 x.f2 W (by omega) (by omega) (Kd.C_below hr0 hW) hTo.1 hTo.2 (Kd.C_below hr1 hW) hBo.1 hBo.2 (hG.below hW)
  have hcp := fun W (hW : Below w.heap.size w W) => mailCopied_any x A0 c0 A1 c1 W hw (Kd.C_below hr0 hW) (Kd.C_below hr1 hW)
  have hfor : ∀ W, Below w.heap.size w W → Calls Tryd.prog 30 #[.slice A xs.length c, .agg #[.string x.f0.f0, .string x.f0.f1, .slice A0 x.f1.length c0, .slice A1 x.f2.length c1]] W fun e w' => e = .returned (.int .i64 (sieveK xs x)) ∧ Below W.heap.size W w' := fun W hW => SieveFor_any A c xs x.f0.f0 x.f0.f1 A0 c0 x.f1 A1 c1 x.f2 W (Kd.C_below hr hW) (by omega) hx (by omega) (by omega) (Kd.C_below hr0 hW) hTo (Kd.C_below hr1 hW) hBo (hG.below hW)
  clear hu hd ht0 ht1 hb0 hb1 hTo hBo hw hr0 hr1 hG hx
  cases hq1 : sieveOk xs
  · have he := (do_bad (xs := xs) (x := x) (by rw [hq1]; rfl)).1
    rw [he]
    rw [hq1] at hok
    clear he hmok hcp hfor hq1
    go_enter Tryd.func20, Tryd.ntmps20
    go_wp2_with fail
    obtain ⟨W0, hW0⟩ : ∃ W, W = ((w.alloc (.cells #[.string x.f0.f0, .string x.f0.f1, .slice A0 x.f1.length c0, .slice A1 x.f2.length c1] 46)).alloc (.cells #[.string ⟨#[]⟩, .string ⟨#[]⟩, .slice none 0 0, .slice none 0 0] 46)) := ⟨_, rfl⟩
    rw [← hW0]
    have HB : Aside0 (Below w.heap.size w W0) := ⟨by rw [hW0]; exact (bel_alloc (bel_alloc (Below.refl _ _) _) _)⟩
    have F0 : Aside0 (W0.heap[w.heap.size]? = some (.cells #[.string x.f0.f0, .string x.f0.f1, .slice A0 x.f1.length c0, .slice A1 x.f2.length c1] 46 (0, 0))) := ⟨by rw [hW0]; exact blk_alloc (blk_at _ _ (by first | rfl | (simp; done))) _⟩
    have F1 : Aside0 (W0.heap[w.heap.size + 1]? = some (.cells #[.string ⟨#[]⟩, .string ⟨#[]⟩, .slice none 0 0, .slice none 0 0] 46 (0, 0))) := ⟨by rw [hW0]; exact blk_at _ _ (by simp)⟩
    have HL : Aside0 (w.heap.size + 2 ≤ W0.heap.size) := ⟨by rw [hW0]; simp⟩
    clear hW0
    refine Calls.mono (hok _ HB.out) ?_
    rintro e w1 ⟨rfl, bw1⟩
    replace F0 := Aside0.mk (below_blk F0.out bw1)
    replace F1 := Aside0.mk (below_blk F1.out bw1)
    replace HB := Aside0.mk (bel_then HB.out bw1)
    replace HL := Aside0.mk (Nat.le_trans HL.out bw1.size)
    clear bw1
    have zF0 := blk_lt F0.out
    have cF0_0 : w1.cell? ⟨w.heap.size, 0, none⟩ = some (.string x.f0.f0) := by have := F0.out; simp [World.cell?, this]
    have cF0_1 : w1.cell? ⟨w.heap.size, 1, none⟩ = some (.string x.f0.f1) := by have := F0.out; simp [World.cell?, this]
    have cF0_2 : w1.cell? ⟨w.heap.size, 2, none⟩ = some (.slice A0 x.f1.length c0) := by have := F0.out; simp [World.cell?, this]
    have cF0_3 : w1.cell? ⟨w.heap.size, 3, none⟩ = some (.slice A1 x.f2.length c1) := by have := F0.out; simp [World.cell?, this]
    have zF1 := blk_lt F1.out
    have cF1_0 : w1.cell? ⟨w.heap.size + 1, 0, none⟩ = some (.string ⟨#[]⟩) := by have := F1.out; simp [World.cell?, this]
    have dF1_0 : w1.frozen? ⟨w.heap.size + 1, 0, none⟩ = false := by have := F1.out; simp [World.frozen?, this]
    have cF1_1 : w1.cell? ⟨w.heap.size + 1, 1, none⟩ = some (.string ⟨#[]⟩) := by have := F1.out; simp [World.cell?, this]
    have dF1_1 : w1.frozen? ⟨w.heap.size + 1, 1, none⟩ = false := by have := F1.out; simp [World.frozen?, this]
    have cF1_2 : w1.cell? ⟨w.heap.size + 1, 2, none⟩ = some (.slice none 0 0) := by have := F1.out; simp [World.cell?, this]
    have dF1_2 : w1.frozen? ⟨w.heap.size + 1, 2, none⟩ = false := by have := F1.out; simp [World.frozen?, this]
    have cF1_3 : w1.cell? ⟨w.heap.size + 1, 3, none⟩ = some (.slice none 0 0) := by have := F1.out; simp [World.cell?, this]
    have dF1_3 : w1.frozen? ⟨w.heap.size + 1, 3, none⟩ = false := by have := F1.out; simp [World.frozen?, this]
    go_wp2
    refine bodyPost_ret (v := .tuple #[.agg #[.string ⟨#[]⟩, .string ⟨#[]⟩, .slice none 0 0, .slice none 0 0], .int .i64 (-1)]) ?hrA rfl ?hpA
    case hrA => simp [results, Tryd.results20, go_sem, zF0, cF0_0, cF0_1, cF0_2, cF0_3, zF1, cF1_0, dF1_0, cF1_1, dF1_1, cF1_2, dF1_2, cF1_3, dF1_3]
    case hpA => exact ⟨none, 0, none, 0, rfl, (Kd.R_nil _ _ _ _ _), (Kd.R_nil _ _ _ _ _), (by (with_reducible repeat (first | exact HB.out | refine bel_set ?_ _ ?_ | refine blw_drewN ?_ _ | refine Below.drew ?_ | refine bel_alloc ?_ _)); all_goals ((try dsimp only); omega))⟩
  · cases hq2 : mailOkS x
    · have he := (do_bad (xs := xs) (x := x) (by rw [hq1, hq2]; rfl)).1
      rw [he]
      rw [hq1] at hok
      rw [hq2] at hmok
      clear he hcp hfor hq1 hq2
      go_enter Tryd.func20, Tryd.ntmps20
      go_wp2_with fail
      obtain ⟨W0, hW0⟩ : ∃ W, W = ((w.alloc (.cells #[.string x.f0.f0, .string x.f0.f1, .slice A0 x.f1.length c0, .slice A1 x.f2.length c1] 46)).alloc (.cells #[.string ⟨#[]⟩, .string ⟨#[]⟩, .slice none 0 0, .slice none 0 0] 46)) := ⟨_, rfl⟩
      rw [← hW0]
      have HB : Aside0 (Below w.heap.size w W0) := ⟨by rw [hW0]; exact (bel_alloc (bel_alloc (Below.refl _ _) _) _)⟩
      have F0 : Aside0 (W0.heap[w.heap.size]? = some (.cells #[.string x.f0.f0, .string x.f0.f1, .slice A0 x.f1.length c0, .slice A1 x.f2.length c1] 46 (0, 0))) := ⟨by rw [hW0]; exact blk_alloc (blk_at _ _ (by first | rfl | (simp; done))) _⟩
      have F1 : Aside0 (W0.heap[w.heap.size + 1]? = some (.cells #[.string ⟨#[]⟩, .string ⟨#[]⟩, .slice none 0 0, .slice none 0 0] 46 (0, 0))) := ⟨by rw [hW0]; exact blk_at _ _ (by simp)⟩
      have HL : Aside0 (w.heap.size + 2 ≤ W0.heap.size) := ⟨by rw [hW0]; simp⟩
      clear hW0
      refine Calls.mono (hok _ HB.out) ?_
      rintro e w1 ⟨rfl, bw1⟩
      replace F0 := Aside0.mk (below_blk F0.out bw1)
      replace F1 := Aside0.mk (below_blk F1.out bw1)
      replace HB := Aside0.mk (bel_then HB.out bw1)
      replace HL := Aside0.mk (Nat.le_trans HL.out bw1.size)
      clear bw1
      have zF0 := blk_lt F0.out
      have cF0_0 : w1.cell? ⟨w.heap.size, 0, none⟩ = some (.string x.f0.f0) := by have := F0.out; simp [World.cell?, this]
      have cF0_1 : w1.cell? ⟨w.heap.size, 1, none⟩ = some (.string x.f0.f1) := by have := F0.out; simp [World.cell?, this]
      have cF0_2 : w1.cell? ⟨w.heap.size, 2, none⟩ = some (.slice A0 x.f1.length c0) := by have := F0.out; simp [World.cell?, this]
      have cF0_3 : w1.cell? ⟨w.heap.size, 3, none⟩ = some (.slice A1 x.f2.length c1) := by have := F0.out; simp [World.cell?, this]
      have zF1 := blk_lt F1.out
      have cF1_0 : w1.cell? ⟨w.heap.size + 1, 0, none⟩ = some (.string ⟨#[]⟩) := by have := F1.out; simp [World.cell?, this]
      have dF1_0 : w1.frozen? ⟨w.heap.size + 1, 0, none⟩ = false := by have := F1.out; simp [World.frozen?, this]
      have cF1_1 : w1.cell? ⟨w.heap.size + 1, 1, none⟩ = some (.string ⟨#[]⟩) := by have := F1.out; simp [World.cell?, this]
      have dF1_1 : w1.frozen? ⟨w.heap.size + 1, 1, none⟩ = false := by have := F1.out; simp [World.frozen?, this]
      have cF1_2 : w1.cell? ⟨w.heap.size + 1, 2, none⟩ = some (.slice none 0 0) := by have := F1.out; simp [World.cell?, this]
      have dF1_2 : w1.frozen? ⟨w.heap.size + 1, 2, none⟩ = false := by have := F1.out; simp [World.frozen?, this]
      have cF1_3 : w1.cell? ⟨w.heap.size + 1, 3, none⟩ = some (.slice none 0 0) := by have := F1.out; simp [World.cell?, this]
      have dF1_3 : w1.frozen? ⟨w.heap.size + 1, 3, none⟩ = false := by have := F1.out; simp [World.frozen?, this]
      go_wp2_with fail
      refine Calls.mono (hmok _ HB.out) ?_
      rintro e w2 ⟨rfl, bw2⟩
      clear zF0 cF0_0 cF0_1 cF0_2 cF0_3 zF1 cF1_0 dF1_0 cF1_1 dF1_1 cF1_2 dF1_2 cF1_3 dF1_3
      replace F0 := Aside0.mk (below_blk F0.out bw2)
      replace F1 := Aside0.mk (below_blk F1.out bw2)
      replace HB := Aside0.mk (bel_then HB.out bw2)
      replace HL := Aside0.mk (Nat.le_trans HL.out bw2.size)
      clear bw2
      have zF0 := blk_lt F0.out
      have cF0_0 : w2.cell? ⟨w.heap.size, 0, none⟩ = some (.string x.f0.f0) := by have := F0.out; simp [World.cell?, this]
      have cF0_1 : w2.cell? ⟨w.heap.size, 1, none⟩ = some (.string x.f0.f1) := by have := F0.out; simp [World.cell?, this]
      have cF0_2 : w2.cell? ⟨w.heap.size, 2, none⟩ = some (.slice A0 x.f1.length c0) := by have := F0.out; simp [World.cell?, this]
      have cF0_3 : w2.cell? ⟨w.heap.size, 3, none⟩ = some (.slice A1 x.f2.length c1) := by have := F0.out; simp [World.cell?, this]
      have zF1 := blk_lt F1.out
      have cF1_0 : w2.cell? ⟨w.heap.size + 1, 0, none⟩ = some (.string ⟨#[]⟩) := by have := F1.out; simp [World.cell?, this]
      have dF1_0 : w2.frozen? ⟨w.heap.size + 1, 0, none⟩ = false := by have := F1.out; simp [World.frozen?, this]
      have cF1_1 : w2.cell? ⟨w.heap.size + 1, 1, none⟩ = some (.string ⟨#[]⟩) := by have := F1.out; simp [World.cell?, this]
      have dF1_1 : w2.frozen? ⟨w.heap.size + 1, 1, none⟩ = false := by have := F1.out; simp [World.frozen?, this]
      have cF1_2 : w2.cell? ⟨w.heap.size + 1, 2, none⟩ = some (.slice none 0 0) := by have := F1.out; simp [World.cell?, this]
      have dF1_2 : w2.frozen? ⟨w.heap.size + 1, 2, none⟩ = false := by have := F1.out; simp [World.frozen?, this]
      have cF1_3 : w2.cell? ⟨w.heap.size + 1, 3, none⟩ = some (.slice none 0 0) := by have := F1.out; simp [World.cell?, this]
      have dF1_3 : w2.frozen? ⟨w.heap.size + 1, 3, none⟩ = false := by have := F1.out; simp [World.frozen?, this]
      go_wp2
      refine bodyPost_ret (v := .tuple #[.agg #[.string ⟨#[]⟩, .string ⟨#[]⟩, .slice none 0 0, .slice none 0 0], .int .i64 (-1)]) ?hrB rfl ?hpB
      case hrB => simp [results, Tryd.results20, go_sem, zF0, cF0_0, cF0_1, cF0_2, cF0_3, zF1, cF1_0, dF1_0, cF1_1, dF1_1, cF1_2, dF1_2, cF1_3, dF1_3]
      case hpB => exact ⟨none, 0, none, 0, rfl, (Kd.R_nil _ _ _ _ _), (Kd.R_nil _ _ _ _ _), (by (with_reducible repeat (first | exact HB.out | refine bel_set ?_ _ ?_ | refine blw_drewN ?_ _ | refine Below.drew ?_ | refine bel_alloc ?_ _)); all_goals ((try dsimp only); omega))⟩
    · rw [hq1] at hok
      rw [hq2] at hmok
      go_enter Tryd.func20, Tryd.ntmps20
      go_wp2_with fail
      obtain ⟨W0, hW0⟩ : ∃ W, W = ((w.alloc (.cells #[.string x.f0.f0, .string x.f0.f1, .slice A0 x.f1.length c0, .slice A1 x.f2.length c1] 46)).alloc (.cells #[.string ⟨#[]⟩, .string ⟨#[]⟩, .slice none 0 0, .slice none 0 0] 46)) := ⟨_, rfl⟩
      rw [← hW0]
      have HB : Aside0 (Below w.heap.size w W0) := ⟨by rw [hW0]; exact (bel_alloc (bel_alloc (Below.refl _ _) _) _)⟩
      have F0 : Aside0 (W0.heap[w.heap.size]? = some (.cells #[.string x.f0.f0, .string x.f0.f1, .slice A0 x.f1.length c0, .slice A1 x.f2.length c1] 46 (0, 0))) := ⟨by rw [hW0]; exact blk_alloc (blk_at _ _ (by first | rfl | (simp; done))) _⟩
      have F1 : Aside0 (W0.heap[w.heap.size + 1]? = some (.cells #[.string ⟨#[]⟩, .string ⟨#[]⟩, .slice none 0 0, .slice none 0 0] 46 (0, 0))) := ⟨by rw [hW0]; exact blk_at _ _ (by simp)⟩
      have HL : Aside0 (w.heap.size + 2 ≤ W0.heap.size) := ⟨by rw [hW0]; simp⟩
      clear hW0
      refine Calls.mono (hok _ HB.out) ?_
      rintro e w1 ⟨rfl, bw1⟩
      replace F0 := Aside0.mk (below_blk F0.out bw1)
      replace F1 := Aside0.mk (below_blk F1.out bw1)
      replace HB := Aside0.mk (bel_then HB.out bw1)
      replace HL := Aside0.mk (Nat.le_trans HL.out bw1.size)
      clear bw1
      have zF0 := blk_lt F0.out
      have cF0_0 : w1.cell? ⟨w.heap.size, 0, none⟩ = some (.string x.f0.f0) := by have := F0.out; simp [World.cell?, this]
      have cF0_1 : w1.cell? ⟨w.heap.size, 1, none⟩ = some (.string x.f0.f1) := by have := F0.out; simp [World.cell?, this]
      have cF0_2 : w1.cell? ⟨w.heap.size, 2, none⟩ = some (.slice A0 x.f1.length c0) := by have := F0.out; simp [World.cell?, this]
      have cF0_3 : w1.cell? ⟨w.heap.size, 3, none⟩ = some (.slice A1 x.f2.length c1) := by have := F0.out; simp [World.cell?, this]
      have zF1 := blk_lt F1.out
      have cF1_0 : w1.cell? ⟨w.heap.size + 1, 0, none⟩ = some (.string ⟨#[]⟩) := by have := F1.out; simp [World.cell?, this]
      have dF1_0 : w1.frozen? ⟨w.heap.size + 1, 0, none⟩ = false := by have := F1.out; simp [World.frozen?, this]
      have cF1_1 : w1.cell? ⟨w.heap.size + 1, 1, none⟩ = some (.string ⟨#[]⟩) := by have := F1.out; simp [World.cell?, this]
      have dF1_1 : w1.frozen? ⟨w.heap.size + 1, 1, none⟩ = false := by have := F1.out; simp [World.frozen?, this]
      have cF1_2 : w1.cell? ⟨w.heap.size + 1, 2, none⟩ = some (.slice none 0 0) := by have := F1.out; simp [World.cell?, this]
      have dF1_2 : w1.frozen? ⟨w.heap.size + 1, 2, none⟩ = false := by have := F1.out; simp [World.frozen?, this]
      have cF1_3 : w1.cell? ⟨w.heap.size + 1, 3, none⟩ = some (.slice none 0 0) := by have := F1.out; simp [World.cell?, this]
      have dF1_3 : w1.frozen? ⟨w.heap.size + 1, 3, none⟩ = false := by have := F1.out; simp [World.frozen?, this]
      go_wp2_with fail
      refine Calls.mono (hmok _ HB.out) ?_
      rintro e w2 ⟨rfl, bw2⟩
      clear zF0 cF0_0 cF0_1 cF0_2 cF0_3 zF1 cF1_0 dF1_0 cF1_1 dF1_1 cF1_2 dF1_2 cF1_3 dF1_3
      replace F0 := Aside0.mk (below_blk F0.out bw2)
      replace F1 := Aside0.mk (below_blk F1.out bw2)
      replace HB := Aside0.mk (bel_then HB.out bw2)
      replace HL := Aside0.mk (Nat.le_trans HL.out bw2.size)
      clear bw2
      have zF0 := blk_lt F0.out
      have cF0_0 : w2.cell? ⟨w.heap.size, 0, none⟩ = some (.string x.f0.f0) := by have := F0.out; simp [World.cell?, this]
      have cF0_1 : w2.cell? ⟨w.heap.size, 1, none⟩ = some (.string x.f0.f1) := by have := F0.out; simp [World.cell?, this]
      have cF0_2 : w2.cell? ⟨w.heap.size, 2, none⟩ = some (.slice A0 x.f1.length c0) := by have := F0.out; simp [World.cell?, this]
      have cF0_3 : w2.cell? ⟨w.heap.size, 3, none⟩ = some (.slice A1 x.f2.length c1) := by have := F0.out; simp [World.cell?, this]
      have zF1 := blk_lt F1.out
      have cF1_0 : w2.cell? ⟨w.heap.size + 1, 0, none⟩ = some (.string ⟨#[]⟩) := by have := F1.out; simp [World.cell?, this]
      have dF1_0 : w2.frozen? ⟨w.heap.size + 1, 0, none⟩ = false := by have := F1.out; simp [World.frozen?, this]
      have cF1_1 : w2.cell? ⟨w.heap.size + 1, 1, none⟩ = some (.string ⟨#[]⟩) := by have := F1.out; simp [World.cell?, this]
      have dF1_1 : w2.frozen? ⟨w.heap.size + 1, 1, none⟩ = false := by have := F1.out; simp [World.frozen?, this]
      have cF1_2 : w2.cell? ⟨w.heap.size + 1, 2, none⟩ = some (.slice none 0 0) := by have := F1.out; simp [World.cell?, this]
      have dF1_2 : w2.frozen? ⟨w.heap.size + 1, 2, none⟩ = false := by have := F1.out; simp [World.frozen?, this]
      have cF1_3 : w2.cell? ⟨w.heap.size + 1, 3, none⟩ = some (.slice none 0 0) := by have := F1.out; simp [World.cell?, this]
      have dF1_3 : w2.frozen? ⟨w.heap.size + 1, 3, none⟩ = false := by have := F1.out; simp [World.frozen?, this]
      go_wp2_with fail
      refine Calls.mono (hcp _ HB.out) ?_
      rintro e w3 ⟨B0, d0, B1, d1, rfl, rU0, rU1, bw3⟩
      clear zF0 cF0_0 cF0_1 cF0_2 cF0_3 zF1 cF1_0 dF1_0 cF1_1 dF1_1 cF1_2 dF1_2 cF1_3 dF1_3
      replace F0 := Aside0.mk (below_blk F0.out bw3)
      replace F1 := Aside0.mk (below_blk F1.out bw3)
      have U0 : Aside0 (Kd.R kAddr 33 w3 w.heap.size (fun _ => True) (.slice B0 x.f1.length d0) x.f1) := ⟨Kd.R_lower (base' := w.heap.size) rU0 HB.out.size⟩
      clear rU0
      have U1 : Aside0 (Kd.R Kd.string 9 w3 w.heap.size (fun _ => True) (.slice B1 x.f2.length d1) x.f2) := ⟨Kd.R_lower (base' := w.heap.size) rU1 HB.out.size⟩
      clear rU1
      replace HB := Aside0.mk (bel_then HB.out bw3)
      replace HL := Aside0.mk (Nat.le_trans HL.out bw3.size)
      clear bw3
      have zF0 := blk_lt F0.out
      have cF0_0 : w3.cell? ⟨w.heap.size, 0, none⟩ = some (.string x.f0.f0) := by have := F0.out; simp [World.cell?, this]
      have cF0_1 : w3.cell? ⟨w.heap.size, 1, none⟩ = some (.string x.f0.f1) := by have := F0.out; simp [World.cell?, this]
      have cF0_2 : w3.cell? ⟨w.heap.size, 2, none⟩ = some (.slice A0 x.f1.length c0) := by have := F0.out; simp [World.cell?, this]
      have cF0_3 : w3.cell? ⟨w.heap.size, 3, none⟩ = some (.slice A1 x.f2.length c1) := by have := F0.out; simp [World.cell?, this]
      have zF1 := blk_lt F1.out
      have cF1_0 : w3.cell? ⟨w.heap.size + 1, 0, none⟩ = some (.string ⟨#[]⟩) := by have := F1.out; simp [World.cell?, this]
      have dF1_0 : w3.frozen? ⟨w.heap.size + 1, 0, none⟩ = false := by have := F1.out; simp [World.frozen?, this]
      have cF1_1 : w3.cell? ⟨w.heap.size + 1, 1, none⟩ = some (.string ⟨#[]⟩) := by have := F1.out; simp [World.cell?, this]
      have dF1_1 : w3.frozen? ⟨w.heap.size + 1, 1, none⟩ = false := by have := F1.out; simp [World.frozen?, this]
      have cF1_2 : w3.cell? ⟨w.heap.size + 1, 2, none⟩ = some (.slice none 0 0) := by have := F1.out; simp [World.cell?, this]
      have dF1_2 : w3.frozen? ⟨w.heap.size + 1, 2, none⟩ = false := by have := F1.out; simp [World.frozen?, this]
      have cF1_3 : w3.cell? ⟨w.heap.size + 1, 3, none⟩ = some (.slice none 0 0) := by have := F1.out; simp [World.cell?, this]
      have dF1_3 : w3.frozen? ⟨w.heap.size + 1, 3, none⟩ = false := by have := F1.out; simp [World.frozen?, this]
      go_wp2_with fail
      generalize hWw4 : World.alloc (w3) _ = w4
      have ltF0 := blk_lt F0.out
      have ltF1 := blk_lt F1.out
      have ltb := HB.out.size
      have ltl := HL.out
      have TT : ∀ k, k < w3.heap.size → w4.heap[k]? = w3.heap[k]? := fun k hk => by rw [← hWw4]; (with_reducible repeat (first | rfl | refine hp_set ?_ ?_ | refine hp_alloc ?_ ?_ | refine hp_drew ?_)); all_goals (first | (with_reducible rfl) | omega | (dsimp only; omega) | (simp; omega))
      have TS : w3.heap.size + 1 ≤ w4.heap.size := by rw [← hWw4]; simp
      have nF0 : w4.heap[w.heap.size]? = some (.cells #[.string x.f0.f0, .string x.f0.f1, .slice A0 x.f1.length c0, .slice A1 x.f2.length c1] 46 (0, 0)) := (TT _ ltF0).trans F0.out
      have nF1 : w4.heap[w.heap.size + 1]? = some (.cells #[.string ⟨#[]⟩, .string ⟨#[]⟩, .slice none 0 0, .slice none 0 0] 46 (0, 0)) := (TT _ ltF1).trans F1.out
      have nF2 : w4.heap[w3.heap.size]? = some (.cells #[.string x.f0.f0, .string x.f0.f1, .slice B0 x.f1.length d0, .slice B1 x.f2.length d1] 46 (0, 0)) := by rw [← hWw4]; exact blk_new w3 (.cells #[.string x.f0.f0, .string x.f0.f1, .slice B0 x.f1.length d0, .slice B1 x.f2.length d1] 46)
      have nU0 : Kd.R kAddr 33 w4 w.heap.size (fun _ => True) (.slice B0 x.f1.length d0) x.f1 := R_keepT U0.out rfl (fun k hk ho => TT k hk)
      have nU1 : Kd.R Kd.string 9 w4 w.heap.size (fun _ => True) (.slice B1 x.f2.length d1) x.f2 := R_keepT U1.out rfl (fun k hk ho => TT k hk)
      have nHB : Below w.heap.size w w4 := by rw [← hWw4]; exact bel_alloc (HB.out) _
      clear zF0 cF0_0 cF0_1 cF0_2 cF0_3 zF1 cF1_0 dF1_0 cF1_1 dF1_1 cF1_2 dF1_2 cF1_3 dF1_3
      clear hWw4 F0 F1 HB U0 U1
      have F0 := Aside0.mk nF0
      clear nF0
      have F1 := Aside0.mk nF1
      clear nF1
      have F2 := Aside0.mk nF2
      clear nF2
      have U0 := Aside0.mk nU0
      clear nU0
      have U1 := Aside0.mk nU1
      clear nU1
      have HB := Aside0.mk nHB
      clear nHB
      have oF2_ltF0 := ltF0
      have oF2_ltF1 := ltF1
      have oF2_ltl := ltl
      replace HL := Aside0.mk (Nat.le_trans HL.out (by omega : w3.heap.size ≤ w4.heap.size))
      clear TT TS ltF0 ltF1 ltb ltl
      have zF0 := blk_lt F0.out
      have cF0_0 : w4.cell? ⟨w.heap.size, 0, none⟩ = some (.string x.f0.f0) := by have := F0.out; simp [World.cell?, this]
      have cF0_1 : w4.cell? ⟨w.heap.size, 1, none⟩ = some (.string x.f0.f1) := by have := F0.out; simp [World.cell?, this]
      have cF0_2 : w4.cell? ⟨w.heap.size, 2, none⟩ = some (.slice A0 x.f1.length c0) := by have := F0.out; simp [World.cell?, this]
      have cF0_3 : w4.cell? ⟨w.heap.size, 3, none⟩ = some (.slice A1 x.f2.length c1) := by have := F0.out; simp [World.cell?, this]
      have zF1 := blk_lt F1.out
      have cF1_0 : w4.cell? ⟨w.heap.size + 1, 0, none⟩ = some (.string ⟨#[]⟩) := by have := F1.out; simp [World.cell?, this]
      have dF1_0 : w4.frozen? ⟨w.heap.size + 1, 0, none⟩ = false := by have := F1.out; simp [World.frozen?, this]
      have cF1_1 : w4.cell? ⟨w.heap.size + 1, 1, none⟩ = some (.string ⟨#[]⟩) := by have := F1.out; simp [World.cell?, this]
      have dF1_1 : w4.frozen? ⟨w.heap.size + 1, 1, none⟩ = false := by have := F1.out; simp [World.frozen?, this]
      have cF1_2 : w4.cell? ⟨w.heap.size + 1, 2, none⟩ = some (.slice none 0 0) := by have := F1.out; simp [World.cell?, this]
      have dF1_2 : w4.frozen? ⟨w.heap.size + 1, 2, none⟩ = false := by have := F1.out; simp [World.frozen?, this]
      have cF1_3 : w4.cell? ⟨w.heap.size + 1, 3, none⟩ = some (.slice none 0 0) := by have := F1.out; simp [World.cell?, this]
      have dF1_3 : w4.frozen? ⟨w.heap.size + 1, 3, none⟩ = false := by have := F1.out; simp [World.frozen?, this]
      have zF2 := blk_lt F2.out
      have cF2_0 : w4.cell? ⟨w3.heap.size, 0, none⟩ = some (.string x.f0.f0) := by have := F2.out; simp [World.cell?, this]
      have dF2_0 : w4.frozen? ⟨w3.heap.size, 0, none⟩ = false := by have := F2.out; simp [World.frozen?, this]
      have cF2_1 : w4.cell? ⟨w3.heap.size, 1, none⟩ = some (.string x.f0.f1) := by have := F2.out; simp [World.cell?, this]
      have dF2_1 : w4.frozen? ⟨w3.heap.size, 1, none⟩ = false := by have := F2.out; simp [World.frozen?, this]
      have cF2_2 : w4.cell? ⟨w3.heap.size, 2, none⟩ = some (.slice B0 x.f1.length d0) := by have := F2.out; simp [World.cell?, this]
      have dF2_2 : w4.frozen? ⟨w3.heap.size, 2, none⟩ = false := by have := F2.out; simp [World.frozen?, this]
      have cF2_3 : w4.cell? ⟨w3.heap.size, 3, none⟩ = some (.slice B1 x.f2.length d1) := by have := F2.out; simp [World.cell?, this]
      have dF2_3 : w4.frozen? ⟨w3.heap.size, 3, none⟩ = false := by have := F2.out; simp [World.frozen?, this]
      refine Calls.mono (hfor _ HB.out) ?_
      rintro e w5 ⟨rfl, bw5⟩
      clear zF0 cF0_0 cF0_1 cF0_2 cF0_3 zF1 cF1_0 dF1_0 cF1_1 dF1_1 cF1_2 dF1_2 cF1_3 dF1_3 zF2 cF2_0 dF2_0 cF2_1 dF2_1 cF2_2 dF2_2 cF2_3 dF2_3
      replace F0 := Aside0.mk (below_blk F0.out bw5)
      replace F1 := Aside0.mk (below_blk F1.out bw5)
      replace F2 := Aside0.mk (below_blk F2.out bw5)
      replace U0 := Aside0.mk (Kd.R_below U0.out bw5)
      replace U1 := Aside0.mk (Kd.R_below U1.out bw5)
      replace HB := Aside0.mk (bel_then HB.out bw5)
      replace HL := Aside0.mk (Nat.le_trans HL.out bw5.size)
      clear bw5
      have lt1 := blk_lt F1.out
      clear hok hmok hcp hfor
      rcases do_cases hq1 hq2 with ⟨hK, he⟩ | ⟨k, hK, hk, he, h1, h3⟩
      · rw [hK]
        have HE := Lib.hid he
        clear hK he hq1 hq2
        have zF1 := blk_lt F1.out
        have cF1_0 : w5.cell? ⟨w.heap.size + 1, 0, none⟩ = some (.string ⟨#[]⟩) := by have := F1.out; simp [World.cell?, this]
        have dF1_0 : w5.frozen? ⟨w.heap.size + 1, 0, none⟩ = false := by have := F1.out; simp [World.frozen?, this]
        have cF1_1 : w5.cell? ⟨w.heap.size + 1, 1, none⟩ = some (.string ⟨#[]⟩) := by have := F1.out; simp [World.cell?, this]
        have dF1_1 : w5.frozen? ⟨w.heap.size + 1, 1, none⟩ = false := by have := F1.out; simp [World.frozen?, this]
        have cF1_2 : w5.cell? ⟨w.heap.size + 1, 2, none⟩ = some (.slice none 0 0) := by have := F1.out; simp [World.cell?, this]
        have dF1_2 : w5.frozen? ⟨w.heap.size + 1, 2, none⟩ = false := by have := F1.out; simp [World.frozen?, this]
        have cF1_3 : w5.cell? ⟨w.heap.size + 1, 3, none⟩ = some (.slice none 0 0) := by have := F1.out; simp [World.cell?, this]
        have dF1_3 : w5.frozen? ⟨w.heap.size + 1, 3, none⟩ = false := by have := F1.out; simp [World.frozen?, this]
        have zF2 := blk_lt F2.out
        have cF2_0 : w5.cell? ⟨w3.heap.size, 0, none⟩ = some (.string x.f0.f0) := by have := F2.out; simp [World.cell?, this]
        have cF2_1 : w5.cell? ⟨w3.heap.size, 1, none⟩ = some (.string x.f0.f1) := by have := F2.out; simp [World.cell?, this]
        have cF2_2 : w5.cell? ⟨w3.heap.size, 2, none⟩ = some (.slice B0 x.f1.length d0) := by have := F2.out; simp [World.cell?, this]
        have cF2_3 : w5.cell? ⟨w3.heap.size, 3, none⟩ = some (.slice B1 x.f2.length d1) := by have := F2.out; simp [World.cell?, this]
        go_wp2
        refine bodyPost_ret (v := .tuple #[.agg #[.string x.f0.f0, .string x.f0.f1, .slice B0 x.f1.length d0, .slice B1 x.f2.length d1], .int .i64 1]) ?hrC rfl ?hpC
        case hrC => simp [results, Tryd.results20, go_sem, zF1, cF1_0, dF1_0, cF1_1, dF1_1, cF1_2, dF1_2, cF1_3, dF1_3, zF2, cF2_0, cF2_1, cF2_2, cF2_3]
        case hpC => rw [HE.out]; exact ⟨B0, d0, B1, d1, rfl, (by have ne_ := Kd.R_ne U0.out F1.out (by decide); (with_reducible repeat (first | exact U0.out | refine R_put1 ?_ rfl ne_ | refine Kd.R_drew ?_))), (by have ne_ := Kd.R_ne U1.out F1.out (by decide); (with_reducible repeat (first | exact U1.out | refine R_put1 ?_ rfl ne_ | refine Kd.R_drew ?_))), (by (with_reducible repeat (first | exact HB.out | refine bel_set ?_ _ ?_ | refine blw_drewN ?_ _ | refine Below.drew ?_ | refine bel_alloc ?_ _)); all_goals ((try dsimp only); omega))⟩
      · rw [hK]
        have HE := Lib.hid he
        clear hK he hq1 hq2
        obtain ⟨ad, e1, p0, p1, p2, p3, p4⟩ := at_Rule (Kd.C_below hr HB.out) k hk
        subst e1
        have he2 := HE.out
        generalize hy : xs.getD k zRule = y at p0 p1 p2 p3 p4 h1 h3 he2
        replace HE := Lib.hid he2
        clear he2
        have HY := Lib.hid hy
        clear hy
        have hk1 : ¬ ((k : Int) < 0) := by omega
        have hk2 : (k : Int) < (xs.length : Int) := by omega
        have zF1 := blk_lt F1.out
        have cF1_0 : w5.cell? ⟨w.heap.size + 1, 0, none⟩ = some (.string ⟨#[]⟩) := by have := F1.out; simp [World.cell?, this]
        have dF1_0 : w5.frozen? ⟨w.heap.size + 1, 0, none⟩ = false := by have := F1.out; simp [World.frozen?, this]
        have cF1_1 : w5.cell? ⟨w.heap.size + 1, 1, none⟩ = some (.string ⟨#[]⟩) := by have := F1.out; simp [World.cell?, this]
        have dF1_1 : w5.frozen? ⟨w.heap.size + 1, 1, none⟩ = false := by have := F1.out; simp [World.frozen?, this]
        have cF1_2 : w5.cell? ⟨w.heap.size + 1, 2, none⟩ = some (.slice none 0 0) := by have := F1.out; simp [World.cell?, this]
        have dF1_2 : w5.frozen? ⟨w.heap.size + 1, 2, none⟩ = false := by have := F1.out; simp [World.frozen?, this]
        have cF1_3 : w5.cell? ⟨w.heap.size + 1, 3, none⟩ = some (.slice none 0 0) := by have := F1.out; simp [World.cell?, this]
        have dF1_3 : w5.frozen? ⟨w.heap.size + 1, 3, none⟩ = false := by have := F1.out; simp [World.frozen?, this]
        have zF2 := blk_lt F2.out
        have cF2_0 : w5.cell? ⟨w3.heap.size, 0, none⟩ = some (.string x.f0.f0) := by have := F2.out; simp [World.cell?, this]
        have dF2_0 : w5.frozen? ⟨w3.heap.size, 0, none⟩ = false := by have := F2.out; simp [World.frozen?, this]
        have cF2_1 : w5.cell? ⟨w3.heap.size, 1, none⟩ = some (.string x.f0.f1) := by have := F2.out; simp [World.cell?, this]
        have dF2_1 : w5.frozen? ⟨w3.heap.size, 1, none⟩ = false := by have := F2.out; simp [World.frozen?, this]
        have cF2_2 : w5.cell? ⟨w3.heap.size, 2, none⟩ = some (.slice B0 x.f1.length d0) := by have := F2.out; simp [World.cell?, this]
        have dF2_2 : w5.frozen? ⟨w3.heap.size, 2, none⟩ = false := by have := F2.out; simp [World.frozen?, this]
        have cF2_3 : w5.cell? ⟨w3.heap.size, 3, none⟩ = some (.slice B1 x.f2.length d1) := by have := F2.out; simp [World.cell?, this]
        have dF2_3 : w5.frozen? ⟨w3.heap.size, 3, none⟩ = false := by have := F2.out; simp [World.frozen?, this]
        by_cases hd : y.f2 = 2
        · have q2 : (y.f2 == 2) = true := by simp [hd]
          have q3 : (y.f2 == 3) = false := by simp; omega
          replace HE := Lib.hid (HE.out.trans (show outM x (some y) = (zMail, 2) from by unfold outM; dsimp only; rw [if_pos hd]))
          go_wp2
          generalize hWw6 : World.setCell (World.setCell (World.setCell (World.setCell (w5) _ _) _ _) _ _) _ _ = w6
          have ltF0 := blk_lt F0.out
          have ltF1 := blk_lt F1.out
          have ltF2 := blk_lt F2.out
          have ltb := HB.out.size
          have ltl := HL.out
          have TT : ∀ k, k < w5.heap.size → k ≠ w3.heap.size → w6.heap[k]? = w5.heap[k]? := fun k hk n_F2 => by rw [← hWw6]; (with_reducible repeat (first | rfl | refine hp_set ?_ ?_ | refine hp_alloc ?_ ?_ | refine hp_drew ?_)); all_goals (first | (with_reducible rfl) | omega | (dsimp only; omega) | (simp; omega))
          have TS : w5.heap.size + 0 ≤ w6.heap.size := by rw [← hWw6]; simp
          have nF0 : w6.heap[w.heap.size]? = some (.cells #[.string x.f0.f0, .string x.f0.f1, .slice A0 x.f1.length c0, .slice A1 x.f2.length c1] 46 (0, 0)) := (TT _ ltF0 (by omega)).trans F0.out
          have nF1 : w6.heap[w.heap.size + 1]? = some (.cells #[.string ⟨#[]⟩, .string ⟨#[]⟩, .slice none 0 0, .slice none 0 0] 46 (0, 0)) := (TT _ ltF1 (by omega)).trans F1.out
          have nF2 : w6.heap[w3.heap.size]? = some (.cells #[.string ⟨#[]⟩, .string ⟨#[]⟩, .slice none 0 0, .slice none 0 0] 46 (0, 0)) := by rw [← hWw6]; have h := blk_set1 (blk_set1 (blk_set1 (blk_set1 (F2.out) 0 (.string ⟨#[]⟩)) 1 (.string ⟨#[]⟩)) 2 (.slice none 0 0)) 3 (.slice none 0 0); simpa using h
          have nU0 : Kd.R kAddr 33 w6 w.heap.size (fun _ => True) (.slice B0 x.f1.length d0) x.f1 := R_keepT U0.out rfl (fun k hk ho => TT k hk (fun e => Kd.R_ne U0.out F2.out (by decide) (e ▸ ho)))
          have nU1 : Kd.R Kd.string 9 w6 w.heap.size (fun _ => True) (.slice B1 x.f2.length d1) x.f2 := R_keepT U1.out rfl (fun k hk ho => TT k hk (fun e => Kd.R_ne U1.out F2.out (by decide) (e ▸ ho)))
          have nHB : Below w.heap.size w w6 := by rw [← hWw6]; exact bel_set (bel_set (bel_set (bel_set (HB.out) _ (by show w.heap.size ≤ w3.heap.size; first | omega | (simp; omega))) _ (by show w.heap.size ≤ w3.heap.size; first | omega | (simp; omega))) _ (by show w.heap.size ≤ w3.heap.size; first | omega | (simp; omega))) _ (by show w.heap.size ≤ w3.heap.size; first | omega | (simp; omega))
          clear zF1 cF1_0 dF1_0 cF1_1 dF1_1 cF1_2 dF1_2 cF1_3 dF1_3 zF2 cF2_0 dF2_0 cF2_1 dF2_1 cF2_2 dF2_2 cF2_3 dF2_3
          clear hWw6 F0 F1 F2 HB U0 U1
          have F0 := Aside0.mk nF0
          clear nF0
          have F1 := Aside0.mk nF1
          clear nF1
          have F2 := Aside0.mk nF2
          clear nF2
          have U0 := Aside0.mk nU0
          clear nU0
          have U1 := Aside0.mk nU1
          clear nU1
          have HB := Aside0.mk nHB
          clear nHB
          replace HL := Aside0.mk (Nat.le_trans HL.out (by omega : w5.heap.size ≤ w6.heap.size))
          clear TT TS ltF0 ltF1 ltF2 ltb ltl
          clear p0 p1 p2 p3 p4
          obtain ⟨ad2, e2, p0, p1, p2, p3, p4⟩ := at_Rule (Kd.C_below hr HB.out) k hk
          obtain rfl : ad = ad2 := by injection e2
          rw [HY.out] at p0 p1 p2 p3 p4
          have zF1 := blk_lt F1.out
          have cF1_0 : w6.cell? ⟨w.heap.size + 1, 0, none⟩ = some (.string ⟨#[]⟩) := by have := F1.out; simp [World.cell?, this]
          have dF1_0 : w6.frozen? ⟨w.heap.size + 1, 0, none⟩ = false := by have := F1.out; simp [World.frozen?, this]
          have cF1_1 : w6.cell? ⟨w.heap.size + 1, 1, none⟩ = some (.string ⟨#[]⟩) := by have := F1.out; simp [World.cell?, this]
          have dF1_1 : w6.frozen? ⟨w.heap.size + 1, 1, none⟩ = false := by have := F1.out; simp [World.frozen?, this]
          have cF1_2 : w6.cell? ⟨w.heap.size + 1, 2, none⟩ = some (.slice none 0 0) := by have := F1.out; simp [World.cell?, this]
          have dF1_2 : w6.frozen? ⟨w.heap.size + 1, 2, none⟩ = false := by have := F1.out; simp [World.frozen?, this]
          have cF1_3 : w6.cell? ⟨w.heap.size + 1, 3, none⟩ = some (.slice none 0 0) := by have := F1.out; simp [World.cell?, this]
          have dF1_3 : w6.frozen? ⟨w.heap.size + 1, 3, none⟩ = false := by have := F1.out; simp [World.frozen?, this]
          have zF2 := blk_lt F2.out
          have cF2_0 : w6.cell? ⟨w3.heap.size, 0, none⟩ = some (.string ⟨#[]⟩) := by have := F2.out; simp [World.cell?, this]
          have cF2_1 : w6.cell? ⟨w3.heap.size, 1, none⟩ = some (.string ⟨#[]⟩) := by have := F2.out; simp [World.cell?, this]
          have cF2_2 : w6.cell? ⟨w3.heap.size, 2, none⟩ = some (.slice none 0 0) := by have := F2.out; simp [World.cell?, this]
          have cF2_3 : w6.cell? ⟨w3.heap.size, 3, none⟩ = some (.slice none 0 0) := by have := F2.out; simp [World.cell?, this]
          refine wp_region_held_drew (S := (fun W => W.cell? ⟨w3.heap.size, 0, none⟩ = some (.string ⟨#[]⟩) ∧ W.cell? ⟨w3.heap.size, 1, none⟩ = some (.string ⟨#[]⟩) ∧ W.cell? ⟨w3.heap.size, 2, none⟩ = some (.slice none 0 0) ∧ W.cell? ⟨w3.heap.size, 3, none⟩ = some (.slice none 0 0) ∧ W.cell? ⟨(ad.add (k * 5)).block, (ad.add (k * 5)).off + 2, none⟩ = some (.int .i64 y.f2))) (by kernel_rfl) ?s1 (fun hHeld => ?t1)
          case s1 => exact ⟨cF2_0, cF2_1, cF2_2, cF2_3, p2⟩
          generalize hWV0 : World.drew (w6) = V0 at hHeld ⊢
          have ltF0 := blk_lt F0.out
          have ltF1 := blk_lt F1.out
          have ltF2 := blk_lt F2.out
          have ltb := HB.out.size
          have ltl := HL.out
          have TT : ∀ k, k < w6.heap.size → V0.heap[k]? = w6.heap[k]? := fun k hk => by rw [← hWV0]; (with_reducible repeat (first | rfl | refine hp_set ?_ ?_ | refine hp_alloc ?_ ?_ | refine hp_drew ?_)); all_goals (first | (with_reducible rfl) | omega | (dsimp only; omega) | (simp; omega))
          have TS : w6.heap.size + 0 ≤ V0.heap.size := by rw [← hWV0]; simp
          have nF0 : V0.heap[w.heap.size]? = some (.cells #[.string x.f0.f0, .string x.f0.f1, .slice A0 x.f1.length c0, .slice A1 x.f2.length c1] 46 (0, 0)) := (TT _ ltF0).trans F0.out
          have nF1 : V0.heap[w.heap.size + 1]? = some (.cells #[.string ⟨#[]⟩, .string ⟨#[]⟩, .slice none 0 0, .slice none 0 0] 46 (0, 0)) := (TT _ ltF1).trans F1.out
          have nF2 : V0.heap[w3.heap.size]? = some (.cells #[.string ⟨#[]⟩, .string ⟨#[]⟩, .slice none 0 0, .slice none 0 0] 46 (0, 0)) := (TT _ ltF2).trans F2.out
          have nU0 : Kd.R kAddr 33 V0 w.heap.size (fun _ => True) (.slice B0 x.f1.length d0) x.f1 := R_keepT U0.out rfl (fun k hk ho => TT k hk)
          have nU1 : Kd.R Kd.string 9 V0 w.heap.size (fun _ => True) (.slice B1 x.f2.length d1) x.f2 := R_keepT U1.out rfl (fun k hk ho => TT k hk)
          have nHB : Below w.heap.size w V0 := by rw [← hWV0]; exact bel_then (HB.out) (drew_below0 _)
          clear zF1 cF1_0 dF1_0 cF1_1 dF1_1 cF1_2 dF1_2 cF1_3 dF1_3 zF2 cF2_0 cF2_1 cF2_2 cF2_3
          clear hWV0 F0 F1 F2 HB U0 U1
          have F0 := Aside0.mk nF0
          clear nF0
          have F1 := Aside0.mk nF1
          clear nF1
          have F2 := Aside0.mk nF2
          clear nF2
          have U0 := Aside0.mk nU0
          clear nU0
          have U1 := Aside0.mk nU1
          clear nU1
          have HB := Aside0.mk nHB
          clear nHB
          replace HL := Aside0.mk (Nat.le_trans HL.out (by omega : w6.heap.size ≤ V0.heap.size))
          clear TT TS ltF0 ltF1 ltF2 ltb ltl
          refine wpAnyH_take (i := 0) (oi := { dst := some 42, op := Op.load 46 (Operand.tmp 6), type := 46, pos := "l13_sieve.go:77", after := #[], guard := none }) (v := ?v2) rfl (by kernel_rfl) (by kernel_rfl) (by kernel_rfl) (fun _ _ _ h => h) (Or.inl ⟨by rfl, ?y2⟩) (by assumption) ?r2
          case y2 => intro w_ hSw; (try dsimp only at hSw); go_simp; (try (with_reducible rfl))
          try simp only [Act.put, List.setIfInBounds_toArray, List.set_cons_zero, List.set_cons_succ]
          refine wpAnyH_take (i := 1) (oi := { dst := some 43, op := Op.move (Operand.tmp 0), type := 41, pos := "l13_sieve.go:77", after := #[{ on := 6, ground := Ground.gcOnly Departure.lateStores }], guard := none }) (v := ?v3) rfl (by kernel_rfl) (by kernel_rfl) (by kernel_rfl) (fun _ _ _ h => h) (Or.inl ⟨by rfl, ?y3⟩) (by assumption) ?r3
          case y3 => intro w_ hSw; (try dsimp only at hSw); go_simp; (try (with_reducible rfl))
          try simp only [Act.put, List.setIfInBounds_toArray, List.set_cons_zero, List.set_cons_succ]
          refine wpAnyH_take (i := 2) (oi := { dst := some 44, op := Op.move (Operand.tmp 7), type := 3, pos := "l13_sieve.go:77", after := #[{ on := 6, ground := Ground.gcOnly Departure.lateStores }], guard := none }) (v := ?v4) rfl (by kernel_rfl) (by kernel_rfl) (by kernel_rfl) (fun _ _ _ h => h) (Or.inl ⟨by rfl, ?y4⟩) (by assumption) ?r4
          case y4 => intro w_ hSw; (try dsimp only at hSw); go_simp; (try (with_reducible rfl))
          try simp only [Act.put, List.setIfInBounds_toArray, List.set_cons_zero, List.set_cons_succ]
          refine wpAnyH_take (i := 3) (oi := { dst := some 45, op := Op.indexAddr 41 (Operand.tmp 43) (Operand.tmp 44), type := 0, pos := "l13_sieve.go:77", after := #[{ on := 1, ground := Ground.data }, { on := 2, ground := Ground.data }, { on := 6, ground := Ground.gcOnly Departure.lateStores }], guard := none }) (v := ?v5) rfl (by kernel_rfl) (by kernel_rfl) (by kernel_rfl) (fun _ _ _ h => h) (Or.inl ⟨by rfl, ?y5⟩) (by assumption) ?r5
          case y5 => intro w_ hSw; (try dsimp only at hSw); go_simp; (try (with_reducible rfl))
          try simp only [Act.put, List.setIfInBounds_toArray, List.set_cons_zero, List.set_cons_succ]
          refine wpAnyH_take (i := 4) (oi := { dst := some 46, op := Op.fieldAddr 65 (Operand.tmp 45) 2, type := 0, pos := "l13_sieve.go:77", after := #[{ on := 3, ground := Ground.data }, { on := 6, ground := Ground.gcOnly Departure.lateStores }], guard := none }) (v := ?v6) rfl (by kernel_rfl) (by kernel_rfl) (by kernel_rfl) (fun _ _ _ h => h) (Or.inl ⟨by rfl, ?y6⟩) (by assumption) ?r6
          case y6 => intro w_ hSw; (try dsimp only at hSw); go_simp; (try (with_reducible rfl))
          try simp only [Act.put, List.setIfInBounds_toArray, List.set_cons_zero, List.set_cons_succ]
          refine wpAnyH_take (i := 5) (oi := { dst := some 47, op := Op.load 3 (Operand.tmp 46), type := 3, pos := "l13_sieve.go:77", after := #[{ on := 4, ground := Ground.data }, { on := 6, ground := Ground.gcOnly Departure.lateStores }], guard := none }) (v := ?v7) rfl (by kernel_rfl) (by kernel_rfl) (by kernel_rfl) (fun _ _ _ h => h) (Or.inl ⟨by rfl, ?y7⟩) (by assumption) ?r7
          case y7 => intro w_ hSw; (try dsimp only at hSw); go_simp; (try (with_reducible rfl))
          try simp only [Act.put, List.setIfInBounds_toArray, List.set_cons_zero, List.set_cons_succ]
          refine wpAnyH_ready (rs := [6]) (by kernel_rfl) (by simp) ?_
          refine AllReadyH.cons (o := { dst := none, op := Op.store 46 (Operand.tmp 4) (Operand.tmp 42), type := 0, pos := "l13_sieve.go:77", after := #[{ on := 0, ground := Ground.data }, { on := 0, ground := Ground.phase }, { on := 1, ground := Ground.textOnly Departure.lateStores }, { on := 2, ground := Ground.textOnly Departure.lateStores }, { on := 3, ground := Ground.textOnly Departure.lateStores }, { on := 4, ground := Ground.textOnly Departure.lateStores }, { on := 5, ground := Ground.textOnly Departure.lateStores }], guard := none }) rfl (fun K hK => ?k8) AllReadyH.nil
          case k8 =>
            have zF1 := blk_lt F1.out
            have cF1_0 : V0.cell? ⟨w.heap.size + 1, 0, none⟩ = some (.string ⟨#[]⟩) := by have := F1.out; simp [World.cell?, this]
            have dF1_0 : V0.frozen? ⟨w.heap.size + 1, 0, none⟩ = false := by have := F1.out; simp [World.frozen?, this]
            have cF1_1 : V0.cell? ⟨w.heap.size + 1, 1, none⟩ = some (.string ⟨#[]⟩) := by have := F1.out; simp [World.cell?, this]
            have dF1_1 : V0.frozen? ⟨w.heap.size + 1, 1, none⟩ = false := by have := F1.out; simp [World.frozen?, this]
            have cF1_2 : V0.cell? ⟨w.heap.size + 1, 2, none⟩ = some (.slice none 0 0) := by have := F1.out; simp [World.cell?, this]
            have dF1_2 : V0.frozen? ⟨w.heap.size + 1, 2, none⟩ = false := by have := F1.out; simp [World.frozen?, this]
            have cF1_3 : V0.cell? ⟨w.heap.size + 1, 3, none⟩ = some (.slice none 0 0) := by have := F1.out; simp [World.cell?, this]
            have dF1_3 : V0.frozen? ⟨w.heap.size + 1, 3, none⟩ = false := by have := F1.out; simp [World.frozen?, this]
            go_simp
            generalize hWV6 : World.setCell (World.setCell (World.setCell (World.setCell (V0) _ _) _ _) _ _) _ _ = V6
            have ltF0 := blk_lt F0.out
            have ltF1 := blk_lt F1.out
            have ltF2 := blk_lt F2.out
            have ltb := HB.out.size
            have ltl := HL.out
            have TT : ∀ k, k < V0.heap.size → k ≠ w.heap.size + 1 → V6.heap[k]? = V0.heap[k]? := fun k hk n_F1 => by rw [← hWV6]; (with_reducible repeat (first | rfl | refine hp_set ?_ ?_ | refine hp_alloc ?_ ?_ | refine hp_drew ?_)); all_goals (first | (with_reducible rfl) | omega | (dsimp only; omega) | (simp; omega))
            have TS : V0.heap.size + 0 ≤ V6.heap.size := by rw [← hWV6]; simp
            have nF0 : V6.heap[w.heap.size]? = some (.cells #[.string x.f0.f0, .string x.f0.f1, .slice A0 x.f1.length c0, .slice A1 x.f2.length c1] 46 (0, 0)) := (TT _ ltF0 (by omega)).trans F0.out
            have nF1 : V6.heap[w.heap.size + 1]? = some (.cells #[.string ⟨#[]⟩, .string ⟨#[]⟩, .slice none 0 0, .slice none 0 0] 46 (0, 0)) := by rw [← hWV6]; have h := blk_set1 (blk_set1 (blk_set1 (blk_set1 (F1.out) 0 (.string ⟨#[]⟩)) 1 (.string ⟨#[]⟩)) 2 (.slice none 0 0)) 3 (.slice none 0 0); simpa using h
            have nF2 : V6.heap[w3.heap.size]? = some (.cells #[.string ⟨#[]⟩, .string ⟨#[]⟩, .slice none 0 0, .slice none 0 0] 46 (0, 0)) := (TT _ ltF2 (by omega)).trans F2.out
            have nU0 : Kd.R kAddr 33 V6 w.heap.size (fun _ => True) (.slice B0 x.f1.length d0) x.f1 := R_keepT U0.out rfl (fun k hk ho => TT k hk (fun e => Kd.R_ne U0.out F1.out (by decide) (e ▸ ho)))
            have nU1 : Kd.R Kd.string 9 V6 w.heap.size (fun _ => True) (.slice B1 x.f2.length d1) x.f2 := R_keepT U1.out rfl (fun k hk ho => TT k hk (fun e => Kd.R_ne U1.out F1.out (by decide) (e ▸ ho)))
            have nHB : Below w.heap.size w V6 := by rw [← hWV6]; exact bel_set (bel_set (bel_set (bel_set (HB.out) _ (by show w.heap.size ≤ w.heap.size + 1; first | omega | (simp; omega))) _ (by show w.heap.size ≤ w.heap.size + 1; first | omega | (simp; omega))) _ (by show w.heap.size ≤ w.heap.size + 1; first | omega | (simp; omega))) _ (by show w.heap.size ≤ w.heap.size + 1; first | omega | (simp; omega))
            clear zF1 cF1_0 dF1_0 cF1_1 dF1_1 cF1_2 dF1_2 cF1_3 dF1_3
            clear hWV6 F0 F1 F2 HB U0 U1
            have F0 := Aside0.mk nF0
            clear nF0
            have F1 := Aside0.mk nF1
            clear nF1
            have F2 := Aside0.mk nF2
            clear nF2
            have U0 := Aside0.mk nU0
            clear nU0
            have U1 := Aside0.mk nU1
            clear nU1
            have HB := Aside0.mk nHB
            clear nHB
            replace HL := Aside0.mk (Nat.le_trans HL.out (by omega : V0.heap.size ≤ V6.heap.size))
            clear TT TS ltF0 ltF1 ltF2 ltb ltl
            clear p0 p1 p2 p3 p4
            obtain ⟨ad2, e2, p0, p1, p2, p3, p4⟩ := at_Rule (Kd.C_below hr HB.out) k hk
            obtain rfl : ad = ad2 := by injection e2
            rw [HY.out] at p0 p1 p2 p3 p4
            have zF2 := blk_lt F2.out
            have cF2_0 : V6.cell? ⟨w3.heap.size, 0, none⟩ = some (.string ⟨#[]⟩) := by have := F2.out; simp [World.cell?, this]
            have cF2_1 : V6.cell? ⟨w3.heap.size, 1, none⟩ = some (.string ⟨#[]⟩) := by have := F2.out; simp [World.cell?, this]
            have cF2_2 : V6.cell? ⟨w3.heap.size, 2, none⟩ = some (.slice none 0 0) := by have := F2.out; simp [World.cell?, this]
            have cF2_3 : V6.cell? ⟨w3.heap.size, 3, none⟩ = some (.slice none 0 0) := by have := F2.out; simp [World.cell?, this]
            refine hK.out _ _ ?h9 (fun hHeld => ?j9)
            case h9 => exact ⟨cF2_0, cF2_1, cF2_2, cF2_3, p2⟩
            clear hK K
            try simp only [Act.put, List.setIfInBounds_toArray, List.set_cons_zero, List.set_cons_succ]
            refine wpAnyH_take (i := 7) (oi := { dst := some 5, op := Op.assign (Operand.tmp 47), type := 3, pos := "l13_sieve.go:77", after := #[{ on := 5, ground := Ground.data }, { on := 6, ground := Ground.chain }, { on := 0, ground := Ground.phase }, { on := 1, ground := Ground.phase }, { on := 2, ground := Ground.phase }, { on := 3, ground := Ground.phase }, { on := 4, ground := Ground.phase }, { on := 5, ground := Ground.phase }, { on := 6, ground := Ground.phase }], guard := none }) (v := ?v10) rfl (by kernel_rfl) (by kernel_rfl) (by kernel_rfl) (fun _ _ _ h => h) (Or.inl ⟨by rfl, ?y10⟩) (by assumption) ?r10
            case y10 => intro w_ hSw; (try dsimp only at hSw); go_simp; (try (with_reducible rfl))
            try simp only [Act.put, List.setIfInBounds_toArray, List.set_cons_zero, List.set_cons_succ]
            refine wpAnyH_done (by kernel_rfl) ?_ _
            go_wp2
            have zF1 := blk_lt F1.out
            have cF1_0 : V6.cell? ⟨w.heap.size + 1, 0, none⟩ = some (.string ⟨#[]⟩) := by have := F1.out; simp [World.cell?, this]
            have dF1_0 : V6.frozen? ⟨w.heap.size + 1, 0, none⟩ = false := by have := F1.out; simp [World.frozen?, this]
            have cF1_1 : V6.cell? ⟨w.heap.size + 1, 1, none⟩ = some (.string ⟨#[]⟩) := by have := F1.out; simp [World.cell?, this]
            have dF1_1 : V6.frozen? ⟨w.heap.size + 1, 1, none⟩ = false := by have := F1.out; simp [World.frozen?, this]
            have cF1_2 : V6.cell? ⟨w.heap.size + 1, 2, none⟩ = some (.slice none 0 0) := by have := F1.out; simp [World.cell?, this]
            have dF1_2 : V6.frozen? ⟨w.heap.size + 1, 2, none⟩ = false := by have := F1.out; simp [World.frozen?, this]
            have cF1_3 : V6.cell? ⟨w.heap.size + 1, 3, none⟩ = some (.slice none 0 0) := by have := F1.out; simp [World.cell?, this]
            have dF1_3 : V6.frozen? ⟨w.heap.size + 1, 3, none⟩ = false := by have := F1.out; simp [World.frozen?, this]
            refine bodyPost_ret (v := .tuple #[.agg #[.string ⟨#[]⟩, .string ⟨#[]⟩, .slice none 0 0, .slice none 0 0], .int .i64 2]) ?hrD rfl ?hpD
            case hrD => simp [results, Tryd.results20, go_sem, zF2, cF2_0, cF2_1, cF2_2, cF2_3, zF1, cF1_0, dF1_0, cF1_1, dF1_1, cF1_2, dF1_2, cF1_3, dF1_3]
            case hpD => rw [HE.out]; exact ⟨none, 0, none, 0, rfl, (Kd.R_nil _ _ _ _ _), (Kd.R_nil _ _ _ _ _), (by (with_reducible repeat (first | exact HB.out | refine bel_set ?_ _ ?_ | refine blw_drewN ?_ _ | refine Below.drew ?_ | refine bel_alloc ?_ _)); all_goals ((try dsimp only); omega))⟩
        · by_cases hd3 : y.f2 = 3
          · have hd := hd3
            have q2 : (y.f2 == 2) = false := by simp; omega
            have q3 : (y.f2 == 3) = true := by simp [hd]
            replace HE := Lib.hid (HE.out.trans (show outM x (some y) = (⟨x.f0, [y.f3], x.f2⟩, 3) from by unfold outM; dsimp only; rw [if_neg (by omega), if_pos hd]))
            go_wp2
            generalize hWw6 : World.alloc (World.setCell (w5) _ _) _ = w6
            have ltF0 := blk_lt F0.out
            have ltF1 := blk_lt F1.out
            have ltF2 := blk_lt F2.out
            have ltb := HB.out.size
            have ltl := HL.out
            have TT : ∀ k, k < w5.heap.size → k ≠ w3.heap.size → w6.heap[k]? = w5.heap[k]? := fun k hk n_F2 => by rw [← hWw6]; (with_reducible repeat (first | rfl | refine hp_set ?_ ?_ | refine hp_alloc ?_ ?_ | refine hp_drew ?_)); all_goals (first | (with_reducible rfl) | omega | (dsimp only; omega) | (simp; omega))
            have TS : w5.heap.size + 1 ≤ w6.heap.size := by rw [← hWw6]; simp
            have nF0 : w6.heap[w.heap.size]? = some (.cells #[.string x.f0.f0, .string x.f0.f1, .slice A0 x.f1.length c0, .slice A1 x.f2.length c1] 46 (0, 0)) := (TT _ ltF0 (by omega)).trans F0.out
            have nF1 : w6.heap[w.heap.size + 1]? = some (.cells #[.string ⟨#[]⟩, .string ⟨#[]⟩, .slice none 0 0, .slice none 0 0] 46 (0, 0)) := (TT _ ltF1 (by omega)).trans F1.out
            have nF2 : w6.heap[w3.heap.size]? = some (.cells #[.string x.f0.f0, .string x.f0.f1, .slice (some ⟨w5.heap.size, 0, none⟩) 1 1, .slice B1 x.f2.length d1] 46 (0, 0)) := by rw [← hWw6]; have h := blk_alloc (blk_set1 (F2.out) 2 (.slice (some ⟨w5.heap.size, 0, none⟩) 1 1)) (.cells #[.string y.f3.f0, .string y.f3.f1] 33); simpa using h
            have nF3 : w6.heap[w5.heap.size]? = some (.cells #[.string y.f3.f0, .string y.f3.f1] 33 (0, 0)) := by rw [← hWw6]; exact blk_at _ _ (by first | rfl | (simp; done) | (simp; omega))
            have nU0 : Kd.R kAddr 33 w6 w.heap.size (fun _ => True) (.slice B0 x.f1.length d0) x.f1 := R_keepT U0.out rfl (fun k hk ho => TT k hk (fun e => Kd.R_ne U0.out F2.out (by decide) (e ▸ ho)))
            have nU1 : Kd.R Kd.string 9 w6 w.heap.size (fun _ => True) (.slice B1 x.f2.length d1) x.f2 := R_keepT U1.out rfl (fun k hk ho => TT k hk (fun e => Kd.R_ne U1.out F2.out (by decide) (e ▸ ho)))
            have nHB : Below w.heap.size w w6 := by rw [← hWw6]; exact bel_alloc (bel_set (HB.out) _ (by show w.heap.size ≤ w3.heap.size; first | omega | (simp; omega))) _
            have nU2 : Kd.R kAddr 33 w6 w.heap.size (fun _ => True) (.slice (some ⟨w5.heap.size, 0, none⟩) 1 1) [y.f3] := by rw [← hWw6]; exact R_oneAt kAddr 33 _ w.heap.size y.f3 [.string y.f3.f0, .string y.f3.f1] (by simp) (kAddr_mkM _ _ _ _) (by have := HB.out.size; simp; omega)
            clear zF1 cF1_0 dF1_0 cF1_1 dF1_1 cF1_2 dF1_2 cF1_3 dF1_3 zF2 cF2_0 dF2_0 cF2_1 dF2_1 cF2_2 dF2_2 cF2_3 dF2_3
            clear hWw6 F0 F1 F2 HB U0 U1
            have F0 := Aside0.mk nF0
            clear nF0
            have F1 := Aside0.mk nF1
            clear nF1
            have F2 := Aside0.mk nF2
            clear nF2
            have F3 := Aside0.mk nF3
            clear nF3
            have U0 := Aside0.mk nU0
            clear nU0
            have U1 := Aside0.mk nU1
            clear nU1
            have U2 := Aside0.mk nU2
            clear nU2
            have HB := Aside0.mk nHB
            clear nHB
            have oF3_ltF0 := ltF0
            have oF3_ltF1 := ltF1
            have oF3_ltF2 := ltF2
            have oF3_ltl := ltl
            replace HL := Aside0.mk (Nat.le_trans HL.out (by omega : w5.heap.size ≤ w6.heap.size))
            clear TT TS ltF0 ltF1 ltF2 ltb ltl
            clear p0 p1 p2 p3 p4
            obtain ⟨ad2, e2, p0, p1, p2, p3, p4⟩ := at_Rule (Kd.C_below hr HB.out) k hk
            obtain rfl : ad = ad2 := by injection e2
            rw [HY.out] at p0 p1 p2 p3 p4
            have zF1 := blk_lt F1.out
            have cF1_0 : w6.cell? ⟨w.heap.size + 1, 0, none⟩ = some (.string ⟨#[]⟩) := by have := F1.out; simp [World.cell?, this]
            have dF1_0 : w6.frozen? ⟨w.heap.size + 1, 0, none⟩ = false := by have := F1.out; simp [World.frozen?, this]
            have cF1_1 : w6.cell? ⟨w.heap.size + 1, 1, none⟩ = some (.string ⟨#[]⟩) := by have := F1.out; simp [World.cell?, this]
            have dF1_1 : w6.frozen? ⟨w.heap.size + 1, 1, none⟩ = false := by have := F1.out; simp [World.frozen?, this]
            have cF1_2 : w6.cell? ⟨w.heap.size + 1, 2, none⟩ = some (.slice none 0 0) := by have := F1.out; simp [World.cell?, this]
            have dF1_2 : w6.frozen? ⟨w.heap.size + 1, 2, none⟩ = false := by have := F1.out; simp [World.frozen?, this]
            have cF1_3 : w6.cell? ⟨w.heap.size + 1, 3, none⟩ = some (.slice none 0 0) := by have := F1.out; simp [World.cell?, this]
            have dF1_3 : w6.frozen? ⟨w.heap.size + 1, 3, none⟩ = false := by have := F1.out; simp [World.frozen?, this]
            have zF2 := blk_lt F2.out
            have cF2_0 : w6.cell? ⟨w3.heap.size, 0, none⟩ = some (.string x.f0.f0) := by have := F2.out; simp [World.cell?, this]
            have cF2_1 : w6.cell? ⟨w3.heap.size, 1, none⟩ = some (.string x.f0.f1) := by have := F2.out; simp [World.cell?, this]
            have cF2_2 : w6.cell? ⟨w3.heap.size, 2, none⟩ = some (.slice (some ⟨w5.heap.size, 0, none⟩) 1 1) := by have := F2.out; simp [World.cell?, this]
            have cF2_3 : w6.cell? ⟨w3.heap.size, 3, none⟩ = some (.slice B1 x.f2.length d1) := by have := F2.out; simp [World.cell?, this]
            refine wp_region_held_drew (S := (fun W => W.cell? ⟨w3.heap.size, 0, none⟩ = some (.string x.f0.f0) ∧ W.cell? ⟨w3.heap.size, 1, none⟩ = some (.string x.f0.f1) ∧ W.cell? ⟨w3.heap.size, 2, none⟩ = some (.slice (some ⟨w5.heap.size, 0, none⟩) 1 1) ∧ W.cell? ⟨w3.heap.size, 3, none⟩ = some (.slice B1 x.f2.length d1) ∧ W.cell? ⟨(ad.add (k * 5)).block, (ad.add (k * 5)).off + 2, none⟩ = some (.int .i64 y.f2))) (by kernel_rfl) ?s11 (fun hHeld => ?t11)
            case s11 => exact ⟨cF2_0, cF2_1, cF2_2, cF2_3, p2⟩
            generalize hWV0 : World.drew (w6) = V0 at hHeld ⊢
            have ltF0 := blk_lt F0.out
            have ltF1 := blk_lt F1.out
            have ltF2 := blk_lt F2.out
            have ltF3 := blk_lt F3.out
            have ltb := HB.out.size
            have ltl := HL.out
            have TT : ∀ k, k < w6.heap.size → V0.heap[k]? = w6.heap[k]? := fun k hk => by rw [← hWV0]; (with_reducible repeat (first | rfl | refine hp_set ?_ ?_ | refine hp_alloc ?_ ?_ | refine hp_drew ?_)); all_goals (first | (with_reducible rfl) | omega | (dsimp only; omega) | (simp; omega))
            have TS : w6.heap.size + 0 ≤ V0.heap.size := by rw [← hWV0]; simp
            have nF0 : V0.heap[w.heap.size]? = some (.cells #[.string x.f0.f0, .string x.f0.f1, .slice A0 x.f1.length c0, .slice A1 x.f2.length c1] 46 (0, 0)) := (TT _ ltF0).trans F0.out
            have nF1 : V0.heap[w.heap.size + 1]? = some (.cells #[.string ⟨#[]⟩, .string ⟨#[]⟩, .slice none 0 0, .slice none 0 0] 46 (0, 0)) := (TT _ ltF1).trans F1.out
            have nF2 : V0.heap[w3.heap.size]? = some (.cells #[.string x.f0.f0, .string x.f0.f1, .slice (some ⟨w5.heap.size, 0, none⟩) 1 1, .slice B1 x.f2.length d1] 46 (0, 0)) := (TT _ ltF2).trans F2.out
            have nF3 : V0.heap[w5.heap.size]? = some (.cells #[.string y.f3.f0, .string y.f3.f1] 33 (0, 0)) := (TT _ ltF3).trans F3.out
            have nU0 : Kd.R kAddr 33 V0 w.heap.size (fun _ => True) (.slice B0 x.f1.length d0) x.f1 := R_keepT U0.out rfl (fun k hk ho => TT k hk)
            have nU1 : Kd.R Kd.string 9 V0 w.heap.size (fun _ => True) (.slice B1 x.f2.length d1) x.f2 := R_keepT U1.out rfl (fun k hk ho => TT k hk)
            have nU2 : Kd.R kAddr 33 V0 w.heap.size (fun _ => True) (.slice (some ⟨w5.heap.size, 0, none⟩) 1 1) [y.f3] := R_keepT U2.out rfl (fun k hk ho => TT k hk)
            have nHB : Below w.heap.size w V0 := by rw [← hWV0]; exact bel_then (HB.out) (drew_below0 _)
            clear zF1 cF1_0 dF1_0 cF1_1 dF1_1 cF1_2 dF1_2 cF1_3 dF1_3 zF2 cF2_0 cF2_1 cF2_2 cF2_3
            clear hWV0 F0 F1 F2 F3 HB U0 U1 U2
            have F0 := Aside0.mk nF0
            clear nF0
            have F1 := Aside0.mk nF1
            clear nF1
            have F2 := Aside0.mk nF2
            clear nF2
            have F3 := Aside0.mk nF3
            clear nF3
            have U0 := Aside0.mk nU0
            clear nU0
            have U1 := Aside0.mk nU1
            clear nU1
            have U2 := Aside0.mk nU2
            clear nU2
            have HB := Aside0.mk nHB
            clear nHB
            replace HL := Aside0.mk (Nat.le_trans HL.out (by omega : w6.heap.size ≤ V0.heap.size))
            clear TT TS ltF0 ltF1 ltF2 ltF3 ltb ltl
            refine wpAnyH_take (i := 0) (oi := { dst := some 42, op := Op.load 46 (Operand.tmp 6), type := 46, pos := "l13_sieve.go:77", after := #[], guard := none }) (v := ?v12) rfl (by kernel_rfl) (by kernel_rfl) (by kernel_rfl) (fun _ _ _ h => h) (Or.inl ⟨by rfl, ?y12⟩) (by assumption) ?r12
            case y12 => intro w_ hSw; (try dsimp only at hSw); go_simp; (try (with_reducible rfl))
            try simp only [Act.put, List.setIfInBounds_toArray, List.set_cons_zero, List.set_cons_succ]
            refine wpAnyH_take (i := 1) (oi := { dst := some 43, op := Op.move (Operand.tmp 0), type := 41, pos := "l13_sieve.go:77", after := #[{ on := 6, ground := Ground.gcOnly Departure.lateStores }], guard := none }) (v := ?v13) rfl (by kernel_rfl) (by kernel_rfl) (by kernel_rfl) (fun _ _ _ h => h) (Or.inl ⟨by rfl, ?y13⟩) (by assumption) ?r13
            case y13 => intro w_ hSw; (try dsimp only at hSw); go_simp; (try (with_reducible rfl))
            try simp only [Act.put, List.setIfInBounds_toArray, List.set_cons_zero, List.set_cons_succ]
            refine wpAnyH_take (i := 2) (oi := { dst := some 44, op := Op.move (Operand.tmp 7), type := 3, pos := "l13_sieve.go:77", after := #[{ on := 6, ground := Ground.gcOnly Departure.lateStores }], guard := none }) (v := ?v14) rfl (by kernel_rfl) (by kernel_rfl) (by kernel_rfl) (fun _ _ _ h => h) (Or.inl ⟨by rfl, ?y14⟩) (by assumption) ?r14
            case y14 => intro w_ hSw; (try dsimp only at hSw); go_simp; (try (with_reducible rfl))
            try simp only [Act.put, List.setIfInBounds_toArray, List.set_cons_zero, List.set_cons_succ]
            refine wpAnyH_take (i := 3) (oi := { dst := some 45, op := Op.indexAddr 41 (Operand.tmp 43) (Operand.tmp 44), type := 0, pos := "l13_sieve.go:77", after := #[{ on := 1, ground := Ground.data }, { on := 2, ground := Ground.data }, { on := 6, ground := Ground.gcOnly Departure.lateStores }], guard := none }) (v := ?v15) rfl (by kernel_rfl) (by kernel_rfl) (by kernel_rfl) (fun _ _ _ h => h) (Or.inl ⟨by rfl, ?y15⟩) (by assumption) ?r15
            case y15 => intro w_ hSw; (try dsimp only at hSw); go_simp; (try (with_reducible rfl))
            try simp only [Act.put, List.setIfInBounds_toArray, List.set_cons_zero, List.set_cons_succ]
            refine wpAnyH_take (i := 4) (oi := { dst := some 46, op := Op.fieldAddr 65 (Operand.tmp 45) 2, type := 0, pos := "l13_sieve.go:77", after := #[{ on := 3, ground := Ground.data }, { on := 6, ground := Ground.gcOnly Departure.lateStores }], guard := none }) (v := ?v16) rfl (by kernel_rfl) (by kernel_rfl) (by kernel_rfl) (fun _ _ _ h => h) (Or.inl ⟨by rfl, ?y16⟩) (by assumption) ?r16
            case y16 => intro w_ hSw; (try dsimp only at hSw); go_simp; (try (with_reducible rfl))
            try simp only [Act.put, List.setIfInBounds_toArray, List.set_cons_zero, List.set_cons_succ]
            refine wpAnyH_take (i := 5) (oi := { dst := some 47, op := Op.load 3 (Operand.tmp 46), type := 3, pos := "l13_sieve.go:77", after := #[{ on := 4, ground := Ground.data }, { on := 6, ground := Ground.gcOnly Departure.lateStores }], guard := none }) (v := ?v17) rfl (by kernel_rfl) (by kernel_rfl) (by kernel_rfl) (fun _ _ _ h => h) (Or.inl ⟨by rfl, ?y17⟩) (by assumption) ?r17
            case y17 => intro w_ hSw; (try dsimp only at hSw); go_simp; (try (with_reducible rfl))
            try simp only [Act.put, List.setIfInBounds_toArray, List.set_cons_zero, List.set_cons_succ]
            refine wpAnyH_ready (rs := [6]) (by kernel_rfl) (by simp) ?_
            refine AllReadyH.cons (o := { dst := none, op := Op.store 46 (Operand.tmp 4) (Operand.tmp 42), type := 0, pos := "l13_sieve.go:77", after := #[{ on := 0, ground := Ground.data }, { on := 0, ground := Ground.phase }, { on := 1, ground := Ground.textOnly Departure.lateStores }, { on := 2, ground := Ground.textOnly Departure.lateStores }, { on := 3, ground := Ground.textOnly Departure.lateStores }, { on := 4, ground := Ground.textOnly Departure.lateStores }, { on := 5, ground := Ground.textOnly Departure.lateStores }], guard := none }) rfl (fun K hK => ?k18) AllReadyH.nil
            case k18 =>
              have zF1 := blk_lt F1.out
              have cF1_0 : V0.cell? ⟨w.heap.size + 1, 0, none⟩ = some (.string ⟨#[]⟩) := by have := F1.out; simp [World.cell?, this]
              have dF1_0 : V0.frozen? ⟨w.heap.size + 1, 0, none⟩ = false := by have := F1.out; simp [World.frozen?, this]
              have cF1_1 : V0.cell? ⟨w.heap.size + 1, 1, none⟩ = some (.string ⟨#[]⟩) := by have := F1.out; simp [World.cell?, this]
              have dF1_1 : V0.frozen? ⟨w.heap.size + 1, 1, none⟩ = false := by have := F1.out; simp [World.frozen?, this]
              have cF1_2 : V0.cell? ⟨w.heap.size + 1, 2, none⟩ = some (.slice none 0 0) := by have := F1.out; simp [World.cell?, this]
              have dF1_2 : V0.frozen? ⟨w.heap.size + 1, 2, none⟩ = false := by have := F1.out; simp [World.frozen?, this]
              have cF1_3 : V0.cell? ⟨w.heap.size + 1, 3, none⟩ = some (.slice none 0 0) := by have := F1.out; simp [World.cell?, this]
              have dF1_3 : V0.frozen? ⟨w.heap.size + 1, 3, none⟩ = false := by have := F1.out; simp [World.frozen?, this]
              go_simp
              generalize hWV6 : World.setCell (World.setCell (World.setCell (World.setCell (V0) _ _) _ _) _ _) _ _ = V6
              have ltF0 := blk_lt F0.out
              have ltF1 := blk_lt F1.out
              have ltF2 := blk_lt F2.out
              have ltF3 := blk_lt F3.out
              have ltb := HB.out.size
              have ltl := HL.out
              have TT : ∀ k, k < V0.heap.size → k ≠ w.heap.size + 1 → V6.heap[k]? = V0.heap[k]? := fun k hk n_F1 => by rw [← hWV6]; (with_reducible repeat (first | rfl | refine hp_set ?_ ?_ | refine hp_alloc ?_ ?_ | refine hp_drew ?_)); all_goals (first | (with_reducible rfl) | omega | (dsimp only; omega) | (simp; omega))
              have TS : V0.heap.size + 0 ≤ V6.heap.size := by rw [← hWV6]; simp
              have nF0 : V6.heap[w.heap.size]? = some (.cells #[.string x.f0.f0, .string x.f0.f1, .slice A0 x.f1.length c0, .slice A1 x.f2.length c1] 46 (0, 0)) := (TT _ ltF0 (by omega)).trans F0.out
              have nF1 : V6.heap[w.heap.size + 1]? = some (.cells #[.string x.f0.f0, .string x.f0.f1, .slice (some ⟨w5.heap.size, 0, none⟩) 1 1, .slice B1 x.f2.length d1] 46 (0, 0)) := by rw [← hWV6]; have h := blk_set1 (blk_set1 (blk_set1 (blk_set1 (F1.out) 0 (.string x.f0.f0)) 1 (.string x.f0.f1)) 2 (.slice (some ⟨w5.heap.size, 0, none⟩) 1 1)) 3 (.slice B1 x.f2.length d1); simpa using h
              have nF2 : V6.heap[w3.heap.size]? = some (.cells #[.string x.f0.f0, .string x.f0.f1, .slice (some ⟨w5.heap.size, 0, none⟩) 1 1, .slice B1 x.f2.length d1] 46 (0, 0)) := (TT _ ltF2 (by omega)).trans F2.out
              have nF3 : V6.heap[w5.heap.size]? = some (.cells #[.string y.f3.f0, .string y.f3.f1] 33 (0, 0)) := (TT _ ltF3 (by omega)).trans F3.out
              have nU0 : Kd.R kAddr 33 V6 w.heap.size (fun _ => True) (.slice B0 x.f1.length d0) x.f1 := R_keepT U0.out rfl (fun k hk ho => TT k hk (fun e => Kd.R_ne U0.out F1.out (by decide) (e ▸ ho)))
              have nU1 : Kd.R Kd.string 9 V6 w.heap.size (fun _ => True) (.slice B1 x.f2.length d1) x.f2 := R_keepT U1.out rfl (fun k hk ho => TT k hk (fun e => Kd.R_ne U1.out F1.out (by decide) (e ▸ ho)))
              have nU2 : Kd.R kAddr 33 V6 w.heap.size (fun _ => True) (.slice (some ⟨w5.heap.size, 0, none⟩) 1 1) [y.f3] := R_keepT U2.out rfl (fun k hk ho => TT k hk (fun e => Kd.R_ne U2.out F1.out (by decide) (e ▸ ho)))
              have nHB : Below w.heap.size w V6 := by rw [← hWV6]; exact bel_set (bel_set (bel_set (bel_set (HB.out) _ (by show w.heap.size ≤ w.heap.size + 1; first | omega | (simp; omega))) _ (by show w.heap.size ≤ w.heap.size + 1; first | omega | (simp; omega))) _ (by show w.heap.size ≤ w.heap.size + 1; first | omega | (simp; omega))) _ (by show w.heap.size ≤ w.heap.size + 1; first | omega | (simp; omega))
              clear zF1 cF1_0 dF1_0 cF1_1 dF1_1 cF1_2 dF1_2 cF1_3 dF1_3
              clear hWV6 F0 F1 F2 F3 HB U0 U1 U2
              have F0 := Aside0.mk nF0
              clear nF0
              have F1 := Aside0.mk nF1
              clear nF1
              have F2 := Aside0.mk nF2
              clear nF2
              have F3 := Aside0.mk nF3
              clear nF3
              have U0 := Aside0.mk nU0
              clear nU0
              have U1 := Aside0.mk nU1
              clear nU1
              have U2 := Aside0.mk nU2
              clear nU2
              have HB := Aside0.mk nHB
              clear nHB
              replace HL := Aside0.mk (Nat.le_trans HL.out (by omega : V0.heap.size ≤ V6.heap.size))
              clear TT TS ltF0 ltF1 ltF2 ltF3 ltb ltl
              clear p0 p1 p2 p3 p4
              obtain ⟨ad2, e2, p0, p1, p2, p3, p4⟩ := at_Rule (Kd.C_below hr HB.out) k hk
              obtain rfl : ad = ad2 := by injection e2
              rw [HY.out] at p0 p1 p2 p3 p4
              have zF2 := blk_lt F2.out
              have cF2_0 : V6.cell? ⟨w3.heap.size, 0, none⟩ = some (.string x.f0.f0) := by have := F2.out; simp [World.cell?, this]
              have cF2_1 : V6.cell? ⟨w3.heap.size, 1, none⟩ = some (.string x.f0.f1) := by have := F2.out; simp [World.cell?, this]
              have cF2_2 : V6.cell? ⟨w3.heap.size, 2, none⟩ = some (.slice (some ⟨w5.heap.size, 0, none⟩) 1 1) := by have := F2.out; simp [World.cell?, this]
              have cF2_3 : V6.cell? ⟨w3.heap.size, 3, none⟩ = some (.slice B1 x.f2.length d1) := by have := F2.out; simp [World.cell?, this]
              refine hK.out _ _ ?h19 (fun hHeld => ?j19)
              case h19 => exact ⟨cF2_0, cF2_1, cF2_2, cF2_3, p2⟩
              clear hK K
              try simp only [Act.put, List.setIfInBounds_toArray, List.set_cons_zero, List.set_cons_succ]
              refine wpAnyH_take (i := 7) (oi := { dst := some 5, op := Op.assign (Operand.tmp 47), type := 3, pos := "l13_sieve.go:77", after := #[{ on := 5, ground := Ground.data }, { on := 6, ground := Ground.chain }, { on := 0, ground := Ground.phase }, { on := 1, ground := Ground.phase }, { on := 2, ground := Ground.phase }, { on := 3, ground := Ground.phase }, { on := 4, ground := Ground.phase }, { on := 5, ground := Ground.phase }, { on := 6, ground := Ground.phase }], guard := none }) (v := ?v20) rfl (by kernel_rfl) (by kernel_rfl) (by kernel_rfl) (fun _ _ _ h => h) (Or.inl ⟨by rfl, ?y20⟩) (by assumption) ?r20
              case y20 => intro w_ hSw; (try dsimp only at hSw); go_simp; (try (with_reducible rfl))
              try simp only [Act.put, List.setIfInBounds_toArray, List.set_cons_zero, List.set_cons_succ]
              refine wpAnyH_done (by kernel_rfl) ?_ _
              go_wp2
              have zF1 := blk_lt F1.out
              have cF1_0 : V6.cell? ⟨w.heap.size + 1, 0, none⟩ = some (.string x.f0.f0) := by have := F1.out; simp [World.cell?, this]
              have dF1_0 : V6.frozen? ⟨w.heap.size + 1, 0, none⟩ = false := by have := F1.out; simp [World.frozen?, this]
              have cF1_1 : V6.cell? ⟨w.heap.size + 1, 1, none⟩ = some (.string x.f0.f1) := by have := F1.out; simp [World.cell?, this]
              have dF1_1 : V6.frozen? ⟨w.heap.size + 1, 1, none⟩ = false := by have := F1.out; simp [World.frozen?, this]
              have cF1_2 : V6.cell? ⟨w.heap.size + 1, 2, none⟩ = some (.slice (some ⟨w5.heap.size, 0, none⟩) 1 1) := by have := F1.out; simp [World.cell?, this]
              have dF1_2 : V6.frozen? ⟨w.heap.size + 1, 2, none⟩ = false := by have := F1.out; simp [World.frozen?, this]
              have cF1_3 : V6.cell? ⟨w.heap.size + 1, 3, none⟩ = some (.slice B1 x.f2.length d1) := by have := F1.out; simp [World.cell?, this]
              have dF1_3 : V6.frozen? ⟨w.heap.size + 1, 3, none⟩ = false := by have := F1.out; simp [World.frozen?, this]
              refine bodyPost_ret (v := .tuple #[.agg #[.string x.f0.f0, .string x.f0.f1, .slice (some ⟨w5.heap.size, 0, none⟩) 1 1, .slice B1 x.f2.length d1], .int .i64 3]) ?hrE rfl ?hpE
              case hrE => simp [results, Tryd.results20, go_sem, zF2, cF2_0, cF2_1, cF2_2, cF2_3, zF1, cF1_0, dF1_0, cF1_1, dF1_1, cF1_2, dF1_2, cF1_3, dF1_3]
              case hpE => rw [HE.out]; exact ⟨some ⟨w5.heap.size, 0, none⟩, 1, B1, d1, rfl, U2.out, U1.out, (by (with_reducible repeat (first | exact HB.out | refine bel_set ?_ _ ?_ | refine blw_drewN ?_ _ | refine Below.drew ?_ | refine bel_alloc ?_ _)); all_goals ((try dsimp only); omega))⟩
          · have hd : y.f2 = 1 := by omega
            have q2 : (y.f2 == 2) = false := by simp; omega
            have q3 : (y.f2 == 3) = false := by simp; omega
            replace HE := Lib.hid (HE.out.trans (show outM x (some y) = (x, 1) from by unfold outM; dsimp only; rw [if_neg (by omega), if_neg (by omega)]))
            go_wp2
            refine wp_region_held_drew (S := (fun W => W.cell? ⟨w3.heap.size, 0, none⟩ = some (.string x.f0.f0) ∧ W.cell? ⟨w3.heap.size, 1, none⟩ = some (.string x.f0.f1) ∧ W.cell? ⟨w3.heap.size, 2, none⟩ = some (.slice B0 x.f1.length d0) ∧ W.cell? ⟨w3.heap.size, 3, none⟩ = some (.slice B1 x.f2.length d1) ∧ W.cell? ⟨(ad.add (k * 5)).block, (ad.add (k * 5)).off + 2, none⟩ = some (.int .i64 y.f2))) (by kernel_rfl) ?s21 (fun hHeld => ?t21)
            case s21 => exact ⟨cF2_0, cF2_1, cF2_2, cF2_3, p2⟩
            generalize hWV0 : World.drew (w5) = V0 at hHeld ⊢
            have ltF0 := blk_lt F0.out
            have ltF1 := blk_lt F1.out
            have ltF2 := blk_lt F2.out
            have ltb := HB.out.size
            have ltl := HL.out
            have TT : ∀ k, k < w5.heap.size → V0.heap[k]? = w5.heap[k]? := fun k hk => by rw [← hWV0]; (with_reducible repeat (first | rfl | refine hp_set ?_ ?_ | refine hp_alloc ?_ ?_ | refine hp_drew ?_)); all_goals (first | (with_reducible rfl) | omega | (dsimp only; omega) | (simp; omega))
            have TS : w5.heap.size + 0 ≤ V0.heap.size := by rw [← hWV0]; simp
            have nF0 : V0.heap[w.heap.size]? = some (.cells #[.string x.f0.f0, .string x.f0.f1, .slice A0 x.f1.length c0, .slice A1 x.f2.length c1] 46 (0, 0)) := (TT _ ltF0).trans F0.out
            have nF1 : V0.heap[w.heap.size + 1]? = some (.cells #[.string ⟨#[]⟩, .string ⟨#[]⟩, .slice none 0 0, .slice none 0 0] 46 (0, 0)) := (TT _ ltF1).trans F1.out
            have nF2 : V0.heap[w3.heap.size]? = some (.cells #[.string x.f0.f0, .string x.f0.f1, .slice B0 x.f1.length d0, .slice B1 x.f2.length d1] 46 (0, 0)) := (TT _ ltF2).trans F2.out
            have nU0 : Kd.R kAddr 33 V0 w.heap.size (fun _ => True) (.slice B0 x.f1.length d0) x.f1 := R_keepT U0.out rfl (fun k hk ho => TT k hk)
            have nU1 : Kd.R Kd.string 9 V0 w.heap.size (fun _ => True) (.slice B1 x.f2.length d1) x.f2 := R_keepT U1.out rfl (fun k hk ho => TT k hk)
            have nHB : Below w.heap.size w V0 := by rw [← hWV0]; exact bel_then (HB.out) (drew_below0 _)
            clear zF1 cF1_0 dF1_0 cF1_1 dF1_1 cF1_2 dF1_2 cF1_3 dF1_3 zF2 cF2_0 dF2_0 cF2_1 dF2_1 cF2_2 dF2_2 cF2_3 dF2_3
            clear hWV0 F0 F1 F2 HB U0 U1
            have F0 := Aside0.mk nF0
            clear nF0
            have F1 := Aside0.mk nF1
            clear nF1
            have F2 := Aside0.mk nF2
            clear nF2
            have U0 := Aside0.mk nU0
            clear nU0
            have U1 := Aside0.mk nU1
            clear nU1
            have HB := Aside0.mk nHB
            clear nHB
            replace HL := Aside0.mk (Nat.le_trans HL.out (by omega : w5.heap.size ≤ V0.heap.size))
            clear TT TS ltF0 ltF1 ltF2 ltb ltl
            refine wpAnyH_take (i := 0) (oi := { dst := some 42, op := Op.load 46 (Operand.tmp 6), type := 46, pos := "l13_sieve.go:77", after := #[], guard := none }) (v := ?v22) rfl (by kernel_rfl) (by kernel_rfl) (by kernel_rfl) (fun _ _ _ h => h) (Or.inl ⟨by rfl, ?y22⟩) (by assumption) ?r22
            case y22 => intro w_ hSw; (try dsimp only at hSw); go_simp; (try (with_reducible rfl))
            try simp only [Act.put, List.setIfInBounds_toArray, List.set_cons_zero, List.set_cons_succ]
            refine wpAnyH_take (i := 1) (oi := { dst := some 43, op := Op.move (Operand.tmp 0), type := 41, pos := "l13_sieve.go:77", after := #[{ on := 6, ground := Ground.gcOnly Departure.lateStores }], guard := none }) (v := ?v23) rfl (by kernel_rfl) (by kernel_rfl) (by kernel_rfl) (fun _ _ _ h => h) (Or.inl ⟨by rfl, ?y23⟩) (by assumption) ?r23
            case y23 => intro w_ hSw; (try dsimp only at hSw); go_simp; (try (with_reducible rfl))
            try simp only [Act.put, List.setIfInBounds_toArray, List.set_cons_zero, List.set_cons_succ]
            refine wpAnyH_take (i := 2) (oi := { dst := some 44, op := Op.move (Operand.tmp 7), type := 3, pos := "l13_sieve.go:77", after := #[{ on := 6, ground := Ground.gcOnly Departure.lateStores }], guard := none }) (v := ?v24) rfl (by kernel_rfl) (by kernel_rfl) (by kernel_rfl) (fun _ _ _ h => h) (Or.inl ⟨by rfl, ?y24⟩) (by assumption) ?r24
            case y24 => intro w_ hSw; (try dsimp only at hSw); go_simp; (try (with_reducible rfl))
            try simp only [Act.put, List.setIfInBounds_toArray, List.set_cons_zero, List.set_cons_succ]
            refine wpAnyH_take (i := 3) (oi := { dst := some 45, op := Op.indexAddr 41 (Operand.tmp 43) (Operand.tmp 44), type := 0, pos := "l13_sieve.go:77", after := #[{ on := 1, ground := Ground.data }, { on := 2, ground := Ground.data }, { on := 6, ground := Ground.gcOnly Departure.lateStores }], guard := none }) (v := ?v25) rfl (by kernel_rfl) (by kernel_rfl) (by kernel_rfl) (fun _ _ _ h => h) (Or.inl ⟨by rfl, ?y25⟩) (by assumption) ?r25
            case y25 => intro w_ hSw; (try dsimp only at hSw); go_simp; (try (with_reducible rfl))
            try simp only [Act.put, List.setIfInBounds_toArray, List.set_cons_zero, List.set_cons_succ]
            refine wpAnyH_take (i := 4) (oi := { dst := some 46, op := Op.fieldAddr 65 (Operand.tmp 45) 2, type := 0, pos := "l13_sieve.go:77", after := #[{ on := 3, ground := Ground.data }, { on := 6, ground := Ground.gcOnly Departure.lateStores }], guard := none }) (v := ?v26) rfl (by kernel_rfl) (by kernel_rfl) (by kernel_rfl) (fun _ _ _ h => h) (Or.inl ⟨by rfl, ?y26⟩) (by assumption) ?r26
            case y26 => intro w_ hSw; (try dsimp only at hSw); go_simp; (try (with_reducible rfl))
            try simp only [Act.put, List.setIfInBounds_toArray, List.set_cons_zero, List.set_cons_succ]
            refine wpAnyH_take (i := 5) (oi := { dst := some 47, op := Op.load 3 (Operand.tmp 46), type := 3, pos := "l13_sieve.go:77", after := #[{ on := 4, ground := Ground.data }, { on := 6, ground := Ground.gcOnly Departure.lateStores }], guard := none }) (v := ?v27) rfl (by kernel_rfl) (by kernel_rfl) (by kernel_rfl) (fun _ _ _ h => h) (Or.inl ⟨by rfl, ?y27⟩) (by assumption) ?r27
            case y27 => intro w_ hSw; (try dsimp only at hSw); go_simp; (try (with_reducible rfl))
            try simp only [Act.put, List.setIfInBounds_toArray, List.set_cons_zero, List.set_cons_succ]
            refine wpAnyH_ready (rs := [6]) (by kernel_rfl) (by simp) ?_
            refine AllReadyH.cons (o := { dst := none, op := Op.store 46 (Operand.tmp 4) (Operand.tmp 42), type := 0, pos := "l13_sieve.go:77", after := #[{ on := 0, ground := Ground.data }, { on := 0, ground := Ground.phase }, { on := 1, ground := Ground.textOnly Departure.lateStores }, { on := 2, ground := Ground.textOnly Departure.lateStores }, { on := 3, ground := Ground.textOnly Departure.lateStores }, { on := 4, ground := Ground.textOnly Departure.lateStores }, { on := 5, ground := Ground.textOnly Departure.lateStores }], guard := none }) rfl (fun K hK => ?k28) AllReadyH.nil
            case k28 =>
              have zF1 := blk_lt F1.out
              have cF1_0 : V0.cell? ⟨w.heap.size + 1, 0, none⟩ = some (.string ⟨#[]⟩) := by have := F1.out; simp [World.cell?, this]
              have dF1_0 : V0.frozen? ⟨w.heap.size + 1, 0, none⟩ = false := by have := F1.out; simp [World.frozen?, this]
              have cF1_1 : V0.cell? ⟨w.heap.size + 1, 1, none⟩ = some (.string ⟨#[]⟩) := by have := F1.out; simp [World.cell?, this]
              have dF1_1 : V0.frozen? ⟨w.heap.size + 1, 1, none⟩ = false := by have := F1.out; simp [World.frozen?, this]
              have cF1_2 : V0.cell? ⟨w.heap.size + 1, 2, none⟩ = some (.slice none 0 0) := by have := F1.out; simp [World.cell?, this]
              have dF1_2 : V0.frozen? ⟨w.heap.size + 1, 2, none⟩ = false := by have := F1.out; simp [World.frozen?, this]
              have cF1_3 : V0.cell? ⟨w.heap.size + 1, 3, none⟩ = some (.slice none 0 0) := by have := F1.out; simp [World.cell?, this]
              have dF1_3 : V0.frozen? ⟨w.heap.size + 1, 3, none⟩ = false := by have := F1.out; simp [World.frozen?, this]
              go_simp
              generalize hWV6 : World.setCell (World.setCell (World.setCell (World.setCell (V0) _ _) _ _) _ _) _ _ = V6
              have ltF0 := blk_lt F0.out
              have ltF1 := blk_lt F1.out
              have ltF2 := blk_lt F2.out
              have ltb := HB.out.size
              have ltl := HL.out
              have TT : ∀ k, k < V0.heap.size → k ≠ w.heap.size + 1 → V6.heap[k]? = V0.heap[k]? := fun k hk n_F1 => by rw [← hWV6]; (with_reducible repeat (first | rfl | refine hp_set ?_ ?_ | refine hp_alloc ?_ ?_ | refine hp_drew ?_)); all_goals (first | (with_reducible rfl) | omega | (dsimp only; omega) | (simp; omega))
              have TS : V0.heap.size + 0 ≤ V6.heap.size := by rw [← hWV6]; simp
              have nF0 : V6.heap[w.heap.size]? = some (.cells #[.string x.f0.f0, .string x.f0.f1, .slice A0 x.f1.length c0, .slice A1 x.f2.length c1] 46 (0, 0)) := (TT _ ltF0 (by omega)).trans F0.out
              have nF1 : V6.heap[w.heap.size + 1]? = some (.cells #[.string x.f0.f0, .string x.f0.f1, .slice B0 x.f1.length d0, .slice B1 x.f2.length d1] 46 (0, 0)) := by rw [← hWV6]; have h := blk_set1 (blk_set1 (blk_set1 (blk_set1 (F1.out) 0 (.string x.f0.f0)) 1 (.string x.f0.f1)) 2 (.slice B0 x.f1.length d0)) 3 (.slice B1 x.f2.length d1); simpa using h
              have nF2 : V6.heap[w3.heap.size]? = some (.cells #[.string x.f0.f0, .string x.f0.f1, .slice B0 x.f1.length d0, .slice B1 x.f2.length d1] 46 (0, 0)) := (TT _ ltF2 (by omega)).trans F2.out
              have nU0 : Kd.R kAddr 33 V6 w.heap.size (fun _ => True) (.slice B0 x.f1.length d0) x.f1 := R_keepT U0.out rfl (fun k hk ho => TT k hk (fun e => Kd.R_ne U0.out F1.out (by decide) (e ▸ ho)))
              have nU1 : Kd.R Kd.string 9 V6 w.heap.size (fun _ => True) (.slice B1 x.f2.length d1) x.f2 := R_keepT U1.out rfl (fun k hk ho => TT k hk (fun e => Kd.R_ne U1.out F1.out (by decide) (e ▸ ho)))
              have nHB : Below w.heap.size w V6 := by rw [← hWV6]; exact bel_set (bel_set (bel_set (bel_set (HB.out) _ (by show w.heap.size ≤ w.heap.size + 1; first | omega | (simp; omega))) _ (by show w.heap.size ≤ w.heap.size + 1; first | omega | (simp; omega))) _ (by show w.heap.size ≤ w.heap.size + 1; first | omega | (simp; omega))) _ (by show w.heap.size ≤ w.heap.size + 1; first | omega | (simp; omega))
              clear zF1 cF1_0 dF1_0 cF1_1 dF1_1 cF1_2 dF1_2 cF1_3 dF1_3
              clear hWV6 F0 F1 F2 HB U0 U1
              have F0 := Aside0.mk nF0
              clear nF0
              have F1 := Aside0.mk nF1
              clear nF1
              have F2 := Aside0.mk nF2
              clear nF2
              have U0 := Aside0.mk nU0
              clear nU0
              have U1 := Aside0.mk nU1
              clear nU1
              have HB := Aside0.mk nHB
              clear nHB
              replace HL := Aside0.mk (Nat.le_trans HL.out (by omega : V0.heap.size ≤ V6.heap.size))
              clear TT TS ltF0 ltF1 ltF2 ltb ltl
              clear p0 p1 p2 p3 p4
              obtain ⟨ad2, e2, p0, p1, p2, p3, p4⟩ := at_Rule (Kd.C_below hr HB.out) k hk
              obtain rfl : ad = ad2 := by injection e2
              rw [HY.out] at p0 p1 p2 p3 p4
              have zF2 := blk_lt F2.out
              have cF2_0 : V6.cell? ⟨w3.heap.size, 0, none⟩ = some (.string x.f0.f0) := by have := F2.out; simp [World.cell?, this]
              have cF2_1 : V6.cell? ⟨w3.heap.size, 1, none⟩ = some (.string x.f0.f1) := by have := F2.out; simp [World.cell?, this]
              have cF2_2 : V6.cell? ⟨w3.heap.size, 2, none⟩ = some (.slice B0 x.f1.length d0) := by have := F2.out; simp [World.cell?, this]
              have cF2_3 : V6.cell? ⟨w3.heap.size, 3, none⟩ = some (.slice B1 x.f2.length d1) := by have := F2.out; simp [World.cell?, this]
              refine hK.out _ _ ?h29 (fun hHeld => ?j29)
              case h29 => exact ⟨cF2_0, cF2_1, cF2_2, cF2_3, p2⟩
              clear hK K
              try simp only [Act.put, List.setIfInBounds_toArray, List.set_cons_zero, List.set_cons_succ]
              refine wpAnyH_take (i := 7) (oi := { dst := some 5, op := Op.assign (Operand.tmp 47), type := 3, pos := "l13_sieve.go:77", after := #[{ on := 5, ground := Ground.data }, { on := 6, ground := Ground.chain }, { on := 0, ground := Ground.phase }, { on := 1, ground := Ground.phase }, { on := 2, ground := Ground.phase }, { on := 3, ground := Ground.phase }, { on := 4, ground := Ground.phase }, { on := 5, ground := Ground.phase }, { on := 6, ground := Ground.phase }], guard := none }) (v := ?v30) rfl (by kernel_rfl) (by kernel_rfl) (by kernel_rfl) (fun _ _ _ h => h) (Or.inl ⟨by rfl, ?y30⟩) (by assumption) ?r30
              case y30 => intro w_ hSw; (try dsimp only at hSw); go_simp; (try (with_reducible rfl))
              try simp only [Act.put, List.setIfInBounds_toArray, List.set_cons_zero, List.set_cons_succ]
              refine wpAnyH_done (by kernel_rfl) ?_ _
              go_wp2
              have zF1 := blk_lt F1.out
              have cF1_0 : V6.cell? ⟨w.heap.size + 1, 0, none⟩ = some (.string x.f0.f0) := by have := F1.out; simp [World.cell?, this]
              have dF1_0 : V6.frozen? ⟨w.heap.size + 1, 0, none⟩ = false := by have := F1.out; simp [World.frozen?, this]
              have cF1_1 : V6.cell? ⟨w.heap.size + 1, 1, none⟩ = some (.string x.f0.f1) := by have := F1.out; simp [World.cell?, this]
              have dF1_1 : V6.frozen? ⟨w.heap.size + 1, 1, none⟩ = false := by have := F1.out; simp [World.frozen?, this]
              have cF1_2 : V6.cell? ⟨w.heap.size + 1, 2, none⟩ = some (.slice B0 x.f1.length d0) := by have := F1.out; simp [World.cell?, this]
              have dF1_2 : V6.frozen? ⟨w.heap.size + 1, 2, none⟩ = false := by have := F1.out; simp [World.frozen?, this]
              have cF1_3 : V6.cell? ⟨w.heap.size + 1, 3, none⟩ = some (.slice B1 x.f2.length d1) := by have := F1.out; simp [World.cell?, this]
              have dF1_3 : V6.frozen? ⟨w.heap.size + 1, 3, none⟩ = false := by have := F1.out; simp [World.frozen?, this]
              refine bodyPost_ret (v := .tuple #[.agg #[.string x.f0.f0, .string x.f0.f1, .slice B0 x.f1.length d0, .slice B1 x.f2.length d1], .int .i64 1]) ?hrF rfl ?hpF
              case hrF => simp [results, Tryd.results20, go_sem, zF2, cF2_0, cF2_1, cF2_2, cF2_3, zF1, cF1_0, dF1_0, cF1_1, dF1_1, cF1_2, dF1_2, cF1_3, dF1_3]
              case hpF => rw [HE.out]; exact ⟨B0, d0, B1, d1, rfl, U0.out, U1.out, (by (with_reducible repeat (first | exact HB.out | refine bel_set ?_ _ ?_ | refine blw_drewN ?_ _ | refine Below.drew ?_ | refine bel_alloc ?_ _)); all_goals ((try dsimp only); omega))⟩

end Go.Proofs.YtmfehmbgghfffaaDoor

/- SieveDo of the reference: a contract. -/
namespace Go.Proofs.YtmfehmbgghfffaaDoor
open Go.RowKit Go.Proofs.YtmfehmbgghfffaaDoorW.PrintWords
set_option linter.unusedVariables false
set_option linter.unusedSimpArgs false

theorem rule_same {xs : List SRule} {x : SMail} (h : sieveOk xs = true) (hm : mailOkS x = true) : idx (asksS x.f0.f0.data.toList x.f0.f1.data.toList x.f2) xs = sieveK xs x := by
  have e := for_same xs x.f0.f0.data.toList x.f0.f1.data.toList x.f1 x.f2
  have hm' : mailOk x.f0.f0.data.toList x.f0.f1.data.toList x.f1 x.f2 = true := hm
  unfold specFor at e
  rw [h, hm'] at e
  exact e
set_option maxRecDepth 100000 in
set_option maxHeartbeats 4000000 in
theorem specDo_any (A : Option Addr) (c : Nat) (xs : List SRule) (x : SMail) (A0 : Option Addr) (c0 : Nat) (A1 : Option Addr) (c1 : Nat) (w : World) (hr : Kd.C kRule w A xs.length xs) (hl : xs.length ≤ 1048576) (hx : ∀ y ∈ xs, RFit y) (hw : fitMail x) (hr0 : Kd.C kAddr w A0 x.f1.length x.f1) (hr1 : Kd.C Kd.string w A1 x.f2.length x.f2) :
    Calls Tryd.prog 29 #[.slice A xs.length c, .agg #[.string x.f0.f0, .string x.f0.f1, .slice A0 x.f1.length c0, .slice A1 x.f2.length c1]] w fun e w' => ∃ B0 d0 B1 d1, e = .returned (.tuple #[.agg #[.string (sieveDo xs x).1.f0.f0, .string (sieveDo xs x).1.f0.f1, .slice B0 (sieveDo xs x).1.f1.length d0, .slice B1 (sieveDo xs x).1.f2.length d1], .int .i64 (sieveDo xs x).2]) ∧ Kd.R kAddr 33 w' w.heap.size (fun _ => True) (.slice B0 (sieveDo xs x).1.f1.length d0) (sieveDo xs x).1.f1 ∧ Kd.R Kd.string 9 w' w.heap.size (fun _ => True) (.slice B1 (sieveDo xs x).1.f2.length d1) (sieveDo xs x).1.f2 ∧ Below w.heap.size w w' := by
  have hw' := hw
  obtain ⟨⟨hu, hd⟩, ⟨ht0, ht1⟩, hb0, hb1⟩ := hw'
  have hBo := bfit_of ⟨hb0, hb1⟩
  have hok := fun W (hW : Below w.heap.size w W) => specOk13_any A c xs W (Kd.C_below hr hW) hl hx
  have hmok := fun W (hW : Below w.heap.size w W) => specMail_any x A0 c0 A1 c1 W hw (Kd.C_below hr0 hW) (Kd.C_below hr1 hW)
  have hcp := fun W (hW : Below w.heap.size w W) => specCopy_any x A0 c0 A1 c1 W hw (Kd.C_below hr0 hW) (Kd.C_below hr1 hW)
  have hfor := fun W (hW : Below w.heap.size w W) => l13Rule_any A c xs x.f0.f0 x.f0.f1 A1 c1 x.f2 W (Kd.C_below hr hW) (by omega) hx (by omega) (Kd.C_below hr1 hW) hBo
  clear hu hd ht0 ht1 hb0 hb1 hBo hw hr0 hr1 hx
  cases hq1 : sieveOk xs
  · have he := (do_bad (xs := xs) (x := x) (by rw [hq1]; rfl)).1
    rw [he]
    rw [hq1] at hok
    clear he hmok hcp hfor hq1
    go_enter Tryd.func29, Tryd.ntmps29
    go_wp2_with fail
    obtain ⟨W0, hW0⟩ : ∃ W, W = ((w.alloc (.cells #[.string x.f0.f0, .string x.f0.f1, .slice A0 x.f1.length c0, .slice A1 x.f2.length c1] 46)).alloc (.cells #[.string ⟨#[]⟩, .string ⟨#[]⟩, .slice none 0 0, .slice none 0 0] 46)) := ⟨_, rfl⟩
    rw [← hW0]
    have HB : Aside0 (Below w.heap.size w W0) := ⟨by rw [hW0]; exact (bel_alloc (bel_alloc (Below.refl _ _) _) _)⟩
    have F0 : Aside0 (W0.heap[w.heap.size]? = some (.cells #[.string x.f0.f0, .string x.f0.f1, .slice A0 x.f1.length c0, .slice A1 x.f2.length c1] 46 (0, 0))) := ⟨by rw [hW0]; exact blk_alloc (blk_at _ _ (by first | rfl | (simp; done))) _⟩
    have F1 : Aside0 (W0.heap[w.heap.size + 1]? = some (.cells #[.string ⟨#[]⟩, .string ⟨#[]⟩, .slice none 0 0, .slice none 0 0] 46 (0, 0))) := ⟨by rw [hW0]; exact blk_at _ _ (by simp)⟩
    have HL : Aside0 (w.heap.size + 2 ≤ W0.heap.size) := ⟨by rw [hW0]; simp⟩
    clear hW0
    refine Calls.mono (hok _ HB.out) ?_
    rintro e w1 ⟨rfl, bw1⟩
    replace F0 := Aside0.mk (below_blk F0.out bw1)
    replace F1 := Aside0.mk (below_blk F1.out bw1)
    replace HB := Aside0.mk (bel_then HB.out bw1)
    replace HL := Aside0.mk (Nat.le_trans HL.out bw1.size)
    clear bw1
    have zF0 := blk_lt F0.out
    have cF0_0 : w1.cell? ⟨w.heap.size, 0, none⟩ = some (.string x.f0.f0) := by have := F0.out; simp [World.cell?, this]
    have cF0_1 : w1.cell? ⟨w.heap.size, 1, none⟩ = some (.string x.f0.f1) := by have := F0.out; simp [World.cell?, this]
    have cF0_2 : w1.cell? ⟨w.heap.size, 2, none⟩ = some (.slice A0 x.f1.length c0) := by have := F0.out; simp [World.cell?, this]
    have cF0_3 : w1.cell? ⟨w.heap.size, 3, none⟩ = some (.slice A1 x.f2.length c1) := by have := F0.out; simp [World.cell?, this]
    have zF1 := blk_lt F1.out
    have cF1_0 : w1.cell? ⟨w.heap.size + 1, 0, none⟩ = some (.string ⟨#[]⟩) := by have := F1.out; simp [World.cell?, this]
    have dF1_0 : w1.frozen? ⟨w.heap.size + 1, 0, none⟩ = false := by have := F1.out; simp [World.frozen?, this]
    have cF1_1 : w1.cell? ⟨w.heap.size + 1, 1, none⟩ = some (.string ⟨#[]⟩) := by have := F1.out; simp [World.cell?, this]
    have dF1_1 : w1.frozen? ⟨w.heap.size + 1, 1, none⟩ = false := by have := F1.out; simp [World.frozen?, this]
    have cF1_2 : w1.cell? ⟨w.heap.size + 1, 2, none⟩ = some (.slice none 0 0) := by have := F1.out; simp [World.cell?, this]
    have dF1_2 : w1.frozen? ⟨w.heap.size + 1, 2, none⟩ = false := by have := F1.out; simp [World.frozen?, this]
    have cF1_3 : w1.cell? ⟨w.heap.size + 1, 3, none⟩ = some (.slice none 0 0) := by have := F1.out; simp [World.cell?, this]
    have dF1_3 : w1.frozen? ⟨w.heap.size + 1, 3, none⟩ = false := by have := F1.out; simp [World.frozen?, this]
    go_wp2
    refine bodyPost_ret (v := .tuple #[.agg #[.string ⟨#[]⟩, .string ⟨#[]⟩, .slice none 0 0, .slice none 0 0], .int .i64 (-1)]) ?hrA rfl ?hpA
    case hrA => simp [results, Tryd.results29, go_sem, zF0, cF0_0, cF0_1, cF0_2, cF0_3, zF1, cF1_0, dF1_0, cF1_1, dF1_1, cF1_2, dF1_2, cF1_3, dF1_3]
    case hpA => exact ⟨none, 0, none, 0, rfl, (Kd.R_nil _ _ _ _ _), (Kd.R_nil _ _ _ _ _), (by (with_reducible repeat (first | exact HB.out | refine bel_set ?_ _ ?_ | refine blw_drewN ?_ _ | refine Below.drew ?_ | refine bel_alloc ?_ _)); all_goals ((try dsimp only); omega))⟩
  · cases hq2 : mailOkS x
    · have he := (do_bad (xs := xs) (x := x) (by rw [hq1, hq2]; rfl)).1
      rw [he]
      rw [hq1] at hok
      rw [hq2] at hmok
      clear he hcp hfor hq1 hq2
      go_enter Tryd.func29, Tryd.ntmps29
      go_wp2_with fail
      obtain ⟨W0, hW0⟩ : ∃ W, W = ((w.alloc (.cells #[.string x.f0.f0, .string x.f0.f1, .slice A0 x.f1.length c0, .slice A1 x.f2.length c1] 46)).alloc (.cells #[.string ⟨#[]⟩, .string ⟨#[]⟩, .slice none 0 0, .slice none 0 0] 46)) := ⟨_, rfl⟩
      rw [← hW0]
      have HB : Aside0 (Below w.heap.size w W0) := ⟨by rw [hW0]; exact (bel_alloc (bel_alloc (Below.refl _ _) _) _)⟩
      have F0 : Aside0 (W0.heap[w.heap.size]? = some (.cells #[.string x.f0.f0, .string x.f0.f1, .slice A0 x.f1.length c0, .slice A1 x.f2.length c1] 46 (0, 0))) := ⟨by rw [hW0]; exact blk_alloc (blk_at _ _ (by first | rfl | (simp; done))) _⟩
      have F1 : Aside0 (W0.heap[w.heap.size + 1]? = some (.cells #[.string ⟨#[]⟩, .string ⟨#[]⟩, .slice none 0 0, .slice none 0 0] 46 (0, 0))) := ⟨by rw [hW0]; exact blk_at _ _ (by simp)⟩
      have HL : Aside0 (w.heap.size + 2 ≤ W0.heap.size) := ⟨by rw [hW0]; simp⟩
      clear hW0
      refine Calls.mono (hok _ HB.out) ?_
      rintro e w1 ⟨rfl, bw1⟩
      replace F0 := Aside0.mk (below_blk F0.out bw1)
      replace F1 := Aside0.mk (below_blk F1.out bw1)
      replace HB := Aside0.mk (bel_then HB.out bw1)
      replace HL := Aside0.mk (Nat.le_trans HL.out bw1.size)
      clear bw1
      have zF0 := blk_lt F0.out
      have cF0_0 : w1.cell? ⟨w.heap.size, 0, none⟩ = some (.string x.f0.f0) := by have := F0.out; simp [World.cell?, this]
      have cF0_1 : w1.cell? ⟨w.heap.size, 1, none⟩ = some (.string x.f0.f1) := by have := F0.out; simp [World.cell?, this]
      have cF0_2 : w1.cell? ⟨w.heap.size, 2, none⟩ = some (.slice A0 x.f1.length c0) := by have := F0.out; simp [World.cell?, this]
      have cF0_3 : w1.cell? ⟨w.heap.size, 3, none⟩ = some (.slice A1 x.f2.length c1) := by have := F0.out; simp [World.cell?, this]
      have zF1 := blk_lt F1.out
      have cF1_0 : w1.cell? ⟨w.heap.size + 1, 0, none⟩ = some (.string ⟨#[]⟩) := by have := F1.out; simp [World.cell?, this]
      have dF1_0 : w1.frozen? ⟨w.heap.size + 1, 0, none⟩ = false := by have := F1.out; simp [World.frozen?, this]
      have cF1_1 : w1.cell? ⟨w.heap.size + 1, 1, none⟩ = some (.string ⟨#[]⟩) := by have := F1.out; simp [World.cell?, this]
      have dF1_1 : w1.frozen? ⟨w.heap.size + 1, 1, none⟩ = false := by have := F1.out; simp [World.frozen?, this]
      have cF1_2 : w1.cell? ⟨w.heap.size + 1, 2, none⟩ = some (.slice none 0 0) := by have := F1.out; simp [World.cell?, this]
      have dF1_2 : w1.frozen? ⟨w.heap.size + 1, 2, none⟩ = false := by have := F1.out; simp [World.frozen?, this]
      have cF1_3 : w1.cell? ⟨w.heap.size + 1, 3, none⟩ = some (.slice none 0 0) := by have := F1.out; simp [World.cell?, this]
      have dF1_3 : w1.frozen? ⟨w.heap.size + 1, 3, none⟩ = false := by have := F1.out; simp [World.frozen?, this]
      go_wp2_with fail
      refine Calls.mono (hmok _ HB.out) ?_
      rintro e w2 ⟨rfl, bw2⟩
      clear zF0 cF0_0 cF0_1 cF0_2 cF0_3 zF1 cF1_0 dF1_0 cF1_1 dF1_1 cF1_2 dF1_2 cF1_3 dF1_3
      replace F0 := Aside0.mk (below_blk F0.out bw2)
      replace F1 := Aside0.mk (below_blk F1.out bw2)
      replace HB := Aside0.mk (bel_then HB.out bw2)
      replace HL := Aside0.mk (Nat.le_trans HL.out bw2.size)
      clear bw2
      have zF0 := blk_lt F0.out
      have cF0_0 : w2.cell? ⟨w.heap.size, 0, none⟩ = some (.string x.f0.f0) := by have := F0.out; simp [World.cell?, this]
      have cF0_1 : w2.cell? ⟨w.heap.size, 1, none⟩ = some (.string x.f0.f1) := by have := F0.out; simp [World.cell?, this]
      have cF0_2 : w2.cell? ⟨w.heap.size, 2, none⟩ = some (.slice A0 x.f1.length c0) := by have := F0.out; simp [World.cell?, this]
      have cF0_3 : w2.cell? ⟨w.heap.size, 3, none⟩ = some (.slice A1 x.f2.length c1) := by have := F0.out; simp [World.cell?, this]
      have zF1 := blk_lt F1.out
      have cF1_0 : w2.cell? ⟨w.heap.size + 1, 0, none⟩ = some (.string ⟨#[]⟩) := by have := F1.out; simp [World.cell?, this]
      have dF1_0 : w2.frozen? ⟨w.heap.size + 1, 0, none⟩ = false := by have := F1.out; simp [World.frozen?, this]
      have cF1_1 : w2.cell? ⟨w.heap.size + 1, 1, none⟩ = some (.string ⟨#[]⟩) := by have := F1.out; simp [World.cell?, this]
      have dF1_1 : w2.frozen? ⟨w.heap.size + 1, 1, none⟩ = false := by have := F1.out; simp [World.frozen?, this]
      have cF1_2 : w2.cell? ⟨w.heap.size + 1, 2, none⟩ = some (.slice none 0 0) := by have := F1.out; simp [World.cell?, this]
      have dF1_2 : w2.frozen? ⟨w.heap.size + 1, 2, none⟩ = false := by have := F1.out; simp [World.frozen?, this]
      have cF1_3 : w2.cell? ⟨w.heap.size + 1, 3, none⟩ = some (.slice none 0 0) := by have := F1.out; simp [World.cell?, this]
      have dF1_3 : w2.frozen? ⟨w.heap.size + 1, 3, none⟩ = false := by have := F1.out; simp [World.frozen?, this]
      go_wp2
      refine bodyPost_ret (v := .tuple #[.agg #[.string ⟨#[]⟩, .string ⟨#[]⟩, .slice none 0 0, .slice none 0 0], .int .i64 (-1)]) ?hrB rfl ?hpB
      case hrB => simp [results, Tryd.results29, go_sem, zF0, cF0_0, cF0_1, cF0_2, cF0_3, zF1, cF1_0, dF1_0, cF1_1, dF1_1, cF1_2, dF1_2, cF1_3, dF1_3]
      case hpB => exact ⟨none, 0, none, 0, rfl, (Kd.R_nil _ _ _ _ _), (Kd.R_nil _ _ _ _ _), (by (with_reducible repeat (first | exact HB.out | refine bel_set ?_ _ ?_ | refine blw_drewN ?_ _ | refine Below.drew ?_ | refine bel_alloc ?_ _)); all_goals ((try dsimp only); omega))⟩
    · rw [hq1] at hok
      rw [hq2] at hmok
      rw [rule_same hq1 hq2] at hfor
      go_enter Tryd.func29, Tryd.ntmps29
      go_wp2_with fail
      obtain ⟨W0, hW0⟩ : ∃ W, W = ((w.alloc (.cells #[.string x.f0.f0, .string x.f0.f1, .slice A0 x.f1.length c0, .slice A1 x.f2.length c1] 46)).alloc (.cells #[.string ⟨#[]⟩, .string ⟨#[]⟩, .slice none 0 0, .slice none 0 0] 46)) := ⟨_, rfl⟩
      rw [← hW0]
      have HB : Aside0 (Below w.heap.size w W0) := ⟨by rw [hW0]; exact (bel_alloc (bel_alloc (Below.refl _ _) _) _)⟩
      have F0 : Aside0 (W0.heap[w.heap.size]? = some (.cells #[.string x.f0.f0, .string x.f0.f1, .slice A0 x.f1.length c0, .slice A1 x.f2.length c1] 46 (0, 0))) := ⟨by rw [hW0]; exact blk_alloc (blk_at _ _ (by first | rfl | (simp; done))) _⟩
      have F1 : Aside0 (W0.heap[w.heap.size + 1]? = some (.cells #[.string ⟨#[]⟩, .string ⟨#[]⟩, .slice none 0 0, .slice none 0 0] 46 (0, 0))) := ⟨by rw [hW0]; exact blk_at _ _ (by simp)⟩
      have HL : Aside0 (w.heap.size + 2 ≤ W0.heap.size) := ⟨by rw [hW0]; simp⟩
      clear hW0
      refine Calls.mono (hok _ HB.out) ?_
      rintro e w1 ⟨rfl, bw1⟩
      replace F0 := Aside0.mk (below_blk F0.out bw1)
      replace F1 := Aside0.mk (below_blk F1.out bw1)
      replace HB := Aside0.mk (bel_then HB.out bw1)
      replace HL := Aside0.mk (Nat.le_trans HL.out bw1.size)
      clear bw1
      have zF0 := blk_lt F0.out
      have cF0_0 : w1.cell? ⟨w.heap.size, 0, none⟩ = some (.string x.f0.f0) := by have := F0.out; simp [World.cell?, this]
      have cF0_1 : w1.cell? ⟨w.heap.size, 1, none⟩ = some (.string x.f0.f1) := by have := F0.out; simp [World.cell?, this]
      have cF0_2 : w1.cell? ⟨w.heap.size, 2, none⟩ = some (.slice A0 x.f1.length c0) := by have := F0.out; simp [World.cell?, this]
      have cF0_3 : w1.cell? ⟨w.heap.size, 3, none⟩ = some (.slice A1 x.f2.length c1) := by have := F0.out; simp [World.cell?, this]
      have zF1 := blk_lt F1.out
      have cF1_0 : w1.cell? ⟨w.heap.size + 1, 0, none⟩ = some (.string ⟨#[]⟩) := by have := F1.out; simp [World.cell?, this]
      have dF1_0 : w1.frozen? ⟨w.heap.size + 1, 0, none⟩ = false := by have := F1.out; simp [World.frozen?, this]
      have cF1_1 : w1.cell? ⟨w.heap.size + 1, 1, none⟩ = some (.string ⟨#[]⟩) := by have := F1.out; simp [World.cell?, this]
      have dF1_1 : w1.frozen? ⟨w.heap.size + 1, 1, none⟩ = false := by have := F1.out; simp [World.frozen?, this]
      have cF1_2 : w1.cell? ⟨w.heap.size + 1, 2, none⟩ = some (.slice none 0 0) := by have := F1.out; simp [World.cell?, this]
      have dF1_2 : w1.frozen? ⟨w.heap.size + 1, 2, none⟩ = false := by have := F1.out; simp [World.frozen?, this]
      have cF1_3 : w1.cell? ⟨w.heap.size + 1, 3, none⟩ = some (.slice none 0 0) := by have := F1.out; simp [World.cell?, this]
      have dF1_3 : w1.frozen? ⟨w.heap.size + 1, 3, none⟩ = false := by have := F1.out; simp [World.frozen?, this]
      go_wp2_with fail
      refine Calls.mono (hmok _ HB.out) ?_
      rintro e w2 ⟨rfl, bw2⟩
      clear zF0 cF0_0 cF0_1 cF0_2 cF0_3 zF1 cF1_0 dF1_0 cF1_1 dF1_1 cF1_2 dF1_2 cF1_3 dF1_3
      replace F0 := Aside0.mk (below_blk F0.out bw2)
      replace F1 := Aside0.mk (below_blk F1.out bw2)
      replace HB := Aside0.mk (bel_then HB.out bw2)
      replace HL := Aside0.mk (Nat.le_trans HL.out bw2.size)
      clear bw2
      have zF0 := blk_lt F0.out
      have cF0_0 : w2.cell? ⟨w.heap.size, 0, none⟩ = some (.string x.f0.f0) := by have := F0.out; simp [World.cell?, this]
      have cF0_1 : w2.cell? ⟨w.heap.size, 1, none⟩ = some (.string x.f0.f1) := by have := F0.out; simp [World.cell?, this]
      have cF0_2 : w2.cell? ⟨w.heap.size, 2, none⟩ = some (.slice A0 x.f1.length c0) := by have := F0.out; simp [World.cell?, this]
      have cF0_3 : w2.cell? ⟨w.heap.size, 3, none⟩ = some (.slice A1 x.f2.length c1) := by have := F0.out; simp [World.cell?, this]
      have zF1 := blk_lt F1.out
      have cF1_0 : w2.cell? ⟨w.heap.size + 1, 0, none⟩ = some (.string ⟨#[]⟩) := by have := F1.out; simp [World.cell?, this]
      have dF1_0 : w2.frozen? ⟨w.heap.size + 1, 0, none⟩ = false := by have := F1.out; simp [World.frozen?, this]
      have cF1_1 : w2.cell? ⟨w.heap.size + 1, 1, none⟩ = some (.string ⟨#[]⟩) := by have := F1.out; simp [World.cell?, this]
      have dF1_1 : w2.frozen? ⟨w.heap.size + 1, 1, none⟩ = false := by have := F1.out; simp [World.frozen?, this]
      have cF1_2 : w2.cell? ⟨w.heap.size + 1, 2, none⟩ = some (.slice none 0 0) := by have := F1.out; simp [World.cell?, this]
      have dF1_2 : w2.frozen? ⟨w.heap.size + 1, 2, none⟩ = false := by have := F1.out; simp [World.frozen?, this]
      have cF1_3 : w2.cell? ⟨w.heap.size + 1, 3, none⟩ = some (.slice none 0 0) := by have := F1.out; simp [World.cell?, this]
      have dF1_3 : w2.frozen? ⟨w.heap.size + 1, 3, none⟩ = false := by have := F1.out; simp [World.frozen?, this]
      go_wp2_with fail
      refine Calls.mono (hfor _ HB.out) ?_
      rintro e w3 ⟨rfl, bw3⟩
      clear zF0 cF0_0 cF0_1 cF0_2 cF0_3 zF1 cF1_0 dF1_0 cF1_1 dF1_1 cF1_2 dF1_2 cF1_3 dF1_3
      replace F0 := Aside0.mk (below_blk F0.out bw3)
      replace F1 := Aside0.mk (below_blk F1.out bw3)
      replace HB := Aside0.mk (bel_then HB.out bw3)
      replace HL := Aside0.mk (Nat.le_trans HL.out bw3.size)
      clear bw3
      have zF0 := blk_lt F0.out
      have cF0_0 : w3.cell? ⟨w.heap.size, 0, none⟩ = some (.string x.f0.f0) := by have := F0.out; simp [World.cell?, this]
      have cF0_1 : w3.cell? ⟨w.heap.size, 1, none⟩ = some (.string x.f0.f1) := by have := F0.out; simp [World.cell?, this]
      have cF0_2 : w3.cell? ⟨w.heap.size, 2, none⟩ = some (.slice A0 x.f1.length c0) := by have := F0.out; simp [World.cell?, this]
      have cF0_3 : w3.cell? ⟨w.heap.size, 3, none⟩ = some (.slice A1 x.f2.length c1) := by have := F0.out; simp [World.cell?, this]
      have zF1 := blk_lt F1.out
      have cF1_0 : w3.cell? ⟨w.heap.size + 1, 0, none⟩ = some (.string ⟨#[]⟩) := by have := F1.out; simp [World.cell?, this]
      have dF1_0 : w3.frozen? ⟨w.heap.size + 1, 0, none⟩ = false := by have := F1.out; simp [World.frozen?, this]
      have cF1_1 : w3.cell? ⟨w.heap.size + 1, 1, none⟩ = some (.string ⟨#[]⟩) := by have := F1.out; simp [World.cell?, this]
      have dF1_1 : w3.frozen? ⟨w.heap.size + 1, 1, none⟩ = false := by have := F1.out; simp [World.frozen?, this]
      have cF1_2 : w3.cell? ⟨w.heap.size + 1, 2, none⟩ = some (.slice none 0 0) := by have := F1.out; simp [World.cell?, this]
      have dF1_2 : w3.frozen? ⟨w.heap.size + 1, 2, none⟩ = false := by have := F1.out; simp [World.frozen?, this]
      have cF1_3 : w3.cell? ⟨w.heap.size + 1, 3, none⟩ = some (.slice none 0 0) := by have := F1.out; simp [World.cell?, this]
      have dF1_3 : w3.frozen? ⟨w.heap.size + 1, 3, none⟩ = false := by have := F1.out; simp [World.frozen?, this]
      go_wp2_with fail
      refine Calls.mono (hcp _ HB.out) ?_
      rintro e w4 ⟨B0, d0, B1, d1, rfl, rU0, rU1, bw4⟩
      clear zF0 cF0_0 cF0_1 cF0_2 cF0_3 zF1 cF1_0 dF1_0 cF1_1 dF1_1 cF1_2 dF1_2 cF1_3 dF1_3
      replace F0 := Aside0.mk (below_blk F0.out bw4)
      replace F1 := Aside0.mk (below_blk F1.out bw4)
      have U0 : Aside0 (Kd.R kAddr 33 w4 w.heap.size (fun _ => True) (.slice B0 x.f1.length d0) x.f1) := ⟨Kd.R_lower (base' := w.heap.size) rU0 HB.out.size⟩
      clear rU0
      have U1 : Aside0 (Kd.R Kd.string 9 w4 w.heap.size (fun _ => True) (.slice B1 x.f2.length d1) x.f2) := ⟨Kd.R_lower (base' := w.heap.size) rU1 HB.out.size⟩
      clear rU1
      replace HB := Aside0.mk (bel_then HB.out bw4)
      replace HL := Aside0.mk (Nat.le_trans HL.out bw4.size)
      clear bw4
      have zF0 := blk_lt F0.out
      have cF0_0 : w4.cell? ⟨w.heap.size, 0, none⟩ = some (.string x.f0.f0) := by have := F0.out; simp [World.cell?, this]
      have cF0_1 : w4.cell? ⟨w.heap.size, 1, none⟩ = some (.string x.f0.f1) := by have := F0.out; simp [World.cell?, this]
      have cF0_2 : w4.cell? ⟨w.heap.size, 2, none⟩ = some (.slice A0 x.f1.length c0) := by have := F0.out; simp [World.cell?, this]
      have cF0_3 : w4.cell? ⟨w.heap.size, 3, none⟩ = some (.slice A1 x.f2.length c1) := by have := F0.out; simp [World.cell?, this]
      have zF1 := blk_lt F1.out
      have cF1_0 : w4.cell? ⟨w.heap.size + 1, 0, none⟩ = some (.string ⟨#[]⟩) := by have := F1.out; simp [World.cell?, this]
      have dF1_0 : w4.frozen? ⟨w.heap.size + 1, 0, none⟩ = false := by have := F1.out; simp [World.frozen?, this]
      have cF1_1 : w4.cell? ⟨w.heap.size + 1, 1, none⟩ = some (.string ⟨#[]⟩) := by have := F1.out; simp [World.cell?, this]
      have dF1_1 : w4.frozen? ⟨w.heap.size + 1, 1, none⟩ = false := by have := F1.out; simp [World.frozen?, this]
      have cF1_2 : w4.cell? ⟨w.heap.size + 1, 2, none⟩ = some (.slice none 0 0) := by have := F1.out; simp [World.cell?, this]
      have dF1_2 : w4.frozen? ⟨w.heap.size + 1, 2, none⟩ = false := by have := F1.out; simp [World.frozen?, this]
      have cF1_3 : w4.cell? ⟨w.heap.size + 1, 3, none⟩ = some (.slice none 0 0) := by have := F1.out; simp [World.cell?, this]
      have dF1_3 : w4.frozen? ⟨w.heap.size + 1, 3, none⟩ = false := by have := F1.out; simp [World.frozen?, this]
      rcases do_cases hq1 hq2 with ⟨hK, he⟩ | ⟨k, hK, hk, he, h1, h3⟩
      · rw [hK]
        have HE := Lib.hid he
        clear hK he hq1 hq2 hok hmok hcp hfor
        have lt1 := blk_lt F1.out
        go_wp2
        refine bodyPost_ret (v := .tuple #[.agg #[.string x.f0.f0, .string x.f0.f1, .slice B0 x.f1.length d0, .slice B1 x.f2.length d1], .int .i64 1]) ?hrC rfl ?hpC
        case hrC => simp [results, Tryd.results29, go_sem, zF0, cF0_0, cF0_1, cF0_2, cF0_3, zF1, cF1_0, dF1_0, cF1_1, dF1_1, cF1_2, dF1_2, cF1_3, dF1_3]
        case hpC => rw [HE.out]; exact ⟨B0, d0, B1, d1, rfl, (by have ne_ := Kd.R_ne U0.out F1.out (by decide); have nn_ : ∀ k, some (w4.heap.size + k) ≠ _ := Kd.R_ne_new U0.out; (with_reducible repeat (first | exact U0.out | refine R_put1 ?_ rfl ne_ | refine R_put1 ?_ rfl (nn_ 0) | refine Kd.R_alloc ?_ _))), (by have ne_ := Kd.R_ne U1.out F1.out (by decide); have nn_ : ∀ k, some (w4.heap.size + k) ≠ _ := Kd.R_ne_new U1.out; (with_reducible repeat (first | exact U1.out | refine R_put1 ?_ rfl ne_ | refine R_put1 ?_ rfl (nn_ 0) | refine Kd.R_alloc ?_ _))), (by (with_reducible repeat (first | exact HB.out | refine bel_set ?_ _ ?_ | refine blw_drewN ?_ _ | refine Below.drew ?_ | refine bel_alloc ?_ _)); all_goals ((try dsimp only); omega))⟩
      · rw [hK]
        have HE := Lib.hid he
        clear hK he hq1 hq2 hok hmok hcp hfor
        have lt1 := blk_lt F1.out
        obtain ⟨ad, e1, p0, p1, p2, p3, p4⟩ := at_Rule (Kd.C_below hr HB.out) k hk
        subst e1
        have he2 := HE.out
        generalize hy : xs.getD k zRule = y at p0 p1 p2 p3 p4 h1 h3 he2
        replace HE := Lib.hid he2
        clear he2
        have lta : (ad.add (k * 5)).block < w4.heap.size := World.block_lt_of_cell? _ _ p0
        have ltb_ : ad.block < w4.heap.size := by rwa [addr_block] at lta
        have hk1 : ¬ ((k : Int) < 0) := by omega
        have hk2 : (k : Int) < (xs.length : Int) := by omega
        by_cases hd : y.f2 = 1
        · have q1 : (y.f2 == 1) = true := by simp [hd]
          have q2 : (y.f2 == 2) = false := by simp; omega
          replace HE := Lib.hid (HE.out.trans (show outM x (some y) = (x, 1) from by unfold outM; dsimp only; rw [if_neg (by omega), if_neg (by omega)]))
          clear hd
          go_wp2
          refine bodyPost_ret (v := .tuple #[.agg #[.string x.f0.f0, .string x.f0.f1, .slice B0 x.f1.length d0, .slice B1 x.f2.length d1], .int .i64 1]) ?hrD rfl ?hpD
          case hrD => simp [results, Tryd.results29, go_sem, zF0, cF0_0, cF0_1, cF0_2, cF0_3, zF1, cF1_0, dF1_0, cF1_1, dF1_1, cF1_2, dF1_2, cF1_3, dF1_3]
          case hpD => rw [HE.out]; exact ⟨B0, d0, B1, d1, rfl, (by have ne_ := Kd.R_ne U0.out F1.out (by decide); have nn_ : ∀ k, some (w4.heap.size + k) ≠ _ := Kd.R_ne_new U0.out; (with_reducible repeat (first | exact U0.out | refine R_put1 ?_ rfl ne_ | refine R_put1 ?_ rfl (nn_ 0) | refine Kd.R_alloc ?_ _))), (by have ne_ := Kd.R_ne U1.out F1.out (by decide); have nn_ : ∀ k, some (w4.heap.size + k) ≠ _ := Kd.R_ne_new U1.out; (with_reducible repeat (first | exact U1.out | refine R_put1 ?_ rfl ne_ | refine R_put1 ?_ rfl (nn_ 0) | refine Kd.R_alloc ?_ _))), (by (with_reducible repeat (first | exact HB.out | refine bel_set ?_ _ ?_ | refine blw_drewN ?_ _ | refine Below.drew ?_ | refine bel_alloc ?_ _)); all_goals ((try dsimp only); omega))⟩
        · have hd0 := hd
          by_cases hd2 : y.f2 = 2
          · have hd := hd2
            have q1 : (y.f2 == 1) = false := by simp; omega
            have q2 : (y.f2 == 2) = true := by simp [hd]
            replace HE := Lib.hid (HE.out.trans (show outM x (some y) = (zMail, 2) from by unfold outM; dsimp only; rw [if_pos hd]))
            clear hd hd2 hd0
            go_wp2
            refine bodyPost_ret (v := .tuple #[.agg #[.string ⟨#[]⟩, .string ⟨#[]⟩, .slice none 0 0, .slice none 0 0], .int .i64 2]) ?hrE rfl ?hpE
            case hrE => simp [results, Tryd.results29, go_sem, zF0, cF0_0, cF0_1, cF0_2, cF0_3, zF1, cF1_0, dF1_0, cF1_1, dF1_1, cF1_2, dF1_2, cF1_3, dF1_3]
            case hpE => rw [HE.out]; exact ⟨none, 0, none, 0, rfl, (Kd.R_nil _ _ _ _ _), (Kd.R_nil _ _ _ _ _), (by (with_reducible repeat (first | exact HB.out | refine bel_set ?_ _ ?_ | refine blw_drewN ?_ _ | refine Below.drew ?_ | refine bel_alloc ?_ _)); all_goals ((try dsimp only); omega))⟩
          · have hd : y.f2 = 3 := by omega
            have q1 : (y.f2 == 1) = false := by simp; omega
            have q2 : (y.f2 == 2) = false := by simp; omega
            replace HE := Lib.hid (HE.out.trans (show outM x (some y) = (⟨x.f0, [y.f3], x.f2⟩, 3) from by unfold outM; dsimp only; rw [if_neg (by omega), if_pos hd]))
            clear hd hd2 hd0
            go_wp2
            refine bodyPost_ret (v := .tuple #[.agg #[.string x.f0.f0, .string x.f0.f1, .slice (some ⟨w4.heap.size + 1, 0, none⟩) 1 1, .slice B1 x.f2.length d1], .int .i64 3]) ?hrG rfl ?hpG
            case hrG => simp [results, Tryd.results29, go_sem, zF0, cF0_0, cF0_1, cF0_2, cF0_3, zF1, cF1_0, dF1_0, cF1_1, dF1_1, cF1_2, dF1_2, cF1_3, dF1_3]
            case hpG => rw [HE.out]; exact ⟨some ⟨w4.heap.size + 1, 0, none⟩, 1, B1, d1, rfl, (show Kd.R kAddr 33 _ w.heap.size (fun _ => True) (.slice (some ⟨w4.heap.size + 1, 0, none⟩) 1 1) [y.f3] from R_oneAt kAddr 33 _ w.heap.size y.f3 [.string y.f3.f0, .string y.f3.f1] (b := w4.heap.size + 1) (by simp) (kAddr_mkM _ _ _ _) (by have := HB.out.size; simp; omega)), (by have ne_ := Kd.R_ne U1.out F1.out (by decide); have nn_ : ∀ k, some (w4.heap.size + k) ≠ _ := Kd.R_ne_new U1.out; (with_reducible repeat (first | exact U1.out | refine R_put1 ?_ rfl ne_ | refine R_put1 ?_ rfl (nn_ 0) | refine Kd.R_alloc ?_ _))), (by (with_reducible repeat (first | exact HB.out | refine bel_set ?_ _ ?_ | refine blw_drewN ?_ _ | refine Below.drew ?_ | refine bel_alloc ?_ _)); all_goals ((try dsimp only); omega))⟩

end Go.Proofs.YtmfehmbgghfffaaDoor

/- What SieveDo does, case by case: plain facts. -/
namespace Go.Proofs.YtmfehmbgghfffaaDoor
open Go.RowKit Go.Proofs.YtmfehmbgghfffaaDoorW.PrintWords
set_option linter.unusedVariables false
set_option linter.unusedSimpArgs false

theorem do_fit {xs : List SRule} {x : SMail} (hF : ∀ y ∈ xs, fitAddr y.f3) (hx : fitMail x) : fitMail (sieveDo xs x).1 := by
  have hz : fitMail zMail := ⟨⟨by decide, by decide⟩, ⟨by decide, fun y hy => by cases hy⟩, by decide, fun y hy => by cases hy⟩
  cases hq : (sieveOk xs && mailOkS x)
  · rw [(do_bad hq).1]; exact hz
  · rw [Bool.and_eq_true] at hq
    rcases do_cases hq.1 hq.2 with ⟨-, he⟩ | ⟨k, -, hk, he, -, -⟩
    · rw [he]; exact hx
    · rw [he]
      unfold outM
      dsimp only
      split
      · exact hz
      · split
        · exact ⟨hx.1, ⟨by simp, fun y hy => by rw [List.mem_singleton.1 hy]; exact hF _ (getD_mem xs zRule hk)⟩, hx.2.2⟩
        · exact hx
theorem sent_ok {x : SMail} {r : SRule} (hm : mailOkS x = true) (hr : ruleOkS r = true) (h3 : r.f2 = 3) : mailOkS ⟨x.f0, [r.f3], x.f2⟩ = true := by
  rw [ruleOk_by] at hr
  simp only [Bool.and_eq_true] at hr
  have ha := hr.2.2.2.2
  rw [if_pos h3] at ha
  unfold mailOkS mailOk at hm ⊢
  simp only [Bool.and_eq_true] at hm
  obtain ⟨h1, h2, h4, h5, h6⟩ := hm
  rw [h1, h6]
  have hs : addrS r.f3 = true := ha.2
  simp [hs]
theorem do_law (xs : List SRule) (x : SMail) : (sieveDo xs x).2 = -1 ∨ (sieveDo [] x = (x, 1) ∧ 0 ≤ (sieveDo xs x).2 ∧
    (((sieveDo xs x).1 = x ∧ (sieveDo xs x).2 = 1 ∧ (sieveK xs x = -1 ∨ ∃ k : Nat, sieveK xs x = (k : Int) ∧ k < xs.length ∧ (xs.getD k zRule).f2 = 1)) ∨
      ∃ k : Nat, sieveK xs x = (k : Int) ∧ k < xs.length ∧ (((sieveDo xs x).2 = 2 ∧ (xs.getD k zRule).f2 = 2) ∨ ((sieveDo xs x).2 = 3 ∧ (sieveDo xs x).1.f0 = x.f0 ∧ (sieveDo xs x).1.f1 = [(xs.getD k zRule).f3] ∧ (sieveDo xs x).1.f2 = x.f2 ∧ mailOkS (sieveDo xs x).1 = true)))) := by
  cases hq : (sieveOk xs && mailOkS x)
  · left; rw [(do_bad hq).1]
  · rw [Bool.and_eq_true] at hq
    right
    have h0 : sieveDo [] x = (x, 1) := by
      unfold sieveDo
      rw [hq.2]
      rfl
    refine ⟨h0, ?_⟩
    rcases do_cases hq.1 hq.2 with ⟨hK, he⟩ | ⟨k, hK, hk, he, h1, h3⟩
    · rw [he]
      exact ⟨by dsimp only; omega, .inl ⟨rfl, rfl, .inl hK⟩⟩
    · have hok := hq.1
      unfold sieveOk at hok
      rw [Bool.and_eq_true, List.all_eq_true] at hok
      have hr := hok.2 _ (getD_mem xs zRule hk)
      generalize hy : xs.getD k zRule = r at he h1 h3 hr
      by_cases h4 : r.f2 = 2
      · have e : outM x (some r) = (zMail, 2) := by unfold outM; dsimp only; rw [if_pos h4]
        rw [he, e]
        exact ⟨by decide, .inr ⟨k, hK, hk, .inl ⟨rfl, by rw [hy]; exact h4⟩⟩⟩
      · by_cases h5 : r.f2 = 3
        · have e : outM x (some r) = (⟨x.f0, [r.f3], x.f2⟩, 3) := by unfold outM; dsimp only; rw [if_neg h4, if_pos h5]
          rw [he, e]
          exact ⟨by dsimp only; omega, .inr ⟨k, hK, hk, .inr ⟨rfl, rfl, by rw [hy], rfl, sent_ok hq.2 hr h5⟩⟩⟩
        · have e : outM x (some r) = (x, 1) := by unfold outM; dsimp only; rw [if_neg h4, if_neg h5]
          rw [he, e]
          exact ⟨by dsimp only; omega, .inl ⟨rfl, rfl, .inr ⟨k, hK, hk, by rw [hy]; omega⟩⟩⟩

end Go.Proofs.YtmfehmbgghfffaaDoor
