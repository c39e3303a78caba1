/- What the reference's words on labels, domains, addresses and lines come to: plain Lean. -/
import Derived.Test.YtomcaichidepnaaDoorAddr2
import Derived.Test.YtomcaichidepnaaDoorPx5
namespace Go.Proofs.YtomcaichidepnaaDoor
open Go.RowKit Go.Proofs.YtomcaichidepnaaDoorW.PrintWords P
set_option linter.unusedVariables false
set_option linter.unusedSimpArgs false

theorem shift {α : Type} {g : Nat → Option α} {r : α} (h : Ev (fun k => g (k + 1)) r) : Ev g r := Ev.step (fun _ => rfl) h
theorem bt_nat (s : ByteArray) (k : Nat) (hk : k < s.size) : bt s (k : Int) = ((s.data.toList.getD k 0).toNat : Int) := by
  rw [byte_at s k hk]
  unfold bt
  rw [dif_pos (by simpa using hk)]
  rfl
theorem wrap_nat (k : Nat) (h : k < 9223372036854775807) : wrap64 ((k : Int) + 1) = ((k + 1 : Nat) : Int) := by unfold wrap64; omega

theorem l1In_is (a b c : Int) : spec_l1In.f a b c = some (decide (b ≤ a ∧ a ≤ c)) := by
  unfold spec_l1In.f
  by_cases h : a ≥ b
  · rw [if_pos h]; congr 1; exact decide_eq_decide.2 ⟨fun x => ⟨h, x⟩, fun x => x.2⟩
  · rw [if_neg h, decide_eq_false (by omega)]

/-- A byte is judged by its number. -/
theorem lineOk_loop (s : ByteArray) (hs : s.size < 9223372036854775807) (d : Nat) : ∀ k : Nat, k + d = s.size → (∀ j, j < k → lineb (s.data.toList.getD j 0) = true) → Ev (fun n => spec_l2LineOk.l0 n s k) (line s.data.toList) := by
  induction d with
  | zero =>
    intro k hk hb
    refine shift ?_
    simp only [spec_l2LineOk.l0]
    simp only [if_neg (show ¬ (k : Int) < (s.size : Int) by omega)]
    have e : line s.data.toList = decide ((s.size : Int) ≤ 40) := by
      unfold line
      rw [all_getD lineb _ 0 (fun j hj => hb j (by rw [size_data] at hj; omega)), Bool.true_and, size_data]
      exact decide_eq_decide.2 (by omega)
    rw [e]
    exact Ev.now _
  | succ d ih =>
    intro k hk hb
    refine shift ?_
    simp only [spec_l2LineOk.l0]
    have hlt : (k : Int) < (s.size : Int) := by omega
    simp only [if_pos hlt, if_pos (show (0 : Int) ≤ (k : Int) by omega)]
    rw [bt_nat s k (by omega), wrap_nat k (by omega)]
    cases hq : lineb (s.data.toList.getD k 0)
    · have e : line s.data.toList = false := by
        unfold line
        rw [all_getD_false lineb _ 0 k (by rw [size_data]; omega) hq, Bool.false_and]
      have h2 := of_decide_eq_false hq
      rw [e]
      by_cases h1 : ((s.data.toList.getD k 0).toNat : Int) < 32
      · simp only [if_pos h1]; exact Ev.now _
      · simp only [if_neg h1, if_pos (show ((s.data.toList.getD k 0).toNat : Int) > 126 by omega)]; exact Ev.now _
    · have h2 := of_decide_eq_true hq
      simp only [if_neg (show ¬ ((s.data.toList.getD k 0).toNat : Int) < 32 by omega), if_neg (show ¬ ((s.data.toList.getD k 0).toNat : Int) > 126 by omega)]
      exact ih (k + 1) (by omega) (fun j hj => by
        by_cases e : j = k
        · subst e; exact hq
        · exact hb j (by omega))
theorem lineOk_ev (s : ByteArray) (hs : s.size < 9223372036854775807) : Ev (fun n => spec_l2LineOk.f n s) (line s.data.toList) := lineOk_loop s hs s.size 0 (by omega) (fun j hj => by omega)

theorem word_loop (s : ByteArray) (hs : s.size < 9223372036854775807) (d : Nat) : ∀ k : Nat, k + d = s.size → (∀ j, j < k → labc (s.data.toList.getD j 0) = true) → Ev (fun n => spec_l1Word.l0 n s k) (lab s.data.toList) := by
  induction d with
  | zero =>
    intro k hk hb
    refine shift ?_
    simp only [spec_l1Word.l0]
    simp only [if_neg (show ¬ (k : Int) < (s.size : Int) by omega)]
    have e : lab s.data.toList = decide (1 ≤ (s.size : Int) ∧ (s.size : Int) ≤ 8) := by
      unfold lab
      rw [all_getD labc _ 0 (fun j hj => hb j (by rw [size_data] at hj; omega)), Bool.and_true, size_data]
      exact decide_eq_decide.2 (by omega)
    rw [e, l1In_is]
    exact Ev.now _
  | succ d ih =>
    intro k hk hb
    refine shift ?_
    simp only [spec_l1Word.l0]
    have hlt : (k : Int) < (s.size : Int) := by omega
    simp only [if_pos hlt, if_pos (show (0 : Int) ≤ (k : Int) by omega)]
    rw [bt_nat s k (by omega), wrap_nat k (by omega)]
    have hn := ih (k + 1) (by omega)
    cases hq : labc (s.data.toList.getD k 0)
    · have e : lab s.data.toList = false := by
        unfold lab
        rw [all_getD_false labc _ 0 k (by rw [size_data]; omega) hq, Bool.and_false]
      unfold labc at hq
      rw [Bool.or_eq_false_iff] at hq
      have h1 := of_decide_eq_false hq.1
      have h2 := of_decide_eq_false hq.2
      rw [e]
      generalize (s.data.toList.getD k 0).toNat = v at h1 h2
      by_cases c1 : (v : Int) < 97 <;> by_cases c2 : (v : Int) > 122 <;> by_cases c3 : (v : Int) < 48 <;> by_cases c4 : (v : Int) > 57 <;> first | (exfalso; omega) | (simp only [c1, c2, c3, c4, if_true, if_false]; exact Ev.now _)
    · have hn' := hn (fun j hj => by
        by_cases e : j = k
        · subst e; exact hq
        · exact hb j (by omega))
      unfold labc at hq
      rw [Bool.or_eq_true] at hq
      have hv : (97 ≤ (s.data.toList.getD k 0).toNat ∧ (s.data.toList.getD k 0).toNat ≤ 122) ∨ (48 ≤ (s.data.toList.getD k 0).toNat ∧ (s.data.toList.getD k 0).toNat ≤ 57) := hq.imp of_decide_eq_true of_decide_eq_true
      generalize (s.data.toList.getD k 0).toNat = v at hv
      by_cases c1 : (v : Int) < 97 <;> by_cases c2 : (v : Int) > 122 <;> by_cases c3 : (v : Int) < 48 <;> by_cases c4 : (v : Int) > 57 <;> first | (exfalso; omega) | (simp only [c1, c2, c3, c4, if_true, if_false]; exact hn')
theorem word_ev (s : ByteArray) (hs : s.size < 9223372036854775807) : Ev (fun n => spec_l1Word.f n s) (lab s.data.toList) := word_loop s hs s.size 0 (by omega) (fun j hj => by omega)
end Go.Proofs.YtomcaichidepnaaDoor
