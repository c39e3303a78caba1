/- The reference's words on labels, domains, addresses, lines: contracts, walked by hand. -/
import Derived.Test.YticepbgacokbbaaGreatDoorKit0
namespace Go.Proofs.YticepbgacokbbaaGreatDoor
open Go.RowKit Go.Proofs.YticepbgacokbbaaGreatDoorW.PrintWords
set_option linter.unusedVariables false
set_option linter.unusedSimpArgs false

theorem specIn_any (a b c : Int) (w : World) :
    Calls Tryz.prog 34 #[.int .i64 a, .int .i64 b, .int .i64 c] w fun e w' => e = .returned (.bool (decide (b ≤ a) && decide (a ≤ c))) ∧ w = w' := by
  by_cases h : b ≤ a
  all_goals
    go_enter Tryz.func34, Tryz.ntmps34
    go_wp2
    go_ret
    exact ⟨by simp [h] <;> omega, rfl⟩

set_option maxHeartbeats 1000000 in
theorem specWord_any (s : ByteArray) (w : World) (hs : s.size ≤ 9223372036854775807) :
    Calls Tryz.prog 89 #[.string s] w fun e w' => e = .returned (.bool (lab s.data.toList)) ∧ Below w.heap.size w w' := by
  go_enter Tryz.func89, Tryz.ntmps89
  go_wp2
  go_loopg [3] (s.size) (fun g i wr => ∃ k : Nat, k ≤ s.size ∧ s.size - k ≤ g ∧ i = .int .i64 k ∧ Aside (Below w.heap.size w wr) ∧ Aside (∀ j, j < k → labc (s.data.toList.getD j 0) = true))
  case atStart => exact ⟨0, Nat.zero_le _, by omega, rfl, Below.refl _ _, fun j hj => absurd hj (Nat.not_lt_zero _)⟩
  case round =>
    obtain ⟨k, hk, hg, rfl, BW, A⟩ := hrel
    by_cases hlt : k < s.size
    · have hy := byte_at s k hlt
      have HY := Lib.hid hy
      clear hy
      cases hq : labc s[k]
      · have HF := Lib.hid hq
        clear hq
        go_wp2
        all_goals first
          | (go_ret
             refine ⟨retb ?_, BW.out⟩
             unfold lab
             rw [all_getD_false labc _ 0 k (by rw [size_data]; exact hlt) (by rw [HY.out]; exact HF.out), Bool.and_false])
          | (exfalso
             have hf := HF.out
             unfold labc at hf
             rw [Bool.or_eq_false_iff] at hf
             have h1 := of_decide_eq_false hf.1
             have h2 := of_decide_eq_false hf.2
             omega)
      · have HT := Lib.hid hq
        clear hq
        go_wp2
        all_goals first
          | (go_roundg (s.size - (k + 1))
             case measure => omega
             case rel => exact ⟨k + 1, by omega, by omega, by go_num, BW.out, fun j hj => by
               by_cases e : j = k
               · subst e; rw [HY.out]; exact HT.out
               · exact A.out j (by omega)⟩)
          | (exfalso
             have hf := HT.out
             unfold labc at hf
             rw [Bool.or_eq_true] at hf
             have hv : (97 ≤ s[k].toNat ∧ s[k].toNat ≤ 122) ∨ (48 ≤ s[k].toNat ∧ s[k].toNat ≤ 57) := hf.imp of_decide_eq_true of_decide_eq_true
             omega)
    · go_wp2_with (go_at_call 34; refine (specIn_any _ _ _ _).mono ?_; rintro e w' ⟨rfl, rfl⟩)
      go_ret
      refine ⟨retb ?_, BW.out⟩
      unfold lab
      rw [all_getD labc _ 0 (fun j hj => A.out j (by rw [size_data] at hj; omega)), Bool.and_true, size_data, Bool.decide_and]
      first | rfl | (congr 1 <;> exact decide_eq_decide.2 (by omega))

set_option maxHeartbeats 1000000 in
theorem specLine_any (s : ByteArray) (w : World) (hs : s.size ≤ 9223372036854775807) :
    Calls Tryz.prog 91 #[.string s] w fun e w' => e = .returned (.bool (line s.data.toList)) ∧ Below w.heap.size w w' := by
  go_enter Tryz.func91, Tryz.ntmps91
  go_wp2
  go_loopg [3] (s.size) (fun g i wr => ∃ k : Nat, k ≤ s.size ∧ s.size - k ≤ g ∧ i = .int .i64 k ∧ Aside (Below w.heap.size w wr) ∧ Aside (∀ j, j < k → lineb (s.data.toList.getD j 0) = true))
  case atStart => exact ⟨0, Nat.zero_le _, by omega, rfl, Below.refl _ _, fun j hj => absurd hj (Nat.not_lt_zero _)⟩
  case round =>
    obtain ⟨k, hk, hg, rfl, BW, A⟩ := hrel
    by_cases hlt : k < s.size
    · have hy := byte_at s k hlt
      have HY := Lib.hid hy
      clear hy
      by_cases h1 : (s[k].toNat : Int) < 32
      · have h1' : decide ((s[k].toNat : Int) < 32) = true := decide_eq_true h1
        go_wp2
        go_ret
        refine ⟨retb ?_, BW.out⟩
        unfold line
        rw [all_getD_false lineb _ 0 k (by rw [size_data]; exact hlt) (by rw [HY.out]; exact decide_eq_false (by omega)), Bool.false_and]
      · have h1' : decide ((s[k].toNat : Int) < 32) = false := decide_eq_false h1
        by_cases h2 : (s[k].toNat : Int) > 126
        · have h2' : decide ((s[k].toNat : Int) > 126) = true := decide_eq_true h2
          go_wp2
          go_ret
          refine ⟨retb ?_, BW.out⟩
          unfold line
          rw [all_getD_false lineb _ 0 k (by rw [size_data]; exact hlt) (by rw [HY.out]; exact decide_eq_false (by omega)), Bool.false_and]
        · have h2' : decide ((s[k].toNat : Int) > 126) = false := decide_eq_false h2
          go_wp2
          go_roundg (s.size - (k + 1))
          case measure => omega
          case rel => exact ⟨k + 1, by omega, by omega, by go_num, BW.out, fun j hj => by
            by_cases e : j = k
            · subst e; rw [HY.out]; exact decide_eq_true (by omega)
            · exact A.out j (by omega)⟩
    · go_wp2
      go_ret
      refine ⟨retb ?_, BW.out⟩
      unfold line
      rw [all_getD lineb _ 0 (fun j hj => A.out j (by rw [size_data] at hj; omega)), Bool.true_and, size_data]
      exact decide_eq_decide.2 (by omega)
end Go.Proofs.YticepbgacokbbaaGreatDoor
