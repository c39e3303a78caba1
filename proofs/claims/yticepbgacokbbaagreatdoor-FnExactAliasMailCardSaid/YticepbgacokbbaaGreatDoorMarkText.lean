/- markText: what it answers. -/
import Derived.Test.YticepbgacokbbaaGreatDoorKit0
namespace Go.Proofs.YticepbgacokbbaaGreatDoor
open Go.RowKit Go.Proofs.YticepbgacokbbaaGreatDoorW.PrintWords
set_option linter.unusedVariables false
set_option linter.unusedSimpArgs false

def digs : Nat → Nat → ByteArray → ByteArray
  | 0, _, acc => acc
  | f + 1, k, acc => if k = 0 then acc else digs f (k / 10) (strOfNums [48 + (k : Int) % 10] ++ acc)
theorem digs_zero (f : Nat) (acc : ByteArray) : digs f 0 acc = acc := by cases f <;> simp [digs]
theorem digs_fuel : ∀ (f g k : Nat) (acc : ByteArray), k ≤ f → k ≤ g → digs f k acc = digs g k acc
  | 0, g, k, acc, hf, _ => by obtain rfl : k = 0 := by omega
                              rw [digs_zero, digs_zero]
  | f + 1, 0, k, acc, _, hg => by obtain rfl : k = 0 := by omega
                                  rw [digs_zero, digs_zero]
  | f + 1, g + 1, k, acc, hf, hg => by
    unfold digs
    by_cases h : k = 0
    · rw [if_pos h, if_pos h]
    · rw [if_neg h, if_neg h]; exact digs_fuel f g (k / 10) _ (by omega) (by omega)
theorem digs_step (k : Nat) (acc : ByteArray) (h : 0 < k) : digs k k acc = digs (k / 10) (k / 10) (strOfNums [48 + (k : Int) % 10] ++ acc) := by
  obtain ⟨m, rfl⟩ : ∃ m, k = m + 1 := ⟨k - 1, by omega⟩
  rw [digs, if_neg (by omega)]
  exact digs_fuel m _ _ _ (by omega) (by omega)
/-- What markText answers. -/
def markS (a : Nat) : ByteArray := if a = 0 then ⟨#[109, 48]⟩ else (⟨#[109]⟩ : ByteArray) ++ digs a a ⟨#[]⟩
theorem byte_string (W : World) (b : Nat) (c : Int) (h : W.cell? ⟨b, 0, none⟩ = some (.int .u8 c)) : (convert 22 9 (.slice (some ⟨b, 0, none⟩) 1 1)).run Tryz.prog W = .ok (.string (strOfNums [c])) W :=
  Kd.C_string Tryz.underlying22 Tryz.underlying5 Tryz.underlying9 ⟨rfl, by simp, fun _ => ⟨_, rfl, fun j p hj => by
    cases j with
    | zero =>
      have : c = p := by simpa using hj
      subst this
      exact ⟨[.int .u8 c], rfl, rfl, fun i u hu => by
        cases i with
        | zero => have : Value.int .u8 c = u := by simpa using hu
                  subst this; simpa [Addr.add] using h
        | succ i => simp at hu⟩
    | succ j => simp at hj⟩⟩
set_option maxRecDepth 100000 in
set_option maxHeartbeats 2000000 in
theorem markText_any (a : Nat) (h : a ≤ 4611686018427387904) (w : World) : Calls Tryz.prog 55 #[.int .i64 (a : Int)] w fun e w' => e = .returned (.string (markS a)) ∧ Below w.heap.size w w' := by
  have hcv := byte_string
  by_cases h0 : a = 0
  · subst h0
    go_enter Tryz.func55, Tryz.ntmps55
    go_wp2
    go_ret
    exact ⟨rfl, Below.refl _ _⟩
  · have h1 : ¬ (a : Int) ≤ 0 := by omega
    have B0 := Below.refl w.heap.size w
    go_enter Tryz.func55, Tryz.ntmps55
    go_wp2
    go_loopg [0, 3] a (fun g v0 v3 wr => ∃ (k : Nat) (acc : ByteArray), k ≤ g ∧ v0 = .int .i64 (k : Int) ∧ v3 = .string acc ∧ acc.size + k ≤ a ∧ Aside0 (digs k k acc = digs a a ⟨#[]⟩) ∧ Aside0 (Below w.heap.size w wr))
    case atStart => exact ⟨a, ⟨#[]⟩, Nat.le_refl _, rfl, rfl, by show 0 + a ≤ a; omega, ⟨rfl⟩, ⟨B0⟩⟩
    case round =>
      obtain ⟨k, acc, hk, rfl, rfl, hs, HD, BW⟩ := hrel
      by_cases hlt : 0 < k
      · have hlt' : (0 : Int) < (k : Int) := by omega
        have hst := digs_step k acc hlt
        have HS := Lib.hid hst
        have e1 : (strOfNums [48 + (k : Int) % 10] ++ acc).size = acc.size + 1 := by rw [ByteArray.size_append, show (strOfNums [48 + (k : Int) % 10]).size = 1 from rfl, Nat.add_comm]
        have E1 := Lib.hid e1
        have hz1 : (strOfNums [48 + (k : Int) % 10]).size = 1 := rfl
        clear hst e1
        go_wp2
        go_roundg (k / 10)
        case measure => omega
        case rel => exact ⟨k / 10, _, Nat.le_refl _, congrArg (Value.int .i64) (by omega), rfl, by rw [E1.out]; omega, ⟨by rw [← HS.out]; exact HD.out⟩, ⟨bel_alloc BW.out _⟩⟩
      · obtain rfl : k = 0 := by omega
        have hd := HD.out
        rw [digs_zero] at hd
        have HD2 := Lib.hid hd
        clear hd HD
        go_wp2
        go_ret
        refine ⟨rets ?_, BW.out⟩
        unfold markS
        rw [if_neg h0, ← HD2.out]
end Go.Proofs.YticepbgacokbbaaGreatDoor
