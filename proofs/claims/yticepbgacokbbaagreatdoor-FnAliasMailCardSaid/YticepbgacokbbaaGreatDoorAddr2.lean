/- AddrOk, null, sender and isLine of the program: their answers in plain words. -/
import Derived.Test.YticepbgacokbbaaGreatDoorAddr
namespace Go.Proofs.YticepbgacokbbaaGreatDoor
open Go.RowKit
def addr (u d : List UInt8) : Bool := lab u && dom d
def nul (u d : List UInt8) : Bool := u.isEmpty && d.isEmpty

set_option maxHeartbeats 400000 in
theorem AddrOk_any (u d : ByteArray) (w : World) (hu : u.size ≤ 9223372036854775807) (hd : d.size < 4294967281) (hG : Glob w) :
  Calls Tryz.prog 38 #[.agg #[.string u, .string d]] w fun e w' => e = .returned (.bool (addr u.data.toList d.data.toList)) ∧ Below w.heap.size w w' := by
 unfold addr
 cases hq : lab u.data.toList
 all_goals
  have hcall := fun W => isLabel_any u W hu
  rw [hq] at hcall
  clear hq
  go_enter Tryz.func38, Tryz.ntmps38
  go_wp2_with fail
  refine (hcall _).mono ?_
  rintro e w1 ⟨rfl, hb1⟩
  have hz : w.heap.size < w1.heap.size := by have := hb1.size; simp at this; omega
  have hb : Below w.heap.size w w1 := ((Below.refl _ _).alloc (Nat.le_refl _) _).trans (hb1.mono (by simp))
  have hc1 : w1.cell? ⟨w.heap.size, 1, none⟩ = some (.string d) := (hb1.cell (p := ⟨w.heap.size, 1, none⟩) (by simp)).trans (by simp)
  clear hcall
 ·go_wp2
  go_ret
  exact ⟨retb rfl, hb⟩
 ·go_wp2_with fail
  refine (DomainOk_any d _ hd (hG.below hb)).mono ?_
  rintro e w2 ⟨rfl, hb2⟩
  go_wp2
  go_ret
  exact ⟨retb rfl, hb.trans (hb2.mono (by omega))⟩
theorem null_any (u d : ByteArray) (w : World) :
  Calls Tryz.prog 76 #[.agg #[.string u, .string d]] w fun e w' => e = .returned (.bool (nul u.data.toList d.data.toList)) ∧ Below w.heap.size w w' := by
 go_enter Tryz.func76, Tryz.ntmps76
 go_wp2
 all_goals
  go_ret
  refine ⟨retb ?_, (Below.refl _ _).alloc (Nat.le_refl _) _⟩
  simp_all [nul, bl]
theorem isLine_any (s : ByteArray) (w : World) (hs : s.size ≤ 9223372036854775807) :
  Calls Tryz.prog 80 #[.string s] w fun e w' => e = .returned (.bool (line s.data.toList)) ∧ Below w.heap.size w w' := by
 go_enter Tryz.func80, Tryz.ntmps80
 go_wp2
 go_loopg [6] (s.size) (fun g i wr => ∃ k : Nat, k ≤ s.size ∧ s.size - k ≤ g ∧ i = .int .i64 k ∧ Aside (Below w.heap.size w wr) ∧ Aside (∀ j, j < k → lineb (s.data.toList.getD j 0) = true))
 case atStart => exact ⟨0, Nat.zero_le _, by omega, rfl, Below.refl _ _, fun j hj => absurd hj (Nat.not_lt_zero _)⟩
 case round =>
  obtain ⟨k, hk, hg, rfl, BW, A⟩ := hrel
  by_cases hlt : k < s.size
  ·have hy := byte_at s k hlt
   have HY := Lib.hid hy
   clear hy
   by_cases h1 : (s[k].toNat : Int) < 32
   ·have h1' : decide ((s[k].toNat : Int) < 32) = true := decide_eq_true h1
    go_wp2
    go_ret
    refine ⟨retb ?_, BW.out⟩
    unfold line
    rw [all_getD_false lineb _ 0 k (by rw [size_data]; exact hlt) (by rw [HY.out]; exact decide_eq_false (by omega)), Bool.false_and]
   ·have h1' : decide ((s[k].toNat : Int) < 32) = false := decide_eq_false h1
    by_cases h2 : (s[k].toNat : Int) > 126
    ·have h2' : decide ((s[k].toNat : Int) > 126) = true := decide_eq_true h2
     go_wp2
     go_ret
     refine ⟨retb ?_, BW.out⟩
     unfold line
     rw [all_getD_false lineb _ 0 k (by rw [size_data]; exact hlt) (by rw [HY.out]; exact decide_eq_false (by omega)), Bool.false_and]
    ·have h2' : decide ((s[k].toNat : Int) > 126) = false := decide_eq_false h2
     go_wp2
     go_roundg (s.size - (k + 1))
     case measure => omega
     case rel => exact ⟨k + 1, by omega, by omega, by go_num, BW.out, fun j hj => by
      by_cases e : j = k
      ·subst e; rw [HY.out]; exact decide_eq_true (by omega)
      ·exact A.out j (by omega)⟩
  ·go_wp2
   go_ret
   refine ⟨retb ?_, BW.out⟩
   unfold line
   rw [all_getD lineb _ 0 (fun j hj => A.out j (by rw [size_data] at hj; omega)), Bool.true_and, size_data]
   exact decide_eq_decide.2 (by omega)
end Go.Proofs.YticepbgacokbbaaGreatDoor
