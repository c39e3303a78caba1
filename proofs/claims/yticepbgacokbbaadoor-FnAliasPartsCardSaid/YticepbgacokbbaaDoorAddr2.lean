/- AddrOk, null, sender and isLine of the program: their answers in plain words. -/
import Derived.Test.YticepbgacokbbaaDoorAddr
namespace Go.Proofs.YticepbgacokbbaaDoor
open Go.RowKit
def addr (u d : List UInt8) : Bool := lab u && dom d
def nul (u d : List UInt8) : Bool := u.isEmpty && d.isEmpty

set_option maxHeartbeats 400000 in
theorem AddrOk_any (u d : ByteArray) (w : World) (hu : u.size ≤ 9223372036854775807) (hd : d.size < 4294967281) (hG : Glob w) :
  Calls Tryd.prog 20 #[.agg #[.string u, .string d]] w fun e w' => e = .returned (.bool (addr u.data.toList d.data.toList)) ∧ Below w.heap.size w w' := by
 unfold addr
 cases hq : lab u.data.toList
 all_goals
  have hcall := fun W => isLabel_any u W hu
  rw [hq] at hcall
  clear hq
  go_enter Tryd.func20, Tryd.ntmps20
  go_wp2_with fail
  refine (hcall _).mono ?_
  rintro e w1 ⟨rfl, hb1⟩
  have hz : w.heap.size < w1.heap.size := by have := hb1.size; simp at this; omega
  have hb : Below w.heap.size w w1 := ((Below.refl _ _).alloc (Nat.le_refl _) _).trans (hb1.mono (by simp))
  have hc1 : w1.cell? ⟨w.heap.size, 1, none⟩ = some (.string d) := (hb1.cell (p := ⟨w.heap.size, 1, none⟩) (by simp)).trans (by simp)
  clear hcall
 ·go_wp2
  go_ret
  exact ⟨retb rfl, hb⟩
 ·go_wp2_with fail
  refine (DomainOk_any d _ hd (hG.below hb)).mono ?_
  rintro e w2 ⟨rfl, hb2⟩
  go_wp2
  go_ret
  exact ⟨retb rfl, hb.trans (hb2.mono (by omega))⟩
end Go.Proofs.YticepbgacokbbaaDoor
