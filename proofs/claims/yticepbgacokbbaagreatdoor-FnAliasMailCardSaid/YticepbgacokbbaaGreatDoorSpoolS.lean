/- The reference's words on bodies, recipients: contracts. -/
import Derived.Test.YticepbgacokbbaaGreatDoorSpecC
import Derived.Test.YticepbgacokbbaaGreatDoorSpoolD
namespace Go.Proofs.YticepbgacokbbaaGreatDoor
open Go.RowKit Go.Proofs.YticepbgacokbbaaGreatDoorW.PrintWords
set_option linter.unusedVariables false
set_option linter.unusedSimpArgs false
set_option maxRecDepth 100000 in
theorem specBody_any (A : Option Addr) (c : Nat) (xs : List ByteArray) (w : World) (hr : Kd.C Kd.string w A xs.length xs) (hb : xs.length ≤ 1048576 ∧ ∀ y ∈ xs, y.size ≤ 1048576) :
  Calls Tryz.prog 70 #[.slice A xs.length c] w fun e w' => e = .returned (.bool (bodyOk xs)) ∧ Below w.heap.size w w' := by
 obtain ⟨hlen, hx⟩ := hb
 have HX := Lib.hid hx
 clear hx
 go_enter Tryz.func70, Tryz.ntmps70
 go_wp2
 go_loopg [3] (xs.length) (fun g v wr => ∃ k : Nat, k ≤ xs.length ∧ xs.length - k ≤ g ∧ v = .int .i64 k ∧ Aside0 (Below w.heap.size w wr) ∧ Aside0 (∀ j, j < k → line (xs.getD j ⟨#[]⟩).data.toList = true))
 case atStart => exact ⟨0, Nat.zero_le _, by omega, rfl, ⟨Below.refl _ _⟩, ⟨fun j hj => absurd hj (Nat.not_lt_zero _)⟩⟩
 case round =>
  obtain ⟨k, hk, hg, rfl, BW, H⟩ := hrel
  by_cases hlt : k < xs.length
  ·have hlt' : (k : Int) < (xs.length : Int) := by omega
   obtain ⟨ad, e1, h0⟩ := at_Str (Kd.C_below hr BW.out) k hlt
   subst e1
   have hm := HX.out (xs.getD k ⟨#[]⟩) (getD_mem xs _ hlt)
   generalize hy : xs.getD k (⟨#[]⟩ : ByteArray) = y at h0 hm
   have hcall := fun W => specLine_any y W (by omega)
   have HY := Lib.hid hy
   clear hy hm hr
   cases hq : line y.data.toList
   all_goals
    rw [hq] at hcall
    have HQ := Lib.hid hq
    clear hq
    go_wp2_with (go_at_call 91; refine (hcall _).mono ?_; rintro e w1 ⟨rfl, b1⟩)
   ·go_ret
    refine ⟨retb ?_, bel_then BW.out b1⟩
    unfold bodyOk
    rw [all_getD_false (fun s : ByteArray => line s.data.toList) xs ⟨#[]⟩ k hlt (by rw [HY.out]; exact HQ.out), Bool.and_false]
   ·go_roundg (xs.length - (k + 1))
    case measure => omega
    case rel => exact ⟨k + 1, by omega, Nat.le_refl _, by go_num, ⟨bel_then BW.out b1⟩, ⟨fun j hj => by
     by_cases e : j = k
     ·subst e; rw [HY.out]; exact HQ.out
     ·exact H.out j (by omega)⟩⟩
  ·have hlt' : ¬ (k : Int) < (xs.length : Int) := by omega
   go_wp2
   go_ret
   refine ⟨retb ?_, BW.out⟩
   unfold bodyOk
   rw [all_upto (fun s : ByteArray => line s.data.toList) xs ⟨#[]⟩ (fun j hj => H.out j (by omega)), Bool.and_true]
   first | rfl | exact decide_eq_decide.2 (by omega)

end Go.Proofs.YticepbgacokbbaaGreatDoor
