/- The laws' looks at aliases: the same twice; whether an address stands in a list: contracts. -/
import Derived.Test.YticepbgacokbbaaGreatDoorAlSpec
import Derived.Test.YticepbgacokbbaaGreatDoorSaB
import Derived.Deep.RegionHeld3
namespace Go.Proofs.YticepbgacokbbaaGreatDoor
open Go.RowKit Go.Proofs.YticepbgacokbbaaGreatDoorW.PrintWords
set_option linter.unusedVariables false
set_option linter.unusedSimpArgs false

attribute [local go_sem high] eqA25

set_option maxRecDepth 100000 in
set_option maxHeartbeats 2000000 in
theorem saStands_any (A : Option Addr) (c : Nat) (xs : List SAlias) (a : SAddr) (w : World) (hr : Kd.C kAlias w A xs.length xs) (hlen : xs.length ≤ 1048576) :
  Calls Tryz.prog 9 #[.slice A xs.length c, .agg #[.string a.f0, .string a.f1]] w fun e w' => e = .returned (.bool (isAl xs a)) ∧ Below w.heap.size w w' := by
 go_enter Tryz.func9, Tryz.ntmps9
 go_wp2_with fail
 obtain ⟨W0, hW0⟩ : ∃ W, W = w.alloc (.cells #[.string a.f0, .string a.f1] 25) := ⟨_, rfl⟩
 rw [← hW0]
 have F0 : Aside0 (W0.heap[w.heap.size]? = some (.cells #[.string a.f0, .string a.f1] 25 (0, 0))) := ⟨by rw [hW0]; exact blk_at _ _ rfl⟩
 have B0 : Aside0 (Below w.heap.size w W0) := ⟨by rw [hW0]; exact bel_alloc (Below.refl _ _) _⟩
 clear hW0
 go_wp2
 go_loopg [5] (xs.length) (fun g v5 wr => ∃ k : Nat, k ≤ xs.length ∧ xs.length - k ≤ g ∧ v5 = .int .i64 (k : Int) ∧ Aside0 (Below W0.heap.size W0 wr) ∧ Hid (∀ j, j < k → (xs.getD j zAlias).f0 ≠ a))
 case atStart => exact ⟨0, Nat.zero_le _, by omega, rfl, ⟨Below.refl _ _⟩, Lib.hid (fun j hj => absurd hj (Nat.not_lt_zero _))⟩
 case round =>
  obtain ⟨k, hk, hg, rfl, BW, H⟩ := hrel
  have hz := BW.out.size
  by_cases hlt : k < xs.length
  ·have hlt' : (k : Int) < (xs.length : Int) := by omega
   obtain ⟨ad, _, _, e1, p0, p1, _, _, _⟩ := at_Alias (Kd.C_below hr (bel_then B0.out BW.out)) k hlt
   subst e1
   have hF := below_blk F0.out BW.out
   have c0 : wr.cell? ⟨w.heap.size, 0, none⟩ = some (.string a.f0) := by simp [World.cell?, hF]
   have c1 : wr.cell? ⟨w.heap.size, 1, none⟩ = some (.string a.f1) := by simp [World.cell?, hF]
   have zl := blk_lt hF
   have heq := addr_eq (xs.getD k zAlias).f0 a
   by_cases hq : (xs.getD k zAlias).f0 = a
   ·have HA := Lib.hid (show isAl xs a = true from isAl_iff.2 ⟨_, getD_mem xs zAlias hlt, hq⟩)
    rw [decide_eq_true hq] at heq
    generalize (xs.getD k zAlias).f0 = y at p0 p1 heq hq
    clear hq hr hF
    go_wp2
    repeat (go_quiet (fail); try go_wp2)
    go_ret
    exact ⟨by rw [HA.out]; rfl, bel_then B0.out (blw_drewN BW.out _)⟩
   ·have HN := Lib.hid hq
    rw [decide_eq_false hq] at heq
    generalize (xs.getD k zAlias).f0 = y at p0 p1 heq
    clear hq hr hF
    go_wp2
    repeat (go_quiet (fail); try go_wp2)
    go_roundg (xs.length - (k + 1))
    case measure => omega
    case rel => exact ⟨k + 1, by omega, Nat.le_refl _, by go_num, ⟨blw_drewN BW.out _⟩, Lib.hid (fun j hj => by
     by_cases e : j = k
     ·subst e; exact HN.out
     ·exact H.out j (by omega))⟩
  ·have hlt' : ¬ (k : Int) < (xs.length : Int) := by omega
   have HA := Lib.hid (show isAl xs a = false from isAl_none (fun j hj => H.out j (by omega)))
   go_wp2
   go_ret
   exact ⟨by rw [HA.out]; rfl, bel_then B0.out BW.out⟩

end Go.Proofs.YticepbgacokbbaaGreatDoor
