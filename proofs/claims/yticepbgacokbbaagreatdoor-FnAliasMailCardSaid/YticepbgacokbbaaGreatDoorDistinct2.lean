/- distinct over addresses, walked. -/
import Derived.Test.YticepbgacokbbaaGreatDoorDistinct
namespace Go.Proofs.YticepbgacokbbaaGreatDoor
open Go.RowKit Go.Maps Go.WideMaps Go.Proofs.YticepbgacokbbaaGreatDoorW.PrintWords P
set_option linter.unusedVariables false
set_option linter.unusedSimpArgs false

set_option maxRecDepth 100000 in
set_option maxHeartbeats 1000000 in
theorem distinctAddr_any (A : Option Addr) (c : Nat) (xs : List SAddr) (w : World) (hr : Kd.C kAddr w A xs.length xs) (hlen : xs.length ≤ 1099511627776) (hx : ∀ x ∈ xs, AFit x) :
  Calls Tryz.prog 41 #[.slice A xs.length c] w fun e w' => e = .returned (.bool (decide xs.Nodup)) ∧ Below w.heap.size w w' := by
 have hmm := @run_makeMap Tryz.prog
 have HX := Lib.hid hx
 clear hx
 go_enter Tryz.func41, Tryz.ntmps41
 go_wp2
 go_loopg [5, 9] (xs.length) (fun g v5 v9 wr => ∃ k : Nat, k ≤ xs.length ∧ xs.length - k ≤ g ∧ v9 = .int .i64 (k : Int) ∧ Aside0 (Below w.heap.size w wr) ∧ Aside0 (wr.ownsMap Tryz.prog 25 (plainElem (H := Unit) Tryz.prog 4) w.heap.size k (Sn xs k)))
 case atStart => exact ⟨0, Nat.zero_le _, by omega, rfl, ⟨(Below.refl _ _).alloc (Nat.le_refl _) _⟩, ⟨by rw [Sn_zero]; exact World.ownsMap_made _ _ _ _⟩⟩
 case round =>
  obtain ⟨k, hk, hg, rfl, BW, HM⟩ := hrel
  by_cases hlt : k < xs.length
  ·obtain ⟨ad, e1, h0, h1⟩ := at_TAddr (Kd.C_below hr BW.out) (k : Int) (by omega) (by omega)
   subst e1
   rw [Int.toNat_natCast] at h0 h1
   have hnext := Sn_succ xs k hlt
   have hfit := HX.out (xs.getD k zAddr) (by rw [List.getD, List.getElem?_eq_getElem hlt]; exact List.getElem_mem hlt)
   have hy : xs.getD k zAddr = rd_TAddr xs (k : Int) := rfl
   rw [hy] at hnext hfit
   generalize rd_TAddr xs (k : Int) = y at h0 h1 hnext hfit
   have hkey := akey_is y hfit
   have HN := Lib.hid hnext
   have hsz := BW.out.size
   clear hnext hy
   have hlt' : (k : Int) < (xs.length : Int) := by omega
   go_wp2_with (at_mapUpdate; refine wpList_mapUpdate_own _ rfl _ _ _ 92 rfl 25 4 addr_law Tryz.underlying92 (plainElem (H := Unit) Tryz.prog 4) w.heap.size k _ rfl (HM.out.alloc _) (by unfold maxLen; omega) _ _ _ rfl rfl hkey _ [] (plainElem_bool Tryz.underlying4 true) ?_; intro w1 hown1 hgrow1)
   go_roundg (xs.length - (k + 1))
   case measure => omega
   case rel => exact ⟨k + 1, by omega, Nat.le_refl _, rfl, ⟨(BW.out.alloc hsz _).grown hgrow1 (by simp; omega) (fun j hj => by cases hj; exact Nat.le_refl _)⟩, ⟨by rw [HN.out]; exact hown1⟩⟩
  ·have hlt' : ¬ (k : Int) < (xs.length : Int) := by omega
   obtain rfl : k = xs.length := by omega
   have hs := Sn_size xs HX.out
   have hl2 := HM.out.size_le
   go_wp2_with (at_len; refine wpList_len_own _ rfl _ 92 rfl 25 4 Tryz.underlying92 _ w.heap.size _ _ rfl HM.out ?_)
   go_ret
   refine ⟨retb ?_, BW.out⟩
   rw [Bool.eq_iff_iff, decide_eq_true_iff, ← hs]
   first | (rw [beq_iff_eq]; omega) | (rw [decide_eq_true_iff]; omega) | skip
end Go.Proofs.YticepbgacokbbaaGreatDoor
