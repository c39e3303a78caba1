/- The laws' own comparisons, of the same twice: contracts. -/
import Derived.Test.YtiaibgkpohmihaaGreatDoorKit0
import Derived.Deep.QuietTactic
import Derived.BigQuiet
import Derived.StillTailTactics
namespace Go.Proofs.YtiaibgkpohmihaaGreatDoor
open Go.RowKit Go.Proofs.YtiaibgkpohmihaaGreatDoorW.PrintWords
set_option linter.unusedVariables false
set_option linter.unusedSimpArgs false

attribute [local go_sem high] eqA30
set_option maxRecDepth 100000 in
set_option maxHeartbeats 1000000 in
theorem saTexts_any (A : Option Addr) (c : Nat) (B : Option Addr) (d : Nat) (xs : List ByteArray) (w : World) (hw : (xs.length ≤ 1048576 ∧ ∀ y ∈ xs, y.size ≤ 1048576)) (hr : Kd.C Kd.string w A xs.length xs) (gr : Kd.C Kd.string w B xs.length xs) :
  Calls Tryz.prog 44 #[.slice A xs.length c, .slice B xs.length d] w fun e w' => e = .returned (.bool true) ∧ Below w.heap.size w w' := by
 obtain ⟨hwl, hwx⟩ := hw
 have HX := Lib.hid hwx
 clear hwx
 go_enter Tryz.func44, Tryz.ntmps44
 go_wp2
 go_loopg [5] (xs.length) (fun g v wr => ∃ k : Nat, k ≤ xs.length ∧ xs.length - k ≤ g ∧ v = .int .i64 k ∧ Aside0 (Below w.heap.size w wr))
 case atStart => exact ⟨0, Nat.zero_le _, by omega, rfl, ⟨Below.refl _ _⟩⟩
 case round =>
  obtain ⟨k, hk, hg, rfl, BW⟩ := hrel
  by_cases hlt : k < xs.length
  ·obtain ⟨ad, e1, p0⟩ := at_Str (Kd.C_below hr BW.out) k hlt
   obtain ⟨ae, e2, r0⟩ := at_Str (Kd.C_below gr BW.out) k hlt
   subst e1
   subst e2
   have hx := HX.out (xs.getD k (⟨#[]⟩ : ByteArray)) (getD_mem xs (⟨#[]⟩ : ByteArray) hlt)
   generalize xs.getD k (⟨#[]⟩ : ByteArray) = y at hx p0 r0
   have hyy : (y.toList == y.toList) = true := beq_self_eq_true _
   clear hx
   go_wp2
   repeat (go_quiet (fail); try go_wp2)
   go_roundg (xs.length - (k + 1))
   case measure => omega
   case rel => exact ⟨k + 1, by omega, Nat.le_refl _, rfl, ⟨by first | exact BW.out | exact ⟨BW.out.os, BW.out.tape, BW.out.output, BW.out.size, BW.out.block⟩⟩⟩
  ·go_wp2
   go_ret
   exact ⟨rfl, BW.out⟩
end Go.Proofs.YtiaibgkpohmihaaGreatDoor
