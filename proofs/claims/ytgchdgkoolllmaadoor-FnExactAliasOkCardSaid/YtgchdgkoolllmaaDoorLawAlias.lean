/- The law FnExactAliasOk, walked. -/
import Derived.Test.YtgchdgkoolllmaaDoorAliasI
import Derived.Test.YtgchdgkoolllmaaDoorAliasS
import Derived.Test.YtgchdgkoolllmaaDoorTo
import Derived.Test.YtgchdgkoolllmaaDoorEq
namespace Go.Proofs.YtgchdgkoolllmaaDoor
open Go.RowKit Go.Proofs.YtgchdgkoolllmaaDoorW.PrintWords
set_option linter.unusedVariables false
set_option linter.unusedSimpArgs false

set_option maxRecDepth 100000 in
set_option maxHeartbeats 8000000 in
theorem walk_FnExactAliasOk (A : Option Addr) (c : Nat) (xs : List SAlias) {w : World} (hr : Kd.C kAlias w A xs.length xs) (hw : (xs.length ≤ 9223372036854775807 ∧ ∀ y ∈ xs, wideAlias y)) (hG : Glob w) :
    Calls Tryd.prog 12 #[.slice A xs.length c] w fun e w' => e = .returned (.bool true) ∧ Below w.heap.size w w' := by
  have hszz := szAliasS_any A c xs 1048576 w (by omega) (by omega) hw hr
  have hto := fun (W : World) (hW : Below w.heap.size w W) (hf : (xs.length ≤ 1048576 ∧ ∀ y ∈ xs, fitAlias y)) => toAliasS_any A c xs W hf (Kd.C_below hr hW)
  have HG := Lib.hid hG
  clear hw hr hG
  go_enter Tryd.func12, Tryd.ntmps12
  go_wp2_with fail
  refine hszz.mono ?_
  rintro e w1 ⟨r, rfl, hle, hs, B1⟩
  clear hszz
  by_cases n0 : r < 0
  · go_wp2
    go_ret
    exact ⟨rfl, B1⟩
  have hf := hs (by omega)
  clear hs
  go_wp2_with fail
  refine (hto _ B1 hf).mono ?_
  rintro e w2 ⟨B, d, rfl, g2, b2⟩
  have B2 := bel_then B1 b2
  go_wp2_with fail
  refine (specAliasOk_any B d xs w2 hf (Kd.R_reads' g2).2.2).mono ?_
  rintro e w3 ⟨rfl, b3⟩
  have B3 := bel_then B2 b3
  clear g2 b2 b3
  generalize hv : aliasOk xs = val
  have HV := Lib.hid hv
  clear hv
  go_wp2_with fail
  refine (hto _ B3 hf).mono ?_
  rintro e w4 ⟨E, ec, rfl, g4, b4⟩
  have B4 := bel_then B3 b4
  have C4 := (Kd.R_reads' g4).2.2
  clear g4 b4
  have himp := aliasOk_any E ec xs w4 hf C4 (HG.out.below B4)
  rw [HV.out] at himp
  go_wp2_with fail
  refine himp.mono ?_
  rintro e w5 ⟨rfl, b5⟩
  have B5 := bel_then B4 b5
  clear himp
  go_wp2_with fail
  refine (hto _ B5 hf).mono ?_
  rintro e w6 ⟨G, gc, rfl, g6, b6⟩
  have C6 := (Kd.R_reads' g6).2.2
  go_wp2_with fail
  refine (eqAliasS_any E ec G gc xs w6 hf (Kd.C_below C4 (bel_then b5 b6)) C6).mono ?_
  rintro e w7 ⟨rfl, b7⟩
  go_wp2
  go_ret
  exact ⟨rfl, bel_then B5 (bel_then b6 b7)⟩

end Go.Proofs.YtgchdgkoolllmaaDoor
