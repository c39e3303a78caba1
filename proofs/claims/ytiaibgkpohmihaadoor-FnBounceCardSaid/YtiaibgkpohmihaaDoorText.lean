/- An address's text: contracts. -/
import Derived.Test.YtiaibgkpohmihaaDoorAddr2
import Derived.Test.YtiaibgkpohmihaaDoorSpecC
import Derived.Test.YtiaibgkpohmihaaDoorShelf
namespace Go.Proofs.YtiaibgkpohmihaaDoor
open Go.RowKit Go.Proofs.YtiaibgkpohmihaaDoorW.PrintWords
set_option linter.unusedVariables false
set_option linter.unusedSimpArgs false

def textS (x0 x1 : ByteArray) : ByteArray := if nul x0.data.toList x1.data.toList then ⟨#[60, 62]⟩ else ((((⟨#[60]⟩ : ByteArray) ++ x0) ++ ⟨#[64]⟩) ++ x1) ++ ⟨#[62]⟩

set_option maxRecDepth 100000 in
theorem text_any (x0 x1 : ByteArray) (w : World) (h0 : x0.size ≤ 1048576) (h1 : x1.size ≤ 1048576) :
  Calls Tryd.prog 32 #[.agg #[.string x0, .string x1]] w fun e w' => e = .returned (.string (textS x0 x1)) ∧ Below w.heap.size w w' := by
 have hn := fun W => null_any x0 x1 W
 unfold textS
 generalize nul x0.data.toList x1.data.toList = q at hn
 have B0 := Below.refl w.heap.size w
 cases q
 all_goals
  go_enter Tryd.func32, Tryd.ntmps32
  go_wp2_with (go_at_call 29; refine (hn _).mono ?_; rintro e w1 ⟨rfl, b1⟩; have B1 : Below w.heap.size w w1 := bel_then (by (with_reducible repeat (first | exact B0 | refine bel_alloc ?_ _ | refine bel_set ?_ _ ?_ | refine blw_drewN ?_ _ | refine Below.drew ?_)); all_goals (first | (simp; done) | (simp; omega) | omega)) b1; obtain ⟨q1, p1⟩ := bcell b1; have z1_0 : w.heap.size < w1.heap.size := (by have hz := b1.size; (try simp at hz); omega); clear b1)
  go_ret
  exact ⟨rfl, B1⟩

set_option maxRecDepth 100000 in
theorem specPut_any (x0 x1 : ByteArray) (w : World) (h0 : x0.size ≤ 1048576) (h1 : x1.size ≤ 1048576) :
  Calls Tryd.prog 72 #[.agg #[.string x0, .string x1]] w fun e w' => e = .returned (.string (textS x0 x1)) ∧ Below w.heap.size w w' := by
 have hn := fun W => specNull_any x0 x1 W
 unfold textS
 generalize nul x0.data.toList x1.data.toList = q at hn
 have B0 := Below.refl w.heap.size w
 cases q
 all_goals
  go_enter Tryd.func72, Tryd.ntmps72
  go_wp2_with (go_at_call 36; refine (hn _).mono ?_; rintro e w1 ⟨rfl, b1⟩; have B1 : Below w.heap.size w w1 := bel_then (by (with_reducible repeat (first | exact B0 | refine bel_alloc ?_ _ | refine bel_set ?_ _ ?_ | refine blw_drewN ?_ _ | refine Below.drew ?_)); all_goals (first | (simp; done) | (simp; omega) | omega)) b1; obtain ⟨q1, p1⟩ := bcell b1; have z1_0 : w.heap.size < w1.heap.size := (by have hz := b1.size; (try simp at hz); omega); clear b1)
  go_ret
  exact ⟨rfl, B1⟩

end Go.Proofs.YtiaibgkpohmihaaDoor
