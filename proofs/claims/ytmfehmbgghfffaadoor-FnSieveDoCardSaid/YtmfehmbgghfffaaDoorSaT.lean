/- The laws' comparison of texts, of any: a weak contract. -/
import Derived.Test.YtmfehmbgghfffaaDoorSaB
namespace Go.Proofs.YtmfehmbgghfffaaDoor
open Go.RowKit Go.Proofs.YtmfehmbgghfffaaDoorW.PrintWords
set_option linter.unusedVariables false
set_option linter.unusedSimpArgs false
def SomeB (e : Ending) : Prop := ∃ b, e = .returned (.bool b)
set_option maxRecDepth 100000 in
set_option maxHeartbeats 1000000 in
theorem saTexts_some (A : Option Addr) (c : Nat) (B : Option Addr) (d : Nat) (xs ys : List ByteArray) (w : World) (hl : xs.length ≤ 1048576) (hr : Kd.C Kd.string w A xs.length xs) (gr : Kd.C Kd.string w B ys.length ys) :
    Calls Tryd.prog 31 #[.slice A xs.length c, .slice B ys.length d] w fun e w' => SomeB e ∧ Below w.heap.size w w' := by
  by_cases hn : xs.length = ys.length
  · have hn1 : ((xs.length : Int) == (ys.length : Int)) = true := by simp [hn]
    go_enter Tryd.func31, Tryd.ntmps31
    go_wp2
    go_loopg [5] (xs.length) (fun g v wr => ∃ k : Nat, k ≤ xs.length ∧ xs.length - k ≤ g ∧ v = .int .i64 k ∧ Aside0 (Below w.heap.size w wr))
    case atStart => exact ⟨0, Nat.zero_le _, by omega, rfl, ⟨Below.refl _ _⟩⟩
    case round =>
      obtain ⟨k, hk, hg, rfl, BW⟩ := hrel
      by_cases hlt : k < xs.length
      · have hlt' : (k : Int) < (xs.length : Int) := by omega
        have hlt2 : (k : Int) < (ys.length : Int) := by omega
        obtain ⟨ad, e1, p0⟩ := at_Str (Kd.C_below hr BW.out) k hlt
        obtain ⟨ae, e2, r0⟩ := at_Str (Kd.C_below gr BW.out) k (by omega)
        subst e1
        subst e2
        generalize xs.getD k ⟨#[]⟩ = y at p0
        generalize ys.getD k ⟨#[]⟩ = z at r0
        cases hq : (y.toList == z.toList)
        · go_wp2
          repeat (go_quiet (fail); try go_wp2)
          go_ret
          exact ⟨⟨_, rfl⟩, by first | exact BW.out | exact ⟨BW.out.os, BW.out.tape, BW.out.output, BW.out.size, BW.out.block⟩⟩
        · go_wp2
          repeat (go_quiet (fail); try go_wp2)
          go_roundg (xs.length - (k + 1))
          case measure => omega
          case rel => exact ⟨k + 1, by omega, Nat.le_refl _, by go_num, ⟨by first | exact BW.out | exact ⟨BW.out.os, BW.out.tape, BW.out.output, BW.out.size, BW.out.block⟩⟩⟩
      · have hlt' : ¬ (k : Int) < (xs.length : Int) := by omega
        go_wp2
        go_ret
        exact ⟨⟨_, rfl⟩, BW.out⟩
  · have hn1 : ((xs.length : Int) == (ys.length : Int)) = false := by simp; omega
    go_enter Tryd.func31, Tryd.ntmps31
    go_wp2
    go_ret
    exact ⟨⟨_, rfl⟩, Below.refl _ _⟩

end Go.Proofs.YtmfehmbgghfffaaDoor
