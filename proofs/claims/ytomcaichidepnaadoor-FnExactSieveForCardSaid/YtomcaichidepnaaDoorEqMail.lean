/- eqAddrS, eqStringS, eqMail of the same twice; szRuleS with its bound. -/
import Derived.Test.YtomcaichidepnaaDoorHelpMail
import Derived.StillTailTactics
namespace Go.Proofs.YtomcaichidepnaaDoor
open Go.RowKit Go.Proofs.YtomcaichidepnaaDoorW.PrintWords P
set_option linter.unusedVariables false
set_option linter.unusedSimpArgs false

theorem eqAddr_any (u d : ByteArray) (w : World) : Calls Tryd.prog 64 #[.agg #[.string u, .string d], .agg #[.string u, .string d]] w fun e w' => e = .returned (.bool true) ∧ Below w.heap.size w w' :=
  laws_eqAddr.calls u d u d true w (eqAddr_refl u d)
theorem drew0 {B : Nat} {a W : World} (h : Below B a W) : Below B a W.drew := ⟨h.os, h.tape, h.output, h.size, h.block⟩
set_option maxRecDepth 100000 in
set_option maxHeartbeats 1000000 in
theorem eqAddrS_any (A A' : Option Addr) (c c' : Nat) (xs : List S33) (w : World) (hr : Kd.C k33 w A xs.length xs) (hr' : Kd.C k33 w A' xs.length xs) (hl : xs.length < 9223372036854775807) :
    Calls Tryd.prog 65 #[.slice A xs.length c, .slice A' xs.length c'] w fun e w' => e = .returned (.bool true) ∧ Below w.heap.size w w' := by
  go_enter Tryd.func65, Tryd.ntmps65
  go_wp2
  go_loopg [5] (xs.length) (fun g v wr => ∃ k : Nat, k ≤ xs.length ∧ xs.length - k ≤ g ∧ v = .int .i64 k ∧ Aside0 (Below w.heap.size w wr))
  case atStart => exact ⟨0, Nat.zero_le _, by omega, rfl, ⟨Below.refl _ _⟩⟩
  case round =>
    obtain ⟨k, hk, hg, rfl, BW⟩ := hrel
    by_cases hlt : k < xs.length
    · have hlt' : (k : Int) < (xs.length : Int) := by omega
      have BD : Aside0 (Below w.heap.size w wr.drew) := ⟨drew0 BW.out⟩
      obtain ⟨ad, e1, h0, h1⟩ := at_T33 (Kd.C_below hr BW.out) (k : Int) (by omega) (by omega)
      obtain ⟨ae, e2, g0, g1⟩ := at_T33 (Kd.C_below hr' BW.out) (k : Int) (by omega) (by omega)
      subst e1
      subst e2
      rw [Int.toNat_natCast] at h0 h1 g0 g1
      generalize rd_T33 xs (k : Int) = y at h0 h1 g0 g1
      go_wp2
      go_still_tail 8, (by kernel_rfl)
      change wpList _ _ _ _ _ wr.drew
      generalize wr.drew = wd at BD
      clear BW
      go_wp2_with (go_at_call 64; refine (eqAddr_any _ _ _).mono ?_; rintro e w1 ⟨rfl, hb1⟩)
      go_roundg (xs.length - (k + 1))
      case measure => omega
      case rel => exact ⟨k + 1, by omega, Nat.le_refl _, rfl, ⟨BD.out.trans (hb1.mono BD.out.size)⟩⟩
    · have hlt' : ¬ (k : Int) < (xs.length : Int) := by omega
      go_wp2
      go_ret
      exact ⟨rfl, BW.out⟩
set_option maxRecDepth 100000 in
set_option maxHeartbeats 1000000 in
theorem eqStringS_any (A A' : Option Addr) (c c' : Nat) (xs : List ByteArray) (w : World) (hr : Kd.C Kd.string w A xs.length xs) (hr' : Kd.C Kd.string w A' xs.length xs) (hl : xs.length < 9223372036854775807) :
    Calls Tryd.prog 66 #[.slice A xs.length c, .slice A' xs.length c'] w fun e w' => e = .returned (.bool true) ∧ Below w.heap.size w w' := by
  go_enter Tryd.func66, Tryd.ntmps66
  go_wp2
  go_loopg [5] (xs.length) (fun g v wr => ∃ k : Nat, k ≤ xs.length ∧ xs.length - k ≤ g ∧ v = .int .i64 k ∧ Aside0 (Below w.heap.size w wr))
  case atStart => exact ⟨0, Nat.zero_le _, by omega, rfl, ⟨Below.refl _ _⟩⟩
  case round =>
    obtain ⟨k, hk, hg, rfl, BW⟩ := hrel
    by_cases hlt : k < xs.length
    · have hlt' : (k : Int) < (xs.length : Int) := by omega
      obtain ⟨ad, e1, h0⟩ := Kd.at_string (Kd.C_below hr BW.out) (k : Int) (by omega) (by omega)
      obtain ⟨ae, e2, g0⟩ := Kd.at_string (Kd.C_below hr' BW.out) (k : Int) (by omega) (by omega)
      subst e1
      subst e2
      rw [Int.toNat_natCast] at h0 g0
      generalize rdOf ByteArray.empty xs (k : Int) = y at h0 g0
      have hyy : (y.toList == y.toList) = true := beq_self_eq_true _
      go_wp2
      repeat (go_quiet (fail); try go_wp2)
      go_roundg (xs.length - (k + 1))
      case measure => omega
      case rel => exact ⟨k + 1, by omega, Nat.le_refl _, rfl, ⟨by first | exact BW.out | exact ⟨BW.out.os, BW.out.tape, BW.out.output, BW.out.size, BW.out.block⟩⟩⟩
    · have hlt' : ¬ (k : Int) < (xs.length : Int) := by omega
      go_wp2
      go_ret
      exact ⟨rfl, BW.out⟩
def cellsIn (W : World) (b : Nat) (u d : ByteArray) (x y : Value) : Prop := W.cell? ⟨b, 0, none⟩ = some (.string u) ∧ W.cell? ⟨b, 1, none⟩ = some (.string d) ∧ W.cell? ⟨b, 2, none⟩ = some x ∧ W.cell? ⟨b, 3, none⟩ = some y
theorem cellsIn.below {W W' : World} {b : Nat} {u d : ByteArray} {x y : Value} (h : cellsIn W b u d x y) (hb : Below W.heap.size W W') (hlt : b < W.heap.size) : cellsIn W' b u d x y :=
  ⟨(hb.cell (p := ⟨b, 0, none⟩) hlt).trans h.1, (hb.cell (p := ⟨b, 1, none⟩) hlt).trans h.2.1, (hb.cell (p := ⟨b, 2, none⟩) hlt).trans h.2.2.1, (hb.cell (p := ⟨b, 3, none⟩) hlt).trans h.2.2.2⟩
set_option maxRecDepth 100000 in
set_option maxHeartbeats 1000000 in
theorem eqMail_any (u d : ByteArray) (A1 : Option Addr) (c1 : Nat) (tos : List S33) (A2 : Option Addr) (c2 : Nat) (body : List ByteArray) (A3 : Option Addr) (c3 : Nat) (A4 : Option Addr) (c4 : Nat) (w : World)
    (h1 : Kd.C k33 w A1 tos.length tos) (h2 : Kd.C Kd.string w A2 body.length body) (h3 : Kd.C k33 w A3 tos.length tos) (h4 : Kd.C Kd.string w A4 body.length body) (hl : tos.length < 9223372036854775807) (hl' : body.length < 9223372036854775807) :
    Calls Tryd.prog 28 #[.agg #[.string u, .string d, .slice A1 tos.length c1, .slice A2 body.length c2], .agg #[.string u, .string d, .slice A3 tos.length c3, .slice A4 body.length c4]] w fun e w' => e = .returned (.bool true) ∧ Below w.heap.size w w' := by
  have t1 := fun W (hW : Below w.heap.size w W) => eqAddrS_any A1 A3 c1 c3 tos W (Kd.C_below h1 hW) (Kd.C_below h3 hW) hl
  have t2 := fun W (hW : Below w.heap.size w W) => eqStringS_any A2 A4 c2 c4 body W (Kd.C_below h2 hW) (Kd.C_below h4 hW) hl'
  clear h1 h2 h3 h4
  go_enter Tryd.func28, Tryd.ntmps28
  go_wp2_with (go_at_call 64; fail)
  obtain ⟨W0, hW0⟩ : ∃ W0, W0 = (w.alloc (.cells #[.string u, .string d, .slice A1 tos.length c1, .slice A2 body.length c2] 37)).alloc (.cells #[.string u, .string d, .slice A3 tos.length c3, .slice A4 body.length c4] 37) := ⟨_, rfl⟩
  rw [← hW0]
  have B0 : Below w.heap.size w W0 := by rw [hW0]; exact ((Below.refl _ _).alloc (Nat.le_refl _) _).alloc (by simp) _
  have Z0 : w.heap.size + 1 < W0.heap.size := by rw [hW0]; simp
  have X0 : cellsIn W0 w.heap.size u d (.slice A1 tos.length c1) (.slice A2 body.length c2) := by unfold cellsIn; rw [hW0]; simp
  have Y0 : cellsIn W0 (w.heap.size + 1) u d (.slice A3 tos.length c3) (.slice A4 body.length c4) := by unfold cellsIn; rw [hW0]; simp
  clear hW0
  refine (eqAddr_any u d _).mono ?_
  rintro e w1 ⟨rfl, hb1⟩
  have B1 := B0.trans (hb1.mono B0.size)
  have X1 := X0.below hb1 (by omega)
  have Y1 := Y0.below hb1 Z0
  have Z1 := Nat.lt_of_lt_of_le Z0 hb1.size
  clear hb1 X0 Y0
  obtain ⟨_, _, x2, x3⟩ := X1
  obtain ⟨_, _, y2, y3⟩ := Y1
  go_wp2_with (go_at_call 65; refine (t1 _ B1).mono ?_; rintro e w2 ⟨rfl, hb2⟩; have z3 := (hb2.cell (p := ⟨w.heap.size, 3, none⟩) (by show w.heap.size < _; omega)).trans x3; have zz3 := (hb2.cell (p := ⟨w.heap.size + 1, 3, none⟩) Z1).trans y3; have B2 := B1.trans (hb2.mono B1.size); clear hb2)
  refine (t2 _ B2).mono ?_
  rintro e w3 ⟨rfl, hb3⟩
  go_wp2
  go_ret
  exact ⟨rfl, B2.trans (hb3.mono B2.size)⟩
theorem szRuleS_any2 (A : Option Addr) (c : Nat) (xs : List S61) (w : World) (hr : Kd.C k61 w A xs.length xs) (hc : xs.length ≤ c) (hl : Wide xs.length) (hw : ∀ x ∈ xs, wideR x) :
    ∃ r : Int, r ≤ 1048576 ∧ (0 ≤ r → Small xs.length ∧ ∀ x ∈ xs, smallR x) ∧ Calls Tryd.prog 9 #[.slice A xs.length c, .int .i64 1048576] w fun e w' => e = .returned (.int .i64 r) ∧ Below w.heap.size w w' := by
  obtain ⟨r, hr', hle, hs⟩ := szRuleS_ev2 xs 1048576 (by omega) (by omega) hl hw
  obtain ⟨k, hk⟩ := hr'.rounds
  exact ⟨r, hle, hs, laws_szRuleS.calls k A c xs 1048576 r w hr hc hk⟩
end Go.Proofs.YtomcaichidepnaaDoor
