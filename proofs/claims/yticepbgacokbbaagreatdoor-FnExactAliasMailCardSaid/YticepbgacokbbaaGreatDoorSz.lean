/- The laws' measures of their arguments: contracts. -/
import Derived.Test.YticepbgacokbbaaGreatDoorKit0
namespace Go.Proofs.YticepbgacokbbaaGreatDoor
open Go.RowKit Go.Proofs.YticepbgacokbbaaGreatDoorW.PrintWords
set_option linter.unusedVariables false
set_option linter.unusedSimpArgs false

def SzPost (good : Prop) (left : Int) (w : World) (e : Ending) (w' : World) : Prop := ∃ r : Int, e = .returned (.int .i64 r) ∧ r ≤ left ∧ (0 ≤ r → good) ∧ Below w.heap.size w w'
set_option maxRecDepth 100000 in
set_option maxHeartbeats 1000000 in
theorem szAddr_any (x : SAddr)  (left : Int) (w : World) (h0 : 0 ≤ left) (h1 : left ≤ 1048576) (hw : wideAddr x)  :
  Calls Tryz.prog 44 #[.agg #[.string x.f0, .string x.f1], .int .i64 left] w (SzPost (fitAddr x) left w) := by
 unfold wideAddr at hw
 obtain ⟨hw_0, hw_1⟩ := hw
 have B0 : Below w.heap.size w (w.alloc (.cells #[.string x.f0, .string x.f1] 40)) := (Below.refl _ _).alloc (Nat.le_refl _) _
 go_enter Tryz.func44, Tryz.ntmps44
 by_cases n0 : left - (x.f0.size : Int) < 0
 ·go_wp2
  go_ret
  exact ⟨-1, rfl, by omega, fun h => absurd h (by decide), B0⟩
 rw [Int.not_lt] at n0
 by_cases n1 : (left - (x.f0.size : Int)) - (x.f1.size : Int) < 0
 ·go_wp2
  go_ret
  exact ⟨-1, rfl, by omega, fun h => absurd h (by decide), B0⟩
 rw [Int.not_lt] at n1
 go_wp2
 go_ret
 exact ⟨_, rfl, by omega, fun _ => ⟨(show x.f0.size ≤ 1048576 by omega), (show x.f1.size ≤ 1048576 by omega)⟩, B0⟩
set_option maxRecDepth 100000 in
set_option maxHeartbeats 1000000 in
theorem szStringS_any (A : Option Addr) (c : Nat) (xs : List ByteArray) (left : Int) (w : World) (h0 : 0 ≤ left) (h1 : left ≤ 1048576) (hw : (xs.length ≤ 9223372036854775807 ∧ ∀ y ∈ xs, y.size ≤ 9223372036854775807)) (hr : Kd.C Kd.string w A xs.length xs) :
  Calls Tryz.prog 46 #[.slice A xs.length c, .int .i64 left] w (SzPost (xs.length ≤ 1048576 ∧ ∀ y ∈ xs, y.size ≤ 1048576) left w) := by
 obtain ⟨hwl, hwx⟩ := hw
 have HX := Lib.hid hwx
 clear hwx
 by_cases n0 : left - (xs.length : Int) < 0
 ·go_enter Tryz.func46, Tryz.ntmps46
  go_wp2
  go_ret
  exact ⟨-1, rfl, by omega, fun h => absurd h (by decide), Below.refl _ _⟩
 go_enter Tryz.func46, Tryz.ntmps46
 go_wp2
 go_loopg [1, 5] (xs.length) (fun g l i wr => ∃ k : Nat, ∃ r : Int, k ≤ xs.length ∧ xs.length - k ≤ g ∧ l = .int .i64 r ∧ 0 ≤ r ∧ r ≤ left ∧ i = .int .i64 k ∧ Aside0 (Below w.heap.size w wr) ∧ Aside0 (∀ j, j < k → (xs.getD j (⟨#[]⟩ : ByteArray)).size ≤ 1048576))
 case atStart => exact ⟨0, _, Nat.zero_le _, by omega, rfl, by omega, by omega, rfl, ⟨Below.refl _ _⟩, ⟨fun j hj => absurd hj (Nat.not_lt_zero _)⟩⟩
 case round =>
  obtain ⟨k, r, hk, hg, rfl, hr0, hr1, rfl, BW, H⟩ := hrel
  by_cases hlt : k < xs.length
  ·obtain ⟨ad, e1, p0⟩ := at_Str (Kd.C_below hr BW.out) k hlt
   subst e1
   have hx := HX.out (xs.getD k (⟨#[]⟩ : ByteArray)) (getD_mem xs (⟨#[]⟩ : ByteArray) hlt)
   generalize hy : xs.getD k (⟨#[]⟩ : ByteArray) = y at hx p0
   have HY := Lib.hid hy
   clear hy
   by_cases n1 : r - (y.size : Int) < 0
   ·go_wp2
    go_ret
    exact ⟨-1, rfl, by omega, fun h => absurd h (by decide), BW.out⟩
   ·go_wp2
    go_roundg (xs.length - (k + 1))
    case measure => omega
    case rel => exact ⟨k + 1, _, by omega, Nat.le_refl _, rfl, by omega, by omega, by go_num, BW, ⟨fun j hj => by
     by_cases e : j = k
     ·subst e; rw [HY.out]; omega
     ·exact H.out j (by omega)⟩⟩
  ·go_wp2
   go_ret
   exact ⟨_, rfl, by omega, fun _ => ⟨by omega, all_of_getD xs (⟨#[]⟩ : ByteArray) _ (fun j hj => H.out j (by omega))⟩, BW.out⟩
set_option maxRecDepth 100000 in
set_option maxHeartbeats 1000000 in
theorem szAddrS_any (A : Option Addr) (c : Nat) (xs : List SAddr) (left : Int) (w : World) (h0 : 0 ≤ left) (h1 : left ≤ 1048576) (hw : (xs.length ≤ 9223372036854775807 ∧ ∀ y ∈ xs, wideAddr y)) (hr : Kd.C kAddr w A xs.length xs) :
  Calls Tryz.prog 45 #[.slice A xs.length c, .int .i64 left] w (SzPost (xs.length ≤ 1048576 ∧ ∀ y ∈ xs, fitAddr y) left w) := by
 obtain ⟨hwl, hwx⟩ := hw
 have HX := Lib.hid hwx
 clear hwx
 by_cases n0 : left - (xs.length : Int) < 0
 ·go_enter Tryz.func45, Tryz.ntmps45
  go_wp2
  go_ret
  exact ⟨-1, rfl, by omega, fun h => absurd h (by decide), Below.refl _ _⟩
 go_enter Tryz.func45, Tryz.ntmps45
 go_wp2
 go_loopg [1, 5] (xs.length) (fun g l i wr => ∃ k : Nat, ∃ r : Int, k ≤ xs.length ∧ xs.length - k ≤ g ∧ l = .int .i64 r ∧ 0 ≤ r ∧ r ≤ left ∧ i = .int .i64 k ∧ Aside0 (Below w.heap.size w wr) ∧ Aside0 (∀ j, j < k → fitAddr (xs.getD j zAddr)))
 case atStart => exact ⟨0, _, Nat.zero_le _, by omega, rfl, by omega, by omega, rfl, ⟨Below.refl _ _⟩, ⟨fun j hj => absurd hj (Nat.not_lt_zero _)⟩⟩
 case round =>
  obtain ⟨k, r, hk, hg, rfl, hr0, hr1, rfl, BW, H⟩ := hrel
  by_cases hlt : k < xs.length
  ·obtain ⟨ad, e1, p0, p1⟩ := at_Addr (Kd.C_below hr BW.out) k hlt
   subst e1
   have hx := HX.out (xs.getD k zAddr) (getD_mem xs zAddr hlt)
   generalize hy : xs.getD k zAddr = y at hx p0 p1
   have HY := Lib.hid hy
   clear hy
   have hcall := szAddr_any y  r wr hr0 (by omega) hx 
   clear hx 
   go_wp2_with fail
   refine hcall.mono ?_
   rintro e w1 ⟨r1, rfl, le1, s1, b1⟩
   have B1 : Below w.heap.size w w1 := BW.out.trans (b1.mono BW.out.size)
   clear b1 hcall
   by_cases n1 : r1 < 0
   ·go_wp2
    go_ret
    exact ⟨-1, rfl, by omega, fun h => absurd h (by decide), B1⟩
   ·go_wp2
    go_roundg (xs.length - (k + 1))
    case measure => omega
    case rel => exact ⟨k + 1, _, by omega, Nat.le_refl _, rfl, by omega, by omega, by go_num, ⟨B1⟩, ⟨fun j hj => by
     by_cases e : j = k
     ·subst e; rw [HY.out]; exact s1 (by omega)
     ·exact H.out j (by omega)⟩⟩
  ·go_wp2
   go_ret
   exact ⟨_, rfl, by omega, fun _ => ⟨by omega, all_of_getD xs zAddr _ (fun j hj => H.out j (by omega))⟩, BW.out⟩
set_option maxRecDepth 100000 in
set_option maxHeartbeats 1000000 in
theorem szAlias_any (x : SAlias) (A0 : Option Addr) (c0 : Nat) (left : Int) (w : World) (h0 : 0 ≤ left) (h1 : left ≤ 1048576) (hw : wideAlias x) (hr0 : Kd.C kAddr w A0 x.f1.length x.f1) :
  Calls Tryz.prog 43 #[.agg #[.string x.f0.f0, .string x.f0.f1, .slice A0 x.f1.length c0], .int .i64 left] w (SzPost (fitAlias x) left w) := by
 unfold wideAlias at hw
 obtain ⟨hw_0, hw_1⟩ := hw
 have hc_0 := fun (l : Int) (W : World) (hW : Below w.heap.size w W) (a : 0 ≤ l) (b : l ≤ 1048576) => szAddr_any x.f0  l W a b hw_0 
 have hc_1 := fun (l : Int) (W : World) (hW : Below w.heap.size w W) (a : 0 ≤ l) (b : l ≤ 1048576) => szAddrS_any A0 c0 x.f1 l W a b hw_1 (Kd.C_below hr0 hW)
 have B0 : Below w.heap.size w (w.alloc (.cells #[.string x.f0.f0, .string x.f0.f1, .slice A0 x.f1.length c0] 77)) := (Below.refl _ _).alloc (Nat.le_refl _) _
 clear hr0
 go_enter Tryz.func43, Tryz.ntmps43
 go_wp2_with fail
 refine (hc_0 _ _ B0 (by omega) (by omega)).mono ?_
 rintro e w0 ⟨r0, rfl, le0, s0, b0⟩
 have B1 : Below w.heap.size w w0 := B0.trans (b0.mono B0.size)
 obtain ⟨q0, _⟩ := bcell b0
 have z0 : w.heap.size < w0.heap.size := by have := b0.size; (try simp at this); omega
 clear b0 hc_0
 by_cases n0 : r0 < 0
 ·go_wp2
  go_ret
  exact ⟨-1, rfl, by omega, fun h => absurd h (by decide), B1⟩
 rw [Int.not_lt] at n0
 go_wp2_with fail
 refine (hc_1 _ _ B1 (by omega) (by omega)).mono ?_
 rintro e w1 ⟨r1, rfl, le1, s1, b1⟩
 have B2 : Below w.heap.size w w1 := B1.trans (b1.mono B1.size)
 clear b1 hc_1
 by_cases n1 : r1 < 0
 ·go_wp2
  go_ret
  exact ⟨-1, rfl, by omega, fun h => absurd h (by decide), B2⟩
 rw [Int.not_lt] at n1
 go_wp2
 go_ret
 exact ⟨_, rfl, by omega, fun _ => ⟨(s0 n0), (s1 n1)⟩, B2⟩
set_option maxRecDepth 100000 in
set_option maxHeartbeats 1000000 in
theorem szAliasS_any (A : Option Addr) (c : Nat) (xs : List SAlias) (left : Int) (w : World) (h0 : 0 ≤ left) (h1 : left ≤ 1048576) (hw : (xs.length ≤ 9223372036854775807 ∧ ∀ y ∈ xs, wideAlias y)) (hr : Kd.C kAlias w A xs.length xs) :
  Calls Tryz.prog 12 #[.slice A xs.length c, .int .i64 left] w (SzPost (xs.length ≤ 1048576 ∧ ∀ y ∈ xs, fitAlias y) left w) := by
 obtain ⟨hwl, hwx⟩ := hw
 have HX := Lib.hid hwx
 clear hwx
 by_cases n0 : left - (xs.length : Int) < 0
 ·go_enter Tryz.func12, Tryz.ntmps12
  go_wp2
  go_ret
  exact ⟨-1, rfl, by omega, fun h => absurd h (by decide), Below.refl _ _⟩
 go_enter Tryz.func12, Tryz.ntmps12
 go_wp2
 go_loopg [1, 5] (xs.length) (fun g l i wr => ∃ k : Nat, ∃ r : Int, k ≤ xs.length ∧ xs.length - k ≤ g ∧ l = .int .i64 r ∧ 0 ≤ r ∧ r ≤ left ∧ i = .int .i64 k ∧ Aside0 (Below w.heap.size w wr) ∧ Aside0 (∀ j, j < k → fitAlias (xs.getD j zAlias)))
 case atStart => exact ⟨0, _, Nat.zero_le _, by omega, rfl, by omega, by omega, rfl, ⟨Below.refl _ _⟩, ⟨fun j hj => absurd hj (Nat.not_lt_zero _)⟩⟩
 case round =>
  obtain ⟨k, r, hk, hg, rfl, hr0, hr1, rfl, BW, H⟩ := hrel
  by_cases hlt : k < xs.length
  ·obtain ⟨ad, A0, c0, e1, p0, p1, p2, l0, q0⟩ := at_Alias (Kd.C_below hr BW.out) k hlt
   subst e1
   have hx := HX.out (xs.getD k zAlias) (getD_mem xs zAlias hlt)
   generalize hy : xs.getD k zAlias = y at hx p0 p1 p2 q0 l0
   have HY := Lib.hid hy
   clear hy
   have hcall := szAlias_any y A0 c0 r wr hr0 (by omega) hx q0
   clear hx q0
   go_wp2_with fail
   refine hcall.mono ?_
   rintro e w1 ⟨r1, rfl, le1, s1, b1⟩
   have B1 : Below w.heap.size w w1 := BW.out.trans (b1.mono BW.out.size)
   clear b1 hcall
   by_cases n1 : r1 < 0
   ·go_wp2
    go_ret
    exact ⟨-1, rfl, by omega, fun h => absurd h (by decide), B1⟩
   ·go_wp2
    go_roundg (xs.length - (k + 1))
    case measure => omega
    case rel => exact ⟨k + 1, _, by omega, Nat.le_refl _, rfl, by omega, by omega, by go_num, ⟨B1⟩, ⟨fun j hj => by
     by_cases e : j = k
     ·subst e; rw [HY.out]; exact s1 (by omega)
     ·exact H.out j (by omega)⟩⟩
  ·go_wp2
   go_ret
   exact ⟨_, rfl, by omega, fun _ => ⟨by omega, all_of_getD xs zAlias _ (fun j hj => H.out j (by omega))⟩, BW.out⟩
set_option maxRecDepth 100000 in
set_option maxHeartbeats 1000000 in
theorem szMail_any (x : SMail) (A0 : Option Addr) (c0 : Nat) (A1 : Option Addr) (c1 : Nat) (left : Int) (w : World) (h0 : 0 ≤ left) (h1 : left ≤ 1048576) (hw : wideMail x) (hr0 : Kd.C kAddr w A0 x.f1.length x.f1) (hr1 : Kd.C Kd.string w A1 x.f2.length x.f2) :
  Calls Tryz.prog 13 #[.agg #[.string x.f0.f0, .string x.f0.f1, .slice A0 x.f1.length c0, .slice A1 x.f2.length c1], .int .i64 left] w (SzPost (fitMail x) left w) := by
 unfold wideMail at hw
 obtain ⟨hw_0, hw_1, hw_2⟩ := hw
 have hc_0 := fun (l : Int) (W : World) (hW : Below w.heap.size w W) (a : 0 ≤ l) (b : l ≤ 1048576) => szAddr_any x.f0  l W a b hw_0 
 have hc_1 := fun (l : Int) (W : World) (hW : Below w.heap.size w W) (a : 0 ≤ l) (b : l ≤ 1048576) => szAddrS_any A0 c0 x.f1 l W a b hw_1 (Kd.C_below hr0 hW)
 have hc_2 := fun (l : Int) (W : World) (hW : Below w.heap.size w W) (a : 0 ≤ l) (b : l ≤ 1048576) => szStringS_any A1 c1 x.f2 l W a b hw_2 (Kd.C_below hr1 hW)
 have B0 : Below w.heap.size w (w.alloc (.cells #[.string x.f0.f0, .string x.f0.f1, .slice A0 x.f1.length c0, .slice A1 x.f2.length c1] 43)) := (Below.refl _ _).alloc (Nat.le_refl _) _
 clear hr0 hr1
 go_enter Tryz.func13, Tryz.ntmps13
 go_wp2_with fail
 refine (hc_0 _ _ B0 (by omega) (by omega)).mono ?_
 rintro e w0 ⟨r0, rfl, le0, s0, b0⟩
 have B1 : Below w.heap.size w w0 := B0.trans (b0.mono B0.size)
 obtain ⟨q0, _⟩ := bcell b0
 have z0 : w.heap.size < w0.heap.size := by have := b0.size; (try simp at this); omega
 clear b0 hc_0
 by_cases n0 : r0 < 0
 ·go_wp2
  go_ret
  exact ⟨-1, rfl, by omega, fun h => absurd h (by decide), B1⟩
 rw [Int.not_lt] at n0
 go_wp2_with fail
 refine (hc_1 _ _ B1 (by omega) (by omega)).mono ?_
 rintro e w1 ⟨r1, rfl, le1, s1, b1⟩
 have B2 : Below w.heap.size w w1 := B1.trans (b1.mono B1.size)
 obtain ⟨q1, _⟩ := bcell b1
 have z1 : w.heap.size < w1.heap.size := by have := b1.size; (try simp at this); omega
 clear b1 hc_1
 by_cases n1 : r1 < 0
 ·go_wp2
  go_ret
  exact ⟨-1, rfl, by omega, fun h => absurd h (by decide), B2⟩
 rw [Int.not_lt] at n1
 go_wp2_with fail
 refine (hc_2 _ _ B2 (by omega) (by omega)).mono ?_
 rintro e w2 ⟨r2, rfl, le2, s2, b2⟩
 have B3 : Below w.heap.size w w2 := B2.trans (b2.mono B2.size)
 clear b2 hc_2
 by_cases n2 : r2 < 0
 ·go_wp2
  go_ret
  exact ⟨-1, rfl, by omega, fun h => absurd h (by decide), B3⟩
 rw [Int.not_lt] at n2
 go_wp2
 go_ret
 exact ⟨_, rfl, by omega, fun _ => ⟨(s0 n0), (s1 n1), (s2 n2)⟩, B3⟩
end Go.Proofs.YticepbgacokbbaaGreatDoor
