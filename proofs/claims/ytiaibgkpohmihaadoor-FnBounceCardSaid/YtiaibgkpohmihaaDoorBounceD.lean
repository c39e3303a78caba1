/- A body's identification, an address's text: contracts. -/
import Derived.Test.YtiaibgkpohmihaaDoorSpoolI
import Derived.Test.YtiaibgkpohmihaaDoorSpoolS2
import Derived.Test.YtiaibgkpohmihaaDoorText
namespace Go.Proofs.YtiaibgkpohmihaaDoor
open Go.RowKit Go.Proofs.YtiaibgkpohmihaaDoorW.PrintWords
set_option linter.unusedVariables false
set_option linter.unusedSimpArgs false

def midB : ByteArray := ⟨#[73, 100, 58, 32]⟩
def isMark (y : ByteArray) : Bool := Lib.hasPrefix y.data.toList [73, 100, 58, 32] && !(y.toList == ([73, 100, 58, 32] : List UInt8))
def markOf (xs : List ByteArray) : ByteArray := (xs.find? isMark).getD ⟨#[]⟩
theorem find_hit {α : Type} (p : α → Bool) (z : α) : ∀ (xs : List α) (k : Nat), k < xs.length → p (xs.getD k z) = true → (∀ j, j < k → p (xs.getD j z) = false) → xs.find? p = some (xs.getD k z)
 | [], k, h, _, _ => absurd h (Nat.not_lt_zero _)
 | x :: r, 0, _, h, _ => by rw [List.find?_cons]; simp at h; simp [h]
 | x :: r, k + 1, hk, h, hn => by
  have h0 : p x = false := by simpa using hn 0 (by omega)
  rw [List.find?_cons, h0]
  have := find_hit p z r k (by simpa using hk) (by simpa using h) (fun j hj => by simpa using hn (j + 1) (by omega))
  simpa using this
theorem find_miss {α : Type} (p : α → Bool) (z : α) (xs : List α) (h : ∀ j, j < xs.length → p (xs.getD j z) = false) : xs.find? p = none := by
 rw [List.find?_eq_none]
 intro x hx
 obtain ⟨j, hj, rfl⟩ := List.getElem_of_mem hx
 have := h j hj
 rw [List.getD, List.getElem?_eq_getElem hj] at this
 simpa using this
theorem isMark_raw (y : ByteArray) : isMark y = (decide (4 < (y.size : Int)) && ((y.extract 0 4).toList == ([73, 100, 58, 32] : List UInt8))) := by
 have h1 := Lib.hasPrefix_raw y midB
 rw [show midB.toList = ([73, 100, 58, 32] : List UInt8) from by rw [bl]; rfl] at h1
 unfold isMark
 rw [show Lib.hasPrefix y.data.toList ([73, 100, 58, 32] : List UInt8) = (decide (4 ≤ y.size) && ((y.extract 0 4).toList == ([73, 100, 58, 32] : List UInt8))) from h1.symm]
 by_cases h4 : y.size = 4
 ·have he : y.extract 0 4 = y := by rw [← h4]; exact ByteArray.extract_zero_size
  rw [he, decide_eq_false (show ¬ 4 < (y.size : Int) by omega), decide_eq_true (show 4 ≤ y.size by omega), Bool.true_and, Bool.false_and]
  cases (y.toList == ([73, 100, 58, 32] : List UInt8)) <;> rfl
 ·have hne : (y.toList == ([73, 100, 58, 32] : List UInt8)) = false := by
   rw [beq_eq_false_iff_ne]
   intro h
   rw [bl] at h
   have := congrArg List.length h
   rw [← Lib.size_eq] at this
   exact h4 (this.trans rfl)
  rw [hne, Bool.not_false, Bool.and_true]
  congr 1
  exact decide_eq_decide.2 (by omega)
theorem isMark_len {y : ByteArray} (h : isMark y = true) : 4 < y.size := by
 rw [isMark_raw, Bool.and_eq_true] at h
 have := of_decide_eq_true h.1
 omega
set_option maxRecDepth 100000 in
set_option maxHeartbeats 2000000 in
theorem mark_any (A : Option Addr) (c : Nat) (xs : List ByteArray) (w : World) (hr : Kd.C Kd.string w A xs.length xs) (hlen : xs.length ≤ 1048576) :
  Calls Tryd.prog 33 #[.slice A xs.length c] w fun e w' => e = .returned (.string (markOf xs)) ∧ Below w.heap.size w w' := by
 go_enter Tryd.func33, Tryd.ntmps33
 go_wp2
 go_loopg [4, 7] (xs.length) (fun g _ v wr => ∃ k : Nat, k ≤ xs.length ∧ xs.length - k ≤ g ∧ v = .int .i64 k ∧ Aside0 (Below w.heap.size w wr) ∧ Aside0 (∀ j, j < k → isMark (xs.getD j ⟨#[]⟩) = false))
 case atStart => exact ⟨0, Nat.zero_le _, by omega, rfl, ⟨Below.refl _ _⟩, ⟨fun j hj => absurd hj (Nat.not_lt_zero _)⟩⟩
 case round =>
  obtain ⟨k, hk, hg, rfl, BW, H⟩ := hrel
  by_cases hlt : k < xs.length
  ·have hlt' : (k : Int) < (xs.length : Int) := by omega
   obtain ⟨ad, e1, h0⟩ := at_Str (Kd.C_below hr BW.out) k hlt
   subst e1
   generalize hy : xs.getD k (⟨#[]⟩ : ByteArray) = y at h0
   have hcall := fun W => Tryd.strings_HasPrefix y ⟨#[73, 100, 58, 32]⟩ W
   have HY := Lib.hid hy
   have HQ := Lib.hid (show isMark y = (Lib.hasPrefix y.data.toList (⟨#[73, 100, 58, 32]⟩ : ByteArray).data.toList && !(y.toList == ([73, 100, 58, 32] : List UInt8))) from rfl)
   clear hy hr
   generalize Lib.hasPrefix y.data.toList (⟨#[73, 100, 58, 32]⟩ : ByteArray).data.toList = q at hcall HQ
   have finish : ∀ b, isMark y = b → Hid (isMark y = b) := fun b h => Lib.hid h
   cases q
   ·go_wp2_with (go_at_call 67; refine (hcall _).mono ?_; rintro e w1 ⟨rfl, rfl⟩)
    go_roundg (xs.length - (k + 1))
    case measure => omega
    case rel => exact ⟨k + 1, by omega, Nat.le_refl _, by go_num, BW, ⟨fun j hj => by
     by_cases e : j = k
     ·subst e; rw [HY.out, HQ.out]; rfl
     ·exact H.out j (by omega)⟩⟩
   ·cases hq : (y.toList == ([73, 100, 58, 32] : List UInt8))
    ·rw [hq] at HQ
     go_wp2_with (go_at_call 67; refine (hcall _).mono ?_; rintro e w1 ⟨rfl, rfl⟩)
     go_ret
     refine ⟨rets ?_, BW.out⟩
     unfold markOf
     rw [find_hit isMark ⟨#[]⟩ xs k hlt (by rw [HY.out, HQ.out]; rfl) H.out, HY.out]
     rfl
    ·rw [hq] at HQ
     go_wp2_with (go_at_call 67; refine (hcall _).mono ?_; rintro e w1 ⟨rfl, rfl⟩)
     go_roundg (xs.length - (k + 1))
     case measure => omega
     case rel => exact ⟨k + 1, by omega, Nat.le_refl _, by go_num, BW, ⟨fun j hj => by
      by_cases e : j = k
      ·subst e; rw [HY.out, HQ.out]; rfl
      ·exact H.out j (by omega)⟩⟩
  ·have hlt' : ¬ (k : Int) < (xs.length : Int) := by omega
   go_wp2
   go_ret
   refine ⟨rets ?_, BW.out⟩
   unfold markOf
   rw [find_miss isMark ⟨#[]⟩ xs (fun j hj => H.out j (by omega))]
   rfl
set_option maxRecDepth 100000 in
set_option maxHeartbeats 2000000 in
theorem specMark_any (A : Option Addr) (c : Nat) (xs : List ByteArray) (w : World) (hr : Kd.C Kd.string w A xs.length xs) (hlen : xs.length ≤ 1048576) (hx : ∀ y ∈ xs, y.size ≤ 1048576) :
  Calls Tryd.prog 73 #[.slice A xs.length c] w fun e w' => e = .returned (.string (markOf xs)) ∧ Below w.heap.size w w' := by
 have HX := Lib.hid hx
 clear hx
 go_enter Tryd.func73, Tryd.ntmps73
 go_wp2
 go_loopg [3] (xs.length) (fun g v wr => ∃ k : Nat, k ≤ xs.length ∧ xs.length - k ≤ g ∧ v = .int .i64 k ∧ Aside0 (Below w.heap.size w wr) ∧ Aside0 (∀ j, j < k → isMark (xs.getD j ⟨#[]⟩) = false))
 case atStart => exact ⟨0, Nat.zero_le _, by omega, rfl, ⟨Below.refl _ _⟩, ⟨fun j hj => absurd hj (Nat.not_lt_zero _)⟩⟩
 case round =>
  obtain ⟨k, hk, hg, rfl, BW, H⟩ := hrel
  by_cases hlt : k < xs.length
  ·have hlt' : (k : Int) < (xs.length : Int) := by omega
   obtain ⟨ad, e1, h0⟩ := at_Str (Kd.C_below hr BW.out) k hlt
   subst e1
   have hz := HX.out _ (getD_mem xs ⟨#[]⟩ hlt)
   generalize hy : xs.getD k (⟨#[]⟩ : ByteArray) = y at h0 hz
   have HY := Lib.hid hy
   have HQ := Lib.hid (isMark_raw y)
   clear hy hr
   by_cases h4 : 4 < y.size
   ·have h41 : (4 : Int) < (y.size : Int) := by omega
    have h42 : decide ((y.size : Int) > 4) = true := decide_eq_true h41
    have h43 : 4 ≤ y.size := by omega
    rw [decide_eq_true h41, Bool.true_and] at HQ
    cases hq : ((y.extract 0 4).toList == ([73, 100, 58, 32] : List UInt8))
    ·rw [hq] at HQ
     go_wp2
     go_roundg (xs.length - (k + 1))
     case measure => omega
     case rel => exact ⟨k + 1, by omega, Nat.le_refl _, by go_num, BW, ⟨fun j hj => by
      by_cases e : j = k
      ·subst e; rw [HY.out, HQ.out]
      ·exact H.out j (by omega)⟩⟩
    ·rw [hq] at HQ
     go_wp2
     go_ret
     refine ⟨rets ?_, BW.out⟩
     unfold markOf
     rw [find_hit isMark ⟨#[]⟩ xs k hlt (by rw [HY.out, HQ.out]) H.out, HY.out]
     rfl
   ·have h41 : ¬ (4 : Int) < (y.size : Int) := by omega
    have h42 : decide ((y.size : Int) > 4) = false := decide_eq_false h41
    rw [decide_eq_false h41, Bool.false_and] at HQ
    go_wp2
    go_roundg (xs.length - (k + 1))
    case measure => omega
    case rel => exact ⟨k + 1, by omega, Nat.le_refl _, by go_num, BW, ⟨fun j hj => by
     by_cases e : j = k
     ·subst e; rw [HY.out, HQ.out]
     ·exact H.out j (by omega)⟩⟩
  ·have hlt' : ¬ (k : Int) < (xs.length : Int) := by omega
   go_wp2
   go_ret
   refine ⟨rets ?_, BW.out⟩
   unfold markOf
   rw [find_miss isMark ⟨#[]⟩ xs (fun j hj => H.out j (by omega))]
   rfl

end Go.Proofs.YtiaibgkpohmihaaDoor
