/- isBody, sender, MailOk of the program: their answers in plain words. -/
import Derived.Test.YticepbgacokbbaaGreatDoorDistinct2
import Derived.Test.YticepbgacokbbaaGreatDoorIdxT
namespace Go.Proofs.YticepbgacokbbaaGreatDoor
open Go.RowKit Go.Proofs.YticepbgacokbbaaGreatDoorW.PrintWords P
set_option linter.unusedVariables false
set_option linter.unusedSimpArgs false

def BodyFit (body : List ByteArray) : Prop := body.length ≤ 4611686018427387904 ∧ ∀ x ∈ body, x.size < 4294967281
def ToFit (tos : List SAddr) : Prop := tos.length ≤ 1099511627776 ∧ ∀ x ∈ tos, AFit x
def addrS (x : SAddr) : Bool := addr x.f0.data.toList x.f1.data.toList
def bodyOk (xs : List ByteArray) : Bool := decide (xs.length ≤ 12) && xs.all fun s => line s.data.toList
def mailOk (u d : List UInt8) (tos : List SAddr) (body : List ByteArray) : Bool :=
 (nul u d || addr u d) && ((decide (1 ≤ (tos.length : Int)) && decide ((tos.length : Int) ≤ 4)) && (tos.all addrS && (decide tos.Nodup && bodyOk body)))
theorem isBody1_any (s : ByteArray) (w : World) (hs : s.size < 4294967281) :
  Calls Tryz.prog 79 #[.string s] w fun e w' => e = .returned (.bool (!line s.data.toList)) ∧ Below w.heap.size w w' := by
 have hcall := fun W => isLine_any s W (by omega)
 generalize line s.data.toList = q at hcall
 go_enter Tryz.func79, Tryz.ntmps79
 go_wp2_with (go_at_call 80; refine (hcall _).mono ?_; rintro e w' ⟨rfl, hb'⟩)
 go_ret
 exact ⟨retb rfl, hb'⟩
theorem isBody_any (A : Option Addr) (c : Nat) (xs : List ByteArray) (w : World) (hr : Kd.C Kd.string w A xs.length xs) (hlen : xs.length ≤ 4611686018427387904) (hx : ∀ x ∈ xs, x.size < 4294967281) :
  Calls Tryz.prog 42 #[.slice A xs.length c] w fun e w' => e = .returned (.bool (bodyOk xs)) ∧ Below w.heap.size w w' := by
 have hcall := ContainsFunc_String 79 #[] (fun x => !line x.data.toList) (enters_of Tryz.func79 (by kernel_rfl) rfl) A c xs w hr hlen (fun W x hm hb => isBody1_any x W (hx x hm))
 have hs : bodyOk xs = (decide (xs.length ≤ 12) && !xs.any fun x => !line x.data.toList) := by unfold bodyOk; congr 1; rw [List.all_eq_not_any_not]
 have HS := Lib.hid hs
 clear hr hx hs
 generalize (xs.any fun x => !line x.data.toList) = q at hcall HS
 by_cases h5 : xs.length ≤ 12
 ·have h5' : decide ((xs.length : Int) ≤ 12) = true := by simp; omega
  go_enter Tryz.func42, Tryz.ntmps42
  go_wp2_with (go_at_call 78; refine hcall.mono ?_; rintro e w' ⟨rfl, hb'⟩)
  go_ret
  exact ⟨retb (by rw [HS.out, decide_eq_true h5]; rfl), hb'⟩
 ·have h5' : decide ((xs.length : Int) ≤ 12) = false := by simp; omega
  go_enter Tryz.func42, Tryz.ntmps42
  go_wp2
  go_ret
  exact ⟨retb (by rw [HS.out, decide_eq_false h5]; rfl), Below.refl _ _⟩
theorem sender_any (u d : ByteArray) (w : World) (hu : u.size < 4294967281) (hd : d.size < 4294967281) (hG : Glob w) :
  Calls Tryz.prog 39 #[.agg #[.string u, .string d]] w fun e w' => e = .returned (.bool (nul u.data.toList d.data.toList || addr u.data.toList d.data.toList)) ∧ Below w.heap.size w w' := by
 have hn := fun W => null_any u d W
 have ha := fun W (hW : Below w.heap.size w W) => AddrOk_any u d W (by omega) hd (hG.below hW)
 generalize addr u.data.toList d.data.toList = q2 at ha
 generalize nul u.data.toList d.data.toList = q1 at hn
 cases q1
 ·go_enter Tryz.func39, Tryz.ntmps39
  go_wp2_with (go_at_call 76; refine (hn _).mono ?_; rintro e w1 ⟨rfl, hb1⟩; have c0 := (hb1.cell (p := ⟨w.heap.size, 0, none⟩) (by simp)).trans (by simp : _ = some (.string u)); have c1 := (hb1.cell (p := ⟨w.heap.size, 1, none⟩) (by simp)).trans (by simp : _ = some (.string d)); have B1 : Below w.heap.size w w1 := ((Below.refl _ _).alloc (Nat.le_refl _) _).trans (hb1.mono (by simp)); clear hb1)
  refine (ha _ B1).mono ?_
  rintro e w2 ⟨rfl, hb2⟩
  go_wp2
  go_ret
  exact ⟨retb rfl, B1.trans (hb2.mono B1.size)⟩
 ·go_enter Tryz.func39, Tryz.ntmps39
  go_wp2_with (go_at_call 76; refine (hn _).mono ?_; rintro e w1 ⟨rfl, hb1⟩)
  go_ret
  exact ⟨retb rfl, ((Below.refl _ _).alloc (Nat.le_refl _) _).trans (hb1.mono (by simp))⟩
theorem MailOk1_any (x : SAddr) (w : World) (hx : AFit x) (hG : Glob w) :
  Calls Tryz.prog 37 #[.agg #[.string x.f0, .string x.f1]] w fun e w' => e = .returned (.bool (!addrS x)) ∧ Below w.heap.size w w' := by
 have ha := fun W (hW : Below w.heap.size w W) => AddrOk_any x.f0 x.f1 W (by have := hx.1; omega) hx.2 (hG.below hW)
 change ∀ W, _ → Calls _ _ _ _ (fun e w' => e = .returned (.bool (addrS x)) ∧ Below W.heap.size W w') at ha
 clear hx
 generalize addrS x = q at ha
 go_enter Tryz.func37, Tryz.ntmps37
 go_wp2_with (go_at_call 38; refine (ha _ ((Below.refl _ _).alloc (Nat.le_refl _) _)).mono ?_; rintro e w' ⟨rfl, hb'⟩)
 go_ret
 exact ⟨retb rfl, ((Below.refl _ _).alloc (Nat.le_refl _) _).trans (hb'.mono (by simp))⟩

set_option maxRecDepth 100000 in
set_option maxHeartbeats 2000000 in
theorem MailOk_any (u d : ByteArray) (A : Option Addr) (c : Nat) (tos : List SAddr) (A' : Option Addr) (c' : Nat) (body : List ByteArray) (w : World) (hu : u.size < 4294967281) (hd : d.size < 4294967281) (hr : Kd.C kAddr w A tos.length tos) (hl : tos.length ≤ 1099511627776) (ht : ∀ x ∈ tos, AFit x)
  (hr' : Kd.C Kd.string w A' body.length body) (hl' : body.length ≤ 4611686018427387904) (hb : ∀ x ∈ body, x.size < 4294967281) (hG : Glob w) :
  Calls Tryz.prog 10 #[.agg #[.string u, .string d, .slice A tos.length c, .slice A' body.length c']] w fun e w' => e = .returned (.bool (mailOk u.data.toList d.data.toList tos body)) ∧ Below w.heap.size w w' := by
 have h1 := fun W (hW : Below w.heap.size w W) => sender_any u d W hu hd (hG.below hW)
 have h3 := fun W (hW : Below w.heap.size w W) => ContainsFunc_Addr 37 #[] (fun x => !addrS x) (enters_of Tryz.func37 (by kernel_rfl) rfl) A c tos W (Kd.C_below hr hW) (by omega) (fun V x hm hv => MailOk1_any x V (ht x hm) ((hG.below hW).below hv))
 have h4 := fun W (hW : Below w.heap.size w W) => distinctAddr_any A c tos W (Kd.C_below hr hW) hl ht
 have h5 := fun W (hW : Below w.heap.size w W) => isBody_any A' c' body W (Kd.C_below hr' hW) hl' hb
 have h2 := fun W => within_any (tos.length : Int) 1 4 W
 have hall : (tos.all addrS) = !(tos.any fun x => !addrS x) := List.all_eq_not_any_not
 unfold mailOk
 rw [hall]
 clear hall hr ht hr' hb hu hd
 generalize (nul u.data.toList d.data.toList || addr u.data.toList d.data.toList) = q1 at h1
 generalize (tos.any fun x => !addrS x) = q3 at h3
 generalize decide tos.Nodup = q4 at h4
 generalize bodyOk body = q5 at h5
 generalize hq2 : (decide (1 ≤ (tos.length : Int)) && decide ((tos.length : Int) ≤ 4)) = q2 at h2
 clear hq2
 have B0 : Below w.heap.size w (w.alloc (.cells #[.string u, .string d, .slice A tos.length c, .slice A' body.length c'] 29)) := (Below.refl _ _).alloc (Nat.le_refl _) _
 cases q1
 ·go_enter Tryz.func10, Tryz.ntmps10
  go_wp2_with (go_at_call 39; refine (h1 _ B0).mono ?_; rintro e w1 ⟨rfl, hb1⟩)
  go_ret
  exact ⟨retb rfl, B0.trans (hb1.mono (by simp))⟩
 ·cases q2
  ·go_enter Tryz.func10, Tryz.ntmps10
   go_wp2_with (first | (go_at_call 39; refine (h1 _ B0).mono ?_; rintro e w1 ⟨rfl, hb1⟩; have c2 := (hb1.cell (p := ⟨w.heap.size, 2, none⟩) (by simp)).trans (by simp : _ = some (.slice A tos.length c)); have c3 := (hb1.cell (p := ⟨w.heap.size, 3, none⟩) (by simp)).trans (by simp : _ = some (.slice A' body.length c')); have B1 : Aside0 (Below w.heap.size w w1) := ⟨B0.trans (hb1.mono (by simp))⟩; have Z1 : w.heap.size < w1.heap.size := (by have := hb1.size; simp at this; omega); clear hb1) | (go_at_call 28; refine (h2 _).mono ?_; rintro e w2 ⟨rfl, rfl⟩))
   go_ret
   exact ⟨retb rfl, B1.out⟩
  ·cases q3
   ·cases q4
    ·go_enter Tryz.func10, Tryz.ntmps10
     go_wp2_with (first | (go_at_call 39; refine (h1 _ B0).mono ?_; rintro e w1 ⟨rfl, hb1⟩; have c2 := (hb1.cell (p := ⟨w.heap.size, 2, none⟩) (by simp)).trans (by simp : _ = some (.slice A tos.length c)); have c3 := (hb1.cell (p := ⟨w.heap.size, 3, none⟩) (by simp)).trans (by simp : _ = some (.slice A' body.length c')); have B1 : Aside0 (Below w.heap.size w w1) := ⟨B0.trans (hb1.mono (by simp))⟩; have Z1 : w.heap.size < w1.heap.size := (by have := hb1.size; simp at this; omega); clear hb1) | (go_at_call 28; refine (h2 _).mono ?_; rintro e w2 ⟨rfl, rfl⟩) | (go_at_call 40; refine (h3 _ B1.out).mono ?_; rintro e w3 ⟨rfl, hb3⟩; have d2 := (hb3.cell (p := ⟨w.heap.size, 2, none⟩) Z1).trans c2; have d3 := (hb3.cell (p := ⟨w.heap.size, 3, none⟩) Z1).trans c3; have B3 : Below w.heap.size w w3 := B1.out.trans (hb3.mono B1.out.size); have Z3 : w.heap.size < w3.heap.size := Nat.lt_of_lt_of_le Z1 hb3.size; clear hb3) | (go_at_call 41; refine (h4 _ B3).mono ?_; rintro e w4 ⟨rfl, hb4⟩; have B4 : Below w.heap.size w w4 := B3.trans (hb4.mono B3.size)))
     go_ret
     exact ⟨retb rfl, B4⟩
    ·go_enter Tryz.func10, Tryz.ntmps10
     go_wp2_with (first | (go_at_call 39; refine (h1 _ B0).mono ?_; rintro e w1 ⟨rfl, hb1⟩; have c2 := (hb1.cell (p := ⟨w.heap.size, 2, none⟩) (by simp)).trans (by simp : _ = some (.slice A tos.length c)); have c3 := (hb1.cell (p := ⟨w.heap.size, 3, none⟩) (by simp)).trans (by simp : _ = some (.slice A' body.length c')); have B1 : Aside0 (Below w.heap.size w w1) := ⟨B0.trans (hb1.mono (by simp))⟩; have Z1 : w.heap.size < w1.heap.size := (by have := hb1.size; simp at this; omega); clear hb1) | (go_at_call 28; refine (h2 _).mono ?_; rintro e w2 ⟨rfl, rfl⟩) | (go_at_call 40; refine (h3 _ B1.out).mono ?_; rintro e w3 ⟨rfl, hb3⟩; have d2 := (hb3.cell (p := ⟨w.heap.size, 2, none⟩) Z1).trans c2; have d3 := (hb3.cell (p := ⟨w.heap.size, 3, none⟩) Z1).trans c3; have B3 : Below w.heap.size w w3 := B1.out.trans (hb3.mono B1.out.size); have Z3 : w.heap.size < w3.heap.size := Nat.lt_of_lt_of_le Z1 hb3.size; clear hb3) | (go_at_call 41; refine (h4 _ B3).mono ?_; rintro e w4 ⟨rfl, hb4⟩; have B4 : Below w.heap.size w w4 := B3.trans (hb4.mono B3.size); have e3 := (hb4.cell (p := ⟨w.heap.size, 3, none⟩) Z3).trans d3; clear hb4) | (go_at_call 42; refine (h5 _ B4).mono ?_; rintro e w5 ⟨rfl, hb5⟩; have B5 : Below w.heap.size w w5 := B4.trans (hb5.mono B4.size)))
     go_ret
     exact ⟨retb rfl, B5⟩
   ·go_enter Tryz.func10, Tryz.ntmps10
    go_wp2_with (first | (go_at_call 39; refine (h1 _ B0).mono ?_; rintro e w1 ⟨rfl, hb1⟩; have c2 := (hb1.cell (p := ⟨w.heap.size, 2, none⟩) (by simp)).trans (by simp : _ = some (.slice A tos.length c)); have c3 := (hb1.cell (p := ⟨w.heap.size, 3, none⟩) (by simp)).trans (by simp : _ = some (.slice A' body.length c')); have B1 : Aside0 (Below w.heap.size w w1) := ⟨B0.trans (hb1.mono (by simp))⟩; have Z1 : w.heap.size < w1.heap.size := (by have := hb1.size; simp at this; omega); clear hb1) | (go_at_call 28; refine (h2 _).mono ?_; rintro e w2 ⟨rfl, rfl⟩) | (go_at_call 40; refine (h3 _ B1.out).mono ?_; rintro e w3 ⟨rfl, hb3⟩; have d2 := (hb3.cell (p := ⟨w.heap.size, 2, none⟩) Z1).trans c2; have d3 := (hb3.cell (p := ⟨w.heap.size, 3, none⟩) Z1).trans c3; have B3 : Below w.heap.size w w3 := B1.out.trans (hb3.mono B1.out.size); have Z3 : w.heap.size < w3.heap.size := Nat.lt_of_lt_of_le Z1 hb3.size; clear hb3))
    go_ret
    exact ⟨retb rfl, B3⟩
end Go.Proofs.YticepbgacokbbaaGreatDoor
