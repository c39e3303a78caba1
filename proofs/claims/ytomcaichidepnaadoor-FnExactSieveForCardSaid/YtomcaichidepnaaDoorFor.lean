/- SieveFor of the program: its answer in plain words. -/
import Derived.Test.YtomcaichidepnaaDoorHolds
namespace Go.Proofs.YtomcaichidepnaaDoor
open Go.RowKit Go.Proofs.YtomcaichidepnaaDoorW.PrintWords P
set_option linter.unusedVariables false
set_option linter.unusedSimpArgs false

/-- A mail as a slot holds it. -/
def BodyFit (body : List ByteArray) : Prop := body.length ≤ 4611686018427387904 ∧ ∀ x ∈ body, x.size < 4294967281
def ToFit (tos : List S33) : Prop := tos.length ≤ 1099511627776 ∧ ∀ x ∈ tos, AFit x

set_option maxHeartbeats 1000000 in
theorem SieveFor1_any (b : Nat) (x : S57) (u d : ByteArray) (A : Option Addr) (n c : Nat) (A' : Option Addr) (c' : Nat) (body : List ByteArray) (w : World) (hx : RFit x) (hu : u.size < 4294967281) (hd : d.size < 4294967281)
    (h0 : w.cell? ⟨b, 0, none⟩ = some (.string u)) (h1 : w.cell? ⟨b, 1, none⟩ = some (.string d)) (h2 : w.cell? ⟨b, 2, none⟩ = some (.slice A n c)) (h3 : w.cell? ⟨b, 3, none⟩ = some (.slice A' body.length c')) (hbz : b < w.heap.size)
    (hr' : Kd.C Kd.string w A' body.length body) (hb : BodyFit body) (hG : Glob w) :
    Calls Tryd.prog 46 (#[.agg #[.int .i64 x.f0, .string x.f1, .int .i64 x.f2, .string x.f3.f0, .string x.f3.f1]] ++ #[.pointer (some ⟨b, 0, none⟩)]) w fun e w' => e = .returned (.bool (holdsS u.data.toList d.data.toList body x)) ∧ Below w.heap.size w w' := by
  have hc := fun W (hW : Below w.heap.size w W) => holds_any x u d A n c A' c' body W hx hu hd (Kd.C_below hr' hW) hb.1 hb.2 (hG.below hW)
  clear hx hr' hb hu hd
  generalize holdsS u.data.toList d.data.toList body x = q at hc
  have hne : ¬ b = w.heap.size := by omega
  have B0 : Below w.heap.size w (w.alloc (.cells #[.int .i64 x.f0, .string x.f1, .int .i64 x.f2, .string x.f3.f0, .string x.f3.f1] 57)) := (Below.refl _ _).alloc (Nat.le_refl _) _
  go_enter Tryd.func46, Tryd.ntmps46
  go_wp2_with (go_at_call 47; refine (hc _ B0).mono ?_; rintro e w1 ⟨rfl, hb1⟩)
  go_ret
  exact ⟨retb rfl, B0.trans (hb1.mono (by simp))⟩

def sieveFor (xs : List S57) (u d : List UInt8) (tos : List S33) (body : List ByteArray) : Int :=
  if sieveOk xs && mailOk u d tos body then idx (holdsS u d body) xs else -1
set_option maxHeartbeats 2000000 in
theorem SieveFor_any (A0 : Option Addr) (c0 : Nat) (xs : List S57) (u d : ByteArray) (A : Option Addr) (c : Nat) (tos : List S33) (A' : Option Addr) (c' : Nat) (body : List ByteArray) (w : World)
    (hr0 : Kd.C k57 w A0 xs.length xs) (hl0 : xs.length ≤ 4611686018427387904) (hx : ∀ x ∈ xs, RFit x) (hu : u.size < 4294967281) (hd : d.size < 4294967281)
    (hr : Kd.C k33 w A tos.length tos) (ht : ToFit tos) (hr' : Kd.C Kd.string w A' body.length body) (hb : BodyFit body) (hG : Glob w) :
    Calls Tryd.prog 19 #[.slice A0 xs.length c0, .agg #[.string u, .string d, .slice A tos.length c, .slice A' body.length c']] w fun e w' => e = .returned (.int .i64 (sieveFor xs u.data.toList d.data.toList tos body)) ∧ Below w.heap.size w w' := by
  have h1 := fun W (hW : Below w.heap.size w W) => SieveOk_any A0 c0 xs W (Kd.C_below hr0 hW) hl0 hx (hG.below hW)
  have h2 := fun W (hW : Below w.heap.size w W) => MailOk_any u d A c tos A' c' body W hu hd (Kd.C_below hr hW) ht.1 ht.2 (Kd.C_below hr' hW) hb.1 hb.2 (hG.below hW)
  have h3 := fun b W (hW : Below w.heap.size w W) (e0 : W.cell? ⟨b, 0, none⟩ = some (.string u)) (e1 : W.cell? ⟨b, 1, none⟩ = some (.string d)) (e2 : W.cell? ⟨b, 2, none⟩ = some (.slice A tos.length c)) (e3 : W.cell? ⟨b, 3, none⟩ = some (.slice A' body.length c')) (hbz : b < W.heap.size) =>
    IndexFunc_Rule 46 #[.pointer (some ⟨b, 0, none⟩)] (holdsS u.data.toList d.data.toList body) (enters_of Tryd.func46 (by kernel_rfl) rfl) A0 c0 xs W (Kd.C_below hr0 hW) hl0
      (fun V y hm hv => SieveFor1_any b y u d A tos.length c A' c' body V (hx y hm) hu hd ((hv.cell (p := ⟨b, 0, none⟩) hbz).trans e0) ((hv.cell (p := ⟨b, 1, none⟩) hbz).trans e1) ((hv.cell (p := ⟨b, 2, none⟩) hbz).trans e2) ((hv.cell (p := ⟨b, 3, none⟩) hbz).trans e3) (Nat.lt_of_lt_of_le hbz hv.size) (Kd.C_below (Kd.C_below hr' hW) hv) hb ((hG.below hW).below hv))
  unfold sieveFor
  clear hr0 hx hr ht hr' hb hu hd
  generalize idx (holdsS u.data.toList d.data.toList body) xs = i at h3
  generalize mailOk u.data.toList d.data.toList tos body = q2 at h2
  generalize sieveOk xs = q1 at h1
  have B0 : Below w.heap.size w (w.alloc (.cells #[.string u, .string d, .slice A tos.length c, .slice A' body.length c'] 37)) := (Below.refl _ _).alloc (Nat.le_refl _) _
  cases q1
  · go_enter Tryd.func19, Tryd.ntmps19
    go_wp2_with (go_at_call 12; refine (h1 _ B0).mono ?_; rintro e w1 ⟨rfl, hb1⟩)
    go_ret
    exact ⟨rfl, B0.trans (hb1.mono (by simp))⟩
  · cases q2
    all_goals
      go_enter Tryd.func19, Tryd.ntmps19
      go_wp2_with (first | (go_at_call 12; refine (h1 _ B0).mono ?_; rintro e w1 ⟨rfl, hb1⟩; have c0_ := (hb1.cell (p := ⟨w.heap.size, 0, none⟩) (by simp)).trans (by simp : _ = some (.string u)); have c1_ := (hb1.cell (p := ⟨w.heap.size, 1, none⟩) (by simp)).trans (by simp : _ = some (.string d)); have c2_ := (hb1.cell (p := ⟨w.heap.size, 2, none⟩) (by simp)).trans (by simp : _ = some (.slice A tos.length c)); have c3_ := (hb1.cell (p := ⟨w.heap.size, 3, none⟩) (by simp)).trans (by simp : _ = some (.slice A' body.length c')); have B1 : Below w.heap.size w w1 := B0.trans (hb1.mono (by simp)); have Z1 : w.heap.size < w1.heap.size := (by have := hb1.size; simp at this; omega); clear hb1) | (go_at_call 21; refine (h2 _ B1).mono ?_; rintro e w2 ⟨rfl, hb2⟩; have d0_ := (hb2.cell (p := ⟨w.heap.size, 0, none⟩) Z1).trans c0_; have d1_ := (hb2.cell (p := ⟨w.heap.size, 1, none⟩) Z1).trans c1_; have d2_ := (hb2.cell (p := ⟨w.heap.size, 2, none⟩) Z1).trans c2_; have d3_ := (hb2.cell (p := ⟨w.heap.size, 3, none⟩) Z1).trans c3_; have B2 : Below w.heap.size w w2 := B1.trans (hb2.mono B1.size); have Z2 : w.heap.size < w2.heap.size := Nat.lt_of_lt_of_le Z1 hb2.size; clear hb2) | (go_at_call 45; refine (h3 w.heap.size _ B2 d0_ d1_ d2_ d3_ Z2).mono ?_; rintro e w3 ⟨rfl, hb3⟩))
      go_ret
    · exact ⟨rfl, B2⟩
    · exact ⟨rfl, B2.trans (hb3.mono B2.size)⟩
end Go.Proofs.YtomcaichidepnaaDoor
