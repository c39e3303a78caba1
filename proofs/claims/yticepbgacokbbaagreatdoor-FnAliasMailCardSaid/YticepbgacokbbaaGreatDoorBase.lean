/- The program's structs as plain structures; how they read in memory. -/
import Derived.Test.YticepbgacokbbaaGreatDoorProg
import Derived.Test.YticepbgacokbbaaGreatDoorWWords
import Derived.Test.YticepbgacokbbaaGreatDoorWEqStruct
import Derived.Test.YticepbgacokbbaaGreatDoorWApart
import Derived.Test.YticepbgacokbbaaGreatDoorWGuard
import Derived.WalkKit
import Derived.WalkSpells
import Derived.Outline
import Derived.Lib.Hide
import Derived.Deep.LoopGhost
import Derived.Deep.QuietTactic
import Derived.BigQuiet
namespace Go.Proofs.YticepbgacokbbaaGreatDoor
open Go.RowKit Go.Proofs.YticepbgacokbbaaGreatDoorW.PrintWords
set_option linter.unusedVariables false
set_option linter.unusedSimpArgs false
theorem info9 : (Tryz.prog.info? 9).map (fun i => (i.zero, i.size, i.bytes)) = some (some (.string ⟨#[]⟩), 1, 16) := by kernel_rfl
theorem info3 : (Tryz.prog.info? 3).map (fun i => (i.zero, i.size, i.bytes)) = some (some (.int .i64 0), 1, 8) := by kernel_rfl
theorem info25 : (Tryz.prog.info? 25).map (fun i => (i.zero, i.size, i.bytes)) = some (some (.agg #[(.string ⟨#[]⟩), (.string ⟨#[]⟩)]), 2, 32) := by kernel_rfl
theorem info29 : (Tryz.prog.info? 29).map (fun i => (i.zero, i.size, i.bytes)) = some (some (.agg #[(.string ⟨#[]⟩), (.string ⟨#[]⟩), (.slice none 0 0), (.slice none 0 0)]), 4, 80) := by kernel_rfl
theorem info58 : (Tryz.prog.info? 58).map (fun i => (i.zero, i.size, i.bytes)) = some (some (.agg #[(.string ⟨#[]⟩), (.string ⟨#[]⟩), (.slice none 0 0)]), 3, 56) := by kernel_rfl
def fitStr (s : ByteArray) : Prop := s.size ≤ 1048576
def fitInt (n : Int) : Prop := (Lit.int .i64 n).wf = true

/-! #### Addr -/
structure SAddr where
 f0 : ByteArray
 f1 : ByteArray
def zAddr : SAddr := ⟨(⟨#[]⟩ : ByteArray), (⟨#[]⟩ : ByteArray)⟩
instance : DecidableEq SAddr := fun a b => decidable_of_iff (a.f0 = b.f0 ∧ a.f1 = b.f1) ⟨fun h => by cases a; cases b; simp_all, fun h => by subst h; simp⟩
def fitAddr (x : SAddr) : Prop := x.f0.size ≤ 1048576 ∧ x.f1.size ≤ 1048576
def wideAddr (x : SAddr) : Prop := x.f0.size ≤ 9223372036854775807 ∧ x.f1.size ≤ 9223372036854775807
def kAddr : Kd SAddr := Kd.iso (Kd.pair Kd.string Kd.string) (fun x : SAddr => (x.f0, x.f1))
theorem kAddr_open {w : World} {x : SAddr} {cs : List Value} (h : kAddr.K w x cs) : cs = [.string x.f0, .string x.f1] := by
 obtain ⟨_, _, rfl, rfl, rfl⟩ := h
 exact rfl
theorem kAddr_mk (w : World) (x : SAddr)  : kAddr.K w x [.string x.f0, .string x.f1] := ⟨[.string x.f0], [.string x.f1], rfl, rfl, rfl⟩
theorem kAddr_openM {w : World} {base : Nat} {ok : Nat → Prop} {x : SAddr} {cs : List Value} (h : kAddr.M w base ok x cs) : cs = [.string x.f0, .string x.f1] := by
 obtain ⟨_, _, rfl, rfl, rfl⟩ := h
 exact rfl
theorem kAddr_mkM (w : World) (base : Nat) (ok : Nat → Prop) (x : SAddr)  : kAddr.M w base ok x [.string x.f0, .string x.f1] := ⟨[.string x.f0], [.string x.f1], rfl, rfl, rfl⟩
theorem at_Addr {w : World} {A : Option Addr} {n : Nat} {xs : List SAddr} (h : Kd.C kAddr w A n xs) (i : Nat) (h1 : i < n) : ∃ ad , A = some ad ∧ w.cell? (ad.add (i * 2)) = some (.string (xs.getD i zAddr).f0) ∧ w.cell? ⟨(ad.add (i * 2)).block, (ad.add (i * 2)).off + 1, none⟩ = some (.string (xs.getD i zAddr).f1) := by
 obtain ⟨ad, c, e, _, hK, hc0⟩ := Kd.C_get h zAddr (i : Int) (by omega) (by omega)
 have hc : ∀ j u, c[j]? = some u → w.cell? (ad.add (i * 2 + j)) = some u := hc0
 obtain rfl := kAddr_open hK
 exact ⟨ad, e, hc 0 _ rfl, (by rw [← add_field _ _ 1 (by omega)]; exact hc 1 _ rfl)⟩

/-! #### Mail -/
structure SMail where
 f0 : SAddr
 f1 : (List SAddr)
 f2 : (List ByteArray)
def zMail : SMail := ⟨zAddr, [], []⟩
instance : DecidableEq SMail := fun a b => decidable_of_iff (a.f0 = b.f0 ∧ a.f1 = b.f1 ∧ a.f2 = b.f2) ⟨fun h => by cases a; cases b; simp_all, fun h => by subst h; simp⟩
def fitMail (x : SMail) : Prop := fitAddr x.f0 ∧ (x.f1.length ≤ 1048576 ∧ ∀ y ∈ x.f1, fitAddr y) ∧ (x.f2.length ≤ 1048576 ∧ ∀ y ∈ x.f2, y.size ≤ 1048576)
def wideMail (x : SMail) : Prop := wideAddr x.f0 ∧ (x.f1.length ≤ 9223372036854775807 ∧ ∀ y ∈ x.f1, wideAddr y) ∧ (x.f2.length ≤ 9223372036854775807 ∧ ∀ y ∈ x.f2, y.size ≤ 9223372036854775807)
def kMail : Kd SMail := Kd.iso (Kd.pair kAddr (Kd.pair (Kd.slice 25 kAddr) (Kd.slice 9 Kd.string))) (fun x : SMail => (x.f0, x.f1, x.f2))
theorem kMail_open {w : World} {x : SMail} {cs : List Value} (h : kMail.K w x cs) : ∃ A0 c0 A1 c1, cs = [.string x.f0.f0, .string x.f0.f1, .slice A0 x.f1.length c0, .slice A1 x.f2.length c1] ∧ x.f1.length ≤ c0 ∧ Kd.C kAddr w A0 x.f1.length x.f1 ∧ x.f2.length ≤ c1 ∧ Kd.C Kd.string w A1 x.f2.length x.f2 := by
 obtain ⟨_, _, rfl, s_0, ⟨_, _, rfl, ⟨A_1, c_1, rfl, hl_1, hr_1⟩, ⟨A_2, c_2, rfl, hl_2, hr_2⟩⟩⟩ := h
 obtain rfl := kAddr_open s_0
 exact ⟨A_1, c_1, A_2, c_2, rfl, hl_1, hr_1, hl_2, hr_2⟩
theorem kMail_mk (w : World) (x : SMail) {A0 : Option Addr} {c0 : Nat} (hl0 : x.f1.length ≤ c0) (hr0 : Kd.C kAddr w A0 x.f1.length x.f1) {A1 : Option Addr} {c1 : Nat} (hl1 : x.f2.length ≤ c1) (hr1 : Kd.C Kd.string w A1 x.f2.length x.f2) : kMail.K w x [.string x.f0.f0, .string x.f0.f1, .slice A0 x.f1.length c0, .slice A1 x.f2.length c1] := ⟨[.string x.f0.f0, .string x.f0.f1], [.slice A0 x.f1.length c0, .slice A1 x.f2.length c1], rfl, ⟨[.string x.f0.f0], [.string x.f0.f1], rfl, rfl, rfl⟩, ⟨[.slice A0 x.f1.length c0], [.slice A1 x.f2.length c1], rfl, ⟨A0, c0, rfl, hl0, hr0⟩, ⟨A1, c1, rfl, hl1, hr1⟩⟩⟩
theorem kMail_openM {w : World} {base : Nat} {ok : Nat → Prop} {x : SMail} {cs : List Value} (h : kMail.M w base ok x cs) : ∃ v0 v1, cs = [.string x.f0.f0, .string x.f0.f1, v0, v1] ∧ Kd.R kAddr 25 w base ok v0 x.f1 ∧ Kd.R Kd.string 9 w base ok v1 x.f2 := by
 obtain ⟨_, _, rfl, s_0, ⟨_, _, rfl, ⟨v_1, rfl, hr_1⟩, ⟨v_2, rfl, hr_2⟩⟩⟩ := h
 obtain rfl := kAddr_openM s_0
 exact ⟨v_1, v_2, rfl, hr_1, hr_2⟩
theorem kMail_mkM (w : World) (base : Nat) (ok : Nat → Prop) (x : SMail) {v0 : Value} (hr0 : Kd.R kAddr 25 w base ok v0 x.f1) {v1 : Value} (hr1 : Kd.R Kd.string 9 w base ok v1 x.f2) : kMail.M w base ok x [.string x.f0.f0, .string x.f0.f1, v0, v1] := ⟨[.string x.f0.f0, .string x.f0.f1], [v0, v1], rfl, ⟨[.string x.f0.f0], [.string x.f0.f1], rfl, rfl, rfl⟩, ⟨[v0], [v1], rfl, ⟨v0, rfl, hr0⟩, ⟨v1, rfl, hr1⟩⟩⟩
theorem at_Mail {w : World} {A : Option Addr} {n : Nat} {xs : List SMail} (h : Kd.C kMail w A n xs) (i : Nat) (h1 : i < n) : ∃ ad A0 c0 A1 c1, A = some ad ∧ w.cell? (ad.add (i * 4)) = some (.string (xs.getD i zMail).f0.f0) ∧ w.cell? ⟨(ad.add (i * 4)).block, (ad.add (i * 4)).off + 1, none⟩ = some (.string (xs.getD i zMail).f0.f1) ∧ w.cell? ⟨(ad.add (i * 4)).block, (ad.add (i * 4)).off + 2, none⟩ = some (.slice A0 (xs.getD i zMail).f1.length c0) ∧ w.cell? ⟨(ad.add (i * 4)).block, (ad.add (i * 4)).off + 3, none⟩ = some (.slice A1 (xs.getD i zMail).f2.length c1) ∧ (xs.getD i zMail).f1.length ≤ c0 ∧ Kd.C kAddr w A0 (xs.getD i zMail).f1.length (xs.getD i zMail).f1 ∧ (xs.getD i zMail).f2.length ≤ c1 ∧ Kd.C Kd.string w A1 (xs.getD i zMail).f2.length (xs.getD i zMail).f2 := by
 obtain ⟨ad, c, e, _, hK, hc0⟩ := Kd.C_get h zMail (i : Int) (by omega) (by omega)
 have hc : ∀ j u, c[j]? = some u → w.cell? (ad.add (i * 4 + j)) = some u := hc0
 obtain ⟨a0, b0, a1, b1, rfl, p0, q0, p1, q1⟩ := kMail_open hK
 exact ⟨ad, a0, b0, a1, b1, e, hc 0 _ rfl, (by rw [← add_field _ _ 1 (by omega)]; exact hc 1 _ rfl), (by rw [← add_field _ _ 2 (by omega)]; exact hc 2 _ rfl), (by rw [← add_field _ _ 3 (by omega)]; exact hc 3 _ rfl), p0, q0, p1, q1⟩

/-! #### Alias -/
structure SAlias where
 f0 : SAddr
 f1 : (List SAddr)
def zAlias : SAlias := ⟨zAddr, []⟩
instance : DecidableEq SAlias := fun a b => decidable_of_iff (a.f0 = b.f0 ∧ a.f1 = b.f1) ⟨fun h => by cases a; cases b; simp_all, fun h => by subst h; simp⟩
def fitAlias (x : SAlias) : Prop := fitAddr x.f0 ∧ (x.f1.length ≤ 1048576 ∧ ∀ y ∈ x.f1, fitAddr y)
def wideAlias (x : SAlias) : Prop := wideAddr x.f0 ∧ (x.f1.length ≤ 9223372036854775807 ∧ ∀ y ∈ x.f1, wideAddr y)
def kAlias : Kd SAlias := Kd.iso (Kd.pair kAddr (Kd.slice 25 kAddr)) (fun x : SAlias => (x.f0, x.f1))
theorem kAlias_open {w : World} {x : SAlias} {cs : List Value} (h : kAlias.K w x cs) : ∃ A0 c0, cs = [.string x.f0.f0, .string x.f0.f1, .slice A0 x.f1.length c0] ∧ x.f1.length ≤ c0 ∧ Kd.C kAddr w A0 x.f1.length x.f1 := by
 obtain ⟨_, _, rfl, s_0, ⟨A_1, c_1, rfl, hl_1, hr_1⟩⟩ := h
 obtain rfl := kAddr_open s_0
 exact ⟨A_1, c_1, rfl, hl_1, hr_1⟩
theorem kAlias_mk (w : World) (x : SAlias) {A0 : Option Addr} {c0 : Nat} (hl0 : x.f1.length ≤ c0) (hr0 : Kd.C kAddr w A0 x.f1.length x.f1) : kAlias.K w x [.string x.f0.f0, .string x.f0.f1, .slice A0 x.f1.length c0] := ⟨[.string x.f0.f0, .string x.f0.f1], [.slice A0 x.f1.length c0], rfl, ⟨[.string x.f0.f0], [.string x.f0.f1], rfl, rfl, rfl⟩, ⟨A0, c0, rfl, hl0, hr0⟩⟩
theorem kAlias_openM {w : World} {base : Nat} {ok : Nat → Prop} {x : SAlias} {cs : List Value} (h : kAlias.M w base ok x cs) : ∃ v0, cs = [.string x.f0.f0, .string x.f0.f1, v0] ∧ Kd.R kAddr 25 w base ok v0 x.f1 := by
 obtain ⟨_, _, rfl, s_0, ⟨v_1, rfl, hr_1⟩⟩ := h
 obtain rfl := kAddr_openM s_0
 exact ⟨v_1, rfl, hr_1⟩
theorem kAlias_mkM (w : World) (base : Nat) (ok : Nat → Prop) (x : SAlias) {v0 : Value} (hr0 : Kd.R kAddr 25 w base ok v0 x.f1) : kAlias.M w base ok x [.string x.f0.f0, .string x.f0.f1, v0] := ⟨[.string x.f0.f0, .string x.f0.f1], [v0], rfl, ⟨[.string x.f0.f0], [.string x.f0.f1], rfl, rfl, rfl⟩, ⟨v0, rfl, hr0⟩⟩
theorem at_Alias {w : World} {A : Option Addr} {n : Nat} {xs : List SAlias} (h : Kd.C kAlias w A n xs) (i : Nat) (h1 : i < n) : ∃ ad A0 c0, A = some ad ∧ w.cell? (ad.add (i * 3)) = some (.string (xs.getD i zAlias).f0.f0) ∧ w.cell? ⟨(ad.add (i * 3)).block, (ad.add (i * 3)).off + 1, none⟩ = some (.string (xs.getD i zAlias).f0.f1) ∧ w.cell? ⟨(ad.add (i * 3)).block, (ad.add (i * 3)).off + 2, none⟩ = some (.slice A0 (xs.getD i zAlias).f1.length c0) ∧ (xs.getD i zAlias).f1.length ≤ c0 ∧ Kd.C kAddr w A0 (xs.getD i zAlias).f1.length (xs.getD i zAlias).f1 := by
 obtain ⟨ad, c, e, _, hK, hc0⟩ := Kd.C_get h zAlias (i : Int) (by omega) (by omega)
 have hc : ∀ j u, c[j]? = some u → w.cell? (ad.add (i * 3 + j)) = some u := hc0
 obtain ⟨a0, b0, rfl, p0, q0⟩ := kAlias_open hK
 exact ⟨ad, a0, b0, e, hc 0 _ rfl, (by rw [← add_field _ _ 1 (by omega)]; exact hc 1 _ rfl), (by rw [← add_field _ _ 2 (by omega)]; exact hc 2 _ rfl), p0, q0⟩
theorem eqA25 (d : Nat) (w : World) (x0 y0 : ByteArray) (x1 y1 : ByteArray) :
  (Op.equalIn (d + 2) 25 (.agg #[.string x0, .string x1]) (.agg #[.string y0, .string y1])).run Tryz.prog w = .ok (x0.toList == y0.toList && (x1.toList == y1.toList)) w := by
 refine eqA_of Tryz.underlying25 (by kernel_rfl) ?_
 refine eqf_cons (by rfl) (by go_simp; rfl) (by go_simp; rfl) (by go_simp) ?_
 exact eqf_last (by rfl) (by go_simp; rfl) (by go_simp; rfl) (by go_simp)
theorem at_Str {w : World} {A : Option Addr} {n : Nat} {xs : List ByteArray} (h : Kd.C Kd.string w A n xs) (i : Nat) (h1 : i < n) : ∃ ad, A = some ad ∧ w.cell? (ad.add i) = some (.string (xs.getD i (⟨#[]⟩ : ByteArray))) := by
 obtain ⟨ad, c, e, _, hK, hc0⟩ := Kd.C_get h (⟨#[]⟩ : ByteArray) (i : Int) (by omega) (by omega)
 have hK' : c = [.string (xs.getD i (⟨#[]⟩ : ByteArray))] := hK
 subst hK'
 have h0 := hc0 0 _ rfl
 have e1 : Int.toNat (i : Int) * (Kd.string).sz + 0 = i := by show Int.toNat (i : Int) * 1 + 0 = i; omega
 rw [e1] at h0
 exact ⟨ad, e, h0⟩
theorem at_Int {w : World} {A : Option Addr} {n : Nat} {xs : List Int} (h : Kd.C (Kd.int .i64) w A n xs) (i : Nat) (h1 : i < n) : ∃ ad, A = some ad ∧ w.cell? (ad.add i) = some (.int .i64 (xs.getD i (0 : Int))) := by
 obtain ⟨ad, c, e, _, hK, hc0⟩ := Kd.C_get h (0 : Int) (i : Int) (by omega) (by omega)
 have hK' : c = [.int .i64 (xs.getD i (0 : Int))] := hK
 subst hK'
 have h0 := hc0 0 _ rfl
 have e1 : Int.toNat (i : Int) * ((Kd.int .i64)).sz + 0 = i := by show Int.toNat (i : Int) * 1 + 0 = i; omega
 rw [e1] at h0
 exact ⟨ad, e, h0⟩
namespace P
def mark_ : Unit := ()
end P
def rd_TAddr (xs : List SAddr) (i : Int) : SAddr := xs.getD i.toNat zAddr
theorem at_TAddr {w : World} {A : Option Addr} {n : Nat} {xs : List SAddr} (h : Kd.C kAddr w A n xs) (i : Int) (h0 : 0 ≤ i) (h1 : i < n) : ∃ ad, A = some ad ∧ w.cell? (ad.add (i.toNat * 2)) = some (.string (rd_TAddr xs i).f0) ∧ w.cell? ⟨(ad.add (i.toNat * 2)).block, (ad.add (i.toNat * 2)).off + 1, none⟩ = some (.string (rd_TAddr xs i).f1) :=
 at_Addr h i.toNat (by omega)
end Go.Proofs.YticepbgacokbbaaGreatDoor
