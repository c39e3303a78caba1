/- The program's structs as plain structures; how they read in memory. -/
import Derived.Test.YtiaibgkpohmihaaDoorProg
import Derived.Test.YtiaibgkpohmihaaDoorWWords
import Derived.Test.YtiaibgkpohmihaaDoorWEqStruct
import Derived.Test.YtiaibgkpohmihaaDoorWApart
import Derived.Test.YtiaibgkpohmihaaDoorWGuard
import Derived.WalkKit
import Derived.WalkSpells
import Derived.Outline
import Derived.Lib.Hide
import Derived.Deep.LoopGhost
import Derived.Deep.QuietTactic
import Derived.BigQuiet
namespace Go.Proofs.YtiaibgkpohmihaaDoor
open Go.RowKit Go.Proofs.YtiaibgkpohmihaaDoorW.PrintWords
set_option linter.unusedVariables false
set_option linter.unusedSimpArgs false
theorem info9 : (Tryd.prog.info? 9).map (fun i => (i.zero, i.size, i.bytes)) = some (some (.string ⟨#[]⟩), 1, 16) := by kernel_rfl
theorem info3 : (Tryd.prog.info? 3).map (fun i => (i.zero, i.size, i.bytes)) = some (some (.int .i64 0), 1, 8) := by kernel_rfl
theorem info24 : (Tryd.prog.info? 24).map (fun i => (i.zero, i.size, i.bytes)) = some (some (.agg #[(.string ⟨#[]⟩), (.string ⟨#[]⟩)]), 2, 32) := by kernel_rfl
theorem info55 : (Tryd.prog.info? 55).map (fun i => (i.zero, i.size, i.bytes)) = some (some (.agg #[(.string ⟨#[]⟩), (.string ⟨#[]⟩), (.int .i64 0), (.int .i64 0)]), 4, 48) := by kernel_rfl
theorem info33 : (Tryd.prog.info? 33).map (fun i => (i.zero, i.size, i.bytes)) = some (some (.agg #[(.string ⟨#[]⟩), (.string ⟨#[]⟩), (.slice none 0 0), (.slice none 0 0)]), 4, 80) := by kernel_rfl
theorem info28 : (Tryd.prog.info? 28).map (fun i => (i.zero, i.size, i.bytes)) = some (some (.agg #[(.int .i64 0), (.string ⟨#[]⟩), (.string ⟨#[]⟩), (.slice none 0 0), (.slice none 0 0)]), 5, 88) := by kernel_rfl
theorem info43 : (Tryd.prog.info? 43).map (fun i => (i.zero, i.size, i.bytes)) = some (some (.agg #[(.int .i64 0), (.slice none 0 0)]), 2, 32) := by kernel_rfl
def fitStr (s : ByteArray) : Prop := s.size ≤ 1048576
def fitInt (n : Int) : Prop := (Lit.int .i64 n).wf = true

/-! #### Addr -/
structure SAddr where
 f0 : ByteArray
 f1 : ByteArray
def zAddr : SAddr := ⟨(⟨#[]⟩ : ByteArray), (⟨#[]⟩ : ByteArray)⟩
instance : DecidableEq SAddr := fun a b => decidable_of_iff (a.f0 = b.f0 ∧ a.f1 = b.f1) ⟨fun h => by cases a; cases b; simp_all, fun h => by subst h; simp⟩
def fitAddr (x : SAddr) : Prop := x.f0.size ≤ 1048576 ∧ x.f1.size ≤ 1048576
def wideAddr (x : SAddr) : Prop := x.f0.size ≤ 9223372036854775807 ∧ x.f1.size ≤ 9223372036854775807
def kAddr : Kd SAddr := Kd.iso (Kd.pair Kd.string Kd.string) (fun x : SAddr => (x.f0, x.f1))
theorem kAddr_open {w : World} {x : SAddr} {cs : List Value} (h : kAddr.K w x cs) : cs = [.string x.f0, .string x.f1] := by
 obtain ⟨_, _, rfl, rfl, rfl⟩ := h
 exact rfl
theorem kAddr_mk (w : World) (x : SAddr)  : kAddr.K w x [.string x.f0, .string x.f1] := ⟨[.string x.f0], [.string x.f1], rfl, rfl, rfl⟩
theorem kAddr_openM {w : World} {base : Nat} {ok : Nat → Prop} {x : SAddr} {cs : List Value} (h : kAddr.M w base ok x cs) : cs = [.string x.f0, .string x.f1] := by
 obtain ⟨_, _, rfl, rfl, rfl⟩ := h
 exact rfl
theorem kAddr_mkM (w : World) (base : Nat) (ok : Nat → Prop) (x : SAddr)  : kAddr.M w base ok x [.string x.f0, .string x.f1] := ⟨[.string x.f0], [.string x.f1], rfl, rfl, rfl⟩
theorem at_Addr {w : World} {A : Option Addr} {n : Nat} {xs : List SAddr} (h : Kd.C kAddr w A n xs) (i : Nat) (h1 : i < n) : ∃ ad , A = some ad ∧ w.cell? (ad.add (i * 2)) = some (.string (xs.getD i zAddr).f0) ∧ w.cell? ⟨(ad.add (i * 2)).block, (ad.add (i * 2)).off + 1, none⟩ = some (.string (xs.getD i zAddr).f1) := by
 obtain ⟨ad, c, e, _, hK, hc0⟩ := Kd.C_get h zAddr (i : Int) (by omega) (by omega)
 have hc : ∀ j u, c[j]? = some u → w.cell? (ad.add (i * 2 + j)) = some u := hc0
 obtain rfl := kAddr_open hK
 exact ⟨ad, e, hc 0 _ rfl, (by rw [← add_field _ _ 1 (by omega)]; exact hc 1 _ rfl)⟩

/-! #### Rcpt -/
structure SRcpt where
 f0 : SAddr
 f1 : Int
 f2 : Int
def zRcpt : SRcpt := ⟨zAddr, (0 : Int), (0 : Int)⟩
instance : DecidableEq SRcpt := fun a b => decidable_of_iff (a.f0 = b.f0 ∧ a.f1 = b.f1 ∧ a.f2 = b.f2) ⟨fun h => by cases a; cases b; simp_all, fun h => by subst h; simp⟩
def fitRcpt (x : SRcpt) : Prop := fitAddr x.f0 ∧ (Lit.int .i64 x.f1).wf = true ∧ (Lit.int .i64 x.f2).wf = true
def wideRcpt (x : SRcpt) : Prop := wideAddr x.f0 ∧ (Lit.int .i64 x.f1).wf = true ∧ (Lit.int .i64 x.f2).wf = true
def kRcpt : Kd SRcpt := Kd.iso (Kd.pair kAddr (Kd.pair (Kd.int .i64) (Kd.int .i64))) (fun x : SRcpt => (x.f0, x.f1, x.f2))
theorem kRcpt_open {w : World} {x : SRcpt} {cs : List Value} (h : kRcpt.K w x cs) : cs = [.string x.f0.f0, .string x.f0.f1, .int .i64 x.f1, .int .i64 x.f2] := by
 obtain ⟨_, _, rfl, s_0, ⟨_, _, rfl, rfl, rfl⟩⟩ := h
 obtain rfl := kAddr_open s_0
 exact rfl
theorem kRcpt_mk (w : World) (x : SRcpt)  : kRcpt.K w x [.string x.f0.f0, .string x.f0.f1, .int .i64 x.f1, .int .i64 x.f2] := ⟨[.string x.f0.f0, .string x.f0.f1], [.int .i64 x.f1, .int .i64 x.f2], rfl, ⟨[.string x.f0.f0], [.string x.f0.f1], rfl, rfl, rfl⟩, ⟨[.int .i64 x.f1], [.int .i64 x.f2], rfl, rfl, rfl⟩⟩
theorem kRcpt_openM {w : World} {base : Nat} {ok : Nat → Prop} {x : SRcpt} {cs : List Value} (h : kRcpt.M w base ok x cs) : cs = [.string x.f0.f0, .string x.f0.f1, .int .i64 x.f1, .int .i64 x.f2] := by
 obtain ⟨_, _, rfl, s_0, ⟨_, _, rfl, rfl, rfl⟩⟩ := h
 obtain rfl := kAddr_openM s_0
 exact rfl
theorem kRcpt_mkM (w : World) (base : Nat) (ok : Nat → Prop) (x : SRcpt)  : kRcpt.M w base ok x [.string x.f0.f0, .string x.f0.f1, .int .i64 x.f1, .int .i64 x.f2] := ⟨[.string x.f0.f0, .string x.f0.f1], [.int .i64 x.f1, .int .i64 x.f2], rfl, ⟨[.string x.f0.f0], [.string x.f0.f1], rfl, rfl, rfl⟩, ⟨[.int .i64 x.f1], [.int .i64 x.f2], rfl, rfl, rfl⟩⟩
theorem at_Rcpt {w : World} {A : Option Addr} {n : Nat} {xs : List SRcpt} (h : Kd.C kRcpt w A n xs) (i : Nat) (h1 : i < n) : ∃ ad , A = some ad ∧ w.cell? (ad.add (i * 4)) = some (.string (xs.getD i zRcpt).f0.f0) ∧ w.cell? ⟨(ad.add (i * 4)).block, (ad.add (i * 4)).off + 1, none⟩ = some (.string (xs.getD i zRcpt).f0.f1) ∧ w.cell? ⟨(ad.add (i * 4)).block, (ad.add (i * 4)).off + 2, none⟩ = some (.int .i64 (xs.getD i zRcpt).f1) ∧ w.cell? ⟨(ad.add (i * 4)).block, (ad.add (i * 4)).off + 3, none⟩ = some (.int .i64 (xs.getD i zRcpt).f2) := by
 obtain ⟨ad, c, e, _, hK, hc0⟩ := Kd.C_get h zRcpt (i : Int) (by omega) (by omega)
 have hc : ∀ j u, c[j]? = some u → w.cell? (ad.add (i * 4 + j)) = some u := hc0
 obtain rfl := kRcpt_open hK
 exact ⟨ad, e, hc 0 _ rfl, (by rw [← add_field _ _ 1 (by omega)]; exact hc 1 _ rfl), (by rw [← add_field _ _ 2 (by omega)]; exact hc 2 _ rfl), (by rw [← add_field _ _ 3 (by omega)]; exact hc 3 _ rfl)⟩

/-! #### Mail -/
structure SMail where
 f0 : SAddr
 f1 : (List SAddr)
 f2 : (List ByteArray)
def zMail : SMail := ⟨zAddr, [], []⟩
instance : DecidableEq SMail := fun a b => decidable_of_iff (a.f0 = b.f0 ∧ a.f1 = b.f1 ∧ a.f2 = b.f2) ⟨fun h => by cases a; cases b; simp_all, fun h => by subst h; simp⟩
def fitMail (x : SMail) : Prop := fitAddr x.f0 ∧ (x.f1.length ≤ 1048576 ∧ ∀ y ∈ x.f1, fitAddr y) ∧ (x.f2.length ≤ 1048576 ∧ ∀ y ∈ x.f2, y.size ≤ 1048576)
def wideMail (x : SMail) : Prop := wideAddr x.f0 ∧ (x.f1.length ≤ 9223372036854775807 ∧ ∀ y ∈ x.f1, wideAddr y) ∧ (x.f2.length ≤ 9223372036854775807 ∧ ∀ y ∈ x.f2, y.size ≤ 9223372036854775807)
def kMail : Kd SMail := Kd.iso (Kd.pair kAddr (Kd.pair (Kd.slice 24 kAddr) (Kd.slice 9 Kd.string))) (fun x : SMail => (x.f0, x.f1, x.f2))
theorem kMail_open {w : World} {x : SMail} {cs : List Value} (h : kMail.K w x cs) : ∃ A0 c0 A1 c1, cs = [.string x.f0.f0, .string x.f0.f1, .slice A0 x.f1.length c0, .slice A1 x.f2.length c1] ∧ x.f1.length ≤ c0 ∧ Kd.C kAddr w A0 x.f1.length x.f1 ∧ x.f2.length ≤ c1 ∧ Kd.C Kd.string w A1 x.f2.length x.f2 := by
 obtain ⟨_, _, rfl, s_0, ⟨_, _, rfl, ⟨A_1, c_1, rfl, hl_1, hr_1⟩, ⟨A_2, c_2, rfl, hl_2, hr_2⟩⟩⟩ := h
 obtain rfl := kAddr_open s_0
 exact ⟨A_1, c_1, A_2, c_2, rfl, hl_1, hr_1, hl_2, hr_2⟩
theorem kMail_mk (w : World) (x : SMail) {A0 : Option Addr} {c0 : Nat} (hl0 : x.f1.length ≤ c0) (hr0 : Kd.C kAddr w A0 x.f1.length x.f1) {A1 : Option Addr} {c1 : Nat} (hl1 : x.f2.length ≤ c1) (hr1 : Kd.C Kd.string w A1 x.f2.length x.f2) : kMail.K w x [.string x.f0.f0, .string x.f0.f1, .slice A0 x.f1.length c0, .slice A1 x.f2.length c1] := ⟨[.string x.f0.f0, .string x.f0.f1], [.slice A0 x.f1.length c0, .slice A1 x.f2.length c1], rfl, ⟨[.string x.f0.f0], [.string x.f0.f1], rfl, rfl, rfl⟩, ⟨[.slice A0 x.f1.length c0], [.slice A1 x.f2.length c1], rfl, ⟨A0, c0, rfl, hl0, hr0⟩, ⟨A1, c1, rfl, hl1, hr1⟩⟩⟩
theorem kMail_openM {w : World} {base : Nat} {ok : Nat → Prop} {x : SMail} {cs : List Value} (h : kMail.M w base ok x cs) : ∃ v0 v1, cs = [.string x.f0.f0, .string x.f0.f1, v0, v1] ∧ Kd.R kAddr 24 w base ok v0 x.f1 ∧ Kd.R Kd.string 9 w base ok v1 x.f2 := by
 obtain ⟨_, _, rfl, s_0, ⟨_, _, rfl, ⟨v_1, rfl, hr_1⟩, ⟨v_2, rfl, hr_2⟩⟩⟩ := h
 obtain rfl := kAddr_openM s_0
 exact ⟨v_1, v_2, rfl, hr_1, hr_2⟩
theorem kMail_mkM (w : World) (base : Nat) (ok : Nat → Prop) (x : SMail) {v0 : Value} (hr0 : Kd.R kAddr 24 w base ok v0 x.f1) {v1 : Value} (hr1 : Kd.R Kd.string 9 w base ok v1 x.f2) : kMail.M w base ok x [.string x.f0.f0, .string x.f0.f1, v0, v1] := ⟨[.string x.f0.f0, .string x.f0.f1], [v0, v1], rfl, ⟨[.string x.f0.f0], [.string x.f0.f1], rfl, rfl, rfl⟩, ⟨[v0], [v1], rfl, ⟨v0, rfl, hr0⟩, ⟨v1, rfl, hr1⟩⟩⟩
theorem at_Mail {w : World} {A : Option Addr} {n : Nat} {xs : List SMail} (h : Kd.C kMail w A n xs) (i : Nat) (h1 : i < n) : ∃ ad A0 c0 A1 c1, A = some ad ∧ w.cell? (ad.add (i * 4)) = some (.string (xs.getD i zMail).f0.f0) ∧ w.cell? ⟨(ad.add (i * 4)).block, (ad.add (i * 4)).off + 1, none⟩ = some (.string (xs.getD i zMail).f0.f1) ∧ w.cell? ⟨(ad.add (i * 4)).block, (ad.add (i * 4)).off + 2, none⟩ = some (.slice A0 (xs.getD i zMail).f1.length c0) ∧ w.cell? ⟨(ad.add (i * 4)).block, (ad.add (i * 4)).off + 3, none⟩ = some (.slice A1 (xs.getD i zMail).f2.length c1) ∧ (xs.getD i zMail).f1.length ≤ c0 ∧ Kd.C kAddr w A0 (xs.getD i zMail).f1.length (xs.getD i zMail).f1 ∧ (xs.getD i zMail).f2.length ≤ c1 ∧ Kd.C Kd.string w A1 (xs.getD i zMail).f2.length (xs.getD i zMail).f2 := by
 obtain ⟨ad, c, e, _, hK, hc0⟩ := Kd.C_get h zMail (i : Int) (by omega) (by omega)
 have hc : ∀ j u, c[j]? = some u → w.cell? (ad.add (i * 4 + j)) = some u := hc0
 obtain ⟨a0, b0, a1, b1, rfl, p0, q0, p1, q1⟩ := kMail_open hK
 exact ⟨ad, a0, b0, a1, b1, e, hc 0 _ rfl, (by rw [← add_field _ _ 1 (by omega)]; exact hc 1 _ rfl), (by rw [← add_field _ _ 2 (by omega)]; exact hc 2 _ rfl), (by rw [← add_field _ _ 3 (by omega)]; exact hc 3 _ rfl), p0, q0, p1, q1⟩

/-! #### Item -/
structure SItem where
 f0 : Int
 f1 : SAddr
 f2 : (List SRcpt)
 f3 : (List ByteArray)
def zItem : SItem := ⟨(0 : Int), zAddr, [], []⟩
instance : DecidableEq SItem := fun a b => decidable_of_iff (a.f0 = b.f0 ∧ a.f1 = b.f1 ∧ a.f2 = b.f2 ∧ a.f3 = b.f3) ⟨fun h => by cases a; cases b; simp_all, fun h => by subst h; simp⟩
def fitItem (x : SItem) : Prop := (Lit.int .i64 x.f0).wf = true ∧ fitAddr x.f1 ∧ (x.f2.length ≤ 1048576 ∧ ∀ y ∈ x.f2, fitRcpt y) ∧ (x.f3.length ≤ 1048576 ∧ ∀ y ∈ x.f3, y.size ≤ 1048576)
def wideItem (x : SItem) : Prop := (Lit.int .i64 x.f0).wf = true ∧ wideAddr x.f1 ∧ (x.f2.length ≤ 9223372036854775807 ∧ ∀ y ∈ x.f2, wideRcpt y) ∧ (x.f3.length ≤ 9223372036854775807 ∧ ∀ y ∈ x.f3, y.size ≤ 9223372036854775807)
def kItem : Kd SItem := Kd.iso (Kd.pair (Kd.int .i64) (Kd.pair kAddr (Kd.pair (Kd.slice 55 kRcpt) (Kd.slice 9 Kd.string)))) (fun x : SItem => (x.f0, x.f1, x.f2, x.f3))
theorem kItem_open {w : World} {x : SItem} {cs : List Value} (h : kItem.K w x cs) : ∃ A0 c0 A1 c1, cs = [.int .i64 x.f0, .string x.f1.f0, .string x.f1.f1, .slice A0 x.f2.length c0, .slice A1 x.f3.length c1] ∧ x.f2.length ≤ c0 ∧ Kd.C kRcpt w A0 x.f2.length x.f2 ∧ x.f3.length ≤ c1 ∧ Kd.C Kd.string w A1 x.f3.length x.f3 := by
 obtain ⟨_, _, rfl, rfl, ⟨_, _, rfl, s_1, ⟨_, _, rfl, ⟨A_2, c_2, rfl, hl_2, hr_2⟩, ⟨A_3, c_3, rfl, hl_3, hr_3⟩⟩⟩⟩ := h
 obtain rfl := kAddr_open s_1
 exact ⟨A_2, c_2, A_3, c_3, rfl, hl_2, hr_2, hl_3, hr_3⟩
theorem kItem_mk (w : World) (x : SItem) {A0 : Option Addr} {c0 : Nat} (hl0 : x.f2.length ≤ c0) (hr0 : Kd.C kRcpt w A0 x.f2.length x.f2) {A1 : Option Addr} {c1 : Nat} (hl1 : x.f3.length ≤ c1) (hr1 : Kd.C Kd.string w A1 x.f3.length x.f3) : kItem.K w x [.int .i64 x.f0, .string x.f1.f0, .string x.f1.f1, .slice A0 x.f2.length c0, .slice A1 x.f3.length c1] := ⟨[.int .i64 x.f0], [.string x.f1.f0, .string x.f1.f1, .slice A0 x.f2.length c0, .slice A1 x.f3.length c1], rfl, rfl, ⟨[.string x.f1.f0, .string x.f1.f1], [.slice A0 x.f2.length c0, .slice A1 x.f3.length c1], rfl, ⟨[.string x.f1.f0], [.string x.f1.f1], rfl, rfl, rfl⟩, ⟨[.slice A0 x.f2.length c0], [.slice A1 x.f3.length c1], rfl, ⟨A0, c0, rfl, hl0, hr0⟩, ⟨A1, c1, rfl, hl1, hr1⟩⟩⟩⟩
theorem kItem_openM {w : World} {base : Nat} {ok : Nat → Prop} {x : SItem} {cs : List Value} (h : kItem.M w base ok x cs) : ∃ v0 v1, cs = [.int .i64 x.f0, .string x.f1.f0, .string x.f1.f1, v0, v1] ∧ Kd.R kRcpt 55 w base ok v0 x.f2 ∧ Kd.R Kd.string 9 w base ok v1 x.f3 := by
 obtain ⟨_, _, rfl, rfl, ⟨_, _, rfl, s_1, ⟨_, _, rfl, ⟨v_2, rfl, hr_2⟩, ⟨v_3, rfl, hr_3⟩⟩⟩⟩ := h
 obtain rfl := kAddr_openM s_1
 exact ⟨v_2, v_3, rfl, hr_2, hr_3⟩
theorem kItem_mkM (w : World) (base : Nat) (ok : Nat → Prop) (x : SItem) {v0 : Value} (hr0 : Kd.R kRcpt 55 w base ok v0 x.f2) {v1 : Value} (hr1 : Kd.R Kd.string 9 w base ok v1 x.f3) : kItem.M w base ok x [.int .i64 x.f0, .string x.f1.f0, .string x.f1.f1, v0, v1] := ⟨[.int .i64 x.f0], [.string x.f1.f0, .string x.f1.f1, v0, v1], rfl, rfl, ⟨[.string x.f1.f0, .string x.f1.f1], [v0, v1], rfl, ⟨[.string x.f1.f0], [.string x.f1.f1], rfl, rfl, rfl⟩, ⟨[v0], [v1], rfl, ⟨v0, rfl, hr0⟩, ⟨v1, rfl, hr1⟩⟩⟩⟩
theorem at_Item {w : World} {A : Option Addr} {n : Nat} {xs : List SItem} (h : Kd.C kItem w A n xs) (i : Nat) (h1 : i < n) : ∃ ad A0 c0 A1 c1, A = some ad ∧ w.cell? (ad.add (i * 5)) = some (.int .i64 (xs.getD i zItem).f0) ∧ w.cell? ⟨(ad.add (i * 5)).block, (ad.add (i * 5)).off + 1, none⟩ = some (.string (xs.getD i zItem).f1.f0) ∧ w.cell? ⟨(ad.add (i * 5)).block, (ad.add (i * 5)).off + 2, none⟩ = some (.string (xs.getD i zItem).f1.f1) ∧ w.cell? ⟨(ad.add (i * 5)).block, (ad.add (i * 5)).off + 3, none⟩ = some (.slice A0 (xs.getD i zItem).f2.length c0) ∧ w.cell? ⟨(ad.add (i * 5)).block, (ad.add (i * 5)).off + 4, none⟩ = some (.slice A1 (xs.getD i zItem).f3.length c1) ∧ (xs.getD i zItem).f2.length ≤ c0 ∧ Kd.C kRcpt w A0 (xs.getD i zItem).f2.length (xs.getD i zItem).f2 ∧ (xs.getD i zItem).f3.length ≤ c1 ∧ Kd.C Kd.string w A1 (xs.getD i zItem).f3.length (xs.getD i zItem).f3 := by
 obtain ⟨ad, c, e, _, hK, hc0⟩ := Kd.C_get h zItem (i : Int) (by omega) (by omega)
 have hc : ∀ j u, c[j]? = some u → w.cell? (ad.add (i * 5 + j)) = some u := hc0
 obtain ⟨a0, b0, a1, b1, rfl, p0, q0, p1, q1⟩ := kItem_open hK
 exact ⟨ad, a0, b0, a1, b1, e, hc 0 _ rfl, (by rw [← add_field _ _ 1 (by omega)]; exact hc 1 _ rfl), (by rw [← add_field _ _ 2 (by omega)]; exact hc 2 _ rfl), (by rw [← add_field _ _ 3 (by omega)]; exact hc 3 _ rfl), (by rw [← add_field _ _ 4 (by omega)]; exact hc 4 _ rfl), p0, q0, p1, q1⟩

/-! #### Spool -/
structure SSpool where
 f0 : Int
 f1 : (List SItem)
def zSpool : SSpool := ⟨(0 : Int), []⟩
instance : DecidableEq SSpool := fun a b => decidable_of_iff (a.f0 = b.f0 ∧ a.f1 = b.f1) ⟨fun h => by cases a; cases b; simp_all, fun h => by subst h; simp⟩
def fitSpool (x : SSpool) : Prop := (Lit.int .i64 x.f0).wf = true ∧ (x.f1.length ≤ 1048576 ∧ ∀ y ∈ x.f1, fitItem y)
def wideSpool (x : SSpool) : Prop := (Lit.int .i64 x.f0).wf = true ∧ (x.f1.length ≤ 9223372036854775807 ∧ ∀ y ∈ x.f1, wideItem y)
def kSpool : Kd SSpool := Kd.iso (Kd.pair (Kd.int .i64) (Kd.slice 28 kItem)) (fun x : SSpool => (x.f0, x.f1))
theorem kSpool_open {w : World} {x : SSpool} {cs : List Value} (h : kSpool.K w x cs) : ∃ A0 c0, cs = [.int .i64 x.f0, .slice A0 x.f1.length c0] ∧ x.f1.length ≤ c0 ∧ Kd.C kItem w A0 x.f1.length x.f1 := by
 obtain ⟨_, _, rfl, rfl, ⟨A_1, c_1, rfl, hl_1, hr_1⟩⟩ := h
 exact ⟨A_1, c_1, rfl, hl_1, hr_1⟩
theorem kSpool_mk (w : World) (x : SSpool) {A0 : Option Addr} {c0 : Nat} (hl0 : x.f1.length ≤ c0) (hr0 : Kd.C kItem w A0 x.f1.length x.f1) : kSpool.K w x [.int .i64 x.f0, .slice A0 x.f1.length c0] := ⟨[.int .i64 x.f0], [.slice A0 x.f1.length c0], rfl, rfl, ⟨A0, c0, rfl, hl0, hr0⟩⟩
theorem kSpool_openM {w : World} {base : Nat} {ok : Nat → Prop} {x : SSpool} {cs : List Value} (h : kSpool.M w base ok x cs) : ∃ v0, cs = [.int .i64 x.f0, v0] ∧ Kd.R kItem 28 w base ok v0 x.f1 := by
 obtain ⟨_, _, rfl, rfl, ⟨v_1, rfl, hr_1⟩⟩ := h
 exact ⟨v_1, rfl, hr_1⟩
theorem kSpool_mkM (w : World) (base : Nat) (ok : Nat → Prop) (x : SSpool) {v0 : Value} (hr0 : Kd.R kItem 28 w base ok v0 x.f1) : kSpool.M w base ok x [.int .i64 x.f0, v0] := ⟨[.int .i64 x.f0], [v0], rfl, rfl, ⟨v0, rfl, hr0⟩⟩
theorem at_Spool {w : World} {A : Option Addr} {n : Nat} {xs : List SSpool} (h : Kd.C kSpool w A n xs) (i : Nat) (h1 : i < n) : ∃ ad A0 c0, A = some ad ∧ w.cell? (ad.add (i * 2)) = some (.int .i64 (xs.getD i zSpool).f0) ∧ w.cell? ⟨(ad.add (i * 2)).block, (ad.add (i * 2)).off + 1, none⟩ = some (.slice A0 (xs.getD i zSpool).f1.length c0) ∧ (xs.getD i zSpool).f1.length ≤ c0 ∧ Kd.C kItem w A0 (xs.getD i zSpool).f1.length (xs.getD i zSpool).f1 := by
 obtain ⟨ad, c, e, _, hK, hc0⟩ := Kd.C_get h zSpool (i : Int) (by omega) (by omega)
 have hc : ∀ j u, c[j]? = some u → w.cell? (ad.add (i * 2 + j)) = some u := hc0
 obtain ⟨a0, b0, rfl, p0, q0⟩ := kSpool_open hK
 exact ⟨ad, a0, b0, e, hc 0 _ rfl, (by rw [← add_field _ _ 1 (by omega)]; exact hc 1 _ rfl), p0, q0⟩
theorem eqA24 (d : Nat) (w : World) (x0 y0 : ByteArray) (x1 y1 : ByteArray) :
  (Op.equalIn (d + 2) 24 (.agg #[.string x0, .string x1]) (.agg #[.string y0, .string y1])).run Tryd.prog w = .ok (x0.toList == y0.toList && (x1.toList == y1.toList)) w := by
 refine eqA_of Tryd.underlying24 (by kernel_rfl) ?_
 refine eqf_cons (by rfl) (by go_simp; rfl) (by go_simp; rfl) (by go_simp) ?_
 exact eqf_last (by rfl) (by go_simp; rfl) (by go_simp; rfl) (by go_simp)
theorem at_Str {w : World} {A : Option Addr} {n : Nat} {xs : List ByteArray} (h : Kd.C Kd.string w A n xs) (i : Nat) (h1 : i < n) : ∃ ad, A = some ad ∧ w.cell? (ad.add i) = some (.string (xs.getD i (⟨#[]⟩ : ByteArray))) := by
 obtain ⟨ad, c, e, _, hK, hc0⟩ := Kd.C_get h (⟨#[]⟩ : ByteArray) (i : Int) (by omega) (by omega)
 have hK' : c = [.string (xs.getD i (⟨#[]⟩ : ByteArray))] := hK
 subst hK'
 have h0 := hc0 0 _ rfl
 have e1 : Int.toNat (i : Int) * (Kd.string).sz + 0 = i := by show Int.toNat (i : Int) * 1 + 0 = i; omega
 rw [e1] at h0
 exact ⟨ad, e, h0⟩
theorem at_Int {w : World} {A : Option Addr} {n : Nat} {xs : List Int} (h : Kd.C (Kd.int .i64) w A n xs) (i : Nat) (h1 : i < n) : ∃ ad, A = some ad ∧ w.cell? (ad.add i) = some (.int .i64 (xs.getD i (0 : Int))) := by
 obtain ⟨ad, c, e, _, hK, hc0⟩ := Kd.C_get h (0 : Int) (i : Int) (by omega) (by omega)
 have hK' : c = [.int .i64 (xs.getD i (0 : Int))] := hK
 subst hK'
 have h0 := hc0 0 _ rfl
 have e1 : Int.toNat (i : Int) * ((Kd.int .i64)).sz + 0 = i := by show Int.toNat (i : Int) * 1 + 0 = i; omega
 rw [e1] at h0
 exact ⟨ad, e, h0⟩
namespace P
def mark_ : Unit := ()
end P
def rd_TAddr (xs : List SAddr) (i : Int) : SAddr := xs.getD i.toNat zAddr
theorem at_TAddr {w : World} {A : Option Addr} {n : Nat} {xs : List SAddr} (h : Kd.C kAddr w A n xs) (i : Int) (h0 : 0 ≤ i) (h1 : i < n) : ∃ ad, A = some ad ∧ w.cell? (ad.add (i.toNat * 2)) = some (.string (rd_TAddr xs i).f0) ∧ w.cell? ⟨(ad.add (i.toNat * 2)).block, (ad.add (i.toNat * 2)).off + 1, none⟩ = some (.string (rd_TAddr xs i).f1) :=
 at_Addr h i.toNat (by omega)
def rd_TRcpt (xs : List SRcpt) (i : Int) : SRcpt := xs.getD i.toNat zRcpt
theorem at_TRcpt {w : World} {A : Option Addr} {n : Nat} {xs : List SRcpt} (h : Kd.C kRcpt w A n xs) (i : Int) (h0 : 0 ≤ i) (h1 : i < n) : ∃ ad, A = some ad ∧ w.cell? (ad.add (i.toNat * 4)) = some (.string (rd_TRcpt xs i).f0.f0) ∧ w.cell? ⟨(ad.add (i.toNat * 4)).block, (ad.add (i.toNat * 4)).off + 1, none⟩ = some (.string (rd_TRcpt xs i).f0.f1) ∧ w.cell? ⟨(ad.add (i.toNat * 4)).block, (ad.add (i.toNat * 4)).off + 2, none⟩ = some (.int .i64 (rd_TRcpt xs i).f1) ∧ w.cell? ⟨(ad.add (i.toNat * 4)).block, (ad.add (i.toNat * 4)).off + 3, none⟩ = some (.int .i64 (rd_TRcpt xs i).f2) :=
 at_Rcpt h i.toNat (by omega)
end Go.Proofs.YtiaibgkpohmihaaDoor
