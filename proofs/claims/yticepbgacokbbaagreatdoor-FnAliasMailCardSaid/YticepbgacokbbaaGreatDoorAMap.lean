/- Maps keyed by addresses: a set of addresses, the graph of aliases: what they hold, look-ups at an operation. -/
import Derived.Test.YticepbgacokbbaaGreatDoorDistinct
import Derived.Test.YticepbgacokbbaaGreatDoorAliasP
import Derived.Maps.RangeWalk
namespace Go.Proofs.YticepbgacokbbaaGreatDoor
open Go Go.RowKit Go.Maps Go.WideMaps Go.Proofs.YticepbgacokbbaaGreatDoorW.PrintWords
set_option linter.unusedVariables false
set_option linter.unusedSimpArgs false
def LFit (x : SAddr) : Prop := x.f0.size ≤ maxLen ∧ x.f1.size ≤ maxLen
theorem lfit_of {x : SAddr} (h : fitAddr x) : LFit x := ⟨by have := h.1; unfold maxLen; omega, by have := h.2; unfold maxLen; omega⟩
theorem lkey_is (x : SAddr) (h : LFit x) : keyOf Tryz.prog 25 (.agg #[.string x.f0, .string x.f1]) = some (akey x) := by
 unfold keyOf
 rw [Tryz.underlying25]
 have hk : Tryz.prog.keyType 25 = true := by kernel_rfl
 have hc : Tryz.prog.cellsOf 25 = 2 := by kernel_rfl
 have hcs : Tryz.prog.cellsOf 9 = 1 := by kernel_rfl
 have hf : (Value.agg #[.string x.f0, .string x.f1]).formed Tryz.prog 25 = true := by
  simp [Value.formed, Tryz.underlying25, hc]
 obtain ⟨m, hm⟩ : ∃ m, Tryz.prog.types.size = m + 1 := Nat.exists_eq_add_one.2 (Nat.lt_of_le_of_lt (Nat.zero_le _) addr_row)
 have hl : Tryz.prog.keyLits (Tryz.prog.types.size + 1) 25 (Value.agg #[.string x.f0, .string x.f1]).cells.toList = some [.string x.f0.data.toList, .string x.f1.data.toList] := by
  have hcl : (Value.agg #[.string x.f0, .string x.f1]).cells.toList = [.string x.f0, .string x.f1] := rfl
  rw [hcl, hm]
  have e0 := keyLits_string m x.f0 h.1
  have e1 := keyLits_string m x.f1 h.2
  unfold Program.keyLits
  rw [Tryz.underlying25]
  simp [hc, hcs, e0, e1]
 simp only [hk, hf, hl, Bool.and_self, if_true, Option.map_some]
 rfl
theorem lkey_inj {x y : SAddr} (hx : LFit x) (hy : LFit y) (h : akey x = akey y) : x = y := by
 have := addr_law.inj (lkey_is x hx) (h ▸ lkey_is y hy)
 obtain ⟨x0, x1⟩ := x
 obtain ⟨y0, y1⟩ := y
 injection this with this
 simp at this
 rw [this.1, this.2]
set_option maxRecDepth 100000 in
theorem keyLits_inv {d : Nat} {v : Value} {l : List Lit} (h : Tryz.prog.keyLits (d + 1) 9 [v] = some l) : ∃ s : ByteArray, v = .string s ∧ s.size ≤ maxLen := by
 unfold Program.keyLits at h
 rw [Tryz.underlying9] at h
 cases v <;> simp at h
 rename_i s
 exact ⟨s, rfl, h.1⟩
set_option maxRecDepth 100000 in
theorem lkey_inv {v : Value} {kl : Lit} (h : keyOf Tryz.prog 25 v = some kl) : ∃ x, LFit x ∧ v = .agg #[.string x.f0, .string x.f1] ∧ kl = akey x := by
 have h0 := h
 unfold keyOf at h
 rw [Tryz.underlying25] at h
 have hc : Tryz.prog.cellsOf 25 = 2 := by kernel_rfl
 have hcs : Tryz.prog.cellsOf 9 = 1 := by kernel_rfl
 obtain ⟨m, hm⟩ : ∃ m, Tryz.prog.types.size = m + 1 := Nat.exists_eq_add_one.2 (Nat.lt_of_le_of_lt (Nat.zero_le _) addr_row)
 simp only at h
 split at h
 ·rename_i hq
  rw [Bool.and_eq_true] at hq
  have hf := hq.2
  cases v <;> simp [Value.formed, Tryz.underlying25, hc] at hf
  rename_i cs
  obtain ⟨a, b, hab⟩ : ∃ a b, cs = #[a, b] := by
   obtain ⟨l⟩ := cs
   match l, hf with
   | [a, b], _ => exact ⟨a, b, rfl⟩
  subst hab
  rw [Option.map_eq_some_iff] at h
  obtain ⟨ls, hls, _⟩ := h
  have hcl : (Value.agg #[a, b]).cells.toList = [a, b] := rfl
  rw [hcl, hm] at hls
  unfold Program.keyLits at hls
  rw [Tryz.underlying25] at hls
  simp [hc, hcs] at hls
  have ⟨s0, e0, z0⟩ : ∃ s : ByteArray, a = .string s ∧ s.size ≤ maxLen := by
   cases hq : Tryz.prog.keyLits (m + 1) 9 [a] with
   | none => simp [hq] at hls
   | some l => exact keyLits_inv hq
  have ⟨s1, e1, z1⟩ : ∃ s : ByteArray, b = .string s ∧ s.size ≤ maxLen := by
   cases hq : Tryz.prog.keyLits (m + 1) 9 [b] with
   | none => rw [e0, keyLits_string m s0 z0] at hls; simp [hq] at hls
   | some l => exact keyLits_inv hq
  subst e0
  subst e1
  have hx : LFit ⟨s0, s1⟩ := ⟨z0, z1⟩
  have hk := lkey_is ⟨s0, s1⟩ hx
  rw [h0] at hk
  exact ⟨⟨s0, s1⟩, hx, rfl, Option.some.inj hk⟩
 ·cases h
theorem akey_lit (x : SAddr) : WideAt.IsKeyLit (akey x) := by unfold akey; trivial
/-- A map of bools is this set. -/
def SetIs (D : DataW Unit) (S : List SAddr) : Prop := ∀ a, LFit a → Maps.has D (akey a) = decide (a ∈ S) ∧ D.atKey (akey a) (.lit (.bool false)) = .lit (.bool (decide (a ∈ S)))
theorem setIs_nil : SetIs (.map []) [] := fun a _ => ⟨rfl, rfl⟩
theorem setIs_put {D : DataW Unit} {S : List SAddr} {y : SAddr} (h : SetIs D S) (hm : IsMap D) (hy : LFit y) : SetIs (D.put (akey y) (.lit (.bool true))) (S ++ [y]) := by
 intro a ha
 by_cases e : a = y
 ·subst e
  rw [has_put_same hm (akey_lit _), atKey_put_same hm (akey_lit _)]
  simp
 ·have hne : akey a ≠ akey y := fun k => e (lkey_inj ha hy k)
  rw [has_put_other hne, atKey_put_other hne, (h a ha).1, (h a ha).2]
  simp [e]
/-- How a row that came in reads as a map's element: as itself. -/
def grR (v : Value) : Option (DataW Value × List MemPlace) := match v with | .slice _ _ _ => some (.held v, []) | _ => none
theorem grR_inv {v u : Value} {ps : List MemPlace} (h : grR v = some (.held u, ps)) : v = u := by
 unfold grR at h
 cases v <;> simp at h
 exact h.1
structure GraphIs (D : DataW Value) (xs : List SAlias) (w : World) : Prop where
 no : ∀ a, LFit a → isAl xs a = false → Maps.has D (akey a) = false
 yes : ∀ x ∈ xs, Maps.has D (akey x.f0) = true ∧ ∃ A c, (∀ z, D.atKey (akey x.f0) z = .held (.slice A x.f1.length c)) ∧ x.f1.length ≤ c ∧ Kd.C kAddr w A x.f1.length x.f1
theorem graphIs_nil (w : World) : GraphIs (.map []) [] w := ⟨fun _ _ _ => rfl, fun x hx => by cases hx⟩
theorem GraphIs.below {D : DataW Value} {xs : List SAlias} {w w' : World} (h : GraphIs D xs w) (hb : Below w.heap.size w w') : GraphIs D xs w' :=
 ⟨h.no, fun x hx => let ⟨h1, A, c, h2, h3, h4⟩ := h.yes x hx; ⟨h1, A, c, h2, h3, Kd.C_below h4 hb⟩⟩
theorem graphIs_put {D : DataW Value} {xs : List SAlias} {w : World} {y : SAlias} {A : Option Addr} {c : Nat} (h : GraphIs D xs w) (hm : IsMap D) (hf : ∀ x ∈ xs, LFit x.f0) (hy : LFit y.f0) (hn : isAl xs y.f0 = false) (hl : y.f1.length ≤ c) (hr : Kd.C kAddr w A y.f1.length y.f1) :
  GraphIs (D.put (akey y.f0) (.held (.slice A y.f1.length c))) (xs ++ [y]) w := by
 constructor
 ·intro a ha hna
  have h1 : isAl xs a = false := by
   cases hq : isAl xs a
   ·rfl
   ·obtain ⟨x, hx, e⟩ := isAl_iff.1 hq
    rw [isAl_iff.2 ⟨x, by simp [hx], e⟩] at hna
    cases hna
  have h2 : a ≠ y.f0 := fun e => by
   rw [isAl_iff.2 ⟨y, by simp, e.symm⟩] at hna
   cases hna
  rw [has_put_other (fun k => h2 (lkey_inj ha hy k)), h.no a ha h1]
 ·intro x hx
  rcases List.mem_append.1 hx with hx | hx
  ·have hne : akey x.f0 ≠ akey y.f0 := fun k => by
    have e := lkey_inj (hf x hx) hy k
    rw [isAl_iff.2 ⟨x, hx, e⟩] at hn
    cases hn
   obtain ⟨h1, A', c', h2, h3, h4⟩ := h.yes x hx
   exact ⟨by rw [has_put_other hne, h1], A', c', fun z => by rw [atKey_put_other hne, h2], h3, h4⟩
  ·obtain rfl := List.mem_singleton.1 hx
   exact ⟨has_put_same hm (akey_lit _) _, A, c, fun z => atKey_put_same hm (akey_lit _) _ z, hl, hr⟩
theorem tos_find {xs : List SAlias} {a : SAddr} (h : isAl xs a = true) : ∃ x ∈ xs, x.f0 = a ∧ tos xs a = x.f1 := by
 unfold tos
 cases hf : xs.find? (fun x => decide (x.f0 = a)) with
 | none =>
  obtain ⟨x, hx, e⟩ := isAl_iff.1 h
  have := List.find?_eq_none.1 hf x hx
  simp [e] at this
 | some x => exact ⟨x, List.mem_of_find?_eq_some hf, by simpa using List.find?_some hf, rfl⟩
section
variable {P : Program} {w : World} {ops : Array Oper} {rest : List Oper} {o : Oper} {a : Act} {Q : Exit → Act → World → Prop}
/-- 'g[a]'. -/
theorem wpList_lookup_graph (hw : Region.wanted o (yielded ops a.tmps) = true) (m x : Operand) (t : TypeId) (hop : o.op = Op.lookup t m x false) (e : TypeId) (ht : Tryz.prog.underlying t = some (.map 25 e)) (hz : (zeroValue e).run Tryz.prog w = .ok (.slice none 0 0) w) (b n : Nat) (D : DataW Value)
  (hm : a.eval m = .map (some b)) (hown : w.ownsMap Tryz.prog 25 grR b n D) {xs : List SAlias} {w0 : World} (hG : GraphIs D xs w0) (k : SAddr) (hx : a.eval x = .agg #[.string k.f0, .string k.f1]) (hk : LFit k)
  (hK : ∀ A c, (tos xs k).length ≤ c → Kd.C kAddr w0 A (tos xs k).length (tos xs k) → wpList Tryz.prog ops Q rest (a.put o.dst (.slice A (tos xs k).length c)) w) :
  wpList Tryz.prog ops Q (o :: rest) a w := by
 refine wpList_does hw ?_
 obtain ⟨v, ps, hrun, hR⟩ := hown.lookup addr_law ht hz (zd := .held (.slice none 0 0)) (zp := []) rfl (lkey_is k hk)
 have hv : ∃ A c, v = .slice A (tos xs k).length c ∧ (tos xs k).length ≤ c ∧ Kd.C kAddr w0 A (tos xs k).length (tos xs k) := by
  cases hq : isAl xs k
  ·rw [atKey_of_not_has (hG.no k hk hq)] at hR
   rw [tos_no hq]
   exact ⟨none, 0, grR_inv hR, Nat.le_refl _, Kd.C_nil _ _⟩
  ·obtain ⟨y, hy, e1, e2⟩ := tos_find hq
   obtain ⟨_, A, c, h2, h3, h4⟩ := hG.yes y hy
   rw [e1] at h2
   rw [h2] at hR
   rw [e2]
   exact ⟨A, c, grR_inv hR, h3, h4⟩
 obtain ⟨A, c, rfl, hl, hr⟩ := hv
 unfold Oper.wp
 simp [execOp, hop, hm, hx, hrun, Result.andThen]
 exact hK A c hl hr
/-- '_, ok := g[a]'. -/
theorem wpList_lookup_graph_ok (hw : Region.wanted o (yielded ops a.tmps) = true) (m x : Operand) (t : TypeId) (hop : o.op = Op.lookup t m x true) (e : TypeId) (ht : Tryz.prog.underlying t = some (.map 25 e)) (hz : (zeroValue e).run Tryz.prog w = .ok (.slice none 0 0) w) (b n : Nat) (D : DataW Value)
  (hm : a.eval m = .map (some b)) (hown : w.ownsMap Tryz.prog 25 grR b n D) {xs : List SAlias} {w0 : World} (hG : GraphIs D xs w0) (k : SAddr) (hx : a.eval x = .agg #[.string k.f0, .string k.f1]) (hk : LFit k)
  (hK : ∀ v, wpList Tryz.prog ops Q rest (a.put o.dst (.tuple #[v, .bool (isAl xs k)])) w) :
  wpList Tryz.prog ops Q (o :: rest) a w := by
 refine wpList_does hw ?_
 obtain ⟨v, ps, hrun, _⟩ := hown.look_ok addr_law ht hz (zd := .held (.slice none 0 0)) (zp := []) rfl (lkey_is k hk)
 have hh : Maps.has D (akey k) = isAl xs k := by
  cases hq : isAl xs k
  ·exact hG.no k hk hq
  ·obtain ⟨y, hy, e1, _⟩ := tos_find hq
   rw [← e1]
   exact (hG.yes y hy).1
 rw [hh] at hrun
 unfold Oper.wp
 simp [execOp, hop, hm, hx, hrun, Result.andThen]
 exact hK v
/-- 'seen[a]'. -/
theorem wpList_lookup_set (hw : Region.wanted o (yielded ops a.tmps) = true) (m x : Operand) (t : TypeId) (hop : o.op = Op.lookup t m x false) (e : TypeId) (ht : Tryz.prog.underlying t = some (.map 25 e)) (he : Tryz.prog.underlying e = some .bool) (hz : (zeroValue e).run Tryz.prog w = .ok (.bool false) w) (b n : Nat) (D : DataW Unit)
  (hm : a.eval m = .map (some b)) (hown : w.ownsMap Tryz.prog 25 (plainElem Tryz.prog e) b n D) {S : List SAddr} (hS : SetIs D S) (k : SAddr) (c : Bool) (hc : decide (k ∈ S) = c) (hx : a.eval x = .agg #[.string k.f0, .string k.f1]) (hk : LFit k)
  (hK : wpList Tryz.prog ops Q rest (a.put o.dst (.bool c)) w) :
  wpList Tryz.prog ops Q (o :: rest) a w := by
 subst hc
 exact wpList_lookup_own_bool hw m x t hop 25 e addr_law ht he hz b n D hm hown _ (akey k) hx (lkey_is k hk) _ (hS k hk).2 hK
end
end Go.Proofs.YticepbgacokbbaaGreatDoor
