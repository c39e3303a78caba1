/- distinct over addresses: whether all differ. -/
import Derived.Test.YticepbgacokbbaaGreatDoorAddr2
import Derived.Test.YticepbgacokbbaaGreatDoorMaps
import Derived.Test.YticepbgacokbbaaGreatDoorBase
import Derived.DeepKeys4
namespace Go.Proofs.YticepbgacokbbaaGreatDoor
open Go.RowKit Go.Maps Go.WideMaps Go.Proofs.YticepbgacokbbaaGreatDoorW.PrintWords P
set_option linter.unusedVariables false
set_option linter.unusedSimpArgs false

theorem laidOutD : laidOutB Tryz.prog = true := by kernel_rfl
theorem addr_row : (25 : TypeId) < Tryz.prog.types.size := of_decide_eq_true (by kernel_rfl)
theorem addr_deep : Tryz.prog.keyTypeAt 2 25 = true := by kernel_rfl
theorem le_deep : 2 + 1 ≤ 10000 := by decide
theorem addr_keylaw : KeyLaw Tryz.prog 25 := @deep_law_laid Tryz.prog laidOutD 2 le_deep 25 addr_row addr_deep (by rw [Tryz.underlying25])
theorem addr_law : Keyed Tryz.prog 25 := Keyed.of_law addr_keylaw
/-- An address as a map's key. -/
def akey (x : SAddr) : Lit := .string (keyBytes [.string x.f0.data.toList, .string x.f1.data.toList])
def AFit (x : SAddr) : Prop := x.f0.size < 4294967281 ∧ x.f1.size < 4294967281
theorem keyLits_string (d : Nat) (s : ByteArray) (h : s.size ≤ maxLen) : Tryz.prog.keyLits (d + 1) 9 [.string s] = some [.string s.data.toList] := by
 unfold Program.keyLits
 rw [Tryz.underlying9]
 exact if_pos h
theorem akey_is (x : SAddr) (h : AFit x) : keyOf Tryz.prog 25 (.agg #[.string x.f0, .string x.f1]) = some (akey x) := by
 have h0 : x.f0.size ≤ maxLen := by have := h.1; unfold maxLen; omega
 have h1 : x.f1.size ≤ maxLen := by have := h.2; unfold maxLen; omega
 unfold keyOf
 rw [Tryz.underlying25]
 have hk : Tryz.prog.keyType 25 = true := by kernel_rfl
 have hc : Tryz.prog.cellsOf 25 = 2 := by kernel_rfl
 have hcs : Tryz.prog.cellsOf 9 = 1 := by kernel_rfl
 have hf : (Value.agg #[.string x.f0, .string x.f1]).formed Tryz.prog 25 = true := by
  simp [Value.formed, Tryz.underlying25, hc]
 obtain ⟨m, hm⟩ : ∃ m, Tryz.prog.types.size = m + 1 := Nat.exists_eq_add_one.2 (Nat.lt_of_le_of_lt (Nat.zero_le _) addr_row)
 have hl : Tryz.prog.keyLits (Tryz.prog.types.size + 1) 25 (Value.agg #[.string x.f0, .string x.f1]).cells.toList = some [.string x.f0.data.toList, .string x.f1.data.toList] := by
  have hcl : (Value.agg #[.string x.f0, .string x.f1]).cells.toList = [.string x.f0, .string x.f1] := rfl
  rw [hcl, hm]
  have e0 := keyLits_string m x.f0 h0
  have e1 := keyLits_string m x.f1 h1
  unfold Program.keyLits
  rw [Tryz.underlying25]
  simp [hc, hcs, e0, e1]
 simp only [hk, hf, hl, Bool.and_self, if_true, Option.map_some]
 rfl
theorem akey_inj {x y : SAddr} (hx : AFit x) (hy : AFit y) (h : akey x = akey y) : x = y := by
 have := addr_law.inj (akey_is x hx) (h ▸ akey_is y hy)
 obtain ⟨x0, x1⟩ := x
 obtain ⟨y0, y1⟩ := y
 injection this with this
 simp at this
 rw [this.1, this.2]
/-- The set of the first k. -/
def Sn (xs : List SAddr) (k : Nat) : DataW Unit := setOf (.lit (.bool true)) ((xs.take k).map akey)
theorem Sn_zero (xs : List SAddr) : Sn xs 0 = .map [] := rfl
theorem Sn_succ (xs : List SAddr) (k : Nat) (hk : k < xs.length) : Sn xs (k + 1) = (Sn xs k).put (akey (xs.getD k zAddr)) (.lit (.bool true)) := by
 unfold Sn
 rw [List.take_succ_eq_append_getElem hk, List.map_append, List.map_cons, List.map_nil, setOf_snoc, List.getD, List.getElem?_eq_getElem hk]
 rfl
theorem addKey_in (L : List Lit) (x : Lit) (h : x ∈ L) (hk : WideAt.IsKeyLit x) : addKey L x = L := by
 unfold addKey
 rw [if_pos]
 exact List.any_eq_true.2 ⟨x, h, WideAt.sameKey_self hk⟩
theorem addKey_new (L : List Lit) (x : Lit) (h : x ∉ L) : addKey L x = L ++ [x] := by
 unfold addKey
 rw [if_neg]
 rw [List.any_eq_true]
 rintro ⟨y, hy, he⟩
 by_cases e : y = x
 ·exact h (e ▸ hy)
 ·rw [sameKey_ne e] at he
  cases he
theorem addKeys_le : ∀ (xs L : List Lit), (xs.foldl addKey L).length ≤ L.length + xs.length
 | [], L => by simp
 | x :: xs, L => by
  have h := addKeys_le xs (addKey L x)
  have h2 : (addKey L x).length ≤ L.length + 1 := by unfold addKey; split <;> simp
  rw [List.foldl_cons, List.length_cons]; omega
/-- All keys are added just if none comes twice. -/
theorem addKeys_all : ∀ (xs L : List Lit), (∀ x ∈ xs, WideAt.IsKeyLit x) → ((xs.foldl addKey L).length = L.length + xs.length ↔ xs.Nodup ∧ ∀ x ∈ xs, x ∉ L)
 | [], L, _ => by simp
 | x :: xs, L, hk => by
  have ih := addKeys_all xs
  rw [List.foldl_cons, List.length_cons, List.nodup_cons]
  by_cases hx : x ∈ L
  ·rw [addKey_in L x hx (hk x (by simp))]
   have := addKeys_le xs L
   constructor
   ·intro h; omega
   ·intro h; exact absurd hx (h.2 x (by simp))
  ·rw [addKey_new L x hx]
   have h1 := ih (L ++ [x]) (fun y hy => hk y (by simp [hy]))
   rw [List.length_append, List.length_singleton] at h1
   rw [show L.length + (xs.length + 1) = L.length + 1 + xs.length by omega, h1]
   constructor
   ·rintro ⟨h2, h3⟩
    exact ⟨⟨fun hm => h3 x hm (by simp), h2⟩, fun y hy => by
     rcases List.mem_cons.1 hy with e | hy
     ·subst e; exact hx
     ·exact fun hL => h3 y hy (by simp [hL])⟩
   ·rintro ⟨⟨h2, h3⟩, h4⟩
    refine ⟨h3, fun y hy hL => ?_⟩
    rcases List.mem_append.1 hL with hL | hL
    ·exact h4 y (by simp [hy]) hL
    ·obtain rfl := List.mem_singleton.1 hL
     exact h2 hy
theorem nodup_map_inj : ∀ (xs : List SAddr), (∀ x ∈ xs, AFit x) → ((xs.map akey).Nodup ↔ xs.Nodup)
 | [], _ => by simp
 | x :: xs, h => by
  have ih := nodup_map_inj xs (fun y hy => h y (by simp [hy]))
  rw [List.map_cons, List.nodup_cons, List.nodup_cons, ih]
  refine and_congr_left fun _ => not_congr ⟨fun hm => ?_, fun hm => List.mem_map.2 ⟨x, hm, rfl⟩⟩
  obtain ⟨y, hy, e⟩ := List.mem_map.1 hm
  rw [akey_inj (h y (by simp [hy])) (h x (by simp)) e] at hy
  exact hy
theorem Sn_size (xs : List SAddr) (h : ∀ x ∈ xs, AFit x) : Maps.size (Sn xs xs.length) = xs.length ↔ xs.Nodup := by
 have hk : ∀ x ∈ xs.map akey, WideAt.IsKeyLit x := by
  intro x hx
  obtain ⟨y, _, rfl⟩ := List.mem_map.1 hx
  trivial
 unfold Sn
 rw [List.take_length, size_setOf _ _ hk]
 have := addKeys_all (xs.map akey) [] hk
 rw [List.length_nil, Nat.zero_add, List.length_map] at this
 rw [this, nodup_map_inj xs h]
 simp
end Go.Proofs.YticepbgacokbbaaGreatDoor
