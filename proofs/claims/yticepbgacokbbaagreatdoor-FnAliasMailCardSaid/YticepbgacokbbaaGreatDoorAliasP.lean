/- Aliases as a graph: what the program and the reference answer, in plain words. -/
import Derived.Test.YticepbgacokbbaaGreatDoorAliasD
import Derived.Lib.Bytealg
namespace Go.Proofs.YticepbgacokbbaaGreatDoor
open Go.RowKit Go.Proofs.YticepbgacokbbaaGreatDoorW.PrintWords
set_option linter.unusedVariables false
set_option linter.unusedSimpArgs false

/-! ### the order of addresses -/
theorem bless_irrefl : ∀ l : List UInt8, Op.bytesLess l l = false
 | [] => rfl
 | a :: r => by simp [Op.bytesLess, bless_irrefl r, UInt8.lt_irrefl]
theorem bless_trans : ∀ {a b c : List UInt8}, Op.bytesLess a b = true → Op.bytesLess b c = true → Op.bytesLess a c = true
 | _, [], _, h, _ => by simp [Op.bytesLess] at h
 | _, _ :: _, [], _, h => by simp [Op.bytesLess] at h
 | [], _ :: _, _ :: _, _, _ => by simp [Op.bytesLess]
 | x :: a, y :: b, z :: c, h, k => by
  simp only [Op.bytesLess, Bool.or_eq_true, decide_eq_true_eq, Bool.and_eq_true, beq_iff_eq] at h k ⊢
  rcases h with h | ⟨rfl, h⟩
  ·rcases k with k | ⟨rfl, k⟩
   ·exact .inl (UInt8.lt_trans h k)
   ·exact .inl h
  ·rcases k with k | ⟨rfl, k⟩
   ·exact .inl k
   ·exact .inr ⟨rfl, bless_trans h k⟩
theorem bless_total : ∀ {a b : List UInt8}, Op.bytesLess a b = false → Op.bytesLess b a = false → a = b
 | [], [], _, _ => rfl
 | [], _ :: _, h, _ => by simp [Op.bytesLess] at h
 | _ :: _, [], _, h => by simp [Op.bytesLess] at h
 | x :: a, y :: b, h, k => by
  simp only [Op.bytesLess, Bool.or_eq_false_iff, decide_eq_false_iff_not, Bool.and_eq_false_iff, beq_eq_false_iff_ne] at h k
  have hxy : x = y := UInt8.le_antisymm (UInt8.not_lt.1 k.1) (UInt8.not_lt.1 h.1)
  subst hxy
  rw [bless_total (h.2.resolve_left (fun n => n rfl)) (k.2.resolve_left (fun n => n rfl))]
theorem bless_cmp : ∀ a b : List UInt8, (Lib.compareBytes a b < 0 ↔ Op.bytesLess a b = true) ∧ (Lib.compareBytes a b = 0 ↔ a = b)
 | [], [] => by simp [Lib.compareBytes, Op.bytesLess]
 | [], _ :: _ => by simp [Lib.compareBytes, Op.bytesLess]
 | _ :: _, [] => by simp [Lib.compareBytes, Op.bytesLess]
 | x :: a, y :: b => by
  have ih := bless_cmp a b
  unfold Lib.compareBytes Op.bytesLess
  by_cases h1 : x < y
  ·have hne : x ≠ y := fun e => UInt8.lt_irrefl y (e ▸ h1)
   simp [h1, hne]
  ·by_cases h2 : y < x
   ·have hne : x ≠ y := fun e => UInt8.lt_irrefl y (e ▸ h2)
    simp [h1, h2, hne]
   ·have hxy : x = y := UInt8.le_antisymm (UInt8.not_lt.1 h2) (UInt8.not_lt.1 h1)
    subst hxy
    simp [h1, ih.1, ih.2]
def aLt (a b : SAddr) : Bool := Op.bytesLess a.f1.toList b.f1.toList || (a.f1.toList == b.f1.toList && Op.bytesLess a.f0.toList b.f0.toList)
theorem ba_toList_inj {a b : ByteArray} (h : a.toList = b.toList) : a = b := by
 rw [ByteArray.toList_eq, ByteArray.toList_eq] at h
 cases a; cases b
 simp at h
 rw [h]
theorem aLt_irrefl (a : SAddr) : aLt a a = false := by simp [aLt, bless_irrefl]
theorem aLt_trans {a b c : SAddr} (h : aLt a b = true) (k : aLt b c = true) : aLt a c = true := by
 simp only [aLt, Bool.or_eq_true, Bool.and_eq_true, beq_iff_eq] at h k ⊢
 rcases h with h | ⟨e, h⟩
 ·rcases k with k | ⟨e2, k⟩
  ·exact .inl (bless_trans h k)
  ·exact .inl (e2 ▸ h)
 ·rcases k with k | ⟨e2, k⟩
  ·exact .inl (e ▸ k)
  ·exact .inr ⟨e.trans e2, bless_trans h k⟩
theorem aLt_total {a b : SAddr} (h : aLt a b = false) (k : aLt b a = false) : a = b := by
 simp only [aLt, Bool.or_eq_false_iff, Bool.and_eq_false_iff, beq_eq_false_iff_ne] at h k
 have e1 := bless_total h.1 k.1
 have e0 := bless_total (h.2.resolve_left (fun n => n e1)) (k.2.resolve_left (fun n => n e1.symm))
 have e1 := ba_toList_inj e1
 have e0 := ba_toList_inj e0
 cases a; cases b
 simp only at e0 e1
 rw [e0, e1]
theorem aLt_ne {a b : SAddr} (h : aLt a b = true) : a ≠ b := fun e => by rw [e, aLt_irrefl] at h; cases h
theorem aLt_asymm {a b : SAddr} (h : aLt a b = true) : aLt b a = false := by
 cases k : aLt b a
 ·rfl
 ·have := aLt_trans h k
  rw [aLt_irrefl] at this
  cases this
/-! ### strictly rising lists -/
def Rise (l : List SAddr) : Prop := l.Pairwise (fun a b => aLt a b = true)
theorem rise_ext : ∀ {l m : List SAddr}, Rise l → Rise m → (∀ x, x ∈ l ↔ x ∈ m) → l = m
 | [], [], _, _, _ => rfl
 | [], b :: s, _, _, h => by have := (h b).2 (by simp); simp at this
 | a :: r, [], _, _, h => by have := (h a).1 (by simp); simp at this
 | a :: r, b :: s, h1, h2, h => by
  obtain ⟨a1, a2⟩ := List.pairwise_cons.1 h1
  obtain ⟨b1, b2⟩ := List.pairwise_cons.1 h2
  have hab : a = b := by
   rcases List.mem_cons.1 ((h a).1 (by simp)) with e | ha
   ·exact e
   ·rcases List.mem_cons.1 ((h b).2 (by simp)) with e | hb
    ·exact e.symm
    ·have := aLt_trans (a1 b hb) (b1 a ha)
     rw [aLt_irrefl] at this
     cases this
  subst hab
  rw [rise_ext a2 b2 (fun p => ⟨fun hp => by
   rcases List.mem_cons.1 ((h p).1 (by simp [hp])) with e | hp'
   ·exact absurd (a1 p hp) (by rw [e, aLt_irrefl]; simp)
   ·exact hp', fun hp => by
   rcases List.mem_cons.1 ((h p).2 (by simp [hp])) with e | hp'
   ·exact absurd (b1 p hp) (by rw [e, aLt_irrefl]; simp)
   ·exact hp'⟩)]
theorem rise_nodup {l : List SAddr} (h : Rise l) : l.Nodup := h.imp (fun hab => aLt_ne hab)
def insU : List SAddr → SAddr → List SAddr
 | [], a => [a]
 | b :: r, a => if aLt b a = true then b :: insU r a else if b = a then b :: r else a :: b :: r
theorem mem_insU : ∀ (l : List SAddr) (a x : SAddr), x ∈ insU l a ↔ x = a ∨ x ∈ l
 | [], a, x => by simp [insU]
 | b :: r, a, x => by
  unfold insU
  split
  ·rw [List.mem_cons, mem_insU r a x, List.mem_cons]
   constructor
   ·rintro (h | h | h)
    ·exact .inr (.inl h)
    ·exact .inl h
    ·exact .inr (.inr h)
   ·rintro (h | h | h)
    ·exact .inr (.inl h)
    ·exact .inl h
    ·exact .inr (.inr h)
  ·split
   ·rename_i e
    subst e
    simp
   ·simp
theorem rise_insU : ∀ {l : List SAddr} (a : SAddr), Rise l → Rise (insU l a)
 | [], a, _ => List.pairwise_singleton _ _
 | b :: r, a, h => by
  obtain ⟨h1, h2⟩ := List.pairwise_cons.1 h
  unfold insU
  split
  ·rename_i hlt
   exact List.pairwise_cons.2 ⟨fun x hx => ((mem_insU r a x).1 hx).elim (fun e => e ▸ hlt) (h1 x), rise_insU a h2⟩
  ·split
   ·exact h
   ·rename_i h3 h4
    have hab : aLt a b = true := by
     cases k : aLt a b
     ·exact absurd (aLt_total k (by simpa using h3)).symm h4
     ·rfl
    exact List.pairwise_cons.2 ⟨fun x hx => (List.mem_cons.1 hx).elim (fun e => e ▸ hab) (fun hx => aLt_trans hab (h1 x hx)), h⟩
def sortU (l : List SAddr) : List SAddr := l.foldl insU []
theorem foldl_insU : ∀ (l acc : List SAddr), Rise acc → Rise (l.foldl insU acc) ∧ ∀ x, x ∈ l.foldl insU acc ↔ x ∈ l ∨ x ∈ acc
 | [], acc, h => ⟨h, fun x => by simp⟩
 | a :: r, acc, h => by
  obtain ⟨h1, h2⟩ := foldl_insU r (insU acc a) (rise_insU a h)
  refine ⟨h1, fun x => ?_⟩
  rw [List.foldl_cons, h2 x, mem_insU, List.mem_cons]
  constructor
  ·rintro (h | h | h)
   ·exact .inl (.inr h)
   ·exact .inl (.inl h)
   ·exact .inr h
  ·rintro ((h | h) | h)
   ·exact .inr (.inl h)
   ·exact .inl h
   ·exact .inr (.inr h)
theorem rise_sortU (l : List SAddr) : Rise (sortU l) := (foldl_insU l [] List.Pairwise.nil).1
theorem mem_sortU (l : List SAddr) (x : SAddr) : x ∈ sortU l ↔ x ∈ l := by
 have := (foldl_insU l [] List.Pairwise.nil).2 x
 rw [sortU, this]
 simp
/-! ### aliases as a graph -/
def isAl (xs : List SAlias) (a : SAddr) : Bool := xs.any (fun x => decide (x.f0 = a))
def tos (xs : List SAlias) (a : SAddr) : List SAddr := match xs.find? (fun x => decide (x.f0 = a)) with | some x => x.f1 | none => []
theorem tos_no {xs : List SAlias} {a : SAddr} (h : isAl xs a = false) : tos xs a = [] := by
 unfold tos
 have hn : xs.find? (fun x => decide (x.f0 = a)) = none := by
  rw [List.find?_eq_none]
  intro x hx he
  unfold isAl at h
  rw [List.any_eq_false] at h
  exact h x hx he
 rw [hn]
theorem isAl_iff {xs : List SAlias} {a : SAddr} : isAl xs a = true ↔ ∃ x ∈ xs, x.f0 = a := by
 unfold isAl
 rw [List.any_eq_true]
 simp
theorem tos_of : ∀ {xs : List SAlias} {x : SAlias}, (xs.map (·.f0)).Nodup → x ∈ xs → tos xs x.f0 = x.f1
 | [], x, _, h => by cases h
 | y :: r, x, hn, h => by
  rw [List.map_cons, List.nodup_cons] at hn
  unfold tos
  rw [List.find?_cons]
  by_cases e : y.f0 = x.f0
  ·rw [decide_eq_true e]
   rcases List.mem_cons.1 h with rfl | h
   ·rfl
   ·exact absurd (List.mem_map.2 ⟨x, h, e.symm⟩) hn.1
  ·rw [decide_eq_false e]
   rcases List.mem_cons.1 h with rfl | h
   ·exact absurd rfl e
   ·exact tos_of hn.2 h
theorem tos_univ {xs : List SAlias} {a b : SAddr} (h : b ∈ tos xs a) : b ∈ xs.flatMap (·.f1) := by
 unfold tos at h
 cases hf : xs.find? (fun x => decide (x.f0 = a)) with
 | none => rw [hf] at h; cases h
 | some x =>
  rw [hf] at h
  exact List.mem_flatMap.2 ⟨x, List.mem_of_find?_eq_some hf, h⟩
theorem tos_al {xs : List SAlias} {a b : SAddr} (h : b ∈ tos xs a) : isAl xs a = true := by
 cases hq : isAl xs a
 ·rw [tos_no hq] at h; cases h
 ·rfl
inductive Lead (xs : List SAlias) : SAddr → SAddr → Prop
 | refl (a : SAddr) : Lead xs a a
 | step {a b c : SAddr} (h : b ∈ tos xs a) (k : Lead xs b c) : Lead xs a c
theorem Lead.trans {xs : List SAlias} {a b c : SAddr} (h : Lead xs a b) (k : Lead xs b c) : Lead xs a c := by
 induction h with
 | refl => exact k
 | step h _ ih => exact .step h (ih k)
theorem Lead.snoc {xs : List SAlias} {a b c : SAddr} (h : Lead xs a b) (k : c ∈ tos xs b) : Lead xs a c := h.trans (.step k (.refl _))
theorem Lead.univ {xs : List SAlias} {a b : SAddr} (h : Lead xs a b) : b = a ∨ b ∈ xs.flatMap (·.f1) := by
 induction h with
 | refl => exact .inl rfl
 | step h _ ih => exact .inr (ih.elim (fun e => e ▸ tos_univ h) id)
theorem Lead.no {xs : List SAlias} {a b : SAddr} (h : Lead xs a b) (ha : isAl xs a = false) : b = a := by
 cases h with
 | refl => rfl
 | step h _ => rw [tos_no ha] at h; cases h
/-- From some of these one is led to b. -/
def LeadL (xs : List SAlias) (fr : List SAddr) (b : SAddr) : Prop := ∃ a ∈ fr, Lead xs a b
open Classical in
noncomputable def ends (xs : List SAlias) (fr : List SAddr) : List SAddr := sortU ((fr ++ xs.flatMap (·.f1)).filter (fun b => decide (LeadL xs fr b) && !isAl xs b))
theorem ends_rise (xs : List SAlias) (fr : List SAddr) : Rise (ends xs fr) := rise_sortU _
open Classical in
theorem mem_ends (xs : List SAlias) (fr : List SAddr) (b : SAddr) : b ∈ ends xs fr ↔ LeadL xs fr b ∧ isAl xs b = false := by
 unfold ends
 rw [mem_sortU, List.mem_filter, Bool.and_eq_true, decide_eq_true_eq, Bool.not_eq_true']
 constructor
 ·rintro ⟨_, h⟩; exact h
 ·rintro ⟨⟨a, ha, h⟩, h2⟩
  exact ⟨List.mem_append.2 (h.univ.elim (fun e => .inl (e ▸ ha)) .inr), ⟨a, ha, h⟩, h2⟩
theorem ends_is {xs : List SAlias} {fr l : List SAddr} (h : Rise l) (hm : ∀ b, b ∈ l ↔ LeadL xs fr b ∧ isAl xs b = false) : l = ends xs fr :=
 rise_ext h (ends_rise xs fr) (fun b => (hm b).trans (mem_ends xs fr b).symm)
open Classical in
noncomputable def rounds (xs : List SAlias) : List SAddr := sortU ((xs.map (·.f0)).filter (fun a => decide (LeadL xs (tos xs a) a)))
theorem rounds_rise (xs : List SAlias) : Rise (rounds xs) := rise_sortU _
open Classical in
theorem mem_rounds (xs : List SAlias) (a : SAddr) : a ∈ rounds xs ↔ LeadL xs (tos xs a) a := by
 unfold rounds
 rw [mem_sortU, List.mem_filter, decide_eq_true_eq]
 constructor
 ·exact fun h => h.2
 ·rintro ⟨b, hb, h⟩
  obtain ⟨x, hx, e⟩ := isAl_iff.1 (tos_al hb)
  exact ⟨List.mem_map.2 ⟨x, hx, e⟩, b, hb, h⟩
theorem rounds_is {xs : List SAlias} {l : List SAddr} (h : Rise l) (hm : ∀ b, b ∈ l ↔ LeadL xs (tos xs b) b) : l = rounds xs :=
 rise_ext h (rounds_rise xs) (fun b => (hm b).trans (mem_rounds xs b).symm)
/-! ### a walk through the graph that marks what it has seen -/
structure Led (xs : List SAlias) (S fr T : List SAddr) : Prop where
 old : ∀ a ∈ S, a ∈ T
 got : ∀ a ∈ fr, a ∈ T
 new : ∀ a ∈ T, a ∉ S → LeadL xs fr a
 shut : ∀ a ∈ T, a ∉ S → ∀ b ∈ tos xs a, b ∈ T
theorem Led.nil (xs : List SAlias) (S : List SAddr) : Led xs S [] S := ⟨fun _ h => h, fun _ h => (by cases h), fun a h n => absurd h n, fun a h n => absurd h n⟩
theorem LeadL.more {xs : List SAlias} {fr gr : List SAddr} {b : SAddr} (h : LeadL xs fr b) (hs : ∀ a ∈ fr, a ∈ gr) : LeadL xs gr b := let ⟨a, ha, k⟩ := h; ⟨a, hs a ha, k⟩
theorem Led.seen {xs : List SAlias} {S fr T : List SAddr} {a : SAddr} (h : Led xs S fr T) (ha : a ∈ T) : Led xs S (fr ++ [a]) T :=
 ⟨h.old, fun b hb => (List.mem_append.1 hb).elim (h.got b) (fun e => List.mem_singleton.1 e ▸ ha), fun b hb hn => (h.new b hb hn).more (fun c hc => by simp [hc]), h.shut⟩
theorem Led.next {xs : List SAlias} {S fr T U : List SAddr} {a : SAddr} (h : Led xs S fr T) (hu : Led xs (T ++ [a]) (tos xs a) U) : Led xs S (fr ++ [a]) U := by
 have haU : a ∈ U := hu.old a (by simp)
 have hTU : ∀ b ∈ T, b ∈ U := fun b hb => hu.old b (by simp [hb])
 refine ⟨fun b hb => hTU b (h.old b hb), fun b hb => ?_, fun b hb hn => ?_, fun b hb hn c hc => ?_⟩
 ·rcases List.mem_append.1 hb with hb | hb
  ·exact hTU b (h.got b hb)
  ·exact List.mem_singleton.1 hb ▸ haU
 ·by_cases hT : b ∈ T
  ·exact (h.new b hT hn).more (fun c hc => by simp [hc])
  ·by_cases e : b = a
   ·exact ⟨a, by simp, e ▸ .refl _⟩
   ·obtain ⟨c, hc, k⟩ := hu.new b hb (by simp [hT, e])
    exact ⟨a, by simp, .step hc k⟩
 ·by_cases hT : b ∈ T
  ·exact hTU c (h.shut b hT hn c hc)
  ·by_cases e : b = a
   ·subst e; exact hu.got c hc
   ·exact hu.shut b hb (by simp [hT, e]) c hc
theorem Led.all {xs : List SAlias} {fr T : List SAddr} (h : Led xs [] fr T) (b : SAddr) : b ∈ T ↔ LeadL xs fr b := by
 refine ⟨fun hb => h.new b hb (by simp), ?_⟩
 rintro ⟨a, ha, k⟩
 have haT := h.got a ha
 clear ha
 induction k with
 | refl => exact haT
 | step hb _ ih => exact ih (h.shut _ haT (by simp) _ hb)
/-- How many of U are not in S. -/
def away (U S : List SAddr) : Nat := (U.filter (fun a => decide (a ∉ S))).length
theorem filter_le {α : Type} {p q : α → Bool} (h : ∀ x, p x = true → q x = true) : ∀ l : List α, (l.filter p).length ≤ (l.filter q).length
 | [] => Nat.le_refl _
 | x :: r => by
  have ih := filter_le h r
  rw [List.filter_cons, List.filter_cons]
  by_cases hp : p x = true
  ·rw [if_pos hp, if_pos (h x hp)]
   simp
   exact ih
  ·rw [if_neg hp]
   split
   ·simp; omega
   ·exact ih
theorem filter_lt {α : Type} {p q : α → Bool} (h : ∀ x, p x = true → q x = true) {a : α} (hq : q a = true) (hp : p a = false) : ∀ l : List α, a ∈ l → (l.filter p).length < (l.filter q).length
 | [], h => by cases h
 | x :: r, hm => by
  rw [List.filter_cons, List.filter_cons]
  rcases List.mem_cons.1 hm with rfl | hm
  ·rw [if_neg (by rw [hp]; simp), if_pos hq]
   have := filter_le h r
   simp
   omega
  ·have ih := filter_lt h hq hp r hm
   by_cases hx : p x = true
   ·rw [if_pos hx, if_pos (h x hx)]
    simp
    exact ih
   ·rw [if_neg hx]
    split
    ·simp; omega
    ·exact ih
theorem away_more {U S T : List SAddr} (h : ∀ a ∈ S, a ∈ T) : away U T ≤ away U S :=
 filter_le (fun x hx => by
  rw [decide_eq_true_eq] at hx ⊢
  exact fun hs => hx (h x hs)) U
theorem away_put {U S : List SAddr} {a : SAddr} (hu : a ∈ U) (hn : a ∉ S) : away U (S ++ [a]) < away U S :=
 filter_lt (a := a) (fun x hx => by
  rw [decide_eq_true_eq] at hx ⊢
  exact fun hs => hx (by simp [hs])) (by simpa using hn) (by simp) U hu
theorem away_le (U S : List SAddr) : away U S ≤ U.length := List.length_filter_le _ _
/-! ### what the four words answer -/
noncomputable def aliasFor (xs : List SAlias) (a : SAddr) : List SAddr := if aliasOk xs && addrS a then ends xs [a] else []
noncomputable def aliasRound (xs : List SAlias) : List SAddr := if aliasOk xs then rounds xs else []
noncomputable def flatOne (xs : List SAlias) (x : SAlias) : Option SAlias := if 1 ≤ (ends xs [x.f0]).length ∧ (ends xs [x.f0]).length ≤ 4 then some ⟨x.f0, ends xs [x.f0]⟩ else none
noncomputable def aliasFlat (xs : List SAlias) : List SAlias := if aliasOk xs then xs.filterMap (flatOne xs) else []
/-! ### the reference's way: a list of those to be looked at, that grows -/
structure Bfs (xs : List SAlias) (a : SAddr) (i : Nat) (T : List SAddr) : Prop where
 here : a ∈ T
 way : ∀ b ∈ T, Lead xs a b
 shut : ∀ j, j < i → ∀ b ∈ tos xs (T.getD j ⟨⟨#[]⟩, ⟨#[]⟩⟩), b ∈ T
 room : T.length + away (a :: xs.flatMap (·.f1)) T ≤ 1 + (xs.flatMap (·.f1)).length
theorem Bfs.start (xs : List SAlias) (a : SAddr) : Bfs xs a 0 [a] := by
 refine ⟨by simp, fun b hb => List.mem_singleton.1 hb ▸ .refl _, fun j h => absurd h (Nat.not_lt_zero _), ?_⟩
 have h : away (a :: xs.flatMap (·.f1)) [a] ≤ (xs.flatMap (·.f1)).length := by
  unfold away
  rw [List.filter_cons, if_neg (by simp)]
  exact List.length_filter_le _ _
 simp only [List.length_singleton]
 omega
/-- One more child of the i-th: new, or not. -/
theorem Bfs.child {xs : List SAlias} {a : SAddr} {i : Nat} {T : List SAddr} {c : SAddr} (h : Bfs xs a i T) (hi : i < T.length) (hc : c ∈ tos xs (T.getD i ⟨⟨#[]⟩, ⟨#[]⟩⟩)) (hn : c ∉ T) : Bfs xs a i (T ++ [c]) := by
 have hg : T.getD i ⟨⟨#[]⟩, ⟨#[]⟩⟩ ∈ T := by rw [List.getD, List.getElem?_eq_getElem hi]; exact List.getElem_mem hi
 refine ⟨by simp [h.here], fun b hb => ?_, fun j hj b hb => ?_, ?_⟩
 ·rcases List.mem_append.1 hb with hb | hb
  ·exact h.way b hb
  ·exact List.mem_singleton.1 hb ▸ (h.way _ hg).snoc hc
 ·rw [List.getD, List.getElem?_append_left (by omega)] at hb
  exact List.mem_append.2 (.inl (h.shut j hj b hb))
 ·have hu : c ∈ a :: xs.flatMap (·.f1) := List.mem_cons.2 (.inr (tos_univ hc))
  have := away_put hu hn
  have := h.room
  simp only [List.length_append, List.length_singleton]
  omega
theorem Bfs.turn {xs : List SAlias} {a : SAddr} {i : Nat} {T : List SAddr} (h : Bfs xs a i T) (hc : ∀ b ∈ tos xs (T.getD i ⟨⟨#[]⟩, ⟨#[]⟩⟩), b ∈ T) : Bfs xs a (i + 1) T :=
 ⟨h.here, h.way, fun j hj => by
  by_cases e : j = i
  ·subst e; exact hc
  ·exact h.shut j (by omega), h.room⟩
theorem Bfs.all {xs : List SAlias} {a : SAddr} {i : Nat} {T : List SAddr} (h : Bfs xs a i T) (hi : T.length ≤ i) (b : SAddr) : b ∈ T ↔ Lead xs a b := by
 refine ⟨h.way b, fun k => ?_⟩
 have step : ∀ c ∈ T, ∀ d ∈ tos xs c, d ∈ T := by
  intro c hc d hd
  obtain ⟨j, hj, rfl⟩ := List.getElem_of_mem hc
  refine h.shut j (by omega) d ?_
  rw [List.getD, List.getElem?_eq_getElem hj]
  exact hd
 have h0 := h.here
 clear h
 induction k with
 | refl => exact h0
 | step hb _ ih => exact ih (step _ h0 _ hb)
theorem leadL_one {xs : List SAlias} {a b : SAddr} : LeadL xs [a] b ↔ Lead xs a b := by
 constructor
 ·rintro ⟨c, hc, k⟩; exact List.mem_singleton.1 hc ▸ k
 ·exact fun k => ⟨a, by simp, k⟩
/-- The ends of one, out of all that it leads to. -/
theorem ends_all {xs : List SAlias} {a : SAddr} {T : List SAddr} (h : ∀ b, b ∈ T ↔ Lead xs a b) : (T.filter (fun b => !isAl xs b)).foldl insU [] = ends xs [a] := by
 obtain ⟨h1, h2⟩ := foldl_insU (T.filter (fun b => !isAl xs b)) [] List.Pairwise.nil
 refine ends_is h1 (fun b => ?_)
 rw [h2 b, List.mem_filter, h b, leadL_one]
 simp
/-- The ends of several, put together. -/
theorem ends_some {xs : List SAlias} {fr : List SAddr} : (fr.flatMap (fun a => ends xs [a])).foldl insU [] = ends xs fr := by
 obtain ⟨h1, h2⟩ := foldl_insU (fr.flatMap (fun a => ends xs [a])) [] List.Pairwise.nil
 refine ends_is h1 (fun b => ?_)
 rw [h2 b, List.mem_flatMap]
 constructor
 ·rintro (⟨a, ha, hb⟩ | hb)
  ·rw [mem_ends, leadL_one] at hb
   exact ⟨⟨a, ha, hb.1⟩, hb.2⟩
  ·cases hb
 ·rintro ⟨⟨a, ha, hb⟩, hn⟩
  exact .inl ⟨a, ha, by rw [mem_ends, leadL_one]; exact ⟨hb, hn⟩⟩
/-! ### what the laws say -/
theorem ok_nodup {xs : List SAlias} (h : aliasOk xs = true) : (xs.map (·.f0)).Nodup := by
 unfold aliasOk at h
 rw [Bool.and_eq_true, Bool.and_eq_true] at h
 exact of_decide_eq_true h.2.1
theorem ok_good {xs : List SAlias} (h : aliasOk xs = true) {x : SAlias} (hx : x ∈ xs) : addrS x.f0 = true ∧ ∀ b ∈ x.f1, addrS b = true := by
 unfold aliasOk at h
 rw [Bool.and_eq_true] at h
 have h := List.all_eq_true.1 h.1 x hx
 unfold aliasGood at h
 rw [Bool.and_eq_true, Bool.and_eq_true] at h
 exact ⟨h.1, fun b hb => List.all_eq_true.1 h.2.2 b hb⟩
theorem ok_univ {xs : List SAlias} (h : aliasOk xs = true) {b : SAddr} (hb : b ∈ xs.flatMap (·.f1)) : addrS b = true := by
 obtain ⟨x, hx, hb⟩ := List.mem_flatMap.1 hb
 exact (ok_good h hx).2 b hb
theorem ends_addr {xs : List SAlias} (h : aliasOk xs = true) {fr : List SAddr} (hf : ∀ a ∈ fr, addrS a = true) {b : SAddr} (hb : b ∈ ends xs fr) : addrS b = true := by
 obtain ⟨⟨a, ha, k⟩, _⟩ := (mem_ends _ _ _).1 hb
 rcases k.univ with rfl | hu
 ·exact hf _ ha
 ·exact ok_univ h hu
theorem ends_self {xs : List SAlias} {a : SAddr} (h : isAl xs a = false) : ends xs [a] = [a] := by
 refine (ends_is (List.pairwise_singleton _ _) (fun b => ?_)).symm
 rw [List.mem_singleton, leadL_one]
 constructor
 ·rintro rfl; exact ⟨.refl _, h⟩
 ·exact fun k => k.1.no h
theorem ends_again (xs : List SAlias) (fr : List SAddr) : ends xs (ends xs fr) = ends xs fr := by
 refine (ends_is (ends_rise xs fr) (fun b => ?_)).symm
 constructor
 ·intro hb
  exact ⟨⟨b, hb, .refl _⟩, ((mem_ends _ _ _).1 hb).2⟩
 ·rintro ⟨⟨a, ha, k⟩, hn⟩
  rw [k.no ((mem_ends _ _ _).1 ha).2]
  exact ha
theorem ends_parts {xs : List SAlias} {a b : SAddr} (ha : isAl xs a = true) : b ∈ ends xs [a] ↔ ∃ t ∈ tos xs a, b ∈ ends xs [t] := by
 rw [mem_ends, leadL_one]
 constructor
 ·rintro ⟨k, hn⟩
  cases k with
  | refl => rw [ha] at hn; cases hn
  | step h k => exact ⟨_, h, by rw [mem_ends, leadL_one]; exact ⟨k, hn⟩⟩
 ·rintro ⟨t, ht, hb⟩
  rw [mem_ends, leadL_one] at hb
  exact ⟨.step ht hb.1, hb.2⟩
theorem sub_tos {xs ys : List SAlias} (hn : (xs.map (·.f0)).Nodup) (hs : ∀ y ∈ ys, y ∈ xs) (hm : (ys.map (·.f0)).Nodup) {a b : SAddr} (h : b ∈ tos ys a) : b ∈ tos xs a := by
 obtain ⟨y, hy, rfl⟩ := isAl_iff.1 (tos_al h)
 rw [tos_of hm hy] at h
 rw [tos_of hn (hs y hy)]
 exact h
theorem sub_lead {xs ys : List SAlias} (hn : (xs.map (·.f0)).Nodup) (hs : ∀ y ∈ ys, y ∈ xs) (hm : (ys.map (·.f0)).Nodup) {a b : SAddr} (h : Lead ys a b) : Lead xs a b := by
 induction h with
 | refl => exact .refl _
 | step h _ ih => exact .step (sub_tos hn hs hm h) ih
theorem filter_nodup {xs : List SAlias} (p : SAlias → Bool) (h : (xs.map (·.f0)).Nodup) : ((xs.filter p).map (·.f0)).Nodup := h.sublist ((List.filter_sublist).map _)
/-- Without those that lead to themselves none does. -/
theorem rounds_rest {xs : List SAlias} (h : (xs.map (·.f0)).Nodup) : rounds (xs.filter (fun x => !decide (x.f0 ∈ rounds xs))) = [] := by
 apply List.eq_nil_iff_forall_not_mem.2
 intro a ha
 obtain ⟨b, hb, k⟩ := (mem_rounds _ _).1 ha
 have hm := filter_nodup (fun x => !decide (x.f0 ∈ rounds xs)) h
 have hs : ∀ y ∈ xs.filter (fun x => !decide (x.f0 ∈ rounds xs)), y ∈ xs := fun y hy => (List.mem_filter.1 hy).1
 obtain ⟨y, hy, e⟩ := isAl_iff.1 (tos_al hb)
 have h2 := (List.mem_filter.1 hy).2
 rw [e, Bool.not_eq_true', decide_eq_false_iff_not] at h2
 exact h2 ((mem_rounds _ _).2 ⟨b, sub_tos h hs hm hb, sub_lead h hs hm k⟩)
theorem part_len {α : Type} (p : α → Bool) : ∀ l : List α, (l.filter p).length + (l.filter (fun x => !p x)).length = l.length
 | [] => rfl
 | x :: r => by
  have := part_len p r
  rw [List.filter_cons, List.filter_cons]
  cases p x <;> simp <;> omega
theorem nodup_len : ∀ {l m : List SAddr}, l.Nodup → (∀ x ∈ l, x ∈ m) → l.length ≤ m.length
 | [], _, _, _ => Nat.zero_le _
 | a :: r, m, h, hs => by
  obtain ⟨h1, h2⟩ := List.nodup_cons.1 h
  have ham := hs a (by simp)
  have := nodup_len (m := m.erase a) h2 (fun x hx => by
   have hne : x ≠ a := fun e => h1 (e ▸ hx)
   exact (List.mem_erase_of_ne hne).2 (hs x (by simp [hx])))
  rw [List.length_erase_of_mem ham] at this
  have hp : 0 < m.length := List.length_pos_of_mem ham
  simp only [List.length_cons]
  omega
theorem rounds_count {xs : List SAlias} (h : (xs.map (·.f0)).Nodup) : (xs.filter (fun x => !decide (x.f0 ∈ rounds xs))).length + (rounds xs).length = xs.length := by
 have hp := part_len (fun x : SAlias => decide (x.f0 ∈ rounds xs)) xs
 have hm := filter_nodup (fun x => decide (x.f0 ∈ rounds xs)) h
 have e1 : (rounds xs).length ≤ ((xs.filter (fun x => decide (x.f0 ∈ rounds xs))).map (·.f0)).length := nodup_len (rise_nodup (rounds_rise xs)) (fun a ha => by
  obtain ⟨b, hb, _⟩ := (mem_rounds _ _).1 ha
  obtain ⟨y, hy, e⟩ := isAl_iff.1 (tos_al hb)
  exact List.mem_map.2 ⟨y, List.mem_filter.2 ⟨hy, by rw [e]; exact decide_eq_true ha⟩, e⟩)
 have e2 : ((xs.filter (fun x => decide (x.f0 ∈ rounds xs))).map (·.f0)).length ≤ (rounds xs).length := nodup_len hm (fun a ha => by
  obtain ⟨y, hy, e⟩ := List.mem_map.1 ha
  exact e ▸ of_decide_eq_true (List.mem_filter.1 hy).2)
 rw [List.length_map] at e1 e2
 omega
/-! ### flat aliases -/
theorem flatOne_eq (xs : List SAlias) (x : SAlias) : flatOne xs x = if 1 ≤ (ends xs [x.f0]).length ∧ (ends xs [x.f0]).length ≤ 4 then some ⟨x.f0, ends xs [x.f0]⟩ else none := rfl
theorem flatOne_some {xs : List SAlias} {x y : SAlias} (h : flatOne xs x = some y) : y = ⟨x.f0, ends xs [x.f0]⟩ ∧ 1 ≤ (ends xs [x.f0]).length ∧ (ends xs [x.f0]).length ≤ 4 := by
 unfold flatOne at h
 split at h
 ·rename_i h2
  exact ⟨(Option.some.inj h).symm, h2⟩
 ·cases h
theorem flat_froms {xs : List SAlias} : ∀ l : List SAlias, ((l.filterMap (flatOne xs)).map (·.f0)).Sublist (l.map (·.f0))
 | [] => List.Sublist.refl _
 | x :: r => by
  rw [List.filterMap_cons]
  cases hf : flatOne xs x with
  | none => exact (flat_froms r).cons _
  | some y =>
   rw [List.map_cons, List.map_cons, (flatOne_some hf).1]
   exact (flat_froms r).cons_cons _
theorem flat_mem {xs : List SAlias} {y : SAlias} (h : y ∈ xs.filterMap (flatOne xs)) : ∃ x ∈ xs, y = ⟨x.f0, ends xs [x.f0]⟩ ∧ 1 ≤ (ends xs [x.f0]).length ∧ (ends xs [x.f0]).length ≤ 4 := by
 obtain ⟨x, hx, hf⟩ := List.mem_filterMap.1 h
 exact ⟨x, hx, flatOne_some hf⟩
theorem flat_al {xs : List SAlias} {a : SAddr} (h : isAl (xs.filterMap (flatOne xs)) a = true) : isAl xs a = true := by
 obtain ⟨y, hy, e⟩ := isAl_iff.1 h
 obtain ⟨x, hx, hf, _⟩ := flat_mem hy
 exact isAl_iff.2 ⟨x, hx, by rw [← e, hf]⟩
theorem flat_no {xs : List SAlias} {a : SAddr} (h : isAl xs a = false) : isAl (xs.filterMap (flatOne xs)) a = false := by
 cases hq : isAl (xs.filterMap (flatOne xs)) a
 ·rfl
 ·rw [flat_al hq] at h; cases h
theorem flat_ends {xs : List SAlias} (h : (xs.map (·.f0)).Nodup) {y : SAlias} (hy : y ∈ xs.filterMap (flatOne xs)) : ends (xs.filterMap (flatOne xs)) [y.f0] = y.f1 ∧ ends xs [y.f0] = y.f1 := by
 have hm := h.sublist (flat_froms (xs := xs) xs)
 obtain ⟨x, hx, hf, _⟩ := flat_mem hy
 have e1 : ends xs [y.f0] = y.f1 := by rw [hf]
 refine ⟨?_, e1⟩
 refine (ends_is (by rw [← e1]; exact ends_rise _ _) (fun b => ?_)).symm
 have ht := tos_of hm hy
 have hal : isAl (xs.filterMap (flatOne xs)) y.f0 = true := isAl_iff.2 ⟨y, hy, rfl⟩
 have hno : ∀ c ∈ y.f1, isAl (xs.filterMap (flatOne xs)) c = false := fun c hc => flat_no ((mem_ends _ _ _).1 (e1 ▸ hc)).2
 rw [leadL_one]
 constructor
 ·intro hb
  exact ⟨.step (by rw [ht]; exact hb) (.refl _), hno b hb⟩
 ·rintro ⟨k, hn⟩
  cases k with
  | refl => rw [hal] at hn; cases hn
  | step hc k =>
   rw [ht] at hc
   rw [k.no (hno _ hc)]
   exact hc
theorem flat_good {xs : List SAlias} (h : aliasOk xs = true) : aliasOk (xs.filterMap (flatOne xs)) = true := by
 have hn := (ok_nodup h).sublist (flat_froms (xs := xs) xs)
 have hl : ((xs.filterMap (flatOne xs)).length : Int) ≤ 6 := by
  have h2 := h
  unfold aliasOk at h2
  rw [Bool.and_eq_true, Bool.and_eq_true] at h2
  have := of_decide_eq_true h2.2.2
  have := List.length_filterMap_le (flatOne xs) xs
  omega
 unfold aliasOk
 rw [decide_eq_true hn, decide_eq_true hl, List.all_eq_true.2 (fun y hy => ?_)]
 ·rfl
 obtain ⟨x, hx, hf, h1, h4⟩ := flat_mem hy
 have hg := ok_good h hx
 unfold aliasGood
 rw [hf]
 dsimp only
 rw [hg.1, decide_eq_true (by omega), decide_eq_true (by omega), List.all_eq_true.2 (fun b hb => ends_addr h (fun a ha => List.mem_singleton.1 ha ▸ hg.1) hb)]
 rfl
theorem flat_rounds {xs : List SAlias} (h : (xs.map (·.f0)).Nodup) : rounds (xs.filterMap (flatOne xs)) = [] := by
 have hm := h.sublist (flat_froms (xs := xs) xs)
 apply List.eq_nil_iff_forall_not_mem.2
 intro a ha
 obtain ⟨c, hc, k⟩ := (mem_rounds _ _).1 ha
 have hal := tos_al hc
 obtain ⟨y, hy, e⟩ := isAl_iff.1 hal
 subst e
 rw [tos_of hm hy] at hc
 have hno : isAl (xs.filterMap (flatOne xs)) c = false := flat_no ((mem_ends _ _ _).1 ((flat_ends h hy).2 ▸ hc)).2
 rw [k.no hno, hno] at hal
 cases hal
theorem filterMap_self {α : Type} {f : α → Option α} : ∀ l : List α, (∀ x ∈ l, f x = some x) → l.filterMap f = l
 | [], _ => rfl
 | x :: r, h => by rw [List.filterMap_cons, h x (by simp), filterMap_self r (fun y hy => h y (by simp [hy]))]
theorem flat_flat {xs : List SAlias} (h : (xs.map (·.f0)).Nodup) : (xs.filterMap (flatOne xs)).filterMap (flatOne (xs.filterMap (flatOne xs))) = xs.filterMap (flatOne xs) := by
 refine filterMap_self _ (fun y hy => ?_)
 have he := (flat_ends h hy).1
 obtain ⟨x, hx, hf, h1, h4⟩ := flat_mem hy
 have hlen : 1 ≤ y.f1.length ∧ y.f1.length ≤ 4 := by rw [hf]; exact ⟨h1, h4⟩
 rw [flatOne_eq, he, if_pos hlen]

end Go.Proofs.YticepbgacokbbaaGreatDoor
