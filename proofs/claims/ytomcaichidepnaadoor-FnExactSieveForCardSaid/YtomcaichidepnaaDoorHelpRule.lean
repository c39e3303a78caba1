/- The laws' helpers on rules: what szRuleS, toRuleS and eqRuleS answer; contracts. -/
import Derived.Test.YtomcaichidepnaaDoorPure3
import Derived.Test.YtomcaichidepnaaDoorPx6
namespace Go.Proofs.YtomcaichidepnaaDoor
open Go.RowKit Go.Proofs.YtomcaichidepnaaDoorW.PrintWords P
set_option linter.unusedVariables false
set_option linter.unusedSimpArgs false

/-- Of a size that a machine may hold; of a size that the laws' own bound lets in. -/
abbrev Wide (n : Nat) : Prop := n ≤ 9223372036854775807
abbrev Small (n : Nat) : Prop := n ≤ 1048576

def wideR (x : S61) : Prop := Wide x.f1.size ∧ Wide x.f3.f0.size ∧ Wide x.f3.f1.size
def smallR (x : S61) : Prop := Small x.f1.size ∧ Small x.f3.f0.size ∧ Small x.f3.f1.size
theorem wrap_sub (a : Int) (n : Nat) (h0 : 0 ≤ a) (h1 : a ≤ 1048576) (hn : Wide n) : wrap64 (a - (n : Int)) = a - n := by unfold wrap64; omega
theorem szAddr_is (u d : ByteArray) (left : Int) (h0 : 0 ≤ left) (h1 : left ≤ 1048576) (hu : Wide u.size) (hd : Wide d.size) : ∃ r, laws_szAddr.f u d left = some r ∧ r ≤ left ∧ (0 ≤ r → Small u.size ∧ Small d.size) := by
  unfold laws_szAddr.f
  rw [wrap_sub left _ h0 h1 hu]
  by_cases c1 : left - (u.size : Int) < 0
  · rw [if_pos c1]; exact ⟨_, rfl, by omega, fun h => by omega⟩
  · rw [if_neg c1, wrap_sub _ _ (by omega) (by omega) hd]
    by_cases c2 : left - (u.size : Int) - (d.size : Int) < 0
    · rw [if_pos c2]; exact ⟨_, rfl, by omega, fun h => by omega⟩
    · rw [if_neg c2]; exact ⟨_, rfl, by omega, fun h => ⟨by omega, by omega⟩⟩
theorem szRule_is (x : S61) (left : Int) (h0 : 0 ≤ left) (h1 : left ≤ 1048576) (hw : wideR x) : ∃ r, laws_szRule.f x.f0 x.f1 x.f2 x.f3.f0 x.f3.f1 left = some r ∧ r ≤ left ∧ (0 ≤ r → smallR x) := by
  unfold laws_szRule.f
  obtain ⟨w1, w2, w3⟩ := hw
  rw [wrap_sub left _ h0 h1 w1]
  by_cases c1 : left - (x.f1.size : Int) < 0
  · rw [if_pos c1]; exact ⟨_, rfl, by omega, fun h => by omega⟩
  · rw [if_neg c1]
    obtain ⟨r, hr, hle, hs⟩ := szAddr_is x.f3.f0 x.f3.f1 (left - x.f1.size) (by omega) (by omega) w2 w3
    rw [hr, Option.bind_some]
    by_cases c2 : r < 0
    · rw [if_pos c2]; exact ⟨_, rfl, by omega, fun h => by omega⟩
    · rw [if_neg c2]; exact ⟨_, rfl, by omega, fun h => ⟨by omega, (hs h).1, (hs h).2⟩⟩
theorem szRuleS_loop (xs : List S61) (hl : xs.length < 9223372036854775807) (hw : ∀ x ∈ xs, wideR x) (d : Nat) : ∀ (k : Nat) (left : Int), k + d = xs.length → 0 ≤ left → left ≤ 1048576 → (∀ j, j < k → smallR (xs.getD j z61)) →
    ∃ r, Ev (fun n => laws_szRuleS.l0 n xs left k) r ∧ r ≤ left ∧ (0 ≤ r → ∀ j, j < xs.length → smallR (xs.getD j z61)) := by
  induction d with
  | zero =>
    intro k left hk h0 h1 hb
    refine ⟨left, shift ?_, Int.le_refl _, fun _ j hj => hb j (by omega)⟩
    simp only [laws_szRuleS.l0]
    simp only [if_neg (show ¬ (k : Int) < (xs.length : Int) by omega)]
    exact Ev.now _
  | succ d ih =>
    intro k left hk h0 h1 hb
    have hlt : k < xs.length := by omega
    have hm : xs.getD k z61 ∈ xs := by rw [List.getD, List.getElem?_eq_getElem hlt]; exact List.getElem_mem hlt
    obtain ⟨r, hr, hle, hs⟩ := szRule_is (xs.getD k z61) left h0 h1 (hw _ hm)
    have unf : ∀ r', Ev (fun n => if r < 0 then some (-1) else laws_szRuleS.l0 n xs r (wrap64 ((k : Int) + 1))) r' → Ev (fun n => laws_szRuleS.l0 n xs left k) r' := fun r' h => by
      refine shift ?_
      simp only [laws_szRuleS.l0]
      simp only [if_pos (show (k : Int) < (xs.length : Int) by omega), if_pos (show (0 : Int) ≤ (k : Int) by omega)]
      have hrd : rd_T61 xs (k : Int) = xs.getD k z61 := rfl
      rw [hrd, hr]
      simp only [Option.bind_some]
      exact h
    by_cases c : r < 0
    · exact ⟨-1, unf _ (by simp only [if_pos c]; exact Ev.now _), by omega, fun h => by omega⟩
    · obtain ⟨r', h1', hle', h2'⟩ := ih (k + 1) r (by omega) (by omega) (by omega) (fun j hj => by
        by_cases e : j = k
        · subst e; exact hs (by omega)
        · exact hb j (by omega))
      exact ⟨r', unf _ (by simp only [if_neg c]; rw [wrap_nat k (by omega)]; exact h1'), by omega, h2'⟩
/-- The laws' own bound on what comes in. -/
theorem szRuleS_ev2 (xs : List S61) (left : Int) (h0 : 0 ≤ left) (h1 : left ≤ 1048576) (hl : Wide xs.length) (hw : ∀ x ∈ xs, wideR x) : ∃ r, Ev (fun n => laws_szRuleS.f n xs left) r ∧ r ≤ left ∧ (0 ≤ r → Small xs.length ∧ ∀ x ∈ xs, smallR x) := by
  unfold laws_szRuleS.f
  rw [wrap_sub left _ h0 h1 hl]
  by_cases c1 : left - (xs.length : Int) < 0
  · simp only [if_pos c1]; exact ⟨_, Ev.now _, by omega, fun h => by omega⟩
  · simp only [if_neg c1]
    obtain ⟨r, hr, hle, hs⟩ := szRuleS_loop xs (by omega) hw xs.length 0 (left - xs.length) (by omega) (by omega) (by omega) (fun j hj => by omega)
    refine ⟨r, hr, by omega, fun h => ⟨by omega, fun x hx => ?_⟩⟩
    obtain ⟨j, hj, rfl⟩ := List.getElem_of_mem hx
    have := hs h j hj
    rwa [List.getD, List.getElem?_eq_getElem hj] at this
theorem szRuleS_ev (xs : List S61) (left : Int) (h0 : 0 ≤ left) (h1 : left ≤ 1048576) (hl : Wide xs.length) (hw : ∀ x ∈ xs, wideR x) : ∃ r, Ev (fun n => laws_szRuleS.f n xs left) r ∧ (0 ≤ r → Small xs.length ∧ ∀ x ∈ xs, smallR x) := by
  obtain ⟨r, h1, _, h2⟩ := szRuleS_ev2 xs left h0 h1 hl hw
  exact ⟨r, h1, h2⟩

def convR (x : S61) : S57 := ⟨x.f0, x.f1, x.f2, ⟨x.f3.f0, x.f3.f1⟩⟩
/-- A list that is filled place by place. -/
theorem set_fill {α β : Type} (f : α → β) (z : β) (dz : α) (xs : List α) (k : Nat) (hk : k < xs.length) : ((xs.take k).map f ++ List.replicate (xs.length - k) z).set k (f (xs.getD k dz)) = (xs.take (k + 1)).map f ++ List.replicate (xs.length - (k + 1)) z := by
  have e : xs.length - k = (xs.length - (k + 1)) + 1 := by omega
  rw [List.set_append, if_neg (by rw [List.length_map, List.length_take]; omega), e, List.replicate_succ]
  have hl : ((xs.take k).map f).length = k := by simp; omega
  rw [hl, Nat.sub_self, List.set_cons_zero, List.take_succ_eq_append_getElem hk, List.map_append]
  simp [List.getD, List.getElem?_eq_getElem hk]
theorem toRuleS_loop (xs : List S61) (hl : xs.length < 9223372036854775807) (d : Nat) : ∀ (k : Nat), k + d = xs.length →
    Ev (fun n => laws_toRuleS.l0 n xs ((xs.take k).map convR ++ List.replicate (xs.length - k) z57) k) (xs.map convR) := by
  induction d with
  | zero =>
    intro k hk
    refine shift ?_
    simp only [laws_toRuleS.l0]
    simp only [if_neg (show ¬ (k : Int) < (xs.length : Int) by omega)]
    rw [show xs.length - k = 0 by omega, List.replicate_zero, List.append_nil, List.take_of_length_le (by omega)]
    exact Ev.now _
  | succ d ih =>
    intro k hk
    have hlt : k < xs.length := by omega
    refine shift ?_
    simp only [laws_toRuleS.l0, laws_toRule.f, laws_toAddr.f, Option.bind_some]
    have hlen : (((xs.take k).map convR ++ List.replicate (xs.length - k) z57).length : Int) = xs.length := by simp; omega
    rw [hlen]
    simp only [if_pos (show (k : Int) < (xs.length : Int) by omega), if_pos (show (0 : Int) ≤ (k : Int) by omega)]
    rw [wrap_nat k (by omega), Int.toNat_natCast]
    have e := set_fill convR z57 z61 xs k hlt
    have hrd : rd_T61 xs (k : Int) = xs.getD k z61 := rfl
    rw [hrd]
    change Ev (fun n => laws_toRuleS.l0 n xs (((xs.take k).map convR ++ List.replicate (xs.length - k) z57).set k (convR (xs.getD k z61))) ((k + 1 : Nat) : Int)) _
    rw [e]
    exact ih (k + 1) (by omega)
theorem toRuleS_ev (xs : List S61) (hl : xs.length ≤ 4398046511104) : Ev (fun n => laws_toRuleS.f n xs) (xs.map convR) := by
  unfold laws_toRuleS.f
  simp only [if_pos (show (0 : Int) ≤ (xs.length : Int) by omega), Int.toNat_natCast, if_pos hl]
  have := toRuleS_loop xs (by omega) xs.length 0 (by omega)
  simpa using this
theorem eqAddr_refl (u d : ByteArray) : laws_eqAddr.f u d u d = some true := by unfold laws_eqAddr.f; rw [if_pos rfl, if_pos rfl]
theorem eqRuleS_loop (xs : List S57) (hl : xs.length < 9223372036854775807) (d : Nat) : ∀ (k : Nat), k + d = xs.length → Ev (fun n => laws_eqRuleS.l0 n xs xs k) true := by
  induction d with
  | zero =>
    intro k hk
    refine shift ?_
    simp only [laws_eqRuleS.l0]
    simp only [if_neg (show ¬ (k : Int) < (xs.length : Int) by omega)]
    exact Ev.now _
  | succ d ih =>
    intro k hk
    refine shift ?_
    simp only [laws_eqRuleS.l0, laws_eqRule.f, eqAddr_refl, if_true, Option.bind_some]
    simp only [if_pos (show (k : Int) < (xs.length : Int) by omega), if_pos (show (0 : Int) ≤ (k : Int) by omega)]
    rw [wrap_nat k (by omega)]
    exact ih (k + 1) (by omega)
theorem eqRuleS_ev (xs : List S57) (hl : xs.length < 9223372036854775807) : Ev (fun n => laws_eqRuleS.f n xs xs) true := by
  unfold laws_eqRuleS.f
  simp only [if_true]
  exact eqRuleS_loop xs hl xs.length 0 (by omega)
end Go.Proofs.YtomcaichidepnaaDoor
