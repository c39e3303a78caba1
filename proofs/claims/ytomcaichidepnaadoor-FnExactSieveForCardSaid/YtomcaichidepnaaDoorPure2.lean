/- Cutting a text at a byte, at most so many times; domains and addresses of the reference: plain Lean. -/
import Derived.Test.YtomcaichidepnaaDoorPure1
namespace Go.Proofs.YtomcaichidepnaaDoor
open Go.RowKit Go.Proofs.YtomcaichidepnaaDoorW.PrintWords P
set_option linter.unusedVariables false
set_option linter.unusedSimpArgs false

def cutN (c : UInt8) : Nat → List UInt8 → List (List UInt8)
  | _, [] => [[]]
  | 0, b :: r => [b :: r]
  | m + 1, b :: r => if b = c then [] :: cutN c m r else match cutN c (m + 1) r with | h :: t => (b :: h) :: t | [] => [[b]]
theorem cutN_zero (c : UInt8) (l : List UInt8) : cutN c 0 l = [l] := by cases l <;> simp [cutN]
theorem cutN_none (c : UInt8) (m : Nat) (l : List UInt8) (h : l.count c = 0) : cutN c m l = [l] := by
  cases m with
  | zero => exact cutN_zero c l
  | succ m =>
    induction l with
    | nil => simp [cutN]
    | cons b r ih =>
      have hb : b ≠ c := by intro e; subst e; simp at h
      rw [List.count_cons_of_ne hb] at h
      rw [cutN, if_neg hb, ih h]
theorem cutN_at (c : UInt8) (m : Nat) (a r : List UInt8) (h : a.count c = 0) : cutN c (m + 1) (a ++ c :: r) = a :: cutN c m r := by
  induction a with
  | nil => simp [cutN]
  | cons b a ih =>
    have hb : b ≠ c := by intro e; subst e; simp at h
    rw [List.count_cons_of_ne hb] at h
    rw [List.cons_append, cutN, if_neg hb, ih h]
/-- Up to the first c. -/
theorem first_c (c : UInt8) (l : List UInt8) : l.count c = 0 ∨ ∃ a r, l = a ++ c :: r ∧ a.count c = 0 := by
  rcases index_one c l with ⟨h, _⟩ | ⟨a, r, h, h0, _⟩
  · exact .inl h
  · exact .inr ⟨a, r, h, h0⟩
theorem cutN_all (c : UInt8) : ∀ (m : Nat) (l : List UInt8), l.count c ≤ m → cutN c m l = cutAll c l
  | 0, l, h => by rw [cutN_zero, cutAll_none c l (by omega)]
  | m + 1, l, h => by
    rcases first_c c l with h0 | ⟨a, r, rfl, h0⟩
    · rw [cutN_none c _ l h0, cutAll_none c l h0]
    · rw [cutN_at c m a r h0, cutAll_at c a r h0, cutN_all c m r (by simp [List.count_append] at h; omega)]
theorem cutN_many (c : UInt8) : ∀ (m : Nat) (l : List UInt8), m ≤ l.count c → (cutN c m l).length = m + 1
  | 0, l, h => by rw [cutN_zero]; rfl
  | m + 1, l, h => by
    rcases first_c c l with h0 | ⟨a, r, rfl, h0⟩
    · omega
    · rw [cutN_at c m a r h0, List.length_cons, cutN_many c m r (by simp [List.count_append] at h; omega)]
theorem dom_cut (l : List UInt8) : ((cutN 46 3 l).all lab && decide ((cutN 46 3 l).length ≤ 3)) = dom l := by
  unfold dom
  by_cases h : l.count 46 ≤ 3
  · rw [cutN_all 46 3 l h]
  · rw [decide_eq_false (p := (cutN 46 3 l).length ≤ 3) (by rw [cutN_many 46 3 l (by omega)]; omega), decide_eq_false (p := (cutAll 46 l).length ≤ 3) (by rw [cutAll_length]; omega), Bool.and_false, Bool.and_false]

theorem drop_byte (l : List UInt8) (fr i : Nat) (h1 : fr ≤ i) (h2 : i < l.length) : l.drop fr = (l.drop fr).take (i - fr) ++ l.getD i 0 :: l.drop (i + 1) := by
  have e : (l.drop fr).drop (i - fr) = l.getD i 0 :: l.drop (i + 1) := by
    rw [List.drop_drop, show fr + (i - fr) = i by omega, List.drop_eq_getElem_cons h2, List.getD, List.getElem?_eq_getElem h2]; rfl
  rw [← e, List.take_append_drop]
theorem take_next (l : List UInt8) (fr i : Nat) (h1 : fr ≤ i) (h2 : i < l.length) : (l.drop fr).take (i + 1 - fr) = (l.drop fr).take (i - fr) ++ [l.getD i 0] := by
  have hl : i - fr < (l.drop fr).length := by rw [List.length_drop]; omega
  rw [show i + 1 - fr = i - fr + 1 by omega, List.take_succ_eq_append_getElem hl]
  congr 2
  rw [List.getElem_drop, List.getD, List.getElem?_eq_getElem h2]
  simp [show fr + (i - fr) = i by omega]
theorem ext_data (s : ByteArray) (a b : Nat) (h : b ≤ s.size) : (s.extract a b).data.toList = (s.data.toList.drop a).take (b - a) := by
  rw [Lib.extract_data]

theorem cut_loop (s : ByteArray) (c : UInt8) (most : Nat) (hm : most < 1000) (hs : s.size < 9223372036854775807) (T : List (List UInt8)) (d : Nat) : ∀ (i fr : Nat) (out : List ByteArray), i + d = s.size → fr ≤ i → out.length ≤ most →
    ((s.data.toList.drop fr).take (i - fr)).count c = 0 → out.map (·.data.toList) ++ cutN c (most - out.length) (s.data.toList.drop fr) = T → ∃ ps : List ByteArray, ps.map (·.data.toList) = T ∧ Ev (fun n => spec_l1Cut.l0 n s (c.toNat : Int) (most : Int) out (fr : Int) (i : Int)) ps := by
  have hend : ∀ (i fr : Nat) (out : List ByteArray), fr ≤ s.size → out.length ≤ most → cutN c (most - out.length) (s.data.toList.drop fr) = [s.data.toList.drop fr] → out.map (·.data.toList) ++ cutN c (most - out.length) (s.data.toList.drop fr) = T →
      ∃ ps : List ByteArray, ps.map (·.data.toList) = T ∧ Ev (fun n => spec_l1Cut.j1 n s (c.toNat : Int) (most : Int) out (fr : Int) (i : Int) false) ps := by
    intro i fr out hfr ho hc hT
    refine ⟨out ++ [s.extract fr s.size], ?_, ?_⟩
    · rw [List.map_append, ← hT, hc, List.map_cons, List.map_nil, ext_data s fr s.size (Nat.le_refl _), ← size_data, List.take_of_length_le (by simp)]
    · refine shift ?_
      simp only [spec_l1Cut.j1]
      simp only [Bool.false_eq_true, if_false, if_pos (show (0 : Int) ≤ (fr : Int) by omega), if_pos (show (fr : Int) ≤ (s.size : Int) by omega), if_pos (show out.length < 8796093022208 by omega)]
      exact Ev.now _
  induction d with
  | zero =>
    intro i fr out hi hfr ho hc hT
    have hi' : i = s.size := by omega
    have hc' : (s.data.toList.drop fr).count c = 0 := by rwa [List.take_of_length_le (by rw [List.length_drop, size_data]; omega)] at hc
    obtain ⟨ps, h1, h2⟩ := hend i fr out (by omega) ho (cutN_none c _ _ hc') hT
    refine ⟨ps, h1, shift ?_⟩
    simp only [spec_l1Cut.l0]
    simp only [if_neg (show ¬ (i : Int) < (s.size : Int) by omega)]
    exact h2
  | succ d ih =>
    intro i fr out hi hfr ho hc hT
    by_cases hm' : out.length < most
    · have hlen : s.data.toList.length = s.size := size_data s
      by_cases hb : s.data.toList.getD i 0 = c
      · have e := drop_byte s.data.toList fr i hfr (by omega)
        rw [hb] at e
        have hT' : (out ++ [s.extract fr i]).map (·.data.toList) ++ cutN c (most - (out ++ [s.extract fr i]).length) (s.data.toList.drop (i + 1)) = T := by
          rw [← hT]
          rw [e, show most - out.length = (most - (out.length + 1)) + 1 by omega, cutN_at c _ _ _ hc]
          simp
        obtain ⟨ps, h1, h2⟩ := ih (i + 1) (i + 1) (out ++ [s.extract fr i]) (by omega) (by omega) (by simp; omega) (by simp) hT'
        refine ⟨ps, h1, shift (shift ?_)⟩
        simp only [spec_l1Cut.l0, spec_l1Cut.j1]
        rw [bt_nat s i (by omega), wrap_nat i (by omega), hb]
        simp only [if_pos (show (i : Int) < (s.size : Int) by omega), decide_eq_true (show (out.length : Int) < (most : Int) by omega), if_true, if_pos (show (0 : Int) ≤ (i : Int) by omega), if_pos (show (0 : Int) ≤ (fr : Int) by omega), if_pos (show (fr : Int) ≤ (i : Int) by omega), if_pos (show (i : Int) ≤ (s.size : Int) by omega), if_pos (show out.length < 8796093022208 by omega), Int.toNat_natCast]
        exact h2
      · have hc2 : ((s.data.toList.drop fr).take (i + 1 - fr)).count c = 0 := by
          rw [take_next _ fr i hfr (by omega), List.count_append, hc, List.count_singleton, if_neg (by rw [beq_iff_eq]; exact hb)]
        obtain ⟨ps, h1, h2⟩ := ih (i + 1) fr out (by omega) (by omega) ho hc2 hT
        refine ⟨ps, h1, shift (shift ?_)⟩
        simp only [spec_l1Cut.l0, spec_l1Cut.j1]
        have hne : ¬ ((s.data.toList.getD i 0).toNat : Int) = (c.toNat : Int) := fun e => hb (UInt8.toNat_inj.1 (by omega))
        rw [bt_nat s i (by omega), wrap_nat i (by omega)]
        simp only [if_pos (show (i : Int) < (s.size : Int) by omega), decide_eq_true (show (out.length : Int) < (most : Int) by omega), if_true, if_pos (show (0 : Int) ≤ (i : Int) by omega), if_neg hne]
        exact h2
    · obtain ⟨ps, h1, h2⟩ := hend i fr out (by omega) ho (by rw [show most - out.length = 0 by omega, cutN_zero]) hT
      refine ⟨ps, h1, shift ?_⟩
      simp only [spec_l1Cut.l0]
      simp only [if_pos (show (i : Int) < (s.size : Int) by omega), decide_eq_false (show ¬ (out.length : Int) < (most : Int) by omega)]
      exact h2
theorem cut_ev (s : ByteArray) (c : UInt8) (most : Nat) (hm : most < 1000) (hs : s.size < 9223372036854775807) : ∃ ps : List ByteArray, ps.map (·.data.toList) = cutN c most s.data.toList ∧ Ev (fun n => spec_l1Cut.f n s (c.toNat : Int) (most : Int)) ps := by
  obtain ⟨ps, h1, h2⟩ := cut_loop s c most hm hs (cutN c most s.data.toList) s.size 0 0 [] (by omega) (by omega) (by simp) (by simp) (by simp)
  exact ⟨ps, h1, h2⟩
theorem rdOf_nat (ps : List ByteArray) (k : Nat) : rdOf ByteArray.empty ps (k : Int) = ps.getD k ⟨#[]⟩ := by unfold rdOf; rw [Int.toNat_natCast]; rfl
theorem dom_loop (ps : List ByteArray) (hp : ps.length < 9223372036854775807) (hsz : ∀ k : Nat, (ps.getD k ⟨#[]⟩).size < 9223372036854775807) (d : Nat) : ∀ k : Nat, k + d = ps.length → (∀ j, j < k → lab (ps.getD j ⟨#[]⟩).data.toList = true) →
    Ev (fun n => spec_l1Domain.l0 n ps k) (ps.all (fun p => lab p.data.toList) && decide (ps.length ≤ 3)) := by
  induction d with
  | zero =>
    intro k hk hb
    refine shift ?_
    simp only [spec_l1Domain.l0]
    simp only [if_neg (show ¬ (k : Int) < (ps.length : Int) by omega)]
    rw [all_getD _ _ ⟨#[]⟩ (fun j hj => hb j (by omega)), Bool.true_and, show decide ((ps.length : Int) ≤ 3) = decide (ps.length ≤ 3) from decide_eq_decide.2 (by omega)]
    exact Ev.now _
  | succ d ih =>
    intro k hk hb
    refine shift ?_
    simp only [spec_l1Domain.l0]
    simp only [if_pos (show (k : Int) < (ps.length : Int) by omega), if_pos (show (0 : Int) ≤ (k : Int) by omega), rdOf_nat]
    refine Ev.bind (word_ev _ (hsz k)) ?_
    cases hq : lab (ps.getD k ⟨#[]⟩).data.toList
    · rw [all_getD_false (fun p => lab p.data.toList) ps ⟨#[]⟩ k (by omega) hq, Bool.false_and]
      simp only [Bool.false_eq_true, if_false]
      exact Ev.now _
    · simp only [if_true]
      rw [wrap_nat k (by omega)]
      exact ih (k + 1) (by omega) (fun j hj => by
        by_cases e : j = k
        · subst e; exact hq
        · exact hb j (by omega))
theorem cutN_le (c : UInt8) : ∀ (m : Nat) (l : List UInt8) (x : List UInt8), x ∈ cutN c m l → x.length ≤ l.length
  | 0, l, x, h => by rw [cutN_zero] at h; simp at h; subst h; exact Nat.le_refl _
  | m + 1, l, x, h => by
    rcases first_c c l with h0 | ⟨a, r, rfl, h0⟩
    · rw [cutN_none c _ l h0] at h; simp at h; subst h; exact Nat.le_refl _
    · rw [cutN_at c m a r h0] at h
      rcases List.mem_cons.1 h with rfl | h
      · simp
      · have := cutN_le c m r x h; simp; omega
theorem getD_size {ps : List ByteArray} {l : List (List UInt8)} {B : Nat} (h : ps.map (·.data.toList) = l) (hl : ∀ x ∈ l, x.length ≤ B) (k : Nat) : (ps.getD k ⟨#[]⟩).size ≤ B := by
  by_cases hk : k < ps.length
  · have := hl (ps[k].data.toList) (by rw [← h]; exact List.mem_map.2 ⟨_, List.getElem_mem hk, rfl⟩)
    rw [size_data] at this
    simpa [List.getD, List.getElem?_eq_getElem hk] using this
  · rw [List.getD, List.getElem?_eq_none (by omega)]; exact Nat.zero_le _
theorem domain_ev (s : ByteArray) (hs : s.size < 9223372036854775807) : Ev (fun n => spec_l1Domain.f n s) (dom s.data.toList) := by
  obtain ⟨ps, h1, h2⟩ := cut_ev s 46 3 (by omega) hs
  unfold spec_l1Domain.f
  refine Ev.bind h2 ?_
  have hlen : ps.length ≤ 4 := by
    have := congrArg List.length h1
    rw [List.length_map] at this
    rw [this]
    by_cases h : s.data.toList.count 46 ≤ 3
    · rw [cutN_all 46 3 _ h, cutAll_length]; omega
    · rw [cutN_many 46 3 _ (by omega)]; omega
  have e : dom s.data.toList = (ps.all (fun p => lab p.data.toList) && decide (ps.length ≤ 3)) := by
    rw [← dom_cut, ← h1, List.all_map, List.length_map]; rfl
  rw [e]
  exact dom_loop ps (by omega) (fun k => by have := getD_size h1 (fun x hx => cutN_le 46 3 _ x hx) k; rw [size_data] at this; omega) ps.length 0 (by omega) (fun j hj => by omega)
theorem addrOk_ev (u d : ByteArray) (hu : u.size < 9223372036854775807) (hd : d.size < 9223372036854775807) : Ev (fun n => spec_l1AddrOk.f n u d) (addr u.data.toList d.data.toList) := by
  unfold spec_l1AddrOk.f addr
  refine Ev.bind (word_ev u hu) ?_
  cases lab u.data.toList
  · simp only [Bool.false_eq_true, if_false]; exact Ev.now _
  · simp only [if_true]
    exact Ev.bind (domain_ev d hd) (Ev.now _)
theorem null_is (u d : ByteArray) : spec_l1Null.f u d = some (nul u.data.toList d.data.toList) := by
  unfold spec_l1Null.f nul
  rw [bl, bl]
  by_cases h : u.data.toList = []
  · rw [if_pos h, h]; congr 1; cases d.data.toList <;> rfl
  · rw [if_neg h]; congr 1; cases h' : u.data.toList with
    | nil => exact absurd h' h
    | cons a b => rfl
end Go.Proofs.YtomcaichidepnaaDoor
