/- Spools that are ok: plain. -/
import Derived.Test.YtiaibgkpohmihaaDoorSpA
import Derived.Test.YtiaibgkpohmihaaDoorSpoolM
import Derived.Test.YtiaibgkpohmihaaDoorSpDone
namespace Go.Proofs.YtiaibgkpohmihaaDoor
open Go.RowKit Go.Proofs.YtiaibgkpohmihaaDoorW.PrintWords
set_option linter.unusedVariables false
set_option linter.unusedSimpArgs false

theorem bytes_eq {a b : ByteArray} (h : a.data.toList = b.data.toList) : a = b := by
 cases a with
 | mk x =>
  cases b with
  | mk y => exact congrArg ByteArray.mk (Array.ext' h)
theorem same_eq {p q : SAddr} (h : sameA p q = true) : p = q := by
 unfold sameA at h
 rw [Bool.and_eq_true, beq_iff_eq, beq_iff_eq, bl, bl, bl, bl] at h
 obtain ⟨p0, p1⟩ := p
 obtain ⟨q0, q1⟩ := q
 rw [show p0 = q0 from bytes_eq h.1, show p1 = q1 from bytes_eq h.2]
theorem same_self (p : SAddr) : sameA p p = true := by unfold sameA; simp
theorem idx_at {α : Type} {p : α → Bool} {xs : List α} {n : Nat} (d : α) (h : idx p xs = (n : Int)) (hn : n < xs.length) : p (xs.getD n d) = true := by
 unfold idx at h
 by_cases ha : xs.any p = true
 ·rw [if_pos ha] at h
  have e : xs.findIdx p = n := by omega
  have hlt : xs.findIdx p < xs.length := by omega
  have h2 := List.findIdx_getElem (w := hlt)
  rw [List.getD, List.getElem?_eq_getElem hn]
  show p xs[n] = true
  simp only [e] at h2
  exact h2
 ·rw [if_neg ha] at h
  omega
theorem idx_neg {α : Type} {p : α → Bool} {xs : List α} (h : idx p xs < 0) : ∀ x ∈ xs, p x = false := by
 intro x hx
 unfold idx at h
 by_cases ha : xs.any p = true
 ·rw [if_pos ha] at h
  omega
 ·cases hq : p x with
  | false => rfl
  | true => exact absurd (List.any_eq_true.2 ⟨x, hx, hq⟩) ha
def SpOk (s : SSpool) : Prop := (∀ x ∈ s.f1, itemOk x = true ∧ x.f0 ≤ s.f0) ∧ (s.f1.map (·.f0)).Pairwise (· < ·) ∧ (0 ≤ s.f0 ∧ s.f0 ≤ 999) ∧ s.f1.length ≤ 10
theorem getD_at {α : Type} (xs : List α) (d : α) {j : Nat} (h : j < xs.length) : xs.getD j d = xs[j] := by rw [List.getD, List.getElem?_eq_getElem h]; rfl
theorem asc_of {f : Nat → Int} {n : Nat} (h : ∀ j, j + 1 < n → f j < f (j + 1)) : ∀ j i, i < j → j < n → f i < f j
 | 0, i, hi, _ => by omega
 | j + 1, i, hi, hn => by
  have h1 := h j hn
  rcases Nat.lt_or_ge i j with h2 | h2
  ·have := asc_of h j i h2 (by omega)
   omega
  ·obtain rfl : i = j := by omega
   exact h1
theorem spOk_iff (s : SSpool) : spoolOk s = true ↔ SpOk s := by
 unfold spoolOk SpOk
 rw [Bool.and_eq_true, Bool.and_eq_true, Bool.and_eq_true, List.all_eq_true]
 simp only [decide_eq_true_eq, List.mem_range]
 constructor
 ·rintro ⟨hg, hb, hl⟩
  have hg2 : ∀ j (hj : j < s.f1.length), itemOk s.f1[j] = true ∧ prevId s.f1 j < s.f1[j].f0 ∧ s.f1[j].f0 ≤ s.f0 := fun j hj => by
   have h := hg j hj
   unfold goodAt at h
   rw [Bool.and_eq_true, Bool.and_eq_true, getD_at _ _ hj] at h
   exact ⟨h.1, of_decide_eq_true h.2.1, of_decide_eq_true h.2.2⟩
  refine ⟨fun x hx => ?_, ?_, hb, by omega⟩
  ·obtain ⟨j, hj, rfl⟩ := List.getElem_of_mem hx
   exact ⟨(hg2 j hj).1, (hg2 j hj).2.2⟩
  ·rw [List.pairwise_iff_getElem]
   intro i j hi hj hij
   rw [List.length_map] at hi hj
   rw [List.getElem_map, List.getElem_map]
   have := asc_of (f := fun j => (s.f1.getD j zItem).f0) (n := s.f1.length) (fun j hj => by
    have h := (hg2 (j + 1) hj).2.1
    unfold prevId at h
    rw [if_neg (by omega)] at h
    show (s.f1.getD j zItem).f0 < (s.f1.getD (j + 1) zItem).f0
    rw [getD_at _ _ hj]
    exact h) j i hij hj
   simp only [getD_at _ _ hi, getD_at _ _ hj] at this
   exact this
 ·rintro ⟨hx, hp, hb, hl⟩
  refine ⟨fun j hj => ?_, hb, by omega⟩
  unfold goodAt
  rw [getD_at _ _ hj, Bool.and_eq_true, Bool.and_eq_true]
  have h1 := hx _ (List.getElem_mem hj)
  refine ⟨h1.1, decide_eq_true ?_, decide_eq_true h1.2⟩
  unfold prevId
  split
  ·exact itemOk_pos h1.1
  ·rw [getD_at _ _ (by omega : j - 1 < s.f1.length)]
   have := List.pairwise_iff_getElem.1 hp (j - 1) j (by rw [List.length_map]; omega) (by rw [List.length_map]; exact hj) (by omega)
   rw [List.getElem_map, List.getElem_map] at this
   exact this
theorem id_one {xs : List SItem} (hp : (xs.map (·.f0)).Pairwise (· < ·)) {i j : Nat} (hi : i < xs.length) (hj : j < xs.length) (h : xs[i].f0 = xs[j].f0) : i = j := by
 have h1 : ∀ a b (ha : a < xs.length) (hb : b < xs.length), a < b → xs[a].f0 < xs[b].f0 := fun a b ha hb hab => by
  have := List.pairwise_iff_getElem.1 hp a b (by rw [List.length_map]; exact ha) (by rw [List.length_map]; exact hb) hab
  rw [List.getElem_map, List.getElem_map] at this
  exact this
 rcases Nat.lt_trichotomy i j with h2 | h2 | h2
 ·have := h1 i j hi hj h2; omega
 ·exact h2
 ·have := h1 j i hj hi h2; omega
theorem item_parts {x : SItem} (h : itemOk x = true) : (∀ r ∈ x.f2, rcptOk r = true) ∧ (x.f2.map (·.f0)).Nodup ∧ 0 < x.f0 ∧ 1 ≤ x.f2.length ∧ x.f2.length ≤ 4 := by
 unfold itemOk at h
 simp only [Bool.and_eq_true, decide_eq_true_eq, List.all_eq_true] at h
 exact ⟨h.1, h.2.1, h.2.2.1, by omega, by omega⟩
theorem item_of {x y : SItem} (h : itemOk x = true) (h0 : y.f0 = x.f0) (h1 : y.f1 = x.f1) (h3 : y.f3 = x.f3) (hr : ∀ r ∈ y.f2, rcptOk r = true) (hn : (y.f2.map (·.f0)).Nodup) (hl : 1 ≤ y.f2.length ∧ y.f2.length ≤ 4) : itemOk y = true := by
 unfold itemOk at h ⊢
 simp only [Bool.and_eq_true, decide_eq_true_eq, List.all_eq_true] at h ⊢
 rw [h0, h1, h3]
 exact ⟨hr, hn, h.2.2.1, h.2.2.2.1, ⟨by omega, by omega⟩, h.2.2.2.2.2⟩

end Go.Proofs.YtiaibgkpohmihaaDoor

/- A spool where one of those a mail is for has it: plain. -/
namespace Go.Proofs.YtiaibgkpohmihaaDoor
open Go.RowKit Go.Proofs.YtiaibgkpohmihaaDoorW.PrintWords
set_option linter.unusedVariables false
set_option linter.unusedSimpArgs false

theorem drop_f2 (y : SItem) (m : Nat) : (dropK y m).f2 = y.f2.eraseIdx m := by unfold dropK; rw [List.eraseIdx_eq_take_drop_succ]
theorem drop_ok {y : SItem} {m : Nat} (h : itemOk y = true) (hm : m < y.f2.length) (hp : 0 < (dropK y m).f2.length) : itemOk (dropK y m) = true := by
 obtain ⟨h1, h2, h3, h4, h5⟩ := item_parts h
 have hs : (dropK y m).f2.Sublist y.f2 := by rw [drop_f2]; exact List.eraseIdx_sublist _ _
 refine item_of h rfl rfl rfl (fun r hr => h1 r (hs.subset hr)) ((hs.map _).nodup h2) ⟨hp, ?_⟩
 have := hs.length_le
 omega
theorem split_at {xs : List SItem} {n : Nat} (hn : n < xs.length) : xs = xs.take n ++ [xs.getD n zItem] ++ xs.drop (n + 1) := by
 rw [getD_at _ _ hn]
 simp
theorem mid_mem {y : SItem} {m : Nat} {z : SItem} (h : z ∈ (if 0 < (dropK y m).f2.length then [dropK y m] else [])) : z = dropK y m ∧ 0 < (dropK y m).f2.length := by
 split at h
 ·exact ⟨List.mem_singleton.1 h, by assumption⟩
 ·cases h
theorem done_mem {xs : List SItem} {n m : Nat} {z : SItem} (h : z ∈ doneL xs n m) : z ∈ xs.take n ∨ z ∈ xs.drop (n + 1) ∨ (z = dropK (xs.getD n zItem) m ∧ 0 < (dropK (xs.getD n zItem) m).f2.length) := by
 unfold doneL at h
 rcases List.mem_append.1 h with h | h
 ·rcases List.mem_append.1 h with h | h
  ·exact .inl h
  ·exact .inr (.inr (mid_mem h))
 ·exact .inr (.inl h)
theorem done_ids {xs : List SItem} {n m : Nat} (hn : n < xs.length) : ((doneL xs n m).map (·.f0)).Sublist (xs.map (·.f0)) := by
 conv => rhs; rw [split_at hn]
 unfold doneL
 rw [List.map_append, List.map_append, List.map_append, List.map_append]
 refine List.Sublist.append (List.Sublist.append (List.Sublist.refl _) ?_) (List.Sublist.refl _)
 split
 ·exact List.Sublist.refl _
 ·exact List.nil_sublist _
theorem done_len {xs : List SItem} {n m : Nat} (hn : n < xs.length) : (doneL xs n m).length ≤ xs.length := by
 have := (done_ids (m := m) hn).length_le
 rwa [List.length_map, List.length_map] at this
theorem done_fit {s : SSpool} {n m : Nat} (hs : fitSpool s) (hn : n < s.f1.length) : fitSpool ⟨s.f0, doneL s.f1 n m⟩ := by
 refine ⟨hs.1, by show (doneL s.f1 n m).length ≤ _; have := done_len (m := m) hn; have := hs.2.1; omega, fun z hz => ?_⟩
 rcases done_mem hz with h | h | ⟨rfl, _⟩
 ·exact hs.2.2 z (List.mem_of_mem_take h)
 ·exact hs.2.2 z (List.mem_of_mem_drop h)
 ·obtain ⟨h1, h2, h3, h4⟩ := hs.2.2 _ (getD_mem s.f1 zItem hn)
  have hsb : (dropK (s.f1.getD n zItem) m).f2.Sublist (s.f1.getD n zItem).f2 := by rw [drop_f2]; exact List.eraseIdx_sublist _ _
  exact ⟨h1, h2, ⟨by have := hsb.length_le; omega, fun r hr => h3.2 r (hsb.subset hr)⟩, h4⟩
theorem done_ok {s : SSpool} {n m : Nat} (hs : spoolOk s = true) (hn : n < s.f1.length) (hm : m < (s.f1.getD n zItem).f2.length) : spoolOk ⟨s.f0, doneL s.f1 n m⟩ = true := by
 obtain ⟨hx, hp, hb, hl⟩ := (spOk_iff s).1 hs
 refine (spOk_iff _).2 ⟨fun z hz => ?_, hp.sublist (done_ids hn), hb, by have := done_len (m := m) hn; show (doneL s.f1 n m).length ≤ 10; omega⟩
 rcases done_mem hz with h | h | ⟨rfl, h⟩
 ·exact hx z (List.mem_of_mem_take h)
 ·exact hx z (List.mem_of_mem_drop h)
 ·have h1 := hx _ (getD_mem s.f1 zItem hn)
  exact ⟨drop_ok h1.1 hm h, h1.2⟩
theorem done_many {s : SSpool} {n m : Nat} (hs : spoolOk s = true) (hn : n < s.f1.length) (hm : m < (s.f1.getD n zItem).f2.length) : spoolMany ⟨s.f0, doneL s.f1 n m⟩ = spoolMany s - 1 := by
 unfold spoolMany
 rw [done_ok hs hn hm, hs, if_pos rfl, if_pos rfl]
 show isum ((doneL s.f1 n m).map fun x => (x.f2.length : Int)) = isum (s.f1.map fun x => (x.f2.length : Int)) - 1
 conv => rhs; rw [split_at hn]
 unfold doneL
 rw [List.map_append, List.map_append, List.map_append, List.map_append, isum_append, isum_append, isum_append, isum_append]
 have e : (dropK (s.f1.getD n zItem) m).f2.length = (s.f1.getD n zItem).f2.length - 1 := by rw [drop_f2, List.length_eraseIdx_of_lt hm]
 have hq : isum ((if 0 < (dropK (s.f1.getD n zItem) m).f2.length then [dropK (s.f1.getD n zItem) m] else []).map fun x => (x.f2.length : Int)) = (((s.f1.getD n zItem).f2.length - 1 : Nat) : Int) := by
  split
  ·simp only [List.map_cons, List.map_nil, isum]
   rw [e]
   omega
  ·simp only [List.map_nil, isum]
   omega
 rw [hq]
 simp only [List.map_cons, List.map_nil, isum]
 omega
theorem done_gone {s : SSpool} {n m : Nat} {id : Int} {a : SAddr} (hs : spoolOk s = true) (hn : n < s.f1.length) (hm : m < (s.f1.getD n zItem).f2.length) (hi : itemAt id s.f1 = (n : Int)) (hk : rcptAt a (s.f1.getD n zItem).f2 = (m : Int)) :
  ∃ x, DoneR ⟨s.f0, doneL s.f1 n m⟩ id a x false := by
 obtain ⟨i, k, q, hf⟩ := find_ex id a (doneL s.f1 n m)
 cases q with
 | false => exact ⟨_, .inr ⟨done_ok hs hn hm, i, k, hf, fun _ => rfl, fun h => (by cases h)⟩⟩
 | true =>
  exfalso
  obtain ⟨i2, m2, rfl, hi2, rfl, hm2, hia, hka⟩ := find_true hf
  obtain ⟨hx, hp, -, -⟩ := (spOk_iff s).1 hs
  have h1 : ((s.f1.getD n zItem).f0 == id) = true := idx_at (p := fun x : SItem => x.f0 == id) zItem hi hn
  have h2 : (((doneL s.f1 n m).getD i2 zItem).f0 == id) = true := idx_at (p := fun x : SItem => x.f0 == id) zItem hia hi2
  have h3 : sameA ((s.f1.getD n zItem).f2.getD m zRcpt).f0 a = true := idx_at (p := fun r : SRcpt => sameA r.f0 a) zRcpt hk hm
  have h4 : sameA (((doneL s.f1 n m).getD i2 zItem).f2.getD m2 zRcpt).f0 a = true := idx_at (p := fun r : SRcpt => sameA r.f0 a) zRcpt hka hm2
  have hz := getD_mem (doneL s.f1 n m) zItem hi2
  generalize (doneL s.f1 n m).getD i2 zItem = z at h2 h4 hz hm2
  rw [beq_iff_eq] at h1 h2
  rw [getD_at _ _ hn] at h1
  rcases done_mem hz with h | h | ⟨rfl, _⟩
  ·obtain ⟨j, hj, rfl⟩ := List.getElem_of_mem h
   rw [List.length_take] at hj
   rw [List.getElem_take] at h2
   have := id_one hp (by omega) hn (h2.trans h1.symm)
   omega
  ·obtain ⟨j, hj, rfl⟩ := List.getElem_of_mem h
   rw [List.length_drop] at hj
   rw [List.getElem_drop] at h2
   have := id_one hp (by omega) hn (h2.trans h1.symm)
   omega
  ·have hnd := (item_parts (hx _ (getD_mem s.f1 zItem hn)).1).2.1
   rw [getD_at _ _ hm] at h3
   rw [getD_at _ _ hm2] at h4
   have he := (same_eq h4).trans (same_eq h3).symm
   generalize s.f1.getD n zItem = y at hm hm2 hnd he
   have hm3 : m2 < (y.f2.eraseIdx m).length := by rw [← drop_f2]; exact hm2
   have he2 : (y.f2.eraseIdx m)[m2].f0 = y.f2[m].f0 := by rw [← he]; congr 1; simp only [drop_f2]
   have hl := List.length_eraseIdx_of_lt hm
   rw [List.getElem_eraseIdx] at he2
   rw [List.nodup_iff_pairwise_ne, List.pairwise_iff_getElem] at hnd
   split at he2
   ·rename_i hlt
    have := hnd m2 m (by rw [List.length_map]; omega) (by rw [List.length_map]; exact hm) hlt
    rw [List.getElem_map, List.getElem_map] at this
    exact this he2
   ·rename_i hge
    have := hnd m (m2 + 1) (by rw [List.length_map]; exact hm) (by rw [List.length_map]; omega) (by omega)
    rw [List.getElem_map, List.getElem_map] at this
    exact this he2.symm
theorem done_law {s x : SSpool} {id : Int} {a : SAddr} (h : DoneR s id a x true) (hw : fitSpool s) : spoolOk s = true ∧ spoolOk x = true ∧ spoolMany x = spoolMany s - 1 ∧ x.f0 = s.f0 ∧ fitSpool x ∧ ∃ x2, DoneR x id a x2 false := by
 rcases h with ⟨_, _, h⟩ | ⟨hs, i, k, hf, _, h⟩
 ·cases h
 ·obtain ⟨n, m, rfl, hn, rfl, hm, hi, hk⟩ := find_true hf
  have e := h rfl
  simp only [Int.toNat_natCast] at e
  subst e
  exact ⟨hs, done_ok hs hn hm, done_many hs hn hm, rfl, done_fit hw hn, done_gone hs hn hm hi hk⟩

end Go.Proofs.YtiaibgkpohmihaaDoor

/- How many a spool that is ok keeps: plain. -/
namespace Go.Proofs.YtiaibgkpohmihaaDoor
open Go.RowKit Go.Proofs.YtiaibgkpohmihaaDoorW.PrintWords
set_option linter.unusedVariables false
set_option linter.unusedSimpArgs false

theorem isum_bd {f : SItem → Int} : ∀ xs : List SItem, (∀ x ∈ xs, 0 ≤ f x ∧ f x ≤ 4) → 0 ≤ isum (xs.map f) ∧ isum (xs.map f) ≤ 4 * (xs.length : Int)
 | [], _ => by simp [isum]
 | x :: xs, h => by
  have h1 := isum_bd xs (fun y hy => h y (List.mem_cons_of_mem _ hy))
  have h2 := h x List.mem_cons_self
  simp only [List.map_cons, isum, List.length_cons]
  omega
theorem many_bd {s : SSpool} (h : spoolOk s = true) : 0 ≤ spoolMany s ∧ spoolMany s ≤ 40 := by
 obtain ⟨hx, -, -, hl⟩ := (spOk_iff s).1 h
 unfold spoolMany
 rw [h, if_pos rfl]
 have := isum_bd (f := fun x => (x.f2.length : Int)) s.f1 (fun x hx1 => by have := (item_parts (hx x hx1).1).2.2.2; omega)
 omega

end Go.Proofs.YtiaibgkpohmihaaDoor
