/- Spools that are ok: plain. -/
import Derived.Test.YtiaibgkpohmihaaGreatDoorSpoolM
import Derived.Test.YtiaibgkpohmihaaGreatDoorSpAddX
import Derived.Test.YtiaibgkpohmihaaGreatDoorDrawSpAdd
import Derived.Test.YtiaibgkpohmihaaGreatDoorDueI
namespace Go.Proofs.YtiaibgkpohmihaaGreatDoor
open Go.RowKit Go.Proofs.YtiaibgkpohmihaaGreatDoorW.PrintWords
set_option linter.unusedVariables false
set_option linter.unusedSimpArgs false
def SpOk (s : SSpool) : Prop := (∀ x ∈ s.f1, itemOk x = true ∧ x.f0 ≤ s.f0) ∧ (s.f1.map (·.f0)).Pairwise (· < ·) ∧ (0 ≤ s.f0 ∧ s.f0 ≤ 999) ∧ s.f1.length ≤ 10
theorem getD_at {α : Type} (xs : List α) (d : α) {j : Nat} (h : j < xs.length) : xs.getD j d = xs[j] := by rw [List.getD, List.getElem?_eq_getElem h]; rfl
theorem asc_of {f : Nat → Int} {n : Nat} (h : ∀ j, j + 1 < n → f j < f (j + 1)) : ∀ j i, i < j → j < n → f i < f j
 | 0, i, hi, _ => by omega
 | j + 1, i, hi, hn => by
  have h1 := h j hn
  rcases Nat.lt_or_ge i j with h2 | h2
  ·have := asc_of h j i h2 (by omega)
   omega
  ·obtain rfl : i = j := by omega
   exact h1
theorem spOk_iff (s : SSpool) : spoolOk s = true ↔ SpOk s := by
 unfold spoolOk SpOk
 rw [Bool.and_eq_true, Bool.and_eq_true, Bool.and_eq_true, List.all_eq_true]
 simp only [decide_eq_true_eq, List.mem_range]
 constructor
 ·rintro ⟨hg, hb, hl⟩
  have hg2 : ∀ j (hj : j < s.f1.length), itemOk s.f1[j] = true ∧ prevId s.f1 j < s.f1[j].f0 ∧ s.f1[j].f0 ≤ s.f0 := fun j hj => by
   have h := hg j hj
   unfold goodAt at h
   rw [Bool.and_eq_true, Bool.and_eq_true, getD_at _ _ hj] at h
   exact ⟨h.1, of_decide_eq_true h.2.1, of_decide_eq_true h.2.2⟩
  refine ⟨fun x hx => ?_, ?_, hb, by omega⟩
  ·obtain ⟨j, hj, rfl⟩ := List.getElem_of_mem hx
   exact ⟨(hg2 j hj).1, (hg2 j hj).2.2⟩
  ·rw [List.pairwise_iff_getElem]
   intro i j hi hj hij
   rw [List.length_map] at hi hj
   rw [List.getElem_map, List.getElem_map]
   have := asc_of (f := fun j => (s.f1.getD j zItem).f0) (n := s.f1.length) (fun j hj => by
    have h := (hg2 (j + 1) hj).2.1
    unfold prevId at h
    rw [if_neg (by omega)] at h
    show (s.f1.getD j zItem).f0 < (s.f1.getD (j + 1) zItem).f0
    rw [getD_at _ _ hj]
    exact h) j i hij hj
   simp only [getD_at _ _ hi, getD_at _ _ hj] at this
   exact this
 ·rintro ⟨hx, hp, hb, hl⟩
  refine ⟨fun j hj => ?_, hb, by omega⟩
  unfold goodAt
  rw [getD_at _ _ hj, Bool.and_eq_true, Bool.and_eq_true]
  have h1 := hx _ (List.getElem_mem hj)
  refine ⟨h1.1, decide_eq_true ?_, decide_eq_true h1.2⟩
  unfold prevId
  split
  ·exact itemOk_pos h1.1
  ·rw [getD_at _ _ (by omega : j - 1 < s.f1.length)]
   have := List.pairwise_iff_getElem.1 hp (j - 1) j (by rw [List.length_map]; omega) (by rw [List.length_map]; exact hj) (by omega)
   rw [List.getElem_map, List.getElem_map] at this
   exact this
theorem id_one {xs : List SItem} (hp : (xs.map (·.f0)).Pairwise (· < ·)) {i j : Nat} (hi : i < xs.length) (hj : j < xs.length) (h : xs[i].f0 = xs[j].f0) : i = j := by
 have h1 : ∀ a b (ha : a < xs.length) (hb : b < xs.length), a < b → xs[a].f0 < xs[b].f0 := fun a b ha hb hab => by
  have := List.pairwise_iff_getElem.1 hp a b (by rw [List.length_map]; exact ha) (by rw [List.length_map]; exact hb) hab
  rw [List.getElem_map, List.getElem_map] at this
  exact this
 rcases Nat.lt_trichotomy i j with h2 | h2 | h2
 ·have := h1 i j hi hj h2; omega
 ·exact h2
 ·have := h1 j i hj hi h2; omega
theorem item_parts {x : SItem} (h : itemOk x = true) : (∀ r ∈ x.f2, rcptOk r = true) ∧ (x.f2.map (·.f0)).Nodup ∧ 0 < x.f0 ∧ 1 ≤ x.f2.length ∧ x.f2.length ≤ 4 := by
 unfold itemOk at h
 simp only [Bool.and_eq_true, decide_eq_true_eq, List.all_eq_true] at h
 exact ⟨h.1, h.2.1, h.2.2.1, by omega, by omega⟩
theorem item_of {x y : SItem} (h : itemOk x = true) (h0 : y.f0 = x.f0) (h1 : y.f1 = x.f1) (h3 : y.f3 = x.f3) (hr : ∀ r ∈ y.f2, rcptOk r = true) (hn : (y.f2.map (·.f0)).Nodup) (hl : 1 ≤ y.f2.length ∧ y.f2.length ≤ 4) : itemOk y = true := by
 unfold itemOk at h ⊢
 simp only [Bool.and_eq_true, decide_eq_true_eq, List.all_eq_true] at h ⊢
 rw [h0, h1, h3]
 exact ⟨hr, hn, h.2.2.1, h.2.2.2.1, ⟨by omega, by omega⟩, h.2.2.2.2.2⟩

theorem isum_bd {f : SItem → Int} : ∀ xs : List SItem, (∀ x ∈ xs, 0 ≤ f x ∧ f x ≤ 4) → 0 ≤ isum (xs.map f) ∧ isum (xs.map f) ≤ 4 * (xs.length : Int)
 | [], _ => by simp [isum]
 | x :: xs, h => by
  have h1 := isum_bd xs (fun y hy => h y (List.mem_cons_of_mem _ hy))
  have h2 := h x List.mem_cons_self
  simp only [List.map_cons, isum, List.length_cons]
  omega
theorem many_bd {s : SSpool} (h : spoolOk s = true) : 0 ≤ spoolMany s ∧ spoolMany s ≤ 40 := by
 obtain ⟨hx, -, -, hl⟩ := (spOk_iff s).1 h
 unfold spoolMany
 rw [h, if_pos rfl]
 have := isum_bd (f := fun x => (x.f2.length : Int)) s.f1 (fun x hx1 => by have := (item_parts (hx x hx1).1).2.2.2; omega)
 omega

end Go.Proofs.YtiaibgkpohmihaaGreatDoor

/- A spool to which a mail was added: plain. -/
namespace Go.Proofs.YtiaibgkpohmihaaGreatDoor
open Go.RowKit Go.Proofs.YtiaibgkpohmihaaGreatDoorW.PrintWords
set_option linter.unusedVariables false
set_option linter.unusedSimpArgs false

theorem new_to (s : SSpool) (m : SMail) (now : Int) : ((newItem s m now).f2.map (·.f0)) = m.f1 := by
 show ((m.f1.map (fun a => (⟨a, 0, now⟩ : SRcpt))).map (·.f0)) = m.f1
 rw [List.map_map]
 exact (List.map_congr_left (fun a _ => rfl)).trans (List.map_id m.f1)
theorem new_len (s : SSpool) (m : SMail) (now : Int) : (newItem s m now).f2.length = m.f1.length := by
 show (m.f1.map _).length = _
 rw [List.length_map]
theorem good_parts {s : SSpool} {m : SMail} {now : Int} (hg : goodAdd s m now = true) : mailOkS m = true ∧ (0 ≤ now ∧ now ≤ 9999) ∧ s.f1.length < 10 ∧ s.f0 < 999 := by
 unfold goodAdd at hg
 simp only [Bool.and_eq_true, decide_eq_true_eq] at hg
 exact ⟨hg.1, hg.2.1, by omega, hg.2.2.2⟩
theorem new_ok {s : SSpool} {m : SMail} {now : Int} (hs : 0 ≤ s.f0) (hm : mailOkS m = true) (hn : 0 ≤ now ∧ now ≤ 9999) : itemOk (newItem s m now) = true := by
 unfold mailOkS mailOk at hm
 simp only [Bool.and_eq_true, decide_eq_true_eq, List.all_eq_true] at hm
 obtain ⟨h1, ⟨h2, h3⟩, h4, h5, h6⟩ := hm
 unfold itemOk
 simp only [Bool.and_eq_true, decide_eq_true_eq, List.all_eq_true]
 refine ⟨fun r hr => ?_, by rw [new_to]; exact h5, by show 0 < s.f0 + 1; omega, h1, by rw [new_len]; exact ⟨h2, h3⟩, h6⟩
 obtain ⟨a, ha, rfl⟩ := List.mem_map.1 hr
 unfold rcptOk
 simp only [Bool.and_eq_true, decide_eq_true_eq]
 exact ⟨h4 a ha, ⟨by omega, by omega⟩, hn⟩
theorem add_ok {s : SSpool} {m : SMail} {now : Int} (hs : spoolOk s = true) (hg : goodAdd s m now = true) : spoolOk ⟨s.f0 + 1, s.f1 ++ [newItem s m now]⟩ = true := by
 obtain ⟨hx, hp, hb, hl⟩ := (spOk_iff s).1 hs
 obtain ⟨g1, g2, g3, g4⟩ := good_parts hg
 refine (spOk_iff _).2 ⟨fun z hz => ?_, ?_, ⟨by show 0 ≤ s.f0 + 1; omega, by show s.f0 + 1 ≤ 999; omega⟩, by show (s.f1 ++ [newItem s m now]).length ≤ 10; rw [List.length_append]; simp; omega⟩
 ·rcases List.mem_append.1 hz with h | h
  ·have h1 := hx z h
   exact ⟨h1.1, by show z.f0 ≤ s.f0 + 1; omega⟩
  ·obtain rfl := List.mem_singleton.1 h
   exact ⟨new_ok hb.1 g1 g2, Int.le_refl _⟩
 ·show ((s.f1 ++ [newItem s m now]).map (·.f0)).Pairwise (· < ·)
  rw [List.map_append, List.pairwise_append]
  refine ⟨hp, List.pairwise_singleton _ _, fun a ha b hb2 => ?_⟩
  obtain ⟨x, hx1, rfl⟩ := List.mem_map.1 ha
  obtain rfl : b = s.f0 + 1 := List.mem_singleton.1 hb2
  have := (hx x hx1).2
  omega
theorem add_many {s : SSpool} {m : SMail} {now : Int} (hs : spoolOk s = true) (hg : goodAdd s m now = true) : spoolMany ⟨s.f0 + 1, s.f1 ++ [newItem s m now]⟩ = spoolMany s + (m.f1.length : Int) := by
 unfold spoolMany
 rw [add_ok hs hg, hs, if_pos rfl, if_pos rfl]
 show isum ((s.f1 ++ [newItem s m now]).map fun x => (x.f2.length : Int)) = _
 rw [List.map_append, isum_append]
 simp only [List.map_cons, List.map_nil, isum, new_len]
 omega
theorem add_due {s : SSpool} {m : SMail} {now : Int} (hs : spoolOk s = true) (hg : goodAdd s m now = true) : ∃ D : List Int, spoolDue ⟨s.f0 + 1, s.f1 ++ [newItem s m now]⟩ now = D ++ [s.f0 + 1] ∧ D.length ≤ 10 := by
 obtain ⟨hx, hp, hb, hl⟩ := (spOk_iff s).1 hs
 obtain ⟨g1, g2, g3, g4⟩ := good_parts hg
 have hn := item_parts (new_ok hb.1 g1 g2 : itemOk (newItem s m now) = true)
 refine ⟨duesOf now s.f1, ?_, Nat.le_trans (dues_len now s.f1) hl⟩
 unfold spoolDue
 rw [add_ok hs hg, if_pos rfl]
 show duesOf now (s.f1 ++ [newItem s m now]) = _
 have hd : dueAt now (newItem s m now) = true := by
  unfold dueAt
  rw [List.any_eq_true]
  have hl1 : 0 < (newItem s m now).f2.length := by omega
  obtain ⟨a, ha, he⟩ := List.mem_map.1 (List.getElem_mem hl1)
  exact ⟨_, List.getElem_mem hl1, decide_eq_true (by rw [← he]; exact Int.le_refl _)⟩
 unfold duesOf
 rw [List.filter_append, List.map_append, List.filter_cons, if_pos hd]
 rfl
theorem add_fit {s : SSpool} {m : SMail} {now : Int} (hw : fitSpool s) (hm : fitMail m) (h0 : -1000000000 ≤ s.f0 ∧ s.f0 ≤ 1000000000) (hn : -1000000000 ≤ now ∧ now ≤ 1000000000) (hl : s.f1.length ≤ 1000) : fitSpool ⟨s.f0 + 1, s.f1 ++ [newItem s m now]⟩ := by
 refine ⟨WalkArith.wf_i64 (by show _ ∧ _; constructor <;> (dsimp only; omega)), by show (s.f1 ++ [newItem s m now]).length ≤ _; rw [List.length_append]; simp; omega, fun z hz => ?_⟩
 rcases List.mem_append.1 hz with h | h
 ·exact hw.2.2 z h
 ·obtain rfl := List.mem_singleton.1 h
  refine ⟨WalkArith.wf_i64 (by show _ ∧ _; constructor <;> (show _ ≤ _; unfold newItem; dsimp only; omega)), hm.1, ⟨by rw [new_len]; exact hm.2.1.1, fun r hr => ?_⟩, hm.2.2⟩
  obtain ⟨a, ha, rfl⟩ := List.mem_map.1 hr
  exact ⟨hm.2.1.2 a ha, (by decide : (Lit.int .i64 0).wf = true), WalkArith.wf_i64 (by constructor <;> (dsimp only; omega))⟩
theorem add_at {s : SSpool} {m : SMail} {now : Int} {k : Nat} (hk : k < s.f1.length) : (s.f1 ++ [newItem s m now]).getD k zItem = s.f1.getD k zItem := by
 rw [List.getD, List.getD, List.getElem?_append_left hk]
theorem mid_fit {x : SMail} (h : midM x) : fitMail x := by
 obtain ⟨⟨a, b⟩, ⟨c, d⟩, e, f⟩ := h
 exact ⟨⟨by omega, by omega⟩, ⟨by omega, fun y hy => by have := d y hy; exact ⟨by have := this.1; omega, by have := this.2; omega⟩⟩, by omega, fun y hy => by have := f y hy; omega⟩
def AddR (s x : SSpool) (m : SMail) (now : Int) (q : Bool) : Prop := (spoolOk s = false ∧ x = ⟨0, []⟩ ∧ q = false) ∨ (spoolOk s = true ∧ x = s ∧ q = false) ∨ (spoolOk s = true ∧ goodAdd s m now = true ∧ x = ⟨s.f0 + 1, s.f1 ++ [newItem s m now]⟩ ∧ q = true)
theorem add_r (s : SSpool) (m : SMail) (now : Int) : AddR s (spAdd s m now) m now (spAddOk s m now) := by
 unfold AddR spAdd spAddOk
 cases h : spoolOk s with
 | false => exact .inl ⟨rfl, rfl, rfl⟩
 | true =>
  cases hg : goodAdd s m now with
  | false => exact .inr (.inl ⟨rfl, rfl, rfl⟩)
  | true => exact .inr (.inr ⟨rfl, rfl, rfl, rfl⟩)

end Go.Proofs.YtiaibgkpohmihaaGreatDoor
