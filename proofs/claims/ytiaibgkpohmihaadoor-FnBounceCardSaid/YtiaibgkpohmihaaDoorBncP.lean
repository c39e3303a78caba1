/- What is told of a mail is ok: plain. -/
import Derived.Test.YtiaibgkpohmihaaDoorBncC
import Derived.Test.YtiaibgkpohmihaaDoorBounceI
namespace Go.Proofs.YtiaibgkpohmihaaDoor
open Go.RowKit Go.Proofs.YtiaibgkpohmihaaDoorW.PrintWords
set_option linter.unusedVariables false
set_option linter.unusedSimpArgs false

theorem mark_mem (xs : List ByteArray) : markOf xs = ⟨#[]⟩ ∨ markOf xs ∈ xs := by
 unfold markOf
 cases hf : xs.find? isMark with
 | none => exact .inl rfl
 | some y => exact .inr (List.mem_of_find?_eq_some hf)
theorem bnc_law {x : SItem} {a : SAddr} (h : bounceOk x a = true) : mailOk (bounce x a).f0.f0.data.toList (bounce x a).f0.f1.data.toList (bounce x a).f1 (bounce x a).f2 = true ∧ bodyOk (bounce x a).f2 = true ∧ bodyOk x.f3 = true ∧ addr a.f0.data.toList a.f1.data.toList = true ∧
  (bounce x a).f0.f0 = ⟨#[]⟩ ∧ (bounce x a).f0.f1 = ⟨#[]⟩ ∧ (bounce x a).f1 = [x.f1] ∧ (∃ r, (bounce x a).f2 = (⟨#[110, 111, 116, 32, 100, 101, 108, 105, 118, 101, 114, 101, 100, 58]⟩ : ByteArray) :: textS a.f0 a.f1 :: r ∧ r.length ≤ 1) ∧ markOf (bounce x a).f2 = markOf x.f3 := by
 have hb : bounce x a = ⟨⟨⟨#[]⟩, ⟨#[]⟩⟩, [x.f1], [(⟨#[110, 111, 116, 32, 100, 101, 108, 105, 118, 101, 114, 101, 100, 58]⟩ : ByteArray), textS a.f0 a.f1] ++ if markOf x.f3 = ⟨#[]⟩ then [] else [markOf x.f3]⟩ := by unfold bounce; rw [h, if_pos rfl]
 unfold bounceOk at h
 simp only [Bool.and_eq_true, Bool.not_eq_true'] at h
 obtain ⟨hn, ha, hi⟩ := h
 have ha' : addr a.f0.data.toList a.f1.data.toList = true := ha
 unfold itemOk at hi
 simp only [Bool.and_eq_true, decide_eq_true_eq] at hi
 have hx : bodyOk x.f3 = true := hi.2.2.2.2.2
 have hs : addr x.f1.f0.data.toList x.f1.f1.data.toList = true := by
  have h1 := hi.2.2.2.1
  rw [hn] at h1
  simpa using h1
 have hml := mark_mem x.f3
 have hmb := mark_bounce ha' x.f3
 have hbody : bodyOk ([(⟨#[110, 111, 116, 32, 100, 101, 108, 105, 118, 101, 114, 101, 100, 58]⟩ : ByteArray), textS a.f0 a.f1] ++ if markOf x.f3 = ⟨#[]⟩ then [] else [markOf x.f3]) = true := by
  have hx2 := hx
  unfold bodyOk at hx2 ⊢
  rw [Bool.and_eq_true, List.all_eq_true] at hx2 ⊢
  refine ⟨by split <;> simp, fun s hsm => ?_⟩
  rcases List.mem_append.1 hsm with h1 | h1
  ·rcases List.mem_cons.1 h1 with e | h2
   ·rw [e]; decide
   ·obtain rfl := List.mem_singleton.1 h2
    exact text_line ha'
  ·split at h1
   ·cases h1
   ·rename_i hk
    obtain rfl := List.mem_singleton.1 h1
    rcases hml with e | hm
    ·exact absurd e hk
    ·exact hx2.2 _ hm
 rw [hb]
 refine ⟨?_, hbody, hx, ha', rfl, rfl, rfl, ⟨_, rfl, by split <;> simp⟩, hmb⟩
 unfold mailOk
 simp only [hbody, Bool.and_true]
 simp [nul, addrS, hs]
theorem bnc_fit {x : SItem} {a : SAddr} (hw : fitItem x) : fitMail (bounce x a) := by
 cases hq : bounceOk x a with
 | false =>
  have e : bounce x a = zMailS := by unfold bounce; rw [hq]; rfl
  rw [e]
  exact ⟨⟨by decide, by decide⟩, ⟨by decide, fun y hy => by cases hy⟩, ⟨by decide, fun y hy => by cases hy⟩⟩
 | true =>
  obtain ⟨_, hb, _, _, e0, e1, e2, _, _⟩ := bnc_law hq
  generalize bounce x a = M at hb e0 e1 e2
  refine ⟨⟨by rw [e0]; decide, by rw [e1]; decide⟩, ⟨by rw [e2]; simp, fun y hy => ?_⟩, ?_⟩
  ·rw [e2] at hy
   obtain rfl := List.mem_singleton.1 hy
   exact hw.2.1
  ·unfold bodyOk at hb
   rw [Bool.and_eq_true, List.all_eq_true, decide_eq_true_eq] at hb
   refine ⟨by omega, fun y hy => ?_⟩
   have h1 := hb.2 y hy
   unfold line at h1
   rw [Bool.and_eq_true, decide_eq_true_eq] at h1
   have h2 : y.size = y.data.toList.length := by rw [Array.length_toList]; rfl
   omega

end Go.Proofs.YtiaibgkpohmihaaDoor
