/- What is told of a mail: plain. -/
import Derived.Test.YtiaibgkpohmihaaDoorBounceD
namespace Go.Proofs.YtiaibgkpohmihaaDoor
open Go.RowKit Go.Proofs.YtiaibgkpohmihaaDoorW.PrintWords
set_option linter.unusedVariables false
set_option linter.unusedSimpArgs false

theorem cut_mem {p : UInt8 → Prop} {c : UInt8} (hc : p c) : ∀ l : List UInt8, (∀ q ∈ cutAll c l, ∀ b ∈ q, p b) → ∀ b ∈ l, p b
 | [], _, b, hb => by cases hb
 | a :: r, h, b, hb => by
  unfold cutAll at h
  by_cases ha : a = c
  ·rw [if_pos ha] at h
   rcases List.mem_cons.1 hb with e | hr
   ·rw [e, ha]; exact hc
   ·exact cut_mem hc r (fun q hq => h q (List.mem_cons_of_mem _ hq)) b hr
  ·rw [if_neg ha] at h
   cases hcr : cutAll c r with
   | nil => exact absurd hcr (cutAll_ne c r)
   | cons x t =>
    rw [hcr] at h
    rcases List.mem_cons.1 hb with e | hr
    ·rw [e]; exact h (a :: x) (List.mem_cons_self ..) a (List.mem_cons_self ..)
    ·refine cut_mem hc r (fun q hq => ?_) b hr
     rw [hcr] at hq
     rcases List.mem_cons.1 hq with e | ht
     ·intro b' hb'; rw [e] at hb'; exact h (a :: x) (List.mem_cons_self ..) b' (List.mem_cons_of_mem _ hb')
     ·exact h q (List.mem_cons_of_mem _ ht)
theorem cut_len (c : UInt8) : ∀ l : List UInt8, ∃ h t, cutAll c l = h :: t ∧ ((∀ q ∈ t, q.length ≤ 8) → l.length ≤ h.length + 9 * t.length)
 | [] => ⟨[], [], rfl, fun _ => by simp⟩
 | a :: r => by
  obtain ⟨h, t, e, hl⟩ := cut_len c r
  unfold cutAll
  by_cases ha : a = c
  ·rw [if_pos ha, e]
   refine ⟨[], h :: t, rfl, fun hq => ?_⟩
   have h1 := hl (fun q hq' => hq q (List.mem_cons_of_mem _ hq'))
   have h2 := hq h (List.mem_cons_self ..)
   simp only [List.length_cons, List.length_nil] at *
   omega
  ·rw [if_neg ha, e]
   refine ⟨a :: h, t, rfl, fun hq => ?_⟩
   have h1 := hl hq
   simp only [List.length_cons] at *
   omega
theorem labc_line {b : UInt8} (h : labc b = true) : lineb b = true := by
 unfold labc at h
 unfold lineb
 simp only [Bool.or_eq_true, decide_eq_true_eq] at h ⊢
 omega
theorem lab_line {l : List UInt8} (h : lab l = true) : l.length ≤ 8 ∧ ∀ b ∈ l, lineb b = true := by
 unfold lab at h
 simp only [Bool.and_eq_true, decide_eq_true_eq, List.all_eq_true] at h
 exact ⟨h.1.2, fun b hb => labc_line (h.2 b hb)⟩
theorem dom_line {l : List UInt8} (h : dom l = true) : l.length ≤ 26 ∧ ∀ b ∈ l, lineb b = true := by
 unfold dom at h
 simp only [Bool.and_eq_true, decide_eq_true_eq, List.all_eq_true] at h
 refine ⟨?_, cut_mem (p := fun b => lineb b = true) (by decide) l (fun q hq => (lab_line (h.1 q hq)).2)⟩
 obtain ⟨x, t, e, hl⟩ := cut_len 46 l
 rw [e] at h
 have h1 := hl (fun q hq => (lab_line (h.1 q (List.mem_cons_of_mem _ hq))).1)
 have h2 := (lab_line (h.1 x (List.mem_cons_self ..))).1
 have h3 := h.2
 simp only [List.length_cons] at h3
 omega
theorem text_list {a : SAddr} (h : addr a.f0.data.toList a.f1.data.toList = true) : (textS a.f0 a.f1).data.toList = 60 :: (a.f0.data.toList ++ 64 :: (a.f1.data.toList ++ [62])) := by
 have hn : nul a.f0.data.toList a.f1.data.toList = false := by
  unfold addr lab at h
  simp only [Bool.and_eq_true, decide_eq_true_eq] at h
  unfold nul
  cases hl : a.f0.data.toList with
  | nil => rw [hl] at h; simp at h
  | cons b r => rfl
 unfold textS
 rw [hn]
 simp [ByteArray.data_append]
theorem text_line {a : SAddr} (h : addr a.f0.data.toList a.f1.data.toList = true) : line (textS a.f0 a.f1).data.toList = true := by
 rw [text_list h]
 unfold addr at h
 rw [Bool.and_eq_true] at h
 obtain ⟨h1, h2⟩ := lab_line h.1
 obtain ⟨h3, h4⟩ := dom_line h.2
 unfold line
 rw [Bool.and_eq_true, List.all_eq_true, decide_eq_true_eq]
 refine ⟨fun b hb => ?_, by simp only [List.length_cons, List.length_append, List.length_nil]; omega⟩
 rcases List.mem_cons.1 hb with e | hb
 ·rw [e]; decide
 rcases List.mem_append.1 hb with hb | hb
 ·exact h2 b hb
 rcases List.mem_cons.1 hb with e | hb
 ·rw [e]; decide
 rcases List.mem_append.1 hb with hb | hb
 ·exact h4 b hb
 ·obtain rfl := List.mem_singleton.1 hb; decide
theorem text_no {a : SAddr} (h : addr a.f0.data.toList a.f1.data.toList = true) : isMark (textS a.f0 a.f1) = false := by
 unfold isMark
 rw [text_list h]
 rfl
theorem nd_no : isMark (⟨#[110, 111, 116, 32, 100, 101, 108, 105, 118, 101, 114, 101, 100, 58]⟩ : ByteArray) = false := by decide
theorem mark_bounce {a : SAddr} (h : addr a.f0.data.toList a.f1.data.toList = true) (xs : List ByteArray) : markOf ([(⟨#[110, 111, 116, 32, 100, 101, 108, 105, 118, 101, 114, 101, 100, 58]⟩ : ByteArray), textS a.f0 a.f1] ++ if markOf xs = ⟨#[]⟩ then [] else [markOf xs]) = markOf xs := by
 have hm : markOf xs = ⟨#[]⟩ ∨ isMark (markOf xs) = true := by
  unfold markOf
  cases hf : xs.find? isMark with
  | none => exact .inl rfl
  | some y => exact .inr (List.find?_some hf)
 generalize markOf xs = k at hm ⊢
 show (((⟨#[110, 111, 116, 32, 100, 101, 108, 105, 118, 101, 114, 101, 100, 58]⟩ : ByteArray) :: textS a.f0 a.f1 :: (if k = ⟨#[]⟩ then [] else [k])).find? isMark).getD ⟨#[]⟩ = k
 rw [List.find?_cons, nd_no, List.find?_cons, text_no h]
 by_cases hk : k = ⟨#[]⟩
 ·rw [if_pos hk, hk]; rfl
 ·rw [if_neg hk]
  rcases hm with hm | hm
  ·exact absurd hm hk
  ·dsimp only; rw [List.find?_cons, hm]; rfl

end Go.Proofs.YtiaibgkpohmihaaDoor
