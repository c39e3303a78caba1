/- Plain words on labels, domains, addresses and lines, and what strings.Split at a dot and strings.Trim come to in them. No program in sight. -/
import Derived.Lib.Split
import Derived.Lib.SlTrimSet
namespace Go.Proofs.YticepbgacokbbaaGreatDoor

def labc (b : UInt8) : Bool := decide (97 ≤ b.toNat ∧ b.toNat ≤ 122) || decide (48 ≤ b.toNat ∧ b.toNat ≤ 57)
def lab (l : List UInt8) : Bool := decide (1 ≤ l.length ∧ l.length ≤ 8) && l.all labc
/-- A text cut at each byte c. -/
def cutAll (c : UInt8) : List UInt8 → List (List UInt8)
  | [] => [[]]
  | b :: r => if b = c then [] :: cutAll c r else match cutAll c r with | h :: t => (b :: h) :: t | [] => [[b]]
def dom (l : List UInt8) : Bool := (cutAll 46 l).all lab && decide ((cutAll 46 l).length ≤ 3)
def lineb (b : UInt8) : Bool := decide (32 ≤ b.toNat ∧ b.toNat ≤ 126)
def line (l : List UInt8) : Bool := l.all lineb && decide (l.length ≤ 40)

theorem cutAll_ne (c : UInt8) (l : List UInt8) : cutAll c l ≠ [] := by
  cases l with
  | nil => simp [cutAll]
  | cons b r => unfold cutAll; split
                · simp
                · split <;> simp
theorem cutAll_length (c : UInt8) (l : List UInt8) : (cutAll c l).length = l.count c + 1 := by
  induction l with
  | nil => rfl
  | cons b r ih =>
    unfold cutAll
    by_cases h : b = c
    · subst h; rw [if_pos rfl]; simp [ih]
    · rw [if_neg h, List.count_cons_of_ne h, ← ih]
      split
      · rename_i e; rw [e]; simp
      · rename_i e; exact absurd e (cutAll_ne c r)
theorem cutAll_none (c : UInt8) (l : List UInt8) (h : l.count c = 0) : cutAll c l = [l] := by
  induction l with
  | nil => rfl
  | cons b r ih =>
    have hb : b ≠ c := by intro e; subst e; simp at h
    rw [List.count_cons_of_ne hb] at h
    unfold cutAll; rw [if_neg hb, ih h]
theorem cutAll_at (c : UInt8) (a r : List UInt8) (h : a.count c = 0) : cutAll c (a ++ c :: r) = a :: cutAll c r := by
  induction a with
  | nil => simp [cutAll]
  | cons b a ih =>
    have hb : b ≠ c := by intro e; subst e; simp at h
    rw [List.count_cons_of_ne hb] at h
    rw [List.cons_append, cutAll, if_neg hb, ih h]
/-- Where the first c stands. -/
theorem index_one (c : UInt8) (l : List UInt8) : (l.count c = 0 ∧ Lib.index l [c] = -1) ∨ ∃ a r, l = a ++ c :: r ∧ a.count c = 0 ∧ Lib.index l [c] = a.length := by
  induction l with
  | nil => left; exact ⟨rfl, rfl⟩
  | cons b r ih =>
    by_cases h : b = c
    · subst h; right; exact ⟨[], r, rfl, rfl, by simp [Lib.index, List.isPrefixOf]⟩
    · have hp : ([c] : List UInt8).isPrefixOf (b :: r) = false := by simp [List.isPrefixOf]; exact fun e => h e.symm
      rcases ih with ⟨h0, h1⟩ | ⟨a, q, rfl, h0, h1⟩
      · left; exact ⟨by rw [List.count_cons_of_ne h]; exact h0, by rw [Lib.index, hp]; simp [h1]⟩
      · right; refine ⟨b :: a, q, rfl, by rw [List.count_cons_of_ne h]; exact h0, ?_⟩
        have hne : ¬ ((a.length : Int) = -1) := by omega
        rw [Lib.index, hp]; simp [h1, hne]
theorem splitK_one (c : UInt8) : ∀ (k : Nat) (l : List UInt8), l.count c ≤ k → Lib.splitK [c] 0 k l = cutAll c l
  | 0, l, h => by rw [cutAll_none c l (by omega)]; rfl
  | k + 1, l, h => by
    rcases index_one c l with ⟨h0, h1⟩ | ⟨a, r, rfl, h0, h1⟩
    · rw [cutAll_none c l h0]; unfold Lib.splitK; rw [h1]; rfl
    · have hne : ((a.length : Int) == -1) = false := by rw [beq_eq_false_iff_ne]; omega
      unfold Lib.splitK
      rw [h1, hne, cutAll_at c a r h0]
      have e1 : ((a.length : Int).toNat + 0) = a.length := by omega
      have e2 : ((a.length : Int).toNat + [c].length) = a.length + 1 := by simp
      rw [e1, e2, List.take_left, ← splitK_one c k r (by simp [List.count_append] at h; omega)]
      have e3 : (a ++ c :: r).drop (a.length + 1) = r := by
        rw [show a ++ c :: r = (a ++ [c]) ++ r by simp, List.drop_left' (by simp)]
      rw [e3]; rfl
theorem dropWhile_nil {p : UInt8 → Bool} : ∀ {l : List UInt8}, l.dropWhile p = [] ↔ ∀ x ∈ l, p x = true
  | [] => by simp
  | b :: r => by
    cases h : p b with
    | true => rw [List.dropWhile_cons, if_pos h, dropWhile_nil]; simp [h]
    | false => rw [List.dropWhile_cons, h]; simp [h]
theorem dropWhile_head {p : UInt8 → Bool} : ∀ {l t : List UInt8} {x : UInt8}, l.dropWhile p = x :: t → p x = false
  | [], t, x, h => by simp at h
  | b :: r, t, x, h => by
    cases hb : p b with
    | true => rw [List.dropWhile_cons, if_pos hb] at h; exact dropWhile_head h
    | false => rw [List.dropWhile_cons, hb] at h; simp at h; rw [← h.1]; exact hb
theorem trimS_empty (l cs : List UInt8) : (Lib.trimS l cs = []) ↔ l.all (cs.contains ·) = true := by
  unfold Lib.trimS Lib.trimLeftS Lib.trimRightS
  rw [dropWhile_nil, List.all_eq_true]
  constructor
  · intro h
    cases hd : l.reverse.dropWhile (cs.contains ·) with
    | nil => intro x hx; exact dropWhile_nil.1 hd x (by simpa using hx)
    | cons x t =>
      have hx := dropWhile_head hd
      have := h x (by rw [hd]; simp)
      rw [this] at hx; cases hx
  · intro h x hx
    have : l.reverse.dropWhile (cs.contains ·) = [] := dropWhile_nil.2 (fun x hx => h x (by simpa using hx))
    rw [this] at hx; simp at hx
/-- The cutset of isLabel. -/
def cset : List UInt8 := [97, 98, 99, 100, 101, 102, 103, 104, 105, 106, 107, 108, 109, 110, 111, 112, 113, 114, 115, 116, 117, 118, 119, 120, 121, 122, 48, 49, 50, 51, 52, 53, 54, 55, 56, 57]
theorem cset_all0 : ∀ n : Fin 256, cset.contains (UInt8.ofNat n.val) = labc (UInt8.ofNat n.val) := by decide +kernel
theorem cset_all (b : UInt8) : cset.contains b = labc b := by
  have h := cset_all0 ⟨b.toNat, b.toNat_lt⟩
  simpa using h
/-- What isLabel asks. -/
theorem lab_trim (l : List UInt8) : lab l = (decide (1 ≤ l.length ∧ l.length ≤ 8) && decide (Lib.trimS l cset = [])) := by
  unfold lab
  congr 1
  have e : l.all labc = l.all (cset.contains ·) := by congr 1; funext b; exact (cset_all b).symm
  rw [e, Bool.eq_iff_iff, decide_eq_true_iff, trimS_empty]
/-- What strings.Split at a dot hands back. -/
theorem split_dot (s : ByteArray) (n : Nat) (h : s.data.toList.count 46 ≤ n) : (Lib.splitB ⟨#[46]⟩ 0 n s).map (·.data.toList) = cutAll 46 s.data.toList := by
  rw [Lib.splitB_data, splitK_one 46 n _ h]
theorem cutAll_le (c : UInt8) : ∀ (l : List UInt8) (x : List UInt8), x ∈ cutAll c l → x.length ≤ l.length
  | [], x, h => by simp [cutAll] at h; subst h; simp
  | b :: r, x, h => by
    unfold cutAll at h
    split at h
    · rcases List.mem_cons.1 h with rfl | h
      · simp
      · have := cutAll_le c r x h; simp; omega
    · have hm := cutAll_le c r
      split at h
      · rename_i y t e
        rw [e] at hm
        rcases List.mem_cons.1 h with rfl | h
        · have := hm y (by simp); simp; exact this
        · have := hm x (by simp [h]); simp; omega
      · simp at h; subst h; simp
theorem bl (s : ByteArray) : s.toList = s.data.toList := ByteArray.toList_eq s
theorem byte_at (s : ByteArray) (k : Nat) (hk : k < s.size) : s.data.toList.getD k 0 = s[k] := by
  have h : k < s.data.toList.length := by rw [Array.length_toList]; exact hk
  rw [List.getD, List.getElem?_eq_getElem h]
  rfl
theorem size_data (s : ByteArray) : s.data.toList.length = s.size := by rw [Array.length_toList]; rfl
theorem dom_pieces {ps : List ByteArray} {l : List UInt8} (h : ps.map (·.data.toList) = cutAll 46 l) : dom l = (ps.all (fun p => lab p.data.toList) && decide (ps.length ≤ 3)) := by
  unfold dom
  rw [← h, List.all_map, List.length_map]
  rfl
theorem piece_size {ps : List ByteArray} {s : ByteArray} (h : ps.map (·.data.toList) = cutAll 46 s.data.toList) (k : Nat) : (ps.getD k ⟨#[]⟩).size ≤ s.size := by
  by_cases hk : k < ps.length
  · have := cutAll_le 46 s.data.toList (ps[k].data.toList) (by rw [← h]; exact List.mem_map.2 ⟨_, List.getElem_mem hk, rfl⟩)
    rw [size_data, size_data] at this
    simpa [List.getD, List.getElem?_eq_getElem hk] using this
  · rw [List.getD, List.getElem?_eq_none (by omega)]; exact Nat.zero_le _
/-- A search over a list by places: no place fails. -/
theorem all_getD {α : Type} (p : α → Bool) (xs : List α) (d : α) (h : ∀ j, j < xs.length → p (xs.getD j d) = true) : xs.all p = true := by
  rw [List.all_eq_true]
  intro x hx
  obtain ⟨j, hj, rfl⟩ := List.getElem_of_mem hx
  have := h j hj
  rwa [List.getD, List.getElem?_eq_getElem hj] at this
theorem all_getD_false {α : Type} (p : α → Bool) (xs : List α) (d : α) (j : Nat) (hj : j < xs.length) (h : p (xs.getD j d) = false) : xs.all p = false := by
  rw [List.all_eq_false]
  rw [List.getD, List.getElem?_eq_getElem hj] at h
  exact ⟨_, List.getElem_mem hj, by simpa using h⟩
end Go.Proofs.YticepbgacokbbaaGreatDoor
