/- A region whose order is drawn, by an invariant: whatever operation is ready takes it on. -/
import Derived.Orders
import Derived.Tactics2
namespace Go.Proofs.YtmfehmbgghfffaaDoor
open Go
section
variable {P : Program} {ops : Array Oper} {Q : Exit → Act → World → Prop}

def backward (ops : Array Oper) : Bool := (List.range ops.size).all fun i => ((ops[i]?).map fun o => o.after.all fun e => decide (e.on < i)).getD true
theorem backward_spec (h : backward ops = true) {i : Nat} {o : Oper} (ho : ops[i]? = some o) : ∀ e ∈ o.after, e.on < i := by
  have hlt : i < ops.size := (Array.getElem?_eq_some_iff.1 ho).1
  have h1 := List.all_eq_true.1 h i (List.mem_range.2 hlt)
  rw [ho, Option.map_some, Option.getD_some, Array.all_eq_true_iff_forall_mem] at h1
  exact fun e he => of_decide_eq_true (h1 e he)
theorem ready_nil (hb : backward ops = true) {listed : Array Bool} (hs : listed.size = ops.size) (hr : Region.ready .any ops listed = []) : ∀ i, i < ops.size → listed.getD i false = true := by
  intro i
  induction i using Nat.strongRecOn with
  | _ i ih =>
    intro hi
    cases hc : listed.getD i false with
    | true => rfl
    | false =>
      exfalso
      obtain ⟨o, ho⟩ : ∃ o, ops[i]? = some o := ⟨ops[i], Array.getElem?_eq_getElem hi⟩
      have hm : i ∈ Region.ready .any ops listed := by
        rw [mem_ready]
        refine ⟨?_, o, ho, fun e he _ => ?_⟩
        · have hl : i < listed.size := by omega
          simp [Array.getElem?_eq_getElem hl] at hc ⊢
          exact hc
        · have := backward_spec hb ho e he
          exact ih e.on this (by omega)
      rw [hr] at hm
      cases hm
/-- How many are still to come. -/
def left (listed : Array Bool) : Nat := listed.toList.count false
theorem left_set {listed : Array Bool} {i : Nat} (h : listed.getD i true = false) : left (listed.setIfInBounds i true) + 1 = left listed := by
  have hi : i < listed.size := by
    rcases Nat.lt_or_ge i listed.size with h' | h'
    · exact h'
    · simp [Array.getElem?_eq_none h'] at h
  have hv : listed.toList[i]'(by simpa using hi) = false := by simpa [Array.getElem?_eq_getElem hi] using h
  unfold left
  rw [Array.toList_setIfInBounds, List.count_set (by simpa using hi), hv]
  have hp : 0 < listed.toList.count false := List.count_pos_iff.2 (by rw [← hv]; exact List.getElem_mem _)
  have e1 : (true == false) = false := rfl
  have e2 : (false == false) = true := rfl
  rw [e1, e2, if_pos rfl, if_neg (by decide)]
  omega

/-- What is done has all done that it waits for. -/
def Closed (ops : Array Oper) (D : Nat → Bool) : Prop := ∀ j o, ops[j]? = some o → D j = true → (o.after.toList.all fun e => !Region.binds .any e || D e.on) = true
theorem Closed.next {D : Nat → Bool} (h : Closed ops D) {i : Nat} {o : Oper} (ho : ops[i]? = some o) (hd : ∀ e ∈ o.after, Region.binds .any e = true → D e.on = true) : Closed ops (fun j => j == i || D j) := by
  intro j o' ho' hj
  rw [List.all_eq_true]
  intro e he
  cases hb : Region.binds .any e
  · rfl
  · have hD : D e.on = true := by
      by_cases e' : j = i
      · subst e'
        obtain rfl : o = o' := Option.some.inj (ho.symm.trans ho')
        exact hd e (by simpa using he) hb
      · have hj' : D j = true := by simpa [e'] using hj
        have := List.all_eq_true.1 (h j o' ho' hj') e he
        simpa [hb] using this
    simp [hD]
theorem wpAny_inv (hb : backward ops = true) (I : (Nat → Bool) → Act → World → Prop)
    (step : ∀ i o D a w, ops[i]? = some o → Closed ops D → D i = false → (∀ e ∈ o.after, Region.binds .any e = true → D e.on = true) → I D a w → wpOp P ops Q i (I fun j => j == i || D j) a w)
    (fin : ∀ D a w, (∀ i, i < ops.size → D i = true) → I D a w → Q .normal a w) :
    ∀ (fuel : Nat) (listed : Array Bool) (a : Act) (w : World), listed.size = ops.size → left listed = fuel → Closed ops (fun i => listed.getD i false) → I (fun i => listed.getD i false) a w → wpAny P .any ops Q fuel listed a w
  | 0, listed, a, w, hs, hl, hC, hI => by
    have hall : ∀ i, i < ops.size → listed.getD i false = true := fun i hi => by
      have hlt : i < listed.size := by omega
      cases hc : listed[i]
      · have : 0 < left listed := List.count_pos_iff.2 (by rw [← hc]; simp)
        omega
      · simp [Array.getElem?_eq_getElem hlt, hc]
    refine ⟨?_, fin _ a w hall hI⟩
    cases hr : Region.ready .any ops listed with
    | nil => rfl
    | cons j r =>
      have hj : j ∈ Region.ready .any ops listed := by rw [hr]; exact List.mem_cons_self
      rw [mem_ready] at hj
      obtain ⟨h0, o, ho, _⟩ := hj
      have hlt : j < ops.size := (Array.getElem?_eq_some_iff.1 ho).1
      have := hall j hlt
      have hl' : j < listed.size := by omega
      simp [Array.getElem?_eq_getElem hl'] at h0 this
      rw [h0] at this; cases this
  | fuel + 1, listed, a, w, hs, hl, hC, hI => by
    refine ⟨fun hr => fin _ a w (ready_nil hb hs hr) hI, fun i hi => ?_⟩
    rw [mem_ready] at hi
    obtain ⟨h0, o, ho, hd⟩ := hi
    have hlt : i < listed.size := by have := (Array.getElem?_eq_some_iff.1 ho).1; omega
    have e : (fun j => (listed.setIfInBounds i true).getD j false) = (fun j => j == i || listed.getD j false) := by
      funext j
      by_cases hj : j = i
      · subst hj; simp [hlt]
      · rw [getD_set_ne false (Ne.symm hj)]; simp [hj]
    have hnx := hC.next ho hd
    refine wpOp_mono (fun a' w' h' => wpAny_inv hb I step fin fuel _ a' w' (by simpa using hs) (by have := left_set h0; omega) (by rw [e]; exact hnx) (by rw [e]; exact h')) (step i o _ a w ho hC ?_ hd hI)
    simpa [Array.getElem?_eq_getElem hlt] using h0

/-- A DRAWN REGION BY AN INVARIANT. -/
theorem wp_region_inv {id : Nat} {a : Act} {w : World} (hm : P.follows .mixedOrders = true) (I : (Nat → Bool) → Act → World → Prop) (hb : backward ops = true)
    (h0 : I (fun _ => false) a w.drew)
    (step : ∀ i o D a w, ops[i]? = some o → Closed ops D → D i = false → (∀ e ∈ o.after, Region.binds .any e = true → D e.on = true) → I D a w → wpOp P ops Q i (I fun j => j == i || D j) a w)
    (fin : ∀ D a w, (∀ i, i < ops.size → D i = true) → I D a w → Q .normal a w) : (Code.region id ops true).wp P Q a w := by
  have e : (fun i => (Array.replicate ops.size false).getD i false) = fun _ => false := by
    funext i; simp [Array.getElem?_replicate]; split <;> rfl
  refine wp_region_any hm (wpAny_inv hb I step fin _ _ _ _ (by simp) (by simp [left]) ?_ ?_)
  · rw [e]; intro j o _ hj; cases hj
  · rw [e]; exact h0

/-- One operation, in the walk's own form: what must hold behind it stands behind a name. -/
theorem wpOp_walk {i : Nat} {o : Oper} {I : Act → World → Prop} {a : Act} {w : World} (ho : ops[i]? = some o)
    (h : ∀ (K : Act → World → Prop), (∀ a' w', I a' w' → K a' w') → wpList P ops (Exit.then K Q) [o] a w) : wpOp P ops Q i I a w := by
  have h1 := h I (fun _ _ h => h)
  unfold wpOp
  rw [ho]
  simp only [wpList] at h1
  by_cases hw : Region.wanted o (yielded ops a.tmps) = true
  · rw [if_pos hw] at h1
    simp only [hw, if_true]
    rcases h1 with h1 | h1
    · left
      unfold Oper.wp at *
      generalize (execOp a.eval o).run P w = r at *
      cases r with
      | ok n w' =>
        cases n <;> simp only [Oper.upon] at h1 ⊢ <;>
          first
            | exact h1
            | exact Calls.mono h1 (fun e w'' he => by cases e <;> exact he)
            | exact Rows.mono h1 (fun _ _ he => he)
      | halt x w' => cases x <;> simp only [Oper.upon] at h1 ⊢ <;> exact h1
    · right; exact h1
  · rw [if_neg hw] at h1
    simp only [hw]
    exact h1
/-- Of each operation of a list, by its place. -/
def AllFrom (S : Nat → Oper → Prop) : Nat → List Oper → Prop
  | _, [] => True
  | k, o :: r => S k o ∧ AllFrom S (k + 1) r
theorem allFrom_get {S : Nat → Oper → Prop} (l : List Oper) : ∀ (k : Nat), AllFrom S k l → ∀ (i : Nat) (o : Oper), l[i]? = some o → S (k + i) o := by
  induction l with
  | nil => intro k _ i o ho; simp at ho
  | cons o' r ih =>
    intro k h i o ho
    cases i with
    | zero => simp at ho; subst ho; exact h.1
    | succ i =>
      have := ih (k + 1) h.2 i o (by simpa using ho)
      rwa [show k + 1 + i = k + (i + 1) by omega] at this
theorem allFrom_mk {S : Nat → Oper → Prop} (l : List Oper) : ∀ (k : Nat), (∀ (i : Nat) (o : Oper), l[i]? = some o → S (k + i) o) → AllFrom S k l := by
  induction l with
  | nil => intro k _; trivial
  | cons o' r ih =>
    intro k h
    exact ⟨h 0 o' rfl, ih (k + 1) fun i o ho => by have := h (i + 1) o (by simpa using ho); rwa [show k + 1 + i = k + (i + 1) by omega]⟩
/-- What is done has all done that it waits for: an operation a limb. -/
def ClosedL (D : Nat → Bool) (l : List Oper) : Prop := AllFrom (fun k o => D k = true → (o.after.toList.all fun e => !Region.binds .any e || D e.on) = true) 0 l
/-- What a step of a drawn region must show, in the walk's own form. -/
def Steps1 (P : Program) (ops : Array Oper) (Q : Exit → Act → World → Prop) (I : (Nat → Bool) → Act → World → Prop) (i : Nat) (o : Oper) : Prop :=
  ∀ D a w, ClosedL D ops.toList → D i = false → (o.after.toList.all fun e => !Region.binds .any e || D e.on) = true → I D a w →
    ∀ (K : Act → World → Prop), (∀ a' w', I (fun j => j == i || D j) a' w' → K a' w') → wpList P ops (Exit.then K Q) [o] a w
/-- A drawn region by an invariant, an operation a step. -/
theorem wp_region_steps {l : List Oper} {id : Nat} {a : Act} {w : World} (hm : P.follows .mixedOrders = true) (I : (Nat → Bool) → Act → World → Prop) (hb : backward l.toArray = true)
    (h0 : I (fun _ => false) a w.drew) (step : AllFrom (Steps1 P l.toArray Q I) 0 l)
    (fin : ∀ D a w, (∀ i, i < l.length → D i = true) → I D a w → Q .normal a w) : (Code.region id l.toArray true).wp P Q a w := by
  refine wp_region_inv hm I hb h0 (fun i o D a w ho hC hD hd hI => ?_) (fun D a w h => fin D a w (by simpa using h))
  have h1 := allFrom_get l 0 step i o (by simpa using ho)
  rw [Nat.zero_add] at h1
  refine wpOp_walk ho (h1 D a w (allFrom_mk _ 0 fun i o ho => by rw [Nat.zero_add]; exact hC i o (by simpa using ho)) hD ?_ hI)
  rw [List.all_eq_true]
  intro e he
  cases hbn : Region.binds .any e
  · rfl
  · simp [hd e (by simpa using he) hbn]
end
/-- A slot's new value. -/
def upv (x : Nat → Value) (s : Nat) (v : Value) : Nat → Value := fun j => bif j == s then v else x j
end Go.Proofs.YtmfehmbgghfffaaDoor
