/- SieveFor of the reference; both say the same: contracts. -/
import Derived.Test.YtoppgnmnbbhghaaDoorSieveS
import Derived.Test.YtoppgnmnbbhghaaDoorSieveO
import Derived.Test.YtoppgnmnbbhghaaDoorMailS
namespace Go.Proofs.YtoppgnmnbbhghaaDoor
open Go.RowKit Go.Proofs.YtoppgnmnbbhghaaDoorW.PrintWords
set_option linter.unusedVariables false
set_option linter.unusedSimpArgs false
def specFor (xs : List SRule) (u d : List UInt8) (tos : List SAddr) (body : List ByteArray) : Int :=
  if sieveOk xs && mailOk u d tos body then idx (asksS u d body) xs else -1
set_option maxHeartbeats 2000000 in
theorem specFor_any (A0 : Option Addr) (c0 : Nat) (xs : List SRule) (u d : ByteArray) (A : Option Addr) (c : Nat) (tos : List SAddr) (A' : Option Addr) (c' : Nat) (body : List ByteArray) (w : World)
    (hr0 : Kd.C kRule w A0 xs.length xs) (hl1 : xs.length ≤ 1048576) (hw : fitMail ⟨⟨u, d⟩, tos, body⟩) (hl0 : xs.length ≤ 4611686018427387904) (hx : ∀ x ∈ xs, RFit x) (hu : u.size < 4294967281) (hd : d.size < 4294967281)
    (hr : Kd.C kAddr w A tos.length tos) (ht : ToFit tos) (hr' : Kd.C Kd.string w A' body.length body) (hb : BodyFit body) :
    Calls Tryd.prog 26 #[.slice A0 xs.length c0, .agg #[.string u, .string d, .slice A tos.length c, .slice A' body.length c']] w fun e w' => e = .returned (.int .i64 (specFor xs u.data.toList d.data.toList tos body)) ∧ Below w.heap.size w w' := by
  have h1 := fun W (hW : Below w.heap.size w W) => specOk13_any A0 c0 xs W (Kd.C_below hr0 hW) hl1 hx
  have h2 : ∀ W, Below w.heap.size w W → Calls Tryd.prog 85 #[.agg #[.string u, .string d, .slice A tos.length c, .slice A' body.length c']] W fun e w' => e = .returned (.bool (mailOk u.data.toList d.data.toList tos body)) ∧ Below W.heap.size W w' := fun W hW => specMail_any ⟨⟨u, d⟩, tos, body⟩ A c A' c' W hw (Kd.C_below hr hW) (Kd.C_below hr' hW)
  have h3 := fun W (hW : Below w.heap.size w W) => l13Rule_any A0 c0 xs u d A' c' body W (Kd.C_below hr0 hW) hl0 hx hd (Kd.C_below hr' hW) hb
  unfold specFor
  clear hr0 hx hr ht hr' hb hu hd hw hl1
  generalize idx (asksS u.data.toList d.data.toList body) xs = i at h3
  generalize mailOk u.data.toList d.data.toList tos body = q2 at h2
  generalize sieveOk xs = q1 at h1
  have B0 : Below w.heap.size w (w.alloc (.cells #[.string u, .string d, .slice A tos.length c, .slice A' body.length c'] 58)) := (Below.refl _ _).alloc (Nat.le_refl _) _
  cases q1
  · go_enter Tryd.func26, Tryd.ntmps26
    go_wp2_with (go_at_call 84; refine (h1 _ B0).mono ?_; rintro e w1 ⟨rfl, hb1⟩)
    go_ret
    exact ⟨rfl, B0.trans (hb1.mono (by simp))⟩
  · cases q2
    all_goals
      go_enter Tryd.func26, Tryd.ntmps26
      go_wp2_with (first | (go_at_call 84; refine (h1 _ B0).mono ?_; rintro e w1 ⟨rfl, hb1⟩; have c0_ := (hb1.cell (p := ⟨w.heap.size, 0, none⟩) (by simp)).trans (by simp : _ = some (.string u)); have c1_ := (hb1.cell (p := ⟨w.heap.size, 1, none⟩) (by simp)).trans (by simp : _ = some (.string d)); have c2_ := (hb1.cell (p := ⟨w.heap.size, 2, none⟩) (by simp)).trans (by simp : _ = some (.slice A tos.length c)); have c3_ := (hb1.cell (p := ⟨w.heap.size, 3, none⟩) (by simp)).trans (by simp : _ = some (.slice A' body.length c')); have B1 : Below w.heap.size w w1 := B0.trans (hb1.mono (by simp)); have Z1 : w.heap.size < w1.heap.size := (by have := hb1.size; simp at this; omega); clear hb1) | (go_at_call 85; refine (h2 _ B1).mono ?_; rintro e w2 ⟨rfl, hb2⟩; have d0_ := (hb2.cell (p := ⟨w.heap.size, 0, none⟩) Z1).trans c0_; have d1_ := (hb2.cell (p := ⟨w.heap.size, 1, none⟩) Z1).trans c1_; have d2_ := (hb2.cell (p := ⟨w.heap.size, 2, none⟩) Z1).trans c2_; have d3_ := (hb2.cell (p := ⟨w.heap.size, 3, none⟩) Z1).trans c3_; have B2 : Below w.heap.size w w2 := B1.trans (hb2.mono B1.size); have Z2 : w.heap.size < w2.heap.size := Nat.lt_of_lt_of_le Z1 hb2.size; clear hb2) | (go_at_call 86; refine (h3 _ B2).mono ?_; rintro e w3 ⟨rfl, hb3⟩))
      go_ret
    · exact ⟨rfl, B2⟩
    · exact ⟨rfl, B2.trans (hb3.mono B2.size)⟩
/-- Both ask the same of what is ok. -/
theorem asks_holds (u d : List UInt8) (body : List ByteArray) (x : SRule) (hd : nul u d = true ∨ dom d = true) (hx : x.f0 = 1 → dom x.f1.data.toList = true) : asksS u d body x = holdsS u d body x := by
  unfold asksS holdsS holdsF
  by_cases h1 : x.f0 = 1
  · rw [if_pos h1, if_pos h1]
    rcases hd with hd | hd
    · rw [hd]; rfl
    · have e : domIn d x.f1.data.toList = ends d x.f1.data.toList := by unfold domIn ends; rw [hd, hx h1]; rfl
      rw [e]
  · rw [if_neg h1, if_neg h1]
theorem idx_congr {α : Type} (p q : α → Bool) (xs : List α) (h : ∀ x ∈ xs, p x = q x) : idx p xs = idx q xs := by
  induction xs with
  | nil => rfl
  | cons x xs ih =>
    have hx := h x (by simp)
    have ih := ih (fun y hy => h y (by simp [hy]))
    unfold idx at ih ⊢
    rw [List.any_cons, List.any_cons, List.findIdx_cons, List.findIdx_cons, hx]
    cases q x
    · rw [Bool.false_or, Bool.false_or]
      cases ha : xs.any p
      · cases hb : xs.any q
        · rfl
        · rw [ha, hb] at ih; simp at ih
      · cases hb : xs.any q
        · rw [ha, hb] at ih; simp at ih
        · rw [ha, hb] at ih; simp at ih; simp; exact ih
    · rfl
theorem for_same (xs : List SRule) (u d : List UInt8) (tos : List SAddr) (body : List ByteArray) : specFor xs u d tos body = sieveFor xs u d tos body := by
  unfold specFor sieveFor
  cases h : (sieveOk xs && mailOk u d tos body)
  · rfl
  · rw [if_pos rfl, if_pos rfl]
    rw [Bool.and_eq_true] at h
    refine idx_congr _ _ _ fun x hx => asks_holds u d body x ?_ ?_
    · have := h.2
      unfold mailOk at this
      rw [Bool.and_eq_true, Bool.or_eq_true] at this
      rcases this.1 with h1 | h1
      · exact .inl h1
      · unfold addr at h1
        rw [Bool.and_eq_true] at h1
        exact .inr h1.2
    · intro h1
      have := h.1
      unfold sieveOk at this
      rw [Bool.and_eq_true, List.all_eq_true] at this
      have := this.2 x hx
      unfold ruleOkS ruleOk asksF at this
      rw [h1] at this
      simp at this
      exact this.1

end Go.Proofs.YtoppgnmnbbhghaaDoor
