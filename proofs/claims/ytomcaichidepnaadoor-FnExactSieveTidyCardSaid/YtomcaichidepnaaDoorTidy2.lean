/- heldRuleS on what markRuleS wrote; the reference's SieveTidy. -/
import Derived.Test.YtomcaichidepnaaDoorMark
import Derived.Test.YtomcaichidepnaaDoorPure3
namespace Go.Proofs.YtomcaichidepnaaDoor
open Go.RowKit Go.Proofs.YtomcaichidepnaaDoorW.PrintWords P
set_option linter.unusedVariables false
set_option linter.unusedSimpArgs false

theorem marked_at (n k : Nat) (hk : k < n) : rd_T57 (marked n) (k : Int) = markR (1 + 5 * k) := by
  unfold rd_T57 marked
  rw [Int.toNat_natCast, List.getD, List.getElem?_map, List.getElem?_range hk]
  rfl
theorem held_loop (n : Nat) (hn : n ≤ 1048576) (d : Nat) : ∀ k : Nat, k + d = n → Ev (fun m => laws_heldRuleS.l0 m (marked n) ((1 + 5 * k : Nat) : Int) (k : Int)) ((1 + 5 * n : Nat) : Int) := by
  induction d with
  | zero =>
    intro k hk
    obtain rfl : k = n := by omega
    refine shift ?_
    simp only [laws_heldRuleS.l0]
    simp only [marked_len, if_neg (show ¬ (k : Int) < (k : Int) by omega)]
    exact Ev.now _
  | succ d ih =>
    intro k hk
    refine shift ?_
    simp only [laws_heldRuleS.l0]
    have e1 : wrap64 (((1 + 5 * k : Nat) : Int) + 1) = ((1 + 5 * k + 1 : Nat) : Int) := by unfold wrap64; omega
    have e2 : wrap64 (((1 + 5 * k + 1 : Nat) : Int) + 1) = ((1 + 5 * k + 2 : Nat) : Int) := by unfold wrap64; omega
    have e3 : wrap64 (((1 + 5 * k + 2 : Nat) : Int) + 1) = ((1 + 5 * k + 3 : Nat) : Int) := by unfold wrap64; omega
    have e4 : wrap64 (((1 + 5 * k + 3 : Nat) : Int) + 1) = ((1 + 5 * k + 4 : Nat) : Int) := by unfold wrap64; omega
    have e5 : wrap64 (((1 + 5 * k + 4 : Nat) : Int) + 1) = ((1 + 5 * (k + 1) : Nat) : Int) := by unfold wrap64; omega
    have e6 := wrap_nat k (by omega)
    have hm := marked_at n k (by omega)
    have f0 : (markR (1 + 5 * k)).f0 = ((1 + 5 * k : Nat) : Int) := rfl
    have f1 : (markR (1 + 5 * k)).f1 = markS (1 + 5 * k + 1) := rfl
    have f2 : (markR (1 + 5 * k)).f2 = ((1 + 5 * k + 2 : Nat) : Int) := rfl
    have f3 : (markR (1 + 5 * k)).f3.f0 = markS (1 + 5 * k + 3) := rfl
    have f4 : (markR (1 + 5 * k)).f3.f1 = markS (1 + 5 * k + 4) := rfl
    simp only [marked_len, if_pos (show (k : Int) < (n : Int) by omega), if_pos (show (0 : Int) ≤ (k : Int) by omega), hm, f0, f1, f2, f3, f4, e1, e2, e3, e4, e5, e6, if_true]
    refine Ev.bind (markS_ev _ (by omega)) ?_
    simp only [if_true]
    refine Ev.bind (markS_ev _ (by omega)) ?_
    simp only [if_true]
    refine Ev.bind (markS_ev _ (by omega)) ?_
    simp only [if_true]
    exact ih (k + 1) (by omega)
theorem held_any (A : Option Addr) (c n : Nat) (w : World) (hr : Kd.C k57 w A n (marked n)) (hc : n ≤ c) (hn : n ≤ 1048576) :
    Calls Tryd.prog 17 #[.slice A n c, .int .i64 1] w fun e w' => e = .returned (.int .i64 ((1 + 5 * n : Nat) : Int)) ∧ Below w.heap.size w w' := by
  have h : Ev (fun m => laws_heldRuleS.f m (marked n) 1) ((1 + 5 * n : Nat) : Int) := by
    unfold laws_heldRuleS.f
    exact held_loop n hn n 0 (by omega)
  obtain ⟨k, hk⟩ := h.rounds
  have := laws_heldRuleS.calls k A c (marked n) 1 _ w (by rw [marked_len]; exact hr) (by rw [marked_len]; exact hc) hk
  rw [marked_len] at this
  exact this

/-- The last loop of the reference's SieveTidy. -/
theorem tidy_l2 (d : Nat) : ∀ ys : List S57, ys.length ≤ d → ys.length ≤ 1048576 → Ev (fun n => spec_SieveTidy.l2 n ys) (tidyEnd ys) := by
  induction d with
  | zero =>
    intro ys hd hl
    obtain rfl : ys = [] := List.length_eq_zero_iff.1 (by omega)
    refine shift ?_
    simp only [spec_SieveTidy.l2]
    simp only [List.length_nil, if_neg (show ¬ ((0 : Nat) : Int) > 0 by omega)]
    exact Ev.now _
  | succ d ih =>
    intro ys hd hl
    by_cases h0 : ys.length = 0
    · exact ih ys (by omega) hl
    · refine shift ?_
      simp only [spec_SieveTidy.l2]
      have e1 : wrap64 ((ys.length : Int) - 1) = ((ys.length - 1 : Nat) : Int) := by unfold wrap64; omega
      have hsp := split_last ys (by omega)
      simp only [e1, if_pos (show (ys.length : Int) > 0 by omega), if_pos (show (0 : Int) ≤ ((ys.length - 1 : Nat) : Int) by omega), if_pos (show ((ys.length - 1 : Nat) : Int) < (ys.length : Int) by omega), if_pos (show ((ys.length - 1 : Nat) : Int) ≤ (ys.length : Int) by omega), Int.toNat_natCast]
      have hy : rd_T57 ys ((ys.length - 1 : Nat) : Int) = ys.getD (ys.length - 1) z57 := rfl
      rw [hy]
      by_cases hd1 : (ys.getD (ys.length - 1) z57).f2 = 1
      · simp only [if_pos hd1]
        have hc := tidyEnd_cut (ys.take (ys.length - 1)) _ hd1
        rw [← hsp] at hc
        rw [hc]
        exact ih _ (by rw [List.length_take]; omega) (by rw [List.length_take]; omega)
      · simp only [if_neg hd1]
        have hc := tidyEnd_keep (ys.take (ys.length - 1)) _ hd1
        rw [← hsp] at hc
        rw [hc]
        exact Ev.now _
/-- The middle loop: whether one of out from j on covers the rule. -/
theorem tidy_l1 (xs : List S57) (k : Nat) (hk : k < xs.length) (hl : xs.length ≤ 1048576) (out : List S57) (ho : out.length ≤ 1048576) (T : List S57)
    (hnext : Ev (fun n => spec_SieveTidy.l0 n xs (tidyStep out (xs.getD k z57)) ((k + 1 : Nat) : Int)) T) (d : Nat) : ∀ (j : Nat) (b : Bool), j + d = out.length → b = (out.take j).any (covers (xs.getD k z57)) → Ev (fun n => spec_SieveTidy.l1 n xs out (k : Int) b (j : Int)) T := by
  induction d with
  | zero =>
    intro j b hj hb
    rw [List.take_of_length_le (by omega)] at hb
    refine shift ?_
    simp only [spec_SieveTidy.l1]
    have hy : rd_T57 xs (k : Int) = xs.getD k z57 := rfl
    rw [wrap_nat k (by omega)]
    simp only [if_neg (show ¬ (j : Int) < (out.length : Int) by omega), if_pos (show (0 : Int) ≤ (k : Int) by omega), if_pos (show (k : Int) < (xs.length : Int) by omega), hy, if_pos (show out.length < 2199023255552 by omega)]
    unfold tidyStep at hnext
    rw [← hb] at hnext
    cases b
    · exact hnext
    · exact hnext
  | succ d ih =>
    intro j b hj hb
    refine shift ?_
    simp only [spec_SieveTidy.l1]
    have hy : rd_T57 xs (k : Int) = xs.getD k z57 := rfl
    have hz : rd_T57 out (j : Int) = out.getD j z57 := rfl
    have hnx : (out.take (j + 1)).any (covers (xs.getD k z57)) = ((out.take j).any (covers (xs.getD k z57)) || covers (xs.getD k z57) (out.getD j z57)) := by
      rw [List.take_succ_eq_append_getElem (show j < out.length by omega), List.any_append]
      have e : out.getD j z57 = out[j] := by rw [List.getD, List.getElem?_eq_getElem (show j < out.length by omega)]; rfl
      rw [e, List.any_cons, List.any_nil, Bool.or_false]
    rw [wrap_nat j (by omega)]
    simp only [if_pos (show (j : Int) < (out.length : Int) by omega), if_pos (show (0 : Int) ≤ (k : Int) by omega), if_pos (show (0 : Int) ≤ (j : Int) by omega), if_pos (show (k : Int) < (xs.length : Int) by omega), hy, hz]
    rw [← hb] at hnx
    generalize xs.getD k z57 = r at *
    generalize out.getD j z57 = x at *
    cases b
    · rw [Bool.false_or] at hnx
      simp only [if_neg (show ¬ false = true by decide)]
      have hcv : covers r x = (decide (x.f0 = 4) || (decide (x.f0 = r.f0) && decide (x.f1.data.toList = r.f1.data.toList))) := rfl
      rw [hcv] at hnx
      clear hcv
      by_cases c1 : x.f0 = 4
      · simp only [if_pos c1]
        exact ih (j + 1) true (by omega) (by rw [hnx, decide_eq_true c1]; rfl)
      · simp only [if_neg c1]
        by_cases c2 : x.f0 = r.f0
        · simp only [if_pos c2]
          exact ih (j + 1) _ (by omega) (by rw [hnx, decide_eq_false c1, decide_eq_true c2, Bool.false_or, Bool.true_and, Bool.eq_iff_iff, beq_iff_eq, decide_eq_true_iff, bl, bl])
        · simp only [if_neg c2]
          exact ih (j + 1) false (by omega) (by rw [hnx, decide_eq_false c1, decide_eq_false c2]; rfl)
    · simp only [if_true]
      exact ih (j + 1) true (by omega) (by rw [hnx]; rfl)
theorem tidy_l0 (xs : List S57) (hl : xs.length ≤ 1048576) (d : Nat) : ∀ k : Nat, k + d = xs.length → Ev (fun n => spec_SieveTidy.l0 n xs ((xs.take k).foldl tidyStep []) (k : Int)) (tidyEnd (xs.foldl tidyStep [])) := by
  induction d with
  | zero =>
    intro k hk
    rw [List.take_of_length_le (by omega)]
    refine shift ?_
    simp only [spec_SieveTidy.l0]
    simp only [if_neg (show ¬ (k : Int) < (xs.length : Int) by omega)]
    exact tidy_l2 _ _ (Nat.le_refl _) (by have := foldl_len xs []; rw [List.length_nil] at this; omega)
  | succ d ih =>
    intro k hk
    refine shift ?_
    simp only [spec_SieveTidy.l0]
    simp only [if_pos (show (k : Int) < (xs.length : Int) by omega)]
    have hlen := foldl_len (xs.take k) []
    rw [List.length_nil, List.length_take] at hlen
    exact tidy_l1 xs k (by omega) hl _ (by omega) _ (by rw [← tidy_take xs k (by omega)]; exact ih (k + 1) (by omega)) ((xs.take k).foldl tidyStep []).length 0 false (by omega) rfl
theorem specTidy_ev (xs : List S57) (hl : xs.length ≤ 1048576) (hx : ∀ x ∈ xs, RFit x) : Ev (fun n => spec_SieveTidy.f n xs) (tidy xs) := by
  unfold spec_SieveTidy.f tidy
  simp only [Option.bind_some]
  refine Ev.bind (sieveOk_ev xs (by omega) hx) ?_
  cases sieveOk xs
  · exact Ev.now _
  · exact tidy_l0 xs hl xs.length 0 (by omega)
end Go.Proofs.YtomcaichidepnaaDoor
