/- slices.Clone at flat elements: contracts. -/
import Derived.Test.YtejiifmopopflaaDoorKit0
namespace Go.Proofs.YtejiifmopopflaaDoor
open Go.RowKit Go.Proofs.YtejiifmopopflaaDoorW.PrintWords
set_option linter.unusedVariables false
set_option linter.unusedSimpArgs false

set_option maxRecDepth 100000 in
theorem cloneString_any (A : Option Addr) (c : Nat) (xs : List ByteArray) (w : World) (hr : Kd.C Kd.string w A xs.length xs) (hlen : xs.length ≤ 1048576) :
    Calls Tryd.prog 114 #[.slice A xs.length c] w fun e w' => ∃ B d, e = .returned (.slice B xs.length d) ∧ Kd.R Kd.string 9 w' w.heap.size (fun _ => True) (.slice B xs.length d) xs ∧ Below w.heap.size w w' := by
  have q := fun (w : World) (a : Option Addr) (n c n' c' : Nat) => Lib.run_eql_slice_nil (P := Tryd.prog) w 25 _ a n c n' c' Tryd.underlying25
  cases A with
  | none =>
    obtain rfl : xs = [] := by
      cases xs with
      | nil => rfl
      | cons x r =>
        obtain ⟨ad, e, _⟩ := at_Str hr 0 (by simp)
        cases e
    clear hr
    go_enter Tryd.func114, Tryd.ntmps114
    go_wp2
    go_ret
    exact ⟨none, 0, rfl, Kd.R_nil _ _ _ _ _, Below.refl _ _⟩
  | some ad =>
    have HE : Aside0 (Kd.R Kd.string 9 (w.alloc (.cells #[] 9)) w.heap.size (fun _ => True) (.slice (some ⟨w.heap.size, 0, none⟩) 0 0) []) := ⟨R_empty Kd.string 9 w w.heap.size (Nat.le_refl _) trivial⟩
    have HR := Aside0.mk (Kd.C_below hr (bel_alloc (Below.refl w.heap.size w) (.cells #[] 9)))
    clear hr
    go_enter Tryd.func114, Tryd.ntmps114
    go_wp2_with ((with_reducible refine gate_builtin (b := .append) (xs := #[.tmp 5, .tmp 6]) rfl ?_); (try (refine gate_guard (by rfl) ?_; dsimp only)); at_builtin; (refine Kd.R_append_rows Kd.string (w0 := w) (w.heap.size) rfl (.tmp 5) (.tmp 6) 25 9 (.string ⟨#[]⟩) 16 rfl Tryd.underlying25 info9 rfl (by decide) (by omega) (.slice (some ⟨w.heap.size, 0, none⟩) 0 0) [] xs _ _ _ (fun _ => True) (fun _ => False) rfl rfl ?aO ?aR (fun _ _ h => h) (fun _ h => h.elim) (fun _ _ => trivial) ?aB ?aS ?aL ?_); (case aO => exact HE.out); (case aR => exact HR.out); (case aB => exact bel_alloc (Below.refl _ _) _); (case aS => (simp; done)); (case aL => (simp; omega)); intro v1 w1 ho hb hg hat; have HO := Aside0.mk ho; have HB := Aside0.mk hb; clear ho hb hg hat)
    have ho : Kd.R Kd.string 9 w1 w.heap.size (fun _ => True) v1 xs := HO.out
    obtain ⟨B, d, hv⟩ := Kd.R_slice ho
    subst hv
    have HO2 := Aside0.mk ho
    clear ho HO
    go_ret
    exact ⟨B, d, rfl, HO2.out, HB.out⟩


set_option maxRecDepth 100000 in
theorem cloneInt_any (A : Option Addr) (c : Nat) (xs : List Int) (w : World) (hr : Kd.C (Kd.int .i64) w A xs.length xs) (hlen : xs.length ≤ 1048576) :
    Calls Tryd.prog 118 #[.slice A xs.length c] w fun e w' => ∃ B d, e = .returned (.slice B xs.length d) ∧ Kd.R (Kd.int .i64) 3 w' w.heap.size (fun _ => True) (.slice B xs.length d) xs ∧ Below w.heap.size w w' := by
  have q := fun (w : World) (a : Option Addr) (n c n' c' : Nat) => Lib.run_eql_slice_nil (P := Tryd.prog) w 50 _ a n c n' c' Tryd.underlying50
  cases A with
  | none =>
    obtain rfl : xs = [] := by
      cases xs with
      | nil => rfl
      | cons x r =>
        obtain ⟨ad, e, _⟩ := at_Int hr 0 (by simp)
        cases e
    clear hr
    go_enter Tryd.func118, Tryd.ntmps118
    go_wp2
    go_ret
    exact ⟨none, 0, rfl, Kd.R_nil _ _ _ _ _, Below.refl _ _⟩
  | some ad =>
    have HE : Aside0 (Kd.R (Kd.int .i64) 3 (w.alloc (.cells #[] 3)) w.heap.size (fun _ => True) (.slice (some ⟨w.heap.size, 0, none⟩) 0 0) []) := ⟨R_empty (Kd.int .i64) 3 w w.heap.size (Nat.le_refl _) trivial⟩
    have HR := Aside0.mk (Kd.C_below hr (bel_alloc (Below.refl w.heap.size w) (.cells #[] 3)))
    clear hr
    go_enter Tryd.func118, Tryd.ntmps118
    go_wp2_with ((with_reducible refine gate_builtin (b := .append) (xs := #[.tmp 5, .tmp 6]) rfl ?_); (try (refine gate_guard (by rfl) ?_; dsimp only)); at_builtin; (refine Kd.R_append_rows (Kd.int .i64) (w0 := w) (w.heap.size) rfl (.tmp 5) (.tmp 6) 50 3 (.int .i64 0) 8 rfl Tryd.underlying50 info3 rfl (by decide) (by omega) (.slice (some ⟨w.heap.size, 0, none⟩) 0 0) [] xs _ _ _ (fun _ => True) (fun _ => False) rfl rfl ?aO ?aR (fun _ _ h => h) (fun _ h => h.elim) (fun _ _ => trivial) ?aB ?aS ?aL ?_); (case aO => exact HE.out); (case aR => exact HR.out); (case aB => exact bel_alloc (Below.refl _ _) _); (case aS => (simp; done)); (case aL => (simp; omega)); intro v1 w1 ho hb hg hat; have HO := Aside0.mk ho; have HB := Aside0.mk hb; clear ho hb hg hat)
    have ho : Kd.R (Kd.int .i64) 3 w1 w.heap.size (fun _ => True) v1 xs := HO.out
    obtain ⟨B, d, hv⟩ := Kd.R_slice ho
    subst hv
    have HO2 := Aside0.mk ho
    clear ho HO
    go_ret
    exact ⟨B, d, rfl, HO2.out, HB.out⟩


set_option maxRecDepth 100000 in
theorem cloneAddr_any (A : Option Addr) (c : Nat) (xs : List SAddr) (w : World) (hr : Kd.C kAddr w A xs.length xs) (hlen : xs.length ≤ 1048576) :
    Calls Tryd.prog 113 #[.slice A xs.length c] w fun e w' => ∃ B d, e = .returned (.slice B xs.length d) ∧ Kd.R kAddr 30 w' w.heap.size (fun _ => True) (.slice B xs.length d) xs ∧ Below w.heap.size w w' := by
  have q := fun (w : World) (a : Option Addr) (n c n' c' : Nat) => Lib.run_eql_slice_nil (P := Tryd.prog) w 31 _ a n c n' c' Tryd.underlying31
  cases A with
  | none =>
    obtain rfl : xs = [] := by
      cases xs with
      | nil => rfl
      | cons x r =>
        obtain ⟨ad, e, _⟩ := at_Addr hr 0 (by simp)
        cases e
    clear hr
    go_enter Tryd.func113, Tryd.ntmps113
    go_wp2
    go_ret
    exact ⟨none, 0, rfl, Kd.R_nil _ _ _ _ _, Below.refl _ _⟩
  | some ad =>
    have HE : Aside0 (Kd.R kAddr 30 (w.alloc (.cells #[] 30)) w.heap.size (fun _ => True) (.slice (some ⟨w.heap.size, 0, none⟩) 0 0) []) := ⟨R_empty kAddr 30 w w.heap.size (Nat.le_refl _) trivial⟩
    have HR := Aside0.mk (Kd.C_below hr (bel_alloc (Below.refl w.heap.size w) (.cells #[] 30)))
    clear hr
    go_enter Tryd.func113, Tryd.ntmps113
    go_wp2_with ((with_reducible refine gate_builtin (b := .append) (xs := #[.tmp 5, .tmp 6]) rfl ?_); (try (refine gate_guard (by rfl) ?_; dsimp only)); at_builtin; (refine Kd.R_append_rows kAddr (w0 := w) (w.heap.size) rfl (.tmp 5) (.tmp 6) 31 30 (.agg #[(.string ⟨#[]⟩), (.string ⟨#[]⟩)]) 32 rfl Tryd.underlying31 info30 rfl (by decide) (by omega) (.slice (some ⟨w.heap.size, 0, none⟩) 0 0) [] xs _ _ _ (fun _ => True) (fun _ => False) rfl rfl ?aO ?aR (fun _ _ h => h) (fun _ h => h.elim) (fun _ _ => trivial) ?aB ?aS ?aL ?_); (case aO => exact HE.out); (case aR => exact HR.out); (case aB => exact bel_alloc (Below.refl _ _) _); (case aS => (simp; done)); (case aL => (simp; omega)); intro v1 w1 ho hb hg hat; have HO := Aside0.mk ho; have HB := Aside0.mk hb; clear ho hb hg hat)
    have ho : Kd.R kAddr 30 w1 w.heap.size (fun _ => True) v1 xs := HO.out
    obtain ⟨B, d, hv⟩ := Kd.R_slice ho
    subst hv
    have HO2 := Aside0.mk ho
    clear ho HO
    go_ret
    exact ⟨B, d, rfl, HO2.out, HB.out⟩


set_option maxRecDepth 100000 in
theorem cloneWay_any (A : Option Addr) (c : Nat) (xs : List SWay) (w : World) (hr : Kd.C kWay w A xs.length xs) (hlen : xs.length ≤ 1048576) :
    Calls Tryd.prog 123 #[.slice A xs.length c] w fun e w' => ∃ B d, e = .returned (.slice B xs.length d) ∧ Kd.R kWay 122 w' w.heap.size (fun _ => True) (.slice B xs.length d) xs ∧ Below w.heap.size w w' := by
  have q := fun (w : World) (a : Option Addr) (n c n' c' : Nat) => Lib.run_eql_slice_nil (P := Tryd.prog) w 67 _ a n c n' c' Tryd.underlying67
  cases A with
  | none =>
    obtain rfl : xs = [] := by
      cases xs with
      | nil => rfl
      | cons x r =>
        obtain ⟨ad, e, _⟩ := at_Way hr 0 (by simp)
        cases e
    clear hr
    go_enter Tryd.func123, Tryd.ntmps123
    go_wp2
    go_ret
    exact ⟨none, 0, rfl, Kd.R_nil _ _ _ _ _, Below.refl _ _⟩
  | some ad =>
    have HE : Aside0 (Kd.R kWay 122 (w.alloc (.cells #[] 122)) w.heap.size (fun _ => True) (.slice (some ⟨w.heap.size, 0, none⟩) 0 0) []) := ⟨R_empty kWay 122 w w.heap.size (Nat.le_refl _) trivial⟩
    have HR := Aside0.mk (Kd.C_below hr (bel_alloc (Below.refl w.heap.size w) (.cells #[] 122)))
    clear hr
    go_enter Tryd.func123, Tryd.ntmps123
    go_wp2_with ((with_reducible refine gate_builtin (b := .append) (xs := #[.tmp 5, .tmp 6]) rfl ?_); (try (refine gate_guard (by rfl) ?_; dsimp only)); at_builtin; (refine Kd.R_append_rows kWay (w0 := w) (w.heap.size) rfl (.tmp 5) (.tmp 6) 67 122 (.agg #[(.string ⟨#[]⟩), (.string ⟨#[]⟩)]) 32 rfl Tryd.underlying67 info122 rfl (by decide) (by omega) (.slice (some ⟨w.heap.size, 0, none⟩) 0 0) [] xs _ _ _ (fun _ => True) (fun _ => False) rfl rfl ?aO ?aR (fun _ _ h => h) (fun _ h => h.elim) (fun _ _ => trivial) ?aB ?aS ?aL ?_); (case aO => exact HE.out); (case aR => exact HR.out); (case aB => exact bel_alloc (Below.refl _ _) _); (case aS => (simp; done)); (case aL => (simp; omega)); intro v1 w1 ho hb hg hat; have HO := Aside0.mk ho; have HB := Aside0.mk hb; clear ho hb hg hat)
    have ho : Kd.R kWay 122 w1 w.heap.size (fun _ => True) v1 xs := HO.out
    obtain ⟨B, d, hv⟩ := Kd.R_slice ho
    subst hv
    have HO2 := Aside0.mk ho
    clear ho HO
    go_ret
    exact ⟨B, d, rfl, HO2.out, HB.out⟩

end Go.Proofs.YtejiifmopopflaaDoor
