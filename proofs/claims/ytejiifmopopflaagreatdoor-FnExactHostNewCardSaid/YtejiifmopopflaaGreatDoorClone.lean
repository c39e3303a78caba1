/- slices.Clone at flat elements: contracts. -/
import Derived.Test.YtejiifmopopflaaGreatDoorKit0
namespace Go.Proofs.YtejiifmopopflaaGreatDoor
open Go.RowKit Go.Proofs.YtejiifmopopflaaGreatDoorW.PrintWords
set_option linter.unusedVariables false
set_option linter.unusedSimpArgs false

set_option maxRecDepth 100000 in
theorem cloneString_any (A : Option Addr) (c : Nat) (xs : List ByteArray) (w : World) (hr : Kd.C Kd.string w A xs.length xs) (hlen : xs.length ≤ 1048576) :
    Calls Tryz.prog 133 #[.slice A xs.length c] w fun e w' => ∃ B d, e = .returned (.slice B xs.length d) ∧ Kd.R Kd.string 9 w' w.heap.size (fun _ => True) (.slice B xs.length d) xs ∧ Below w.heap.size w w' := by
  have q := fun (w : World) (a : Option Addr) (n c n' c' : Nat) => Lib.run_eql_slice_nil (P := Tryz.prog) w 25 _ a n c n' c' Tryz.underlying25
  cases A with
  | none =>
    obtain rfl : xs = [] := by
      cases xs with
      | nil => rfl
      | cons x r =>
        obtain ⟨ad, e, _⟩ := at_Str hr 0 (by simp)
        cases e
    clear hr
    go_enter Tryz.func133, Tryz.ntmps133
    go_wp2
    go_ret
    exact ⟨none, 0, rfl, Kd.R_nil _ _ _ _ _, Below.refl _ _⟩
  | some ad =>
    have HE : Aside0 (Kd.R Kd.string 9 (w.alloc (.cells #[] 9)) w.heap.size (fun _ => True) (.slice (some ⟨w.heap.size, 0, none⟩) 0 0) []) := ⟨R_empty Kd.string 9 w w.heap.size (Nat.le_refl _) trivial⟩
    have HR := Aside0.mk (Kd.C_below hr (bel_alloc (Below.refl w.heap.size w) (.cells #[] 9)))
    clear hr
    go_enter Tryz.func133, Tryz.ntmps133
    go_wp2_with ((with_reducible refine gate_builtin (b := .append) (xs := #[.tmp 5, .tmp 6]) rfl ?_); (try (refine gate_guard (by rfl) ?_; dsimp only)); at_builtin; (refine Kd.R_append_rows Kd.string (w0 := w) (w.heap.size) rfl (.tmp 5) (.tmp 6) 25 9 (.string ⟨#[]⟩) 16 rfl Tryz.underlying25 info9 rfl (by decide) (by omega) (.slice (some ⟨w.heap.size, 0, none⟩) 0 0) [] xs _ _ _ (fun _ => True) (fun _ => False) rfl rfl ?aO ?aR (fun _ _ h => h) (fun _ h => h.elim) (fun _ _ => trivial) ?aB ?aS ?aL ?_); (case aO => exact HE.out); (case aR => exact HR.out); (case aB => exact bel_alloc (Below.refl _ _) _); (case aS => (simp; done)); (case aL => (simp; omega)); intro v1 w1 ho hb hg hat; have HO := Aside0.mk ho; have HB := Aside0.mk hb; clear ho hb hg hat)
    have ho : Kd.R Kd.string 9 w1 w.heap.size (fun _ => True) v1 xs := HO.out
    obtain ⟨B, d, hv⟩ := Kd.R_slice ho
    subst hv
    have HO2 := Aside0.mk ho
    clear ho HO
    go_ret
    exact ⟨B, d, rfl, HO2.out, HB.out⟩


set_option maxRecDepth 100000 in
theorem cloneInt_any (A : Option Addr) (c : Nat) (xs : List Int) (w : World) (hr : Kd.C (Kd.int .i64) w A xs.length xs) (hlen : xs.length ≤ 1048576) :
    Calls Tryz.prog 98 #[.slice A xs.length c] w fun e w' => ∃ B d, e = .returned (.slice B xs.length d) ∧ Kd.R (Kd.int .i64) 3 w' w.heap.size (fun _ => True) (.slice B xs.length d) xs ∧ Below w.heap.size w w' := by
  have q := fun (w : World) (a : Option Addr) (n c n' c' : Nat) => Lib.run_eql_slice_nil (P := Tryz.prog) w 28 _ a n c n' c' Tryz.underlying28
  cases A with
  | none =>
    obtain rfl : xs = [] := by
      cases xs with
      | nil => rfl
      | cons x r =>
        obtain ⟨ad, e, _⟩ := at_Int hr 0 (by simp)
        cases e
    clear hr
    go_enter Tryz.func98, Tryz.ntmps98
    go_wp2
    go_ret
    exact ⟨none, 0, rfl, Kd.R_nil _ _ _ _ _, Below.refl _ _⟩
  | some ad =>
    have HE : Aside0 (Kd.R (Kd.int .i64) 3 (w.alloc (.cells #[] 3)) w.heap.size (fun _ => True) (.slice (some ⟨w.heap.size, 0, none⟩) 0 0) []) := ⟨R_empty (Kd.int .i64) 3 w w.heap.size (Nat.le_refl _) trivial⟩
    have HR := Aside0.mk (Kd.C_below hr (bel_alloc (Below.refl w.heap.size w) (.cells #[] 3)))
    clear hr
    go_enter Tryz.func98, Tryz.ntmps98
    go_wp2_with ((with_reducible refine gate_builtin (b := .append) (xs := #[.tmp 5, .tmp 6]) rfl ?_); (try (refine gate_guard (by rfl) ?_; dsimp only)); at_builtin; (refine Kd.R_append_rows (Kd.int .i64) (w0 := w) (w.heap.size) rfl (.tmp 5) (.tmp 6) 28 3 (.int .i64 0) 8 rfl Tryz.underlying28 info3 rfl (by decide) (by omega) (.slice (some ⟨w.heap.size, 0, none⟩) 0 0) [] xs _ _ _ (fun _ => True) (fun _ => False) rfl rfl ?aO ?aR (fun _ _ h => h) (fun _ h => h.elim) (fun _ _ => trivial) ?aB ?aS ?aL ?_); (case aO => exact HE.out); (case aR => exact HR.out); (case aB => exact bel_alloc (Below.refl _ _) _); (case aS => (simp; done)); (case aL => (simp; omega)); intro v1 w1 ho hb hg hat; have HO := Aside0.mk ho; have HB := Aside0.mk hb; clear ho hb hg hat)
    have ho : Kd.R (Kd.int .i64) 3 w1 w.heap.size (fun _ => True) v1 xs := HO.out
    obtain ⟨B, d, hv⟩ := Kd.R_slice ho
    subst hv
    have HO2 := Aside0.mk ho
    clear ho HO
    go_ret
    exact ⟨B, d, rfl, HO2.out, HB.out⟩


set_option maxRecDepth 100000 in
theorem cloneAddr_any (A : Option Addr) (c : Nat) (xs : List SAddr) (w : World) (hr : Kd.C kAddr w A xs.length xs) (hlen : xs.length ≤ 1048576) :
    Calls Tryz.prog 152 #[.slice A xs.length c] w fun e w' => ∃ B d, e = .returned (.slice B xs.length d) ∧ Kd.R kAddr 32 w' w.heap.size (fun _ => True) (.slice B xs.length d) xs ∧ Below w.heap.size w w' := by
  have q := fun (w : World) (a : Option Addr) (n c n' c' : Nat) => Lib.run_eql_slice_nil (P := Tryz.prog) w 33 _ a n c n' c' Tryz.underlying33
  cases A with
  | none =>
    obtain rfl : xs = [] := by
      cases xs with
      | nil => rfl
      | cons x r =>
        obtain ⟨ad, e, _⟩ := at_Addr hr 0 (by simp)
        cases e
    clear hr
    go_enter Tryz.func152, Tryz.ntmps152
    go_wp2
    go_ret
    exact ⟨none, 0, rfl, Kd.R_nil _ _ _ _ _, Below.refl _ _⟩
  | some ad =>
    have HE : Aside0 (Kd.R kAddr 32 (w.alloc (.cells #[] 32)) w.heap.size (fun _ => True) (.slice (some ⟨w.heap.size, 0, none⟩) 0 0) []) := ⟨R_empty kAddr 32 w w.heap.size (Nat.le_refl _) trivial⟩
    have HR := Aside0.mk (Kd.C_below hr (bel_alloc (Below.refl w.heap.size w) (.cells #[] 32)))
    clear hr
    go_enter Tryz.func152, Tryz.ntmps152
    go_wp2_with ((with_reducible refine gate_builtin (b := .append) (xs := #[.tmp 5, .tmp 6]) rfl ?_); (try (refine gate_guard (by rfl) ?_; dsimp only)); at_builtin; (refine Kd.R_append_rows kAddr (w0 := w) (w.heap.size) rfl (.tmp 5) (.tmp 6) 33 32 (.agg #[(.string ⟨#[]⟩), (.string ⟨#[]⟩)]) 32 rfl Tryz.underlying33 info32 rfl (by decide) (by omega) (.slice (some ⟨w.heap.size, 0, none⟩) 0 0) [] xs _ _ _ (fun _ => True) (fun _ => False) rfl rfl ?aO ?aR (fun _ _ h => h) (fun _ h => h.elim) (fun _ _ => trivial) ?aB ?aS ?aL ?_); (case aO => exact HE.out); (case aR => exact HR.out); (case aB => exact bel_alloc (Below.refl _ _) _); (case aS => (simp; done)); (case aL => (simp; omega)); intro v1 w1 ho hb hg hat; have HO := Aside0.mk ho; have HB := Aside0.mk hb; clear ho hb hg hat)
    have ho : Kd.R kAddr 32 w1 w.heap.size (fun _ => True) v1 xs := HO.out
    obtain ⟨B, d, hv⟩ := Kd.R_slice ho
    subst hv
    have HO2 := Aside0.mk ho
    clear ho HO
    go_ret
    exact ⟨B, d, rfl, HO2.out, HB.out⟩


set_option maxRecDepth 100000 in
theorem cloneWay_any (A : Option Addr) (c : Nat) (xs : List SWay) (w : World) (hr : Kd.C kWay w A xs.length xs) (hlen : xs.length ≤ 1048576) :
    Calls Tryz.prog 134 #[.slice A xs.length c] w fun e w' => ∃ B d, e = .returned (.slice B xs.length d) ∧ Kd.R kWay 136 w' w.heap.size (fun _ => True) (.slice B xs.length d) xs ∧ Below w.heap.size w w' := by
  have q := fun (w : World) (a : Option Addr) (n c n' c' : Nat) => Lib.run_eql_slice_nil (P := Tryz.prog) w 45 _ a n c n' c' Tryz.underlying45
  cases A with
  | none =>
    obtain rfl : xs = [] := by
      cases xs with
      | nil => rfl
      | cons x r =>
        obtain ⟨ad, e, _⟩ := at_Way hr 0 (by simp)
        cases e
    clear hr
    go_enter Tryz.func134, Tryz.ntmps134
    go_wp2
    go_ret
    exact ⟨none, 0, rfl, Kd.R_nil _ _ _ _ _, Below.refl _ _⟩
  | some ad =>
    have HE : Aside0 (Kd.R kWay 136 (w.alloc (.cells #[] 136)) w.heap.size (fun _ => True) (.slice (some ⟨w.heap.size, 0, none⟩) 0 0) []) := ⟨R_empty kWay 136 w w.heap.size (Nat.le_refl _) trivial⟩
    have HR := Aside0.mk (Kd.C_below hr (bel_alloc (Below.refl w.heap.size w) (.cells #[] 136)))
    clear hr
    go_enter Tryz.func134, Tryz.ntmps134
    go_wp2_with ((with_reducible refine gate_builtin (b := .append) (xs := #[.tmp 5, .tmp 6]) rfl ?_); (try (refine gate_guard (by rfl) ?_; dsimp only)); at_builtin; (refine Kd.R_append_rows kWay (w0 := w) (w.heap.size) rfl (.tmp 5) (.tmp 6) 45 136 (.agg #[(.string ⟨#[]⟩), (.string ⟨#[]⟩)]) 32 rfl Tryz.underlying45 info136 rfl (by decide) (by omega) (.slice (some ⟨w.heap.size, 0, none⟩) 0 0) [] xs _ _ _ (fun _ => True) (fun _ => False) rfl rfl ?aO ?aR (fun _ _ h => h) (fun _ h => h.elim) (fun _ _ => trivial) ?aB ?aS ?aL ?_); (case aO => exact HE.out); (case aR => exact HR.out); (case aB => exact bel_alloc (Below.refl _ _) _); (case aS => (simp; done)); (case aL => (simp; omega)); intro v1 w1 ho hb hg hat; have HO := Aside0.mk ho; have HB := Aside0.mk hb; clear ho hb hg hat)
    have ho : Kd.R kWay 136 w1 w.heap.size (fun _ => True) v1 xs := HO.out
    obtain ⟨B, d, hv⟩ := Kd.R_slice ho
    subst hv
    have HO2 := Aside0.mk ho
    clear ho HO
    go_ret
    exact ⟨B, d, rfl, HO2.out, HB.out⟩

end Go.Proofs.YtejiifmopopflaaGreatDoor
