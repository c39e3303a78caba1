/- slices.Clone at flat elements: contracts. -/
import Derived.Test.YticepbgacokbbaaGreatDoorKit0
namespace Go.Proofs.YticepbgacokbbaaGreatDoor
open Go.RowKit Go.Proofs.YticepbgacokbbaaGreatDoorW.PrintWords
set_option linter.unusedVariables false
set_option linter.unusedSimpArgs false

set_option maxRecDepth 100000 in
theorem cloneString_any (A : Option Addr) (c : Nat) (xs : List ByteArray) (w : World) (hr : Kd.C Kd.string w A xs.length xs) (hlen : xs.length ≤ 1048576) :
  Calls Tryz.prog 29 #[.slice A xs.length c] w fun e w' => ∃ B d, e = .returned (.slice B xs.length d) ∧ Kd.R Kd.string 9 w' w.heap.size (fun _ => True) (.slice B xs.length d) xs ∧ Below w.heap.size w w' := by
 have q := fun (w : World) (a : Option Addr) (n c n' c' : Nat) => Lib.run_eql_slice_nil (P := Tryz.prog) w 27 _ a n c n' c' Tryz.underlying27
 cases A with
 | none =>
  obtain rfl : xs = [] := by
   cases xs with
   | nil => rfl
   | cons x r =>
    obtain ⟨ad, e, _⟩ := at_Str hr 0 (by simp)
    cases e
  clear hr
  go_enter Tryz.func29, Tryz.ntmps29
  go_wp2
  go_ret
  exact ⟨none, 0, rfl, Kd.R_nil _ _ _ _ _, Below.refl _ _⟩
 | some ad =>
  have HE : Aside0 (Kd.R Kd.string 9 (w.alloc (.cells #[] 9)) w.heap.size (fun _ => True) (.slice (some ⟨w.heap.size, 0, none⟩) 0 0) []) := ⟨R_empty Kd.string 9 w w.heap.size (Nat.le_refl _) trivial⟩
  have HR := Aside0.mk (Kd.C_below hr (bel_alloc (Below.refl w.heap.size w) (.cells #[] 9)))
  clear hr
  go_enter Tryz.func29, Tryz.ntmps29
  go_wp2_with ((with_reducible refine gate_builtin (b := .append) (xs := #[.tmp 5, .tmp 6]) rfl ?_); (try (refine gate_guard (by rfl) ?_; dsimp only)); at_builtin; (refine Kd.R_append_rows Kd.string (w0 := w) (w.heap.size) rfl (.tmp 5) (.tmp 6) 27 9 (.string ⟨#[]⟩) 16 rfl Tryz.underlying27 info9 rfl (by decide) (by omega) (.slice (some ⟨w.heap.size, 0, none⟩) 0 0) [] xs _ _ _ (fun _ => True) (fun _ => False) rfl rfl ?aO ?aR (fun _ _ h => h) (fun _ h => h.elim) (fun _ _ => trivial) ?aB ?aS ?aL ?_); (case aO => exact HE.out); (case aR => exact HR.out); (case aB => exact bel_alloc (Below.refl _ _) _); (case aS => (simp; done)); (case aL => (simp; omega)); intro v1 w1 ho hb hg hat; have HO := Aside0.mk ho; have HB := Aside0.mk hb; clear ho hb hg hat)
  have ho : Kd.R Kd.string 9 w1 w.heap.size (fun _ => True) v1 xs := HO.out
  obtain ⟨B, d, hv⟩ := Kd.R_slice ho
  subst hv
  have HO2 := Aside0.mk ho
  clear ho HO
  go_ret
  exact ⟨B, d, rfl, HO2.out, HB.out⟩

end Go.Proofs.YticepbgacokbbaaGreatDoor
