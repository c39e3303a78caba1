/- SieveTidy of the program: a contract. -/
import Derived.Test.YtmfehmbgghfffaaDoorSieveX
namespace Go.Proofs.YtmfehmbgghfffaaDoor
open Go.RowKit Go.Proofs.YtmfehmbgghfffaaDoorW.PrintWords
set_option linter.unusedVariables false
set_option linter.unusedSimpArgs false
theorem covers_any (b : Nat) (r x : SRule) (W : World) (h0 : W.cell? ⟨b, 0, none⟩ = some (.int .i64 r.f0)) (h1 : W.cell? ⟨b, 1, none⟩ = some (.string r.f1)) (hb : b < W.heap.size) :
    Calls Tryd.prog 51 (#[.agg #[.int .i64 x.f0, .string x.f1, .int .i64 x.f2, .string x.f3.f0, .string x.f3.f1]] ++ #[.pointer (some ⟨b, 0, none⟩)]) W fun e w' => e = .returned (.bool (covers r x)) ∧ Below W.heap.size W w' := by
  have hne : ¬ b = W.heap.size := by omega
  by_cases c1 : x.f0 = 4
  · have c1' : (x.f0 == 4) = true := beq_iff_eq.2 c1
    have HC := Lib.hid c1
    clear c1
    go_enter Tryd.func51, Tryd.ntmps51
    go_wp2
    go_ret
    exact ⟨retb (by unfold covers; rw [decide_eq_true HC.out]; rfl), (Below.refl _ _).alloc (Nat.le_refl _) _⟩
  · have c1' : (x.f0 == 4) = false := beq_eq_false_iff_ne.2 c1
    have HC := Lib.hid c1
    clear c1
    by_cases c2 : x.f0 = r.f0
    · have c2' : (x.f0 == r.f0) = true := beq_iff_eq.2 c2
      have HC2 := Lib.hid c2
      clear c2
      go_enter Tryd.func51, Tryd.ntmps51
      go_wp2
      go_ret
      refine ⟨retb ?_, (Below.refl _ _).alloc (Nat.le_refl _) _⟩
      unfold covers
      rw [decide_eq_false HC.out, decide_eq_true HC2.out, bl, bl, Bool.false_or, Bool.true_and]
      exact (by rw [Bool.eq_iff_iff, beq_iff_eq, decide_eq_true_iff] : (x.f1.data.toList == r.f1.data.toList) = decide (x.f1.data.toList = r.f1.data.toList))
    · have c2' : (x.f0 == r.f0) = false := beq_eq_false_iff_ne.2 c2
      have HC2 := Lib.hid c2
      clear c2
      go_enter Tryd.func51, Tryd.ntmps51
      go_wp2
      go_ret
      exact ⟨retb (by unfold covers; rw [decide_eq_false HC.out, decide_eq_false HC2.out]; rfl), (Below.refl _ _).alloc (Nat.le_refl _) _⟩

/-- The rounds of the first loop. -/
theorem tidy_take (xs : List SRule) (k : Nat) (hk : k < xs.length) : (xs.take (k + 1)).foldl tidyStep [] = tidyStep ((xs.take k).foldl tidyStep []) (xs.getD k zRule) := by
  rw [List.take_succ_eq_append_getElem hk, List.foldl_append, List.getD, List.getElem?_eq_getElem hk]; rfl
theorem tidyStep_len (out : List SRule) (r : SRule) : (tidyStep out r).length ≤ out.length + 1 := by
  unfold tidyStep; split
  · omega
  · simp
theorem foldl_len : ∀ (xs out : List SRule), (xs.foldl tidyStep out).length ≤ out.length + xs.length
  | [], out => by simp
  | r :: xs, out => by
    have h1 := foldl_len xs (tidyStep out r)
    have h2 := tidyStep_len out r
    rw [List.foldl_cons, List.length_cons]; omega
theorem tidyEnd_keep (out : List SRule) (y : SRule) (h : y.f2 ≠ 1) : tidyEnd (out ++ [y]) = out ++ [y] := by
  unfold tidyEnd
  rw [List.reverse_append, List.reverse_singleton, List.singleton_append, List.dropWhile_cons, if_neg (by simpa using h)]
  simp
theorem tidyEnd_cut (out : List SRule) (y : SRule) (h : y.f2 = 1) : tidyEnd (out ++ [y]) = tidyEnd out := by
  unfold tidyEnd
  rw [List.reverse_append, List.reverse_singleton, List.singleton_append, List.dropWhile_cons, if_pos (by simpa using h)]

theorem split_last (ys : List SRule) (h : 0 < ys.length) : ys = ys.take (ys.length - 1) ++ [ys.getD (ys.length - 1) zRule] := by
  have hk : ys.length - 1 < ys.length := by omega
  have h1 := List.take_succ_eq_append_getElem hk
  rw [show ys.length - 1 + 1 = ys.length from by omega, List.take_length] at h1
  rw [List.getD, List.getElem?_eq_getElem hk, Option.getD_some]
  exact h1

set_option maxRecDepth 100000 in
set_option maxHeartbeats 2000000 in
theorem sieveTidy_any (A : Option Addr) (c : Nat) (xs : List SRule) (w : World) (hr : Kd.C kRule w A xs.length xs) (hlen : xs.length ≤ 1048576) (hx : ∀ x ∈ xs, RFit x) (hG : Glob w) :
    Calls Tryd.prog 15 #[.slice A xs.length c] w fun e w' => ∃ A' c', e = .returned (.slice A' (tidy xs).length c') ∧ (tidy xs).length ≤ c' ∧ Kd.C kRule w' A' (tidy xs).length (tidy xs) ∧ Below w.heap.size w w' := by
  have hok := SieveOk_any A c xs w hr (by omega) hx hG
  cases hq : sieveOk xs
  · rw [hq] at hok
    have ht : tidy xs = [] := by unfold tidy; rw [hq]; rfl
    rw [ht]
    clear hq ht hr
    go_enter Tryd.func15, Tryd.ntmps15
    go_wp2_with (go_at_call 19; refine Calls.mono hok ?_; rintro e w' ⟨rfl, hb'⟩)
    go_ret
    exact ⟨none, 0, rfl, Nat.le_refl _, Kd.C_nil _ _, hb'⟩
  · rw [hq] at hok
    have ht : tidy xs = tidyEnd (xs.foldl tidyStep []) := by unfold tidy; rw [hq]; rfl
    have HT := Lib.hid ht
    clear hq ht
    go_enter Tryd.func15, Tryd.ntmps15
    go_wp2_with (go_at_call 19; refine Calls.mono hok ?_; rintro e w' ⟨rfl, hb'⟩)
    go_loopg [3, 12] (xs.length) (fun g v i wr => ∃ k : Nat, k ≤ xs.length ∧ xs.length - k ≤ g ∧ i = .int .i64 k ∧ Aside0 (Below w.heap.size w wr) ∧ Aside0 (Kd.R kRule 65 wr w.heap.size (fun _ => True) v ((xs.take k).foldl tidyStep [])))
    case atStart => exact ⟨0, Nat.zero_le _, by omega, rfl, ⟨hb'⟩, ⟨Kd.R_nil _ _ _ _ _⟩⟩
    case round =>
      obtain ⟨k, hk, hg, rfl, BW, HR⟩ := hrel
      by_cases hlt : k < xs.length
      · obtain ⟨ad, e1, h0, h1, h2, h3, h4⟩ := at_Rule (Kd.C_below hr BW.out) k hlt
        subst e1
        have hlt' : (k : Int) < (xs.length : Int) := by omega
        have hnext := tidy_take xs k hlt
        have hol := foldl_len (xs.take k) []
        generalize xs.getD k zRule = y at h0 h1 h2 h3 h4 hnext
        generalize (xs.take k).foldl tidyStep [] = out at HR hnext hol
        have hol' : out.length ≤ 1048576 := by rw [List.length_nil, List.length_take] at hol; omega
        obtain ⟨Ao, co, rfl⟩ := Kd.R_slice HR.out
        have HN := Lib.hid hnext
        have hsz := BW.out.size
        clear hnext hol
        have hcont := fun (W1 : World) (hW : W1 = wr.alloc (.cells #[.int .i64 y.f0, .string y.f1, .int .i64 y.f2, .string y.f3.f0, .string y.f3.f1] 65)) =>
          ContainsFunc_Rule 51 #[.pointer (some ⟨wr.heap.size, 0, none⟩)] (covers y) (enters_of Tryd.func51 (by kernel_rfl) rfl) Ao co out W1
            (by rw [hW]; exact Kd.C_below (Kd.R_reads' HR.out).2.2 ((Below.refl _ _).alloc (Nat.le_refl _) _)) (by omega)
            (fun W x _ hb => covers_any wr.heap.size y x W ((hb.cell (p := ⟨wr.heap.size, 0, none⟩) (by rw [hW]; simp)).trans (by rw [hW]; simp)) ((hb.cell (p := ⟨wr.heap.size, 1, none⟩) (by rw [hW]; simp)).trans (by rw [hW]; simp)) (by have := hb.size; rw [hW] at this; simp at this; omega))
        cases hq : out.any (covers y)
        · have hstep : tidyStep out y = out ++ [y] := by unfold tidyStep; rw [hq]; rfl
          rw [hq] at hcont
          have HS := Lib.hid hstep
          clear hq hstep
          go_wp2_with (first | (go_at_call 52; refine (hcont _ rfl).mono ?_; rintro e w2 ⟨rfl, hb2⟩; have c0 := (hb2.cell (p := ⟨wr.heap.size, 0, none⟩) (by simp)).trans (by simp : _ = some (.int .i64 y.f0)); have c1 := (hb2.cell (p := ⟨wr.heap.size, 1, none⟩) (by simp)).trans (by simp : _ = some (.string y.f1)); have c2 := (hb2.cell (p := ⟨wr.heap.size, 2, none⟩) (by simp)).trans (by simp : _ = some (.int .i64 y.f2)); have c3 := (hb2.cell (p := ⟨wr.heap.size, 3, none⟩) (by simp)).trans (by simp : _ = some (.string y.f3.f0)); have c4 := (hb2.cell (p := ⟨wr.heap.size, 4, none⟩) (by simp)).trans (by simp : _ = some (.string y.f3.f1)); have BW2 : Aside0 (Below w.heap.size w w2) := ⟨((BW.out.alloc hsz _).trans (hb2.mono (by simp; omega)))⟩; have HR2 : Aside0 (Kd.R kRule 65 w2 w.heap.size (fun _ => True) (.slice Ao out.length co) out) := ⟨Kd.R_below (Kd.R_alloc HR.out _) hb2⟩; clear hb2 hcont) | ((with_reducible refine gate_builtin (b := .append) (xs := #[.tmp 21, .tmp 23]) rfl ?_); (try (refine gate_guard (by rfl) ?_; dsimp only)); at_builtin; go_loud (refine Kd.R_append kRule (w0 := w) (w.heap.size) rfl (.tmp 21) (.tmp 23) 41 65 (.agg #[(.int .i64 0), (.string ⟨#[]⟩), (.int .i64 0), (.string ⟨#[]⟩), (.string ⟨#[]⟩)]) 64 rfl Tryd.underlying41 info65 rfl (by decide) (by omega) (.slice Ao out.length co) (out) (y) [.int .i64 y.f0, .string y.f1, .int .i64 y.f2, .string y.f3.f0, .string y.f3.f1] (fun _ => True) (fun _ => False) rfl rfl (kRule_mkM _ _ _ y) (fun _ hk => hk.elim) (fun _ _ => trivial) ?aO9 ?aB9 ?aS9 ?aL9 ?_); (case aB9 => exact (by (with_reducible repeat (first | exact BW2.out | refine bel_alloc ?_ _ | refine bel_set ?_ _ ?_ | refine blw_drewN ?_ _ | refine Below.drew ?_)); all_goals (first | (simp; done) | (simp; omega) | omega))); (case aO9 => exact HR2.out); (case aS9 => (refine Below.size (B := (w.heap.size)) (w := w) ?_; exact (by (with_reducible repeat (first | exact BW2.out | refine bel_alloc ?_ _ | refine bel_set ?_ _ ?_ | refine blw_drewN ?_ _ | refine Below.drew ?_)); all_goals (first | (simp; done) | (simp; omega) | omega)))); (case aL9 => exact (by omega)); intro v9 w9 ho hb hg hat; have HO9 := Aside0.mk ho; have B9 := hb;  clear ho hb hg hat))
          go_roundg (xs.length - (k + 1))
          case measure => omega
          case rel => exact ⟨k + 1, by omega, Nat.le_refl _, by go_num, ⟨B9⟩, ⟨by rw [HN.out, HS.out]; exact HO9.out⟩⟩
        · have hstep : tidyStep out y = out := by unfold tidyStep; rw [hq]; rfl
          rw [hq] at hcont
          have HS := Lib.hid hstep
          clear hq hstep
          go_wp2_with (go_at_call 52; refine (hcont _ rfl).mono ?_; rintro e w2 ⟨rfl, hb2⟩; have c0 := (hb2.cell (p := ⟨wr.heap.size, 0, none⟩) (by simp)).trans (by simp : _ = some (.int .i64 y.f0)); have c1 := (hb2.cell (p := ⟨wr.heap.size, 1, none⟩) (by simp)).trans (by simp : _ = some (.string y.f1)); have c2 := (hb2.cell (p := ⟨wr.heap.size, 2, none⟩) (by simp)).trans (by simp : _ = some (.int .i64 y.f2)); have c3 := (hb2.cell (p := ⟨wr.heap.size, 3, none⟩) (by simp)).trans (by simp : _ = some (.string y.f3.f0)); have c4 := (hb2.cell (p := ⟨wr.heap.size, 4, none⟩) (by simp)).trans (by simp : _ = some (.string y.f3.f1)); have BW2 : Aside0 (Below w.heap.size w w2) := ⟨((BW.out.alloc hsz _).trans (hb2.mono (by simp; omega)))⟩; have HR2 : Aside0 (Kd.R kRule 65 w2 w.heap.size (fun _ => True) (.slice Ao out.length co) out) := ⟨Kd.R_below (Kd.R_alloc HR.out _) hb2⟩; clear hb2 hcont)
          go_roundg (xs.length - (k + 1))
          case measure => omega
          case rel => exact ⟨k + 1, by omega, Nat.le_refl _, by go_num, BW2, ⟨by rw [HN.out, HS.out]; exact HR2.out⟩⟩
      · have hlt' : ¬ ((k : Int) < (xs.length : Int)) := by omega
        have hall : xs.take k = xs := List.take_of_length_le (by omega)
        rw [hall] at HR
        have hol := foldl_len xs []
        rw [List.length_nil] at hol
        clear hall
        generalize xs.foldl tidyStep [] = zs at HR HT hol
        obtain ⟨Az, cz, rfl⟩ := Kd.R_slice HR.out
        have hcz := (Kd.R_reads' HR.out).2.1
        have HF := Aside0.mk (Kd.R_reads' HR.out).2.2
        clear HR
        go_wp2
        go_loopg [3] (zs.length) (fun g v wr => ∃ (ys : List SRule) (Ao : Option Addr) (co : Nat), ys.length ≤ g ∧ ys.length ≤ zs.length ∧ v = .slice Ao ys.length co ∧ ys.length ≤ co ∧ Aside0 (Below w.heap.size w wr) ∧ Aside0 (Kd.C kRule wr Ao ys.length ys) ∧ Aside0 (tidyEnd ys = tidyEnd zs))
        case atStart => exact ⟨zs, Az, cz, Nat.le_refl _, Nat.le_refl _, rfl, hcz, BW, HF, ⟨rfl⟩⟩
        case round =>
          clear HF BW hcz
          obtain ⟨ys, Ao, co, hyg, hyz, rfl, hl, BW, HF, HE⟩ := hrel
          by_cases hn : 0 < ys.length
          · obtain ⟨ad, e1, h0, h1, h2, h3, h4⟩ := at_Rule HF.out (ys.length - 1) (by omega)
            subst e1
            have hm : ((ys.length : Int) - 1).toNat = ys.length - 1 := by omega
            have hn' : ((ys.length : Int) > 0) := by omega
            have hsplit := split_last ys hn
            generalize ys.getD (ys.length - 1) zRule = y at h0 h1 h2 h3 h4 hsplit
            by_cases hd : y.f2 = 1
            · have hd' : (y.f2 == 1) = true := beq_iff_eq.2 hd
              have hcut := tidyEnd_cut (ys.take (ys.length - 1)) y hd
              rw [← hsplit] at hcut
              have HC := Lib.hid hcut
              clear hcut hsplit hd
              go_wp2
              go_roundg (ys.length - 1)
              case measure => omega
              case rel =>
                have hlt2 : (ys.take (ys.length - 1)).length = ys.length - 1 := by rw [List.length_take]; omega
                have hF := Kd.C_take (m := ys.length - 1) HF.out (by omega)
                exact ⟨ys.take (ys.length - 1), _, _, by omega, by omega, by rw [hlt2], by omega, BW, ⟨hF⟩, ⟨by rw [← HE.out, HC.out]⟩⟩
            · have hd' : (y.f2 == 1) = false := beq_eq_false_iff_ne.2 hd
              have hcut := tidyEnd_keep (ys.take (ys.length - 1)) y hd
              rw [← hsplit] at hcut
              have HC := Lib.hid hcut
              clear hcut hsplit hd
              go_wp2
              go_ret
              have ht : tidy xs = ys := by rw [HT.out, ← HE.out, HC.out]
              rw [ht]
              exact ⟨_, _, rfl, hl, HF.out, BW.out⟩
          · have hn' : ¬ ((ys.length : Int) > 0) := by omega
            have hnil : ys = [] := List.length_eq_zero_iff.1 (by omega)
            have ht : tidy xs = ys := by rw [HT.out, ← HE.out, hnil]; rfl
            have HTT := Lib.hid ht
            clear ht hnil
            go_wp2
            go_ret
            rw [HTT.out]
            exact ⟨_, _, rfl, hl, HF.out, BW.out⟩

end Go.Proofs.YtmfehmbgghfffaaDoor
