/- SieveTidy of the reference: a contract. -/
import Derived.Test.YtmfehmbgghfffaaDoorTidyI
import Derived.Test.YtmfehmbgghfffaaDoorSieveX
import Derived.Deep.QuietTactic
import Derived.BigQuiet
namespace Go.Proofs.YtmfehmbgghfffaaDoor
open Go.RowKit Go.Proofs.YtmfehmbgghfffaaDoorW.PrintWords
set_option linter.unusedVariables false
set_option linter.unusedSimpArgs false

theorem cov_eq (y z : SRule) : covers y z = ((z.f0 == 4) || ((z.f0 == y.f0) && (z.f1.toList == y.f1.toList))) := by
  unfold covers
  rw [bl, bl, Bool.eq_iff_iff]
  simp
theorem cov_step (y : SRule) (out : List SRule) (j : Nat) (h : j < out.length) : (out.take (j + 1)).any (covers y) = ((out.take j).any (covers y) || covers y (out.getD j zRule)) := by
  rw [List.take_succ_eq_append_getElem h, List.any_append, List.getD, List.getElem?_eq_getElem h]
  simp
set_option maxRecDepth 100000 in
set_option maxHeartbeats 4000000 in
theorem specTidy_any (A : Option Addr) (c : Nat) (xs : List SRule) (w : World) (hr : Kd.C kRule w A xs.length xs) (hlen : xs.length ≤ 1048576) (hx : ∀ x ∈ xs, RFit x) :
    Calls Tryd.prog 18 #[.slice A xs.length c] w fun e w' => ∃ A' c', e = .returned (.slice A' (tidy xs).length c') ∧ (tidy xs).length ≤ c' ∧ Kd.C kRule w' A' (tidy xs).length (tidy xs) ∧ Below w.heap.size w w' := by
  have hok := fun W (hW : Below w.heap.size w W) => specOk13_any A c xs W (Kd.C_below hr hW) hlen hx
  have HE0 : Aside0 (Kd.R kRule 65 (w.alloc (.cells #[] 65)) w.heap.size (fun _ => True) (.slice (some ⟨w.heap.size, 0, none⟩) 0 0) []) := ⟨R_empty kRule 65 w w.heap.size (Nat.le_refl _) trivial⟩
  cases hq : sieveOk xs
  · rw [hq] at hok
    have ht : tidy xs = [] := by unfold tidy; rw [hq]; rfl
    rw [ht]
    clear hq ht hr
    go_enter Tryd.func18, Tryd.ntmps18
    go_wp2_with (go_at_call 54; refine Calls.mono (hok _ (bel_alloc (Below.refl _ _) _)) ?_; rintro e w1 ⟨rfl, b1⟩)
    go_ret
    exact ⟨_, _, rfl, Nat.le_refl _, (Kd.R_reads' (Kd.R_below HE0.out b1)).2.2, bel_then (bel_alloc (Below.refl _ _) _) b1⟩
  · rw [hq] at hok
    have ht : tidy xs = tidyEnd (xs.foldl tidyStep []) := by unfold tidy; rw [hq]; rfl
    have HT := Lib.hid ht
    clear hq ht
    go_enter Tryd.func18, Tryd.ntmps18
    go_wp2_with (go_at_call 54; refine Calls.mono (hok _ (bel_alloc (Below.refl _ _) _)) ?_; rintro e w1 ⟨rfl, b1⟩)
    have BW1 : Aside0 (Below w.heap.size w w1) := ⟨bel_then (bel_alloc (Below.refl _ _) _) b1⟩
    have HR1 := Aside0.mk (Kd.R_below HE0.out b1)
    clear b1 hok HE0
    go_wp2
    go_loopg [3, 4, 5, 6] (xs.length) (fun g v3 v4 _ _ wr => ∃ k : Nat, k ≤ xs.length ∧ xs.length - k ≤ g ∧ v4 = .int .i64 k ∧ Aside0 (Below w.heap.size w wr) ∧ Aside0 (Kd.R kRule 65 wr w.heap.size (fun _ => True) v3 ((xs.take k).foldl tidyStep [])))
    case atStart => exact ⟨0, Nat.zero_le _, by omega, rfl, BW1, HR1⟩
    case round =>
      clear BW1 HR1
      obtain ⟨k, hk, hg, rfl, BW, HR⟩ := hrel
      by_cases hlt : k < xs.length
      · have hlt' : (k : Int) < (xs.length : Int) := by omega
        have hnext := tidy_take xs k hlt
        have hol := foldl_len (xs.take k) []
        generalize hy : xs.getD k zRule = y at hnext
        generalize (xs.take k).foldl tidyStep [] = out at HR hnext hol
        have hol' : out.length ≤ 1048576 := by rw [List.length_nil, List.length_take] at hol; omega
        obtain ⟨Ao, co, rfl⟩ := Kd.R_slice HR.out
        have HN := Lib.hid hnext
        have HY := Lib.hid hy
        clear hnext hol hy
        go_wp2
        go_loopg [5, 6] (out.length) (fun g v5 v6 wv => ∃ (j : Nat) (d : Bool), j ≤ out.length ∧ out.length - j ≤ g ∧ v5 = .bool d ∧ v6 = .int .i64 j ∧ Aside0 (d = (out.take j).any (covers y)) ∧ Aside0 (Below w.heap.size w wv) ∧ Aside0 (Kd.R kRule 65 wv w.heap.size (fun _ => True) (.slice Ao out.length co) out))
        case atStart => exact ⟨0, false, Nat.zero_le _, by omega, rfl, rfl, ⟨rfl⟩, BW, HR⟩
        case round =>
          clear BW HR
          obtain ⟨j, d, hj, hgj, rfl, rfl, HD, BV, HR2⟩ := hrel
          obtain ⟨ad, e1, h0, h1, h2, h3, h4⟩ := at_Rule (Kd.C_below hr BV.out) k hlt
          obtain rfl := e1
          rw [HY.out] at h0 h1 h2 h3 h4
          by_cases hlj : j < out.length
          · have hlj' : (j : Int) < (out.length : Int) := by omega
            obtain ⟨ae, e2, g0, g1, g2, g3, g4⟩ := at_Rule (Kd.R_reads' HR2.out).2.2 j hlj
            obtain rfl := e2
            have hst := cov_step y out j hlj
            generalize out.getD j zRule = z at g0 g1 g2 g3 g4 hst
            rw [← HD.out] at hst
            have HS := Lib.hid hst
            clear hst
            have hcov := cov_eq y z
            have HCV := Lib.hid hcov
            clear hcov
            generalize hq1 : (z.f0 == 4) = q1 at HCV
            generalize hq2 : (z.f0 == y.f0) = q2 at HCV
            generalize hq3 : (z.f1.toList == y.f1.toList) = q3 at HCV
            cases d <;> cases q1 <;> cases q2 <;> cases q3
            all_goals
              go_wp2
              go_quiet (fail)
              go_wp2
              go_roundg (out.length - (j + 1))
              case measure => omega
              case rel => exact ⟨j + 1, _, by omega, Nat.le_refl _, rfl, by go_num, ⟨by rw [HS.out, HCV.out]; rfl⟩, ⟨blw_drewN BV.out _⟩, ⟨Kd.R_drewN HR2.out _⟩⟩
          · have hlj' : ¬ (j : Int) < (out.length : Int) := by omega
            have hd := HD.out
            rw [show out.take j = out from List.take_of_length_le (by omega)] at hd
            clear HD
            cases d
            · have hstep : tidyStep out y = out ++ [y] := by unfold tidyStep; rw [← hd]; rfl
              have HS := Lib.hid hstep
              clear hd hstep
              go_wp2_with ((with_reducible refine gate_builtin (b := .append) (xs := #[.tmp 61, .tmp 66]) rfl ?_); (try (refine gate_guard (by rfl) ?_; dsimp only)); at_builtin; go_loud (refine Kd.R_append kRule (w0 := w) (w.heap.size) rfl (.tmp 61) (.tmp 66) 41 65 (.agg #[(.int .i64 0), (.string ⟨#[]⟩), (.int .i64 0), (.string ⟨#[]⟩), (.string ⟨#[]⟩)]) 64 rfl Tryd.underlying41 info65 rfl (by decide) (by omega) (.slice Ao out.length co) (out) (y) [.int .i64 y.f0, .string y.f1, .int .i64 y.f2, .string y.f3.f0, .string y.f3.f1] (fun _ => True) (fun _ => False) rfl rfl (kRule_mkM _ _ _ y) (fun _ hk => hk.elim) (fun _ _ => trivial) ?aO9 ?aB9 ?aS9 ?aL9 ?_); (case aB9 => exact (by (with_reducible repeat (first | exact BV.out | refine bel_alloc ?_ _ | refine bel_set ?_ _ ?_ | refine blw_drewN ?_ _ | refine Below.drew ?_)); all_goals (first | (simp; done) | (simp; omega) | omega))); (case aO9 => exact HR2.out); (case aS9 => (refine Below.size (B := (w.heap.size)) (w := w) ?_; exact (by (with_reducible repeat (first | exact BV.out | refine bel_alloc ?_ _ | refine bel_set ?_ _ ?_ | refine blw_drewN ?_ _ | refine Below.drew ?_)); all_goals (first | (simp; done) | (simp; omega) | omega)))); (case aL9 => exact (by omega)); intro v9 w9 ho hb hg hat; have HO9 := Aside0.mk ho; have B9 := hb;  clear ho hb hg hat)
              go_roundg (xs.length - (k + 1))
              case measure => omega
              case rel => exact ⟨k + 1, by omega, Nat.le_refl _, by go_num, ⟨B9⟩, ⟨by rw [HN.out, HS.out]; exact HO9.out⟩⟩
            · have hstep : tidyStep out y = out := by unfold tidyStep; rw [← hd]; rfl
              have HS := Lib.hid hstep
              clear hd hstep
              go_wp2
              go_roundg (xs.length - (k + 1))
              case measure => omega
              case rel => exact ⟨k + 1, by omega, Nat.le_refl _, by go_num, BV, ⟨by rw [HN.out, HS.out]; exact HR2.out⟩⟩
      · have hlt' : ¬ ((k : Int) < (xs.length : Int)) := by omega
        have hall : xs.take k = xs := List.take_of_length_le (by omega)
        rw [hall] at HR
        have hol := foldl_len xs []
        rw [List.length_nil] at hol
        clear hall
        generalize xs.foldl tidyStep [] = zs at HR HT hol
        obtain ⟨Az, cz, rfl⟩ := Kd.R_slice HR.out
        have hcz := (Kd.R_reads' HR.out).2.1
        have HF := Aside0.mk (Kd.R_reads' HR.out).2.2
        clear HR
        go_wp2
        go_loopg [3] (zs.length) (fun g v wr => ∃ (ys : List SRule) (Ao : Option Addr) (co : Nat), ys.length ≤ g ∧ ys.length ≤ zs.length ∧ v = .slice Ao ys.length co ∧ ys.length ≤ co ∧ Aside0 (Below w.heap.size w wr) ∧ Aside0 (Kd.C kRule wr Ao ys.length ys) ∧ Aside0 (tidyEnd ys = tidyEnd zs))
        case atStart => exact ⟨zs, Az, cz, Nat.le_refl _, Nat.le_refl _, rfl, hcz, BW, HF, ⟨rfl⟩⟩
        case round =>
          clear HF BW hcz
          obtain ⟨ys, Ao, co, hyg, hyz, rfl, hl, BW, HF, HE⟩ := hrel
          by_cases hn : 0 < ys.length
          · obtain ⟨ad, e1, h0, h1, h2, h3, h4⟩ := at_Rule HF.out (ys.length - 1) (by omega)
            subst e1
            have hm : ((ys.length : Int) - 1).toNat = ys.length - 1 := by omega
            have hn' : ((ys.length : Int) > 0) := by omega
            have hsplit := split_last ys hn
            generalize ys.getD (ys.length - 1) zRule = y at h0 h1 h2 h3 h4 hsplit
            by_cases hd : y.f2 = 1
            · have hd' : (y.f2 == 1) = true := beq_iff_eq.2 hd
              have hcut := tidyEnd_cut (ys.take (ys.length - 1)) y hd
              rw [← hsplit] at hcut
              have HC := Lib.hid hcut
              clear hcut hsplit hd
              go_wp2
              go_roundg (ys.length - 1)
              case measure => omega
              case rel =>
                have hlt2 : (ys.take (ys.length - 1)).length = ys.length - 1 := by rw [List.length_take]; omega
                have hF := Kd.C_take (m := ys.length - 1) HF.out (by omega)
                exact ⟨ys.take (ys.length - 1), _, _, by omega, by omega, by rw [hlt2], by omega, BW, ⟨hF⟩, ⟨by rw [← HE.out, HC.out]⟩⟩
            · have hd' : (y.f2 == 1) = false := beq_eq_false_iff_ne.2 hd
              have hcut := tidyEnd_keep (ys.take (ys.length - 1)) y hd
              rw [← hsplit] at hcut
              have HC := Lib.hid hcut
              clear hcut hsplit hd
              go_wp2
              go_ret
              have ht : tidy xs = ys := by rw [HT.out, ← HE.out, HC.out]
              rw [ht]
              exact ⟨_, _, rfl, hl, HF.out, BW.out⟩
          · have hn' : ¬ ((ys.length : Int) > 0) := by omega
            have hnil : ys = [] := List.length_eq_zero_iff.1 (by omega)
            have ht : tidy xs = ys := by rw [HT.out, ← HE.out, hnil]; rfl
            have HTT := Lib.hid ht
            clear ht hnil
            go_wp2
            go_ret
            rw [HTT.out]
            exact ⟨_, _, rfl, hl, HF.out, BW.out⟩

end Go.Proofs.YtmfehmbgghfffaaDoor
