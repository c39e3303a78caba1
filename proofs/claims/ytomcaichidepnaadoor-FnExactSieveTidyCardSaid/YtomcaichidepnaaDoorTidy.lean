/- SieveTidy of the program: its answer in plain words. -/
import Derived.Test.YtomcaichidepnaaDoorSieve2
namespace Go.Proofs.YtomcaichidepnaaDoor
open Go.RowKit Go.Proofs.YtomcaichidepnaaDoorW.PrintWords P
set_option linter.unusedVariables false
set_option linter.unusedSimpArgs false

def covers (r : S57) (x : S57) : Bool := decide (x.f0 = 4) || (decide (x.f0 = r.f0) && decide (x.f1.data.toList = r.f1.data.toList))
def tidyStep (out : List S57) (r : S57) : List S57 := if out.any (covers r) then out else out ++ [r]
def tidyEnd (out : List S57) : List S57 := (out.reverse.dropWhile (fun x => decide (x.f2 = 1))).reverse
def tidy (xs : List S57) : List S57 := if sieveOk xs then tidyEnd (xs.foldl tidyStep []) else []

theorem covers_any (b : Nat) (r x : S57) (W : World) (h0 : W.cell? ⟨b, 0, none⟩ = some (.int .i64 r.f0)) (h1 : W.cell? ⟨b, 1, none⟩ = some (.string r.f1)) (hb : b < W.heap.size) :
    Calls Tryd.prog 40 (#[.agg #[.int .i64 x.f0, .string x.f1, .int .i64 x.f2, .string x.f3.f0, .string x.f3.f1]] ++ #[.pointer (some ⟨b, 0, none⟩)]) W fun e w' => e = .returned (.bool (covers r x)) ∧ Below W.heap.size W w' := by
  have hne : ¬ b = W.heap.size := by omega
  by_cases c1 : x.f0 = 4
  · have c1' : (x.f0 == 4) = true := beq_iff_eq.2 c1
    have HC := Lib.hid c1
    clear c1
    go_enter Tryd.func40, Tryd.ntmps40
    go_wp2
    go_ret
    exact ⟨retb (by unfold covers; rw [decide_eq_true HC.out]; rfl), (Below.refl _ _).alloc (Nat.le_refl _) _⟩
  · have c1' : (x.f0 == 4) = false := beq_eq_false_iff_ne.2 c1
    have HC := Lib.hid c1
    clear c1
    by_cases c2 : x.f0 = r.f0
    · have c2' : (x.f0 == r.f0) = true := beq_iff_eq.2 c2
      have HC2 := Lib.hid c2
      clear c2
      go_enter Tryd.func40, Tryd.ntmps40
      go_wp2
      go_ret
      refine ⟨retb ?_, (Below.refl _ _).alloc (Nat.le_refl _) _⟩
      unfold covers
      rw [decide_eq_false HC.out, decide_eq_true HC2.out, bl, bl, Bool.false_or, Bool.true_and]
      exact (by rw [Bool.eq_iff_iff, beq_iff_eq, decide_eq_true_iff] : (x.f1.data.toList == r.f1.data.toList) = decide (x.f1.data.toList = r.f1.data.toList))
    · have c2' : (x.f0 == r.f0) = false := beq_eq_false_iff_ne.2 c2
      have HC2 := Lib.hid c2
      clear c2
      go_enter Tryd.func40, Tryd.ntmps40
      go_wp2
      go_ret
      exact ⟨retb (by unfold covers; rw [decide_eq_false HC.out, decide_eq_false HC2.out]; rfl), (Below.refl _ _).alloc (Nat.le_refl _) _⟩

/-- The rounds of the first loop. -/
theorem tidy_take (xs : List S57) (k : Nat) (hk : k < xs.length) : (xs.take (k + 1)).foldl tidyStep [] = tidyStep ((xs.take k).foldl tidyStep []) (xs.getD k z57) := by
  rw [List.take_succ_eq_append_getElem hk, List.foldl_append, List.getD, List.getElem?_eq_getElem hk]; rfl
theorem tidyStep_len (out : List S57) (r : S57) : (tidyStep out r).length ≤ out.length + 1 := by
  unfold tidyStep; split
  · omega
  · simp
theorem foldl_len : ∀ (xs out : List S57), (xs.foldl tidyStep out).length ≤ out.length + xs.length
  | [], out => by simp
  | r :: xs, out => by
    have h1 := foldl_len xs (tidyStep out r)
    have h2 := tidyStep_len out r
    rw [List.foldl_cons, List.length_cons]; omega
theorem tidyEnd_keep (out : List S57) (y : S57) (h : y.f2 ≠ 1) : tidyEnd (out ++ [y]) = out ++ [y] := by
  unfold tidyEnd
  rw [List.reverse_append, List.reverse_singleton, List.singleton_append, List.dropWhile_cons, if_neg (by simpa using h)]
  simp
theorem tidyEnd_cut (out : List S57) (y : S57) (h : y.f2 = 1) : tidyEnd (out ++ [y]) = tidyEnd out := by
  unfold tidyEnd
  rw [List.reverse_append, List.reverse_singleton, List.singleton_append, List.dropWhile_cons, if_pos (by simpa using h)]

theorem split_last (ys : List S57) (h : 0 < ys.length) : ys = ys.take (ys.length - 1) ++ [ys.getD (ys.length - 1) z57] := by
  have hk : ys.length - 1 < ys.length := by omega
  have h1 := List.take_succ_eq_append_getElem hk
  rw [show ys.length - 1 + 1 = ys.length from by omega, List.take_length] at h1
  rw [List.getD, List.getElem?_eq_getElem hk, Option.getD_some]
  exact h1
/-- A slice of the call's own, from a block that is new since base; its capacity may be less than its block has. -/
def Fresh {α : Type} (d : Kd α) (e : Nat) (w : World) (base : Nat) (v : Value) (xs : List α) : Prop :=
  ∃ A c cap, v = .slice A xs.length c ∧ xs.length ≤ c ∧ Kd.R d e w base (fun _ => True) (.slice A xs.length cap) xs
theorem Fresh.nil {α : Type} (d : Kd α) (e : Nat) (w : World) (base : Nat) : Fresh d e w base (.slice none 0 0) ([] : List α) :=
  ⟨none, 0, 0, rfl, Nat.le_refl _, Kd.R_nil _ _ _ _ _⟩
theorem Fresh.of_R {α : Type} {d : Kd α} {e : Nat} {w : World} {base : Nat} {v : Value} {xs : List α} (h : Kd.R d e w base (fun _ => True) v xs) : Fresh d e w base v xs := by
  obtain ⟨A, c, rfl, hl, hC⟩ := Kd.R_reads h
  exact ⟨A, c, c, rfl, hl, h⟩
theorem Fresh.below {α : Type} {d : Kd α} {e : Nat} {w w' : World} {base : Nat} {v : Value} {xs : List α} (h : Fresh d e w base v xs) (hb : Below w.heap.size w w') : Fresh d e w' base v xs := by
  obtain ⟨A, c, cap, rfl, hl, hR⟩ := h
  exact ⟨A, c, cap, rfl, hl, Kd.R_below hR hb⟩
theorem Fresh.cut {α : Type} {d : Kd α} {e : Nat} {w : World} {base : Nat} {A : Option Addr} {cap : Nat} {xs : List α} (h : Kd.R d e w base (fun _ => True) (.slice A xs.length cap) xs) (m : Nat) (hm : m < xs.length) : Fresh d e w base (.slice A (xs.take m).length (xs.take m).length) (xs.take m) := by
  have hl : (xs.take m).length = m := by rw [List.length_take]; omega
  exact ⟨A, _, cap, rfl, Nat.le_refl _, by rw [hl]; exact Kd.R_take h (by omega)⟩

set_option maxRecDepth 100000 in
set_option maxHeartbeats 2000000 in
theorem SieveTidy_any (A : Option Addr) (c : Nat) (xs : List S57) (w : World) (hr : Kd.C k57 w A xs.length xs) (hlen : xs.length ≤ 1048576) (hx : ∀ x ∈ xs, RFit x) (hG : Glob w) :
    Calls Tryd.prog 15 #[.slice A xs.length c] w fun e w' => ∃ v, e = .returned v ∧ Fresh k57 57 w' w.heap.size v (tidy xs) ∧ Below w.heap.size w w' := by
  have hok := SieveOk_any A c xs w hr (by omega) hx hG
  have HX := Lib.hid hx
  clear hx
  cases hq : sieveOk xs
  · rw [hq] at hok
    have ht : tidy xs = [] := by unfold tidy; rw [hq]; rfl
    rw [ht]
    clear hq ht hr
    go_enter Tryd.func15, Tryd.ntmps15
    go_wp2_with (go_at_call 12; refine hok.mono ?_; rintro e w' ⟨rfl, hb'⟩)
    go_ret
    exact ⟨_, rfl, Fresh.nil _ _ _ _, hb'⟩
  · rw [hq] at hok
    have ht : tidy xs = tidyEnd (xs.foldl tidyStep []) := by unfold tidy; rw [hq]; rfl
    have HT := Lib.hid ht
    clear hq ht
    go_enter Tryd.func15, Tryd.ntmps15
    go_wp2_with (go_at_call 12; refine hok.mono ?_; rintro e w' ⟨rfl, hb'⟩)
    go_loopg [3, 12] (xs.length) (fun g v i wr => ∃ k : Nat, k ≤ xs.length ∧ xs.length - k ≤ g ∧ i = .int .i64 k ∧ Aside0 (Below w.heap.size w wr) ∧ Aside0 (Kd.R k57 57 wr w.heap.size (fun _ => True) v ((xs.take k).foldl tidyStep [])))
    case atStart => exact ⟨0, Nat.zero_le _, by omega, rfl, ⟨hb'⟩, ⟨Kd.R_nil _ _ _ _ _⟩⟩
    case round =>
      obtain ⟨k, hk, hg, rfl, BW, HR⟩ := hrel
      by_cases hlt : k < xs.length
      · obtain ⟨ad, e1, h0, h1, h2, h3, h4⟩ := at_T57 (Kd.C_below hr BW.out) (k : Int) (by omega) (by omega)
        subst e1
        rw [Int.toNat_natCast] at h0 h1 h2 h3 h4
        have hnext := tidy_take xs k hlt
        have hol := foldl_len (xs.take k) []
        have hy : xs.getD k z57 = rd_T57 xs (k : Int) := rfl
        rw [hy] at hnext
        generalize rd_T57 xs (k : Int) = y at h0 h1 h2 h3 h4 hnext
        generalize (xs.take k).foldl tidyStep [] = out at HR hnext hol
        have hol' : out.length ≤ 1048576 := by rw [List.length_nil, List.length_take] at hol; omega
        obtain ⟨Ao, co, rfl⟩ := Kd.R_slice HR.out
        have HN := Lib.hid hnext
        have hsz := BW.out.size
        clear hnext hol hy
        have hcont := fun (W1 : World) (hW : W1 = wr.alloc (.cells #[.int .i64 y.f0, .string y.f1, .int .i64 y.f2, .string y.f3.f0, .string y.f3.f1] 57)) =>
          ContainsFunc_Rule 40 #[.pointer (some ⟨wr.heap.size, 0, none⟩)] (covers y) (enters_of Tryd.func40 (by kernel_rfl) rfl) Ao co out W1
            (by rw [hW]; exact Kd.C_below (Kd.R_reads' HR.out).2.2 ((Below.refl _ _).alloc (Nat.le_refl _) _)) (by omega)
            (fun W x _ hb => covers_any wr.heap.size y x W ((hb.cell (p := ⟨wr.heap.size, 0, none⟩) (by rw [hW]; simp)).trans (by rw [hW]; simp)) ((hb.cell (p := ⟨wr.heap.size, 1, none⟩) (by rw [hW]; simp)).trans (by rw [hW]; simp)) (by have := hb.size; rw [hW] at this; simp at this; omega))
        cases hq : out.any (covers y)
        · have hstep : tidyStep out y = out ++ [y] := by unfold tidyStep; rw [hq]; rfl
          rw [hq] at hcont
          have HS := Lib.hid hstep
          clear hq hstep
          go_wp2_with (first | (go_at_call 36; refine (hcont _ rfl).mono ?_; rintro e w2 ⟨rfl, hb2⟩; have c0 := (hb2.cell (p := ⟨wr.heap.size, 0, none⟩) (by simp)).trans (by simp : _ = some (.int .i64 y.f0)); have c1 := (hb2.cell (p := ⟨wr.heap.size, 1, none⟩) (by simp)).trans (by simp : _ = some (.string y.f1)); have c2 := (hb2.cell (p := ⟨wr.heap.size, 2, none⟩) (by simp)).trans (by simp : _ = some (.int .i64 y.f2)); have c3 := (hb2.cell (p := ⟨wr.heap.size, 3, none⟩) (by simp)).trans (by simp : _ = some (.string y.f3.f0)); have c4 := (hb2.cell (p := ⟨wr.heap.size, 4, none⟩) (by simp)).trans (by simp : _ = some (.string y.f3.f1)); have BW2 : Aside0 (Below w.heap.size w w2) := ⟨((BW.out.alloc hsz _).trans (hb2.mono (by simp; omega)))⟩; have HR2 : Aside0 (Kd.R k57 57 w2 w.heap.size (fun _ => True) (.slice Ao out.length co) out) := ⟨Kd.R_below (Kd.R_alloc HR.out _) hb2⟩; clear hb2 hcont) | ((with_reducible refine gate_builtin (b := .append) (xs := #[.tmp 21, .tmp 23]) rfl ?_); (try (refine gate_guard (by rfl) ?_; dsimp only)); at_builtin; refine Kd.R_append k57 (w0 := w) w.heap.size rfl (.tmp 21) (.tmp 23) 25 57 (.agg #[(.int .i64 0), (.string ⟨#[]⟩), (.int .i64 0), (.string ⟨#[]⟩), (.string ⟨#[]⟩)]) 64 rfl Tryd.underlying25 info57 rfl (by decide) (by omega) (.slice Ao out.length co) out y [.int .i64 y.f0, .string y.f1, .int .i64 y.f2, .string y.f3.f0, .string y.f3.f1] (fun _ => True) (fun _ => False) rfl rfl ?aP (fun _ hk => hk.elim) ?aF ?aO ?aB ?aS ?aL ?_; (case aP => exact k57_mkM _ _ _ y); (case aB => exact BW2.out); (case aF => exact (fun _ _ => trivial)); (case aO => exact HR2.out); (case aS => exact BW2.out.size); (case aL => omega); intro v173 w25 ho hb hg hat; have n0_ := Aside0.mk (hb); have n1_ := Aside0.mk (ho); clear hb ho hg hat))
          go_roundg (xs.length - (k+1))
          case measure => omega
          case rel => exact ⟨k + 1, by omega, Nat.le_refl _, rfl, n0_, ⟨by rw [HN.out, HS.out]; exact n1_.out⟩⟩
        · have hstep : tidyStep out y = out := by unfold tidyStep; rw [hq]; rfl
          rw [hq] at hcont
          have HS := Lib.hid hstep
          clear hq hstep
          go_wp2_with (go_at_call 36; refine (hcont _ rfl).mono ?_; rintro e w2 ⟨rfl, hb2⟩; have BW2 : Aside0 (Below w.heap.size w w2) := ⟨((BW.out.alloc hsz _).trans (hb2.mono (by simp; omega)))⟩; have HR2 : Aside0 (Kd.R k57 57 w2 w.heap.size (fun _ => True) (.slice Ao out.length co) out) := ⟨Kd.R_below (Kd.R_alloc HR.out _) hb2⟩; clear hb2 hcont)
          go_roundg (xs.length - (k+1))
          case measure => omega
          case rel => exact ⟨k + 1, by omega, Nat.le_refl _, rfl, BW2, ⟨by rw [HN.out, HS.out]; exact HR2.out⟩⟩
      · have hlt' : ¬ ((k : Int) < (xs.length : Int)) := by omega
        have hall : xs.take k = xs := List.take_of_length_le (by omega)
        rw [hall] at HR
        have HF := Aside0.mk (Fresh.of_R HR.out)
        have hol := foldl_len xs []
        rw [List.length_nil] at hol
        clear HR hall
        generalize xs.foldl tidyStep [] = zs at HF HT hol
        go_wp2
        go_loopg [3] (zs.length) (fun g v wr => ∃ ys : List S57, ys.length ≤ g ∧ ys.length ≤ zs.length ∧ Aside0 (Below w.heap.size w wr) ∧ Aside0 (Fresh k57 57 wr w.heap.size v ys) ∧ Aside0 (tidyEnd ys = tidyEnd zs))
        case atStart => exact ⟨zs, Nat.le_refl _, Nat.le_refl _, BW, HF, ⟨rfl⟩⟩
        case round =>
          clear HF BW
          obtain ⟨ys, hyg, hyz, BW, HF, HE⟩ := hrel
          obtain ⟨Ao, co, cap, rfl, hl, hR⟩ := HF.out
          have hC := (Kd.R_reads' hR).2.2
          by_cases hn : 0 < ys.length
          · obtain ⟨ad, e1, h0, h1, h2, h3, h4⟩ := at_T57 hC ((ys.length : Int) - 1) (by omega) (by omega)
            subst e1
            have hm : ((ys.length : Int) - 1).toNat = ys.length - 1 := by omega
            rw [hm] at h0 h1 h2 h3 h4
            have hn' : ((ys.length : Int) > 0) := by omega
            have hsplit := split_last ys hn
            have hy : ys.getD (ys.length - 1) z57 = rd_T57 ys ((ys.length : Int) - 1) := by rw [← hm]; rfl
            rw [hy] at hsplit
            generalize rd_T57 ys ((ys.length : Int) - 1) = y at h0 h1 h2 h3 h4 hsplit
            clear hm hy
            by_cases hd : y.f2 = 1
            · have hd' : (y.f2 == 1) = true := beq_iff_eq.2 hd
              have hcut := tidyEnd_cut (ys.take (ys.length - 1)) y hd
              rw [← hsplit] at hcut
              have HC := Lib.hid hcut
              clear hcut hsplit hd
              go_wp2
              go_roundg (ys.length - 1)
              case measure => omega
              case rel =>
                have hlt2 : (ys.take (ys.length - 1)).length = ys.length - 1 := by rw [List.length_take]; omega
                have hF := Fresh.cut hR (ys.length - 1) (by omega)
                exact ⟨ys.take (ys.length - 1), by omega, by omega, BW, ⟨by rw [hlt2] at hF; exact hF⟩, ⟨by rw [← HE.out, HC.out]⟩⟩
            · have hd' : (y.f2 == 1) = false := beq_eq_false_iff_ne.2 hd
              have hcut := tidyEnd_keep (ys.take (ys.length - 1)) y hd
              rw [← hsplit] at hcut
              have HC := Lib.hid hcut
              clear hcut hsplit hd
              go_wp2
              go_ret
              refine ⟨_, rfl, ?_, BW.out⟩
              rw [HT.out, ← HE.out, HC.out]
              exact HF.out
          · have hn' : ¬ ((ys.length : Int) > 0) := by omega
            have hnil : ys = [] := List.length_eq_zero_iff.1 (by omega)
            go_wp2
            go_ret
            refine ⟨_, rfl, ?_, BW.out⟩
            rw [HT.out, ← HE.out, hnil]
            subst hnil
            exact HF.out
end Go.Proofs.YtomcaichidepnaaDoor
