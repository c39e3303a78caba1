/- The law on SieveTidy, walked. -/
import Derived.Test.YtomcaichidepnaaDoorTidy2
import Derived.Test.YtomcaichidepnaaDoorLawSieveOk
namespace Go.Proofs.YtomcaichidepnaaDoor
open Go.RowKit Go.Proofs.YtomcaichidepnaaDoorW.PrintWords P
set_option linter.unusedVariables false
set_option linter.unusedSimpArgs false

theorem R_apart {α : Type} {d : Kd α} {e : Nat} {w w1 : World} {base : Nat} {ok : Nat → Prop} {v : Value} {xs : List α} (h : Kd.R d e w base ok v xs) {row : Option Nat} (hg : w.grownBy w1 row) (hr : ∀ k, row = some k → k < base) : Kd.R d e w1 base ok v xs :=
  Kd.R_mono (Kd.R_grown (Kd.R_bound h) hg (fun k hk he => by have := hr k he.symm; omega)) (fun k hk => hk.1)
theorem R_elder {α : Type} {d : Kd α} {e : Nat} {w : World} {base : Nat} {ok : Nat → Prop} {v : Value} {xs : List α} (h : Kd.R d e w base ok v xs) : Kd.R d e w base (fun k => k < w.heap.size) v xs :=
  Kd.R_mono (Kd.R_bound h) (fun k hk => hk.2.2.1)
theorem tidy_small (xs : List S57) (h : Small xs.length) : Small (tidy xs).length := by
  have h' : xs.length ≤ 1048576 := h
  have e : ∀ ys : List S57, (tidyEnd ys).length ≤ ys.length := fun ys => by
    unfold tidyEnd
    rw [List.length_reverse]
    exact Nat.le_trans (List.dropWhile_sublist _).length_le (by rw [List.length_reverse]; exact Nat.le_refl _)
  show (tidy xs).length ≤ 1048576
  unfold tidy
  split
  · have h1 := e (xs.foldl tidyStep [])
    have h2 := foldl_len xs []
    rw [List.length_nil] at h2
    omega
  · exact Nat.zero_le _
theorem specTidy_any (A : Option Addr) (c : Nat) (xs : List S57) (w : World) (hr : Kd.C k57 w A xs.length xs) (hc : xs.length ≤ c) (hl : Small xs.length) (hx : ∀ x ∈ xs, RFit x) :
    Calls Tryd.prog 14 #[.slice A xs.length c] w fun e w' => ∃ A' c', e = .returned (.slice A' (tidy xs).length c') ∧ (tidy xs).length ≤ c' ∧ Kd.R k57 57 w' w.heap.size (fun _ => True) (.slice A' (tidy xs).length c') (tidy xs) ∧ Below w.heap.size w w' := by
  obtain ⟨k, hk⟩ := (specTidy_ev xs hl hx).rounds
  refine (spec_SieveTidy.calls k A c xs _ w hr hc hk).mono ?_
  rintro e w' ⟨v, rfl, hR, hb⟩
  obtain ⟨A', c', rfl, h1, h2⟩ := Kd.R_reads hR
  exact ⟨A', c', rfl, h1, hR, hb⟩
theorem SieveTidy_is (A : Option Addr) (c : Nat) (xs : List S57) (w : World) (hr : Kd.C k57 w A xs.length xs) (hl : Small xs.length) (hx : ∀ x ∈ xs, RFit x) (hG : Glob w) :
    Calls Tryd.prog 15 #[.slice A xs.length c] w fun e w' => ∃ A' c' cap, e = .returned (.slice A' (tidy xs).length c') ∧ (tidy xs).length ≤ c' ∧ Kd.R k57 57 w' w.heap.size (fun _ => True) (.slice A' (tidy xs).length cap) (tidy xs) ∧ Below w.heap.size w w' := by
  refine (SieveTidy_any A c xs w hr hl hx hG).mono ?_
  rintro e w' ⟨v, rfl, ⟨A', c', cap, rfl, h1, h2⟩, hb⟩
  exact ⟨A', c', cap, rfl, h1, h2, hb⟩

set_option maxHeartbeats 4000000 in
theorem walkTidy (A : Option Addr) (c : Nat) (xs : List S61) (w : World) (hr : Kd.C k61 w A xs.length xs) (hc : xs.length ≤ c) (hl : Wide xs.length) (hw : ∀ x ∈ xs, wideR x) (hwf : ∀ x ∈ xs, wfR x) (hG : Glob w) :
    Calls Tryd.prog 4 #[.slice A xs.length c] w fun e w' => e = .returned (.bool true) ∧ Below w.heap.size w w' := by
  obtain ⟨r, hs, hsz⟩ := szRuleS_any A c xs w hr hc hl hw
  by_cases h0 : r < 0
  · clear hs hr hw hwf
    go_enter Tryd.func4, Tryd.ntmps4
    go_wp2_with fail
    refine hsz.mono ?_
    rintro e w1 ⟨rfl, hb1⟩
    go_wp2
    go_ret
    exact ⟨rfl, hb1⟩
  · obtain ⟨hl', hsm⟩ := hs (by omega)
    have hfit : ∀ x ∈ xs.map convR, RFit x := by
      intro x hx
      obtain ⟨y, hy, rfl⟩ := List.mem_map.1 hx
      obtain ⟨a1, a2, a3⟩ := hsm y hy
      have b1 : y.f1.size ≤ 1048576 := a1
      have b2 : y.f3.f0.size ≤ 1048576 := a2
      have b3 : y.f3.f1.size ≤ 1048576 := a3
      exact ⟨(hwf y hy).1, (hwf y hy).2, show y.f1.size < _ by omega, show y.f3.f0.size < _ by omega, show y.f3.f1.size < _ by omega⟩
    have hl2 : Small (xs.map convR).length := by rw [List.length_map]; exact hl'
    have hto := fun W hW => toRuleS_any A c xs W hW hc hl'
    have ht2 := tidy_small _ hl2
    generalize xs.map convR = ys at hfit hl2 hto ht2
    have hspec := fun A c W hr hc => specTidy_any A c ys W hr hc hl2 hfit
    have himpl := fun A c W hr hG => SieveTidy_is A c ys W hr hl2 hfit hG
    generalize tidy ys = ts at hspec himpl ht2
    clear hs hw hwf hsm hfit
    have HR := Lib.hid hr
    clear hr
    go_enter Tryd.func4, Tryd.ntmps4
    go_wp2_with fail
    refine hsz.mono ?_
    rintro e w1 ⟨rfl, B1⟩
    clear hsz
    go_wp2_with fail
    refine (hto _ (Kd.C_below HR.out B1)).mono ?_
    rintro e w2 ⟨A2, c2, rfl, hc2, R2, hb2⟩
    have B2 := B1.trans (hb2.mono B1.size)
    go_wp2_with fail
    refine (hspec A2 c2 _ (Kd.R_reads' R2).2.2 hc2).mono ?_
    rintro e w3 ⟨A3, c3, rfl, hc3, R3, hb3⟩
    have B3 := B2.trans (hb3.mono B2.size)
    have E3 := R_elder R3
    clear R3 R2 hc2
    go_wp2_with fail
    refine (hto _ (Kd.C_below HR.out B3)).mono ?_
    rintro e w4 ⟨A4, c4, rfl, hc4, R4, hb4⟩
    have B4 := B3.trans (hb4.mono B3.size)
    have s4 := hb4.size
    have E4 := Kd.R_below E3 hb4
    have O4 := R_elder R4
    go_wp2_with fail
    refine (himpl A4 c4 _ (Kd.R_reads' R4).2.2 (hG.below B4)).mono ?_
    rintro e w5 ⟨A5, c5, cap5, rfl, hc5, R5, hb5⟩
    have B5 := B4.trans (hb5.mono B4.size)
    have E5 := Kd.R_below E4 hb5
    have X5 := Kd.R_below R4 hb5
    have own5 := fun k (hk : (Value.slice A4 ys.length c4).ownBlock = some k) => O4.1 k hk
    go_wp2_with fail
    refine (eqRuleS_any A5 A3 c5 c3 ts _ (Kd.R_reads' R5).2.2 hc5 (Kd.R_reads' E5).2.2 hc3 ht2).mono ?_
    rintro e w6 ⟨rfl, hb6⟩
    have B6 := B5.trans (hb6.mono B5.size)
    have E6 := Kd.R_below E5 hb6
    have X6 := Kd.R_below X5 hb6
    have G6 := Kd.R_below R5 hb6
    go_wp2_with fail
    refine (hto _ (Kd.C_below HR.out B6)).mono ?_
    rintro e w7 ⟨A7, c7, rfl, hc7, R7, hb7⟩
    have B7 := B6.trans (hb7.mono B6.size)
    have E7 := Kd.R_below E6 hb7
    have X7 := Kd.R_below X6 hb7
    have G7 := Kd.R_below G6 hb7
    go_wp2_with fail
    refine (eqRuleS_any A4 A7 c4 c7 ys _ (Kd.R_reads' X7).2.2 hc4 (Kd.R_reads' R7).2.2 hc7 hl2).mono ?_
    rintro e w8 ⟨rfl, hb8⟩
    have B8 := B7.trans (hb8.mono B7.size)
    have E8 := Kd.R_below E7 hb8
    have X8 := Kd.R_below X7 hb8
    have G8 := Kd.R_below G7 hb8
    clear R7 hc7 E3 E4 E5 E6 E7 X5 X6 X7 G6 G7 R4 O4 R5
    go_wp2_with fail
    refine (markRuleS_any A4 c4 c4 ys.length ys rfl _ _ X8 hl2).mono ?_
    rintro e w9 ⟨rfl, X9, g9⟩
    have row9 := Kd.R_base X8
    have E9 : Kd.R k57 57 w9 _ _ _ ts := Kd.R_grown E8 g9 (fun k hk he => by have := row9 k he.symm; omega)
    have G9 := R_apart G8 g9 (fun k hk => own5 k hk)
    have B9 : Below w.heap.size w w9 := B8.grown g9 B8.size (fun k hk => by have := row9 k hk; have := B3.size; omega)
    clear E8 X8 G8 X9
    have k9 : ¬ (1 + 5 * (ys.length : Int) < 0) := by omega
    go_wp2_with fail
    refine (eqRuleS_any A5 A3 c5 c3 ts _ (Kd.R_reads' G9).2.2 hc5 (Kd.R_reads' E9).2.2 hc3 ht2).mono ?_
    rintro e w10 ⟨rfl, hb10⟩
    have B10 := B9.trans (hb10.mono B9.size)
    have E10 := Kd.R_below E9 hb10
    have G10 := Kd.R_below G9 hb10
    clear E9 G9
    go_wp2_with fail
    refine (markRuleS_any A5 c5 cap5 ts.length ts rfl _ _ G10 ht2).mono ?_
    rintro e w11 ⟨rfl, G11, g11⟩
    have row11 := Kd.R_base G10
    have E11 : Kd.R k57 57 w11 _ _ _ ts := Kd.R_grown E10 g11 (fun k hk he => by have := row11 k he.symm; omega)
    have B11 : Below w.heap.size w w11 := B10.grown g11 B10.size (fun k hk => by have := row11 k hk; have := B4.size; omega)
    clear E10 G10
    go_wp2_with fail
    refine (held_any A5 c5 ts.length _ (by have := (Kd.R_reads' G11).2.2; rw [marked_len] at this; exact this) hc5 ht2).mono ?_
    rintro e w12 ⟨rfl, hb12⟩
    have B12 := B11.trans (hb12.mono B11.size)
    have E12 := Kd.R_below E11 hb12
    have G12 := Kd.R_below G11 hb12
    clear E11 G11
    have k12 : ¬ (1 + 5 * (ts.length : Int) < 0) := by omega
    go_wp2_with fail
    refine (hto _ (Kd.C_below HR.out B12)).mono ?_
    rintro e w13 ⟨A13, c13, rfl, hc13, R13, hb13⟩
    have B13 := B12.trans (hb13.mono B12.size)
    have E13 := Kd.R_below E12 hb13
    have G13 := Kd.R_below G12 hb13
    clear E12 G12
    go_wp2_with fail
    refine (himpl A13 c13 _ (Kd.R_reads' R13).2.2 (hG.below B13)).mono ?_
    rintro e w14 ⟨A14, c14, cap14, rfl, hc14, R14, hb14⟩
    have B14 := B13.trans (hb14.mono B13.size)
    have E14 := Kd.R_below E13 hb14
    have G14 := Kd.R_below G13 hb14
    clear E13 G13 R13
    go_wp2_with fail
    refine (eqRuleS_any A14 A3 c14 c3 ts _ (Kd.R_reads' R14).2.2 hc14 (Kd.R_reads' E14).2.2 hc3 ht2).mono ?_
    rintro e w15 ⟨rfl, hb15⟩
    have B15 := B14.trans (hb15.mono B14.size)
    have G15 := Kd.R_below G14 hb15
    clear E14 G14 R14
    go_wp2_with fail
    refine (held_any A5 c5 ts.length _ (by have := (Kd.R_reads' G15).2.2; rw [marked_len] at this; exact this) hc5 ht2).mono ?_
    rintro e w16 ⟨rfl, hb16⟩
    have B16 := B15.trans (hb16.mono B15.size)
    go_wp2
    go_ret
    exact ⟨rfl, B16⟩
end Go.Proofs.YtomcaichidepnaaDoor
