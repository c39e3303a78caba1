/- The law on SieveOk, walked. -/
import Derived.Test.YtomcaichidepnaaDoorHelpRule
namespace Go.Proofs.YtomcaichidepnaaDoor
open Go.RowKit Go.Proofs.YtomcaichidepnaaDoorW.PrintWords P
set_option linter.unusedVariables false
set_option linter.unusedSimpArgs false

theorem szRuleS_any (A : Option Addr) (c : Nat) (xs : List S61) (w : World) (hr : Kd.C k61 w A xs.length xs) (hc : xs.length ≤ c) (hl : Wide xs.length) (hw : ∀ x ∈ xs, wideR x) :
    ∃ r : Int, (0 ≤ r → Small xs.length ∧ ∀ x ∈ xs, smallR x) ∧ Calls Tryd.prog 9 #[.slice A xs.length c, .int .i64 1048576] w fun e w' => e = .returned (.int .i64 r) ∧ Below w.heap.size w w' := by
  obtain ⟨r, hr', hs⟩ := szRuleS_ev xs 1048576 (by omega) (by omega) hl hw
  obtain ⟨k, hk⟩ := hr'.rounds
  exact ⟨r, hs, laws_szRuleS.calls k A c xs 1048576 r w hr hc hk⟩
theorem toRuleS_any (A : Option Addr) (c : Nat) (xs : List S61) (w : World) (hr : Kd.C k61 w A xs.length xs) (hc : xs.length ≤ c) (hl : Small xs.length) :
    Calls Tryd.prog 11 #[.slice A xs.length c] w fun e w' => ∃ A' c', e = .returned (.slice A' (xs.map convR).length c') ∧ (xs.map convR).length ≤ c' ∧ Kd.R k57 57 w' w.heap.size (fun _ => True) (.slice A' (xs.map convR).length c') (xs.map convR) ∧ Below w.heap.size w w' := by
  obtain ⟨k, hk⟩ := (toRuleS_ev xs (by have : xs.length ≤ 1048576 := hl; omega)).rounds
  refine (laws_toRuleS.calls k A c xs _ w hr hc hk).mono ?_
  rintro e w' ⟨v, rfl, hR, hb⟩
  obtain ⟨A', c', rfl, h1, h2⟩ := Kd.R_reads hR
  exact ⟨A', c', rfl, h1, hR, hb⟩
theorem specSieveOk_any (A : Option Addr) (c : Nat) (xs : List S57) (w : World) (hr : Kd.C k57 w A xs.length xs) (hc : xs.length ≤ c) (hl : Small xs.length) (hx : ∀ x ∈ xs, RFit x) :
    Calls Tryd.prog 10 #[.slice A xs.length c] w fun e w' => e = .returned (.bool (sieveOk xs)) ∧ Below w.heap.size w w' := by
  have h : Ev (fun n => spec_SieveOk.f n xs) (sieveOk xs) := by
    unfold spec_SieveOk.f
    exact Ev.bind (sieveOk_ev xs (by have : xs.length ≤ 1048576 := hl; omega) hx) (Ev.now _)
  obtain ⟨k, hk⟩ := h.rounds
  exact spec_SieveOk.calls k A c xs _ w hr hc hk
theorem eqRuleS_any (A A' : Option Addr) (c c' : Nat) (xs : List S57) (w : World) (hr : Kd.C k57 w A xs.length xs) (hc : xs.length ≤ c) (hr' : Kd.C k57 w A' xs.length xs) (hc' : xs.length ≤ c') (hl : Small xs.length) :
    Calls Tryd.prog 13 #[.slice A xs.length c, .slice A' xs.length c'] w fun e w' => e = .returned (.bool true) ∧ Below w.heap.size w w' := by
  obtain ⟨k, hk⟩ := (eqRuleS_ev xs (by have : xs.length ≤ 1048576 := hl; omega)).rounds
  exact laws_eqRuleS.calls k A c xs A' c' xs _ w hr hc hr' hc' hk

def wfR (x : S61) : Prop := (Lit.int .i64 x.f0).wf = true ∧ (Lit.int .i64 x.f2).wf = true

set_option maxHeartbeats 1000000 in
theorem walkSieveOk (A : Option Addr) (c : Nat) (xs : List S61) (w : World) (hr : Kd.C k61 w A xs.length xs) (hc : xs.length ≤ c) (hl : Wide xs.length) (hw : ∀ x ∈ xs, wideR x) (hwf : ∀ x ∈ xs, wfR x) (hG : Glob w) :
    Calls Tryd.prog 3 #[.slice A xs.length c] w fun e w' => e = .returned (.bool true) ∧ Below w.heap.size w w' := by
  obtain ⟨r, hs, hsz⟩ := szRuleS_any A c xs w hr hc hl hw
  by_cases h0 : r < 0
  · clear hs hr hw hwf
    go_enter Tryd.func3, Tryd.ntmps3
    go_wp2_with fail
    refine hsz.mono ?_
    rintro e w1 ⟨rfl, hb1⟩
    go_wp2
    go_ret
    exact ⟨rfl, hb1⟩
  · obtain ⟨hl', hsm⟩ := hs (by omega)
    have hfit : ∀ x ∈ xs.map convR, RFit x := by
      intro x hx
      obtain ⟨y, hy, rfl⟩ := List.mem_map.1 hx
      obtain ⟨a1, a2, a3⟩ := hsm y hy
      have b1 : y.f1.size ≤ 1048576 := a1
      have b2 : y.f3.f0.size ≤ 1048576 := a2
      have b3 : y.f3.f1.size ≤ 1048576 := a3
      exact ⟨(hwf y hy).1, (hwf y hy).2, show y.f1.size < _ by omega, show y.f3.f0.size < _ by omega, show y.f3.f1.size < _ by omega⟩
    have hl2 : Small (xs.map convR).length := by rw [List.length_map]; exact hl'
    have hto := fun W hW => toRuleS_any A c xs W hW hc hl'
    generalize xs.map convR = ys at hfit hl2 hto
    have hl3 : ys.length ≤ 4611686018427387904 := by have : ys.length ≤ 1048576 := hl2; omega
    clear hs hw hwf hsm
    go_enter Tryd.func3, Tryd.ntmps3
    go_wp2_with fail
    refine hsz.mono ?_
    rintro e w1 ⟨rfl, hb1⟩
    clear hsz
    go_wp2_with fail
    refine (hto _ (Kd.C_below hr hb1)).mono ?_
    rintro e w2 ⟨A2, c2, rfl, hc2, hR2, hb2⟩
    have B2 := hb1.trans (hb2.mono hb1.size)
    go_wp2_with fail
    refine (specSieveOk_any A2 c2 ys _ (Kd.R_reads' hR2).2.2 hc2 hl2 hfit).mono ?_
    rintro e w3 ⟨rfl, hb3⟩
    have B3 := B2.trans (hb3.mono B2.size)
    clear hR2 hc2
    go_wp2_with fail
    refine (hto _ (Kd.C_below hr B3)).mono ?_
    rintro e w4 ⟨A4, c4, rfl, hc4, hR4, hb4⟩
    have B4 := B3.trans (hb4.mono B3.size)
    go_wp2_with fail
    refine (SieveOk_any A4 c4 ys _ (Kd.R_reads' hR4).2.2 hl3 hfit (hG.below B4)).mono ?_
    rintro e w5 ⟨rfl, hb5⟩
    have B5 := B4.trans (hb5.mono B4.size)
    have hR5 := Kd.R_below hR4 hb5
    clear hR4
    go_wp2_with fail
    refine (hto _ (Kd.C_below hr B5)).mono ?_
    rintro e w6 ⟨A6, c6, rfl, hc6, hR6, hb6⟩
    have B6 := B5.trans (hb6.mono B5.size)
    have hR56 := Kd.R_below hR5 hb6
    clear hR5
    go_wp2_with fail
    refine (eqRuleS_any A4 A6 c4 c6 ys _ (Kd.R_reads' hR56).2.2 hc4 (Kd.R_reads' hR6).2.2 hc6 hl2).mono ?_
    rintro e w7 ⟨rfl, hb7⟩
    go_wp2
    go_ret
    exact ⟨rfl, B6.trans (hb7.mono B6.size)⟩
end Go.Proofs.YtomcaichidepnaaDoor
