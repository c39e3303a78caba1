/- SpoolAdd of the program: a contract. -/
import Derived.Test.YtiaibgkpohmihaaGreatDoorReg
import Derived.Test.YtiaibgkpohmihaaGreatDoorSpCopy
import Derived.Test.YtiaibgkpohmihaaGreatDoorCpAdd
import Derived.Test.YtiaibgkpohmihaaGreatDoorSpoolM
import Derived.Test.YtiaibgkpohmihaaGreatDoorMailS
import Derived.IntWalk
import Derived.Test.YtiaibgkpohmihaaGreatDoorCpSpool
import Derived.Test.YtiaibgkpohmihaaGreatDoorSpoolS3
namespace Go.Proofs.YtiaibgkpohmihaaGreatDoor
open Go.RowKit Go.Proofs.YtiaibgkpohmihaaGreatDoorW.PrintWords
set_option linter.unusedVariables false
set_option linter.unusedSimpArgs false

def goodAdd (s : SSpool) (m : SMail) (now : Int) : Bool := mailOkS m && ((decide (0 ≤ now) && decide (now ≤ 9999)) && (decide ((s.f1.length : Int) < 10) && decide (s.f0 < 999)))
def spAdd (s : SSpool) (m : SMail) (now : Int) : SSpool := if spoolOk s then (if goodAdd s m now then ⟨s.f0 + 1, s.f1 ++ [newItem s m now]⟩ else s) else ⟨0, []⟩
def spAddOk (s : SSpool) (m : SMail) (now : Int) : Bool := spoolOk s && goodAdd s m now
def spPost (b : Nat) (x : SSpool) (q : Bool) (w : World) (e : Ending) (w' : World) : Prop := ∃ B d, e = .returned (.tuple #[.agg #[.int .i64 x.f0, .slice B x.f1.length d], .bool q]) ∧ Kd.R kItem 55 w' b (fun _ => True) (.slice B x.f1.length d) x.f1 ∧ Below w.heap.size w w'

theorem room_any (la : Int) (A : Option Addr) (n c : Nat) (w : World) :
  Calls Tryz.prog 32 #[.agg #[.int .i64 la, .slice A n c]] w fun e w' => e = .returned (.bool (decide ((n : Int) < 10) && decide (la < 999))) ∧ Below w.heap.size w w' := by
 by_cases h : (n : Int) < 10
 ·have hd : decide ((n : Int) < 10) = true := decide_eq_true h
  go_enter Tryz.func32, Tryz.ntmps32
  go_wp2
  go_ret
  exact ⟨retb (by simp [hd]), bel_alloc (Below.refl _ _) _⟩
 ·have hd : decide ((n : Int) < 10) = false := decide_eq_false h
  go_enter Tryz.func32, Tryz.ntmps32
  go_wp2
  go_ret
  exact ⟨retb (by simp [hd]), bel_alloc (Below.refl _ _) _⟩
set_option maxRecDepth 100000 in
set_option maxHeartbeats 8000000 in
theorem spoolAdd_any (s : SSpool) (m : SMail) (now : Int) (A0 : Option Addr) (c0 : Nat) (M0 : Option Addr) (m0 : Nat) (M1 : Option Addr) (m1 : Nat) (w : World) (hw : fitSpool s) (hm : fitMail m) (hr0 : Kd.C kItem w A0 s.f1.length s.f1) (hr1 : Kd.C kAddr w M0 m.f1.length m.f1) (hr2 : Kd.C Kd.string w M1 m.f2.length m.f2) (hG : Glob w) :
  Calls Tryz.prog 11 #[.agg #[.int .i64 s.f0, .slice A0 s.f1.length c0], .agg #[.string m.f0.f0, .string m.f0.f1, .slice M0 m.f1.length m0, .slice M1 m.f2.length m1], .int .i64 now] w (spPost w.heap.size (spAdd s m now) (spAddOk s m now) w) := by
 have hok := fun W (hW : Below w.heap.size w W) => spoolOk_any s A0 c0 W hw (Kd.C_below hr0 hW) (hG.below hW)
 have hcp := fun W (hW : Below w.heap.size w W) => spoolCopied_any s A0 c0 W hw (Kd.C_below hr0 hW)
 have hmo : ∀ W, Below w.heap.size w W → Calls Tryz.prog 30 #[.agg #[.string m.f0.f0, .string m.f0.f1, .slice M0 m.f1.length m0, .slice M1 m.f2.length m1]] W fun e w' => e = .returned (.bool (mailOkS m)) ∧ Below W.heap.size W w' := fun W hW => MailOk_any m.f0.f0 m.f0.f1 M0 m0 m.f1 M1 m1 m.f2 W (by have := hm.1.1; omega) (by have := hm.1.2; omega) (Kd.C_below hr1 hW) (by have := hm.2.1.1; omega) (fun z hz => afit_of z (hm.2.1.2 z hz)) (Kd.C_below hr2 hW) (bfit_of hm.2.2).1 (bfit_of hm.2.2).2 (hG.below hW)
 have hti := fun W => isTime_any now W
 have hro := fun W (_ : Below w.heap.size w W) => room_any s.f0 A0 s.f1.length c0 W
 have hXV : spAdd s m now = if spoolOk s then (if mailOkS m && ((decide (0 ≤ now) && decide (now ≤ 9999)) && (decide ((s.f1.length : Int) < 10) && decide (s.f0 < 999))) then ⟨s.f0 + 1, s.f1 ++ [newItem s m now]⟩ else s) else ⟨0, []⟩ := rfl
 have hQV : spAddOk s m now = (spoolOk s && (mailOkS m && ((decide (0 ≤ now) && decide (now ≤ 9999)) && (decide ((s.f1.length : Int) < 10) && decide (s.f0 < 999))))) := rfl
 have h4 : spoolOk s = true → (decide ((s.f1.length : Int) < 10) && decide (s.f0 < 999)) = true → -1000000000 ≤ s.f0 ∧ s.f0 < 999 := fun h0 h => by
  unfold spoolOk at h0
  simp only [Bool.and_eq_true, decide_eq_true_eq] at h0 h
  omega
 generalize spoolOk s = q1 at hok hXV hQV h4
 generalize mailOkS m = q2 at hmo hXV hQV
 generalize (decide (0 ≤ now) && decide (now ≤ 9999)) = q3 at hti hXV hQV
 generalize (decide ((s.f1.length : Int) < 10) && decide (s.f0 < 999)) = q4 at hro hXV hQV h4
 have HXV := Lib.hid hXV
 have HQV := Lib.hid hQV
 have H4 := Lib.hid h4
 have hmf := hm.2.2.1
 have hmt := hm.2.1.1
 have K0 := Aside0.mk hr1
 have K1 := Aside0.mk hr2
 have HX := Lib.hid hw.2.2
 have hlen := hw.2.1
 clear hXV hQV h4 hG hr0 hr1 hr2 hw hm
 go_enter Tryz.func11, Tryz.ntmps11
 go_wp2_with fail
 obtain ⟨W0, hW0⟩ : ∃ W, W = (((w.alloc (.cells #[.int .i64 s.f0, .slice A0 s.f1.length c0] 43)).alloc (.cells #[.string m.f0.f0, .string m.f0.f1, .slice M0 m.f1.length m0, .slice M1 m.f2.length m1] 33)).alloc (.cells #[.int .i64 0, .slice none 0 0] 43)) := ⟨_, rfl⟩
 rw [← hW0]
 have HB : Aside0 (Below w.heap.size w W0) := ⟨by rw [hW0]; exact (bel_alloc (bel_alloc (bel_alloc (Below.refl _ _) _) _) _)⟩
 have F0 : Aside0 (W0.heap[w.heap.size]? = some (.cells #[.int .i64 s.f0, .slice A0 s.f1.length c0] 43 (0, 0))) := ⟨by rw [hW0]; exact blk_alloc (blk_alloc (blk_at _ _ (by first | rfl | (simp; done))) _) _⟩
 have FM : Aside0 (W0.heap[w.heap.size + 1]? = some (.cells #[.string m.f0.f0, .string m.f0.f1, .slice M0 m.f1.length m0, .slice M1 m.f2.length m1] 33 (0, 0))) := ⟨by rw [hW0]; exact blk_alloc (blk_at _ _ (by simp)) _⟩
 have FR : Aside0 (W0.heap[w.heap.size + 2]? = some (.cells #[.int .i64 0, .slice none 0 0] 43 (0, 0))) := ⟨by rw [hW0]; exact blk_at _ _ (by simp)⟩
 have HL : Aside0 (w.heap.size + 3 ≤ W0.heap.size) := ⟨by rw [hW0]; simp⟩
 clear hW0
 refine Calls.mono (hok _ HB.out) ?_
 rintro e w1 ⟨rfl, bw1⟩
 replace F0 := Aside0.mk (below_blk F0.out bw1)
 replace FM := Aside0.mk (below_blk FM.out bw1)
 replace FR := Aside0.mk (below_blk FR.out bw1)
 replace HB := Aside0.mk (bel_then HB.out bw1)
 replace HL := Aside0.mk (Nat.le_trans HL.out bw1.size)
 clear bw1
 clear hok
 cases q1
 ·clear hcp HX hmo hti hro
  have zF0 := blk_lt F0.out
  have cF0_0 : w1.cell? ⟨w.heap.size, 0, none⟩ = some (.int .i64 s.f0) := clq F0.out 0 rfl
  have cF0_1 : w1.cell? ⟨w.heap.size, 1, none⟩ = some (.slice A0 s.f1.length c0) := clq F0.out 1 rfl
  have zFR := blk_lt FR.out
  have cFR_0 : w1.cell? ⟨w.heap.size + 2, 0, none⟩ = some (.int .i64 0) := clq FR.out 0 rfl
  have dFR_0 := fzq FR.out 0
  have cFR_1 : w1.cell? ⟨w.heap.size + 2, 1, none⟩ = some (.slice none 0 0) := clq FR.out 1 rfl
  have dFR_1 := fzq FR.out 1
  go_wp2
  refine bodyPost_ret (v := .tuple #[.agg #[.int .i64 0, .slice none 0 0], .bool false]) ?hrA rfl ?hpA
  case hrA => simp [results, Tryz.results11, go_sem, zF0, cF0_0, cF0_1, zFR, cFR_0, dFR_0, cFR_1, dFR_1]
  case hpA =>
   show spPost _ (spAdd s m now) (spAddOk s m now) _ _ _
   rw [show spAdd s m now = (⟨0, []⟩ : SSpool) from HXV.out, show spAddOk s m now = false from HQV.out]
   exact ⟨none, 0, rfl, Kd.R_nil _ _ _ _ _, by (with_reducible repeat (first | exact HB.out | refine bel_set ?_ _ ?_)); all_goals ((try dsimp only); omega)⟩
 ·have zF0 := blk_lt F0.out
  have cF0_0 : w1.cell? ⟨w.heap.size, 0, none⟩ = some (.int .i64 s.f0) := clq F0.out 0 rfl
  have cF0_1 : w1.cell? ⟨w.heap.size, 1, none⟩ = some (.slice A0 s.f1.length c0) := clq F0.out 1 rfl
  go_wp2_with fail
  refine Calls.mono (hcp _ HB.out) ?_
  rintro e w2 ⟨B, d, rfl, rHO, bw2⟩
  clear zF0 cF0_0 cF0_1
  replace F0 := Aside0.mk (below_blk F0.out bw2)
  replace FM := Aside0.mk (below_blk FM.out bw2)
  replace FR := Aside0.mk (below_blk FR.out bw2)
  have HO : Aside0 (Kd.S kItem 55 w2 w.heap.size (fun _ => True) (.slice B s.f1.length d) s.f1) := ⟨Kd.S_lower (base' := w.heap.size) rHO HB.out.size⟩
  clear rHO
  replace HB := Aside0.mk (bel_then HB.out bw2)
  replace HL := Aside0.mk (Nat.le_trans HL.out bw2.size)
  clear bw2
  replace HO : Aside0 (Kd.S kItem 55 w2 w.heap.size (fun k => k < w2.heap.size) (.slice B s.f1.length d) s.f1) := ⟨Kd.S_mono (Kd.S_bound HO.out) (fun k hk => hk.2.2.1)⟩
  have HB2 := HL
  clear hcp
  have zFM := blk_lt FM.out
  have cFM_0 : w2.cell? ⟨w.heap.size + 1, 0, none⟩ = some (.string m.f0.f0) := clq FM.out 0 rfl
  have cFM_1 : w2.cell? ⟨w.heap.size + 1, 1, none⟩ = some (.string m.f0.f1) := clq FM.out 1 rfl
  have cFM_2 : w2.cell? ⟨w.heap.size + 1, 2, none⟩ = some (.slice M0 m.f1.length m0) := clq FM.out 2 rfl
  have cFM_3 : w2.cell? ⟨w.heap.size + 1, 3, none⟩ = some (.slice M1 m.f2.length m1) := clq FM.out 3 rfl
  go_wp2_with fail
  generalize hWw3 : World.alloc (w2) _ = w3
  have ltF0 := blk_lt F0.out
  have ltFM := blk_lt FM.out
  have ltFR := blk_lt FR.out
  have ltb := HB.out.size
  have ltl := HL.out
  have TT : ∀ k, k < w2.heap.size → w3.heap[k]? = w2.heap[k]? := fun k hk => by rw [← hWw3]; (with_reducible repeat (first | rfl | refine hp_set ?_ ?_ | refine hp_alloc ?_ ?_ | refine hp_drew ?_)); all_goals (first | (with_reducible rfl) | omega | (dsimp only; omega) | (simp; omega))
  have TS : w2.heap.size + 1 ≤ w3.heap.size := by rw [← hWw3]; simp
  have nF0 : w3.heap[w.heap.size]? = some (.cells #[.int .i64 s.f0, .slice A0 s.f1.length c0] 43 (0, 0)) := (TT _ ltF0).trans F0.out
  have nFM : w3.heap[w.heap.size + 1]? = some (.cells #[.string m.f0.f0, .string m.f0.f1, .slice M0 m.f1.length m0, .slice M1 m.f2.length m1] 33 (0, 0)) := (TT _ ltFM).trans FM.out
  have nFR : w3.heap[w.heap.size + 2]? = some (.cells #[.int .i64 0, .slice none 0 0] 43 (0, 0)) := (TT _ ltFR).trans FR.out
  have nFO : w3.heap[w2.heap.size]? = some (.cells #[.int .i64 s.f0, .slice B s.f1.length d] 43 (0, 0)) := by rw [← hWw3]; exact blk_new w2 (.cells #[.int .i64 s.f0, .slice B s.f1.length d] 43)
  have nHO : Kd.S kItem 55 w3 w.heap.size (fun k => k < w2.heap.size) (.slice B s.f1.length d) s.f1 := Kd.S_step HO.out (fun k hk hlt => TT k hlt)
  have nHB : Below w.heap.size w w3 := by rw [← hWw3]; exact bel_alloc (HB.out) _
  clear zFM cFM_0 cFM_1 cFM_2 cFM_3
  clear hWw3 F0 FM FR HB HO
  have F0 := Aside0.mk nF0
  clear nF0
  have FM := Aside0.mk nFM
  clear nFM
  have FR := Aside0.mk nFR
  clear nFR
  have FO := Aside0.mk nFO
  clear nFO
  have HO := Aside0.mk nHO
  clear nHO
  have HB := Aside0.mk nHB
  clear nHB
  have oFO_ltF0 := ltF0
  have oFO_ltFM := ltFM
  have oFO_ltFR := ltFR
  have oFO_ltl := ltl
  have oFO_ts := TS
  replace HL := Aside0.mk (Nat.le_trans HL.out (by omega : w2.heap.size ≤ w3.heap.size))
  clear TT TS ltF0 ltFM ltFR ltb ltl
  refine Calls.mono (hmo _ HB.out) ?_
  rintro e w4 ⟨rfl, bw4⟩
  replace F0 := Aside0.mk (below_blk F0.out bw4)
  replace FM := Aside0.mk (below_blk FM.out bw4)
  replace FR := Aside0.mk (below_blk FR.out bw4)
  replace FO := Aside0.mk (below_blk FO.out bw4)
  replace HO := Aside0.mk (Kd.S_below HO.out bw4)
  replace HB := Aside0.mk (bel_then HB.out bw4)
  replace HL := Aside0.mk (Nat.le_trans HL.out bw4.size)
  clear bw4
  clear hmo
  cases q2
  ·clear hti hro
   clear HX
   have zFO := blk_lt FO.out
   have cFO_0 : w4.cell? ⟨w2.heap.size, 0, none⟩ = some (.int .i64 s.f0) := clq FO.out 0 rfl
   have cFO_1 : w4.cell? ⟨w2.heap.size, 1, none⟩ = some (.slice B s.f1.length d) := clq FO.out 1 rfl
   have zFR := blk_lt FR.out
   have cFR_0 : w4.cell? ⟨w.heap.size + 2, 0, none⟩ = some (.int .i64 0) := clq FR.out 0 rfl
   have dFR_0 := fzq FR.out 0
   have cFR_1 : w4.cell? ⟨w.heap.size + 2, 1, none⟩ = some (.slice none 0 0) := clq FR.out 1 rfl
   have dFR_1 := fzq FR.out 1
   go_wp2
   refine bodyPost_ret (v := .tuple #[.agg #[.int .i64 s.f0, .slice B s.f1.length d], .bool false]) ?hrB rfl ?hpB
   case hrB => simp [results, Tryz.results11, go_sem, zFO, cFO_0, cFO_1, zFR, cFR_0, dFR_0, cFR_1, dFR_1]
   case hpB =>
    show spPost _ (spAdd s m now) (spAddOk s m now) _ _ _
    rw [show spAdd s m now = s from HXV.out, show spAddOk s m now = false from HQV.out]
    exact ⟨B, d, rfl, R_other (Kd.R_mono (Kd.S_R HO.out) (fun _ _ => trivial)) FR.out (by decide) ((grown_set1 _ _ _ _).trans (grown_set1 _ _ _ _)), by (with_reducible repeat (first | exact HB.out | refine bel_set ?_ _ ?_)); all_goals ((try dsimp only); omega)⟩
  ·go_wp2_with fail
   refine Calls.mono (hti _) ?_
   rintro e w5 ⟨rfl, hw5⟩
   subst hw5
   clear hti
   cases q3
   ·clear hro
    clear HX
    have zFO := blk_lt FO.out
    have cFO_0 : w4.cell? ⟨w2.heap.size, 0, none⟩ = some (.int .i64 s.f0) := clq FO.out 0 rfl
    have cFO_1 : w4.cell? ⟨w2.heap.size, 1, none⟩ = some (.slice B s.f1.length d) := clq FO.out 1 rfl
    have zFR := blk_lt FR.out
    have cFR_0 : w4.cell? ⟨w.heap.size + 2, 0, none⟩ = some (.int .i64 0) := clq FR.out 0 rfl
    have dFR_0 := fzq FR.out 0
    have cFR_1 : w4.cell? ⟨w.heap.size + 2, 1, none⟩ = some (.slice none 0 0) := clq FR.out 1 rfl
    have dFR_1 := fzq FR.out 1
    go_wp2
    refine bodyPost_ret (v := .tuple #[.agg #[.int .i64 s.f0, .slice B s.f1.length d], .bool false]) ?hrC rfl ?hpC
    case hrC => simp [results, Tryz.results11, go_sem, zFO, cFO_0, cFO_1, zFR, cFR_0, dFR_0, cFR_1, dFR_1]
    case hpC =>
     show spPost _ (spAdd s m now) (spAddOk s m now) _ _ _
     rw [show spAdd s m now = s from HXV.out, show spAddOk s m now = false from HQV.out]
     exact ⟨B, d, rfl, R_other (Kd.R_mono (Kd.S_R HO.out) (fun _ _ => trivial)) FR.out (by decide) ((grown_set1 _ _ _ _).trans (grown_set1 _ _ _ _)), by (with_reducible repeat (first | exact HB.out | refine bel_set ?_ _ ?_)); all_goals ((try dsimp only); omega)⟩
   ·have zF0 := blk_lt F0.out
    have cF0_0 : w4.cell? ⟨w.heap.size, 0, none⟩ = some (.int .i64 s.f0) := clq F0.out 0 rfl
    have cF0_1 : w4.cell? ⟨w.heap.size, 1, none⟩ = some (.slice A0 s.f1.length c0) := clq F0.out 1 rfl
    go_wp2_with fail
    refine Calls.mono (hro _ HB.out) ?_
    rintro e w6 ⟨rfl, bw6⟩
    clear zF0 cF0_0 cF0_1
    replace F0 := Aside0.mk (below_blk F0.out bw6)
    replace FM := Aside0.mk (below_blk FM.out bw6)
    replace FR := Aside0.mk (below_blk FR.out bw6)
    replace FO := Aside0.mk (below_blk FO.out bw6)
    replace HO := Aside0.mk (Kd.S_below HO.out bw6)
    replace HB := Aside0.mk (bel_then HB.out bw6)
    replace HL := Aside0.mk (Nat.le_trans HL.out bw6.size)
    clear bw6
    clear hro
    cases q4
    ·clear HX
     have zFO := blk_lt FO.out
     have cFO_0 : w6.cell? ⟨w2.heap.size, 0, none⟩ = some (.int .i64 s.f0) := clq FO.out 0 rfl
     have cFO_1 : w6.cell? ⟨w2.heap.size, 1, none⟩ = some (.slice B s.f1.length d) := clq FO.out 1 rfl
     have zFR := blk_lt FR.out
     have cFR_0 : w6.cell? ⟨w.heap.size + 2, 0, none⟩ = some (.int .i64 0) := clq FR.out 0 rfl
     have dFR_0 := fzq FR.out 0
     have cFR_1 : w6.cell? ⟨w.heap.size + 2, 1, none⟩ = some (.slice none 0 0) := clq FR.out 1 rfl
     have dFR_1 := fzq FR.out 1
     go_wp2
     refine bodyPost_ret (v := .tuple #[.agg #[.int .i64 s.f0, .slice B s.f1.length d], .bool false]) ?hrD rfl ?hpD
     case hrD => simp [results, Tryz.results11, go_sem, zFO, cFO_0, cFO_1, zFR, cFR_0, dFR_0, cFR_1, dFR_1]
     case hpD =>
      show spPost _ (spAdd s m now) (spAddOk s m now) _ _ _
      rw [show spAdd s m now = s from HXV.out, show spAddOk s m now = false from HQV.out]
      exact ⟨B, d, rfl, R_other (Kd.R_mono (Kd.S_R HO.out) (fun _ _ => trivial)) FR.out (by decide) ((grown_set1 _ _ _ _).trans (grown_set1 _ _ _ _)), by (with_reducible repeat (first | exact HB.out | refine bel_set ?_ _ ?_)); all_goals ((try dsimp only); omega)⟩
    ·have hs0 := H4.out (by trivial) (by trivial)
     have hwl : IntKind.i64.wrap (s.f0 + 1) = s.f0 + 1 := IntWalk.i64_in _ (by omega)
     have zFO := blk_lt FO.out
     have cFO_0 : w6.cell? ⟨w2.heap.size, 0, none⟩ = some (.int .i64 s.f0) := clq FO.out 0 rfl
     have dFO_0 := fzq FO.out 0
     have cFO_1 : w6.cell? ⟨w2.heap.size, 1, none⟩ = some (.slice B s.f1.length d) := clq FO.out 1 rfl
     have dFO_1 := fzq FO.out 1
     go_wp2_with fail
     generalize hWw7 : World.setCell (w6) _ _ = w7
     have ltF0 := blk_lt F0.out
     have ltFM := blk_lt FM.out
     have ltFR := blk_lt FR.out
     have ltFO := blk_lt FO.out
     have ltb := HB.out.size
     have ltl := HL.out
     have TT : ∀ k, k < w6.heap.size → k ≠ w2.heap.size → w7.heap[k]? = w6.heap[k]? := fun k hk n_FO => by rw [← hWw7]; (with_reducible repeat (first | rfl | refine hp_set ?_ ?_ | refine hp_alloc ?_ ?_ | refine hp_drew ?_)); all_goals (first | (with_reducible rfl) | omega | (dsimp only; omega) | (simp; omega))
     have TS : w6.heap.size + 0 ≤ w7.heap.size := by rw [← hWw7]; simp
     have nF0 : w7.heap[w.heap.size]? = some (.cells #[.int .i64 s.f0, .slice A0 s.f1.length c0] 43 (0, 0)) := (TT _ ltF0 (by omega)).trans F0.out
     have nFM : w7.heap[w.heap.size + 1]? = some (.cells #[.string m.f0.f0, .string m.f0.f1, .slice M0 m.f1.length m0, .slice M1 m.f2.length m1] 33 (0, 0)) := (TT _ ltFM (by omega)).trans FM.out
     have nFR : w7.heap[w.heap.size + 2]? = some (.cells #[.int .i64 0, .slice none 0 0] 43 (0, 0)) := (TT _ ltFR (by omega)).trans FR.out
     have nFO : w7.heap[w2.heap.size]? = some (.cells #[.int .i64 (s.f0 + 1), .slice B s.f1.length d] 43 (0, 0)) := by rw [← hWw7]; have h := blk_set1 (FO.out) 0 (.int .i64 (s.f0 + 1)); simpa using h
     have nHO : Kd.S kItem 55 w7 w.heap.size (fun k => k < w2.heap.size) (.slice B s.f1.length d) s.f1 := Kd.S_step HO.out (fun k hk hlt => TT k hlt (by have h_ : k < w2.heap.size := hk; omega))
     have nHB : Below w.heap.size w w7 := by rw [← hWw7]; exact bel_set (HB.out) _ (by show w.heap.size ≤ w2.heap.size; first | omega | (simp; omega))
     clear zFO cFO_0 dFO_0 cFO_1 dFO_1
     clear hWw7 F0 FM FR FO HB HO
     have F0 := Aside0.mk nF0
     clear nF0
     have FM := Aside0.mk nFM
     clear nFM
     have FR := Aside0.mk nFR
     clear nFR
     have FO := Aside0.mk nFO
     clear nFO
     have HO := Aside0.mk nHO
     clear nHO
     have HB := Aside0.mk nHB
     clear nHB
     replace HL := Aside0.mk (Nat.le_trans HL.out (by omega : w6.heap.size ≤ w7.heap.size))
     clear TT TS ltF0 ltFM ltFR ltFO ltb ltl
     clear F0
     skip
     have HS1 : Aside0 (∀ W : World, (W.heap[w2.heap.size]? = some (.cells #[.int .i64 (s.f0 + 1), .slice B s.f1.length d] 43 (0, 0)) ∧ W.heap[w.heap.size + 1]? = some (.cells #[.string m.f0.f0, .string m.f0.f1, .slice M0 m.f1.length m0, .slice M1 m.f2.length m1] 33 (0, 0))) → W.cell? ⟨w2.heap.size, 0, none⟩ = some (.int .i64 (s.f0 + 1)) ∧ W.cell? ⟨w2.heap.size, 1, none⟩ = some (.slice B s.f1.length d) ∧ W.cell? ⟨w.heap.size + 1, 0, none⟩ = some (.string m.f0.f0) ∧ W.cell? ⟨w.heap.size + 1, 1, none⟩ = some (.string m.f0.f1) ∧ W.cell? ⟨w.heap.size + 1, 2, none⟩ = some (.slice M0 m.f1.length m0) ∧ W.cell? ⟨w.heap.size + 1, 3, none⟩ = some (.slice M1 m.f2.length m1)) := ⟨fun W h => ⟨(by have h_ := h.1; simp [World.cell?, h_]), (by have h_ := h.1; simp [World.cell?, h_]), (by have h_ := h.2; simp [World.cell?, h_]), (by have h_ := h.2; simp [World.cell?, h_]), (by have h_ := h.2; simp [World.cell?, h_]), (by have h_ := h.2; simp [World.cell?, h_])⟩⟩
     refine wp_region_held_drew (S := fun (W : World) => W.heap[w2.heap.size]? = some (.cells #[.int .i64 (s.f0 + 1), .slice B s.f1.length d] 43 (0, 0)) ∧ W.heap[w.heap.size + 1]? = some (.cells #[.string m.f0.f0, .string m.f0.f1, .slice M0 m.f1.length m0, .slice M1 m.f2.length m1] 33 (0, 0))) (by kernel_rfl) ?s2 (fun hHeld => ?t2)
     case s2 => exact (show (fun (W : World) => W.heap[w2.heap.size]? = some (.cells #[.int .i64 (s.f0 + 1), .slice B s.f1.length d] 43 (0, 0)) ∧ W.heap[w.heap.size + 1]? = some (.cells #[.string m.f0.f0, .string m.f0.f1, .slice M0 m.f1.length m0, .slice M1 m.f2.length m1] 33 (0, 0))) (World.drew w7) from ⟨FO.out, FM.out⟩)
     generalize hWVs : World.drew (w7) = Vs at hHeld ⊢
     have ltFM := blk_lt FM.out
     have ltFR := blk_lt FR.out
     have ltFO := blk_lt FO.out
     have ltb := HB.out.size
     have ltl := HL.out
     have TT : ∀ k, k < w7.heap.size → Vs.heap[k]? = w7.heap[k]? := fun k hk => by rw [← hWVs]; (with_reducible repeat (first | rfl | refine hp_set ?_ ?_ | refine hp_alloc ?_ ?_ | refine hp_drew ?_)); all_goals (first | (with_reducible rfl) | omega | (dsimp only; omega) | (simp; omega))
     have TS : w7.heap.size + 0 ≤ Vs.heap.size := by rw [← hWVs]; simp
     have nFM : Vs.heap[w.heap.size + 1]? = some (.cells #[.string m.f0.f0, .string m.f0.f1, .slice M0 m.f1.length m0, .slice M1 m.f2.length m1] 33 (0, 0)) := (TT _ ltFM).trans FM.out
     have nFR : Vs.heap[w.heap.size + 2]? = some (.cells #[.int .i64 0, .slice none 0 0] 43 (0, 0)) := (TT _ ltFR).trans FR.out
     have nFO : Vs.heap[w2.heap.size]? = some (.cells #[.int .i64 (s.f0 + 1), .slice B s.f1.length d] 43 (0, 0)) := (TT _ ltFO).trans FO.out
     have nHO : Kd.S kItem 55 Vs w.heap.size (fun k => k < w2.heap.size) (.slice B s.f1.length d) s.f1 := Kd.S_step HO.out (fun k hk hlt => TT k hlt)
     have nHB : Below w.heap.size w Vs := by rw [← hWVs]; exact bel_then (HB.out) (drew_below0 _)
     have bds_ : Below w7.heap.size w7 Vs := by rw [← hWVs]; exact drew_below0 w7
     clear hWVs FM FR FO HB HO
     have FM := Aside0.mk nFM
     clear nFM
     have FR := Aside0.mk nFR
     clear nFR
     have FO := Aside0.mk nFO
     clear nFO
     have HO := Aside0.mk nHO
     clear nHO
     have HB := Aside0.mk nHB
     clear nHB
     replace HL := Aside0.mk (Nat.le_trans HL.out (by omega : w7.heap.size ≤ Vs.heap.size))
     clear TT TS ltFM ltFR ltFO ltb ltl
     have BDs := Aside0.mk bds_
     clear bds_
     have HBo := HB
     have HLo := HL
     have hws : w.heap.size ≤ Vs.heap.size := HB.out.size
     clear HB HL
     have HBj : Aside0 (Below Vs.heap.size Vs Vs) := ⟨Below.refl _ _⟩
     have join : Hid (∀ {goal : Prop} {G : Nat → Option Addr → Nat → World → Prop} (rg : Hid (∀ (gx : Nat) (EB : Option Addr) (Ed : Nat) (V : World), Below Vs.heap.size Vs V ∧ V.heap[gx]? = some (.cells #[.int .i64 0, .string ⟨#[]⟩, .string ⟨#[]⟩, .slice none 0 0, .slice none 0 0] 55 (0, 0)) ∧ Kd.R Kd.string 9 V w2.heap.size (fun _ => True) (.slice EB m.f2.length Ed) m.f2 ∧ w2.heap.size < gx ∧ (V.heap[w2.heap.size]? = some (.cells #[.int .i64 (s.f0 + 1), .slice B s.f1.length d] 43 (0, 0)) ∧ V.heap[w.heap.size + 1]? = some (.cells #[.string m.f0.f0, .string m.f0.f1, .slice M0 m.f1.length m0, .slice M1 m.f2.length m1] 33 (0, 0))) → G gx EB Ed V) → goal) (hk : ∀ (gx : Nat) (EB : Option Addr) (Ed : Nat) (V : World), Below Vs.heap.size Vs V ∧ V.heap[gx]? = some (.cells #[.int .i64 0, .string ⟨#[]⟩, .string ⟨#[]⟩, .slice none 0 0, .slice none 0 0] 55 (0, 0)) ∧ Kd.R Kd.string 9 V w2.heap.size (fun _ => True) (.slice EB m.f2.length Ed) m.f2 ∧ w2.heap.size < gx ∧ (V.heap[w2.heap.size]? = some (.cells #[.int .i64 (s.f0 + 1), .slice B s.f1.length d] 43 (0, 0)) ∧ V.heap[w.heap.size + 1]? = some (.cells #[.string m.f0.f0, .string m.f0.f1, .slice M0 m.f1.length m0, .slice M1 m.f2.length m1] 33 (0, 0))) → G gx EB Ed V), goal) := Lib.hid (fun f h => f (Lib.hid h))
     apply join.out
     case rg =>
      intro HKK
      have HB := HBj
      have HL : Aside0 (Vs.heap.size + 0 ≤ Vs.heap.size) := ⟨Nat.le_refl _⟩
      refine tk 0 ?v3 ?y3 ?r3
      case y3 => intro w_ hSw; (try dsimp only at hSw); clear hSw; go_simp; (try (with_reducible rfl))
      try simp only [Act.put, List.setIfInBounds_toArray, List.set_cons_zero, List.set_cons_succ]
      refine tk 1 ?v4 ?y4 ?r4
      case y4 => intro w_ hSw; obtain ⟨e_0, e_1, e_2, e_3, e_4, e_5⟩ := HS1.out w_ hSw; clear hSw; go_simp; (try (with_reducible rfl))
      try simp only [Act.put, List.setIfInBounds_toArray, List.set_cons_zero, List.set_cons_succ]
      refine tk 2 ?v5 ?y5 ?r5
      case y5 => intro w_ hSw; (try dsimp only at hSw); clear hSw; go_simp; (try (with_reducible rfl))
      try simp only [Act.put, List.setIfInBounds_toArray, List.set_cons_zero, List.set_cons_succ]
      refine tk 3 ?v6 ?y6 ?r6
      case y6 => intro w_ hSw; obtain ⟨e_0, e_1, e_2, e_3, e_4, e_5⟩ := HS1.out w_ hSw; clear hSw; go_simp; (try (with_reducible rfl))
      try simp only [Act.put, List.setIfInBounds_toArray, List.set_cons_zero, List.set_cons_succ]
      refine tk 4 ?v7 ?y7 ?r7
      case y7 => intro w_ hSw; (try dsimp only at hSw); clear hSw; go_simp; (try (with_reducible rfl))
      try simp only [Act.put, List.setIfInBounds_toArray, List.set_cons_zero, List.set_cons_succ]
      refine tk 5 ?v8 ?y8 ?r8
      case y8 => intro w_ hSw; obtain ⟨e_0, e_1, e_2, e_3, e_4, e_5⟩ := HS1.out w_ hSw; clear hSw; go_simp; (try (with_reducible rfl))
      try simp only [Act.put, List.setIfInBounds_toArray, List.set_cons_zero, List.set_cons_succ]
      refine rdy (rs := [6, 8]) ?_
      refine rc (fun K hK => ?k9) (rc (fun K hK => ?k10) AllReadyH.nil)
      case k9 =>
       go_simp
       have hNV : w2.heap.size ≤ Vs.heap.size := by have := blk_lt FO.out; have := HB.out.size; omega
       refine Calls.mono (cloneString_any M1 m1 m.f2 _ (Kd.C_below K1.out (bel_then HBo.out HB.out)) hmf) ?_
       rintro e V6 ⟨EB, Ed, rfl, rE, bV6⟩
       have E : Aside0 (Kd.R Kd.string 9 V6 w2.heap.size (fun _ => True) (.slice EB m.f2.length Ed) m.f2) := ⟨Kd.R_lower (base' := w2.heap.size) rE hNV⟩
       clear rE
       replace HB := Aside0.mk (bel_then HB.out bV6)
       replace HL := Aside0.mk (Nat.le_trans HL.out bV6.size)
       clear bV6
       clear hNV
       refine hK.out _ _ ?h11 (fun hHeld => ?j11)
       case h11 => exact ⟨(below_blk FO.out HB.out), (below_blk FM.out HB.out)⟩
       clear hK K
       try simp only [Act.put, List.setIfInBounds_toArray, List.set_cons_zero, List.set_cons_succ]
       refine tk 7 ?v12 ?y12 ?r12
       case y12 => intro w_ hSw; (try dsimp only at hSw); clear hSw; go_simp; (try (with_reducible rfl))
       try simp only [Act.put, List.setIfInBounds_toArray, List.set_cons_zero, List.set_cons_succ]
       refine rdy (rs := [8]) ?_
       refine rc (fun K hK => ?k13) AllReadyH.nil
       case k13 =>
        go_simp
        generalize hWV8 : World.alloc (V6) _ = V8
        have ltb := HB.out.size
        have ltl := HL.out
        have TT : ∀ k, k < V6.heap.size → V8.heap[k]? = V6.heap[k]? := fun k hk => by rw [← hWV8]; (with_reducible repeat (first | rfl | refine hp_set ?_ ?_ | refine hp_alloc ?_ ?_ | refine hp_drew ?_)); all_goals (first | (with_reducible rfl) | omega | (dsimp only; omega) | (simp; omega))
        have TS : V6.heap.size + 1 ≤ V8.heap.size := by rw [← hWV8]; simp
        have nFX : V8.heap[V6.heap.size]? = some (.cells #[.int .i64 0, .string ⟨#[]⟩, .string ⟨#[]⟩, .slice none 0 0, .slice none 0 0] 55 (0, 0)) := by rw [← hWV8]; exact blk_new V6 (.cells #[.int .i64 0, .string ⟨#[]⟩, .string ⟨#[]⟩, .slice none 0 0, .slice none 0 0] 55)
        have nE : Kd.R Kd.string 9 V8 w2.heap.size (fun _ => True) (.slice EB m.f2.length Ed) m.f2 := R_keepT E.out rfl (fun k hk ho => TT k hk)
        have nHB : Below Vs.heap.size Vs V8 := by rw [← hWV8]; exact bel_alloc (HB.out) _
        clear hWV8  HB E
        have FX := Aside0.mk nFX
        clear nFX
        have E := Aside0.mk nE
        clear nE
        have HB := Aside0.mk nHB
        clear nHB
        have oFX_ltl := ltl
        have oFX_ts := TS
        replace HL := Aside0.mk (Nat.le_trans HL.out (by omega : V6.heap.size ≤ V8.heap.size))
        clear TT TS ltb ltl
        refine hK.out _ _ ?h14 (fun hHeld => ?j14)
        case h14 => exact ⟨(below_blk FO.out HB.out), (below_blk FM.out HB.out)⟩
        clear hK K
        try simp only [Act.put, List.setIfInBounds_toArray, List.set_cons_zero, List.set_cons_succ]
        generalize hgx : V6.heap.size = gx at FX ⊢
        exact HKK.out gx EB Ed V8 ⟨HB.out, FX.out, E.out, (by have := oFX_ltl; have := blk_lt FO.out; omega), hHeld⟩
      case k10 =>
       go_simp
       generalize hWV8 : World.alloc (Vs) _ = V8
       have ltb := HB.out.size
       have ltl := HL.out
       have TT : ∀ k, k < Vs.heap.size → V8.heap[k]? = Vs.heap[k]? := fun k hk => by rw [← hWV8]; (with_reducible repeat (first | rfl | refine hp_set ?_ ?_ | refine hp_alloc ?_ ?_ | refine hp_drew ?_)); all_goals (first | (with_reducible rfl) | omega | (dsimp only; omega) | (simp; omega))
       have TS : Vs.heap.size + 1 ≤ V8.heap.size := by rw [← hWV8]; simp
       have nFX : V8.heap[Vs.heap.size]? = some (.cells #[.int .i64 0, .string ⟨#[]⟩, .string ⟨#[]⟩, .slice none 0 0, .slice none 0 0] 55 (0, 0)) := by rw [← hWV8]; exact blk_new Vs (.cells #[.int .i64 0, .string ⟨#[]⟩, .string ⟨#[]⟩, .slice none 0 0, .slice none 0 0] 55)
       have nHB : Below Vs.heap.size Vs V8 := by rw [← hWV8]; exact bel_alloc (HB.out) _
       clear hWV8  HB 
       have FX := Aside0.mk nFX
       clear nFX
       have HB := Aside0.mk nHB
       clear nHB
       have oFX_ltl := ltl
       have oFX_ts := TS
       replace HL := Aside0.mk (Nat.le_trans HL.out (by omega : Vs.heap.size ≤ V8.heap.size))
       clear TT TS ltb ltl
       refine hK.out _ _ ?h15 (fun hHeld => ?j15)
       case h15 => exact ⟨(below_blk FO.out HB.out), (below_blk FM.out HB.out)⟩
       clear hK K
       try simp only [Act.put, List.setIfInBounds_toArray, List.set_cons_zero, List.set_cons_succ]
       refine rdy (rs := [6]) ?_
       refine rc (fun K hK => ?k16) AllReadyH.nil
       case k16 =>
        go_simp
        have hNV : w2.heap.size ≤ V8.heap.size := by have := blk_lt FO.out; have := HB.out.size; omega
        refine Calls.mono (cloneString_any M1 m1 m.f2 _ (Kd.C_below K1.out (bel_then HBo.out HB.out)) hmf) ?_
        rintro e V6 ⟨EB, Ed, rfl, rE, bV6⟩
        replace FX := Aside0.mk (below_blk FX.out bV6)
        have E : Aside0 (Kd.R Kd.string 9 V6 w2.heap.size (fun _ => True) (.slice EB m.f2.length Ed) m.f2) := ⟨Kd.R_lower (base' := w2.heap.size) rE hNV⟩
        clear rE
        replace HB := Aside0.mk (bel_then HB.out bV6)
        replace HL := Aside0.mk (Nat.le_trans HL.out bV6.size)
        clear bV6
        clear hNV
        refine hK.out _ _ ?h17 (fun hHeld => ?j17)
        case h17 => exact ⟨(below_blk FO.out HB.out), (below_blk FM.out HB.out)⟩
        clear hK K
        try simp only [Act.put, List.setIfInBounds_toArray, List.set_cons_zero, List.set_cons_succ]
        refine tk 7 ?v18 ?y18 ?r18
        case y18 => intro w_ hSw; (try dsimp only at hSw); clear hSw; go_simp; (try (with_reducible rfl))
        try simp only [Act.put, List.setIfInBounds_toArray, List.set_cons_zero, List.set_cons_succ]
        generalize hgx : Vs.heap.size = gx at FX ⊢
        exact HKK.out gx EB Ed V6 ⟨HB.out, FX.out, E.out, (by have := oFX_ltl; have := blk_lt FO.out; omega), hHeld⟩
     case hk =>
      clear hHeld HBj
      intro gx EB Ed V ⟨hB, hFX, hE, hx0, hHeld⟩
      clear join
      replace FM := Aside0.mk (below_blk FM.out hB)
      replace FR := Aside0.mk (below_blk FR.out hB)
      replace FO := Aside0.mk (below_blk FO.out hB)
      replace HO := Aside0.mk (Kd.S_below HO.out hB)
      have FX := Aside0.mk hFX
      clear hFX
      have E := Aside0.mk hE
      clear hE
      have HB := Aside0.mk (bel_then HBo.out hB)
      have HL := Aside0.mk (Nat.le_trans HLo.out hB.size)
      clear HBo HLo hB
      refine rdy (rs := [9]) ?_
      refine rc (fun K hK => ?k19) AllReadyH.nil
      case k19 =>
       have zFX := blk_lt FX.out
       have cFX_0 : V.cell? ⟨gx, 0, none⟩ = some (.int .i64 0) := clq FX.out 0 rfl
       have dFX_0 := fzq FX.out 0
       have cFX_1 : V.cell? ⟨gx, 1, none⟩ = some (.string ⟨#[]⟩) := clq FX.out 1 rfl
       have dFX_1 := fzq FX.out 1
       have cFX_2 : V.cell? ⟨gx, 2, none⟩ = some (.string ⟨#[]⟩) := clq FX.out 2 rfl
       have dFX_2 := fzq FX.out 2
       have cFX_3 : V.cell? ⟨gx, 3, none⟩ = some (.slice none 0 0) := clq FX.out 3 rfl
       have dFX_3 := fzq FX.out 3
       have cFX_4 : V.cell? ⟨gx, 4, none⟩ = some (.slice none 0 0) := clq FX.out 4 rfl
       have dFX_4 := fzq FX.out 4
       go_simp
       generalize hWV9 : World.setCell (World.setCell (World.setCell (World.setCell (World.setCell (V) _ _) _ _) _ _) _ _) _ _ = V9
       have ltFM := blk_lt FM.out
       have ltFR := blk_lt FR.out
       have ltFO := blk_lt FO.out
       have ltFX := blk_lt FX.out
       have ltb := HB.out.size
       have ltl := HL.out
       have TT : ∀ k, k < V.heap.size → k ≠ gx → V9.heap[k]? = V.heap[k]? := fun k hk n_FX => by rw [← hWV9]; (with_reducible repeat (first | rfl | refine hp_set ?_ ?_ | refine hp_alloc ?_ ?_ | refine hp_drew ?_)); all_goals (first | (with_reducible rfl) | omega | (dsimp only; omega) | (simp; omega))
       have TS : V.heap.size + 0 ≤ V9.heap.size := by rw [← hWV9]; simp
       have nFM : V9.heap[w.heap.size + 1]? = some (.cells #[.string m.f0.f0, .string m.f0.f1, .slice M0 m.f1.length m0, .slice M1 m.f2.length m1] 33 (0, 0)) := (TT _ ltFM (by omega)).trans FM.out
       have nFR : V9.heap[w.heap.size + 2]? = some (.cells #[.int .i64 0, .slice none 0 0] 43 (0, 0)) := (TT _ ltFR (by omega)).trans FR.out
       have nFO : V9.heap[w2.heap.size]? = some (.cells #[.int .i64 (s.f0 + 1), .slice B s.f1.length d] 43 (0, 0)) := (TT _ ltFO (by omega)).trans FO.out
       have nFX : V9.heap[gx]? = some (.cells #[.int .i64 (s.f0 + 1), .string m.f0.f0, .string m.f0.f1, .slice none 0 0, .slice EB m.f2.length Ed] 55 (0, 0)) := by rw [← hWV9]; have h := blk_set1 (blk_set1 (blk_set1 (blk_set1 (blk_set1 (FX.out) 0 (.int .i64 (s.f0 + 1))) 1 (.string m.f0.f0)) 2 (.string m.f0.f1)) 3 (.slice none 0 0)) 4 (.slice EB m.f2.length Ed); simpa using h
       have nHO : Kd.S kItem 55 V9 w.heap.size (fun k => k < w2.heap.size) (.slice B s.f1.length d) s.f1 := Kd.S_step HO.out (fun k hk hlt => TT k hlt (by have h_ : k < w2.heap.size := hk; omega))
       have nE : Kd.R Kd.string 9 V9 w2.heap.size (fun _ => True) (.slice EB m.f2.length Ed) m.f2 := R_keepT E.out rfl (fun k hk ho => TT k hk (fun e => Kd.R_ne E.out FX.out (by decide) (e ▸ ho)))
       have nHB : Below w.heap.size w V9 := by rw [← hWV9]; exact bel_set (bel_set (bel_set (bel_set (bel_set (HB.out) _ (by show w.heap.size ≤ gx; first | omega | (simp; omega))) _ (by show w.heap.size ≤ gx; first | omega | (simp; omega))) _ (by show w.heap.size ≤ gx; first | omega | (simp; omega))) _ (by show w.heap.size ≤ gx; first | omega | (simp; omega))) _ (by show w.heap.size ≤ gx; first | omega | (simp; omega))
       clear zFX cFX_0 dFX_0 cFX_1 dFX_1 cFX_2 dFX_2 cFX_3 dFX_3 cFX_4 dFX_4
       clear hWV9 FM FR FO FX HB HO E
       have FM := Aside0.mk nFM
       clear nFM
       have FR := Aside0.mk nFR
       clear nFR
       have FO := Aside0.mk nFO
       clear nFO
       have FX := Aside0.mk nFX
       clear nFX
       have HO := Aside0.mk nHO
       clear nHO
       have E := Aside0.mk nE
       clear nE
       have HB := Aside0.mk nHB
       clear nHB
       replace HL := Aside0.mk (Nat.le_trans HL.out (by omega : V.heap.size ≤ V9.heap.size))
       clear TT TS ltFM ltFR ltFO ltFX ltb ltl
       refine hK.out _ _ ?h20 (fun hHeld => ?j20)
       case h20 => exact ⟨FO.out, FM.out⟩
       clear hK K hHeld
       try simp only [Act.put, List.setIfInBounds_toArray, List.set_cons_zero, List.set_cons_succ]
       refine wpAnyH_done (by kernel_rfl) ?_ _
       have hgx := hx0
       clear hx0
       have zFM := blk_lt FM.out
       have cFM_0 : V9.cell? ⟨w.heap.size + 1, 0, none⟩ = some (.string m.f0.f0) := clq FM.out 0 rfl
       have cFM_1 : V9.cell? ⟨w.heap.size + 1, 1, none⟩ = some (.string m.f0.f1) := clq FM.out 1 rfl
       have cFM_2 : V9.cell? ⟨w.heap.size + 1, 2, none⟩ = some (.slice M0 m.f1.length m0) := clq FM.out 2 rfl
       have cFM_3 : V9.cell? ⟨w.heap.size + 1, 3, none⟩ = some (.slice M1 m.f2.length m1) := clq FM.out 3 rfl
       go_wp2
       clear zFM cFM_0 cFM_1 cFM_2 cFM_3
       go_loopg [47] (m.f1.length) (fun g v47 wr => ∃ (i : Nat) (TB : Option Addr) (Td : Nat), i ≤ m.f1.length ∧ m.f1.length - i ≤ g ∧ v47 = .int .i64 i ∧ Aside0 (Below w.heap.size w wr) ∧ Aside0 (wr.heap[w.heap.size + 1]? = some (.cells #[.string m.f0.f0, .string m.f0.f1, .slice M0 m.f1.length m0, .slice M1 m.f2.length m1] 33 (0, 0))) ∧ Aside0 (wr.heap[w.heap.size + 2]? = some (.cells #[.int .i64 0, .slice none 0 0] 43 (0, 0))) ∧ Aside0 (wr.heap[w2.heap.size]? = some (.cells #[.int .i64 (s.f0 + 1), .slice B s.f1.length d] 43 (0, 0))) ∧ Aside0 (wr.heap[gx]? = some (.cells #[.int .i64 (s.f0 + 1), .string m.f0.f0, .string m.f0.f1, .slice TB ((m.f1.take i).map (fun a => (⟨a, 0, now⟩ : SRcpt))).length Td, .slice EB m.f2.length Ed] 55 (0, 0))) ∧ Aside0 (Kd.S kItem 55 wr w.heap.size (fun k => k < w2.heap.size) (.slice B s.f1.length d) s.f1) ∧ Aside0 (Kd.R Kd.string 9 wr w2.heap.size (fun _ => True) (.slice EB m.f2.length Ed) m.f2) ∧ Aside0 (Kd.R kRcpt 74 wr w.heap.size (fun k => w2.heap.size ≤ k) (.slice TB ((m.f1.take i).map (fun a => (⟨a, 0, now⟩ : SRcpt))).length Td) ((m.f1.take i).map (fun a => (⟨a, 0, now⟩ : SRcpt)))))
       case atStart => exact ⟨0, none, 0, Nat.zero_le _, by omega, rfl, HB, FM, FR, FO, FX, HO, E, ⟨Kd.R_nil _ _ _ _ _⟩⟩
       case round =>
        clear HB FM FR FO FX HO E HL
        obtain ⟨i, TB, Td, hi, hg, rfl, HB, FM, FR, FO, FX, HO, E, T⟩ := hrel
        have HL : Aside0 (w.heap.size + 3 ≤ wr.heap.size) := ⟨blk_lt FR.out⟩
        by_cases hlt : i < m.f1.length
        ·have hlt' : (i : Int) < (m.f1.length : Int) := by omega
         obtain ⟨ad, e1, p0, p1⟩ := at_Addr K0.out i hlt
         subst e1
         have hnx : (m.f1.take (i + 1)).map (fun a => (⟨a, 0, now⟩ : SRcpt)) = (m.f1.take i).map (fun a => (⟨a, 0, now⟩ : SRcpt)) ++ [⟨m.f1.getD i zAddr, 0, now⟩] := by rw [List.take_succ_eq_append_getElem hlt, List.map_append, List.getD, List.getElem?_eq_getElem hlt]; rfl
         have hln : ((m.f1.take i).map (fun a => (⟨a, 0, now⟩ : SRcpt))).length = i := by rw [List.length_map, List.length_take]; omega
         generalize m.f1.getD i zAddr = y at p0 p1 hnx
         generalize ((m.f1.take i).map (fun a => (⟨a, 0, now⟩ : SRcpt))) = rs at FX T hnx hln
         have HN := Lib.hid hnx
         have HLN := Lib.hid hln
         have lta := World.block_lt_of_cell? _ _ p0
         have e0 : wr.cell? (ad.add (i * 2)) = some (.string y.f0) := (HB.out.cell lta).trans p0
         have e1 : wr.cell? ⟨(ad.add (i * 2)).block, (ad.add (i * 2)).off + 1, none⟩ = some (.string y.f1) := (HB.out.cell (p := ⟨(ad.add (i * 2)).block, (ad.add (i * 2)).off + 1, none⟩) lta).trans p1
         have ltw : (ad.add (i * 2)).block < wr.heap.size := Nat.lt_of_lt_of_le lta HB.out.size
         clear hnx hln p0 p1 lta
         have zFX := blk_lt FX.out
         have cFX_0 : wr.cell? ⟨gx, 0, none⟩ = some (.int .i64 (s.f0 + 1)) := clq FX.out 0 rfl
         have dFX_0 := fzq FX.out 0
         have cFX_1 : wr.cell? ⟨gx, 1, none⟩ = some (.string m.f0.f0) := clq FX.out 1 rfl
         have dFX_1 := fzq FX.out 1
         have cFX_2 : wr.cell? ⟨gx, 2, none⟩ = some (.string m.f0.f1) := clq FX.out 2 rfl
         have dFX_2 := fzq FX.out 2
         have cFX_3 : wr.cell? ⟨gx, 3, none⟩ = some (.slice TB rs.length Td) := clq FX.out 3 rfl
         have dFX_3 := fzq FX.out 3
         have cFX_4 : wr.cell? ⟨gx, 4, none⟩ = some (.slice EB m.f2.length Ed) := clq FX.out 4 rfl
         have dFX_4 := fzq FX.out 4
         go_wp2_with (first | (((with_reducible refine gate_builtin (b := .append) (xs := #[.tmp 52, .tmp 56]) rfl ?_); (try (refine gate_guard (by rfl) ?_; dsimp only)); at_builtin); (clear e0 e1 ltw); (generalize hWwb : World.alloc (wr) _ = wb); (have ltFM := blk_lt FM.out); (have ltFR := blk_lt FR.out); (have ltFO := blk_lt FO.out); (have ltFX := blk_lt FX.out); (have ltb := HB.out.size); (have ltl := HL.out); (have TT : ∀ k, k < wr.heap.size → wb.heap[k]? = wr.heap[k]? := fun k hk => by rw [← hWwb]; (with_reducible repeat (first | rfl | refine hp_set ?_ ?_ | refine hp_alloc ?_ ?_ | refine hp_drew ?_)); all_goals (first | (with_reducible rfl) | omega | (dsimp only; omega) | (simp; omega))); (have TS : wr.heap.size + 1 ≤ wb.heap.size := by rw [← hWwb]; simp); (have nFM : wb.heap[w.heap.size + 1]? = some (.cells #[.string m.f0.f0, .string m.f0.f1, .slice (some ad) m.f1.length m0, .slice M1 m.f2.length m1] 33 (0, 0)) := (TT _ ltFM).trans FM.out); (have nFR : wb.heap[w.heap.size + 2]? = some (.cells #[.int .i64 0, .slice none 0 0] 43 (0, 0)) := (TT _ ltFR).trans FR.out); (have nFO : wb.heap[w2.heap.size]? = some (.cells #[.int .i64 (s.f0 + 1), .slice B s.f1.length d] 43 (0, 0)) := (TT _ ltFO).trans FO.out); (have nFX : wb.heap[gx]? = some (.cells #[.int .i64 (s.f0 + 1), .string m.f0.f0, .string m.f0.f1, .slice TB rs.length Td, .slice EB m.f2.length Ed] 55 (0, 0)) := (TT _ ltFX).trans FX.out); (have nFB : wb.heap[wr.heap.size]? = some (.cells #[.string y.f0, .string y.f1] 30 (0, 0)) := by rw [← hWwb]; exact blk_new wr (.cells #[.string y.f0, .string y.f1] 30)); (have nHO : Kd.S kItem 55 wb w.heap.size (fun k => k < w2.heap.size) (.slice B s.f1.length d) s.f1 := Kd.S_step HO.out (fun k hk hlt => TT k hlt)); (have nE : Kd.R Kd.string 9 wb w2.heap.size (fun _ => True) (.slice EB m.f2.length Ed) m.f2 := R_keepT E.out rfl (fun k hk ho => TT k hk)); (have nT : Kd.R kRcpt 74 wb w.heap.size (fun k => w2.heap.size ≤ k) (.slice TB rs.length Td) rs := R_keepT T.out rfl (fun k hk ho => TT k hk)); (have nHB : Below w.heap.size w wb := by rw [← hWwb]; exact bel_alloc (HB.out) _); (have hsz_ : wr.heap.size + 1 = wb.heap.size := by rw [← hWwb]; simp); (clear zFX cFX_0 dFX_0 cFX_1 dFX_1 cFX_2 dFX_2 cFX_3 dFX_3 cFX_4 dFX_4); (clear hWwb FM FR FO FX HB HO E T); (have FM := Aside0.mk nFM); (clear nFM); (have FR := Aside0.mk nFR); (clear nFR); (have FO := Aside0.mk nFO); (clear nFO); (have FX := Aside0.mk nFX); (clear nFX); (have FB := Aside0.mk nFB); (clear nFB); (have HO := Aside0.mk nHO); (clear nHO); (have E := Aside0.mk nE); (clear nE); (have T := Aside0.mk nT); (clear nT); (have HB := Aside0.mk nHB); (clear nHB); (have oFB_ltFM := ltFM); (have oFB_ltFR := ltFR); (have oFB_ltFO := ltFO); (have oFB_ltFX := ltFX); (have oFB_ltl := ltl); (have oFB_ts := TS); (replace HL := Aside0.mk (Nat.le_trans HL.out (by omega : wr.heap.size ≤ wb.heap.size))); (clear TT TS ltFM ltFR ltFO ltFX ltb ltl); (rw [hsz_]); (clear hsz_); (refine Kd.R_append kRcpt (w0 := w) (w.heap.size) rfl (.tmp 52) (.tmp 56) 53 74 (.agg #[(.string ⟨#[]⟩), (.string ⟨#[]⟩), (.int .i64 0), (.int .i64 0)]) 48 rfl Tryz.underlying53 info74 rfl (by decide) (by omega) (.slice TB rs.length Td) rs (⟨y, 0, now⟩ : SRcpt) [.string y.f0, .string y.f1, .int .i64 0, .int .i64 now] (fun k => w2.heap.size ≤ k) (fun _ => False) rfl rfl (kRcpt_mkM _ _ _ (⟨y, 0, now⟩ : SRcpt)) (fun _ hk => hk.elim) (fun k hk => show w2.heap.size ≤ k from by have := blk_lt FO.out; omega) (T.out) HB.out HB.out.size (by have := HLN.out; omega) ?_); (intro v9 w9 ho hb hg hat); (obtain ⟨vB, vd, hv⟩ := Kd.R_slice ho); (subst hv); (have nFM : w9.heap[w.heap.size + 1]? = some (.cells #[.string m.f0.f0, .string m.f0.f1, .slice (some ad) m.f1.length m0, .slice M1 m.f2.length m1] 33 (0, 0)) := (hg.block _ (blk_lt FM.out) (Kd.R_ne T.out FM.out (by decide))).trans FM.out); (have nFR : w9.heap[w.heap.size + 2]? = some (.cells #[.int .i64 0, .slice none 0 0] 43 (0, 0)) := (hg.block _ (blk_lt FR.out) (Kd.R_ne T.out FR.out (by decide))).trans FR.out); (have nFO : w9.heap[w2.heap.size]? = some (.cells #[.int .i64 (s.f0 + 1), .slice B s.f1.length d] 43 (0, 0)) := (hg.block _ (blk_lt FO.out) (Kd.R_ne T.out FO.out (by decide))).trans FO.out); (have nFX : w9.heap[gx]? = some (.cells #[.int .i64 (s.f0 + 1), .string m.f0.f0, .string m.f0.f1, .slice TB rs.length Td, .slice EB m.f2.length Ed] 55 (0, 0)) := (hg.block _ (blk_lt FX.out) (Kd.R_ne T.out FX.out (by decide))).trans FX.out); (have nHO : Kd.S kItem 55 w9 w.heap.size (fun k => k < w2.heap.size) (.slice B s.f1.length d) s.f1 := Kd.S_step HO.out (fun k hk hlt => hg.block k hlt (fun e => by have h1_ : k < w2.heap.size := hk; have h2_ : w2.heap.size ≤ k := T.out.1 k e.symm; omega))); (have nE : Kd.R Kd.string 9 w9 w2.heap.size (fun _ => True) (.slice EB m.f2.length Ed) m.f2 := Kd.R_over' E.out (Kd.R_typed T.out) (by decide) hg); (have nHL := Nat.le_trans HL.out hg.size); (clear HB T FM FR FO FX HO E HL FB); (have FM := Aside0.mk nFM); (have FR := Aside0.mk nFR); (have FO := Aside0.mk nFO); (have FX := Aside0.mk nFX); (have HO := Aside0.mk nHO); (have E := Aside0.mk nE); (have HL := Aside0.mk nHL); (clear nFM nFR nFO nFX nHO nE nHL); (have HB := Aside0.mk hb); (have T := Aside0.mk ho); (clear ho hb hg hat); (have zFX := blk_lt FX.out); (have cFX_0 : w9.cell? ⟨gx, 0, none⟩ = some (.int .i64 (s.f0 + 1)) := clq FX.out 0 rfl); (have dFX_0 := fzq FX.out 0); (have cFX_1 : w9.cell? ⟨gx, 1, none⟩ = some (.string m.f0.f0) := clq FX.out 1 rfl); (have dFX_1 := fzq FX.out 1); (have cFX_2 : w9.cell? ⟨gx, 2, none⟩ = some (.string m.f0.f1) := clq FX.out 2 rfl); (have dFX_2 := fzq FX.out 2); (have cFX_3 : w9.cell? ⟨gx, 3, none⟩ = some (.slice TB rs.length Td) := clq FX.out 3 rfl); (have dFX_3 := fzq FX.out 3); (have cFX_4 : w9.cell? ⟨gx, 4, none⟩ = some (.slice EB m.f2.length Ed) := clq FX.out 4 rfl); (have dFX_4 := fzq FX.out 4)))
         generalize hWwc : World.setCell (w9) _ _ = wc
         have ltFM := blk_lt FM.out
         have ltFR := blk_lt FR.out
         have ltFO := blk_lt FO.out
         have ltFX := blk_lt FX.out
         have ltb := HB.out.size
         have ltl := HL.out
         have TT : ∀ k, k < w9.heap.size → k ≠ gx → wc.heap[k]? = w9.heap[k]? := fun k hk n_FX => by rw [← hWwc]; (with_reducible repeat (first | rfl | refine hp_set ?_ ?_ | refine hp_alloc ?_ ?_ | refine hp_drew ?_)); all_goals (first | (with_reducible rfl) | omega | (dsimp only; omega) | (simp; omega))
         have TS : w9.heap.size + 0 ≤ wc.heap.size := by rw [← hWwc]; simp
         have nFM : wc.heap[w.heap.size + 1]? = some (.cells #[.string m.f0.f0, .string m.f0.f1, .slice (some ad) m.f1.length m0, .slice M1 m.f2.length m1] 33 (0, 0)) := (TT _ ltFM (by omega)).trans FM.out
         have nFR : wc.heap[w.heap.size + 2]? = some (.cells #[.int .i64 0, .slice none 0 0] 43 (0, 0)) := (TT _ ltFR (by omega)).trans FR.out
         have nFO : wc.heap[w2.heap.size]? = some (.cells #[.int .i64 (s.f0 + 1), .slice B s.f1.length d] 43 (0, 0)) := (TT _ ltFO (by omega)).trans FO.out
         have nFX : wc.heap[gx]? = some (.cells #[.int .i64 (s.f0 + 1), .string m.f0.f0, .string m.f0.f1, .slice vB (rs ++ [(⟨y, 0, now⟩ : SRcpt)]).length vd, .slice EB m.f2.length Ed] 55 (0, 0)) := by rw [← hWwc]; have h := blk_set1 (FX.out) 3 (.slice vB (rs ++ [(⟨y, 0, now⟩ : SRcpt)]).length vd); simpa using h
         have nHO : Kd.S kItem 55 wc w.heap.size (fun k => k < w2.heap.size) (.slice B s.f1.length d) s.f1 := Kd.S_step HO.out (fun k hk hlt => TT k hlt (by have h_ : k < w2.heap.size := hk; omega))
         have nE : Kd.R Kd.string 9 wc w2.heap.size (fun _ => True) (.slice EB m.f2.length Ed) m.f2 := R_keepT E.out rfl (fun k hk ho => TT k hk (fun e => Kd.R_ne E.out FX.out (by decide) (e ▸ ho)))
         have nT : Kd.R kRcpt 74 wc w.heap.size (fun k => w2.heap.size ≤ k) (.slice vB (rs ++ [(⟨y, 0, now⟩ : SRcpt)]).length vd) (rs ++ [(⟨y, 0, now⟩ : SRcpt)]) := R_keepT T.out rfl (fun k hk ho => TT k hk (fun e => Kd.R_ne T.out FX.out (by decide) (e ▸ ho)))
         have nHB : Below w.heap.size w wc := by rw [← hWwc]; exact bel_set (HB.out) _ (by show w.heap.size ≤ gx; first | omega | (simp; omega))
         clear zFX cFX_0 dFX_0 cFX_1 dFX_1 cFX_2 dFX_2 cFX_3 dFX_3 cFX_4 dFX_4
         clear hWwc FM FR FO FX HB HO E T
         have FM := Aside0.mk nFM
         clear nFM
         have FR := Aside0.mk nFR
         clear nFR
         have FO := Aside0.mk nFO
         clear nFO
         have FX := Aside0.mk nFX
         clear nFX
         have HO := Aside0.mk nHO
         clear nHO
         have E := Aside0.mk nE
         clear nE
         have T := Aside0.mk nT
         clear nT
         have HB := Aside0.mk nHB
         clear nHB
         replace HL := Aside0.mk (Nat.le_trans HL.out (by omega : w9.heap.size ≤ wc.heap.size))
         clear TT TS ltFM ltFR ltFO ltFX ltb ltl
         go_roundg (m.f1.length - (i + 1))
         case measure => omega
         case rel => exact ⟨i + 1, vB, vd, by omega, Nat.le_refl _, by go_num, HB, FM, FR, FO, ⟨by rw [HN.out]; exact FX.out⟩, HO, E, ⟨by rw [HN.out]; exact T.out⟩⟩
        ·have hlt' : ¬ (i : Int) < (m.f1.length : Int) := by omega
         have hall : ((m.f1.take i).map (fun a => (⟨a, 0, now⟩ : SRcpt))) = m.f1.map (fun a => (⟨a, 0, now⟩ : SRcpt)) := by rw [List.take_of_length_le (by omega)]
         generalize hrs : ((m.f1.take i).map (fun a => (⟨a, 0, now⟩ : SRcpt))) = rs at FX T hall
         have HRS := Lib.hid hall
         clear hrs hall
         have hbase : w.heap.size ≤ w2.heap.size := by have := HB2.out; omega
         have zFO := blk_lt FO.out
         have cFO_0 : wr.cell? ⟨w2.heap.size, 0, none⟩ = some (.int .i64 (s.f0 + 1)) := clq FO.out 0 rfl
         have cFO_1 : wr.cell? ⟨w2.heap.size, 1, none⟩ = some (.slice B s.f1.length d) := clq FO.out 1 rfl
         have zFX := blk_lt FX.out
         have cFX_0 : wr.cell? ⟨gx, 0, none⟩ = some (.int .i64 (s.f0 + 1)) := clq FX.out 0 rfl
         have cFX_1 : wr.cell? ⟨gx, 1, none⟩ = some (.string m.f0.f0) := clq FX.out 1 rfl
         have cFX_2 : wr.cell? ⟨gx, 2, none⟩ = some (.string m.f0.f1) := clq FX.out 2 rfl
         have cFX_3 : wr.cell? ⟨gx, 3, none⟩ = some (.slice TB rs.length Td) := clq FX.out 3 rfl
         have cFX_4 : wr.cell? ⟨gx, 4, none⟩ = some (.slice EB m.f2.length Ed) := clq FX.out 4 rfl
         go_wp2_with (first | (((with_reducible refine gate_builtin (b := .append) (xs := #[.tmp 61, .tmp 63]) rfl ?_); (try (refine gate_guard (by rfl) ?_; dsimp only)); at_builtin); (refine Kd.S_append kItem (w0 := w) (w.heap.size) rfl (.tmp 61) (.tmp 63) 41 55 (.agg #[(.int .i64 0), (.string ⟨#[]⟩), (.string ⟨#[]⟩), (.slice none 0 0), (.slice none 0 0)]) 88 rfl Tryz.underlying41 info55 rfl (by decide) (by omega) (.slice B s.f1.length d) s.f1 (⟨s.f0 + 1, m.f0, rs, m.f2⟩ : SItem) [.int .i64 (s.f0 + 1), .string m.f0.f0, .string m.f0.f1, .slice TB rs.length Td, .slice EB m.f2.length Ed] (fun _ => True) (fun k => w2.heap.size ≤ k) rfl rfl (kItem_mkM _ _ _ (⟨s.f0 + 1, m.f0, rs, m.f2⟩ : SItem) T.out (Kd.R_mono (Kd.R_lower (base' := w.heap.size) (Kd.R_bound E.out) hbase) (fun k hk => hk.2.1))) (fun k hk => ⟨trivial, fun e => absurd ((Kd.S_R HO.out).1 k e.symm) (Nat.not_lt.2 hk)⟩) (fun _ _ => trivial) (Kd.S_mono HO.out (fun k hk => ⟨trivial, fun h => absurd hk (Nat.not_lt.2 h)⟩)) HB.out HB.out.size (by omega) ?_); (intro v9 w9 ho hb hg hat); (obtain ⟨vB, vd, hv⟩ := Kd.S_slice ho); (subst hv); (have nFR : w9.heap[w.heap.size + 2]? = some (.cells #[.int .i64 0, .slice none 0 0] 43 (0, 0)) := (hg.block _ (blk_lt FR.out) (Kd.S_ne HO.out FR.out (by decide))).trans FR.out); (have nFO : w9.heap[w2.heap.size]? = some (.cells #[.int .i64 (s.f0 + 1), .slice B s.f1.length d] 43 (0, 0)) := (hg.block _ (blk_lt FO.out) (Kd.S_ne HO.out FO.out (by decide))).trans FO.out); (clear HB HO FR FO FX FM T E zFO cFO_0 cFO_1 zFX cFX_0 cFX_1 cFX_2 cFX_3 cFX_4); (have FR := Aside0.mk nFR); (have FO := Aside0.mk nFO); (clear nFR nFO); (have HB := Aside0.mk hb); (have HO := Aside0.mk ho); (clear ho hb hg hat); (have zFO := blk_lt FO.out); (have cFO_0 : w9.cell? ⟨w2.heap.size, 0, none⟩ = some (.int .i64 (s.f0 + 1)) := clq FO.out 0 rfl); (have dFO_0 := fzq FO.out 0); (have cFO_1 : w9.cell? ⟨w2.heap.size, 1, none⟩ = some (.slice B s.f1.length d) := clq FO.out 1 rfl); (have dFO_1 := fzq FO.out 1); (have zFR := blk_lt FR.out); (have cFR_0 : w9.cell? ⟨w.heap.size + 2, 0, none⟩ = some (.int .i64 0) := clq FR.out 0 rfl); (have dFR_0 := fzq FR.out 0); (have cFR_1 : w9.cell? ⟨w.heap.size + 2, 1, none⟩ = some (.slice none 0 0) := clq FR.out 1 rfl); (have dFR_1 := fzq FR.out 1)))
         refine bodyPost_ret (v := .tuple #[.agg #[.int .i64 (s.f0 + 1), .slice vB (s.f1 ++ [(⟨s.f0 + 1, m.f0, rs, m.f2⟩ : SItem)]).length vd], .bool true]) ?hrE rfl ?hpE
         case hrE => simp [results, Tryz.results11, go_sem, zFO, cFO_0, dFO_0, cFO_1, dFO_1, zFR, cFR_0, dFR_0, cFR_1, dFR_1]
         case hpE =>
          have hN : newItem s m now = (⟨s.f0 + 1, m.f0, rs, m.f2⟩ : SItem) := by unfold newItem; rw [HRS.out]
          show spPost _ (spAdd s m now) (spAddOk s m now) _ _ _
          rw [show spAdd s m now = (⟨s.f0 + 1, s.f1 ++ [newItem s m now]⟩ : SSpool) from HXV.out, show spAddOk s m now = true from HQV.out]
          exact ⟨vB, vd, by rw [hN], by rw [hN]; exact R_other (R_other (Kd.S_R HO.out) FO.out (by decide) (grown_set1 _ _ _ _)) (blk_far FR.out (by show w.heap.size + 2 ≠ w2.heap.size; have := HB2.out; omega) _) (by decide) ((grown_set1 _ _ _ _).trans (grown_set1 _ _ _ _)), by (with_reducible repeat (first | exact HB.out | refine bel_set ?_ _ ?_)); all_goals ((try dsimp only); omega)⟩

end Go.Proofs.YtiaibgkpohmihaaGreatDoor

/- SpoolAdd of the reference: a contract. -/
namespace Go.Proofs.YtiaibgkpohmihaaGreatDoor
open Go.RowKit Go.Proofs.YtiaibgkpohmihaaGreatDoorW.PrintWords
set_option linter.unusedVariables false
set_option linter.unusedSimpArgs false

theorem specRoom2_any (la : Int) (A : Option Addr) (n c : Nat) (w : World) :
  Calls Tryz.prog 38 #[.agg #[.int .i64 la, .slice A n c]] w fun e w' => e = .returned (.bool (decide ((n : Int) < 10) && decide (la < 999))) ∧ Below w.heap.size w w' := by
 by_cases h : (n : Int) < 10
 ·have hd : decide ((n : Int) < 10) = true := decide_eq_true h
  go_enter Tryz.func38, Tryz.ntmps38
  go_wp2
  go_ret
  exact ⟨retb (by simp [hd]), bel_alloc (Below.refl _ _) _⟩
 ·have hd : decide ((n : Int) < 10) = false := decide_eq_false h
  go_enter Tryz.func38, Tryz.ntmps38
  go_wp2
  go_ret
  exact ⟨retb (by simp [hd]), bel_alloc (Below.refl _ _) _⟩
set_option maxRecDepth 100000 in
set_option maxHeartbeats 8000000 in
theorem specSpoolAdd_any (s : SSpool) (m : SMail) (now : Int) (A0 : Option Addr) (c0 : Nat) (M0 : Option Addr) (m0 : Nat) (M1 : Option Addr) (m1 : Nat) (w : World) (hw : fitSpool s) (hm : fitMail m) (hr0 : Kd.C kItem w A0 s.f1.length s.f1) (hr1 : Kd.C kAddr w M0 m.f1.length m.f1) (hr2 : Kd.C Kd.string w M1 m.f2.length m.f2) :
  Calls Tryz.prog 12 #[.agg #[.int .i64 s.f0, .slice A0 s.f1.length c0], .agg #[.string m.f0.f0, .string m.f0.f1, .slice M0 m.f1.length m0, .slice M1 m.f2.length m1], .int .i64 now] w (spPost w.heap.size (spAdd s m now) (spAddOk s m now) w) := by
 have hok := fun W (hW : Below w.heap.size w W) => specSpool_any s A0 c0 W hw (Kd.C_below hr0 hW)
 have hcp := fun W (hW : Below w.heap.size w W) => specCopySpool_any s A0 c0 W hw (Kd.C_below hr0 hW)
 have hmo := fun W (hW : Below w.heap.size w W) => specMail_any m M0 m0 M1 m1 W hm (Kd.C_below hr1 hW) (Kd.C_below hr2 hW)
 have hti := fun W => specIn_any now 0 9999 W
 have hro := fun W (_ : Below w.heap.size w W) => specRoom2_any s.f0 A0 s.f1.length c0 W
 have hadd := fun B d W (hW : Below w.heap.size w W) (hS : Kd.R kItem 55 W w.heap.size (fun _ => True) (.slice B s.f1.length d) s.f1) (h0 : -1000000000 ≤ s.f0 ∧ s.f0 < 999) => specAdd_any w.heap.size s m now B d M0 m0 M1 m1 W hW.size hw.2.1 ⟨h0.1, by omega⟩ hm.2.1.1 hm.2.2.1 hS (Kd.C_below hr1 hW) (Kd.C_below hr2 hW)
 have hXV : spAdd s m now = if spoolOk s then (if mailOkS m && ((decide (0 ≤ now) && decide (now ≤ 9999)) && (decide ((s.f1.length : Int) < 10) && decide (s.f0 < 999))) then ⟨s.f0 + 1, s.f1 ++ [newItem s m now]⟩ else s) else ⟨0, []⟩ := rfl
 have hQV : spAddOk s m now = (spoolOk s && (mailOkS m && ((decide (0 ≤ now) && decide (now ≤ 9999)) && (decide ((s.f1.length : Int) < 10) && decide (s.f0 < 999))))) := rfl
 have h4 : spoolOk s = true → (decide ((s.f1.length : Int) < 10) && decide (s.f0 < 999)) = true → -1000000000 ≤ s.f0 ∧ s.f0 < 999 := fun h0 h => by
  unfold spoolOk at h0
  simp only [Bool.and_eq_true, decide_eq_true_eq] at h0 h
  omega
 generalize spoolOk s = q1 at hok hXV hQV h4
 generalize mailOkS m = q2 at hmo hXV hQV
 generalize (decide (0 ≤ now) && decide (now ≤ 9999)) = q3 at hti hXV hQV
 generalize (decide ((s.f1.length : Int) < 10) && decide (s.f0 < 999)) = q4 at hro hXV hQV h4
 have HXV := Lib.hid hXV
 have HQV := Lib.hid hQV
 have H4 := Lib.hid h4
 clear hXV hQV h4 hr0 hr1 hr2 hw hm
 go_enter Tryz.func12, Tryz.ntmps12
 go_wp2_with fail
 obtain ⟨W0, hW0⟩ : ∃ W, W = (((w.alloc (.cells #[.int .i64 s.f0, .slice A0 s.f1.length c0] 43)).alloc (.cells #[.string m.f0.f0, .string m.f0.f1, .slice M0 m.f1.length m0, .slice M1 m.f2.length m1] 33)).alloc (.cells #[.int .i64 0, .slice none 0 0] 43)) := ⟨_, rfl⟩
 rw [← hW0]
 have HB : Aside0 (Below w.heap.size w W0) := ⟨by rw [hW0]; exact (bel_alloc (bel_alloc (bel_alloc (Below.refl _ _) _) _) _)⟩
 have F0 : Aside0 (W0.heap[w.heap.size]? = some (.cells #[.int .i64 s.f0, .slice A0 s.f1.length c0] 43 (0, 0))) := ⟨by rw [hW0]; exact blk_alloc (blk_alloc (blk_at _ _ (by first | rfl | (simp; done))) _) _⟩
 have FM : Aside0 (W0.heap[w.heap.size + 1]? = some (.cells #[.string m.f0.f0, .string m.f0.f1, .slice M0 m.f1.length m0, .slice M1 m.f2.length m1] 33 (0, 0))) := ⟨by rw [hW0]; exact blk_alloc (blk_at _ _ (by simp)) _⟩
 have FR : Aside0 (W0.heap[w.heap.size + 2]? = some (.cells #[.int .i64 0, .slice none 0 0] 43 (0, 0))) := ⟨by rw [hW0]; exact blk_at _ _ (by simp)⟩
 have HL : Aside0 (w.heap.size + 3 ≤ W0.heap.size) := ⟨by rw [hW0]; simp⟩
 clear hW0
 refine Calls.mono (hok _ HB.out) ?_
 rintro e w1 ⟨rfl, bw1⟩
 replace F0 := Aside0.mk (below_blk F0.out bw1)
 replace FM := Aside0.mk (below_blk FM.out bw1)
 replace FR := Aside0.mk (below_blk FR.out bw1)
 replace HB := Aside0.mk (bel_then HB.out bw1)
 replace HL := Aside0.mk (Nat.le_trans HL.out bw1.size)
 clear bw1
 clear hok
 cases q1
 ·clear hcp hmo hti hro hadd
  have zF0 := blk_lt F0.out
  have cF0_0 : w1.cell? ⟨w.heap.size, 0, none⟩ = some (.int .i64 s.f0) := clq F0.out 0 rfl
  have cF0_1 : w1.cell? ⟨w.heap.size, 1, none⟩ = some (.slice A0 s.f1.length c0) := clq F0.out 1 rfl
  have zFR := blk_lt FR.out
  have cFR_0 : w1.cell? ⟨w.heap.size + 2, 0, none⟩ = some (.int .i64 0) := clq FR.out 0 rfl
  have dFR_0 := fzq FR.out 0
  have cFR_1 : w1.cell? ⟨w.heap.size + 2, 1, none⟩ = some (.slice none 0 0) := clq FR.out 1 rfl
  have dFR_1 := fzq FR.out 1
  go_wp2
  refine bodyPost_ret (v := .tuple #[.agg #[.int .i64 0, .slice none 0 0], .bool false]) ?hrA rfl ?hpA
  case hrA => simp [results, Tryz.results12, go_sem, zF0, cF0_0, cF0_1, zFR, cFR_0, dFR_0, cFR_1, dFR_1]
  case hpA =>
   show spPost _ (spAdd s m now) (spAddOk s m now) _ _ _
   rw [show spAdd s m now = (⟨0, []⟩ : SSpool) from HXV.out, show spAddOk s m now = false from HQV.out]
   exact ⟨none, 0, rfl, Kd.R_nil _ _ _ _ _, by (with_reducible repeat (first | exact HB.out | refine bel_set ?_ _ ?_)); all_goals ((try dsimp only); omega)⟩
 ·have zF0 := blk_lt F0.out
  have cF0_0 : w1.cell? ⟨w.heap.size, 0, none⟩ = some (.int .i64 s.f0) := clq F0.out 0 rfl
  have cF0_1 : w1.cell? ⟨w.heap.size, 1, none⟩ = some (.slice A0 s.f1.length c0) := clq F0.out 1 rfl
  go_wp2_with fail
  refine Calls.mono (hcp _ HB.out) ?_
  rintro e w2 ⟨B, d, rfl, rHO, bw2⟩
  clear zF0 cF0_0 cF0_1
  replace F0 := Aside0.mk (below_blk F0.out bw2)
  replace FM := Aside0.mk (below_blk FM.out bw2)
  replace FR := Aside0.mk (below_blk FR.out bw2)
  have HO : Aside0 (Kd.S kItem 55 w2 w.heap.size (fun _ => True) (.slice B s.f1.length d) s.f1) := ⟨Kd.S_lower (base' := w.heap.size) rHO HB.out.size⟩
  clear rHO
  replace HB := Aside0.mk (bel_then HB.out bw2)
  replace HL := Aside0.mk (Nat.le_trans HL.out bw2.size)
  clear bw2
  clear hcp
  have zFM := blk_lt FM.out
  have cFM_0 : w2.cell? ⟨w.heap.size + 1, 0, none⟩ = some (.string m.f0.f0) := clq FM.out 0 rfl
  have cFM_1 : w2.cell? ⟨w.heap.size + 1, 1, none⟩ = some (.string m.f0.f1) := clq FM.out 1 rfl
  have cFM_2 : w2.cell? ⟨w.heap.size + 1, 2, none⟩ = some (.slice M0 m.f1.length m0) := clq FM.out 2 rfl
  have cFM_3 : w2.cell? ⟨w.heap.size + 1, 3, none⟩ = some (.slice M1 m.f2.length m1) := clq FM.out 3 rfl
  go_wp2_with fail
  generalize hWw3 : World.alloc (w2) _ = w3
  have ltF0 := blk_lt F0.out
  have ltFM := blk_lt FM.out
  have ltFR := blk_lt FR.out
  have ltb := HB.out.size
  have ltl := HL.out
  have TT : ∀ k, k < w2.heap.size → w3.heap[k]? = w2.heap[k]? := fun k hk => by rw [← hWw3]; (with_reducible repeat (first | rfl | refine hp_set ?_ ?_ | refine hp_alloc ?_ ?_ | refine hp_drew ?_)); all_goals (first | (with_reducible rfl) | omega | (dsimp only; omega) | (simp; omega))
  have TS : w2.heap.size + 1 ≤ w3.heap.size := by rw [← hWw3]; simp
  have nF0 : w3.heap[w.heap.size]? = some (.cells #[.int .i64 s.f0, .slice A0 s.f1.length c0] 43 (0, 0)) := (TT _ ltF0).trans F0.out
  have nFM : w3.heap[w.heap.size + 1]? = some (.cells #[.string m.f0.f0, .string m.f0.f1, .slice M0 m.f1.length m0, .slice M1 m.f2.length m1] 33 (0, 0)) := (TT _ ltFM).trans FM.out
  have nFR : w3.heap[w.heap.size + 2]? = some (.cells #[.int .i64 0, .slice none 0 0] 43 (0, 0)) := (TT _ ltFR).trans FR.out
  have nFO : w3.heap[w2.heap.size]? = some (.cells #[.int .i64 s.f0, .slice B s.f1.length d] 43 (0, 0)) := by rw [← hWw3]; exact blk_new w2 (.cells #[.int .i64 s.f0, .slice B s.f1.length d] 43)
  have nHO : Kd.S kItem 55 w3 w.heap.size (fun _ => True) (.slice B s.f1.length d) s.f1 := Kd.S_mono (Kd.S_step (HO.out) (fun k hk hlt => TT k hlt)) (fun _ hk => hk)
  have nHB : Below w.heap.size w w3 := by rw [← hWw3]; exact bel_alloc (HB.out) _
  clear zFM cFM_0 cFM_1 cFM_2 cFM_3
  clear hWw3 F0 FM FR HB HO
  have F0 := Aside0.mk nF0
  clear nF0
  have FM := Aside0.mk nFM
  clear nFM
  have FR := Aside0.mk nFR
  clear nFR
  have FO := Aside0.mk nFO
  clear nFO
  have HO := Aside0.mk nHO
  clear nHO
  have HB := Aside0.mk nHB
  clear nHB
  have oFO_ltF0 := ltF0
  have oFO_ltFM := ltFM
  have oFO_ltFR := ltFR
  have oFO_ltl := ltl
  have oFO_ts := TS
  replace HL := Aside0.mk (Nat.le_trans HL.out (by omega : w2.heap.size ≤ w3.heap.size))
  clear TT TS ltF0 ltFM ltFR ltb ltl
  refine Calls.mono (hmo _ HB.out) ?_
  rintro e w4 ⟨rfl, bw4⟩
  replace F0 := Aside0.mk (below_blk F0.out bw4)
  replace FM := Aside0.mk (below_blk FM.out bw4)
  replace FR := Aside0.mk (below_blk FR.out bw4)
  replace FO := Aside0.mk (below_blk FO.out bw4)
  replace HO := Aside0.mk (Kd.S_below HO.out bw4)
  replace HB := Aside0.mk (bel_then HB.out bw4)
  replace HL := Aside0.mk (Nat.le_trans HL.out bw4.size)
  clear bw4
  clear hmo
  cases q2
  ·clear hti hro hadd
   have zFO := blk_lt FO.out
   have cFO_0 : w4.cell? ⟨w2.heap.size, 0, none⟩ = some (.int .i64 s.f0) := clq FO.out 0 rfl
   have cFO_1 : w4.cell? ⟨w2.heap.size, 1, none⟩ = some (.slice B s.f1.length d) := clq FO.out 1 rfl
   have zFR := blk_lt FR.out
   have cFR_0 : w4.cell? ⟨w.heap.size + 2, 0, none⟩ = some (.int .i64 0) := clq FR.out 0 rfl
   have dFR_0 := fzq FR.out 0
   have cFR_1 : w4.cell? ⟨w.heap.size + 2, 1, none⟩ = some (.slice none 0 0) := clq FR.out 1 rfl
   have dFR_1 := fzq FR.out 1
   go_wp2
   refine bodyPost_ret (v := .tuple #[.agg #[.int .i64 s.f0, .slice B s.f1.length d], .bool false]) ?hrB rfl ?hpB
   case hrB => simp [results, Tryz.results12, go_sem, zFO, cFO_0, cFO_1, zFR, cFR_0, dFR_0, cFR_1, dFR_1]
   case hpB =>
    show spPost _ (spAdd s m now) (spAddOk s m now) _ _ _
    rw [show spAdd s m now = s from HXV.out, show spAddOk s m now = false from HQV.out]
    exact ⟨B, d, rfl, R_other (Kd.S_R HO.out) FR.out (by decide) ((grown_set1 _ _ _ _).trans (grown_set1 _ _ _ _)), by (with_reducible repeat (first | exact HB.out | refine bel_set ?_ _ ?_)); all_goals ((try dsimp only); omega)⟩
  ·go_wp2_with fail
   refine Calls.mono (hti _) ?_
   rintro e w5 ⟨rfl, hw5⟩
   subst hw5
   clear hti
   cases q3
   ·clear hro hadd
    have zFO := blk_lt FO.out
    have cFO_0 : w4.cell? ⟨w2.heap.size, 0, none⟩ = some (.int .i64 s.f0) := clq FO.out 0 rfl
    have cFO_1 : w4.cell? ⟨w2.heap.size, 1, none⟩ = some (.slice B s.f1.length d) := clq FO.out 1 rfl
    have zFR := blk_lt FR.out
    have cFR_0 : w4.cell? ⟨w.heap.size + 2, 0, none⟩ = some (.int .i64 0) := clq FR.out 0 rfl
    have dFR_0 := fzq FR.out 0
    have cFR_1 : w4.cell? ⟨w.heap.size + 2, 1, none⟩ = some (.slice none 0 0) := clq FR.out 1 rfl
    have dFR_1 := fzq FR.out 1
    go_wp2
    refine bodyPost_ret (v := .tuple #[.agg #[.int .i64 s.f0, .slice B s.f1.length d], .bool false]) ?hrC rfl ?hpC
    case hrC => simp [results, Tryz.results12, go_sem, zFO, cFO_0, cFO_1, zFR, cFR_0, dFR_0, cFR_1, dFR_1]
    case hpC =>
     show spPost _ (spAdd s m now) (spAddOk s m now) _ _ _
     rw [show spAdd s m now = s from HXV.out, show spAddOk s m now = false from HQV.out]
     exact ⟨B, d, rfl, R_other (Kd.S_R HO.out) FR.out (by decide) ((grown_set1 _ _ _ _).trans (grown_set1 _ _ _ _)), by (with_reducible repeat (first | exact HB.out | refine bel_set ?_ _ ?_)); all_goals ((try dsimp only); omega)⟩
   ·have zF0 := blk_lt F0.out
    have cF0_0 : w4.cell? ⟨w.heap.size, 0, none⟩ = some (.int .i64 s.f0) := clq F0.out 0 rfl
    have cF0_1 : w4.cell? ⟨w.heap.size, 1, none⟩ = some (.slice A0 s.f1.length c0) := clq F0.out 1 rfl
    go_wp2_with fail
    refine Calls.mono (hro _ HB.out) ?_
    rintro e w6 ⟨rfl, bw6⟩
    clear zF0 cF0_0 cF0_1
    replace F0 := Aside0.mk (below_blk F0.out bw6)
    replace FM := Aside0.mk (below_blk FM.out bw6)
    replace FR := Aside0.mk (below_blk FR.out bw6)
    replace FO := Aside0.mk (below_blk FO.out bw6)
    replace HO := Aside0.mk (Kd.S_below HO.out bw6)
    replace HB := Aside0.mk (bel_then HB.out bw6)
    replace HL := Aside0.mk (Nat.le_trans HL.out bw6.size)
    clear bw6
    clear hro
    cases q4
    ·clear hadd
     have zFO := blk_lt FO.out
     have cFO_0 : w6.cell? ⟨w2.heap.size, 0, none⟩ = some (.int .i64 s.f0) := clq FO.out 0 rfl
     have cFO_1 : w6.cell? ⟨w2.heap.size, 1, none⟩ = some (.slice B s.f1.length d) := clq FO.out 1 rfl
     have zFR := blk_lt FR.out
     have cFR_0 : w6.cell? ⟨w.heap.size + 2, 0, none⟩ = some (.int .i64 0) := clq FR.out 0 rfl
     have dFR_0 := fzq FR.out 0
     have cFR_1 : w6.cell? ⟨w.heap.size + 2, 1, none⟩ = some (.slice none 0 0) := clq FR.out 1 rfl
     have dFR_1 := fzq FR.out 1
     go_wp2
     refine bodyPost_ret (v := .tuple #[.agg #[.int .i64 s.f0, .slice B s.f1.length d], .bool false]) ?hrD rfl ?hpD
     case hrD => simp [results, Tryz.results12, go_sem, zFO, cFO_0, cFO_1, zFR, cFR_0, dFR_0, cFR_1, dFR_1]
     case hpD =>
      show spPost _ (spAdd s m now) (spAddOk s m now) _ _ _
      rw [show spAdd s m now = s from HXV.out, show spAddOk s m now = false from HQV.out]
      exact ⟨B, d, rfl, R_other (Kd.S_R HO.out) FR.out (by decide) ((grown_set1 _ _ _ _).trans (grown_set1 _ _ _ _)), by (with_reducible repeat (first | exact HB.out | refine bel_set ?_ _ ?_)); all_goals ((try dsimp only); omega)⟩
    ·have hs0 := H4.out (by trivial) (by trivial)
     have zFO := blk_lt FO.out
     have cFO_0 : w6.cell? ⟨w2.heap.size, 0, none⟩ = some (.int .i64 s.f0) := clq FO.out 0 rfl
     have cFO_1 : w6.cell? ⟨w2.heap.size, 1, none⟩ = some (.slice B s.f1.length d) := clq FO.out 1 rfl
     have zFM := blk_lt FM.out
     have cFM_0 : w6.cell? ⟨w.heap.size + 1, 0, none⟩ = some (.string m.f0.f0) := clq FM.out 0 rfl
     have cFM_1 : w6.cell? ⟨w.heap.size + 1, 1, none⟩ = some (.string m.f0.f1) := clq FM.out 1 rfl
     have cFM_2 : w6.cell? ⟨w.heap.size + 1, 2, none⟩ = some (.slice M0 m.f1.length m0) := clq FM.out 2 rfl
     have cFM_3 : w6.cell? ⟨w.heap.size + 1, 3, none⟩ = some (.slice M1 m.f2.length m1) := clq FM.out 3 rfl
     go_wp2_with fail
     have had := hadd B d _ HB.out (Kd.S_R HO.out) hs0
     generalize hLL : s.f1 ++ [newItem s m now] = L at had
     have HLL := Lib.hid hLL
     clear hLL hadd
     refine Calls.mono (had) ?_
     rintro e w7 ⟨GB, Gd, rfl, hG1, bw7⟩
     clear zFO cFO_0 cFO_1 zFM cFM_0 cFM_1 cFM_2 cFM_3
     replace F0 := Aside0.mk (below_blk F0.out bw7)
     replace FM := Aside0.mk (below_blk FM.out bw7)
     replace FR := Aside0.mk (below_blk FR.out bw7)
     replace FO := Aside0.mk (below_blk FO.out bw7)
     replace HO := Aside0.mk (Kd.S_below HO.out bw7)
     replace HB := Aside0.mk (bel_then HB.out bw7)
     replace HL := Aside0.mk (Nat.le_trans HL.out bw7.size)
     clear bw7
     have G := Aside0.mk hG1
     clear hG1 had HO
     have zFR := blk_lt FR.out
     have cFR_0 : w7.cell? ⟨w.heap.size + 2, 0, none⟩ = some (.int .i64 0) := clq FR.out 0 rfl
     have dFR_0 := fzq FR.out 0
     have cFR_1 : w7.cell? ⟨w.heap.size + 2, 1, none⟩ = some (.slice none 0 0) := clq FR.out 1 rfl
     have dFR_1 := fzq FR.out 1
     go_wp2
     refine bodyPost_ret (v := .tuple #[.agg #[.int .i64 (s.f0 + 1), .slice GB L.length Gd], .bool true]) ?hrE rfl ?hpE
     case hrE => simp [results, Tryz.results12, go_sem, zFR, cFR_0, dFR_0, cFR_1, dFR_1]
     case hpE =>
      show spPost _ (spAdd s m now) (spAddOk s m now) _ _ _
      rw [show spAdd s m now = (⟨s.f0 + 1, s.f1 ++ [newItem s m now]⟩ : SSpool) from HXV.out, show spAddOk s m now = true from HQV.out]
      exact ⟨GB, Gd, by rw [HLL.out], by rw [HLL.out]; exact R_other G.out FR.out (by decide) ((grown_set1 _ _ _ _).trans (grown_set1 _ _ _ _)), by (with_reducible repeat (first | exact HB.out | refine bel_set ?_ _ ?_)); all_goals ((try dsimp only); omega)⟩

end Go.Proofs.YtiaibgkpohmihaaGreatDoor
