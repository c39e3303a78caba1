/- AliasMail of the program: a contract. -/
import Derived.Test.YticepbgacokbbaaGreatDoorAlWalk
import Derived.Test.YticepbgacokbbaaGreatDoorMailS
import Derived.Test.YticepbgacokbbaaGreatDoorClone
import Derived.Test.YticepbgacokbbaaGreatDoorReg
import Derived.Deep.RegionHeld3
namespace Go.Proofs.YticepbgacokbbaaGreatDoor
open Go Go.RowKit Go.Maps Go.WideMaps Go.Proofs.YticepbgacokbbaaGreatDoorW.PrintWords
set_option linter.unusedVariables false
set_option linter.unusedSimpArgs false

noncomputable def aliasMailOk (xs : List SAlias) (m : SMail) : Bool := aliasOk xs && (mailOkS m && (decide ((1 : Int) ≤ ((ends xs m.f1).length : Int)) && decide (((ends xs m.f1).length : Int) ≤ 4)))
def zMailA : SMail := ⟨⟨⟨#[]⟩, ⟨#[]⟩⟩, [], []⟩
noncomputable def aliasMail (xs : List SAlias) (m : SMail) : SMail := if aliasMailOk xs m then ⟨m.f0, ends xs m.f1, m.f2⟩ else zMailA

set_option maxRecDepth 100000 in
set_option maxHeartbeats 8000000 in
theorem aliasMail_any (A : Option Addr) (c : Nat) (xs : List SAlias) (m : SMail) (A0 : Option Addr) (c0 : Nat) (A1 : Option Addr) (c1 : Nat) (w : World) (hw : xs.length ≤ 1048576 ∧ ∀ x ∈ xs, fitAlias x) (hm : fitMail m) (hr : Kd.C kAlias w A xs.length xs) (hr0 : Kd.C kAddr w A0 m.f1.length m.f1) (hr1 : Kd.C Kd.string w A1 m.f2.length m.f2) (hG : Glob w) :
  Calls Tryz.prog 6 #[.slice A xs.length c, .agg #[.string m.f0.f0, .string m.f0.f1, .slice A0 m.f1.length c0, .slice A1 m.f2.length c1]] w fun e w' => ∃ B d C f, e = .returned (.tuple #[.agg #[.string (aliasMail xs m).f0.f0, .string (aliasMail xs m).f0.f1, .slice B (aliasMail xs m).f1.length d, .slice C (aliasMail xs m).f2.length f], .bool (aliasMailOk xs m)]) ∧ Kd.R kAddr 25 w' w.heap.size (fun _ => True) (.slice B (aliasMail xs m).f1.length d) (aliasMail xs m).f1 ∧ Kd.R Kd.string 9 w' w.heap.size (fun _ => True) (.slice C (aliasMail xs m).f2.length f) (aliasMail xs m).f2 ∧ Below w.heap.size w w' := by
 have hok := fun W (hW : Below w.heap.size w W) => aliasOk_any A c xs W hw (Kd.C_below hr hW) (hG.below hW)
 have hmo : ∀ W, Below w.heap.size w W → Calls Tryz.prog 10 #[.agg #[.string m.f0.f0, .string m.f0.f1, .slice A0 m.f1.length c0, .slice A1 m.f2.length c1]] W fun e w' => e = .returned (.bool (mailOkS m)) ∧ Below W.heap.size W w' := fun W hW => MailOk_any m.f0.f0 m.f0.f1 A0 c0 m.f1 A1 c1 m.f2 W (by have := hm.1.1; omega) (by have := hm.1.2; omega) (Kd.C_below hr0 hW) (by have := hm.2.1.1; omega) (fun z hz => afit_of z (hm.2.1.2 z hz)) (Kd.C_below hr1 hW) (bfit_of hm.2.2).1 (bfit_of hm.2.2).2 (hG.below hW)
 have hgr := fun (hq : aliasOk xs = true) W (hW : Below w.heap.size w W) => graphOf_any A c xs W hw (Kd.C_below hr hW) (ok_nodup hq)
 have hctx := fun (hq : aliasOk xs = true) => al_ctx (fr := m.f1) hq hw.2 (fun b hb => hm.2.1.2 b hb) hm.2.1.1
 have HT := Aside0.mk hr0
 have HBD := Aside0.mk hr1
 have HFL := Lib.hid (show m.f1.length ≤ 1048576 from hm.2.1.1)
 have HBL := Lib.hid (show m.f2.length ≤ 1048576 from hm.2.2.1)
 obtain ⟨X, hX⟩ : ∃ X, X = aliasMail xs m := ⟨_, rfl⟩
 obtain ⟨Q, hQ⟩ : ∃ Q, Q = aliasMailOk xs m := ⟨_, rfl⟩
 rw [← hX, ← hQ]
 unfold aliasMail at hX
 rw [← hQ] at hX
 unfold aliasMailOk at hQ
 rw [hQ] at hX
 generalize aliasOk xs = q1 at hok hX hQ hgr hctx
 generalize mailOkS m = q2 at hmo hX hQ
 have HX := Lib.hid hX
 have HQ := Lib.hid hQ
 have HC := Lib.hid hctx
 have HE := Lib.hid True.intro
 clear hX hQ hctx hr hr0 hr1 hw hG hm
 go_enter Tryz.func6, Tryz.ntmps6
 go_wp2_with fail
 obtain ⟨W0, hW0⟩ : ∃ W, W = ((w.alloc (.cells #[.string m.f0.f0, .string m.f0.f1, .slice A0 m.f1.length c0, .slice A1 m.f2.length c1] 29)).alloc (.cells #[.string ⟨#[]⟩, .string ⟨#[]⟩, .slice none 0 0, .slice none 0 0] 29)) := ⟨_, rfl⟩
 rw [← hW0]
 have HB : Aside0 (Below w.heap.size w W0) := ⟨by rw [hW0]; exact (bel_alloc (bel_alloc (Below.refl _ _) _) _)⟩
 have FM : Aside0 (W0.heap[w.heap.size]? = some (.cells #[.string m.f0.f0, .string m.f0.f1, .slice A0 m.f1.length c0, .slice A1 m.f2.length c1] 29 (0, 0))) := ⟨by rw [hW0]; exact blk_alloc (blk_at _ _ (by first | rfl | (simp; done))) _⟩
 have FZ : Aside0 (W0.heap[w.heap.size + 1]? = some (.cells #[.string ⟨#[]⟩, .string ⟨#[]⟩, .slice none 0 0, .slice none 0 0] 29 (0, 0))) := ⟨by rw [hW0]; exact blk_at _ _ (by simp)⟩
 have HL : Aside0 (w.heap.size + 2 ≤ W0.heap.size) := ⟨by rw [hW0]; simp⟩
 clear hW0
 refine Calls.mono (hok _ HB.out) ?_
 rintro e w1 ⟨rfl, bw1⟩
 replace FM := Aside0.mk (below_blk FM.out bw1)
 replace FZ := Aside0.mk (below_blk FZ.out bw1)
 replace HB := Aside0.mk (bel_then HB.out bw1)
 replace HL := Aside0.mk (Nat.le_trans HL.out bw1.size)
 clear bw1
 clear hok
 cases q1
 ·clear hgr hmo HC HE
  have zFM := blk_lt FM.out
  have cFM_0 : w1.cell? ⟨w.heap.size, 0, none⟩ = some (.string m.f0.f0) := clq FM.out 0 rfl
  have cFM_1 : w1.cell? ⟨w.heap.size, 1, none⟩ = some (.string m.f0.f1) := clq FM.out 1 rfl
  have cFM_2 : w1.cell? ⟨w.heap.size, 2, none⟩ = some (.slice A0 m.f1.length c0) := clq FM.out 2 rfl
  have cFM_3 : w1.cell? ⟨w.heap.size, 3, none⟩ = some (.slice A1 m.f2.length c1) := clq FM.out 3 rfl
  have zFZ := blk_lt FZ.out
  have cFZ_0 : w1.cell? ⟨w.heap.size + 1, 0, none⟩ = some (.string ⟨#[]⟩) := clq FZ.out 0 rfl
  have dFZ_0 := fzq FZ.out 0
  have cFZ_1 : w1.cell? ⟨w.heap.size + 1, 1, none⟩ = some (.string ⟨#[]⟩) := clq FZ.out 1 rfl
  have dFZ_1 := fzq FZ.out 1
  have cFZ_2 : w1.cell? ⟨w.heap.size + 1, 2, none⟩ = some (.slice none 0 0) := clq FZ.out 2 rfl
  have dFZ_2 := fzq FZ.out 2
  have cFZ_3 : w1.cell? ⟨w.heap.size + 1, 3, none⟩ = some (.slice none 0 0) := clq FZ.out 3 rfl
  have dFZ_3 := fzq FZ.out 3
  obtain rfl : Q = false := HQ.out
  obtain rfl : X = zMailA := HX.out
  go_wp2
  refine bodyPost_ret (v := .tuple #[.agg #[.string ⟨#[]⟩, .string ⟨#[]⟩, .slice none 0 0, .slice none 0 0], .bool false]) ?hr rfl ?hp
  case hr => simp [results, Tryz.results6, go_sem, cFZ_0, dFZ_0, cFZ_1, dFZ_1, cFZ_2, dFZ_2, cFZ_3, dFZ_3]
  case hp => exact ⟨none, 0, none, 0, rfl, Kd.R_nil _ _ _ _ _, Kd.R_nil _ _ _ _ _, by (with_reducible repeat (first | exact HB.out | refine bel_alloc ?_ _ | refine bel_set ?_ _ ?_ | refine blw_drewN ?_ _ | refine Below.drew ?_)); all_goals (first | (simp; done) | (simp; omega) | omega)⟩
 ·have zFM := blk_lt FM.out
  have cFM_0 : w1.cell? ⟨w.heap.size, 0, none⟩ = some (.string m.f0.f0) := clq FM.out 0 rfl
  have cFM_1 : w1.cell? ⟨w.heap.size, 1, none⟩ = some (.string m.f0.f1) := clq FM.out 1 rfl
  have cFM_2 : w1.cell? ⟨w.heap.size, 2, none⟩ = some (.slice A0 m.f1.length c0) := clq FM.out 2 rfl
  have cFM_3 : w1.cell? ⟨w.heap.size, 3, none⟩ = some (.slice A1 m.f2.length c1) := clq FM.out 3 rfl
  go_wp2_with fail
  refine Calls.mono (hmo _ HB.out) ?_
  rintro e w2 ⟨rfl, bw2⟩
  clear zFM cFM_0 cFM_1 cFM_2 cFM_3
  replace FM := Aside0.mk (below_blk FM.out bw2)
  replace FZ := Aside0.mk (below_blk FZ.out bw2)
  replace HB := Aside0.mk (bel_then HB.out bw2)
  replace HL := Aside0.mk (Nat.le_trans HL.out bw2.size)
  clear bw2
  clear hmo
  cases q2
  ·clear hgr HC HE
   have zFM := blk_lt FM.out
   have cFM_0 : w2.cell? ⟨w.heap.size, 0, none⟩ = some (.string m.f0.f0) := clq FM.out 0 rfl
   have cFM_1 : w2.cell? ⟨w.heap.size, 1, none⟩ = some (.string m.f0.f1) := clq FM.out 1 rfl
   have cFM_2 : w2.cell? ⟨w.heap.size, 2, none⟩ = some (.slice A0 m.f1.length c0) := clq FM.out 2 rfl
   have cFM_3 : w2.cell? ⟨w.heap.size, 3, none⟩ = some (.slice A1 m.f2.length c1) := clq FM.out 3 rfl
   have zFZ := blk_lt FZ.out
   have cFZ_0 : w2.cell? ⟨w.heap.size + 1, 0, none⟩ = some (.string ⟨#[]⟩) := clq FZ.out 0 rfl
   have dFZ_0 := fzq FZ.out 0
   have cFZ_1 : w2.cell? ⟨w.heap.size + 1, 1, none⟩ = some (.string ⟨#[]⟩) := clq FZ.out 1 rfl
   have dFZ_1 := fzq FZ.out 1
   have cFZ_2 : w2.cell? ⟨w.heap.size + 1, 2, none⟩ = some (.slice none 0 0) := clq FZ.out 2 rfl
   have dFZ_2 := fzq FZ.out 2
   have cFZ_3 : w2.cell? ⟨w.heap.size + 1, 3, none⟩ = some (.slice none 0 0) := clq FZ.out 3 rfl
   have dFZ_3 := fzq FZ.out 3
   obtain rfl : Q = false := HQ.out
   obtain rfl : X = zMailA := HX.out
   go_wp2
   refine bodyPost_ret (v := .tuple #[.agg #[.string ⟨#[]⟩, .string ⟨#[]⟩, .slice none 0 0, .slice none 0 0], .bool false]) ?hr rfl ?hp
   case hr => simp [results, Tryz.results6, go_sem, cFZ_0, dFZ_0, cFZ_1, dFZ_1, cFZ_2, dFZ_2, cFZ_3, dFZ_3]
   case hp => exact ⟨none, 0, none, 0, rfl, Kd.R_nil _ _ _ _ _, Kd.R_nil _ _ _ _ _, by (with_reducible repeat (first | exact HB.out | refine bel_alloc ?_ _ | refine bel_set ?_ _ ?_ | refine blw_drewN ?_ _ | refine Below.drew ?_)); all_goals (first | (simp; done) | (simp; omega) | omega)⟩
  ·have zFM := blk_lt FM.out
   have cFM_0 : w2.cell? ⟨w.heap.size, 0, none⟩ = some (.string m.f0.f0) := clq FM.out 0 rfl
   have cFM_1 : w2.cell? ⟨w.heap.size, 1, none⟩ = some (.string m.f0.f1) := clq FM.out 1 rfl
   have cFM_2 : w2.cell? ⟨w.heap.size, 2, none⟩ = some (.slice A0 m.f1.length c0) := clq FM.out 2 rfl
   have cFM_3 : w2.cell? ⟨w.heap.size, 3, none⟩ = some (.slice A1 m.f2.length c1) := clq FM.out 3 rfl
   go_wp2
   have HS1 : Aside0 (∀ W : World, (W.heap[w.heap.size]? = some (.cells #[.string m.f0.f0, .string m.f0.f1, .slice A0 m.f1.length c0, .slice A1 m.f2.length c1] 29 (0, 0))) → W.cell? ⟨w.heap.size, 0, none⟩ = some (.string m.f0.f0) ∧ W.cell? ⟨w.heap.size, 1, none⟩ = some (.string m.f0.f1) ∧ W.cell? ⟨w.heap.size, 2, none⟩ = some (.slice A0 m.f1.length c0) ∧ W.cell? ⟨w.heap.size, 3, none⟩ = some (.slice A1 m.f2.length c1)) := ⟨fun W h => ⟨(by have h_ := h; simp [World.cell?, h_]), (by have h_ := h; simp [World.cell?, h_]), (by have h_ := h; simp [World.cell?, h_]), (by have h_ := h; simp [World.cell?, h_])⟩⟩
   refine wp_region_held_drew (S := fun (W : World) => W.heap[w.heap.size]? = some (.cells #[.string m.f0.f0, .string m.f0.f1, .slice A0 m.f1.length c0, .slice A1 m.f2.length c1] 29 (0, 0))) (by kernel_rfl) ?s2 (fun hHeld => ?t2)
   case s2 => exact (show (fun (W : World) => W.heap[w.heap.size]? = some (.cells #[.string m.f0.f0, .string m.f0.f1, .slice A0 m.f1.length c0, .slice A1 m.f2.length c1] 29 (0, 0))) (World.drew w2) from FM.out)
   generalize hWVs : World.drew (w2) = Vs at hHeld ⊢
   have ltFM := blk_lt FM.out
   have ltFZ := blk_lt FZ.out
   have ltb := HB.out.size
   have ltl := HL.out
   have TT : ∀ k, k < w2.heap.size → Vs.heap[k]? = w2.heap[k]? := fun k hk => by rw [← hWVs]; (with_reducible repeat (first | rfl | refine hp_set ?_ ?_ | refine hp_alloc ?_ ?_ | refine hp_drew ?_)); all_goals (first | (with_reducible rfl) | omega | (dsimp only; omega) | (simp; omega))
   have TS : w2.heap.size + 0 ≤ Vs.heap.size := by rw [← hWVs]; simp
   have nFM : Vs.heap[w.heap.size]? = some (.cells #[.string m.f0.f0, .string m.f0.f1, .slice A0 m.f1.length c0, .slice A1 m.f2.length c1] 29 (0, 0)) := (TT _ ltFM).trans FM.out
   have nFZ : Vs.heap[w.heap.size + 1]? = some (.cells #[.string ⟨#[]⟩, .string ⟨#[]⟩, .slice none 0 0, .slice none 0 0] 29 (0, 0)) := (TT _ ltFZ).trans FZ.out
   have nHB : Below w.heap.size w Vs := by rw [← hWVs]; exact bel_then (HB.out) (drew_below0 _)
   clear zFM cFM_0 cFM_1 cFM_2 cFM_3
   clear hWVs FM FZ HB 
   have FM := Aside0.mk nFM
   clear nFM
   have FZ := Aside0.mk nFZ
   clear nFZ
   have HB := Aside0.mk nHB
   clear nHB
   replace HL := Aside0.mk (Nat.le_trans HL.out (by omega : w2.heap.size ≤ Vs.heap.size))
   clear TT TS ltFM ltFZ ltb ltl
   refine tk 0 ?v3 ?y3 ?r3
   case y3 => intro w_ hSw; (try dsimp only at hSw); clear hSw; go_simp; (try (with_reducible rfl))
   try simp only [Act.put, List.setIfInBounds_toArray, List.set_cons_zero, List.set_cons_succ]
   refine tk 2 ?v4 ?y4 ?r4
   case y4 => intro w_ hSw; (try dsimp only at hSw); clear hSw; go_simp; (try (with_reducible rfl))
   try simp only [Act.put, List.setIfInBounds_toArray, List.set_cons_zero, List.set_cons_succ]
   refine tk 3 ?v5 ?y5 ?r5
   case y5 => intro w_ hSw; obtain ⟨e_0, e_1, e_2, e_3⟩ := HS1.out w_ hSw; clear hSw; go_simp; (try (with_reducible rfl))
   try simp only [Act.put, List.setIfInBounds_toArray, List.set_cons_zero, List.set_cons_succ]
   refine rdy (rs := [1]) ?_
   refine rc (fun K hK => ?k6) AllReadyH.nil
   case k6 =>
    go_simp
    refine Calls.mono (hgr (by trivial) _ HB.out) ?_
    rintro e V1 ⟨rfl, n1, D1, own1, gi1, b_⟩
    replace FM := Aside0.mk (below_blk FM.out b_)
    replace FZ := Aside0.mk (below_blk FZ.out b_)
    have OW := Aside0.mk own1
    have GI := Aside0.mk (gi1.below b_)
    replace HB := Aside0.mk (bel_then HB.out b_)
    replace HL := Aside0.mk (Nat.le_trans HL.out b_.size)
    obtain ⟨bg, hbg⟩ : ∃ b, b = Vs.heap.size := ⟨_, rfl⟩
    rw [← hbg] at OW ⊢
    clear hbg own1 gi1 b_
    refine hK.out _ _ ?h7 (fun hHeld => ?j7)
    case h7 => exact FM.out
    clear hK K
    try simp only [Act.put, List.setIfInBounds_toArray, List.set_cons_zero, List.set_cons_succ]
    refine rdy (rs := [4]) ?_
    refine rc (fun K hK => ?k8) AllReadyH.nil
    case k8 =>
     go_simp
     refine Calls.mono (ends_any xs (m.f1 ++ xs.flatMap (·.f1)) V1 bg n1 D1 OW.out GI.out (HC.out (by trivial)).1 (HC.out (by trivial)).2.1 (HC.out (by trivial)).2.2.1 (HC.out (by trivial)).2.2.2 m.f1 A0 c0 (Kd.C_below HT.out HB.out) HFL.out (fun b hb => by simp [hb])) ?_
     rintro e V4 ⟨B, d, rfl, rE, b_⟩
     replace FM := Aside0.mk (below_blk FM.out b_)
     replace FZ := Aside0.mk (below_blk FZ.out b_)
     have RE : Aside0 (Kd.R kAddr 25 V4 w.heap.size (fun _ => True) (.slice B (ends xs m.f1).length d) (ends xs m.f1)) := ⟨Kd.R_lower rE HB.out.size⟩
     replace HB := Aside0.mk (bel_then HB.out b_)
     replace HL := Aside0.mk (Nat.le_trans HL.out b_.size)
     clear rE b_ OW GI
     refine hK.out _ _ ?h9 (fun hHeld => ?j9)
     case h9 => exact FM.out
     clear hK K
     try simp only [Act.put, List.setIfInBounds_toArray, List.set_cons_zero, List.set_cons_succ]
     refine tk 5 ?v10 ?y10 ?r10
     case y10 => intro w_ hSw; (try dsimp only at hSw); clear hSw; go_simp; (try (with_reducible rfl))
     try simp only [Act.put, List.setIfInBounds_toArray, List.set_cons_zero, List.set_cons_succ]
     refine wpAnyH_done (by kernel_rfl) ?_ _
     have HQ3 := Lib.hid (HE.out)
     obtain ⟨q3, hq3⟩ : ∃ q, (decide ((1 : Int) ≤ ((ends xs m.f1).length : Int)) && decide (((ends xs m.f1).length : Int) ≤ 4)) = q := ⟨_, rfl⟩
     have h3 := fun W => within_any ((ends xs m.f1).length : Int) 1 4 W
     simp only [hq3] at h3 HQ HX
     have hq3c := hq3
     clear HQ3 HC HE hgr
     generalize ends xs m.f1 = EN at h3 RE HX hq3 hq3c ⊢
     clear hq3c hq3
     have zFM := blk_lt FM.out
     have cFM_0 : V4.cell? ⟨w.heap.size, 0, none⟩ = some (.string m.f0.f0) := clq FM.out 0 rfl
     have cFM_1 : V4.cell? ⟨w.heap.size, 1, none⟩ = some (.string m.f0.f1) := clq FM.out 1 rfl
     have cFM_2 : V4.cell? ⟨w.heap.size, 2, none⟩ = some (.slice A0 m.f1.length c0) := clq FM.out 2 rfl
     have cFM_3 : V4.cell? ⟨w.heap.size, 3, none⟩ = some (.slice A1 m.f2.length c1) := clq FM.out 3 rfl
     go_wp2_with fail
     refine Calls.mono (h3 _) ?_
     rintro e w3 ⟨rfl, rfl⟩
     clear h3
     cases q3
     ·clear RE
      clear zFM cFM_0 cFM_1 cFM_2 cFM_3
      have zFM := blk_lt FM.out
      have cFM_0 : V4.cell? ⟨w.heap.size, 0, none⟩ = some (.string m.f0.f0) := clq FM.out 0 rfl
      have cFM_1 : V4.cell? ⟨w.heap.size, 1, none⟩ = some (.string m.f0.f1) := clq FM.out 1 rfl
      have cFM_2 : V4.cell? ⟨w.heap.size, 2, none⟩ = some (.slice A0 m.f1.length c0) := clq FM.out 2 rfl
      have cFM_3 : V4.cell? ⟨w.heap.size, 3, none⟩ = some (.slice A1 m.f2.length c1) := clq FM.out 3 rfl
      have zFZ := blk_lt FZ.out
      have cFZ_0 : V4.cell? ⟨w.heap.size + 1, 0, none⟩ = some (.string ⟨#[]⟩) := clq FZ.out 0 rfl
      have dFZ_0 := fzq FZ.out 0
      have cFZ_1 : V4.cell? ⟨w.heap.size + 1, 1, none⟩ = some (.string ⟨#[]⟩) := clq FZ.out 1 rfl
      have dFZ_1 := fzq FZ.out 1
      have cFZ_2 : V4.cell? ⟨w.heap.size + 1, 2, none⟩ = some (.slice none 0 0) := clq FZ.out 2 rfl
      have dFZ_2 := fzq FZ.out 2
      have cFZ_3 : V4.cell? ⟨w.heap.size + 1, 3, none⟩ = some (.slice none 0 0) := clq FZ.out 3 rfl
      have dFZ_3 := fzq FZ.out 3
      obtain rfl : Q = false := HQ.out
      obtain rfl : X = zMailA := HX.out
      go_wp2
      refine bodyPost_ret (v := .tuple #[.agg #[.string ⟨#[]⟩, .string ⟨#[]⟩, .slice none 0 0, .slice none 0 0], .bool false]) ?hr rfl ?hp
      case hr => simp [results, Tryz.results6, go_sem, cFZ_0, dFZ_0, cFZ_1, dFZ_1, cFZ_2, dFZ_2, cFZ_3, dFZ_3]
      case hp => exact ⟨none, 0, none, 0, rfl, Kd.R_nil _ _ _ _ _, Kd.R_nil _ _ _ _ _, by (with_reducible repeat (first | exact HB.out | refine bel_alloc ?_ _ | refine bel_set ?_ _ ?_ | refine blw_drewN ?_ _ | refine Below.drew ?_)); all_goals (first | (simp; done) | (simp; omega) | omega)⟩
     ·obtain rfl : Q = true := HQ.out
      obtain rfl : X = ⟨m.f0, EN, m.f2⟩ := HX.out
      go_wp2
      clear zFM cFM_0 cFM_1 cFM_2 cFM_3
      have HS11 : Aside0 (∀ W : World, (W.heap[w.heap.size]? = some (.cells #[.string m.f0.f0, .string m.f0.f1, .slice A0 m.f1.length c0, .slice A1 m.f2.length c1] 29 (0, 0))) → W.cell? ⟨w.heap.size, 0, none⟩ = some (.string m.f0.f0) ∧ W.cell? ⟨w.heap.size, 1, none⟩ = some (.string m.f0.f1) ∧ W.cell? ⟨w.heap.size, 2, none⟩ = some (.slice A0 m.f1.length c0) ∧ W.cell? ⟨w.heap.size, 3, none⟩ = some (.slice A1 m.f2.length c1)) := ⟨fun W h => ⟨(by have h_ := h; simp [World.cell?, h_]), (by have h_ := h; simp [World.cell?, h_]), (by have h_ := h; simp [World.cell?, h_]), (by have h_ := h; simp [World.cell?, h_])⟩⟩
      refine wp_region_held_drew (S := fun (W : World) => W.heap[w.heap.size]? = some (.cells #[.string m.f0.f0, .string m.f0.f1, .slice A0 m.f1.length c0, .slice A1 m.f2.length c1] 29 (0, 0))) (by kernel_rfl) ?s12 (fun hHeld => ?t12)
      case s12 => exact (show (fun (W : World) => W.heap[w.heap.size]? = some (.cells #[.string m.f0.f0, .string m.f0.f1, .slice A0 m.f1.length c0, .slice A1 m.f2.length c1] 29 (0, 0))) (World.drew V4) from FM.out)
      generalize hWVs : World.drew (V4) = Vs at hHeld ⊢
      have ltFM := blk_lt FM.out
      have ltFZ := blk_lt FZ.out
      have ltb := HB.out.size
      have ltl := HL.out
      have TT : ∀ k, k < V4.heap.size → Vs.heap[k]? = V4.heap[k]? := fun k hk => by rw [← hWVs]; (with_reducible repeat (first | rfl | refine hp_set ?_ ?_ | refine hp_alloc ?_ ?_ | refine hp_drew ?_)); all_goals (first | (with_reducible rfl) | omega | (dsimp only; omega) | (simp; omega))
      have TS : V4.heap.size + 0 ≤ Vs.heap.size := by rw [← hWVs]; simp
      have nFM : Vs.heap[w.heap.size]? = some (.cells #[.string m.f0.f0, .string m.f0.f1, .slice A0 m.f1.length c0, .slice A1 m.f2.length c1] 29 (0, 0)) := (TT _ ltFM).trans FM.out
      have nFZ : Vs.heap[w.heap.size + 1]? = some (.cells #[.string ⟨#[]⟩, .string ⟨#[]⟩, .slice none 0 0, .slice none 0 0] 29 (0, 0)) := (TT _ ltFZ).trans FZ.out
      have nRE : Kd.R kAddr 25 Vs w.heap.size (fun _ => True) (.slice B EN.length d) EN := R_keepT RE.out rfl (fun k hk ho => TT k hk)
      have nHB : Below w.heap.size w Vs := by rw [← hWVs]; exact bel_then (HB.out) (drew_below0 _)
      clear hWVs FM FZ HB RE
      have FM := Aside0.mk nFM
      clear nFM
      have FZ := Aside0.mk nFZ
      clear nFZ
      have RE := Aside0.mk nRE
      clear nRE
      have HB := Aside0.mk nHB
      clear nHB
      replace HL := Aside0.mk (Nat.le_trans HL.out (by omega : V4.heap.size ≤ Vs.heap.size))
      clear TT TS ltFM ltFZ ltb ltl
      refine tk 0 ?v13 ?y13 ?r13
      case y13 => intro w_ hSw; (try dsimp only at hSw); clear hSw; go_simp; (try (with_reducible rfl))
      try simp only [Act.put, List.setIfInBounds_toArray, List.set_cons_zero, List.set_cons_succ]
      refine tk 1 ?v14 ?y14 ?r14
      case y14 => intro w_ hSw; obtain ⟨e_0, e_1, e_2, e_3⟩ := HS11.out w_ hSw; clear hSw; go_simp; (try (with_reducible rfl))
      try simp only [Act.put, List.setIfInBounds_toArray, List.set_cons_zero, List.set_cons_succ]
      refine tk 2 ?v15 ?y15 ?r15
      case y15 => intro w_ hSw; (try dsimp only at hSw); clear hSw; go_simp; (try (with_reducible rfl))
      try simp only [Act.put, List.setIfInBounds_toArray, List.set_cons_zero, List.set_cons_succ]
      refine tk 3 ?v16 ?y16 ?r16
      case y16 => intro w_ hSw; (try dsimp only at hSw); clear hSw; go_simp; (try (with_reducible rfl))
      try simp only [Act.put, List.setIfInBounds_toArray, List.set_cons_zero, List.set_cons_succ]
      refine tk 4 ?v17 ?y17 ?r17
      case y17 => intro w_ hSw; obtain ⟨e_0, e_1, e_2, e_3⟩ := HS11.out w_ hSw; clear hSw; go_simp; (try (with_reducible rfl))
      try simp only [Act.put, List.setIfInBounds_toArray, List.set_cons_zero, List.set_cons_succ]
      refine rdy (rs := [5]) ?_
      refine rc (fun K hK => ?k18) AllReadyH.nil
      case k18 =>
       go_simp
       refine Calls.mono (cloneString_any A1 c1 m.f2 Vs (Kd.C_below HBD.out HB.out) HBL.out) ?_
       rintro e V5 ⟨C, f, rfl, rC, b_⟩
       replace FM := Aside0.mk (below_blk FM.out b_)
       replace FZ := Aside0.mk (below_blk FZ.out b_)
       replace RE := Aside0.mk (Kd.R_below RE.out b_)
       have RC : Aside0 (Kd.R Kd.string 9 V5 w.heap.size (fun _ => True) (.slice C m.f2.length f) m.f2) := ⟨Kd.R_lower rC HB.out.size⟩
       replace HB := Aside0.mk (bel_then HB.out b_)
       replace HL := Aside0.mk (Nat.le_trans HL.out b_.size)
       clear rC b_
       refine hK.out _ _ ?h19 (fun hHeld => ?j19)
       case h19 => exact FM.out
       clear hK K
       try simp only [Act.put, List.setIfInBounds_toArray, List.set_cons_zero, List.set_cons_succ]
       refine tk 6 ?v20 ?y20 ?r20
       case y20 => intro w_ hSw; (try dsimp only at hSw); clear hSw; go_simp; (try (with_reducible rfl))
       try simp only [Act.put, List.setIfInBounds_toArray, List.set_cons_zero, List.set_cons_succ]
       refine rdy (rs := [7]) ?_
       refine rc (fun K hK => ?k21) AllReadyH.nil
       case k21 =>
        have zFZ := blk_lt FZ.out
        have cFZ_0 : V5.cell? ⟨w.heap.size + 1, 0, none⟩ = some (.string ⟨#[]⟩) := clq FZ.out 0 rfl
        have dFZ_0 := fzq FZ.out 0
        have cFZ_1 : V5.cell? ⟨w.heap.size + 1, 1, none⟩ = some (.string ⟨#[]⟩) := clq FZ.out 1 rfl
        have dFZ_1 := fzq FZ.out 1
        have cFZ_2 : V5.cell? ⟨w.heap.size + 1, 2, none⟩ = some (.slice none 0 0) := clq FZ.out 2 rfl
        have dFZ_2 := fzq FZ.out 2
        have cFZ_3 : V5.cell? ⟨w.heap.size + 1, 3, none⟩ = some (.slice none 0 0) := clq FZ.out 3 rfl
        have dFZ_3 := fzq FZ.out 3
        go_simp
        generalize hWV7 : World.setCell (World.setCell (World.setCell (World.setCell (V5) _ _) _ _) _ _) _ _ = V7
        have ltFM := blk_lt FM.out
        have ltFZ := blk_lt FZ.out
        have ltb := HB.out.size
        have ltl := HL.out
        have TT : ∀ k, k < V5.heap.size → k ≠ w.heap.size + 1 → V7.heap[k]? = V5.heap[k]? := fun k hk n_FZ => by rw [← hWV7]; (with_reducible repeat (first | rfl | refine hp_set ?_ ?_ | refine hp_alloc ?_ ?_ | refine hp_drew ?_)); all_goals (first | (with_reducible rfl) | omega | (dsimp only; omega) | (simp; omega))
        have TS : V5.heap.size + 0 ≤ V7.heap.size := by rw [← hWV7]; simp
        have nFM : V7.heap[w.heap.size]? = some (.cells #[.string m.f0.f0, .string m.f0.f1, .slice A0 m.f1.length c0, .slice A1 m.f2.length c1] 29 (0, 0)) := (TT _ ltFM (by omega)).trans FM.out
        have nFZ : V7.heap[w.heap.size + 1]? = some (.cells #[.string m.f0.f0, .string m.f0.f1, .slice B EN.length d, .slice C m.f2.length f] 29 (0, 0)) := by rw [← hWV7]; have h := blk_set1 (blk_set1 (blk_set1 (blk_set1 (FZ.out) 0 (.string m.f0.f0)) 1 (.string m.f0.f1)) 2 (.slice B EN.length d)) 3 (.slice C m.f2.length f); simpa using h
        have nRE : Kd.R kAddr 25 V7 w.heap.size (fun _ => True) (.slice B EN.length d) EN := R_keepT RE.out rfl (fun k hk ho => TT k hk (fun e => Kd.R_ne RE.out FZ.out (by decide) (e ▸ ho)))
        have nRC : Kd.R Kd.string 9 V7 w.heap.size (fun _ => True) (.slice C m.f2.length f) m.f2 := R_keepT RC.out rfl (fun k hk ho => TT k hk (fun e => Kd.R_ne RC.out FZ.out (by decide) (e ▸ ho)))
        have nHB : Below w.heap.size w V7 := by rw [← hWV7]; exact bel_set (bel_set (bel_set (bel_set (HB.out) _ (by show w.heap.size ≤ w.heap.size + 1; first | omega | (simp; omega))) _ (by show w.heap.size ≤ w.heap.size + 1; first | omega | (simp; omega))) _ (by show w.heap.size ≤ w.heap.size + 1; first | omega | (simp; omega))) _ (by show w.heap.size ≤ w.heap.size + 1; first | omega | (simp; omega))
        clear zFZ cFZ_0 dFZ_0 cFZ_1 dFZ_1 cFZ_2 dFZ_2 cFZ_3 dFZ_3
        clear hWV7 FM FZ HB RE RC
        have FM := Aside0.mk nFM
        clear nFM
        have FZ := Aside0.mk nFZ
        clear nFZ
        have RE := Aside0.mk nRE
        clear nRE
        have RC := Aside0.mk nRC
        clear nRC
        have HB := Aside0.mk nHB
        clear nHB
        replace HL := Aside0.mk (Nat.le_trans HL.out (by omega : V5.heap.size ≤ V7.heap.size))
        clear TT TS ltFM ltFZ ltb ltl
        refine hK.out _ _ ?h22 (fun hHeld => ?j22)
        case h22 => exact FM.out
        clear hK K
        try simp only [Act.put, List.setIfInBounds_toArray, List.set_cons_zero, List.set_cons_succ]
        refine tk 8 ?v23 ?y23 ?r23
        case y23 => intro w_ hSw; (try dsimp only at hSw); clear hSw; go_simp; (try (with_reducible rfl))
        try simp only [Act.put, List.setIfInBounds_toArray, List.set_cons_zero, List.set_cons_succ]
        refine wpAnyH_done (by kernel_rfl) ?_ _
        have zFZ := blk_lt FZ.out
        have cFZ_0 : V7.cell? ⟨w.heap.size + 1, 0, none⟩ = some (.string m.f0.f0) := clq FZ.out 0 rfl
        have cFZ_1 : V7.cell? ⟨w.heap.size + 1, 1, none⟩ = some (.string m.f0.f1) := clq FZ.out 1 rfl
        have cFZ_2 : V7.cell? ⟨w.heap.size + 1, 2, none⟩ = some (.slice B EN.length d) := clq FZ.out 2 rfl
        have cFZ_3 : V7.cell? ⟨w.heap.size + 1, 3, none⟩ = some (.slice C m.f2.length f) := clq FZ.out 3 rfl
        go_wp2
        refine bodyPost_ret (v := .tuple #[.agg #[.string m.f0.f0, .string m.f0.f1, .slice B EN.length d, .slice C m.f2.length f], .bool true]) ?hr rfl ?hp
        case hr => simp [results, Tryz.results6, go_sem, cFZ_0, cFZ_1, cFZ_2, cFZ_3]
        case hp => exact ⟨B, d, C, f, rfl, RE.out, RC.out, HB.out⟩

end Go.Proofs.YticepbgacokbbaaGreatDoor
