/- A drawn list of aliases and a mail, of bytes: a contract. -/
import Derived.Test.YticepbgacokbbaaGreatDoorDrwAlA
import Derived.Test.YticepbgacokbbaaGreatDoorDrwAny2
import Derived.Test.YticepbgacokbbaaGreatDoorDrwBeg
import Derived.Test.YticepbgacokbbaaGreatDoorReg
import Derived.Test.YticepbgacokbbaaGreatDoorSeqK
import Derived.Deep.RegionHeld3
namespace Go.Proofs.YticepbgacokbbaaGreatDoor
open Go.RowKit Go.Proofs.YticepbgacokbbaaGreatDoorW.PrintWords
set_option linter.unusedVariables false
set_option linter.unusedSimpArgs false

theorem R_elseT {α : Type} {d : Kd α} {e base g t : Nat} {ok : Nat → Prop} {W w1 : World} {v : Value} {xs : List α} {cells : Array Value} (h : d.R e W base ok v xs) (hb : W.heap[g]? = some (.cells cells t (0, 0))) (ht : ∀ q, q ∈ e :: d.E → q ≠ t) (hg : W.grownBy w1 (some g)) : d.R e w1 base ok v xs :=
 Kd.R_mono (Kd.R_grown (Kd.R_types h hb ht) hg (fun k hk e => hk.2 (Option.some.inj e))) (fun _ hk => hk.1)
set_option maxRecDepth 100000 in
set_option maxHeartbeats 4000000 in
theorem drawAliasMail_any (A : Option Addr) (c : Nat) (xs : List Int) (w : World) (hw : fitBytes xs) (hc : xs.length ≤ c) (hr : Kd.C (Kd.int .u8) w A xs.length xs) :
  Calls Tryz.prog 5 #[.slice A xs.length c] w fun e w' => ∃ (ys : List SAlias) (B : Option Addr) (d : Nat) (x : SMail) (A0 : Option Addr) (c0 : Nat) (A1 : Option Addr) (c1 : Nat), e = .returned (.tuple #[.slice B ys.length d, .agg #[.string x.f0.f0, .string x.f0.f1, .slice A0 x.f1.length c0, .slice A1 x.f2.length c1]]) ∧ (ys.length ≤ 7 ∧ ∀ y ∈ ys, smallAl 3 y) ∧ midM x ∧ Kd.R kAlias 58 w' w.heap.size (fun _ => True) (.slice B ys.length d) ys ∧ Kd.R kAddr 25 w' w.heap.size (fun _ => True) (.slice A0 x.f1.length c0) x.f1 ∧ Kd.R Kd.string 9 w' w.heap.size (fun _ => True) (.slice A1 x.f2.length c1) x.f2 ∧ Below w.heap.size w w' := by
 have ho := fun W (hW : Below w.heap.size w W) => drOpen_any A c xs W hw hc (Kd.C_below hr hW)
 clear hw hc hr
 generalize xs.length = L at ho
 go_enter Tryz.func5, Tryz.ntmps5
 go_wp2_with fail
 refine Calls.mono (ho _ (bel_alloc (Below.refl _ _) _)) ?_
 rintro e w1 ⟨g, rfl, hg, hR, b1⟩
 have hg1 : w.heap.size < g := by simp at hg; omega
 have fz : w1.heap[w.heap.size]? = some (.cells #[.string ⟨#[]⟩, .string ⟨#[]⟩, .slice none 0 0, .slice none 0 0] 29 (0, 0)) := below_blk (blk_new _ _) b1
 have B1 : Below w.heap.size w w1 := bel_then (bel_alloc (Below.refl _ _) _) b1
 have hgb : g < w1.heap.size := hR.lt
 clear ho b1 hg
 go_wp2_with fail
 refine Calls.mono (drAnyAliases_any g 0 w1 hR (by omega)) ?_
 rintro e w2 ⟨ys, B, d, rfl, hs, hq, hR2, hd⟩
 have FZ := Aside0.mk (hd.blk fz (by omega))
 have HO := Aside0.mk hq
 have HR := Aside0.mk hR2
 have HD := Aside0.mk hd
 have HS := Lib.hid hs
 have HB1 := Lib.hid B1
 have yw2 := hd.size
 have hys := hs.1
 clear hd hR hq hR2 hs B1 fz
 go_wp2_with fail
 refine Calls.mono (drAnyMail_any g _ w2 HR.out (by omega)) ?_
 rintro e w3 ⟨x, A0, c0, A1, c1, rfl, hm, r0, r1, hr_, hd_⟩
 have U0 := Aside0.mk (Kd.R_lower (base' := w1.heap.size) r0 yw2)
 have U1 := Aside0.mk (Kd.R_lower (base' := w1.heap.size) r1 yw2)
 have HM := Lib.hid hm
 have hx5 := hm.2.1.1
 clear r0 r1 hm
 replace FZ := Aside0.mk (hd_.blk FZ.out (by omega))
 replace HO := Aside0.mk (Dr.R hd_ HO.out hgb)
 replace HR := Aside0.mk hr_
 replace HD := Aside0.mk (Dr.then_ HD.out hd_)
 have yw3 := HD.out.size
 clear hr_ hd_
 by_cases hn0 : 0 < ys.length
 ·have hn0' : (0 : Int) < (ys.length : Int) := by omega
  by_cases hx0 : 0 < x.f1.length
  ·have hx0' : (0 : Int) < (x.f1.length : Int) := by omega
   go_wp2_with fail
   generalize hVa : World.alloc w3 _ = w4
   have bV : Below w3.heap.size w3 w4 := by rw [← hVa]; exact bel_alloc (Below.refl _ _) _
   have nFB : Aside0 (w4.heap[w3.heap.size]? = some (.cells #[.string x.f0.f0, .string x.f0.f1, .slice A0 x.f1.length c0, .slice A1 x.f2.length c1] 29 (0, 0))) := ⟨by rw [← hVa]; exact blk_new _ _⟩
   clear hVa
   replace FZ := Aside0.mk (below_blk FZ.out bV)
   replace HO := Aside0.mk (Kd.R_below HO.out bV)
   replace U0 := Aside0.mk (Kd.R_below U0.out bV)
   replace U1 := Aside0.mk (Kd.R_below U1.out bV)
   replace HR := Aside0.mk (HR.out.below bV)
   replace HD := Aside0.mk (HD.out.below bV)
   have yw4 := HD.out.size
   have FB := nFB
   clear nFB bV
   refine Calls.mono (pick_any g _ 4 _ HR.out (by omega) (by omega)) ?_
   rintro e w5 ⟨k5, rfl, hk5, hr_, hd_⟩
   replace FZ := Aside0.mk (hd_.blk FZ.out (by omega))
   replace FB := Aside0.mk (hd_.blk FB.out (by omega))
   replace HO := Aside0.mk (Dr.R hd_ HO.out hgb)
   replace U0 := Aside0.mk (Dr.R hd_ U0.out hgb)
   replace U1 := Aside0.mk (Dr.R hd_ U1.out hgb)
   replace HR := Aside0.mk hr_
   replace HD := Aside0.mk (Dr.then_ HD.out hd_)
   have yw5 := HD.out.size
   clear hr_ hd_
   have zFB := blk_lt FB.out
   have cFB_0 : w5.cell? ⟨w3.heap.size, 0, none⟩ = some (.string x.f0.f0) := clq FB.out 0 rfl
   have cFB_1 : w5.cell? ⟨w3.heap.size, 1, none⟩ = some (.string x.f0.f1) := clq FB.out 1 rfl
   have cFB_2 : w5.cell? ⟨w3.heap.size, 2, none⟩ = some (.slice A0 x.f1.length c0) := clq FB.out 2 rfl
   have cFB_3 : w5.cell? ⟨w3.heap.size, 3, none⟩ = some (.slice A1 x.f2.length c1) := clq FB.out 3 rfl
   by_cases hk0 : k5 = 0
   ·subst hk0
    go_wp2
    clear zFB cFB_0 cFB_1 cFB_2 cFB_3
    have HB := Aside0.mk (show Below w.heap.size w w5 from HB1.out.trans (HD.out.bel (by omega) HB1.out.size))
    have HL : Aside0 (w.heap.size + 1 ≤ w5.heap.size) := ⟨by have := HD.out.size; have := blk_lt FZ.out; omega⟩
    clear HR HD
    have HS15 : Aside0 (∀ W : World, (W.heap[w3.heap.size]? = some (.cells #[.string x.f0.f0, .string x.f0.f1, .slice A0 x.f1.length c0, .slice A1 x.f2.length c1] 29 (0, 0))) → W.cell? ⟨w3.heap.size, 0, none⟩ = some (.string x.f0.f0) ∧ W.cell? ⟨w3.heap.size, 1, none⟩ = some (.string x.f0.f1) ∧ W.cell? ⟨w3.heap.size, 2, none⟩ = some (.slice A0 x.f1.length c0) ∧ W.cell? ⟨w3.heap.size, 3, none⟩ = some (.slice A1 x.f2.length c1)) := ⟨fun W h => ⟨(by have h_ := h; simp [World.cell?, h_]), (by have h_ := h; simp [World.cell?, h_]), (by have h_ := h; simp [World.cell?, h_]), (by have h_ := h; simp [World.cell?, h_])⟩⟩
    refine wp_region_held_drew (S := fun (W : World) => W.heap[w3.heap.size]? = some (.cells #[.string x.f0.f0, .string x.f0.f1, .slice A0 x.f1.length c0, .slice A1 x.f2.length c1] 29 (0, 0))) (by kernel_rfl) ?s16 (fun hHeld => ?t16)
    case s16 => exact (show (fun (W : World) => W.heap[w3.heap.size]? = some (.cells #[.string x.f0.f0, .string x.f0.f1, .slice A0 x.f1.length c0, .slice A1 x.f2.length c1] 29 (0, 0))) (World.drew w5) from FB.out)
    generalize hWVs : World.drew (w5) = Vs at hHeld ⊢
    have ltFZ := blk_lt FZ.out
    have ltFB := blk_lt FB.out
    have ltb := HB.out.size
    have ltl := HL.out
    have TT : ∀ k, k < w5.heap.size → Vs.heap[k]? = w5.heap[k]? := fun k hk => by rw [← hWVs]; (with_reducible repeat (first | rfl | refine hp_set ?_ ?_ | refine hp_alloc ?_ ?_ | refine hp_drew ?_)); all_goals (first | (with_reducible rfl) | omega | (dsimp only; omega) | (simp; omega))
    have TS : w5.heap.size + 0 ≤ Vs.heap.size := by rw [← hWVs]; simp
    have nFZ : Vs.heap[w.heap.size]? = some (.cells #[.string ⟨#[]⟩, .string ⟨#[]⟩, .slice none 0 0, .slice none 0 0] 29 (0, 0)) := (TT _ ltFZ).trans FZ.out
    have nFB : Vs.heap[w3.heap.size]? = some (.cells #[.string x.f0.f0, .string x.f0.f1, .slice A0 x.f1.length c0, .slice A1 x.f2.length c1] 29 (0, 0)) := (TT _ ltFB).trans FB.out
    have nHO : Kd.R kAlias 58 Vs w1.heap.size (fun _ => True) (.slice B ys.length d) ys := Kd.R_mono (Kd.R_step (HO.out) (fun k hk hlt => TT k hlt)) (fun _ hk => hk)
    have nU0 : Kd.R kAddr 25 Vs w1.heap.size (fun _ => True) (.slice A0 x.f1.length c0) x.f1 := R_keepT U0.out rfl (fun k hk ho => TT k hk)
    have nU1 : Kd.R Kd.string 9 Vs w1.heap.size (fun _ => True) (.slice A1 x.f2.length c1) x.f2 := R_keepT U1.out rfl (fun k hk ho => TT k hk)
    have nHB : Below w.heap.size w Vs := by rw [← hWVs]; exact bel_then (HB.out) (drew_below0 _)
    clear hWVs FZ FB HB HO U0 U1
    have FZ := Aside0.mk nFZ
    clear nFZ
    have FB := Aside0.mk nFB
    clear nFB
    have HO := Aside0.mk nHO
    clear nHO
    have U0 := Aside0.mk nU0
    clear nU0
    have U1 := Aside0.mk nU1
    clear nU1
    have HB := Aside0.mk nHB
    clear nHB
    replace HL := Aside0.mk (Nat.le_trans HL.out (by omega : w5.heap.size ≤ Vs.heap.size))
    clear TT TS ltFZ ltFB ltb ltl
    refine tk 0 ?v17 ?y17 ?r17
    case y17 => intro w_ hSw; (try dsimp only at hSw); clear hSw; go_simp; (try (with_reducible rfl))
    try simp only [Act.put, List.setIfInBounds_toArray, List.set_cons_zero, List.set_cons_succ]
    refine tk 1 ?v18 ?y18 ?r18
    case y18 => intro w_ hSw; obtain ⟨e_0, e_1, e_2, e_3⟩ := HS15.out w_ hSw; clear hSw; go_simp; (try (with_reducible rfl))
    try simp only [Act.put, List.setIfInBounds_toArray, List.set_cons_zero, List.set_cons_succ]
    refine tk 2 ?v19 ?y19 ?r19
    case y19 => intro w_ hSw; (try dsimp only at hSw); clear hSw; go_simp; (try (with_reducible rfl))
    try simp only [Act.put, List.setIfInBounds_toArray, List.set_cons_zero, List.set_cons_succ]
    refine rdy (rs := [3]) ?_
    refine rc (fun K hK => ?k20) AllReadyH.nil
    case k20 =>
     have zFZ := blk_lt FZ.out
     have cFZ_0 : Vs.cell? ⟨w.heap.size, 0, none⟩ = some (.string ⟨#[]⟩) := clq FZ.out 0 rfl
     have dFZ_0 := fzq FZ.out 0
     have cFZ_1 : Vs.cell? ⟨w.heap.size, 1, none⟩ = some (.string ⟨#[]⟩) := clq FZ.out 1 rfl
     have dFZ_1 := fzq FZ.out 1
     have cFZ_2 : Vs.cell? ⟨w.heap.size, 2, none⟩ = some (.slice none 0 0) := clq FZ.out 2 rfl
     have dFZ_2 := fzq FZ.out 2
     have cFZ_3 : Vs.cell? ⟨w.heap.size, 3, none⟩ = some (.slice none 0 0) := clq FZ.out 3 rfl
     have dFZ_3 := fzq FZ.out 3
     go_simp
     generalize hWV3 : World.setCell (World.setCell (World.setCell (World.setCell (Vs) _ _) _ _) _ _) _ _ = V3
     have ltFZ := blk_lt FZ.out
     have ltFB := blk_lt FB.out
     have ltb := HB.out.size
     have ltl := HL.out
     have TT : ∀ k, k < Vs.heap.size → k ≠ w.heap.size → V3.heap[k]? = Vs.heap[k]? := fun k hk n_FZ => by rw [← hWV3]; (with_reducible repeat (first | rfl | refine hp_set ?_ ?_ | refine hp_alloc ?_ ?_ | refine hp_drew ?_)); all_goals (first | (with_reducible rfl) | omega | (dsimp only; omega) | (simp; omega))
     have TS : Vs.heap.size + 0 ≤ V3.heap.size := by rw [← hWV3]; simp
     have nFZ : V3.heap[w.heap.size]? = some (.cells #[.string x.f0.f0, .string x.f0.f1, .slice A0 x.f1.length c0, .slice A1 x.f2.length c1] 29 (0, 0)) := by rw [← hWV3]; have h := blk_set1 (blk_set1 (blk_set1 (blk_set1 (FZ.out) 0 (.string x.f0.f0)) 1 (.string x.f0.f1)) 2 (.slice A0 x.f1.length c0)) 3 (.slice A1 x.f2.length c1); simpa using h
     have nFB : V3.heap[w3.heap.size]? = some (.cells #[.string x.f0.f0, .string x.f0.f1, .slice A0 x.f1.length c0, .slice A1 x.f2.length c1] 29 (0, 0)) := (TT _ ltFB (by omega)).trans FB.out
     have nHO : Kd.R kAlias 58 V3 w1.heap.size (fun _ => True) (.slice B ys.length d) ys := Kd.R_mono (Kd.R_step (Kd.R_types (HO.out) FZ.out (by decide)) (fun k hk hlt => TT k hlt (hk.2))) (fun _ hk => hk.1)
     have nU0 : Kd.R kAddr 25 V3 w1.heap.size (fun _ => True) (.slice A0 x.f1.length c0) x.f1 := R_keepT U0.out rfl (fun k hk ho => TT k hk (fun e => Kd.R_ne U0.out FZ.out (by decide) (e ▸ ho)))
     have nU1 : Kd.R Kd.string 9 V3 w1.heap.size (fun _ => True) (.slice A1 x.f2.length c1) x.f2 := R_keepT U1.out rfl (fun k hk ho => TT k hk (fun e => Kd.R_ne U1.out FZ.out (by decide) (e ▸ ho)))
     have nHB : Below w.heap.size w V3 := by rw [← hWV3]; exact bel_set (bel_set (bel_set (bel_set (HB.out) _ (by show w.heap.size ≤ w.heap.size; first | omega | (simp; omega))) _ (by show w.heap.size ≤ w.heap.size; first | omega | (simp; omega))) _ (by show w.heap.size ≤ w.heap.size; first | omega | (simp; omega))) _ (by show w.heap.size ≤ w.heap.size; first | omega | (simp; omega))
     clear zFZ cFZ_0 dFZ_0 cFZ_1 dFZ_1 cFZ_2 dFZ_2 cFZ_3 dFZ_3
     clear hWV3 FZ FB HB HO U0 U1
     have FZ := Aside0.mk nFZ
     clear nFZ
     have FB := Aside0.mk nFB
     clear nFB
     have HO := Aside0.mk nHO
     clear nHO
     have U0 := Aside0.mk nU0
     clear nU0
     have U1 := Aside0.mk nU1
     clear nU1
     have HB := Aside0.mk nHB
     clear nHB
     replace HL := Aside0.mk (Nat.le_trans HL.out (by omega : Vs.heap.size ≤ V3.heap.size))
     clear TT TS ltFZ ltFB ltb ltl
     refine hK.out _ _ ?h21 (fun hHeld => ?j21)
     case h21 => exact FB.out
     clear hK K
     try simp only [Act.put, List.setIfInBounds_toArray, List.set_cons_zero, List.set_cons_succ]
     refine wpAnyH_done (by kernel_rfl) ?_ _
     have zFZ := blk_lt FZ.out
     have cFZ_0 : V3.cell? ⟨w.heap.size, 0, none⟩ = some (.string x.f0.f0) := clq FZ.out 0 rfl
     have cFZ_1 : V3.cell? ⟨w.heap.size, 1, none⟩ = some (.string x.f0.f1) := clq FZ.out 1 rfl
     have cFZ_2 : V3.cell? ⟨w.heap.size, 2, none⟩ = some (.slice A0 x.f1.length c0) := clq FZ.out 2 rfl
     have cFZ_3 : V3.cell? ⟨w.heap.size, 3, none⟩ = some (.slice A1 x.f2.length c1) := clq FZ.out 3 rfl
     go_wp2
     refine bodyPost_ret (v := .tuple #[.slice B ys.length d, .agg #[.string x.f0.f0, .string x.f0.f1, .slice A0 x.f1.length c0, .slice A1 x.f2.length c1]]) ?hrZ rfl ?hpZ
     case hrZ => simp [results, Tryz.results5, go_sem, cFZ_0, cFZ_1, cFZ_2, cFZ_3]
     case hpZ => exact ⟨ys, B, d, x, A0, c0, A1, c1, rfl, HS.out, HM.out, Kd.R_lower HO.out HB1.out.size, Kd.R_lower U0.out HB1.out.size, Kd.R_lower U1.out HB1.out.size, HB.out⟩
   ·have hk1 : (0 : Int) < (k5 : Int) := by omega
    clear hk0
    go_wp2_with fail
    refine Calls.mono (pick_any g _ (ys.length : Int) _ HR.out (by omega) (by omega)) ?_
    rintro e w6 ⟨k6, rfl, hk6, hr_, hd_⟩
    clear zFB cFB_0 cFB_1 cFB_2 cFB_3
    replace FZ := Aside0.mk (hd_.blk FZ.out (by omega))
    replace FB := Aside0.mk (hd_.blk FB.out (by omega))
    replace HO := Aside0.mk (Dr.R hd_ HO.out hgb)
    replace U0 := Aside0.mk (Dr.R hd_ U0.out hgb)
    replace U1 := Aside0.mk (Dr.R hd_ U1.out hgb)
    replace HR := Aside0.mk hr_
    replace HD := Aside0.mk (Dr.then_ HD.out hd_)
    have yw6 := HD.out.size
    clear hr_ hd_
    have hk6 := hk6 (by omega)
    have hk6n : k6 < ys.length := by omega
    have hk6' : (k6 : Int) < (ys.length : Int) := by omega
    have zFB := blk_lt FB.out
    have cFB_0 : w6.cell? ⟨w3.heap.size, 0, none⟩ = some (.string x.f0.f0) := clq FB.out 0 rfl
    have dFB_0 := fzq FB.out 0
    have cFB_1 : w6.cell? ⟨w3.heap.size, 1, none⟩ = some (.string x.f0.f1) := clq FB.out 1 rfl
    have dFB_1 := fzq FB.out 1
    have cFB_2 : w6.cell? ⟨w3.heap.size, 2, none⟩ = some (.slice A0 x.f1.length c0) := clq FB.out 2 rfl
    have dFB_2 := fzq FB.out 2
    have cFB_3 : w6.cell? ⟨w3.heap.size, 3, none⟩ = some (.slice A1 x.f2.length c1) := clq FB.out 3 rfl
    have dFB_3 := fzq FB.out 3
    obtain ⟨ad, Q0, qc0, e1, p0, p1, _, _, _⟩ := at_Alias (Kd.R_reads' HO.out).2.2 k6 hk6n
    subst e1
    have hya := (HS.out.2 _ (getD_mem ys zAlias hk6n)).1
    generalize (ys.getD k6 zAlias).f0 = a at p0 p1 hya
    have HYA := Lib.hid hya
    clear hya
    go_wp2
    clear p0 p1
    clear zFB cFB_0 dFB_0 cFB_1 dFB_1 cFB_2 dFB_2 cFB_3 dFB_3
    obtain ⟨wS, hWS⟩ : ∃ W, W = World.setCell w6 ⟨w3.heap.size, 2, none⟩ (.slice (some ⟨w6.heap.size, 0, none⟩) 1 1) := ⟨_, rfl⟩
    rw [← hWS]
    have zS : w6.heap.size = wS.heap.size := by rw [hWS]; simp
    have g7 := grown_set1 w6 (w3.heap.size) 2 (.slice (some ⟨w6.heap.size, 0, none⟩) 1 1)
    rw [← hWS] at g7
    have nFB : wS.heap[w3.heap.size]? = some (.cells #[.string x.f0.f0, .string x.f0.f1, .slice (some ⟨w6.heap.size, 0, none⟩) 1 1, .slice A1 x.f2.length c1] 29 (0, 0)) := by rw [hWS]; have h_ := blk_set1 FB.out 2 (.slice (some ⟨w6.heap.size, 0, none⟩) 1 1); simpa using h_
    have nU1 := R_elseT U1.out FB.out (by decide) g7
    have nHO := R_elseT HO.out FB.out (by decide) g7
    have nFZ : wS.heap[w.heap.size]? = some (.cells #[.string ⟨#[]⟩, .string ⟨#[]⟩, .slice none 0 0, .slice none 0 0] 29 (0, 0)) := (g7.block _ (blk_lt FZ.out) (fun e => by have e := Option.some.inj e; (try dsimp only at e); omega)).trans FZ.out
    have nHD := Dr.grown HD.out g7 (fun q hq => .inl (by have := Option.some.inj hq; omega))
    have nHR := Rd.grown HR.out g7 (fun q hq => by have := Option.some.inj hq; omega)
    have hbw : w1.heap.size ≤ wS.heap.size := by have := HD.out.size; omega
    generalize hVa : World.alloc wS _ = w7
    have bA : Below wS.heap.size wS w7 := by rw [← hVa]; exact bel_alloc (Below.refl _ _) _
    have nU0 : Kd.R kAddr 25 w7 w1.heap.size (fun _ => True) (.slice (some ⟨w6.heap.size, 0, none⟩) 1 1) [a] := by rw [← hVa]; exact R_oneAt kAddr 25 wS w1.heap.size a [.string a.f0, .string a.f1] zS (kAddr_mkM _ _ _ a) hbw
    clear hVa hWS g7 FB U0 U1 HO FZ HR HD hbw zS
    have FB := Aside0.mk (below_blk nFB bA)
    have U0 := Aside0.mk nU0
    have U1 := Aside0.mk (Kd.R_below nU1 bA)
    have HO := Aside0.mk (Kd.R_below nHO bA)
    have FZ := Aside0.mk (below_blk nFZ bA)
    have HR := Aside0.mk (nHR.below bA)
    have HD := Aside0.mk (nHD.below bA)
    clear nFB nU0 nU1 nHO nFZ nHR nHD bA
    have HB := Aside0.mk (show Below w.heap.size w w7 from HB1.out.trans (HD.out.bel (by omega) HB1.out.size))
    have HL : Aside0 (w.heap.size + 1 ≤ w7.heap.size) := ⟨by have := HD.out.size; have := blk_lt FZ.out; omega⟩
    clear HR HD
    have HS22 : Aside0 (∀ W : World, (W.heap[w3.heap.size]? = some (.cells #[.string x.f0.f0, .string x.f0.f1, .slice (some ⟨w6.heap.size, 0, none⟩) 1 1, .slice A1 x.f2.length c1] 29 (0, 0))) → W.cell? ⟨w3.heap.size, 0, none⟩ = some (.string x.f0.f0) ∧ W.cell? ⟨w3.heap.size, 1, none⟩ = some (.string x.f0.f1) ∧ W.cell? ⟨w3.heap.size, 2, none⟩ = some (.slice (some ⟨w6.heap.size, 0, none⟩) 1 1) ∧ W.cell? ⟨w3.heap.size, 3, none⟩ = some (.slice A1 x.f2.length c1)) := ⟨fun W h => ⟨(by have h_ := h; simp [World.cell?, h_]), (by have h_ := h; simp [World.cell?, h_]), (by have h_ := h; simp [World.cell?, h_]), (by have h_ := h; simp [World.cell?, h_])⟩⟩
    refine wp_region_held_drew (S := fun (W : World) => W.heap[w3.heap.size]? = some (.cells #[.string x.f0.f0, .string x.f0.f1, .slice (some ⟨w6.heap.size, 0, none⟩) 1 1, .slice A1 x.f2.length c1] 29 (0, 0))) (by kernel_rfl) ?s23 (fun hHeld => ?t23)
    case s23 => exact (show (fun (W : World) => W.heap[w3.heap.size]? = some (.cells #[.string x.f0.f0, .string x.f0.f1, .slice (some ⟨w6.heap.size, 0, none⟩) 1 1, .slice A1 x.f2.length c1] 29 (0, 0))) (World.drew w7) from FB.out)
    generalize hWVs : World.drew (w7) = Vs at hHeld ⊢
    have ltFZ := blk_lt FZ.out
    have ltFB := blk_lt FB.out
    have ltb := HB.out.size
    have ltl := HL.out
    have TT : ∀ k, k < w7.heap.size → Vs.heap[k]? = w7.heap[k]? := fun k hk => by rw [← hWVs]; (with_reducible repeat (first | rfl | refine hp_set ?_ ?_ | refine hp_alloc ?_ ?_ | refine hp_drew ?_)); all_goals (first | (with_reducible rfl) | omega | (dsimp only; omega) | (simp; omega))
    have TS : w7.heap.size + 0 ≤ Vs.heap.size := by rw [← hWVs]; simp
    have nFZ : Vs.heap[w.heap.size]? = some (.cells #[.string ⟨#[]⟩, .string ⟨#[]⟩, .slice none 0 0, .slice none 0 0] 29 (0, 0)) := (TT _ ltFZ).trans FZ.out
    have nFB : Vs.heap[w3.heap.size]? = some (.cells #[.string x.f0.f0, .string x.f0.f1, .slice (some ⟨w6.heap.size, 0, none⟩) 1 1, .slice A1 x.f2.length c1] 29 (0, 0)) := (TT _ ltFB).trans FB.out
    have nHO : Kd.R kAlias 58 Vs w1.heap.size (fun _ => True) (.slice (some ad) ys.length d) ys := Kd.R_mono (Kd.R_step (HO.out) (fun k hk hlt => TT k hlt)) (fun _ hk => hk)
    have nU0 : Kd.R kAddr 25 Vs w1.heap.size (fun _ => True) (.slice (some ⟨w6.heap.size, 0, none⟩) [a].length 1) [a] := R_keepT U0.out rfl (fun k hk ho => TT k hk)
    have nU1 : Kd.R Kd.string 9 Vs w1.heap.size (fun _ => True) (.slice A1 x.f2.length c1) x.f2 := R_keepT U1.out rfl (fun k hk ho => TT k hk)
    have nHB : Below w.heap.size w Vs := by rw [← hWVs]; exact bel_then (HB.out) (drew_below0 _)
    clear hWVs FZ FB HB HO U0 U1
    have FZ := Aside0.mk nFZ
    clear nFZ
    have FB := Aside0.mk nFB
    clear nFB
    have HO := Aside0.mk nHO
    clear nHO
    have U0 := Aside0.mk nU0
    clear nU0
    have U1 := Aside0.mk nU1
    clear nU1
    have HB := Aside0.mk nHB
    clear nHB
    replace HL := Aside0.mk (Nat.le_trans HL.out (by omega : w7.heap.size ≤ Vs.heap.size))
    clear TT TS ltFZ ltFB ltb ltl
    refine tk 0 ?v24 ?y24 ?r24
    case y24 => intro w_ hSw; (try dsimp only at hSw); clear hSw; go_simp; (try (with_reducible rfl))
    try simp only [Act.put, List.setIfInBounds_toArray, List.set_cons_zero, List.set_cons_succ]
    refine tk 1 ?v25 ?y25 ?r25
    case y25 => intro w_ hSw; obtain ⟨e_0, e_1, e_2, e_3⟩ := HS22.out w_ hSw; clear hSw; go_simp; (try (with_reducible rfl))
    try simp only [Act.put, List.setIfInBounds_toArray, List.set_cons_zero, List.set_cons_succ]
    refine tk 2 ?v26 ?y26 ?r26
    case y26 => intro w_ hSw; (try dsimp only at hSw); clear hSw; go_simp; (try (with_reducible rfl))
    try simp only [Act.put, List.setIfInBounds_toArray, List.set_cons_zero, List.set_cons_succ]
    refine rdy (rs := [3]) ?_
    refine rc (fun K hK => ?k27) AllReadyH.nil
    case k27 =>
     have zFZ := blk_lt FZ.out
     have cFZ_0 : Vs.cell? ⟨w.heap.size, 0, none⟩ = some (.string ⟨#[]⟩) := clq FZ.out 0 rfl
     have dFZ_0 := fzq FZ.out 0
     have cFZ_1 : Vs.cell? ⟨w.heap.size, 1, none⟩ = some (.string ⟨#[]⟩) := clq FZ.out 1 rfl
     have dFZ_1 := fzq FZ.out 1
     have cFZ_2 : Vs.cell? ⟨w.heap.size, 2, none⟩ = some (.slice none 0 0) := clq FZ.out 2 rfl
     have dFZ_2 := fzq FZ.out 2
     have cFZ_3 : Vs.cell? ⟨w.heap.size, 3, none⟩ = some (.slice none 0 0) := clq FZ.out 3 rfl
     have dFZ_3 := fzq FZ.out 3
     go_simp
     generalize hWV3 : World.setCell (World.setCell (World.setCell (World.setCell (Vs) _ _) _ _) _ _) _ _ = V3
     have ltFZ := blk_lt FZ.out
     have ltFB := blk_lt FB.out
     have ltb := HB.out.size
     have ltl := HL.out
     have TT : ∀ k, k < Vs.heap.size → k ≠ w.heap.size → V3.heap[k]? = Vs.heap[k]? := fun k hk n_FZ => by rw [← hWV3]; (with_reducible repeat (first | rfl | refine hp_set ?_ ?_ | refine hp_alloc ?_ ?_ | refine hp_drew ?_)); all_goals (first | (with_reducible rfl) | omega | (dsimp only; omega) | (simp; omega))
     have TS : Vs.heap.size + 0 ≤ V3.heap.size := by rw [← hWV3]; simp
     have nFZ : V3.heap[w.heap.size]? = some (.cells #[.string x.f0.f0, .string x.f0.f1, .slice (some ⟨w6.heap.size, 0, none⟩) 1 1, .slice A1 x.f2.length c1] 29 (0, 0)) := by rw [← hWV3]; have h := blk_set1 (blk_set1 (blk_set1 (blk_set1 (FZ.out) 0 (.string x.f0.f0)) 1 (.string x.f0.f1)) 2 (.slice (some ⟨w6.heap.size, 0, none⟩) 1 1)) 3 (.slice A1 x.f2.length c1); simpa using h
     have nFB : V3.heap[w3.heap.size]? = some (.cells #[.string x.f0.f0, .string x.f0.f1, .slice (some ⟨w6.heap.size, 0, none⟩) 1 1, .slice A1 x.f2.length c1] 29 (0, 0)) := (TT _ ltFB (by omega)).trans FB.out
     have nHO : Kd.R kAlias 58 V3 w1.heap.size (fun _ => True) (.slice (some ad) ys.length d) ys := Kd.R_mono (Kd.R_step (Kd.R_types (HO.out) FZ.out (by decide)) (fun k hk hlt => TT k hlt (hk.2))) (fun _ hk => hk.1)
     have nU0 : Kd.R kAddr 25 V3 w1.heap.size (fun _ => True) (.slice (some ⟨w6.heap.size, 0, none⟩) [a].length 1) [a] := R_keepT U0.out rfl (fun k hk ho => TT k hk (fun e => Kd.R_ne U0.out FZ.out (by decide) (e ▸ ho)))
     have nU1 : Kd.R Kd.string 9 V3 w1.heap.size (fun _ => True) (.slice A1 x.f2.length c1) x.f2 := R_keepT U1.out rfl (fun k hk ho => TT k hk (fun e => Kd.R_ne U1.out FZ.out (by decide) (e ▸ ho)))
     have nHB : Below w.heap.size w V3 := by rw [← hWV3]; exact bel_set (bel_set (bel_set (bel_set (HB.out) _ (by show w.heap.size ≤ w.heap.size; first | omega | (simp; omega))) _ (by show w.heap.size ≤ w.heap.size; first | omega | (simp; omega))) _ (by show w.heap.size ≤ w.heap.size; first | omega | (simp; omega))) _ (by show w.heap.size ≤ w.heap.size; first | omega | (simp; omega))
     clear zFZ cFZ_0 dFZ_0 cFZ_1 dFZ_1 cFZ_2 dFZ_2 cFZ_3 dFZ_3
     clear hWV3 FZ FB HB HO U0 U1
     have FZ := Aside0.mk nFZ
     clear nFZ
     have FB := Aside0.mk nFB
     clear nFB
     have HO := Aside0.mk nHO
     clear nHO
     have U0 := Aside0.mk nU0
     clear nU0
     have U1 := Aside0.mk nU1
     clear nU1
     have HB := Aside0.mk nHB
     clear nHB
     replace HL := Aside0.mk (Nat.le_trans HL.out (by omega : Vs.heap.size ≤ V3.heap.size))
     clear TT TS ltFZ ltFB ltb ltl
     refine hK.out _ _ ?h28 (fun hHeld => ?j28)
     case h28 => exact FB.out
     clear hK K
     try simp only [Act.put, List.setIfInBounds_toArray, List.set_cons_zero, List.set_cons_succ]
     refine wpAnyH_done (by kernel_rfl) ?_ _
     have zFZ := blk_lt FZ.out
     have cFZ_0 : V3.cell? ⟨w.heap.size, 0, none⟩ = some (.string x.f0.f0) := clq FZ.out 0 rfl
     have cFZ_1 : V3.cell? ⟨w.heap.size, 1, none⟩ = some (.string x.f0.f1) := clq FZ.out 1 rfl
     have cFZ_2 : V3.cell? ⟨w.heap.size, 2, none⟩ = some (.slice (some ⟨w6.heap.size, 0, none⟩) 1 1) := clq FZ.out 2 rfl
     have cFZ_3 : V3.cell? ⟨w.heap.size, 3, none⟩ = some (.slice A1 x.f2.length c1) := clq FZ.out 3 rfl
     go_wp2
     refine bodyPost_ret (v := .tuple #[.slice (some ad) ys.length d, .agg #[.string x.f0.f0, .string x.f0.f1, .slice (some ⟨w6.heap.size, 0, none⟩) 1 1, .slice A1 x.f2.length c1]]) ?hrQ rfl ?hpQ
     case hrQ => simp [results, Tryz.results5, go_sem, cFZ_0, cFZ_1, cFZ_2, cFZ_3]
     case hpQ => exact ⟨ys, (some ad), d, ⟨x.f0, [a], x.f2⟩, (some ⟨w6.heap.size, 0, none⟩), 1, A1, c1, rfl, HS.out, ⟨HM.out.1, ⟨by show 1 ≤ 5; omega, fun t ht => by obtain rfl := List.mem_singleton.1 ht; exact HYA.out⟩, HM.out.2.2⟩, Kd.R_lower HO.out HB1.out.size, Kd.R_lower U0.out HB1.out.size, Kd.R_lower U1.out HB1.out.size, HB.out⟩
  ·have hx0' : ¬ (0 : Int) < (x.f1.length : Int) := by omega
   go_wp2
   generalize hVa : World.alloc w3 _ = w4
   have bV : Below w3.heap.size w3 w4 := by rw [← hVa]; exact bel_alloc (Below.refl _ _) _
   have nFB : Aside0 (w4.heap[w3.heap.size]? = some (.cells #[.string x.f0.f0, .string x.f0.f1, .slice A0 x.f1.length c0, .slice A1 x.f2.length c1] 29 (0, 0))) := ⟨by rw [← hVa]; exact blk_new _ _⟩
   clear hVa
   replace FZ := Aside0.mk (below_blk FZ.out bV)
   replace HO := Aside0.mk (Kd.R_below HO.out bV)
   replace U0 := Aside0.mk (Kd.R_below U0.out bV)
   replace U1 := Aside0.mk (Kd.R_below U1.out bV)
   replace HR := Aside0.mk (HR.out.below bV)
   replace HD := Aside0.mk (HD.out.below bV)
   have yw4 := HD.out.size
   have FB := nFB
   clear nFB bV
   have HB := Aside0.mk (show Below w.heap.size w w4 from HB1.out.trans (HD.out.bel (by omega) HB1.out.size))
   have HL : Aside0 (w.heap.size + 1 ≤ w4.heap.size) := ⟨by have := HD.out.size; have := blk_lt FZ.out; omega⟩
   clear HR HD
   have HS8 : Aside0 (∀ W : World, (W.heap[w3.heap.size]? = some (.cells #[.string x.f0.f0, .string x.f0.f1, .slice A0 x.f1.length c0, .slice A1 x.f2.length c1] 29 (0, 0))) → W.cell? ⟨w3.heap.size, 0, none⟩ = some (.string x.f0.f0) ∧ W.cell? ⟨w3.heap.size, 1, none⟩ = some (.string x.f0.f1) ∧ W.cell? ⟨w3.heap.size, 2, none⟩ = some (.slice A0 x.f1.length c0) ∧ W.cell? ⟨w3.heap.size, 3, none⟩ = some (.slice A1 x.f2.length c1)) := ⟨fun W h => ⟨(by have h_ := h; simp [World.cell?, h_]), (by have h_ := h; simp [World.cell?, h_]), (by have h_ := h; simp [World.cell?, h_]), (by have h_ := h; simp [World.cell?, h_])⟩⟩
   refine wp_region_held_drew (S := fun (W : World) => W.heap[w3.heap.size]? = some (.cells #[.string x.f0.f0, .string x.f0.f1, .slice A0 x.f1.length c0, .slice A1 x.f2.length c1] 29 (0, 0))) (by kernel_rfl) ?s9 (fun hHeld => ?t9)
   case s9 => exact (show (fun (W : World) => W.heap[w3.heap.size]? = some (.cells #[.string x.f0.f0, .string x.f0.f1, .slice A0 x.f1.length c0, .slice A1 x.f2.length c1] 29 (0, 0))) (World.drew w4) from FB.out)
   generalize hWVs : World.drew (w4) = Vs at hHeld ⊢
   have ltFZ := blk_lt FZ.out
   have ltFB := blk_lt FB.out
   have ltb := HB.out.size
   have ltl := HL.out
   have TT : ∀ k, k < w4.heap.size → Vs.heap[k]? = w4.heap[k]? := fun k hk => by rw [← hWVs]; (with_reducible repeat (first | rfl | refine hp_set ?_ ?_ | refine hp_alloc ?_ ?_ | refine hp_drew ?_)); all_goals (first | (with_reducible rfl) | omega | (dsimp only; omega) | (simp; omega))
   have TS : w4.heap.size + 0 ≤ Vs.heap.size := by rw [← hWVs]; simp
   have nFZ : Vs.heap[w.heap.size]? = some (.cells #[.string ⟨#[]⟩, .string ⟨#[]⟩, .slice none 0 0, .slice none 0 0] 29 (0, 0)) := (TT _ ltFZ).trans FZ.out
   have nFB : Vs.heap[w3.heap.size]? = some (.cells #[.string x.f0.f0, .string x.f0.f1, .slice A0 x.f1.length c0, .slice A1 x.f2.length c1] 29 (0, 0)) := (TT _ ltFB).trans FB.out
   have nHO : Kd.R kAlias 58 Vs w1.heap.size (fun _ => True) (.slice B ys.length d) ys := Kd.R_mono (Kd.R_step (HO.out) (fun k hk hlt => TT k hlt)) (fun _ hk => hk)
   have nU0 : Kd.R kAddr 25 Vs w1.heap.size (fun _ => True) (.slice A0 x.f1.length c0) x.f1 := R_keepT U0.out rfl (fun k hk ho => TT k hk)
   have nU1 : Kd.R Kd.string 9 Vs w1.heap.size (fun _ => True) (.slice A1 x.f2.length c1) x.f2 := R_keepT U1.out rfl (fun k hk ho => TT k hk)
   have nHB : Below w.heap.size w Vs := by rw [← hWVs]; exact bel_then (HB.out) (drew_below0 _)
   clear hWVs FZ FB HB HO U0 U1
   have FZ := Aside0.mk nFZ
   clear nFZ
   have FB := Aside0.mk nFB
   clear nFB
   have HO := Aside0.mk nHO
   clear nHO
   have U0 := Aside0.mk nU0
   clear nU0
   have U1 := Aside0.mk nU1
   clear nU1
   have HB := Aside0.mk nHB
   clear nHB
   replace HL := Aside0.mk (Nat.le_trans HL.out (by omega : w4.heap.size ≤ Vs.heap.size))
   clear TT TS ltFZ ltFB ltb ltl
   refine tk 0 ?v10 ?y10 ?r10
   case y10 => intro w_ hSw; (try dsimp only at hSw); clear hSw; go_simp; (try (with_reducible rfl))
   try simp only [Act.put, List.setIfInBounds_toArray, List.set_cons_zero, List.set_cons_succ]
   refine tk 1 ?v11 ?y11 ?r11
   case y11 => intro w_ hSw; obtain ⟨e_0, e_1, e_2, e_3⟩ := HS8.out w_ hSw; clear hSw; go_simp; (try (with_reducible rfl))
   try simp only [Act.put, List.setIfInBounds_toArray, List.set_cons_zero, List.set_cons_succ]
   refine tk 2 ?v12 ?y12 ?r12
   case y12 => intro w_ hSw; (try dsimp only at hSw); clear hSw; go_simp; (try (with_reducible rfl))
   try simp only [Act.put, List.setIfInBounds_toArray, List.set_cons_zero, List.set_cons_succ]
   refine rdy (rs := [3]) ?_
   refine rc (fun K hK => ?k13) AllReadyH.nil
   case k13 =>
    have zFZ := blk_lt FZ.out
    have cFZ_0 : Vs.cell? ⟨w.heap.size, 0, none⟩ = some (.string ⟨#[]⟩) := clq FZ.out 0 rfl
    have dFZ_0 := fzq FZ.out 0
    have cFZ_1 : Vs.cell? ⟨w.heap.size, 1, none⟩ = some (.string ⟨#[]⟩) := clq FZ.out 1 rfl
    have dFZ_1 := fzq FZ.out 1
    have cFZ_2 : Vs.cell? ⟨w.heap.size, 2, none⟩ = some (.slice none 0 0) := clq FZ.out 2 rfl
    have dFZ_2 := fzq FZ.out 2
    have cFZ_3 : Vs.cell? ⟨w.heap.size, 3, none⟩ = some (.slice none 0 0) := clq FZ.out 3 rfl
    have dFZ_3 := fzq FZ.out 3
    go_simp
    generalize hWV3 : World.setCell (World.setCell (World.setCell (World.setCell (Vs) _ _) _ _) _ _) _ _ = V3
    have ltFZ := blk_lt FZ.out
    have ltFB := blk_lt FB.out
    have ltb := HB.out.size
    have ltl := HL.out
    have TT : ∀ k, k < Vs.heap.size → k ≠ w.heap.size → V3.heap[k]? = Vs.heap[k]? := fun k hk n_FZ => by rw [← hWV3]; (with_reducible repeat (first | rfl | refine hp_set ?_ ?_ | refine hp_alloc ?_ ?_ | refine hp_drew ?_)); all_goals (first | (with_reducible rfl) | omega | (dsimp only; omega) | (simp; omega))
    have TS : Vs.heap.size + 0 ≤ V3.heap.size := by rw [← hWV3]; simp
    have nFZ : V3.heap[w.heap.size]? = some (.cells #[.string x.f0.f0, .string x.f0.f1, .slice A0 x.f1.length c0, .slice A1 x.f2.length c1] 29 (0, 0)) := by rw [← hWV3]; have h := blk_set1 (blk_set1 (blk_set1 (blk_set1 (FZ.out) 0 (.string x.f0.f0)) 1 (.string x.f0.f1)) 2 (.slice A0 x.f1.length c0)) 3 (.slice A1 x.f2.length c1); simpa using h
    have nFB : V3.heap[w3.heap.size]? = some (.cells #[.string x.f0.f0, .string x.f0.f1, .slice A0 x.f1.length c0, .slice A1 x.f2.length c1] 29 (0, 0)) := (TT _ ltFB (by omega)).trans FB.out
    have nHO : Kd.R kAlias 58 V3 w1.heap.size (fun _ => True) (.slice B ys.length d) ys := Kd.R_mono (Kd.R_step (Kd.R_types (HO.out) FZ.out (by decide)) (fun k hk hlt => TT k hlt (hk.2))) (fun _ hk => hk.1)
    have nU0 : Kd.R kAddr 25 V3 w1.heap.size (fun _ => True) (.slice A0 x.f1.length c0) x.f1 := R_keepT U0.out rfl (fun k hk ho => TT k hk (fun e => Kd.R_ne U0.out FZ.out (by decide) (e ▸ ho)))
    have nU1 : Kd.R Kd.string 9 V3 w1.heap.size (fun _ => True) (.slice A1 x.f2.length c1) x.f2 := R_keepT U1.out rfl (fun k hk ho => TT k hk (fun e => Kd.R_ne U1.out FZ.out (by decide) (e ▸ ho)))
    have nHB : Below w.heap.size w V3 := by rw [← hWV3]; exact bel_set (bel_set (bel_set (bel_set (HB.out) _ (by show w.heap.size ≤ w.heap.size; first | omega | (simp; omega))) _ (by show w.heap.size ≤ w.heap.size; first | omega | (simp; omega))) _ (by show w.heap.size ≤ w.heap.size; first | omega | (simp; omega))) _ (by show w.heap.size ≤ w.heap.size; first | omega | (simp; omega))
    clear zFZ cFZ_0 dFZ_0 cFZ_1 dFZ_1 cFZ_2 dFZ_2 cFZ_3 dFZ_3
    clear hWV3 FZ FB HB HO U0 U1
    have FZ := Aside0.mk nFZ
    clear nFZ
    have FB := Aside0.mk nFB
    clear nFB
    have HO := Aside0.mk nHO
    clear nHO
    have U0 := Aside0.mk nU0
    clear nU0
    have U1 := Aside0.mk nU1
    clear nU1
    have HB := Aside0.mk nHB
    clear nHB
    replace HL := Aside0.mk (Nat.le_trans HL.out (by omega : Vs.heap.size ≤ V3.heap.size))
    clear TT TS ltFZ ltFB ltb ltl
    refine hK.out _ _ ?h14 (fun hHeld => ?j14)
    case h14 => exact FB.out
    clear hK K
    try simp only [Act.put, List.setIfInBounds_toArray, List.set_cons_zero, List.set_cons_succ]
    refine wpAnyH_done (by kernel_rfl) ?_ _
    have zFZ := blk_lt FZ.out
    have cFZ_0 : V3.cell? ⟨w.heap.size, 0, none⟩ = some (.string x.f0.f0) := clq FZ.out 0 rfl
    have cFZ_1 : V3.cell? ⟨w.heap.size, 1, none⟩ = some (.string x.f0.f1) := clq FZ.out 1 rfl
    have cFZ_2 : V3.cell? ⟨w.heap.size, 2, none⟩ = some (.slice A0 x.f1.length c0) := clq FZ.out 2 rfl
    have cFZ_3 : V3.cell? ⟨w.heap.size, 3, none⟩ = some (.slice A1 x.f2.length c1) := clq FZ.out 3 rfl
    go_wp2
    refine bodyPost_ret (v := .tuple #[.slice B ys.length d, .agg #[.string x.f0.f0, .string x.f0.f1, .slice A0 x.f1.length c0, .slice A1 x.f2.length c1]]) ?hrE rfl ?hpE
    case hrE => simp [results, Tryz.results5, go_sem, cFZ_0, cFZ_1, cFZ_2, cFZ_3]
    case hpE => exact ⟨ys, B, d, x, A0, c0, A1, c1, rfl, HS.out, HM.out, Kd.R_lower HO.out HB1.out.size, Kd.R_lower U0.out HB1.out.size, Kd.R_lower U1.out HB1.out.size, HB.out⟩
 ·have hn0' : ¬ (0 : Int) < (ys.length : Int) := by omega
  go_wp2
  generalize hVa : World.alloc w3 _ = w4
  have bV : Below w3.heap.size w3 w4 := by rw [← hVa]; exact bel_alloc (Below.refl _ _) _
  have nFB : Aside0 (w4.heap[w3.heap.size]? = some (.cells #[.string x.f0.f0, .string x.f0.f1, .slice A0 x.f1.length c0, .slice A1 x.f2.length c1] 29 (0, 0))) := ⟨by rw [← hVa]; exact blk_new _ _⟩
  clear hVa
  replace FZ := Aside0.mk (below_blk FZ.out bV)
  replace HO := Aside0.mk (Kd.R_below HO.out bV)
  replace U0 := Aside0.mk (Kd.R_below U0.out bV)
  replace U1 := Aside0.mk (Kd.R_below U1.out bV)
  replace HR := Aside0.mk (HR.out.below bV)
  replace HD := Aside0.mk (HD.out.below bV)
  have yw4 := HD.out.size
  have FB := nFB
  clear nFB bV
  have HB := Aside0.mk (show Below w.heap.size w w4 from HB1.out.trans (HD.out.bel (by omega) HB1.out.size))
  have HL : Aside0 (w.heap.size + 1 ≤ w4.heap.size) := ⟨by have := HD.out.size; have := blk_lt FZ.out; omega⟩
  clear HR HD
  have HS1 : Aside0 (∀ W : World, (W.heap[w3.heap.size]? = some (.cells #[.string x.f0.f0, .string x.f0.f1, .slice A0 x.f1.length c0, .slice A1 x.f2.length c1] 29 (0, 0))) → W.cell? ⟨w3.heap.size, 0, none⟩ = some (.string x.f0.f0) ∧ W.cell? ⟨w3.heap.size, 1, none⟩ = some (.string x.f0.f1) ∧ W.cell? ⟨w3.heap.size, 2, none⟩ = some (.slice A0 x.f1.length c0) ∧ W.cell? ⟨w3.heap.size, 3, none⟩ = some (.slice A1 x.f2.length c1)) := ⟨fun W h => ⟨(by have h_ := h; simp [World.cell?, h_]), (by have h_ := h; simp [World.cell?, h_]), (by have h_ := h; simp [World.cell?, h_]), (by have h_ := h; simp [World.cell?, h_])⟩⟩
  refine wp_region_held_drew (S := fun (W : World) => W.heap[w3.heap.size]? = some (.cells #[.string x.f0.f0, .string x.f0.f1, .slice A0 x.f1.length c0, .slice A1 x.f2.length c1] 29 (0, 0))) (by kernel_rfl) ?s2 (fun hHeld => ?t2)
  case s2 => exact (show (fun (W : World) => W.heap[w3.heap.size]? = some (.cells #[.string x.f0.f0, .string x.f0.f1, .slice A0 x.f1.length c0, .slice A1 x.f2.length c1] 29 (0, 0))) (World.drew w4) from FB.out)
  generalize hWVs : World.drew (w4) = Vs at hHeld ⊢
  have ltFZ := blk_lt FZ.out
  have ltFB := blk_lt FB.out
  have ltb := HB.out.size
  have ltl := HL.out
  have TT : ∀ k, k < w4.heap.size → Vs.heap[k]? = w4.heap[k]? := fun k hk => by rw [← hWVs]; (with_reducible repeat (first | rfl | refine hp_set ?_ ?_ | refine hp_alloc ?_ ?_ | refine hp_drew ?_)); all_goals (first | (with_reducible rfl) | omega | (dsimp only; omega) | (simp; omega))
  have TS : w4.heap.size + 0 ≤ Vs.heap.size := by rw [← hWVs]; simp
  have nFZ : Vs.heap[w.heap.size]? = some (.cells #[.string ⟨#[]⟩, .string ⟨#[]⟩, .slice none 0 0, .slice none 0 0] 29 (0, 0)) := (TT _ ltFZ).trans FZ.out
  have nFB : Vs.heap[w3.heap.size]? = some (.cells #[.string x.f0.f0, .string x.f0.f1, .slice A0 x.f1.length c0, .slice A1 x.f2.length c1] 29 (0, 0)) := (TT _ ltFB).trans FB.out
  have nHO : Kd.R kAlias 58 Vs w1.heap.size (fun _ => True) (.slice B ys.length d) ys := Kd.R_mono (Kd.R_step (HO.out) (fun k hk hlt => TT k hlt)) (fun _ hk => hk)
  have nU0 : Kd.R kAddr 25 Vs w1.heap.size (fun _ => True) (.slice A0 x.f1.length c0) x.f1 := R_keepT U0.out rfl (fun k hk ho => TT k hk)
  have nU1 : Kd.R Kd.string 9 Vs w1.heap.size (fun _ => True) (.slice A1 x.f2.length c1) x.f2 := R_keepT U1.out rfl (fun k hk ho => TT k hk)
  have nHB : Below w.heap.size w Vs := by rw [← hWVs]; exact bel_then (HB.out) (drew_below0 _)
  clear hWVs FZ FB HB HO U0 U1
  have FZ := Aside0.mk nFZ
  clear nFZ
  have FB := Aside0.mk nFB
  clear nFB
  have HO := Aside0.mk nHO
  clear nHO
  have U0 := Aside0.mk nU0
  clear nU0
  have U1 := Aside0.mk nU1
  clear nU1
  have HB := Aside0.mk nHB
  clear nHB
  replace HL := Aside0.mk (Nat.le_trans HL.out (by omega : w4.heap.size ≤ Vs.heap.size))
  clear TT TS ltFZ ltFB ltb ltl
  refine tk 0 ?v3 ?y3 ?r3
  case y3 => intro w_ hSw; (try dsimp only at hSw); clear hSw; go_simp; (try (with_reducible rfl))
  try simp only [Act.put, List.setIfInBounds_toArray, List.set_cons_zero, List.set_cons_succ]
  refine tk 1 ?v4 ?y4 ?r4
  case y4 => intro w_ hSw; obtain ⟨e_0, e_1, e_2, e_3⟩ := HS1.out w_ hSw; clear hSw; go_simp; (try (with_reducible rfl))
  try simp only [Act.put, List.setIfInBounds_toArray, List.set_cons_zero, List.set_cons_succ]
  refine tk 2 ?v5 ?y5 ?r5
  case y5 => intro w_ hSw; (try dsimp only at hSw); clear hSw; go_simp; (try (with_reducible rfl))
  try simp only [Act.put, List.setIfInBounds_toArray, List.set_cons_zero, List.set_cons_succ]
  refine rdy (rs := [3]) ?_
  refine rc (fun K hK => ?k6) AllReadyH.nil
  case k6 =>
   have zFZ := blk_lt FZ.out
   have cFZ_0 : Vs.cell? ⟨w.heap.size, 0, none⟩ = some (.string ⟨#[]⟩) := clq FZ.out 0 rfl
   have dFZ_0 := fzq FZ.out 0
   have cFZ_1 : Vs.cell? ⟨w.heap.size, 1, none⟩ = some (.string ⟨#[]⟩) := clq FZ.out 1 rfl
   have dFZ_1 := fzq FZ.out 1
   have cFZ_2 : Vs.cell? ⟨w.heap.size, 2, none⟩ = some (.slice none 0 0) := clq FZ.out 2 rfl
   have dFZ_2 := fzq FZ.out 2
   have cFZ_3 : Vs.cell? ⟨w.heap.size, 3, none⟩ = some (.slice none 0 0) := clq FZ.out 3 rfl
   have dFZ_3 := fzq FZ.out 3
   go_simp
   generalize hWV3 : World.setCell (World.setCell (World.setCell (World.setCell (Vs) _ _) _ _) _ _) _ _ = V3
   have ltFZ := blk_lt FZ.out
   have ltFB := blk_lt FB.out
   have ltb := HB.out.size
   have ltl := HL.out
   have TT : ∀ k, k < Vs.heap.size → k ≠ w.heap.size → V3.heap[k]? = Vs.heap[k]? := fun k hk n_FZ => by rw [← hWV3]; (with_reducible repeat (first | rfl | refine hp_set ?_ ?_ | refine hp_alloc ?_ ?_ | refine hp_drew ?_)); all_goals (first | (with_reducible rfl) | omega | (dsimp only; omega) | (simp; omega))
   have TS : Vs.heap.size + 0 ≤ V3.heap.size := by rw [← hWV3]; simp
   have nFZ : V3.heap[w.heap.size]? = some (.cells #[.string x.f0.f0, .string x.f0.f1, .slice A0 x.f1.length c0, .slice A1 x.f2.length c1] 29 (0, 0)) := by rw [← hWV3]; have h := blk_set1 (blk_set1 (blk_set1 (blk_set1 (FZ.out) 0 (.string x.f0.f0)) 1 (.string x.f0.f1)) 2 (.slice A0 x.f1.length c0)) 3 (.slice A1 x.f2.length c1); simpa using h
   have nFB : V3.heap[w3.heap.size]? = some (.cells #[.string x.f0.f0, .string x.f0.f1, .slice A0 x.f1.length c0, .slice A1 x.f2.length c1] 29 (0, 0)) := (TT _ ltFB (by omega)).trans FB.out
   have nHO : Kd.R kAlias 58 V3 w1.heap.size (fun _ => True) (.slice B ys.length d) ys := Kd.R_mono (Kd.R_step (Kd.R_types (HO.out) FZ.out (by decide)) (fun k hk hlt => TT k hlt (hk.2))) (fun _ hk => hk.1)
   have nU0 : Kd.R kAddr 25 V3 w1.heap.size (fun _ => True) (.slice A0 x.f1.length c0) x.f1 := R_keepT U0.out rfl (fun k hk ho => TT k hk (fun e => Kd.R_ne U0.out FZ.out (by decide) (e ▸ ho)))
   have nU1 : Kd.R Kd.string 9 V3 w1.heap.size (fun _ => True) (.slice A1 x.f2.length c1) x.f2 := R_keepT U1.out rfl (fun k hk ho => TT k hk (fun e => Kd.R_ne U1.out FZ.out (by decide) (e ▸ ho)))
   have nHB : Below w.heap.size w V3 := by rw [← hWV3]; exact bel_set (bel_set (bel_set (bel_set (HB.out) _ (by show w.heap.size ≤ w.heap.size; first | omega | (simp; omega))) _ (by show w.heap.size ≤ w.heap.size; first | omega | (simp; omega))) _ (by show w.heap.size ≤ w.heap.size; first | omega | (simp; omega))) _ (by show w.heap.size ≤ w.heap.size; first | omega | (simp; omega))
   clear zFZ cFZ_0 dFZ_0 cFZ_1 dFZ_1 cFZ_2 dFZ_2 cFZ_3 dFZ_3
   clear hWV3 FZ FB HB HO U0 U1
   have FZ := Aside0.mk nFZ
   clear nFZ
   have FB := Aside0.mk nFB
   clear nFB
   have HO := Aside0.mk nHO
   clear nHO
   have U0 := Aside0.mk nU0
   clear nU0
   have U1 := Aside0.mk nU1
   clear nU1
   have HB := Aside0.mk nHB
   clear nHB
   replace HL := Aside0.mk (Nat.le_trans HL.out (by omega : Vs.heap.size ≤ V3.heap.size))
   clear TT TS ltFZ ltFB ltb ltl
   refine hK.out _ _ ?h7 (fun hHeld => ?j7)
   case h7 => exact FB.out
   clear hK K
   try simp only [Act.put, List.setIfInBounds_toArray, List.set_cons_zero, List.set_cons_succ]
   refine wpAnyH_done (by kernel_rfl) ?_ _
   have zFZ := blk_lt FZ.out
   have cFZ_0 : V3.cell? ⟨w.heap.size, 0, none⟩ = some (.string x.f0.f0) := clq FZ.out 0 rfl
   have cFZ_1 : V3.cell? ⟨w.heap.size, 1, none⟩ = some (.string x.f0.f1) := clq FZ.out 1 rfl
   have cFZ_2 : V3.cell? ⟨w.heap.size, 2, none⟩ = some (.slice A0 x.f1.length c0) := clq FZ.out 2 rfl
   have cFZ_3 : V3.cell? ⟨w.heap.size, 3, none⟩ = some (.slice A1 x.f2.length c1) := clq FZ.out 3 rfl
   go_wp2
   refine bodyPost_ret (v := .tuple #[.slice B ys.length d, .agg #[.string x.f0.f0, .string x.f0.f1, .slice A0 x.f1.length c0, .slice A1 x.f2.length c1]]) ?hrN rfl ?hpN
   case hrN => simp [results, Tryz.results5, go_sem, cFZ_0, cFZ_1, cFZ_2, cFZ_3]
   case hpN => exact ⟨ys, B, d, x, A0, c0, A1, c1, rfl, HS.out, HM.out, Kd.R_lower HO.out HB1.out.size, Kd.R_lower U0.out HB1.out.size, Kd.R_lower U1.out HB1.out.size, HB.out⟩

end Go.Proofs.YticepbgacokbbaaGreatDoor
