/- SpoolDone of the reference: a contract. -/
import Derived.Test.YtiaibgkpohmihaaDoorReg
import Derived.Test.YtiaibgkpohmihaaDoorSpDone
import Derived.Test.YtiaibgkpohmihaaDoorSpA
import Derived.Test.YtiaibgkpohmihaaDoorCpSpool
import Derived.Test.YtiaibgkpohmihaaDoorSpoolS3
import Derived.Deep.RegionHeld3
namespace Go.Proofs.YtiaibgkpohmihaaDoor
open Go.RowKit Go.Proofs.YtiaibgkpohmihaaDoorW.PrintWords
set_option linter.unusedVariables false
set_option linter.unusedSimpArgs false

set_option maxRecDepth 100000 in
set_option maxHeartbeats 4000000 in
theorem specSpoolDone_any (s : SSpool) (id : Int) (a : SAddr) (x : SSpool) (q : Bool) (A0 : Option Addr) (c0 : Nat) (w : World) (hw : fitSpool s) (hr0 : Kd.C kItem w A0 s.f1.length s.f1) (hd : DoneR s id a x q) :
  Calls Tryd.prog 15 #[.agg #[.int .i64 s.f0, .slice A0 s.f1.length c0], .int .i64 id, .agg #[.string a.f0, .string a.f1]] w (spPost w.heap.size x q w) := by
 have hok := fun W (hW : Below w.heap.size w W) => specSpool_any s A0 c0 W hw (Kd.C_below hr0 hW)
 have hcp := fun W (hW : Below w.heap.size w W) => specCopySpool_any s A0 c0 W hw (Kd.C_below hr0 hW)
 have HW := Lib.hid hw
 obtain ⟨hw0, hlen, hx⟩ := hw
 have HX := Lib.hid hx
 unfold DoneR at hd
 generalize spoolOk s = q1 at hok hd
 have HD := Lib.hid hd
 have HR := Aside0.mk hr0
 clear hx hd hr0
 go_enter Tryd.func15, Tryd.ntmps15
 go_wp2_with fail
 obtain ⟨W0, hW0⟩ : ∃ W, W = (((w.alloc (.cells #[.int .i64 s.f0, .slice A0 s.f1.length c0] 43)).alloc (.cells #[.string a.f0, .string a.f1] 24)).alloc (.cells #[.int .i64 0, .slice none 0 0] 43)) := ⟨_, rfl⟩
 rw [← hW0]
 have HB : Aside0 (Below w.heap.size w W0) := ⟨by rw [hW0]; exact (bel_alloc (bel_alloc (bel_alloc (Below.refl _ _) _) _) _)⟩
 have F0 : Aside0 (W0.heap[w.heap.size]? = some (.cells #[.int .i64 s.f0, .slice A0 s.f1.length c0] 43 (0, 0))) := ⟨by rw [hW0]; exact blk_alloc (blk_alloc (blk_at _ _ (by first | rfl | (simp; done))) _) _⟩
 have FA : Aside0 (W0.heap[w.heap.size + 1]? = some (.cells #[.string a.f0, .string a.f1] 24 (0, 0))) := ⟨by rw [hW0]; exact blk_alloc (blk_at _ _ (by simp)) _⟩
 have FR : Aside0 (W0.heap[w.heap.size + 2]? = some (.cells #[.int .i64 0, .slice none 0 0] 43 (0, 0))) := ⟨by rw [hW0]; exact blk_at _ _ (by simp)⟩
 have HL : Aside0 (w.heap.size + 3 ≤ W0.heap.size) := ⟨by rw [hW0]; simp⟩
 clear hW0
 refine Calls.mono (hok _ HB.out) ?_
 rintro e w1 ⟨rfl, bw1⟩
 replace F0 := Aside0.mk (below_blk F0.out bw1)
 replace FA := Aside0.mk (below_blk FA.out bw1)
 replace FR := Aside0.mk (below_blk FR.out bw1)
 replace HB := Aside0.mk (bel_then HB.out bw1)
 replace HL := Aside0.mk (Nat.le_trans HL.out bw1.size)
 clear bw1
 clear hok
 rcases HD.out with ⟨hq, hx0, hq2⟩ | ⟨hq, i, k, hf, h0, h1⟩
 ·subst hq
  subst hx0
  subst hq2
  clear hcp HX HD
  have zF0 := blk_lt F0.out
  have cF0_0 : w1.cell? ⟨w.heap.size, 0, none⟩ = some (.int .i64 s.f0) := clq F0.out 0 rfl
  have cF0_1 : w1.cell? ⟨w.heap.size, 1, none⟩ = some (.slice A0 s.f1.length c0) := clq F0.out 1 rfl
  have zFR := blk_lt FR.out
  have cFR_0 : w1.cell? ⟨w.heap.size + 2, 0, none⟩ = some (.int .i64 0) := clq FR.out 0 rfl
  have dFR_0 := fzq FR.out 0
  have cFR_1 : w1.cell? ⟨w.heap.size + 2, 1, none⟩ = some (.slice none 0 0) := clq FR.out 1 rfl
  have dFR_1 := fzq FR.out 1
  go_wp2
  refine bodyPost_ret (v := .tuple #[.agg #[.int .i64 0, .slice none 0 0], .bool false]) ?hrA rfl ?hpA
  case hrA => simp [results, Tryd.results15, go_sem, zF0, cF0_0, cF0_1, zFR, cFR_0, dFR_0, cFR_1, dFR_1]
  case hpA =>
   exact ⟨none, 0, rfl, Kd.R_nil _ _ _ _ _, by (with_reducible repeat (first | exact HB.out | refine bel_set ?_ _ ?_)); all_goals ((try dsimp only); omega)⟩
 ·subst hq
  have H0 := Lib.hid h0
  have H1 := Lib.hid h1
  clear h0 h1 HD
  have zF0 := blk_lt F0.out
  have cF0_0 : w1.cell? ⟨w.heap.size, 0, none⟩ = some (.int .i64 s.f0) := clq F0.out 0 rfl
  have cF0_1 : w1.cell? ⟨w.heap.size, 1, none⟩ = some (.slice A0 s.f1.length c0) := clq F0.out 1 rfl
  go_wp2_with fail
  refine Calls.mono (hcp _ HB.out) ?_
  rintro e w2 ⟨B, d, rfl, rHO, bw2⟩
  clear zF0 cF0_0 cF0_1
  replace F0 := Aside0.mk (below_blk F0.out bw2)
  replace FA := Aside0.mk (below_blk FA.out bw2)
  replace FR := Aside0.mk (below_blk FR.out bw2)
  have HO : Aside0 (Kd.S kItem 28 w2 w.heap.size (fun _ => True) (.slice B s.f1.length d) s.f1) := ⟨Kd.S_lower (base' := w.heap.size) rHO HB.out.size⟩
  clear rHO
  replace HB := Aside0.mk (bel_then HB.out bw2)
  replace HL := Aside0.mk (Nat.le_trans HL.out bw2.size)
  clear bw2
  clear hcp
  have zF0 := blk_lt F0.out
  have cF0_0 : w2.cell? ⟨w.heap.size, 0, none⟩ = some (.int .i64 s.f0) := clq F0.out 0 rfl
  have cF0_1 : w2.cell? ⟨w.heap.size, 1, none⟩ = some (.slice A0 s.f1.length c0) := clq F0.out 1 rfl
  go_wp2_with fail
  generalize hWw3 : World.alloc (w2) _ = w3
  have ltF0 := blk_lt F0.out
  have ltFA := blk_lt FA.out
  have ltFR := blk_lt FR.out
  have ltb := HB.out.size
  have ltl := HL.out
  have TT : ∀ k, k < w2.heap.size → w3.heap[k]? = w2.heap[k]? := fun k hk => by rw [← hWw3]; (with_reducible repeat (first | rfl | refine hp_set ?_ ?_ | refine hp_alloc ?_ ?_ | refine hp_drew ?_)); all_goals (first | (with_reducible rfl) | omega | (dsimp only; omega) | (simp; omega))
  have TS : w2.heap.size + 1 ≤ w3.heap.size := by rw [← hWw3]; simp
  have nF0 : w3.heap[w.heap.size]? = some (.cells #[.int .i64 s.f0, .slice A0 s.f1.length c0] 43 (0, 0)) := (TT _ ltF0).trans F0.out
  have nFA : w3.heap[w.heap.size + 1]? = some (.cells #[.string a.f0, .string a.f1] 24 (0, 0)) := (TT _ ltFA).trans FA.out
  have nFR : w3.heap[w.heap.size + 2]? = some (.cells #[.int .i64 0, .slice none 0 0] 43 (0, 0)) := (TT _ ltFR).trans FR.out
  have nFO : w3.heap[w2.heap.size]? = some (.cells #[.int .i64 s.f0, .slice B s.f1.length d] 43 (0, 0)) := by rw [← hWw3]; exact blk_new w2 (.cells #[.int .i64 s.f0, .slice B s.f1.length d] 43)
  have nHO : Kd.S kItem 28 w3 w.heap.size (fun _ => True) (.slice B s.f1.length d) s.f1 := Kd.S_mono (Kd.S_step (HO.out) (fun k hk hlt => TT k hlt)) (fun _ hk => hk)
  have nHB : Below w.heap.size w w3 := by rw [← hWw3]; exact bel_alloc (HB.out) _
  clear zF0 cF0_0 cF0_1
  clear hWw3 F0 FA FR HB HO
  have F0 := Aside0.mk nF0
  clear nF0
  have FA := Aside0.mk nFA
  clear nFA
  have FR := Aside0.mk nFR
  clear nFR
  have FO := Aside0.mk nFO
  clear nFO
  have HO := Aside0.mk nHO
  clear nHO
  have HB := Aside0.mk nHB
  clear nHB
  have oFO_ltF0 := ltF0
  have oFO_ltFA := ltFA
  have oFO_ltFR := ltFR
  have oFO_ltl := ltl
  have oFO_ts := TS
  replace HL := Aside0.mk (Nat.le_trans HL.out (by omega : w2.heap.size ≤ w3.heap.size))
  clear TT TS ltF0 ltFA ltFR ltb ltl
  have hat := fun W (hW : Below w.heap.size w W) => specAt_any s.f0 s.f1 id A0 c0 W (Kd.C_below HR.out hW) hlen
  refine Calls.mono (hat _ HB.out) ?_
  rintro e w4 ⟨rfl, bw4⟩
  replace F0 := Aside0.mk (below_blk F0.out bw4)
  replace FA := Aside0.mk (below_blk FA.out bw4)
  replace FR := Aside0.mk (below_blk FR.out bw4)
  replace FO := Aside0.mk (below_blk FO.out bw4)
  replace HO := Aside0.mk (Kd.S_below HO.out bw4)
  replace HB := Aside0.mk (bel_then HB.out bw4)
  replace HL := Aside0.mk (Nat.le_trans HL.out bw4.size)
  clear bw4
  clear hat
  rcases hf with ⟨hi, rfl, rfl, rfl⟩ | ⟨n, hi, hn, rfl, hk, hq⟩
  ·have HXS := Lib.hid (H0.out rfl)
   clear H0 H1
   generalize itemAt id s.f1 = I at hi
   have hil : (I : Int) < 0 := hi
   go_wp2_with fail
   have HS66 : Aside0 (∀ W : World, (W.heap[w.heap.size]? = some (.cells #[.int .i64 s.f0, .slice A0 s.f1.length c0] 43 (0, 0))) → W.cell? ⟨w.heap.size, 0, none⟩ = some (.int .i64 s.f0) ∧ W.cell? ⟨w.heap.size, 1, none⟩ = some (.slice A0 s.f1.length c0)) := ⟨fun W h => ⟨(by have h_ := h; simp [World.cell?, h_]), (by have h_ := h; simp [World.cell?, h_])⟩⟩
   refine wp_region_held_drew (S := fun (W : World) => W.heap[w.heap.size]? = some (.cells #[.int .i64 s.f0, .slice A0 s.f1.length c0] 43 (0, 0))) (by kernel_rfl) ?s67 (fun hHeld => ?t67)
   case s67 => exact (show (fun (W : World) => W.heap[w.heap.size]? = some (.cells #[.int .i64 s.f0, .slice A0 s.f1.length c0] 43 (0, 0))) (World.drew w4) from F0.out)
   generalize hWVs : World.drew (w4) = Vs at hHeld ⊢
   have ltF0 := blk_lt F0.out
   have ltFA := blk_lt FA.out
   have ltFR := blk_lt FR.out
   have ltFO := blk_lt FO.out
   have ltb := HB.out.size
   have ltl := HL.out
   have TT : ∀ k, k < w4.heap.size → Vs.heap[k]? = w4.heap[k]? := fun k hk => by rw [← hWVs]; (with_reducible repeat (first | rfl | refine hp_set ?_ ?_ | refine hp_alloc ?_ ?_ | refine hp_drew ?_)); all_goals (first | (with_reducible rfl) | omega | (dsimp only; omega) | (simp; omega))
   have TS : w4.heap.size + 0 ≤ Vs.heap.size := by rw [← hWVs]; simp
   have nF0 : Vs.heap[w.heap.size]? = some (.cells #[.int .i64 s.f0, .slice A0 s.f1.length c0] 43 (0, 0)) := (TT _ ltF0).trans F0.out
   have nFA : Vs.heap[w.heap.size + 1]? = some (.cells #[.string a.f0, .string a.f1] 24 (0, 0)) := (TT _ ltFA).trans FA.out
   have nFR : Vs.heap[w.heap.size + 2]? = some (.cells #[.int .i64 0, .slice none 0 0] 43 (0, 0)) := (TT _ ltFR).trans FR.out
   have nFO : Vs.heap[w2.heap.size]? = some (.cells #[.int .i64 s.f0, .slice B s.f1.length d] 43 (0, 0)) := (TT _ ltFO).trans FO.out
   have nHO : Kd.S kItem 28 Vs w.heap.size (fun _ => True) (.slice B s.f1.length d) s.f1 := Kd.S_mono (Kd.S_step (HO.out) (fun k hk hlt => TT k hlt)) (fun _ hk => hk)
   have nHB : Below w.heap.size w Vs := by rw [← hWVs]; exact bel_then (HB.out) (drew_below0 _)
   clear hWVs F0 FA FR FO HB HO
   have F0 := Aside0.mk nF0
   clear nF0
   have FA := Aside0.mk nFA
   clear nFA
   have FR := Aside0.mk nFR
   clear nFR
   have FO := Aside0.mk nFO
   clear nFO
   have HO := Aside0.mk nHO
   clear nHO
   have HB := Aside0.mk nHB
   clear nHB
   replace HL := Aside0.mk (Nat.le_trans HL.out (by omega : w4.heap.size ≤ Vs.heap.size))
   clear TT TS ltF0 ltFA ltFR ltFO ltb ltl
   refine tk 0 ?v68 ?y68 ?r68
   case y68 => intro w_ hSw; (try dsimp only at hSw); clear hSw; go_simp; (try (with_reducible rfl))
   try simp only [Act.put, List.setIfInBounds_toArray, List.set_cons_zero, List.set_cons_succ]
   refine tk 1 ?v69 ?y69 ?r69
   case y69 => intro w_ hSw; (try dsimp only at hSw); clear hSw; go_simp; (try (with_reducible rfl))
   try simp only [Act.put, List.setIfInBounds_toArray, List.set_cons_zero, List.set_cons_succ]
   refine tk 2 ?v70 ?y70 ?r70
   case y70 => intro w_ hSw; (try dsimp only at hSw); clear hSw; go_simp; (try (with_reducible rfl))
   try simp only [Act.put, List.setIfInBounds_toArray, List.set_cons_zero, List.set_cons_succ]
   refine tn 3 ?r71
   try simp only [Act.put, List.setIfInBounds_toArray, List.set_cons_zero, List.set_cons_succ]
   refine tn 4 ?r72
   try simp only [Act.put, List.setIfInBounds_toArray, List.set_cons_zero, List.set_cons_succ]
   refine tn 5 ?r73
   try simp only [Act.put, List.setIfInBounds_toArray, List.set_cons_zero, List.set_cons_succ]
   refine tn 6 ?r74
   try simp only [Act.put, List.setIfInBounds_toArray, List.set_cons_zero, List.set_cons_succ]
   refine tn 7 ?r75
   try simp only [Act.put, List.setIfInBounds_toArray, List.set_cons_zero, List.set_cons_succ]
   refine tn 8 ?r76
   try simp only [Act.put, List.setIfInBounds_toArray, List.set_cons_zero, List.set_cons_succ]
   refine tn 9 ?r77
   try simp only [Act.put, List.setIfInBounds_toArray, List.set_cons_zero, List.set_cons_succ]
   refine tn 10 ?r78
   try simp only [Act.put, List.setIfInBounds_toArray, List.set_cons_zero, List.set_cons_succ]
   refine tk 11 ?v79 ?y79 ?r79
   case y79 => intro w_ hSw; (try dsimp only at hSw); clear hSw; go_simp; (try (with_reducible rfl))
   try simp only [Act.put, List.setIfInBounds_toArray, List.set_cons_zero, List.set_cons_succ]
   refine wpAnyH_done (by kernel_rfl) ?_ _
   have zFO := blk_lt FO.out
   have cFO_0 : Vs.cell? ⟨w2.heap.size, 0, none⟩ = some (.int .i64 s.f0) := clq FO.out 0 rfl
   have cFO_1 : Vs.cell? ⟨w2.heap.size, 1, none⟩ = some (.slice B s.f1.length d) := clq FO.out 1 rfl
   have zFR := blk_lt FR.out
   have cFR_0 : Vs.cell? ⟨w.heap.size + 2, 0, none⟩ = some (.int .i64 0) := clq FR.out 0 rfl
   have dFR_0 := fzq FR.out 0
   have cFR_1 : Vs.cell? ⟨w.heap.size + 2, 1, none⟩ = some (.slice none 0 0) := clq FR.out 1 rfl
   have dFR_1 := fzq FR.out 1
   go_wp2
   refine bodyPost_ret (v := .tuple #[.agg #[.int .i64 s.f0, .slice B s.f1.length d], .bool false]) ?hrB rfl ?hpB
   case hrB => simp [results, Tryd.results15, go_sem, zFO, cFO_0, cFO_1, zFR, cFR_0, dFR_0, cFR_1, dFR_1]
   case hpB =>
    show spPost _ x false _ _ _
    rw [HXS.out]
    exact ⟨B, d, rfl, R_other (Kd.S_R HO.out) FR.out (by decide) ((grown_set1 _ _ _ _).trans (grown_set1 _ _ _ _)), by (with_reducible repeat (first | exact HB.out | refine bel_set ?_ _ ?_)); all_goals ((try dsimp only); omega)⟩
  ·obtain ⟨ad, Q0, qc0, Q1, qc1, e1, p0, p1, p2, p3, p4, l0, k0, l1, k1⟩ := at_Item HR.out n hn
   subst e1
   have hfy := HX.out (s.f1.getD n zItem) (getD_mem _ _ hn)
   have hY0 : s.f1.getD n zItem = s.f1.getD n zItem := rfl
   generalize hy : s.f1.getD n zItem = y at p0 p1 p2 p3 p4 l0 k0 l1 k1 hfy hk hY0
   clear hY0
   have HY := Lib.hid hy
   have hyl := hfy.2.2.1.1
   have hn' : (n : Int) < (s.f1.length : Int) := by omega
   have hnn : ¬ (n : Int) < 0 := by omega
   have lta := World.block_lt_of_cell? _ _ p0
   have K0 := Aside0.mk k0
   rw [hi]
   have HK := Lib.hid hk
   have HQ := Lib.hid hq
   have hrc := fun W (hW : Below w.heap.size w W) => specRcptAt_any y a Q0 qc0 Q1 qc1 W (Kd.C_below K0.out hW) hyl
   rw [← hk] at hrc
   have HI := Lib.hid hi
   clear hy hfy hi k0 k1 l0 l1 hk hq
   go_wp2_with fail
   have HS80 : Aside0 (∀ W : World, (W.heap[w.heap.size]? = some (.cells #[.int .i64 s.f0, .slice (some ad) s.f1.length c0] 43 (0, 0)) ∧ W.heap[w.heap.size + 1]? = some (.cells #[.string a.f0, .string a.f1] 24 (0, 0)) ∧ W.heap[(ad.add (n * 5)).block]? = w.heap[(ad.add (n * 5)).block]?) → W.cell? ⟨w.heap.size, 0, none⟩ = some (.int .i64 s.f0) ∧ W.cell? ⟨w.heap.size, 1, none⟩ = some (.slice (some ad) s.f1.length c0) ∧ W.cell? ⟨w.heap.size + 1, 0, none⟩ = some (.string a.f0) ∧ W.cell? ⟨w.heap.size + 1, 1, none⟩ = some (.string a.f1) ∧ W.cell? (ad.add (n * 5)) = some (.int .i64 y.f0) ∧ W.cell? ⟨(ad.add (n * 5)).block, (ad.add (n * 5)).off + 1, none⟩ = some (.string y.f1.f0) ∧ W.cell? ⟨(ad.add (n * 5)).block, (ad.add (n * 5)).off + 2, none⟩ = some (.string y.f1.f1) ∧ W.cell? ⟨(ad.add (n * 5)).block, (ad.add (n * 5)).off + 3, none⟩ = some (.slice Q0 y.f2.length qc0) ∧ W.cell? ⟨(ad.add (n * 5)).block, (ad.add (n * 5)).off + 4, none⟩ = some (.slice Q1 y.f3.length qc1)) := ⟨fun W h => ⟨(by have h_ := h.1; simp [World.cell?, h_]), (by have h_ := h.1; simp [World.cell?, h_]), (by have h_ := h.2.1; simp [World.cell?, h_]), (by have h_ := h.2.1; simp [World.cell?, h_]), ((World.cell?_of_block h.2.2).trans p0), ((World.cell?_of_block (by exact h.2.2)).trans p1), ((World.cell?_of_block (by exact h.2.2)).trans p2), ((World.cell?_of_block (by exact h.2.2)).trans p3), ((World.cell?_of_block (by exact h.2.2)).trans p4)⟩⟩
   refine wp_region_held_drew (S := fun (W : World) => W.heap[w.heap.size]? = some (.cells #[.int .i64 s.f0, .slice (some ad) s.f1.length c0] 43 (0, 0)) ∧ W.heap[w.heap.size + 1]? = some (.cells #[.string a.f0, .string a.f1] 24 (0, 0)) ∧ W.heap[(ad.add (n * 5)).block]? = w.heap[(ad.add (n * 5)).block]?) (by kernel_rfl) ?s81 (fun hHeld => ?t81)
   case s81 => exact (show (fun (W : World) => W.heap[w.heap.size]? = some (.cells #[.int .i64 s.f0, .slice (some ad) s.f1.length c0] 43 (0, 0)) ∧ W.heap[w.heap.size + 1]? = some (.cells #[.string a.f0, .string a.f1] 24 (0, 0)) ∧ W.heap[(ad.add (n * 5)).block]? = w.heap[(ad.add (n * 5)).block]?) (World.drew w4) from ⟨F0.out, FA.out, HB.out.block _ lta⟩)
   generalize hWVs : World.drew (w4) = Vs at hHeld ⊢
   have ltF0 := blk_lt F0.out
   have ltFA := blk_lt FA.out
   have ltFR := blk_lt FR.out
   have ltFO := blk_lt FO.out
   have ltb := HB.out.size
   have ltl := HL.out
   have TT : ∀ k, k < w4.heap.size → Vs.heap[k]? = w4.heap[k]? := fun k hk => by rw [← hWVs]; (with_reducible repeat (first | rfl | refine hp_set ?_ ?_ | refine hp_alloc ?_ ?_ | refine hp_drew ?_)); all_goals (first | (with_reducible rfl) | omega | (dsimp only; omega) | (simp; omega))
   have TS : w4.heap.size + 0 ≤ Vs.heap.size := by rw [← hWVs]; simp
   have nF0 : Vs.heap[w.heap.size]? = some (.cells #[.int .i64 s.f0, .slice (some ad) s.f1.length c0] 43 (0, 0)) := (TT _ ltF0).trans F0.out
   have nFA : Vs.heap[w.heap.size + 1]? = some (.cells #[.string a.f0, .string a.f1] 24 (0, 0)) := (TT _ ltFA).trans FA.out
   have nFR : Vs.heap[w.heap.size + 2]? = some (.cells #[.int .i64 0, .slice none 0 0] 43 (0, 0)) := (TT _ ltFR).trans FR.out
   have nFO : Vs.heap[w2.heap.size]? = some (.cells #[.int .i64 s.f0, .slice B s.f1.length d] 43 (0, 0)) := (TT _ ltFO).trans FO.out
   have nHO : Kd.S kItem 28 Vs w.heap.size (fun _ => True) (.slice B s.f1.length d) s.f1 := Kd.S_mono (Kd.S_step (HO.out) (fun k hk hlt => TT k hlt)) (fun _ hk => hk)
   have nHB : Below w.heap.size w Vs := by rw [← hWVs]; exact bel_then (HB.out) (drew_below0 _)
   clear hWVs F0 FA FR FO HB HO
   have F0 := Aside0.mk nF0
   clear nF0
   have FA := Aside0.mk nFA
   clear nFA
   have FR := Aside0.mk nFR
   clear nFR
   have FO := Aside0.mk nFO
   clear nFO
   have HO := Aside0.mk nHO
   clear nHO
   have HB := Aside0.mk nHB
   clear nHB
   replace HL := Aside0.mk (Nat.le_trans HL.out (by omega : w4.heap.size ≤ Vs.heap.size))
   clear TT TS ltF0 ltFA ltFR ltFO ltb ltl
   refine tk 0 ?v82 ?y82 ?r82
   case y82 => intro w_ hSw; (try dsimp only at hSw); clear hSw; go_simp; (try (with_reducible rfl))
   try simp only [Act.put, List.setIfInBounds_toArray, List.set_cons_zero, List.set_cons_succ]
   refine tk 1 ?v83 ?y83 ?r83
   case y83 => intro w_ hSw; (try dsimp only at hSw); clear hSw; go_simp; (try (with_reducible rfl))
   try simp only [Act.put, List.setIfInBounds_toArray, List.set_cons_zero, List.set_cons_succ]
   refine tk 2 ?v84 ?y84 ?r84
   case y84 => intro w_ hSw; (try dsimp only at hSw); clear hSw; go_simp; (try (with_reducible rfl))
   try simp only [Act.put, List.setIfInBounds_toArray, List.set_cons_zero, List.set_cons_succ]
   refine tk 3 ?v85 ?y85 ?r85
   case y85 => intro w_ hSw; (try dsimp only at hSw); clear hSw; go_simp; (try (with_reducible rfl))
   try simp only [Act.put, List.setIfInBounds_toArray, List.set_cons_zero, List.set_cons_succ]
   refine tk 4 ?v86 ?y86 ?r86
   case y86 => intro w_ hSw; obtain ⟨e_0, e_1, e_2, e_3, e_4, e_5, e_6, e_7, e_8⟩ := HS80.out w_ hSw; clear hSw; go_simp; (try (with_reducible rfl))
   try simp only [Act.put, List.setIfInBounds_toArray, List.set_cons_zero, List.set_cons_succ]
   refine tk 5 ?v87 ?y87 ?r87
   case y87 => intro w_ hSw; (try dsimp only at hSw); clear hSw; go_simp; (try (with_reducible rfl))
   try simp only [Act.put, List.setIfInBounds_toArray, List.set_cons_zero, List.set_cons_succ]
   refine tk 6 ?v88 ?y88 ?r88
   case y88 => intro w_ hSw; (try dsimp only at hSw); clear hSw; go_simp; (try (with_reducible rfl))
   try simp only [Act.put, List.setIfInBounds_toArray, List.set_cons_zero, List.set_cons_succ]
   refine tk 7 ?v89 ?y89 ?r89
   case y89 => intro w_ hSw; obtain ⟨e_0, e_1, e_2, e_3, e_4, e_5, e_6, e_7, e_8⟩ := HS80.out w_ hSw; clear hSw; go_simp; (try (with_reducible rfl))
   try simp only [Act.put, List.setIfInBounds_toArray, List.set_cons_zero, List.set_cons_succ]
   refine tk 8 ?v90 ?y90 ?r90
   case y90 => intro w_ hSw; obtain ⟨e_0, e_1, e_2, e_3, e_4, e_5, e_6, e_7, e_8⟩ := HS80.out w_ hSw; clear hSw; go_simp; (try (with_reducible rfl))
   try simp only [Act.put, List.setIfInBounds_toArray, List.set_cons_zero, List.set_cons_succ]
   refine rdy (rs := [9]) ?_
   refine rc (fun K hK => ?k91) AllReadyH.nil
   case k91 =>
    go_simp
    refine Calls.mono (hrc _ HB.out) ?_
    rintro e V9 ⟨rfl, bV9⟩
    replace F0 := Aside0.mk (below_blk F0.out bV9)
    replace FA := Aside0.mk (below_blk FA.out bV9)
    replace FR := Aside0.mk (below_blk FR.out bV9)
    replace FO := Aside0.mk (below_blk FO.out bV9)
    replace HO := Aside0.mk (Kd.S_below HO.out bV9)
    replace HB := Aside0.mk (bel_then HB.out bV9)
    replace HL := Aside0.mk (Nat.le_trans HL.out bV9.size)
    clear bV9
    refine hK.out _ _ ?h92 (fun hHeld => ?j92)
    case h92 => exact ⟨F0.out, FA.out, HB.out.block _ lta⟩
    clear hK K
    try simp only [Act.put, List.setIfInBounds_toArray, List.set_cons_zero, List.set_cons_succ]
    refine tk 10 ?v93 ?y93 ?r93
    case y93 => intro w_ hSw; (try dsimp only at hSw); clear hSw; go_simp; (try (with_reducible rfl))
    try simp only [Act.put, List.setIfInBounds_toArray, List.set_cons_zero, List.set_cons_succ]
    refine tk 11 ?v94 ?y94 ?r94
    case y94 => intro w_ hSw; (try dsimp only at hSw); clear hSw; go_simp; (try (with_reducible rfl))
    try simp only [Act.put, List.setIfInBounds_toArray, List.set_cons_zero, List.set_cons_succ]
    refine wpAnyH_done (by kernel_rfl) ?_ _
    by_cases hk0 : k < 0
    ·have hqf : q = false := by rw [HQ.out]; exact decide_eq_false (by omega)
     have HXS := Lib.hid (H0.out hqf)
     subst hqf
     clear HQ H0 H1 hrc p0 p1 p2 p3 p4
     have zFO := blk_lt FO.out
     have cFO_0 : V9.cell? ⟨w2.heap.size, 0, none⟩ = some (.int .i64 s.f0) := clq FO.out 0 rfl
     have cFO_1 : V9.cell? ⟨w2.heap.size, 1, none⟩ = some (.slice B s.f1.length d) := clq FO.out 1 rfl
     have zFR := blk_lt FR.out
     have cFR_0 : V9.cell? ⟨w.heap.size + 2, 0, none⟩ = some (.int .i64 0) := clq FR.out 0 rfl
     have dFR_0 := fzq FR.out 0
     have cFR_1 : V9.cell? ⟨w.heap.size + 2, 1, none⟩ = some (.slice none 0 0) := clq FR.out 1 rfl
     have dFR_1 := fzq FR.out 1
     go_wp2
     refine bodyPost_ret (v := .tuple #[.agg #[.int .i64 s.f0, .slice B s.f1.length d], .bool false]) ?hrC rfl ?hpC
     case hrC => simp [results, Tryd.results15, go_sem, zFO, cFO_0, cFO_1, zFR, cFR_0, dFR_0, cFR_1, dFR_1]
     case hpC =>
      show spPost _ x false _ _ _
      rw [HXS.out]
      exact ⟨B, d, rfl, R_other (Kd.S_R HO.out) FR.out (by decide) ((grown_set1 _ _ _ _).trans (grown_set1 _ _ _ _)), by (with_reducible repeat (first | exact HB.out | refine bel_set ?_ _ ?_)); all_goals ((try dsimp only); omega)⟩
    ·have hqt : q = true := by rw [HQ.out]; exact decide_eq_true (by omega)
     have hxx := H1.out hqt
     subst hqt
     obtain ⟨m, rfl⟩ : ∃ m : Nat, k = (m : Int) := ⟨k.toNat, by omega⟩
     simp only [Int.toNat_natCast] at hxx
     have HXX := Lib.hid hxx
     have hm : m < y.f2.length := by
      rcases idx_nat (fun r : SRcpt => sameA r.f0 a) y.f2 with h7 | ⟨m2, h7, h8⟩
      ·have h9 : (m : Int) = -1 := HK.out.trans h7
       omega
      ·have h9 : (m : Int) = (m2 : Int) := HK.out.trans h7
       omega
     clear hxx H0 H1 HQ HK
     go_wp2_with fail
     have HS95 : Aside0 (∀ W : World, (W.heap[w.heap.size]? = some (.cells #[.int .i64 s.f0, .slice (some ad) s.f1.length c0] 43 (0, 0)) ∧ W.heap[w.heap.size + 1]? = some (.cells #[.string a.f0, .string a.f1] 24 (0, 0)) ∧ W.heap[w2.heap.size]? = some (.cells #[.int .i64 s.f0, .slice B s.f1.length d] 43 (0, 0)) ∧ W.heap[(ad.add (n * 5)).block]? = w.heap[(ad.add (n * 5)).block]?) → W.cell? ⟨w.heap.size, 0, none⟩ = some (.int .i64 s.f0) ∧ W.cell? ⟨w.heap.size, 1, none⟩ = some (.slice (some ad) s.f1.length c0) ∧ W.cell? ⟨w.heap.size + 1, 0, none⟩ = some (.string a.f0) ∧ W.cell? ⟨w.heap.size + 1, 1, none⟩ = some (.string a.f1) ∧ W.cell? ⟨w2.heap.size, 0, none⟩ = some (.int .i64 s.f0) ∧ W.cell? ⟨w2.heap.size, 1, none⟩ = some (.slice B s.f1.length d) ∧ W.cell? (ad.add (n * 5)) = some (.int .i64 y.f0) ∧ W.cell? ⟨(ad.add (n * 5)).block, (ad.add (n * 5)).off + 1, none⟩ = some (.string y.f1.f0) ∧ W.cell? ⟨(ad.add (n * 5)).block, (ad.add (n * 5)).off + 2, none⟩ = some (.string y.f1.f1) ∧ W.cell? ⟨(ad.add (n * 5)).block, (ad.add (n * 5)).off + 3, none⟩ = some (.slice Q0 y.f2.length qc0) ∧ W.cell? ⟨(ad.add (n * 5)).block, (ad.add (n * 5)).off + 4, none⟩ = some (.slice Q1 y.f3.length qc1)) := ⟨fun W h => ⟨(by have h_ := h.1; simp [World.cell?, h_]), (by have h_ := h.1; simp [World.cell?, h_]), (by have h_ := h.2.1; simp [World.cell?, h_]), (by have h_ := h.2.1; simp [World.cell?, h_]), (by have h_ := h.2.2.1; simp [World.cell?, h_]), (by have h_ := h.2.2.1; simp [World.cell?, h_]), ((World.cell?_of_block h.2.2.2).trans p0), ((World.cell?_of_block (by exact h.2.2.2)).trans p1), ((World.cell?_of_block (by exact h.2.2.2)).trans p2), ((World.cell?_of_block (by exact h.2.2.2)).trans p3), ((World.cell?_of_block (by exact h.2.2.2)).trans p4)⟩⟩
     refine wp_region_held_drew (S := fun (W : World) => W.heap[w.heap.size]? = some (.cells #[.int .i64 s.f0, .slice (some ad) s.f1.length c0] 43 (0, 0)) ∧ W.heap[w.heap.size + 1]? = some (.cells #[.string a.f0, .string a.f1] 24 (0, 0)) ∧ W.heap[w2.heap.size]? = some (.cells #[.int .i64 s.f0, .slice B s.f1.length d] 43 (0, 0)) ∧ W.heap[(ad.add (n * 5)).block]? = w.heap[(ad.add (n * 5)).block]?) (by kernel_rfl) ?s96 (fun hHeld => ?t96)
     case s96 => exact (show (fun (W : World) => W.heap[w.heap.size]? = some (.cells #[.int .i64 s.f0, .slice (some ad) s.f1.length c0] 43 (0, 0)) ∧ W.heap[w.heap.size + 1]? = some (.cells #[.string a.f0, .string a.f1] 24 (0, 0)) ∧ W.heap[w2.heap.size]? = some (.cells #[.int .i64 s.f0, .slice B s.f1.length d] 43 (0, 0)) ∧ W.heap[(ad.add (n * 5)).block]? = w.heap[(ad.add (n * 5)).block]?) (World.drew V9) from ⟨F0.out, FA.out, FO.out, HB.out.block _ lta⟩)
     generalize hWVt : World.drew (V9) = Vt at hHeld ⊢
     have ltF0 := blk_lt F0.out
     have ltFA := blk_lt FA.out
     have ltFR := blk_lt FR.out
     have ltFO := blk_lt FO.out
     have ltb := HB.out.size
     have ltl := HL.out
     have TT : ∀ k, k < V9.heap.size → Vt.heap[k]? = V9.heap[k]? := fun k hk => by rw [← hWVt]; (with_reducible repeat (first | rfl | refine hp_set ?_ ?_ | refine hp_alloc ?_ ?_ | refine hp_drew ?_)); all_goals (first | (with_reducible rfl) | omega | (dsimp only; omega) | (simp; omega))
     have TS : V9.heap.size + 0 ≤ Vt.heap.size := by rw [← hWVt]; simp
     have nF0 : Vt.heap[w.heap.size]? = some (.cells #[.int .i64 s.f0, .slice (some ad) s.f1.length c0] 43 (0, 0)) := (TT _ ltF0).trans F0.out
     have nFA : Vt.heap[w.heap.size + 1]? = some (.cells #[.string a.f0, .string a.f1] 24 (0, 0)) := (TT _ ltFA).trans FA.out
     have nFR : Vt.heap[w.heap.size + 2]? = some (.cells #[.int .i64 0, .slice none 0 0] 43 (0, 0)) := (TT _ ltFR).trans FR.out
     have nFO : Vt.heap[w2.heap.size]? = some (.cells #[.int .i64 s.f0, .slice B s.f1.length d] 43 (0, 0)) := (TT _ ltFO).trans FO.out
     have nHO : Kd.S kItem 28 Vt w.heap.size (fun _ => True) (.slice B s.f1.length d) s.f1 := Kd.S_mono (Kd.S_step (HO.out) (fun k hk hlt => TT k hlt)) (fun _ hk => hk)
     have nHB : Below w.heap.size w Vt := by rw [← hWVt]; exact bel_then (HB.out) (drew_below0 _)
     clear hWVt F0 FA FR FO HB HO
     have F0 := Aside0.mk nF0
     clear nF0
     have FA := Aside0.mk nFA
     clear nFA
     have FR := Aside0.mk nFR
     clear nFR
     have FO := Aside0.mk nFO
     clear nFO
     have HO := Aside0.mk nHO
     clear nHO
     have HB := Aside0.mk nHB
     clear nHB
     replace HL := Aside0.mk (Nat.le_trans HL.out (by omega : V9.heap.size ≤ Vt.heap.size))
     clear TT TS ltF0 ltFA ltFR ltFO ltb ltl
     refine tk 0 ?v97 ?y97 ?r97
     case y97 => intro w_ hSw; obtain ⟨e_0, e_1, e_2, e_3, e_4, e_5, e_6, e_7, e_8, e_9, e_10⟩ := HS95.out w_ hSw; clear hSw; go_simp; (try (with_reducible rfl))
     try simp only [Act.put, List.setIfInBounds_toArray, List.set_cons_zero, List.set_cons_succ]
     refine tk 1 ?v98 ?y98 ?r98
     case y98 => intro w_ hSw; (try dsimp only at hSw); clear hSw; go_simp; (try (with_reducible rfl))
     try simp only [Act.put, List.setIfInBounds_toArray, List.set_cons_zero, List.set_cons_succ]
     refine tk 2 ?v99 ?y99 ?r99
     case y99 => intro w_ hSw; (try dsimp only at hSw); clear hSw; go_simp; (try (with_reducible rfl))
     try simp only [Act.put, List.setIfInBounds_toArray, List.set_cons_zero, List.set_cons_succ]
     refine tk 3 ?v100 ?y100 ?r100
     case y100 => intro w_ hSw; obtain ⟨e_0, e_1, e_2, e_3, e_4, e_5, e_6, e_7, e_8, e_9, e_10⟩ := HS95.out w_ hSw; clear hSw; go_simp; (try (with_reducible rfl))
     try simp only [Act.put, List.setIfInBounds_toArray, List.set_cons_zero, List.set_cons_succ]
     refine tk 4 ?v101 ?y101 ?r101
     case y101 => intro w_ hSw; (try dsimp only at hSw); clear hSw; go_simp; (try (with_reducible rfl))
     try simp only [Act.put, List.setIfInBounds_toArray, List.set_cons_zero, List.set_cons_succ]
     refine tk 5 ?v102 ?y102 ?r102
     case y102 => intro w_ hSw; (try dsimp only at hSw); clear hSw; go_simp; (try (with_reducible rfl))
     try simp only [Act.put, List.setIfInBounds_toArray, List.set_cons_zero, List.set_cons_succ]
     refine tk 6 ?v103 ?y103 ?r103
     case y103 => intro w_ hSw; obtain ⟨e_0, e_1, e_2, e_3, e_4, e_5, e_6, e_7, e_8, e_9, e_10⟩ := HS95.out w_ hSw; clear hSw; go_simp; (try (with_reducible rfl))
     try simp only [Act.put, List.setIfInBounds_toArray, List.set_cons_zero, List.set_cons_succ]
     refine tk 7 ?v104 ?y104 ?r104
     case y104 => intro w_ hSw; obtain ⟨e_0, e_1, e_2, e_3, e_4, e_5, e_6, e_7, e_8, e_9, e_10⟩ := HS95.out w_ hSw; clear hSw; go_simp; (try (with_reducible rfl))
     try simp only [Act.put, List.setIfInBounds_toArray, List.set_cons_zero, List.set_cons_succ]
     refine rdy (rs := [8]) ?_
     refine rc (fun K hK => ?k105) AllReadyH.nil
     case k105 =>
      go_simp
      refine Calls.mono (hrc _ HB.out) ?_
      rintro e V8 ⟨rfl, bV8⟩
      replace F0 := Aside0.mk (below_blk F0.out bV8)
      replace FA := Aside0.mk (below_blk FA.out bV8)
      replace FR := Aside0.mk (below_blk FR.out bV8)
      replace FO := Aside0.mk (below_blk FO.out bV8)
      replace HO := Aside0.mk (Kd.S_below HO.out bV8)
      replace HB := Aside0.mk (bel_then HB.out bV8)
      replace HL := Aside0.mk (Nat.le_trans HL.out bV8.size)
      clear bV8
      refine hK.out _ _ ?h106 (fun hHeld => ?j106)
      case h106 => exact ⟨F0.out, FA.out, FO.out, HB.out.block _ lta⟩
      clear hK K
      try simp only [Act.put, List.setIfInBounds_toArray, List.set_cons_zero, List.set_cons_succ]
      refine rdy (rs := [9]) ?_
      refine rc (fun K hK => ?k107) AllReadyH.nil
      case k107 =>
       go_simp
       have hdn := specDone_any w.heap.size s n m B d V8 HB.out.size HW.out hn (by rw [HY.out]; exact hm) (Kd.S_R HO.out)
       generalize hLL : doneL s.f1 n m = L at hdn
       have HLL := Lib.hid hLL
       clear hLL
       refine Calls.mono (hdn) ?_
       rintro e V9 ⟨GB, Gd, rfl, hG1, bV9⟩
       replace F0 := Aside0.mk (below_blk F0.out bV9)
       replace FA := Aside0.mk (below_blk FA.out bV9)
       replace FR := Aside0.mk (below_blk FR.out bV9)
       replace FO := Aside0.mk (below_blk FO.out bV9)
       replace HO := Aside0.mk (Kd.S_below HO.out bV9)
       replace HB := Aside0.mk (bel_then HB.out bV9)
       replace HL := Aside0.mk (Nat.le_trans HL.out bV9.size)
       clear bV9
       have G := Aside0.mk hG1
       clear hG1 hdn HO
       refine hK.out _ _ ?h108 (fun hHeld => ?j108)
       case h108 => exact ⟨F0.out, FA.out, FO.out, HB.out.block _ lta⟩
       clear hK K
       try simp only [Act.put, List.setIfInBounds_toArray, List.set_cons_zero, List.set_cons_succ]
       refine rdy (rs := [10]) ?_
       refine rc (fun K hK => ?k109) AllReadyH.nil
       case k109 =>
        have zFR := blk_lt FR.out
        have cFR_0 : V9.cell? ⟨w.heap.size + 2, 0, none⟩ = some (.int .i64 0) := clq FR.out 0 rfl
        have dFR_0 := fzq FR.out 0
        have cFR_1 : V9.cell? ⟨w.heap.size + 2, 1, none⟩ = some (.slice none 0 0) := clq FR.out 1 rfl
        have dFR_1 := fzq FR.out 1
        go_simp
        generalize hWV10 : World.setCell (World.setCell (V9) _ _) _ _ = V10
        have ltF0 := blk_lt F0.out
        have ltFA := blk_lt FA.out
        have ltFR := blk_lt FR.out
        have ltFO := blk_lt FO.out
        have ltb := HB.out.size
        have ltl := HL.out
        have TT : ∀ k, k < V9.heap.size → k ≠ w.heap.size + 2 → V10.heap[k]? = V9.heap[k]? := fun k hk n_FR => by rw [← hWV10]; (with_reducible repeat (first | rfl | refine hp_set ?_ ?_ | refine hp_alloc ?_ ?_ | refine hp_drew ?_)); all_goals (first | (with_reducible rfl) | omega | (dsimp only; omega) | (simp; omega))
        have TS : V9.heap.size + 0 ≤ V10.heap.size := by rw [← hWV10]; simp
        have nF0 : V10.heap[w.heap.size]? = some (.cells #[.int .i64 s.f0, .slice (some ad) s.f1.length c0] 43 (0, 0)) := (TT _ ltF0 (by omega)).trans F0.out
        have nFA : V10.heap[w.heap.size + 1]? = some (.cells #[.string a.f0, .string a.f1] 24 (0, 0)) := (TT _ ltFA (by omega)).trans FA.out
        have nFR : V10.heap[w.heap.size + 2]? = some (.cells #[.int .i64 s.f0, .slice GB L.length Gd] 43 (0, 0)) := by rw [← hWV10]; have h := blk_set1 (blk_set1 (FR.out) 0 (.int .i64 s.f0)) 1 (.slice GB L.length Gd); simpa using h
        have nFO : V10.heap[w2.heap.size]? = some (.cells #[.int .i64 s.f0, .slice B s.f1.length d] 43 (0, 0)) := (TT _ ltFO (by omega)).trans FO.out
        have nG : Kd.R kItem 28 V10 w.heap.size (fun _ => True) (.slice GB L.length Gd) L := Kd.R_mono (Kd.R_step (Kd.R_types (G.out) FR.out (by decide)) (fun k hk hlt => TT k hlt (hk.2))) (fun _ hk => hk.1)
        have nHB : Below w.heap.size w V10 := by rw [← hWV10]; exact bel_set (bel_set (HB.out) _ (by show w.heap.size ≤ w.heap.size + 2; first | omega | (simp; omega))) _ (by show w.heap.size ≤ w.heap.size + 2; first | omega | (simp; omega))
        clear zFR cFR_0 dFR_0 cFR_1 dFR_1
        clear hWV10 F0 FA FR FO HB G
        have F0 := Aside0.mk nF0
        clear nF0
        have FA := Aside0.mk nFA
        clear nFA
        have FR := Aside0.mk nFR
        clear nFR
        have FO := Aside0.mk nFO
        clear nFO
        have G := Aside0.mk nG
        clear nG
        have HB := Aside0.mk nHB
        clear nHB
        replace HL := Aside0.mk (Nat.le_trans HL.out (by omega : V9.heap.size ≤ V10.heap.size))
        clear TT TS ltF0 ltFA ltFR ltFO ltb ltl
        refine hK.out _ _ ?h110 (fun hHeld => ?j110)
        case h110 => exact ⟨F0.out, FA.out, FO.out, HB.out.block _ lta⟩
        clear hK K
        try simp only [Act.put, List.setIfInBounds_toArray, List.set_cons_zero, List.set_cons_succ]
        refine tk 11 ?v111 ?y111 ?r111
        case y111 => intro w_ hSw; (try dsimp only at hSw); clear hSw; go_simp; (try (with_reducible rfl))
        try simp only [Act.put, List.setIfInBounds_toArray, List.set_cons_zero, List.set_cons_succ]
        refine wpAnyH_done (by kernel_rfl) ?_ _
        clear p0 p1 p2 p3 p4 hrc
        have zFR := blk_lt FR.out
        have cFR_0 : V10.cell? ⟨w.heap.size + 2, 0, none⟩ = some (.int .i64 s.f0) := clq FR.out 0 rfl
        have cFR_1 : V10.cell? ⟨w.heap.size + 2, 1, none⟩ = some (.slice GB L.length Gd) := clq FR.out 1 rfl
        go_wp2
        refine bodyPost_ret (v := .tuple #[.agg #[.int .i64 s.f0, .slice GB L.length Gd], .bool true]) ?hrD rfl ?hpD
        case hrD => simp [results, Tryd.results15, go_sem, zFR, cFR_0, cFR_1]
        case hpD =>
         show spPost _ x true _ _ _
         rw [HXX.out, HLL.out]
         exact ⟨GB, Gd, rfl, G.out, HB.out⟩

end Go.Proofs.YtiaibgkpohmihaaDoor
