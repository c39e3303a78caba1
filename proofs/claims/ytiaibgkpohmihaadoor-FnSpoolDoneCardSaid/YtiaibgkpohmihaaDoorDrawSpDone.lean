/- A drawn spool, an item of it, and one whom it is for, of bytes: a contract. -/
import Derived.Test.YtiaibgkpohmihaaDoorReg
import Derived.Test.YtiaibgkpohmihaaDoorDrwOf
import Derived.Test.YtiaibgkpohmihaaDoorDrw0
namespace Go.Proofs.YtiaibgkpohmihaaDoor
open Go.RowKit Go.Proofs.YtiaibgkpohmihaaDoorW.PrintWords
set_option linter.unusedVariables false
set_option linter.unusedSimpArgs false

set_option maxRecDepth 100000 in
set_option maxHeartbeats 2000000 in
theorem drawSpoolDone_any (A : Option Addr) (c : Nat) (xs : List Int) (w : World) (hw : fitBytes xs) (hc : xs.length ≤ c) (hr : Kd.C (Kd.int .u8) w A xs.length xs) :
  Calls Tryd.prog 13 #[.slice A xs.length c] w fun e w' => ∃ (s : SSpool) (B : Option Addr) (d : Nat) (id : Int) (a : SAddr), e = .returned (.tuple #[.agg #[.int .i64 s.f0, .slice B s.f1.length d], .int .i64 id, .agg #[.string a.f0, .string a.f1]]) ∧ wideS s ∧ (0 ≤ id ∧ id ≤ 1000) ∧ smallA a ∧ Kd.R kItem 28 w' w.heap.size (fun _ => True) (.slice B s.f1.length d) s.f1 ∧ Below w.heap.size w w' := by
 have ho := fun W (hW : Below w.heap.size w W) => drOpen_any A c xs W hw hc (Kd.C_below hr hW)
 clear hw hc hr
 generalize xs.length = L at ho
 go_enter Tryd.func13, Tryd.ntmps13
 go_wp2_with fail
 refine Calls.mono (ho _ (bel_alloc (bel_alloc (Below.refl _ _) _) _)) ?_
 rintro e w1 ⟨g, rfl, hg, hR, b1⟩
 have hg1 : w.heap.size + 1 < g := by simp at hg; omega
 have f2 : w1.heap[w.heap.size]? = some (.cells #[.int .i64 0, .slice none 0 0] 43 (0, 0)) := below_blk (blk_alloc (blk_new _ _) _) b1
 have fz : w1.heap[w.heap.size + 1]? = some (.cells #[.string ⟨#[]⟩, .string ⟨#[]⟩] 24 (0, 0)) := below_blk (blk_at _ _ (by simp)) b1
 have B1 : Below w.heap.size w w1 := bel_then (bel_alloc (bel_alloc (Below.refl _ _) _) _) b1
 have hgb : g < w1.heap.size := hR.lt
 clear ho b1 hg
 go_wp2_with fail
 refine Calls.mono (drAnySpool_any g 0 w1 hR (by omega)) ?_
 rintro e w2 ⟨s, B, d, rfl, hs, hq, hR2, hd⟩
 have F2 := Aside0.mk (hd.blk f2 (by omega))
 have FZ := Aside0.mk (hd.blk fz (by omega))
 have HQ := Aside0.mk hq
 have HR := Aside0.mk hR2
 have HD := Aside0.mk hd
 have HS := Lib.hid hs
 have HB1 := Lib.hid B1
 have yw2 := hd.size
 clear hd hR hq hR2 hs B1 f2 fz
 go_wp2_with fail
 generalize hVa : World.alloc w2 _ = w3
 have bV : Below w2.heap.size w2 w3 := by rw [← hVa]; exact bel_alloc (Below.refl _ _) _
 have nFO : Aside0 (w3.heap[w2.heap.size]? = some (.cells #[.int .i64 s.f0, .slice B s.f1.length d] 43 (0, 0))) := ⟨by rw [← hVa]; exact blk_new _ _⟩
 clear hVa
 replace F2 := Aside0.mk (below_blk F2.out bV)
 replace FZ := Aside0.mk (below_blk FZ.out bV)
 replace HQ := Aside0.mk (Kd.R_below HQ.out bV)
 replace HR := Aside0.mk (HR.out.below bV)
 replace HD := Aside0.mk (HD.out.below bV)
 have yw3 := HD.out.size
 have FO := nFO
 clear nFO bV
 refine Calls.mono (drOf_any g _ s B d w1.heap.size w3 HR.out (by omega) hgb HS.out HQ.out) ?_
 rintro e w4 ⟨id, a, rfl, hid, ha, hr_, hd_⟩
 replace F2 := Aside0.mk (hd_.blk F2.out (by omega))
 replace FZ := Aside0.mk (hd_.blk FZ.out (by omega))
 replace FO := Aside0.mk (hd_.blk FO.out (by omega))
 replace HQ := Aside0.mk (Dr.R hd_ HQ.out hgb)
 replace HR := Aside0.mk hr_
 replace HD := Aside0.mk (Dr.then_ HD.out hd_)
 have yw4 := HD.out.size
 clear hr_ hd_
 go_wp2_with fail
 generalize hVa : World.alloc w4 _ = w5
 have bV : Below w4.heap.size w4 w5 := by rw [← hVa]; exact bel_alloc (Below.refl _ _) _
 have nFA : Aside0 (w5.heap[w4.heap.size]? = some (.cells #[.string a.f0, .string a.f1] 24 (0, 0))) := ⟨by rw [← hVa]; exact blk_new _ _⟩
 clear hVa
 replace F2 := Aside0.mk (below_blk F2.out bV)
 replace FZ := Aside0.mk (below_blk FZ.out bV)
 replace FO := Aside0.mk (below_blk FO.out bV)
 replace HQ := Aside0.mk (Kd.R_below HQ.out bV)
 replace HR := Aside0.mk (HR.out.below bV)
 replace HD := Aside0.mk (HD.out.below bV)
 have yw5 := HD.out.size
 have FA := nFA
 clear nFA bV
 have HB := Aside0.mk (show Below w.heap.size w w5 from HB1.out.trans (HD.out.bel (by omega) HB1.out.size))
 have HL : Aside0 (w.heap.size + 2 ≤ w5.heap.size) := ⟨blk_lt FZ.out⟩
 clear HR HD
 have HS154 : Aside0 (∀ W : World, (W.heap[w2.heap.size]? = some (.cells #[.int .i64 s.f0, .slice B s.f1.length d] 43 (0, 0)) ∧ W.heap[w4.heap.size]? = some (.cells #[.string a.f0, .string a.f1] 24 (0, 0))) → W.cell? ⟨w2.heap.size, 0, none⟩ = some (.int .i64 s.f0) ∧ W.cell? ⟨w2.heap.size, 1, none⟩ = some (.slice B s.f1.length d) ∧ W.cell? ⟨w4.heap.size, 0, none⟩ = some (.string a.f0) ∧ W.cell? ⟨w4.heap.size, 1, none⟩ = some (.string a.f1)) := ⟨fun W h => ⟨(by have h_ := h.1; simp [World.cell?, h_]), (by have h_ := h.1; simp [World.cell?, h_]), (by have h_ := h.2; simp [World.cell?, h_]), (by have h_ := h.2; simp [World.cell?, h_])⟩⟩
 refine wp_region_held_drew (S := fun (W : World) => W.heap[w2.heap.size]? = some (.cells #[.int .i64 s.f0, .slice B s.f1.length d] 43 (0, 0)) ∧ W.heap[w4.heap.size]? = some (.cells #[.string a.f0, .string a.f1] 24 (0, 0))) (by kernel_rfl) ?s155 (fun hHeld => ?t155)
 case s155 => exact (show (fun (W : World) => W.heap[w2.heap.size]? = some (.cells #[.int .i64 s.f0, .slice B s.f1.length d] 43 (0, 0)) ∧ W.heap[w4.heap.size]? = some (.cells #[.string a.f0, .string a.f1] 24 (0, 0))) (World.drew w5) from ⟨FO.out, FA.out⟩)
 generalize hWVs : World.drew (w5) = Vs at hHeld ⊢
 have ltF2 := blk_lt F2.out
 have ltFZ := blk_lt FZ.out
 have ltFO := blk_lt FO.out
 have ltFA := blk_lt FA.out
 have ltb := HB.out.size
 have ltl := HL.out
 have TT : ∀ k, k < w5.heap.size → Vs.heap[k]? = w5.heap[k]? := fun k hk => by rw [← hWVs]; (with_reducible repeat (first | rfl | refine hp_set ?_ ?_ | refine hp_alloc ?_ ?_ | refine hp_drew ?_)); all_goals (first | (with_reducible rfl) | omega | (dsimp only; omega) | (simp; omega))
 have TS : w5.heap.size + 0 ≤ Vs.heap.size := by rw [← hWVs]; simp
 have nF2 : Vs.heap[w.heap.size]? = some (.cells #[.int .i64 0, .slice none 0 0] 43 (0, 0)) := (TT _ ltF2).trans F2.out
 have nFZ : Vs.heap[w.heap.size + 1]? = some (.cells #[.string ⟨#[]⟩, .string ⟨#[]⟩] 24 (0, 0)) := (TT _ ltFZ).trans FZ.out
 have nFO : Vs.heap[w2.heap.size]? = some (.cells #[.int .i64 s.f0, .slice B s.f1.length d] 43 (0, 0)) := (TT _ ltFO).trans FO.out
 have nFA : Vs.heap[w4.heap.size]? = some (.cells #[.string a.f0, .string a.f1] 24 (0, 0)) := (TT _ ltFA).trans FA.out
 have nHQ : Kd.R kItem 28 Vs w1.heap.size (fun _ => True) (.slice B s.f1.length d) s.f1 := Kd.R_mono (Kd.R_step (HQ.out) (fun k hk hlt => TT k hlt)) (fun _ hk => hk)
 have nHB : Below w.heap.size w Vs := by rw [← hWVs]; exact bel_then (HB.out) (drew_below0 _)
 clear hWVs F2 FZ FO FA HB HQ
 have F2 := Aside0.mk nF2
 clear nF2
 have FZ := Aside0.mk nFZ
 clear nFZ
 have FO := Aside0.mk nFO
 clear nFO
 have FA := Aside0.mk nFA
 clear nFA
 have HQ := Aside0.mk nHQ
 clear nHQ
 have HB := Aside0.mk nHB
 clear nHB
 replace HL := Aside0.mk (Nat.le_trans HL.out (by omega : w5.heap.size ≤ Vs.heap.size))
 clear TT TS ltF2 ltFZ ltFO ltFA ltb ltl
 refine tk 0 ?v156 ?y156 ?r156
 case y156 => intro w_ hSw; obtain ⟨e_0, e_1, e_2, e_3⟩ := HS154.out w_ hSw; clear hSw; go_simp; (try (with_reducible rfl))
 try simp only [Act.put, List.setIfInBounds_toArray, List.set_cons_zero, List.set_cons_succ]
 refine tk 1 ?v157 ?y157 ?r157
 case y157 => intro w_ hSw; (try dsimp only at hSw); clear hSw; go_simp; (try (with_reducible rfl))
 try simp only [Act.put, List.setIfInBounds_toArray, List.set_cons_zero, List.set_cons_succ]
 refine tk 2 ?v158 ?y158 ?r158
 case y158 => intro w_ hSw; obtain ⟨e_0, e_1, e_2, e_3⟩ := HS154.out w_ hSw; clear hSw; go_simp; (try (with_reducible rfl))
 try simp only [Act.put, List.setIfInBounds_toArray, List.set_cons_zero, List.set_cons_succ]
 refine rdy (rs := [3]) ?_
 refine rc (fun K hK => ?k159) AllReadyH.nil
 case k159 =>
  have zF2 := blk_lt F2.out
  have cF2_0 : Vs.cell? ⟨w.heap.size, 0, none⟩ = some (.int .i64 0) := clq F2.out 0 rfl
  have dF2_0 := fzq F2.out 0
  have cF2_1 : Vs.cell? ⟨w.heap.size, 1, none⟩ = some (.slice none 0 0) := clq F2.out 1 rfl
  have dF2_1 := fzq F2.out 1
  go_simp
  generalize hWV3 : World.setCell (World.setCell (Vs) _ _) _ _ = V3
  have ltF2 := blk_lt F2.out
  have ltFZ := blk_lt FZ.out
  have ltFO := blk_lt FO.out
  have ltFA := blk_lt FA.out
  have ltb := HB.out.size
  have ltl := HL.out
  have TT : ∀ k, k < Vs.heap.size → k ≠ w.heap.size → V3.heap[k]? = Vs.heap[k]? := fun k hk n_F2 => by rw [← hWV3]; (with_reducible repeat (first | rfl | refine hp_set ?_ ?_ | refine hp_alloc ?_ ?_ | refine hp_drew ?_)); all_goals (first | (with_reducible rfl) | omega | (dsimp only; omega) | (simp; omega))
  have TS : Vs.heap.size + 0 ≤ V3.heap.size := by rw [← hWV3]; simp
  have nF2 : V3.heap[w.heap.size]? = some (.cells #[.int .i64 s.f0, .slice B s.f1.length d] 43 (0, 0)) := by rw [← hWV3]; have h := blk_set1 (blk_set1 (F2.out) 0 (.int .i64 s.f0)) 1 (.slice B s.f1.length d); simpa using h
  have nFZ : V3.heap[w.heap.size + 1]? = some (.cells #[.string ⟨#[]⟩, .string ⟨#[]⟩] 24 (0, 0)) := (TT _ ltFZ (by omega)).trans FZ.out
  have nFO : V3.heap[w2.heap.size]? = some (.cells #[.int .i64 s.f0, .slice B s.f1.length d] 43 (0, 0)) := (TT _ ltFO (by omega)).trans FO.out
  have nFA : V3.heap[w4.heap.size]? = some (.cells #[.string a.f0, .string a.f1] 24 (0, 0)) := (TT _ ltFA (by omega)).trans FA.out
  have nHQ : Kd.R kItem 28 V3 w1.heap.size (fun _ => True) (.slice B s.f1.length d) s.f1 := Kd.R_mono (Kd.R_step (Kd.R_types (HQ.out) F2.out (by decide)) (fun k hk hlt => TT k hlt (hk.2))) (fun _ hk => hk.1)
  have nHB : Below w.heap.size w V3 := by rw [← hWV3]; exact bel_set (bel_set (HB.out) _ (by show w.heap.size ≤ w.heap.size; first | omega | (simp; omega))) _ (by show w.heap.size ≤ w.heap.size; first | omega | (simp; omega))
  clear zF2 cF2_0 dF2_0 cF2_1 dF2_1
  clear hWV3 F2 FZ FO FA HB HQ
  have F2 := Aside0.mk nF2
  clear nF2
  have FZ := Aside0.mk nFZ
  clear nFZ
  have FO := Aside0.mk nFO
  clear nFO
  have FA := Aside0.mk nFA
  clear nFA
  have HQ := Aside0.mk nHQ
  clear nHQ
  have HB := Aside0.mk nHB
  clear nHB
  replace HL := Aside0.mk (Nat.le_trans HL.out (by omega : Vs.heap.size ≤ V3.heap.size))
  clear TT TS ltF2 ltFZ ltFO ltFA ltb ltl
  refine hK.out _ _ ?h160 (fun hHeld => ?j160)
  case h160 => exact ⟨FO.out, FA.out⟩
  clear hK K
  try simp only [Act.put, List.setIfInBounds_toArray, List.set_cons_zero, List.set_cons_succ]
  refine tk 4 ?v161 ?y161 ?r161
  case y161 => intro w_ hSw; (try dsimp only at hSw); clear hSw; go_simp; (try (with_reducible rfl))
  try simp only [Act.put, List.setIfInBounds_toArray, List.set_cons_zero, List.set_cons_succ]
  refine rdy (rs := [5]) ?_
  refine rc (fun K hK => ?k162) AllReadyH.nil
  case k162 =>
   have zFZ := blk_lt FZ.out
   have cFZ_0 : V3.cell? ⟨w.heap.size + 1, 0, none⟩ = some (.string ⟨#[]⟩) := clq FZ.out 0 rfl
   have dFZ_0 := fzq FZ.out 0
   have cFZ_1 : V3.cell? ⟨w.heap.size + 1, 1, none⟩ = some (.string ⟨#[]⟩) := clq FZ.out 1 rfl
   have dFZ_1 := fzq FZ.out 1
   go_simp
   generalize hWV5 : World.setCell (World.setCell (V3) _ _) _ _ = V5
   have ltF2 := blk_lt F2.out
   have ltFZ := blk_lt FZ.out
   have ltFO := blk_lt FO.out
   have ltFA := blk_lt FA.out
   have ltb := HB.out.size
   have ltl := HL.out
   have TT : ∀ k, k < V3.heap.size → k ≠ w.heap.size + 1 → V5.heap[k]? = V3.heap[k]? := fun k hk n_FZ => by rw [← hWV5]; (with_reducible repeat (first | rfl | refine hp_set ?_ ?_ | refine hp_alloc ?_ ?_ | refine hp_drew ?_)); all_goals (first | (with_reducible rfl) | omega | (dsimp only; omega) | (simp; omega))
   have TS : V3.heap.size + 0 ≤ V5.heap.size := by rw [← hWV5]; simp
   have nF2 : V5.heap[w.heap.size]? = some (.cells #[.int .i64 s.f0, .slice B s.f1.length d] 43 (0, 0)) := (TT _ ltF2 (by omega)).trans F2.out
   have nFZ : V5.heap[w.heap.size + 1]? = some (.cells #[.string a.f0, .string a.f1] 24 (0, 0)) := by rw [← hWV5]; have h := blk_set1 (blk_set1 (FZ.out) 0 (.string a.f0)) 1 (.string a.f1); simpa using h
   have nFO : V5.heap[w2.heap.size]? = some (.cells #[.int .i64 s.f0, .slice B s.f1.length d] 43 (0, 0)) := (TT _ ltFO (by omega)).trans FO.out
   have nFA : V5.heap[w4.heap.size]? = some (.cells #[.string a.f0, .string a.f1] 24 (0, 0)) := (TT _ ltFA (by omega)).trans FA.out
   have nHQ : Kd.R kItem 28 V5 w1.heap.size (fun _ => True) (.slice B s.f1.length d) s.f1 := Kd.R_mono (Kd.R_step (Kd.R_types (HQ.out) FZ.out (by decide)) (fun k hk hlt => TT k hlt (hk.2))) (fun _ hk => hk.1)
   have nHB : Below w.heap.size w V5 := by rw [← hWV5]; exact bel_set (bel_set (HB.out) _ (by show w.heap.size ≤ w.heap.size + 1; first | omega | (simp; omega))) _ (by show w.heap.size ≤ w.heap.size + 1; first | omega | (simp; omega))
   clear zFZ cFZ_0 dFZ_0 cFZ_1 dFZ_1
   clear hWV5 F2 FZ FO FA HB HQ
   have F2 := Aside0.mk nF2
   clear nF2
   have FZ := Aside0.mk nFZ
   clear nFZ
   have FO := Aside0.mk nFO
   clear nFO
   have FA := Aside0.mk nFA
   clear nFA
   have HQ := Aside0.mk nHQ
   clear nHQ
   have HB := Aside0.mk nHB
   clear nHB
   replace HL := Aside0.mk (Nat.le_trans HL.out (by omega : V3.heap.size ≤ V5.heap.size))
   clear TT TS ltF2 ltFZ ltFO ltFA ltb ltl
   refine hK.out _ _ ?h163 (fun hHeld => ?j163)
   case h163 => exact ⟨FO.out, FA.out⟩
   clear hK K
   try simp only [Act.put, List.setIfInBounds_toArray, List.set_cons_zero, List.set_cons_succ]
   refine wpAnyH_done (by kernel_rfl) ?_ _
   have zF2 := blk_lt F2.out
   have cF2_0 : V5.cell? ⟨w.heap.size, 0, none⟩ = some (.int .i64 s.f0) := clq F2.out 0 rfl
   have cF2_1 : V5.cell? ⟨w.heap.size, 1, none⟩ = some (.slice B s.f1.length d) := clq F2.out 1 rfl
   have zFZ := blk_lt FZ.out
   have cFZ_0 : V5.cell? ⟨w.heap.size + 1, 0, none⟩ = some (.string a.f0) := clq FZ.out 0 rfl
   have cFZ_1 : V5.cell? ⟨w.heap.size + 1, 1, none⟩ = some (.string a.f1) := clq FZ.out 1 rfl
   go_wp2
   refine bodyPost_ret (v := .tuple #[.agg #[.int .i64 s.f0, .slice B s.f1.length d], .int .i64 id, .agg #[.string a.f0, .string a.f1]]) ?hr rfl ?hp
   case hr => simp [results, Tryd.results13, go_sem, zF2, cF2_0, cF2_1, zFZ, cFZ_0, cFZ_1]
   case hp => exact ⟨s, B, d, id, a, rfl, HS.out, hid, ha, Kd.R_lower HQ.out HB1.out.size, HB.out⟩

end Go.Proofs.YtiaibgkpohmihaaDoor
