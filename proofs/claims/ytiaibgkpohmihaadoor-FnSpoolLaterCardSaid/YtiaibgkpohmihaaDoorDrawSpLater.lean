/- A drawn spool, an item of it, one whom it is for, and a time, of bytes: a contract. -/
import Derived.Test.YtiaibgkpohmihaaDoorReg
import Derived.Test.YtiaibgkpohmihaaDoorDrwOf
import Derived.Test.YtiaibgkpohmihaaDoorDrw0
import Derived.Deep.RegionHeld3
namespace Go.Proofs.YtiaibgkpohmihaaDoor
open Go.RowKit Go.Proofs.YtiaibgkpohmihaaDoorW.PrintWords
set_option linter.unusedVariables false
set_option linter.unusedSimpArgs false

set_option maxRecDepth 100000 in
set_option maxHeartbeats 4000000 in
theorem drawSpoolLater_any (A : Option Addr) (c : Nat) (xs : List Int) (w : World) (hw : fitBytes xs) (hc : xs.length ≤ c) (hr : Kd.C (Kd.int .u8) w A xs.length xs) :
  Calls Tryd.prog 19 #[.slice A xs.length c] w fun e w' => ∃ (s : SSpool) (B : Option Addr) (d : Nat) (id : Int) (a : SAddr) (now : Int), e = .returned (.tuple #[.agg #[.int .i64 s.f0, .slice B s.f1.length d], .int .i64 id, .agg #[.string a.f0, .string a.f1], .int .i64 now]) ∧ wideS s ∧ (0 ≤ id ∧ id ≤ 1000) ∧ smallA a ∧ (-1 ≤ now ∧ now ≤ 9999) ∧ Kd.R kItem 28 w' w.heap.size (fun _ => True) (.slice B s.f1.length d) s.f1 ∧ Below w.heap.size w w' := by
 have ho := fun W (hW : Below w.heap.size w W) => drOpen_any A c xs W hw hc (Kd.C_below hr hW)
 clear hw hc hr
 generalize xs.length = L at ho
 go_enter Tryd.func19, Tryd.ntmps19
 go_wp2_with fail
 refine Calls.mono (ho _ (bel_alloc (bel_alloc (Below.refl _ _) _) _)) ?_
 rintro e w1 ⟨g, rfl, hg, hR, b1⟩
 have hg1 : w.heap.size + 1 < g := by simp at hg; omega
 have f2 : w1.heap[w.heap.size]? = some (.cells #[.int .i64 0, .slice none 0 0] 43 (0, 0)) := below_blk (blk_alloc (blk_new _ _) _) b1
 have fz : w1.heap[w.heap.size + 1]? = some (.cells #[.string ⟨#[]⟩, .string ⟨#[]⟩] 24 (0, 0)) := below_blk (blk_at _ _ (by simp)) b1
 have B1 : Below w.heap.size w w1 := bel_then (bel_alloc (bel_alloc (Below.refl _ _) _) _) b1
 have hgb : g < w1.heap.size := hR.lt
 clear ho b1 hg
 go_wp2_with fail
 refine Calls.mono (drAnySpool_any g 0 w1 hR (by omega)) ?_
 rintro e w2 ⟨s, B, d, rfl, hs, hq, hR2, hd⟩
 have F2 := Aside0.mk (hd.blk f2 (by omega))
 have FZ := Aside0.mk (hd.blk fz (by omega))
 have HQ := Aside0.mk hq
 have HR := Aside0.mk hR2
 have HD := Aside0.mk hd
 have HS := Lib.hid hs
 have HB1 := Lib.hid B1
 have yw2 := hd.size
 clear hd hR hq hR2 hs B1 f2 fz
 go_wp2_with fail
 generalize hVa : World.alloc w2 _ = w3
 have bV : Below w2.heap.size w2 w3 := by rw [← hVa]; exact bel_alloc (Below.refl _ _) _
 have nFO : Aside0 (w3.heap[w2.heap.size]? = some (.cells #[.int .i64 s.f0, .slice B s.f1.length d] 43 (0, 0))) := ⟨by rw [← hVa]; exact blk_new _ _⟩
 clear hVa
 replace F2 := Aside0.mk (below_blk F2.out bV)
 replace FZ := Aside0.mk (below_blk FZ.out bV)
 replace HQ := Aside0.mk (Kd.R_below HQ.out bV)
 replace HR := Aside0.mk (HR.out.below bV)
 replace HD := Aside0.mk (HD.out.below bV)
 have yw3 := HD.out.size
 have FO := nFO
 clear nFO bV
 refine Calls.mono (drOf_any g _ s B d w1.heap.size w3 HR.out (by omega) hgb HS.out HQ.out) ?_
 rintro e w4 ⟨id, a, rfl, hid, ha, hr_, hd_⟩
 replace F2 := Aside0.mk (hd_.blk F2.out (by omega))
 replace FZ := Aside0.mk (hd_.blk FZ.out (by omega))
 replace FO := Aside0.mk (hd_.blk FO.out (by omega))
 replace HQ := Aside0.mk (Dr.R hd_ HQ.out hgb)
 replace HR := Aside0.mk hr_
 replace HD := Aside0.mk (Dr.then_ HD.out hd_)
 have yw4 := HD.out.size
 clear hr_ hd_
 go_wp2_with fail
 generalize hVa : World.alloc w4 _ = w5
 have bV : Below w4.heap.size w4 w5 := by rw [← hVa]; exact bel_alloc (Below.refl _ _) _
 have nFA : Aside0 (w5.heap[w4.heap.size]? = some (.cells #[.string a.f0, .string a.f1] 24 (0, 0))) := ⟨by rw [← hVa]; exact blk_new _ _⟩
 clear hVa
 replace F2 := Aside0.mk (below_blk F2.out bV)
 replace FZ := Aside0.mk (below_blk FZ.out bV)
 replace FO := Aside0.mk (below_blk FO.out bV)
 replace HQ := Aside0.mk (Kd.R_below HQ.out bV)
 replace HR := Aside0.mk (HR.out.below bV)
 replace HD := Aside0.mk (HD.out.below bV)
 have yw5 := HD.out.size
 have FA := nFA
 clear nFA bV
 have cS_ : w5.cell? ⟨w2.heap.size, 0, none⟩ = some (.int .i64 s.f0) ∧ w5.cell? ⟨w2.heap.size, 1, none⟩ = some (.slice B s.f1.length d) ∧ w5.cell? ⟨w4.heap.size, 0, none⟩ = some (.string a.f0) ∧ w5.cell? ⟨w4.heap.size, 1, none⟩ = some (.string a.f1) := ⟨by have h_ := FO.out; simp [World.cell?, h_], by have h_ := FO.out; simp [World.cell?, h_], by have h_ := FA.out; simp [World.cell?, h_], by have h_ := FA.out; simp [World.cell?, h_]⟩
 refine wp_region_held_drew (S := (fun W => W.cell? ⟨w2.heap.size, 0, none⟩ = some (.int .i64 s.f0) ∧ W.cell? ⟨w2.heap.size, 1, none⟩ = some (.slice B s.f1.length d) ∧ W.cell? ⟨w4.heap.size, 0, none⟩ = some (.string a.f0) ∧ W.cell? ⟨w4.heap.size, 1, none⟩ = some (.string a.f1))) (by kernel_rfl) ?s1 (fun hHeld => ?t1)
 case s1 => exact (show (fun W => W.cell? ⟨w2.heap.size, 0, none⟩ = some (.int .i64 s.f0) ∧ W.cell? ⟨w2.heap.size, 1, none⟩ = some (.slice B s.f1.length d) ∧ W.cell? ⟨w4.heap.size, 0, none⟩ = some (.string a.f0) ∧ W.cell? ⟨w4.heap.size, 1, none⟩ = some (.string a.f1)) w5.drew from cS_)
 clear cS_
 generalize hV0 : World.drew w5 = V0 at hHeld ⊢
 have bV : Below w5.heap.size w5 V0 := by rw [← hV0]; exact drew_below0 w5
 clear hV0
 replace F2 := Aside0.mk (below_blk F2.out bV)
 replace FZ := Aside0.mk (below_blk FZ.out bV)
 replace FO := Aside0.mk (below_blk FO.out bV)
 replace FA := Aside0.mk (below_blk FA.out bV)
 replace HQ := Aside0.mk (Kd.R_below HQ.out bV)
 replace HR := Aside0.mk (HR.out.below bV)
 replace HD := Aside0.mk (HD.out.below bV)
 have yV0 := HD.out.size
 clear bV
 have zFO := blk_lt FO.out
 have cFO_0 : V0.cell? ⟨w2.heap.size, 0, none⟩ = some (.int .i64 s.f0) := clq FO.out 0 rfl
 have cFO_1 : V0.cell? ⟨w2.heap.size, 1, none⟩ = some (.slice B s.f1.length d) := clq FO.out 1 rfl
 have zFA := blk_lt FA.out
 have cFA_0 : V0.cell? ⟨w4.heap.size, 0, none⟩ = some (.string a.f0) := clq FA.out 0 rfl
 have cFA_1 : V0.cell? ⟨w4.heap.size, 1, none⟩ = some (.string a.f1) := clq FA.out 1 rfl
 refine tk 0 ?v2 ?y2 ?r2
 case y2 => intro w_ hSw; (try dsimp only at hSw); go_simp; (try (with_reducible rfl))
 try simp only [Act.put, List.setIfInBounds_toArray, List.set_cons_zero, List.set_cons_succ]
 refine tk 1 ?v3 ?y3 ?r3
 case y3 => intro w_ hSw; (try dsimp only at hSw); go_simp; (try (with_reducible rfl))
 try simp only [Act.put, List.setIfInBounds_toArray, List.set_cons_zero, List.set_cons_succ]
 refine tk 2 ?v4 ?y4 ?r4
 case y4 => intro w_ hSw; (try dsimp only at hSw); go_simp; (try (with_reducible rfl))
 try simp only [Act.put, List.setIfInBounds_toArray, List.set_cons_zero, List.set_cons_succ]
 refine tk 3 ?v5 ?y5 ?r5
 case y5 => intro w_ hSw; (try dsimp only at hSw); go_simp; (try (with_reducible rfl))
 try simp only [Act.put, List.setIfInBounds_toArray, List.set_cons_zero, List.set_cons_succ]
 refine rdy (rs := [4]) ?_
 refine rc (fun K hK => ?k6) AllReadyH.nil
 case k6 =>
  go_simp
  obtain ⟨gl, hgl⟩ : ∃ q, q = V0.heap.size := ⟨_, rfl⟩
  rw [← hgl]
  have hgl1 : g < gl := by have := HR.out.lt; omega
  generalize hVa : World.alloc V0 _ = V4
  have bV : Below V0.heap.size V0 V4 := by rw [← hVa]; exact bel_alloc (Below.refl _ _) _
  have nFL : Aside0 (V4.heap[gl]? = some (.cells #[.int .i64 0, .int .i64 7, .int .i64 50, .int .i64 9995, .int .i64 9999, .int .i64 (-1)] 3 (0, 0))) := ⟨by rw [← hVa, hgl]; exact blk_new _ _⟩
  clear hVa hgl
  clear zFO cFO_0 cFO_1 zFA cFA_0 cFA_1
  replace F2 := Aside0.mk (below_blk F2.out bV)
  replace FZ := Aside0.mk (below_blk FZ.out bV)
  replace FO := Aside0.mk (below_blk FO.out bV)
  replace FA := Aside0.mk (below_blk FA.out bV)
  replace HQ := Aside0.mk (Kd.R_below HQ.out bV)
  replace HR := Aside0.mk (HR.out.below bV)
  replace HD := Aside0.mk (HD.out.below bV)
  have yV4 := HD.out.size
  have FL := nFL
  clear nFL bV
  have zFO := blk_lt FO.out
  have cFO_0 : V4.cell? ⟨w2.heap.size, 0, none⟩ = some (.int .i64 s.f0) := clq FO.out 0 rfl
  have cFO_1 : V4.cell? ⟨w2.heap.size, 1, none⟩ = some (.slice B s.f1.length d) := clq FO.out 1 rfl
  have zFA := blk_lt FA.out
  have cFA_0 : V4.cell? ⟨w4.heap.size, 0, none⟩ = some (.string a.f0) := clq FA.out 0 rfl
  have cFA_1 : V4.cell? ⟨w4.heap.size, 1, none⟩ = some (.string a.f1) := clq FA.out 1 rfl
  refine hK.out _ _ ?h7 (fun hHeld => ?j7)
  case h7 => exact ⟨cFO_0, cFO_1, cFA_0, cFA_1⟩
  clear hK K
  try simp only [Act.put, List.setIfInBounds_toArray, List.set_cons_zero, List.set_cons_succ]
  refine rdy (rs := [5]) ?_
  refine rc (fun K hK => ?k8) AllReadyH.nil
  case k8 =>
   go_simp
   refine Calls.mono (one_any (-1) 9999 g _ _ _ _ _ _ V4 HR.out (by omega) FL.out (by decide) (by rfl) (by decide) (by decide) (by rfl)) ?_
   rintro e V5 ⟨z, rfl, hz, hr_, hd_⟩
   clear zFO cFO_0 cFO_1 zFA cFA_0 cFA_1
   replace F2 := Aside0.mk (hd_.blk F2.out (by omega))
   replace FZ := Aside0.mk (hd_.blk FZ.out (by omega))
   replace FO := Aside0.mk (hd_.blk FO.out (by omega))
   replace FA := Aside0.mk (hd_.blk FA.out (by omega))
   replace FL := Aside0.mk (hd_.blk FL.out (by omega))
   replace HQ := Aside0.mk (Dr.R hd_ HQ.out hgb)
   replace HR := Aside0.mk hr_
   replace HD := Aside0.mk (Dr.then_ HD.out hd_)
   have yV5 := HD.out.size
   clear hr_ hd_
   have HB := Aside0.mk (show Below w.heap.size w V5 from HB1.out.trans (HD.out.bel (by omega) HB1.out.size))
   have HL : Aside0 (w.heap.size + 2 ≤ V5.heap.size) := ⟨blk_lt FZ.out⟩
   clear HR HD FL
   have zFO := blk_lt FO.out
   have cFO_0 : V5.cell? ⟨w2.heap.size, 0, none⟩ = some (.int .i64 s.f0) := clq FO.out 0 rfl
   have cFO_1 : V5.cell? ⟨w2.heap.size, 1, none⟩ = some (.slice B s.f1.length d) := clq FO.out 1 rfl
   have zFA := blk_lt FA.out
   have cFA_0 : V5.cell? ⟨w4.heap.size, 0, none⟩ = some (.string a.f0) := clq FA.out 0 rfl
   have cFA_1 : V5.cell? ⟨w4.heap.size, 1, none⟩ = some (.string a.f1) := clq FA.out 1 rfl
   refine hK.out _ _ ?h9 (fun hHeld => ?j9)
   case h9 => exact ⟨cFO_0, cFO_1, cFA_0, cFA_1⟩
   clear hK K
   try simp only [Act.put, List.setIfInBounds_toArray, List.set_cons_zero, List.set_cons_succ]
   refine rdy (rs := [6]) ?_
   refine rc (fun K hK => ?k10) AllReadyH.nil
   case k10 =>
    have zF2 := blk_lt F2.out
    have cF2_0 : V5.cell? ⟨w.heap.size, 0, none⟩ = some (.int .i64 0) := clq F2.out 0 rfl
    have dF2_0 := fzq F2.out 0
    have cF2_1 : V5.cell? ⟨w.heap.size, 1, none⟩ = some (.slice none 0 0) := clq F2.out 1 rfl
    have dF2_1 := fzq F2.out 1
    go_simp
    generalize hWV6 : World.setCell (World.setCell (V5) _ _) _ _ = V6
    have ltF2 := blk_lt F2.out
    have ltFZ := blk_lt FZ.out
    have ltFO := blk_lt FO.out
    have ltFA := blk_lt FA.out
    have ltb := HB.out.size
    have ltl := HL.out
    have TT : ∀ k, k < V5.heap.size → k ≠ w.heap.size → V6.heap[k]? = V5.heap[k]? := fun k hk n_F2 => by rw [← hWV6]; (with_reducible repeat (first | rfl | refine hp_set ?_ ?_ | refine hp_alloc ?_ ?_ | refine hp_drew ?_)); all_goals (first | (with_reducible rfl) | omega | (dsimp only; omega) | (simp; omega))
    have TS : V5.heap.size + 0 ≤ V6.heap.size := by rw [← hWV6]; simp
    have nF2 : V6.heap[w.heap.size]? = some (.cells #[.int .i64 s.f0, .slice B s.f1.length d] 43 (0, 0)) := by rw [← hWV6]; have h := blk_set1 (blk_set1 (F2.out) 0 (.int .i64 s.f0)) 1 (.slice B s.f1.length d); simpa using h
    have nFZ : V6.heap[w.heap.size + 1]? = some (.cells #[.string ⟨#[]⟩, .string ⟨#[]⟩] 24 (0, 0)) := (TT _ ltFZ (by omega)).trans FZ.out
    have nFO : V6.heap[w2.heap.size]? = some (.cells #[.int .i64 s.f0, .slice B s.f1.length d] 43 (0, 0)) := (TT _ ltFO (by omega)).trans FO.out
    have nFA : V6.heap[w4.heap.size]? = some (.cells #[.string a.f0, .string a.f1] 24 (0, 0)) := (TT _ ltFA (by omega)).trans FA.out
    have nHQ : Kd.R kItem 28 V6 w1.heap.size (fun _ => True) (.slice B s.f1.length d) s.f1 := Kd.R_mono (Kd.R_step (Kd.R_types (HQ.out) F2.out (by decide)) (fun k hk hlt => TT k hlt (hk.2))) (fun _ hk => hk.1)
    have nHB : Below w.heap.size w V6 := by rw [← hWV6]; exact bel_set (bel_set (HB.out) _ (by show w.heap.size ≤ w.heap.size; first | omega | (simp; omega))) _ (by show w.heap.size ≤ w.heap.size; first | omega | (simp; omega))
    clear zFO cFO_0 cFO_1 zFA cFA_0 cFA_1 zF2 cF2_0 dF2_0 cF2_1 dF2_1
    clear hWV6 F2 FZ FO FA HB HQ
    have F2 := Aside0.mk nF2
    clear nF2
    have FZ := Aside0.mk nFZ
    clear nFZ
    have FO := Aside0.mk nFO
    clear nFO
    have FA := Aside0.mk nFA
    clear nFA
    have HQ := Aside0.mk nHQ
    clear nHQ
    have HB := Aside0.mk nHB
    clear nHB
    replace HL := Aside0.mk (Nat.le_trans HL.out (by omega : V5.heap.size ≤ V6.heap.size))
    clear TT TS ltF2 ltFZ ltFO ltFA ltb ltl
    have zFO := blk_lt FO.out
    have cFO_0 : V6.cell? ⟨w2.heap.size, 0, none⟩ = some (.int .i64 s.f0) := clq FO.out 0 rfl
    have cFO_1 : V6.cell? ⟨w2.heap.size, 1, none⟩ = some (.slice B s.f1.length d) := clq FO.out 1 rfl
    have zFA := blk_lt FA.out
    have cFA_0 : V6.cell? ⟨w4.heap.size, 0, none⟩ = some (.string a.f0) := clq FA.out 0 rfl
    have cFA_1 : V6.cell? ⟨w4.heap.size, 1, none⟩ = some (.string a.f1) := clq FA.out 1 rfl
    refine hK.out _ _ ?h11 (fun hHeld => ?j11)
    case h11 => exact ⟨cFO_0, cFO_1, cFA_0, cFA_1⟩
    clear hK K
    try simp only [Act.put, List.setIfInBounds_toArray, List.set_cons_zero, List.set_cons_succ]
    refine tk 7 ?v12 ?y12 ?r12
    case y12 => intro w_ hSw; (try dsimp only at hSw); go_simp; (try (with_reducible rfl))
    try simp only [Act.put, List.setIfInBounds_toArray, List.set_cons_zero, List.set_cons_succ]
    refine rdy (rs := [8]) ?_
    refine rc (fun K hK => ?k13) AllReadyH.nil
    case k13 =>
     have zFZ := blk_lt FZ.out
     have cFZ_0 : V6.cell? ⟨w.heap.size + 1, 0, none⟩ = some (.string ⟨#[]⟩) := clq FZ.out 0 rfl
     have dFZ_0 := fzq FZ.out 0
     have cFZ_1 : V6.cell? ⟨w.heap.size + 1, 1, none⟩ = some (.string ⟨#[]⟩) := clq FZ.out 1 rfl
     have dFZ_1 := fzq FZ.out 1
     go_simp
     generalize hWV8 : World.setCell (World.setCell (V6) _ _) _ _ = V8
     have ltF2 := blk_lt F2.out
     have ltFZ := blk_lt FZ.out
     have ltFO := blk_lt FO.out
     have ltFA := blk_lt FA.out
     have ltb := HB.out.size
     have ltl := HL.out
     have TT : ∀ k, k < V6.heap.size → k ≠ w.heap.size + 1 → V8.heap[k]? = V6.heap[k]? := fun k hk n_FZ => by rw [← hWV8]; (with_reducible repeat (first | rfl | refine hp_set ?_ ?_ | refine hp_alloc ?_ ?_ | refine hp_drew ?_)); all_goals (first | (with_reducible rfl) | omega | (dsimp only; omega) | (simp; omega))
     have TS : V6.heap.size + 0 ≤ V8.heap.size := by rw [← hWV8]; simp
     have nF2 : V8.heap[w.heap.size]? = some (.cells #[.int .i64 s.f0, .slice B s.f1.length d] 43 (0, 0)) := (TT _ ltF2 (by omega)).trans F2.out
     have nFZ : V8.heap[w.heap.size + 1]? = some (.cells #[.string a.f0, .string a.f1] 24 (0, 0)) := by rw [← hWV8]; have h := blk_set1 (blk_set1 (FZ.out) 0 (.string a.f0)) 1 (.string a.f1); simpa using h
     have nFO : V8.heap[w2.heap.size]? = some (.cells #[.int .i64 s.f0, .slice B s.f1.length d] 43 (0, 0)) := (TT _ ltFO (by omega)).trans FO.out
     have nFA : V8.heap[w4.heap.size]? = some (.cells #[.string a.f0, .string a.f1] 24 (0, 0)) := (TT _ ltFA (by omega)).trans FA.out
     have nHQ : Kd.R kItem 28 V8 w1.heap.size (fun _ => True) (.slice B s.f1.length d) s.f1 := Kd.R_mono (Kd.R_step (Kd.R_types (HQ.out) FZ.out (by decide)) (fun k hk hlt => TT k hlt (hk.2))) (fun _ hk => hk.1)
     have nHB : Below w.heap.size w V8 := by rw [← hWV8]; exact bel_set (bel_set (HB.out) _ (by show w.heap.size ≤ w.heap.size + 1; first | omega | (simp; omega))) _ (by show w.heap.size ≤ w.heap.size + 1; first | omega | (simp; omega))
     clear zFO cFO_0 cFO_1 zFA cFA_0 cFA_1 zFZ cFZ_0 dFZ_0 cFZ_1 dFZ_1
     clear hWV8 F2 FZ FO FA HB HQ
     have F2 := Aside0.mk nF2
     clear nF2
     have FZ := Aside0.mk nFZ
     clear nFZ
     have FO := Aside0.mk nFO
     clear nFO
     have FA := Aside0.mk nFA
     clear nFA
     have HQ := Aside0.mk nHQ
     clear nHQ
     have HB := Aside0.mk nHB
     clear nHB
     replace HL := Aside0.mk (Nat.le_trans HL.out (by omega : V6.heap.size ≤ V8.heap.size))
     clear TT TS ltF2 ltFZ ltFO ltFA ltb ltl
     have zFO := blk_lt FO.out
     have cFO_0 : V8.cell? ⟨w2.heap.size, 0, none⟩ = some (.int .i64 s.f0) := clq FO.out 0 rfl
     have cFO_1 : V8.cell? ⟨w2.heap.size, 1, none⟩ = some (.slice B s.f1.length d) := clq FO.out 1 rfl
     have zFA := blk_lt FA.out
     have cFA_0 : V8.cell? ⟨w4.heap.size, 0, none⟩ = some (.string a.f0) := clq FA.out 0 rfl
     have cFA_1 : V8.cell? ⟨w4.heap.size, 1, none⟩ = some (.string a.f1) := clq FA.out 1 rfl
     refine hK.out _ _ ?h14 (fun hHeld => ?j14)
     case h14 => exact ⟨cFO_0, cFO_1, cFA_0, cFA_1⟩
     clear hK K
     try simp only [Act.put, List.setIfInBounds_toArray, List.set_cons_zero, List.set_cons_succ]
     refine tk 9 ?v15 ?y15 ?r15
     case y15 => intro w_ hSw; (try dsimp only at hSw); go_simp; (try (with_reducible rfl))
     try simp only [Act.put, List.setIfInBounds_toArray, List.set_cons_zero, List.set_cons_succ]
     refine wpAnyH_done (by kernel_rfl) ?_ _
     have zF2 := blk_lt F2.out
     have cF2_0 : V8.cell? ⟨w.heap.size, 0, none⟩ = some (.int .i64 s.f0) := clq F2.out 0 rfl
     have cF2_1 : V8.cell? ⟨w.heap.size, 1, none⟩ = some (.slice B s.f1.length d) := clq F2.out 1 rfl
     have zFZ := blk_lt FZ.out
     have cFZ_0 : V8.cell? ⟨w.heap.size + 1, 0, none⟩ = some (.string a.f0) := clq FZ.out 0 rfl
     have cFZ_1 : V8.cell? ⟨w.heap.size + 1, 1, none⟩ = some (.string a.f1) := clq FZ.out 1 rfl
     go_wp2
     refine bodyPost_ret (v := .tuple #[.agg #[.int .i64 s.f0, .slice B s.f1.length d], .int .i64 id, .agg #[.string a.f0, .string a.f1], .int .i64 z]) ?hr rfl ?hp
     case hr => simp [results, Tryd.results19, go_sem, zF2, cF2_0, cF2_1, zFZ, cFZ_0, cFZ_1]
     case hp => exact ⟨s, B, d, id, a, z, rfl, HS.out, hid, ha, hz, Kd.R_lower HQ.out HB1.out.size, HB.out⟩

end Go.Proofs.YtiaibgkpohmihaaDoor
