/- A drawn spool, a mail and a time, of bytes: a contract. -/
import Derived.Test.YtiaibgkpohmihaaGreatDoorReg
import Derived.Test.YtiaibgkpohmihaaGreatDoorDrwAnySp
import Derived.Test.YtiaibgkpohmihaaGreatDoorDrwAny2
import Derived.Test.YtiaibgkpohmihaaGreatDoorDrw0
import Derived.Deep.RegionHeld3
namespace Go.Proofs.YtiaibgkpohmihaaGreatDoor
open Go.RowKit Go.Proofs.YtiaibgkpohmihaaGreatDoorW.PrintWords
set_option linter.unusedVariables false
set_option linter.unusedSimpArgs false

set_option maxRecDepth 100000 in
set_option maxHeartbeats 4000000 in
theorem drawSpoolAdd_any (A : Option Addr) (c : Nat) (xs : List Int) (w : World) (hw : fitBytes xs) (hc : xs.length ≤ c) (hr : Kd.C (Kd.int .u8) w A xs.length xs) :
  Calls Tryz.prog 10 #[.slice A xs.length c] w fun e w' => ∃ (s : SSpool) (B : Option Addr) (d : Nat) (x : SMail) (M0 : Option Addr) (m0 : Nat) (M1 : Option Addr) (m1 : Nat) (now : Int), e = .returned (.tuple #[.agg #[.int .i64 s.f0, .slice B s.f1.length d], .agg #[.string x.f0.f0, .string x.f0.f1, .slice M0 x.f1.length m0, .slice M1 x.f2.length m1], .int .i64 now]) ∧ wideS s ∧ midM x ∧ (0 ≤ now ∧ now ≤ 10000) ∧ Kd.R kItem 55 w' w.heap.size (fun _ => True) (.slice B s.f1.length d) s.f1 ∧ Kd.R kAddr 30 w' w.heap.size (fun _ => True) (.slice M0 x.f1.length m0) x.f1 ∧ Kd.R Kd.string 9 w' w.heap.size (fun _ => True) (.slice M1 x.f2.length m1) x.f2 ∧ Below w.heap.size w w' := by
 have ho := fun W (hW : Below w.heap.size w W) => drOpen_any A c xs W hw hc (Kd.C_below hr hW)
 clear hw hc hr
 generalize xs.length = L at ho
 go_enter Tryz.func10, Tryz.ntmps10
 go_wp2_with fail
 refine Calls.mono (ho _ (bel_alloc (bel_alloc (Below.refl _ _) _) _)) ?_
 rintro e w1 ⟨g, rfl, hg, hR, b1⟩
 have hg1 : w.heap.size + 1 < g := by simp at hg; omega
 have f2 : w1.heap[w.heap.size]? = some (.cells #[.int .i64 0, .slice none 0 0] 43 (0, 0)) := below_blk (blk_alloc (blk_new _ _) _) b1
 have fz : w1.heap[w.heap.size + 1]? = some (.cells #[.string ⟨#[]⟩, .string ⟨#[]⟩, .slice none 0 0, .slice none 0 0] 33 (0, 0)) := below_blk (blk_at _ _ (by simp)) b1
 have B1 : Below w.heap.size w w1 := bel_then (bel_alloc (bel_alloc (Below.refl _ _) _) _) b1
 have hgb : g < w1.heap.size := hR.lt
 clear ho b1 hg
 go_wp2_with fail
 refine Calls.mono (drAnySpool_any g 0 w1 hR (by omega)) ?_
 rintro e w2 ⟨s, B, d, rfl, hs, hq, hR2, hd⟩
 have F2 := Aside0.mk (hd.blk f2 (by omega))
 have FZ := Aside0.mk (hd.blk fz (by omega))
 have HQ := Aside0.mk hq
 have HR := Aside0.mk hR2
 have HD := Aside0.mk hd
 have HS := Lib.hid hs
 have HB1 := Lib.hid B1
 have yw2 := hd.size
 clear hd hR hq hR2 hs B1 f2 fz
 go_wp2_with fail
 generalize hVa : World.alloc w2 _ = w3
 have bV : Below w2.heap.size w2 w3 := by rw [← hVa]; exact bel_alloc (Below.refl _ _) _
 have nFO : Aside0 (w3.heap[w2.heap.size]? = some (.cells #[.int .i64 s.f0, .slice B s.f1.length d] 43 (0, 0))) := ⟨by rw [← hVa]; exact blk_new _ _⟩
 clear hVa
 replace F2 := Aside0.mk (below_blk F2.out bV)
 replace FZ := Aside0.mk (below_blk FZ.out bV)
 replace HQ := Aside0.mk (Kd.R_below HQ.out bV)
 replace HR := Aside0.mk (HR.out.below bV)
 replace HD := Aside0.mk (HD.out.below bV)
 have yw3 := HD.out.size
 have FO := nFO
 clear nFO bV
 have cS_ : w3.cell? ⟨w2.heap.size, 0, none⟩ = some (.int .i64 s.f0) ∧ w3.cell? ⟨w2.heap.size, 1, none⟩ = some (.slice B s.f1.length d) := ⟨by have h_ := FO.out; simp [World.cell?, h_], by have h_ := FO.out; simp [World.cell?, h_]⟩
 refine wp_region_held_drew (S := (fun W => W.cell? ⟨w2.heap.size, 0, none⟩ = some (.int .i64 s.f0) ∧ W.cell? ⟨w2.heap.size, 1, none⟩ = some (.slice B s.f1.length d))) (by kernel_rfl) ?s52 (fun hHeld => ?t52)
 case s52 => exact (show (fun W => W.cell? ⟨w2.heap.size, 0, none⟩ = some (.int .i64 s.f0) ∧ W.cell? ⟨w2.heap.size, 1, none⟩ = some (.slice B s.f1.length d)) w3.drew from cS_)
 clear cS_
 generalize hV0 : World.drew w3 = V0 at hHeld ⊢
 have bV : Below w3.heap.size w3 V0 := by rw [← hV0]; exact drew_below0 w3
 clear hV0
 replace F2 := Aside0.mk (below_blk F2.out bV)
 replace FZ := Aside0.mk (below_blk FZ.out bV)
 replace FO := Aside0.mk (below_blk FO.out bV)
 replace HQ := Aside0.mk (Kd.R_below HQ.out bV)
 replace HR := Aside0.mk (HR.out.below bV)
 replace HD := Aside0.mk (HD.out.below bV)
 have yV0 := HD.out.size
 clear bV
 have zFO := blk_lt FO.out
 have cFO_0 : V0.cell? ⟨w2.heap.size, 0, none⟩ = some (.int .i64 s.f0) := clq FO.out 0 rfl
 have cFO_1 : V0.cell? ⟨w2.heap.size, 1, none⟩ = some (.slice B s.f1.length d) := clq FO.out 1 rfl
 refine tk 0 ?v53 ?y53 ?r53
 case y53 => intro w_ hSw; (try dsimp only at hSw); go_simp; (try (with_reducible rfl))
 try simp only [Act.put, List.setIfInBounds_toArray, List.set_cons_zero, List.set_cons_succ]
 refine tk 1 ?v54 ?y54 ?r54
 case y54 => intro w_ hSw; (try dsimp only at hSw); go_simp; (try (with_reducible rfl))
 try simp only [Act.put, List.setIfInBounds_toArray, List.set_cons_zero, List.set_cons_succ]
 refine tk 3 ?v55 ?y55 ?r55
 case y55 => intro w_ hSw; (try dsimp only at hSw); go_simp; (try (with_reducible rfl))
 try simp only [Act.put, List.setIfInBounds_toArray, List.set_cons_zero, List.set_cons_succ]
 refine rdy (rs := [2, 4]) ?_
 refine rc (fun K hK => ?k56) (rc (fun K hK => ?k57) AllReadyH.nil)
 case k56 =>
  go_simp
  refine Calls.mono (drAnyMail_any g _ V0 HR.out (by omega)) ?_
  rintro e V2 ⟨x, M0, m0, M1, m1, rfl, hmx, r0, r1, hr_, hd_⟩
  clear zFO cFO_0 cFO_1
  replace F2 := Aside0.mk (hd_.blk F2.out (by omega))
  replace FZ := Aside0.mk (hd_.blk FZ.out (by omega))
  replace FO := Aside0.mk (hd_.blk FO.out (by omega))
  replace HQ := Aside0.mk (Dr.R hd_ HQ.out hgb)
  replace HR := Aside0.mk hr_
  replace HD := Aside0.mk (Dr.then_ HD.out hd_)
  have yV2 := HD.out.size
  clear hr_ hd_
  have R0 := Aside0.mk (Kd.R_lower (base' := w1.heap.size) r0 (by omega))
  have R1 := Aside0.mk (Kd.R_lower (base' := w1.heap.size) r1 (by omega))
  have HMX := Lib.hid hmx
  clear r0 r1 hmx
  have zFO := blk_lt FO.out
  have cFO_0 : V2.cell? ⟨w2.heap.size, 0, none⟩ = some (.int .i64 s.f0) := clq FO.out 0 rfl
  have cFO_1 : V2.cell? ⟨w2.heap.size, 1, none⟩ = some (.slice B s.f1.length d) := clq FO.out 1 rfl
  refine hK.out _ _ ?h58 (fun hHeld => ?j58)
  case h58 => exact ⟨cFO_0, cFO_1⟩
  clear hK K
  try simp only [Act.put, List.setIfInBounds_toArray, List.set_cons_zero, List.set_cons_succ]
  refine rdy (rs := [4]) ?_
  refine rc (fun K hK => ?k59) AllReadyH.nil
  case k59 =>
   go_simp
   obtain ⟨gl, hgl⟩ : ∃ q, q = V2.heap.size := ⟨_, rfl⟩
   rw [← hgl]
   have hgl1 : g < gl := by have := HR.out.lt; omega
   generalize hVa : World.alloc V2 _ = V4
   have bV : Below V2.heap.size V2 V4 := by rw [← hVa]; exact bel_alloc (Below.refl _ _) _
   have nFL : Aside0 (V4.heap[gl]? = some (.cells #[.int .i64 0, .int .i64 5, .int .i64 9999, .int .i64 10000] 3 (0, 0))) := ⟨by rw [← hVa, hgl]; exact blk_new _ _⟩
   clear hVa hgl
   clear zFO cFO_0 cFO_1
   replace F2 := Aside0.mk (below_blk F2.out bV)
   replace FZ := Aside0.mk (below_blk FZ.out bV)
   replace FO := Aside0.mk (below_blk FO.out bV)
   replace HQ := Aside0.mk (Kd.R_below HQ.out bV)
   replace R0 := Aside0.mk (Kd.R_below R0.out bV)
   replace R1 := Aside0.mk (Kd.R_below R1.out bV)
   replace HR := Aside0.mk (HR.out.below bV)
   replace HD := Aside0.mk (HD.out.below bV)
   have yV4 := HD.out.size
   have FL := nFL
   clear nFL bV
   have zFO := blk_lt FO.out
   have cFO_0 : V4.cell? ⟨w2.heap.size, 0, none⟩ = some (.int .i64 s.f0) := clq FO.out 0 rfl
   have cFO_1 : V4.cell? ⟨w2.heap.size, 1, none⟩ = some (.slice B s.f1.length d) := clq FO.out 1 rfl
   refine hK.out _ _ ?h60 (fun hHeld => ?j60)
   case h60 => exact ⟨cFO_0, cFO_1⟩
   clear hK K
   try simp only [Act.put, List.setIfInBounds_toArray, List.set_cons_zero, List.set_cons_succ]
   refine rdy (rs := [5]) ?_
   refine rc (fun K hK => ?k61) AllReadyH.nil
   case k61 =>
    go_simp
    refine Calls.mono (one_any (0) 10000 g _ _ _ _ _ _ V4 HR.out (by omega) FL.out (by decide) (by rfl) (by decide) (by decide) (by rfl)) ?_
    rintro e V5 ⟨z, rfl, hz, hr_, hd_⟩
    clear zFO cFO_0 cFO_1
    replace F2 := Aside0.mk (hd_.blk F2.out (by omega))
    replace FZ := Aside0.mk (hd_.blk FZ.out (by omega))
    replace FO := Aside0.mk (hd_.blk FO.out (by omega))
    replace FL := Aside0.mk (hd_.blk FL.out (by omega))
    replace HQ := Aside0.mk (Dr.R hd_ HQ.out hgb)
    replace R0 := Aside0.mk (Dr.R hd_ R0.out hgb)
    replace R1 := Aside0.mk (Dr.R hd_ R1.out hgb)
    replace HR := Aside0.mk hr_
    replace HD := Aside0.mk (Dr.then_ HD.out hd_)
    have yV5 := HD.out.size
    clear hr_ hd_
    have HB := Aside0.mk (show Below w.heap.size w V5 from HB1.out.trans (HD.out.bel (by omega) HB1.out.size))
    have HL : Aside0 (w.heap.size + 2 ≤ V5.heap.size) := ⟨blk_lt FZ.out⟩
    clear HR HD FL
    have zFO := blk_lt FO.out
    have cFO_0 : V5.cell? ⟨w2.heap.size, 0, none⟩ = some (.int .i64 s.f0) := clq FO.out 0 rfl
    have cFO_1 : V5.cell? ⟨w2.heap.size, 1, none⟩ = some (.slice B s.f1.length d) := clq FO.out 1 rfl
    refine hK.out _ _ ?h62 (fun hHeld => ?j62)
    case h62 => exact ⟨cFO_0, cFO_1⟩
    clear hK K
    try simp only [Act.put, List.setIfInBounds_toArray, List.set_cons_zero, List.set_cons_succ]
    refine rdy (rs := [6]) ?_
    refine rc (fun K hK => ?k63) AllReadyH.nil
    case k63 =>
     have zF2 := blk_lt F2.out
     have cF2_0 : V5.cell? ⟨w.heap.size, 0, none⟩ = some (.int .i64 0) := clq F2.out 0 rfl
     have dF2_0 := fzq F2.out 0
     have cF2_1 : V5.cell? ⟨w.heap.size, 1, none⟩ = some (.slice none 0 0) := clq F2.out 1 rfl
     have dF2_1 := fzq F2.out 1
     go_simp
     generalize hWV6 : World.setCell (World.setCell (V5) _ _) _ _ = V6
     have ltF2 := blk_lt F2.out
     have ltFZ := blk_lt FZ.out
     have ltFO := blk_lt FO.out
     have ltb := HB.out.size
     have ltl := HL.out
     have TT : ∀ k, k < V5.heap.size → k ≠ w.heap.size → V6.heap[k]? = V5.heap[k]? := fun k hk n_F2 => by rw [← hWV6]; (with_reducible repeat (first | rfl | refine hp_set ?_ ?_ | refine hp_alloc ?_ ?_ | refine hp_drew ?_)); all_goals (first | (with_reducible rfl) | omega | (dsimp only; omega) | (simp; omega))
     have TS : V5.heap.size + 0 ≤ V6.heap.size := by rw [← hWV6]; simp
     have nF2 : V6.heap[w.heap.size]? = some (.cells #[.int .i64 s.f0, .slice B s.f1.length d] 43 (0, 0)) := by rw [← hWV6]; have h := blk_set1 (blk_set1 (F2.out) 0 (.int .i64 s.f0)) 1 (.slice B s.f1.length d); simpa using h
     have nFZ : V6.heap[w.heap.size + 1]? = some (.cells #[.string ⟨#[]⟩, .string ⟨#[]⟩, .slice none 0 0, .slice none 0 0] 33 (0, 0)) := (TT _ ltFZ (by omega)).trans FZ.out
     have nFO : V6.heap[w2.heap.size]? = some (.cells #[.int .i64 s.f0, .slice B s.f1.length d] 43 (0, 0)) := (TT _ ltFO (by omega)).trans FO.out
     have nHQ : Kd.R kItem 55 V6 w1.heap.size (fun _ => True) (.slice B s.f1.length d) s.f1 := Kd.R_mono (Kd.R_step (Kd.R_types (HQ.out) F2.out (by decide)) (fun k hk hlt => TT k hlt (hk.2))) (fun _ hk => hk.1)
     have nR0 : Kd.R kAddr 30 V6 w1.heap.size (fun _ => True) (.slice M0 x.f1.length m0) x.f1 := R_keepT R0.out rfl (fun k hk ho => TT k hk (fun e => Kd.R_ne R0.out F2.out (by decide) (e ▸ ho)))
     have nR1 : Kd.R Kd.string 9 V6 w1.heap.size (fun _ => True) (.slice M1 x.f2.length m1) x.f2 := R_keepT R1.out rfl (fun k hk ho => TT k hk (fun e => Kd.R_ne R1.out F2.out (by decide) (e ▸ ho)))
     have nHB : Below w.heap.size w V6 := by rw [← hWV6]; exact bel_set (bel_set (HB.out) _ (by show w.heap.size ≤ w.heap.size; first | omega | (simp; omega))) _ (by show w.heap.size ≤ w.heap.size; first | omega | (simp; omega))
     clear zFO cFO_0 cFO_1 zF2 cF2_0 dF2_0 cF2_1 dF2_1
     clear hWV6 F2 FZ FO HB HQ R0 R1
     have F2 := Aside0.mk nF2
     clear nF2
     have FZ := Aside0.mk nFZ
     clear nFZ
     have FO := Aside0.mk nFO
     clear nFO
     have HQ := Aside0.mk nHQ
     clear nHQ
     have R0 := Aside0.mk nR0
     clear nR0
     have R1 := Aside0.mk nR1
     clear nR1
     have HB := Aside0.mk nHB
     clear nHB
     replace HL := Aside0.mk (Nat.le_trans HL.out (by omega : V5.heap.size ≤ V6.heap.size))
     clear TT TS ltF2 ltFZ ltFO ltb ltl
     have zFO := blk_lt FO.out
     have cFO_0 : V6.cell? ⟨w2.heap.size, 0, none⟩ = some (.int .i64 s.f0) := clq FO.out 0 rfl
     have cFO_1 : V6.cell? ⟨w2.heap.size, 1, none⟩ = some (.slice B s.f1.length d) := clq FO.out 1 rfl
     refine hK.out _ _ ?h64 (fun hHeld => ?j64)
     case h64 => exact ⟨cFO_0, cFO_1⟩
     clear hK K
     try simp only [Act.put, List.setIfInBounds_toArray, List.set_cons_zero, List.set_cons_succ]
     refine rdy (rs := [7]) ?_
     refine rc (fun K hK => ?k65) AllReadyH.nil
     case k65 =>
      have zFZ := blk_lt FZ.out
      have cFZ_0 : V6.cell? ⟨w.heap.size + 1, 0, none⟩ = some (.string ⟨#[]⟩) := clq FZ.out 0 rfl
      have dFZ_0 := fzq FZ.out 0
      have cFZ_1 : V6.cell? ⟨w.heap.size + 1, 1, none⟩ = some (.string ⟨#[]⟩) := clq FZ.out 1 rfl
      have dFZ_1 := fzq FZ.out 1
      have cFZ_2 : V6.cell? ⟨w.heap.size + 1, 2, none⟩ = some (.slice none 0 0) := clq FZ.out 2 rfl
      have dFZ_2 := fzq FZ.out 2
      have cFZ_3 : V6.cell? ⟨w.heap.size + 1, 3, none⟩ = some (.slice none 0 0) := clq FZ.out 3 rfl
      have dFZ_3 := fzq FZ.out 3
      go_simp
      generalize hWV7 : World.setCell (World.setCell (World.setCell (World.setCell (V6) _ _) _ _) _ _) _ _ = V7
      have ltF2 := blk_lt F2.out
      have ltFZ := blk_lt FZ.out
      have ltFO := blk_lt FO.out
      have ltb := HB.out.size
      have ltl := HL.out
      have TT : ∀ k, k < V6.heap.size → k ≠ w.heap.size + 1 → V7.heap[k]? = V6.heap[k]? := fun k hk n_FZ => by rw [← hWV7]; (with_reducible repeat (first | rfl | refine hp_set ?_ ?_ | refine hp_alloc ?_ ?_ | refine hp_drew ?_)); all_goals (first | (with_reducible rfl) | omega | (dsimp only; omega) | (simp; omega))
      have TS : V6.heap.size + 0 ≤ V7.heap.size := by rw [← hWV7]; simp
      have nF2 : V7.heap[w.heap.size]? = some (.cells #[.int .i64 s.f0, .slice B s.f1.length d] 43 (0, 0)) := (TT _ ltF2 (by omega)).trans F2.out
      have nFZ : V7.heap[w.heap.size + 1]? = some (.cells #[.string x.f0.f0, .string x.f0.f1, .slice M0 x.f1.length m0, .slice M1 x.f2.length m1] 33 (0, 0)) := by rw [← hWV7]; have h := blk_set1 (blk_set1 (blk_set1 (blk_set1 (FZ.out) 0 (.string x.f0.f0)) 1 (.string x.f0.f1)) 2 (.slice M0 x.f1.length m0)) 3 (.slice M1 x.f2.length m1); simpa using h
      have nFO : V7.heap[w2.heap.size]? = some (.cells #[.int .i64 s.f0, .slice B s.f1.length d] 43 (0, 0)) := (TT _ ltFO (by omega)).trans FO.out
      have nHQ : Kd.R kItem 55 V7 w1.heap.size (fun _ => True) (.slice B s.f1.length d) s.f1 := Kd.R_mono (Kd.R_step (Kd.R_types (HQ.out) FZ.out (by decide)) (fun k hk hlt => TT k hlt (hk.2))) (fun _ hk => hk.1)
      have nR0 : Kd.R kAddr 30 V7 w1.heap.size (fun _ => True) (.slice M0 x.f1.length m0) x.f1 := R_keepT R0.out rfl (fun k hk ho => TT k hk (fun e => Kd.R_ne R0.out FZ.out (by decide) (e ▸ ho)))
      have nR1 : Kd.R Kd.string 9 V7 w1.heap.size (fun _ => True) (.slice M1 x.f2.length m1) x.f2 := R_keepT R1.out rfl (fun k hk ho => TT k hk (fun e => Kd.R_ne R1.out FZ.out (by decide) (e ▸ ho)))
      have nHB : Below w.heap.size w V7 := by rw [← hWV7]; exact bel_set (bel_set (bel_set (bel_set (HB.out) _ (by show w.heap.size ≤ w.heap.size + 1; first | omega | (simp; omega))) _ (by show w.heap.size ≤ w.heap.size + 1; first | omega | (simp; omega))) _ (by show w.heap.size ≤ w.heap.size + 1; first | omega | (simp; omega))) _ (by show w.heap.size ≤ w.heap.size + 1; first | omega | (simp; omega))
      clear zFO cFO_0 cFO_1 zFZ cFZ_0 dFZ_0 cFZ_1 dFZ_1 cFZ_2 dFZ_2 cFZ_3 dFZ_3
      clear hWV7 F2 FZ FO HB HQ R0 R1
      have F2 := Aside0.mk nF2
      clear nF2
      have FZ := Aside0.mk nFZ
      clear nFZ
      have FO := Aside0.mk nFO
      clear nFO
      have HQ := Aside0.mk nHQ
      clear nHQ
      have R0 := Aside0.mk nR0
      clear nR0
      have R1 := Aside0.mk nR1
      clear nR1
      have HB := Aside0.mk nHB
      clear nHB
      replace HL := Aside0.mk (Nat.le_trans HL.out (by omega : V6.heap.size ≤ V7.heap.size))
      clear TT TS ltF2 ltFZ ltFO ltb ltl
      have zFO := blk_lt FO.out
      have cFO_0 : V7.cell? ⟨w2.heap.size, 0, none⟩ = some (.int .i64 s.f0) := clq FO.out 0 rfl
      have cFO_1 : V7.cell? ⟨w2.heap.size, 1, none⟩ = some (.slice B s.f1.length d) := clq FO.out 1 rfl
      refine hK.out _ _ ?h66 (fun hHeld => ?j66)
      case h66 => exact ⟨cFO_0, cFO_1⟩
      clear hK K
      try simp only [Act.put, List.setIfInBounds_toArray, List.set_cons_zero, List.set_cons_succ]
      refine tk 8 ?v67 ?y67 ?r67
      case y67 => intro w_ hSw; (try dsimp only at hSw); go_simp; (try (with_reducible rfl))
      try simp only [Act.put, List.setIfInBounds_toArray, List.set_cons_zero, List.set_cons_succ]
      refine wpAnyH_done (by kernel_rfl) ?_ _
      have zF2 := blk_lt F2.out
      have cF2_0 : V7.cell? ⟨w.heap.size, 0, none⟩ = some (.int .i64 s.f0) := clq F2.out 0 rfl
      have cF2_1 : V7.cell? ⟨w.heap.size, 1, none⟩ = some (.slice B s.f1.length d) := clq F2.out 1 rfl
      have zFZ := blk_lt FZ.out
      have cFZ_0 : V7.cell? ⟨w.heap.size + 1, 0, none⟩ = some (.string x.f0.f0) := clq FZ.out 0 rfl
      have cFZ_1 : V7.cell? ⟨w.heap.size + 1, 1, none⟩ = some (.string x.f0.f1) := clq FZ.out 1 rfl
      have cFZ_2 : V7.cell? ⟨w.heap.size + 1, 2, none⟩ = some (.slice M0 x.f1.length m0) := clq FZ.out 2 rfl
      have cFZ_3 : V7.cell? ⟨w.heap.size + 1, 3, none⟩ = some (.slice M1 x.f2.length m1) := clq FZ.out 3 rfl
      go_wp2
      refine bodyPost_ret (v := .tuple #[.agg #[.int .i64 s.f0, .slice B s.f1.length d], .agg #[.string x.f0.f0, .string x.f0.f1, .slice M0 x.f1.length m0, .slice M1 x.f2.length m1], .int .i64 z]) ?hr rfl ?hp
      case hr => simp [results, Tryz.results10, go_sem, zF2, cF2_0, cF2_1, zFZ, cFZ_0, cFZ_1, cFZ_2, cFZ_3]
      case hp => exact ⟨s, B, d, x, M0, m0, M1, m1, z, rfl, HS.out, HMX.out, hz, Kd.R_lower HQ.out HB1.out.size, Kd.R_lower R0.out HB1.out.size, Kd.R_lower R1.out HB1.out.size, HB.out⟩
 case k57 =>
  go_simp
  obtain ⟨gl, hgl⟩ : ∃ q, q = V0.heap.size := ⟨_, rfl⟩
  rw [← hgl]
  have hgl1 : g < gl := by have := HR.out.lt; omega
  generalize hVa : World.alloc V0 _ = V4
  have bV : Below V0.heap.size V0 V4 := by rw [← hVa]; exact bel_alloc (Below.refl _ _) _
  have nFL : Aside0 (V4.heap[gl]? = some (.cells #[.int .i64 0, .int .i64 5, .int .i64 9999, .int .i64 10000] 3 (0, 0))) := ⟨by rw [← hVa, hgl]; exact blk_new _ _⟩
  clear hVa hgl
  clear zFO cFO_0 cFO_1
  replace F2 := Aside0.mk (below_blk F2.out bV)
  replace FZ := Aside0.mk (below_blk FZ.out bV)
  replace FO := Aside0.mk (below_blk FO.out bV)
  replace HQ := Aside0.mk (Kd.R_below HQ.out bV)
  replace HR := Aside0.mk (HR.out.below bV)
  replace HD := Aside0.mk (HD.out.below bV)
  have yV4 := HD.out.size
  have FL := nFL
  clear nFL bV
  have zFO := blk_lt FO.out
  have cFO_0 : V4.cell? ⟨w2.heap.size, 0, none⟩ = some (.int .i64 s.f0) := clq FO.out 0 rfl
  have cFO_1 : V4.cell? ⟨w2.heap.size, 1, none⟩ = some (.slice B s.f1.length d) := clq FO.out 1 rfl
  refine hK.out _ _ ?h68 (fun hHeld => ?j68)
  case h68 => exact ⟨cFO_0, cFO_1⟩
  clear hK K
  try simp only [Act.put, List.setIfInBounds_toArray, List.set_cons_zero, List.set_cons_succ]
  refine rdy (rs := [2]) ?_
  refine rc (fun K hK => ?k69) AllReadyH.nil
  case k69 =>
   go_simp
   refine Calls.mono (drAnyMail_any g _ V4 HR.out (by omega)) ?_
   rintro e V2 ⟨x, M0, m0, M1, m1, rfl, hmx, r0, r1, hr_, hd_⟩
   clear zFO cFO_0 cFO_1
   replace F2 := Aside0.mk (hd_.blk F2.out (by omega))
   replace FZ := Aside0.mk (hd_.blk FZ.out (by omega))
   replace FO := Aside0.mk (hd_.blk FO.out (by omega))
   replace FL := Aside0.mk (hd_.blk FL.out (by omega))
   replace HQ := Aside0.mk (Dr.R hd_ HQ.out hgb)
   replace HR := Aside0.mk hr_
   replace HD := Aside0.mk (Dr.then_ HD.out hd_)
   have yV2 := HD.out.size
   clear hr_ hd_
   have R0 := Aside0.mk (Kd.R_lower (base' := w1.heap.size) r0 (by omega))
   have R1 := Aside0.mk (Kd.R_lower (base' := w1.heap.size) r1 (by omega))
   have HMX := Lib.hid hmx
   clear r0 r1 hmx
   have zFO := blk_lt FO.out
   have cFO_0 : V2.cell? ⟨w2.heap.size, 0, none⟩ = some (.int .i64 s.f0) := clq FO.out 0 rfl
   have cFO_1 : V2.cell? ⟨w2.heap.size, 1, none⟩ = some (.slice B s.f1.length d) := clq FO.out 1 rfl
   refine hK.out _ _ ?h70 (fun hHeld => ?j70)
   case h70 => exact ⟨cFO_0, cFO_1⟩
   clear hK K
   try simp only [Act.put, List.setIfInBounds_toArray, List.set_cons_zero, List.set_cons_succ]
   refine rdy (rs := [5]) ?_
   refine rc (fun K hK => ?k71) AllReadyH.nil
   case k71 =>
    go_simp
    refine Calls.mono (one_any (0) 10000 g _ _ _ _ _ _ V2 HR.out (by omega) FL.out (by decide) (by rfl) (by decide) (by decide) (by rfl)) ?_
    rintro e V5 ⟨z, rfl, hz, hr_, hd_⟩
    clear zFO cFO_0 cFO_1
    replace F2 := Aside0.mk (hd_.blk F2.out (by omega))
    replace FZ := Aside0.mk (hd_.blk FZ.out (by omega))
    replace FO := Aside0.mk (hd_.blk FO.out (by omega))
    replace FL := Aside0.mk (hd_.blk FL.out (by omega))
    replace HQ := Aside0.mk (Dr.R hd_ HQ.out hgb)
    replace R0 := Aside0.mk (Dr.R hd_ R0.out hgb)
    replace R1 := Aside0.mk (Dr.R hd_ R1.out hgb)
    replace HR := Aside0.mk hr_
    replace HD := Aside0.mk (Dr.then_ HD.out hd_)
    have yV5 := HD.out.size
    clear hr_ hd_
    have HB := Aside0.mk (show Below w.heap.size w V5 from HB1.out.trans (HD.out.bel (by omega) HB1.out.size))
    have HL : Aside0 (w.heap.size + 2 ≤ V5.heap.size) := ⟨blk_lt FZ.out⟩
    clear HR HD FL
    have zFO := blk_lt FO.out
    have cFO_0 : V5.cell? ⟨w2.heap.size, 0, none⟩ = some (.int .i64 s.f0) := clq FO.out 0 rfl
    have cFO_1 : V5.cell? ⟨w2.heap.size, 1, none⟩ = some (.slice B s.f1.length d) := clq FO.out 1 rfl
    refine hK.out _ _ ?h72 (fun hHeld => ?j72)
    case h72 => exact ⟨cFO_0, cFO_1⟩
    clear hK K
    try simp only [Act.put, List.setIfInBounds_toArray, List.set_cons_zero, List.set_cons_succ]
    refine rdy (rs := [6]) ?_
    refine rc (fun K hK => ?k73) AllReadyH.nil
    case k73 =>
     have zF2 := blk_lt F2.out
     have cF2_0 : V5.cell? ⟨w.heap.size, 0, none⟩ = some (.int .i64 0) := clq F2.out 0 rfl
     have dF2_0 := fzq F2.out 0
     have cF2_1 : V5.cell? ⟨w.heap.size, 1, none⟩ = some (.slice none 0 0) := clq F2.out 1 rfl
     have dF2_1 := fzq F2.out 1
     go_simp
     generalize hWV6 : World.setCell (World.setCell (V5) _ _) _ _ = V6
     have ltF2 := blk_lt F2.out
     have ltFZ := blk_lt FZ.out
     have ltFO := blk_lt FO.out
     have ltb := HB.out.size
     have ltl := HL.out
     have TT : ∀ k, k < V5.heap.size → k ≠ w.heap.size → V6.heap[k]? = V5.heap[k]? := fun k hk n_F2 => by rw [← hWV6]; (with_reducible repeat (first | rfl | refine hp_set ?_ ?_ | refine hp_alloc ?_ ?_ | refine hp_drew ?_)); all_goals (first | (with_reducible rfl) | omega | (dsimp only; omega) | (simp; omega))
     have TS : V5.heap.size + 0 ≤ V6.heap.size := by rw [← hWV6]; simp
     have nF2 : V6.heap[w.heap.size]? = some (.cells #[.int .i64 s.f0, .slice B s.f1.length d] 43 (0, 0)) := by rw [← hWV6]; have h := blk_set1 (blk_set1 (F2.out) 0 (.int .i64 s.f0)) 1 (.slice B s.f1.length d); simpa using h
     have nFZ : V6.heap[w.heap.size + 1]? = some (.cells #[.string ⟨#[]⟩, .string ⟨#[]⟩, .slice none 0 0, .slice none 0 0] 33 (0, 0)) := (TT _ ltFZ (by omega)).trans FZ.out
     have nFO : V6.heap[w2.heap.size]? = some (.cells #[.int .i64 s.f0, .slice B s.f1.length d] 43 (0, 0)) := (TT _ ltFO (by omega)).trans FO.out
     have nHQ : Kd.R kItem 55 V6 w1.heap.size (fun _ => True) (.slice B s.f1.length d) s.f1 := Kd.R_mono (Kd.R_step (Kd.R_types (HQ.out) F2.out (by decide)) (fun k hk hlt => TT k hlt (hk.2))) (fun _ hk => hk.1)
     have nR0 : Kd.R kAddr 30 V6 w1.heap.size (fun _ => True) (.slice M0 x.f1.length m0) x.f1 := R_keepT R0.out rfl (fun k hk ho => TT k hk (fun e => Kd.R_ne R0.out F2.out (by decide) (e ▸ ho)))
     have nR1 : Kd.R Kd.string 9 V6 w1.heap.size (fun _ => True) (.slice M1 x.f2.length m1) x.f2 := R_keepT R1.out rfl (fun k hk ho => TT k hk (fun e => Kd.R_ne R1.out F2.out (by decide) (e ▸ ho)))
     have nHB : Below w.heap.size w V6 := by rw [← hWV6]; exact bel_set (bel_set (HB.out) _ (by show w.heap.size ≤ w.heap.size; first | omega | (simp; omega))) _ (by show w.heap.size ≤ w.heap.size; first | omega | (simp; omega))
     clear zFO cFO_0 cFO_1 zF2 cF2_0 dF2_0 cF2_1 dF2_1
     clear hWV6 F2 FZ FO HB HQ R0 R1
     have F2 := Aside0.mk nF2
     clear nF2
     have FZ := Aside0.mk nFZ
     clear nFZ
     have FO := Aside0.mk nFO
     clear nFO
     have HQ := Aside0.mk nHQ
     clear nHQ
     have R0 := Aside0.mk nR0
     clear nR0
     have R1 := Aside0.mk nR1
     clear nR1
     have HB := Aside0.mk nHB
     clear nHB
     replace HL := Aside0.mk (Nat.le_trans HL.out (by omega : V5.heap.size ≤ V6.heap.size))
     clear TT TS ltF2 ltFZ ltFO ltb ltl
     have zFO := blk_lt FO.out
     have cFO_0 : V6.cell? ⟨w2.heap.size, 0, none⟩ = some (.int .i64 s.f0) := clq FO.out 0 rfl
     have cFO_1 : V6.cell? ⟨w2.heap.size, 1, none⟩ = some (.slice B s.f1.length d) := clq FO.out 1 rfl
     refine hK.out _ _ ?h74 (fun hHeld => ?j74)
     case h74 => exact ⟨cFO_0, cFO_1⟩
     clear hK K
     try simp only [Act.put, List.setIfInBounds_toArray, List.set_cons_zero, List.set_cons_succ]
     refine rdy (rs := [7]) ?_
     refine rc (fun K hK => ?k75) AllReadyH.nil
     case k75 =>
      have zFZ := blk_lt FZ.out
      have cFZ_0 : V6.cell? ⟨w.heap.size + 1, 0, none⟩ = some (.string ⟨#[]⟩) := clq FZ.out 0 rfl
      have dFZ_0 := fzq FZ.out 0
      have cFZ_1 : V6.cell? ⟨w.heap.size + 1, 1, none⟩ = some (.string ⟨#[]⟩) := clq FZ.out 1 rfl
      have dFZ_1 := fzq FZ.out 1
      have cFZ_2 : V6.cell? ⟨w.heap.size + 1, 2, none⟩ = some (.slice none 0 0) := clq FZ.out 2 rfl
      have dFZ_2 := fzq FZ.out 2
      have cFZ_3 : V6.cell? ⟨w.heap.size + 1, 3, none⟩ = some (.slice none 0 0) := clq FZ.out 3 rfl
      have dFZ_3 := fzq FZ.out 3
      go_simp
      generalize hWV7 : World.setCell (World.setCell (World.setCell (World.setCell (V6) _ _) _ _) _ _) _ _ = V7
      have ltF2 := blk_lt F2.out
      have ltFZ := blk_lt FZ.out
      have ltFO := blk_lt FO.out
      have ltb := HB.out.size
      have ltl := HL.out
      have TT : ∀ k, k < V6.heap.size → k ≠ w.heap.size + 1 → V7.heap[k]? = V6.heap[k]? := fun k hk n_FZ => by rw [← hWV7]; (with_reducible repeat (first | rfl | refine hp_set ?_ ?_ | refine hp_alloc ?_ ?_ | refine hp_drew ?_)); all_goals (first | (with_reducible rfl) | omega | (dsimp only; omega) | (simp; omega))
      have TS : V6.heap.size + 0 ≤ V7.heap.size := by rw [← hWV7]; simp
      have nF2 : V7.heap[w.heap.size]? = some (.cells #[.int .i64 s.f0, .slice B s.f1.length d] 43 (0, 0)) := (TT _ ltF2 (by omega)).trans F2.out
      have nFZ : V7.heap[w.heap.size + 1]? = some (.cells #[.string x.f0.f0, .string x.f0.f1, .slice M0 x.f1.length m0, .slice M1 x.f2.length m1] 33 (0, 0)) := by rw [← hWV7]; have h := blk_set1 (blk_set1 (blk_set1 (blk_set1 (FZ.out) 0 (.string x.f0.f0)) 1 (.string x.f0.f1)) 2 (.slice M0 x.f1.length m0)) 3 (.slice M1 x.f2.length m1); simpa using h
      have nFO : V7.heap[w2.heap.size]? = some (.cells #[.int .i64 s.f0, .slice B s.f1.length d] 43 (0, 0)) := (TT _ ltFO (by omega)).trans FO.out
      have nHQ : Kd.R kItem 55 V7 w1.heap.size (fun _ => True) (.slice B s.f1.length d) s.f1 := Kd.R_mono (Kd.R_step (Kd.R_types (HQ.out) FZ.out (by decide)) (fun k hk hlt => TT k hlt (hk.2))) (fun _ hk => hk.1)
      have nR0 : Kd.R kAddr 30 V7 w1.heap.size (fun _ => True) (.slice M0 x.f1.length m0) x.f1 := R_keepT R0.out rfl (fun k hk ho => TT k hk (fun e => Kd.R_ne R0.out FZ.out (by decide) (e ▸ ho)))
      have nR1 : Kd.R Kd.string 9 V7 w1.heap.size (fun _ => True) (.slice M1 x.f2.length m1) x.f2 := R_keepT R1.out rfl (fun k hk ho => TT k hk (fun e => Kd.R_ne R1.out FZ.out (by decide) (e ▸ ho)))
      have nHB : Below w.heap.size w V7 := by rw [← hWV7]; exact bel_set (bel_set (bel_set (bel_set (HB.out) _ (by show w.heap.size ≤ w.heap.size + 1; first | omega | (simp; omega))) _ (by show w.heap.size ≤ w.heap.size + 1; first | omega | (simp; omega))) _ (by show w.heap.size ≤ w.heap.size + 1; first | omega | (simp; omega))) _ (by show w.heap.size ≤ w.heap.size + 1; first | omega | (simp; omega))
      clear zFO cFO_0 cFO_1 zFZ cFZ_0 dFZ_0 cFZ_1 dFZ_1 cFZ_2 dFZ_2 cFZ_3 dFZ_3
      clear hWV7 F2 FZ FO HB HQ R0 R1
      have F2 := Aside0.mk nF2
      clear nF2
      have FZ := Aside0.mk nFZ
      clear nFZ
      have FO := Aside0.mk nFO
      clear nFO
      have HQ := Aside0.mk nHQ
      clear nHQ
      have R0 := Aside0.mk nR0
      clear nR0
      have R1 := Aside0.mk nR1
      clear nR1
      have HB := Aside0.mk nHB
      clear nHB
      replace HL := Aside0.mk (Nat.le_trans HL.out (by omega : V6.heap.size ≤ V7.heap.size))
      clear TT TS ltF2 ltFZ ltFO ltb ltl
      have zFO := blk_lt FO.out
      have cFO_0 : V7.cell? ⟨w2.heap.size, 0, none⟩ = some (.int .i64 s.f0) := clq FO.out 0 rfl
      have cFO_1 : V7.cell? ⟨w2.heap.size, 1, none⟩ = some (.slice B s.f1.length d) := clq FO.out 1 rfl
      refine hK.out _ _ ?h76 (fun hHeld => ?j76)
      case h76 => exact ⟨cFO_0, cFO_1⟩
      clear hK K
      try simp only [Act.put, List.setIfInBounds_toArray, List.set_cons_zero, List.set_cons_succ]
      refine tk 8 ?v77 ?y77 ?r77
      case y77 => intro w_ hSw; (try dsimp only at hSw); go_simp; (try (with_reducible rfl))
      try simp only [Act.put, List.setIfInBounds_toArray, List.set_cons_zero, List.set_cons_succ]
      refine wpAnyH_done (by kernel_rfl) ?_ _
      have zF2 := blk_lt F2.out
      have cF2_0 : V7.cell? ⟨w.heap.size, 0, none⟩ = some (.int .i64 s.f0) := clq F2.out 0 rfl
      have cF2_1 : V7.cell? ⟨w.heap.size, 1, none⟩ = some (.slice B s.f1.length d) := clq F2.out 1 rfl
      have zFZ := blk_lt FZ.out
      have cFZ_0 : V7.cell? ⟨w.heap.size + 1, 0, none⟩ = some (.string x.f0.f0) := clq FZ.out 0 rfl
      have cFZ_1 : V7.cell? ⟨w.heap.size + 1, 1, none⟩ = some (.string x.f0.f1) := clq FZ.out 1 rfl
      have cFZ_2 : V7.cell? ⟨w.heap.size + 1, 2, none⟩ = some (.slice M0 x.f1.length m0) := clq FZ.out 2 rfl
      have cFZ_3 : V7.cell? ⟨w.heap.size + 1, 3, none⟩ = some (.slice M1 x.f2.length m1) := clq FZ.out 3 rfl
      go_wp2
      refine bodyPost_ret (v := .tuple #[.agg #[.int .i64 s.f0, .slice B s.f1.length d], .agg #[.string x.f0.f0, .string x.f0.f1, .slice M0 x.f1.length m0, .slice M1 x.f2.length m1], .int .i64 z]) ?hr rfl ?hp
      case hr => simp [results, Tryz.results10, go_sem, zF2, cF2_0, cF2_1, zFZ, cFZ_0, cFZ_1, cFZ_2, cFZ_3]
      case hp => exact ⟨s, B, d, x, M0, m0, M1, m1, z, rfl, HS.out, HMX.out, hz, Kd.R_lower HQ.out HB1.out.size, Kd.R_lower R0.out HB1.out.size, Kd.R_lower R1.out HB1.out.size, HB.out⟩

end Go.Proofs.YtiaibgkpohmihaaGreatDoor
