/- Copies of spools, of the program: a contract. -/
import Derived.Test.YtiaibgkpohmihaaGreatDoorReg
import Derived.Test.YtiaibgkpohmihaaGreatDoorCpItem
import Derived.Test.YtiaibgkpohmihaaGreatDoorSpoolD
namespace Go.Proofs.YtiaibgkpohmihaaGreatDoor
open Go.RowKit Go.Proofs.YtiaibgkpohmihaaGreatDoorW.PrintWords
set_option linter.unusedVariables false
set_option linter.unusedSimpArgs false

set_option maxRecDepth 100000 in
set_option maxHeartbeats 4000000 in
theorem spoolCopied_any (s : SSpool) (A0 : Option Addr) (c0 : Nat) (w : World) (hw : fitSpool s) (hr0 : Kd.C kItem w A0 s.f1.length s.f1) :
  Calls Tryz.prog 29 #[.agg #[.int .i64 s.f0, .slice A0 s.f1.length c0]] w fun e w' => ∃ B d, e = .returned (.agg #[.int .i64 s.f0, .slice B s.f1.length d]) ∧ Kd.S kItem 55 w' w.heap.size (fun _ => True) (.slice B s.f1.length d) s.f1 ∧ Below w.heap.size w w' := by
 obtain ⟨hw0, hlen, hx⟩ := hw
 have HX := Lib.hid hx
 clear hx
 go_enter Tryz.func29, Tryz.ntmps29
 go_wp2
 obtain ⟨W0, hW0⟩ : ∃ W, W = ((w.alloc (.cells #[.int .i64 s.f0, .slice A0 s.f1.length c0] 43)).alloc (.cells #[.int .i64 0, .slice none 0 0] 43)) := ⟨_, rfl⟩
 rw [← hW0]
 have HB : Aside0 (Below w.heap.size w W0) := ⟨by rw [hW0]; exact (bel_alloc (bel_alloc (Below.refl _ _) _) _)⟩
 have F0 : Aside0 (W0.heap[w.heap.size]? = some (.cells #[.int .i64 s.f0, .slice A0 s.f1.length c0] 43 (0, 0))) := ⟨by rw [hW0]; exact blk_alloc (blk_at _ _ (by first | rfl | (simp; done))) _⟩
 have F2 : Aside0 (W0.heap[w.heap.size + 1]? = some (.cells #[.int .i64 0, .slice none 0 0] 43 (0, 0))) := ⟨by rw [hW0]; exact blk_at _ _ (by simp)⟩
 have HL : Aside0 (w.heap.size + 2 ≤ W0.heap.size) := ⟨by rw [hW0]; simp⟩
 clear hW0
 go_loopg [3, 9] (s.f1.length) (fun g v3 v9 wr => ∃ (i : Nat) (Ao : Option Addr) (co : Nat), i ≤ s.f1.length ∧ s.f1.length - i ≤ g ∧ v9 = .int .i64 i ∧ v3 = .slice Ao (s.f1.take i).length co ∧ Aside0 (Below w.heap.size w wr) ∧ Aside0 (wr.heap[w.heap.size]? = some (.cells #[.int .i64 s.f0, .slice A0 s.f1.length c0] 43 (0, 0))) ∧ Aside0 (wr.heap[w.heap.size + 1]? = some (.cells #[.int .i64 0, .slice none 0 0] 43 (0, 0))) ∧ Aside0 (Kd.S kItem 55 wr w.heap.size (fun _ => True) (.slice Ao (s.f1.take i).length co) (s.f1.take i)))
 case atStart => exact ⟨0, none, 0, Nat.zero_le _, by omega, rfl, rfl, HB, F0, F2, ⟨Kd.S_nil _ _ _ _ _⟩⟩
 case round =>
  clear HB F0 F2 HL
  obtain ⟨i, Ao, co, hi, hg, rfl, rfl, HB, F0, F2, HO⟩ := hrel
  by_cases hlt : i < s.f1.length
  ·have hlt' : (i : Int) < (s.f1.length : Int) := by omega
   obtain ⟨ad, Q0, qc0, Q1, qc1, e1, p0, p1, p2, p3, p4, l0, k0, l1, k1⟩ := at_Item hr0 i hlt
   subst e1
   have hm := HX.out (s.f1.getD i zItem) (getD_mem _ _ hlt)
   have hnx : s.f1.take (i + 1) = s.f1.take i ++ [s.f1.getD i zItem] := by rw [List.take_succ_eq_append_getElem hlt, List.getD, List.getElem?_eq_getElem hlt]; rfl
   have hln : (s.f1.take i).length = i := by rw [List.length_take]; omega
   generalize s.f1.getD i zItem = y at p0 p1 p2 p3 p4 l0 k0 l1 k1 hm hnx
   generalize s.f1.take i = ys at HO hnx hln ⊢
   have HN := Lib.hid hnx
   have HLN := Lib.hid hln
   have HM := Lib.hid hm
   have K0 := Aside0.mk k0
   have K1 := Aside0.mk k1
   have HWR := Aside0.mk HB.out.size
   have HE : Aside0 (∀ W, Below w.heap.size w W → W.cell? (ad.add (i * 5)) = some (.int .i64 y.f0) ∧ W.cell? ⟨(ad.add (i * 5)).block, (ad.add (i * 5)).off + 1, none⟩ = some (.string y.f1.f0) ∧ W.cell? ⟨(ad.add (i * 5)).block, (ad.add (i * 5)).off + 2, none⟩ = some (.string y.f1.f1) ∧ W.cell? ⟨(ad.add (i * 5)).block, (ad.add (i * 5)).off + 3, none⟩ = some (.slice Q0 y.f2.length qc0) ∧ W.cell? ⟨(ad.add (i * 5)).block, (ad.add (i * 5)).off + 4, none⟩ = some (.slice Q1 y.f3.length qc1)) := ⟨fun W h => ⟨(h.cell (World.block_lt_of_cell? _ _ p0)).trans p0, (h.cell (World.block_lt_of_cell? _ _ p1)).trans p1, (h.cell (World.block_lt_of_cell? _ _ p2)).trans p2, (h.cell (World.block_lt_of_cell? _ _ p3)).trans p3, (h.cell (World.block_lt_of_cell? _ _ p4)).trans p4⟩⟩
   clear hnx k0 k1 l0 l1 hln hm p0 p1 p2 p3 p4
   obtain ⟨c5_0, c5_1, c5_2, c5_3, c5_4⟩ := HE.out _ HB.out
   replace HO : Aside0 (Kd.S kItem 55 wr w.heap.size (fun k => k < wr.heap.size) (.slice Ao ys.length co) ys) := ⟨Kd.S_mono (Kd.S_bound HO.out) (fun k hk => hk.2.2.1)⟩
   have HL : Aside0 (w.heap.size + 2 ≤ wr.heap.size) := ⟨by have := blk_lt F2.out; omega⟩
   go_wp2_with fail
   clear c5_0 c5_1 c5_2 c5_3 c5_4
   generalize hWwb : World.alloc (wr) _ = wb
   have ltF0 := blk_lt F0.out
   have ltF2 := blk_lt F2.out
   have ltb := HB.out.size
   have ltl := HL.out
   have TT : ∀ k, k < wr.heap.size → wb.heap[k]? = wr.heap[k]? := fun k hk => by rw [← hWwb]; (with_reducible repeat (first | rfl | refine hp_set ?_ ?_ | refine hp_alloc ?_ ?_ | refine hp_drew ?_)); all_goals (first | (with_reducible rfl) | omega | (dsimp only; omega) | (simp; omega))
   have TS : wr.heap.size + 1 ≤ wb.heap.size := by rw [← hWwb]; simp
   have nF0 : wb.heap[w.heap.size]? = some (.cells #[.int .i64 s.f0, .slice (some ad) s.f1.length c0] 43 (0, 0)) := (TT _ ltF0).trans F0.out
   have nF2 : wb.heap[w.heap.size + 1]? = some (.cells #[.int .i64 0, .slice none 0 0] 43 (0, 0)) := (TT _ ltF2).trans F2.out
   have nFB : wb.heap[wr.heap.size]? = some (.cells #[.int .i64 y.f0, .string y.f1.f0, .string y.f1.f1, .slice Q0 y.f2.length qc0, .slice Q1 y.f3.length qc1] 55 (0, 0)) := by rw [← hWwb]; exact blk_new wr (.cells #[.int .i64 y.f0, .string y.f1.f0, .string y.f1.f1, .slice Q0 y.f2.length qc0, .slice Q1 y.f3.length qc1] 55)
   have nHO : Kd.S kItem 55 wb w.heap.size (fun k => k < wr.heap.size) (.slice Ao ys.length co) ys := Kd.S_step HO.out (fun k hk hlt => TT k hlt)
   have nHB : Below w.heap.size w wb := by rw [← hWwb]; exact bel_alloc (HB.out) _
   clear hWwb F0 F2 HB HO
   have F0 := Aside0.mk nF0
   clear nF0
   have F2 := Aside0.mk nF2
   clear nF2
   have FB := Aside0.mk nFB
   clear nFB
   have HO := Aside0.mk nHO
   clear nHO
   have HB := Aside0.mk nHB
   clear nHB
   have oFB_ltF0 := ltF0
   have oFB_ltF2 := ltF2
   have oFB_ltl := ltl
   have oFB_ts := TS
   replace HL := Aside0.mk (Nat.le_trans HL.out (by omega : wr.heap.size ≤ wb.heap.size))
   clear TT TS ltF0 ltF2 ltb ltl
   have join : Hid (∀ {goal : Prop} {G : Option Addr → Nat → Option Addr → Nat → World → Prop} (rg : Hid (∀ (B0 : Option Addr) (d0 : Nat) (B1 : Option Addr) (d1 : Nat) (V : World), Below w.heap.size w V ∧ V.heap[w.heap.size]? = some (.cells #[.int .i64 s.f0, .slice (some ad) s.f1.length c0] 43 (0, 0)) ∧ V.heap[w.heap.size + 1]? = some (.cells #[.int .i64 0, .slice none 0 0] 43 (0, 0)) ∧ V.heap[wr.heap.size]? = some (.cells #[.int .i64 y.f0, .string y.f1.f0, .string y.f1.f1, .slice B0 y.f2.length d0, .slice B1 y.f3.length d1] 55 (0, 0)) ∧ Kd.S kItem 55 V w.heap.size (fun k => k < wr.heap.size) (.slice Ao ys.length co) ys ∧ Kd.R kRcpt 74 V wr.heap.size (fun _ => True) (.slice B0 y.f2.length d0) y.f2 ∧ Kd.R Kd.string 9 V wr.heap.size (fun _ => True) (.slice B1 y.f3.length d1) y.f3 → G B0 d0 B1 d1 V) → goal) (hk : ∀ (B0 : Option Addr) (d0 : Nat) (B1 : Option Addr) (d1 : Nat) (V : World), Below w.heap.size w V ∧ V.heap[w.heap.size]? = some (.cells #[.int .i64 s.f0, .slice (some ad) s.f1.length c0] 43 (0, 0)) ∧ V.heap[w.heap.size + 1]? = some (.cells #[.int .i64 0, .slice none 0 0] 43 (0, 0)) ∧ V.heap[wr.heap.size]? = some (.cells #[.int .i64 y.f0, .string y.f1.f0, .string y.f1.f1, .slice B0 y.f2.length d0, .slice B1 y.f3.length d1] 55 (0, 0)) ∧ Kd.S kItem 55 V w.heap.size (fun k => k < wr.heap.size) (.slice Ao ys.length co) ys ∧ Kd.R kRcpt 74 V wr.heap.size (fun _ => True) (.slice B0 y.f2.length d0) y.f2 ∧ Kd.R Kd.string 9 V wr.heap.size (fun _ => True) (.slice B1 y.f3.length d1) y.f3 → G B0 d0 B1 d1 V), goal) := Lib.hid (fun f h => f (Lib.hid h))
   have jF0 := F0
   have jF2 := F2
   have jFB := FB
   have jHO := HO
   have jHB := HB
   have jHL := HL
   clear F0 F2 FB HO HB HL
   apply join.out
   case rg =>
    intro HKK
    have F0 := jF0
    have F2 := jF2
    have FB := jFB
    have HO := jHO
    have HB := jHB
    have HL := jHL
    refine wp_region_held_drew (S := fun (W : World) => True) (by kernel_rfl) ?s2 (fun hHeld => ?t2)
    case s2 => exact (show (fun (W : World) => True) (World.drew wb) from trivial)
    generalize hWVs : World.drew (wb) = Vs at hHeld ⊢
    have ltF0 := blk_lt F0.out
    have ltF2 := blk_lt F2.out
    have ltFB := blk_lt FB.out
    have ltb := HB.out.size
    have ltl := HL.out
    have TT : ∀ k, k < wb.heap.size → Vs.heap[k]? = wb.heap[k]? := fun k hk => by rw [← hWVs]; (with_reducible repeat (first | rfl | refine hp_set ?_ ?_ | refine hp_alloc ?_ ?_ | refine hp_drew ?_)); all_goals (first | (with_reducible rfl) | omega | (dsimp only; omega) | (simp; omega))
    have TS : wb.heap.size + 0 ≤ Vs.heap.size := by rw [← hWVs]; simp
    have nF0 : Vs.heap[w.heap.size]? = some (.cells #[.int .i64 s.f0, .slice (some ad) s.f1.length c0] 43 (0, 0)) := (TT _ ltF0).trans F0.out
    have nF2 : Vs.heap[w.heap.size + 1]? = some (.cells #[.int .i64 0, .slice none 0 0] 43 (0, 0)) := (TT _ ltF2).trans F2.out
    have nFB : Vs.heap[wr.heap.size]? = some (.cells #[.int .i64 y.f0, .string y.f1.f0, .string y.f1.f1, .slice Q0 y.f2.length qc0, .slice Q1 y.f3.length qc1] 55 (0, 0)) := (TT _ ltFB).trans FB.out
    have nHO : Kd.S kItem 55 Vs w.heap.size (fun k => k < wr.heap.size) (.slice Ao ys.length co) ys := Kd.S_step HO.out (fun k hk hlt => TT k hlt)
    have nHB : Below w.heap.size w Vs := by rw [← hWVs]; exact bel_then (HB.out) (drew_below0 _)
    clear hWVs F0 F2 FB HB HO
    have F0 := Aside0.mk nF0
    clear nF0
    have F2 := Aside0.mk nF2
    clear nF2
    have FB := Aside0.mk nFB
    clear nFB
    have HO := Aside0.mk nHO
    clear nHO
    have HB := Aside0.mk nHB
    clear nHB
    replace HL := Aside0.mk (Nat.le_trans HL.out (by omega : wb.heap.size ≤ Vs.heap.size))
    clear TT TS ltF0 ltF2 ltFB ltb ltl
    refine tk 0 ?v3 ?y3 ?r3
    case y3 => intro w_ hSw; (try dsimp only at hSw); clear hSw; go_simp; (try (with_reducible rfl))
    try simp only [Act.put, List.setIfInBounds_toArray, List.set_cons_zero, List.set_cons_succ]
    refine tk 3 ?v4 ?y4 ?r4
    case y4 => intro w_ hSw; (try dsimp only at hSw); clear hSw; go_simp; (try (with_reducible rfl))
    try simp only [Act.put, List.setIfInBounds_toArray, List.set_cons_zero, List.set_cons_succ]
    refine rdy (rs := [1, 4]) ?_
    refine rc (fun K hK => ?k5) (rc (fun K hK => ?k6) AllReadyH.nil)
    case k5 =>
     have zFB := blk_lt FB.out
     have cFB_0 : Vs.cell? ⟨wr.heap.size, 0, none⟩ = some (.int .i64 y.f0) := clq FB.out 0 rfl
     have cFB_1 : Vs.cell? ⟨wr.heap.size, 1, none⟩ = some (.string y.f1.f0) := clq FB.out 1 rfl
     have cFB_2 : Vs.cell? ⟨wr.heap.size, 2, none⟩ = some (.string y.f1.f1) := clq FB.out 2 rfl
     have cFB_3 : Vs.cell? ⟨wr.heap.size, 3, none⟩ = some (.slice Q0 y.f2.length qc0) := clq FB.out 3 rfl
     have cFB_4 : Vs.cell? ⟨wr.heap.size, 4, none⟩ = some (.slice Q1 y.f3.length qc1) := clq FB.out 4 rfl
     go_simp
     refine hK.out _ _ ?h7 (fun hHeld => ?j7)
     case h7 => exact hHeld
     clear hK K
     try simp only [Act.put, List.setIfInBounds_toArray, List.set_cons_zero, List.set_cons_succ]
     refine rdy (rs := [2, 4]) ?_
     refine rc (fun K hK => ?k8) (rc (fun K hK => ?k9) AllReadyH.nil)
     case k8 =>
      go_simp
      have hNV := Nat.le_of_lt (blk_lt FB.out)
      refine Calls.mono (cloneRcpt_any Q0 qc0 y.f2 _ (Kd.C_below K0.out HB.out) (by have := HM.out.2.2.1.1; omega)) ?_
      rintro e V2 ⟨B0, d0, rfl, rU0, bV2⟩
      clear zFB cFB_0 cFB_1 cFB_2 cFB_3 cFB_4
      replace F0 := Aside0.mk (below_blk F0.out bV2)
      replace F2 := Aside0.mk (below_blk F2.out bV2)
      replace FB := Aside0.mk (below_blk FB.out bV2)
      replace HO := Aside0.mk (Kd.S_below HO.out bV2)
      have U0 : Aside0 (Kd.R kRcpt 74 V2 wr.heap.size (fun _ => True) (.slice B0 y.f2.length d0) y.f2) := ⟨Kd.R_lower (base' := wr.heap.size) rU0 hNV⟩
      clear rU0
      replace HB := Aside0.mk (bel_then HB.out bV2)
      replace HL := Aside0.mk (Nat.le_trans HL.out bV2.size)
      clear bV2
      clear hNV
      refine hK.out _ _ ?h10 (fun hHeld => ?j10)
      case h10 => exact trivial
      clear hK K
      try simp only [Act.put, List.setIfInBounds_toArray, List.set_cons_zero, List.set_cons_succ]
      refine rdy (rs := [4]) ?_
      refine rc (fun K hK => ?k11) AllReadyH.nil
      case k11 =>
       have zFB := blk_lt FB.out
       have cFB_0 : V2.cell? ⟨wr.heap.size, 0, none⟩ = some (.int .i64 y.f0) := clq FB.out 0 rfl
       have cFB_1 : V2.cell? ⟨wr.heap.size, 1, none⟩ = some (.string y.f1.f0) := clq FB.out 1 rfl
       have cFB_2 : V2.cell? ⟨wr.heap.size, 2, none⟩ = some (.string y.f1.f1) := clq FB.out 2 rfl
       have cFB_3 : V2.cell? ⟨wr.heap.size, 3, none⟩ = some (.slice Q0 y.f2.length qc0) := clq FB.out 3 rfl
       have cFB_4 : V2.cell? ⟨wr.heap.size, 4, none⟩ = some (.slice Q1 y.f3.length qc1) := clq FB.out 4 rfl
       go_simp
       refine hK.out _ _ ?h12 (fun hHeld => ?j12)
       case h12 => exact hHeld
       clear hK K
       try simp only [Act.put, List.setIfInBounds_toArray, List.set_cons_zero, List.set_cons_succ]
       refine tk 6 ?v13 ?y13 ?r13
       case y13 => intro w_ hSw; (try dsimp only at hSw); clear hSw; go_simp; (try (with_reducible rfl))
       try simp only [Act.put, List.setIfInBounds_toArray, List.set_cons_zero, List.set_cons_succ]
       refine rdy (rs := [5]) ?_
       refine rc (fun K hK => ?k14) AllReadyH.nil
       case k14 =>
        go_simp
        have hNV := Nat.le_of_lt (blk_lt FB.out)
        refine Calls.mono (cloneString_any Q1 qc1 y.f3 _ (Kd.C_below K1.out HB.out) (by have := HM.out.2.2.2.1; omega)) ?_
        rintro e V5 ⟨B1, d1, rfl, rU1, bV5⟩
        clear zFB cFB_0 cFB_1 cFB_2 cFB_3 cFB_4
        replace F0 := Aside0.mk (below_blk F0.out bV5)
        replace F2 := Aside0.mk (below_blk F2.out bV5)
        replace FB := Aside0.mk (below_blk FB.out bV5)
        replace HO := Aside0.mk (Kd.S_below HO.out bV5)
        replace U0 := Aside0.mk (Kd.R_below U0.out bV5)
        have U1 : Aside0 (Kd.R Kd.string 9 V5 wr.heap.size (fun _ => True) (.slice B1 y.f3.length d1) y.f3) := ⟨Kd.R_lower (base' := wr.heap.size) rU1 hNV⟩
        clear rU1
        replace HB := Aside0.mk (bel_then HB.out bV5)
        replace HL := Aside0.mk (Nat.le_trans HL.out bV5.size)
        clear bV5
        clear hNV
        refine hK.out _ _ ?h15 (fun hHeld => ?j15)
        case h15 => exact trivial
        clear hK K
        try simp only [Act.put, List.setIfInBounds_toArray, List.set_cons_zero, List.set_cons_succ]
        refine rdy (rs := [7]) ?_
        refine rc (fun K hK => ?k16) AllReadyH.nil
        case k16 =>
         have zFB := blk_lt FB.out
         have cFB_0 : V5.cell? ⟨wr.heap.size, 0, none⟩ = some (.int .i64 y.f0) := clq FB.out 0 rfl
         have dFB_0 := fzq FB.out 0
         have cFB_1 : V5.cell? ⟨wr.heap.size, 1, none⟩ = some (.string y.f1.f0) := clq FB.out 1 rfl
         have dFB_1 := fzq FB.out 1
         have cFB_2 : V5.cell? ⟨wr.heap.size, 2, none⟩ = some (.string y.f1.f1) := clq FB.out 2 rfl
         have dFB_2 := fzq FB.out 2
         have cFB_3 : V5.cell? ⟨wr.heap.size, 3, none⟩ = some (.slice Q0 y.f2.length qc0) := clq FB.out 3 rfl
         have dFB_3 := fzq FB.out 3
         have cFB_4 : V5.cell? ⟨wr.heap.size, 4, none⟩ = some (.slice Q1 y.f3.length qc1) := clq FB.out 4 rfl
         have dFB_4 := fzq FB.out 4
         go_simp
         generalize hWV7 : World.setCell (V5) _ _ = V7
         have ltF0 := blk_lt F0.out
         have ltF2 := blk_lt F2.out
         have ltFB := blk_lt FB.out
         have ltb := HB.out.size
         have ltl := HL.out
         have TT : ∀ k, k < V5.heap.size → k ≠ wr.heap.size → V7.heap[k]? = V5.heap[k]? := fun k hk n_FB => by rw [← hWV7]; (with_reducible repeat (first | rfl | refine hp_set ?_ ?_ | refine hp_alloc ?_ ?_ | refine hp_drew ?_)); all_goals (first | (with_reducible rfl) | omega | (dsimp only; omega) | (simp; omega))
         have TS : V5.heap.size + 0 ≤ V7.heap.size := by rw [← hWV7]; simp
         have nF0 : V7.heap[w.heap.size]? = some (.cells #[.int .i64 s.f0, .slice (some ad) s.f1.length c0] 43 (0, 0)) := (TT _ ltF0 (by omega)).trans F0.out
         have nF2 : V7.heap[w.heap.size + 1]? = some (.cells #[.int .i64 0, .slice none 0 0] 43 (0, 0)) := (TT _ ltF2 (by omega)).trans F2.out
         have nFB : V7.heap[wr.heap.size]? = some (.cells #[.int .i64 y.f0, .string y.f1.f0, .string y.f1.f1, .slice B0 y.f2.length d0, .slice Q1 y.f3.length qc1] 55 (0, 0)) := by rw [← hWV7]; have h := blk_set1 (FB.out) 3 (.slice B0 y.f2.length d0); simpa using h
         have nHO : Kd.S kItem 55 V7 w.heap.size (fun k => k < wr.heap.size) (.slice Ao ys.length co) ys := Kd.S_step HO.out (fun k hk hlt => TT k hlt (by have h_ : k < wr.heap.size := hk; omega))
         have nU0 : Kd.R kRcpt 74 V7 wr.heap.size (fun _ => True) (.slice B0 y.f2.length d0) y.f2 := R_keepT U0.out rfl (fun k hk ho => TT k hk (fun e => Kd.R_ne U0.out FB.out (by decide) (e ▸ ho)))
         have nU1 : Kd.R Kd.string 9 V7 wr.heap.size (fun _ => True) (.slice B1 y.f3.length d1) y.f3 := R_keepT U1.out rfl (fun k hk ho => TT k hk (fun e => Kd.R_ne U1.out FB.out (by decide) (e ▸ ho)))
         have nHB : Below w.heap.size w V7 := by rw [← hWV7]; exact bel_set (HB.out) _ (by show w.heap.size ≤ wr.heap.size; first | omega | (simp; omega))
         clear zFB cFB_0 dFB_0 cFB_1 dFB_1 cFB_2 dFB_2 cFB_3 dFB_3 cFB_4 dFB_4
         clear hWV7 F0 F2 FB HB HO U0 U1
         have F0 := Aside0.mk nF0
         clear nF0
         have F2 := Aside0.mk nF2
         clear nF2
         have FB := Aside0.mk nFB
         clear nFB
         have HO := Aside0.mk nHO
         clear nHO
         have U0 := Aside0.mk nU0
         clear nU0
         have U1 := Aside0.mk nU1
         clear nU1
         have HB := Aside0.mk nHB
         clear nHB
         replace HL := Aside0.mk (Nat.le_trans HL.out (by omega : V5.heap.size ≤ V7.heap.size))
         clear TT TS ltF0 ltF2 ltFB ltb ltl
         refine hK.out _ _ ?h17 (fun hHeld => ?j17)
         case h17 => exact trivial
         clear hK K
         try simp only [Act.put, List.setIfInBounds_toArray, List.set_cons_zero, List.set_cons_succ]
         refine tk 8 ?v18 ?y18 ?r18
         case y18 => intro w_ hSw; (try dsimp only at hSw); clear hSw; go_simp; (try (with_reducible rfl))
         try simp only [Act.put, List.setIfInBounds_toArray, List.set_cons_zero, List.set_cons_succ]
         refine rdy (rs := [9]) ?_
         refine rc (fun K hK => ?k19) AllReadyH.nil
         case k19 =>
          have zFB := blk_lt FB.out
          have cFB_0 : V7.cell? ⟨wr.heap.size, 0, none⟩ = some (.int .i64 y.f0) := clq FB.out 0 rfl
          have dFB_0 := fzq FB.out 0
          have cFB_1 : V7.cell? ⟨wr.heap.size, 1, none⟩ = some (.string y.f1.f0) := clq FB.out 1 rfl
          have dFB_1 := fzq FB.out 1
          have cFB_2 : V7.cell? ⟨wr.heap.size, 2, none⟩ = some (.string y.f1.f1) := clq FB.out 2 rfl
          have dFB_2 := fzq FB.out 2
          have cFB_3 : V7.cell? ⟨wr.heap.size, 3, none⟩ = some (.slice B0 y.f2.length d0) := clq FB.out 3 rfl
          have dFB_3 := fzq FB.out 3
          have cFB_4 : V7.cell? ⟨wr.heap.size, 4, none⟩ = some (.slice Q1 y.f3.length qc1) := clq FB.out 4 rfl
          have dFB_4 := fzq FB.out 4
          go_simp
          generalize hWV9 : World.setCell (V7) _ _ = V9
          have ltF0 := blk_lt F0.out
          have ltF2 := blk_lt F2.out
          have ltFB := blk_lt FB.out
          have ltb := HB.out.size
          have ltl := HL.out
          have TT : ∀ k, k < V7.heap.size → k ≠ wr.heap.size → V9.heap[k]? = V7.heap[k]? := fun k hk n_FB => by rw [← hWV9]; (with_reducible repeat (first | rfl | refine hp_set ?_ ?_ | refine hp_alloc ?_ ?_ | refine hp_drew ?_)); all_goals (first | (with_reducible rfl) | omega | (dsimp only; omega) | (simp; omega))
          have TS : V7.heap.size + 0 ≤ V9.heap.size := by rw [← hWV9]; simp
          have nF0 : V9.heap[w.heap.size]? = some (.cells #[.int .i64 s.f0, .slice (some ad) s.f1.length c0] 43 (0, 0)) := (TT _ ltF0 (by omega)).trans F0.out
          have nF2 : V9.heap[w.heap.size + 1]? = some (.cells #[.int .i64 0, .slice none 0 0] 43 (0, 0)) := (TT _ ltF2 (by omega)).trans F2.out
          have nFB : V9.heap[wr.heap.size]? = some (.cells #[.int .i64 y.f0, .string y.f1.f0, .string y.f1.f1, .slice B0 y.f2.length d0, .slice B1 y.f3.length d1] 55 (0, 0)) := by rw [← hWV9]; have h := blk_set1 (FB.out) 4 (.slice B1 y.f3.length d1); simpa using h
          have nHO : Kd.S kItem 55 V9 w.heap.size (fun k => k < wr.heap.size) (.slice Ao ys.length co) ys := Kd.S_step HO.out (fun k hk hlt => TT k hlt (by have h_ : k < wr.heap.size := hk; omega))
          have nU0 : Kd.R kRcpt 74 V9 wr.heap.size (fun _ => True) (.slice B0 y.f2.length d0) y.f2 := R_keepT U0.out rfl (fun k hk ho => TT k hk (fun e => Kd.R_ne U0.out FB.out (by decide) (e ▸ ho)))
          have nU1 : Kd.R Kd.string 9 V9 wr.heap.size (fun _ => True) (.slice B1 y.f3.length d1) y.f3 := R_keepT U1.out rfl (fun k hk ho => TT k hk (fun e => Kd.R_ne U1.out FB.out (by decide) (e ▸ ho)))
          have nHB : Below w.heap.size w V9 := by rw [← hWV9]; exact bel_set (HB.out) _ (by show w.heap.size ≤ wr.heap.size; first | omega | (simp; omega))
          clear zFB cFB_0 dFB_0 cFB_1 dFB_1 cFB_2 dFB_2 cFB_3 dFB_3 cFB_4 dFB_4
          clear hWV9 F0 F2 FB HB HO U0 U1
          have F0 := Aside0.mk nF0
          clear nF0
          have F2 := Aside0.mk nF2
          clear nF2
          have FB := Aside0.mk nFB
          clear nFB
          have HO := Aside0.mk nHO
          clear nHO
          have U0 := Aside0.mk nU0
          clear nU0
          have U1 := Aside0.mk nU1
          clear nU1
          have HB := Aside0.mk nHB
          clear nHB
          replace HL := Aside0.mk (Nat.le_trans HL.out (by omega : V7.heap.size ≤ V9.heap.size))
          clear TT TS ltF0 ltF2 ltFB ltb ltl
          refine hK.out _ _ ?h20 (fun hHeld => ?j20)
          case h20 => exact trivial
          clear hK K
          try simp only [Act.put, List.setIfInBounds_toArray, List.set_cons_zero, List.set_cons_succ]
          refine wpAnyH_done (by kernel_rfl) ?_ _
          exact HKK.out B0 d0 B1 d1 V9 ⟨HB.out, F0.out, F2.out, FB.out, HO.out, U0.out, U1.out⟩
     case k9 =>
      clear zFB cFB_0 cFB_1 cFB_2 cFB_3 cFB_4
      have zFB := blk_lt FB.out
      have cFB_0 : Vs.cell? ⟨wr.heap.size, 0, none⟩ = some (.int .i64 y.f0) := clq FB.out 0 rfl
      have cFB_1 : Vs.cell? ⟨wr.heap.size, 1, none⟩ = some (.string y.f1.f0) := clq FB.out 1 rfl
      have cFB_2 : Vs.cell? ⟨wr.heap.size, 2, none⟩ = some (.string y.f1.f1) := clq FB.out 2 rfl
      have cFB_3 : Vs.cell? ⟨wr.heap.size, 3, none⟩ = some (.slice Q0 y.f2.length qc0) := clq FB.out 3 rfl
      have cFB_4 : Vs.cell? ⟨wr.heap.size, 4, none⟩ = some (.slice Q1 y.f3.length qc1) := clq FB.out 4 rfl
      go_simp
      refine hK.out _ _ ?h21 (fun hHeld => ?j21)
      case h21 => exact hHeld
      clear hK K
      try simp only [Act.put, List.setIfInBounds_toArray, List.set_cons_zero, List.set_cons_succ]
      refine rdy (rs := [2]) ?_
      refine rc (fun K hK => ?k22) AllReadyH.nil
      case k22 =>
       go_simp
       have hNV := Nat.le_of_lt (blk_lt FB.out)
       refine Calls.mono (cloneRcpt_any Q0 qc0 y.f2 _ (Kd.C_below K0.out HB.out) (by have := HM.out.2.2.1.1; omega)) ?_
       rintro e V2 ⟨B0, d0, rfl, rU0, bV2⟩
       clear zFB cFB_0 cFB_1 cFB_2 cFB_3 cFB_4
       replace F0 := Aside0.mk (below_blk F0.out bV2)
       replace F2 := Aside0.mk (below_blk F2.out bV2)
       replace FB := Aside0.mk (below_blk FB.out bV2)
       replace HO := Aside0.mk (Kd.S_below HO.out bV2)
       have U0 : Aside0 (Kd.R kRcpt 74 V2 wr.heap.size (fun _ => True) (.slice B0 y.f2.length d0) y.f2) := ⟨Kd.R_lower (base' := wr.heap.size) rU0 hNV⟩
       clear rU0
       replace HB := Aside0.mk (bel_then HB.out bV2)
       replace HL := Aside0.mk (Nat.le_trans HL.out bV2.size)
       clear bV2
       clear hNV
       refine hK.out _ _ ?h23 (fun hHeld => ?j23)
       case h23 => exact trivial
       clear hK K
       try simp only [Act.put, List.setIfInBounds_toArray, List.set_cons_zero, List.set_cons_succ]
       refine tk 6 ?v24 ?y24 ?r24
       case y24 => intro w_ hSw; (try dsimp only at hSw); clear hSw; go_simp; (try (with_reducible rfl))
       try simp only [Act.put, List.setIfInBounds_toArray, List.set_cons_zero, List.set_cons_succ]
       refine rdy (rs := [5]) ?_
       refine rc (fun K hK => ?k25) AllReadyH.nil
       case k25 =>
        go_simp
        have hNV := Nat.le_of_lt (blk_lt FB.out)
        refine Calls.mono (cloneString_any Q1 qc1 y.f3 _ (Kd.C_below K1.out HB.out) (by have := HM.out.2.2.2.1; omega)) ?_
        rintro e V5 ⟨B1, d1, rfl, rU1, bV5⟩
        replace F0 := Aside0.mk (below_blk F0.out bV5)
        replace F2 := Aside0.mk (below_blk F2.out bV5)
        replace FB := Aside0.mk (below_blk FB.out bV5)
        replace HO := Aside0.mk (Kd.S_below HO.out bV5)
        replace U0 := Aside0.mk (Kd.R_below U0.out bV5)
        have U1 : Aside0 (Kd.R Kd.string 9 V5 wr.heap.size (fun _ => True) (.slice B1 y.f3.length d1) y.f3) := ⟨Kd.R_lower (base' := wr.heap.size) rU1 hNV⟩
        clear rU1
        replace HB := Aside0.mk (bel_then HB.out bV5)
        replace HL := Aside0.mk (Nat.le_trans HL.out bV5.size)
        clear bV5
        clear hNV
        refine hK.out _ _ ?h26 (fun hHeld => ?j26)
        case h26 => exact trivial
        clear hK K
        try simp only [Act.put, List.setIfInBounds_toArray, List.set_cons_zero, List.set_cons_succ]
        refine rdy (rs := [7]) ?_
        refine rc (fun K hK => ?k27) AllReadyH.nil
        case k27 =>
         have zFB := blk_lt FB.out
         have cFB_0 : V5.cell? ⟨wr.heap.size, 0, none⟩ = some (.int .i64 y.f0) := clq FB.out 0 rfl
         have dFB_0 := fzq FB.out 0
         have cFB_1 : V5.cell? ⟨wr.heap.size, 1, none⟩ = some (.string y.f1.f0) := clq FB.out 1 rfl
         have dFB_1 := fzq FB.out 1
         have cFB_2 : V5.cell? ⟨wr.heap.size, 2, none⟩ = some (.string y.f1.f1) := clq FB.out 2 rfl
         have dFB_2 := fzq FB.out 2
         have cFB_3 : V5.cell? ⟨wr.heap.size, 3, none⟩ = some (.slice Q0 y.f2.length qc0) := clq FB.out 3 rfl
         have dFB_3 := fzq FB.out 3
         have cFB_4 : V5.cell? ⟨wr.heap.size, 4, none⟩ = some (.slice Q1 y.f3.length qc1) := clq FB.out 4 rfl
         have dFB_4 := fzq FB.out 4
         go_simp
         generalize hWV7 : World.setCell (V5) _ _ = V7
         have ltF0 := blk_lt F0.out
         have ltF2 := blk_lt F2.out
         have ltFB := blk_lt FB.out
         have ltb := HB.out.size
         have ltl := HL.out
         have TT : ∀ k, k < V5.heap.size → k ≠ wr.heap.size → V7.heap[k]? = V5.heap[k]? := fun k hk n_FB => by rw [← hWV7]; (with_reducible repeat (first | rfl | refine hp_set ?_ ?_ | refine hp_alloc ?_ ?_ | refine hp_drew ?_)); all_goals (first | (with_reducible rfl) | omega | (dsimp only; omega) | (simp; omega))
         have TS : V5.heap.size + 0 ≤ V7.heap.size := by rw [← hWV7]; simp
         have nF0 : V7.heap[w.heap.size]? = some (.cells #[.int .i64 s.f0, .slice (some ad) s.f1.length c0] 43 (0, 0)) := (TT _ ltF0 (by omega)).trans F0.out
         have nF2 : V7.heap[w.heap.size + 1]? = some (.cells #[.int .i64 0, .slice none 0 0] 43 (0, 0)) := (TT _ ltF2 (by omega)).trans F2.out
         have nFB : V7.heap[wr.heap.size]? = some (.cells #[.int .i64 y.f0, .string y.f1.f0, .string y.f1.f1, .slice B0 y.f2.length d0, .slice Q1 y.f3.length qc1] 55 (0, 0)) := by rw [← hWV7]; have h := blk_set1 (FB.out) 3 (.slice B0 y.f2.length d0); simpa using h
         have nHO : Kd.S kItem 55 V7 w.heap.size (fun k => k < wr.heap.size) (.slice Ao ys.length co) ys := Kd.S_step HO.out (fun k hk hlt => TT k hlt (by have h_ : k < wr.heap.size := hk; omega))
         have nU0 : Kd.R kRcpt 74 V7 wr.heap.size (fun _ => True) (.slice B0 y.f2.length d0) y.f2 := R_keepT U0.out rfl (fun k hk ho => TT k hk (fun e => Kd.R_ne U0.out FB.out (by decide) (e ▸ ho)))
         have nU1 : Kd.R Kd.string 9 V7 wr.heap.size (fun _ => True) (.slice B1 y.f3.length d1) y.f3 := R_keepT U1.out rfl (fun k hk ho => TT k hk (fun e => Kd.R_ne U1.out FB.out (by decide) (e ▸ ho)))
         have nHB : Below w.heap.size w V7 := by rw [← hWV7]; exact bel_set (HB.out) _ (by show w.heap.size ≤ wr.heap.size; first | omega | (simp; omega))
         clear zFB cFB_0 dFB_0 cFB_1 dFB_1 cFB_2 dFB_2 cFB_3 dFB_3 cFB_4 dFB_4
         clear hWV7 F0 F2 FB HB HO U0 U1
         have F0 := Aside0.mk nF0
         clear nF0
         have F2 := Aside0.mk nF2
         clear nF2
         have FB := Aside0.mk nFB
         clear nFB
         have HO := Aside0.mk nHO
         clear nHO
         have U0 := Aside0.mk nU0
         clear nU0
         have U1 := Aside0.mk nU1
         clear nU1
         have HB := Aside0.mk nHB
         clear nHB
         replace HL := Aside0.mk (Nat.le_trans HL.out (by omega : V5.heap.size ≤ V7.heap.size))
         clear TT TS ltF0 ltF2 ltFB ltb ltl
         refine hK.out _ _ ?h28 (fun hHeld => ?j28)
         case h28 => exact trivial
         clear hK K
         try simp only [Act.put, List.setIfInBounds_toArray, List.set_cons_zero, List.set_cons_succ]
         refine tk 8 ?v29 ?y29 ?r29
         case y29 => intro w_ hSw; (try dsimp only at hSw); clear hSw; go_simp; (try (with_reducible rfl))
         try simp only [Act.put, List.setIfInBounds_toArray, List.set_cons_zero, List.set_cons_succ]
         refine rdy (rs := [9]) ?_
         refine rc (fun K hK => ?k30) AllReadyH.nil
         case k30 =>
          have zFB := blk_lt FB.out
          have cFB_0 : V7.cell? ⟨wr.heap.size, 0, none⟩ = some (.int .i64 y.f0) := clq FB.out 0 rfl
          have dFB_0 := fzq FB.out 0
          have cFB_1 : V7.cell? ⟨wr.heap.size, 1, none⟩ = some (.string y.f1.f0) := clq FB.out 1 rfl
          have dFB_1 := fzq FB.out 1
          have cFB_2 : V7.cell? ⟨wr.heap.size, 2, none⟩ = some (.string y.f1.f1) := clq FB.out 2 rfl
          have dFB_2 := fzq FB.out 2
          have cFB_3 : V7.cell? ⟨wr.heap.size, 3, none⟩ = some (.slice B0 y.f2.length d0) := clq FB.out 3 rfl
          have dFB_3 := fzq FB.out 3
          have cFB_4 : V7.cell? ⟨wr.heap.size, 4, none⟩ = some (.slice Q1 y.f3.length qc1) := clq FB.out 4 rfl
          have dFB_4 := fzq FB.out 4
          go_simp
          generalize hWV9 : World.setCell (V7) _ _ = V9
          have ltF0 := blk_lt F0.out
          have ltF2 := blk_lt F2.out
          have ltFB := blk_lt FB.out
          have ltb := HB.out.size
          have ltl := HL.out
          have TT : ∀ k, k < V7.heap.size → k ≠ wr.heap.size → V9.heap[k]? = V7.heap[k]? := fun k hk n_FB => by rw [← hWV9]; (with_reducible repeat (first | rfl | refine hp_set ?_ ?_ | refine hp_alloc ?_ ?_ | refine hp_drew ?_)); all_goals (first | (with_reducible rfl) | omega | (dsimp only; omega) | (simp; omega))
          have TS : V7.heap.size + 0 ≤ V9.heap.size := by rw [← hWV9]; simp
          have nF0 : V9.heap[w.heap.size]? = some (.cells #[.int .i64 s.f0, .slice (some ad) s.f1.length c0] 43 (0, 0)) := (TT _ ltF0 (by omega)).trans F0.out
          have nF2 : V9.heap[w.heap.size + 1]? = some (.cells #[.int .i64 0, .slice none 0 0] 43 (0, 0)) := (TT _ ltF2 (by omega)).trans F2.out
          have nFB : V9.heap[wr.heap.size]? = some (.cells #[.int .i64 y.f0, .string y.f1.f0, .string y.f1.f1, .slice B0 y.f2.length d0, .slice B1 y.f3.length d1] 55 (0, 0)) := by rw [← hWV9]; have h := blk_set1 (FB.out) 4 (.slice B1 y.f3.length d1); simpa using h
          have nHO : Kd.S kItem 55 V9 w.heap.size (fun k => k < wr.heap.size) (.slice Ao ys.length co) ys := Kd.S_step HO.out (fun k hk hlt => TT k hlt (by have h_ : k < wr.heap.size := hk; omega))
          have nU0 : Kd.R kRcpt 74 V9 wr.heap.size (fun _ => True) (.slice B0 y.f2.length d0) y.f2 := R_keepT U0.out rfl (fun k hk ho => TT k hk (fun e => Kd.R_ne U0.out FB.out (by decide) (e ▸ ho)))
          have nU1 : Kd.R Kd.string 9 V9 wr.heap.size (fun _ => True) (.slice B1 y.f3.length d1) y.f3 := R_keepT U1.out rfl (fun k hk ho => TT k hk (fun e => Kd.R_ne U1.out FB.out (by decide) (e ▸ ho)))
          have nHB : Below w.heap.size w V9 := by rw [← hWV9]; exact bel_set (HB.out) _ (by show w.heap.size ≤ wr.heap.size; first | omega | (simp; omega))
          clear zFB cFB_0 dFB_0 cFB_1 dFB_1 cFB_2 dFB_2 cFB_3 dFB_3 cFB_4 dFB_4
          clear hWV9 F0 F2 FB HB HO U0 U1
          have F0 := Aside0.mk nF0
          clear nF0
          have F2 := Aside0.mk nF2
          clear nF2
          have FB := Aside0.mk nFB
          clear nFB
          have HO := Aside0.mk nHO
          clear nHO
          have U0 := Aside0.mk nU0
          clear nU0
          have U1 := Aside0.mk nU1
          clear nU1
          have HB := Aside0.mk nHB
          clear nHB
          replace HL := Aside0.mk (Nat.le_trans HL.out (by omega : V7.heap.size ≤ V9.heap.size))
          clear TT TS ltF0 ltF2 ltFB ltb ltl
          refine hK.out _ _ ?h31 (fun hHeld => ?j31)
          case h31 => exact trivial
          clear hK K
          try simp only [Act.put, List.setIfInBounds_toArray, List.set_cons_zero, List.set_cons_succ]
          refine wpAnyH_done (by kernel_rfl) ?_ _
          exact HKK.out B0 d0 B1 d1 V9 ⟨HB.out, F0.out, F2.out, FB.out, HO.out, U0.out, U1.out⟩
    case k6 =>
     have zFB := blk_lt FB.out
     have cFB_0 : Vs.cell? ⟨wr.heap.size, 0, none⟩ = some (.int .i64 y.f0) := clq FB.out 0 rfl
     have cFB_1 : Vs.cell? ⟨wr.heap.size, 1, none⟩ = some (.string y.f1.f0) := clq FB.out 1 rfl
     have cFB_2 : Vs.cell? ⟨wr.heap.size, 2, none⟩ = some (.string y.f1.f1) := clq FB.out 2 rfl
     have cFB_3 : Vs.cell? ⟨wr.heap.size, 3, none⟩ = some (.slice Q0 y.f2.length qc0) := clq FB.out 3 rfl
     have cFB_4 : Vs.cell? ⟨wr.heap.size, 4, none⟩ = some (.slice Q1 y.f3.length qc1) := clq FB.out 4 rfl
     go_simp
     refine hK.out _ _ ?h32 (fun hHeld => ?j32)
     case h32 => exact hHeld
     clear hK K
     try simp only [Act.put, List.setIfInBounds_toArray, List.set_cons_zero, List.set_cons_succ]
     refine rdy (rs := [1]) ?_
     refine rc (fun K hK => ?k33) AllReadyH.nil
     case k33 =>
      clear zFB cFB_0 cFB_1 cFB_2 cFB_3 cFB_4
      have zFB := blk_lt FB.out
      have cFB_0 : Vs.cell? ⟨wr.heap.size, 0, none⟩ = some (.int .i64 y.f0) := clq FB.out 0 rfl
      have cFB_1 : Vs.cell? ⟨wr.heap.size, 1, none⟩ = some (.string y.f1.f0) := clq FB.out 1 rfl
      have cFB_2 : Vs.cell? ⟨wr.heap.size, 2, none⟩ = some (.string y.f1.f1) := clq FB.out 2 rfl
      have cFB_3 : Vs.cell? ⟨wr.heap.size, 3, none⟩ = some (.slice Q0 y.f2.length qc0) := clq FB.out 3 rfl
      have cFB_4 : Vs.cell? ⟨wr.heap.size, 4, none⟩ = some (.slice Q1 y.f3.length qc1) := clq FB.out 4 rfl
      go_simp
      refine hK.out _ _ ?h34 (fun hHeld => ?j34)
      case h34 => exact hHeld
      clear hK K
      try simp only [Act.put, List.setIfInBounds_toArray, List.set_cons_zero, List.set_cons_succ]
      refine rdy (rs := [2]) ?_
      refine rc (fun K hK => ?k35) AllReadyH.nil
      case k35 =>
       go_simp
       have hNV := Nat.le_of_lt (blk_lt FB.out)
       refine Calls.mono (cloneRcpt_any Q0 qc0 y.f2 _ (Kd.C_below K0.out HB.out) (by have := HM.out.2.2.1.1; omega)) ?_
       rintro e V2 ⟨B0, d0, rfl, rU0, bV2⟩
       clear zFB cFB_0 cFB_1 cFB_2 cFB_3 cFB_4
       replace F0 := Aside0.mk (below_blk F0.out bV2)
       replace F2 := Aside0.mk (below_blk F2.out bV2)
       replace FB := Aside0.mk (below_blk FB.out bV2)
       replace HO := Aside0.mk (Kd.S_below HO.out bV2)
       have U0 : Aside0 (Kd.R kRcpt 74 V2 wr.heap.size (fun _ => True) (.slice B0 y.f2.length d0) y.f2) := ⟨Kd.R_lower (base' := wr.heap.size) rU0 hNV⟩
       clear rU0
       replace HB := Aside0.mk (bel_then HB.out bV2)
       replace HL := Aside0.mk (Nat.le_trans HL.out bV2.size)
       clear bV2
       clear hNV
       refine hK.out _ _ ?h36 (fun hHeld => ?j36)
       case h36 => exact trivial
       clear hK K
       try simp only [Act.put, List.setIfInBounds_toArray, List.set_cons_zero, List.set_cons_succ]
       refine tk 6 ?v37 ?y37 ?r37
       case y37 => intro w_ hSw; (try dsimp only at hSw); clear hSw; go_simp; (try (with_reducible rfl))
       try simp only [Act.put, List.setIfInBounds_toArray, List.set_cons_zero, List.set_cons_succ]
       refine rdy (rs := [5]) ?_
       refine rc (fun K hK => ?k38) AllReadyH.nil
       case k38 =>
        go_simp
        have hNV := Nat.le_of_lt (blk_lt FB.out)
        refine Calls.mono (cloneString_any Q1 qc1 y.f3 _ (Kd.C_below K1.out HB.out) (by have := HM.out.2.2.2.1; omega)) ?_
        rintro e V5 ⟨B1, d1, rfl, rU1, bV5⟩
        replace F0 := Aside0.mk (below_blk F0.out bV5)
        replace F2 := Aside0.mk (below_blk F2.out bV5)
        replace FB := Aside0.mk (below_blk FB.out bV5)
        replace HO := Aside0.mk (Kd.S_below HO.out bV5)
        replace U0 := Aside0.mk (Kd.R_below U0.out bV5)
        have U1 : Aside0 (Kd.R Kd.string 9 V5 wr.heap.size (fun _ => True) (.slice B1 y.f3.length d1) y.f3) := ⟨Kd.R_lower (base' := wr.heap.size) rU1 hNV⟩
        clear rU1
        replace HB := Aside0.mk (bel_then HB.out bV5)
        replace HL := Aside0.mk (Nat.le_trans HL.out bV5.size)
        clear bV5
        clear hNV
        refine hK.out _ _ ?h39 (fun hHeld => ?j39)
        case h39 => exact trivial
        clear hK K
        try simp only [Act.put, List.setIfInBounds_toArray, List.set_cons_zero, List.set_cons_succ]
        refine rdy (rs := [7]) ?_
        refine rc (fun K hK => ?k40) AllReadyH.nil
        case k40 =>
         have zFB := blk_lt FB.out
         have cFB_0 : V5.cell? ⟨wr.heap.size, 0, none⟩ = some (.int .i64 y.f0) := clq FB.out 0 rfl
         have dFB_0 := fzq FB.out 0
         have cFB_1 : V5.cell? ⟨wr.heap.size, 1, none⟩ = some (.string y.f1.f0) := clq FB.out 1 rfl
         have dFB_1 := fzq FB.out 1
         have cFB_2 : V5.cell? ⟨wr.heap.size, 2, none⟩ = some (.string y.f1.f1) := clq FB.out 2 rfl
         have dFB_2 := fzq FB.out 2
         have cFB_3 : V5.cell? ⟨wr.heap.size, 3, none⟩ = some (.slice Q0 y.f2.length qc0) := clq FB.out 3 rfl
         have dFB_3 := fzq FB.out 3
         have cFB_4 : V5.cell? ⟨wr.heap.size, 4, none⟩ = some (.slice Q1 y.f3.length qc1) := clq FB.out 4 rfl
         have dFB_4 := fzq FB.out 4
         go_simp
         generalize hWV7 : World.setCell (V5) _ _ = V7
         have ltF0 := blk_lt F0.out
         have ltF2 := blk_lt F2.out
         have ltFB := blk_lt FB.out
         have ltb := HB.out.size
         have ltl := HL.out
         have TT : ∀ k, k < V5.heap.size → k ≠ wr.heap.size → V7.heap[k]? = V5.heap[k]? := fun k hk n_FB => by rw [← hWV7]; (with_reducible repeat (first | rfl | refine hp_set ?_ ?_ | refine hp_alloc ?_ ?_ | refine hp_drew ?_)); all_goals (first | (with_reducible rfl) | omega | (dsimp only; omega) | (simp; omega))
         have TS : V5.heap.size + 0 ≤ V7.heap.size := by rw [← hWV7]; simp
         have nF0 : V7.heap[w.heap.size]? = some (.cells #[.int .i64 s.f0, .slice (some ad) s.f1.length c0] 43 (0, 0)) := (TT _ ltF0 (by omega)).trans F0.out
         have nF2 : V7.heap[w.heap.size + 1]? = some (.cells #[.int .i64 0, .slice none 0 0] 43 (0, 0)) := (TT _ ltF2 (by omega)).trans F2.out
         have nFB : V7.heap[wr.heap.size]? = some (.cells #[.int .i64 y.f0, .string y.f1.f0, .string y.f1.f1, .slice B0 y.f2.length d0, .slice Q1 y.f3.length qc1] 55 (0, 0)) := by rw [← hWV7]; have h := blk_set1 (FB.out) 3 (.slice B0 y.f2.length d0); simpa using h
         have nHO : Kd.S kItem 55 V7 w.heap.size (fun k => k < wr.heap.size) (.slice Ao ys.length co) ys := Kd.S_step HO.out (fun k hk hlt => TT k hlt (by have h_ : k < wr.heap.size := hk; omega))
         have nU0 : Kd.R kRcpt 74 V7 wr.heap.size (fun _ => True) (.slice B0 y.f2.length d0) y.f2 := R_keepT U0.out rfl (fun k hk ho => TT k hk (fun e => Kd.R_ne U0.out FB.out (by decide) (e ▸ ho)))
         have nU1 : Kd.R Kd.string 9 V7 wr.heap.size (fun _ => True) (.slice B1 y.f3.length d1) y.f3 := R_keepT U1.out rfl (fun k hk ho => TT k hk (fun e => Kd.R_ne U1.out FB.out (by decide) (e ▸ ho)))
         have nHB : Below w.heap.size w V7 := by rw [← hWV7]; exact bel_set (HB.out) _ (by show w.heap.size ≤ wr.heap.size; first | omega | (simp; omega))
         clear zFB cFB_0 dFB_0 cFB_1 dFB_1 cFB_2 dFB_2 cFB_3 dFB_3 cFB_4 dFB_4
         clear hWV7 F0 F2 FB HB HO U0 U1
         have F0 := Aside0.mk nF0
         clear nF0
         have F2 := Aside0.mk nF2
         clear nF2
         have FB := Aside0.mk nFB
         clear nFB
         have HO := Aside0.mk nHO
         clear nHO
         have U0 := Aside0.mk nU0
         clear nU0
         have U1 := Aside0.mk nU1
         clear nU1
         have HB := Aside0.mk nHB
         clear nHB
         replace HL := Aside0.mk (Nat.le_trans HL.out (by omega : V5.heap.size ≤ V7.heap.size))
         clear TT TS ltF0 ltF2 ltFB ltb ltl
         refine hK.out _ _ ?h41 (fun hHeld => ?j41)
         case h41 => exact trivial
         clear hK K
         try simp only [Act.put, List.setIfInBounds_toArray, List.set_cons_zero, List.set_cons_succ]
         refine tk 8 ?v42 ?y42 ?r42
         case y42 => intro w_ hSw; (try dsimp only at hSw); clear hSw; go_simp; (try (with_reducible rfl))
         try simp only [Act.put, List.setIfInBounds_toArray, List.set_cons_zero, List.set_cons_succ]
         refine rdy (rs := [9]) ?_
         refine rc (fun K hK => ?k43) AllReadyH.nil
         case k43 =>
          have zFB := blk_lt FB.out
          have cFB_0 : V7.cell? ⟨wr.heap.size, 0, none⟩ = some (.int .i64 y.f0) := clq FB.out 0 rfl
          have dFB_0 := fzq FB.out 0
          have cFB_1 : V7.cell? ⟨wr.heap.size, 1, none⟩ = some (.string y.f1.f0) := clq FB.out 1 rfl
          have dFB_1 := fzq FB.out 1
          have cFB_2 : V7.cell? ⟨wr.heap.size, 2, none⟩ = some (.string y.f1.f1) := clq FB.out 2 rfl
          have dFB_2 := fzq FB.out 2
          have cFB_3 : V7.cell? ⟨wr.heap.size, 3, none⟩ = some (.slice B0 y.f2.length d0) := clq FB.out 3 rfl
          have dFB_3 := fzq FB.out 3
          have cFB_4 : V7.cell? ⟨wr.heap.size, 4, none⟩ = some (.slice Q1 y.f3.length qc1) := clq FB.out 4 rfl
          have dFB_4 := fzq FB.out 4
          go_simp
          generalize hWV9 : World.setCell (V7) _ _ = V9
          have ltF0 := blk_lt F0.out
          have ltF2 := blk_lt F2.out
          have ltFB := blk_lt FB.out
          have ltb := HB.out.size
          have ltl := HL.out
          have TT : ∀ k, k < V7.heap.size → k ≠ wr.heap.size → V9.heap[k]? = V7.heap[k]? := fun k hk n_FB => by rw [← hWV9]; (with_reducible repeat (first | rfl | refine hp_set ?_ ?_ | refine hp_alloc ?_ ?_ | refine hp_drew ?_)); all_goals (first | (with_reducible rfl) | omega | (dsimp only; omega) | (simp; omega))
          have TS : V7.heap.size + 0 ≤ V9.heap.size := by rw [← hWV9]; simp
          have nF0 : V9.heap[w.heap.size]? = some (.cells #[.int .i64 s.f0, .slice (some ad) s.f1.length c0] 43 (0, 0)) := (TT _ ltF0 (by omega)).trans F0.out
          have nF2 : V9.heap[w.heap.size + 1]? = some (.cells #[.int .i64 0, .slice none 0 0] 43 (0, 0)) := (TT _ ltF2 (by omega)).trans F2.out
          have nFB : V9.heap[wr.heap.size]? = some (.cells #[.int .i64 y.f0, .string y.f1.f0, .string y.f1.f1, .slice B0 y.f2.length d0, .slice B1 y.f3.length d1] 55 (0, 0)) := by rw [← hWV9]; have h := blk_set1 (FB.out) 4 (.slice B1 y.f3.length d1); simpa using h
          have nHO : Kd.S kItem 55 V9 w.heap.size (fun k => k < wr.heap.size) (.slice Ao ys.length co) ys := Kd.S_step HO.out (fun k hk hlt => TT k hlt (by have h_ : k < wr.heap.size := hk; omega))
          have nU0 : Kd.R kRcpt 74 V9 wr.heap.size (fun _ => True) (.slice B0 y.f2.length d0) y.f2 := R_keepT U0.out rfl (fun k hk ho => TT k hk (fun e => Kd.R_ne U0.out FB.out (by decide) (e ▸ ho)))
          have nU1 : Kd.R Kd.string 9 V9 wr.heap.size (fun _ => True) (.slice B1 y.f3.length d1) y.f3 := R_keepT U1.out rfl (fun k hk ho => TT k hk (fun e => Kd.R_ne U1.out FB.out (by decide) (e ▸ ho)))
          have nHB : Below w.heap.size w V9 := by rw [← hWV9]; exact bel_set (HB.out) _ (by show w.heap.size ≤ wr.heap.size; first | omega | (simp; omega))
          clear zFB cFB_0 dFB_0 cFB_1 dFB_1 cFB_2 dFB_2 cFB_3 dFB_3 cFB_4 dFB_4
          clear hWV9 F0 F2 FB HB HO U0 U1
          have F0 := Aside0.mk nF0
          clear nF0
          have F2 := Aside0.mk nF2
          clear nF2
          have FB := Aside0.mk nFB
          clear nFB
          have HO := Aside0.mk nHO
          clear nHO
          have U0 := Aside0.mk nU0
          clear nU0
          have U1 := Aside0.mk nU1
          clear nU1
          have HB := Aside0.mk nHB
          clear nHB
          replace HL := Aside0.mk (Nat.le_trans HL.out (by omega : V7.heap.size ≤ V9.heap.size))
          clear TT TS ltF0 ltF2 ltFB ltb ltl
          refine hK.out _ _ ?h44 (fun hHeld => ?j44)
          case h44 => exact trivial
          clear hK K
          try simp only [Act.put, List.setIfInBounds_toArray, List.set_cons_zero, List.set_cons_succ]
          refine wpAnyH_done (by kernel_rfl) ?_ _
          exact HKK.out B0 d0 B1 d1 V9 ⟨HB.out, F0.out, F2.out, FB.out, HO.out, U0.out, U1.out⟩
   case hk =>
    intro B0 d0 B1 d1 V ⟨hB, hF0, hF2, hFB, hHO, hU0, hU1⟩
    clear join jF0 jF2 jFB jHO jHB jHL
    have F0 := Aside0.mk hF0
    clear hF0
    have F2 := Aside0.mk hF2
    clear hF2
    have FB := Aside0.mk hFB
    clear hFB
    have HO := Aside0.mk hHO
    clear hHO
    have U0 := Aside0.mk hU0
    clear hU0
    have U1 := Aside0.mk hU1
    clear hU1
    have HB := Aside0.mk hB
    clear hB
    have zFB := blk_lt FB.out
    have cFB_0 : V.cell? ⟨wr.heap.size, 0, none⟩ = some (.int .i64 y.f0) := clq FB.out 0 rfl
    have cFB_1 : V.cell? ⟨wr.heap.size, 1, none⟩ = some (.string y.f1.f0) := clq FB.out 1 rfl
    have cFB_2 : V.cell? ⟨wr.heap.size, 2, none⟩ = some (.string y.f1.f1) := clq FB.out 2 rfl
    have cFB_3 : V.cell? ⟨wr.heap.size, 3, none⟩ = some (.slice B0 y.f2.length d0) := clq FB.out 3 rfl
    have cFB_4 : V.cell? ⟨wr.heap.size, 4, none⟩ = some (.slice B1 y.f3.length d1) := clq FB.out 4 rfl
    have hbase : w.heap.size ≤ wr.heap.size := by have := blk_lt FB.out; have := HWR.out; omega
    go_wp2_with (first | (((with_reducible refine gate_builtin (b := .append) (xs := #[.tmp 21, .tmp 23]) rfl ?_); (try (refine gate_guard (by rfl) ?_; dsimp only)); at_builtin); (refine Kd.S_append kItem (w0 := w) (w.heap.size) rfl (.tmp 21) (.tmp 23) 41 55 (.agg #[(.int .i64 0), (.string ⟨#[]⟩), (.string ⟨#[]⟩), (.slice none 0 0), (.slice none 0 0)]) 88 rfl Tryz.underlying41 info55 rfl (by decide) (by omega) (.slice Ao ys.length co) ys y [.int .i64 y.f0, .string y.f1.f0, .string y.f1.f1, .slice B0 y.f2.length d0, .slice B1 y.f3.length d1] (fun _ => True) (fun k => wr.heap.size ≤ k) rfl rfl (kItem_mkM _ _ _ y (Kd.R_mono (Kd.R_lower (base' := w.heap.size) (Kd.R_bound U0.out) hbase) (fun k hk => hk.2.1)) (Kd.R_mono (Kd.R_lower (base' := w.heap.size) (Kd.R_bound U1.out) hbase) (fun k hk => hk.2.1))) (fun k hk => ⟨trivial, fun e => absurd ((Kd.S_R HO.out).1 k e.symm) (Nat.not_lt.2 hk)⟩) (fun _ _ => trivial) (Kd.S_mono HO.out (fun k hk => ⟨trivial, fun h => absurd hk (Nat.not_lt.2 h)⟩)) HB.out HB.out.size (by have := HLN.out; omega) ?_); (intro v9 w9 ho hb hg hat); (obtain ⟨vB, vd, hv⟩ := Kd.S_slice ho); (subst hv); (have nF0 : w9.heap[w.heap.size]? = some (.cells #[.int .i64 s.f0, .slice (some ad) s.f1.length c0] 43 (0, 0)) := (hg.block _ (blk_lt F0.out) (Kd.S_ne HO.out F0.out (by decide))).trans F0.out); (have nF2 : w9.heap[w.heap.size + 1]? = some (.cells #[.int .i64 0, .slice none 0 0] 43 (0, 0)) := (hg.block _ (blk_lt F2.out) (Kd.S_ne HO.out F2.out (by decide))).trans F2.out); (clear zFB cFB_0 cFB_1 cFB_2 cFB_3 cFB_4 FB U0 U1); (clear HB HO F0 F2); (have F0 := Aside0.mk nF0); (have F2 := Aside0.mk nF2); (clear nF0 nF2); (have HB := Aside0.mk hb); (have HO := Aside0.mk ho); (clear ho hb hg hat)))
    go_roundg (s.f1.length - (i + 1))
    case measure => omega
    case rel => exact ⟨i + 1, vB, vd, by omega, Nat.le_refl _, by go_num, by rw [HN.out, List.length_append]; rfl, HB, F0, F2, ⟨by rw [HN.out]; exact HO.out⟩⟩
  ·have hlt' : ¬ (i : Int) < (s.f1.length : Int) := by omega
   rw [show s.f1.take i = s.f1 from List.take_of_length_le (by omega)] at HO ⊢
   have zF0 := blk_lt F0.out
   have cF0_0 : wr.cell? ⟨w.heap.size, 0, none⟩ = some (.int .i64 s.f0) := clq F0.out 0 rfl
   have dF0_0 := fzq F0.out 0
   have cF0_1 : wr.cell? ⟨w.heap.size, 1, none⟩ = some (.slice A0 s.f1.length c0) := clq F0.out 1 rfl
   have dF0_1 := fzq F0.out 1
   have zF2 := blk_lt F2.out
   have cF2_0 : wr.cell? ⟨w.heap.size + 1, 0, none⟩ = some (.int .i64 0) := clq F2.out 0 rfl
   have dF2_0 := fzq F2.out 0
   have cF2_1 : wr.cell? ⟨w.heap.size + 1, 1, none⟩ = some (.slice none 0 0) := clq F2.out 1 rfl
   have dF2_1 := fzq F2.out 1
   go_wp2
   refine bodyPost_ret (v := .agg #[.int .i64 s.f0, .slice Ao s.f1.length co]) ?hr rfl ?hp
   case hr => simp [results, Tryz.results29, go_sem, zF0, cF0_0, dF0_0, cF0_1, dF0_1, zF2, cF2_0, dF2_0, cF2_1, dF2_1]
   case hp => exact ⟨Ao, co, rfl, S_other (S_other HO.out F0.out (by decide) (grown_set1 _ _ _ _)) (blk_far F2.out (by show w.heap.size + 1 ≠ w.heap.size; omega) _) (by decide) ((grown_set1 _ _ _ _).trans (grown_set1 _ _ _ _)), by (with_reducible repeat (first | exact HB.out | refine bel_set ?_ _ ?_)); all_goals ((try dsimp only); omega)⟩

end Go.Proofs.YtiaibgkpohmihaaGreatDoor
