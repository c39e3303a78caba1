/- Copies of spools, of the program: a contract. -/
import Derived.Test.YtiaibgkpohmihaaDoorReg
import Derived.Test.YtiaibgkpohmihaaDoorCpItem
import Derived.Test.YtiaibgkpohmihaaDoorSpoolD
import Derived.Test.YtiaibgkpohmihaaDoorIdxT
import Derived.Test.YtiaibgkpohmihaaDoorBlk
import Derived.Laws.IdiomCopy
import Derived.Deep.RegionHeld3
import Derived.Deep.QuietTactic
import Derived.BigQuiet
import Derived.StillTailTactics
namespace Go.Proofs.YtiaibgkpohmihaaDoor
open Go.RowKit Go.Proofs.YtiaibgkpohmihaaDoorW.PrintWords
set_option linter.unusedVariables false
set_option linter.unusedSimpArgs false

set_option maxRecDepth 100000 in
set_option maxHeartbeats 4000000 in
theorem spoolCopied_any (s : SSpool) (A0 : Option Addr) (c0 : Nat) (w : World) (hw : fitSpool s) (hr0 : Kd.C kItem w A0 s.f1.length s.f1) :
  Calls Tryd.prog 47 #[.agg #[.int .i64 s.f0, .slice A0 s.f1.length c0]] w fun e w' => ∃ B d, e = .returned (.agg #[.int .i64 s.f0, .slice B s.f1.length d]) ∧ Kd.S kItem 28 w' w.heap.size (fun _ => True) (.slice B s.f1.length d) s.f1 ∧ Below w.heap.size w w' := by
 obtain ⟨hw0, hlen, hx⟩ := hw
 have HX := Lib.hid hx
 clear hx
 go_enter Tryd.func47, Tryd.ntmps47
 go_wp2
 obtain ⟨W0, hW0⟩ : ∃ W, W = ((w.alloc (.cells #[.int .i64 s.f0, .slice A0 s.f1.length c0] 43)).alloc (.cells #[.int .i64 0, .slice none 0 0] 43)) := ⟨_, rfl⟩
 rw [← hW0]
 have HB : Aside0 (Below w.heap.size w W0) := ⟨by rw [hW0]; exact (bel_alloc (bel_alloc (Below.refl _ _) _) _)⟩
 have F0 : Aside0 (W0.heap[w.heap.size]? = some (.cells #[.int .i64 s.f0, .slice A0 s.f1.length c0] 43 (0, 0))) := ⟨by rw [hW0]; exact blk_alloc (blk_at _ _ (by first | rfl | (simp; done))) _⟩
 have F2 : Aside0 (W0.heap[w.heap.size + 1]? = some (.cells #[.int .i64 0, .slice none 0 0] 43 (0, 0))) := ⟨by rw [hW0]; exact blk_at _ _ (by simp)⟩
 have HL : Aside0 (w.heap.size + 2 ≤ W0.heap.size) := ⟨by rw [hW0]; simp⟩
 clear hW0
 go_loopg [3, 9] (s.f1.length) (fun g v3 v9 wr => ∃ (i : Nat) (Ao : Option Addr) (co : Nat), i ≤ s.f1.length ∧ s.f1.length - i ≤ g ∧ v9 = .int .i64 i ∧ v3 = .slice Ao (s.f1.take i).length co ∧ Aside0 (Below w.heap.size w wr) ∧ Aside0 (wr.heap[w.heap.size]? = some (.cells #[.int .i64 s.f0, .slice A0 s.f1.length c0] 43 (0, 0))) ∧ Aside0 (wr.heap[w.heap.size + 1]? = some (.cells #[.int .i64 0, .slice none 0 0] 43 (0, 0))) ∧ Aside0 (Kd.S kItem 28 wr w.heap.size (fun _ => True) (.slice Ao (s.f1.take i).length co) (s.f1.take i)))
 case atStart => exact ⟨0, none, 0, Nat.zero_le _, by omega, rfl, rfl, HB, F0, F2, ⟨Kd.S_nil _ _ _ _ _⟩⟩
 case round =>
  clear HB F0 F2 HL
  obtain ⟨i, Ao, co, hi, hg, rfl, rfl, HB, F0, F2, HO⟩ := hrel
  by_cases hlt : i < s.f1.length
  ·have hlt' : (i : Int) < (s.f1.length : Int) := by omega
   obtain ⟨ad, Q0, qc0, Q1, qc1, e1, p0, p1, p2, p3, p4, l0, k0, l1, k1⟩ := at_Item hr0 i hlt
   subst e1
   have hm := HX.out (s.f1.getD i zItem) (getD_mem _ _ hlt)
   have hnx : s.f1.take (i + 1) = s.f1.take i ++ [s.f1.getD i zItem] := by rw [List.take_succ_eq_append_getElem hlt, List.getD, List.getElem?_eq_getElem hlt]; rfl
   have hln : (s.f1.take i).length = i := by rw [List.length_take]; omega
   generalize s.f1.getD i zItem = y at p0 p1 p2 p3 p4 l0 k0 l1 k1 hm hnx
   generalize s.f1.take i = ys at HO hnx hln ⊢
   have HN := Lib.hid hnx
   have HLN := Lib.hid hln
   have HM := Lib.hid hm
   have K0 := Aside0.mk k0
   have K1 := Aside0.mk k1
   have HWR := Aside0.mk HB.out.size
   have HE : Aside0 (∀ W, Below w.heap.size w W → W.cell? (ad.add (i * 5)) = some (.int .i64 y.f0) ∧ W.cell? ⟨(ad.add (i * 5)).block, (ad.add (i * 5)).off + 1, none⟩ = some (.string y.f1.f0) ∧ W.cell? ⟨(ad.add (i * 5)).block, (ad.add (i * 5)).off + 2, none⟩ = some (.string y.f1.f1) ∧ W.cell? ⟨(ad.add (i * 5)).block, (ad.add (i * 5)).off + 3, none⟩ = some (.slice Q0 y.f2.length qc0) ∧ W.cell? ⟨(ad.add (i * 5)).block, (ad.add (i * 5)).off + 4, none⟩ = some (.slice Q1 y.f3.length qc1)) := ⟨fun W h => ⟨(h.cell (World.block_lt_of_cell? _ _ p0)).trans p0, (h.cell (World.block_lt_of_cell? _ _ p1)).trans p1, (h.cell (World.block_lt_of_cell? _ _ p2)).trans p2, (h.cell (World.block_lt_of_cell? _ _ p3)).trans p3, (h.cell (World.block_lt_of_cell? _ _ p4)).trans p4⟩⟩
   clear hnx k0 k1 l0 l1 hln hm p0 p1 p2 p3 p4
   obtain ⟨c5_0, c5_1, c5_2, c5_3, c5_4⟩ := HE.out _ HB.out
   replace HO : Aside0 (Kd.S kItem 28 wr w.heap.size (fun k => k < wr.heap.size) (.slice Ao ys.length co) ys) := ⟨Kd.S_mono (Kd.S_bound HO.out) (fun k hk => hk.2.2.1)⟩
   have HL : Aside0 (w.heap.size + 2 ≤ wr.heap.size) := ⟨by have := blk_lt F2.out; omega⟩
   go_wp2_with fail
   clear c5_0 c5_1 c5_2 c5_3 c5_4
   generalize hWwb : World.alloc (wr) _ = wb
   have ltF0 := blk_lt F0.out
   have ltF2 := blk_lt F2.out
   have ltb := HB.out.size
   have ltl := HL.out
   have TT : ∀ k, k < wr.heap.size → wb.heap[k]? = wr.heap[k]? := fun k hk => by rw [← hWwb]; (with_reducible repeat (first | rfl | refine hp_set ?_ ?_ | refine hp_alloc ?_ ?_ | refine hp_drew ?_)); all_goals (first | (with_reducible rfl) | omega | (dsimp only; omega) | (simp; omega))
   have TS : wr.heap.size + 1 ≤ wb.heap.size := by rw [← hWwb]; simp
   have nF0 : wb.heap[w.heap.size]? = some (.cells #[.int .i64 s.f0, .slice (some ad) s.f1.length c0] 43 (0, 0)) := (TT _ ltF0).trans F0.out
   have nF2 : wb.heap[w.heap.size + 1]? = some (.cells #[.int .i64 0, .slice none 0 0] 43 (0, 0)) := (TT _ ltF2).trans F2.out
   have nFB : wb.heap[wr.heap.size]? = some (.cells #[.int .i64 y.f0, .string y.f1.f0, .string y.f1.f1, .slice Q0 y.f2.length qc0, .slice Q1 y.f3.length qc1] 28 (0, 0)) := by rw [← hWwb]; exact blk_new wr (.cells #[.int .i64 y.f0, .string y.f1.f0, .string y.f1.f1, .slice Q0 y.f2.length qc0, .slice Q1 y.f3.length qc1] 28)
   have nHO : Kd.S kItem 28 wb w.heap.size (fun k => k < wr.heap.size) (.slice Ao ys.length co) ys := Kd.S_step HO.out (fun k hk hlt => TT k hlt)
   have nHB : Below w.heap.size w wb := by rw [← hWwb]; exact bel_alloc (HB.out) _
   clear hWwb F0 F2 HB HO
   have F0 := Aside0.mk nF0
   clear nF0
   have F2 := Aside0.mk nF2
   clear nF2
   have FB := Aside0.mk nFB
   clear nFB
   have HO := Aside0.mk nHO
   clear nHO
   have HB := Aside0.mk nHB
   clear nHB
   have oFB_ltF0 := ltF0
   have oFB_ltF2 := ltF2
   have oFB_ltl := ltl
   have oFB_ts := TS
   replace HL := Aside0.mk (Nat.le_trans HL.out (by omega : wr.heap.size ≤ wb.heap.size))
   clear TT TS ltF0 ltF2 ltb ltl
   have join : Hid (∀ {goal : Prop} {G : Option Addr → Nat → Option Addr → Nat → World → Prop} (rg : Hid (∀ (B0 : Option Addr) (d0 : Nat) (B1 : Option Addr) (d1 : Nat) (V : World), Below w.heap.size w V ∧ V.heap[w.heap.size]? = some (.cells #[.int .i64 s.f0, .slice (some ad) s.f1.length c0] 43 (0, 0)) ∧ V.heap[w.heap.size + 1]? = some (.cells #[.int .i64 0, .slice none 0 0] 43 (0, 0)) ∧ V.heap[wr.heap.size]? = some (.cells #[.int .i64 y.f0, .string y.f1.f0, .string y.f1.f1, .slice B0 y.f2.length d0, .slice B1 y.f3.length d1] 28 (0, 0)) ∧ Kd.S kItem 28 V w.heap.size (fun k => k < wr.heap.size) (.slice Ao ys.length co) ys ∧ Kd.R kRcpt 55 V wr.heap.size (fun _ => True) (.slice B0 y.f2.length d0) y.f2 ∧ Kd.R Kd.string 9 V wr.heap.size (fun _ => True) (.slice B1 y.f3.length d1) y.f3 → G B0 d0 B1 d1 V) → goal) (hk : ∀ (B0 : Option Addr) (d0 : Nat) (B1 : Option Addr) (d1 : Nat) (V : World), Below w.heap.size w V ∧ V.heap[w.heap.size]? = some (.cells #[.int .i64 s.f0, .slice (some ad) s.f1.length c0] 43 (0, 0)) ∧ V.heap[w.heap.size + 1]? = some (.cells #[.int .i64 0, .slice none 0 0] 43 (0, 0)) ∧ V.heap[wr.heap.size]? = some (.cells #[.int .i64 y.f0, .string y.f1.f0, .string y.f1.f1, .slice B0 y.f2.length d0, .slice B1 y.f3.length d1] 28 (0, 0)) ∧ Kd.S kItem 28 V w.heap.size (fun k => k < wr.heap.size) (.slice Ao ys.length co) ys ∧ Kd.R kRcpt 55 V wr.heap.size (fun _ => True) (.slice B0 y.f2.length d0) y.f2 ∧ Kd.R Kd.string 9 V wr.heap.size (fun _ => True) (.slice B1 y.f3.length d1) y.f3 → G B0 d0 B1 d1 V), goal) := Lib.hid (fun f h => f (Lib.hid h))
   have jF0 := F0
   have jF2 := F2
   have jFB := FB
   have jHO := HO
   have jHB := HB
   have jHL := HL
   clear F0 F2 FB HO HB HL
   apply join.out
   case rg =>
    intro HKK
    have F0 := jF0
    have F2 := jF2
    have FB := jFB
    have HO := jHO
    have HB := jHB
    have HL := jHL
    refine wp_region_held_drew (S := fun (W : World) => True) (by kernel_rfl) ?s2 (fun hHeld => ?t2)
    case s2 => exact (show (fun (W : World) => True) (World.drew wb) from trivial)
    generalize hWVs : World.drew (wb) = Vs at hHeld ⊢
    have ltF0 := blk_lt F0.out
    have ltF2 := blk_lt F2.out
    have ltFB := blk_lt FB.out
    have ltb := HB.out.size
    have ltl := HL.out
    have TT : ∀ k, k < wb.heap.size → Vs.heap[k]? = wb.heap[k]? := fun k hk => by rw [← hWVs]; (with_reducible repeat (first | rfl | refine hp_set ?_ ?_ | refine hp_alloc ?_ ?_ | refine hp_drew ?_)); all_goals (first | (with_reducible rfl) | omega | (dsimp only; omega) | (simp; omega))
    have TS : wb.heap.size + 0 ≤ Vs.heap.size := by rw [← hWVs]; simp
    have nF0 : Vs.heap[w.heap.size]? = some (.cells #[.int .i64 s.f0, .slice (some ad) s.f1.length c0] 43 (0, 0)) := (TT _ ltF0).trans F0.out
    have nF2 : Vs.heap[w.heap.size + 1]? = some (.cells #[.int .i64 0, .slice none 0 0] 43 (0, 0)) := (TT _ ltF2).trans F2.out
    have nFB : Vs.heap[wr.heap.size]? = some (.cells #[.int .i64 y.f0, .string y.f1.f0, .string y.f1.f1, .slice Q0 y.f2.length qc0, .slice Q1 y.f3.length qc1] 28 (0, 0)) := (TT _ ltFB).trans FB.out
    have nHO : Kd.S kItem 28 Vs w.heap.size (fun k => k < wr.heap.size) (.slice Ao ys.length co) ys := Kd.S_step HO.out (fun k hk hlt => TT k hlt)
    have nHB : Below w.heap.size w Vs := by rw [← hWVs]; exact bel_then (HB.out) (drew_below0 _)
    clear hWVs F0 F2 FB HB HO
    have F0 := Aside0.mk nF0
    clear nF0
    have F2 := Aside0.mk nF2
    clear nF2
    have FB := Aside0.mk nFB
    clear nFB
    have HO := Aside0.mk nHO
    clear nHO
    have HB := Aside0.mk nHB
    clear nHB
    replace HL := Aside0.mk (Nat.le_trans HL.out (by omega : wb.heap.size ≤ Vs.heap.size))
    clear TT TS ltF0 ltF2 ltFB ltb ltl
    refine tk 0 ?v3 ?y3 ?r3
    case y3 => intro w_ hSw; (try dsimp only at hSw); clear hSw; go_simp; (try (with_reducible rfl))
    try simp only [Act.put, List.setIfInBounds_toArray, List.set_cons_zero, List.set_cons_succ]
    refine tk 3 ?v4 ?y4 ?r4
    case y4 => intro w_ hSw; (try dsimp only at hSw); clear hSw; go_simp; (try (with_reducible rfl))
    try simp only [Act.put, List.setIfInBounds_toArray, List.set_cons_zero, List.set_cons_succ]
    refine rdy (rs := [1, 4]) ?_
    refine rc (fun K hK => ?k5) (rc (fun K hK => ?k6) AllReadyH.nil)
    case k5 =>
     have zFB := blk_lt FB.out
     have cFB_0 : Vs.cell? ⟨wr.heap.size, 0, none⟩ = some (.int .i64 y.f0) := clq FB.out 0 rfl
     have cFB_1 : Vs.cell? ⟨wr.heap.size, 1, none⟩ = some (.string y.f1.f0) := clq FB.out 1 rfl
     have cFB_2 : Vs.cell? ⟨wr.heap.size, 2, none⟩ = some (.string y.f1.f1) := clq FB.out 2 rfl
     have cFB_3 : Vs.cell? ⟨wr.heap.size, 3, none⟩ = some (.slice Q0 y.f2.length qc0) := clq FB.out 3 rfl
     have cFB_4 : Vs.cell? ⟨wr.heap.size, 4, none⟩ = some (.slice Q1 y.f3.length qc1) := clq FB.out 4 rfl
     go_simp
     refine hK.out _ _ ?h7 (fun hHeld => ?j7)
     case h7 => exact hHeld
     clear hK K
     try simp only [Act.put, List.setIfInBounds_toArray, List.set_cons_zero, List.set_cons_succ]
     refine rdy (rs := [2, 4]) ?_
     refine rc (fun K hK => ?k8) (rc (fun K hK => ?k9) AllReadyH.nil)
     case k8 =>
      go_simp
      have hNV := Nat.le_of_lt (blk_lt FB.out)
      refine Calls.mono (cloneRcpt_any Q0 qc0 y.f2 _ (Kd.C_below K0.out HB.out) (by have := HM.out.2.2.1.1; omega)) ?_
      rintro e V2 ⟨B0, d0, rfl, rU0, bV2⟩
      clear zFB cFB_0 cFB_1 cFB_2 cFB_3 cFB_4
      replace F0 := Aside0.mk (below_blk F0.out bV2)
      replace F2 := Aside0.mk (below_blk F2.out bV2)
      replace FB := Aside0.mk (below_blk FB.out bV2)
      replace HO := Aside0.mk (Kd.S_below HO.out bV2)
      have U0 : Aside0 (Kd.R kRcpt 55 V2 wr.heap.size (fun _ => True) (.slice B0 y.f2.length d0) y.f2) := ⟨Kd.R_lower (base' := wr.heap.size) rU0 hNV⟩
      clear rU0
      replace HB := Aside0.mk (bel_then HB.out bV2)
      replace HL := Aside0.mk (Nat.le_trans HL.out bV2.size)
      clear bV2
      clear hNV
      refine hK.out _ _ ?h10 (fun hHeld => ?j10)
      case h10 => exact trivial
      clear hK K
      try simp only [Act.put, List.setIfInBounds_toArray, List.set_cons_zero, List.set_cons_succ]
      refine rdy (rs := [4]) ?_
      refine rc (fun K hK => ?k11) AllReadyH.nil
      case k11 =>
       have zFB := blk_lt FB.out
       have cFB_0 : V2.cell? ⟨wr.heap.size, 0, none⟩ = some (.int .i64 y.f0) := clq FB.out 0 rfl
       have cFB_1 : V2.cell? ⟨wr.heap.size, 1, none⟩ = some (.string y.f1.f0) := clq FB.out 1 rfl
       have cFB_2 : V2.cell? ⟨wr.heap.size, 2, none⟩ = some (.string y.f1.f1) := clq FB.out 2 rfl
       have cFB_3 : V2.cell? ⟨wr.heap.size, 3, none⟩ = some (.slice Q0 y.f2.length qc0) := clq FB.out 3 rfl
       have cFB_4 : V2.cell? ⟨wr.heap.size, 4, none⟩ = some (.slice Q1 y.f3.length qc1) := clq FB.out 4 rfl
       go_simp
       refine hK.out _ _ ?h12 (fun hHeld => ?j12)
       case h12 => exact hHeld
       clear hK K
       try simp only [Act.put, List.setIfInBounds_toArray, List.set_cons_zero, List.set_cons_succ]
       refine tk 6 ?v13 ?y13 ?r13
       case y13 => intro w_ hSw; (try dsimp only at hSw); clear hSw; go_simp; (try (with_reducible rfl))
       try simp only [Act.put, List.setIfInBounds_toArray, List.set_cons_zero, List.set_cons_succ]
       refine rdy (rs := [5]) ?_
       refine rc (fun K hK => ?k14) AllReadyH.nil
       case k14 =>
        go_simp
        have hNV := Nat.le_of_lt (blk_lt FB.out)
        refine Calls.mono (cloneString_any Q1 qc1 y.f3 _ (Kd.C_below K1.out HB.out) (by have := HM.out.2.2.2.1; omega)) ?_
        rintro e V5 ⟨B1, d1, rfl, rU1, bV5⟩
        clear zFB cFB_0 cFB_1 cFB_2 cFB_3 cFB_4
        replace F0 := Aside0.mk (below_blk F0.out bV5)
        replace F2 := Aside0.mk (below_blk F2.out bV5)
        replace FB := Aside0.mk (below_blk FB.out bV5)
        replace HO := Aside0.mk (Kd.S_below HO.out bV5)
        replace U0 := Aside0.mk (Kd.R_below U0.out bV5)
        have U1 : Aside0 (Kd.R Kd.string 9 V5 wr.heap.size (fun _ => True) (.slice B1 y.f3.length d1) y.f3) := ⟨Kd.R_lower (base' := wr.heap.size) rU1 hNV⟩
        clear rU1
        replace HB := Aside0.mk (bel_then HB.out bV5)
        replace HL := Aside0.mk (Nat.le_trans HL.out bV5.size)
        clear bV5
        clear hNV
        refine hK.out _ _ ?h15 (fun hHeld => ?j15)
        case h15 => exact trivial
        clear hK K
        try simp only [Act.put, List.setIfInBounds_toArray, List.set_cons_zero, List.set_cons_succ]
        refine rdy (rs := [7]) ?_
        refine rc (fun K hK => ?k16) AllReadyH.nil
        case k16 =>
         have zFB := blk_lt FB.out
         have cFB_0 : V5.cell? ⟨wr.heap.size, 0, none⟩ = some (.int .i64 y.f0) := clq FB.out 0 rfl
         have dFB_0 := fzq FB.out 0
         have cFB_1 : V5.cell? ⟨wr.heap.size, 1, none⟩ = some (.string y.f1.f0) := clq FB.out 1 rfl
         have dFB_1 := fzq FB.out 1
         have cFB_2 : V5.cell? ⟨wr.heap.size, 2, none⟩ = some (.string y.f1.f1) := clq FB.out 2 rfl
         have dFB_2 := fzq FB.out 2
         have cFB_3 : V5.cell? ⟨wr.heap.size, 3, none⟩ = some (.slice Q0 y.f2.length qc0) := clq FB.out 3 rfl
         have dFB_3 := fzq FB.out 3
         have cFB_4 : V5.cell? ⟨wr.heap.size, 4, none⟩ = some (.slice Q1 y.f3.length qc1) := clq FB.out 4 rfl
         have dFB_4 := fzq FB.out 4
         go_simp
         generalize hWV7 : World.setCell (V5) _ _ = V7
         have ltF0 := blk_lt F0.out
         have ltF2 := blk_lt F2.out
         have ltFB := blk_lt FB.out
         have ltb := HB.out.size
         have ltl := HL.out
         have TT : ∀ k, k < V5.heap.size → k ≠ wr.heap.size → V7.heap[k]? = V5.heap[k]? := fun k hk n_FB => by rw [← hWV7]; (with_reducible repeat (first | rfl | refine hp_set ?_ ?_ | refine hp_alloc ?_ ?_ | refine hp_drew ?_)); all_goals (first | (with_reducible rfl) | omega | (dsimp only; omega) | (simp; omega))
         have TS : V5.heap.size + 0 ≤ V7.heap.size := by rw [← hWV7]; simp
         have nF0 : V7.heap[w.heap.size]? = some (.cells #[.int .i64 s.f0, .slice (some ad) s.f1.length c0] 43 (0, 0)) := (TT _ ltF0 (by omega)).trans F0.out
         have nF2 : V7.heap[w.heap.size + 1]? = some (.cells #[.int .i64 0, .slice none 0 0] 43 (0, 0)) := (TT _ ltF2 (by omega)).trans F2.out
         have nFB : V7.heap[wr.heap.size]? = some (.cells #[.int .i64 y.f0, .string y.f1.f0, .string y.f1.f1, .slice B0 y.f2.length d0, .slice Q1 y.f3.length qc1] 28 (0, 0)) := by rw [← hWV7]; have h := blk_set1 (FB.out) 3 (.slice B0 y.f2.length d0); simpa using h
         have nHO : Kd.S kItem 28 V7 w.heap.size (fun k => k < wr.heap.size) (.slice Ao ys.length co) ys := Kd.S_step HO.out (fun k hk hlt => TT k hlt (by have h_ : k < wr.heap.size := hk; omega))
         have nU0 : Kd.R kRcpt 55 V7 wr.heap.size (fun _ => True) (.slice B0 y.f2.length d0) y.f2 := R_keepT U0.out rfl (fun k hk ho => TT k hk (fun e => Kd.R_ne U0.out FB.out (by decide) (e ▸ ho)))
         have nU1 : Kd.R Kd.string 9 V7 wr.heap.size (fun _ => True) (.slice B1 y.f3.length d1) y.f3 := R_keepT U1.out rfl (fun k hk ho => TT k hk (fun e => Kd.R_ne U1.out FB.out (by decide) (e ▸ ho)))
         have nHB : Below w.heap.size w V7 := by rw [← hWV7]; exact bel_set (HB.out) _ (by show w.heap.size ≤ wr.heap.size; first | omega | (simp; omega))
         clear zFB cFB_0 dFB_0 cFB_1 dFB_1 cFB_2 dFB_2 cFB_3 dFB_3 cFB_4 dFB_4
         clear hWV7 F0 F2 FB HB HO U0 U1
         have F0 := Aside0.mk nF0
         clear nF0
         have F2 := Aside0.mk nF2
         clear nF2
         have FB := Aside0.mk nFB
         clear nFB
         have HO := Aside0.mk nHO
         clear nHO
         have U0 := Aside0.mk nU0
         clear nU0
         have U1 := Aside0.mk nU1
         clear nU1
         have HB := Aside0.mk nHB
         clear nHB
         replace HL := Aside0.mk (Nat.le_trans HL.out (by omega : V5.heap.size ≤ V7.heap.size))
         clear TT TS ltF0 ltF2 ltFB ltb ltl
         refine hK.out _ _ ?h17 (fun hHeld => ?j17)
         case h17 => exact trivial
         clear hK K
         try simp only [Act.put, List.setIfInBounds_toArray, List.set_cons_zero, List.set_cons_succ]
         refine tk 8 ?v18 ?y18 ?r18
         case y18 => intro w_ hSw; (try dsimp only at hSw); clear hSw; go_simp; (try (with_reducible rfl))
         try simp only [Act.put, List.setIfInBounds_toArray, List.set_cons_zero, List.set_cons_succ]
         refine rdy (rs := [9]) ?_
         refine rc (fun K hK => ?k19) AllReadyH.nil
         case k19 =>
          have zFB := blk_lt FB.out
          have cFB_0 : V7.cell? ⟨wr.heap.size, 0, none⟩ = some (.int .i64 y.f0) := clq FB.out 0 rfl
          have dFB_0 := fzq FB.out 0
          have cFB_1 : V7.cell? ⟨wr.heap.size, 1, none⟩ = some (.string y.f1.f0) := clq FB.out 1 rfl
          have dFB_1 := fzq FB.out 1
          have cFB_2 : V7.cell? ⟨wr.heap.size, 2, none⟩ = some (.string y.f1.f1) := clq FB.out 2 rfl
          have dFB_2 := fzq FB.out 2
          have cFB_3 : V7.cell? ⟨wr.heap.size, 3, none⟩ = some (.slice B0 y.f2.length d0) := clq FB.out 3 rfl
          have dFB_3 := fzq FB.out 3
          have cFB_4 : V7.cell? ⟨wr.heap.size, 4, none⟩ = some (.slice Q1 y.f3.length qc1) := clq FB.out 4 rfl
          have dFB_4 := fzq FB.out 4
          go_simp
          generalize hWV9 : World.setCell (V7) _ _ = V9
          have ltF0 := blk_lt F0.out
          have ltF2 := blk_lt F2.out
          have ltFB := blk_lt FB.out
          have ltb := HB.out.size
          have ltl := HL.out
          have TT : ∀ k, k < V7.heap.size → k ≠ wr.heap.size → V9.heap[k]? = V7.heap[k]? := fun k hk n_FB => by rw [← hWV9]; (with_reducible repeat (first | rfl | refine hp_set ?_ ?_ | refine hp_alloc ?_ ?_ | refine hp_drew ?_)); all_goals (first | (with_reducible rfl) | omega | (dsimp only; omega) | (simp; omega))
          have TS : V7.heap.size + 0 ≤ V9.heap.size := by rw [← hWV9]; simp
          have nF0 : V9.heap[w.heap.size]? = some (.cells #[.int .i64 s.f0, .slice (some ad) s.f1.length c0] 43 (0, 0)) := (TT _ ltF0 (by omega)).trans F0.out
          have nF2 : V9.heap[w.heap.size + 1]? = some (.cells #[.int .i64 0, .slice none 0 0] 43 (0, 0)) := (TT _ ltF2 (by omega)).trans F2.out
          have nFB : V9.heap[wr.heap.size]? = some (.cells #[.int .i64 y.f0, .string y.f1.f0, .string y.f1.f1, .slice B0 y.f2.length d0, .slice B1 y.f3.length d1] 28 (0, 0)) := by rw [← hWV9]; have h := blk_set1 (FB.out) 4 (.slice B1 y.f3.length d1); simpa using h
          have nHO : Kd.S kItem 28 V9 w.heap.size (fun k => k < wr.heap.size) (.slice Ao ys.length co) ys := Kd.S_step HO.out (fun k hk hlt => TT k hlt (by have h_ : k < wr.heap.size := hk; omega))
          have nU0 : Kd.R kRcpt 55 V9 wr.heap.size (fun _ => True) (.slice B0 y.f2.length d0) y.f2 := R_keepT U0.out rfl (fun k hk ho => TT k hk (fun e => Kd.R_ne U0.out FB.out (by decide) (e ▸ ho)))
          have nU1 : Kd.R Kd.string 9 V9 wr.heap.size (fun _ => True) (.slice B1 y.f3.length d1) y.f3 := R_keepT U1.out rfl (fun k hk ho => TT k hk (fun e => Kd.R_ne U1.out FB.out (by decide) (e ▸ ho)))
          have nHB : Below w.heap.size w V9 := by rw [← hWV9]; exact bel_set (HB.out) _ (by show w.heap.size ≤ wr.heap.size; first | omega | (simp; omega))
          clear zFB cFB_0 dFB_0 cFB_1 dFB_1 cFB_2 dFB_2 cFB_3 dFB_3 cFB_4 dFB_4
          clear hWV9 F0 F2 FB HB HO U0 U1
          have F0 := Aside0.mk nF0
          clear nF0
          have F2 := Aside0.mk nF2
          clear nF2
          have FB := Aside0.mk nFB
          clear nFB
          have HO := Aside0.mk nHO
          clear nHO
          have U0 := Aside0.mk nU0
          clear nU0
          have U1 := Aside0.mk nU1
          clear nU1
          have HB := Aside0.mk nHB
          clear nHB
          replace HL := Aside0.mk (Nat.le_trans HL.out (by omega : V7.heap.size ≤ V9.heap.size))
          clear TT TS ltF0 ltF2 ltFB ltb ltl
          refine hK.out _ _ ?h20 (fun hHeld => ?j20)
          case h20 => exact trivial
          clear hK K
          try simp only [Act.put, List.setIfInBounds_toArray, List.set_cons_zero, List.set_cons_succ]
          refine wpAnyH_done (by kernel_rfl) ?_ _
          exact HKK.out B0 d0 B1 d1 V9 ⟨HB.out, F0.out, F2.out, FB.out, HO.out, U0.out, U1.out⟩
     case k9 =>
      clear zFB cFB_0 cFB_1 cFB_2 cFB_3 cFB_4
      have zFB := blk_lt FB.out
      have cFB_0 : Vs.cell? ⟨wr.heap.size, 0, none⟩ = some (.int .i64 y.f0) := clq FB.out 0 rfl
      have cFB_1 : Vs.cell? ⟨wr.heap.size, 1, none⟩ = some (.string y.f1.f0) := clq FB.out 1 rfl
      have cFB_2 : Vs.cell? ⟨wr.heap.size, 2, none⟩ = some (.string y.f1.f1) := clq FB.out 2 rfl
      have cFB_3 : Vs.cell? ⟨wr.heap.size, 3, none⟩ = some (.slice Q0 y.f2.length qc0) := clq FB.out 3 rfl
      have cFB_4 : Vs.cell? ⟨wr.heap.size, 4, none⟩ = some (.slice Q1 y.f3.length qc1) := clq FB.out 4 rfl
      go_simp
      refine hK.out _ _ ?h21 (fun hHeld => ?j21)
      case h21 => exact hHeld
      clear hK K
      try simp only [Act.put, List.setIfInBounds_toArray, List.set_cons_zero, List.set_cons_succ]
      refine rdy (rs := [2]) ?_
      refine rc (fun K hK => ?k22) AllReadyH.nil
      case k22 =>
       go_simp
       have hNV := Nat.le_of_lt (blk_lt FB.out)
       refine Calls.mono (cloneRcpt_any Q0 qc0 y.f2 _ (Kd.C_below K0.out HB.out) (by have := HM.out.2.2.1.1; omega)) ?_
       rintro e V2 ⟨B0, d0, rfl, rU0, bV2⟩
       clear zFB cFB_0 cFB_1 cFB_2 cFB_3 cFB_4
       replace F0 := Aside0.mk (below_blk F0.out bV2)
       replace F2 := Aside0.mk (below_blk F2.out bV2)
       replace FB := Aside0.mk (below_blk FB.out bV2)
       replace HO := Aside0.mk (Kd.S_below HO.out bV2)
       have U0 : Aside0 (Kd.R kRcpt 55 V2 wr.heap.size (fun _ => True) (.slice B0 y.f2.length d0) y.f2) := ⟨Kd.R_lower (base' := wr.heap.size) rU0 hNV⟩
       clear rU0
       replace HB := Aside0.mk (bel_then HB.out bV2)
       replace HL := Aside0.mk (Nat.le_trans HL.out bV2.size)
       clear bV2
       clear hNV
       refine hK.out _ _ ?h23 (fun hHeld => ?j23)
       case h23 => exact trivial
       clear hK K
       try simp only [Act.put, List.setIfInBounds_toArray, List.set_cons_zero, List.set_cons_succ]
       refine tk 6 ?v24 ?y24 ?r24
       case y24 => intro w_ hSw; (try dsimp only at hSw); clear hSw; go_simp; (try (with_reducible rfl))
       try simp only [Act.put, List.setIfInBounds_toArray, List.set_cons_zero, List.set_cons_succ]
       refine rdy (rs := [5]) ?_
       refine rc (fun K hK => ?k25) AllReadyH.nil
       case k25 =>
        go_simp
        have hNV := Nat.le_of_lt (blk_lt FB.out)
        refine Calls.mono (cloneString_any Q1 qc1 y.f3 _ (Kd.C_below K1.out HB.out) (by have := HM.out.2.2.2.1; omega)) ?_
        rintro e V5 ⟨B1, d1, rfl, rU1, bV5⟩
        replace F0 := Aside0.mk (below_blk F0.out bV5)
        replace F2 := Aside0.mk (below_blk F2.out bV5)
        replace FB := Aside0.mk (below_blk FB.out bV5)
        replace HO := Aside0.mk (Kd.S_below HO.out bV5)
        replace U0 := Aside0.mk (Kd.R_below U0.out bV5)
        have U1 : Aside0 (Kd.R Kd.string 9 V5 wr.heap.size (fun _ => True) (.slice B1 y.f3.length d1) y.f3) := ⟨Kd.R_lower (base' := wr.heap.size) rU1 hNV⟩
        clear rU1
        replace HB := Aside0.mk (bel_then HB.out bV5)
        replace HL := Aside0.mk (Nat.le_trans HL.out bV5.size)
        clear bV5
        clear hNV
        refine hK.out _ _ ?h26 (fun hHeld => ?j26)
        case h26 => exact trivial
        clear hK K
        try simp only [Act.put, List.setIfInBounds_toArray, List.set_cons_zero, List.set_cons_succ]
        refine rdy (rs := [7]) ?_
        refine rc (fun K hK => ?k27) AllReadyH.nil
        case k27 =>
         have zFB := blk_lt FB.out
         have cFB_0 : V5.cell? ⟨wr.heap.size, 0, none⟩ = some (.int .i64 y.f0) := clq FB.out 0 rfl
         have dFB_0 := fzq FB.out 0
         have cFB_1 : V5.cell? ⟨wr.heap.size, 1, none⟩ = some (.string y.f1.f0) := clq FB.out 1 rfl
         have dFB_1 := fzq FB.out 1
         have cFB_2 : V5.cell? ⟨wr.heap.size, 2, none⟩ = some (.string y.f1.f1) := clq FB.out 2 rfl
         have dFB_2 := fzq FB.out 2
         have cFB_3 : V5.cell? ⟨wr.heap.size, 3, none⟩ = some (.slice Q0 y.f2.length qc0) := clq FB.out 3 rfl
         have dFB_3 := fzq FB.out 3
         have cFB_4 : V5.cell? ⟨wr.heap.size, 4, none⟩ = some (.slice Q1 y.f3.length qc1) := clq FB.out 4 rfl
         have dFB_4 := fzq FB.out 4
         go_simp
         generalize hWV7 : World.setCell (V5) _ _ = V7
         have ltF0 := blk_lt F0.out
         have ltF2 := blk_lt F2.out
         have ltFB := blk_lt FB.out
         have ltb := HB.out.size
         have ltl := HL.out
         have TT : ∀ k, k < V5.heap.size → k ≠ wr.heap.size → V7.heap[k]? = V5.heap[k]? := fun k hk n_FB => by rw [← hWV7]; (with_reducible repeat (first | rfl | refine hp_set ?_ ?_ | refine hp_alloc ?_ ?_ | refine hp_drew ?_)); all_goals (first | (with_reducible rfl) | omega | (dsimp only; omega) | (simp; omega))
         have TS : V5.heap.size + 0 ≤ V7.heap.size := by rw [← hWV7]; simp
         have nF0 : V7.heap[w.heap.size]? = some (.cells #[.int .i64 s.f0, .slice (some ad) s.f1.length c0] 43 (0, 0)) := (TT _ ltF0 (by omega)).trans F0.out
         have nF2 : V7.heap[w.heap.size + 1]? = some (.cells #[.int .i64 0, .slice none 0 0] 43 (0, 0)) := (TT _ ltF2 (by omega)).trans F2.out
         have nFB : V7.heap[wr.heap.size]? = some (.cells #[.int .i64 y.f0, .string y.f1.f0, .string y.f1.f1, .slice B0 y.f2.length d0, .slice Q1 y.f3.length qc1] 28 (0, 0)) := by rw [← hWV7]; have h := blk_set1 (FB.out) 3 (.slice B0 y.f2.length d0); simpa using h
         have nHO : Kd.S kItem 28 V7 w.heap.size (fun k => k < wr.heap.size) (.slice Ao ys.length co) ys := Kd.S_step HO.out (fun k hk hlt => TT k hlt (by have h_ : k < wr.heap.size := hk; omega))
         have nU0 : Kd.R kRcpt 55 V7 wr.heap.size (fun _ => True) (.slice B0 y.f2.length d0) y.f2 := R_keepT U0.out rfl (fun k hk ho => TT k hk (fun e => Kd.R_ne U0.out FB.out (by decide) (e ▸ ho)))
         have nU1 : Kd.R Kd.string 9 V7 wr.heap.size (fun _ => True) (.slice B1 y.f3.length d1) y.f3 := R_keepT U1.out rfl (fun k hk ho => TT k hk (fun e => Kd.R_ne U1.out FB.out (by decide) (e ▸ ho)))
         have nHB : Below w.heap.size w V7 := by rw [← hWV7]; exact bel_set (HB.out) _ (by show w.heap.size ≤ wr.heap.size; first | omega | (simp; omega))
         clear zFB cFB_0 dFB_0 cFB_1 dFB_1 cFB_2 dFB_2 cFB_3 dFB_3 cFB_4 dFB_4
         clear hWV7 F0 F2 FB HB HO U0 U1
         have F0 := Aside0.mk nF0
         clear nF0
         have F2 := Aside0.mk nF2
         clear nF2
         have FB := Aside0.mk nFB
         clear nFB
         have HO := Aside0.mk nHO
         clear nHO
         have U0 := Aside0.mk nU0
         clear nU0
         have U1 := Aside0.mk nU1
         clear nU1
         have HB := Aside0.mk nHB
         clear nHB
         replace HL := Aside0.mk (Nat.le_trans HL.out (by omega : V5.heap.size ≤ V7.heap.size))
         clear TT TS ltF0 ltF2 ltFB ltb ltl
         refine hK.out _ _ ?h28 (fun hHeld => ?j28)
         case h28 => exact trivial
         clear hK K
         try simp only [Act.put, List.setIfInBounds_toArray, List.set_cons_zero, List.set_cons_succ]
         refine tk 8 ?v29 ?y29 ?r29
         case y29 => intro w_ hSw; (try dsimp only at hSw); clear hSw; go_simp; (try (with_reducible rfl))
         try simp only [Act.put, List.setIfInBounds_toArray, List.set_cons_zero, List.set_cons_succ]
         refine rdy (rs := [9]) ?_
         refine rc (fun K hK => ?k30) AllReadyH.nil
         case k30 =>
          have zFB := blk_lt FB.out
          have cFB_0 : V7.cell? ⟨wr.heap.size, 0, none⟩ = some (.int .i64 y.f0) := clq FB.out 0 rfl
          have dFB_0 := fzq FB.out 0
          have cFB_1 : V7.cell? ⟨wr.heap.size, 1, none⟩ = some (.string y.f1.f0) := clq FB.out 1 rfl
          have dFB_1 := fzq FB.out 1
          have cFB_2 : V7.cell? ⟨wr.heap.size, 2, none⟩ = some (.string y.f1.f1) := clq FB.out 2 rfl
          have dFB_2 := fzq FB.out 2
          have cFB_3 : V7.cell? ⟨wr.heap.size, 3, none⟩ = some (.slice B0 y.f2.length d0) := clq FB.out 3 rfl
          have dFB_3 := fzq FB.out 3
          have cFB_4 : V7.cell? ⟨wr.heap.size, 4, none⟩ = some (.slice Q1 y.f3.length qc1) := clq FB.out 4 rfl
          have dFB_4 := fzq FB.out 4
          go_simp
          generalize hWV9 : World.setCell (V7) _ _ = V9
          have ltF0 := blk_lt F0.out
          have ltF2 := blk_lt F2.out
          have ltFB := blk_lt FB.out
          have ltb := HB.out.size
          have ltl := HL.out
          have TT : ∀ k, k < V7.heap.size → k ≠ wr.heap.size → V9.heap[k]? = V7.heap[k]? := fun k hk n_FB => by rw [← hWV9]; (with_reducible repeat (first | rfl | refine hp_set ?_ ?_ | refine hp_alloc ?_ ?_ | refine hp_drew ?_)); all_goals (first | (with_reducible rfl) | omega | (dsimp only; omega) | (simp; omega))
          have TS : V7.heap.size + 0 ≤ V9.heap.size := by rw [← hWV9]; simp
          have nF0 : V9.heap[w.heap.size]? = some (.cells #[.int .i64 s.f0, .slice (some ad) s.f1.length c0] 43 (0, 0)) := (TT _ ltF0 (by omega)).trans F0.out
          have nF2 : V9.heap[w.heap.size + 1]? = some (.cells #[.int .i64 0, .slice none 0 0] 43 (0, 0)) := (TT _ ltF2 (by omega)).trans F2.out
          have nFB : V9.heap[wr.heap.size]? = some (.cells #[.int .i64 y.f0, .string y.f1.f0, .string y.f1.f1, .slice B0 y.f2.length d0, .slice B1 y.f3.length d1] 28 (0, 0)) := by rw [← hWV9]; have h := blk_set1 (FB.out) 4 (.slice B1 y.f3.length d1); simpa using h
          have nHO : Kd.S kItem 28 V9 w.heap.size (fun k => k < wr.heap.size) (.slice Ao ys.length co) ys := Kd.S_step HO.out (fun k hk hlt => TT k hlt (by have h_ : k < wr.heap.size := hk; omega))
          have nU0 : Kd.R kRcpt 55 V9 wr.heap.size (fun _ => True) (.slice B0 y.f2.length d0) y.f2 := R_keepT U0.out rfl (fun k hk ho => TT k hk (fun e => Kd.R_ne U0.out FB.out (by decide) (e ▸ ho)))
          have nU1 : Kd.R Kd.string 9 V9 wr.heap.size (fun _ => True) (.slice B1 y.f3.length d1) y.f3 := R_keepT U1.out rfl (fun k hk ho => TT k hk (fun e => Kd.R_ne U1.out FB.out (by decide) (e ▸ ho)))
          have nHB : Below w.heap.size w V9 := by rw [← hWV9]; exact bel_set (HB.out) _ (by show w.heap.size ≤ wr.heap.size; first | omega | (simp; omega))
          clear zFB cFB_0 dFB_0 cFB_1 dFB_1 cFB_2 dFB_2 cFB_3 dFB_3 cFB_4 dFB_4
          clear hWV9 F0 F2 FB HB HO U0 U1
          have F0 := Aside0.mk nF0
          clear nF0
          have F2 := Aside0.mk nF2
          clear nF2
          have FB := Aside0.mk nFB
          clear nFB
          have HO := Aside0.mk nHO
          clear nHO
          have U0 := Aside0.mk nU0
          clear nU0
          have U1 := Aside0.mk nU1
          clear nU1
          have HB := Aside0.mk nHB
          clear nHB
          replace HL := Aside0.mk (Nat.le_trans HL.out (by omega : V7.heap.size ≤ V9.heap.size))
          clear TT TS ltF0 ltF2 ltFB ltb ltl
          refine hK.out _ _ ?h31 (fun hHeld => ?j31)
          case h31 => exact trivial
          clear hK K
          try simp only [Act.put, List.setIfInBounds_toArray, List.set_cons_zero, List.set_cons_succ]
          refine wpAnyH_done (by kernel_rfl) ?_ _
          exact HKK.out B0 d0 B1 d1 V9 ⟨HB.out, F0.out, F2.out, FB.out, HO.out, U0.out, U1.out⟩
    case k6 =>
     have zFB := blk_lt FB.out
     have cFB_0 : Vs.cell? ⟨wr.heap.size, 0, none⟩ = some (.int .i64 y.f0) := clq FB.out 0 rfl
     have cFB_1 : Vs.cell? ⟨wr.heap.size, 1, none⟩ = some (.string y.f1.f0) := clq FB.out 1 rfl
     have cFB_2 : Vs.cell? ⟨wr.heap.size, 2, none⟩ = some (.string y.f1.f1) := clq FB.out 2 rfl
     have cFB_3 : Vs.cell? ⟨wr.heap.size, 3, none⟩ = some (.slice Q0 y.f2.length qc0) := clq FB.out 3 rfl
     have cFB_4 : Vs.cell? ⟨wr.heap.size, 4, none⟩ = some (.slice Q1 y.f3.length qc1) := clq FB.out 4 rfl
     go_simp
     refine hK.out _ _ ?h32 (fun hHeld => ?j32)
     case h32 => exact hHeld
     clear hK K
     try simp only [Act.put, List.setIfInBounds_toArray, List.set_cons_zero, List.set_cons_succ]
     refine rdy (rs := [1]) ?_
     refine rc (fun K hK => ?k33) AllReadyH.nil
     case k33 =>
      clear zFB cFB_0 cFB_1 cFB_2 cFB_3 cFB_4
      have zFB := blk_lt FB.out
      have cFB_0 : Vs.cell? ⟨wr.heap.size, 0, none⟩ = some (.int .i64 y.f0) := clq FB.out 0 rfl
      have cFB_1 : Vs.cell? ⟨wr.heap.size, 1, none⟩ = some (.string y.f1.f0) := clq FB.out 1 rfl
      have cFB_2 : Vs.cell? ⟨wr.heap.size, 2, none⟩ = some (.string y.f1.f1) := clq FB.out 2 rfl
      have cFB_3 : Vs.cell? ⟨wr.heap.size, 3, none⟩ = some (.slice Q0 y.f2.length qc0) := clq FB.out 3 rfl
      have cFB_4 : Vs.cell? ⟨wr.heap.size, 4, none⟩ = some (.slice Q1 y.f3.length qc1) := clq FB.out 4 rfl
      go_simp
      refine hK.out _ _ ?h34 (fun hHeld => ?j34)
      case h34 => exact hHeld
      clear hK K
      try simp only [Act.put, List.setIfInBounds_toArray, List.set_cons_zero, List.set_cons_succ]
      refine rdy (rs := [2]) ?_
      refine rc (fun K hK => ?k35) AllReadyH.nil
      case k35 =>
       go_simp
       have hNV := Nat.le_of_lt (blk_lt FB.out)
       refine Calls.mono (cloneRcpt_any Q0 qc0 y.f2 _ (Kd.C_below K0.out HB.out) (by have := HM.out.2.2.1.1; omega)) ?_
       rintro e V2 ⟨B0, d0, rfl, rU0, bV2⟩
       clear zFB cFB_0 cFB_1 cFB_2 cFB_3 cFB_4
       replace F0 := Aside0.mk (below_blk F0.out bV2)
       replace F2 := Aside0.mk (below_blk F2.out bV2)
       replace FB := Aside0.mk (below_blk FB.out bV2)
       replace HO := Aside0.mk (Kd.S_below HO.out bV2)
       have U0 : Aside0 (Kd.R kRcpt 55 V2 wr.heap.size (fun _ => True) (.slice B0 y.f2.length d0) y.f2) := ⟨Kd.R_lower (base' := wr.heap.size) rU0 hNV⟩
       clear rU0
       replace HB := Aside0.mk (bel_then HB.out bV2)
       replace HL := Aside0.mk (Nat.le_trans HL.out bV2.size)
       clear bV2
       clear hNV
       refine hK.out _ _ ?h36 (fun hHeld => ?j36)
       case h36 => exact trivial
       clear hK K
       try simp only [Act.put, List.setIfInBounds_toArray, List.set_cons_zero, List.set_cons_succ]
       refine tk 6 ?v37 ?y37 ?r37
       case y37 => intro w_ hSw; (try dsimp only at hSw); clear hSw; go_simp; (try (with_reducible rfl))
       try simp only [Act.put, List.setIfInBounds_toArray, List.set_cons_zero, List.set_cons_succ]
       refine rdy (rs := [5]) ?_
       refine rc (fun K hK => ?k38) AllReadyH.nil
       case k38 =>
        go_simp
        have hNV := Nat.le_of_lt (blk_lt FB.out)
        refine Calls.mono (cloneString_any Q1 qc1 y.f3 _ (Kd.C_below K1.out HB.out) (by have := HM.out.2.2.2.1; omega)) ?_
        rintro e V5 ⟨B1, d1, rfl, rU1, bV5⟩
        replace F0 := Aside0.mk (below_blk F0.out bV5)
        replace F2 := Aside0.mk (below_blk F2.out bV5)
        replace FB := Aside0.mk (below_blk FB.out bV5)
        replace HO := Aside0.mk (Kd.S_below HO.out bV5)
        replace U0 := Aside0.mk (Kd.R_below U0.out bV5)
        have U1 : Aside0 (Kd.R Kd.string 9 V5 wr.heap.size (fun _ => True) (.slice B1 y.f3.length d1) y.f3) := ⟨Kd.R_lower (base' := wr.heap.size) rU1 hNV⟩
        clear rU1
        replace HB := Aside0.mk (bel_then HB.out bV5)
        replace HL := Aside0.mk (Nat.le_trans HL.out bV5.size)
        clear bV5
        clear hNV
        refine hK.out _ _ ?h39 (fun hHeld => ?j39)
        case h39 => exact trivial
        clear hK K
        try simp only [Act.put, List.setIfInBounds_toArray, List.set_cons_zero, List.set_cons_succ]
        refine rdy (rs := [7]) ?_
        refine rc (fun K hK => ?k40) AllReadyH.nil
        case k40 =>
         have zFB := blk_lt FB.out
         have cFB_0 : V5.cell? ⟨wr.heap.size, 0, none⟩ = some (.int .i64 y.f0) := clq FB.out 0 rfl
         have dFB_0 := fzq FB.out 0
         have cFB_1 : V5.cell? ⟨wr.heap.size, 1, none⟩ = some (.string y.f1.f0) := clq FB.out 1 rfl
         have dFB_1 := fzq FB.out 1
         have cFB_2 : V5.cell? ⟨wr.heap.size, 2, none⟩ = some (.string y.f1.f1) := clq FB.out 2 rfl
         have dFB_2 := fzq FB.out 2
         have cFB_3 : V5.cell? ⟨wr.heap.size, 3, none⟩ = some (.slice Q0 y.f2.length qc0) := clq FB.out 3 rfl
         have dFB_3 := fzq FB.out 3
         have cFB_4 : V5.cell? ⟨wr.heap.size, 4, none⟩ = some (.slice Q1 y.f3.length qc1) := clq FB.out 4 rfl
         have dFB_4 := fzq FB.out 4
         go_simp
         generalize hWV7 : World.setCell (V5) _ _ = V7
         have ltF0 := blk_lt F0.out
         have ltF2 := blk_lt F2.out
         have ltFB := blk_lt FB.out
         have ltb := HB.out.size
         have ltl := HL.out
         have TT : ∀ k, k < V5.heap.size → k ≠ wr.heap.size → V7.heap[k]? = V5.heap[k]? := fun k hk n_FB => by rw [← hWV7]; (with_reducible repeat (first | rfl | refine hp_set ?_ ?_ | refine hp_alloc ?_ ?_ | refine hp_drew ?_)); all_goals (first | (with_reducible rfl) | omega | (dsimp only; omega) | (simp; omega))
         have TS : V5.heap.size + 0 ≤ V7.heap.size := by rw [← hWV7]; simp
         have nF0 : V7.heap[w.heap.size]? = some (.cells #[.int .i64 s.f0, .slice (some ad) s.f1.length c0] 43 (0, 0)) := (TT _ ltF0 (by omega)).trans F0.out
         have nF2 : V7.heap[w.heap.size + 1]? = some (.cells #[.int .i64 0, .slice none 0 0] 43 (0, 0)) := (TT _ ltF2 (by omega)).trans F2.out
         have nFB : V7.heap[wr.heap.size]? = some (.cells #[.int .i64 y.f0, .string y.f1.f0, .string y.f1.f1, .slice B0 y.f2.length d0, .slice Q1 y.f3.length qc1] 28 (0, 0)) := by rw [← hWV7]; have h := blk_set1 (FB.out) 3 (.slice B0 y.f2.length d0); simpa using h
         have nHO : Kd.S kItem 28 V7 w.heap.size (fun k => k < wr.heap.size) (.slice Ao ys.length co) ys := Kd.S_step HO.out (fun k hk hlt => TT k hlt (by have h_ : k < wr.heap.size := hk; omega))
         have nU0 : Kd.R kRcpt 55 V7 wr.heap.size (fun _ => True) (.slice B0 y.f2.length d0) y.f2 := R_keepT U0.out rfl (fun k hk ho => TT k hk (fun e => Kd.R_ne U0.out FB.out (by decide) (e ▸ ho)))
         have nU1 : Kd.R Kd.string 9 V7 wr.heap.size (fun _ => True) (.slice B1 y.f3.length d1) y.f3 := R_keepT U1.out rfl (fun k hk ho => TT k hk (fun e => Kd.R_ne U1.out FB.out (by decide) (e ▸ ho)))
         have nHB : Below w.heap.size w V7 := by rw [← hWV7]; exact bel_set (HB.out) _ (by show w.heap.size ≤ wr.heap.size; first | omega | (simp; omega))
         clear zFB cFB_0 dFB_0 cFB_1 dFB_1 cFB_2 dFB_2 cFB_3 dFB_3 cFB_4 dFB_4
         clear hWV7 F0 F2 FB HB HO U0 U1
         have F0 := Aside0.mk nF0
         clear nF0
         have F2 := Aside0.mk nF2
         clear nF2
         have FB := Aside0.mk nFB
         clear nFB
         have HO := Aside0.mk nHO
         clear nHO
         have U0 := Aside0.mk nU0
         clear nU0
         have U1 := Aside0.mk nU1
         clear nU1
         have HB := Aside0.mk nHB
         clear nHB
         replace HL := Aside0.mk (Nat.le_trans HL.out (by omega : V5.heap.size ≤ V7.heap.size))
         clear TT TS ltF0 ltF2 ltFB ltb ltl
         refine hK.out _ _ ?h41 (fun hHeld => ?j41)
         case h41 => exact trivial
         clear hK K
         try simp only [Act.put, List.setIfInBounds_toArray, List.set_cons_zero, List.set_cons_succ]
         refine tk 8 ?v42 ?y42 ?r42
         case y42 => intro w_ hSw; (try dsimp only at hSw); clear hSw; go_simp; (try (with_reducible rfl))
         try simp only [Act.put, List.setIfInBounds_toArray, List.set_cons_zero, List.set_cons_succ]
         refine rdy (rs := [9]) ?_
         refine rc (fun K hK => ?k43) AllReadyH.nil
         case k43 =>
          have zFB := blk_lt FB.out
          have cFB_0 : V7.cell? ⟨wr.heap.size, 0, none⟩ = some (.int .i64 y.f0) := clq FB.out 0 rfl
          have dFB_0 := fzq FB.out 0
          have cFB_1 : V7.cell? ⟨wr.heap.size, 1, none⟩ = some (.string y.f1.f0) := clq FB.out 1 rfl
          have dFB_1 := fzq FB.out 1
          have cFB_2 : V7.cell? ⟨wr.heap.size, 2, none⟩ = some (.string y.f1.f1) := clq FB.out 2 rfl
          have dFB_2 := fzq FB.out 2
          have cFB_3 : V7.cell? ⟨wr.heap.size, 3, none⟩ = some (.slice B0 y.f2.length d0) := clq FB.out 3 rfl
          have dFB_3 := fzq FB.out 3
          have cFB_4 : V7.cell? ⟨wr.heap.size, 4, none⟩ = some (.slice Q1 y.f3.length qc1) := clq FB.out 4 rfl
          have dFB_4 := fzq FB.out 4
          go_simp
          generalize hWV9 : World.setCell (V7) _ _ = V9
          have ltF0 := blk_lt F0.out
          have ltF2 := blk_lt F2.out
          have ltFB := blk_lt FB.out
          have ltb := HB.out.size
          have ltl := HL.out
          have TT : ∀ k, k < V7.heap.size → k ≠ wr.heap.size → V9.heap[k]? = V7.heap[k]? := fun k hk n_FB => by rw [← hWV9]; (with_reducible repeat (first | rfl | refine hp_set ?_ ?_ | refine hp_alloc ?_ ?_ | refine hp_drew ?_)); all_goals (first | (with_reducible rfl) | omega | (dsimp only; omega) | (simp; omega))
          have TS : V7.heap.size + 0 ≤ V9.heap.size := by rw [← hWV9]; simp
          have nF0 : V9.heap[w.heap.size]? = some (.cells #[.int .i64 s.f0, .slice (some ad) s.f1.length c0] 43 (0, 0)) := (TT _ ltF0 (by omega)).trans F0.out
          have nF2 : V9.heap[w.heap.size + 1]? = some (.cells #[.int .i64 0, .slice none 0 0] 43 (0, 0)) := (TT _ ltF2 (by omega)).trans F2.out
          have nFB : V9.heap[wr.heap.size]? = some (.cells #[.int .i64 y.f0, .string y.f1.f0, .string y.f1.f1, .slice B0 y.f2.length d0, .slice B1 y.f3.length d1] 28 (0, 0)) := by rw [← hWV9]; have h := blk_set1 (FB.out) 4 (.slice B1 y.f3.length d1); simpa using h
          have nHO : Kd.S kItem 28 V9 w.heap.size (fun k => k < wr.heap.size) (.slice Ao ys.length co) ys := Kd.S_step HO.out (fun k hk hlt => TT k hlt (by have h_ : k < wr.heap.size := hk; omega))
          have nU0 : Kd.R kRcpt 55 V9 wr.heap.size (fun _ => True) (.slice B0 y.f2.length d0) y.f2 := R_keepT U0.out rfl (fun k hk ho => TT k hk (fun e => Kd.R_ne U0.out FB.out (by decide) (e ▸ ho)))
          have nU1 : Kd.R Kd.string 9 V9 wr.heap.size (fun _ => True) (.slice B1 y.f3.length d1) y.f3 := R_keepT U1.out rfl (fun k hk ho => TT k hk (fun e => Kd.R_ne U1.out FB.out (by decide) (e ▸ ho)))
          have nHB : Below w.heap.size w V9 := by rw [← hWV9]; exact bel_set (HB.out) _ (by show w.heap.size ≤ wr.heap.size; first | omega | (simp; omega))
          clear zFB cFB_0 dFB_0 cFB_1 dFB_1 cFB_2 dFB_2 cFB_3 dFB_3 cFB_4 dFB_4
          clear hWV9 F0 F2 FB HB HO U0 U1
          have F0 := Aside0.mk nF0
          clear nF0
          have F2 := Aside0.mk nF2
          clear nF2
          have FB := Aside0.mk nFB
          clear nFB
          have HO := Aside0.mk nHO
          clear nHO
          have U0 := Aside0.mk nU0
          clear nU0
          have U1 := Aside0.mk nU1
          clear nU1
          have HB := Aside0.mk nHB
          clear nHB
          replace HL := Aside0.mk (Nat.le_trans HL.out (by omega : V7.heap.size ≤ V9.heap.size))
          clear TT TS ltF0 ltF2 ltFB ltb ltl
          refine hK.out _ _ ?h44 (fun hHeld => ?j44)
          case h44 => exact trivial
          clear hK K
          try simp only [Act.put, List.setIfInBounds_toArray, List.set_cons_zero, List.set_cons_succ]
          refine wpAnyH_done (by kernel_rfl) ?_ _
          exact HKK.out B0 d0 B1 d1 V9 ⟨HB.out, F0.out, F2.out, FB.out, HO.out, U0.out, U1.out⟩
   case hk =>
    intro B0 d0 B1 d1 V ⟨hB, hF0, hF2, hFB, hHO, hU0, hU1⟩
    clear join jF0 jF2 jFB jHO jHB jHL
    have F0 := Aside0.mk hF0
    clear hF0
    have F2 := Aside0.mk hF2
    clear hF2
    have FB := Aside0.mk hFB
    clear hFB
    have HO := Aside0.mk hHO
    clear hHO
    have U0 := Aside0.mk hU0
    clear hU0
    have U1 := Aside0.mk hU1
    clear hU1
    have HB := Aside0.mk hB
    clear hB
    have zFB := blk_lt FB.out
    have cFB_0 : V.cell? ⟨wr.heap.size, 0, none⟩ = some (.int .i64 y.f0) := clq FB.out 0 rfl
    have cFB_1 : V.cell? ⟨wr.heap.size, 1, none⟩ = some (.string y.f1.f0) := clq FB.out 1 rfl
    have cFB_2 : V.cell? ⟨wr.heap.size, 2, none⟩ = some (.string y.f1.f1) := clq FB.out 2 rfl
    have cFB_3 : V.cell? ⟨wr.heap.size, 3, none⟩ = some (.slice B0 y.f2.length d0) := clq FB.out 3 rfl
    have cFB_4 : V.cell? ⟨wr.heap.size, 4, none⟩ = some (.slice B1 y.f3.length d1) := clq FB.out 4 rfl
    have hbase : w.heap.size ≤ wr.heap.size := by have := blk_lt FB.out; have := HWR.out; omega
    go_wp2_with (first | (((with_reducible refine gate_builtin (b := .append) (xs := #[.tmp 21, .tmp 23]) rfl ?_); (try (refine gate_guard (by rfl) ?_; dsimp only)); at_builtin); (refine Kd.S_append kItem (w0 := w) (w.heap.size) rfl (.tmp 21) (.tmp 23) 41 28 (.agg #[(.int .i64 0), (.string ⟨#[]⟩), (.string ⟨#[]⟩), (.slice none 0 0), (.slice none 0 0)]) 88 rfl Tryd.underlying41 info28 rfl (by decide) (by omega) (.slice Ao ys.length co) ys y [.int .i64 y.f0, .string y.f1.f0, .string y.f1.f1, .slice B0 y.f2.length d0, .slice B1 y.f3.length d1] (fun _ => True) (fun k => wr.heap.size ≤ k) rfl rfl (kItem_mkM _ _ _ y (Kd.R_mono (Kd.R_lower (base' := w.heap.size) (Kd.R_bound U0.out) hbase) (fun k hk => hk.2.1)) (Kd.R_mono (Kd.R_lower (base' := w.heap.size) (Kd.R_bound U1.out) hbase) (fun k hk => hk.2.1))) (fun k hk => ⟨trivial, fun e => absurd ((Kd.S_R HO.out).1 k e.symm) (Nat.not_lt.2 hk)⟩) (fun _ _ => trivial) (Kd.S_mono HO.out (fun k hk => ⟨trivial, fun h => absurd hk (Nat.not_lt.2 h)⟩)) HB.out HB.out.size (by have := HLN.out; omega) ?_); (intro v9 w9 ho hb hg hat); (obtain ⟨vB, vd, hv⟩ := Kd.S_slice ho); (subst hv); (have nF0 : w9.heap[w.heap.size]? = some (.cells #[.int .i64 s.f0, .slice (some ad) s.f1.length c0] 43 (0, 0)) := (hg.block _ (blk_lt F0.out) (Kd.S_ne HO.out F0.out (by decide))).trans F0.out); (have nF2 : w9.heap[w.heap.size + 1]? = some (.cells #[.int .i64 0, .slice none 0 0] 43 (0, 0)) := (hg.block _ (blk_lt F2.out) (Kd.S_ne HO.out F2.out (by decide))).trans F2.out); (clear zFB cFB_0 cFB_1 cFB_2 cFB_3 cFB_4 FB U0 U1); (clear HB HO F0 F2); (have F0 := Aside0.mk nF0); (have F2 := Aside0.mk nF2); (clear nF0 nF2); (have HB := Aside0.mk hb); (have HO := Aside0.mk ho); (clear ho hb hg hat)))
    go_roundg (s.f1.length - (i + 1))
    case measure => omega
    case rel => exact ⟨i + 1, vB, vd, by omega, Nat.le_refl _, by go_num, by rw [HN.out, List.length_append]; rfl, HB, F0, F2, ⟨by rw [HN.out]; exact HO.out⟩⟩
  ·have hlt' : ¬ (i : Int) < (s.f1.length : Int) := by omega
   rw [show s.f1.take i = s.f1 from List.take_of_length_le (by omega)] at HO ⊢
   have zF0 := blk_lt F0.out
   have cF0_0 : wr.cell? ⟨w.heap.size, 0, none⟩ = some (.int .i64 s.f0) := clq F0.out 0 rfl
   have dF0_0 := fzq F0.out 0
   have cF0_1 : wr.cell? ⟨w.heap.size, 1, none⟩ = some (.slice A0 s.f1.length c0) := clq F0.out 1 rfl
   have dF0_1 := fzq F0.out 1
   have zF2 := blk_lt F2.out
   have cF2_0 : wr.cell? ⟨w.heap.size + 1, 0, none⟩ = some (.int .i64 0) := clq F2.out 0 rfl
   have dF2_0 := fzq F2.out 0
   have cF2_1 : wr.cell? ⟨w.heap.size + 1, 1, none⟩ = some (.slice none 0 0) := clq F2.out 1 rfl
   have dF2_1 := fzq F2.out 1
   go_wp2
   refine bodyPost_ret (v := .agg #[.int .i64 s.f0, .slice Ao s.f1.length co]) ?hr rfl ?hp
   case hr => simp [results, Tryd.results47, go_sem, zF0, cF0_0, dF0_0, cF0_1, dF0_1, zF2, cF2_0, dF2_0, cF2_1, dF2_1]
   case hp => exact ⟨Ao, co, rfl, S_other (S_other HO.out F0.out (by decide) (grown_set1 _ _ _ _)) (blk_far F2.out (by show w.heap.size + 1 ≠ w.heap.size; omega) _) (by decide) ((grown_set1 _ _ _ _).trans (grown_set1 _ _ _ _)), by (with_reducible repeat (first | exact HB.out | refine bel_set ?_ _ ?_)); all_goals ((try dsimp only); omega)⟩

end Go.Proofs.YtiaibgkpohmihaaDoor

/- Where an item and one of those it is for are, of the program: a contract. -/
namespace Go.Proofs.YtiaibgkpohmihaaDoor
open Go.RowKit Go.Proofs.YtiaibgkpohmihaaDoorW.PrintWords
set_option linter.unusedVariables false
set_option linter.unusedSimpArgs false
attribute [local go_sem high] eqA24

def sameA (p q : SAddr) : Bool := (p.f0.toList == q.f0.toList) && (p.f1.toList == q.f1.toList)
def itemAt (id : Int) (xs : List SItem) : Int := idx (fun x => x.f0 == id) xs
def rcptAt (a : SAddr) (xs : List SRcpt) : Int := idx (fun r => sameA r.f0 a) xs
def FindPost (id : Int) (a : SAddr) (xs : List SItem) (i k : Int) (q : Bool) : Prop :=
 (itemAt id xs < 0 ∧ i = 0 ∧ k = 0 ∧ q = false) ∨ ∃ n : Nat, itemAt id xs = (n : Int) ∧ n < xs.length ∧ i = (n : Int) ∧ k = rcptAt a (xs.getD n zItem).f2 ∧ q = decide (k ≥ 0)
theorem idx_nat {α : Type} (p : α → Bool) (xs : List α) : idx p xs = -1 ∨ ∃ n : Nat, idx p xs = (n : Int) ∧ n < xs.length := by
 unfold idx
 by_cases h : xs.any p = true
 ·rw [if_pos h]
  refine .inr ⟨_, rfl, ?_⟩
  obtain ⟨x, hx, hp⟩ := List.any_eq_true.1 h
  exact List.findIdx_lt_length_of_exists ⟨x, hx, hp⟩
 ·rw [if_neg h]
  exact .inl rfl
theorem find_ex (id : Int) (a : SAddr) (xs : List SItem) : ∃ i k q, FindPost id a xs i k q := by
 rcases idx_nat (fun x : SItem => x.f0 == id) xs with h | ⟨n, h, hn⟩
 ·exact ⟨0, 0, false, .inl ⟨by show idx _ _ < 0; rw [h]; decide, rfl, rfl, rfl⟩⟩
 ·exact ⟨_, _, _, .inr ⟨n, h, hn, rfl, rfl, rfl⟩⟩
theorem retF {i k : Int} {q : Bool} (h : q = decide (k ≥ 0)) : Ending.returned (.tuple #[.int .i64 i, .int .i64 k, .bool (decide (k ≥ 0))]) = .returned (.tuple #[.int .i64 i, .int .i64 k, .bool q]) := by rw [h]
theorem find1_any (x : SItem) (A0 : Option Addr) (c0 : Nat) (A1 : Option Addr) (c1 : Nat) (id : Int) (b : Nat) (w : World) (h0 : w.cell? ⟨b, 0, none⟩ = some (.int .i64 id)) (hb : b < w.heap.size) :
  Calls Tryd.prog 81 (#[.agg #[.int .i64 x.f0, .string x.f1.f0, .string x.f1.f1, .slice A0 x.f2.length c0, .slice A1 x.f3.length c1]] ++ #[.pointer (some ⟨b, 0, none⟩)]) w fun e w' => e = .returned (.bool (x.f0 == id)) ∧ Below w.heap.size w w' := by
 have hne : ¬ b = w.heap.size := by omega
 go_enter Tryd.func81, Tryd.ntmps81
 go_wp2
 go_ret
 exact ⟨rfl, (Below.refl _ _).alloc (Nat.le_refl _) _⟩
theorem find2_any (x : SRcpt) (a : SAddr) (b : Nat) (w : World) (h0 : w.cell? ⟨b, 0, none⟩ = some (.string a.f0)) (h1 : w.cell? ⟨b, 1, none⟩ = some (.string a.f1)) (hb : b < w.heap.size) :
  Calls Tryd.prog 83 (#[.agg #[.string x.f0.f0, .string x.f0.f1, .int .i64 x.f1, .int .i64 x.f2]] ++ #[.pointer (some ⟨b, 0, none⟩)]) w fun e w' => e = .returned (.bool (sameA x.f0 a)) ∧ Below w.heap.size w w' := by
 have hne : ¬ b = w.heap.size := by omega
 go_enter Tryd.func83, Tryd.ntmps83
 go_wp2
 go_ret
 exact ⟨rfl, (Below.refl _ _).alloc (Nat.le_refl _) _⟩
set_option maxRecDepth 100000 in
set_option maxHeartbeats 4000000 in
theorem spoolFind_any (xl : Int) (xs : List SItem) (id : Int) (a : SAddr) (i k : Int) (q : Bool) (A0 : Option Addr) (c0 : Nat) (w : World) (hr : Kd.C kItem w A0 xs.length xs) (hlen : xs.length ≤ 1048576) (hx : ∀ y ∈ xs, fitItem y) (hf : FindPost id a xs i k q) :
  Calls Tryd.prog 48 #[.agg #[.int .i64 xl, .slice A0 xs.length c0], .int .i64 id, .agg #[.string a.f0, .string a.f1]] w fun e w' => e = .returned (.tuple #[.int .i64 i, .int .i64 k, .bool q]) ∧ Below w.heap.size w w' := by
 have HX := Lib.hid hx
 obtain ⟨I, hI⟩ : ∃ I, idx (fun x : SItem => x.f0 == id) xs = I := ⟨_, rfl⟩
 unfold FindPost itemAt rcptAt at hf
 rw [hI] at hf
 have HM := Lib.hid hf
 clear hx hf
 go_enter Tryd.func48, Tryd.ntmps48
 go_wp2_with fail
 obtain ⟨W0, hW0⟩ : ∃ W, W = (((w.alloc (.cells #[.int .i64 xl, .slice A0 xs.length c0] 43)).alloc (.cells #[.int .i64 id] 3)).alloc (.cells #[.string a.f0, .string a.f1] 24)) := ⟨_, rfl⟩
 rw [← hW0]
 have HB : Aside0 (Below w.heap.size w W0) := ⟨by rw [hW0]; exact (bel_alloc (bel_alloc (bel_alloc (Below.refl _ _) _) _) _)⟩
 have F0 : Aside0 (W0.heap[w.heap.size]? = some (.cells #[.int .i64 xl, .slice A0 xs.length c0] 43 (0, 0))) := ⟨by rw [hW0]; exact blk_alloc (blk_alloc (blk_at _ _ (by first | rfl | (simp; done))) _) _⟩
 have FI : Aside0 (W0.heap[w.heap.size + 1]? = some (.cells #[.int .i64 id] 3 (0, 0))) := ⟨by rw [hW0]; exact blk_alloc (blk_at _ _ (by simp)) _⟩
 have FA : Aside0 (W0.heap[w.heap.size + 2]? = some (.cells #[.string a.f0, .string a.f1] 24 (0, 0))) := ⟨by rw [hW0]; exact blk_at _ _ (by simp)⟩
 have HL : Aside0 (w.heap.size + 3 ≤ W0.heap.size) := ⟨by rw [hW0]; simp⟩
 clear hW0
 have hc1 := fun (W : World) (hW : Below W0.heap.size W0 W) => IndexFunc_Item 81 #[.pointer (some ⟨w.heap.size + 1, 0, none⟩)] (fun x => x.f0 == id) (enters_of Tryd.func81 (by kernel_rfl) rfl) A0 c0 xs W (Kd.C_below hr (bel_then HB.out hW)) (by omega) (fun V x X0 y0 X1 y1 _ hb _ _ => find1_any x X0 y0 X1 y1 id (w.heap.size + 1) V (by have h_ := below_blk (below_blk FI.out hW) hb; simp [World.cell?, h_]) (blk_lt (below_blk (below_blk FI.out hW) hb)))
 rw [hI] at hc1
 have HL2 := HL
 refine Calls.mono (hc1 _ (Below.refl _ _)) ?_
 rintro e w1 ⟨rfl, bw1⟩
 replace F0 := Aside0.mk (below_blk F0.out bw1)
 replace FI := Aside0.mk (below_blk FI.out bw1)
 replace FA := Aside0.mk (below_blk FA.out bw1)
 replace HB := Aside0.mk (bel_then HB.out bw1)
 replace HL := Aside0.mk (Nat.le_trans HL.out bw1.size)
 clear bw1
 clear hc1
 have zF0 := blk_lt F0.out
 have cF0_0 : w1.cell? ⟨w.heap.size, 0, none⟩ = some (.int .i64 xl) := clq F0.out 0 rfl
 have cF0_1 : w1.cell? ⟨w.heap.size, 1, none⟩ = some (.slice A0 xs.length c0) := clq F0.out 1 rfl
 rcases HM.out with ⟨hneg, h0, h1, h2⟩ | ⟨i, hi, hil, h0, h1, h2⟩
 ·subst h0
  subst h1
  subst h2
  go_wp2
  refine bodyPost_ret (v := .tuple #[.int .i64 0, .int .i64 0, .bool false]) ?hrA rfl ?hpA
  case hrA => simp [results, Tryd.results48, go_sem]
  case hpA => exact ⟨rfl, HB.out⟩
 ·obtain ⟨ad, Q0, qc0, Q1, qc1, e1, p0, p1, p2, p3, p4, l0, k0, l1, k1⟩ := at_Item (Kd.C_below hr HB.out) i hil
  subst e1
  subst hi
  subst h0
  have hm := HX.out (xs.getD i zItem) (getD_mem _ _ hil)
  generalize xs.getD i zItem = y at p0 p1 p2 p3 p4 l0 k0 l1 k1 hm h1 h2
  have hlt' : (i : Int) < (xs.length : Int) := by omega
  have hnn : ¬ (i : Int) < 0 := by omega
  have hc2 := fun (W : World) (hW : Below w1.heap.size w1 W) => IndexFunc_Rcpt 83 #[.pointer (some ⟨w.heap.size + 2, 0, none⟩)] (fun r => sameA r.f0 a) (enters_of Tryd.func83 (by kernel_rfl) rfl) Q0 qc0 y.f2 W (Kd.C_below k0 hW) (by have := hm.2.2.1.1; omega) (fun V r _ hb => find2_any r a (w.heap.size + 2) V (by have h_ := below_blk (below_blk FA.out hW) hb; simp [World.cell?, h_]) (by have h_ := below_blk (below_blk FA.out hW) hb; simp [World.cell?, h_]) (blk_lt (below_blk (below_blk FA.out hW) hb)))
  rw [← h1] at hc2
  have H2 := Lib.hid h2
  clear h1 h2 k0 k1 l0 l1 hm p0 p1 p2 p4
  go_wp2_with fail
  refine Calls.mono (hc2 _ (Below.refl _ _)) ?_
  rintro e w2 ⟨rfl, bw2⟩
  clear zF0 cF0_0 cF0_1
  replace F0 := Aside0.mk (below_blk F0.out bw2)
  replace FI := Aside0.mk (below_blk FI.out bw2)
  replace FA := Aside0.mk (below_blk FA.out bw2)
  replace HB := Aside0.mk (bel_then HB.out bw2)
  replace HL := Aside0.mk (Nat.le_trans HL.out bw2.size)
  clear bw2
  go_wp2
  refine bodyPost_ret (v := .tuple #[.int .i64 (i : Int), .int .i64 k, .bool (decide (k ≥ 0))]) ?hrB rfl ?hpB
  case hrB => simp [results, Tryd.results48, go_sem]
  case hpB => exact ⟨retF H2.out, HB.out⟩

end Go.Proofs.YtiaibgkpohmihaaDoor

/- slices.Delete of one element: contracts. -/
namespace Go.Proofs.YtiaibgkpohmihaaDoor
open Go.RowKit Go.Proofs.YtiaibgkpohmihaaDoorW.PrintWords
set_option linter.unusedVariables false
set_option linter.unusedSimpArgs false

theorem R_spare1 {α : Type} {d : Kd α} {e base g n c : Nat} {ok : Nat → Prop} {W : World} {ys : List α} (h : d.R e W base ok (.slice (some ⟨g, 0, none⟩) n c) ys) {o : Nat} {news : List Value} (hn : n * d.sz ≤ o) (hf : o + news.length ≤ c * d.sz) :
  d.R e (W.setCells g o news) base ok (.slice (some ⟨g, 0, none⟩) n c) ys ∧ W.grownBy (W.setCells g o news) (some g) := by
 obtain ⟨hnl, hnc, _⟩ := Kd.R_reads' h
 subst hnl
 obtain ⟨hok, inner, ho, hr⟩ := h
 obtain ⟨ho1, ho2⟩ := ho
 rcases ho2 with ⟨hv, _⟩ | ⟨g', cap', cur, hv, hb, hh, hnc', hcm, hcs, ht⟩
 ·cases hv
 injection hv with ha _ hc
 injection ha with ha
 injection ha with hg
 subst hg; subst hc
 obtain ⟨cur', h3, h4, h5⟩ := setCells_row news o W cur hh (by omega)
 obtain ⟨s1, s2, s3, s4⟩ := setCells_same g news o W
 have hfar : ∀ k, k ≠ g → (W.setCells g o news).heap[k]? = W.heap[k]? := fun k hk => setCells_far news _ k hk
 refine ⟨⟨hok, inner, ⟨ho1, .inr ⟨g, c, cur', rfl, hb, h3, hnc', hcm, by rw [h4, hcs], ?_⟩⟩, ?_⟩, ⟨s1, s2, s3, by rw [s4]; exact Nat.le_refl _, fun k _ hk => hfar k (fun he => hk (by rw [he]))⟩⟩
 ·rw [h5, List.append_assoc, List.take_append_of_le_length (by rw [List.length_take, Array.length_toList]; exact Nat.le_min.2 ⟨hn, by show _ ≤ cur.size; rw [hcs]; exact Nat.le_trans hn (Nat.le_trans (Nat.le_add_right _ _) hf)⟩), List.take_take, Nat.min_eq_left hn]
  exact ht
 ·exact hr.imp_ (fun p q hp => d.M_move (fun k hk => hfar k (fun he => hk.2 (by rw [he]; rfl))) hp)
theorem run_clear1 {P : Program} (w : World) (t e ty : TypeId) (z : Value) (zs : List Value) (ht : P.underlying t = some (.slice e)) (hv : ∀ w, (zeroValue e).run P w = .ok z w) (hz : z.cells = zs.toArray) (h1 : ∀ u ∈ zs, u.oneCell' = true) (b o c : Nat)
  (hc : ∀ j, j < zs.length → (w.cell? ⟨b, o + j, none⟩).isSome = true) (hf : ∀ j, j < zs.length → w.frozen? ⟨b, o + j, none⟩ = false) :
  (Builtin.clear_ #[t] ty #[.slice (some ⟨b, o, none⟩) 1 c]).run P w = .ok (.tuple #[]) (w.setCells b o zs) := by
 have hzc : (Builtin.zeroCells z.cells 1).toList = zs := by
  rw [hz]
  apply List.ext_getElem
  ·simp [Builtin.zeroCells]
  ·intro i h1 h2
   simp only [Builtin.zeroCells, Array.getElem_toList, Array.getElem_map, Array.getElem_range, List.size_toArray]
   rw [Nat.mod_eq_of_lt h2, getElem!_pos _ _ (by simpa using h2)]
   simp
 have hst := run_storeCells_cells (P := P) b o zs 0 w (by simpa using hc) (by simpa using hf) h1
 simp only [Nat.add_zero] at hst
 simp [Builtin.clear_, run_underlying ht, hv, hzc, hst]
theorem R_clear1 {P : Program} {α : Type} {d : Kd α} {e base g m c : Nat} {ok : Nat → Prop} {W : World} {ys : List α} (h : d.R e W base ok (.slice (some ⟨g, 0, none⟩) m c) ys) (hm : m + 1 ≤ c) (t ty : TypeId) (z : Value) (zs : List Value) (ht : P.underlying t = some (.slice e)) (hv : ∀ w, (zeroValue e).run P w = .ok z w) (hz : z.cells = zs.toArray) (h1 : ∀ u ∈ zs, u.oneCell' = true) (hzl : zs.length = d.sz) (q : Nat) (hq : q = 1) (c2 : Nat) :
  (Builtin.clear_ #[t] ty #[.slice (some ⟨g, m * d.sz, none⟩) q c2]).run P W = .ok (.tuple #[]) (W.setCells g (m * d.sz) zs) ∧ d.R e (W.setCells g (m * d.sz) zs) base ok (.slice (some ⟨g, 0, none⟩) m c) ys ∧ W.grownBy (W.setCells g (m * d.sz) zs) (some g) := by
 subst hq
 have hfit : m * d.sz + zs.length ≤ c * d.sz := by rw [hzl, ← Nat.succ_mul]; exact Nat.mul_le_mul_right _ hm
 have hs := R_spare1 h (Nat.le_refl _) hfit
 refine ⟨?_, hs.1, hs.2⟩
 obtain ⟨hok, inner, ho, hr⟩ := h
 obtain ⟨ho1, ho2⟩ := ho
 rcases ho2 with ⟨hv_, _⟩ | ⟨g', cap', cur, hv_, hb, hh, hnc', hcm, hcs, ht_⟩
 ·cases hv_
 injection hv_ with ha _ hc
 injection ha with ha
 injection ha with hg
 subst hg; subst hc
 exact run_clear1 W t e ty z zs ht hv hz h1 g (m * d.sz) c2 (fun j hj => by rw [cell_of_row W g _ cur e (0, 0) hh]; simp; omega) (fun j _ => blk_frozen hh _)

set_option maxRecDepth 100000 in
set_option maxHeartbeats 4000000 in
theorem deleteRcpt_any (base g c k : Nat) (ok : Nat → Prop) (xs : List SRcpt) (w : World) (hb : base ≤ w.heap.size) (hO : Kd.R kRcpt 55 w base ok (.slice (some ⟨g, 0, none⟩) xs.length c) xs) (hk : k < xs.length) (hl : xs.length ≤ 1048576) :
  Calls Tryd.prog 49 #[.slice (some ⟨g, 0, none⟩) xs.length c, .int .i64 (k : Int), .int .i64 ((k : Int) + 1)] w fun e w' => e = .returned (.slice (some ⟨g, 0, none⟩) (xs.length - 1) c) ∧ Kd.R kRcpt 55 w' base ok (.slice (some ⟨g, 0, none⟩) (xs.length - 1) c) (xs.eraseIdx k) ∧ w.grownBy w' (some g) := by
 obtain ⟨_, hnc, _⟩ := Kd.R_reads' hO
 have hcT := cut_to (P := Tryd.prog) 25 55 .i64 (by rfl) (by rfl) (some ⟨g, 0, none⟩) xs.length c (k : Int) (by omega) (by omega) hnc
 have hcF := cut_from (P := Tryd.prog) 25 55 .i64 (by rfl) (by rfl) 4 (by rfl) (some ⟨g, 0, none⟩) xs.length c ((k : Int) + 1) (by omega) (by omega)
 rw [Int.toNat_natCast] at hcT
 rw [show ((k : Int) + 1).toNat = k + 1 by omega] at hcF
 have hne : ¬ (k : Int) = (k : Int) + 1 := by omega
 have HO := Aside0.mk hO
 have HBS := Aside0.mk hb
 have hkn : k < xs.length := hk
 clear hO hb hk
 go_enter Tryd.func49, Tryd.ntmps49
 go_wp2_with fail
 refine wp_region_held_drew (S := (fun _ => True)) (by kernel_rfl) ?s1 (fun hHeld => ?t1)
 case s1 => exact trivial
 generalize hV0 : World.drew _ = V0 at hHeld ⊢
 have HO1 : Aside0 (Kd.R kRcpt 55 V0 base ok (.slice (some ⟨g, 0, none⟩) xs.length c) xs) := ⟨by rw [← hV0]; exact Kd.R_below HO.out (drew_below0 w)⟩
 have HB1 : Aside0 (Below base w V0) := ⟨by rw [← hV0]; exact (drew_below0 w).mono HBS.out⟩
 have HBS1 : Aside0 (base ≤ V0.heap.size) := ⟨by rw [← hV0]; exact HBS.out⟩
 have HG0 : Aside0 (w.grownBy V0 (some g)) := ⟨by rw [← hV0]; exact grown_of_below (drew_below0 w) _⟩
 clear hV0 HO HBS
 refine tk 0 ?v2 ?y2 ?r2
 case y2 => intro w_ hSw; (try dsimp only at hSw); go_simp; (try (with_reducible rfl))
 try simp only [Act.put, List.setIfInBounds_toArray, List.set_cons_zero, List.set_cons_succ]
 refine tk 1 ?v3 ?y3 ?r3
 case y3 => intro w_ hSw; (try dsimp only at hSw); go_simp; (try (with_reducible rfl))
 try simp only [Act.put, List.setIfInBounds_toArray, List.set_cons_zero, List.set_cons_succ]
 refine tk 2 ?v4 ?y4 ?r4
 case y4 => intro w_ hSw; (try dsimp only at hSw); go_simp; (try (with_reducible rfl))
 try simp only [Act.put, List.setIfInBounds_toArray, List.set_cons_zero, List.set_cons_succ]
 refine tk 3 ?v5 ?y5 ?r5
 case y5 => intro w_ hSw; (try dsimp only at hSw); go_simp; (try (with_reducible rfl))
 try simp only [Act.put, List.setIfInBounds_toArray, List.set_cons_zero, List.set_cons_succ]
 refine tk 4 ?v6 ?y6 ?r6
 case y6 => intro w_ hSw; (try dsimp only at hSw); go_simp; (try (with_reducible rfl))
 try simp only [Act.put, List.setIfInBounds_toArray, List.set_cons_zero, List.set_cons_succ]
 refine tk 5 ?v7 ?y7 ?r7
 case y7 => intro w_ hSw; (try dsimp only at hSw); go_simp; (try (with_reducible rfl))
 try simp only [Act.put, List.setIfInBounds_toArray, List.set_cons_zero, List.set_cons_succ]
 refine rdy (rs := [6]) ?_
 refine rc (fun K hK => ?k8) AllReadyH.nil
 case k8 =>
  refine Kd.R_delete_step (w0 := w) kRcpt base (by rfl) (.tmp 22) (.tmp 25) 25 55 rfl rfl rfl (k := k) (c2 := c - (k + 1)) (m := xs.length - (k + 1)) rfl rfl (by simp [Addr.add, show kRcpt.sz = 4 from rfl]) rfl HO1.out hkn HB1.out HBS1.out ?_
  intro V6 ho hb hg
  refine hK.out _ _ ?h9 (fun hHeld => ?j9)
  case h9 => exact trivial
  clear hK K
  try simp only [Act.put, List.setIfInBounds_toArray, List.set_cons_zero, List.set_cons_succ]
  have HO2 := Aside0.mk ho
  have HG2 := Aside0.mk (HG0.out.trans hg)
  clear ho hb hg HO1 HB1 HBS1 HG0
  refine tk 7 ?v10 ?y10 ?r10
  case y10 => intro w_ hSw; (try dsimp only at hSw); go_simp; (try (with_reducible rfl))
  try simp only [Act.put, List.setIfInBounds_toArray, List.set_cons_zero, List.set_cons_succ]
  refine wpAnyH_done (by kernel_rfl) ?_ _
  clear hcT hcF
  generalize (if c = k + 1 then (some (⟨g, 0, none⟩ : Addr)) else some ⟨g, (k + 1) * 4, none⟩) = A25
  obtain ⟨hcl, ho3, hg3⟩ := R_clear1 (P := Tryd.prog) HO2.out (by omega) 25 0 (.agg #[(.string ⟨#[]⟩), (.string ⟨#[]⟩), (.int .i64 0), (.int .i64 0)]) [(.string ⟨#[]⟩), (.string ⟨#[]⟩), (.int .i64 0), (.int .i64 0)] (by rfl) (fun W => by rfl) (by rfl) (by intro u hu; simp at hu; rcases hu with rfl | rfl <;> rfl) (by rfl) (xs.length - (xs.length - 1)) (by omega) (c - (xs.length - 1))
  simp only [show kRcpt.sz = 4 from rfl] at hcl ho3 hg3
  generalize World.setCells V6 _ _ _ = V9 at hcl ho3 hg3
  have HO3 := Aside0.mk ho3
  have HG3 := Aside0.mk (HG2.out.trans hg3)
  clear ho3 hg3 HO2 HG2
  go_wp2
  go_ret
  exact ⟨rfl, HO3.out, HG3.out⟩

set_option maxRecDepth 100000 in
set_option maxHeartbeats 4000000 in
theorem deleteItem_any (base g c k : Nat) (ok : Nat → Prop) (xs : List SItem) (w : World) (hb : base ≤ w.heap.size) (hO : Kd.R kItem 28 w base ok (.slice (some ⟨g, 0, none⟩) xs.length c) xs) (hk : k < xs.length) (hl : xs.length ≤ 1048576) :
  Calls Tryd.prog 50 #[.slice (some ⟨g, 0, none⟩) xs.length c, .int .i64 (k : Int), .int .i64 ((k : Int) + 1)] w fun e w' => e = .returned (.slice (some ⟨g, 0, none⟩) (xs.length - 1) c) ∧ Kd.R kItem 28 w' base ok (.slice (some ⟨g, 0, none⟩) (xs.length - 1) c) (xs.eraseIdx k) ∧ w.grownBy w' (some g) := by
 obtain ⟨_, hnc, _⟩ := Kd.R_reads' hO
 have hcT := cut_to (P := Tryd.prog) 41 28 .i64 (by rfl) (by rfl) (some ⟨g, 0, none⟩) xs.length c (k : Int) (by omega) (by omega) hnc
 have hcF := cut_from (P := Tryd.prog) 41 28 .i64 (by rfl) (by rfl) 5 (by rfl) (some ⟨g, 0, none⟩) xs.length c ((k : Int) + 1) (by omega) (by omega)
 rw [Int.toNat_natCast] at hcT
 rw [show ((k : Int) + 1).toNat = k + 1 by omega] at hcF
 have hne : ¬ (k : Int) = (k : Int) + 1 := by omega
 have HO := Aside0.mk hO
 have HBS := Aside0.mk hb
 have hkn : k < xs.length := hk
 clear hO hb hk
 go_enter Tryd.func50, Tryd.ntmps50
 go_wp2_with fail
 refine wp_region_held_drew (S := (fun _ => True)) (by kernel_rfl) ?s11 (fun hHeld => ?t11)
 case s11 => exact trivial
 generalize hV0 : World.drew _ = V0 at hHeld ⊢
 have HO1 : Aside0 (Kd.R kItem 28 V0 base ok (.slice (some ⟨g, 0, none⟩) xs.length c) xs) := ⟨by rw [← hV0]; exact Kd.R_below HO.out (drew_below0 w)⟩
 have HB1 : Aside0 (Below base w V0) := ⟨by rw [← hV0]; exact (drew_below0 w).mono HBS.out⟩
 have HBS1 : Aside0 (base ≤ V0.heap.size) := ⟨by rw [← hV0]; exact HBS.out⟩
 have HG0 : Aside0 (w.grownBy V0 (some g)) := ⟨by rw [← hV0]; exact grown_of_below (drew_below0 w) _⟩
 clear hV0 HO HBS
 refine tk 0 ?v12 ?y12 ?r12
 case y12 => intro w_ hSw; (try dsimp only at hSw); go_simp; (try (with_reducible rfl))
 try simp only [Act.put, List.setIfInBounds_toArray, List.set_cons_zero, List.set_cons_succ]
 refine tk 1 ?v13 ?y13 ?r13
 case y13 => intro w_ hSw; (try dsimp only at hSw); go_simp; (try (with_reducible rfl))
 try simp only [Act.put, List.setIfInBounds_toArray, List.set_cons_zero, List.set_cons_succ]
 refine tk 2 ?v14 ?y14 ?r14
 case y14 => intro w_ hSw; (try dsimp only at hSw); go_simp; (try (with_reducible rfl))
 try simp only [Act.put, List.setIfInBounds_toArray, List.set_cons_zero, List.set_cons_succ]
 refine tk 3 ?v15 ?y15 ?r15
 case y15 => intro w_ hSw; (try dsimp only at hSw); go_simp; (try (with_reducible rfl))
 try simp only [Act.put, List.setIfInBounds_toArray, List.set_cons_zero, List.set_cons_succ]
 refine tk 4 ?v16 ?y16 ?r16
 case y16 => intro w_ hSw; (try dsimp only at hSw); go_simp; (try (with_reducible rfl))
 try simp only [Act.put, List.setIfInBounds_toArray, List.set_cons_zero, List.set_cons_succ]
 refine tk 5 ?v17 ?y17 ?r17
 case y17 => intro w_ hSw; (try dsimp only at hSw); go_simp; (try (with_reducible rfl))
 try simp only [Act.put, List.setIfInBounds_toArray, List.set_cons_zero, List.set_cons_succ]
 refine rdy (rs := [6]) ?_
 refine rc (fun K hK => ?k18) AllReadyH.nil
 case k18 =>
  refine Kd.R_delete_step (w0 := w) kItem base (by rfl) (.tmp 22) (.tmp 25) 41 28 rfl rfl rfl (k := k) (c2 := c - (k + 1)) (m := xs.length - (k + 1)) rfl rfl (by simp [Addr.add, show kItem.sz = 5 from rfl]) rfl HO1.out hkn HB1.out HBS1.out ?_
  intro V6 ho hb hg
  refine hK.out _ _ ?h19 (fun hHeld => ?j19)
  case h19 => exact trivial
  clear hK K
  try simp only [Act.put, List.setIfInBounds_toArray, List.set_cons_zero, List.set_cons_succ]
  have HO2 := Aside0.mk ho
  have HG2 := Aside0.mk (HG0.out.trans hg)
  clear ho hb hg HO1 HB1 HBS1 HG0
  refine tk 7 ?v20 ?y20 ?r20
  case y20 => intro w_ hSw; (try dsimp only at hSw); go_simp; (try (with_reducible rfl))
  try simp only [Act.put, List.setIfInBounds_toArray, List.set_cons_zero, List.set_cons_succ]
  refine wpAnyH_done (by kernel_rfl) ?_ _
  clear hcT hcF
  generalize (if c = k + 1 then (some (⟨g, 0, none⟩ : Addr)) else some ⟨g, (k + 1) * 5, none⟩) = A25
  obtain ⟨hcl, ho3, hg3⟩ := R_clear1 (P := Tryd.prog) HO2.out (by omega) 41 0 (.agg #[(.int .i64 0), (.string ⟨#[]⟩), (.string ⟨#[]⟩), (.slice none 0 0), (.slice none 0 0)]) [(.int .i64 0), (.string ⟨#[]⟩), (.string ⟨#[]⟩), (.slice none 0 0), (.slice none 0 0)] (by rfl) (fun W => by rfl) (by rfl) (by intro u hu; simp at hu; rcases hu with rfl | rfl | rfl <;> rfl) (by rfl) (xs.length - (xs.length - 1)) (by omega) (c - (xs.length - 1))
  simp only [show kItem.sz = 5 from rfl] at hcl ho3 hg3
  generalize World.setCells V6 _ _ _ = V9 at hcl ho3 hg3
  have HO3 := Aside0.mk ho3
  have HG3 := Aside0.mk (HG2.out.trans hg3)
  clear ho3 hg3 HO2 HG2
  go_wp2
  go_ret
  exact ⟨rfl, HO3.out, HG3.out⟩

end Go.Proofs.YtiaibgkpohmihaaDoor

/- Where an item and one of those it is for are, of the reference: contracts. -/
namespace Go.Proofs.YtiaibgkpohmihaaDoor
open Go.RowKit Go.Proofs.YtiaibgkpohmihaaDoorW.PrintWords
set_option linter.unusedVariables false
set_option linter.unusedSimpArgs false
attribute [local go_sem high] eqA24

set_option maxRecDepth 100000 in
set_option maxHeartbeats 2000000 in
theorem specAt_any (xl : Int) (xs : List SItem) (id : Int) (A0 : Option Addr) (c0 : Nat) (w : World) (hr : Kd.C kItem w A0 xs.length xs) (hlen : xs.length ≤ 1048576) :
  Calls Tryd.prog 53 #[.agg #[.int .i64 xl, .slice A0 xs.length c0], .int .i64 id] w fun e w' => e = .returned (.int .i64 (itemAt id xs)) ∧ Below w.heap.size w w' := by
 go_enter Tryd.func53, Tryd.ntmps53
 go_wp2
 obtain ⟨W0, hW0⟩ : ∃ W, W = (w.alloc (.cells #[.int .i64 xl, .slice A0 xs.length c0] 43)) := ⟨_, rfl⟩
 rw [← hW0]
 have HB : Aside0 (Below w.heap.size w W0) := ⟨by rw [hW0]; exact (bel_alloc (Below.refl _ _) _)⟩
 have F0 : Aside0 (W0.heap[w.heap.size]? = some (.cells #[.int .i64 xl, .slice A0 xs.length c0] 43 (0, 0))) := ⟨by rw [hW0]; exact blk_at _ _ (by first | rfl | (simp; done))⟩
 have HL : Aside0 (w.heap.size + 1 ≤ W0.heap.size) := ⟨by rw [hW0]; simp⟩
 clear hW0
 clear HL
 go_loopg [5] (xs.length) (fun g v wr => ∃ k : Nat, k ≤ xs.length ∧ xs.length - k ≤ g ∧ v = .int .i64 k ∧ Aside0 (Below W0.heap.size W0 wr) ∧ Aside0 (∀ j, j < k → (fun x : SItem => x.f0 == id) (xs.getD j zItem) = false))
 case atStart => exact ⟨0, Nat.zero_le _, by omega, rfl, ⟨Below.refl _ _⟩, ⟨fun j hj => absurd hj (Nat.not_lt_zero _)⟩⟩
 case round =>
  obtain ⟨k, hk, hg, rfl, BW, H⟩ := hrel
  have nF0 := below_blk F0.out BW.out
  have zF0 := blk_lt nF0
  have cF0_0 : wr.cell? ⟨w.heap.size, 0, none⟩ = some (.int .i64 xl) := clq nF0 0 rfl
  have cF0_1 : wr.cell? ⟨w.heap.size, 1, none⟩ = some (.slice A0 xs.length c0) := clq nF0 1 rfl
  clear nF0
  by_cases hlt : k < xs.length
  ·have hlt' : (k : Int) < (xs.length : Int) := by omega
   obtain ⟨ad, Q0, qc0, Q1, qc1, e1, p0, p1, p2, p3, p4, l0, k0, l1, k1⟩ := at_Item (Kd.C_below hr (bel_then HB.out BW.out)) k hlt
   subst e1
   have HT := Lib.hid (fun hp : (fun x : SItem => x.f0 == id) (xs.getD k zItem) = true => idx_hit (fun x : SItem => x.f0 == id) xs zItem k hlt hp H.out)
   have HF := Lib.hid (fun hp : (fun x : SItem => x.f0 == id) (xs.getD k zItem) = false => (fun j (hj : j < k + 1) => by
    by_cases e : j = k
    ·subst e; exact hp
    ·exact H.out j (by omega) : ∀ j, j < k + 1 → (fun x : SItem => x.f0 == id) (xs.getD j zItem) = false))
   generalize xs.getD k zItem = y at p0 p1 p2 p3 p4 l0 k0 l1 k1 HT HF
   cases hq : (fun x : SItem => x.f0 == id) y
   ·have HF2 := Lib.hid (HF.out hq)
    have hq0 : (y.f0 == id) = false := hq
    clear HT HF
    clear p1 p2 p3 p4 l0 k0 l1 k1
    go_wp2
    go_roundg (xs.length - (k + 1))
    case measure => omega
    case rel => exact ⟨k + 1, by omega, Nat.le_refl _, by go_num, ⟨BW.out⟩, ⟨HF2.out⟩⟩
   ·have HT2 := Lib.hid (HT.out hq)
    have hq0 : (y.f0 == id) = true := hq
    clear HT HF
    clear p1 p2 p3 p4 l0 k0 l1 k1
    go_wp2
    go_ret
    exact ⟨by rw [show itemAt id xs = (k : Int) from HT2.out]; rfl, bel_then HB.out BW.out⟩
  ·have hlt' : ¬ (k : Int) < (xs.length : Int) := by omega
   have HM := Lib.hid (idx_miss (fun x : SItem => x.f0 == id) xs zItem (fun j hj => H.out j (by omega)))
   go_wp2
   go_ret
   exact ⟨by rw [show itemAt id xs = -1 from HM.out]; rfl, bel_then HB.out BW.out⟩

set_option maxRecDepth 100000 in
set_option maxHeartbeats 2000000 in
theorem specRcptAt_any (x : SItem) (a : SAddr) (A0 : Option Addr) (c0 : Nat) (A1 : Option Addr) (c1 : Nat) (w : World) (hr : Kd.C kRcpt w A0 x.f2.length x.f2) (hlen : x.f2.length ≤ 1048576) :
  Calls Tryd.prog 54 #[.agg #[.int .i64 x.f0, .string x.f1.f0, .string x.f1.f1, .slice A0 x.f2.length c0, .slice A1 x.f3.length c1], .agg #[.string a.f0, .string a.f1]] w fun e w' => e = .returned (.int .i64 (rcptAt a x.f2)) ∧ Below w.heap.size w w' := by
 go_enter Tryd.func54, Tryd.ntmps54
 go_wp2
 obtain ⟨W0, hW0⟩ : ∃ W, W = ((w.alloc (.cells #[.int .i64 x.f0, .string x.f1.f0, .string x.f1.f1, .slice A0 x.f2.length c0, .slice A1 x.f3.length c1] 28)).alloc (.cells #[.string a.f0, .string a.f1] 24)) := ⟨_, rfl⟩
 rw [← hW0]
 have HB : Aside0 (Below w.heap.size w W0) := ⟨by rw [hW0]; exact (bel_alloc (bel_alloc (Below.refl _ _) _) _)⟩
 have F0 : Aside0 (W0.heap[w.heap.size]? = some (.cells #[.int .i64 x.f0, .string x.f1.f0, .string x.f1.f1, .slice A0 x.f2.length c0, .slice A1 x.f3.length c1] 28 (0, 0))) := ⟨by rw [hW0]; exact blk_alloc (blk_at _ _ (by first | rfl | (simp; done))) _⟩
 have FA : Aside0 (W0.heap[w.heap.size + 1]? = some (.cells #[.string a.f0, .string a.f1] 24 (0, 0))) := ⟨by rw [hW0]; exact blk_at _ _ (by simp)⟩
 have HL : Aside0 (w.heap.size + 2 ≤ W0.heap.size) := ⟨by rw [hW0]; simp⟩
 clear hW0
 clear HL
 go_loopg [5] (x.f2.length) (fun g v wr => ∃ k : Nat, k ≤ x.f2.length ∧ x.f2.length - k ≤ g ∧ v = .int .i64 k ∧ Aside0 (Below W0.heap.size W0 wr) ∧ Aside0 (∀ j, j < k → (fun r : SRcpt => sameA r.f0 a) (x.f2.getD j zRcpt) = false))
 case atStart => exact ⟨0, Nat.zero_le _, by omega, rfl, ⟨Below.refl _ _⟩, ⟨fun j hj => absurd hj (Nat.not_lt_zero _)⟩⟩
 case round =>
  obtain ⟨k, hk, hg, rfl, BW, H⟩ := hrel
  have nF0 := below_blk F0.out BW.out
  have zF0 := blk_lt nF0
  have cF0_0 : wr.cell? ⟨w.heap.size, 0, none⟩ = some (.int .i64 x.f0) := clq nF0 0 rfl
  have cF0_1 : wr.cell? ⟨w.heap.size, 1, none⟩ = some (.string x.f1.f0) := clq nF0 1 rfl
  have cF0_2 : wr.cell? ⟨w.heap.size, 2, none⟩ = some (.string x.f1.f1) := clq nF0 2 rfl
  have cF0_3 : wr.cell? ⟨w.heap.size, 3, none⟩ = some (.slice A0 x.f2.length c0) := clq nF0 3 rfl
  have cF0_4 : wr.cell? ⟨w.heap.size, 4, none⟩ = some (.slice A1 x.f3.length c1) := clq nF0 4 rfl
  clear nF0
  have nFA := below_blk FA.out BW.out
  have zFA := blk_lt nFA
  have cFA_0 : wr.cell? ⟨w.heap.size + 1, 0, none⟩ = some (.string a.f0) := clq nFA 0 rfl
  have cFA_1 : wr.cell? ⟨w.heap.size + 1, 1, none⟩ = some (.string a.f1) := clq nFA 1 rfl
  clear nFA
  by_cases hlt : k < x.f2.length
  ·have hlt' : (k : Int) < (x.f2.length : Int) := by omega
   obtain ⟨ad, e1, p0, p1, p2, p3⟩ := at_Rcpt (Kd.C_below hr (bel_then HB.out BW.out)) k hlt
   subst e1
   have HT := Lib.hid (fun hp : (fun r : SRcpt => sameA r.f0 a) (x.f2.getD k zRcpt) = true => idx_hit (fun r : SRcpt => sameA r.f0 a) x.f2 zRcpt k hlt hp H.out)
   have HF := Lib.hid (fun hp : (fun r : SRcpt => sameA r.f0 a) (x.f2.getD k zRcpt) = false => (fun j (hj : j < k + 1) => by
    by_cases e : j = k
    ·subst e; exact hp
    ·exact H.out j (by omega) : ∀ j, j < k + 1 → (fun r : SRcpt => sameA r.f0 a) (x.f2.getD j zRcpt) = false))
   generalize x.f2.getD k zRcpt = y at p0 p1 p2 p3 HT HF
   cases hq : (fun r : SRcpt => sameA r.f0 a) y
   ·have HF2 := Lib.hid (HF.out hq)
    have hq0 : ((y.f0.f0.toList == a.f0.toList) && (y.f0.f1.toList == a.f1.toList)) = false := hq
    clear HT HF
    clear p2 p3
    go_wp2
    go_quiet (fail)
    go_wp2
    go_roundg (x.f2.length - (k + 1))
    case measure => omega
    case rel => exact ⟨k + 1, by omega, Nat.le_refl _, by go_num, ⟨blw_drewN BW.out _⟩, ⟨HF2.out⟩⟩
   ·have HT2 := Lib.hid (HT.out hq)
    have hq0 : ((y.f0.f0.toList == a.f0.toList) && (y.f0.f1.toList == a.f1.toList)) = true := hq
    clear HT HF
    clear p2 p3
    go_wp2
    go_quiet (fail)
    go_wp2
    go_ret
    exact ⟨by rw [show rcptAt a x.f2 = (k : Int) from HT2.out]; rfl, bel_then HB.out (blw_drewN BW.out _)⟩
  ·have hlt' : ¬ (k : Int) < (x.f2.length : Int) := by omega
   have HM := Lib.hid (idx_miss (fun r : SRcpt => sameA r.f0 a) x.f2 zRcpt (fun j hj => H.out j (by omega)))
   go_wp2
   go_ret
   exact ⟨by rw [show rcptAt a x.f2 = -1 from HM.out]; rfl, bel_then HB.out BW.out⟩

end Go.Proofs.YtiaibgkpohmihaaDoor
