/- Copies of spools, of the reference: a contract. -/
import Derived.Test.YtiaibgkpohmihaaDoorReg
import Derived.Test.YtiaibgkpohmihaaDoorCpItem
import Derived.Test.YtiaibgkpohmihaaDoorDrw0
import Derived.Test.YtiaibgkpohmihaaDoorSpoolD
import Derived.Deep.RegionHeld3
namespace Go.Proofs.YtiaibgkpohmihaaDoor
open Go.RowKit Go.Proofs.YtiaibgkpohmihaaDoorW.PrintWords
set_option linter.unusedVariables false
set_option linter.unusedSimpArgs false

set_option maxRecDepth 100000 in
set_option maxHeartbeats 4000000 in
theorem specCopySpool_any (s : SSpool) (A0 : Option Addr) (c0 : Nat) (w : World) (hw : fitSpool s) (hr0 : Kd.C kItem w A0 s.f1.length s.f1) :
  Calls Tryd.prog 52 #[.agg #[.int .i64 s.f0, .slice A0 s.f1.length c0]] w fun e w' => ∃ B d, e = .returned (.agg #[.int .i64 s.f0, .slice B s.f1.length d]) ∧ Kd.S kItem 28 w' w.heap.size (fun _ => True) (.slice B s.f1.length d) s.f1 ∧ Below w.heap.size w w' := by
 obtain ⟨hw0, hlen, hx⟩ := hw
 have HX := Lib.hid hx
 clear hx
 go_enter Tryd.func52, Tryd.ntmps52
 go_wp2
 obtain ⟨W0, hW0⟩ : ∃ W, W = (((w.alloc (.cells #[.int .i64 s.f0, .slice A0 s.f1.length c0] 43)).alloc (.cells #[.int .i64 0, .slice none 0 0] 43)).alloc (.cells #[.int .i64 s.f0, .slice none 0 0] 43)) := ⟨_, rfl⟩
 rw [← hW0]
 have HB : Aside0 (Below w.heap.size w W0) := ⟨by rw [hW0]; exact (bel_alloc (bel_alloc (bel_alloc (Below.refl _ _) _) _) _)⟩
 have F0 : Aside0 (W0.heap[w.heap.size]? = some (.cells #[.int .i64 s.f0, .slice A0 s.f1.length c0] 43 (0, 0))) := ⟨by rw [hW0]; exact blk_alloc (blk_alloc (blk_at _ _ (by first | rfl | (simp; done))) _) _⟩
 have F2 : Aside0 (W0.heap[w.heap.size + 1]? = some (.cells #[.int .i64 0, .slice none 0 0] 43 (0, 0))) := ⟨by rw [hW0]; exact blk_alloc (blk_at _ _ (by simp)) _⟩
 have F1 : Aside0 (W0.heap[w.heap.size + 2]? = some (.cells #[.int .i64 s.f0, .slice none 0 0] 43 (0, 0))) := ⟨by rw [hW0]; exact blk_at _ _ (by simp)⟩
 have HL : Aside0 (w.heap.size + 3 ≤ W0.heap.size) := ⟨by rw [hW0]; simp⟩
 clear hW0
 go_loopg [4] (s.f1.length) (fun g v4 wr => ∃ (i : Nat) (Ao : Option Addr) (co : Nat), i ≤ s.f1.length ∧ s.f1.length - i ≤ g ∧ v4 = .int .i64 i ∧ Aside0 (Below w.heap.size w wr) ∧ Aside0 (wr.heap[w.heap.size]? = some (.cells #[.int .i64 s.f0, .slice A0 s.f1.length c0] 43 (0, 0))) ∧ Aside0 (wr.heap[w.heap.size + 1]? = some (.cells #[.int .i64 0, .slice none 0 0] 43 (0, 0))) ∧ Aside0 (wr.heap[w.heap.size + 2]? = some (.cells #[.int .i64 s.f0, .slice Ao (s.f1.take i).length co] 43 (0, 0))) ∧ Aside0 (Kd.S kItem 28 wr w.heap.size (fun _ => True) (.slice Ao (s.f1.take i).length co) (s.f1.take i)))
 case atStart => exact ⟨0, none, 0, Nat.zero_le _, by omega, rfl, HB, F0, F2, F1, ⟨Kd.S_nil _ _ _ _ _⟩⟩
 case round =>
  clear HB F0 F1 F2 HL
  obtain ⟨i, Ao, co, hi, hg, rfl, HB, F0, F2, F1, HO⟩ := hrel
  by_cases hlt : i < s.f1.length
  ·have hlt' : (i : Int) < (s.f1.length : Int) := by omega
   obtain ⟨ad, Q0, qc0, Q1, qc1, e1, p0, p1, p2, p3, p4, l0, k0, l1, k1⟩ := at_Item hr0 i hlt
   subst e1
   have hm := HX.out (s.f1.getD i zItem) (getD_mem _ _ hlt)
   have hnx : s.f1.take (i + 1) = s.f1.take i ++ [s.f1.getD i zItem] := by rw [List.take_succ_eq_append_getElem hlt, List.getD, List.getElem?_eq_getElem hlt]; rfl
   have hln : (s.f1.take i).length = i := by rw [List.length_take]; omega
   generalize s.f1.getD i zItem = y at p0 p1 p2 p3 p4 l0 k0 l1 k1 hm hnx
   generalize s.f1.take i = ys at F1 HO hnx hln
   have HN := Lib.hid hnx
   have HLN := Lib.hid hln
   have HM := Lib.hid hm
   have K0 := Aside0.mk k0
   have K1 := Aside0.mk k1
   have HE : Aside0 (∀ W, Below w.heap.size w W → W.cell? (ad.add (i * 5)) = some (.int .i64 y.f0) ∧ W.cell? ⟨(ad.add (i * 5)).block, (ad.add (i * 5)).off + 1, none⟩ = some (.string y.f1.f0) ∧ W.cell? ⟨(ad.add (i * 5)).block, (ad.add (i * 5)).off + 2, none⟩ = some (.string y.f1.f1) ∧ W.cell? ⟨(ad.add (i * 5)).block, (ad.add (i * 5)).off + 3, none⟩ = some (.slice Q0 y.f2.length qc0) ∧ W.cell? ⟨(ad.add (i * 5)).block, (ad.add (i * 5)).off + 4, none⟩ = some (.slice Q1 y.f3.length qc1)) := ⟨fun W h => ⟨(h.cell (World.block_lt_of_cell? _ _ p0)).trans p0, (h.cell (World.block_lt_of_cell? _ _ p1)).trans p1, (h.cell (World.block_lt_of_cell? _ _ p2)).trans p2, (h.cell (World.block_lt_of_cell? _ _ p3)).trans p3, (h.cell (World.block_lt_of_cell? _ _ p4)).trans p4⟩⟩
   clear hnx k0 k1 l0 l1 hln hm p0 p1 p2 p3 p4
   obtain ⟨c5_0, c5_1, c5_2, c5_3, c5_4⟩ := HE.out _ HB.out
   have HL : Aside0 (w.heap.size + 3 ≤ wr.heap.size) := ⟨by have := blk_lt F1.out; omega⟩
   have zF0 := blk_lt F0.out
   have cF0_0 : wr.cell? ⟨w.heap.size, 0, none⟩ = some (.int .i64 s.f0) := clq F0.out 0 rfl
   have cF0_1 : wr.cell? ⟨w.heap.size, 1, none⟩ = some (.slice (some ad) s.f1.length c0) := clq F0.out 1 rfl
   have zF1 := blk_lt F1.out
   have cF1_0 : wr.cell? ⟨w.heap.size + 2, 0, none⟩ = some (.int .i64 s.f0) := clq F1.out 0 rfl
   have cF1_1 : wr.cell? ⟨w.heap.size + 2, 1, none⟩ = some (.slice Ao ys.length co) := clq F1.out 1 rfl
   go_wp2
   refine wp_region_held_drew (S := (fun _ => True)) (by kernel_rfl) ?s236 (fun hHeld => ?t236)
   case s236 => exact trivial
   generalize hWV0 : World.drew (wr) = V0 at hHeld ⊢
   have ltF0 := blk_lt F0.out
   have ltF2 := blk_lt F2.out
   have ltF1 := blk_lt F1.out
   have ltb := HB.out.size
   have ltl := HL.out
   have TT : ∀ k, k < wr.heap.size → V0.heap[k]? = wr.heap[k]? := fun k hk => by rw [← hWV0]; (with_reducible repeat (first | rfl | refine hp_set ?_ ?_ | refine hp_alloc ?_ ?_ | refine hp_drew ?_)); all_goals (first | (with_reducible rfl) | omega | (dsimp only; omega) | (simp; omega))
   have TS : wr.heap.size + 0 ≤ V0.heap.size := by rw [← hWV0]; simp
   have nF0 : V0.heap[w.heap.size]? = some (.cells #[.int .i64 s.f0, .slice (some ad) s.f1.length c0] 43 (0, 0)) := (TT _ ltF0).trans F0.out
   have nF2 : V0.heap[w.heap.size + 1]? = some (.cells #[.int .i64 0, .slice none 0 0] 43 (0, 0)) := (TT _ ltF2).trans F2.out
   have nF1 : V0.heap[w.heap.size + 2]? = some (.cells #[.int .i64 s.f0, .slice Ao ys.length co] 43 (0, 0)) := (TT _ ltF1).trans F1.out
   have nHO : Kd.S kItem 28 V0 w.heap.size (fun _ => True) (.slice Ao ys.length co) ys := Kd.S_mono (Kd.S_step (HO.out) (fun k hk hlt => TT k hlt)) (fun _ hk => hk)
   have nHB : Below w.heap.size w V0 := by rw [← hWV0]; exact bel_then (HB.out) (drew_below0 _)
   clear zF0 cF0_0 cF0_1 zF1 cF1_0 cF1_1
   clear hWV0 F0 F2 F1 HB HO
   have F0 := Aside0.mk nF0
   clear nF0
   have F2 := Aside0.mk nF2
   clear nF2
   have F1 := Aside0.mk nF1
   clear nF1
   have HO := Aside0.mk nHO
   clear nHO
   have HB := Aside0.mk nHB
   clear nHB
   replace HL := Aside0.mk (Nat.le_trans HL.out (by omega : wr.heap.size ≤ V0.heap.size))
   clear TT TS ltF0 ltF2 ltF1 ltb ltl
   clear c5_0 c5_1 c5_2 c5_3 c5_4
   have zF0 := blk_lt F0.out
   have cF0_0 : V0.cell? ⟨w.heap.size, 0, none⟩ = some (.int .i64 s.f0) := clq F0.out 0 rfl
   have cF0_1 : V0.cell? ⟨w.heap.size, 1, none⟩ = some (.slice (some ad) s.f1.length c0) := clq F0.out 1 rfl
   have zF1 := blk_lt F1.out
   have cF1_0 : V0.cell? ⟨w.heap.size + 2, 0, none⟩ = some (.int .i64 s.f0) := clq F1.out 0 rfl
   have cF1_1 : V0.cell? ⟨w.heap.size + 2, 1, none⟩ = some (.slice Ao ys.length co) := clq F1.out 1 rfl
   obtain ⟨c5_0, c5_1, c5_2, c5_3, c5_4⟩ := HE.out V0 HB.out
   refine tk 0 ?v237 ?y237 ?r237
   case y237 => intro w_ hSw; (try dsimp only at hSw); go_simp; (try (with_reducible rfl))
   try simp only [Act.put, List.setIfInBounds_toArray, List.set_cons_zero, List.set_cons_succ]
   refine tk 2 ?v238 ?y238 ?r238
   case y238 => intro w_ hSw; (try dsimp only at hSw); go_simp; (try (with_reducible rfl))
   try simp only [Act.put, List.setIfInBounds_toArray, List.set_cons_zero, List.set_cons_succ]
   refine tk 4 ?v239 ?y239 ?r239
   case y239 => intro w_ hSw; (try dsimp only at hSw); go_simp; (try (with_reducible rfl))
   try simp only [Act.put, List.setIfInBounds_toArray, List.set_cons_zero, List.set_cons_succ]
   refine rdy (rs := [1, 3]) ?_
   refine rc (fun K hK => ?k240) (rc (fun K hK => ?k241) AllReadyH.nil)
   case k240 =>
    go_simp
    refine hK.out _ _ ?h242 (fun hHeld => ?j242)
    case h242 => exact hHeld
    clear hK K
    try simp only [Act.put, List.setIfInBounds_toArray, List.set_cons_zero, List.set_cons_succ]
    refine rdy (rs := [3]) ?_
    refine rc (fun K hK => ?k243) AllReadyH.nil
    case k243 =>
     go_simp
     refine hK.out _ _ ?h244 (fun hHeld => ?j244)
     case h244 => exact hHeld
     clear hK K
     try simp only [Act.put, List.setIfInBounds_toArray, List.set_cons_zero, List.set_cons_succ]
     refine tk 5 ?v245 ?y245 ?r245
     case y245 => intro w_ hSw; (try dsimp only at hSw); go_simp; (try (with_reducible rfl))
     try simp only [Act.put, List.setIfInBounds_toArray, List.set_cons_zero, List.set_cons_succ]
     refine rdy (rs := [6]) ?_
     refine rc (fun K hK => ?k246) AllReadyH.nil
     case k246 =>
      go_simp
      refine hK.out _ _ ?h247 (fun hHeld => ?j247)
      case h247 => exact hHeld
      clear hK K
      try simp only [Act.put, List.setIfInBounds_toArray, List.set_cons_zero, List.set_cons_succ]
      refine rdy (rs := [7]) ?_
      refine rc (fun K hK => ?k248) AllReadyH.nil
      case k248 =>
       go_simp
       replace HO : Aside0 (Kd.S kItem 28 V0 w.heap.size (fun k => k < V0.heap.size) (.slice Ao ys.length co) ys) := ⟨Kd.S_mono (Kd.S_bound HO.out) (fun k hk => hk.2.2.1)⟩
       have hbase := HB.out.size
       refine Calls.mono (specCopyItem_any y Q0 qc0 Q1 qc1 _ HM.out (Kd.C_below K0.out HB.out) (Kd.C_below K1.out HB.out)) ?_
       rintro e V7 ⟨B0, d0, B1, d1, rfl, rU0, rU1, bV7⟩
       clear zF0 cF0_0 cF0_1 zF1 cF1_0 cF1_1
       replace F0 := Aside0.mk (below_blk F0.out bV7)
       replace F2 := Aside0.mk (below_blk F2.out bV7)
       replace F1 := Aside0.mk (below_blk F1.out bV7)
       replace HO := Aside0.mk (Kd.S_below HO.out bV7)
       have U0 : Aside0 (Kd.R kRcpt 55 V7 V0.heap.size (fun _ => True) (.slice B0 y.f2.length d0) y.f2) := ⟨Kd.R_lower (base' := V0.heap.size) rU0 (Nat.le_refl _)⟩
       clear rU0
       have U1 : Aside0 (Kd.R Kd.string 9 V7 V0.heap.size (fun _ => True) (.slice B1 y.f3.length d1) y.f3) := ⟨Kd.R_lower (base' := V0.heap.size) rU1 (Nat.le_refl _)⟩
       clear rU1
       replace HB := Aside0.mk (bel_then HB.out bV7)
       replace HL := Aside0.mk (Nat.le_trans HL.out bV7.size)
       clear bV7
       clear c5_0 c5_1 c5_2 c5_3 c5_4
       have zF0 := blk_lt F0.out
       have cF0_0 : V7.cell? ⟨w.heap.size, 0, none⟩ = some (.int .i64 s.f0) := clq F0.out 0 rfl
       have cF0_1 : V7.cell? ⟨w.heap.size, 1, none⟩ = some (.slice (some ad) s.f1.length c0) := clq F0.out 1 rfl
       have zF1 := blk_lt F1.out
       have cF1_0 : V7.cell? ⟨w.heap.size + 2, 0, none⟩ = some (.int .i64 s.f0) := clq F1.out 0 rfl
       have cF1_1 : V7.cell? ⟨w.heap.size + 2, 1, none⟩ = some (.slice Ao ys.length co) := clq F1.out 1 rfl
       obtain ⟨c5_0, c5_1, c5_2, c5_3, c5_4⟩ := HE.out V7 HB.out
       refine hK.out _ _ ?h249 (fun hHeld => ?j249)
       case h249 => exact trivial
       clear hK K
       try simp only [Act.put, List.setIfInBounds_toArray, List.set_cons_zero, List.set_cons_succ]
       refine rdy (rs := [8]) ?_
       refine rc (fun K hK => ?k250) AllReadyH.nil
       case k250 =>
        go_simp
        refine hK.out _ _ ?h251 (fun hHeld => ?j251)
        case h251 => exact trivial
        clear hK K
        try simp only [Act.put, List.setIfInBounds_toArray, List.set_cons_zero, List.set_cons_succ]
        generalize hV8 : World.alloc V7 _ = V8 at hHeld ⊢
        clear zF0 cF0_0 cF0_1 zF1 cF1_0 cF1_1 c5_0 c5_1 c5_2 c5_3 c5_4
        have gF0 : V8.heap[w.heap.size]? = some (.cells #[.int .i64 s.f0, .slice (some ad) s.f1.length c0] 43 (0, 0)) := by rw [← hV8]; exact blk_alloc F0.out _
        have cF0_0 : V8.cell? ⟨w.heap.size, 0, none⟩ = some (.int .i64 s.f0) := by simp [World.cell?, gF0]
        have cF0_1 : V8.cell? ⟨w.heap.size, 1, none⟩ = some (.slice (some ad) s.f1.length c0) := by simp [World.cell?, gF0]
        have gF1 : V8.heap[w.heap.size + 2]? = some (.cells #[.int .i64 s.f0, .slice Ao ys.length co] 43 (0, 0)) := by rw [← hV8]; exact blk_alloc F1.out _
        have cF1_0 : V8.cell? ⟨w.heap.size + 2, 0, none⟩ = some (.int .i64 s.f0) := by simp [World.cell?, gF1]
        have cF1_1 : V8.cell? ⟨w.heap.size + 2, 1, none⟩ = some (.slice Ao ys.length co) := by simp [World.cell?, gF1]
        clear gF0 gF1
        refine rdy (rs := [9]) ?_
        refine rc (fun K hK => ?k252) AllReadyH.nil
        case k252 =>
         subst hV8
         clear cF0_0 cF0_1 cF1_0 cF1_1
         refine Kd.S_append_step kItem (w0 := w) (w.heap.size) (by rfl) (.tmp 16) (.tmp 23) 41 28 (.agg #[(.int .i64 0), (.string ⟨#[]⟩), (.string ⟨#[]⟩), (.slice none 0 0), (.slice none 0 0)]) 88 rfl Tryd.underlying41 info28 rfl (by decide) (by omega) (.slice Ao ys.length co) (ys) (y) [.int .i64 y.f0, .string y.f1.f0, .string y.f1.f1, .slice B0 y.f2.length d0, .slice B1 y.f3.length d1] (fun _ => True) (fun k => V0.heap.size ≤ k) rfl rfl (kItem_mkM _ _ _ y (Kd.R_mono (Kd.R_lower (base' := w.heap.size) (Kd.R_bound U0.out) hbase) (fun k hk => hk.2.1)) (Kd.R_mono (Kd.R_lower (base' := w.heap.size) (Kd.R_bound U1.out) hbase) (fun k hk => hk.2.1))) (fun k hk => ⟨trivial, fun e => absurd ((Kd.S_R HO.out).1 k e.symm) (Nat.not_lt.2 hk)⟩) (fun _ _ => trivial) (Kd.S_mono HO.out (fun k hk => ⟨trivial, fun h => absurd hk (Nat.not_lt.2 h)⟩)) HB.out HB.out.size (by have := HLN.out; omega) ?_
         intro v9 V9 ho hb hg hat
         obtain ⟨vB, vd, hv⟩ := Kd.S_slice ho
         subst hv
         have nF0 : V9.heap[w.heap.size]? = some (.cells #[.int .i64 s.f0, .slice (some ad) s.f1.length c0] 43 (0, 0)) := (hg.block _ (blk_lt F0.out) (Kd.S_ne HO.out F0.out (by decide))).trans F0.out
         have nF2 : V9.heap[w.heap.size + 1]? = some (.cells #[.int .i64 0, .slice none 0 0] 43 (0, 0)) := (hg.block _ (blk_lt F2.out) (Kd.S_ne HO.out F2.out (by decide))).trans F2.out
         have nF1 : V9.heap[w.heap.size + 2]? = some (.cells #[.int .i64 s.f0, .slice Ao ys.length co] 43 (0, 0)) := (hg.block _ (blk_lt F1.out) (Kd.S_ne HO.out F1.out (by decide))).trans F1.out
         have nHL := Aside0.mk (Nat.le_trans HL.out hg.size)
         clear HO HB HL hbase F0 F2 F1 U0 U1
         have F0 := Aside0.mk nF0
         have F2 := Aside0.mk nF2
         have F1 := Aside0.mk nF1
         have HO := Aside0.mk ho
         have HB := Aside0.mk hb
         have HL := nHL
         clear ho hb hg hat nHL nF0 nF2 nF1
         have zF1 := blk_lt F1.out
         have cF1_0 : V9.cell? ⟨w.heap.size + 2, 0, none⟩ = some (.int .i64 s.f0) := clq F1.out 0 rfl
         have dF1_0 := fzq F1.out 0
         have cF1_1 : V9.cell? ⟨w.heap.size + 2, 1, none⟩ = some (.slice Ao ys.length co) := clq F1.out 1 rfl
         have dF1_1 := fzq F1.out 1
         refine hK.out _ _ ?h253 (fun hHeld => ?j253)
         case h253 => exact trivial
         clear hK K
         try simp only [Act.put, List.setIfInBounds_toArray, List.set_cons_zero, List.set_cons_succ]
         refine tk 10 ?v254 ?y254 ?r254
         case y254 => intro w_ hSw; (try dsimp only at hSw); go_simp; (try (with_reducible rfl))
         try simp only [Act.put, List.setIfInBounds_toArray, List.set_cons_zero, List.set_cons_succ]
         refine rdy (rs := [11]) ?_
         refine rc (fun K hK => ?k255) AllReadyH.nil
         case k255 =>
          go_simp
          generalize hWV11 : World.setCell (V9) _ _ = V11
          have ltF0 := blk_lt F0.out
          have ltF2 := blk_lt F2.out
          have ltF1 := blk_lt F1.out
          have ltb := HB.out.size
          have ltl := HL.out
          have TT : ∀ k, k < V9.heap.size → k ≠ w.heap.size + 2 → V11.heap[k]? = V9.heap[k]? := fun k hk n_F1 => by rw [← hWV11]; (with_reducible repeat (first | rfl | refine hp_set ?_ ?_ | refine hp_alloc ?_ ?_ | refine hp_drew ?_)); all_goals (first | (with_reducible rfl) | omega | (dsimp only; omega) | (simp; omega))
          have TS : V9.heap.size + 0 ≤ V11.heap.size := by rw [← hWV11]; simp
          have nF0 : V11.heap[w.heap.size]? = some (.cells #[.int .i64 s.f0, .slice (some ad) s.f1.length c0] 43 (0, 0)) := (TT _ ltF0 (by omega)).trans F0.out
          have nF2 : V11.heap[w.heap.size + 1]? = some (.cells #[.int .i64 0, .slice none 0 0] 43 (0, 0)) := (TT _ ltF2 (by omega)).trans F2.out
          have nF1 : V11.heap[w.heap.size + 2]? = some (.cells #[.int .i64 s.f0, .slice vB (ys ++ [y]).length vd] 43 (0, 0)) := by rw [← hWV11]; have h := blk_set1 (F1.out) 1 (.slice vB (ys ++ [y]).length vd); simpa using h
          have nHO : Kd.S kItem 28 V11 w.heap.size (fun _ => True) (.slice vB (ys ++ [y]).length vd) (ys ++ [y]) := Kd.S_mono (Kd.S_step (Kd.S_types (HO.out) F1.out (by decide)) (fun k hk hlt => TT k hlt (hk.2))) (fun _ hk => hk.1)
          have nHB : Below w.heap.size w V11 := by rw [← hWV11]; exact bel_set (HB.out) _ (by show w.heap.size ≤ w.heap.size + 2; first | omega | (simp; omega))
          clear zF1 cF1_0 dF1_0 cF1_1 dF1_1
          clear hWV11 F0 F2 F1 HB HO
          have F0 := Aside0.mk nF0
          clear nF0
          have F2 := Aside0.mk nF2
          clear nF2
          have F1 := Aside0.mk nF1
          clear nF1
          have HO := Aside0.mk nHO
          clear nHO
          have HB := Aside0.mk nHB
          clear nHB
          replace HL := Aside0.mk (Nat.le_trans HL.out (by omega : V9.heap.size ≤ V11.heap.size))
          clear TT TS ltF0 ltF2 ltF1 ltb ltl
          refine hK.out _ _ ?h256 (fun hHeld => ?j256)
          case h256 => exact trivial
          clear hK K
          try simp only [Act.put, List.setIfInBounds_toArray, List.set_cons_zero, List.set_cons_succ]
          refine wpAnyH_done (by kernel_rfl) ?_ _
          go_wp2
          go_roundg (s.f1.length - (i + 1))
          case measure => omega
          case rel => exact ⟨i + 1, vB, vd, by omega, Nat.le_refl _, by go_num, HB, F0, F2, ⟨by rw [HN.out]; exact F1.out⟩, ⟨by rw [HN.out]; exact HO.out⟩⟩
   case k241 =>
    go_simp
    refine hK.out _ _ ?h257 (fun hHeld => ?j257)
    case h257 => exact hHeld
    clear hK K
    try simp only [Act.put, List.setIfInBounds_toArray, List.set_cons_zero, List.set_cons_succ]
    refine tk 5 ?v258 ?y258 ?r258
    case y258 => intro w_ hSw; (try dsimp only at hSw); go_simp; (try (with_reducible rfl))
    try simp only [Act.put, List.setIfInBounds_toArray, List.set_cons_zero, List.set_cons_succ]
    refine rdy (rs := [1, 6]) ?_
    refine rc (fun K hK => ?k259) (rc (fun K hK => ?k260) AllReadyH.nil)
    case k259 =>
     go_simp
     refine hK.out _ _ ?h261 (fun hHeld => ?j261)
     case h261 => exact hHeld
     clear hK K
     try simp only [Act.put, List.setIfInBounds_toArray, List.set_cons_zero, List.set_cons_succ]
     refine rdy (rs := [6]) ?_
     refine rc (fun K hK => ?k262) AllReadyH.nil
     case k262 =>
      go_simp
      refine hK.out _ _ ?h263 (fun hHeld => ?j263)
      case h263 => exact hHeld
      clear hK K
      try simp only [Act.put, List.setIfInBounds_toArray, List.set_cons_zero, List.set_cons_succ]
      refine rdy (rs := [7]) ?_
      refine rc (fun K hK => ?k264) AllReadyH.nil
      case k264 =>
       go_simp
       replace HO : Aside0 (Kd.S kItem 28 V0 w.heap.size (fun k => k < V0.heap.size) (.slice Ao ys.length co) ys) := ⟨Kd.S_mono (Kd.S_bound HO.out) (fun k hk => hk.2.2.1)⟩
       have hbase := HB.out.size
       refine Calls.mono (specCopyItem_any y Q0 qc0 Q1 qc1 _ HM.out (Kd.C_below K0.out HB.out) (Kd.C_below K1.out HB.out)) ?_
       rintro e V7 ⟨B0, d0, B1, d1, rfl, rU0, rU1, bV7⟩
       clear zF0 cF0_0 cF0_1 zF1 cF1_0 cF1_1
       replace F0 := Aside0.mk (below_blk F0.out bV7)
       replace F2 := Aside0.mk (below_blk F2.out bV7)
       replace F1 := Aside0.mk (below_blk F1.out bV7)
       replace HO := Aside0.mk (Kd.S_below HO.out bV7)
       have U0 : Aside0 (Kd.R kRcpt 55 V7 V0.heap.size (fun _ => True) (.slice B0 y.f2.length d0) y.f2) := ⟨Kd.R_lower (base' := V0.heap.size) rU0 (Nat.le_refl _)⟩
       clear rU0
       have U1 : Aside0 (Kd.R Kd.string 9 V7 V0.heap.size (fun _ => True) (.slice B1 y.f3.length d1) y.f3) := ⟨Kd.R_lower (base' := V0.heap.size) rU1 (Nat.le_refl _)⟩
       clear rU1
       replace HB := Aside0.mk (bel_then HB.out bV7)
       replace HL := Aside0.mk (Nat.le_trans HL.out bV7.size)
       clear bV7
       clear c5_0 c5_1 c5_2 c5_3 c5_4
       have zF0 := blk_lt F0.out
       have cF0_0 : V7.cell? ⟨w.heap.size, 0, none⟩ = some (.int .i64 s.f0) := clq F0.out 0 rfl
       have cF0_1 : V7.cell? ⟨w.heap.size, 1, none⟩ = some (.slice (some ad) s.f1.length c0) := clq F0.out 1 rfl
       have zF1 := blk_lt F1.out
       have cF1_0 : V7.cell? ⟨w.heap.size + 2, 0, none⟩ = some (.int .i64 s.f0) := clq F1.out 0 rfl
       have cF1_1 : V7.cell? ⟨w.heap.size + 2, 1, none⟩ = some (.slice Ao ys.length co) := clq F1.out 1 rfl
       obtain ⟨c5_0, c5_1, c5_2, c5_3, c5_4⟩ := HE.out V7 HB.out
       refine hK.out _ _ ?h265 (fun hHeld => ?j265)
       case h265 => exact trivial
       clear hK K
       try simp only [Act.put, List.setIfInBounds_toArray, List.set_cons_zero, List.set_cons_succ]
       refine rdy (rs := [8]) ?_
       refine rc (fun K hK => ?k266) AllReadyH.nil
       case k266 =>
        go_simp
        refine hK.out _ _ ?h267 (fun hHeld => ?j267)
        case h267 => exact trivial
        clear hK K
        try simp only [Act.put, List.setIfInBounds_toArray, List.set_cons_zero, List.set_cons_succ]
        generalize hV8 : World.alloc V7 _ = V8 at hHeld ⊢
        clear zF0 cF0_0 cF0_1 zF1 cF1_0 cF1_1 c5_0 c5_1 c5_2 c5_3 c5_4
        have gF0 : V8.heap[w.heap.size]? = some (.cells #[.int .i64 s.f0, .slice (some ad) s.f1.length c0] 43 (0, 0)) := by rw [← hV8]; exact blk_alloc F0.out _
        have cF0_0 : V8.cell? ⟨w.heap.size, 0, none⟩ = some (.int .i64 s.f0) := by simp [World.cell?, gF0]
        have cF0_1 : V8.cell? ⟨w.heap.size, 1, none⟩ = some (.slice (some ad) s.f1.length c0) := by simp [World.cell?, gF0]
        have gF1 : V8.heap[w.heap.size + 2]? = some (.cells #[.int .i64 s.f0, .slice Ao ys.length co] 43 (0, 0)) := by rw [← hV8]; exact blk_alloc F1.out _
        have cF1_0 : V8.cell? ⟨w.heap.size + 2, 0, none⟩ = some (.int .i64 s.f0) := by simp [World.cell?, gF1]
        have cF1_1 : V8.cell? ⟨w.heap.size + 2, 1, none⟩ = some (.slice Ao ys.length co) := by simp [World.cell?, gF1]
        clear gF0 gF1
        refine rdy (rs := [9]) ?_
        refine rc (fun K hK => ?k268) AllReadyH.nil
        case k268 =>
         subst hV8
         clear cF0_0 cF0_1 cF1_0 cF1_1
         refine Kd.S_append_step kItem (w0 := w) (w.heap.size) (by rfl) (.tmp 16) (.tmp 23) 41 28 (.agg #[(.int .i64 0), (.string ⟨#[]⟩), (.string ⟨#[]⟩), (.slice none 0 0), (.slice none 0 0)]) 88 rfl Tryd.underlying41 info28 rfl (by decide) (by omega) (.slice Ao ys.length co) (ys) (y) [.int .i64 y.f0, .string y.f1.f0, .string y.f1.f1, .slice B0 y.f2.length d0, .slice B1 y.f3.length d1] (fun _ => True) (fun k => V0.heap.size ≤ k) rfl rfl (kItem_mkM _ _ _ y (Kd.R_mono (Kd.R_lower (base' := w.heap.size) (Kd.R_bound U0.out) hbase) (fun k hk => hk.2.1)) (Kd.R_mono (Kd.R_lower (base' := w.heap.size) (Kd.R_bound U1.out) hbase) (fun k hk => hk.2.1))) (fun k hk => ⟨trivial, fun e => absurd ((Kd.S_R HO.out).1 k e.symm) (Nat.not_lt.2 hk)⟩) (fun _ _ => trivial) (Kd.S_mono HO.out (fun k hk => ⟨trivial, fun h => absurd hk (Nat.not_lt.2 h)⟩)) HB.out HB.out.size (by have := HLN.out; omega) ?_
         intro v9 V9 ho hb hg hat
         obtain ⟨vB, vd, hv⟩ := Kd.S_slice ho
         subst hv
         have nF0 : V9.heap[w.heap.size]? = some (.cells #[.int .i64 s.f0, .slice (some ad) s.f1.length c0] 43 (0, 0)) := (hg.block _ (blk_lt F0.out) (Kd.S_ne HO.out F0.out (by decide))).trans F0.out
         have nF2 : V9.heap[w.heap.size + 1]? = some (.cells #[.int .i64 0, .slice none 0 0] 43 (0, 0)) := (hg.block _ (blk_lt F2.out) (Kd.S_ne HO.out F2.out (by decide))).trans F2.out
         have nF1 : V9.heap[w.heap.size + 2]? = some (.cells #[.int .i64 s.f0, .slice Ao ys.length co] 43 (0, 0)) := (hg.block _ (blk_lt F1.out) (Kd.S_ne HO.out F1.out (by decide))).trans F1.out
         have nHL := Aside0.mk (Nat.le_trans HL.out hg.size)
         clear HO HB HL hbase F0 F2 F1 U0 U1
         have F0 := Aside0.mk nF0
         have F2 := Aside0.mk nF2
         have F1 := Aside0.mk nF1
         have HO := Aside0.mk ho
         have HB := Aside0.mk hb
         have HL := nHL
         clear ho hb hg hat nHL nF0 nF2 nF1
         have zF1 := blk_lt F1.out
         have cF1_0 : V9.cell? ⟨w.heap.size + 2, 0, none⟩ = some (.int .i64 s.f0) := clq F1.out 0 rfl
         have dF1_0 := fzq F1.out 0
         have cF1_1 : V9.cell? ⟨w.heap.size + 2, 1, none⟩ = some (.slice Ao ys.length co) := clq F1.out 1 rfl
         have dF1_1 := fzq F1.out 1
         refine hK.out _ _ ?h269 (fun hHeld => ?j269)
         case h269 => exact trivial
         clear hK K
         try simp only [Act.put, List.setIfInBounds_toArray, List.set_cons_zero, List.set_cons_succ]
         refine tk 10 ?v270 ?y270 ?r270
         case y270 => intro w_ hSw; (try dsimp only at hSw); go_simp; (try (with_reducible rfl))
         try simp only [Act.put, List.setIfInBounds_toArray, List.set_cons_zero, List.set_cons_succ]
         refine rdy (rs := [11]) ?_
         refine rc (fun K hK => ?k271) AllReadyH.nil
         case k271 =>
          go_simp
          generalize hWV11 : World.setCell (V9) _ _ = V11
          have ltF0 := blk_lt F0.out
          have ltF2 := blk_lt F2.out
          have ltF1 := blk_lt F1.out
          have ltb := HB.out.size
          have ltl := HL.out
          have TT : ∀ k, k < V9.heap.size → k ≠ w.heap.size + 2 → V11.heap[k]? = V9.heap[k]? := fun k hk n_F1 => by rw [← hWV11]; (with_reducible repeat (first | rfl | refine hp_set ?_ ?_ | refine hp_alloc ?_ ?_ | refine hp_drew ?_)); all_goals (first | (with_reducible rfl) | omega | (dsimp only; omega) | (simp; omega))
          have TS : V9.heap.size + 0 ≤ V11.heap.size := by rw [← hWV11]; simp
          have nF0 : V11.heap[w.heap.size]? = some (.cells #[.int .i64 s.f0, .slice (some ad) s.f1.length c0] 43 (0, 0)) := (TT _ ltF0 (by omega)).trans F0.out
          have nF2 : V11.heap[w.heap.size + 1]? = some (.cells #[.int .i64 0, .slice none 0 0] 43 (0, 0)) := (TT _ ltF2 (by omega)).trans F2.out
          have nF1 : V11.heap[w.heap.size + 2]? = some (.cells #[.int .i64 s.f0, .slice vB (ys ++ [y]).length vd] 43 (0, 0)) := by rw [← hWV11]; have h := blk_set1 (F1.out) 1 (.slice vB (ys ++ [y]).length vd); simpa using h
          have nHO : Kd.S kItem 28 V11 w.heap.size (fun _ => True) (.slice vB (ys ++ [y]).length vd) (ys ++ [y]) := Kd.S_mono (Kd.S_step (Kd.S_types (HO.out) F1.out (by decide)) (fun k hk hlt => TT k hlt (hk.2))) (fun _ hk => hk.1)
          have nHB : Below w.heap.size w V11 := by rw [← hWV11]; exact bel_set (HB.out) _ (by show w.heap.size ≤ w.heap.size + 2; first | omega | (simp; omega))
          clear zF1 cF1_0 dF1_0 cF1_1 dF1_1
          clear hWV11 F0 F2 F1 HB HO
          have F0 := Aside0.mk nF0
          clear nF0
          have F2 := Aside0.mk nF2
          clear nF2
          have F1 := Aside0.mk nF1
          clear nF1
          have HO := Aside0.mk nHO
          clear nHO
          have HB := Aside0.mk nHB
          clear nHB
          replace HL := Aside0.mk (Nat.le_trans HL.out (by omega : V9.heap.size ≤ V11.heap.size))
          clear TT TS ltF0 ltF2 ltF1 ltb ltl
          refine hK.out _ _ ?h272 (fun hHeld => ?j272)
          case h272 => exact trivial
          clear hK K
          try simp only [Act.put, List.setIfInBounds_toArray, List.set_cons_zero, List.set_cons_succ]
          refine wpAnyH_done (by kernel_rfl) ?_ _
          go_wp2
          go_roundg (s.f1.length - (i + 1))
          case measure => omega
          case rel => exact ⟨i + 1, vB, vd, by omega, Nat.le_refl _, by go_num, HB, F0, F2, ⟨by rw [HN.out]; exact F1.out⟩, ⟨by rw [HN.out]; exact HO.out⟩⟩
    case k260 =>
     go_simp
     refine hK.out _ _ ?h273 (fun hHeld => ?j273)
     case h273 => exact hHeld
     clear hK K
     try simp only [Act.put, List.setIfInBounds_toArray, List.set_cons_zero, List.set_cons_succ]
     refine rdy (rs := [1, 7]) ?_
     refine rc (fun K hK => ?k274) (rc (fun K hK => ?k275) AllReadyH.nil)
     case k274 =>
      go_simp
      refine hK.out _ _ ?h276 (fun hHeld => ?j276)
      case h276 => exact hHeld
      clear hK K
      try simp only [Act.put, List.setIfInBounds_toArray, List.set_cons_zero, List.set_cons_succ]
      refine rdy (rs := [7]) ?_
      refine rc (fun K hK => ?k277) AllReadyH.nil
      case k277 =>
       go_simp
       replace HO : Aside0 (Kd.S kItem 28 V0 w.heap.size (fun k => k < V0.heap.size) (.slice Ao ys.length co) ys) := ⟨Kd.S_mono (Kd.S_bound HO.out) (fun k hk => hk.2.2.1)⟩
       have hbase := HB.out.size
       refine Calls.mono (specCopyItem_any y Q0 qc0 Q1 qc1 _ HM.out (Kd.C_below K0.out HB.out) (Kd.C_below K1.out HB.out)) ?_
       rintro e V7 ⟨B0, d0, B1, d1, rfl, rU0, rU1, bV7⟩
       clear zF0 cF0_0 cF0_1 zF1 cF1_0 cF1_1
       replace F0 := Aside0.mk (below_blk F0.out bV7)
       replace F2 := Aside0.mk (below_blk F2.out bV7)
       replace F1 := Aside0.mk (below_blk F1.out bV7)
       replace HO := Aside0.mk (Kd.S_below HO.out bV7)
       have U0 : Aside0 (Kd.R kRcpt 55 V7 V0.heap.size (fun _ => True) (.slice B0 y.f2.length d0) y.f2) := ⟨Kd.R_lower (base' := V0.heap.size) rU0 (Nat.le_refl _)⟩
       clear rU0
       have U1 : Aside0 (Kd.R Kd.string 9 V7 V0.heap.size (fun _ => True) (.slice B1 y.f3.length d1) y.f3) := ⟨Kd.R_lower (base' := V0.heap.size) rU1 (Nat.le_refl _)⟩
       clear rU1
       replace HB := Aside0.mk (bel_then HB.out bV7)
       replace HL := Aside0.mk (Nat.le_trans HL.out bV7.size)
       clear bV7
       clear c5_0 c5_1 c5_2 c5_3 c5_4
       have zF0 := blk_lt F0.out
       have cF0_0 : V7.cell? ⟨w.heap.size, 0, none⟩ = some (.int .i64 s.f0) := clq F0.out 0 rfl
       have cF0_1 : V7.cell? ⟨w.heap.size, 1, none⟩ = some (.slice (some ad) s.f1.length c0) := clq F0.out 1 rfl
       have zF1 := blk_lt F1.out
       have cF1_0 : V7.cell? ⟨w.heap.size + 2, 0, none⟩ = some (.int .i64 s.f0) := clq F1.out 0 rfl
       have cF1_1 : V7.cell? ⟨w.heap.size + 2, 1, none⟩ = some (.slice Ao ys.length co) := clq F1.out 1 rfl
       obtain ⟨c5_0, c5_1, c5_2, c5_3, c5_4⟩ := HE.out V7 HB.out
       refine hK.out _ _ ?h278 (fun hHeld => ?j278)
       case h278 => exact trivial
       clear hK K
       try simp only [Act.put, List.setIfInBounds_toArray, List.set_cons_zero, List.set_cons_succ]
       refine rdy (rs := [8]) ?_
       refine rc (fun K hK => ?k279) AllReadyH.nil
       case k279 =>
        go_simp
        refine hK.out _ _ ?h280 (fun hHeld => ?j280)
        case h280 => exact trivial
        clear hK K
        try simp only [Act.put, List.setIfInBounds_toArray, List.set_cons_zero, List.set_cons_succ]
        generalize hV8 : World.alloc V7 _ = V8 at hHeld ⊢
        clear zF0 cF0_0 cF0_1 zF1 cF1_0 cF1_1 c5_0 c5_1 c5_2 c5_3 c5_4
        have gF0 : V8.heap[w.heap.size]? = some (.cells #[.int .i64 s.f0, .slice (some ad) s.f1.length c0] 43 (0, 0)) := by rw [← hV8]; exact blk_alloc F0.out _
        have cF0_0 : V8.cell? ⟨w.heap.size, 0, none⟩ = some (.int .i64 s.f0) := by simp [World.cell?, gF0]
        have cF0_1 : V8.cell? ⟨w.heap.size, 1, none⟩ = some (.slice (some ad) s.f1.length c0) := by simp [World.cell?, gF0]
        have gF1 : V8.heap[w.heap.size + 2]? = some (.cells #[.int .i64 s.f0, .slice Ao ys.length co] 43 (0, 0)) := by rw [← hV8]; exact blk_alloc F1.out _
        have cF1_0 : V8.cell? ⟨w.heap.size + 2, 0, none⟩ = some (.int .i64 s.f0) := by simp [World.cell?, gF1]
        have cF1_1 : V8.cell? ⟨w.heap.size + 2, 1, none⟩ = some (.slice Ao ys.length co) := by simp [World.cell?, gF1]
        clear gF0 gF1
        refine rdy (rs := [9]) ?_
        refine rc (fun K hK => ?k281) AllReadyH.nil
        case k281 =>
         subst hV8
         clear cF0_0 cF0_1 cF1_0 cF1_1
         refine Kd.S_append_step kItem (w0 := w) (w.heap.size) (by rfl) (.tmp 16) (.tmp 23) 41 28 (.agg #[(.int .i64 0), (.string ⟨#[]⟩), (.string ⟨#[]⟩), (.slice none 0 0), (.slice none 0 0)]) 88 rfl Tryd.underlying41 info28 rfl (by decide) (by omega) (.slice Ao ys.length co) (ys) (y) [.int .i64 y.f0, .string y.f1.f0, .string y.f1.f1, .slice B0 y.f2.length d0, .slice B1 y.f3.length d1] (fun _ => True) (fun k => V0.heap.size ≤ k) rfl rfl (kItem_mkM _ _ _ y (Kd.R_mono (Kd.R_lower (base' := w.heap.size) (Kd.R_bound U0.out) hbase) (fun k hk => hk.2.1)) (Kd.R_mono (Kd.R_lower (base' := w.heap.size) (Kd.R_bound U1.out) hbase) (fun k hk => hk.2.1))) (fun k hk => ⟨trivial, fun e => absurd ((Kd.S_R HO.out).1 k e.symm) (Nat.not_lt.2 hk)⟩) (fun _ _ => trivial) (Kd.S_mono HO.out (fun k hk => ⟨trivial, fun h => absurd hk (Nat.not_lt.2 h)⟩)) HB.out HB.out.size (by have := HLN.out; omega) ?_
         intro v9 V9 ho hb hg hat
         obtain ⟨vB, vd, hv⟩ := Kd.S_slice ho
         subst hv
         have nF0 : V9.heap[w.heap.size]? = some (.cells #[.int .i64 s.f0, .slice (some ad) s.f1.length c0] 43 (0, 0)) := (hg.block _ (blk_lt F0.out) (Kd.S_ne HO.out F0.out (by decide))).trans F0.out
         have nF2 : V9.heap[w.heap.size + 1]? = some (.cells #[.int .i64 0, .slice none 0 0] 43 (0, 0)) := (hg.block _ (blk_lt F2.out) (Kd.S_ne HO.out F2.out (by decide))).trans F2.out
         have nF1 : V9.heap[w.heap.size + 2]? = some (.cells #[.int .i64 s.f0, .slice Ao ys.length co] 43 (0, 0)) := (hg.block _ (blk_lt F1.out) (Kd.S_ne HO.out F1.out (by decide))).trans F1.out
         have nHL := Aside0.mk (Nat.le_trans HL.out hg.size)
         clear HO HB HL hbase F0 F2 F1 U0 U1
         have F0 := Aside0.mk nF0
         have F2 := Aside0.mk nF2
         have F1 := Aside0.mk nF1
         have HO := Aside0.mk ho
         have HB := Aside0.mk hb
         have HL := nHL
         clear ho hb hg hat nHL nF0 nF2 nF1
         have zF1 := blk_lt F1.out
         have cF1_0 : V9.cell? ⟨w.heap.size + 2, 0, none⟩ = some (.int .i64 s.f0) := clq F1.out 0 rfl
         have dF1_0 := fzq F1.out 0
         have cF1_1 : V9.cell? ⟨w.heap.size + 2, 1, none⟩ = some (.slice Ao ys.length co) := clq F1.out 1 rfl
         have dF1_1 := fzq F1.out 1
         refine hK.out _ _ ?h282 (fun hHeld => ?j282)
         case h282 => exact trivial
         clear hK K
         try simp only [Act.put, List.setIfInBounds_toArray, List.set_cons_zero, List.set_cons_succ]
         refine tk 10 ?v283 ?y283 ?r283
         case y283 => intro w_ hSw; (try dsimp only at hSw); go_simp; (try (with_reducible rfl))
         try simp only [Act.put, List.setIfInBounds_toArray, List.set_cons_zero, List.set_cons_succ]
         refine rdy (rs := [11]) ?_
         refine rc (fun K hK => ?k284) AllReadyH.nil
         case k284 =>
          go_simp
          generalize hWV11 : World.setCell (V9) _ _ = V11
          have ltF0 := blk_lt F0.out
          have ltF2 := blk_lt F2.out
          have ltF1 := blk_lt F1.out
          have ltb := HB.out.size
          have ltl := HL.out
          have TT : ∀ k, k < V9.heap.size → k ≠ w.heap.size + 2 → V11.heap[k]? = V9.heap[k]? := fun k hk n_F1 => by rw [← hWV11]; (with_reducible repeat (first | rfl | refine hp_set ?_ ?_ | refine hp_alloc ?_ ?_ | refine hp_drew ?_)); all_goals (first | (with_reducible rfl) | omega | (dsimp only; omega) | (simp; omega))
          have TS : V9.heap.size + 0 ≤ V11.heap.size := by rw [← hWV11]; simp
          have nF0 : V11.heap[w.heap.size]? = some (.cells #[.int .i64 s.f0, .slice (some ad) s.f1.length c0] 43 (0, 0)) := (TT _ ltF0 (by omega)).trans F0.out
          have nF2 : V11.heap[w.heap.size + 1]? = some (.cells #[.int .i64 0, .slice none 0 0] 43 (0, 0)) := (TT _ ltF2 (by omega)).trans F2.out
          have nF1 : V11.heap[w.heap.size + 2]? = some (.cells #[.int .i64 s.f0, .slice vB (ys ++ [y]).length vd] 43 (0, 0)) := by rw [← hWV11]; have h := blk_set1 (F1.out) 1 (.slice vB (ys ++ [y]).length vd); simpa using h
          have nHO : Kd.S kItem 28 V11 w.heap.size (fun _ => True) (.slice vB (ys ++ [y]).length vd) (ys ++ [y]) := Kd.S_mono (Kd.S_step (Kd.S_types (HO.out) F1.out (by decide)) (fun k hk hlt => TT k hlt (hk.2))) (fun _ hk => hk.1)
          have nHB : Below w.heap.size w V11 := by rw [← hWV11]; exact bel_set (HB.out) _ (by show w.heap.size ≤ w.heap.size + 2; first | omega | (simp; omega))
          clear zF1 cF1_0 dF1_0 cF1_1 dF1_1
          clear hWV11 F0 F2 F1 HB HO
          have F0 := Aside0.mk nF0
          clear nF0
          have F2 := Aside0.mk nF2
          clear nF2
          have F1 := Aside0.mk nF1
          clear nF1
          have HO := Aside0.mk nHO
          clear nHO
          have HB := Aside0.mk nHB
          clear nHB
          replace HL := Aside0.mk (Nat.le_trans HL.out (by omega : V9.heap.size ≤ V11.heap.size))
          clear TT TS ltF0 ltF2 ltF1 ltb ltl
          refine hK.out _ _ ?h285 (fun hHeld => ?j285)
          case h285 => exact trivial
          clear hK K
          try simp only [Act.put, List.setIfInBounds_toArray, List.set_cons_zero, List.set_cons_succ]
          refine wpAnyH_done (by kernel_rfl) ?_ _
          go_wp2
          go_roundg (s.f1.length - (i + 1))
          case measure => omega
          case rel => exact ⟨i + 1, vB, vd, by omega, Nat.le_refl _, by go_num, HB, F0, F2, ⟨by rw [HN.out]; exact F1.out⟩, ⟨by rw [HN.out]; exact HO.out⟩⟩
     case k275 =>
      go_simp
      replace HO : Aside0 (Kd.S kItem 28 V0 w.heap.size (fun k => k < V0.heap.size) (.slice Ao ys.length co) ys) := ⟨Kd.S_mono (Kd.S_bound HO.out) (fun k hk => hk.2.2.1)⟩
      have hbase := HB.out.size
      refine Calls.mono (specCopyItem_any y Q0 qc0 Q1 qc1 _ HM.out (Kd.C_below K0.out HB.out) (Kd.C_below K1.out HB.out)) ?_
      rintro e V7 ⟨B0, d0, B1, d1, rfl, rU0, rU1, bV7⟩
      clear zF0 cF0_0 cF0_1 zF1 cF1_0 cF1_1
      replace F0 := Aside0.mk (below_blk F0.out bV7)
      replace F2 := Aside0.mk (below_blk F2.out bV7)
      replace F1 := Aside0.mk (below_blk F1.out bV7)
      replace HO := Aside0.mk (Kd.S_below HO.out bV7)
      have U0 : Aside0 (Kd.R kRcpt 55 V7 V0.heap.size (fun _ => True) (.slice B0 y.f2.length d0) y.f2) := ⟨Kd.R_lower (base' := V0.heap.size) rU0 (Nat.le_refl _)⟩
      clear rU0
      have U1 : Aside0 (Kd.R Kd.string 9 V7 V0.heap.size (fun _ => True) (.slice B1 y.f3.length d1) y.f3) := ⟨Kd.R_lower (base' := V0.heap.size) rU1 (Nat.le_refl _)⟩
      clear rU1
      replace HB := Aside0.mk (bel_then HB.out bV7)
      replace HL := Aside0.mk (Nat.le_trans HL.out bV7.size)
      clear bV7
      clear c5_0 c5_1 c5_2 c5_3 c5_4
      have zF0 := blk_lt F0.out
      have cF0_0 : V7.cell? ⟨w.heap.size, 0, none⟩ = some (.int .i64 s.f0) := clq F0.out 0 rfl
      have cF0_1 : V7.cell? ⟨w.heap.size, 1, none⟩ = some (.slice (some ad) s.f1.length c0) := clq F0.out 1 rfl
      have zF1 := blk_lt F1.out
      have cF1_0 : V7.cell? ⟨w.heap.size + 2, 0, none⟩ = some (.int .i64 s.f0) := clq F1.out 0 rfl
      have cF1_1 : V7.cell? ⟨w.heap.size + 2, 1, none⟩ = some (.slice Ao ys.length co) := clq F1.out 1 rfl
      obtain ⟨c5_0, c5_1, c5_2, c5_3, c5_4⟩ := HE.out V7 HB.out
      refine hK.out _ _ ?h286 (fun hHeld => ?j286)
      case h286 => exact trivial
      clear hK K
      try simp only [Act.put, List.setIfInBounds_toArray, List.set_cons_zero, List.set_cons_succ]
      refine rdy (rs := [1, 8]) ?_
      refine rc (fun K hK => ?k287) (rc (fun K hK => ?k288) AllReadyH.nil)
      case k287 =>
       go_simp
       refine hK.out _ _ ?h289 (fun hHeld => ?j289)
       case h289 => exact hHeld
       clear hK K
       try simp only [Act.put, List.setIfInBounds_toArray, List.set_cons_zero, List.set_cons_succ]
       refine rdy (rs := [8]) ?_
       refine rc (fun K hK => ?k290) AllReadyH.nil
       case k290 =>
        go_simp
        refine hK.out _ _ ?h291 (fun hHeld => ?j291)
        case h291 => exact trivial
        clear hK K
        try simp only [Act.put, List.setIfInBounds_toArray, List.set_cons_zero, List.set_cons_succ]
        generalize hV8 : World.alloc V7 _ = V8 at hHeld ⊢
        clear zF0 cF0_0 cF0_1 zF1 cF1_0 cF1_1 c5_0 c5_1 c5_2 c5_3 c5_4
        have gF0 : V8.heap[w.heap.size]? = some (.cells #[.int .i64 s.f0, .slice (some ad) s.f1.length c0] 43 (0, 0)) := by rw [← hV8]; exact blk_alloc F0.out _
        have cF0_0 : V8.cell? ⟨w.heap.size, 0, none⟩ = some (.int .i64 s.f0) := by simp [World.cell?, gF0]
        have cF0_1 : V8.cell? ⟨w.heap.size, 1, none⟩ = some (.slice (some ad) s.f1.length c0) := by simp [World.cell?, gF0]
        have gF1 : V8.heap[w.heap.size + 2]? = some (.cells #[.int .i64 s.f0, .slice Ao ys.length co] 43 (0, 0)) := by rw [← hV8]; exact blk_alloc F1.out _
        have cF1_0 : V8.cell? ⟨w.heap.size + 2, 0, none⟩ = some (.int .i64 s.f0) := by simp [World.cell?, gF1]
        have cF1_1 : V8.cell? ⟨w.heap.size + 2, 1, none⟩ = some (.slice Ao ys.length co) := by simp [World.cell?, gF1]
        clear gF0 gF1
        refine rdy (rs := [9]) ?_
        refine rc (fun K hK => ?k292) AllReadyH.nil
        case k292 =>
         subst hV8
         clear cF0_0 cF0_1 cF1_0 cF1_1
         refine Kd.S_append_step kItem (w0 := w) (w.heap.size) (by rfl) (.tmp 16) (.tmp 23) 41 28 (.agg #[(.int .i64 0), (.string ⟨#[]⟩), (.string ⟨#[]⟩), (.slice none 0 0), (.slice none 0 0)]) 88 rfl Tryd.underlying41 info28 rfl (by decide) (by omega) (.slice Ao ys.length co) (ys) (y) [.int .i64 y.f0, .string y.f1.f0, .string y.f1.f1, .slice B0 y.f2.length d0, .slice B1 y.f3.length d1] (fun _ => True) (fun k => V0.heap.size ≤ k) rfl rfl (kItem_mkM _ _ _ y (Kd.R_mono (Kd.R_lower (base' := w.heap.size) (Kd.R_bound U0.out) hbase) (fun k hk => hk.2.1)) (Kd.R_mono (Kd.R_lower (base' := w.heap.size) (Kd.R_bound U1.out) hbase) (fun k hk => hk.2.1))) (fun k hk => ⟨trivial, fun e => absurd ((Kd.S_R HO.out).1 k e.symm) (Nat.not_lt.2 hk)⟩) (fun _ _ => trivial) (Kd.S_mono HO.out (fun k hk => ⟨trivial, fun h => absurd hk (Nat.not_lt.2 h)⟩)) HB.out HB.out.size (by have := HLN.out; omega) ?_
         intro v9 V9 ho hb hg hat
         obtain ⟨vB, vd, hv⟩ := Kd.S_slice ho
         subst hv
         have nF0 : V9.heap[w.heap.size]? = some (.cells #[.int .i64 s.f0, .slice (some ad) s.f1.length c0] 43 (0, 0)) := (hg.block _ (blk_lt F0.out) (Kd.S_ne HO.out F0.out (by decide))).trans F0.out
         have nF2 : V9.heap[w.heap.size + 1]? = some (.cells #[.int .i64 0, .slice none 0 0] 43 (0, 0)) := (hg.block _ (blk_lt F2.out) (Kd.S_ne HO.out F2.out (by decide))).trans F2.out
         have nF1 : V9.heap[w.heap.size + 2]? = some (.cells #[.int .i64 s.f0, .slice Ao ys.length co] 43 (0, 0)) := (hg.block _ (blk_lt F1.out) (Kd.S_ne HO.out F1.out (by decide))).trans F1.out
         have nHL := Aside0.mk (Nat.le_trans HL.out hg.size)
         clear HO HB HL hbase F0 F2 F1 U0 U1
         have F0 := Aside0.mk nF0
         have F2 := Aside0.mk nF2
         have F1 := Aside0.mk nF1
         have HO := Aside0.mk ho
         have HB := Aside0.mk hb
         have HL := nHL
         clear ho hb hg hat nHL nF0 nF2 nF1
         have zF1 := blk_lt F1.out
         have cF1_0 : V9.cell? ⟨w.heap.size + 2, 0, none⟩ = some (.int .i64 s.f0) := clq F1.out 0 rfl
         have dF1_0 := fzq F1.out 0
         have cF1_1 : V9.cell? ⟨w.heap.size + 2, 1, none⟩ = some (.slice Ao ys.length co) := clq F1.out 1 rfl
         have dF1_1 := fzq F1.out 1
         refine hK.out _ _ ?h293 (fun hHeld => ?j293)
         case h293 => exact trivial
         clear hK K
         try simp only [Act.put, List.setIfInBounds_toArray, List.set_cons_zero, List.set_cons_succ]
         refine tk 10 ?v294 ?y294 ?r294
         case y294 => intro w_ hSw; (try dsimp only at hSw); go_simp; (try (with_reducible rfl))
         try simp only [Act.put, List.setIfInBounds_toArray, List.set_cons_zero, List.set_cons_succ]
         refine rdy (rs := [11]) ?_
         refine rc (fun K hK => ?k295) AllReadyH.nil
         case k295 =>
          go_simp
          generalize hWV11 : World.setCell (V9) _ _ = V11
          have ltF0 := blk_lt F0.out
          have ltF2 := blk_lt F2.out
          have ltF1 := blk_lt F1.out
          have ltb := HB.out.size
          have ltl := HL.out
          have TT : ∀ k, k < V9.heap.size → k ≠ w.heap.size + 2 → V11.heap[k]? = V9.heap[k]? := fun k hk n_F1 => by rw [← hWV11]; (with_reducible repeat (first | rfl | refine hp_set ?_ ?_ | refine hp_alloc ?_ ?_ | refine hp_drew ?_)); all_goals (first | (with_reducible rfl) | omega | (dsimp only; omega) | (simp; omega))
          have TS : V9.heap.size + 0 ≤ V11.heap.size := by rw [← hWV11]; simp
          have nF0 : V11.heap[w.heap.size]? = some (.cells #[.int .i64 s.f0, .slice (some ad) s.f1.length c0] 43 (0, 0)) := (TT _ ltF0 (by omega)).trans F0.out
          have nF2 : V11.heap[w.heap.size + 1]? = some (.cells #[.int .i64 0, .slice none 0 0] 43 (0, 0)) := (TT _ ltF2 (by omega)).trans F2.out
          have nF1 : V11.heap[w.heap.size + 2]? = some (.cells #[.int .i64 s.f0, .slice vB (ys ++ [y]).length vd] 43 (0, 0)) := by rw [← hWV11]; have h := blk_set1 (F1.out) 1 (.slice vB (ys ++ [y]).length vd); simpa using h
          have nHO : Kd.S kItem 28 V11 w.heap.size (fun _ => True) (.slice vB (ys ++ [y]).length vd) (ys ++ [y]) := Kd.S_mono (Kd.S_step (Kd.S_types (HO.out) F1.out (by decide)) (fun k hk hlt => TT k hlt (hk.2))) (fun _ hk => hk.1)
          have nHB : Below w.heap.size w V11 := by rw [← hWV11]; exact bel_set (HB.out) _ (by show w.heap.size ≤ w.heap.size + 2; first | omega | (simp; omega))
          clear zF1 cF1_0 dF1_0 cF1_1 dF1_1
          clear hWV11 F0 F2 F1 HB HO
          have F0 := Aside0.mk nF0
          clear nF0
          have F2 := Aside0.mk nF2
          clear nF2
          have F1 := Aside0.mk nF1
          clear nF1
          have HO := Aside0.mk nHO
          clear nHO
          have HB := Aside0.mk nHB
          clear nHB
          replace HL := Aside0.mk (Nat.le_trans HL.out (by omega : V9.heap.size ≤ V11.heap.size))
          clear TT TS ltF0 ltF2 ltF1 ltb ltl
          refine hK.out _ _ ?h296 (fun hHeld => ?j296)
          case h296 => exact trivial
          clear hK K
          try simp only [Act.put, List.setIfInBounds_toArray, List.set_cons_zero, List.set_cons_succ]
          refine wpAnyH_done (by kernel_rfl) ?_ _
          go_wp2
          go_roundg (s.f1.length - (i + 1))
          case measure => omega
          case rel => exact ⟨i + 1, vB, vd, by omega, Nat.le_refl _, by go_num, HB, F0, F2, ⟨by rw [HN.out]; exact F1.out⟩, ⟨by rw [HN.out]; exact HO.out⟩⟩
      case k288 =>
       go_simp
       refine hK.out _ _ ?h297 (fun hHeld => ?j297)
       case h297 => exact trivial
       clear hK K
       try simp only [Act.put, List.setIfInBounds_toArray, List.set_cons_zero, List.set_cons_succ]
       generalize hV8 : World.alloc V7 _ = V8 at hHeld ⊢
       clear zF0 cF0_0 cF0_1 zF1 cF1_0 cF1_1 c5_0 c5_1 c5_2 c5_3 c5_4
       have gF0 : V8.heap[w.heap.size]? = some (.cells #[.int .i64 s.f0, .slice (some ad) s.f1.length c0] 43 (0, 0)) := by rw [← hV8]; exact blk_alloc F0.out _
       have cF0_0 : V8.cell? ⟨w.heap.size, 0, none⟩ = some (.int .i64 s.f0) := by simp [World.cell?, gF0]
       have cF0_1 : V8.cell? ⟨w.heap.size, 1, none⟩ = some (.slice (some ad) s.f1.length c0) := by simp [World.cell?, gF0]
       have gF1 : V8.heap[w.heap.size + 2]? = some (.cells #[.int .i64 s.f0, .slice Ao ys.length co] 43 (0, 0)) := by rw [← hV8]; exact blk_alloc F1.out _
       have cF1_0 : V8.cell? ⟨w.heap.size + 2, 0, none⟩ = some (.int .i64 s.f0) := by simp [World.cell?, gF1]
       have cF1_1 : V8.cell? ⟨w.heap.size + 2, 1, none⟩ = some (.slice Ao ys.length co) := by simp [World.cell?, gF1]
       clear gF0 gF1
       refine rdy (rs := [1]) ?_
       refine rc (fun K hK => ?k298) AllReadyH.nil
       case k298 =>
        go_simp
        refine hK.out _ _ ?h299 (fun hHeld => ?j299)
        case h299 => exact hHeld
        clear hK K
        try simp only [Act.put, List.setIfInBounds_toArray, List.set_cons_zero, List.set_cons_succ]
        refine rdy (rs := [9]) ?_
        refine rc (fun K hK => ?k300) AllReadyH.nil
        case k300 =>
         subst hV8
         clear cF0_0 cF0_1 cF1_0 cF1_1
         refine Kd.S_append_step kItem (w0 := w) (w.heap.size) (by rfl) (.tmp 16) (.tmp 23) 41 28 (.agg #[(.int .i64 0), (.string ⟨#[]⟩), (.string ⟨#[]⟩), (.slice none 0 0), (.slice none 0 0)]) 88 rfl Tryd.underlying41 info28 rfl (by decide) (by omega) (.slice Ao ys.length co) (ys) (y) [.int .i64 y.f0, .string y.f1.f0, .string y.f1.f1, .slice B0 y.f2.length d0, .slice B1 y.f3.length d1] (fun _ => True) (fun k => V0.heap.size ≤ k) rfl rfl (kItem_mkM _ _ _ y (Kd.R_mono (Kd.R_lower (base' := w.heap.size) (Kd.R_bound U0.out) hbase) (fun k hk => hk.2.1)) (Kd.R_mono (Kd.R_lower (base' := w.heap.size) (Kd.R_bound U1.out) hbase) (fun k hk => hk.2.1))) (fun k hk => ⟨trivial, fun e => absurd ((Kd.S_R HO.out).1 k e.symm) (Nat.not_lt.2 hk)⟩) (fun _ _ => trivial) (Kd.S_mono HO.out (fun k hk => ⟨trivial, fun h => absurd hk (Nat.not_lt.2 h)⟩)) HB.out HB.out.size (by have := HLN.out; omega) ?_
         intro v9 V9 ho hb hg hat
         obtain ⟨vB, vd, hv⟩ := Kd.S_slice ho
         subst hv
         have nF0 : V9.heap[w.heap.size]? = some (.cells #[.int .i64 s.f0, .slice (some ad) s.f1.length c0] 43 (0, 0)) := (hg.block _ (blk_lt F0.out) (Kd.S_ne HO.out F0.out (by decide))).trans F0.out
         have nF2 : V9.heap[w.heap.size + 1]? = some (.cells #[.int .i64 0, .slice none 0 0] 43 (0, 0)) := (hg.block _ (blk_lt F2.out) (Kd.S_ne HO.out F2.out (by decide))).trans F2.out
         have nF1 : V9.heap[w.heap.size + 2]? = some (.cells #[.int .i64 s.f0, .slice Ao ys.length co] 43 (0, 0)) := (hg.block _ (blk_lt F1.out) (Kd.S_ne HO.out F1.out (by decide))).trans F1.out
         have nHL := Aside0.mk (Nat.le_trans HL.out hg.size)
         clear HO HB HL hbase F0 F2 F1 U0 U1
         have F0 := Aside0.mk nF0
         have F2 := Aside0.mk nF2
         have F1 := Aside0.mk nF1
         have HO := Aside0.mk ho
         have HB := Aside0.mk hb
         have HL := nHL
         clear ho hb hg hat nHL nF0 nF2 nF1
         have zF1 := blk_lt F1.out
         have cF1_0 : V9.cell? ⟨w.heap.size + 2, 0, none⟩ = some (.int .i64 s.f0) := clq F1.out 0 rfl
         have dF1_0 := fzq F1.out 0
         have cF1_1 : V9.cell? ⟨w.heap.size + 2, 1, none⟩ = some (.slice Ao ys.length co) := clq F1.out 1 rfl
         have dF1_1 := fzq F1.out 1
         refine hK.out _ _ ?h301 (fun hHeld => ?j301)
         case h301 => exact trivial
         clear hK K
         try simp only [Act.put, List.setIfInBounds_toArray, List.set_cons_zero, List.set_cons_succ]
         refine tk 10 ?v302 ?y302 ?r302
         case y302 => intro w_ hSw; (try dsimp only at hSw); go_simp; (try (with_reducible rfl))
         try simp only [Act.put, List.setIfInBounds_toArray, List.set_cons_zero, List.set_cons_succ]
         refine rdy (rs := [11]) ?_
         refine rc (fun K hK => ?k303) AllReadyH.nil
         case k303 =>
          go_simp
          generalize hWV11 : World.setCell (V9) _ _ = V11
          have ltF0 := blk_lt F0.out
          have ltF2 := blk_lt F2.out
          have ltF1 := blk_lt F1.out
          have ltb := HB.out.size
          have ltl := HL.out
          have TT : ∀ k, k < V9.heap.size → k ≠ w.heap.size + 2 → V11.heap[k]? = V9.heap[k]? := fun k hk n_F1 => by rw [← hWV11]; (with_reducible repeat (first | rfl | refine hp_set ?_ ?_ | refine hp_alloc ?_ ?_ | refine hp_drew ?_)); all_goals (first | (with_reducible rfl) | omega | (dsimp only; omega) | (simp; omega))
          have TS : V9.heap.size + 0 ≤ V11.heap.size := by rw [← hWV11]; simp
          have nF0 : V11.heap[w.heap.size]? = some (.cells #[.int .i64 s.f0, .slice (some ad) s.f1.length c0] 43 (0, 0)) := (TT _ ltF0 (by omega)).trans F0.out
          have nF2 : V11.heap[w.heap.size + 1]? = some (.cells #[.int .i64 0, .slice none 0 0] 43 (0, 0)) := (TT _ ltF2 (by omega)).trans F2.out
          have nF1 : V11.heap[w.heap.size + 2]? = some (.cells #[.int .i64 s.f0, .slice vB (ys ++ [y]).length vd] 43 (0, 0)) := by rw [← hWV11]; have h := blk_set1 (F1.out) 1 (.slice vB (ys ++ [y]).length vd); simpa using h
          have nHO : Kd.S kItem 28 V11 w.heap.size (fun _ => True) (.slice vB (ys ++ [y]).length vd) (ys ++ [y]) := Kd.S_mono (Kd.S_step (Kd.S_types (HO.out) F1.out (by decide)) (fun k hk hlt => TT k hlt (hk.2))) (fun _ hk => hk.1)
          have nHB : Below w.heap.size w V11 := by rw [← hWV11]; exact bel_set (HB.out) _ (by show w.heap.size ≤ w.heap.size + 2; first | omega | (simp; omega))
          clear zF1 cF1_0 dF1_0 cF1_1 dF1_1
          clear hWV11 F0 F2 F1 HB HO
          have F0 := Aside0.mk nF0
          clear nF0
          have F2 := Aside0.mk nF2
          clear nF2
          have F1 := Aside0.mk nF1
          clear nF1
          have HO := Aside0.mk nHO
          clear nHO
          have HB := Aside0.mk nHB
          clear nHB
          replace HL := Aside0.mk (Nat.le_trans HL.out (by omega : V9.heap.size ≤ V11.heap.size))
          clear TT TS ltF0 ltF2 ltF1 ltb ltl
          refine hK.out _ _ ?h304 (fun hHeld => ?j304)
          case h304 => exact trivial
          clear hK K
          try simp only [Act.put, List.setIfInBounds_toArray, List.set_cons_zero, List.set_cons_succ]
          refine wpAnyH_done (by kernel_rfl) ?_ _
          go_wp2
          go_roundg (s.f1.length - (i + 1))
          case measure => omega
          case rel => exact ⟨i + 1, vB, vd, by omega, Nat.le_refl _, by go_num, HB, F0, F2, ⟨by rw [HN.out]; exact F1.out⟩, ⟨by rw [HN.out]; exact HO.out⟩⟩
  ·have hlt' : ¬ (i : Int) < (s.f1.length : Int) := by omega
   rw [show s.f1.take i = s.f1 from List.take_of_length_le (by omega)] at F1 HO
   have zF0 := blk_lt F0.out
   have cF0_0 : wr.cell? ⟨w.heap.size, 0, none⟩ = some (.int .i64 s.f0) := clq F0.out 0 rfl
   have cF0_1 : wr.cell? ⟨w.heap.size, 1, none⟩ = some (.slice A0 s.f1.length c0) := clq F0.out 1 rfl
   have zF1 := blk_lt F1.out
   have cF1_0 : wr.cell? ⟨w.heap.size + 2, 0, none⟩ = some (.int .i64 s.f0) := clq F1.out 0 rfl
   have cF1_1 : wr.cell? ⟨w.heap.size + 2, 1, none⟩ = some (.slice Ao s.f1.length co) := clq F1.out 1 rfl
   have zF2 := blk_lt F2.out
   have cF2_0 : wr.cell? ⟨w.heap.size + 1, 0, none⟩ = some (.int .i64 0) := clq F2.out 0 rfl
   have dF2_0 := fzq F2.out 0
   have cF2_1 : wr.cell? ⟨w.heap.size + 1, 1, none⟩ = some (.slice none 0 0) := clq F2.out 1 rfl
   have dF2_1 := fzq F2.out 1
   go_wp2
   refine bodyPost_ret (v := .agg #[.int .i64 s.f0, .slice Ao s.f1.length co]) ?hr rfl ?hp
   case hr => simp [results, Tryd.results52, go_sem, zF0, cF0_0, cF0_1, zF1, cF1_0, cF1_1, zF2, cF2_0, dF2_0, cF2_1, dF2_1]
   case hp => exact ⟨Ao, co, rfl, S_other HO.out F2.out (by decide) ((grown_set1 _ _ _ _).trans (grown_set1 _ _ _ _)), by (with_reducible repeat (first | exact HB.out | refine bel_set ?_ _ ?_)); all_goals ((try dsimp only); omega)⟩

end Go.Proofs.YtiaibgkpohmihaaDoor
