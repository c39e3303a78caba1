/- The reference's word on spools: a contract. -/
import Derived.Test.YtiaibgkpohmihaaDoorReg2
import Derived.Test.YtiaibgkpohmihaaDoorSpoolS2
import Derived.Test.YtiaibgkpohmihaaDoorEq
import Derived.Deep.RegionHeld3
namespace Go.Proofs.YtiaibgkpohmihaaDoor
open Go.RowKit Go.Proofs.YtiaibgkpohmihaaDoorW.PrintWords
set_option linter.unusedVariables false
set_option linter.unusedSimpArgs false

set_option maxRecDepth 100000 in
set_option maxHeartbeats 4000000 in
theorem specSpool_any (s : SSpool) (A0 : Option Addr) (c0 : Nat) (w : World) (hw : fitSpool s) (hr0 : Kd.C kItem w A0 s.f1.length s.f1) :
  Calls Tryd.prog 51 #[.agg #[.int .i64 s.f0, .slice A0 s.f1.length c0]] w fun e w' => e = .returned (.bool (spoolOk s)) ∧ Below w.heap.size w w' := by
 obtain ⟨hw0, hlen, hx⟩ := hw
 have HX := Lib.hid hx
 have hin := fun W => specIn_any s.f0 0 999 W
 have HM := Lib.hid (show spoolOk s = (((List.range s.f1.length).all (goodAt s)) && ((decide (0 ≤ s.f0) && decide (s.f0 ≤ 999)) && decide ((s.f1.length : Int) ≤ 10))) from rfl)
 clear hx
 generalize spoolOk s = M at HM
 generalize (decide (0 ≤ s.f0) && decide (s.f0 ≤ 999)) = q2 at HM hin
 go_enter Tryd.func51, Tryd.ntmps51
 go_wp2
 obtain ⟨W0, hW0⟩ : ∃ W0, W0 = w.alloc (.cells #[.int .i64 s.f0, .slice A0 s.f1.length c0] 43) := ⟨_, rfl⟩
 rw [← hW0]
 have B0 : Below w.heap.size w W0 := by rw [hW0]; exact (Below.refl _ _).alloc (Nat.le_refl _) _
 have Z0 : w.heap.size < W0.heap.size := by rw [hW0]; simp
 have c0_ : W0.cell? ⟨w.heap.size, 0, none⟩ = some (.int .i64 s.f0) := by rw [hW0]; simp
 have c1_ : W0.cell? ⟨w.heap.size, 1, none⟩ = some (.slice A0 s.f1.length c0) := by rw [hW0]; simp
 have HC : Aside0 (∀ W, Below W0.heap.size W0 W → W.cell? ⟨w.heap.size, 0, none⟩ = some (.int .i64 s.f0) ∧ W.cell? ⟨w.heap.size, 1, none⟩ = some (.slice A0 s.f1.length c0)) := ⟨fun W h => ⟨(h.cell (p := ⟨w.heap.size, 0, none⟩) Z0).trans c0_, (h.cell (p := ⟨w.heap.size, 1, none⟩) Z0).trans c1_⟩⟩
 clear hW0 c0_ c1_
 have HB0 := Aside0.mk B0
 have hsz := B0.size
 clear B0
 go_loopg [3] (s.f1.length) (fun g v3 wr => ∃ i : Nat, i ≤ s.f1.length ∧ s.f1.length - i ≤ g ∧ v3 = .int .i64 i ∧ Aside0 (Below W0.heap.size W0 wr) ∧ Aside0 (∀ j, j < i → goodAt s j = true))
 case atStart => exact ⟨0, Nat.zero_le _, by omega, rfl, ⟨Below.refl _ _⟩, ⟨fun j hj => absurd hj (Nat.not_lt_zero _)⟩⟩
 case round =>
  obtain ⟨i, hi, hg, rfl, BW, H⟩ := hrel
  obtain ⟨c0_, c1_⟩ := HC.out _ BW.out
  by_cases hlt : i < s.f1.length
  ·have hlt' : (i : Int) < (s.f1.length : Int) := by omega
   have hr2 := Kd.C_below hr0 (bel_then HB0.out BW.out)
   obtain ⟨ad, Q0, qc0, Q1, qc1, e1, p0, p1, p2, p3, p4, l0, k0, l1, k1⟩ := at_Item hr2 i hlt
   subst e1
   have hm := HX.out (s.f1.getD i zItem) (getD_mem _ _ hlt)
   have hgood : goodAt s i = (itemOk (s.f1.getD i zItem) && (decide (prevId s.f1 i < (s.f1.getD i zItem).f0) && decide ((s.f1.getD i zItem).f0 ≤ s.f0))) := rfl
   generalize hy : s.f1.getD i zItem = y at p0 p1 p2 p3 p4 l0 k0 l1 k1 hm hgood
   have HY := Lib.hid hy
   have HG := Lib.hid hgood
   clear hy hgood
   have hi0 : (0 : Int) ≤ (i : Int) := by omega
   have hcall := fun (W : World) (hW : Below wr.heap.size wr W) => specItem_any y Q0 qc0 Q1 qc1 W hm (Kd.C_below k0 hW) (Kd.C_below k1 hW)
   have hpos := fun h : itemOk y = true => itemOk_pos h
   have HP := Lib.hid hpos
   clear hm k0 k1 l0 l1 hpos
   cases hq : itemOk y
   ·rw [hq] at hcall
    have HQ := Lib.hid hq
    clear hq hr2
    have HK : Aside0 (∀ W W1, Below W.heap.size W W1 → (W.cell? ⟨w.heap.size, 0, none⟩ = some (.int .i64 s.f0) ∧ W.cell? ⟨w.heap.size, 1, none⟩ = some (.slice (some ad) s.f1.length c0) ∧ W.cell? (ad.add (i * 5)) = some (.int .i64 y.f0) ∧ W.cell? ⟨(ad.add (i * 5)).block, (ad.add (i * 5)).off + 1, none⟩ = some (.string y.f1.f0) ∧ W.cell? ⟨(ad.add (i * 5)).block, (ad.add (i * 5)).off + 2, none⟩ = some (.string y.f1.f1) ∧ W.cell? ⟨(ad.add (i * 5)).block, (ad.add (i * 5)).off + 3, none⟩ = some (.slice Q0 y.f2.length qc0) ∧ W.cell? ⟨(ad.add (i * 5)).block, (ad.add (i * 5)).off + 4, none⟩ = some (.slice Q1 y.f3.length qc1) ∧ Below wr.heap.size wr W) → (W1.cell? ⟨w.heap.size, 0, none⟩ = some (.int .i64 s.f0) ∧ W1.cell? ⟨w.heap.size, 1, none⟩ = some (.slice (some ad) s.f1.length c0) ∧ W1.cell? (ad.add (i * 5)) = some (.int .i64 y.f0) ∧ W1.cell? ⟨(ad.add (i * 5)).block, (ad.add (i * 5)).off + 1, none⟩ = some (.string y.f1.f0) ∧ W1.cell? ⟨(ad.add (i * 5)).block, (ad.add (i * 5)).off + 2, none⟩ = some (.string y.f1.f1) ∧ W1.cell? ⟨(ad.add (i * 5)).block, (ad.add (i * 5)).off + 3, none⟩ = some (.slice Q0 y.f2.length qc0) ∧ W1.cell? ⟨(ad.add (i * 5)).block, (ad.add (i * 5)).off + 4, none⟩ = some (.slice Q1 y.f3.length qc1) ∧ Below wr.heap.size wr W1)) := ⟨fun W W1 hb h => ⟨(hb.cell (World.block_lt_of_cell? W _ (h.1))).trans (h.1), (hb.cell (World.block_lt_of_cell? W _ (h.2.1))).trans (h.2.1), (hb.cell (World.block_lt_of_cell? W _ (h.2.2.1))).trans (h.2.2.1), (hb.cell (World.block_lt_of_cell? W _ (h.2.2.2.1))).trans (h.2.2.2.1), (hb.cell (World.block_lt_of_cell? W _ (h.2.2.2.2.1))).trans (h.2.2.2.2.1), (hb.cell (World.block_lt_of_cell? W _ (h.2.2.2.2.2.1))).trans (h.2.2.2.2.2.1), (hb.cell (World.block_lt_of_cell? W _ (h.2.2.2.2.2.2.1))).trans (h.2.2.2.2.2.2.1), bel_then (h.2.2.2.2.2.2.2) hb⟩⟩
    go_wp2
    refine wp_region_held_drew (S := (fun W => W.cell? ⟨w.heap.size, 0, none⟩ = some (.int .i64 s.f0) ∧ W.cell? ⟨w.heap.size, 1, none⟩ = some (.slice (some ad) s.f1.length c0) ∧ W.cell? (ad.add (i * 5)) = some (.int .i64 y.f0) ∧ W.cell? ⟨(ad.add (i * 5)).block, (ad.add (i * 5)).off + 1, none⟩ = some (.string y.f1.f0) ∧ W.cell? ⟨(ad.add (i * 5)).block, (ad.add (i * 5)).off + 2, none⟩ = some (.string y.f1.f1) ∧ W.cell? ⟨(ad.add (i * 5)).block, (ad.add (i * 5)).off + 3, none⟩ = some (.slice Q0 y.f2.length qc0) ∧ W.cell? ⟨(ad.add (i * 5)).block, (ad.add (i * 5)).off + 4, none⟩ = some (.slice Q1 y.f3.length qc1) ∧ Below wr.heap.size wr W)) (by kernel_rfl) ?s1 (fun hHeld => ?t1)
    case s1 => exact ⟨c0_, c1_, p0, p1, p2, p3, p4, drew_below wr⟩
    refine tk 0 ?v2 ?y2 ?r2
    case y2 => intro w_ hSw; (try dsimp only at hSw); go_simp; (try (with_reducible rfl))
    try simp only [Act.put, List.setIfInBounds_toArray, List.set_cons_zero, List.set_cons_succ]
    refine tk 1 ?v3 ?y3 ?r3
    case y3 => intro w_ hSw; (try dsimp only at hSw); go_simp; (try (with_reducible rfl))
    try simp only [Act.put, List.setIfInBounds_toArray, List.set_cons_zero, List.set_cons_succ]
    refine tk 2 ?v4 ?y4 ?r4
    case y4 => intro w_ hSw; (try dsimp only at hSw); go_simp; (try (with_reducible rfl))
    try simp only [Act.put, List.setIfInBounds_toArray, List.set_cons_zero, List.set_cons_succ]
    refine tk 3 ?v5 ?y5 ?r5
    case y5 => intro w_ hSw; (try dsimp only at hSw); go_simp; (try (with_reducible rfl))
    try simp only [Act.put, List.setIfInBounds_toArray, List.set_cons_zero, List.set_cons_succ]
    refine tk 4 ?v6 ?y6 ?r6
    case y6 => intro w_ hSw; (try dsimp only at hSw); go_simp; (try (with_reducible rfl))
    try simp only [Act.put, List.setIfInBounds_toArray, List.set_cons_zero, List.set_cons_succ]
    refine rdy (rs := [5]) ?_
    refine rc (fun K hK => ?k7) AllReadyH.nil
    case' k7 => skip
    go_simp
    refine (hcall _ hHeld.2.2.2.2.2.2.2).mono ?_
    rintro e w1 ⟨rfl, b1⟩
    refine hK.out _ _ ?h7 (fun hHeld => ?j7)
    case h7 => exact HK.out _ _ b1 hHeld
    clear hK K
    try simp only [Act.put, List.setIfInBounds_toArray, List.set_cons_zero, List.set_cons_succ]
    refine tk 6 ?v8 ?y8 ?r8
    case y8 => intro w_ hSw; (try dsimp only at hSw); go_simp; (try (with_reducible rfl))
    try simp only [Act.put, List.setIfInBounds_toArray, List.set_cons_zero, List.set_cons_succ]
    refine tk 7 ?v9 ?y9 ?r9
    case y9 => intro w_ hSw; (try dsimp only at hSw); go_simp; (try (with_reducible rfl))
    try simp only [Act.put, List.setIfInBounds_toArray, List.set_cons_zero, List.set_cons_succ]
    refine tu 8 ?_
    refine tu 9 ?_
    refine tu 10 ?_
    refine tu 11 ?_
    refine tu 12 ?_
    refine tu 13 ?_
    refine tu 14 ?_
    refine tu 15 ?_
    refine tu 16 ?_
    refine tk 17 ?v19 ?y19 ?r19
    case y19 => intro w_ hSw; (try dsimp only at hSw); go_simp; (try (with_reducible rfl))
    try simp only [Act.put, List.setIfInBounds_toArray, List.set_cons_zero, List.set_cons_succ]
    refine tk 18 ?v20 ?y20 ?r20
    case y20 => intro w_ hSw; (try dsimp only at hSw); go_simp; (try (with_reducible rfl))
    try simp only [Act.put, List.setIfInBounds_toArray, List.set_cons_zero, List.set_cons_succ]
    refine tu 19 ?_
    refine tu 20 ?_
    refine tu 21 ?_
    refine tu 22 ?_
    refine tu 23 ?_
    refine tu 24 ?_
    refine tu 25 ?_
    refine tu 26 ?_
    refine tu 27 ?_
    refine tu 28 ?_
    refine tu 29 ?_
    refine tu 30 ?_
    refine tu 31 ?_
    refine tu 32 ?_
    refine tu 33 ?_
    refine tu 34 ?_
    refine tu 35 ?_
    refine tu 36 ?_
    refine tk 37 ?v39 ?y39 ?r39
    case y39 => intro w_ hSw; (try dsimp only at hSw); go_simp; (try (with_reducible rfl))
    try simp only [Act.put, List.setIfInBounds_toArray, List.set_cons_zero, List.set_cons_succ]
    refine wpAnyH_done (by kernel_rfl) ?_ _
    obtain ⟨_, _, _, _, _, _, _, BH⟩ := hHeld
    have B1 : Below w.heap.size w w1 := bel_then HB0.out (bel_then BW.out BH)
    clear HK p0 p1 p2 p3 p4
    go_wp2
    go_ret
    refine ⟨retb ?_, B1⟩
    rw [HM.out, range_not hlt (by rw [HG.out, HQ.out]; rfl), Bool.false_and]
   ·rw [hq] at hcall
    have hp0 := HP.out hq
    have HQ := Lib.hid hq
    have HP0 := Lib.hid hp0
    clear hq hp0
    by_cases hl : y.f0 ≤ s.f0
    ·have hl1 : ¬ s.f0 < y.f0 := by omega
     have hl2 : decide (s.f0 < y.f0) = false := decide_eq_false hl1
     have hl3 : decide (y.f0 > s.f0) = false := hl2
     have HL := Lib.hid hl
     clear hl
     by_cases hi1 : 0 < i
     ·have hi2 : decide ((0 : Int) < (i : Int)) = true := decide_eq_true (by omega)
      have hi3 : decide ((i : Int) > 0) = true := hi2
      have hi4 : (0 : Int) < (i : Int) := by omega
      have hi5 : (0 : Int) ≤ (i : Int) - 1 := by omega
      have hi9 : (1 : Int) ≤ (i : Int) := by omega
      have hi6 : (i : Int) - 1 < (s.f1.length : Int) := by omega
      have hi7 : IntKind.i64.wrap ((i : Int) - 1) = (i : Int) - 1 := IntWalk.i64_in _ (by omega)
      have hi8 : ((i : Int) - 1).toNat = i - 1 := by omega
      obtain ⟨ad2, _, _, _, _, e2, z0, _⟩ := at_Item hr2 (i - 1) (by omega)
      obtain rfl : ad = ad2 := by injection e2
      have hpv : prevId s.f1 i = (s.f1.getD (i - 1) zItem).f0 := by unfold prevId; rw [if_neg (by omega)]
      generalize s.f1.getD (i - 1) zItem = z at z0 hpv
      have HV := Lib.hid hpv
      clear hpv e2 hr2
      by_cases hz : z.f0 < y.f0
      ·have hz1 : ¬ y.f0 ≤ z.f0 := by omega
       have hz2 : decide (y.f0 ≤ z.f0) = false := decide_eq_false hz1
       have HZ := Lib.hid hz
       clear hz
       have HK : Aside0 (∀ W W1, Below W.heap.size W W1 → (W.cell? ⟨w.heap.size, 0, none⟩ = some (.int .i64 s.f0) ∧ W.cell? ⟨w.heap.size, 1, none⟩ = some (.slice (some ad) s.f1.length c0) ∧ W.cell? (ad.add (i * 5)) = some (.int .i64 y.f0) ∧ W.cell? ⟨(ad.add (i * 5)).block, (ad.add (i * 5)).off + 1, none⟩ = some (.string y.f1.f0) ∧ W.cell? ⟨(ad.add (i * 5)).block, (ad.add (i * 5)).off + 2, none⟩ = some (.string y.f1.f1) ∧ W.cell? ⟨(ad.add (i * 5)).block, (ad.add (i * 5)).off + 3, none⟩ = some (.slice Q0 y.f2.length qc0) ∧ W.cell? ⟨(ad.add (i * 5)).block, (ad.add (i * 5)).off + 4, none⟩ = some (.slice Q1 y.f3.length qc1) ∧ W.cell? (ad.add ((i - 1) * 5)) = some (.int .i64 z.f0) ∧ Below wr.heap.size wr W) → (W1.cell? ⟨w.heap.size, 0, none⟩ = some (.int .i64 s.f0) ∧ W1.cell? ⟨w.heap.size, 1, none⟩ = some (.slice (some ad) s.f1.length c0) ∧ W1.cell? (ad.add (i * 5)) = some (.int .i64 y.f0) ∧ W1.cell? ⟨(ad.add (i * 5)).block, (ad.add (i * 5)).off + 1, none⟩ = some (.string y.f1.f0) ∧ W1.cell? ⟨(ad.add (i * 5)).block, (ad.add (i * 5)).off + 2, none⟩ = some (.string y.f1.f1) ∧ W1.cell? ⟨(ad.add (i * 5)).block, (ad.add (i * 5)).off + 3, none⟩ = some (.slice Q0 y.f2.length qc0) ∧ W1.cell? ⟨(ad.add (i * 5)).block, (ad.add (i * 5)).off + 4, none⟩ = some (.slice Q1 y.f3.length qc1) ∧ W1.cell? (ad.add ((i - 1) * 5)) = some (.int .i64 z.f0) ∧ Below wr.heap.size wr W1)) := ⟨fun W W1 hb h => ⟨(hb.cell (World.block_lt_of_cell? W _ (h.1))).trans (h.1), (hb.cell (World.block_lt_of_cell? W _ (h.2.1))).trans (h.2.1), (hb.cell (World.block_lt_of_cell? W _ (h.2.2.1))).trans (h.2.2.1), (hb.cell (World.block_lt_of_cell? W _ (h.2.2.2.1))).trans (h.2.2.2.1), (hb.cell (World.block_lt_of_cell? W _ (h.2.2.2.2.1))).trans (h.2.2.2.2.1), (hb.cell (World.block_lt_of_cell? W _ (h.2.2.2.2.2.1))).trans (h.2.2.2.2.2.1), (hb.cell (World.block_lt_of_cell? W _ (h.2.2.2.2.2.2.1))).trans (h.2.2.2.2.2.2.1), (hb.cell (World.block_lt_of_cell? W _ (h.2.2.2.2.2.2.2.1))).trans (h.2.2.2.2.2.2.2.1), bel_then (h.2.2.2.2.2.2.2.2) hb⟩⟩
       go_wp2
       refine wp_region_held_drew (S := (fun W => W.cell? ⟨w.heap.size, 0, none⟩ = some (.int .i64 s.f0) ∧ W.cell? ⟨w.heap.size, 1, none⟩ = some (.slice (some ad) s.f1.length c0) ∧ W.cell? (ad.add (i * 5)) = some (.int .i64 y.f0) ∧ W.cell? ⟨(ad.add (i * 5)).block, (ad.add (i * 5)).off + 1, none⟩ = some (.string y.f1.f0) ∧ W.cell? ⟨(ad.add (i * 5)).block, (ad.add (i * 5)).off + 2, none⟩ = some (.string y.f1.f1) ∧ W.cell? ⟨(ad.add (i * 5)).block, (ad.add (i * 5)).off + 3, none⟩ = some (.slice Q0 y.f2.length qc0) ∧ W.cell? ⟨(ad.add (i * 5)).block, (ad.add (i * 5)).off + 4, none⟩ = some (.slice Q1 y.f3.length qc1) ∧ W.cell? (ad.add ((i - 1) * 5)) = some (.int .i64 z.f0) ∧ Below wr.heap.size wr W)) (by kernel_rfl) ?s118 (fun hHeld => ?t118)
       case s118 => exact ⟨c0_, c1_, p0, p1, p2, p3, p4, z0, drew_below wr⟩
       refine tk 0 ?v119 ?y119 ?r119
       case y119 => intro w_ hSw; (try dsimp only at hSw); go_simp; (try (with_reducible rfl))
       try simp only [Act.put, List.setIfInBounds_toArray, List.set_cons_zero, List.set_cons_succ]
       refine tk 1 ?v120 ?y120 ?r120
       case y120 => intro w_ hSw; (try dsimp only at hSw); go_simp; (try (with_reducible rfl))
       try simp only [Act.put, List.setIfInBounds_toArray, List.set_cons_zero, List.set_cons_succ]
       refine tk 2 ?v121 ?y121 ?r121
       case y121 => intro w_ hSw; (try dsimp only at hSw); go_simp; (try (with_reducible rfl))
       try simp only [Act.put, List.setIfInBounds_toArray, List.set_cons_zero, List.set_cons_succ]
       refine tk 3 ?v122 ?y122 ?r122
       case y122 => intro w_ hSw; (try dsimp only at hSw); go_simp; (try (with_reducible rfl))
       try simp only [Act.put, List.setIfInBounds_toArray, List.set_cons_zero, List.set_cons_succ]
       refine tk 4 ?v123 ?y123 ?r123
       case y123 => intro w_ hSw; (try dsimp only at hSw); go_simp; (try (with_reducible rfl))
       try simp only [Act.put, List.setIfInBounds_toArray, List.set_cons_zero, List.set_cons_succ]
       refine rdy (rs := [5]) ?_
       refine rc (fun K hK => ?k124) AllReadyH.nil
       case' k124 => skip
       go_simp
       refine (hcall _ hHeld.2.2.2.2.2.2.2.2).mono ?_
       rintro e w1 ⟨rfl, b1⟩
       refine hK.out _ _ ?h124 (fun hHeld => ?j124)
       case h124 => exact HK.out _ _ b1 hHeld
       clear hK K
       try simp only [Act.put, List.setIfInBounds_toArray, List.set_cons_zero, List.set_cons_succ]
       refine tk 6 ?v125 ?y125 ?r125
       case y125 => intro w_ hSw; (try dsimp only at hSw); go_simp; (try (with_reducible rfl))
       try simp only [Act.put, List.setIfInBounds_toArray, List.set_cons_zero, List.set_cons_succ]
       refine tk 7 ?v126 ?y126 ?r126
       case y126 => intro w_ hSw; (try dsimp only at hSw); go_simp; (try (with_reducible rfl))
       try simp only [Act.put, List.setIfInBounds_toArray, List.set_cons_zero, List.set_cons_succ]
       refine tk 8 ?v127 ?y127 ?r127
       case y127 => intro w_ hSw; (try dsimp only at hSw); go_simp; (try (with_reducible rfl))
       try simp only [Act.put, List.setIfInBounds_toArray, List.set_cons_zero, List.set_cons_succ]
       refine tk 9 ?v128 ?y128 ?r128
       case y128 => intro w_ hSw; (try dsimp only at hSw); go_simp; (try (with_reducible rfl))
       try simp only [Act.put, List.setIfInBounds_toArray, List.set_cons_zero, List.set_cons_succ]
       refine tk 10 ?v129 ?y129 ?r129
       case y129 => intro w_ hSw; (try dsimp only at hSw); go_simp; (try (with_reducible rfl))
       try simp only [Act.put, List.setIfInBounds_toArray, List.set_cons_zero, List.set_cons_succ]
       refine tk 11 ?v130 ?y130 ?r130
       case y130 => intro w_ hSw; (try dsimp only at hSw); go_simp; (try (with_reducible rfl))
       try simp only [Act.put, List.setIfInBounds_toArray, List.set_cons_zero, List.set_cons_succ]
       refine tk 12 ?v131 ?y131 ?r131
       case y131 => intro w_ hSw; (try dsimp only at hSw); go_simp; (try (with_reducible rfl))
       try simp only [Act.put, List.setIfInBounds_toArray, List.set_cons_zero, List.set_cons_succ]
       refine tk 13 ?v132 ?y132 ?r132
       case y132 => intro w_ hSw; (try dsimp only at hSw); go_simp; (try (with_reducible rfl))
       try simp only [Act.put, List.setIfInBounds_toArray, List.set_cons_zero, List.set_cons_succ]
       refine tk 14 ?v133 ?y133 ?r133
       case y133 => intro w_ hSw; (try dsimp only at hSw); go_simp; (try (with_reducible rfl))
       try simp only [Act.put, List.setIfInBounds_toArray, List.set_cons_zero, List.set_cons_succ]
       refine tk 15 ?v134 ?y134 ?r134
       case y134 => intro w_ hSw; (try dsimp only at hSw); go_simp; (try (with_reducible rfl))
       try simp only [Act.put, List.setIfInBounds_toArray, List.set_cons_zero, List.set_cons_succ]
       refine tk 16 ?v135 ?y135 ?r135
       case y135 => intro w_ hSw; (try dsimp only at hSw); go_simp; (try (with_reducible rfl))
       try simp only [Act.put, List.setIfInBounds_toArray, List.set_cons_zero, List.set_cons_succ]
       refine tk 17 ?v136 ?y136 ?r136
       case y136 => intro w_ hSw; (try dsimp only at hSw); go_simp; (try (with_reducible rfl))
       try simp only [Act.put, List.setIfInBounds_toArray, List.set_cons_zero, List.set_cons_succ]
       refine tk 18 ?v137 ?y137 ?r137
       case y137 => intro w_ hSw; (try dsimp only at hSw); go_simp; (try (with_reducible rfl))
       try simp only [Act.put, List.setIfInBounds_toArray, List.set_cons_zero, List.set_cons_succ]
       refine tk 19 ?v138 ?y138 ?r138
       case y138 => intro w_ hSw; (try dsimp only at hSw); go_simp; (try (with_reducible rfl))
       try simp only [Act.put, List.setIfInBounds_toArray, List.set_cons_zero, List.set_cons_succ]
       refine tk 20 ?v139 ?y139 ?r139
       case y139 => intro w_ hSw; (try dsimp only at hSw); go_simp; (try (with_reducible rfl))
       try simp only [Act.put, List.setIfInBounds_toArray, List.set_cons_zero, List.set_cons_succ]
       refine tk 21 ?v140 ?y140 ?r140
       case y140 => intro w_ hSw; (try dsimp only at hSw); go_simp; (try (with_reducible rfl))
       try simp only [Act.put, List.setIfInBounds_toArray, List.set_cons_zero, List.set_cons_succ]
       refine tk 22 ?v141 ?y141 ?r141
       case y141 => intro w_ hSw; (try dsimp only at hSw); go_simp; (try (with_reducible rfl))
       try simp only [Act.put, List.setIfInBounds_toArray, List.set_cons_zero, List.set_cons_succ]
       refine tk 23 ?v142 ?y142 ?r142
       case y142 => intro w_ hSw; (try dsimp only at hSw); go_simp; (try (with_reducible rfl))
       try simp only [Act.put, List.setIfInBounds_toArray, List.set_cons_zero, List.set_cons_succ]
       refine tk 24 ?v143 ?y143 ?r143
       case y143 => intro w_ hSw; (try dsimp only at hSw); go_simp; (try (with_reducible rfl))
       try simp only [Act.put, List.setIfInBounds_toArray, List.set_cons_zero, List.set_cons_succ]
       refine tk 25 ?v144 ?y144 ?r144
       case y144 => intro w_ hSw; (try dsimp only at hSw); go_simp; (try (with_reducible rfl))
       try simp only [Act.put, List.setIfInBounds_toArray, List.set_cons_zero, List.set_cons_succ]
       refine tk 26 ?v145 ?y145 ?r145
       case y145 => intro w_ hSw; (try dsimp only at hSw); go_simp; (try (with_reducible rfl))
       try simp only [Act.put, List.setIfInBounds_toArray, List.set_cons_zero, List.set_cons_succ]
       refine tk 27 ?v146 ?y146 ?r146
       case y146 => intro w_ hSw; (try dsimp only at hSw); go_simp; (try (with_reducible rfl))
       try simp only [Act.put, List.setIfInBounds_toArray, List.set_cons_zero, List.set_cons_succ]
       refine tk 28 ?v147 ?y147 ?r147
       case y147 => intro w_ hSw; (try dsimp only at hSw); go_simp; (try (with_reducible rfl))
       try simp only [Act.put, List.setIfInBounds_toArray, List.set_cons_zero, List.set_cons_succ]
       refine tk 29 ?v148 ?y148 ?r148
       case y148 => intro w_ hSw; (try dsimp only at hSw); go_simp; (try (with_reducible rfl))
       try simp only [Act.put, List.setIfInBounds_toArray, List.set_cons_zero, List.set_cons_succ]
       refine tk 30 ?v149 ?y149 ?r149
       case y149 => intro w_ hSw; (try dsimp only at hSw); go_simp; (try (with_reducible rfl))
       try simp only [Act.put, List.setIfInBounds_toArray, List.set_cons_zero, List.set_cons_succ]
       refine tk 31 ?v150 ?y150 ?r150
       case y150 => intro w_ hSw; (try dsimp only at hSw); go_simp; (try (with_reducible rfl))
       try simp only [Act.put, List.setIfInBounds_toArray, List.set_cons_zero, List.set_cons_succ]
       refine tk 32 ?v151 ?y151 ?r151
       case y151 => intro w_ hSw; (try dsimp only at hSw); go_simp; (try (with_reducible rfl))
       try simp only [Act.put, List.setIfInBounds_toArray, List.set_cons_zero, List.set_cons_succ]
       refine tk 33 ?v152 ?y152 ?r152
       case y152 => intro w_ hSw; (try dsimp only at hSw); go_simp; (try (with_reducible rfl))
       try simp only [Act.put, List.setIfInBounds_toArray, List.set_cons_zero, List.set_cons_succ]
       refine tk 34 ?v153 ?y153 ?r153
       case y153 => intro w_ hSw; (try dsimp only at hSw); go_simp; (try (with_reducible rfl))
       try simp only [Act.put, List.setIfInBounds_toArray, List.set_cons_zero, List.set_cons_succ]
       refine tk 35 ?v154 ?y154 ?r154
       case y154 => intro w_ hSw; (try dsimp only at hSw); go_simp; (try (with_reducible rfl))
       try simp only [Act.put, List.setIfInBounds_toArray, List.set_cons_zero, List.set_cons_succ]
       refine tk 36 ?v155 ?y155 ?r155
       case y155 => intro w_ hSw; (try dsimp only at hSw); go_simp; (try (with_reducible rfl))
       try simp only [Act.put, List.setIfInBounds_toArray, List.set_cons_zero, List.set_cons_succ]
       refine tk 37 ?v156 ?y156 ?r156
       case y156 => intro w_ hSw; (try dsimp only at hSw); go_simp; (try (with_reducible rfl))
       try simp only [Act.put, List.setIfInBounds_toArray, List.set_cons_zero, List.set_cons_succ]
       refine wpAnyH_done (by kernel_rfl) ?_ _
       obtain ⟨_, _, _, _, _, _, _, _, BH⟩ := hHeld
       have B1 : Below w.heap.size w w1 := bel_then HB0.out (bel_then BW.out BH)
       clear HK p0 p1 p2 p3 p4
       have BD : Aside0 (Below W0.heap.size W0 w1) := ⟨bel_then BW.out BH⟩
       go_wp2
       go_roundg (s.f1.length - (i + 1))
       case measure => omega
       case rel => exact ⟨i + 1, by omega, Nat.le_refl _, by go_num, BD, ⟨fun j hj => by
        by_cases e : j = i
        ·subst e; rw [HG.out, HQ.out, HV.out, decide_eq_true HZ.out, decide_eq_true HL.out]; rfl
        ·exact H.out j (by omega)⟩⟩
      ·have hz1 : y.f0 ≤ z.f0 := by omega
       have hz2 : decide (y.f0 ≤ z.f0) = true := decide_eq_true hz1
       have HZ := Lib.hid hz
       clear hz
       have HK : Aside0 (∀ W W1, Below W.heap.size W W1 → (W.cell? ⟨w.heap.size, 0, none⟩ = some (.int .i64 s.f0) ∧ W.cell? ⟨w.heap.size, 1, none⟩ = some (.slice (some ad) s.f1.length c0) ∧ W.cell? (ad.add (i * 5)) = some (.int .i64 y.f0) ∧ W.cell? ⟨(ad.add (i * 5)).block, (ad.add (i * 5)).off + 1, none⟩ = some (.string y.f1.f0) ∧ W.cell? ⟨(ad.add (i * 5)).block, (ad.add (i * 5)).off + 2, none⟩ = some (.string y.f1.f1) ∧ W.cell? ⟨(ad.add (i * 5)).block, (ad.add (i * 5)).off + 3, none⟩ = some (.slice Q0 y.f2.length qc0) ∧ W.cell? ⟨(ad.add (i * 5)).block, (ad.add (i * 5)).off + 4, none⟩ = some (.slice Q1 y.f3.length qc1) ∧ W.cell? (ad.add ((i - 1) * 5)) = some (.int .i64 z.f0) ∧ Below wr.heap.size wr W) → (W1.cell? ⟨w.heap.size, 0, none⟩ = some (.int .i64 s.f0) ∧ W1.cell? ⟨w.heap.size, 1, none⟩ = some (.slice (some ad) s.f1.length c0) ∧ W1.cell? (ad.add (i * 5)) = some (.int .i64 y.f0) ∧ W1.cell? ⟨(ad.add (i * 5)).block, (ad.add (i * 5)).off + 1, none⟩ = some (.string y.f1.f0) ∧ W1.cell? ⟨(ad.add (i * 5)).block, (ad.add (i * 5)).off + 2, none⟩ = some (.string y.f1.f1) ∧ W1.cell? ⟨(ad.add (i * 5)).block, (ad.add (i * 5)).off + 3, none⟩ = some (.slice Q0 y.f2.length qc0) ∧ W1.cell? ⟨(ad.add (i * 5)).block, (ad.add (i * 5)).off + 4, none⟩ = some (.slice Q1 y.f3.length qc1) ∧ W1.cell? (ad.add ((i - 1) * 5)) = some (.int .i64 z.f0) ∧ Below wr.heap.size wr W1)) := ⟨fun W W1 hb h => ⟨(hb.cell (World.block_lt_of_cell? W _ (h.1))).trans (h.1), (hb.cell (World.block_lt_of_cell? W _ (h.2.1))).trans (h.2.1), (hb.cell (World.block_lt_of_cell? W _ (h.2.2.1))).trans (h.2.2.1), (hb.cell (World.block_lt_of_cell? W _ (h.2.2.2.1))).trans (h.2.2.2.1), (hb.cell (World.block_lt_of_cell? W _ (h.2.2.2.2.1))).trans (h.2.2.2.2.1), (hb.cell (World.block_lt_of_cell? W _ (h.2.2.2.2.2.1))).trans (h.2.2.2.2.2.1), (hb.cell (World.block_lt_of_cell? W _ (h.2.2.2.2.2.2.1))).trans (h.2.2.2.2.2.2.1), (hb.cell (World.block_lt_of_cell? W _ (h.2.2.2.2.2.2.2.1))).trans (h.2.2.2.2.2.2.2.1), bel_then (h.2.2.2.2.2.2.2.2) hb⟩⟩
       go_wp2
       refine wp_region_held_drew (S := (fun W => W.cell? ⟨w.heap.size, 0, none⟩ = some (.int .i64 s.f0) ∧ W.cell? ⟨w.heap.size, 1, none⟩ = some (.slice (some ad) s.f1.length c0) ∧ W.cell? (ad.add (i * 5)) = some (.int .i64 y.f0) ∧ W.cell? ⟨(ad.add (i * 5)).block, (ad.add (i * 5)).off + 1, none⟩ = some (.string y.f1.f0) ∧ W.cell? ⟨(ad.add (i * 5)).block, (ad.add (i * 5)).off + 2, none⟩ = some (.string y.f1.f1) ∧ W.cell? ⟨(ad.add (i * 5)).block, (ad.add (i * 5)).off + 3, none⟩ = some (.slice Q0 y.f2.length qc0) ∧ W.cell? ⟨(ad.add (i * 5)).block, (ad.add (i * 5)).off + 4, none⟩ = some (.slice Q1 y.f3.length qc1) ∧ W.cell? (ad.add ((i - 1) * 5)) = some (.int .i64 z.f0) ∧ Below wr.heap.size wr W)) (by kernel_rfl) ?s157 (fun hHeld => ?t157)
       case s157 => exact ⟨c0_, c1_, p0, p1, p2, p3, p4, z0, drew_below wr⟩
       refine tk 0 ?v158 ?y158 ?r158
       case y158 => intro w_ hSw; (try dsimp only at hSw); go_simp; (try (with_reducible rfl))
       try simp only [Act.put, List.setIfInBounds_toArray, List.set_cons_zero, List.set_cons_succ]
       refine tk 1 ?v159 ?y159 ?r159
       case y159 => intro w_ hSw; (try dsimp only at hSw); go_simp; (try (with_reducible rfl))
       try simp only [Act.put, List.setIfInBounds_toArray, List.set_cons_zero, List.set_cons_succ]
       refine tk 2 ?v160 ?y160 ?r160
       case y160 => intro w_ hSw; (try dsimp only at hSw); go_simp; (try (with_reducible rfl))
       try simp only [Act.put, List.setIfInBounds_toArray, List.set_cons_zero, List.set_cons_succ]
       refine tk 3 ?v161 ?y161 ?r161
       case y161 => intro w_ hSw; (try dsimp only at hSw); go_simp; (try (with_reducible rfl))
       try simp only [Act.put, List.setIfInBounds_toArray, List.set_cons_zero, List.set_cons_succ]
       refine tk 4 ?v162 ?y162 ?r162
       case y162 => intro w_ hSw; (try dsimp only at hSw); go_simp; (try (with_reducible rfl))
       try simp only [Act.put, List.setIfInBounds_toArray, List.set_cons_zero, List.set_cons_succ]
       refine rdy (rs := [5]) ?_
       refine rc (fun K hK => ?k163) AllReadyH.nil
       case' k163 => skip
       go_simp
       refine (hcall _ hHeld.2.2.2.2.2.2.2.2).mono ?_
       rintro e w1 ⟨rfl, b1⟩
       refine hK.out _ _ ?h163 (fun hHeld => ?j163)
       case h163 => exact HK.out _ _ b1 hHeld
       clear hK K
       try simp only [Act.put, List.setIfInBounds_toArray, List.set_cons_zero, List.set_cons_succ]
       refine tk 6 ?v164 ?y164 ?r164
       case y164 => intro w_ hSw; (try dsimp only at hSw); go_simp; (try (with_reducible rfl))
       try simp only [Act.put, List.setIfInBounds_toArray, List.set_cons_zero, List.set_cons_succ]
       refine tk 7 ?v165 ?y165 ?r165
       case y165 => intro w_ hSw; (try dsimp only at hSw); go_simp; (try (with_reducible rfl))
       try simp only [Act.put, List.setIfInBounds_toArray, List.set_cons_zero, List.set_cons_succ]
       refine tk 8 ?v166 ?y166 ?r166
       case y166 => intro w_ hSw; (try dsimp only at hSw); go_simp; (try (with_reducible rfl))
       try simp only [Act.put, List.setIfInBounds_toArray, List.set_cons_zero, List.set_cons_succ]
       refine tk 9 ?v167 ?y167 ?r167
       case y167 => intro w_ hSw; (try dsimp only at hSw); go_simp; (try (with_reducible rfl))
       try simp only [Act.put, List.setIfInBounds_toArray, List.set_cons_zero, List.set_cons_succ]
       refine tk 10 ?v168 ?y168 ?r168
       case y168 => intro w_ hSw; (try dsimp only at hSw); go_simp; (try (with_reducible rfl))
       try simp only [Act.put, List.setIfInBounds_toArray, List.set_cons_zero, List.set_cons_succ]
       refine tk 11 ?v169 ?y169 ?r169
       case y169 => intro w_ hSw; (try dsimp only at hSw); go_simp; (try (with_reducible rfl))
       try simp only [Act.put, List.setIfInBounds_toArray, List.set_cons_zero, List.set_cons_succ]
       refine tk 12 ?v170 ?y170 ?r170
       case y170 => intro w_ hSw; (try dsimp only at hSw); go_simp; (try (with_reducible rfl))
       try simp only [Act.put, List.setIfInBounds_toArray, List.set_cons_zero, List.set_cons_succ]
       refine tk 13 ?v171 ?y171 ?r171
       case y171 => intro w_ hSw; (try dsimp only at hSw); go_simp; (try (with_reducible rfl))
       try simp only [Act.put, List.setIfInBounds_toArray, List.set_cons_zero, List.set_cons_succ]
       refine tk 14 ?v172 ?y172 ?r172
       case y172 => intro w_ hSw; (try dsimp only at hSw); go_simp; (try (with_reducible rfl))
       try simp only [Act.put, List.setIfInBounds_toArray, List.set_cons_zero, List.set_cons_succ]
       refine tk 15 ?v173 ?y173 ?r173
       case y173 => intro w_ hSw; (try dsimp only at hSw); go_simp; (try (with_reducible rfl))
       try simp only [Act.put, List.setIfInBounds_toArray, List.set_cons_zero, List.set_cons_succ]
       refine tk 16 ?v174 ?y174 ?r174
       case y174 => intro w_ hSw; (try dsimp only at hSw); go_simp; (try (with_reducible rfl))
       try simp only [Act.put, List.setIfInBounds_toArray, List.set_cons_zero, List.set_cons_succ]
       refine tk 17 ?v175 ?y175 ?r175
       case y175 => intro w_ hSw; (try dsimp only at hSw); go_simp; (try (with_reducible rfl))
       try simp only [Act.put, List.setIfInBounds_toArray, List.set_cons_zero, List.set_cons_succ]
       refine tk 18 ?v176 ?y176 ?r176
       case y176 => intro w_ hSw; (try dsimp only at hSw); go_simp; (try (with_reducible rfl))
       try simp only [Act.put, List.setIfInBounds_toArray, List.set_cons_zero, List.set_cons_succ]
       refine tk 19 ?v177 ?y177 ?r177
       case y177 => intro w_ hSw; (try dsimp only at hSw); go_simp; (try (with_reducible rfl))
       try simp only [Act.put, List.setIfInBounds_toArray, List.set_cons_zero, List.set_cons_succ]
       refine tk 20 ?v178 ?y178 ?r178
       case y178 => intro w_ hSw; (try dsimp only at hSw); go_simp; (try (with_reducible rfl))
       try simp only [Act.put, List.setIfInBounds_toArray, List.set_cons_zero, List.set_cons_succ]
       refine tk 21 ?v179 ?y179 ?r179
       case y179 => intro w_ hSw; (try dsimp only at hSw); go_simp; (try (with_reducible rfl))
       try simp only [Act.put, List.setIfInBounds_toArray, List.set_cons_zero, List.set_cons_succ]
       refine tk 22 ?v180 ?y180 ?r180
       case y180 => intro w_ hSw; (try dsimp only at hSw); go_simp; (try (with_reducible rfl))
       try simp only [Act.put, List.setIfInBounds_toArray, List.set_cons_zero, List.set_cons_succ]
       refine tk 23 ?v181 ?y181 ?r181
       case y181 => intro w_ hSw; (try dsimp only at hSw); go_simp; (try (with_reducible rfl))
       try simp only [Act.put, List.setIfInBounds_toArray, List.set_cons_zero, List.set_cons_succ]
       refine tk 24 ?v182 ?y182 ?r182
       case y182 => intro w_ hSw; (try dsimp only at hSw); go_simp; (try (with_reducible rfl))
       try simp only [Act.put, List.setIfInBounds_toArray, List.set_cons_zero, List.set_cons_succ]
       refine tk 25 ?v183 ?y183 ?r183
       case y183 => intro w_ hSw; (try dsimp only at hSw); go_simp; (try (with_reducible rfl))
       try simp only [Act.put, List.setIfInBounds_toArray, List.set_cons_zero, List.set_cons_succ]
       refine tk 26 ?v184 ?y184 ?r184
       case y184 => intro w_ hSw; (try dsimp only at hSw); go_simp; (try (with_reducible rfl))
       try simp only [Act.put, List.setIfInBounds_toArray, List.set_cons_zero, List.set_cons_succ]
       refine tk 27 ?v185 ?y185 ?r185
       case y185 => intro w_ hSw; (try dsimp only at hSw); go_simp; (try (with_reducible rfl))
       try simp only [Act.put, List.setIfInBounds_toArray, List.set_cons_zero, List.set_cons_succ]
       refine tk 28 ?v186 ?y186 ?r186
       case y186 => intro w_ hSw; (try dsimp only at hSw); go_simp; (try (with_reducible rfl))
       try simp only [Act.put, List.setIfInBounds_toArray, List.set_cons_zero, List.set_cons_succ]
       refine tk 29 ?v187 ?y187 ?r187
       case y187 => intro w_ hSw; (try dsimp only at hSw); go_simp; (try (with_reducible rfl))
       try simp only [Act.put, List.setIfInBounds_toArray, List.set_cons_zero, List.set_cons_succ]
       refine tk 30 ?v188 ?y188 ?r188
       case y188 => intro w_ hSw; (try dsimp only at hSw); go_simp; (try (with_reducible rfl))
       try simp only [Act.put, List.setIfInBounds_toArray, List.set_cons_zero, List.set_cons_succ]
       refine tk 31 ?v189 ?y189 ?r189
       case y189 => intro w_ hSw; (try dsimp only at hSw); go_simp; (try (with_reducible rfl))
       try simp only [Act.put, List.setIfInBounds_toArray, List.set_cons_zero, List.set_cons_succ]
       refine tk 32 ?v190 ?y190 ?r190
       case y190 => intro w_ hSw; (try dsimp only at hSw); go_simp; (try (with_reducible rfl))
       try simp only [Act.put, List.setIfInBounds_toArray, List.set_cons_zero, List.set_cons_succ]
       refine tk 33 ?v191 ?y191 ?r191
       case y191 => intro w_ hSw; (try dsimp only at hSw); go_simp; (try (with_reducible rfl))
       try simp only [Act.put, List.setIfInBounds_toArray, List.set_cons_zero, List.set_cons_succ]
       refine tk 34 ?v192 ?y192 ?r192
       case y192 => intro w_ hSw; (try dsimp only at hSw); go_simp; (try (with_reducible rfl))
       try simp only [Act.put, List.setIfInBounds_toArray, List.set_cons_zero, List.set_cons_succ]
       refine tk 35 ?v193 ?y193 ?r193
       case y193 => intro w_ hSw; (try dsimp only at hSw); go_simp; (try (with_reducible rfl))
       try simp only [Act.put, List.setIfInBounds_toArray, List.set_cons_zero, List.set_cons_succ]
       refine tk 36 ?v194 ?y194 ?r194
       case y194 => intro w_ hSw; (try dsimp only at hSw); go_simp; (try (with_reducible rfl))
       try simp only [Act.put, List.setIfInBounds_toArray, List.set_cons_zero, List.set_cons_succ]
       refine tk 37 ?v195 ?y195 ?r195
       case y195 => intro w_ hSw; (try dsimp only at hSw); go_simp; (try (with_reducible rfl))
       try simp only [Act.put, List.setIfInBounds_toArray, List.set_cons_zero, List.set_cons_succ]
       refine wpAnyH_done (by kernel_rfl) ?_ _
       obtain ⟨_, _, _, _, _, _, _, _, BH⟩ := hHeld
       have B1 : Below w.heap.size w w1 := bel_then HB0.out (bel_then BW.out BH)
       clear HK p0 p1 p2 p3 p4
       go_wp2
       go_ret
       refine ⟨retb ?_, B1⟩
       rw [HM.out, range_not hlt (by rw [HG.out, HQ.out, HV.out, decide_eq_false (show ¬ z.f0 < y.f0 by have := HZ.out; omega), Bool.false_and, Bool.and_false]), Bool.false_and]
     ·have hi2 : decide ((0 : Int) < (i : Int)) = false := decide_eq_false (by omega)
      have hi3 : decide ((i : Int) > 0) = false := hi2
      have hi4 : decide (0 < i) = false := decide_eq_false hi1
      have hpv : prevId s.f1 i = 0 := by unfold prevId; rw [if_pos (by omega)]
      have HV := Lib.hid hpv
      clear hpv hr2
      have HK : Aside0 (∀ W W1, Below W.heap.size W W1 → (W.cell? ⟨w.heap.size, 0, none⟩ = some (.int .i64 s.f0) ∧ W.cell? ⟨w.heap.size, 1, none⟩ = some (.slice (some ad) s.f1.length c0) ∧ W.cell? (ad.add (i * 5)) = some (.int .i64 y.f0) ∧ W.cell? ⟨(ad.add (i * 5)).block, (ad.add (i * 5)).off + 1, none⟩ = some (.string y.f1.f0) ∧ W.cell? ⟨(ad.add (i * 5)).block, (ad.add (i * 5)).off + 2, none⟩ = some (.string y.f1.f1) ∧ W.cell? ⟨(ad.add (i * 5)).block, (ad.add (i * 5)).off + 3, none⟩ = some (.slice Q0 y.f2.length qc0) ∧ W.cell? ⟨(ad.add (i * 5)).block, (ad.add (i * 5)).off + 4, none⟩ = some (.slice Q1 y.f3.length qc1) ∧ Below wr.heap.size wr W) → (W1.cell? ⟨w.heap.size, 0, none⟩ = some (.int .i64 s.f0) ∧ W1.cell? ⟨w.heap.size, 1, none⟩ = some (.slice (some ad) s.f1.length c0) ∧ W1.cell? (ad.add (i * 5)) = some (.int .i64 y.f0) ∧ W1.cell? ⟨(ad.add (i * 5)).block, (ad.add (i * 5)).off + 1, none⟩ = some (.string y.f1.f0) ∧ W1.cell? ⟨(ad.add (i * 5)).block, (ad.add (i * 5)).off + 2, none⟩ = some (.string y.f1.f1) ∧ W1.cell? ⟨(ad.add (i * 5)).block, (ad.add (i * 5)).off + 3, none⟩ = some (.slice Q0 y.f2.length qc0) ∧ W1.cell? ⟨(ad.add (i * 5)).block, (ad.add (i * 5)).off + 4, none⟩ = some (.slice Q1 y.f3.length qc1) ∧ Below wr.heap.size wr W1)) := ⟨fun W W1 hb h => ⟨(hb.cell (World.block_lt_of_cell? W _ (h.1))).trans (h.1), (hb.cell (World.block_lt_of_cell? W _ (h.2.1))).trans (h.2.1), (hb.cell (World.block_lt_of_cell? W _ (h.2.2.1))).trans (h.2.2.1), (hb.cell (World.block_lt_of_cell? W _ (h.2.2.2.1))).trans (h.2.2.2.1), (hb.cell (World.block_lt_of_cell? W _ (h.2.2.2.2.1))).trans (h.2.2.2.2.1), (hb.cell (World.block_lt_of_cell? W _ (h.2.2.2.2.2.1))).trans (h.2.2.2.2.2.1), (hb.cell (World.block_lt_of_cell? W _ (h.2.2.2.2.2.2.1))).trans (h.2.2.2.2.2.2.1), bel_then (h.2.2.2.2.2.2.2) hb⟩⟩
      go_wp2
      refine wp_region_held_drew (S := (fun W => W.cell? ⟨w.heap.size, 0, none⟩ = some (.int .i64 s.f0) ∧ W.cell? ⟨w.heap.size, 1, none⟩ = some (.slice (some ad) s.f1.length c0) ∧ W.cell? (ad.add (i * 5)) = some (.int .i64 y.f0) ∧ W.cell? ⟨(ad.add (i * 5)).block, (ad.add (i * 5)).off + 1, none⟩ = some (.string y.f1.f0) ∧ W.cell? ⟨(ad.add (i * 5)).block, (ad.add (i * 5)).off + 2, none⟩ = some (.string y.f1.f1) ∧ W.cell? ⟨(ad.add (i * 5)).block, (ad.add (i * 5)).off + 3, none⟩ = some (.slice Q0 y.f2.length qc0) ∧ W.cell? ⟨(ad.add (i * 5)).block, (ad.add (i * 5)).off + 4, none⟩ = some (.slice Q1 y.f3.length qc1) ∧ Below wr.heap.size wr W)) (by kernel_rfl) ?s79 (fun hHeld => ?t79)
      case s79 => exact ⟨c0_, c1_, p0, p1, p2, p3, p4, drew_below wr⟩
      refine tk 0 ?v80 ?y80 ?r80
      case y80 => intro w_ hSw; (try dsimp only at hSw); go_simp; (try (with_reducible rfl))
      try simp only [Act.put, List.setIfInBounds_toArray, List.set_cons_zero, List.set_cons_succ]
      refine tk 1 ?v81 ?y81 ?r81
      case y81 => intro w_ hSw; (try dsimp only at hSw); go_simp; (try (with_reducible rfl))
      try simp only [Act.put, List.setIfInBounds_toArray, List.set_cons_zero, List.set_cons_succ]
      refine tk 2 ?v82 ?y82 ?r82
      case y82 => intro w_ hSw; (try dsimp only at hSw); go_simp; (try (with_reducible rfl))
      try simp only [Act.put, List.setIfInBounds_toArray, List.set_cons_zero, List.set_cons_succ]
      refine tk 3 ?v83 ?y83 ?r83
      case y83 => intro w_ hSw; (try dsimp only at hSw); go_simp; (try (with_reducible rfl))
      try simp only [Act.put, List.setIfInBounds_toArray, List.set_cons_zero, List.set_cons_succ]
      refine tk 4 ?v84 ?y84 ?r84
      case y84 => intro w_ hSw; (try dsimp only at hSw); go_simp; (try (with_reducible rfl))
      try simp only [Act.put, List.setIfInBounds_toArray, List.set_cons_zero, List.set_cons_succ]
      refine rdy (rs := [5]) ?_
      refine rc (fun K hK => ?k85) AllReadyH.nil
      case' k85 => skip
      go_simp
      refine (hcall _ hHeld.2.2.2.2.2.2.2).mono ?_
      rintro e w1 ⟨rfl, b1⟩
      refine hK.out _ _ ?h85 (fun hHeld => ?j85)
      case h85 => exact HK.out _ _ b1 hHeld
      clear hK K
      try simp only [Act.put, List.setIfInBounds_toArray, List.set_cons_zero, List.set_cons_succ]
      refine tk 6 ?v86 ?y86 ?r86
      case y86 => intro w_ hSw; (try dsimp only at hSw); go_simp; (try (with_reducible rfl))
      try simp only [Act.put, List.setIfInBounds_toArray, List.set_cons_zero, List.set_cons_succ]
      refine tk 7 ?v87 ?y87 ?r87
      case y87 => intro w_ hSw; (try dsimp only at hSw); go_simp; (try (with_reducible rfl))
      try simp only [Act.put, List.setIfInBounds_toArray, List.set_cons_zero, List.set_cons_succ]
      refine tk 8 ?v88 ?y88 ?r88
      case y88 => intro w_ hSw; (try dsimp only at hSw); go_simp; (try (with_reducible rfl))
      try simp only [Act.put, List.setIfInBounds_toArray, List.set_cons_zero, List.set_cons_succ]
      refine tk 9 ?v89 ?y89 ?r89
      case y89 => intro w_ hSw; (try dsimp only at hSw); go_simp; (try (with_reducible rfl))
      try simp only [Act.put, List.setIfInBounds_toArray, List.set_cons_zero, List.set_cons_succ]
      refine tk 10 ?v90 ?y90 ?r90
      case y90 => intro w_ hSw; (try dsimp only at hSw); go_simp; (try (with_reducible rfl))
      try simp only [Act.put, List.setIfInBounds_toArray, List.set_cons_zero, List.set_cons_succ]
      refine tk 11 ?v91 ?y91 ?r91
      case y91 => intro w_ hSw; (try dsimp only at hSw); go_simp; (try (with_reducible rfl))
      try simp only [Act.put, List.setIfInBounds_toArray, List.set_cons_zero, List.set_cons_succ]
      refine tk 12 ?v92 ?y92 ?r92
      case y92 => intro w_ hSw; (try dsimp only at hSw); go_simp; (try (with_reducible rfl))
      try simp only [Act.put, List.setIfInBounds_toArray, List.set_cons_zero, List.set_cons_succ]
      refine tk 13 ?v93 ?y93 ?r93
      case y93 => intro w_ hSw; (try dsimp only at hSw); go_simp; (try (with_reducible rfl))
      try simp only [Act.put, List.setIfInBounds_toArray, List.set_cons_zero, List.set_cons_succ]
      refine tk 14 ?v94 ?y94 ?r94
      case y94 => intro w_ hSw; (try dsimp only at hSw); go_simp; (try (with_reducible rfl))
      try simp only [Act.put, List.setIfInBounds_toArray, List.set_cons_zero, List.set_cons_succ]
      refine tk 15 ?v95 ?y95 ?r95
      case y95 => intro w_ hSw; (try dsimp only at hSw); go_simp; (try (with_reducible rfl))
      try simp only [Act.put, List.setIfInBounds_toArray, List.set_cons_zero, List.set_cons_succ]
      refine tk 16 ?v96 ?y96 ?r96
      case y96 => intro w_ hSw; (try dsimp only at hSw); go_simp; (try (with_reducible rfl))
      try simp only [Act.put, List.setIfInBounds_toArray, List.set_cons_zero, List.set_cons_succ]
      refine tk 17 ?v97 ?y97 ?r97
      case y97 => intro w_ hSw; (try dsimp only at hSw); go_simp; (try (with_reducible rfl))
      try simp only [Act.put, List.setIfInBounds_toArray, List.set_cons_zero, List.set_cons_succ]
      refine tk 18 ?v98 ?y98 ?r98
      case y98 => intro w_ hSw; (try dsimp only at hSw); go_simp; (try (with_reducible rfl))
      try simp only [Act.put, List.setIfInBounds_toArray, List.set_cons_zero, List.set_cons_succ]
      refine tk 19 ?v99 ?y99 ?r99
      case y99 => intro w_ hSw; (try dsimp only at hSw); go_simp; (try (with_reducible rfl))
      try simp only [Act.put, List.setIfInBounds_toArray, List.set_cons_zero, List.set_cons_succ]
      refine tk 20 ?v100 ?y100 ?r100
      case y100 => intro w_ hSw; (try dsimp only at hSw); go_simp; (try (with_reducible rfl))
      try simp only [Act.put, List.setIfInBounds_toArray, List.set_cons_zero, List.set_cons_succ]
      refine tk 21 ?v101 ?y101 ?r101
      case y101 => intro w_ hSw; (try dsimp only at hSw); go_simp; (try (with_reducible rfl))
      try simp only [Act.put, List.setIfInBounds_toArray, List.set_cons_zero, List.set_cons_succ]
      refine tu 22 ?_
      refine tu 23 ?_
      refine tu 24 ?_
      refine tu 25 ?_
      refine tu 26 ?_
      refine tu 27 ?_
      refine tu 28 ?_
      refine tu 29 ?_
      refine tu 30 ?_
      refine tu 31 ?_
      refine tu 32 ?_
      refine tu 33 ?_
      refine tu 34 ?_
      refine tu 35 ?_
      refine tk 36 ?v116 ?y116 ?r116
      case y116 => intro w_ hSw; (try dsimp only at hSw); go_simp; (try (with_reducible rfl))
      try simp only [Act.put, List.setIfInBounds_toArray, List.set_cons_zero, List.set_cons_succ]
      refine tk 37 ?v117 ?y117 ?r117
      case y117 => intro w_ hSw; (try dsimp only at hSw); go_simp; (try (with_reducible rfl))
      try simp only [Act.put, List.setIfInBounds_toArray, List.set_cons_zero, List.set_cons_succ]
      refine wpAnyH_done (by kernel_rfl) ?_ _
      obtain ⟨_, _, _, _, _, _, _, BH⟩ := hHeld
      have B1 : Below w.heap.size w w1 := bel_then HB0.out (bel_then BW.out BH)
      clear HK p0 p1 p2 p3 p4
      have BD : Aside0 (Below W0.heap.size W0 w1) := ⟨bel_then BW.out BH⟩
      go_wp2
      go_roundg (s.f1.length - (i + 1))
      case measure => omega
      case rel => exact ⟨i + 1, by omega, Nat.le_refl _, by go_num, BD, ⟨fun j hj => by
       by_cases e : j = i
       ·subst e; rw [HG.out, HQ.out, HV.out, decide_eq_true HP0.out, decide_eq_true HL.out]; rfl
       ·exact H.out j (by omega)⟩⟩
    ·have hl1 : s.f0 < y.f0 := by omega
     have hl2 : decide (s.f0 < y.f0) = true := decide_eq_true hl1
     have hl3 : decide (y.f0 > s.f0) = true := hl2
     have HL := Lib.hid hl
     clear hl hr2
     have HK : Aside0 (∀ W W1, Below W.heap.size W W1 → (W.cell? ⟨w.heap.size, 0, none⟩ = some (.int .i64 s.f0) ∧ W.cell? ⟨w.heap.size, 1, none⟩ = some (.slice (some ad) s.f1.length c0) ∧ W.cell? (ad.add (i * 5)) = some (.int .i64 y.f0) ∧ W.cell? ⟨(ad.add (i * 5)).block, (ad.add (i * 5)).off + 1, none⟩ = some (.string y.f1.f0) ∧ W.cell? ⟨(ad.add (i * 5)).block, (ad.add (i * 5)).off + 2, none⟩ = some (.string y.f1.f1) ∧ W.cell? ⟨(ad.add (i * 5)).block, (ad.add (i * 5)).off + 3, none⟩ = some (.slice Q0 y.f2.length qc0) ∧ W.cell? ⟨(ad.add (i * 5)).block, (ad.add (i * 5)).off + 4, none⟩ = some (.slice Q1 y.f3.length qc1) ∧ Below wr.heap.size wr W) → (W1.cell? ⟨w.heap.size, 0, none⟩ = some (.int .i64 s.f0) ∧ W1.cell? ⟨w.heap.size, 1, none⟩ = some (.slice (some ad) s.f1.length c0) ∧ W1.cell? (ad.add (i * 5)) = some (.int .i64 y.f0) ∧ W1.cell? ⟨(ad.add (i * 5)).block, (ad.add (i * 5)).off + 1, none⟩ = some (.string y.f1.f0) ∧ W1.cell? ⟨(ad.add (i * 5)).block, (ad.add (i * 5)).off + 2, none⟩ = some (.string y.f1.f1) ∧ W1.cell? ⟨(ad.add (i * 5)).block, (ad.add (i * 5)).off + 3, none⟩ = some (.slice Q0 y.f2.length qc0) ∧ W1.cell? ⟨(ad.add (i * 5)).block, (ad.add (i * 5)).off + 4, none⟩ = some (.slice Q1 y.f3.length qc1) ∧ Below wr.heap.size wr W1)) := ⟨fun W W1 hb h => ⟨(hb.cell (World.block_lt_of_cell? W _ (h.1))).trans (h.1), (hb.cell (World.block_lt_of_cell? W _ (h.2.1))).trans (h.2.1), (hb.cell (World.block_lt_of_cell? W _ (h.2.2.1))).trans (h.2.2.1), (hb.cell (World.block_lt_of_cell? W _ (h.2.2.2.1))).trans (h.2.2.2.1), (hb.cell (World.block_lt_of_cell? W _ (h.2.2.2.2.1))).trans (h.2.2.2.2.1), (hb.cell (World.block_lt_of_cell? W _ (h.2.2.2.2.2.1))).trans (h.2.2.2.2.2.1), (hb.cell (World.block_lt_of_cell? W _ (h.2.2.2.2.2.2.1))).trans (h.2.2.2.2.2.2.1), bel_then (h.2.2.2.2.2.2.2) hb⟩⟩
     go_wp2
     refine wp_region_held_drew (S := (fun W => W.cell? ⟨w.heap.size, 0, none⟩ = some (.int .i64 s.f0) ∧ W.cell? ⟨w.heap.size, 1, none⟩ = some (.slice (some ad) s.f1.length c0) ∧ W.cell? (ad.add (i * 5)) = some (.int .i64 y.f0) ∧ W.cell? ⟨(ad.add (i * 5)).block, (ad.add (i * 5)).off + 1, none⟩ = some (.string y.f1.f0) ∧ W.cell? ⟨(ad.add (i * 5)).block, (ad.add (i * 5)).off + 2, none⟩ = some (.string y.f1.f1) ∧ W.cell? ⟨(ad.add (i * 5)).block, (ad.add (i * 5)).off + 3, none⟩ = some (.slice Q0 y.f2.length qc0) ∧ W.cell? ⟨(ad.add (i * 5)).block, (ad.add (i * 5)).off + 4, none⟩ = some (.slice Q1 y.f3.length qc1) ∧ Below wr.heap.size wr W)) (by kernel_rfl) ?s40 (fun hHeld => ?t40)
     case s40 => exact ⟨c0_, c1_, p0, p1, p2, p3, p4, drew_below wr⟩
     refine tk 0 ?v41 ?y41 ?r41
     case y41 => intro w_ hSw; (try dsimp only at hSw); go_simp; (try (with_reducible rfl))
     try simp only [Act.put, List.setIfInBounds_toArray, List.set_cons_zero, List.set_cons_succ]
     refine tk 1 ?v42 ?y42 ?r42
     case y42 => intro w_ hSw; (try dsimp only at hSw); go_simp; (try (with_reducible rfl))
     try simp only [Act.put, List.setIfInBounds_toArray, List.set_cons_zero, List.set_cons_succ]
     refine tk 2 ?v43 ?y43 ?r43
     case y43 => intro w_ hSw; (try dsimp only at hSw); go_simp; (try (with_reducible rfl))
     try simp only [Act.put, List.setIfInBounds_toArray, List.set_cons_zero, List.set_cons_succ]
     refine tk 3 ?v44 ?y44 ?r44
     case y44 => intro w_ hSw; (try dsimp only at hSw); go_simp; (try (with_reducible rfl))
     try simp only [Act.put, List.setIfInBounds_toArray, List.set_cons_zero, List.set_cons_succ]
     refine tk 4 ?v45 ?y45 ?r45
     case y45 => intro w_ hSw; (try dsimp only at hSw); go_simp; (try (with_reducible rfl))
     try simp only [Act.put, List.setIfInBounds_toArray, List.set_cons_zero, List.set_cons_succ]
     refine rdy (rs := [5]) ?_
     refine rc (fun K hK => ?k46) AllReadyH.nil
     case' k46 => skip
     go_simp
     refine (hcall _ hHeld.2.2.2.2.2.2.2).mono ?_
     rintro e w1 ⟨rfl, b1⟩
     refine hK.out _ _ ?h46 (fun hHeld => ?j46)
     case h46 => exact HK.out _ _ b1 hHeld
     clear hK K
     try simp only [Act.put, List.setIfInBounds_toArray, List.set_cons_zero, List.set_cons_succ]
     refine tk 6 ?v47 ?y47 ?r47
     case y47 => intro w_ hSw; (try dsimp only at hSw); go_simp; (try (with_reducible rfl))
     try simp only [Act.put, List.setIfInBounds_toArray, List.set_cons_zero, List.set_cons_succ]
     refine tk 7 ?v48 ?y48 ?r48
     case y48 => intro w_ hSw; (try dsimp only at hSw); go_simp; (try (with_reducible rfl))
     try simp only [Act.put, List.setIfInBounds_toArray, List.set_cons_zero, List.set_cons_succ]
     refine tk 8 ?v49 ?y49 ?r49
     case y49 => intro w_ hSw; (try dsimp only at hSw); go_simp; (try (with_reducible rfl))
     try simp only [Act.put, List.setIfInBounds_toArray, List.set_cons_zero, List.set_cons_succ]
     refine tk 9 ?v50 ?y50 ?r50
     case y50 => intro w_ hSw; (try dsimp only at hSw); go_simp; (try (with_reducible rfl))
     try simp only [Act.put, List.setIfInBounds_toArray, List.set_cons_zero, List.set_cons_succ]
     refine tk 10 ?v51 ?y51 ?r51
     case y51 => intro w_ hSw; (try dsimp only at hSw); go_simp; (try (with_reducible rfl))
     try simp only [Act.put, List.setIfInBounds_toArray, List.set_cons_zero, List.set_cons_succ]
     refine tk 11 ?v52 ?y52 ?r52
     case y52 => intro w_ hSw; (try dsimp only at hSw); go_simp; (try (with_reducible rfl))
     try simp only [Act.put, List.setIfInBounds_toArray, List.set_cons_zero, List.set_cons_succ]
     refine tk 12 ?v53 ?y53 ?r53
     case y53 => intro w_ hSw; (try dsimp only at hSw); go_simp; (try (with_reducible rfl))
     try simp only [Act.put, List.setIfInBounds_toArray, List.set_cons_zero, List.set_cons_succ]
     refine tk 13 ?v54 ?y54 ?r54
     case y54 => intro w_ hSw; (try dsimp only at hSw); go_simp; (try (with_reducible rfl))
     try simp only [Act.put, List.setIfInBounds_toArray, List.set_cons_zero, List.set_cons_succ]
     refine tk 14 ?v55 ?y55 ?r55
     case y55 => intro w_ hSw; (try dsimp only at hSw); go_simp; (try (with_reducible rfl))
     try simp only [Act.put, List.setIfInBounds_toArray, List.set_cons_zero, List.set_cons_succ]
     refine tk 15 ?v56 ?y56 ?r56
     case y56 => intro w_ hSw; (try dsimp only at hSw); go_simp; (try (with_reducible rfl))
     try simp only [Act.put, List.setIfInBounds_toArray, List.set_cons_zero, List.set_cons_succ]
     refine tk 16 ?v57 ?y57 ?r57
     case y57 => intro w_ hSw; (try dsimp only at hSw); go_simp; (try (with_reducible rfl))
     try simp only [Act.put, List.setIfInBounds_toArray, List.set_cons_zero, List.set_cons_succ]
     refine tk 17 ?v58 ?y58 ?r58
     case y58 => intro w_ hSw; (try dsimp only at hSw); go_simp; (try (with_reducible rfl))
     try simp only [Act.put, List.setIfInBounds_toArray, List.set_cons_zero, List.set_cons_succ]
     refine tk 18 ?v59 ?y59 ?r59
     case y59 => intro w_ hSw; (try dsimp only at hSw); go_simp; (try (with_reducible rfl))
     try simp only [Act.put, List.setIfInBounds_toArray, List.set_cons_zero, List.set_cons_succ]
     refine tu 19 ?_
     refine tu 20 ?_
     refine tu 21 ?_
     refine tu 22 ?_
     refine tu 23 ?_
     refine tu 24 ?_
     refine tu 25 ?_
     refine tu 26 ?_
     refine tu 27 ?_
     refine tu 28 ?_
     refine tu 29 ?_
     refine tu 30 ?_
     refine tu 31 ?_
     refine tu 32 ?_
     refine tu 33 ?_
     refine tu 34 ?_
     refine tu 35 ?_
     refine tu 36 ?_
     refine tk 37 ?v78 ?y78 ?r78
     case y78 => intro w_ hSw; (try dsimp only at hSw); go_simp; (try (with_reducible rfl))
     try simp only [Act.put, List.setIfInBounds_toArray, List.set_cons_zero, List.set_cons_succ]
     refine wpAnyH_done (by kernel_rfl) ?_ _
     obtain ⟨_, _, _, _, _, _, _, BH⟩ := hHeld
     have B1 : Below w.heap.size w w1 := bel_then HB0.out (bel_then BW.out BH)
     clear HK p0 p1 p2 p3 p4
     go_wp2
     go_ret
     refine ⟨retb ?_, B1⟩
     rw [HM.out, range_not hlt (by rw [HG.out, HQ.out, decide_eq_false (show ¬ y.f0 ≤ s.f0 by have := HL.out; omega), Bool.and_false]; rfl), Bool.false_and]
  ·have hlt' : ¬ (i : Int) < (s.f1.length : Int) := by omega
   have HMM := Lib.hid (show M = (q2 && decide ((s.f1.length : Int) ≤ 10)) by rw [HM.out, range_all (fun j hj => H.out j (by omega)), Bool.true_and])
   clear HM
   cases q2
   all_goals
    go_wp2_with (go_at_call 59; refine (hin _).mono ?_; rintro e w3 ⟨rfl, rfl⟩)
    go_ret
    exact ⟨retb (by rw [HMM.out]; first | rfl | (rw [Bool.true_and]; exact decide_eq_decide.2 (by omega))), bel_then HB0.out BW.out⟩

end Go.Proofs.YtiaibgkpohmihaaDoor
