/- AliasRound of the reference: a contract. -/
import Derived.Test.YticepbgacokbbaaDoorReg
import Derived.Test.YticepbgacokbbaaDoorAlSpec
import Derived.Test.YticepbgacokbbaaDoorAlRound
import Derived.Deep.RegionHeld3
namespace Go.Proofs.YticepbgacokbbaaDoor
open Go.RowKit Go.Proofs.YticepbgacokbbaaDoorW.PrintWords
set_option linter.unusedVariables false
set_option linter.unusedSimpArgs false

open Classical in
noncomputable def pickR (xs : List SAlias) (k : Nat) : List SAddr := (((xs.take k).map (·.f0)).filter (fun a => decide (LeadL xs (tos xs a) a))).foldl insU []
theorem pickR_all (xs : List SAlias) : pickR xs xs.length = rounds xs := by unfold pickR rounds sortU; rw [List.take_length]
theorem pickR_next {xs : List SAlias} {k : Nat} (h : k < xs.length) : (LeadL xs (tos xs (xs.getD k zAlias).f0) (xs.getD k zAlias).f0 → pickR xs (k + 1) = insU (pickR xs k) (xs.getD k zAlias).f0) ∧ (¬ LeadL xs (tos xs (xs.getD k zAlias).f0) (xs.getD k zAlias).f0 → pickR xs (k + 1) = pickR xs k) := by
 unfold pickR
 rw [take_nextL h, List.map_append, List.filter_append, List.foldl_append, List.map_cons, List.map_nil]
 constructor
 ·intro hq
  rw [List.filter_cons, if_pos (by simpa using hq)]
  rfl
 ·intro hq
  rw [List.filter_cons, if_neg (by simpa using hq)]
  rfl
theorem pickR_len (xs : List SAlias) (k : Nat) : (pickR xs k).length ≤ xs.length := by
 unfold pickR
 generalize hl : ((xs.take k).map (·.f0)).filter _ = l
 have h1 := foldU_len l []
 have h2 : l.length ≤ ((xs.take k).map (·.f0)).length := by rw [← hl]; exact List.length_filter_le _ _
 rw [List.length_map, List.length_take] at h2
 simp only [List.length_nil] at h1
 omega
set_option maxRecDepth 100000 in
set_option maxHeartbeats 4000000 in
theorem specAliasRound_any (A : Option Addr) (c : Nat) (xs : List SAlias) (w : World) (hw : xs.length ≤ 1048576 ∧ ∀ x ∈ xs, fitAlias x) (hr : Kd.C kAlias w A xs.length xs) :
  Calls Tryd.prog 13 #[.slice A xs.length c] w fun e w' => ∃ B d, e = .returned (.slice B (aliasRound xs).length d) ∧ Kd.R kAddr 30 w' w.heap.size (fun _ => True) (.slice B (aliasRound xs).length d) (aliasRound xs) ∧ Below w.heap.size w w' := by
 have hok := fun W (hW : Below w.heap.size w W) => specAlias_any A c xs W hw (Kd.C_below hr hW)
 have hall := fun (hq : aliasOk xs = true) (b : SAddr) W (hW : Below w.heap.size w W) => specAllL_any A c xs b W (Kd.C_below hr hW) hw.1 (by have := ok_univl hq; omega)
 have hnd := fun (hq : aliasOk xs = true) => ok_nodup hq
 have hl4 := fun (hq : aliasOk xs = true) => ok_len hq
 obtain ⟨X, hX⟩ : ∃ X, X = aliasRound xs := ⟨_, rfl⟩
 rw [← hX]
 unfold aliasRound at hX
 generalize aliasOk xs = q1 at hok hX hall hnd hl4
 have HX := Lib.hid hX
 have HR := Aside0.mk hr
 have HND := Lib.hid hnd
 have HL4 := Lib.hid hl4
 have HALL0 := Lib.hid hall
 clear hX hr hw hnd hl4 hall
 have hE : Kd.R kAddr 30 (w.alloc (.cells #[] 30)) w.heap.size (fun _ => True) (.slice (some ⟨w.heap.size, 0, none⟩) 0 0) [] := R_empty kAddr 30 w w.heap.size (Nat.le_refl _) trivial
 have HE := Aside0.mk hE
 have HBW := Aside0.mk (bel_alloc (Below.refl w.heap.size w) (.cells #[] 30))
 clear hE
 go_enter Tryd.func13, Tryd.ntmps13
 cases q1
 ·obtain rfl : X = [] := HX.out
  go_wp2_with (first | (go_at_call 41; go_loud (refine Calls.mono (hok _ HBW.out) ?_; rintro e w1 ⟨rfl, b1⟩)))
  go_ret
  exact ⟨some ⟨w.heap.size, 0, none⟩, 0, rfl, Kd.R_below HE.out b1, bel_then HBW.out b1⟩
 ·obtain rfl : X = rounds xs := HX.out
  have HALL := Lib.hid (HALL0.out (by trivial))
  have HN := Lib.hid (HND.out (by trivial))
  have hl6 := (HL4.out (by trivial)).1
  have HL := Lib.hid (HL4.out (by trivial)).2
  clear HALL0 HND HL4 HX
  go_wp2_with (first | (go_at_call 41; go_loud (refine Calls.mono (hok _ HBW.out) ?_; rintro e w1 ⟨rfl, b1⟩; have HE1 := Aside0.mk (Kd.R_below HE.out b1); have B1 := Aside0.mk (bel_then HBW.out b1))))
  clear HE HBW hok b1
  go_loopg [3, 4, 5, 6] (xs.length) (fun g v3 v4 _ _ wr => ∃ i : Nat, i ≤ xs.length ∧ xs.length - i ≤ g ∧ v4 = .int .i64 (i : Int) ∧ Aside0 (Kd.R kAddr 30 wr w.heap.size (fun _ => True) v3 (pickR xs i)) ∧ Aside0 (Below w.heap.size w wr))
  case atStart => exact ⟨0, Nat.zero_le _, by omega, rfl, HE1, B1⟩
  case round =>
   clear HE1 B1
   obtain ⟨i, hi, hg, rfl, HO, BW⟩ := hrel
   by_cases hlt : i < xs.length
   ·have hlt' : (i : Int) < (xs.length : Int) := by omega
    obtain ⟨ad, Q0, qc0, e1, p0, p1, p2, l0, k0⟩ := at_Alias HR.out i hlt
    subst e1
    have hnx := pickR_next hlt
    have hto := tos_of HN.out (getD_mem xs zAlias hlt)
    have hl := HL.out _ (getD_mem xs zAlias hlt)
    have hpl := pickR_len xs i
    rw [hto] at hnx
    generalize xs.getD i zAlias = y at p0 p1 p2 l0 k0 hnx hto hl
    generalize pickR xs i = ys at HO hnx hpl
    have HNX := Lib.hid hnx
    have K0 := Aside0.mk k0
    have P0 := Lib.hid p0
    have P1 := Lib.hid p1
    have P2 := Lib.hid p2
    have zp := World.block_lt_of_cell? _ _ p0
    have HYA := Lib.hid (show ∀ b ∈ y.f1, ∃ j, j < y.f1.length ∧ y.f1.getD j zAddr = b from fun b hb => by
     obtain ⟨j, hj, e⟩ := List.getElem_of_mem hb
     exact ⟨j, hj, by rw [List.getD, List.getElem?_eq_getElem hj]; exact e⟩)
    have HYB := Lib.hid (show ∀ j, j < y.f1.length → y.f1.getD j zAddr ∈ y.f1 from fun j hj => getD_mem _ _ hj)
    obtain ⟨vB, vd, hv⟩ := Kd.R_slice HO.out
    subst hv
    have HLT := Lib.hid hlt
    clear hnx hto k0 p0 p1 p2
    go_wp2
    go_loopg [5, 6] (y.f1.length) (fun g v5 v6 wr => ∃ (n : Nat) (q : Bool), n ≤ y.f1.length ∧ y.f1.length - n ≤ g ∧ v5 = .bool q ∧ v6 = .int .i64 (n : Int) ∧ Hid (q = true ↔ ∃ j, j < n ∧ Lead xs (y.f1.getD j zAddr) y.f0) ∧ Aside0 (Kd.R kAddr 30 wr w.heap.size (fun _ => True) (.slice vB ys.length vd) ys) ∧ Aside0 (Below w.heap.size w wr))
    case atStart => exact ⟨0, false, Nat.zero_le _, by omega, rfl, rfl, Lib.hid ⟨fun h => (by cases h), fun ⟨j, hj, _⟩ => absurd hj (Nat.not_lt_zero _)⟩, HO, BW⟩
    case round =>
     clear HO BW
     obtain ⟨n, q, hn, hg2, rfl, rfl, HQ, HO2, B2⟩ := hrel
     have s0 := (B2.out.cell zp).trans P0.out
     have s1 := (B2.out.cell (World.block_lt_of_cell? _ _ P1.out)).trans P1.out
     have s2 := (B2.out.cell (World.block_lt_of_cell? _ _ P2.out)).trans P2.out
     by_cases hln : n < y.f1.length
     ·have hln' : (n : Int) < (y.f1.length : Int) := by omega
      obtain ⟨af, e3, t0, t1⟩ := at_Addr (Kd.C_below K0.out B2.out) n hln
      subst e3
      generalize hcg : y.f1.getD n zAddr = ch at t0 t1
      have HCG := Lib.hid hcg
      clear hcg
      cases q
      ·have HK : Aside0 (∀ W W1, Below W.heap.size W W1 → (W.cell? (ad.add (i * 3)) = some (.string y.f0.f0) ∧ W.cell? ⟨(ad.add (i * 3)).block, (ad.add (i * 3)).off + 1, none⟩ = some (.string y.f0.f1) ∧ W.cell? ⟨(ad.add (i * 3)).block, (ad.add (i * 3)).off + 2, none⟩ = some (.slice (some af) y.f1.length qc0) ∧ W.cell? (af.add (n * 2)) = some (.string ch.f0) ∧ W.cell? ⟨(af.add (n * 2)).block, (af.add (n * 2)).off + 1, none⟩ = some (.string ch.f1) ∧ Below w.heap.size w W) → (W1.cell? (ad.add (i * 3)) = some (.string y.f0.f0) ∧ W1.cell? ⟨(ad.add (i * 3)).block, (ad.add (i * 3)).off + 1, none⟩ = some (.string y.f0.f1) ∧ W1.cell? ⟨(ad.add (i * 3)).block, (ad.add (i * 3)).off + 2, none⟩ = some (.slice (some af) y.f1.length qc0) ∧ W1.cell? (af.add (n * 2)) = some (.string ch.f0) ∧ W1.cell? ⟨(af.add (n * 2)).block, (af.add (n * 2)).off + 1, none⟩ = some (.string ch.f1) ∧ Below w.heap.size w W1)) := ⟨fun W W1 hb h => ⟨(hb.cell (World.block_lt_of_cell? W _ (h.1))).trans (h.1), (hb.cell (World.block_lt_of_cell? W _ (h.2.1))).trans (h.2.1), (hb.cell (World.block_lt_of_cell? W _ (h.2.2.1))).trans (h.2.2.1), (hb.cell (World.block_lt_of_cell? W _ (h.2.2.2.1))).trans (h.2.2.2.1), (hb.cell (World.block_lt_of_cell? W _ (h.2.2.2.2.1))).trans (h.2.2.2.2.1), bel_then (h.2.2.2.2.2) hb⟩⟩
       go_wp2
       refine wp_region_held_drew (S := (fun W => W.cell? (ad.add (i * 3)) = some (.string y.f0.f0) ∧ W.cell? ⟨(ad.add (i * 3)).block, (ad.add (i * 3)).off + 1, none⟩ = some (.string y.f0.f1) ∧ W.cell? ⟨(ad.add (i * 3)).block, (ad.add (i * 3)).off + 2, none⟩ = some (.slice (some af) y.f1.length qc0) ∧ W.cell? (af.add (n * 2)) = some (.string ch.f0) ∧ W.cell? ⟨(af.add (n * 2)).block, (af.add (n * 2)).off + 1, none⟩ = some (.string ch.f1) ∧ Below w.heap.size w W)) (by kernel_rfl) ?s1 (fun hHeld => ?t1)
       case s1 => exact ⟨s0, s1, s2, t0, t1, bel_then B2.out (drew_below0 _)⟩
       refine tk 0 ?v2 ?y2 ?r2
       case y2 => intro w_ hSw; (try dsimp only at hSw); go_simp; (try (with_reducible rfl))
       try simp only [Act.put, List.setIfInBounds_toArray, List.set_cons_zero, List.set_cons_succ]
       refine tk 1 ?v3 ?y3 ?r3
       case y3 => intro w_ hSw; (try dsimp only at hSw); go_simp; (try (with_reducible rfl))
       try simp only [Act.put, List.setIfInBounds_toArray, List.set_cons_zero, List.set_cons_succ]
       refine tk 2 ?v4 ?y4 ?r4
       case y4 => intro w_ hSw; (try dsimp only at hSw); go_simp; (try (with_reducible rfl))
       try simp only [Act.put, List.setIfInBounds_toArray, List.set_cons_zero, List.set_cons_succ]
       refine tk 3 ?v5 ?y5 ?r5
       case y5 => intro w_ hSw; (try dsimp only at hSw); go_simp; (try (with_reducible rfl))
       try simp only [Act.put, List.setIfInBounds_toArray, List.set_cons_zero, List.set_cons_succ]
       refine tk 4 ?v6 ?y6 ?r6
       case y6 => intro w_ hSw; (try dsimp only at hSw); go_simp; (try (with_reducible rfl))
       try simp only [Act.put, List.setIfInBounds_toArray, List.set_cons_zero, List.set_cons_succ]
       refine tk 5 ?v7 ?y7 ?r7
       case y7 => intro w_ hSw; (try dsimp only at hSw); go_simp; (try (with_reducible rfl))
       try simp only [Act.put, List.setIfInBounds_toArray, List.set_cons_zero, List.set_cons_succ]
       refine tk 6 ?v8 ?y8 ?r8
       case y8 => intro w_ hSw; (try dsimp only at hSw); go_simp; (try (with_reducible rfl))
       try simp only [Act.put, List.setIfInBounds_toArray, List.set_cons_zero, List.set_cons_succ]
       refine tk 7 ?v9 ?y9 ?r9
       case y9 => intro w_ hSw; (try dsimp only at hSw); go_simp; (try (with_reducible rfl))
       try simp only [Act.put, List.setIfInBounds_toArray, List.set_cons_zero, List.set_cons_succ]
       refine tk 8 ?v10 ?y10 ?r10
       case y10 => intro w_ hSw; (try dsimp only at hSw); go_simp; (try (with_reducible rfl))
       try simp only [Act.put, List.setIfInBounds_toArray, List.set_cons_zero, List.set_cons_succ]
       refine tk 9 ?v11 ?y11 ?r11
       case y11 => intro w_ hSw; (try dsimp only at hSw); go_simp; (try (with_reducible rfl))
       try simp only [Act.put, List.setIfInBounds_toArray, List.set_cons_zero, List.set_cons_succ]
       refine tk 10 ?v12 ?y12 ?r12
       case y12 => intro w_ hSw; (try dsimp only at hSw); go_simp; (try (with_reducible rfl))
       try simp only [Act.put, List.setIfInBounds_toArray, List.set_cons_zero, List.set_cons_succ]
       refine tk 12 ?v13 ?y13 ?r13
       case y13 => intro w_ hSw; (try dsimp only at hSw); go_simp; (try (with_reducible rfl))
       try simp only [Act.put, List.setIfInBounds_toArray, List.set_cons_zero, List.set_cons_succ]
       refine tk 13 ?v14 ?y14 ?r14
       case y14 => intro w_ hSw; (try dsimp only at hSw); go_simp; (try (with_reducible rfl))
       try simp only [Act.put, List.setIfInBounds_toArray, List.set_cons_zero, List.set_cons_succ]
       refine tk 14 ?v15 ?y15 ?r15
       case y15 => intro w_ hSw; (try dsimp only at hSw); go_simp; (try (with_reducible rfl))
       try simp only [Act.put, List.setIfInBounds_toArray, List.set_cons_zero, List.set_cons_succ]
       refine tk 15 ?v16 ?y16 ?r16
       case y16 => intro w_ hSw; (try dsimp only at hSw); go_simp; (try (with_reducible rfl))
       try simp only [Act.put, List.setIfInBounds_toArray, List.set_cons_zero, List.set_cons_succ]
       refine tk 16 ?v17 ?y17 ?r17
       case y17 => intro w_ hSw; (try dsimp only at hSw); go_simp; (try (with_reducible rfl))
       try simp only [Act.put, List.setIfInBounds_toArray, List.set_cons_zero, List.set_cons_succ]
       refine rdy (rs := [11]) ?_
       refine rc (fun K hK => ?k18) AllReadyH.nil
       case k18 =>
        go_simp
        refine Calls.mono (HALL.out ch _ hHeld.2.2.2.2.2) ?_
        rintro e V11 ⟨T, TB, Td, rfl, hT, hTm, hTl, b11⟩
        refine hK.out _ _ ?h19 (fun hHeld => ?j19)
        case h19 => exact HK.out _ _ b11 hHeld
        clear hK K
        try simp only [Act.put, List.setIfInBounds_toArray, List.set_cons_zero, List.set_cons_succ]
        refine rdy (rs := [17]) ?_
        refine rc (fun K hK => ?k20) AllReadyH.nil
        case k20 =>
         go_simp
         have hhas := specHas_any TB Td T y.f0 V11 (Kd.R_reads' hT).2.2 (by omega)
         obtain ⟨q2, hq2⟩ : ∃ q, q = decide (y.f0 ∈ T) := ⟨_, rfl⟩
         rw [← hq2] at hhas
         refine Calls.mono hhas ?_
         rintro e V17 ⟨rfl, b17⟩
         have HQ2 := Lib.hid (show q2 = true ↔ Lead xs ch y.f0 by rw [hq2, decide_eq_true_iff]; exact hTm _)
         clear hq2
         refine hK.out _ _ ?h21 (fun hHeld => ?j21)
         case h21 => exact HK.out _ _ b17 hHeld
         clear hK K
         try simp only [Act.put, List.setIfInBounds_toArray, List.set_cons_zero, List.set_cons_succ]
         refine tk 18 ?v22 ?y22 ?r22
         case y22 => intro w_ hSw; (try dsimp only at hSw); go_simp; (try (with_reducible rfl))
         try simp only [Act.put, List.setIfInBounds_toArray, List.set_cons_zero, List.set_cons_succ]
         refine tk 19 ?v23 ?y23 ?r23
         case y23 => intro w_ hSw; (try dsimp only at hSw); go_simp; (try (with_reducible rfl))
         try simp only [Act.put, List.setIfInBounds_toArray, List.set_cons_zero, List.set_cons_succ]
         refine wpAnyH_done (by kernel_rfl) ?_ _
         have B5 := Aside0.mk hHeld.2.2.2.2.2
         have HO5 := Aside0.mk (Kd.R_below (Kd.R_below (Kd.R_below HO2.out (drew_below0 _)) b11) b17)
         clear hHeld HK s0 s1 s2 t0 t1 b11 b17 hT hTm hhas
         go_wp2
         go_roundg (y.f1.length - (n + 1))
         case measure => omega
         case rel => exact ⟨n + 1, q2, by omega, Nat.le_refl _, rfl, by go_num, Lib.hid ⟨fun h => ⟨n, Nat.lt_succ_self _, by rw [HCG.out]; exact HQ2.out.1 h⟩, fun ⟨j, hj, hl⟩ => by
          by_cases e : j = n
          ·subst e; rw [HCG.out] at hl; exact HQ2.out.2 hl
          ·exact absurd (HQ.out.2 ⟨j, by omega, hl⟩) (by simp)⟩, HO5, B5⟩
      ·go_wp2
       refine wp_region_held_drew (S := (fun W => Below w.heap.size w W)) (by kernel_rfl) ?s24 (fun hHeld => ?t24)
       case s24 => exact bel_then B2.out (drew_below0 _)
       refine tk 0 ?v25 ?y25 ?r25
       case y25 => intro w_ hSw; (try dsimp only at hSw); go_simp; (try (with_reducible rfl))
       try simp only [Act.put, List.setIfInBounds_toArray, List.set_cons_zero, List.set_cons_succ]
       refine tk 1 ?v26 ?y26 ?r26
       case y26 => intro w_ hSw; (try dsimp only at hSw); go_simp; (try (with_reducible rfl))
       try simp only [Act.put, List.setIfInBounds_toArray, List.set_cons_zero, List.set_cons_succ]
       refine tn 2 ?r27
       try simp only [Act.put, List.setIfInBounds_toArray, List.set_cons_zero, List.set_cons_succ]
       refine tn 3 ?r28
       try simp only [Act.put, List.setIfInBounds_toArray, List.set_cons_zero, List.set_cons_succ]
       refine tn 4 ?r29
       try simp only [Act.put, List.setIfInBounds_toArray, List.set_cons_zero, List.set_cons_succ]
       refine tn 5 ?r30
       try simp only [Act.put, List.setIfInBounds_toArray, List.set_cons_zero, List.set_cons_succ]
       refine tn 6 ?r31
       try simp only [Act.put, List.setIfInBounds_toArray, List.set_cons_zero, List.set_cons_succ]
       refine tn 7 ?r32
       try simp only [Act.put, List.setIfInBounds_toArray, List.set_cons_zero, List.set_cons_succ]
       refine tn 8 ?r33
       try simp only [Act.put, List.setIfInBounds_toArray, List.set_cons_zero, List.set_cons_succ]
       refine tn 9 ?r34
       try simp only [Act.put, List.setIfInBounds_toArray, List.set_cons_zero, List.set_cons_succ]
       refine tn 10 ?r35
       try simp only [Act.put, List.setIfInBounds_toArray, List.set_cons_zero, List.set_cons_succ]
       refine tn 11 ?r36
       try simp only [Act.put, List.setIfInBounds_toArray, List.set_cons_zero, List.set_cons_succ]
       refine tn 12 ?r37
       try simp only [Act.put, List.setIfInBounds_toArray, List.set_cons_zero, List.set_cons_succ]
       refine tn 13 ?r38
       try simp only [Act.put, List.setIfInBounds_toArray, List.set_cons_zero, List.set_cons_succ]
       refine tn 14 ?r39
       try simp only [Act.put, List.setIfInBounds_toArray, List.set_cons_zero, List.set_cons_succ]
       refine tn 15 ?r40
       try simp only [Act.put, List.setIfInBounds_toArray, List.set_cons_zero, List.set_cons_succ]
       refine tn 16 ?r41
       try simp only [Act.put, List.setIfInBounds_toArray, List.set_cons_zero, List.set_cons_succ]
       refine tn 17 ?r42
       try simp only [Act.put, List.setIfInBounds_toArray, List.set_cons_zero, List.set_cons_succ]
       refine tk 18 ?v43 ?y43 ?r43
       case y43 => intro w_ hSw; (try dsimp only at hSw); go_simp; (try (with_reducible rfl))
       try simp only [Act.put, List.setIfInBounds_toArray, List.set_cons_zero, List.set_cons_succ]
       refine tk 19 ?v44 ?y44 ?r44
       case y44 => intro w_ hSw; (try dsimp only at hSw); go_simp; (try (with_reducible rfl))
       try simp only [Act.put, List.setIfInBounds_toArray, List.set_cons_zero, List.set_cons_succ]
       refine wpAnyH_done (by kernel_rfl) ?_ _
       have B5 := Aside0.mk hHeld
       have HO5 := Aside0.mk (Kd.R_below HO2.out (drew_below0 _))
       clear hHeld s0 s1 s2 t0 t1
       go_wp2
       go_roundg (y.f1.length - (n + 1))
       case measure => omega
       case rel => exact ⟨n + 1, true, by omega, Nat.le_refl _, rfl, by go_num, Lib.hid ⟨fun _ => by
        obtain ⟨j, hj, hl⟩ := HQ.out.1 (by trivial)
        exact ⟨j, by omega, hl⟩, fun _ => rfl⟩, HO5, B5⟩
     ·have hln' : ¬ (n : Int) < (y.f1.length : Int) := by omega
      have HLD := Lib.hid (show q = true ↔ LeadL xs y.f1 y.f0 from ⟨fun h => by
       obtain ⟨j, hj, hl⟩ := HQ.out.1 h
       exact ⟨_, HYB.out j (by omega), hl⟩, fun ⟨b, hb, hl⟩ => by
       obtain ⟨j, hj, e⟩ := HYA.out b hb
       exact HQ.out.2 ⟨j, by omega, by rw [e]; exact hl⟩⟩)
      cases q
      ·go_wp2
       go_roundg (xs.length - (i + 1))
       case measure => have := HLT.out; omega
       case rel => exact ⟨i + 1, by have := HLT.out; omega, Nat.le_refl _, by go_num, ⟨by rw [HNX.out.2 (fun h => absurd (HLD.out.2 h) (by simp))]; exact HO2.out⟩, B2⟩
      ·have hso := specSort_any w.heap.size vB vd ys y.f0 wr HO2.out (by omega) B2.out.size
       go_wp2_with (first | (go_at_call 44; go_loud (refine Calls.mono hso ?_; rintro e w5 ⟨B5, d5, rfl, r5, b5⟩)))
       go_roundg (xs.length - (i + 1))
       case measure => have := HLT.out; omega
       case rel => exact ⟨i + 1, by have := HLT.out; omega, Nat.le_refl _, by go_num, ⟨by rw [HNX.out.1 (HLD.out.1 (by trivial))]; exact r5⟩, ⟨bel_then B2.out b5⟩⟩
   ·have hlt' : ¬ (i : Int) < (xs.length : Int) := by omega
    rw [show i = xs.length by omega, pickR_all] at HO
    obtain ⟨vB, vd, hv⟩ := Kd.R_slice HO.out
    subst hv
    go_wp2
    go_ret
    exact ⟨vB, vd, rfl, HO.out, BW.out⟩

end Go.Proofs.YticepbgacokbbaaDoor
