/- The laws' looks at aliases: the same twice; whether an address stands in a list: contracts. -/
import Derived.Test.YticepbgacokbbaaDoorReg
import Derived.Test.YticepbgacokbbaaDoorAlSpec
import Derived.Test.YticepbgacokbbaaDoorSaB
import Derived.Deep.RegionHeld3
namespace Go.Proofs.YticepbgacokbbaaDoor
open Go.RowKit Go.Proofs.YticepbgacokbbaaDoorW.PrintWords
set_option linter.unusedVariables false
set_option linter.unusedSimpArgs false

attribute [local go_sem high] eqA30

set_option maxRecDepth 100000 in
set_option maxHeartbeats 2000000 in
theorem saAliases_any (A : Option Addr) (c : Nat) (B : Option Addr) (d : Nat) (xs : List SAlias) (w : World) (hwl : xs.length ≤ 1048576) (hx : ∀ x ∈ xs, x.f1.length ≤ 1048576) (hr : Kd.C kAlias w A xs.length xs) (gr : Kd.C kAlias w B xs.length xs) :
  Calls Tryd.prog 23 #[.slice A xs.length c, .slice B xs.length d] w fun e w' => e = .returned (.bool true) ∧ Below w.heap.size w w' := by
 have HX := Lib.hid hx
 have HR := Aside0.mk hr
 have GR := Aside0.mk gr
 clear hx hr gr
 go_enter Tryd.func23, Tryd.ntmps23
 go_wp2
 go_loopg [5] (xs.length) (fun g v wr => ∃ k : Nat, k ≤ xs.length ∧ xs.length - k ≤ g ∧ v = .int .i64 k ∧ Aside0 (Below w.heap.size w wr))
 case atStart => exact ⟨0, Nat.zero_le _, by omega, rfl, ⟨Below.refl _ _⟩⟩
 case round =>
  obtain ⟨k, hk, hg, rfl, BW⟩ := hrel
  by_cases hlt : k < xs.length
  ·have hlt' : (k : Int) < (xs.length : Int) := by omega
   obtain ⟨ad, Q0, qc0, e1, p0, p1, p2, l0, k0⟩ := at_Alias HR.out k hlt
   obtain ⟨ae, Q1, qc1, e2, t0, t1, t2, l1, k1⟩ := at_Alias GR.out k hlt
   subst e1
   subst e2
   have hyl := HX.out _ (getD_mem xs zAlias hlt)
   generalize xs.getD k zAlias = y at p0 p1 p2 l0 k0 t0 t1 t2 l1 k1 hyl
   have HYL := Lib.hid hyl
   have K0 := Aside0.mk k0
   have K1 := Aside0.mk k1
   have s0 := (BW.out.cell (World.block_lt_of_cell? _ _ p0)).trans p0
   have s1 := (BW.out.cell (World.block_lt_of_cell? _ _ p1)).trans p1
   have s2 := (BW.out.cell (World.block_lt_of_cell? _ _ p2)).trans p2
   have r0 := (BW.out.cell (World.block_lt_of_cell? _ _ t0)).trans t0
   have r1 := (BW.out.cell (World.block_lt_of_cell? _ _ t1)).trans t1
   have r2 := (BW.out.cell (World.block_lt_of_cell? _ _ t2)).trans t2
   have he0 : (y.f0.f0.toList == y.f0.f0.toList) = true := beq_self_eq_true _
   have he1 : (y.f0.f1.toList == y.f0.f1.toList) = true := beq_self_eq_true _
   have HK : Aside0 (∀ W W1, Below W.heap.size W W1 → (W.cell? (ad.add (k * 3)) = some (.string y.f0.f0) ∧ W.cell? ⟨(ad.add (k * 3)).block, (ad.add (k * 3)).off + 1, none⟩ = some (.string y.f0.f1) ∧ W.cell? ⟨(ad.add (k * 3)).block, (ad.add (k * 3)).off + 2, none⟩ = some (.slice Q0 y.f1.length qc0) ∧ W.cell? (ae.add (k * 3)) = some (.string y.f0.f0) ∧ W.cell? ⟨(ae.add (k * 3)).block, (ae.add (k * 3)).off + 1, none⟩ = some (.string y.f0.f1) ∧ W.cell? ⟨(ae.add (k * 3)).block, (ae.add (k * 3)).off + 2, none⟩ = some (.slice Q1 y.f1.length qc1) ∧ Below w.heap.size w W) → (W1.cell? (ad.add (k * 3)) = some (.string y.f0.f0) ∧ W1.cell? ⟨(ad.add (k * 3)).block, (ad.add (k * 3)).off + 1, none⟩ = some (.string y.f0.f1) ∧ W1.cell? ⟨(ad.add (k * 3)).block, (ad.add (k * 3)).off + 2, none⟩ = some (.slice Q0 y.f1.length qc0) ∧ W1.cell? (ae.add (k * 3)) = some (.string y.f0.f0) ∧ W1.cell? ⟨(ae.add (k * 3)).block, (ae.add (k * 3)).off + 1, none⟩ = some (.string y.f0.f1) ∧ W1.cell? ⟨(ae.add (k * 3)).block, (ae.add (k * 3)).off + 2, none⟩ = some (.slice Q1 y.f1.length qc1) ∧ Below w.heap.size w W1)) := ⟨fun W W1 hb h => ⟨(hb.cell (World.block_lt_of_cell? W _ (h.1))).trans (h.1), (hb.cell (World.block_lt_of_cell? W _ (h.2.1))).trans (h.2.1), (hb.cell (World.block_lt_of_cell? W _ (h.2.2.1))).trans (h.2.2.1), (hb.cell (World.block_lt_of_cell? W _ (h.2.2.2.1))).trans (h.2.2.2.1), (hb.cell (World.block_lt_of_cell? W _ (h.2.2.2.2.1))).trans (h.2.2.2.2.1), (hb.cell (World.block_lt_of_cell? W _ (h.2.2.2.2.2.1))).trans (h.2.2.2.2.2.1), bel_then (h.2.2.2.2.2.2) hb⟩⟩
   clear p0 p1 p2 l0 k0 t0 t1 t2 l1 k1 hyl
   go_wp2
   refine wp_region_held_drew (S := (fun W => W.cell? (ad.add (k * 3)) = some (.string y.f0.f0) ∧ W.cell? ⟨(ad.add (k * 3)).block, (ad.add (k * 3)).off + 1, none⟩ = some (.string y.f0.f1) ∧ W.cell? ⟨(ad.add (k * 3)).block, (ad.add (k * 3)).off + 2, none⟩ = some (.slice Q0 y.f1.length qc0) ∧ W.cell? (ae.add (k * 3)) = some (.string y.f0.f0) ∧ W.cell? ⟨(ae.add (k * 3)).block, (ae.add (k * 3)).off + 1, none⟩ = some (.string y.f0.f1) ∧ W.cell? ⟨(ae.add (k * 3)).block, (ae.add (k * 3)).off + 2, none⟩ = some (.slice Q1 y.f1.length qc1) ∧ Below w.heap.size w W)) (by kernel_rfl) ?s1 (fun hHeld => ?t1)
   case s1 => exact ⟨s0, s1, s2, r0, r1, r2, bel_then BW.out (drew_below0 _)⟩
   generalize World.drew _ = V0 at hHeld ⊢
   refine tk 0 ?v2 ?y2 ?r2
   case y2 => intro w_ hSw; (try dsimp only at hSw); go_simp; (try (with_reducible rfl))
   try simp only [Act.put, List.setIfInBounds_toArray, List.set_cons_zero, List.set_cons_succ]
   refine tk 1 ?v3 ?y3 ?r3
   case y3 => intro w_ hSw; (try dsimp only at hSw); go_simp; (try (with_reducible rfl))
   try simp only [Act.put, List.setIfInBounds_toArray, List.set_cons_zero, List.set_cons_succ]
   refine tk 2 ?v4 ?y4 ?r4
   case y4 => intro w_ hSw; (try dsimp only at hSw); go_simp; (try (with_reducible rfl))
   try simp only [Act.put, List.setIfInBounds_toArray, List.set_cons_zero, List.set_cons_succ]
   refine tk 3 ?v5 ?y5 ?r5
   case y5 => intro w_ hSw; (try dsimp only at hSw); go_simp; (try (with_reducible rfl))
   try simp only [Act.put, List.setIfInBounds_toArray, List.set_cons_zero, List.set_cons_succ]
   refine tk 4 ?v6 ?y6 ?r6
   case y6 => intro w_ hSw; (try dsimp only at hSw); go_simp; (try (with_reducible rfl))
   try simp only [Act.put, List.setIfInBounds_toArray, List.set_cons_zero, List.set_cons_succ]
   refine tk 5 ?v7 ?y7 ?r7
   case y7 => intro w_ hSw; (try dsimp only at hSw); go_simp; (try (with_reducible rfl))
   try simp only [Act.put, List.setIfInBounds_toArray, List.set_cons_zero, List.set_cons_succ]
   refine tk 6 ?v8 ?y8 ?r8
   case y8 => intro w_ hSw; (try dsimp only at hSw); go_simp; (try (with_reducible rfl))
   try simp only [Act.put, List.setIfInBounds_toArray, List.set_cons_zero, List.set_cons_succ]
   refine tk 7 ?v9 ?y9 ?r9
   case y9 => intro w_ hSw; (try dsimp only at hSw); go_simp; (try (with_reducible rfl))
   try simp only [Act.put, List.setIfInBounds_toArray, List.set_cons_zero, List.set_cons_succ]
   refine tk 8 ?v10 ?y10 ?r10
   case y10 => intro w_ hSw; (try dsimp only at hSw); go_simp; (try (with_reducible rfl))
   try simp only [Act.put, List.setIfInBounds_toArray, List.set_cons_zero, List.set_cons_succ]
   refine tk 9 ?v11 ?y11 ?r11
   case y11 => intro w_ hSw; (try dsimp only at hSw); go_simp; (try (with_reducible rfl))
   try simp only [Act.put, List.setIfInBounds_toArray, List.set_cons_zero, List.set_cons_succ]
   refine tk 10 ?v12 ?y12 ?r12
   case y12 => intro w_ hSw; (try dsimp only at hSw); go_simp; (try (with_reducible rfl))
   try simp only [Act.put, List.setIfInBounds_toArray, List.set_cons_zero, List.set_cons_succ]
   refine tk 11 ?v13 ?y13 ?r13
   case y13 => intro w_ hSw; (try dsimp only at hSw); go_simp; (try (with_reducible rfl))
   try simp only [Act.put, List.setIfInBounds_toArray, List.set_cons_zero, List.set_cons_succ]
   refine tk 12 ?v14 ?y14 ?r14
   case y14 => intro w_ hSw; (try dsimp only at hSw); go_simp; (try (with_reducible rfl))
   try simp only [Act.put, List.setIfInBounds_toArray, List.set_cons_zero, List.set_cons_succ]
   refine tk 13 ?v15 ?y15 ?r15
   case y15 => intro w_ hSw; (try dsimp only at hSw); go_simp; (try (with_reducible rfl))
   try simp only [Act.put, List.setIfInBounds_toArray, List.set_cons_zero, List.set_cons_succ]
   refine tk 14 ?v16 ?y16 ?r16
   case y16 => intro w_ hSw; (try dsimp only at hSw); go_simp; (try (with_reducible rfl))
   try simp only [Act.put, List.setIfInBounds_toArray, List.set_cons_zero, List.set_cons_succ]
   refine tk 15 ?v17 ?y17 ?r17
   case y17 => intro w_ hSw; (try dsimp only at hSw); go_simp; (try (with_reducible rfl))
   try simp only [Act.put, List.setIfInBounds_toArray, List.set_cons_zero, List.set_cons_succ]
   refine tk 16 ?v18 ?y18 ?r18
   case y18 => intro w_ hSw; (try dsimp only at hSw); go_simp; (try (with_reducible rfl))
   try simp only [Act.put, List.setIfInBounds_toArray, List.set_cons_zero, List.set_cons_succ]
   refine tk 17 ?v19 ?y19 ?r19
   case y19 => intro w_ hSw; (try dsimp only at hSw); go_simp; (try (with_reducible rfl))
   try simp only [Act.put, List.setIfInBounds_toArray, List.set_cons_zero, List.set_cons_succ]
   refine tk 18 ?v20 ?y20 ?r20
   case y20 => intro w_ hSw; (try dsimp only at hSw); go_simp; (try (with_reducible rfl))
   try simp only [Act.put, List.setIfInBounds_toArray, List.set_cons_zero, List.set_cons_succ]
   refine tk 19 ?v21 ?y21 ?r21
   case y21 => intro w_ hSw; (try dsimp only at hSw); go_simp; (try (with_reducible rfl))
   try simp only [Act.put, List.setIfInBounds_toArray, List.set_cons_zero, List.set_cons_succ]
   refine tk 20 ?v22 ?y22 ?r22
   case y22 => intro w_ hSw; (try dsimp only at hSw); go_simp; (try (with_reducible rfl))
   try simp only [Act.put, List.setIfInBounds_toArray, List.set_cons_zero, List.set_cons_succ]
   refine tk 21 ?v23 ?y23 ?r23
   case y23 => intro w_ hSw; (try dsimp only at hSw); go_simp; (try (with_reducible rfl))
   try simp only [Act.put, List.setIfInBounds_toArray, List.set_cons_zero, List.set_cons_succ]
   refine rdy (rs := [22]) ?_
   refine rc (fun K hK => ?k24) AllReadyH.nil
   case k24 =>
    go_simp
    refine Calls.mono (saAddrs_any Q0 qc0 Q1 qc1 y.f1 V0 HYL.out (Kd.C_below K0.out hHeld.2.2.2.2.2.2) (Kd.C_below K1.out hHeld.2.2.2.2.2.2)) ?_
    rintro e V22 ⟨rfl, b22⟩
    refine hK.out _ _ ?h25 (fun hHeld => ?j25)
    case h25 => exact HK.out _ _ b22 hHeld
    clear hK K
    try simp only [Act.put, List.setIfInBounds_toArray, List.set_cons_zero, List.set_cons_succ]
    refine tk 23 ?v26 ?y26 ?r26
    case y26 => intro w_ hSw; (try dsimp only at hSw); go_simp; (try (with_reducible rfl))
    try simp only [Act.put, List.setIfInBounds_toArray, List.set_cons_zero, List.set_cons_succ]
    refine tk 24 ?v27 ?y27 ?r27
    case y27 => intro w_ hSw; (try dsimp only at hSw); go_simp; (try (with_reducible rfl))
    try simp only [Act.put, List.setIfInBounds_toArray, List.set_cons_zero, List.set_cons_succ]
    refine wpAnyH_done (by kernel_rfl) ?_ _
    have BN := hHeld.2.2.2.2.2.2
    clear hHeld HK s0 s1 s2 r0 r1 r2
    go_wp2
    go_roundg (xs.length - (k + 1))
    case measure => omega
    case rel => exact ⟨k + 1, by omega, Nat.le_refl _, by go_num, ⟨BN⟩⟩
  ·have hlt' : ¬ (k : Int) < (xs.length : Int) := by omega
   go_wp2
   go_ret
   exact ⟨rfl, BW.out⟩

set_option maxRecDepth 100000 in
set_option maxHeartbeats 2000000 in
theorem saStands_any (A : Option Addr) (c : Nat) (xs : List SAlias) (a : SAddr) (w : World) (hr : Kd.C kAlias w A xs.length xs) (hlen : xs.length ≤ 1048576) :
  Calls Tryd.prog 18 #[.slice A xs.length c, .agg #[.string a.f0, .string a.f1]] w fun e w' => e = .returned (.bool (isAl xs a)) ∧ Below w.heap.size w w' := by
 go_enter Tryd.func18, Tryd.ntmps18
 go_wp2_with fail
 obtain ⟨W0, hW0⟩ : ∃ W, W = w.alloc (.cells #[.string a.f0, .string a.f1] 30) := ⟨_, rfl⟩
 rw [← hW0]
 have F0 : Aside0 (W0.heap[w.heap.size]? = some (.cells #[.string a.f0, .string a.f1] 30 (0, 0))) := ⟨by rw [hW0]; exact blk_at _ _ rfl⟩
 have B0 : Aside0 (Below w.heap.size w W0) := ⟨by rw [hW0]; exact bel_alloc (Below.refl _ _) _⟩
 clear hW0
 go_wp2
 go_loopg [5] (xs.length) (fun g v5 wr => ∃ k : Nat, k ≤ xs.length ∧ xs.length - k ≤ g ∧ v5 = .int .i64 (k : Int) ∧ Aside0 (Below W0.heap.size W0 wr) ∧ Hid (∀ j, j < k → (xs.getD j zAlias).f0 ≠ a))
 case atStart => exact ⟨0, Nat.zero_le _, by omega, rfl, ⟨Below.refl _ _⟩, Lib.hid (fun j hj => absurd hj (Nat.not_lt_zero _))⟩
 case round =>
  obtain ⟨k, hk, hg, rfl, BW, H⟩ := hrel
  have hz := BW.out.size
  by_cases hlt : k < xs.length
  ·have hlt' : (k : Int) < (xs.length : Int) := by omega
   obtain ⟨ad, _, _, e1, p0, p1, _, _, _⟩ := at_Alias (Kd.C_below hr (bel_then B0.out BW.out)) k hlt
   subst e1
   have hF := below_blk F0.out BW.out
   have c0 : wr.cell? ⟨w.heap.size, 0, none⟩ = some (.string a.f0) := by simp [World.cell?, hF]
   have c1 : wr.cell? ⟨w.heap.size, 1, none⟩ = some (.string a.f1) := by simp [World.cell?, hF]
   have zl := blk_lt hF
   have heq := addr_eq (xs.getD k zAlias).f0 a
   by_cases hq : (xs.getD k zAlias).f0 = a
   ·have HA := Lib.hid (show isAl xs a = true from isAl_iff.2 ⟨_, getD_mem xs zAlias hlt, hq⟩)
    rw [decide_eq_true hq] at heq
    generalize (xs.getD k zAlias).f0 = y at p0 p1 heq hq
    clear hq hr hF
    go_wp2
    repeat (go_quiet (fail); try go_wp2)
    go_ret
    exact ⟨by rw [HA.out]; rfl, bel_then B0.out (blw_drewN BW.out _)⟩
   ·have HN := Lib.hid hq
    rw [decide_eq_false hq] at heq
    generalize (xs.getD k zAlias).f0 = y at p0 p1 heq
    clear hq hr hF
    go_wp2
    repeat (go_quiet (fail); try go_wp2)
    go_roundg (xs.length - (k + 1))
    case measure => omega
    case rel => exact ⟨k + 1, by omega, Nat.le_refl _, by go_num, ⟨blw_drewN BW.out _⟩, Lib.hid (fun j hj => by
     by_cases e : j = k
     ·subst e; exact HN.out
     ·exact H.out j (by omega))⟩
  ·have hlt' : ¬ (k : Int) < (xs.length : Int) := by omega
   have HA := Lib.hid (show isAl xs a = false from isAl_none (fun j hj => H.out j (by omega)))
   go_wp2
   go_ret
   exact ⟨by rw [HA.out]; rfl, bel_then B0.out BW.out⟩

end Go.Proofs.YticepbgacokbbaaDoor
