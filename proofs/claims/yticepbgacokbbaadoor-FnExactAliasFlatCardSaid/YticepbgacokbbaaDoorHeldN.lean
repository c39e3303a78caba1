/- The laws' looks at marked structs: contracts. -/
import Derived.Test.YticepbgacokbbaaDoorReg
import Derived.Test.YticepbgacokbbaaDoorMarkN
import Derived.Test.YticepbgacokbbaaDoorHeld
import Derived.Deep.RegionHeld3
namespace Go.Proofs.YticepbgacokbbaaDoor
open Go.RowKit Go.Proofs.YticepbgacokbbaaDoorW.PrintWords
set_option linter.unusedVariables false
set_option linter.unusedSimpArgs false
set_option maxRecDepth 100000 in
set_option maxHeartbeats 4000000 in
theorem heldAliasS_any (A : Option Addr) (c n : Nat) (xs : List SAlias) (a : Nat) (w : World) (hr : Kd.C kAlias w A n (mksAlias a xs)) (hn : n = xs.length) (hlen : n ≤ 1048576) (hx : ∀ x ∈ xs, x.f1.length ≤ 1048576) (ha : a ≤ 1152921504606846976) :
  Calls Tryd.prog 34 #[.slice A n c, .int .i64 (a : Int)] w fun e w' => e = .returned (.int .i64 ((a + offAlias xs n : Nat) : Int)) ∧ Below w.heap.size w w' := by
 have HN := Lib.hid hn
 have HX := Lib.hid hx
 have HR := Aside0.mk hr
 clear hn hx hr
 go_enter Tryd.func34, Tryd.ntmps34
 go_wp2
 go_loopg [1, 5] n (fun gq v1 v5 wr => ∃ (k b : Nat), k ≤ n ∧ n - k ≤ gq ∧ v1 = .int .i64 (b : Int) ∧ b ≤ a + 5242880 * k ∧ Aside0 (b = a + offAlias xs k) ∧ v5 = .int .i64 (k : Int) ∧ Aside0 (Below w.heap.size w wr))
 case atStart => exact ⟨0, a, Nat.zero_le _, by omega, rfl, by omega, ⟨by simp [offAlias]⟩, rfl, ⟨Below.refl _ _⟩⟩
 case round =>
  obtain ⟨k, b, hk, hg, rfl, hb, HB, rfl, BW⟩ := hrel
  by_cases hlt : k < n
  ·have hlt' : (k : Int) < (n : Int) := by omega
   have hst := offAlias_step xs k (by rw [← HN.out]; exact hlt)
   have hxk := HX.out (xs.getD k zAlias) (getD_mem xs _ (by rw [← HN.out]; exact hlt))
   obtain ⟨ad, Q0, q0, e1, p0, p1, p2, l0, k0⟩ := at_Alias (Kd.C_below HR.out BW.out) k hlt
   subst e1
   have hv : (mksAlias a xs).getD k zAlias = mkAlias b (xs.getD k zAlias) := by rw [HB.out]; simp [mksAlias, show k < xs.length from by rw [← HN.out]; exact hlt]
   rw [hv] at p0 p1 p2 l0 k0
   generalize xs.getD k zAlias = y at p0 p1 p2 l0 k0 hst hxk
   clear hv
   replace p0 : wr.cell? (ad.add (k * 3)) = some (.string (markS (b))) := p0
   replace p1 : wr.cell? ⟨(ad.add (k * 3)).block, (ad.add (k * 3)).off + 1, none⟩ = some (.string (markS (b + 1))) := p1
   have e0 : (mkAlias b y).f1.length = y.f1.length := mksAddr_length _ _
   replace p2 : wr.cell? ⟨(ad.add (k * 3)).block, (ad.add (k * 3)).off + 2, none⟩ = some (.slice Q0 y.f1.length q0) := by rw [p2, e0]
   have K0 := Aside0.mk (show Kd.C kAddr wr Q0 y.f1.length (mksAddr (b + 2) y.f1.length) from by rw [e0] at k0; exact k0)
   clear k0 e0 l0
   have hk0 : (0 : Int) ≤ (k : Int) := by omega
   have HS := Lib.hid hst
   clear hst
   have HK0 : Aside0 (∀ W W1, Below W.heap.size W W1 → (W.cell? (ad.add (k * 3)) = some (.string (markS (b))) ∧ W.cell? ⟨(ad.add (k * 3)).block, (ad.add (k * 3)).off + 1, none⟩ = some (.string (markS (b + 1))) ∧ W.cell? ⟨(ad.add (k * 3)).block, (ad.add (k * 3)).off + 2, none⟩ = some (.slice Q0 y.f1.length q0) ∧ Below wr.heap.size wr W) → (W1.cell? (ad.add (k * 3)) = some (.string (markS (b))) ∧ W1.cell? ⟨(ad.add (k * 3)).block, (ad.add (k * 3)).off + 1, none⟩ = some (.string (markS (b + 1))) ∧ W1.cell? ⟨(ad.add (k * 3)).block, (ad.add (k * 3)).off + 2, none⟩ = some (.slice Q0 y.f1.length q0) ∧ Below wr.heap.size wr W1)) := ⟨fun W W1 hb h => ⟨(hb.cell (World.block_lt_of_cell? W _ (h.1))).trans (h.1), (hb.cell (World.block_lt_of_cell? W _ (h.2.1))).trans (h.2.1), (hb.cell (World.block_lt_of_cell? W _ (h.2.2.1))).trans (h.2.2.1), bel_then (h.2.2.2) hb⟩⟩
   go_wp2
   refine wp_region_held_drew (S := (fun W => W.cell? (ad.add (k * 3)) = some (.string (markS (b))) ∧ W.cell? ⟨(ad.add (k * 3)).block, (ad.add (k * 3)).off + 1, none⟩ = some (.string (markS (b + 1))) ∧ W.cell? ⟨(ad.add (k * 3)).block, (ad.add (k * 3)).off + 2, none⟩ = some (.slice Q0 y.f1.length q0) ∧ Below wr.heap.size wr W)) (by kernel_rfl) ?s1 (fun hHeld => ?t1)
   case s1 => exact ⟨p0, p1, p2, bel_then (Below.refl wr.heap.size wr) (drew_below0 _)⟩
   refine tk 0 ?v2 ?y2 ?r2
   case y2 => intro w_ hSw; (try dsimp only at hSw); go_simp; (try (with_reducible rfl))
   try simp only [Act.put, List.setIfInBounds_toArray, List.set_cons_zero, List.set_cons_succ]
   refine tk 1 ?v3 ?y3 ?r3
   case y3 => intro w_ hSw; (try dsimp only at hSw); go_simp; (try (with_reducible rfl))
   try simp only [Act.put, List.setIfInBounds_toArray, List.set_cons_zero, List.set_cons_succ]
   refine tk 2 ?v4 ?y4 ?r4
   case y4 => intro w_ hSw; (try dsimp only at hSw); go_simp; (try (with_reducible rfl))
   try simp only [Act.put, List.setIfInBounds_toArray, List.set_cons_zero, List.set_cons_succ]
   refine tk 3 ?v5 ?y5 ?r5
   case y5 => intro w_ hSw; (try dsimp only at hSw); go_simp; (try (with_reducible rfl))
   try simp only [Act.put, List.setIfInBounds_toArray, List.set_cons_zero, List.set_cons_succ]
   refine tk 4 ?v6 ?y6 ?r6
   case y6 => intro w_ hSw; (try dsimp only at hSw); go_simp; (try (with_reducible rfl))
   try simp only [Act.put, List.setIfInBounds_toArray, List.set_cons_zero, List.set_cons_succ]
   refine tk 5 ?v7 ?y7 ?r7
   case y7 => intro w_ hSw; (try dsimp only at hSw); go_simp; (try (with_reducible rfl))
   try simp only [Act.put, List.setIfInBounds_toArray, List.set_cons_zero, List.set_cons_succ]
   refine tk 6 ?v8 ?y8 ?r8
   case y8 => intro w_ hSw; (try dsimp only at hSw); go_simp; (try (with_reducible rfl))
   try simp only [Act.put, List.setIfInBounds_toArray, List.set_cons_zero, List.set_cons_succ]
   refine rdy (rs := [7]) ?_
   refine rc (fun K hK => ?k9) AllReadyH.nil
   case' k9 => skip
   go_simp
   refine (markText_at (b) _ (by omega) (by omega) _).mono ?_
   rintro e w0 ⟨rfl, b0⟩
   refine hK.out _ _ ?h9 (fun hHeld => ?j9)
   case h9 => exact HK0.out _ _ b0 hHeld
   clear hK K
   try simp only [Act.put, List.setIfInBounds_toArray, List.set_cons_zero, List.set_cons_succ]
   refine tk 8 ?v10 ?y10 ?r10
   case y10 => intro w_ hSw; (try dsimp only at hSw); go_simp; (try (with_reducible rfl))
   try simp only [Act.put, List.setIfInBounds_toArray, List.set_cons_zero, List.set_cons_succ]
   refine wpAnyH_done (by kernel_rfl) ?_ _
   obtain ⟨r0_0, r0_1, r0_2, BH0⟩ := hHeld
   clear HK0 b0
   have HK1 : Aside0 (∀ W W1, Below W.heap.size W W1 → (W.cell? ⟨(ad.add (k * 3)).block, (ad.add (k * 3)).off + 1, none⟩ = some (.string (markS (b + 1))) ∧ W.cell? ⟨(ad.add (k * 3)).block, (ad.add (k * 3)).off + 2, none⟩ = some (.slice Q0 y.f1.length q0) ∧ Below wr.heap.size wr W) → (W1.cell? ⟨(ad.add (k * 3)).block, (ad.add (k * 3)).off + 1, none⟩ = some (.string (markS (b + 1))) ∧ W1.cell? ⟨(ad.add (k * 3)).block, (ad.add (k * 3)).off + 2, none⟩ = some (.slice Q0 y.f1.length q0) ∧ Below wr.heap.size wr W1)) := ⟨fun W W1 hb h => ⟨(hb.cell (World.block_lt_of_cell? W _ (h.1))).trans (h.1), (hb.cell (World.block_lt_of_cell? W _ (h.2.1))).trans (h.2.1), bel_then (h.2.2) hb⟩⟩
   go_wp2
   refine wp_region_held_drew (S := (fun W => W.cell? ⟨(ad.add (k * 3)).block, (ad.add (k * 3)).off + 1, none⟩ = some (.string (markS (b + 1))) ∧ W.cell? ⟨(ad.add (k * 3)).block, (ad.add (k * 3)).off + 2, none⟩ = some (.slice Q0 y.f1.length q0) ∧ Below wr.heap.size wr W)) (by kernel_rfl) ?s11 (fun hHeld => ?t11)
   case s11 => exact ⟨r0_1, r0_2, bel_then BH0 (drew_below0 _)⟩
   refine tk 0 ?v12 ?y12 ?r12
   case y12 => intro w_ hSw; (try dsimp only at hSw); go_simp; (try (with_reducible rfl))
   try simp only [Act.put, List.setIfInBounds_toArray, List.set_cons_zero, List.set_cons_succ]
   refine tk 1 ?v13 ?y13 ?r13
   case y13 => intro w_ hSw; (try dsimp only at hSw); go_simp; (try (with_reducible rfl))
   try simp only [Act.put, List.setIfInBounds_toArray, List.set_cons_zero, List.set_cons_succ]
   refine tk 2 ?v14 ?y14 ?r14
   case y14 => intro w_ hSw; (try dsimp only at hSw); go_simp; (try (with_reducible rfl))
   try simp only [Act.put, List.setIfInBounds_toArray, List.set_cons_zero, List.set_cons_succ]
   refine tk 3 ?v15 ?y15 ?r15
   case y15 => intro w_ hSw; (try dsimp only at hSw); go_simp; (try (with_reducible rfl))
   try simp only [Act.put, List.setIfInBounds_toArray, List.set_cons_zero, List.set_cons_succ]
   refine tk 4 ?v16 ?y16 ?r16
   case y16 => intro w_ hSw; (try dsimp only at hSw); go_simp; (try (with_reducible rfl))
   try simp only [Act.put, List.setIfInBounds_toArray, List.set_cons_zero, List.set_cons_succ]
   refine tk 5 ?v17 ?y17 ?r17
   case y17 => intro w_ hSw; (try dsimp only at hSw); go_simp; (try (with_reducible rfl))
   try simp only [Act.put, List.setIfInBounds_toArray, List.set_cons_zero, List.set_cons_succ]
   refine tk 6 ?v18 ?y18 ?r18
   case y18 => intro w_ hSw; (try dsimp only at hSw); go_simp; (try (with_reducible rfl))
   try simp only [Act.put, List.setIfInBounds_toArray, List.set_cons_zero, List.set_cons_succ]
   refine rdy (rs := [7]) ?_
   refine rc (fun K hK => ?k19) AllReadyH.nil
   case' k19 => skip
   go_simp
   refine (markText_at (b + 1) _ (by omega) (by omega) _).mono ?_
   rintro e w1 ⟨rfl, b1⟩
   refine hK.out _ _ ?h19 (fun hHeld => ?j19)
   case h19 => exact HK1.out _ _ b1 hHeld
   clear hK K
   try simp only [Act.put, List.setIfInBounds_toArray, List.set_cons_zero, List.set_cons_succ]
   refine tk 8 ?v20 ?y20 ?r20
   case y20 => intro w_ hSw; (try dsimp only at hSw); go_simp; (try (with_reducible rfl))
   try simp only [Act.put, List.setIfInBounds_toArray, List.set_cons_zero, List.set_cons_succ]
   refine wpAnyH_done (by kernel_rfl) ?_ _
   obtain ⟨r1_1, r1_2, BH1⟩ := hHeld
   clear HK1 b1
   go_wp2_with fail
   refine (calls_at (a := b + 2) (by omega) (heldAddrS_any Q0 q0 y.f1.length (b + 2) _ (Kd.C_below K0.out BH1) (by omega) (by omega))).mono ?_
   rintro e w2 ⟨rfl, b2⟩
   have BH2 := bel_then BH1 b2
   clear b2
   have hn2 : ¬ ((b + 2 + 2 * y.f1.length : Nat) : Int) < 0 := by omega
   go_wp2
   go_roundg (n - (k + 1))
   case measure => omega
   case rel => exact ⟨k + 1, b + cntAlias y, by omega, Nat.le_refl _, by unfold cntAlias; first | rfl | (congr 1; done) | (congr 1; omega) | (congr 2; omega), by unfold cntAlias; omega, ⟨by rw [HS.out, HB.out]; omega⟩, by go_num, ⟨bel_then BW.out BH2⟩⟩
  ·have hlt' : ¬ (k : Int) < (n : Int) := by omega
   have hkn : k = n := by omega
   have hbb := HB.out
   rw [hkn] at hbb
   have HBB := Lib.hid hbb
   clear hbb HB
   go_wp2
   go_ret
   exact ⟨reti (by have := HBB.out; omega), BW.out⟩

end Go.Proofs.YticepbgacokbbaaDoor
