/- The laws' looks at marked rows: contracts. -/
import Derived.Test.YticepbgacokbbaaGreatDoorReg
import Derived.Test.YticepbgacokbbaaGreatDoorMark
import Derived.Deep.RegionHeld3
namespace Go.Proofs.YticepbgacokbbaaGreatDoor
open Go.RowKit Go.Proofs.YticepbgacokbbaaGreatDoorW.PrintWords
set_option linter.unusedVariables false
set_option linter.unusedSimpArgs false

set_option maxRecDepth 100000 in
set_option maxHeartbeats 4000000 in
theorem heldStringS_any (A : Option Addr) (c n : Nat) (a : Nat) (w : World) (hr : Kd.C Kd.string w A n (mksString a n)) (hlen : n ≤ 1048576) (ha : a ≤ 2305843009213693952) :
  Calls Tryz.prog 59 #[.slice A n c, .int .i64 (a : Int)] w fun e w' => e = .returned (.int .i64 ((a + 1 * n : Nat) : Int)) ∧ Below w.heap.size w w' := by
 go_enter Tryz.func59, Tryz.ntmps59
 go_wp2
 go_loopg [1, 5] n (fun gq v1 v5 wr => ∃ (k b : Nat), k ≤ n ∧ n - k ≤ gq ∧ v1 = .int .i64 (b : Int) ∧ b ≤ a + 1 * k ∧ Aside0 (b = a + 1 * k) ∧ v5 = .int .i64 (k : Int) ∧ Aside0 (Below w.heap.size w wr))
 case atStart => exact ⟨0, a, Nat.zero_le _, by omega, rfl, by omega, ⟨by omega⟩, rfl, ⟨Below.refl _ _⟩⟩
 case round =>
  obtain ⟨k, b, hk, hg, rfl, hb, HB, rfl, BW⟩ := hrel
  by_cases hlt : k < n
  ·have hlt' : (k : Int) < (n : Int) := by omega
   obtain ⟨ad, e1, p0⟩ := at_Str (Kd.C_below hr BW.out) k hlt
   subst e1
   have hv : (mksString a n).getD k (⟨#[]⟩ : ByteArray) = mkString b := by rw [HB.out]; simp [mksString, hlt]
   rw [hv] at p0
   clear hv hr
   replace p0 : wr.cell? (ad.add k) = some (.string (markS (b + 0))) := p0
   have hk0 : (0 : Int) ≤ (k : Int) := by omega
   have HK0 : Aside0 (∀ W W1, Below W.heap.size W W1 → (W.cell? (ad.add k) = some (.string (markS (b + 0))) ∧ Below wr.heap.size wr W) → (W1.cell? (ad.add k) = some (.string (markS (b + 0))) ∧ Below wr.heap.size wr W1)) := ⟨fun W W1 hb h => ⟨(hb.cell (World.block_lt_of_cell? W _ (h.1))).trans (h.1), bel_then (h.2) hb⟩⟩
   go_wp2
   refine wp_region_held_drew (S := (fun W => W.cell? (ad.add k) = some (.string (markS (b + 0))) ∧ Below wr.heap.size wr W)) (by kernel_rfl) ?s1 (fun hHeld => ?t1)
   case s1 => exact ⟨p0, bel_then (Below.refl wr.heap.size wr) (drew_below0 _)⟩
   refine tk 0 ?v2 ?y2 ?r2
   case y2 => intro w_ hSw; (try dsimp only at hSw); go_simp; (try (with_reducible rfl))
   try simp only [Act.put, List.setIfInBounds_toArray, List.set_cons_zero, List.set_cons_succ]
   refine tk 1 ?v3 ?y3 ?r3
   case y3 => intro w_ hSw; (try dsimp only at hSw); go_simp; (try (with_reducible rfl))
   try simp only [Act.put, List.setIfInBounds_toArray, List.set_cons_zero, List.set_cons_succ]
   refine tk 2 ?v4 ?y4 ?r4
   case y4 => intro w_ hSw; (try dsimp only at hSw); go_simp; (try (with_reducible rfl))
   try simp only [Act.put, List.setIfInBounds_toArray, List.set_cons_zero, List.set_cons_succ]
   refine tk 3 ?v5 ?y5 ?r5
   case y5 => intro w_ hSw; (try dsimp only at hSw); go_simp; (try (with_reducible rfl))
   try simp only [Act.put, List.setIfInBounds_toArray, List.set_cons_zero, List.set_cons_succ]
   refine tk 4 ?v6 ?y6 ?r6
   case y6 => intro w_ hSw; (try dsimp only at hSw); go_simp; (try (with_reducible rfl))
   try simp only [Act.put, List.setIfInBounds_toArray, List.set_cons_zero, List.set_cons_succ]
   refine rdy (rs := [5]) ?_
   refine rc (fun K hK => ?k7) AllReadyH.nil
   case' k7 => skip
   go_simp
   refine (markText_at (b + 0) _ (by omega) (by omega) _).mono ?_
   rintro e w0 ⟨rfl, b0⟩
   refine hK.out _ _ ?h7 (fun hHeld => ?j7)
   case h7 => exact HK0.out _ _ b0 hHeld
   clear hK K
   try simp only [Act.put, List.setIfInBounds_toArray, List.set_cons_zero, List.set_cons_succ]
   refine tk 6 ?v8 ?y8 ?r8
   case y8 => intro w_ hSw; (try dsimp only at hSw); go_simp; (try (with_reducible rfl))
   try simp only [Act.put, List.setIfInBounds_toArray, List.set_cons_zero, List.set_cons_succ]
   refine wpAnyH_done (by kernel_rfl) ?_ _
   obtain ⟨r0_0, BH0⟩ := hHeld
   clear HK0 b0
   go_wp2
   go_roundg (n - (k + 1))
   case measure => omega
   case rel => exact ⟨k + 1, b + 1, by omega, Nat.le_refl _, by first | rfl | (congr 1; done) | (congr 1; omega) | (congr 2; omega), by omega, ⟨by have := HB.out; omega⟩, by go_num, ⟨bel_then BW.out BH0⟩⟩
  ·have hlt' : ¬ (k : Int) < (n : Int) := by omega
   have hkn : k = n := by omega
   have hbb := HB.out
   rw [hkn] at hbb
   have HBB := Lib.hid hbb
   clear hbb HB
   go_wp2
   go_ret
   exact ⟨reti (by have := HBB.out; omega), BW.out⟩
set_option maxRecDepth 100000 in
set_option maxHeartbeats 4000000 in
theorem heldAddrS_any (A : Option Addr) (c n : Nat) (a : Nat) (w : World) (hr : Kd.C kAddr w A n (mksAddr a n)) (hlen : n ≤ 1048576) (ha : a ≤ 2305843009213693952) :
  Calls Tryz.prog 58 #[.slice A n c, .int .i64 (a : Int)] w fun e w' => e = .returned (.int .i64 ((a + 2 * n : Nat) : Int)) ∧ Below w.heap.size w w' := by
 go_enter Tryz.func58, Tryz.ntmps58
 go_wp2
 go_loopg [1, 5] n (fun gq v1 v5 wr => ∃ (k b : Nat), k ≤ n ∧ n - k ≤ gq ∧ v1 = .int .i64 (b : Int) ∧ b ≤ a + 2 * k ∧ Aside0 (b = a + 2 * k) ∧ v5 = .int .i64 (k : Int) ∧ Aside0 (Below w.heap.size w wr))
 case atStart => exact ⟨0, a, Nat.zero_le _, by omega, rfl, by omega, ⟨by omega⟩, rfl, ⟨Below.refl _ _⟩⟩
 case round =>
  obtain ⟨k, b, hk, hg, rfl, hb, HB, rfl, BW⟩ := hrel
  by_cases hlt : k < n
  ·have hlt' : (k : Int) < (n : Int) := by omega
   obtain ⟨ad, e1, p0, p1⟩ := at_Addr (Kd.C_below hr BW.out) k hlt
   subst e1
   have hv : (mksAddr a n).getD k zAddr = mkAddr b := by rw [HB.out]; simp [mksAddr, hlt]
   rw [hv] at p0 p1
   clear hv hr
   replace p0 : wr.cell? (ad.add (k * 2)) = some (.string (markS (b + 0))) := p0
   replace p1 : wr.cell? ⟨(ad.add (k * 2)).block, (ad.add (k * 2)).off + 1, none⟩ = some (.string (markS (b + 1))) := p1
   have hk0 : (0 : Int) ≤ (k : Int) := by omega
   have HK0 : Aside0 (∀ W W1, Below W.heap.size W W1 → (W.cell? (ad.add (k * 2)) = some (.string (markS (b + 0))) ∧ W.cell? ⟨(ad.add (k * 2)).block, (ad.add (k * 2)).off + 1, none⟩ = some (.string (markS (b + 1))) ∧ Below wr.heap.size wr W) → (W1.cell? (ad.add (k * 2)) = some (.string (markS (b + 0))) ∧ W1.cell? ⟨(ad.add (k * 2)).block, (ad.add (k * 2)).off + 1, none⟩ = some (.string (markS (b + 1))) ∧ Below wr.heap.size wr W1)) := ⟨fun W W1 hb h => ⟨(hb.cell (World.block_lt_of_cell? W _ (h.1))).trans (h.1), (hb.cell (World.block_lt_of_cell? W _ (h.2.1))).trans (h.2.1), bel_then (h.2.2) hb⟩⟩
   go_wp2
   refine wp_region_held_drew (S := (fun W => W.cell? (ad.add (k * 2)) = some (.string (markS (b + 0))) ∧ W.cell? ⟨(ad.add (k * 2)).block, (ad.add (k * 2)).off + 1, none⟩ = some (.string (markS (b + 1))) ∧ Below wr.heap.size wr W)) (by kernel_rfl) ?s9 (fun hHeld => ?t9)
   case s9 => exact ⟨p0, p1, bel_then (Below.refl wr.heap.size wr) (drew_below0 _)⟩
   refine tk 0 ?v10 ?y10 ?r10
   case y10 => intro w_ hSw; (try dsimp only at hSw); go_simp; (try (with_reducible rfl))
   try simp only [Act.put, List.setIfInBounds_toArray, List.set_cons_zero, List.set_cons_succ]
   refine tk 1 ?v11 ?y11 ?r11
   case y11 => intro w_ hSw; (try dsimp only at hSw); go_simp; (try (with_reducible rfl))
   try simp only [Act.put, List.setIfInBounds_toArray, List.set_cons_zero, List.set_cons_succ]
   refine tk 2 ?v12 ?y12 ?r12
   case y12 => intro w_ hSw; (try dsimp only at hSw); go_simp; (try (with_reducible rfl))
   try simp only [Act.put, List.setIfInBounds_toArray, List.set_cons_zero, List.set_cons_succ]
   refine tk 3 ?v13 ?y13 ?r13
   case y13 => intro w_ hSw; (try dsimp only at hSw); go_simp; (try (with_reducible rfl))
   try simp only [Act.put, List.setIfInBounds_toArray, List.set_cons_zero, List.set_cons_succ]
   refine tk 4 ?v14 ?y14 ?r14
   case y14 => intro w_ hSw; (try dsimp only at hSw); go_simp; (try (with_reducible rfl))
   try simp only [Act.put, List.setIfInBounds_toArray, List.set_cons_zero, List.set_cons_succ]
   refine tk 5 ?v15 ?y15 ?r15
   case y15 => intro w_ hSw; (try dsimp only at hSw); go_simp; (try (with_reducible rfl))
   try simp only [Act.put, List.setIfInBounds_toArray, List.set_cons_zero, List.set_cons_succ]
   refine rdy (rs := [6]) ?_
   refine rc (fun K hK => ?k16) AllReadyH.nil
   case' k16 => skip
   go_simp
   refine (markText_at (b + 0) _ (by omega) (by omega) _).mono ?_
   rintro e w0 ⟨rfl, b0⟩
   refine hK.out _ _ ?h16 (fun hHeld => ?j16)
   case h16 => exact HK0.out _ _ b0 hHeld
   clear hK K
   try simp only [Act.put, List.setIfInBounds_toArray, List.set_cons_zero, List.set_cons_succ]
   refine tk 7 ?v17 ?y17 ?r17
   case y17 => intro w_ hSw; (try dsimp only at hSw); go_simp; (try (with_reducible rfl))
   try simp only [Act.put, List.setIfInBounds_toArray, List.set_cons_zero, List.set_cons_succ]
   refine wpAnyH_done (by kernel_rfl) ?_ _
   obtain ⟨r0_0, r0_1, BH0⟩ := hHeld
   clear HK0 b0
   have HK1 : Aside0 (∀ W W1, Below W.heap.size W W1 → (W.cell? ⟨(ad.add (k * 2)).block, (ad.add (k * 2)).off + 1, none⟩ = some (.string (markS (b + 1))) ∧ Below wr.heap.size wr W) → (W1.cell? ⟨(ad.add (k * 2)).block, (ad.add (k * 2)).off + 1, none⟩ = some (.string (markS (b + 1))) ∧ Below wr.heap.size wr W1)) := ⟨fun W W1 hb h => ⟨(hb.cell (World.block_lt_of_cell? W _ (h.1))).trans (h.1), bel_then (h.2) hb⟩⟩
   go_wp2
   refine wp_region_held_drew (S := (fun W => W.cell? ⟨(ad.add (k * 2)).block, (ad.add (k * 2)).off + 1, none⟩ = some (.string (markS (b + 1))) ∧ Below wr.heap.size wr W)) (by kernel_rfl) ?s18 (fun hHeld => ?t18)
   case s18 => exact ⟨r0_1, bel_then BH0 (drew_below0 _)⟩
   refine tk 0 ?v19 ?y19 ?r19
   case y19 => intro w_ hSw; (try dsimp only at hSw); go_simp; (try (with_reducible rfl))
   try simp only [Act.put, List.setIfInBounds_toArray, List.set_cons_zero, List.set_cons_succ]
   refine tk 1 ?v20 ?y20 ?r20
   case y20 => intro w_ hSw; (try dsimp only at hSw); go_simp; (try (with_reducible rfl))
   try simp only [Act.put, List.setIfInBounds_toArray, List.set_cons_zero, List.set_cons_succ]
   refine tk 2 ?v21 ?y21 ?r21
   case y21 => intro w_ hSw; (try dsimp only at hSw); go_simp; (try (with_reducible rfl))
   try simp only [Act.put, List.setIfInBounds_toArray, List.set_cons_zero, List.set_cons_succ]
   refine tk 3 ?v22 ?y22 ?r22
   case y22 => intro w_ hSw; (try dsimp only at hSw); go_simp; (try (with_reducible rfl))
   try simp only [Act.put, List.setIfInBounds_toArray, List.set_cons_zero, List.set_cons_succ]
   refine tk 4 ?v23 ?y23 ?r23
   case y23 => intro w_ hSw; (try dsimp only at hSw); go_simp; (try (with_reducible rfl))
   try simp only [Act.put, List.setIfInBounds_toArray, List.set_cons_zero, List.set_cons_succ]
   refine tk 5 ?v24 ?y24 ?r24
   case y24 => intro w_ hSw; (try dsimp only at hSw); go_simp; (try (with_reducible rfl))
   try simp only [Act.put, List.setIfInBounds_toArray, List.set_cons_zero, List.set_cons_succ]
   refine rdy (rs := [6]) ?_
   refine rc (fun K hK => ?k25) AllReadyH.nil
   case' k25 => skip
   go_simp
   refine (markText_at (b + 1) _ (by omega) (by omega) _).mono ?_
   rintro e w1 ⟨rfl, b1⟩
   refine hK.out _ _ ?h25 (fun hHeld => ?j25)
   case h25 => exact HK1.out _ _ b1 hHeld
   clear hK K
   try simp only [Act.put, List.setIfInBounds_toArray, List.set_cons_zero, List.set_cons_succ]
   refine tk 7 ?v26 ?y26 ?r26
   case y26 => intro w_ hSw; (try dsimp only at hSw); go_simp; (try (with_reducible rfl))
   try simp only [Act.put, List.setIfInBounds_toArray, List.set_cons_zero, List.set_cons_succ]
   refine wpAnyH_done (by kernel_rfl) ?_ _
   obtain ⟨r1_1, BH1⟩ := hHeld
   clear HK1 b1
   go_wp2
   go_roundg (n - (k + 1))
   case measure => omega
   case rel => exact ⟨k + 1, b + 2, by omega, Nat.le_refl _, by first | rfl | (congr 1; done) | (congr 1; omega) | (congr 2; omega), by omega, ⟨by have := HB.out; omega⟩, by go_num, ⟨bel_then BW.out BH1⟩⟩
  ·have hlt' : ¬ (k : Int) < (n : Int) := by omega
   have hkn : k = n := by omega
   have hbb := HB.out
   rw [hkn] at hbb
   have HBB := Lib.hid hbb
   clear hbb HB
   go_wp2
   go_ret
   exact ⟨reti (by have := HBB.out; omega), BW.out⟩
end Go.Proofs.YticepbgacokbbaaGreatDoor
