/- The laws' looks at marked rows: contracts. -/
import Derived.Test.YticepbgacokbbaaDoorReg
import Derived.Test.YticepbgacokbbaaDoorMark
import Derived.Deep.RegionHeld3
namespace Go.Proofs.YticepbgacokbbaaDoor
open Go.RowKit Go.Proofs.YticepbgacokbbaaDoorW.PrintWords
set_option linter.unusedVariables false
set_option linter.unusedSimpArgs false

set_option maxRecDepth 100000 in
set_option maxHeartbeats 4000000 in
theorem heldAddrS_any (A : Option Addr) (c n : Nat) (a : Nat) (w : World) (hr : Kd.C kAddr w A n (mksAddr a n)) (hlen : n ≤ 1048576) (ha : a ≤ 2305843009213693952) :
  Calls Tryd.prog 33 #[.slice A n c, .int .i64 (a : Int)] w fun e w' => e = .returned (.int .i64 ((a + 2 * n : Nat) : Int)) ∧ Below w.heap.size w w' := by
 go_enter Tryd.func33, Tryd.ntmps33
 go_wp2
 go_loopg [1, 5] n (fun gq v1 v5 wr => ∃ (k b : Nat), k ≤ n ∧ n - k ≤ gq ∧ v1 = .int .i64 (b : Int) ∧ b ≤ a + 2 * k ∧ Aside0 (b = a + 2 * k) ∧ v5 = .int .i64 (k : Int) ∧ Aside0 (Below w.heap.size w wr))
 case atStart => exact ⟨0, a, Nat.zero_le _, by omega, rfl, by omega, ⟨by omega⟩, rfl, ⟨Below.refl _ _⟩⟩
 case round =>
  obtain ⟨k, b, hk, hg, rfl, hb, HB, rfl, BW⟩ := hrel
  by_cases hlt : k < n
  ·have hlt' : (k : Int) < (n : Int) := by omega
   obtain ⟨ad, e1, p0, p1⟩ := at_Addr (Kd.C_below hr BW.out) k hlt
   subst e1
   have hv : (mksAddr a n).getD k zAddr = mkAddr b := by rw [HB.out]; simp [mksAddr, hlt]
   rw [hv] at p0 p1
   clear hv hr
   replace p0 : wr.cell? (ad.add (k * 2)) = some (.string (markS (b + 0))) := p0
   replace p1 : wr.cell? ⟨(ad.add (k * 2)).block, (ad.add (k * 2)).off + 1, none⟩ = some (.string (markS (b + 1))) := p1
   have hk0 : (0 : Int) ≤ (k : Int) := by omega
   have HK0 : Aside0 (∀ W W1, Below W.heap.size W W1 → (W.cell? (ad.add (k * 2)) = some (.string (markS (b + 0))) ∧ W.cell? ⟨(ad.add (k * 2)).block, (ad.add (k * 2)).off + 1, none⟩ = some (.string (markS (b + 1))) ∧ Below wr.heap.size wr W) → (W1.cell? (ad.add (k * 2)) = some (.string (markS (b + 0))) ∧ W1.cell? ⟨(ad.add (k * 2)).block, (ad.add (k * 2)).off + 1, none⟩ = some (.string (markS (b + 1))) ∧ Below wr.heap.size wr W1)) := ⟨fun W W1 hb h => ⟨(hb.cell (World.block_lt_of_cell? W _ (h.1))).trans (h.1), (hb.cell (World.block_lt_of_cell? W _ (h.2.1))).trans (h.2.1), bel_then (h.2.2) hb⟩⟩
   go_wp2
   refine wp_region_held_drew (S := (fun W => W.cell? (ad.add (k * 2)) = some (.string (markS (b + 0))) ∧ W.cell? ⟨(ad.add (k * 2)).block, (ad.add (k * 2)).off + 1, none⟩ = some (.string (markS (b + 1))) ∧ Below wr.heap.size wr W)) (by kernel_rfl) ?s1 (fun hHeld => ?t1)
   case s1 => exact ⟨p0, p1, bel_then (Below.refl wr.heap.size wr) (drew_below0 _)⟩
   refine tk 0 ?v2 ?y2 ?r2
   case y2 => intro w_ hSw; (try dsimp only at hSw); go_simp; (try (with_reducible rfl))
   try simp only [Act.put, List.setIfInBounds_toArray, List.set_cons_zero, List.set_cons_succ]
   refine tk 1 ?v3 ?y3 ?r3
   case y3 => intro w_ hSw; (try dsimp only at hSw); go_simp; (try (with_reducible rfl))
   try simp only [Act.put, List.setIfInBounds_toArray, List.set_cons_zero, List.set_cons_succ]
   refine tk 2 ?v4 ?y4 ?r4
   case y4 => intro w_ hSw; (try dsimp only at hSw); go_simp; (try (with_reducible rfl))
   try simp only [Act.put, List.setIfInBounds_toArray, List.set_cons_zero, List.set_cons_succ]
   refine tk 3 ?v5 ?y5 ?r5
   case y5 => intro w_ hSw; (try dsimp only at hSw); go_simp; (try (with_reducible rfl))
   try simp only [Act.put, List.setIfInBounds_toArray, List.set_cons_zero, List.set_cons_succ]
   refine tk 4 ?v6 ?y6 ?r6
   case y6 => intro w_ hSw; (try dsimp only at hSw); go_simp; (try (with_reducible rfl))
   try simp only [Act.put, List.setIfInBounds_toArray, List.set_cons_zero, List.set_cons_succ]
   refine tk 5 ?v7 ?y7 ?r7
   case y7 => intro w_ hSw; (try dsimp only at hSw); go_simp; (try (with_reducible rfl))
   try simp only [Act.put, List.setIfInBounds_toArray, List.set_cons_zero, List.set_cons_succ]
   refine rdy (rs := [6]) ?_
   refine rc (fun K hK => ?k8) AllReadyH.nil
   case' k8 => skip
   go_simp
   refine (markText_at (b + 0) _ (by omega) (by omega) _).mono ?_
   rintro e w0 ⟨rfl, b0⟩
   refine hK.out _ _ ?h8 (fun hHeld => ?j8)
   case h8 => exact HK0.out _ _ b0 hHeld
   clear hK K
   try simp only [Act.put, List.setIfInBounds_toArray, List.set_cons_zero, List.set_cons_succ]
   refine tk 7 ?v9 ?y9 ?r9
   case y9 => intro w_ hSw; (try dsimp only at hSw); go_simp; (try (with_reducible rfl))
   try simp only [Act.put, List.setIfInBounds_toArray, List.set_cons_zero, List.set_cons_succ]
   refine wpAnyH_done (by kernel_rfl) ?_ _
   obtain ⟨r0_0, r0_1, BH0⟩ := hHeld
   clear HK0 b0
   have HK1 : Aside0 (∀ W W1, Below W.heap.size W W1 → (W.cell? ⟨(ad.add (k * 2)).block, (ad.add (k * 2)).off + 1, none⟩ = some (.string (markS (b + 1))) ∧ Below wr.heap.size wr W) → (W1.cell? ⟨(ad.add (k * 2)).block, (ad.add (k * 2)).off + 1, none⟩ = some (.string (markS (b + 1))) ∧ Below wr.heap.size wr W1)) := ⟨fun W W1 hb h => ⟨(hb.cell (World.block_lt_of_cell? W _ (h.1))).trans (h.1), bel_then (h.2) hb⟩⟩
   go_wp2
   refine wp_region_held_drew (S := (fun W => W.cell? ⟨(ad.add (k * 2)).block, (ad.add (k * 2)).off + 1, none⟩ = some (.string (markS (b + 1))) ∧ Below wr.heap.size wr W)) (by kernel_rfl) ?s10 (fun hHeld => ?t10)
   case s10 => exact ⟨r0_1, bel_then BH0 (drew_below0 _)⟩
   refine tk 0 ?v11 ?y11 ?r11
   case y11 => intro w_ hSw; (try dsimp only at hSw); go_simp; (try (with_reducible rfl))
   try simp only [Act.put, List.setIfInBounds_toArray, List.set_cons_zero, List.set_cons_succ]
   refine tk 1 ?v12 ?y12 ?r12
   case y12 => intro w_ hSw; (try dsimp only at hSw); go_simp; (try (with_reducible rfl))
   try simp only [Act.put, List.setIfInBounds_toArray, List.set_cons_zero, List.set_cons_succ]
   refine tk 2 ?v13 ?y13 ?r13
   case y13 => intro w_ hSw; (try dsimp only at hSw); go_simp; (try (with_reducible rfl))
   try simp only [Act.put, List.setIfInBounds_toArray, List.set_cons_zero, List.set_cons_succ]
   refine tk 3 ?v14 ?y14 ?r14
   case y14 => intro w_ hSw; (try dsimp only at hSw); go_simp; (try (with_reducible rfl))
   try simp only [Act.put, List.setIfInBounds_toArray, List.set_cons_zero, List.set_cons_succ]
   refine tk 4 ?v15 ?y15 ?r15
   case y15 => intro w_ hSw; (try dsimp only at hSw); go_simp; (try (with_reducible rfl))
   try simp only [Act.put, List.setIfInBounds_toArray, List.set_cons_zero, List.set_cons_succ]
   refine tk 5 ?v16 ?y16 ?r16
   case y16 => intro w_ hSw; (try dsimp only at hSw); go_simp; (try (with_reducible rfl))
   try simp only [Act.put, List.setIfInBounds_toArray, List.set_cons_zero, List.set_cons_succ]
   refine rdy (rs := [6]) ?_
   refine rc (fun K hK => ?k17) AllReadyH.nil
   case' k17 => skip
   go_simp
   refine (markText_at (b + 1) _ (by omega) (by omega) _).mono ?_
   rintro e w1 ⟨rfl, b1⟩
   refine hK.out _ _ ?h17 (fun hHeld => ?j17)
   case h17 => exact HK1.out _ _ b1 hHeld
   clear hK K
   try simp only [Act.put, List.setIfInBounds_toArray, List.set_cons_zero, List.set_cons_succ]
   refine tk 7 ?v18 ?y18 ?r18
   case y18 => intro w_ hSw; (try dsimp only at hSw); go_simp; (try (with_reducible rfl))
   try simp only [Act.put, List.setIfInBounds_toArray, List.set_cons_zero, List.set_cons_succ]
   refine wpAnyH_done (by kernel_rfl) ?_ _
   obtain ⟨r1_1, BH1⟩ := hHeld
   clear HK1 b1
   go_wp2
   go_roundg (n - (k + 1))
   case measure => omega
   case rel => exact ⟨k + 1, b + 2, by omega, Nat.le_refl _, by first | rfl | (congr 1; done) | (congr 1; omega) | (congr 2; omega), by omega, ⟨by have := HB.out; omega⟩, by go_num, ⟨bel_then BW.out BH1⟩⟩
  ·have hlt' : ¬ (k : Int) < (n : Int) := by omega
   have hkn : k = n := by omega
   have hbb := HB.out
   rw [hkn] at hbb
   have HBB := Lib.hid hbb
   clear hbb HB
   go_wp2
   go_ret
   exact ⟨reti (by have := HBB.out; omega), BW.out⟩
end Go.Proofs.YticepbgacokbbaaDoor
