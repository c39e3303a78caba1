/- The laws' looks at marked rows: contracts. -/
import Derived.Test.YtejiifmopopflaaGreatDoorMark
import Derived.Deep.RegionHeld3
namespace Go.Proofs.YtejiifmopopflaaGreatDoor
open Go.RowKit Go.Proofs.YtejiifmopopflaaGreatDoorW.PrintWords
set_option linter.unusedVariables false
set_option linter.unusedSimpArgs false

theorem drew_below0 (w : World) : Below w.heap.size w w.drew := ⟨rfl, rfl, rfl, Nat.le_refl _, fun _ _ => rfl⟩
set_option maxRecDepth 100000 in
set_option maxHeartbeats 4000000 in
theorem heldStringS_any (A : Option Addr) (c n : Nat) (a : Nat) (w : World) (hr : Kd.C Kd.string w A n (mksString a n)) (hlen : n ≤ 1048576) (ha : a ≤ 2305843009213693952) :
    Calls Tryz.prog 108 #[.slice A n c, .int .i64 (a : Int)] w fun e w' => e = .returned (.int .i64 ((a + 1 * n : Nat) : Int)) ∧ Below w.heap.size w w' := by
  go_enter Tryz.func108, Tryz.ntmps108
  go_wp2
  go_loopg [1, 5] n (fun gq v1 v5 wr => ∃ (k b : Nat), k ≤ n ∧ n - k ≤ gq ∧ v1 = .int .i64 (b : Int) ∧ b ≤ a + 1 * k ∧ Aside0 (b = a + 1 * k) ∧ v5 = .int .i64 (k : Int) ∧ Aside0 (Below w.heap.size w wr))
  case atStart => exact ⟨0, a, Nat.zero_le _, by omega, rfl, by omega, ⟨by omega⟩, rfl, ⟨Below.refl _ _⟩⟩
  case round =>
    obtain ⟨k, b, hk, hg, rfl, hb, HB, rfl, BW⟩ := hrel
    by_cases hlt : k < n
    · have hlt' : (k : Int) < (n : Int) := by omega
      obtain ⟨ad, e1, p0⟩ := at_Str (Kd.C_below hr BW.out) k hlt
      subst e1
      have hv : (mksString a n).getD k (⟨#[]⟩ : ByteArray) = mkString b := by rw [HB.out]; simp [mksString, hlt]
      rw [hv] at p0
      clear hv hr
      replace p0 : wr.cell? (ad.add k) = some (.string (markS (b + 0))) := p0
      have hk0 : (0 : Int) ≤ (k : Int) := by omega
      have HK0 : Aside0 (∀ W W1, Below W.heap.size W W1 → (W.cell? (ad.add k) = some (.string (markS (b + 0))) ∧ Below wr.heap.size wr W) → (W1.cell? (ad.add k) = some (.string (markS (b + 0))) ∧ Below wr.heap.size wr W1)) := ⟨fun W W1 hb h => ⟨(hb.cell (World.block_lt_of_cell? W _ (h.1))).trans (h.1), bel_then (h.2) hb⟩⟩
      go_wp2
      refine wp_region_held_drew (S := (fun W => W.cell? (ad.add k) = some (.string (markS (b + 0))) ∧ Below wr.heap.size wr W)) (by kernel_rfl) ?s1 (fun hHeld => ?t1)
      case s1 => exact ⟨p0, bel_then (Below.refl wr.heap.size wr) (drew_below0 _)⟩
      refine wpAnyH_take (i := 0) (oi := { dst := some 12, op := Op.move (Operand.tmp 0), type := 25, pos := "exact.go:198", after := #[], guard := none }) (v := ?v2) rfl (by kernel_rfl) (by kernel_rfl) (by kernel_rfl) (fun _ _ _ h => h) (Or.inl ⟨by rfl, ?y2⟩) (by assumption) ?r2
      case y2 => intro w_ hSw; (try dsimp only at hSw); go_simp; (try (with_reducible rfl))
      try simp only [Act.put, List.setIfInBounds_toArray, List.set_cons_zero, List.set_cons_succ]
      refine wpAnyH_take (i := 1) (oi := { dst := some 13, op := Op.move (Operand.tmp 5), type := 3, pos := "exact.go:198", after := #[], guard := none }) (v := ?v3) rfl (by kernel_rfl) (by kernel_rfl) (by kernel_rfl) (fun _ _ _ h => h) (Or.inl ⟨by rfl, ?y3⟩) (by assumption) ?r3
      case y3 => intro w_ hSw; (try dsimp only at hSw); go_simp; (try (with_reducible rfl))
      try simp only [Act.put, List.setIfInBounds_toArray, List.set_cons_zero, List.set_cons_succ]
      refine wpAnyH_take (i := 2) (oi := { dst := some 14, op := Op.indexAddr 25 (Operand.tmp 12) (Operand.tmp 13), type := 0, pos := "exact.go:198", after := #[{ on := 0, ground := Ground.data }, { on := 1, ground := Ground.data }], guard := none }) (v := ?v4) rfl (by kernel_rfl) (by kernel_rfl) (by kernel_rfl) (fun _ _ _ h => h) (Or.inl ⟨by rfl, ?y4⟩) (by assumption) ?r4
      case y4 => intro w_ hSw; (try dsimp only at hSw); go_simp; (try (with_reducible rfl))
      try simp only [Act.put, List.setIfInBounds_toArray, List.set_cons_zero, List.set_cons_succ]
      refine wpAnyH_take (i := 3) (oi := { dst := some 15, op := Op.load 9 (Operand.tmp 14), type := 9, pos := "exact.go:198", after := #[{ on := 2, ground := Ground.data }], guard := none }) (v := ?v5) rfl (by kernel_rfl) (by kernel_rfl) (by kernel_rfl) (fun _ _ _ h => h) (Or.inl ⟨by rfl, ?y5⟩) (by assumption) ?r5
      case y5 => intro w_ hSw; (try dsimp only at hSw); go_simp; (try (with_reducible rfl))
      try simp only [Act.put, List.setIfInBounds_toArray, List.set_cons_zero, List.set_cons_succ]
      refine wpAnyH_take (i := 4) (oi := { dst := some 16, op := Op.move (Operand.tmp 1), type := 3, pos := "exact.go:198", after := #[], guard := none }) (v := ?v6) rfl (by kernel_rfl) (by kernel_rfl) (by kernel_rfl) (fun _ _ _ h => h) (Or.inl ⟨by rfl, ?y6⟩) (by assumption) ?r6
      case y6 => intro w_ hSw; (try dsimp only at hSw); go_simp; (try (with_reducible rfl))
      try simp only [Act.put, List.setIfInBounds_toArray, List.set_cons_zero, List.set_cons_succ]
      refine wpAnyH_ready (rs := [5]) (by kernel_rfl) (by simp) ?_
      refine AllReadyH.cons (o := { dst := some 17, op := Op.call { callee := Callee.value (Operand.func 139), args := #[Operand.tmp 16], argTypes := #[3] }, type := 9, pos := "exact.go:198", after := #[{ on := 4, ground := Ground.data }], guard := none }) rfl (fun K hK => ?k7) AllReadyH.nil
      case' k7 => skip
      go_simp
      refine (markText_at (b + 0) _ (by omega) (by omega) _).mono ?_
      rintro e w0 ⟨rfl, b0⟩
      refine hK.out _ _ ?h7 (fun hHeld => ?j7)
      case h7 => exact HK0.out _ _ b0 hHeld
      clear hK K
      try simp only [Act.put, List.setIfInBounds_toArray, List.set_cons_zero, List.set_cons_succ]
      refine wpAnyH_take (i := 6) (oi := { dst := some 18, op := Op.binOp BinOp.neq 9 (Operand.tmp 15) (Operand.tmp 17) 9, type := 4, pos := "exact.go:198", after := #[{ on := 3, ground := Ground.data }, { on := 5, ground := Ground.data }], guard := none }) (v := ?v8) rfl (by kernel_rfl) (by kernel_rfl) (by kernel_rfl) (fun _ _ _ h => h) (Or.inl ⟨by rfl, ?y8⟩) (by assumption) ?r8
      case y8 => intro w_ hSw; (try dsimp only at hSw); go_simp; (try (with_reducible rfl))
      try simp only [Act.put, List.setIfInBounds_toArray, List.set_cons_zero, List.set_cons_succ]
      refine wpAnyH_done (by kernel_rfl) ?_ _
      obtain ⟨r0_0, BH0⟩ := hHeld
      clear HK0 b0
      go_wp2
      go_roundg (n - (k + 1))
      case measure => omega
      case rel => exact ⟨k + 1, b + 1, by omega, Nat.le_refl _, by first | rfl | (congr 1; done) | (congr 1; omega) | (congr 2; omega), by omega, ⟨by have := HB.out; omega⟩, by go_num, ⟨bel_then BW.out BH0⟩⟩
    · have hlt' : ¬ (k : Int) < (n : Int) := by omega
      have hkn : k = n := by omega
      have hbb := HB.out
      rw [hkn] at hbb
      have HBB := Lib.hid hbb
      clear hbb HB
      go_wp2
      go_ret
      exact ⟨reti (by have := HBB.out; omega), BW.out⟩
set_option maxRecDepth 100000 in
set_option maxHeartbeats 4000000 in
theorem heldIntS_any (A : Option Addr) (c n : Nat) (a : Nat) (w : World) (hr : Kd.C (Kd.int .i64) w A n (mksInt a n)) (hlen : n ≤ 1048576) (ha : a ≤ 2305843009213693952) :
    Calls Tryz.prog 47 #[.slice A n c, .int .i64 (a : Int)] w fun e w' => e = .returned (.int .i64 ((a + 1 * n : Nat) : Int)) ∧ Below w.heap.size w w' := by
  go_enter Tryz.func47, Tryz.ntmps47
  go_wp2
  go_loopg [1, 5] n (fun gq v1 v5 wr => ∃ (k b : Nat), k ≤ n ∧ n - k ≤ gq ∧ v1 = .int .i64 (b : Int) ∧ b ≤ a + 1 * k ∧ Aside0 (b = a + 1 * k) ∧ v5 = .int .i64 (k : Int) ∧ Aside0 (Below w.heap.size w wr))
  case atStart => exact ⟨0, a, Nat.zero_le _, by omega, rfl, by omega, ⟨by omega⟩, rfl, ⟨Below.refl _ _⟩⟩
  case round =>
    obtain ⟨k, b, hk, hg, rfl, hb, HB, rfl, BW⟩ := hrel
    by_cases hlt : k < n
    · have hlt' : (k : Int) < (n : Int) := by omega
      obtain ⟨ad, e1, p0⟩ := at_Int (Kd.C_below hr BW.out) k hlt
      subst e1
      have hv : (mksInt a n).getD k (0 : Int) = mkInt b := by rw [HB.out]; simp [mksInt, hlt]
      rw [hv] at p0
      clear hv hr
      replace p0 : wr.cell? (ad.add k) = some (.int .i64 ((b : Int))) := (by rw [p0]; unfold mkInt; congr 2)
      have hk0 : (0 : Int) ≤ (k : Int) := by omega
      go_wp2
      go_roundg (n - (k + 1))
      case measure => omega
      case rel => exact ⟨k + 1, b + 1, by omega, Nat.le_refl _, by first | rfl | (congr 1; done) | (congr 1; omega) | (congr 2; omega), by omega, ⟨by have := HB.out; omega⟩, by go_num, ⟨bel_then BW.out (Below.refl wr.heap.size wr)⟩⟩
    · have hlt' : ¬ (k : Int) < (n : Int) := by omega
      have hkn : k = n := by omega
      have hbb := HB.out
      rw [hkn] at hbb
      have HBB := Lib.hid hbb
      clear hbb HB
      go_wp2
      go_ret
      exact ⟨reti (by have := HBB.out; omega), BW.out⟩
set_option maxRecDepth 100000 in
set_option maxHeartbeats 4000000 in
theorem heldAddrS_any (A : Option Addr) (c n : Nat) (a : Nat) (w : World) (hr : Kd.C kAddr w A n (mksAddr a n)) (hlen : n ≤ 1048576) (ha : a ≤ 2305843009213693952) :
    Calls Tryz.prog 107 #[.slice A n c, .int .i64 (a : Int)] w fun e w' => e = .returned (.int .i64 ((a + 2 * n : Nat) : Int)) ∧ Below w.heap.size w w' := by
  go_enter Tryz.func107, Tryz.ntmps107
  go_wp2
  go_loopg [1, 5] n (fun gq v1 v5 wr => ∃ (k b : Nat), k ≤ n ∧ n - k ≤ gq ∧ v1 = .int .i64 (b : Int) ∧ b ≤ a + 2 * k ∧ Aside0 (b = a + 2 * k) ∧ v5 = .int .i64 (k : Int) ∧ Aside0 (Below w.heap.size w wr))
  case atStart => exact ⟨0, a, Nat.zero_le _, by omega, rfl, by omega, ⟨by omega⟩, rfl, ⟨Below.refl _ _⟩⟩
  case round =>
    obtain ⟨k, b, hk, hg, rfl, hb, HB, rfl, BW⟩ := hrel
    by_cases hlt : k < n
    · have hlt' : (k : Int) < (n : Int) := by omega
      obtain ⟨ad, e1, p0, p1⟩ := at_Addr (Kd.C_below hr BW.out) k hlt
      subst e1
      have hv : (mksAddr a n).getD k zAddr = mkAddr b := by rw [HB.out]; simp [mksAddr, hlt]
      rw [hv] at p0 p1
      clear hv hr
      replace p0 : wr.cell? (ad.add (k * 2)) = some (.string (markS (b + 0))) := p0
      replace p1 : wr.cell? ⟨(ad.add (k * 2)).block, (ad.add (k * 2)).off + 1, none⟩ = some (.string (markS (b + 1))) := p1
      have hk0 : (0 : Int) ≤ (k : Int) := by omega
      have HK0 : Aside0 (∀ W W1, Below W.heap.size W W1 → (W.cell? (ad.add (k * 2)) = some (.string (markS (b + 0))) ∧ W.cell? ⟨(ad.add (k * 2)).block, (ad.add (k * 2)).off + 1, none⟩ = some (.string (markS (b + 1))) ∧ Below wr.heap.size wr W) → (W1.cell? (ad.add (k * 2)) = some (.string (markS (b + 0))) ∧ W1.cell? ⟨(ad.add (k * 2)).block, (ad.add (k * 2)).off + 1, none⟩ = some (.string (markS (b + 1))) ∧ Below wr.heap.size wr W1)) := ⟨fun W W1 hb h => ⟨(hb.cell (World.block_lt_of_cell? W _ (h.1))).trans (h.1), (hb.cell (World.block_lt_of_cell? W _ (h.2.1))).trans (h.2.1), bel_then (h.2.2) hb⟩⟩
      go_wp2
      refine wp_region_held_drew (S := (fun W => W.cell? (ad.add (k * 2)) = some (.string (markS (b + 0))) ∧ W.cell? ⟨(ad.add (k * 2)).block, (ad.add (k * 2)).off + 1, none⟩ = some (.string (markS (b + 1))) ∧ Below wr.heap.size wr W)) (by kernel_rfl) ?s9 (fun hHeld => ?t9)
      case s9 => exact ⟨p0, p1, bel_then (Below.refl wr.heap.size wr) (drew_below0 _)⟩
      refine wpAnyH_take (i := 0) (oi := { dst := some 12, op := Op.move (Operand.tmp 0), type := 33, pos := "exact.go:344", after := #[], guard := none }) (v := ?v10) rfl (by kernel_rfl) (by kernel_rfl) (by kernel_rfl) (fun _ _ _ h => h) (Or.inl ⟨by rfl, ?y10⟩) (by assumption) ?r10
      case y10 => intro w_ hSw; (try dsimp only at hSw); go_simp; (try (with_reducible rfl))
      try simp only [Act.put, List.setIfInBounds_toArray, List.set_cons_zero, List.set_cons_succ]
      refine wpAnyH_take (i := 1) (oi := { dst := some 13, op := Op.move (Operand.tmp 5), type := 3, pos := "exact.go:344", after := #[], guard := none }) (v := ?v11) rfl (by kernel_rfl) (by kernel_rfl) (by kernel_rfl) (fun _ _ _ h => h) (Or.inl ⟨by rfl, ?y11⟩) (by assumption) ?r11
      case y11 => intro w_ hSw; (try dsimp only at hSw); go_simp; (try (with_reducible rfl))
      try simp only [Act.put, List.setIfInBounds_toArray, List.set_cons_zero, List.set_cons_succ]
      refine wpAnyH_take (i := 2) (oi := { dst := some 14, op := Op.indexAddr 33 (Operand.tmp 12) (Operand.tmp 13), type := 0, pos := "exact.go:344", after := #[{ on := 0, ground := Ground.data }, { on := 1, ground := Ground.data }], guard := none }) (v := ?v12) rfl (by kernel_rfl) (by kernel_rfl) (by kernel_rfl) (fun _ _ _ h => h) (Or.inl ⟨by rfl, ?y12⟩) (by assumption) ?r12
      case y12 => intro w_ hSw; (try dsimp only at hSw); go_simp; (try (with_reducible rfl))
      try simp only [Act.put, List.setIfInBounds_toArray, List.set_cons_zero, List.set_cons_succ]
      refine wpAnyH_take (i := 3) (oi := { dst := some 15, op := Op.fieldAddr 32 (Operand.tmp 14) 0, type := 0, pos := "exact.go:344", after := #[{ on := 2, ground := Ground.data }], guard := none }) (v := ?v13) rfl (by kernel_rfl) (by kernel_rfl) (by kernel_rfl) (fun _ _ _ h => h) (Or.inl ⟨by rfl, ?y13⟩) (by assumption) ?r13
      case y13 => intro w_ hSw; (try dsimp only at hSw); go_simp; (try (with_reducible rfl))
      try simp only [Act.put, List.setIfInBounds_toArray, List.set_cons_zero, List.set_cons_succ]
      refine wpAnyH_take (i := 4) (oi := { dst := some 16, op := Op.load 9 (Operand.tmp 15), type := 9, pos := "exact.go:344", after := #[{ on := 3, ground := Ground.data }], guard := none }) (v := ?v14) rfl (by kernel_rfl) (by kernel_rfl) (by kernel_rfl) (fun _ _ _ h => h) (Or.inl ⟨by rfl, ?y14⟩) (by assumption) ?r14
      case y14 => intro w_ hSw; (try dsimp only at hSw); go_simp; (try (with_reducible rfl))
      try simp only [Act.put, List.setIfInBounds_toArray, List.set_cons_zero, List.set_cons_succ]
      refine wpAnyH_take (i := 5) (oi := { dst := some 17, op := Op.move (Operand.tmp 1), type := 3, pos := "exact.go:344", after := #[], guard := none }) (v := ?v15) rfl (by kernel_rfl) (by kernel_rfl) (by kernel_rfl) (fun _ _ _ h => h) (Or.inl ⟨by rfl, ?y15⟩) (by assumption) ?r15
      case y15 => intro w_ hSw; (try dsimp only at hSw); go_simp; (try (with_reducible rfl))
      try simp only [Act.put, List.setIfInBounds_toArray, List.set_cons_zero, List.set_cons_succ]
      refine wpAnyH_ready (rs := [6]) (by kernel_rfl) (by simp) ?_
      refine AllReadyH.cons (o := { dst := some 18, op := Op.call { callee := Callee.value (Operand.func 139), args := #[Operand.tmp 17], argTypes := #[3] }, type := 9, pos := "exact.go:344", after := #[{ on := 5, ground := Ground.data }], guard := none }) rfl (fun K hK => ?k16) AllReadyH.nil
      case' k16 => skip
      go_simp
      refine (markText_at (b + 0) _ (by omega) (by omega) _).mono ?_
      rintro e w0 ⟨rfl, b0⟩
      refine hK.out _ _ ?h16 (fun hHeld => ?j16)
      case h16 => exact HK0.out _ _ b0 hHeld
      clear hK K
      try simp only [Act.put, List.setIfInBounds_toArray, List.set_cons_zero, List.set_cons_succ]
      refine wpAnyH_take (i := 7) (oi := { dst := some 19, op := Op.binOp BinOp.neq 9 (Operand.tmp 16) (Operand.tmp 18) 9, type := 4, pos := "exact.go:344", after := #[{ on := 4, ground := Ground.data }, { on := 6, ground := Ground.data }], guard := none }) (v := ?v17) rfl (by kernel_rfl) (by kernel_rfl) (by kernel_rfl) (fun _ _ _ h => h) (Or.inl ⟨by rfl, ?y17⟩) (by assumption) ?r17
      case y17 => intro w_ hSw; (try dsimp only at hSw); go_simp; (try (with_reducible rfl))
      try simp only [Act.put, List.setIfInBounds_toArray, List.set_cons_zero, List.set_cons_succ]
      refine wpAnyH_done (by kernel_rfl) ?_ _
      obtain ⟨r0_0, r0_1, BH0⟩ := hHeld
      clear HK0 b0
      have HK1 : Aside0 (∀ W W1, Below W.heap.size W W1 → (W.cell? ⟨(ad.add (k * 2)).block, (ad.add (k * 2)).off + 1, none⟩ = some (.string (markS (b + 1))) ∧ Below wr.heap.size wr W) → (W1.cell? ⟨(ad.add (k * 2)).block, (ad.add (k * 2)).off + 1, none⟩ = some (.string (markS (b + 1))) ∧ Below wr.heap.size wr W1)) := ⟨fun W W1 hb h => ⟨(hb.cell (World.block_lt_of_cell? W _ (h.1))).trans (h.1), bel_then (h.2) hb⟩⟩
      go_wp2
      refine wp_region_held_drew (S := (fun W => W.cell? ⟨(ad.add (k * 2)).block, (ad.add (k * 2)).off + 1, none⟩ = some (.string (markS (b + 1))) ∧ Below wr.heap.size wr W)) (by kernel_rfl) ?s18 (fun hHeld => ?t18)
      case s18 => exact ⟨r0_1, bel_then BH0 (drew_below0 _)⟩
      refine wpAnyH_take (i := 0) (oi := { dst := some 22, op := Op.move (Operand.tmp 0), type := 33, pos := "exact.go:348", after := #[], guard := none }) (v := ?v19) rfl (by kernel_rfl) (by kernel_rfl) (by kernel_rfl) (fun _ _ _ h => h) (Or.inl ⟨by rfl, ?y19⟩) (by assumption) ?r19
      case y19 => intro w_ hSw; (try dsimp only at hSw); go_simp; (try (with_reducible rfl))
      try simp only [Act.put, List.setIfInBounds_toArray, List.set_cons_zero, List.set_cons_succ]
      refine wpAnyH_take (i := 1) (oi := { dst := some 23, op := Op.move (Operand.tmp 5), type := 3, pos := "exact.go:348", after := #[], guard := none }) (v := ?v20) rfl (by kernel_rfl) (by kernel_rfl) (by kernel_rfl) (fun _ _ _ h => h) (Or.inl ⟨by rfl, ?y20⟩) (by assumption) ?r20
      case y20 => intro w_ hSw; (try dsimp only at hSw); go_simp; (try (with_reducible rfl))
      try simp only [Act.put, List.setIfInBounds_toArray, List.set_cons_zero, List.set_cons_succ]
      refine wpAnyH_take (i := 2) (oi := { dst := some 24, op := Op.indexAddr 33 (Operand.tmp 22) (Operand.tmp 23), type := 0, pos := "exact.go:348", after := #[{ on := 0, ground := Ground.data }, { on := 1, ground := Ground.data }], guard := none }) (v := ?v21) rfl (by kernel_rfl) (by kernel_rfl) (by kernel_rfl) (fun _ _ _ h => h) (Or.inl ⟨by rfl, ?y21⟩) (by assumption) ?r21
      case y21 => intro w_ hSw; (try dsimp only at hSw); go_simp; (try (with_reducible rfl))
      try simp only [Act.put, List.setIfInBounds_toArray, List.set_cons_zero, List.set_cons_succ]
      refine wpAnyH_take (i := 3) (oi := { dst := some 25, op := Op.fieldAddr 32 (Operand.tmp 24) 1, type := 0, pos := "exact.go:348", after := #[{ on := 2, ground := Ground.data }], guard := none }) (v := ?v22) rfl (by kernel_rfl) (by kernel_rfl) (by kernel_rfl) (fun _ _ _ h => h) (Or.inl ⟨by rfl, ?y22⟩) (by assumption) ?r22
      case y22 => intro w_ hSw; (try dsimp only at hSw); go_simp; (try (with_reducible rfl))
      try simp only [Act.put, List.setIfInBounds_toArray, List.set_cons_zero, List.set_cons_succ]
      refine wpAnyH_take (i := 4) (oi := { dst := some 26, op := Op.load 9 (Operand.tmp 25), type := 9, pos := "exact.go:348", after := #[{ on := 3, ground := Ground.data }], guard := none }) (v := ?v23) rfl (by kernel_rfl) (by kernel_rfl) (by kernel_rfl) (fun _ _ _ h => h) (Or.inl ⟨by rfl, ?y23⟩) (by assumption) ?r23
      case y23 => intro w_ hSw; (try dsimp only at hSw); go_simp; (try (with_reducible rfl))
      try simp only [Act.put, List.setIfInBounds_toArray, List.set_cons_zero, List.set_cons_succ]
      refine wpAnyH_take (i := 5) (oi := { dst := some 27, op := Op.move (Operand.tmp 1), type := 3, pos := "exact.go:348", after := #[], guard := none }) (v := ?v24) rfl (by kernel_rfl) (by kernel_rfl) (by kernel_rfl) (fun _ _ _ h => h) (Or.inl ⟨by rfl, ?y24⟩) (by assumption) ?r24
      case y24 => intro w_ hSw; (try dsimp only at hSw); go_simp; (try (with_reducible rfl))
      try simp only [Act.put, List.setIfInBounds_toArray, List.set_cons_zero, List.set_cons_succ]
      refine wpAnyH_ready (rs := [6]) (by kernel_rfl) (by simp) ?_
      refine AllReadyH.cons (o := { dst := some 28, op := Op.call { callee := Callee.value (Operand.func 139), args := #[Operand.tmp 27], argTypes := #[3] }, type := 9, pos := "exact.go:348", after := #[{ on := 5, ground := Ground.data }], guard := none }) rfl (fun K hK => ?k25) AllReadyH.nil
      case' k25 => skip
      go_simp
      refine (markText_at (b + 1) _ (by omega) (by omega) _).mono ?_
      rintro e w1 ⟨rfl, b1⟩
      refine hK.out _ _ ?h25 (fun hHeld => ?j25)
      case h25 => exact HK1.out _ _ b1 hHeld
      clear hK K
      try simp only [Act.put, List.setIfInBounds_toArray, List.set_cons_zero, List.set_cons_succ]
      refine wpAnyH_take (i := 7) (oi := { dst := some 29, op := Op.binOp BinOp.neq 9 (Operand.tmp 26) (Operand.tmp 28) 9, type := 4, pos := "exact.go:348", after := #[{ on := 4, ground := Ground.data }, { on := 6, ground := Ground.data }], guard := none }) (v := ?v26) rfl (by kernel_rfl) (by kernel_rfl) (by kernel_rfl) (fun _ _ _ h => h) (Or.inl ⟨by rfl, ?y26⟩) (by assumption) ?r26
      case y26 => intro w_ hSw; (try dsimp only at hSw); go_simp; (try (with_reducible rfl))
      try simp only [Act.put, List.setIfInBounds_toArray, List.set_cons_zero, List.set_cons_succ]
      refine wpAnyH_done (by kernel_rfl) ?_ _
      obtain ⟨r1_1, BH1⟩ := hHeld
      clear HK1 b1
      go_wp2
      go_roundg (n - (k + 1))
      case measure => omega
      case rel => exact ⟨k + 1, b + 2, by omega, Nat.le_refl _, by first | rfl | (congr 1; done) | (congr 1; omega) | (congr 2; omega), by omega, ⟨by have := HB.out; omega⟩, by go_num, ⟨bel_then BW.out BH1⟩⟩
    · have hlt' : ¬ (k : Int) < (n : Int) := by omega
      have hkn : k = n := by omega
      have hbb := HB.out
      rw [hkn] at hbb
      have HBB := Lib.hid hbb
      clear hbb HB
      go_wp2
      go_ret
      exact ⟨reti (by have := HBB.out; omega), BW.out⟩
set_option maxRecDepth 100000 in
set_option maxHeartbeats 4000000 in
theorem heldWayS_any (A : Option Addr) (c n : Nat) (a : Nat) (w : World) (hr : Kd.C kWay w A n (mksWay a n)) (hlen : n ≤ 1048576) (ha : a ≤ 2305843009213693952) :
    Calls Tryz.prog 142 #[.slice A n c, .int .i64 (a : Int)] w fun e w' => e = .returned (.int .i64 ((a + 2 * n : Nat) : Int)) ∧ Below w.heap.size w w' := by
  go_enter Tryz.func142, Tryz.ntmps142
  go_wp2
  go_loopg [1, 5] n (fun gq v1 v5 wr => ∃ (k b : Nat), k ≤ n ∧ n - k ≤ gq ∧ v1 = .int .i64 (b : Int) ∧ b ≤ a + 2 * k ∧ Aside0 (b = a + 2 * k) ∧ v5 = .int .i64 (k : Int) ∧ Aside0 (Below w.heap.size w wr))
  case atStart => exact ⟨0, a, Nat.zero_le _, by omega, rfl, by omega, ⟨by omega⟩, rfl, ⟨Below.refl _ _⟩⟩
  case round =>
    obtain ⟨k, b, hk, hg, rfl, hb, HB, rfl, BW⟩ := hrel
    by_cases hlt : k < n
    · have hlt' : (k : Int) < (n : Int) := by omega
      obtain ⟨ad, e1, p0, p1⟩ := at_Way (Kd.C_below hr BW.out) k hlt
      subst e1
      have hv : (mksWay a n).getD k zWay = mkWay b := by rw [HB.out]; simp [mksWay, hlt]
      rw [hv] at p0 p1
      clear hv hr
      replace p0 : wr.cell? (ad.add (k * 2)) = some (.string (markS (b + 0))) := p0
      replace p1 : wr.cell? ⟨(ad.add (k * 2)).block, (ad.add (k * 2)).off + 1, none⟩ = some (.string (markS (b + 1))) := p1
      have hk0 : (0 : Int) ≤ (k : Int) := by omega
      have HK0 : Aside0 (∀ W W1, Below W.heap.size W W1 → (W.cell? (ad.add (k * 2)) = some (.string (markS (b + 0))) ∧ W.cell? ⟨(ad.add (k * 2)).block, (ad.add (k * 2)).off + 1, none⟩ = some (.string (markS (b + 1))) ∧ Below wr.heap.size wr W) → (W1.cell? (ad.add (k * 2)) = some (.string (markS (b + 0))) ∧ W1.cell? ⟨(ad.add (k * 2)).block, (ad.add (k * 2)).off + 1, none⟩ = some (.string (markS (b + 1))) ∧ Below wr.heap.size wr W1)) := ⟨fun W W1 hb h => ⟨(hb.cell (World.block_lt_of_cell? W _ (h.1))).trans (h.1), (hb.cell (World.block_lt_of_cell? W _ (h.2.1))).trans (h.2.1), bel_then (h.2.2) hb⟩⟩
      go_wp2
      refine wp_region_held_drew (S := (fun W => W.cell? (ad.add (k * 2)) = some (.string (markS (b + 0))) ∧ W.cell? ⟨(ad.add (k * 2)).block, (ad.add (k * 2)).off + 1, none⟩ = some (.string (markS (b + 1))) ∧ Below wr.heap.size wr W)) (by kernel_rfl) ?s27 (fun hHeld => ?t27)
      case s27 => exact ⟨p0, p1, bel_then (Below.refl wr.heap.size wr) (drew_below0 _)⟩
      refine wpAnyH_take (i := 0) (oi := { dst := some 12, op := Op.move (Operand.tmp 0), type := 45, pos := "exact.go:714", after := #[], guard := none }) (v := ?v28) rfl (by kernel_rfl) (by kernel_rfl) (by kernel_rfl) (fun _ _ _ h => h) (Or.inl ⟨by rfl, ?y28⟩) (by assumption) ?r28
      case y28 => intro w_ hSw; (try dsimp only at hSw); go_simp; (try (with_reducible rfl))
      try simp only [Act.put, List.setIfInBounds_toArray, List.set_cons_zero, List.set_cons_succ]
      refine wpAnyH_take (i := 1) (oi := { dst := some 13, op := Op.move (Operand.tmp 5), type := 3, pos := "exact.go:714", after := #[], guard := none }) (v := ?v29) rfl (by kernel_rfl) (by kernel_rfl) (by kernel_rfl) (fun _ _ _ h => h) (Or.inl ⟨by rfl, ?y29⟩) (by assumption) ?r29
      case y29 => intro w_ hSw; (try dsimp only at hSw); go_simp; (try (with_reducible rfl))
      try simp only [Act.put, List.setIfInBounds_toArray, List.set_cons_zero, List.set_cons_succ]
      refine wpAnyH_take (i := 2) (oi := { dst := some 14, op := Op.indexAddr 45 (Operand.tmp 12) (Operand.tmp 13), type := 0, pos := "exact.go:714", after := #[{ on := 0, ground := Ground.data }, { on := 1, ground := Ground.data }], guard := none }) (v := ?v30) rfl (by kernel_rfl) (by kernel_rfl) (by kernel_rfl) (fun _ _ _ h => h) (Or.inl ⟨by rfl, ?y30⟩) (by assumption) ?r30
      case y30 => intro w_ hSw; (try dsimp only at hSw); go_simp; (try (with_reducible rfl))
      try simp only [Act.put, List.setIfInBounds_toArray, List.set_cons_zero, List.set_cons_succ]
      refine wpAnyH_take (i := 3) (oi := { dst := some 15, op := Op.fieldAddr 136 (Operand.tmp 14) 0, type := 0, pos := "exact.go:714", after := #[{ on := 2, ground := Ground.data }], guard := none }) (v := ?v31) rfl (by kernel_rfl) (by kernel_rfl) (by kernel_rfl) (fun _ _ _ h => h) (Or.inl ⟨by rfl, ?y31⟩) (by assumption) ?r31
      case y31 => intro w_ hSw; (try dsimp only at hSw); go_simp; (try (with_reducible rfl))
      try simp only [Act.put, List.setIfInBounds_toArray, List.set_cons_zero, List.set_cons_succ]
      refine wpAnyH_take (i := 4) (oi := { dst := some 16, op := Op.load 9 (Operand.tmp 15), type := 9, pos := "exact.go:714", after := #[{ on := 3, ground := Ground.data }], guard := none }) (v := ?v32) rfl (by kernel_rfl) (by kernel_rfl) (by kernel_rfl) (fun _ _ _ h => h) (Or.inl ⟨by rfl, ?y32⟩) (by assumption) ?r32
      case y32 => intro w_ hSw; (try dsimp only at hSw); go_simp; (try (with_reducible rfl))
      try simp only [Act.put, List.setIfInBounds_toArray, List.set_cons_zero, List.set_cons_succ]
      refine wpAnyH_take (i := 5) (oi := { dst := some 17, op := Op.move (Operand.tmp 1), type := 3, pos := "exact.go:714", after := #[], guard := none }) (v := ?v33) rfl (by kernel_rfl) (by kernel_rfl) (by kernel_rfl) (fun _ _ _ h => h) (Or.inl ⟨by rfl, ?y33⟩) (by assumption) ?r33
      case y33 => intro w_ hSw; (try dsimp only at hSw); go_simp; (try (with_reducible rfl))
      try simp only [Act.put, List.setIfInBounds_toArray, List.set_cons_zero, List.set_cons_succ]
      refine wpAnyH_ready (rs := [6]) (by kernel_rfl) (by simp) ?_
      refine AllReadyH.cons (o := { dst := some 18, op := Op.call { callee := Callee.value (Operand.func 139), args := #[Operand.tmp 17], argTypes := #[3] }, type := 9, pos := "exact.go:714", after := #[{ on := 5, ground := Ground.data }], guard := none }) rfl (fun K hK => ?k34) AllReadyH.nil
      case' k34 => skip
      go_simp
      refine (markText_at (b + 0) _ (by omega) (by omega) _).mono ?_
      rintro e w0 ⟨rfl, b0⟩
      refine hK.out _ _ ?h34 (fun hHeld => ?j34)
      case h34 => exact HK0.out _ _ b0 hHeld
      clear hK K
      try simp only [Act.put, List.setIfInBounds_toArray, List.set_cons_zero, List.set_cons_succ]
      refine wpAnyH_take (i := 7) (oi := { dst := some 19, op := Op.binOp BinOp.neq 9 (Operand.tmp 16) (Operand.tmp 18) 9, type := 4, pos := "exact.go:714", after := #[{ on := 4, ground := Ground.data }, { on := 6, ground := Ground.data }], guard := none }) (v := ?v35) rfl (by kernel_rfl) (by kernel_rfl) (by kernel_rfl) (fun _ _ _ h => h) (Or.inl ⟨by rfl, ?y35⟩) (by assumption) ?r35
      case y35 => intro w_ hSw; (try dsimp only at hSw); go_simp; (try (with_reducible rfl))
      try simp only [Act.put, List.setIfInBounds_toArray, List.set_cons_zero, List.set_cons_succ]
      refine wpAnyH_done (by kernel_rfl) ?_ _
      obtain ⟨r0_0, r0_1, BH0⟩ := hHeld
      clear HK0 b0
      have HK1 : Aside0 (∀ W W1, Below W.heap.size W W1 → (W.cell? ⟨(ad.add (k * 2)).block, (ad.add (k * 2)).off + 1, none⟩ = some (.string (markS (b + 1))) ∧ Below wr.heap.size wr W) → (W1.cell? ⟨(ad.add (k * 2)).block, (ad.add (k * 2)).off + 1, none⟩ = some (.string (markS (b + 1))) ∧ Below wr.heap.size wr W1)) := ⟨fun W W1 hb h => ⟨(hb.cell (World.block_lt_of_cell? W _ (h.1))).trans (h.1), bel_then (h.2) hb⟩⟩
      go_wp2
      refine wp_region_held_drew (S := (fun W => W.cell? ⟨(ad.add (k * 2)).block, (ad.add (k * 2)).off + 1, none⟩ = some (.string (markS (b + 1))) ∧ Below wr.heap.size wr W)) (by kernel_rfl) ?s36 (fun hHeld => ?t36)
      case s36 => exact ⟨r0_1, bel_then BH0 (drew_below0 _)⟩
      refine wpAnyH_take (i := 0) (oi := { dst := some 22, op := Op.move (Operand.tmp 0), type := 45, pos := "exact.go:718", after := #[], guard := none }) (v := ?v37) rfl (by kernel_rfl) (by kernel_rfl) (by kernel_rfl) (fun _ _ _ h => h) (Or.inl ⟨by rfl, ?y37⟩) (by assumption) ?r37
      case y37 => intro w_ hSw; (try dsimp only at hSw); go_simp; (try (with_reducible rfl))
      try simp only [Act.put, List.setIfInBounds_toArray, List.set_cons_zero, List.set_cons_succ]
      refine wpAnyH_take (i := 1) (oi := { dst := some 23, op := Op.move (Operand.tmp 5), type := 3, pos := "exact.go:718", after := #[], guard := none }) (v := ?v38) rfl (by kernel_rfl) (by kernel_rfl) (by kernel_rfl) (fun _ _ _ h => h) (Or.inl ⟨by rfl, ?y38⟩) (by assumption) ?r38
      case y38 => intro w_ hSw; (try dsimp only at hSw); go_simp; (try (with_reducible rfl))
      try simp only [Act.put, List.setIfInBounds_toArray, List.set_cons_zero, List.set_cons_succ]
      refine wpAnyH_take (i := 2) (oi := { dst := some 24, op := Op.indexAddr 45 (Operand.tmp 22) (Operand.tmp 23), type := 0, pos := "exact.go:718", after := #[{ on := 0, ground := Ground.data }, { on := 1, ground := Ground.data }], guard := none }) (v := ?v39) rfl (by kernel_rfl) (by kernel_rfl) (by kernel_rfl) (fun _ _ _ h => h) (Or.inl ⟨by rfl, ?y39⟩) (by assumption) ?r39
      case y39 => intro w_ hSw; (try dsimp only at hSw); go_simp; (try (with_reducible rfl))
      try simp only [Act.put, List.setIfInBounds_toArray, List.set_cons_zero, List.set_cons_succ]
      refine wpAnyH_take (i := 3) (oi := { dst := some 25, op := Op.fieldAddr 136 (Operand.tmp 24) 1, type := 0, pos := "exact.go:718", after := #[{ on := 2, ground := Ground.data }], guard := none }) (v := ?v40) rfl (by kernel_rfl) (by kernel_rfl) (by kernel_rfl) (fun _ _ _ h => h) (Or.inl ⟨by rfl, ?y40⟩) (by assumption) ?r40
      case y40 => intro w_ hSw; (try dsimp only at hSw); go_simp; (try (with_reducible rfl))
      try simp only [Act.put, List.setIfInBounds_toArray, List.set_cons_zero, List.set_cons_succ]
      refine wpAnyH_take (i := 4) (oi := { dst := some 26, op := Op.load 9 (Operand.tmp 25), type := 9, pos := "exact.go:718", after := #[{ on := 3, ground := Ground.data }], guard := none }) (v := ?v41) rfl (by kernel_rfl) (by kernel_rfl) (by kernel_rfl) (fun _ _ _ h => h) (Or.inl ⟨by rfl, ?y41⟩) (by assumption) ?r41
      case y41 => intro w_ hSw; (try dsimp only at hSw); go_simp; (try (with_reducible rfl))
      try simp only [Act.put, List.setIfInBounds_toArray, List.set_cons_zero, List.set_cons_succ]
      refine wpAnyH_take (i := 5) (oi := { dst := some 27, op := Op.move (Operand.tmp 1), type := 3, pos := "exact.go:718", after := #[], guard := none }) (v := ?v42) rfl (by kernel_rfl) (by kernel_rfl) (by kernel_rfl) (fun _ _ _ h => h) (Or.inl ⟨by rfl, ?y42⟩) (by assumption) ?r42
      case y42 => intro w_ hSw; (try dsimp only at hSw); go_simp; (try (with_reducible rfl))
      try simp only [Act.put, List.setIfInBounds_toArray, List.set_cons_zero, List.set_cons_succ]
      refine wpAnyH_ready (rs := [6]) (by kernel_rfl) (by simp) ?_
      refine AllReadyH.cons (o := { dst := some 28, op := Op.call { callee := Callee.value (Operand.func 139), args := #[Operand.tmp 27], argTypes := #[3] }, type := 9, pos := "exact.go:718", after := #[{ on := 5, ground := Ground.data }], guard := none }) rfl (fun K hK => ?k43) AllReadyH.nil
      case' k43 => skip
      go_simp
      refine (markText_at (b + 1) _ (by omega) (by omega) _).mono ?_
      rintro e w1 ⟨rfl, b1⟩
      refine hK.out _ _ ?h43 (fun hHeld => ?j43)
      case h43 => exact HK1.out _ _ b1 hHeld
      clear hK K
      try simp only [Act.put, List.setIfInBounds_toArray, List.set_cons_zero, List.set_cons_succ]
      refine wpAnyH_take (i := 7) (oi := { dst := some 29, op := Op.binOp BinOp.neq 9 (Operand.tmp 26) (Operand.tmp 28) 9, type := 4, pos := "exact.go:718", after := #[{ on := 4, ground := Ground.data }, { on := 6, ground := Ground.data }], guard := none }) (v := ?v44) rfl (by kernel_rfl) (by kernel_rfl) (by kernel_rfl) (fun _ _ _ h => h) (Or.inl ⟨by rfl, ?y44⟩) (by assumption) ?r44
      case y44 => intro w_ hSw; (try dsimp only at hSw); go_simp; (try (with_reducible rfl))
      try simp only [Act.put, List.setIfInBounds_toArray, List.set_cons_zero, List.set_cons_succ]
      refine wpAnyH_done (by kernel_rfl) ?_ _
      obtain ⟨r1_1, BH1⟩ := hHeld
      clear HK1 b1
      go_wp2
      go_roundg (n - (k + 1))
      case measure => omega
      case rel => exact ⟨k + 1, b + 2, by omega, Nat.le_refl _, by first | rfl | (congr 1; done) | (congr 1; omega) | (congr 2; omega), by omega, ⟨by have := HB.out; omega⟩, by go_num, ⟨bel_then BW.out BH1⟩⟩
    · have hlt' : ¬ (k : Int) < (n : Int) := by omega
      have hkn : k = n := by omega
      have hbb := HB.out
      rw [hkn] at hbb
      have HBB := Lib.hid hbb
      clear hbb HB
      go_wp2
      go_ret
      exact ⟨reti (by have := HBB.out; omega), BW.out⟩
set_option maxRecDepth 100000 in
set_option maxHeartbeats 4000000 in
theorem heldRcptS_any (A : Option Addr) (c n : Nat) (a : Nat) (w : World) (hr : Kd.C kRcpt w A n (mksRcpt a n)) (hlen : n ≤ 1048576) (ha : a ≤ 2305843009213693952) :
    Calls Tryz.prog 181 #[.slice A n c, .int .i64 (a : Int)] w fun e w' => e = .returned (.int .i64 ((a + 4 * n : Nat) : Int)) ∧ Below w.heap.size w w' := by
  go_enter Tryz.func181, Tryz.ntmps181
  go_wp2
  go_loopg [1, 5] n (fun gq v1 v5 wr => ∃ (k b : Nat), k ≤ n ∧ n - k ≤ gq ∧ v1 = .int .i64 (b : Int) ∧ b ≤ a + 4 * k ∧ Aside0 (b = a + 4 * k) ∧ v5 = .int .i64 (k : Int) ∧ Aside0 (Below w.heap.size w wr))
  case atStart => exact ⟨0, a, Nat.zero_le _, by omega, rfl, by omega, ⟨by omega⟩, rfl, ⟨Below.refl _ _⟩⟩
  case round =>
    obtain ⟨k, b, hk, hg, rfl, hb, HB, rfl, BW⟩ := hrel
    by_cases hlt : k < n
    · have hlt' : (k : Int) < (n : Int) := by omega
      obtain ⟨ad, e1, p0, p1, p2, p3⟩ := at_Rcpt (Kd.C_below hr BW.out) k hlt
      subst e1
      have hv : (mksRcpt a n).getD k zRcpt = mkRcpt b := by rw [HB.out]; simp [mksRcpt, hlt]
      rw [hv] at p0 p1 p2 p3
      clear hv hr
      replace p0 : wr.cell? (ad.add (k * 4)) = some (.string (markS (b + 0))) := p0
      replace p1 : wr.cell? ⟨(ad.add (k * 4)).block, (ad.add (k * 4)).off + 1, none⟩ = some (.string (markS (b + 1))) := p1
      replace p2 : wr.cell? ⟨(ad.add (k * 4)).block, (ad.add (k * 4)).off + 2, none⟩ = some (.int .i64 ((b : Int) + 1 + 1)) := (by rw [p2]; unfold mkRcpt; congr 2)
      replace p3 : wr.cell? ⟨(ad.add (k * 4)).block, (ad.add (k * 4)).off + 3, none⟩ = some (.int .i64 ((b : Int) + 1 + 1 + 1)) := (by rw [p3]; unfold mkRcpt; congr 2)
      have hk0 : (0 : Int) ≤ (k : Int) := by omega
      have HK0 : Aside0 (∀ W W1, Below W.heap.size W W1 → (W.cell? (ad.add (k * 4)) = some (.string (markS (b + 0))) ∧ W.cell? ⟨(ad.add (k * 4)).block, (ad.add (k * 4)).off + 1, none⟩ = some (.string (markS (b + 1))) ∧ W.cell? ⟨(ad.add (k * 4)).block, (ad.add (k * 4)).off + 2, none⟩ = some (.int .i64 ((b : Int) + 1 + 1)) ∧ W.cell? ⟨(ad.add (k * 4)).block, (ad.add (k * 4)).off + 3, none⟩ = some (.int .i64 ((b : Int) + 1 + 1 + 1)) ∧ Below wr.heap.size wr W) → (W1.cell? (ad.add (k * 4)) = some (.string (markS (b + 0))) ∧ W1.cell? ⟨(ad.add (k * 4)).block, (ad.add (k * 4)).off + 1, none⟩ = some (.string (markS (b + 1))) ∧ W1.cell? ⟨(ad.add (k * 4)).block, (ad.add (k * 4)).off + 2, none⟩ = some (.int .i64 ((b : Int) + 1 + 1)) ∧ W1.cell? ⟨(ad.add (k * 4)).block, (ad.add (k * 4)).off + 3, none⟩ = some (.int .i64 ((b : Int) + 1 + 1 + 1)) ∧ Below wr.heap.size wr W1)) := ⟨fun W W1 hb h => ⟨(hb.cell (World.block_lt_of_cell? W _ (h.1))).trans (h.1), (hb.cell (World.block_lt_of_cell? W _ (h.2.1))).trans (h.2.1), (hb.cell (World.block_lt_of_cell? W _ (h.2.2.1))).trans (h.2.2.1), (hb.cell (World.block_lt_of_cell? W _ (h.2.2.2.1))).trans (h.2.2.2.1), bel_then (h.2.2.2.2) hb⟩⟩
      go_wp2
      refine wp_region_held_drew (S := (fun W => W.cell? (ad.add (k * 4)) = some (.string (markS (b + 0))) ∧ W.cell? ⟨(ad.add (k * 4)).block, (ad.add (k * 4)).off + 1, none⟩ = some (.string (markS (b + 1))) ∧ W.cell? ⟨(ad.add (k * 4)).block, (ad.add (k * 4)).off + 2, none⟩ = some (.int .i64 ((b : Int) + 1 + 1)) ∧ W.cell? ⟨(ad.add (k * 4)).block, (ad.add (k * 4)).off + 3, none⟩ = some (.int .i64 ((b : Int) + 1 + 1 + 1)) ∧ Below wr.heap.size wr W)) (by kernel_rfl) ?s45 (fun hHeld => ?t45)
      case s45 => exact ⟨p0, p1, p2, p3, bel_then (Below.refl wr.heap.size wr) (drew_below0 _)⟩
      refine wpAnyH_take (i := 0) (oi := { dst := some 12, op := Op.move (Operand.tmp 0), type := 200, pos := "exact.go:1079", after := #[], guard := none }) (v := ?v46) rfl (by kernel_rfl) (by kernel_rfl) (by kernel_rfl) (fun _ _ _ h => h) (Or.inl ⟨by rfl, ?y46⟩) (by assumption) ?r46
      case y46 => intro w_ hSw; (try dsimp only at hSw); go_simp; (try (with_reducible rfl))
      try simp only [Act.put, List.setIfInBounds_toArray, List.set_cons_zero, List.set_cons_succ]
      refine wpAnyH_take (i := 1) (oi := { dst := some 13, op := Op.move (Operand.tmp 5), type := 3, pos := "exact.go:1079", after := #[], guard := none }) (v := ?v47) rfl (by kernel_rfl) (by kernel_rfl) (by kernel_rfl) (fun _ _ _ h => h) (Or.inl ⟨by rfl, ?y47⟩) (by assumption) ?r47
      case y47 => intro w_ hSw; (try dsimp only at hSw); go_simp; (try (with_reducible rfl))
      try simp only [Act.put, List.setIfInBounds_toArray, List.set_cons_zero, List.set_cons_succ]
      refine wpAnyH_take (i := 2) (oi := { dst := some 14, op := Op.indexAddr 200 (Operand.tmp 12) (Operand.tmp 13), type := 0, pos := "exact.go:1079", after := #[{ on := 0, ground := Ground.data }, { on := 1, ground := Ground.data }], guard := none }) (v := ?v48) rfl (by kernel_rfl) (by kernel_rfl) (by kernel_rfl) (fun _ _ _ h => h) (Or.inl ⟨by rfl, ?y48⟩) (by assumption) ?r48
      case y48 => intro w_ hSw; (try dsimp only at hSw); go_simp; (try (with_reducible rfl))
      try simp only [Act.put, List.setIfInBounds_toArray, List.set_cons_zero, List.set_cons_succ]
      refine wpAnyH_take (i := 3) (oi := { dst := some 15, op := Op.fieldAddr 225 (Operand.tmp 14) 0, type := 0, pos := "exact.go:1079", after := #[{ on := 2, ground := Ground.data }], guard := none }) (v := ?v49) rfl (by kernel_rfl) (by kernel_rfl) (by kernel_rfl) (fun _ _ _ h => h) (Or.inl ⟨by rfl, ?y49⟩) (by assumption) ?r49
      case y49 => intro w_ hSw; (try dsimp only at hSw); go_simp; (try (with_reducible rfl))
      try simp only [Act.put, List.setIfInBounds_toArray, List.set_cons_zero, List.set_cons_succ]
      refine wpAnyH_take (i := 4) (oi := { dst := some 16, op := Op.fieldAddr 32 (Operand.tmp 15) 0, type := 0, pos := "exact.go:1079", after := #[{ on := 3, ground := Ground.data }], guard := none }) (v := ?v50) rfl (by kernel_rfl) (by kernel_rfl) (by kernel_rfl) (fun _ _ _ h => h) (Or.inl ⟨by rfl, ?y50⟩) (by assumption) ?r50
      case y50 => intro w_ hSw; (try dsimp only at hSw); go_simp; (try (with_reducible rfl))
      try simp only [Act.put, List.setIfInBounds_toArray, List.set_cons_zero, List.set_cons_succ]
      refine wpAnyH_take (i := 5) (oi := { dst := some 17, op := Op.load 9 (Operand.tmp 16), type := 9, pos := "exact.go:1079", after := #[{ on := 4, ground := Ground.data }], guard := none }) (v := ?v51) rfl (by kernel_rfl) (by kernel_rfl) (by kernel_rfl) (fun _ _ _ h => h) (Or.inl ⟨by rfl, ?y51⟩) (by assumption) ?r51
      case y51 => intro w_ hSw; (try dsimp only at hSw); go_simp; (try (with_reducible rfl))
      try simp only [Act.put, List.setIfInBounds_toArray, List.set_cons_zero, List.set_cons_succ]
      refine wpAnyH_take (i := 6) (oi := { dst := some 18, op := Op.move (Operand.tmp 1), type := 3, pos := "exact.go:1079", after := #[], guard := none }) (v := ?v52) rfl (by kernel_rfl) (by kernel_rfl) (by kernel_rfl) (fun _ _ _ h => h) (Or.inl ⟨by rfl, ?y52⟩) (by assumption) ?r52
      case y52 => intro w_ hSw; (try dsimp only at hSw); go_simp; (try (with_reducible rfl))
      try simp only [Act.put, List.setIfInBounds_toArray, List.set_cons_zero, List.set_cons_succ]
      refine wpAnyH_ready (rs := [7]) (by kernel_rfl) (by simp) ?_
      refine AllReadyH.cons (o := { dst := some 19, op := Op.call { callee := Callee.value (Operand.func 139), args := #[Operand.tmp 18], argTypes := #[3] }, type := 9, pos := "exact.go:1079", after := #[{ on := 6, ground := Ground.data }], guard := none }) rfl (fun K hK => ?k53) AllReadyH.nil
      case' k53 => skip
      go_simp
      refine (markText_at (b + 0) _ (by omega) (by omega) _).mono ?_
      rintro e w0 ⟨rfl, b0⟩
      refine hK.out _ _ ?h53 (fun hHeld => ?j53)
      case h53 => exact HK0.out _ _ b0 hHeld
      clear hK K
      try simp only [Act.put, List.setIfInBounds_toArray, List.set_cons_zero, List.set_cons_succ]
      refine wpAnyH_take (i := 8) (oi := { dst := some 20, op := Op.binOp BinOp.neq 9 (Operand.tmp 17) (Operand.tmp 19) 9, type := 4, pos := "exact.go:1079", after := #[{ on := 5, ground := Ground.data }, { on := 7, ground := Ground.data }], guard := none }) (v := ?v54) rfl (by kernel_rfl) (by kernel_rfl) (by kernel_rfl) (fun _ _ _ h => h) (Or.inl ⟨by rfl, ?y54⟩) (by assumption) ?r54
      case y54 => intro w_ hSw; (try dsimp only at hSw); go_simp; (try (with_reducible rfl))
      try simp only [Act.put, List.setIfInBounds_toArray, List.set_cons_zero, List.set_cons_succ]
      refine wpAnyH_done (by kernel_rfl) ?_ _
      obtain ⟨r0_0, r0_1, r0_2, r0_3, BH0⟩ := hHeld
      clear HK0 b0
      have HK1 : Aside0 (∀ W W1, Below W.heap.size W W1 → (W.cell? ⟨(ad.add (k * 4)).block, (ad.add (k * 4)).off + 1, none⟩ = some (.string (markS (b + 1))) ∧ W.cell? ⟨(ad.add (k * 4)).block, (ad.add (k * 4)).off + 2, none⟩ = some (.int .i64 ((b : Int) + 1 + 1)) ∧ W.cell? ⟨(ad.add (k * 4)).block, (ad.add (k * 4)).off + 3, none⟩ = some (.int .i64 ((b : Int) + 1 + 1 + 1)) ∧ Below wr.heap.size wr W) → (W1.cell? ⟨(ad.add (k * 4)).block, (ad.add (k * 4)).off + 1, none⟩ = some (.string (markS (b + 1))) ∧ W1.cell? ⟨(ad.add (k * 4)).block, (ad.add (k * 4)).off + 2, none⟩ = some (.int .i64 ((b : Int) + 1 + 1)) ∧ W1.cell? ⟨(ad.add (k * 4)).block, (ad.add (k * 4)).off + 3, none⟩ = some (.int .i64 ((b : Int) + 1 + 1 + 1)) ∧ Below wr.heap.size wr W1)) := ⟨fun W W1 hb h => ⟨(hb.cell (World.block_lt_of_cell? W _ (h.1))).trans (h.1), (hb.cell (World.block_lt_of_cell? W _ (h.2.1))).trans (h.2.1), (hb.cell (World.block_lt_of_cell? W _ (h.2.2.1))).trans (h.2.2.1), bel_then (h.2.2.2) hb⟩⟩
      go_wp2
      refine wp_region_held_drew (S := (fun W => W.cell? ⟨(ad.add (k * 4)).block, (ad.add (k * 4)).off + 1, none⟩ = some (.string (markS (b + 1))) ∧ W.cell? ⟨(ad.add (k * 4)).block, (ad.add (k * 4)).off + 2, none⟩ = some (.int .i64 ((b : Int) + 1 + 1)) ∧ W.cell? ⟨(ad.add (k * 4)).block, (ad.add (k * 4)).off + 3, none⟩ = some (.int .i64 ((b : Int) + 1 + 1 + 1)) ∧ Below wr.heap.size wr W)) (by kernel_rfl) ?s55 (fun hHeld => ?t55)
      case s55 => exact ⟨r0_1, r0_2, r0_3, bel_then BH0 (drew_below0 _)⟩
      refine wpAnyH_take (i := 0) (oi := { dst := some 23, op := Op.move (Operand.tmp 0), type := 200, pos := "exact.go:1083", after := #[], guard := none }) (v := ?v56) rfl (by kernel_rfl) (by kernel_rfl) (by kernel_rfl) (fun _ _ _ h => h) (Or.inl ⟨by rfl, ?y56⟩) (by assumption) ?r56
      case y56 => intro w_ hSw; (try dsimp only at hSw); go_simp; (try (with_reducible rfl))
      try simp only [Act.put, List.setIfInBounds_toArray, List.set_cons_zero, List.set_cons_succ]
      refine wpAnyH_take (i := 1) (oi := { dst := some 24, op := Op.move (Operand.tmp 5), type := 3, pos := "exact.go:1083", after := #[], guard := none }) (v := ?v57) rfl (by kernel_rfl) (by kernel_rfl) (by kernel_rfl) (fun _ _ _ h => h) (Or.inl ⟨by rfl, ?y57⟩) (by assumption) ?r57
      case y57 => intro w_ hSw; (try dsimp only at hSw); go_simp; (try (with_reducible rfl))
      try simp only [Act.put, List.setIfInBounds_toArray, List.set_cons_zero, List.set_cons_succ]
      refine wpAnyH_take (i := 2) (oi := { dst := some 25, op := Op.indexAddr 200 (Operand.tmp 23) (Operand.tmp 24), type := 0, pos := "exact.go:1083", after := #[{ on := 0, ground := Ground.data }, { on := 1, ground := Ground.data }], guard := none }) (v := ?v58) rfl (by kernel_rfl) (by kernel_rfl) (by kernel_rfl) (fun _ _ _ h => h) (Or.inl ⟨by rfl, ?y58⟩) (by assumption) ?r58
      case y58 => intro w_ hSw; (try dsimp only at hSw); go_simp; (try (with_reducible rfl))
      try simp only [Act.put, List.setIfInBounds_toArray, List.set_cons_zero, List.set_cons_succ]
      refine wpAnyH_take (i := 3) (oi := { dst := some 26, op := Op.fieldAddr 225 (Operand.tmp 25) 0, type := 0, pos := "exact.go:1083", after := #[{ on := 2, ground := Ground.data }], guard := none }) (v := ?v59) rfl (by kernel_rfl) (by kernel_rfl) (by kernel_rfl) (fun _ _ _ h => h) (Or.inl ⟨by rfl, ?y59⟩) (by assumption) ?r59
      case y59 => intro w_ hSw; (try dsimp only at hSw); go_simp; (try (with_reducible rfl))
      try simp only [Act.put, List.setIfInBounds_toArray, List.set_cons_zero, List.set_cons_succ]
      refine wpAnyH_take (i := 4) (oi := { dst := some 27, op := Op.fieldAddr 32 (Operand.tmp 26) 1, type := 0, pos := "exact.go:1083", after := #[{ on := 3, ground := Ground.data }], guard := none }) (v := ?v60) rfl (by kernel_rfl) (by kernel_rfl) (by kernel_rfl) (fun _ _ _ h => h) (Or.inl ⟨by rfl, ?y60⟩) (by assumption) ?r60
      case y60 => intro w_ hSw; (try dsimp only at hSw); go_simp; (try (with_reducible rfl))
      try simp only [Act.put, List.setIfInBounds_toArray, List.set_cons_zero, List.set_cons_succ]
      refine wpAnyH_take (i := 5) (oi := { dst := some 28, op := Op.load 9 (Operand.tmp 27), type := 9, pos := "exact.go:1083", after := #[{ on := 4, ground := Ground.data }], guard := none }) (v := ?v61) rfl (by kernel_rfl) (by kernel_rfl) (by kernel_rfl) (fun _ _ _ h => h) (Or.inl ⟨by rfl, ?y61⟩) (by assumption) ?r61
      case y61 => intro w_ hSw; (try dsimp only at hSw); go_simp; (try (with_reducible rfl))
      try simp only [Act.put, List.setIfInBounds_toArray, List.set_cons_zero, List.set_cons_succ]
      refine wpAnyH_take (i := 6) (oi := { dst := some 29, op := Op.move (Operand.tmp 1), type := 3, pos := "exact.go:1083", after := #[], guard := none }) (v := ?v62) rfl (by kernel_rfl) (by kernel_rfl) (by kernel_rfl) (fun _ _ _ h => h) (Or.inl ⟨by rfl, ?y62⟩) (by assumption) ?r62
      case y62 => intro w_ hSw; (try dsimp only at hSw); go_simp; (try (with_reducible rfl))
      try simp only [Act.put, List.setIfInBounds_toArray, List.set_cons_zero, List.set_cons_succ]
      refine wpAnyH_ready (rs := [7]) (by kernel_rfl) (by simp) ?_
      refine AllReadyH.cons (o := { dst := some 30, op := Op.call { callee := Callee.value (Operand.func 139), args := #[Operand.tmp 29], argTypes := #[3] }, type := 9, pos := "exact.go:1083", after := #[{ on := 6, ground := Ground.data }], guard := none }) rfl (fun K hK => ?k63) AllReadyH.nil
      case' k63 => skip
      go_simp
      refine (markText_at (b + 1) _ (by omega) (by omega) _).mono ?_
      rintro e w1 ⟨rfl, b1⟩
      refine hK.out _ _ ?h63 (fun hHeld => ?j63)
      case h63 => exact HK1.out _ _ b1 hHeld
      clear hK K
      try simp only [Act.put, List.setIfInBounds_toArray, List.set_cons_zero, List.set_cons_succ]
      refine wpAnyH_take (i := 8) (oi := { dst := some 31, op := Op.binOp BinOp.neq 9 (Operand.tmp 28) (Operand.tmp 30) 9, type := 4, pos := "exact.go:1083", after := #[{ on := 5, ground := Ground.data }, { on := 7, ground := Ground.data }], guard := none }) (v := ?v64) rfl (by kernel_rfl) (by kernel_rfl) (by kernel_rfl) (fun _ _ _ h => h) (Or.inl ⟨by rfl, ?y64⟩) (by assumption) ?r64
      case y64 => intro w_ hSw; (try dsimp only at hSw); go_simp; (try (with_reducible rfl))
      try simp only [Act.put, List.setIfInBounds_toArray, List.set_cons_zero, List.set_cons_succ]
      refine wpAnyH_done (by kernel_rfl) ?_ _
      obtain ⟨r1_1, r1_2, r1_3, BH1⟩ := hHeld
      clear HK1 b1
      go_wp2
      go_roundg (n - (k + 1))
      case measure => omega
      case rel => exact ⟨k + 1, b + 4, by omega, Nat.le_refl _, by first | rfl | (congr 1; done) | (congr 1; omega) | (congr 2; omega), by omega, ⟨by have := HB.out; omega⟩, by go_num, ⟨bel_then BW.out BH1⟩⟩
    · have hlt' : ¬ (k : Int) < (n : Int) := by omega
      have hkn : k = n := by omega
      have hbb := HB.out
      rw [hkn] at hbb
      have HBB := Lib.hid hbb
      clear hbb HB
      go_wp2
      go_ret
      exact ⟨reti (by have := HBB.out; omega), BW.out⟩
set_option maxRecDepth 100000 in
set_option maxHeartbeats 4000000 in
theorem heldLossS_any (A : Option Addr) (c n : Nat) (a : Nat) (w : World) (hr : Kd.C kLoss w A n (mksLoss a n)) (hlen : n ≤ 1048576) (ha : a ≤ 2305843009213693952) :
    Calls Tryz.prog 82 #[.slice A n c, .int .i64 (a : Int)] w fun e w' => e = .returned (.int .i64 ((a + 3 * n : Nat) : Int)) ∧ Below w.heap.size w w' := by
  go_enter Tryz.func82, Tryz.ntmps82
  go_wp2
  go_loopg [1, 5] n (fun gq v1 v5 wr => ∃ (k b : Nat), k ≤ n ∧ n - k ≤ gq ∧ v1 = .int .i64 (b : Int) ∧ b ≤ a + 3 * k ∧ Aside0 (b = a + 3 * k) ∧ v5 = .int .i64 (k : Int) ∧ Aside0 (Below w.heap.size w wr))
  case atStart => exact ⟨0, a, Nat.zero_le _, by omega, rfl, by omega, ⟨by omega⟩, rfl, ⟨Below.refl _ _⟩⟩
  case round =>
    obtain ⟨k, b, hk, hg, rfl, hb, HB, rfl, BW⟩ := hrel
    by_cases hlt : k < n
    · have hlt' : (k : Int) < (n : Int) := by omega
      obtain ⟨ad, e1, p0, p1, p2⟩ := at_Loss (Kd.C_below hr BW.out) k hlt
      subst e1
      have hv : (mksLoss a n).getD k zLoss = mkLoss b := by rw [HB.out]; simp [mksLoss, hlt]
      rw [hv] at p0 p1 p2
      clear hv hr
      replace p0 : wr.cell? (ad.add (k * 3)) = some (.string (markS (b + 0))) := p0
      replace p1 : wr.cell? ⟨(ad.add (k * 3)).block, (ad.add (k * 3)).off + 1, none⟩ = some (.string (markS (b + 1))) := p1
      replace p2 : wr.cell? ⟨(ad.add (k * 3)).block, (ad.add (k * 3)).off + 2, none⟩ = some (.string (markS (b + 2))) := p2
      have hk0 : (0 : Int) ≤ (k : Int) := by omega
      have HK0 : Aside0 (∀ W W1, Below W.heap.size W W1 → (W.cell? (ad.add (k * 3)) = some (.string (markS (b + 0))) ∧ W.cell? ⟨(ad.add (k * 3)).block, (ad.add (k * 3)).off + 1, none⟩ = some (.string (markS (b + 1))) ∧ W.cell? ⟨(ad.add (k * 3)).block, (ad.add (k * 3)).off + 2, none⟩ = some (.string (markS (b + 2))) ∧ Below wr.heap.size wr W) → (W1.cell? (ad.add (k * 3)) = some (.string (markS (b + 0))) ∧ W1.cell? ⟨(ad.add (k * 3)).block, (ad.add (k * 3)).off + 1, none⟩ = some (.string (markS (b + 1))) ∧ W1.cell? ⟨(ad.add (k * 3)).block, (ad.add (k * 3)).off + 2, none⟩ = some (.string (markS (b + 2))) ∧ Below wr.heap.size wr W1)) := ⟨fun W W1 hb h => ⟨(hb.cell (World.block_lt_of_cell? W _ (h.1))).trans (h.1), (hb.cell (World.block_lt_of_cell? W _ (h.2.1))).trans (h.2.1), (hb.cell (World.block_lt_of_cell? W _ (h.2.2.1))).trans (h.2.2.1), bel_then (h.2.2.2) hb⟩⟩
      go_wp2
      refine wp_region_held_drew (S := (fun W => W.cell? (ad.add (k * 3)) = some (.string (markS (b + 0))) ∧ W.cell? ⟨(ad.add (k * 3)).block, (ad.add (k * 3)).off + 1, none⟩ = some (.string (markS (b + 1))) ∧ W.cell? ⟨(ad.add (k * 3)).block, (ad.add (k * 3)).off + 2, none⟩ = some (.string (markS (b + 2))) ∧ Below wr.heap.size wr W)) (by kernel_rfl) ?s65 (fun hHeld => ?t65)
      case s65 => exact ⟨p0, p1, p2, bel_then (Below.refl wr.heap.size wr) (drew_below0 _)⟩
      refine wpAnyH_take (i := 0) (oi := { dst := some 12, op := Op.move (Operand.tmp 0), type := 69, pos := "exact.go:1530", after := #[], guard := none }) (v := ?v66) rfl (by kernel_rfl) (by kernel_rfl) (by kernel_rfl) (fun _ _ _ h => h) (Or.inl ⟨by rfl, ?y66⟩) (by assumption) ?r66
      case y66 => intro w_ hSw; (try dsimp only at hSw); go_simp; (try (with_reducible rfl))
      try simp only [Act.put, List.setIfInBounds_toArray, List.set_cons_zero, List.set_cons_succ]
      refine wpAnyH_take (i := 1) (oi := { dst := some 13, op := Op.move (Operand.tmp 5), type := 3, pos := "exact.go:1530", after := #[], guard := none }) (v := ?v67) rfl (by kernel_rfl) (by kernel_rfl) (by kernel_rfl) (fun _ _ _ h => h) (Or.inl ⟨by rfl, ?y67⟩) (by assumption) ?r67
      case y67 => intro w_ hSw; (try dsimp only at hSw); go_simp; (try (with_reducible rfl))
      try simp only [Act.put, List.setIfInBounds_toArray, List.set_cons_zero, List.set_cons_succ]
      refine wpAnyH_take (i := 2) (oi := { dst := some 14, op := Op.indexAddr 69 (Operand.tmp 12) (Operand.tmp 13), type := 0, pos := "exact.go:1530", after := #[{ on := 0, ground := Ground.data }, { on := 1, ground := Ground.data }], guard := none }) (v := ?v68) rfl (by kernel_rfl) (by kernel_rfl) (by kernel_rfl) (fun _ _ _ h => h) (Or.inl ⟨by rfl, ?y68⟩) (by assumption) ?r68
      case y68 => intro w_ hSw; (try dsimp only at hSw); go_simp; (try (with_reducible rfl))
      try simp only [Act.put, List.setIfInBounds_toArray, List.set_cons_zero, List.set_cons_succ]
      refine wpAnyH_take (i := 3) (oi := { dst := some 15, op := Op.fieldAddr 166 (Operand.tmp 14) 0, type := 0, pos := "exact.go:1530", after := #[{ on := 2, ground := Ground.data }], guard := none }) (v := ?v69) rfl (by kernel_rfl) (by kernel_rfl) (by kernel_rfl) (fun _ _ _ h => h) (Or.inl ⟨by rfl, ?y69⟩) (by assumption) ?r69
      case y69 => intro w_ hSw; (try dsimp only at hSw); go_simp; (try (with_reducible rfl))
      try simp only [Act.put, List.setIfInBounds_toArray, List.set_cons_zero, List.set_cons_succ]
      refine wpAnyH_take (i := 4) (oi := { dst := some 16, op := Op.load 9 (Operand.tmp 15), type := 9, pos := "exact.go:1530", after := #[{ on := 3, ground := Ground.data }], guard := none }) (v := ?v70) rfl (by kernel_rfl) (by kernel_rfl) (by kernel_rfl) (fun _ _ _ h => h) (Or.inl ⟨by rfl, ?y70⟩) (by assumption) ?r70
      case y70 => intro w_ hSw; (try dsimp only at hSw); go_simp; (try (with_reducible rfl))
      try simp only [Act.put, List.setIfInBounds_toArray, List.set_cons_zero, List.set_cons_succ]
      refine wpAnyH_take (i := 5) (oi := { dst := some 17, op := Op.move (Operand.tmp 1), type := 3, pos := "exact.go:1530", after := #[], guard := none }) (v := ?v71) rfl (by kernel_rfl) (by kernel_rfl) (by kernel_rfl) (fun _ _ _ h => h) (Or.inl ⟨by rfl, ?y71⟩) (by assumption) ?r71
      case y71 => intro w_ hSw; (try dsimp only at hSw); go_simp; (try (with_reducible rfl))
      try simp only [Act.put, List.setIfInBounds_toArray, List.set_cons_zero, List.set_cons_succ]
      refine wpAnyH_ready (rs := [6]) (by kernel_rfl) (by simp) ?_
      refine AllReadyH.cons (o := { dst := some 18, op := Op.call { callee := Callee.value (Operand.func 139), args := #[Operand.tmp 17], argTypes := #[3] }, type := 9, pos := "exact.go:1530", after := #[{ on := 5, ground := Ground.data }], guard := none }) rfl (fun K hK => ?k72) AllReadyH.nil
      case' k72 => skip
      go_simp
      refine (markText_at (b + 0) _ (by omega) (by omega) _).mono ?_
      rintro e w0 ⟨rfl, b0⟩
      refine hK.out _ _ ?h72 (fun hHeld => ?j72)
      case h72 => exact HK0.out _ _ b0 hHeld
      clear hK K
      try simp only [Act.put, List.setIfInBounds_toArray, List.set_cons_zero, List.set_cons_succ]
      refine wpAnyH_take (i := 7) (oi := { dst := some 19, op := Op.binOp BinOp.neq 9 (Operand.tmp 16) (Operand.tmp 18) 9, type := 4, pos := "exact.go:1530", after := #[{ on := 4, ground := Ground.data }, { on := 6, ground := Ground.data }], guard := none }) (v := ?v73) rfl (by kernel_rfl) (by kernel_rfl) (by kernel_rfl) (fun _ _ _ h => h) (Or.inl ⟨by rfl, ?y73⟩) (by assumption) ?r73
      case y73 => intro w_ hSw; (try dsimp only at hSw); go_simp; (try (with_reducible rfl))
      try simp only [Act.put, List.setIfInBounds_toArray, List.set_cons_zero, List.set_cons_succ]
      refine wpAnyH_done (by kernel_rfl) ?_ _
      obtain ⟨r0_0, r0_1, r0_2, BH0⟩ := hHeld
      clear HK0 b0
      have HK1 : Aside0 (∀ W W1, Below W.heap.size W W1 → (W.cell? ⟨(ad.add (k * 3)).block, (ad.add (k * 3)).off + 1, none⟩ = some (.string (markS (b + 1))) ∧ W.cell? ⟨(ad.add (k * 3)).block, (ad.add (k * 3)).off + 2, none⟩ = some (.string (markS (b + 2))) ∧ Below wr.heap.size wr W) → (W1.cell? ⟨(ad.add (k * 3)).block, (ad.add (k * 3)).off + 1, none⟩ = some (.string (markS (b + 1))) ∧ W1.cell? ⟨(ad.add (k * 3)).block, (ad.add (k * 3)).off + 2, none⟩ = some (.string (markS (b + 2))) ∧ Below wr.heap.size wr W1)) := ⟨fun W W1 hb h => ⟨(hb.cell (World.block_lt_of_cell? W _ (h.1))).trans (h.1), (hb.cell (World.block_lt_of_cell? W _ (h.2.1))).trans (h.2.1), bel_then (h.2.2) hb⟩⟩
      go_wp2
      refine wp_region_held_drew (S := (fun W => W.cell? ⟨(ad.add (k * 3)).block, (ad.add (k * 3)).off + 1, none⟩ = some (.string (markS (b + 1))) ∧ W.cell? ⟨(ad.add (k * 3)).block, (ad.add (k * 3)).off + 2, none⟩ = some (.string (markS (b + 2))) ∧ Below wr.heap.size wr W)) (by kernel_rfl) ?s74 (fun hHeld => ?t74)
      case s74 => exact ⟨r0_1, r0_2, bel_then BH0 (drew_below0 _)⟩
      refine wpAnyH_take (i := 0) (oi := { dst := some 22, op := Op.move (Operand.tmp 0), type := 69, pos := "exact.go:1534", after := #[], guard := none }) (v := ?v75) rfl (by kernel_rfl) (by kernel_rfl) (by kernel_rfl) (fun _ _ _ h => h) (Or.inl ⟨by rfl, ?y75⟩) (by assumption) ?r75
      case y75 => intro w_ hSw; (try dsimp only at hSw); go_simp; (try (with_reducible rfl))
      try simp only [Act.put, List.setIfInBounds_toArray, List.set_cons_zero, List.set_cons_succ]
      refine wpAnyH_take (i := 1) (oi := { dst := some 23, op := Op.move (Operand.tmp 5), type := 3, pos := "exact.go:1534", after := #[], guard := none }) (v := ?v76) rfl (by kernel_rfl) (by kernel_rfl) (by kernel_rfl) (fun _ _ _ h => h) (Or.inl ⟨by rfl, ?y76⟩) (by assumption) ?r76
      case y76 => intro w_ hSw; (try dsimp only at hSw); go_simp; (try (with_reducible rfl))
      try simp only [Act.put, List.setIfInBounds_toArray, List.set_cons_zero, List.set_cons_succ]
      refine wpAnyH_take (i := 2) (oi := { dst := some 24, op := Op.indexAddr 69 (Operand.tmp 22) (Operand.tmp 23), type := 0, pos := "exact.go:1534", after := #[{ on := 0, ground := Ground.data }, { on := 1, ground := Ground.data }], guard := none }) (v := ?v77) rfl (by kernel_rfl) (by kernel_rfl) (by kernel_rfl) (fun _ _ _ h => h) (Or.inl ⟨by rfl, ?y77⟩) (by assumption) ?r77
      case y77 => intro w_ hSw; (try dsimp only at hSw); go_simp; (try (with_reducible rfl))
      try simp only [Act.put, List.setIfInBounds_toArray, List.set_cons_zero, List.set_cons_succ]
      refine wpAnyH_take (i := 3) (oi := { dst := some 25, op := Op.fieldAddr 166 (Operand.tmp 24) 1, type := 0, pos := "exact.go:1534", after := #[{ on := 2, ground := Ground.data }], guard := none }) (v := ?v78) rfl (by kernel_rfl) (by kernel_rfl) (by kernel_rfl) (fun _ _ _ h => h) (Or.inl ⟨by rfl, ?y78⟩) (by assumption) ?r78
      case y78 => intro w_ hSw; (try dsimp only at hSw); go_simp; (try (with_reducible rfl))
      try simp only [Act.put, List.setIfInBounds_toArray, List.set_cons_zero, List.set_cons_succ]
      refine wpAnyH_take (i := 4) (oi := { dst := some 26, op := Op.fieldAddr 32 (Operand.tmp 25) 0, type := 0, pos := "exact.go:1534", after := #[{ on := 3, ground := Ground.data }], guard := none }) (v := ?v79) rfl (by kernel_rfl) (by kernel_rfl) (by kernel_rfl) (fun _ _ _ h => h) (Or.inl ⟨by rfl, ?y79⟩) (by assumption) ?r79
      case y79 => intro w_ hSw; (try dsimp only at hSw); go_simp; (try (with_reducible rfl))
      try simp only [Act.put, List.setIfInBounds_toArray, List.set_cons_zero, List.set_cons_succ]
      refine wpAnyH_take (i := 5) (oi := { dst := some 27, op := Op.load 9 (Operand.tmp 26), type := 9, pos := "exact.go:1534", after := #[{ on := 4, ground := Ground.data }], guard := none }) (v := ?v80) rfl (by kernel_rfl) (by kernel_rfl) (by kernel_rfl) (fun _ _ _ h => h) (Or.inl ⟨by rfl, ?y80⟩) (by assumption) ?r80
      case y80 => intro w_ hSw; (try dsimp only at hSw); go_simp; (try (with_reducible rfl))
      try simp only [Act.put, List.setIfInBounds_toArray, List.set_cons_zero, List.set_cons_succ]
      refine wpAnyH_take (i := 6) (oi := { dst := some 28, op := Op.move (Operand.tmp 1), type := 3, pos := "exact.go:1534", after := #[], guard := none }) (v := ?v81) rfl (by kernel_rfl) (by kernel_rfl) (by kernel_rfl) (fun _ _ _ h => h) (Or.inl ⟨by rfl, ?y81⟩) (by assumption) ?r81
      case y81 => intro w_ hSw; (try dsimp only at hSw); go_simp; (try (with_reducible rfl))
      try simp only [Act.put, List.setIfInBounds_toArray, List.set_cons_zero, List.set_cons_succ]
      refine wpAnyH_ready (rs := [7]) (by kernel_rfl) (by simp) ?_
      refine AllReadyH.cons (o := { dst := some 29, op := Op.call { callee := Callee.value (Operand.func 139), args := #[Operand.tmp 28], argTypes := #[3] }, type := 9, pos := "exact.go:1534", after := #[{ on := 6, ground := Ground.data }], guard := none }) rfl (fun K hK => ?k82) AllReadyH.nil
      case' k82 => skip
      go_simp
      refine (markText_at (b + 1) _ (by omega) (by omega) _).mono ?_
      rintro e w1 ⟨rfl, b1⟩
      refine hK.out _ _ ?h82 (fun hHeld => ?j82)
      case h82 => exact HK1.out _ _ b1 hHeld
      clear hK K
      try simp only [Act.put, List.setIfInBounds_toArray, List.set_cons_zero, List.set_cons_succ]
      refine wpAnyH_take (i := 8) (oi := { dst := some 30, op := Op.binOp BinOp.neq 9 (Operand.tmp 27) (Operand.tmp 29) 9, type := 4, pos := "exact.go:1534", after := #[{ on := 5, ground := Ground.data }, { on := 7, ground := Ground.data }], guard := none }) (v := ?v83) rfl (by kernel_rfl) (by kernel_rfl) (by kernel_rfl) (fun _ _ _ h => h) (Or.inl ⟨by rfl, ?y83⟩) (by assumption) ?r83
      case y83 => intro w_ hSw; (try dsimp only at hSw); go_simp; (try (with_reducible rfl))
      try simp only [Act.put, List.setIfInBounds_toArray, List.set_cons_zero, List.set_cons_succ]
      refine wpAnyH_done (by kernel_rfl) ?_ _
      obtain ⟨r1_1, r1_2, BH1⟩ := hHeld
      clear HK1 b1
      have HK2 : Aside0 (∀ W W1, Below W.heap.size W W1 → (W.cell? ⟨(ad.add (k * 3)).block, (ad.add (k * 3)).off + 2, none⟩ = some (.string (markS (b + 2))) ∧ Below wr.heap.size wr W) → (W1.cell? ⟨(ad.add (k * 3)).block, (ad.add (k * 3)).off + 2, none⟩ = some (.string (markS (b + 2))) ∧ Below wr.heap.size wr W1)) := ⟨fun W W1 hb h => ⟨(hb.cell (World.block_lt_of_cell? W _ (h.1))).trans (h.1), bel_then (h.2) hb⟩⟩
      go_wp2
      refine wp_region_held_drew (S := (fun W => W.cell? ⟨(ad.add (k * 3)).block, (ad.add (k * 3)).off + 2, none⟩ = some (.string (markS (b + 2))) ∧ Below wr.heap.size wr W)) (by kernel_rfl) ?s84 (fun hHeld => ?t84)
      case s84 => exact ⟨r1_2, bel_then BH1 (drew_below0 _)⟩
      refine wpAnyH_take (i := 0) (oi := { dst := some 33, op := Op.move (Operand.tmp 0), type := 69, pos := "exact.go:1538", after := #[], guard := none }) (v := ?v85) rfl (by kernel_rfl) (by kernel_rfl) (by kernel_rfl) (fun _ _ _ h => h) (Or.inl ⟨by rfl, ?y85⟩) (by assumption) ?r85
      case y85 => intro w_ hSw; (try dsimp only at hSw); go_simp; (try (with_reducible rfl))
      try simp only [Act.put, List.setIfInBounds_toArray, List.set_cons_zero, List.set_cons_succ]
      refine wpAnyH_take (i := 1) (oi := { dst := some 34, op := Op.move (Operand.tmp 5), type := 3, pos := "exact.go:1538", after := #[], guard := none }) (v := ?v86) rfl (by kernel_rfl) (by kernel_rfl) (by kernel_rfl) (fun _ _ _ h => h) (Or.inl ⟨by rfl, ?y86⟩) (by assumption) ?r86
      case y86 => intro w_ hSw; (try dsimp only at hSw); go_simp; (try (with_reducible rfl))
      try simp only [Act.put, List.setIfInBounds_toArray, List.set_cons_zero, List.set_cons_succ]
      refine wpAnyH_take (i := 2) (oi := { dst := some 35, op := Op.indexAddr 69 (Operand.tmp 33) (Operand.tmp 34), type := 0, pos := "exact.go:1538", after := #[{ on := 0, ground := Ground.data }, { on := 1, ground := Ground.data }], guard := none }) (v := ?v87) rfl (by kernel_rfl) (by kernel_rfl) (by kernel_rfl) (fun _ _ _ h => h) (Or.inl ⟨by rfl, ?y87⟩) (by assumption) ?r87
      case y87 => intro w_ hSw; (try dsimp only at hSw); go_simp; (try (with_reducible rfl))
      try simp only [Act.put, List.setIfInBounds_toArray, List.set_cons_zero, List.set_cons_succ]
      refine wpAnyH_take (i := 3) (oi := { dst := some 36, op := Op.fieldAddr 166 (Operand.tmp 35) 1, type := 0, pos := "exact.go:1538", after := #[{ on := 2, ground := Ground.data }], guard := none }) (v := ?v88) rfl (by kernel_rfl) (by kernel_rfl) (by kernel_rfl) (fun _ _ _ h => h) (Or.inl ⟨by rfl, ?y88⟩) (by assumption) ?r88
      case y88 => intro w_ hSw; (try dsimp only at hSw); go_simp; (try (with_reducible rfl))
      try simp only [Act.put, List.setIfInBounds_toArray, List.set_cons_zero, List.set_cons_succ]
      refine wpAnyH_take (i := 4) (oi := { dst := some 37, op := Op.fieldAddr 32 (Operand.tmp 36) 1, type := 0, pos := "exact.go:1538", after := #[{ on := 3, ground := Ground.data }], guard := none }) (v := ?v89) rfl (by kernel_rfl) (by kernel_rfl) (by kernel_rfl) (fun _ _ _ h => h) (Or.inl ⟨by rfl, ?y89⟩) (by assumption) ?r89
      case y89 => intro w_ hSw; (try dsimp only at hSw); go_simp; (try (with_reducible rfl))
      try simp only [Act.put, List.setIfInBounds_toArray, List.set_cons_zero, List.set_cons_succ]
      refine wpAnyH_take (i := 5) (oi := { dst := some 38, op := Op.load 9 (Operand.tmp 37), type := 9, pos := "exact.go:1538", after := #[{ on := 4, ground := Ground.data }], guard := none }) (v := ?v90) rfl (by kernel_rfl) (by kernel_rfl) (by kernel_rfl) (fun _ _ _ h => h) (Or.inl ⟨by rfl, ?y90⟩) (by assumption) ?r90
      case y90 => intro w_ hSw; (try dsimp only at hSw); go_simp; (try (with_reducible rfl))
      try simp only [Act.put, List.setIfInBounds_toArray, List.set_cons_zero, List.set_cons_succ]
      refine wpAnyH_take (i := 6) (oi := { dst := some 39, op := Op.move (Operand.tmp 1), type := 3, pos := "exact.go:1538", after := #[], guard := none }) (v := ?v91) rfl (by kernel_rfl) (by kernel_rfl) (by kernel_rfl) (fun _ _ _ h => h) (Or.inl ⟨by rfl, ?y91⟩) (by assumption) ?r91
      case y91 => intro w_ hSw; (try dsimp only at hSw); go_simp; (try (with_reducible rfl))
      try simp only [Act.put, List.setIfInBounds_toArray, List.set_cons_zero, List.set_cons_succ]
      refine wpAnyH_ready (rs := [7]) (by kernel_rfl) (by simp) ?_
      refine AllReadyH.cons (o := { dst := some 40, op := Op.call { callee := Callee.value (Operand.func 139), args := #[Operand.tmp 39], argTypes := #[3] }, type := 9, pos := "exact.go:1538", after := #[{ on := 6, ground := Ground.data }], guard := none }) rfl (fun K hK => ?k92) AllReadyH.nil
      case' k92 => skip
      go_simp
      refine (markText_at (b + 2) _ (by omega) (by omega) _).mono ?_
      rintro e w2 ⟨rfl, b2⟩
      refine hK.out _ _ ?h92 (fun hHeld => ?j92)
      case h92 => exact HK2.out _ _ b2 hHeld
      clear hK K
      try simp only [Act.put, List.setIfInBounds_toArray, List.set_cons_zero, List.set_cons_succ]
      refine wpAnyH_take (i := 8) (oi := { dst := some 41, op := Op.binOp BinOp.neq 9 (Operand.tmp 38) (Operand.tmp 40) 9, type := 4, pos := "exact.go:1538", after := #[{ on := 5, ground := Ground.data }, { on := 7, ground := Ground.data }], guard := none }) (v := ?v93) rfl (by kernel_rfl) (by kernel_rfl) (by kernel_rfl) (fun _ _ _ h => h) (Or.inl ⟨by rfl, ?y93⟩) (by assumption) ?r93
      case y93 => intro w_ hSw; (try dsimp only at hSw); go_simp; (try (with_reducible rfl))
      try simp only [Act.put, List.setIfInBounds_toArray, List.set_cons_zero, List.set_cons_succ]
      refine wpAnyH_done (by kernel_rfl) ?_ _
      obtain ⟨r2_2, BH2⟩ := hHeld
      clear HK2 b2
      go_wp2
      go_roundg (n - (k + 1))
      case measure => omega
      case rel => exact ⟨k + 1, b + 3, by omega, Nat.le_refl _, by first | rfl | (congr 1; done) | (congr 1; omega) | (congr 2; omega), by omega, ⟨by have := HB.out; omega⟩, by go_num, ⟨bel_then BW.out BH2⟩⟩
    · have hlt' : ¬ (k : Int) < (n : Int) := by omega
      have hkn : k = n := by omega
      have hbb := HB.out
      rw [hkn] at hbb
      have HBB := Lib.hid hbb
      clear hbb HB
      go_wp2
      go_ret
      exact ⟨reti (by have := HBB.out; omega), BW.out⟩
end Go.Proofs.YtejiifmopopflaaGreatDoor
