/- The laws' looks at marked rows: contracts. -/
import Derived.Test.YtoppgnmnbbhghaaGreatDoorMark
import Derived.Deep.RegionHeld3
namespace Go.Proofs.YtoppgnmnbbhghaaGreatDoor
open Go.RowKit Go.Proofs.YtoppgnmnbbhghaaGreatDoorW.PrintWords
set_option linter.unusedVariables false
set_option linter.unusedSimpArgs false

set_option maxRecDepth 100000 in
set_option maxHeartbeats 4000000 in
theorem heldStringS_any (A : Option Addr) (c n : Nat) (a : Nat) (w : World) (hr : Kd.C Kd.string w A n (mksString a n)) (hlen : n ≤ 1048576) (ha : a ≤ 2305843009213693952) :
    Calls Tryz.prog 127 #[.slice A n c, .int .i64 (a : Int)] w fun e w' => e = .returned (.int .i64 ((a + 1 * n : Nat) : Int)) ∧ Below w.heap.size w w' := by
  go_enter Tryz.func127, Tryz.ntmps127
  go_wp2
  go_loopg [1, 5] n (fun gq v1 v5 wr => ∃ (k b : Nat), k ≤ n ∧ n - k ≤ gq ∧ v1 = .int .i64 (b : Int) ∧ b ≤ a + 1 * k ∧ Aside0 (b = a + 1 * k) ∧ v5 = .int .i64 (k : Int) ∧ Aside0 (Below w.heap.size w wr))
  case atStart => exact ⟨0, a, Nat.zero_le _, by omega, rfl, by omega, ⟨by omega⟩, rfl, ⟨Below.refl _ _⟩⟩
  case round =>
    obtain ⟨k, b, hk, hg, rfl, hb, HB, rfl, BW⟩ := hrel
    by_cases hlt : k < n
    · have hlt' : (k : Int) < (n : Int) := by omega
      obtain ⟨ad, e1, p0⟩ := at_Str (Kd.C_below hr BW.out) k hlt
      subst e1
      have hv : (mksString a n).getD k (⟨#[]⟩ : ByteArray) = mkString b := by rw [HB.out]; simp [mksString, hlt]
      rw [hv] at p0
      clear hv hr
      replace p0 : wr.cell? (ad.add k) = some (.string (markS (b + 0))) := p0
      have hk0 : (0 : Int) ≤ (k : Int) := by omega
      have HK0 : Aside0 (∀ W W1, Below W.heap.size W W1 → (W.cell? (ad.add k) = some (.string (markS (b + 0))) ∧ Below wr.heap.size wr W) → (W1.cell? (ad.add k) = some (.string (markS (b + 0))) ∧ Below wr.heap.size wr W1)) := ⟨fun W W1 hb h => ⟨(hb.cell (World.block_lt_of_cell? W _ (h.1))).trans (h.1), bel_then (h.2) hb⟩⟩
      go_wp2
      refine wp_region_held_drew (S := (fun W => W.cell? (ad.add k) = some (.string (markS (b + 0))) ∧ Below wr.heap.size wr W)) (by kernel_rfl) ?s196 (fun hHeld => ?t196)
      case s196 => exact ⟨p0, bel_then (Below.refl wr.heap.size wr) (drew_below0 _)⟩
      refine wpAnyH_take (i := 0) (oi := { dst := some 12, op := Op.move (Operand.tmp 0), type := 26, pos := "exact.go:198", after := #[], guard := none }) (v := ?v197) rfl (by kernel_rfl) (by kernel_rfl) (by kernel_rfl) (fun _ _ _ h => h) (Or.inl ⟨by rfl, ?y197⟩) (by assumption) ?r197
      case y197 => intro w_ hSw; (try dsimp only at hSw); go_simp; (try (with_reducible rfl))
      try simp only [Act.put, List.setIfInBounds_toArray, List.set_cons_zero, List.set_cons_succ]
      refine wpAnyH_take (i := 1) (oi := { dst := some 13, op := Op.move (Operand.tmp 5), type := 3, pos := "exact.go:198", after := #[], guard := none }) (v := ?v198) rfl (by kernel_rfl) (by kernel_rfl) (by kernel_rfl) (fun _ _ _ h => h) (Or.inl ⟨by rfl, ?y198⟩) (by assumption) ?r198
      case y198 => intro w_ hSw; (try dsimp only at hSw); go_simp; (try (with_reducible rfl))
      try simp only [Act.put, List.setIfInBounds_toArray, List.set_cons_zero, List.set_cons_succ]
      refine wpAnyH_take (i := 2) (oi := { dst := some 14, op := Op.indexAddr 26 (Operand.tmp 12) (Operand.tmp 13), type := 0, pos := "exact.go:198", after := #[{ on := 0, ground := Ground.data }, { on := 1, ground := Ground.data }], guard := none }) (v := ?v199) rfl (by kernel_rfl) (by kernel_rfl) (by kernel_rfl) (fun _ _ _ h => h) (Or.inl ⟨by rfl, ?y199⟩) (by assumption) ?r199
      case y199 => intro w_ hSw; (try dsimp only at hSw); go_simp; (try (with_reducible rfl))
      try simp only [Act.put, List.setIfInBounds_toArray, List.set_cons_zero, List.set_cons_succ]
      refine wpAnyH_take (i := 3) (oi := { dst := some 15, op := Op.load 9 (Operand.tmp 14), type := 9, pos := "exact.go:198", after := #[{ on := 2, ground := Ground.data }], guard := none }) (v := ?v200) rfl (by kernel_rfl) (by kernel_rfl) (by kernel_rfl) (fun _ _ _ h => h) (Or.inl ⟨by rfl, ?y200⟩) (by assumption) ?r200
      case y200 => intro w_ hSw; (try dsimp only at hSw); go_simp; (try (with_reducible rfl))
      try simp only [Act.put, List.setIfInBounds_toArray, List.set_cons_zero, List.set_cons_succ]
      refine wpAnyH_take (i := 4) (oi := { dst := some 16, op := Op.move (Operand.tmp 1), type := 3, pos := "exact.go:198", after := #[], guard := none }) (v := ?v201) rfl (by kernel_rfl) (by kernel_rfl) (by kernel_rfl) (fun _ _ _ h => h) (Or.inl ⟨by rfl, ?y201⟩) (by assumption) ?r201
      case y201 => intro w_ hSw; (try dsimp only at hSw); go_simp; (try (with_reducible rfl))
      try simp only [Act.put, List.setIfInBounds_toArray, List.set_cons_zero, List.set_cons_succ]
      refine wpAnyH_ready (rs := [5]) (by kernel_rfl) (by simp) ?_
      refine AllReadyH.cons (o := { dst := some 17, op := Op.call { callee := Callee.value (Operand.func 152), args := #[Operand.tmp 16], argTypes := #[3] }, type := 9, pos := "exact.go:198", after := #[{ on := 4, ground := Ground.data }], guard := none }) rfl (fun K hK => ?k202) AllReadyH.nil
      case' k202 => skip
      go_simp
      refine (markText_at (b + 0) _ (by omega) (by omega) _).mono ?_
      rintro e w0 ⟨rfl, b0⟩
      refine hK.out _ _ ?h202 (fun hHeld => ?j202)
      case h202 => exact HK0.out _ _ b0 hHeld
      clear hK K
      try simp only [Act.put, List.setIfInBounds_toArray, List.set_cons_zero, List.set_cons_succ]
      refine wpAnyH_take (i := 6) (oi := { dst := some 18, op := Op.binOp BinOp.neq 9 (Operand.tmp 15) (Operand.tmp 17) 9, type := 4, pos := "exact.go:198", after := #[{ on := 3, ground := Ground.data }, { on := 5, ground := Ground.data }], guard := none }) (v := ?v203) rfl (by kernel_rfl) (by kernel_rfl) (by kernel_rfl) (fun _ _ _ h => h) (Or.inl ⟨by rfl, ?y203⟩) (by assumption) ?r203
      case y203 => intro w_ hSw; (try dsimp only at hSw); go_simp; (try (with_reducible rfl))
      try simp only [Act.put, List.setIfInBounds_toArray, List.set_cons_zero, List.set_cons_succ]
      refine wpAnyH_done (by kernel_rfl) ?_ _
      obtain ⟨r0_0, BH0⟩ := hHeld
      clear HK0 b0
      go_wp2
      go_roundg (n - (k + 1))
      case measure => omega
      case rel => exact ⟨k + 1, b + 1, by omega, Nat.le_refl _, by first | rfl | (congr 1; done) | (congr 1; omega) | (congr 2; omega), by omega, ⟨by have := HB.out; omega⟩, by go_num, ⟨bel_then BW.out BH0⟩⟩
    · have hlt' : ¬ (k : Int) < (n : Int) := by omega
      have hkn : k = n := by omega
      have hbb := HB.out
      rw [hkn] at hbb
      have HBB := Lib.hid hbb
      clear hbb HB
      go_wp2
      go_ret
      exact ⟨reti (by have := HBB.out; omega), BW.out⟩
set_option maxRecDepth 100000 in
set_option maxHeartbeats 4000000 in
theorem heldIntS_any (A : Option Addr) (c n : Nat) (a : Nat) (w : World) (hr : Kd.C (Kd.int .i64) w A n (mksInt a n)) (hlen : n ≤ 1048576) (ha : a ≤ 2305843009213693952) :
    Calls Tryz.prog 74 #[.slice A n c, .int .i64 (a : Int)] w fun e w' => e = .returned (.int .i64 ((a + 1 * n : Nat) : Int)) ∧ Below w.heap.size w w' := by
  go_enter Tryz.func74, Tryz.ntmps74
  go_wp2
  go_loopg [1, 5] n (fun gq v1 v5 wr => ∃ (k b : Nat), k ≤ n ∧ n - k ≤ gq ∧ v1 = .int .i64 (b : Int) ∧ b ≤ a + 1 * k ∧ Aside0 (b = a + 1 * k) ∧ v5 = .int .i64 (k : Int) ∧ Aside0 (Below w.heap.size w wr))
  case atStart => exact ⟨0, a, Nat.zero_le _, by omega, rfl, by omega, ⟨by omega⟩, rfl, ⟨Below.refl _ _⟩⟩
  case round =>
    obtain ⟨k, b, hk, hg, rfl, hb, HB, rfl, BW⟩ := hrel
    by_cases hlt : k < n
    · have hlt' : (k : Int) < (n : Int) := by omega
      obtain ⟨ad, e1, p0⟩ := at_Int (Kd.C_below hr BW.out) k hlt
      subst e1
      have hv : (mksInt a n).getD k (0 : Int) = mkInt b := by rw [HB.out]; simp [mksInt, hlt]
      rw [hv] at p0
      clear hv hr
      replace p0 : wr.cell? (ad.add k) = some (.int .i64 ((b : Int))) := (by rw [p0]; unfold mkInt; congr 2)
      have hk0 : (0 : Int) ≤ (k : Int) := by omega
      go_wp2
      go_roundg (n - (k + 1))
      case measure => omega
      case rel => exact ⟨k + 1, b + 1, by omega, Nat.le_refl _, by first | rfl | (congr 1; done) | (congr 1; omega) | (congr 2; omega), by omega, ⟨by have := HB.out; omega⟩, by go_num, ⟨bel_then BW.out (Below.refl wr.heap.size wr)⟩⟩
    · have hlt' : ¬ (k : Int) < (n : Int) := by omega
      have hkn : k = n := by omega
      have hbb := HB.out
      rw [hkn] at hbb
      have HBB := Lib.hid hbb
      clear hbb HB
      go_wp2
      go_ret
      exact ⟨reti (by have := HBB.out; omega), BW.out⟩
set_option maxRecDepth 100000 in
set_option maxHeartbeats 4000000 in
theorem heldAddrS_any (A : Option Addr) (c n : Nat) (a : Nat) (w : World) (hr : Kd.C kAddr w A n (mksAddr a n)) (hlen : n ≤ 1048576) (ha : a ≤ 2305843009213693952) :
    Calls Tryz.prog 126 #[.slice A n c, .int .i64 (a : Int)] w fun e w' => e = .returned (.int .i64 ((a + 2 * n : Nat) : Int)) ∧ Below w.heap.size w w' := by
  go_enter Tryz.func126, Tryz.ntmps126
  go_wp2
  go_loopg [1, 5] n (fun gq v1 v5 wr => ∃ (k b : Nat), k ≤ n ∧ n - k ≤ gq ∧ v1 = .int .i64 (b : Int) ∧ b ≤ a + 2 * k ∧ Aside0 (b = a + 2 * k) ∧ v5 = .int .i64 (k : Int) ∧ Aside0 (Below w.heap.size w wr))
  case atStart => exact ⟨0, a, Nat.zero_le _, by omega, rfl, by omega, ⟨by omega⟩, rfl, ⟨Below.refl _ _⟩⟩
  case round =>
    obtain ⟨k, b, hk, hg, rfl, hb, HB, rfl, BW⟩ := hrel
    by_cases hlt : k < n
    · have hlt' : (k : Int) < (n : Int) := by omega
      obtain ⟨ad, e1, p0, p1⟩ := at_Addr (Kd.C_below hr BW.out) k hlt
      subst e1
      have hv : (mksAddr a n).getD k zAddr = mkAddr b := by rw [HB.out]; simp [mksAddr, hlt]
      rw [hv] at p0 p1
      clear hv hr
      replace p0 : wr.cell? (ad.add (k * 2)) = some (.string (markS (b + 0))) := p0
      replace p1 : wr.cell? ⟨(ad.add (k * 2)).block, (ad.add (k * 2)).off + 1, none⟩ = some (.string (markS (b + 1))) := p1
      have hk0 : (0 : Int) ≤ (k : Int) := by omega
      have HK0 : Aside0 (∀ W W1, Below W.heap.size W W1 → (W.cell? (ad.add (k * 2)) = some (.string (markS (b + 0))) ∧ W.cell? ⟨(ad.add (k * 2)).block, (ad.add (k * 2)).off + 1, none⟩ = some (.string (markS (b + 1))) ∧ Below wr.heap.size wr W) → (W1.cell? (ad.add (k * 2)) = some (.string (markS (b + 0))) ∧ W1.cell? ⟨(ad.add (k * 2)).block, (ad.add (k * 2)).off + 1, none⟩ = some (.string (markS (b + 1))) ∧ Below wr.heap.size wr W1)) := ⟨fun W W1 hb h => ⟨(hb.cell (World.block_lt_of_cell? W _ (h.1))).trans (h.1), (hb.cell (World.block_lt_of_cell? W _ (h.2.1))).trans (h.2.1), bel_then (h.2.2) hb⟩⟩
      go_wp2
      refine wp_region_held_drew (S := (fun W => W.cell? (ad.add (k * 2)) = some (.string (markS (b + 0))) ∧ W.cell? ⟨(ad.add (k * 2)).block, (ad.add (k * 2)).off + 1, none⟩ = some (.string (markS (b + 1))) ∧ Below wr.heap.size wr W)) (by kernel_rfl) ?s204 (fun hHeld => ?t204)
      case s204 => exact ⟨p0, p1, bel_then (Below.refl wr.heap.size wr) (drew_below0 _)⟩
      refine wpAnyH_take (i := 0) (oi := { dst := some 12, op := Op.move (Operand.tmp 0), type := 25, pos := "exact.go:344", after := #[], guard := none }) (v := ?v205) rfl (by kernel_rfl) (by kernel_rfl) (by kernel_rfl) (fun _ _ _ h => h) (Or.inl ⟨by rfl, ?y205⟩) (by assumption) ?r205
      case y205 => intro w_ hSw; (try dsimp only at hSw); go_simp; (try (with_reducible rfl))
      try simp only [Act.put, List.setIfInBounds_toArray, List.set_cons_zero, List.set_cons_succ]
      refine wpAnyH_take (i := 1) (oi := { dst := some 13, op := Op.move (Operand.tmp 5), type := 3, pos := "exact.go:344", after := #[], guard := none }) (v := ?v206) rfl (by kernel_rfl) (by kernel_rfl) (by kernel_rfl) (fun _ _ _ h => h) (Or.inl ⟨by rfl, ?y206⟩) (by assumption) ?r206
      case y206 => intro w_ hSw; (try dsimp only at hSw); go_simp; (try (with_reducible rfl))
      try simp only [Act.put, List.setIfInBounds_toArray, List.set_cons_zero, List.set_cons_succ]
      refine wpAnyH_take (i := 2) (oi := { dst := some 14, op := Op.indexAddr 25 (Operand.tmp 12) (Operand.tmp 13), type := 0, pos := "exact.go:344", after := #[{ on := 0, ground := Ground.data }, { on := 1, ground := Ground.data }], guard := none }) (v := ?v207) rfl (by kernel_rfl) (by kernel_rfl) (by kernel_rfl) (fun _ _ _ h => h) (Or.inl ⟨by rfl, ?y207⟩) (by assumption) ?r207
      case y207 => intro w_ hSw; (try dsimp only at hSw); go_simp; (try (with_reducible rfl))
      try simp only [Act.put, List.setIfInBounds_toArray, List.set_cons_zero, List.set_cons_succ]
      refine wpAnyH_take (i := 3) (oi := { dst := some 15, op := Op.fieldAddr 24 (Operand.tmp 14) 0, type := 0, pos := "exact.go:344", after := #[{ on := 2, ground := Ground.data }], guard := none }) (v := ?v208) rfl (by kernel_rfl) (by kernel_rfl) (by kernel_rfl) (fun _ _ _ h => h) (Or.inl ⟨by rfl, ?y208⟩) (by assumption) ?r208
      case y208 => intro w_ hSw; (try dsimp only at hSw); go_simp; (try (with_reducible rfl))
      try simp only [Act.put, List.setIfInBounds_toArray, List.set_cons_zero, List.set_cons_succ]
      refine wpAnyH_take (i := 4) (oi := { dst := some 16, op := Op.load 9 (Operand.tmp 15), type := 9, pos := "exact.go:344", after := #[{ on := 3, ground := Ground.data }], guard := none }) (v := ?v209) rfl (by kernel_rfl) (by kernel_rfl) (by kernel_rfl) (fun _ _ _ h => h) (Or.inl ⟨by rfl, ?y209⟩) (by assumption) ?r209
      case y209 => intro w_ hSw; (try dsimp only at hSw); go_simp; (try (with_reducible rfl))
      try simp only [Act.put, List.setIfInBounds_toArray, List.set_cons_zero, List.set_cons_succ]
      refine wpAnyH_take (i := 5) (oi := { dst := some 17, op := Op.move (Operand.tmp 1), type := 3, pos := "exact.go:344", after := #[], guard := none }) (v := ?v210) rfl (by kernel_rfl) (by kernel_rfl) (by kernel_rfl) (fun _ _ _ h => h) (Or.inl ⟨by rfl, ?y210⟩) (by assumption) ?r210
      case y210 => intro w_ hSw; (try dsimp only at hSw); go_simp; (try (with_reducible rfl))
      try simp only [Act.put, List.setIfInBounds_toArray, List.set_cons_zero, List.set_cons_succ]
      refine wpAnyH_ready (rs := [6]) (by kernel_rfl) (by simp) ?_
      refine AllReadyH.cons (o := { dst := some 18, op := Op.call { callee := Callee.value (Operand.func 152), args := #[Operand.tmp 17], argTypes := #[3] }, type := 9, pos := "exact.go:344", after := #[{ on := 5, ground := Ground.data }], guard := none }) rfl (fun K hK => ?k211) AllReadyH.nil
      case' k211 => skip
      go_simp
      refine (markText_at (b + 0) _ (by omega) (by omega) _).mono ?_
      rintro e w0 ⟨rfl, b0⟩
      refine hK.out _ _ ?h211 (fun hHeld => ?j211)
      case h211 => exact HK0.out _ _ b0 hHeld
      clear hK K
      try simp only [Act.put, List.setIfInBounds_toArray, List.set_cons_zero, List.set_cons_succ]
      refine wpAnyH_take (i := 7) (oi := { dst := some 19, op := Op.binOp BinOp.neq 9 (Operand.tmp 16) (Operand.tmp 18) 9, type := 4, pos := "exact.go:344", after := #[{ on := 4, ground := Ground.data }, { on := 6, ground := Ground.data }], guard := none }) (v := ?v212) rfl (by kernel_rfl) (by kernel_rfl) (by kernel_rfl) (fun _ _ _ h => h) (Or.inl ⟨by rfl, ?y212⟩) (by assumption) ?r212
      case y212 => intro w_ hSw; (try dsimp only at hSw); go_simp; (try (with_reducible rfl))
      try simp only [Act.put, List.setIfInBounds_toArray, List.set_cons_zero, List.set_cons_succ]
      refine wpAnyH_done (by kernel_rfl) ?_ _
      obtain ⟨r0_0, r0_1, BH0⟩ := hHeld
      clear HK0 b0
      have HK1 : Aside0 (∀ W W1, Below W.heap.size W W1 → (W.cell? ⟨(ad.add (k * 2)).block, (ad.add (k * 2)).off + 1, none⟩ = some (.string (markS (b + 1))) ∧ Below wr.heap.size wr W) → (W1.cell? ⟨(ad.add (k * 2)).block, (ad.add (k * 2)).off + 1, none⟩ = some (.string (markS (b + 1))) ∧ Below wr.heap.size wr W1)) := ⟨fun W W1 hb h => ⟨(hb.cell (World.block_lt_of_cell? W _ (h.1))).trans (h.1), bel_then (h.2) hb⟩⟩
      go_wp2
      refine wp_region_held_drew (S := (fun W => W.cell? ⟨(ad.add (k * 2)).block, (ad.add (k * 2)).off + 1, none⟩ = some (.string (markS (b + 1))) ∧ Below wr.heap.size wr W)) (by kernel_rfl) ?s213 (fun hHeld => ?t213)
      case s213 => exact ⟨r0_1, bel_then BH0 (drew_below0 _)⟩
      refine wpAnyH_take (i := 0) (oi := { dst := some 22, op := Op.move (Operand.tmp 0), type := 25, pos := "exact.go:348", after := #[], guard := none }) (v := ?v214) rfl (by kernel_rfl) (by kernel_rfl) (by kernel_rfl) (fun _ _ _ h => h) (Or.inl ⟨by rfl, ?y214⟩) (by assumption) ?r214
      case y214 => intro w_ hSw; (try dsimp only at hSw); go_simp; (try (with_reducible rfl))
      try simp only [Act.put, List.setIfInBounds_toArray, List.set_cons_zero, List.set_cons_succ]
      refine wpAnyH_take (i := 1) (oi := { dst := some 23, op := Op.move (Operand.tmp 5), type := 3, pos := "exact.go:348", after := #[], guard := none }) (v := ?v215) rfl (by kernel_rfl) (by kernel_rfl) (by kernel_rfl) (fun _ _ _ h => h) (Or.inl ⟨by rfl, ?y215⟩) (by assumption) ?r215
      case y215 => intro w_ hSw; (try dsimp only at hSw); go_simp; (try (with_reducible rfl))
      try simp only [Act.put, List.setIfInBounds_toArray, List.set_cons_zero, List.set_cons_succ]
      refine wpAnyH_take (i := 2) (oi := { dst := some 24, op := Op.indexAddr 25 (Operand.tmp 22) (Operand.tmp 23), type := 0, pos := "exact.go:348", after := #[{ on := 0, ground := Ground.data }, { on := 1, ground := Ground.data }], guard := none }) (v := ?v216) rfl (by kernel_rfl) (by kernel_rfl) (by kernel_rfl) (fun _ _ _ h => h) (Or.inl ⟨by rfl, ?y216⟩) (by assumption) ?r216
      case y216 => intro w_ hSw; (try dsimp only at hSw); go_simp; (try (with_reducible rfl))
      try simp only [Act.put, List.setIfInBounds_toArray, List.set_cons_zero, List.set_cons_succ]
      refine wpAnyH_take (i := 3) (oi := { dst := some 25, op := Op.fieldAddr 24 (Operand.tmp 24) 1, type := 0, pos := "exact.go:348", after := #[{ on := 2, ground := Ground.data }], guard := none }) (v := ?v217) rfl (by kernel_rfl) (by kernel_rfl) (by kernel_rfl) (fun _ _ _ h => h) (Or.inl ⟨by rfl, ?y217⟩) (by assumption) ?r217
      case y217 => intro w_ hSw; (try dsimp only at hSw); go_simp; (try (with_reducible rfl))
      try simp only [Act.put, List.setIfInBounds_toArray, List.set_cons_zero, List.set_cons_succ]
      refine wpAnyH_take (i := 4) (oi := { dst := some 26, op := Op.load 9 (Operand.tmp 25), type := 9, pos := "exact.go:348", after := #[{ on := 3, ground := Ground.data }], guard := none }) (v := ?v218) rfl (by kernel_rfl) (by kernel_rfl) (by kernel_rfl) (fun _ _ _ h => h) (Or.inl ⟨by rfl, ?y218⟩) (by assumption) ?r218
      case y218 => intro w_ hSw; (try dsimp only at hSw); go_simp; (try (with_reducible rfl))
      try simp only [Act.put, List.setIfInBounds_toArray, List.set_cons_zero, List.set_cons_succ]
      refine wpAnyH_take (i := 5) (oi := { dst := some 27, op := Op.move (Operand.tmp 1), type := 3, pos := "exact.go:348", after := #[], guard := none }) (v := ?v219) rfl (by kernel_rfl) (by kernel_rfl) (by kernel_rfl) (fun _ _ _ h => h) (Or.inl ⟨by rfl, ?y219⟩) (by assumption) ?r219
      case y219 => intro w_ hSw; (try dsimp only at hSw); go_simp; (try (with_reducible rfl))
      try simp only [Act.put, List.setIfInBounds_toArray, List.set_cons_zero, List.set_cons_succ]
      refine wpAnyH_ready (rs := [6]) (by kernel_rfl) (by simp) ?_
      refine AllReadyH.cons (o := { dst := some 28, op := Op.call { callee := Callee.value (Operand.func 152), args := #[Operand.tmp 27], argTypes := #[3] }, type := 9, pos := "exact.go:348", after := #[{ on := 5, ground := Ground.data }], guard := none }) rfl (fun K hK => ?k220) AllReadyH.nil
      case' k220 => skip
      go_simp
      refine (markText_at (b + 1) _ (by omega) (by omega) _).mono ?_
      rintro e w1 ⟨rfl, b1⟩
      refine hK.out _ _ ?h220 (fun hHeld => ?j220)
      case h220 => exact HK1.out _ _ b1 hHeld
      clear hK K
      try simp only [Act.put, List.setIfInBounds_toArray, List.set_cons_zero, List.set_cons_succ]
      refine wpAnyH_take (i := 7) (oi := { dst := some 29, op := Op.binOp BinOp.neq 9 (Operand.tmp 26) (Operand.tmp 28) 9, type := 4, pos := "exact.go:348", after := #[{ on := 4, ground := Ground.data }, { on := 6, ground := Ground.data }], guard := none }) (v := ?v221) rfl (by kernel_rfl) (by kernel_rfl) (by kernel_rfl) (fun _ _ _ h => h) (Or.inl ⟨by rfl, ?y221⟩) (by assumption) ?r221
      case y221 => intro w_ hSw; (try dsimp only at hSw); go_simp; (try (with_reducible rfl))
      try simp only [Act.put, List.setIfInBounds_toArray, List.set_cons_zero, List.set_cons_succ]
      refine wpAnyH_done (by kernel_rfl) ?_ _
      obtain ⟨r1_1, BH1⟩ := hHeld
      clear HK1 b1
      go_wp2
      go_roundg (n - (k + 1))
      case measure => omega
      case rel => exact ⟨k + 1, b + 2, by omega, Nat.le_refl _, by first | rfl | (congr 1; done) | (congr 1; omega) | (congr 2; omega), by omega, ⟨by have := HB.out; omega⟩, by go_num, ⟨bel_then BW.out BH1⟩⟩
    · have hlt' : ¬ (k : Int) < (n : Int) := by omega
      have hkn : k = n := by omega
      have hbb := HB.out
      rw [hkn] at hbb
      have HBB := Lib.hid hbb
      clear hbb HB
      go_wp2
      go_ret
      exact ⟨reti (by have := HBB.out; omega), BW.out⟩
end Go.Proofs.YtoppgnmnbbhghaaGreatDoor
