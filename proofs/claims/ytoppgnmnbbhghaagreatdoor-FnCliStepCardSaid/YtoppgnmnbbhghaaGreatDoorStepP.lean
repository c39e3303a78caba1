/- Small words of the program's steps: contracts. -/
import Derived.Test.YtoppgnmnbbhghaaGreatDoorStepL
namespace Go.Proofs.YtoppgnmnbbhghaaGreatDoor
open Go.RowKit Go.Proofs.YtoppgnmnbbhghaaGreatDoorW.PrintWords
set_option linter.unusedVariables false
set_option linter.unusedSimpArgs false

theorem failure_any (code : Int) (w : World) : Calls Tryz.prog 105 #[.int .i64 code] w fun e w' => e = .returned (.int .i64 (failC code)) ∧ w = w' := by
  unfold failC
  by_cases h : 500 ≤ code
  · rw [if_pos h]
    go_enter Tryz.func105, Tryz.ntmps105
    go_wp2
    go_ret
    exact ⟨rfl, rfl⟩
  · rw [if_neg h]
    go_enter Tryz.func105, Tryz.ntmps105
    go_wp2
    go_ret
    exact ⟨rfl, rfl⟩
theorem say_any (b : Nat) (st : Int) (s : ByteArray) (v : Value) (w : World) (h5 : w.cell? ⟨b, 5, none⟩ = some v) (hf : w.frozen? ⟨b, 5, none⟩ = false) :
    Calls Tryz.prog 102 #[.pointer (some ⟨b, 0, none⟩), .int .i64 st, .string s] w fun e w' => e = .returned (.string s) ∧ w' = w.setCell ⟨b, 5, none⟩ (.int .i64 st) := by
  go_enter Tryz.func102, Tryz.ntmps102
  go_wp2
  go_ret
  exact ⟨rfl, rfl⟩

end Go.Proofs.YtoppgnmnbbhghaaGreatDoor

/- A client's next word: a contract. -/
namespace Go.Proofs.YtoppgnmnbbhghaaGreatDoor
open Go.RowKit Go.Proofs.YtoppgnmnbbhghaaGreatDoorW.PrintWords
set_option linter.unusedVariables false
set_option linter.unusedSimpArgs false

set_option maxRecDepth 100000 in
set_option maxHeartbeats 4000000 in
theorem next_any (b : Nat) (nm : ByteArray) (m : SMail) (st pos : Int) (outs : List Int) (B0 : Option Addr) (d0 : Nat) (B1 : Option Addr) (d1 : Nat) (B2 : Option Addr) (d2 : Nat) (base : Nat) (w0 w : World) (hb : base ≤ b)
    (hF : w.heap[b]? = some (.cells #[.string nm, .string m.f0.f0, .string m.f0.f1, .slice B0 m.f1.length d0, .slice B1 m.f2.length d1, .int .i64 st, .int .i64 pos, .slice B2 outs.length d2] 31 (0, 0))) (u0 : Kd.R kAddr 24 w base (fun _ => True) (.slice B0 m.f1.length d0) m.f1) (u1 : Kd.R Kd.string 9 w base (fun _ => True) (.slice B1 m.f2.length d1) m.f2) (u2 : Kd.R (Kd.int .i64) 3 w base (fun _ => True) (.slice B2 outs.length d2) outs) (HB : Below base w0 w) (hm : fitMail m) (h0 : 0 ≤ pos) (h1 : pos ≤ (m.f1.length : Int)) (hl : outs.length ≤ 1048576) :
    Calls Tryz.prog 104 #[.pointer (some ⟨b, 0, none⟩)] w fun e w' => e = .returned (.string (nextC ⟨nm, m, st, pos, outs⟩).2) ∧ w'.heap[b]? = some (.cells #[.string nm, .string m.f0.f0, .string m.f0.f1, .slice B0 m.f1.length d0, .slice B1 m.f2.length d1, .int .i64 (nextC ⟨nm, m, st, pos, outs⟩).1.f2, .int .i64 (nextC ⟨nm, m, st, pos, outs⟩).1.f3, .slice B2 outs.length d2] 31 (0, 0)) ∧ Kd.R kAddr 24 w' base (fun _ => True) (.slice B0 m.f1.length d0) m.f1 ∧ Kd.R Kd.string 9 w' base (fun _ => True) (.slice B1 m.f2.length d1) m.f2 ∧ Kd.R (Kd.int .i64) 3 w' base (fun _ => True) (.slice B2 outs.length d2) outs ∧ Below base w0 w' := by
  have y3 : w.cell? ⟨b, 3, none⟩ = some (.slice B0 m.f1.length d0) := by simp [World.cell?, hF]
  have y6 : w.cell? ⟨b, 6, none⟩ = some (.int .i64 pos) := by simp [World.cell?, hF]
  have y7 : w.cell? ⟨b, 7, none⟩ = some (.slice B2 outs.length d2) := by simp [World.cell?, hF]
  have f6 : w.frozen? ⟨b, 6, none⟩ = false := by simp [World.frozen?, hF]
  have hlm := hm.2.1.1
  have hbl := blk_lt hF
  have HF := Lib.hid hF
  have U0 := Lib.hid u0
  have U1 := Lib.hid u1
  have U2 := Lib.hid u2
  have HBB := Lib.hid HB
  have HMM := Lib.hid hm
  clear hF u0 u1 u2 HB hm
  unfold nextC
  by_cases hlt : pos < (m.f1.length : Int)
  · rw [if_pos hlt]
    obtain ⟨k, hk⟩ : ∃ k : Nat, pos = k := ⟨pos.toNat, by omega⟩
    subst hk
    have hkl : k < m.f1.length := by omega
    have HT := Lib.hid (show ((k : Int)).toNat = k from Int.toNat_natCast k)
    simp only [HT.out]
    generalize hy : m.f1.getD k zAddr = y
    have HY := Lib.hid hy
    have hft := HMM.out.2.1.2 _ (getD_mem m.f1 zAddr hkl)
    rw [hy] at hft
    have htext := fun W => text_any y.f0 y.f1 W hft.1 hft.2
    obtain ⟨ad, rfl, _, _⟩ := at_Addr (Kd.R_reads' U0.out).2.2 k hkl
    obtain ⟨gb, hge, hgb0, hgb1⟩ := own_form2 U0.out (by omega)
    have hgb : ¬ b = ad.block := fun e => Kd.R_ne U0.out HF.out (by decide) (by rw [e, Option.some.inj hge]; rfl)
    clear hge hgb0 hgb1 gb
    have hts : ¬ 9223372036854775807 < 8 + (textS y.f0 y.f1).size := by have := text_szN hft.1 hft.2; omega
    clear hy hft
    go_enter Tryz.func104, Tryz.ntmps104
    go_wp2
    refine wp_region_held_drew (S := (fun W => W.cell? ⟨b, 3, none⟩ = some (.slice (some ad) m.f1.length d0) ∧ W.cell? ⟨b, 6, none⟩ = some (.int .i64 (k : Int)))) (by kernel_rfl) ?s87 (fun hHeld => ?t87)
    case s87 => exact ⟨y3, y6⟩
    refine wpAnyH_take (i := 0) (oi := { dst := some 4, op := Op.move (Operand.tmp 0), type := 103, pos := "l4_client.go:83", after := #[], guard := none }) (v := ?v88) rfl (by kernel_rfl) (by kernel_rfl) (by kernel_rfl) (fun _ _ _ h => h) (Or.inl ⟨by rfl, ?y88⟩) (by assumption) ?r88
    case y88 => intro w_ hSw; (try dsimp only at hSw); go_simp; (try (with_reducible rfl))
    try simp only [Act.put, List.setIfInBounds_toArray, List.set_cons_zero, List.set_cons_succ]
    refine wpAnyH_take (i := 1) (oi := { dst := some 5, op := Op.nilCheck (Operand.tmp 4), type := 0, pos := "l4_client.go:83", after := #[{ on := 0, ground := Ground.data }], guard := none }) (v := ?v89) rfl (by kernel_rfl) (by kernel_rfl) (by kernel_rfl) (fun _ _ _ h => h) (Or.inl ⟨by rfl, ?y89⟩) (by assumption) ?r89
    case y89 => intro w_ hSw; (try dsimp only at hSw); go_simp; (try (with_reducible rfl))
    try simp only [Act.put, List.setIfInBounds_toArray, List.set_cons_zero, List.set_cons_succ]
    refine wpAnyH_take (i := 2) (oi := { dst := some 6, op := Op.fieldAddr 31 (Operand.tmp 5) 3, type := 0, pos := "l4_client.go:83", after := #[{ on := 1, ground := Ground.data }], guard := none }) (v := ?v90) rfl (by kernel_rfl) (by kernel_rfl) (by kernel_rfl) (fun _ _ _ h => h) (Or.inl ⟨by rfl, ?y90⟩) (by assumption) ?r90
    case y90 => intro w_ hSw; (try dsimp only at hSw); go_simp; (try (with_reducible rfl))
    try simp only [Act.put, List.setIfInBounds_toArray, List.set_cons_zero, List.set_cons_succ]
    refine wpAnyH_take (i := 3) (oi := { dst := some 7, op := Op.load 3 (Operand.tmp 6), type := 3, pos := "l4_client.go:83", after := #[{ on := 2, ground := Ground.data }], guard := none }) (v := ?v91) rfl (by kernel_rfl) (by kernel_rfl) (by kernel_rfl) (fun _ _ _ h => h) (Or.inl ⟨by rfl, ?y91⟩) (by assumption) ?r91
    case y91 => intro w_ hSw; (try dsimp only at hSw); go_simp; (try (with_reducible rfl))
    try simp only [Act.put, List.setIfInBounds_toArray, List.set_cons_zero, List.set_cons_succ]
    refine wpAnyH_take (i := 4) (oi := { dst := some 8, op := Op.move (Operand.tmp 0), type := 103, pos := "l4_client.go:83", after := #[], guard := none }) (v := ?v92) rfl (by kernel_rfl) (by kernel_rfl) (by kernel_rfl) (fun _ _ _ h => h) (Or.inl ⟨by rfl, ?y92⟩) (by assumption) ?r92
    case y92 => intro w_ hSw; (try dsimp only at hSw); go_simp; (try (with_reducible rfl))
    try simp only [Act.put, List.setIfInBounds_toArray, List.set_cons_zero, List.set_cons_succ]
    refine wpAnyH_take (i := 5) (oi := { dst := some 9, op := Op.nilCheck (Operand.tmp 8), type := 0, pos := "l4_client.go:83", after := #[{ on := 4, ground := Ground.data }], guard := none }) (v := ?v93) rfl (by kernel_rfl) (by kernel_rfl) (by kernel_rfl) (fun _ _ _ h => h) (Or.inl ⟨by rfl, ?y93⟩) (by assumption) ?r93
    case y93 => intro w_ hSw; (try dsimp only at hSw); go_simp; (try (with_reducible rfl))
    try simp only [Act.put, List.setIfInBounds_toArray, List.set_cons_zero, List.set_cons_succ]
    refine wpAnyH_take (i := 6) (oi := { dst := some 10, op := Op.fieldAddr 31 (Operand.tmp 9) 1, type := 0, pos := "l4_client.go:83", after := #[{ on := 5, ground := Ground.data }], guard := none }) (v := ?v94) rfl (by kernel_rfl) (by kernel_rfl) (by kernel_rfl) (fun _ _ _ h => h) (Or.inl ⟨by rfl, ?y94⟩) (by assumption) ?r94
    case y94 => intro w_ hSw; (try dsimp only at hSw); go_simp; (try (with_reducible rfl))
    try simp only [Act.put, List.setIfInBounds_toArray, List.set_cons_zero, List.set_cons_succ]
    refine wpAnyH_take (i := 7) (oi := { dst := some 11, op := Op.fieldAddr 28 (Operand.tmp 10) 1, type := 0, pos := "l4_client.go:83", after := #[{ on := 6, ground := Ground.data }], guard := none }) (v := ?v95) rfl (by kernel_rfl) (by kernel_rfl) (by kernel_rfl) (fun _ _ _ h => h) (Or.inl ⟨by rfl, ?y95⟩) (by assumption) ?r95
    case y95 => intro w_ hSw; (try dsimp only at hSw); go_simp; (try (with_reducible rfl))
    try simp only [Act.put, List.setIfInBounds_toArray, List.set_cons_zero, List.set_cons_succ]
    refine wpAnyH_take (i := 8) (oi := { dst := some 12, op := Op.load 25 (Operand.tmp 11), type := 25, pos := "l4_client.go:83", after := #[{ on := 7, ground := Ground.data }], guard := none }) (v := ?v96) rfl (by kernel_rfl) (by kernel_rfl) (by kernel_rfl) (fun _ _ _ h => h) (Or.inl ⟨by rfl, ?y96⟩) (by assumption) ?r96
    case y96 => intro w_ hSw; (try dsimp only at hSw); go_simp; (try (with_reducible rfl))
    try simp only [Act.put, List.setIfInBounds_toArray, List.set_cons_zero, List.set_cons_succ]
    refine wpAnyH_take (i := 9) (oi := { dst := some 13, op := Op.call { callee := Callee.builtin Builtin.len, args := #[Operand.tmp 12], argTypes := #[25] }, type := 3, pos := "l4_client.go:83", after := #[{ on := 8, ground := Ground.data }], guard := none }) (v := ?v97) rfl (by kernel_rfl) (by kernel_rfl) (by kernel_rfl) (fun _ _ _ h => h) (Or.inl ⟨by rfl, ?y97⟩) (by assumption) ?r97
    case y97 => intro w_ hSw; (try dsimp only at hSw); go_simp; (try (with_reducible rfl))
    try simp only [Act.put, List.setIfInBounds_toArray, List.set_cons_zero, List.set_cons_succ]
    refine wpAnyH_take (i := 10) (oi := { dst := some 14, op := Op.binOp BinOp.lss 3 (Operand.tmp 7) (Operand.tmp 13) 3, type := 4, pos := "l4_client.go:83", after := #[{ on := 3, ground := Ground.data }, { on := 9, ground := Ground.data }], guard := none }) (v := ?v98) rfl (by kernel_rfl) (by kernel_rfl) (by kernel_rfl) (fun _ _ _ h => h) (Or.inl ⟨by rfl, ?y98⟩) (by assumption) ?r98
    case y98 => intro w_ hSw; (try dsimp only at hSw); go_simp; (try (with_reducible rfl))
    try simp only [Act.put, List.setIfInBounds_toArray, List.set_cons_zero, List.set_cons_succ]
    refine wpAnyH_take (i := 11) (oi := { dst := some 3, op := Op.assign (Operand.tmp 14), type := 4, pos := "l4_client.go:83", after := #[{ on := 10, ground := Ground.data }], guard := none }) (v := ?v99) rfl (by kernel_rfl) (by kernel_rfl) (by kernel_rfl) (fun _ _ _ h => h) (Or.inl ⟨by rfl, ?y99⟩) (by assumption) ?r99
    case y99 => intro w_ hSw; (try dsimp only at hSw); go_simp; (try (with_reducible rfl))
    try simp only [Act.put, List.setIfInBounds_toArray, List.set_cons_zero, List.set_cons_succ]
    refine wpAnyH_done (by kernel_rfl) ?_ _
    have y61 : w.drew.cell? ⟨b, 6, none⟩ = some (.int .i64 (k : Int)) := hHeld.2
    have f61 : w.drew.frozen? ⟨b, 6, none⟩ = false := f6
    clear hHeld y3 y6 y7 f6
    go_wp2
    generalize hV : World.drew (World.setCell w ⟨b, 6, none⟩ _) = V
    have FV : V.heap[b]? = some (.cells #[.string nm, .string m.f0.f0, .string m.f0.f1, .slice (some ad) m.f1.length d0, .slice B1 m.f2.length d1, .int .i64 st, .int .i64 ((k : Int) + 1), .slice B2 outs.length d2] 31 (0, 0)) := by rw [← hV]; exact (blk_set1 HF.out 6 _).trans (by simp)
    have GV : w.grownBy V (some b) := by
      have g := grown_set1 w b 6 (.int .i64 ((k : Int) + 1))
      rw [← hV]
      exact ⟨g.os, g.tape, g.output, g.size, g.block⟩
    have BV : Below base w0 V := by rw [← hV]; exact Below.drew (bel_set HBB.out _ hb)
    clear hV y61 f61
    have V0 := Aside0.mk (R_else U0.out rfl GV (Kd.R_ne U0.out HF.out (by decide)))
    have V1 := Aside0.mk (R_else U1.out rfl GV (Kd.R_ne U1.out HF.out (by decide)))
    have V2 := Aside0.mk (R_else U2.out rfl GV (Kd.R_ne U2.out HF.out (by decide)))
    have BVd : Below base w0 V.drew := Below.drew BV
    have BVs : base ≤ V.drew.heap.size := Nat.le_trans hb (Nat.le_of_lt (blk_lt FV))
    have FVd : V.drew.heap[b]? = _ := FV
    obtain ⟨ad2, e1, p0, p1⟩ := at_Addr (Kd.R_reads' V0.out).2.2 k hkl
    obtain rfl : ad = ad2 := by injection e1
    rw [HY.out] at p0 p1
    have HK : Aside0 (∀ W W1, Below W.heap.size W W1 → (W.cell? ⟨b, 3, none⟩ = some (.slice (some ad) m.f1.length d0) ∧ W.cell? ⟨b, 6, none⟩ = some (.int .i64 ((k : Int) + 1)) ∧ W.cell? (ad.add (k * 2)) = some (.string y.f0) ∧ W.cell? ⟨(ad.add (k * 2)).block, (ad.add (k * 2)).off + 1, none⟩ = some (.string y.f1)) → (W1.cell? ⟨b, 3, none⟩ = some (.slice (some ad) m.f1.length d0) ∧ W1.cell? ⟨b, 6, none⟩ = some (.int .i64 ((k : Int) + 1)) ∧ W1.cell? (ad.add (k * 2)) = some (.string y.f0) ∧ W1.cell? ⟨(ad.add (k * 2)).block, (ad.add (k * 2)).off + 1, none⟩ = some (.string y.f1))) := ⟨fun W W1 hb h => ⟨(hb.cell (World.block_lt_of_cell? W _ h.1)).trans h.1, (hb.cell (World.block_lt_of_cell? W _ h.2.1)).trans h.2.1, (hb.cell (World.block_lt_of_cell? W _ h.2.2.1)).trans h.2.2.1, (hb.cell (World.block_lt_of_cell? W _ h.2.2.2)).trans h.2.2.2⟩⟩
    have hwk : IntKind.i64.wrap (k : Int) = (k : Int) := wrapk k (by omega)
    clear e1 GV
    refine wp_region_held_drew (S := (fun W => W.cell? ⟨b, 3, none⟩ = some (.slice (some ad) m.f1.length d0) ∧ W.cell? ⟨b, 6, none⟩ = some (.int .i64 ((k : Int) + 1)) ∧ W.cell? (ad.add (k * 2)) = some (.string y.f0) ∧ W.cell? ⟨(ad.add (k * 2)).block, (ad.add (k * 2)).off + 1, none⟩ = some (.string y.f1))) (by kernel_rfl) ?s126 (fun hHeld => ?t126)
    case s126 => exact ⟨by simp [World.cell?, FVd], by simp [World.cell?, FVd], p0, p1⟩
    refine wpAnyH_take (i := 0) (oi := { dst := some 22, op := Op.move (Operand.tmp 0), type := 103, pos := "l4_client.go:85", after := #[], guard := none }) (v := ?v127) rfl (by kernel_rfl) (by kernel_rfl) (by kernel_rfl) (fun _ _ _ h => h) (Or.inl ⟨by rfl, ?y127⟩) (by assumption) ?r127
    case y127 => intro w_ hSw; (try dsimp only at hSw); go_simp; (try (with_reducible rfl))
    try simp only [Act.put, List.setIfInBounds_toArray, List.set_cons_zero, List.set_cons_succ]
    refine wpAnyH_take (i := 1) (oi := { dst := some 23, op := Op.move (Operand.tmp 0), type := 103, pos := "l4_client.go:85", after := #[], guard := none }) (v := ?v128) rfl (by kernel_rfl) (by kernel_rfl) (by kernel_rfl) (fun _ _ _ h => h) (Or.inl ⟨by rfl, ?y128⟩) (by assumption) ?r128
    case y128 => intro w_ hSw; (try dsimp only at hSw); go_simp; (try (with_reducible rfl))
    try simp only [Act.put, List.setIfInBounds_toArray, List.set_cons_zero, List.set_cons_succ]
    refine wpAnyH_take (i := 2) (oi := { dst := some 24, op := Op.nilCheck (Operand.tmp 23), type := 0, pos := "l4_client.go:85", after := #[{ on := 1, ground := Ground.data }], guard := none }) (v := ?v129) rfl (by kernel_rfl) (by kernel_rfl) (by kernel_rfl) (fun _ _ _ h => h) (Or.inl ⟨by rfl, ?y129⟩) (by assumption) ?r129
    case y129 => intro w_ hSw; (try dsimp only at hSw); go_simp; (try (with_reducible rfl))
    try simp only [Act.put, List.setIfInBounds_toArray, List.set_cons_zero, List.set_cons_succ]
    refine wpAnyH_take (i := 3) (oi := { dst := some 25, op := Op.fieldAddr 31 (Operand.tmp 24) 1, type := 0, pos := "l4_client.go:85", after := #[{ on := 2, ground := Ground.data }], guard := none }) (v := ?v130) rfl (by kernel_rfl) (by kernel_rfl) (by kernel_rfl) (fun _ _ _ h => h) (Or.inl ⟨by rfl, ?y130⟩) (by assumption) ?r130
    case y130 => intro w_ hSw; (try dsimp only at hSw); go_simp; (try (with_reducible rfl))
    try simp only [Act.put, List.setIfInBounds_toArray, List.set_cons_zero, List.set_cons_succ]
    refine wpAnyH_take (i := 4) (oi := { dst := some 26, op := Op.fieldAddr 28 (Operand.tmp 25) 1, type := 0, pos := "l4_client.go:85", after := #[{ on := 3, ground := Ground.data }], guard := none }) (v := ?v131) rfl (by kernel_rfl) (by kernel_rfl) (by kernel_rfl) (fun _ _ _ h => h) (Or.inl ⟨by rfl, ?y131⟩) (by assumption) ?r131
    case y131 => intro w_ hSw; (try dsimp only at hSw); go_simp; (try (with_reducible rfl))
    try simp only [Act.put, List.setIfInBounds_toArray, List.set_cons_zero, List.set_cons_succ]
    refine wpAnyH_take (i := 5) (oi := { dst := some 27, op := Op.load 25 (Operand.tmp 26), type := 25, pos := "l4_client.go:85", after := #[{ on := 4, ground := Ground.data }], guard := none }) (v := ?v132) rfl (by kernel_rfl) (by kernel_rfl) (by kernel_rfl) (fun _ _ _ h => h) (Or.inl ⟨by rfl, ?y132⟩) (by assumption) ?r132
    case y132 => intro w_ hSw; (try dsimp only at hSw); go_simp; (try (with_reducible rfl))
    try simp only [Act.put, List.setIfInBounds_toArray, List.set_cons_zero, List.set_cons_succ]
    refine wpAnyH_take (i := 6) (oi := { dst := some 28, op := Op.move (Operand.tmp 0), type := 103, pos := "l4_client.go:85", after := #[], guard := none }) (v := ?v133) rfl (by kernel_rfl) (by kernel_rfl) (by kernel_rfl) (fun _ _ _ h => h) (Or.inl ⟨by rfl, ?y133⟩) (by assumption) ?r133
    case y133 => intro w_ hSw; (try dsimp only at hSw); go_simp; (try (with_reducible rfl))
    try simp only [Act.put, List.setIfInBounds_toArray, List.set_cons_zero, List.set_cons_succ]
    refine wpAnyH_take (i := 7) (oi := { dst := some 29, op := Op.nilCheck (Operand.tmp 28), type := 0, pos := "l4_client.go:85", after := #[{ on := 6, ground := Ground.data }], guard := none }) (v := ?v134) rfl (by kernel_rfl) (by kernel_rfl) (by kernel_rfl) (fun _ _ _ h => h) (Or.inl ⟨by rfl, ?y134⟩) (by assumption) ?r134
    case y134 => intro w_ hSw; (try dsimp only at hSw); go_simp; (try (with_reducible rfl))
    try simp only [Act.put, List.setIfInBounds_toArray, List.set_cons_zero, List.set_cons_succ]
    refine wpAnyH_take (i := 8) (oi := { dst := some 30, op := Op.fieldAddr 31 (Operand.tmp 29) 3, type := 0, pos := "l4_client.go:85", after := #[{ on := 7, ground := Ground.data }], guard := none }) (v := ?v135) rfl (by kernel_rfl) (by kernel_rfl) (by kernel_rfl) (fun _ _ _ h => h) (Or.inl ⟨by rfl, ?y135⟩) (by assumption) ?r135
    case y135 => intro w_ hSw; (try dsimp only at hSw); go_simp; (try (with_reducible rfl))
    try simp only [Act.put, List.setIfInBounds_toArray, List.set_cons_zero, List.set_cons_succ]
    refine wpAnyH_take (i := 9) (oi := { dst := some 31, op := Op.load 3 (Operand.tmp 30), type := 3, pos := "l4_client.go:85", after := #[{ on := 8, ground := Ground.data }], guard := none }) (v := ?v136) rfl (by kernel_rfl) (by kernel_rfl) (by kernel_rfl) (fun _ _ _ h => h) (Or.inl ⟨by rfl, ?y136⟩) (by assumption) ?r136
    case y136 => intro w_ hSw; (try dsimp only at hSw); go_simp; (try (with_reducible rfl))
    try simp only [Act.put, List.setIfInBounds_toArray, List.set_cons_zero, List.set_cons_succ]
    refine wpAnyH_take (i := 10) (oi := { dst := some 32, op := Op.binOp BinOp.sub 3 (Operand.tmp 31) (Operand.const (Value.int IntKind.i64 1)) 3, type := 3, pos := "l4_client.go:85", after := #[{ on := 9, ground := Ground.data }], guard := none }) (v := ?v137) rfl (by kernel_rfl) (by kernel_rfl) (by kernel_rfl) (fun _ _ _ h => h) (Or.inl ⟨by rfl, ?y137⟩) (by assumption) ?r137
    case y137 => intro w_ hSw; (try dsimp only at hSw); go_simp; (try (with_reducible rfl))
    try simp only [Act.put, List.setIfInBounds_toArray, List.set_cons_zero, List.set_cons_succ]
    refine wpAnyH_take (i := 11) (oi := { dst := some 33, op := Op.indexAddr 25 (Operand.tmp 27) (Operand.tmp 32), type := 0, pos := "l4_client.go:85", after := #[{ on := 5, ground := Ground.data }, { on := 10, ground := Ground.data }], guard := none }) (v := ?v138) rfl (by kernel_rfl) (by kernel_rfl) (by kernel_rfl) (fun _ _ _ h => h) (Or.inl ⟨by rfl, ?y138⟩) (by assumption) ?r138
    case y138 => intro w_ hSw; (try dsimp only at hSw); go_simp; (try (with_reducible rfl))
    try simp only [Act.put, List.setIfInBounds_toArray, List.set_cons_zero, List.set_cons_succ]
    refine wpAnyH_take (i := 12) (oi := { dst := some 34, op := Op.load 24 (Operand.tmp 33), type := 24, pos := "l4_client.go:85", after := #[{ on := 11, ground := Ground.data }], guard := none }) (v := ?v139) rfl (by kernel_rfl) (by kernel_rfl) (by kernel_rfl) (fun _ _ _ h => h) (Or.inl ⟨by rfl, ?y139⟩) (by assumption) ?r139
    case y139 => intro w_ hSw; (try dsimp only at hSw); go_simp; (try (with_reducible rfl))
    try simp only [Act.put, List.setIfInBounds_toArray, List.set_cons_zero, List.set_cons_succ]
    refine wpAnyH_ready (rs := [13]) (by kernel_rfl) (by simp) ?_
    refine AllReadyH.cons (o := { dst := some 35, op := Op.call { callee := Callee.value (Operand.func 103), args := #[Operand.tmp 34], argTypes := #[24] }, type := 9, pos := "l4_client.go:85", after := #[{ on := 12, ground := Ground.data }], guard := none }) rfl (fun K hK => ?k140) AllReadyH.nil
    case' k140 => skip
    go_simp
    refine (htext _).mono ?_
    rintro e wt ⟨rfl, bt⟩
    refine hK.out _ _ ?h140 (fun hHeld => ?j140)
    case h140 => exact HK.out _ _ bt hHeld
    clear hK K
    try simp only [Act.put, List.setIfInBounds_toArray, List.set_cons_zero, List.set_cons_succ]
    refine wpAnyH_take (i := 14) (oi := { dst := some 36, op := Op.binOp BinOp.add 9 (Operand.const (Value.string { data := #[82, 67, 80, 84, 32, 84, 79, 58] })) (Operand.tmp 35) 9, type := 9, pos := "l4_client.go:85", after := #[{ on := 13, ground := Ground.data }], guard := none }) (v := ?v141) rfl (by kernel_rfl) (by kernel_rfl) (by kernel_rfl) (fun _ _ _ h => h) (Or.inl ⟨by rfl, ?y141⟩) (by assumption) ?r141
    case y141 => intro w_ hSw; (try dsimp only at hSw); go_simp; (try (with_reducible rfl))
    try simp only [Act.put, List.setIfInBounds_toArray, List.set_cons_zero, List.set_cons_succ]
    refine wpAnyH_ready (rs := [15]) (by kernel_rfl) (by simp) ?_
    refine AllReadyH.cons (o := { dst := some 37, op := Op.call { callee := Callee.value (Operand.func 102), args := #[Operand.tmp 22, Operand.const (Value.int IntKind.i64 3), Operand.tmp 36], argTypes := #[103, 3, 9] }, type := 9, pos := "l4_client.go:85", after := #[{ on := 0, ground := Ground.data }, { on := 14, ground := Ground.data }, { on := 13, ground := Ground.chain }], guard := none }) rfl (fun K hK => ?k142) AllReadyH.nil
    case' k142 => skip
    go_simp
    have FW := below_blk (show V.drew.heap[b]? = _ from FV) bt
    have yy : wt.cell? ⟨b, 5, none⟩ = some (.int .i64 st) := by simp [World.cell?, FW]
    have yf : wt.frozen? ⟨b, 5, none⟩ = false := by simp [World.frozen?, FW]
    refine (say_any b 3 _ _ wt yy yf).mono ?_
    rintro e wz ⟨rfl, hz⟩
    have FZ : wz.heap[b]? = some (.cells #[.string nm, .string m.f0.f0, .string m.f0.f1, .slice (some ad) m.f1.length d0, .slice B1 m.f2.length d1, .int .i64 3, .int .i64 ((k : Int) + 1), .slice B2 outs.length d2] 31 (0, 0)) := by rw [hz, blk_set1 FW]; simp
    have GZ : wt.grownBy wz (some b) := by rw [hz]; exact grown_set1 _ _ _ _
    have BZ : Below base w0 wz := by rw [hz]; exact bel_set (BVd.trans (bt.mono BVs)) _ hb
    clear hz yy yf
    refine hK.out _ _ ?h142 (fun hHeld => ?j142)
    case h142 => exact ⟨by simp [World.cell?, FZ], by simp [World.cell?, FZ], (World.cell?_of_block (GZ.block _ (World.block_lt_of_cell? _ _ hHeld.2.2.1) (fun e => hgb ((add_blk ad (k * 2)).symm.trans (Option.some.inj e)).symm))).trans hHeld.2.2.1, (World.cell?_of_block (GZ.block _ (World.block_lt_of_cell? _ _ hHeld.2.2.2) (fun e => hgb ((add_blk ad (k * 2)).symm.trans (Option.some.inj e)).symm))).trans hHeld.2.2.2⟩
    clear hK K
    try simp only [Act.put, List.setIfInBounds_toArray, List.set_cons_zero, List.set_cons_succ]
    refine wpAnyH_take (i := 16) (oi := { dst := some 2, op := Op.assign (Operand.tmp 37), type := 9, pos := "l4_client.go:85", after := #[{ on := 15, ground := Ground.data }, { on := 15, ground := Ground.chain }, { on := 0, ground := Ground.phase }, { on := 1, ground := Ground.phase }, { on := 2, ground := Ground.phase }, { on := 3, ground := Ground.phase }, { on := 4, ground := Ground.phase }, { on := 5, ground := Ground.phase }, { on := 6, ground := Ground.phase }, { on := 7, ground := Ground.phase }, { on := 8, ground := Ground.phase }, { on := 9, ground := Ground.phase }, { on := 10, ground := Ground.phase }, { on := 11, ground := Ground.phase }, { on := 12, ground := Ground.phase }, { on := 13, ground := Ground.phase }, { on := 14, ground := Ground.phase }, { on := 15, ground := Ground.phase }], guard := none }) (v := ?v143) rfl (by kernel_rfl) (by kernel_rfl) (by kernel_rfl) (fun _ _ _ h => h) (Or.inl ⟨by rfl, ?y143⟩) (by assumption) ?r143
    case y143 => intro w_ hSw; (try dsimp only at hSw); go_simp; (try (with_reducible rfl))
    try simp only [Act.put, List.setIfInBounds_toArray, List.set_cons_zero, List.set_cons_succ]
    refine wpAnyH_done (by kernel_rfl) ?_ _
    have Z := Lib.hid (⟨FZ, R_else (Kd.R_below (Kd.R_drew V0.out) bt) rfl GZ (Kd.R_ne (Kd.R_below (Kd.R_drew V0.out) bt) FW (by decide)), R_else (Kd.R_below (Kd.R_drew V1.out) bt) rfl GZ (Kd.R_ne (Kd.R_below (Kd.R_drew V1.out) bt) FW (by decide)), R_else (Kd.R_below (Kd.R_drew V2.out) bt) rfl GZ (Kd.R_ne (Kd.R_below (Kd.R_drew V2.out) bt) FW (by decide)), BZ⟩ : wz.heap[b]? = some (.cells #[.string nm, .string m.f0.f0, .string m.f0.f1, .slice (some ad) m.f1.length d0, .slice B1 m.f2.length d1, .int .i64 3, .int .i64 ((k : Int) + 1), .slice B2 outs.length d2] 31 (0, 0)) ∧ Kd.R kAddr 24 wz base (fun _ => True) (.slice (some ad) m.f1.length d0) m.f1 ∧ Kd.R Kd.string 9 wz base (fun _ => True) (.slice B1 m.f2.length d1) m.f2 ∧ Kd.R (Kd.int .i64) 3 wz base (fun _ => True) (.slice B2 outs.length d2) outs ∧ Below base w0 wz)
    clear hHeld FZ GZ BZ FW bt HK p0 p1 FV FVd BV BVd
    go_wp2
    go_ret
    exact ⟨rfl, Z.out⟩
  · rw [if_neg hlt]
    have hc := containsInt_any B2 d2 outs 1 w.drew (Kd.R_reads' (Kd.R_drew U2.out)).2.2 hl
    generalize has outs 1 = q at hc ⊢
    cases q
    · rw [if_neg (by decide)]
      go_enter Tryz.func104, Tryz.ntmps104
      go_wp2
      refine wp_region_held_drew (S := (fun W => W.cell? ⟨b, 3, none⟩ = some (.slice B0 m.f1.length d0) ∧ W.cell? ⟨b, 6, none⟩ = some (.int .i64 pos))) (by kernel_rfl) ?s100 (fun hHeld => ?t100)
      case s100 => exact ⟨y3, y6⟩
      refine wpAnyH_take (i := 0) (oi := { dst := some 4, op := Op.move (Operand.tmp 0), type := 103, pos := "l4_client.go:83", after := #[], guard := none }) (v := ?v101) rfl (by kernel_rfl) (by kernel_rfl) (by kernel_rfl) (fun _ _ _ h => h) (Or.inl ⟨by rfl, ?y101⟩) (by assumption) ?r101
      case y101 => intro w_ hSw; (try dsimp only at hSw); go_simp; (try (with_reducible rfl))
      try simp only [Act.put, List.setIfInBounds_toArray, List.set_cons_zero, List.set_cons_succ]
      refine wpAnyH_take (i := 1) (oi := { dst := some 5, op := Op.nilCheck (Operand.tmp 4), type := 0, pos := "l4_client.go:83", after := #[{ on := 0, ground := Ground.data }], guard := none }) (v := ?v102) rfl (by kernel_rfl) (by kernel_rfl) (by kernel_rfl) (fun _ _ _ h => h) (Or.inl ⟨by rfl, ?y102⟩) (by assumption) ?r102
      case y102 => intro w_ hSw; (try dsimp only at hSw); go_simp; (try (with_reducible rfl))
      try simp only [Act.put, List.setIfInBounds_toArray, List.set_cons_zero, List.set_cons_succ]
      refine wpAnyH_take (i := 2) (oi := { dst := some 6, op := Op.fieldAddr 31 (Operand.tmp 5) 3, type := 0, pos := "l4_client.go:83", after := #[{ on := 1, ground := Ground.data }], guard := none }) (v := ?v103) rfl (by kernel_rfl) (by kernel_rfl) (by kernel_rfl) (fun _ _ _ h => h) (Or.inl ⟨by rfl, ?y103⟩) (by assumption) ?r103
      case y103 => intro w_ hSw; (try dsimp only at hSw); go_simp; (try (with_reducible rfl))
      try simp only [Act.put, List.setIfInBounds_toArray, List.set_cons_zero, List.set_cons_succ]
      refine wpAnyH_take (i := 3) (oi := { dst := some 7, op := Op.load 3 (Operand.tmp 6), type := 3, pos := "l4_client.go:83", after := #[{ on := 2, ground := Ground.data }], guard := none }) (v := ?v104) rfl (by kernel_rfl) (by kernel_rfl) (by kernel_rfl) (fun _ _ _ h => h) (Or.inl ⟨by rfl, ?y104⟩) (by assumption) ?r104
      case y104 => intro w_ hSw; (try dsimp only at hSw); go_simp; (try (with_reducible rfl))
      try simp only [Act.put, List.setIfInBounds_toArray, List.set_cons_zero, List.set_cons_succ]
      refine wpAnyH_take (i := 4) (oi := { dst := some 8, op := Op.move (Operand.tmp 0), type := 103, pos := "l4_client.go:83", after := #[], guard := none }) (v := ?v105) rfl (by kernel_rfl) (by kernel_rfl) (by kernel_rfl) (fun _ _ _ h => h) (Or.inl ⟨by rfl, ?y105⟩) (by assumption) ?r105
      case y105 => intro w_ hSw; (try dsimp only at hSw); go_simp; (try (with_reducible rfl))
      try simp only [Act.put, List.setIfInBounds_toArray, List.set_cons_zero, List.set_cons_succ]
      refine wpAnyH_take (i := 5) (oi := { dst := some 9, op := Op.nilCheck (Operand.tmp 8), type := 0, pos := "l4_client.go:83", after := #[{ on := 4, ground := Ground.data }], guard := none }) (v := ?v106) rfl (by kernel_rfl) (by kernel_rfl) (by kernel_rfl) (fun _ _ _ h => h) (Or.inl ⟨by rfl, ?y106⟩) (by assumption) ?r106
      case y106 => intro w_ hSw; (try dsimp only at hSw); go_simp; (try (with_reducible rfl))
      try simp only [Act.put, List.setIfInBounds_toArray, List.set_cons_zero, List.set_cons_succ]
      refine wpAnyH_take (i := 6) (oi := { dst := some 10, op := Op.fieldAddr 31 (Operand.tmp 9) 1, type := 0, pos := "l4_client.go:83", after := #[{ on := 5, ground := Ground.data }], guard := none }) (v := ?v107) rfl (by kernel_rfl) (by kernel_rfl) (by kernel_rfl) (fun _ _ _ h => h) (Or.inl ⟨by rfl, ?y107⟩) (by assumption) ?r107
      case y107 => intro w_ hSw; (try dsimp only at hSw); go_simp; (try (with_reducible rfl))
      try simp only [Act.put, List.setIfInBounds_toArray, List.set_cons_zero, List.set_cons_succ]
      refine wpAnyH_take (i := 7) (oi := { dst := some 11, op := Op.fieldAddr 28 (Operand.tmp 10) 1, type := 0, pos := "l4_client.go:83", after := #[{ on := 6, ground := Ground.data }], guard := none }) (v := ?v108) rfl (by kernel_rfl) (by kernel_rfl) (by kernel_rfl) (fun _ _ _ h => h) (Or.inl ⟨by rfl, ?y108⟩) (by assumption) ?r108
      case y108 => intro w_ hSw; (try dsimp only at hSw); go_simp; (try (with_reducible rfl))
      try simp only [Act.put, List.setIfInBounds_toArray, List.set_cons_zero, List.set_cons_succ]
      refine wpAnyH_take (i := 8) (oi := { dst := some 12, op := Op.load 25 (Operand.tmp 11), type := 25, pos := "l4_client.go:83", after := #[{ on := 7, ground := Ground.data }], guard := none }) (v := ?v109) rfl (by kernel_rfl) (by kernel_rfl) (by kernel_rfl) (fun _ _ _ h => h) (Or.inl ⟨by rfl, ?y109⟩) (by assumption) ?r109
      case y109 => intro w_ hSw; (try dsimp only at hSw); go_simp; (try (with_reducible rfl))
      try simp only [Act.put, List.setIfInBounds_toArray, List.set_cons_zero, List.set_cons_succ]
      refine wpAnyH_take (i := 9) (oi := { dst := some 13, op := Op.call { callee := Callee.builtin Builtin.len, args := #[Operand.tmp 12], argTypes := #[25] }, type := 3, pos := "l4_client.go:83", after := #[{ on := 8, ground := Ground.data }], guard := none }) (v := ?v110) rfl (by kernel_rfl) (by kernel_rfl) (by kernel_rfl) (fun _ _ _ h => h) (Or.inl ⟨by rfl, ?y110⟩) (by assumption) ?r110
      case y110 => intro w_ hSw; (try dsimp only at hSw); go_simp; (try (with_reducible rfl))
      try simp only [Act.put, List.setIfInBounds_toArray, List.set_cons_zero, List.set_cons_succ]
      refine wpAnyH_take (i := 10) (oi := { dst := some 14, op := Op.binOp BinOp.lss 3 (Operand.tmp 7) (Operand.tmp 13) 3, type := 4, pos := "l4_client.go:83", after := #[{ on := 3, ground := Ground.data }, { on := 9, ground := Ground.data }], guard := none }) (v := ?v111) rfl (by kernel_rfl) (by kernel_rfl) (by kernel_rfl) (fun _ _ _ h => h) (Or.inl ⟨by rfl, ?y111⟩) (by assumption) ?r111
      case y111 => intro w_ hSw; (try dsimp only at hSw); go_simp; (try (with_reducible rfl))
      try simp only [Act.put, List.setIfInBounds_toArray, List.set_cons_zero, List.set_cons_succ]
      refine wpAnyH_take (i := 11) (oi := { dst := some 3, op := Op.assign (Operand.tmp 14), type := 4, pos := "l4_client.go:83", after := #[{ on := 10, ground := Ground.data }], guard := none }) (v := ?v112) rfl (by kernel_rfl) (by kernel_rfl) (by kernel_rfl) (fun _ _ _ h => h) (Or.inl ⟨by rfl, ?y112⟩) (by assumption) ?r112
      case y112 => intro w_ hSw; (try dsimp only at hSw); go_simp; (try (with_reducible rfl))
      try simp only [Act.put, List.setIfInBounds_toArray, List.set_cons_zero, List.set_cons_succ]
      refine wpAnyH_done (by kernel_rfl) ?_ _
      have y71 : w.drew.cell? ⟨b, 7, none⟩ = some (.slice B2 outs.length d2) := y7
      clear hHeld y3 y6 y7 f6
      go_wp2_with fail
      refine hc.mono ?_
      rintro e w1 ⟨rfl, b1⟩
      have F1 := below_blk (show w.drew.heap[b]? = _ from HF.out) b1
      have V0 := Kd.R_below (Kd.R_drew U0.out) b1
      have V1 := Kd.R_below (Kd.R_drew U1.out) b1
      have V2 := Kd.R_below (Kd.R_drew U2.out) b1
      have BV := (Below.drew HBB.out).trans (b1.mono (show base ≤ w.drew.heap.size from Nat.le_trans hb (Nat.le_of_lt hbl)))
      clear hc b1 y71
      have yy : w1.cell? ⟨b, 5, none⟩ = some (.int .i64 st) := by simp [World.cell?, F1]
      have yf : w1.frozen? ⟨b, 5, none⟩ = false := by simp [World.frozen?, F1]
      have hsay := say_any b 6 ⟨#[81, 85, 73, 84]⟩ _ w1 yy yf
      clear yy yf
      go_wp2_with fail
      refine hsay.mono ?_
      rintro e wz ⟨rfl, hz⟩
      clear hsay
      have FZ : wz.heap[b]? = some (.cells #[.string nm, .string m.f0.f0, .string m.f0.f1, .slice B0 m.f1.length d0, .slice B1 m.f2.length d1, .int .i64 6, .int .i64 pos, .slice B2 outs.length d2] 31 (0, 0)) := by rw [hz, blk_set1 F1]; simp
      have GZ : w1.grownBy wz (some b) := by rw [hz]; exact grown_set1 _ _ _ _
      have BZ : Below base w0 wz := by rw [hz]; exact bel_set BV _ hb
      have Z := Lib.hid (⟨FZ, R_else V0 rfl GZ (Kd.R_ne V0 F1 (by decide)), R_else V1 rfl GZ (Kd.R_ne V1 F1 (by decide)), R_else V2 rfl GZ (Kd.R_ne V2 F1 (by decide)), BZ⟩ : wz.heap[b]? = some (.cells #[.string nm, .string m.f0.f0, .string m.f0.f1, .slice B0 m.f1.length d0, .slice B1 m.f2.length d1, .int .i64 6, .int .i64 pos, .slice B2 outs.length d2] 31 (0, 0)) ∧ Kd.R kAddr 24 wz base (fun _ => True) (.slice B0 m.f1.length d0) m.f1 ∧ Kd.R Kd.string 9 wz base (fun _ => True) (.slice B1 m.f2.length d1) m.f2 ∧ Kd.R (Kd.int .i64) 3 wz base (fun _ => True) (.slice B2 outs.length d2) outs ∧ Below base w0 wz)
      clear hz FZ GZ BZ
      go_wp2
      go_ret
      exact ⟨rfl, Z.out⟩
    · rw [if_pos rfl]
      go_enter Tryz.func104, Tryz.ntmps104
      go_wp2
      refine wp_region_held_drew (S := (fun W => W.cell? ⟨b, 3, none⟩ = some (.slice B0 m.f1.length d0) ∧ W.cell? ⟨b, 6, none⟩ = some (.int .i64 pos))) (by kernel_rfl) ?s113 (fun hHeld => ?t113)
      case s113 => exact ⟨y3, y6⟩
      refine wpAnyH_take (i := 0) (oi := { dst := some 4, op := Op.move (Operand.tmp 0), type := 103, pos := "l4_client.go:83", after := #[], guard := none }) (v := ?v114) rfl (by kernel_rfl) (by kernel_rfl) (by kernel_rfl) (fun _ _ _ h => h) (Or.inl ⟨by rfl, ?y114⟩) (by assumption) ?r114
      case y114 => intro w_ hSw; (try dsimp only at hSw); go_simp; (try (with_reducible rfl))
      try simp only [Act.put, List.setIfInBounds_toArray, List.set_cons_zero, List.set_cons_succ]
      refine wpAnyH_take (i := 1) (oi := { dst := some 5, op := Op.nilCheck (Operand.tmp 4), type := 0, pos := "l4_client.go:83", after := #[{ on := 0, ground := Ground.data }], guard := none }) (v := ?v115) rfl (by kernel_rfl) (by kernel_rfl) (by kernel_rfl) (fun _ _ _ h => h) (Or.inl ⟨by rfl, ?y115⟩) (by assumption) ?r115
      case y115 => intro w_ hSw; (try dsimp only at hSw); go_simp; (try (with_reducible rfl))
      try simp only [Act.put, List.setIfInBounds_toArray, List.set_cons_zero, List.set_cons_succ]
      refine wpAnyH_take (i := 2) (oi := { dst := some 6, op := Op.fieldAddr 31 (Operand.tmp 5) 3, type := 0, pos := "l4_client.go:83", after := #[{ on := 1, ground := Ground.data }], guard := none }) (v := ?v116) rfl (by kernel_rfl) (by kernel_rfl) (by kernel_rfl) (fun _ _ _ h => h) (Or.inl ⟨by rfl, ?y116⟩) (by assumption) ?r116
      case y116 => intro w_ hSw; (try dsimp only at hSw); go_simp; (try (with_reducible rfl))
      try simp only [Act.put, List.setIfInBounds_toArray, List.set_cons_zero, List.set_cons_succ]
      refine wpAnyH_take (i := 3) (oi := { dst := some 7, op := Op.load 3 (Operand.tmp 6), type := 3, pos := "l4_client.go:83", after := #[{ on := 2, ground := Ground.data }], guard := none }) (v := ?v117) rfl (by kernel_rfl) (by kernel_rfl) (by kernel_rfl) (fun _ _ _ h => h) (Or.inl ⟨by rfl, ?y117⟩) (by assumption) ?r117
      case y117 => intro w_ hSw; (try dsimp only at hSw); go_simp; (try (with_reducible rfl))
      try simp only [Act.put, List.setIfInBounds_toArray, List.set_cons_zero, List.set_cons_succ]
      refine wpAnyH_take (i := 4) (oi := { dst := some 8, op := Op.move (Operand.tmp 0), type := 103, pos := "l4_client.go:83", after := #[], guard := none }) (v := ?v118) rfl (by kernel_rfl) (by kernel_rfl) (by kernel_rfl) (fun _ _ _ h => h) (Or.inl ⟨by rfl, ?y118⟩) (by assumption) ?r118
      case y118 => intro w_ hSw; (try dsimp only at hSw); go_simp; (try (with_reducible rfl))
      try simp only [Act.put, List.setIfInBounds_toArray, List.set_cons_zero, List.set_cons_succ]
      refine wpAnyH_take (i := 5) (oi := { dst := some 9, op := Op.nilCheck (Operand.tmp 8), type := 0, pos := "l4_client.go:83", after := #[{ on := 4, ground := Ground.data }], guard := none }) (v := ?v119) rfl (by kernel_rfl) (by kernel_rfl) (by kernel_rfl) (fun _ _ _ h => h) (Or.inl ⟨by rfl, ?y119⟩) (by assumption) ?r119
      case y119 => intro w_ hSw; (try dsimp only at hSw); go_simp; (try (with_reducible rfl))
      try simp only [Act.put, List.setIfInBounds_toArray, List.set_cons_zero, List.set_cons_succ]
      refine wpAnyH_take (i := 6) (oi := { dst := some 10, op := Op.fieldAddr 31 (Operand.tmp 9) 1, type := 0, pos := "l4_client.go:83", after := #[{ on := 5, ground := Ground.data }], guard := none }) (v := ?v120) rfl (by kernel_rfl) (by kernel_rfl) (by kernel_rfl) (fun _ _ _ h => h) (Or.inl ⟨by rfl, ?y120⟩) (by assumption) ?r120
      case y120 => intro w_ hSw; (try dsimp only at hSw); go_simp; (try (with_reducible rfl))
      try simp only [Act.put, List.setIfInBounds_toArray, List.set_cons_zero, List.set_cons_succ]
      refine wpAnyH_take (i := 7) (oi := { dst := some 11, op := Op.fieldAddr 28 (Operand.tmp 10) 1, type := 0, pos := "l4_client.go:83", after := #[{ on := 6, ground := Ground.data }], guard := none }) (v := ?v121) rfl (by kernel_rfl) (by kernel_rfl) (by kernel_rfl) (fun _ _ _ h => h) (Or.inl ⟨by rfl, ?y121⟩) (by assumption) ?r121
      case y121 => intro w_ hSw; (try dsimp only at hSw); go_simp; (try (with_reducible rfl))
      try simp only [Act.put, List.setIfInBounds_toArray, List.set_cons_zero, List.set_cons_succ]
      refine wpAnyH_take (i := 8) (oi := { dst := some 12, op := Op.load 25 (Operand.tmp 11), type := 25, pos := "l4_client.go:83", after := #[{ on := 7, ground := Ground.data }], guard := none }) (v := ?v122) rfl (by kernel_rfl) (by kernel_rfl) (by kernel_rfl) (fun _ _ _ h => h) (Or.inl ⟨by rfl, ?y122⟩) (by assumption) ?r122
      case y122 => intro w_ hSw; (try dsimp only at hSw); go_simp; (try (with_reducible rfl))
      try simp only [Act.put, List.setIfInBounds_toArray, List.set_cons_zero, List.set_cons_succ]
      refine wpAnyH_take (i := 9) (oi := { dst := some 13, op := Op.call { callee := Callee.builtin Builtin.len, args := #[Operand.tmp 12], argTypes := #[25] }, type := 3, pos := "l4_client.go:83", after := #[{ on := 8, ground := Ground.data }], guard := none }) (v := ?v123) rfl (by kernel_rfl) (by kernel_rfl) (by kernel_rfl) (fun _ _ _ h => h) (Or.inl ⟨by rfl, ?y123⟩) (by assumption) ?r123
      case y123 => intro w_ hSw; (try dsimp only at hSw); go_simp; (try (with_reducible rfl))
      try simp only [Act.put, List.setIfInBounds_toArray, List.set_cons_zero, List.set_cons_succ]
      refine wpAnyH_take (i := 10) (oi := { dst := some 14, op := Op.binOp BinOp.lss 3 (Operand.tmp 7) (Operand.tmp 13) 3, type := 4, pos := "l4_client.go:83", after := #[{ on := 3, ground := Ground.data }, { on := 9, ground := Ground.data }], guard := none }) (v := ?v124) rfl (by kernel_rfl) (by kernel_rfl) (by kernel_rfl) (fun _ _ _ h => h) (Or.inl ⟨by rfl, ?y124⟩) (by assumption) ?r124
      case y124 => intro w_ hSw; (try dsimp only at hSw); go_simp; (try (with_reducible rfl))
      try simp only [Act.put, List.setIfInBounds_toArray, List.set_cons_zero, List.set_cons_succ]
      refine wpAnyH_take (i := 11) (oi := { dst := some 3, op := Op.assign (Operand.tmp 14), type := 4, pos := "l4_client.go:83", after := #[{ on := 10, ground := Ground.data }], guard := none }) (v := ?v125) rfl (by kernel_rfl) (by kernel_rfl) (by kernel_rfl) (fun _ _ _ h => h) (Or.inl ⟨by rfl, ?y125⟩) (by assumption) ?r125
      case y125 => intro w_ hSw; (try dsimp only at hSw); go_simp; (try (with_reducible rfl))
      try simp only [Act.put, List.setIfInBounds_toArray, List.set_cons_zero, List.set_cons_succ]
      refine wpAnyH_done (by kernel_rfl) ?_ _
      have y71 : w.drew.cell? ⟨b, 7, none⟩ = some (.slice B2 outs.length d2) := y7
      clear hHeld y3 y6 y7 f6
      go_wp2_with fail
      refine hc.mono ?_
      rintro e w1 ⟨rfl, b1⟩
      have F1 := below_blk (show w.drew.heap[b]? = _ from HF.out) b1
      have V0 := Kd.R_below (Kd.R_drew U0.out) b1
      have V1 := Kd.R_below (Kd.R_drew U1.out) b1
      have V2 := Kd.R_below (Kd.R_drew U2.out) b1
      have BV := (Below.drew HBB.out).trans (b1.mono (show base ≤ w.drew.heap.size from Nat.le_trans hb (Nat.le_of_lt hbl)))
      clear hc b1 y71
      have yy : w1.cell? ⟨b, 5, none⟩ = some (.int .i64 st) := by simp [World.cell?, F1]
      have yf : w1.frozen? ⟨b, 5, none⟩ = false := by simp [World.frozen?, F1]
      have hsay := say_any b 4 ⟨#[68, 65, 84, 65]⟩ _ w1 yy yf
      clear yy yf
      go_wp2_with fail
      refine hsay.mono ?_
      rintro e wz ⟨rfl, hz⟩
      clear hsay
      have FZ : wz.heap[b]? = some (.cells #[.string nm, .string m.f0.f0, .string m.f0.f1, .slice B0 m.f1.length d0, .slice B1 m.f2.length d1, .int .i64 4, .int .i64 pos, .slice B2 outs.length d2] 31 (0, 0)) := by rw [hz, blk_set1 F1]; simp
      have GZ : w1.grownBy wz (some b) := by rw [hz]; exact grown_set1 _ _ _ _
      have BZ : Below base w0 wz := by rw [hz]; exact bel_set BV _ hb
      have Z := Lib.hid (⟨FZ, R_else V0 rfl GZ (Kd.R_ne V0 F1 (by decide)), R_else V1 rfl GZ (Kd.R_ne V1 F1 (by decide)), R_else V2 rfl GZ (Kd.R_ne V2 F1 (by decide)), BZ⟩ : wz.heap[b]? = some (.cells #[.string nm, .string m.f0.f0, .string m.f0.f1, .slice B0 m.f1.length d0, .slice B1 m.f2.length d1, .int .i64 4, .int .i64 pos, .slice B2 outs.length d2] 31 (0, 0)) ∧ Kd.R kAddr 24 wz base (fun _ => True) (.slice B0 m.f1.length d0) m.f1 ∧ Kd.R Kd.string 9 wz base (fun _ => True) (.slice B1 m.f2.length d1) m.f2 ∧ Kd.R (Kd.int .i64) 3 wz base (fun _ => True) (.slice B2 outs.length d2) outs ∧ Below base w0 wz)
      clear hz FZ GZ BZ
      go_wp2
      go_ret
      exact ⟨rfl, Z.out⟩

end Go.Proofs.YtoppgnmnbbhghaaGreatDoor

/- A client's step: a contract. -/
namespace Go.Proofs.YtoppgnmnbbhghaaGreatDoor
open Go.RowKit Go.Proofs.YtoppgnmnbbhghaaGreatDoorW.PrintWords
set_option linter.unusedVariables false
set_option linter.unusedSimpArgs false



set_option maxRecDepth 100000 in
set_option maxHeartbeats 4000000 in
theorem step7_any (b : Nat) (nm : ByteArray) (m : SMail) (pos : Int) (outs : List Int) (B0 : Option Addr) (d0 : Nat) (B1 : Option Addr) (d1 : Nat) (B2 : Option Addr) (d2 : Nat) (base : Nat) (w0 w : World) (hb : base ≤ b)
    (hF : w.heap[b]? = some (.cells #[.string nm, .string m.f0.f0, .string m.f0.f1, .slice B0 m.f1.length d0, .slice B1 m.f2.length d1, .int .i64 7, .int .i64 pos, .slice B2 outs.length d2] 31 (0, 0))) (u0 : Kd.R kAddr 24 w base (fun _ => True) (.slice B0 m.f1.length d0) m.f1) (u1 : Kd.R Kd.string 9 w base (fun _ => True) (.slice B1 m.f2.length d1) m.f2) (u2 : Kd.R (Kd.int .i64) 3 w base (fun _ => True) (.slice B2 outs.length d2) outs) (HB : Below base w0 w) (hm : fitMail m) (hnm : nm.size ≤ 1048576) (h0 : 0 ≤ pos) (h1 : pos ≤ (m.f1.length : Int)) (hl : outs.length ≤ 1048576) (code : Int) :
    Calls Tryz.prog 60 #[.pointer (some ⟨b, 0, none⟩), .int .i64 code] w fun e w' => e = .returned (.string (⟨#[]⟩)) ∧ w'.heap[b]? = some (.cells #[.string nm, .string m.f0.f0, .string m.f0.f1, .slice B0 m.f1.length d0, .slice B1 m.f2.length d1, .int .i64 7, .int .i64 pos, .slice B2 outs.length d2] 31 (0, 0)) ∧ Kd.R kAddr 24 w' base (fun _ => True) (.slice B0 m.f1.length d0) m.f1 ∧ Kd.R Kd.string 9 w' base (fun _ => True) (.slice B1 m.f2.length d1) m.f2 ∧ Kd.R (Kd.int .i64) 3 w' base (fun _ => True) (.slice B2 outs.length d2) outs ∧ Below base w0 w' := by
  have HF := Lib.hid hF
  have U0 := Lib.hid u0
  have U1 := Lib.hid u1
  have U2 := Lib.hid u2
  have HBB := Lib.hid HB
  have HMM := Lib.hid hm
  have hbl := blk_lt hF
  clear hF u0 u1 u2 HB hm
  have y5 : w.cell? ⟨b, 5, none⟩ = some (.int .i64 7) := by simp [World.cell?, HF.out]
  go_enter Tryz.func60, Tryz.ntmps60
  have yy : w.cell? ⟨b, 5, none⟩ = some (.int .i64 7) := by simp [World.cell?, HF.out]
  have yf : w.frozen? ⟨b, 5, none⟩ = false := by simp [World.frozen?, HF.out]
  have hsay := say_any b 7 (⟨#[]⟩) _ w yy yf
  clear yy yf
  go_wp2_with fail
  refine hsay.mono ?_
  rintro e wz ⟨rfl, hz⟩
  clear hsay
  have FZ : wz.heap[b]? = some (.cells #[.string nm, .string m.f0.f0, .string m.f0.f1, .slice B0 m.f1.length d0, .slice B1 m.f2.length d1, .int .i64 7, .int .i64 pos, .slice B2 outs.length d2] 31 (0, 0)) := by rw [hz, blk_set1 HF.out]; simp
  have GZ : w.grownBy wz (some b) := by rw [hz]; exact grown_set1 _ _ _ _
  have BZ : Below base w0 wz := by rw [hz]; exact bel_set HBB.out _ hb
  have Z := Lib.hid (⟨FZ, R_else U0.out rfl GZ (Kd.R_ne U0.out HF.out (by decide)), R_else U1.out rfl GZ (Kd.R_ne U1.out HF.out (by decide)), R_else U2.out rfl GZ (Kd.R_ne U2.out HF.out (by decide)), BZ⟩ : wz.heap[b]? = some (.cells #[.string nm, .string m.f0.f0, .string m.f0.f1, .slice B0 m.f1.length d0, .slice B1 m.f2.length d1, .int .i64 7, .int .i64 pos, .slice B2 outs.length d2] 31 (0, 0)) ∧ Kd.R kAddr 24 wz base (fun _ => True) (.slice B0 m.f1.length d0) m.f1 ∧ Kd.R Kd.string 9 wz base (fun _ => True) (.slice B1 m.f2.length d1) m.f2 ∧ Kd.R (Kd.int .i64) 3 wz base (fun _ => True) (.slice B2 outs.length d2) outs ∧ Below base w0 wz)
  clear hz FZ GZ BZ
  go_wp2
  go_ret
  exact ⟨rfl, Z.out⟩


set_option maxRecDepth 100000 in
set_option maxHeartbeats 4000000 in
theorem step6_any (b : Nat) (nm : ByteArray) (m : SMail) (pos : Int) (outs : List Int) (B0 : Option Addr) (d0 : Nat) (B1 : Option Addr) (d1 : Nat) (B2 : Option Addr) (d2 : Nat) (base : Nat) (w0 w : World) (hb : base ≤ b)
    (hF : w.heap[b]? = some (.cells #[.string nm, .string m.f0.f0, .string m.f0.f1, .slice B0 m.f1.length d0, .slice B1 m.f2.length d1, .int .i64 6, .int .i64 pos, .slice B2 outs.length d2] 31 (0, 0))) (u0 : Kd.R kAddr 24 w base (fun _ => True) (.slice B0 m.f1.length d0) m.f1) (u1 : Kd.R Kd.string 9 w base (fun _ => True) (.slice B1 m.f2.length d1) m.f2) (u2 : Kd.R (Kd.int .i64) 3 w base (fun _ => True) (.slice B2 outs.length d2) outs) (HB : Below base w0 w) (hm : fitMail m) (hnm : nm.size ≤ 1048576) (h0 : 0 ≤ pos) (h1 : pos ≤ (m.f1.length : Int)) (hl : outs.length ≤ 1048576) (code : Int) :
    Calls Tryz.prog 60 #[.pointer (some ⟨b, 0, none⟩), .int .i64 code] w fun e w' => e = .returned (.string (⟨#[]⟩)) ∧ w'.heap[b]? = some (.cells #[.string nm, .string m.f0.f0, .string m.f0.f1, .slice B0 m.f1.length d0, .slice B1 m.f2.length d1, .int .i64 7, .int .i64 pos, .slice B2 outs.length d2] 31 (0, 0)) ∧ Kd.R kAddr 24 w' base (fun _ => True) (.slice B0 m.f1.length d0) m.f1 ∧ Kd.R Kd.string 9 w' base (fun _ => True) (.slice B1 m.f2.length d1) m.f2 ∧ Kd.R (Kd.int .i64) 3 w' base (fun _ => True) (.slice B2 outs.length d2) outs ∧ Below base w0 w' := by
  have HF := Lib.hid hF
  have U0 := Lib.hid u0
  have U1 := Lib.hid u1
  have U2 := Lib.hid u2
  have HBB := Lib.hid HB
  have HMM := Lib.hid hm
  have hbl := blk_lt hF
  clear hF u0 u1 u2 HB hm
  have y5 : w.cell? ⟨b, 5, none⟩ = some (.int .i64 6) := by simp [World.cell?, HF.out]
  go_enter Tryz.func60, Tryz.ntmps60
  have yy : w.cell? ⟨b, 5, none⟩ = some (.int .i64 6) := by simp [World.cell?, HF.out]
  have yf : w.frozen? ⟨b, 5, none⟩ = false := by simp [World.frozen?, HF.out]
  have hsay := say_any b 7 (⟨#[]⟩) _ w yy yf
  clear yy yf
  go_wp2_with fail
  refine hsay.mono ?_
  rintro e wz ⟨rfl, hz⟩
  clear hsay
  have FZ : wz.heap[b]? = some (.cells #[.string nm, .string m.f0.f0, .string m.f0.f1, .slice B0 m.f1.length d0, .slice B1 m.f2.length d1, .int .i64 7, .int .i64 pos, .slice B2 outs.length d2] 31 (0, 0)) := by rw [hz, blk_set1 HF.out]; simp
  have GZ : w.grownBy wz (some b) := by rw [hz]; exact grown_set1 _ _ _ _
  have BZ : Below base w0 wz := by rw [hz]; exact bel_set HBB.out _ hb
  have Z := Lib.hid (⟨FZ, R_else U0.out rfl GZ (Kd.R_ne U0.out HF.out (by decide)), R_else U1.out rfl GZ (Kd.R_ne U1.out HF.out (by decide)), R_else U2.out rfl GZ (Kd.R_ne U2.out HF.out (by decide)), BZ⟩ : wz.heap[b]? = some (.cells #[.string nm, .string m.f0.f0, .string m.f0.f1, .slice B0 m.f1.length d0, .slice B1 m.f2.length d1, .int .i64 7, .int .i64 pos, .slice B2 outs.length d2] 31 (0, 0)) ∧ Kd.R kAddr 24 wz base (fun _ => True) (.slice B0 m.f1.length d0) m.f1 ∧ Kd.R Kd.string 9 wz base (fun _ => True) (.slice B1 m.f2.length d1) m.f2 ∧ Kd.R (Kd.int .i64) 3 wz base (fun _ => True) (.slice B2 outs.length d2) outs ∧ Below base w0 wz)
  clear hz FZ GZ BZ
  go_wp2
  go_ret
  exact ⟨rfl, Z.out⟩


set_option maxRecDepth 100000 in
set_option maxHeartbeats 4000000 in
theorem step0_any (b : Nat) (nm : ByteArray) (m : SMail) (pos : Int) (outs : List Int) (B0 : Option Addr) (d0 : Nat) (B1 : Option Addr) (d1 : Nat) (B2 : Option Addr) (d2 : Nat) (base : Nat) (w0 w : World) (hb : base ≤ b)
    (hF : w.heap[b]? = some (.cells #[.string nm, .string m.f0.f0, .string m.f0.f1, .slice B0 m.f1.length d0, .slice B1 m.f2.length d1, .int .i64 0, .int .i64 pos, .slice B2 outs.length d2] 31 (0, 0))) (u0 : Kd.R kAddr 24 w base (fun _ => True) (.slice B0 m.f1.length d0) m.f1) (u1 : Kd.R Kd.string 9 w base (fun _ => True) (.slice B1 m.f2.length d1) m.f2) (u2 : Kd.R (Kd.int .i64) 3 w base (fun _ => True) (.slice B2 outs.length d2) outs) (HB : Below base w0 w) (hm : fitMail m) (hnm : nm.size ≤ 1048576) (h0 : 0 ≤ pos) (h1 : pos ≤ (m.f1.length : Int)) (hl : outs.length ≤ 1048576) (code : Int) (hc : code = 220) :
    Calls Tryz.prog 60 #[.pointer (some ⟨b, 0, none⟩), .int .i64 code] w fun e w' => e = .returned (.string ((⟨#[72, 69, 76, 79, 32]⟩ : ByteArray) ++ nm)) ∧ w'.heap[b]? = some (.cells #[.string nm, .string m.f0.f0, .string m.f0.f1, .slice B0 m.f1.length d0, .slice B1 m.f2.length d1, .int .i64 1, .int .i64 pos, .slice B2 outs.length d2] 31 (0, 0)) ∧ Kd.R kAddr 24 w' base (fun _ => True) (.slice B0 m.f1.length d0) m.f1 ∧ Kd.R Kd.string 9 w' base (fun _ => True) (.slice B1 m.f2.length d1) m.f2 ∧ Kd.R (Kd.int .i64) 3 w' base (fun _ => True) (.slice B2 outs.length d2) outs ∧ Below base w0 w' := by
  have HF := Lib.hid hF
  have U0 := Lib.hid u0
  have U1 := Lib.hid u1
  have U2 := Lib.hid u2
  have HBB := Lib.hid HB
  have HMM := Lib.hid hm
  have hbl := blk_lt hF
  clear hF u0 u1 u2 HB hm
  have y5 : w.cell? ⟨b, 5, none⟩ = some (.int .i64 0) := by simp [World.cell?, HF.out]
  have y0 : w.cell? ⟨b, 0, none⟩ = some (.string nm) := by simp [World.cell?, HF.out]
  have hts : ¬ 9223372036854775807 < 5 + nm.size := by omega
  subst hc
  go_enter Tryz.func60, Tryz.ntmps60
  have yy : w.cell? ⟨b, 5, none⟩ = some (.int .i64 0) := by simp [World.cell?, HF.out]
  have yf : w.frozen? ⟨b, 5, none⟩ = false := by simp [World.frozen?, HF.out]
  have hsay := say_any b 1 ((⟨#[72, 69, 76, 79, 32]⟩ : ByteArray) ++ nm) _ w yy yf
  clear yy yf
  go_wp2_with fail
  refine hsay.mono ?_
  rintro e wz ⟨rfl, hz⟩
  clear hsay
  have FZ : wz.heap[b]? = some (.cells #[.string nm, .string m.f0.f0, .string m.f0.f1, .slice B0 m.f1.length d0, .slice B1 m.f2.length d1, .int .i64 1, .int .i64 pos, .slice B2 outs.length d2] 31 (0, 0)) := by rw [hz, blk_set1 HF.out]; simp
  have GZ : w.grownBy wz (some b) := by rw [hz]; exact grown_set1 _ _ _ _
  have BZ : Below base w0 wz := by rw [hz]; exact bel_set HBB.out _ hb
  have Z := Lib.hid (⟨FZ, R_else U0.out rfl GZ (Kd.R_ne U0.out HF.out (by decide)), R_else U1.out rfl GZ (Kd.R_ne U1.out HF.out (by decide)), R_else U2.out rfl GZ (Kd.R_ne U2.out HF.out (by decide)), BZ⟩ : wz.heap[b]? = some (.cells #[.string nm, .string m.f0.f0, .string m.f0.f1, .slice B0 m.f1.length d0, .slice B1 m.f2.length d1, .int .i64 1, .int .i64 pos, .slice B2 outs.length d2] 31 (0, 0)) ∧ Kd.R kAddr 24 wz base (fun _ => True) (.slice B0 m.f1.length d0) m.f1 ∧ Kd.R Kd.string 9 wz base (fun _ => True) (.slice B1 m.f2.length d1) m.f2 ∧ Kd.R (Kd.int .i64) 3 wz base (fun _ => True) (.slice B2 outs.length d2) outs ∧ Below base w0 wz)
  clear hz FZ GZ BZ
  go_wp2
  go_ret
  exact ⟨rfl, Z.out⟩


set_option maxRecDepth 100000 in
set_option maxHeartbeats 4000000 in
theorem step1_any (b : Nat) (nm : ByteArray) (m : SMail) (pos : Int) (outs : List Int) (B0 : Option Addr) (d0 : Nat) (B1 : Option Addr) (d1 : Nat) (B2 : Option Addr) (d2 : Nat) (base : Nat) (w0 w : World) (hb : base ≤ b)
    (hF : w.heap[b]? = some (.cells #[.string nm, .string m.f0.f0, .string m.f0.f1, .slice B0 m.f1.length d0, .slice B1 m.f2.length d1, .int .i64 1, .int .i64 pos, .slice B2 outs.length d2] 31 (0, 0))) (u0 : Kd.R kAddr 24 w base (fun _ => True) (.slice B0 m.f1.length d0) m.f1) (u1 : Kd.R Kd.string 9 w base (fun _ => True) (.slice B1 m.f2.length d1) m.f2) (u2 : Kd.R (Kd.int .i64) 3 w base (fun _ => True) (.slice B2 outs.length d2) outs) (HB : Below base w0 w) (hm : fitMail m) (hnm : nm.size ≤ 1048576) (h0 : 0 ≤ pos) (h1 : pos ≤ (m.f1.length : Int)) (hl : outs.length ≤ 1048576) (code : Int) (hc : code = 250) :
    Calls Tryz.prog 60 #[.pointer (some ⟨b, 0, none⟩), .int .i64 code] w fun e w' => e = .returned (.string ((⟨#[77, 65, 73, 76, 32, 70, 82, 79, 77, 58]⟩ : ByteArray) ++ textS m.f0.f0 m.f0.f1)) ∧ w'.heap[b]? = some (.cells #[.string nm, .string m.f0.f0, .string m.f0.f1, .slice B0 m.f1.length d0, .slice B1 m.f2.length d1, .int .i64 2, .int .i64 pos, .slice B2 outs.length d2] 31 (0, 0)) ∧ Kd.R kAddr 24 w' base (fun _ => True) (.slice B0 m.f1.length d0) m.f1 ∧ Kd.R Kd.string 9 w' base (fun _ => True) (.slice B1 m.f2.length d1) m.f2 ∧ Kd.R (Kd.int .i64) 3 w' base (fun _ => True) (.slice B2 outs.length d2) outs ∧ Below base w0 w' := by
  have HF := Lib.hid hF
  have U0 := Lib.hid u0
  have U1 := Lib.hid u1
  have U2 := Lib.hid u2
  have HBB := Lib.hid HB
  have HMM := Lib.hid hm
  have hbl := blk_lt hF
  clear hF u0 u1 u2 HB hm
  have y5 : w.cell? ⟨b, 5, none⟩ = some (.int .i64 1) := by simp [World.cell?, HF.out]
  have y1 : w.cell? ⟨b, 1, none⟩ = some (.string m.f0.f0) := by simp [World.cell?, HF.out]
  have y2 : w.cell? ⟨b, 2, none⟩ = some (.string m.f0.f1) := by simp [World.cell?, HF.out]
  have hts : ¬ 9223372036854775807 < 10 + (textS m.f0.f0 m.f0.f1).size := by have := text_szN HMM.out.1.1 HMM.out.1.2; omega
  have htext := fun W => text_any m.f0.f0 m.f0.f1 W HMM.out.1.1 HMM.out.1.2
  subst hc
  go_enter Tryz.func60, Tryz.ntmps60
  go_wp2_with fail
  refine (htext _).mono ?_
  rintro e w1 ⟨rfl, b1⟩
  have F1 := below_blk HF.out b1
  have V0 := Kd.R_below U0.out b1
  have V1 := Kd.R_below U1.out b1
  have V2 := Kd.R_below U2.out b1
  have BV := HBB.out.trans (b1.mono (show base ≤ w.heap.size from Nat.le_trans hb (Nat.le_of_lt hbl)))
  clear b1 htext y1 y2 y5
  have yy : w1.cell? ⟨b, 5, none⟩ = some (.int .i64 1) := by simp [World.cell?, F1]
  have yf : w1.frozen? ⟨b, 5, none⟩ = false := by simp [World.frozen?, F1]
  have hsay := say_any b 2 ((⟨#[77, 65, 73, 76, 32, 70, 82, 79, 77, 58]⟩ : ByteArray) ++ textS m.f0.f0 m.f0.f1) _ w1 yy yf
  clear yy yf
  go_wp2_with fail
  refine hsay.mono ?_
  rintro e wz ⟨rfl, hz⟩
  clear hsay
  have FZ : wz.heap[b]? = some (.cells #[.string nm, .string m.f0.f0, .string m.f0.f1, .slice B0 m.f1.length d0, .slice B1 m.f2.length d1, .int .i64 2, .int .i64 pos, .slice B2 outs.length d2] 31 (0, 0)) := by rw [hz, blk_set1 F1]; simp
  have GZ : w1.grownBy wz (some b) := by rw [hz]; exact grown_set1 _ _ _ _
  have BZ : Below base w0 wz := by rw [hz]; exact bel_set BV _ hb
  have Z := Lib.hid (⟨FZ, R_else V0 rfl GZ (Kd.R_ne V0 F1 (by decide)), R_else V1 rfl GZ (Kd.R_ne V1 F1 (by decide)), R_else V2 rfl GZ (Kd.R_ne V2 F1 (by decide)), BZ⟩ : wz.heap[b]? = some (.cells #[.string nm, .string m.f0.f0, .string m.f0.f1, .slice B0 m.f1.length d0, .slice B1 m.f2.length d1, .int .i64 2, .int .i64 pos, .slice B2 outs.length d2] 31 (0, 0)) ∧ Kd.R kAddr 24 wz base (fun _ => True) (.slice B0 m.f1.length d0) m.f1 ∧ Kd.R Kd.string 9 wz base (fun _ => True) (.slice B1 m.f2.length d1) m.f2 ∧ Kd.R (Kd.int .i64) 3 wz base (fun _ => True) (.slice B2 outs.length d2) outs ∧ Below base w0 wz)
  clear hz FZ GZ BZ
  go_wp2
  go_ret
  exact ⟨rfl, Z.out⟩


set_option maxRecDepth 100000 in
set_option maxHeartbeats 4000000 in
theorem step4_any (b : Nat) (nm : ByteArray) (m : SMail) (pos : Int) (outs : List Int) (B0 : Option Addr) (d0 : Nat) (B1 : Option Addr) (d1 : Nat) (B2 : Option Addr) (d2 : Nat) (base : Nat) (w0 w : World) (hb : base ≤ b)
    (hF : w.heap[b]? = some (.cells #[.string nm, .string m.f0.f0, .string m.f0.f1, .slice B0 m.f1.length d0, .slice B1 m.f2.length d1, .int .i64 4, .int .i64 pos, .slice B2 outs.length d2] 31 (0, 0))) (u0 : Kd.R kAddr 24 w base (fun _ => True) (.slice B0 m.f1.length d0) m.f1) (u1 : Kd.R Kd.string 9 w base (fun _ => True) (.slice B1 m.f2.length d1) m.f2) (u2 : Kd.R (Kd.int .i64) 3 w base (fun _ => True) (.slice B2 outs.length d2) outs) (HB : Below base w0 w) (hm : fitMail m) (hnm : nm.size ≤ 1048576) (h0 : 0 ≤ pos) (h1 : pos ≤ (m.f1.length : Int)) (hl : outs.length ≤ 1048576) (code : Int) (hc : code = 354) :
    Calls Tryz.prog 60 #[.pointer (some ⟨b, 0, none⟩), .int .i64 code] w fun e w' => e = .returned (.string (dots m.f2)) ∧ w'.heap[b]? = some (.cells #[.string nm, .string m.f0.f0, .string m.f0.f1, .slice B0 m.f1.length d0, .slice B1 m.f2.length d1, .int .i64 5, .int .i64 pos, .slice B2 outs.length d2] 31 (0, 0)) ∧ Kd.R kAddr 24 w' base (fun _ => True) (.slice B0 m.f1.length d0) m.f1 ∧ Kd.R Kd.string 9 w' base (fun _ => True) (.slice B1 m.f2.length d1) m.f2 ∧ Kd.R (Kd.int .i64) 3 w' base (fun _ => True) (.slice B2 outs.length d2) outs ∧ Below base w0 w' := by
  have HF := Lib.hid hF
  have U0 := Lib.hid u0
  have U1 := Lib.hid u1
  have U2 := Lib.hid u2
  have HBB := Lib.hid HB
  have HMM := Lib.hid hm
  have hbl := blk_lt hF
  clear hF u0 u1 u2 HB hm
  have y5 : w.cell? ⟨b, 5, none⟩ = some (.int .i64 4) := by simp [World.cell?, HF.out]
  have y4 : w.cell? ⟨b, 4, none⟩ = some (.slice B1 m.f2.length d1) := by simp [World.cell?, HF.out]
  have hdots := dotted_any B1 d1 m.f2 w (Kd.R_reads' U1.out).2.2 HMM.out.2.2.1 HMM.out.2.2.2
  subst hc
  go_enter Tryz.func60, Tryz.ntmps60
  go_wp2_with fail
  refine hdots.mono ?_
  rintro e w1 ⟨rfl, b1⟩
  have F1 := below_blk HF.out b1
  have V0 := Kd.R_below U0.out b1
  have V1 := Kd.R_below U1.out b1
  have V2 := Kd.R_below U2.out b1
  have BV := HBB.out.trans (b1.mono (show base ≤ w.heap.size from Nat.le_trans hb (Nat.le_of_lt hbl)))
  clear b1 hdots y4 y5
  have yy : w1.cell? ⟨b, 5, none⟩ = some (.int .i64 4) := by simp [World.cell?, F1]
  have yf : w1.frozen? ⟨b, 5, none⟩ = false := by simp [World.frozen?, F1]
  have hsay := say_any b 5 (dots m.f2) _ w1 yy yf
  clear yy yf
  go_wp2_with fail
  refine hsay.mono ?_
  rintro e wz ⟨rfl, hz⟩
  clear hsay
  have FZ : wz.heap[b]? = some (.cells #[.string nm, .string m.f0.f0, .string m.f0.f1, .slice B0 m.f1.length d0, .slice B1 m.f2.length d1, .int .i64 5, .int .i64 pos, .slice B2 outs.length d2] 31 (0, 0)) := by rw [hz, blk_set1 F1]; simp
  have GZ : w1.grownBy wz (some b) := by rw [hz]; exact grown_set1 _ _ _ _
  have BZ : Below base w0 wz := by rw [hz]; exact bel_set BV _ hb
  have Z := Lib.hid (⟨FZ, R_else V0 rfl GZ (Kd.R_ne V0 F1 (by decide)), R_else V1 rfl GZ (Kd.R_ne V1 F1 (by decide)), R_else V2 rfl GZ (Kd.R_ne V2 F1 (by decide)), BZ⟩ : wz.heap[b]? = some (.cells #[.string nm, .string m.f0.f0, .string m.f0.f1, .slice B0 m.f1.length d0, .slice B1 m.f2.length d1, .int .i64 5, .int .i64 pos, .slice B2 outs.length d2] 31 (0, 0)) ∧ Kd.R kAddr 24 wz base (fun _ => True) (.slice B0 m.f1.length d0) m.f1 ∧ Kd.R Kd.string 9 wz base (fun _ => True) (.slice B1 m.f2.length d1) m.f2 ∧ Kd.R (Kd.int .i64) 3 wz base (fun _ => True) (.slice B2 outs.length d2) outs ∧ Below base w0 wz)
  clear hz FZ GZ BZ
  go_wp2
  go_ret
  exact ⟨rfl, Z.out⟩


set_option maxRecDepth 100000 in
set_option maxHeartbeats 4000000 in
theorem step2_any (b : Nat) (nm : ByteArray) (m : SMail) (pos : Int) (outs : List Int) (B0 : Option Addr) (d0 : Nat) (B1 : Option Addr) (d1 : Nat) (B2 : Option Addr) (d2 : Nat) (base : Nat) (w0 w : World) (hb : base ≤ b)
    (hF : w.heap[b]? = some (.cells #[.string nm, .string m.f0.f0, .string m.f0.f1, .slice B0 m.f1.length d0, .slice B1 m.f2.length d1, .int .i64 2, .int .i64 pos, .slice B2 outs.length d2] 31 (0, 0))) (u0 : Kd.R kAddr 24 w base (fun _ => True) (.slice B0 m.f1.length d0) m.f1) (u1 : Kd.R Kd.string 9 w base (fun _ => True) (.slice B1 m.f2.length d1) m.f2) (u2 : Kd.R (Kd.int .i64) 3 w base (fun _ => True) (.slice B2 outs.length d2) outs) (HB : Below base w0 w) (hm : fitMail m) (hnm : nm.size ≤ 1048576) (h0 : 0 ≤ pos) (h1 : pos ≤ (m.f1.length : Int)) (hl : outs.length ≤ 1048576) (code : Int) (hc : code = 250) :
    Calls Tryz.prog 60 #[.pointer (some ⟨b, 0, none⟩), .int .i64 code] w fun e w' => e = .returned (.string ((nextC ⟨nm, m, 2, pos, outs⟩).2)) ∧ w'.heap[b]? = some (.cells #[.string nm, .string m.f0.f0, .string m.f0.f1, .slice B0 m.f1.length d0, .slice B1 m.f2.length d1, .int .i64 (nextC ⟨nm, m, 2, pos, outs⟩).1.f2, .int .i64 (nextC ⟨nm, m, 2, pos, outs⟩).1.f3, .slice B2 outs.length d2] 31 (0, 0)) ∧ Kd.R kAddr 24 w' base (fun _ => True) (.slice B0 m.f1.length d0) m.f1 ∧ Kd.R Kd.string 9 w' base (fun _ => True) (.slice B1 m.f2.length d1) m.f2 ∧ Kd.R (Kd.int .i64) 3 w' base (fun _ => True) (.slice B2 outs.length d2) outs ∧ Below base w0 w' := by
  have HF := Lib.hid hF
  have U0 := Lib.hid u0
  have U1 := Lib.hid u1
  have U2 := Lib.hid u2
  have HBB := Lib.hid HB
  have HMM := Lib.hid hm
  have hbl := blk_lt hF
  clear hF u0 u1 u2 HB hm
  have y5 : w.cell? ⟨b, 5, none⟩ = some (.int .i64 2) := by simp [World.cell?, HF.out]
  have hn := next_any b nm m 2 pos outs B0 d0 B1 d1 B2 d2 base w0 w hb HF.out U0.out U1.out U2.out HBB.out HMM.out h0 h1 hl
  subst hc
  go_enter Tryz.func60, Tryz.ntmps60
  go_wp2_with fail
  refine hn.mono ?_
  rintro e wz ⟨rfl, Z⟩
  have Z := Lib.hid Z
  clear hn y5
  go_wp2
  go_ret
  exact ⟨rfl, Z.out⟩


set_option maxRecDepth 100000 in
set_option maxHeartbeats 4000000 in
theorem step5_any (b : Nat) (nm : ByteArray) (m : SMail) (pos : Int) (outs : List Int) (B0 : Option Addr) (d0 : Nat) (B1 : Option Addr) (d1 : Nat) (B2 : Option Addr) (d2 : Nat) (base : Nat) (w0 w : World) (hb : base ≤ b)
    (hF : w.heap[b]? = some (.cells #[.string nm, .string m.f0.f0, .string m.f0.f1, .slice B0 m.f1.length d0, .slice B1 m.f2.length d1, .int .i64 5, .int .i64 pos, .slice B2 outs.length d2] 31 (0, 0))) (u0 : Kd.R kAddr 24 w base (fun _ => True) (.slice B0 m.f1.length d0) m.f1) (u1 : Kd.R Kd.string 9 w base (fun _ => True) (.slice B1 m.f2.length d1) m.f2) (u2 : Kd.R (Kd.int .i64) 3 w base (fun _ => True) (.slice B2 outs.length d2) outs) (HB : Below base w0 w) (hm : fitMail m) (hnm : nm.size ≤ 1048576) (h0 : 0 ≤ pos) (h1 : pos ≤ (m.f1.length : Int)) (hl : outs.length ≤ 1048576) (code : Int) (hc : code = 250) :
    Calls Tryz.prog 60 #[.pointer (some ⟨b, 0, none⟩), .int .i64 code] w fun e w' => e = .returned (.string (⟨#[81, 85, 73, 84]⟩)) ∧ w'.heap[b]? = some (.cells #[.string nm, .string m.f0.f0, .string m.f0.f1, .slice B0 m.f1.length d0, .slice B1 m.f2.length d1, .int .i64 6, .int .i64 pos, .slice B2 outs.length d2] 31 (0, 0)) ∧ Kd.R kAddr 24 w' base (fun _ => True) (.slice B0 m.f1.length d0) m.f1 ∧ Kd.R Kd.string 9 w' base (fun _ => True) (.slice B1 m.f2.length d1) m.f2 ∧ Kd.R (Kd.int .i64) 3 w' base (fun _ => True) (.slice B2 outs.length d2) (becomes 2 [1] outs) ∧ Below base w0 w' := by
  have HF := Lib.hid hF
  have U0 := Lib.hid u0
  have U1 := Lib.hid u1
  have U2 := Lib.hid u2
  have HBB := Lib.hid HB
  have HMM := Lib.hid hm
  have hbl := blk_lt hF
  clear hF u0 u1 u2 HB hm
  have y5 : w.cell? ⟨b, 5, none⟩ = some (.int .i64 5) := by simp [World.cell?, HF.out]
  subst hc
  go_enter Tryz.func60, Tryz.ntmps60
  go_wp2_with fail
  generalize hV : World.alloc w _ = V
  have bV : Below w.heap.size w V := by rw [← hV]; exact bel_alloc (Below.refl _ _) _
  have RF : Kd.R (Kd.int .i64) 3 V w.heap.size (fun _ => True) (.slice (some ⟨w.heap.size, 0, none⟩) 1 1) [1] := by
    rw [← hV]
    exact R_one (Kd.int .i64) 3 _ w.heap.size 1 [.int .i64 1] rfl (Nat.le_refl _)
  clear hV
  have FV := below_blk HF.out bV
  have V0 := Kd.R_below U0.out bV
  have V1 := Kd.R_below U1.out bV
  have V2 := Kd.R_below U2.out bV
  have BV := HBB.out.trans (bV.mono (show base ≤ w.heap.size from Nat.le_trans hb (Nat.le_of_lt hbl)))
  have hbb := Kd.R_ne V2 FV (by decide)
  have hbec := become_any b _ 31 outs.length d2 B2 outs 2 (some ⟨w.heap.size, 0, none⟩) 1 [1] base (fun _ => True) V FV rfl V2 hl (Kd.R_reads' RF).2.2 (by decide) (fun ad e => by
    injection e with e
    subst e
    exact Kd.R_ne_new U2.out 0) hbb
  have hlV := blk_lt FV
  have X := Lib.hid (⟨FV, V0, V1, V2, BV, hbb⟩ : _ ∧ _ ∧ _ ∧ _ ∧ _ ∧ _)
  clear FV V0 V1 V2 BV hbb RF bV y5
  refine hbec.mono ?_
  rintro e w3 ⟨⟨ve, rfl⟩, r3, g3⟩
  obtain ⟨FV, V0, V1, V2, BV, hbb⟩ := X.out
  have F3 := (g3.block b hlV hbb).trans FV
  have W0 := R_by V0 rfl V2 (by decide) g3
  have W1 := R_by V1 rfl V2 (by decide) g3
  have B3 := bel_grown BV g3 (Nat.le_trans hb (Nat.le_of_lt hlV)) (fun q hq => Kd.R_base r3 _ hq)
  clear hbec g3 FV V0 V1 V2 BV hbb X
  have yy : w3.cell? ⟨b, 5, none⟩ = some (.int .i64 5) := by simp [World.cell?, F3]
  have yf : w3.frozen? ⟨b, 5, none⟩ = false := by simp [World.frozen?, F3]
  have hsay := say_any b 6 ⟨#[81, 85, 73, 84]⟩ _ w3 yy yf
  clear yy yf
  go_wp2_with fail
  refine hsay.mono ?_
  rintro e wz ⟨rfl, hz⟩
  clear hsay
  have FZ : wz.heap[b]? = some (.cells #[.string nm, .string m.f0.f0, .string m.f0.f1, .slice B0 m.f1.length d0, .slice B1 m.f2.length d1, .int .i64 6, .int .i64 pos, .slice B2 outs.length d2] 31 (0, 0)) := by rw [hz, blk_set1 F3]; simp
  have GZ : w3.grownBy wz (some b) := by rw [hz]; exact grown_set1 _ _ _ _
  have BZ : Below base w0 wz := by rw [hz]; exact bel_set B3 _ hb
  have Z := Lib.hid (⟨FZ, R_else W0 rfl GZ (Kd.R_ne W0 F3 (by decide)), R_else W1 rfl GZ (Kd.R_ne W1 F3 (by decide)), R_else r3 rfl GZ (Kd.R_ne r3 F3 (by decide)), BZ⟩ : wz.heap[b]? = some (.cells #[.string nm, .string m.f0.f0, .string m.f0.f1, .slice B0 m.f1.length d0, .slice B1 m.f2.length d1, .int .i64 6, .int .i64 pos, .slice B2 outs.length d2] 31 (0, 0)) ∧ Kd.R kAddr 24 wz base (fun _ => True) (.slice B0 m.f1.length d0) m.f1 ∧ Kd.R Kd.string 9 wz base (fun _ => True) (.slice B1 m.f2.length d1) m.f2 ∧ Kd.R (Kd.int .i64) 3 wz base (fun _ => True) (.slice B2 outs.length d2) (becomes 2 [1] outs) ∧ Below base w0 wz)
  clear hz FZ GZ BZ
  go_wp2
  go_ret
  exact ⟨rfl, Z.out⟩


set_option maxRecDepth 100000 in
set_option maxHeartbeats 4000000 in
theorem stepF0_any (b : Nat) (nm : ByteArray) (m : SMail) (pos : Int) (outs : List Int) (B0 : Option Addr) (d0 : Nat) (B1 : Option Addr) (d1 : Nat) (B2 : Option Addr) (d2 : Nat) (base : Nat) (w0 w : World) (hb : base ≤ b)
    (hF : w.heap[b]? = some (.cells #[.string nm, .string m.f0.f0, .string m.f0.f1, .slice B0 m.f1.length d0, .slice B1 m.f2.length d1, .int .i64 0, .int .i64 pos, .slice B2 outs.length d2] 31 (0, 0))) (u0 : Kd.R kAddr 24 w base (fun _ => True) (.slice B0 m.f1.length d0) m.f1) (u1 : Kd.R Kd.string 9 w base (fun _ => True) (.slice B1 m.f2.length d1) m.f2) (u2 : Kd.R (Kd.int .i64) 3 w base (fun _ => True) (.slice B2 outs.length d2) outs) (HB : Below base w0 w) (hm : fitMail m) (hnm : nm.size ≤ 1048576) (h0 : 0 ≤ pos) (h1 : pos ≤ (m.f1.length : Int)) (hl : outs.length ≤ 1048576) (code : Int) (hc : ¬ code = 220) :
    Calls Tryz.prog 60 #[.pointer (some ⟨b, 0, none⟩), .int .i64 code] w fun e w' => e = .returned (.string (⟨#[81, 85, 73, 84]⟩)) ∧ w'.heap[b]? = some (.cells #[.string nm, .string m.f0.f0, .string m.f0.f1, .slice B0 m.f1.length d0, .slice B1 m.f2.length d1, .int .i64 6, .int .i64 pos, .slice B2 outs.length d2] 31 (0, 0)) ∧ Kd.R kAddr 24 w' base (fun _ => True) (.slice B0 m.f1.length d0) m.f1 ∧ Kd.R Kd.string 9 w' base (fun _ => True) (.slice B1 m.f2.length d1) m.f2 ∧ Kd.R (Kd.int .i64) 3 w' base (fun _ => True) (.slice B2 outs.length d2) (becomes (failC code) [0, 1] outs) ∧ Below base w0 w' := by
  have HF := Lib.hid hF
  have U0 := Lib.hid u0
  have U1 := Lib.hid u1
  have U2 := Lib.hid u2
  have HBB := Lib.hid HB
  have HMM := Lib.hid hm
  have hbl := blk_lt hF
  clear hF u0 u1 u2 HB hm
  have y5 : w.cell? ⟨b, 5, none⟩ = some (.int .i64 0) := by simp [World.cell?, HF.out]
  have hcb : (code == 220) = false := by simp [hc]
  go_enter Tryz.func60, Tryz.ntmps60
  go_wp2_with fail
  refine (failure_any code _).mono ?_
  rintro e w1 ⟨rfl, rfl⟩
  go_wp2_with fail
  generalize hV : World.alloc w _ = V
  have bV : Below w.heap.size w V := by rw [← hV]; exact bel_alloc (Below.refl _ _) _
  have RF : Kd.R (Kd.int .i64) 3 V w.heap.size (fun _ => True) (.slice (some ⟨w.heap.size, 0, none⟩) 2 2) [0, 1] := by
    rw [← hV]
    exact R_two (Kd.int .i64) 3 _ w.heap.size 0 1 [.int .i64 0] [.int .i64 1] rfl rfl (Nat.le_refl _)
  clear hV
  have FV := below_blk HF.out bV
  have V0 := Kd.R_below U0.out bV
  have V1 := Kd.R_below U1.out bV
  have V2 := Kd.R_below U2.out bV
  have BV := HBB.out.trans (bV.mono (show base ≤ w.heap.size from Nat.le_trans hb (Nat.le_of_lt hbl)))
  have hbb := Kd.R_ne V2 FV (by decide)
  have hbec := become_any b _ 31 outs.length d2 B2 outs (failC code) (some ⟨w.heap.size, 0, none⟩) 2 [0, 1] base (fun _ => True) V FV rfl V2 hl (Kd.R_reads' RF).2.2 (by decide) (fun ad e => by
    injection e with e
    subst e
    exact Kd.R_ne_new U2.out 0) hbb
  have hlV := blk_lt FV
  have X := Lib.hid (⟨FV, V0, V1, V2, BV, hbb⟩ : _ ∧ _ ∧ _ ∧ _ ∧ _ ∧ _)
  clear FV V0 V1 V2 BV hbb RF bV y5
  refine hbec.mono ?_
  rintro e w3 ⟨⟨ve, rfl⟩, r3, g3⟩
  obtain ⟨FV, V0, V1, V2, BV, hbb⟩ := X.out
  have F3 := (g3.block b hlV hbb).trans FV
  have W0 := R_by V0 rfl V2 (by decide) g3
  have W1 := R_by V1 rfl V2 (by decide) g3
  have B3 := bel_grown BV g3 (Nat.le_trans hb (Nat.le_of_lt hlV)) (fun q hq => Kd.R_base r3 _ hq)
  clear hbec g3 FV V0 V1 V2 BV hbb X
  have yy : w3.cell? ⟨b, 5, none⟩ = some (.int .i64 0) := by simp [World.cell?, F3]
  have yf : w3.frozen? ⟨b, 5, none⟩ = false := by simp [World.frozen?, F3]
  have hsay := say_any b 6 ⟨#[81, 85, 73, 84]⟩ _ w3 yy yf
  clear yy yf
  go_wp2_with fail
  refine hsay.mono ?_
  rintro e wz ⟨rfl, hz⟩
  clear hsay
  have FZ : wz.heap[b]? = some (.cells #[.string nm, .string m.f0.f0, .string m.f0.f1, .slice B0 m.f1.length d0, .slice B1 m.f2.length d1, .int .i64 6, .int .i64 pos, .slice B2 outs.length d2] 31 (0, 0)) := by rw [hz, blk_set1 F3]; simp
  have GZ : w3.grownBy wz (some b) := by rw [hz]; exact grown_set1 _ _ _ _
  have BZ : Below base w0 wz := by rw [hz]; exact bel_set B3 _ hb
  have Z := Lib.hid (⟨FZ, R_else W0 rfl GZ (Kd.R_ne W0 F3 (by decide)), R_else W1 rfl GZ (Kd.R_ne W1 F3 (by decide)), R_else r3 rfl GZ (Kd.R_ne r3 F3 (by decide)), BZ⟩ : wz.heap[b]? = some (.cells #[.string nm, .string m.f0.f0, .string m.f0.f1, .slice B0 m.f1.length d0, .slice B1 m.f2.length d1, .int .i64 6, .int .i64 pos, .slice B2 outs.length d2] 31 (0, 0)) ∧ Kd.R kAddr 24 wz base (fun _ => True) (.slice B0 m.f1.length d0) m.f1 ∧ Kd.R Kd.string 9 wz base (fun _ => True) (.slice B1 m.f2.length d1) m.f2 ∧ Kd.R (Kd.int .i64) 3 wz base (fun _ => True) (.slice B2 outs.length d2) (becomes (failC code) [0, 1] outs) ∧ Below base w0 wz)
  clear hz FZ GZ BZ
  go_wp2
  go_ret
  exact ⟨rfl, Z.out⟩


set_option maxRecDepth 100000 in
set_option maxHeartbeats 4000000 in
theorem stepF1_any (b : Nat) (nm : ByteArray) (m : SMail) (pos : Int) (outs : List Int) (B0 : Option Addr) (d0 : Nat) (B1 : Option Addr) (d1 : Nat) (B2 : Option Addr) (d2 : Nat) (base : Nat) (w0 w : World) (hb : base ≤ b)
    (hF : w.heap[b]? = some (.cells #[.string nm, .string m.f0.f0, .string m.f0.f1, .slice B0 m.f1.length d0, .slice B1 m.f2.length d1, .int .i64 1, .int .i64 pos, .slice B2 outs.length d2] 31 (0, 0))) (u0 : Kd.R kAddr 24 w base (fun _ => True) (.slice B0 m.f1.length d0) m.f1) (u1 : Kd.R Kd.string 9 w base (fun _ => True) (.slice B1 m.f2.length d1) m.f2) (u2 : Kd.R (Kd.int .i64) 3 w base (fun _ => True) (.slice B2 outs.length d2) outs) (HB : Below base w0 w) (hm : fitMail m) (hnm : nm.size ≤ 1048576) (h0 : 0 ≤ pos) (h1 : pos ≤ (m.f1.length : Int)) (hl : outs.length ≤ 1048576) (code : Int) (hc : ¬ code = 250) :
    Calls Tryz.prog 60 #[.pointer (some ⟨b, 0, none⟩), .int .i64 code] w fun e w' => e = .returned (.string (⟨#[81, 85, 73, 84]⟩)) ∧ w'.heap[b]? = some (.cells #[.string nm, .string m.f0.f0, .string m.f0.f1, .slice B0 m.f1.length d0, .slice B1 m.f2.length d1, .int .i64 6, .int .i64 pos, .slice B2 outs.length d2] 31 (0, 0)) ∧ Kd.R kAddr 24 w' base (fun _ => True) (.slice B0 m.f1.length d0) m.f1 ∧ Kd.R Kd.string 9 w' base (fun _ => True) (.slice B1 m.f2.length d1) m.f2 ∧ Kd.R (Kd.int .i64) 3 w' base (fun _ => True) (.slice B2 outs.length d2) (becomes (failC code) [0, 1] outs) ∧ Below base w0 w' := by
  have HF := Lib.hid hF
  have U0 := Lib.hid u0
  have U1 := Lib.hid u1
  have U2 := Lib.hid u2
  have HBB := Lib.hid HB
  have HMM := Lib.hid hm
  have hbl := blk_lt hF
  clear hF u0 u1 u2 HB hm
  have y5 : w.cell? ⟨b, 5, none⟩ = some (.int .i64 1) := by simp [World.cell?, HF.out]
  have hcb : (code == 250) = false := by simp [hc]
  go_enter Tryz.func60, Tryz.ntmps60
  go_wp2_with fail
  refine (failure_any code _).mono ?_
  rintro e w1 ⟨rfl, rfl⟩
  go_wp2_with fail
  generalize hV : World.alloc w _ = V
  have bV : Below w.heap.size w V := by rw [← hV]; exact bel_alloc (Below.refl _ _) _
  have RF : Kd.R (Kd.int .i64) 3 V w.heap.size (fun _ => True) (.slice (some ⟨w.heap.size, 0, none⟩) 2 2) [0, 1] := by
    rw [← hV]
    exact R_two (Kd.int .i64) 3 _ w.heap.size 0 1 [.int .i64 0] [.int .i64 1] rfl rfl (Nat.le_refl _)
  clear hV
  have FV := below_blk HF.out bV
  have V0 := Kd.R_below U0.out bV
  have V1 := Kd.R_below U1.out bV
  have V2 := Kd.R_below U2.out bV
  have BV := HBB.out.trans (bV.mono (show base ≤ w.heap.size from Nat.le_trans hb (Nat.le_of_lt hbl)))
  have hbb := Kd.R_ne V2 FV (by decide)
  have hbec := become_any b _ 31 outs.length d2 B2 outs (failC code) (some ⟨w.heap.size, 0, none⟩) 2 [0, 1] base (fun _ => True) V FV rfl V2 hl (Kd.R_reads' RF).2.2 (by decide) (fun ad e => by
    injection e with e
    subst e
    exact Kd.R_ne_new U2.out 0) hbb
  have hlV := blk_lt FV
  have X := Lib.hid (⟨FV, V0, V1, V2, BV, hbb⟩ : _ ∧ _ ∧ _ ∧ _ ∧ _ ∧ _)
  clear FV V0 V1 V2 BV hbb RF bV y5
  refine hbec.mono ?_
  rintro e w3 ⟨⟨ve, rfl⟩, r3, g3⟩
  obtain ⟨FV, V0, V1, V2, BV, hbb⟩ := X.out
  have F3 := (g3.block b hlV hbb).trans FV
  have W0 := R_by V0 rfl V2 (by decide) g3
  have W1 := R_by V1 rfl V2 (by decide) g3
  have B3 := bel_grown BV g3 (Nat.le_trans hb (Nat.le_of_lt hlV)) (fun q hq => Kd.R_base r3 _ hq)
  clear hbec g3 FV V0 V1 V2 BV hbb X
  have yy : w3.cell? ⟨b, 5, none⟩ = some (.int .i64 1) := by simp [World.cell?, F3]
  have yf : w3.frozen? ⟨b, 5, none⟩ = false := by simp [World.frozen?, F3]
  have hsay := say_any b 6 ⟨#[81, 85, 73, 84]⟩ _ w3 yy yf
  clear yy yf
  go_wp2_with fail
  refine hsay.mono ?_
  rintro e wz ⟨rfl, hz⟩
  clear hsay
  have FZ : wz.heap[b]? = some (.cells #[.string nm, .string m.f0.f0, .string m.f0.f1, .slice B0 m.f1.length d0, .slice B1 m.f2.length d1, .int .i64 6, .int .i64 pos, .slice B2 outs.length d2] 31 (0, 0)) := by rw [hz, blk_set1 F3]; simp
  have GZ : w3.grownBy wz (some b) := by rw [hz]; exact grown_set1 _ _ _ _
  have BZ : Below base w0 wz := by rw [hz]; exact bel_set B3 _ hb
  have Z := Lib.hid (⟨FZ, R_else W0 rfl GZ (Kd.R_ne W0 F3 (by decide)), R_else W1 rfl GZ (Kd.R_ne W1 F3 (by decide)), R_else r3 rfl GZ (Kd.R_ne r3 F3 (by decide)), BZ⟩ : wz.heap[b]? = some (.cells #[.string nm, .string m.f0.f0, .string m.f0.f1, .slice B0 m.f1.length d0, .slice B1 m.f2.length d1, .int .i64 6, .int .i64 pos, .slice B2 outs.length d2] 31 (0, 0)) ∧ Kd.R kAddr 24 wz base (fun _ => True) (.slice B0 m.f1.length d0) m.f1 ∧ Kd.R Kd.string 9 wz base (fun _ => True) (.slice B1 m.f2.length d1) m.f2 ∧ Kd.R (Kd.int .i64) 3 wz base (fun _ => True) (.slice B2 outs.length d2) (becomes (failC code) [0, 1] outs) ∧ Below base w0 wz)
  clear hz FZ GZ BZ
  go_wp2
  go_ret
  exact ⟨rfl, Z.out⟩


set_option maxRecDepth 100000 in
set_option maxHeartbeats 4000000 in
theorem stepF2_any (b : Nat) (nm : ByteArray) (m : SMail) (pos : Int) (outs : List Int) (B0 : Option Addr) (d0 : Nat) (B1 : Option Addr) (d1 : Nat) (B2 : Option Addr) (d2 : Nat) (base : Nat) (w0 w : World) (hb : base ≤ b)
    (hF : w.heap[b]? = some (.cells #[.string nm, .string m.f0.f0, .string m.f0.f1, .slice B0 m.f1.length d0, .slice B1 m.f2.length d1, .int .i64 2, .int .i64 pos, .slice B2 outs.length d2] 31 (0, 0))) (u0 : Kd.R kAddr 24 w base (fun _ => True) (.slice B0 m.f1.length d0) m.f1) (u1 : Kd.R Kd.string 9 w base (fun _ => True) (.slice B1 m.f2.length d1) m.f2) (u2 : Kd.R (Kd.int .i64) 3 w base (fun _ => True) (.slice B2 outs.length d2) outs) (HB : Below base w0 w) (hm : fitMail m) (hnm : nm.size ≤ 1048576) (h0 : 0 ≤ pos) (h1 : pos ≤ (m.f1.length : Int)) (hl : outs.length ≤ 1048576) (code : Int) (hc : ¬ code = 250) :
    Calls Tryz.prog 60 #[.pointer (some ⟨b, 0, none⟩), .int .i64 code] w fun e w' => e = .returned (.string (⟨#[81, 85, 73, 84]⟩)) ∧ w'.heap[b]? = some (.cells #[.string nm, .string m.f0.f0, .string m.f0.f1, .slice B0 m.f1.length d0, .slice B1 m.f2.length d1, .int .i64 6, .int .i64 pos, .slice B2 outs.length d2] 31 (0, 0)) ∧ Kd.R kAddr 24 w' base (fun _ => True) (.slice B0 m.f1.length d0) m.f1 ∧ Kd.R Kd.string 9 w' base (fun _ => True) (.slice B1 m.f2.length d1) m.f2 ∧ Kd.R (Kd.int .i64) 3 w' base (fun _ => True) (.slice B2 outs.length d2) (becomes (failC code) [0, 1] outs) ∧ Below base w0 w' := by
  have HF := Lib.hid hF
  have U0 := Lib.hid u0
  have U1 := Lib.hid u1
  have U2 := Lib.hid u2
  have HBB := Lib.hid HB
  have HMM := Lib.hid hm
  have hbl := blk_lt hF
  clear hF u0 u1 u2 HB hm
  have y5 : w.cell? ⟨b, 5, none⟩ = some (.int .i64 2) := by simp [World.cell?, HF.out]
  have hcb : (code == 250) = false := by simp [hc]
  go_enter Tryz.func60, Tryz.ntmps60
  go_wp2_with fail
  refine (failure_any code _).mono ?_
  rintro e w1 ⟨rfl, rfl⟩
  go_wp2_with fail
  generalize hV : World.alloc w _ = V
  have bV : Below w.heap.size w V := by rw [← hV]; exact bel_alloc (Below.refl _ _) _
  have RF : Kd.R (Kd.int .i64) 3 V w.heap.size (fun _ => True) (.slice (some ⟨w.heap.size, 0, none⟩) 2 2) [0, 1] := by
    rw [← hV]
    exact R_two (Kd.int .i64) 3 _ w.heap.size 0 1 [.int .i64 0] [.int .i64 1] rfl rfl (Nat.le_refl _)
  clear hV
  have FV := below_blk HF.out bV
  have V0 := Kd.R_below U0.out bV
  have V1 := Kd.R_below U1.out bV
  have V2 := Kd.R_below U2.out bV
  have BV := HBB.out.trans (bV.mono (show base ≤ w.heap.size from Nat.le_trans hb (Nat.le_of_lt hbl)))
  have hbb := Kd.R_ne V2 FV (by decide)
  have hbec := become_any b _ 31 outs.length d2 B2 outs (failC code) (some ⟨w.heap.size, 0, none⟩) 2 [0, 1] base (fun _ => True) V FV rfl V2 hl (Kd.R_reads' RF).2.2 (by decide) (fun ad e => by
    injection e with e
    subst e
    exact Kd.R_ne_new U2.out 0) hbb
  have hlV := blk_lt FV
  have X := Lib.hid (⟨FV, V0, V1, V2, BV, hbb⟩ : _ ∧ _ ∧ _ ∧ _ ∧ _ ∧ _)
  clear FV V0 V1 V2 BV hbb RF bV y5
  refine hbec.mono ?_
  rintro e w3 ⟨⟨ve, rfl⟩, r3, g3⟩
  obtain ⟨FV, V0, V1, V2, BV, hbb⟩ := X.out
  have F3 := (g3.block b hlV hbb).trans FV
  have W0 := R_by V0 rfl V2 (by decide) g3
  have W1 := R_by V1 rfl V2 (by decide) g3
  have B3 := bel_grown BV g3 (Nat.le_trans hb (Nat.le_of_lt hlV)) (fun q hq => Kd.R_base r3 _ hq)
  clear hbec g3 FV V0 V1 V2 BV hbb X
  have yy : w3.cell? ⟨b, 5, none⟩ = some (.int .i64 2) := by simp [World.cell?, F3]
  have yf : w3.frozen? ⟨b, 5, none⟩ = false := by simp [World.frozen?, F3]
  have hsay := say_any b 6 ⟨#[81, 85, 73, 84]⟩ _ w3 yy yf
  clear yy yf
  go_wp2_with fail
  refine hsay.mono ?_
  rintro e wz ⟨rfl, hz⟩
  clear hsay
  have FZ : wz.heap[b]? = some (.cells #[.string nm, .string m.f0.f0, .string m.f0.f1, .slice B0 m.f1.length d0, .slice B1 m.f2.length d1, .int .i64 6, .int .i64 pos, .slice B2 outs.length d2] 31 (0, 0)) := by rw [hz, blk_set1 F3]; simp
  have GZ : w3.grownBy wz (some b) := by rw [hz]; exact grown_set1 _ _ _ _
  have BZ : Below base w0 wz := by rw [hz]; exact bel_set B3 _ hb
  have Z := Lib.hid (⟨FZ, R_else W0 rfl GZ (Kd.R_ne W0 F3 (by decide)), R_else W1 rfl GZ (Kd.R_ne W1 F3 (by decide)), R_else r3 rfl GZ (Kd.R_ne r3 F3 (by decide)), BZ⟩ : wz.heap[b]? = some (.cells #[.string nm, .string m.f0.f0, .string m.f0.f1, .slice B0 m.f1.length d0, .slice B1 m.f2.length d1, .int .i64 6, .int .i64 pos, .slice B2 outs.length d2] 31 (0, 0)) ∧ Kd.R kAddr 24 wz base (fun _ => True) (.slice B0 m.f1.length d0) m.f1 ∧ Kd.R Kd.string 9 wz base (fun _ => True) (.slice B1 m.f2.length d1) m.f2 ∧ Kd.R (Kd.int .i64) 3 wz base (fun _ => True) (.slice B2 outs.length d2) (becomes (failC code) [0, 1] outs) ∧ Below base w0 wz)
  clear hz FZ GZ BZ
  go_wp2
  go_ret
  exact ⟨rfl, Z.out⟩


set_option maxRecDepth 100000 in
set_option maxHeartbeats 4000000 in
theorem stepF4_any (b : Nat) (nm : ByteArray) (m : SMail) (pos : Int) (outs : List Int) (B0 : Option Addr) (d0 : Nat) (B1 : Option Addr) (d1 : Nat) (B2 : Option Addr) (d2 : Nat) (base : Nat) (w0 w : World) (hb : base ≤ b)
    (hF : w.heap[b]? = some (.cells #[.string nm, .string m.f0.f0, .string m.f0.f1, .slice B0 m.f1.length d0, .slice B1 m.f2.length d1, .int .i64 4, .int .i64 pos, .slice B2 outs.length d2] 31 (0, 0))) (u0 : Kd.R kAddr 24 w base (fun _ => True) (.slice B0 m.f1.length d0) m.f1) (u1 : Kd.R Kd.string 9 w base (fun _ => True) (.slice B1 m.f2.length d1) m.f2) (u2 : Kd.R (Kd.int .i64) 3 w base (fun _ => True) (.slice B2 outs.length d2) outs) (HB : Below base w0 w) (hm : fitMail m) (hnm : nm.size ≤ 1048576) (h0 : 0 ≤ pos) (h1 : pos ≤ (m.f1.length : Int)) (hl : outs.length ≤ 1048576) (code : Int) (hc : ¬ code = 354) :
    Calls Tryz.prog 60 #[.pointer (some ⟨b, 0, none⟩), .int .i64 code] w fun e w' => e = .returned (.string (⟨#[81, 85, 73, 84]⟩)) ∧ w'.heap[b]? = some (.cells #[.string nm, .string m.f0.f0, .string m.f0.f1, .slice B0 m.f1.length d0, .slice B1 m.f2.length d1, .int .i64 6, .int .i64 pos, .slice B2 outs.length d2] 31 (0, 0)) ∧ Kd.R kAddr 24 w' base (fun _ => True) (.slice B0 m.f1.length d0) m.f1 ∧ Kd.R Kd.string 9 w' base (fun _ => True) (.slice B1 m.f2.length d1) m.f2 ∧ Kd.R (Kd.int .i64) 3 w' base (fun _ => True) (.slice B2 outs.length d2) (becomes (failC code) [0, 1] outs) ∧ Below base w0 w' := by
  have HF := Lib.hid hF
  have U0 := Lib.hid u0
  have U1 := Lib.hid u1
  have U2 := Lib.hid u2
  have HBB := Lib.hid HB
  have HMM := Lib.hid hm
  have hbl := blk_lt hF
  clear hF u0 u1 u2 HB hm
  have y5 : w.cell? ⟨b, 5, none⟩ = some (.int .i64 4) := by simp [World.cell?, HF.out]
  have hcb : (code == 354) = false := by simp [hc]
  go_enter Tryz.func60, Tryz.ntmps60
  go_wp2_with fail
  refine (failure_any code _).mono ?_
  rintro e w1 ⟨rfl, rfl⟩
  go_wp2_with fail
  generalize hV : World.alloc w _ = V
  have bV : Below w.heap.size w V := by rw [← hV]; exact bel_alloc (Below.refl _ _) _
  have RF : Kd.R (Kd.int .i64) 3 V w.heap.size (fun _ => True) (.slice (some ⟨w.heap.size, 0, none⟩) 2 2) [0, 1] := by
    rw [← hV]
    exact R_two (Kd.int .i64) 3 _ w.heap.size 0 1 [.int .i64 0] [.int .i64 1] rfl rfl (Nat.le_refl _)
  clear hV
  have FV := below_blk HF.out bV
  have V0 := Kd.R_below U0.out bV
  have V1 := Kd.R_below U1.out bV
  have V2 := Kd.R_below U2.out bV
  have BV := HBB.out.trans (bV.mono (show base ≤ w.heap.size from Nat.le_trans hb (Nat.le_of_lt hbl)))
  have hbb := Kd.R_ne V2 FV (by decide)
  have hbec := become_any b _ 31 outs.length d2 B2 outs (failC code) (some ⟨w.heap.size, 0, none⟩) 2 [0, 1] base (fun _ => True) V FV rfl V2 hl (Kd.R_reads' RF).2.2 (by decide) (fun ad e => by
    injection e with e
    subst e
    exact Kd.R_ne_new U2.out 0) hbb
  have hlV := blk_lt FV
  have X := Lib.hid (⟨FV, V0, V1, V2, BV, hbb⟩ : _ ∧ _ ∧ _ ∧ _ ∧ _ ∧ _)
  clear FV V0 V1 V2 BV hbb RF bV y5
  refine hbec.mono ?_
  rintro e w3 ⟨⟨ve, rfl⟩, r3, g3⟩
  obtain ⟨FV, V0, V1, V2, BV, hbb⟩ := X.out
  have F3 := (g3.block b hlV hbb).trans FV
  have W0 := R_by V0 rfl V2 (by decide) g3
  have W1 := R_by V1 rfl V2 (by decide) g3
  have B3 := bel_grown BV g3 (Nat.le_trans hb (Nat.le_of_lt hlV)) (fun q hq => Kd.R_base r3 _ hq)
  clear hbec g3 FV V0 V1 V2 BV hbb X
  have yy : w3.cell? ⟨b, 5, none⟩ = some (.int .i64 4) := by simp [World.cell?, F3]
  have yf : w3.frozen? ⟨b, 5, none⟩ = false := by simp [World.frozen?, F3]
  have hsay := say_any b 6 ⟨#[81, 85, 73, 84]⟩ _ w3 yy yf
  clear yy yf
  go_wp2_with fail
  refine hsay.mono ?_
  rintro e wz ⟨rfl, hz⟩
  clear hsay
  have FZ : wz.heap[b]? = some (.cells #[.string nm, .string m.f0.f0, .string m.f0.f1, .slice B0 m.f1.length d0, .slice B1 m.f2.length d1, .int .i64 6, .int .i64 pos, .slice B2 outs.length d2] 31 (0, 0)) := by rw [hz, blk_set1 F3]; simp
  have GZ : w3.grownBy wz (some b) := by rw [hz]; exact grown_set1 _ _ _ _
  have BZ : Below base w0 wz := by rw [hz]; exact bel_set B3 _ hb
  have Z := Lib.hid (⟨FZ, R_else W0 rfl GZ (Kd.R_ne W0 F3 (by decide)), R_else W1 rfl GZ (Kd.R_ne W1 F3 (by decide)), R_else r3 rfl GZ (Kd.R_ne r3 F3 (by decide)), BZ⟩ : wz.heap[b]? = some (.cells #[.string nm, .string m.f0.f0, .string m.f0.f1, .slice B0 m.f1.length d0, .slice B1 m.f2.length d1, .int .i64 6, .int .i64 pos, .slice B2 outs.length d2] 31 (0, 0)) ∧ Kd.R kAddr 24 wz base (fun _ => True) (.slice B0 m.f1.length d0) m.f1 ∧ Kd.R Kd.string 9 wz base (fun _ => True) (.slice B1 m.f2.length d1) m.f2 ∧ Kd.R (Kd.int .i64) 3 wz base (fun _ => True) (.slice B2 outs.length d2) (becomes (failC code) [0, 1] outs) ∧ Below base w0 wz)
  clear hz FZ GZ BZ
  go_wp2
  go_ret
  exact ⟨rfl, Z.out⟩


set_option maxRecDepth 100000 in
set_option maxHeartbeats 4000000 in
theorem stepF5_any (b : Nat) (nm : ByteArray) (m : SMail) (pos : Int) (outs : List Int) (B0 : Option Addr) (d0 : Nat) (B1 : Option Addr) (d1 : Nat) (B2 : Option Addr) (d2 : Nat) (base : Nat) (w0 w : World) (hb : base ≤ b)
    (hF : w.heap[b]? = some (.cells #[.string nm, .string m.f0.f0, .string m.f0.f1, .slice B0 m.f1.length d0, .slice B1 m.f2.length d1, .int .i64 5, .int .i64 pos, .slice B2 outs.length d2] 31 (0, 0))) (u0 : Kd.R kAddr 24 w base (fun _ => True) (.slice B0 m.f1.length d0) m.f1) (u1 : Kd.R Kd.string 9 w base (fun _ => True) (.slice B1 m.f2.length d1) m.f2) (u2 : Kd.R (Kd.int .i64) 3 w base (fun _ => True) (.slice B2 outs.length d2) outs) (HB : Below base w0 w) (hm : fitMail m) (hnm : nm.size ≤ 1048576) (h0 : 0 ≤ pos) (h1 : pos ≤ (m.f1.length : Int)) (hl : outs.length ≤ 1048576) (code : Int) (hc : ¬ code = 250) :
    Calls Tryz.prog 60 #[.pointer (some ⟨b, 0, none⟩), .int .i64 code] w fun e w' => e = .returned (.string (⟨#[81, 85, 73, 84]⟩)) ∧ w'.heap[b]? = some (.cells #[.string nm, .string m.f0.f0, .string m.f0.f1, .slice B0 m.f1.length d0, .slice B1 m.f2.length d1, .int .i64 6, .int .i64 pos, .slice B2 outs.length d2] 31 (0, 0)) ∧ Kd.R kAddr 24 w' base (fun _ => True) (.slice B0 m.f1.length d0) m.f1 ∧ Kd.R Kd.string 9 w' base (fun _ => True) (.slice B1 m.f2.length d1) m.f2 ∧ Kd.R (Kd.int .i64) 3 w' base (fun _ => True) (.slice B2 outs.length d2) (becomes (failC code) [0, 1] outs) ∧ Below base w0 w' := by
  have HF := Lib.hid hF
  have U0 := Lib.hid u0
  have U1 := Lib.hid u1
  have U2 := Lib.hid u2
  have HBB := Lib.hid HB
  have HMM := Lib.hid hm
  have hbl := blk_lt hF
  clear hF u0 u1 u2 HB hm
  have y5 : w.cell? ⟨b, 5, none⟩ = some (.int .i64 5) := by simp [World.cell?, HF.out]
  have hcb : (code == 250) = false := by simp [hc]
  go_enter Tryz.func60, Tryz.ntmps60
  go_wp2_with fail
  refine (failure_any code _).mono ?_
  rintro e w1 ⟨rfl, rfl⟩
  go_wp2_with fail
  generalize hV : World.alloc w _ = V
  have bV : Below w.heap.size w V := by rw [← hV]; exact bel_alloc (Below.refl _ _) _
  have RF : Kd.R (Kd.int .i64) 3 V w.heap.size (fun _ => True) (.slice (some ⟨w.heap.size, 0, none⟩) 2 2) [0, 1] := by
    rw [← hV]
    exact R_two (Kd.int .i64) 3 _ w.heap.size 0 1 [.int .i64 0] [.int .i64 1] rfl rfl (Nat.le_refl _)
  clear hV
  have FV := below_blk HF.out bV
  have V0 := Kd.R_below U0.out bV
  have V1 := Kd.R_below U1.out bV
  have V2 := Kd.R_below U2.out bV
  have BV := HBB.out.trans (bV.mono (show base ≤ w.heap.size from Nat.le_trans hb (Nat.le_of_lt hbl)))
  have hbb := Kd.R_ne V2 FV (by decide)
  have hbec := become_any b _ 31 outs.length d2 B2 outs (failC code) (some ⟨w.heap.size, 0, none⟩) 2 [0, 1] base (fun _ => True) V FV rfl V2 hl (Kd.R_reads' RF).2.2 (by decide) (fun ad e => by
    injection e with e
    subst e
    exact Kd.R_ne_new U2.out 0) hbb
  have hlV := blk_lt FV
  have X := Lib.hid (⟨FV, V0, V1, V2, BV, hbb⟩ : _ ∧ _ ∧ _ ∧ _ ∧ _ ∧ _)
  clear FV V0 V1 V2 BV hbb RF bV y5
  refine hbec.mono ?_
  rintro e w3 ⟨⟨ve, rfl⟩, r3, g3⟩
  obtain ⟨FV, V0, V1, V2, BV, hbb⟩ := X.out
  have F3 := (g3.block b hlV hbb).trans FV
  have W0 := R_by V0 rfl V2 (by decide) g3
  have W1 := R_by V1 rfl V2 (by decide) g3
  have B3 := bel_grown BV g3 (Nat.le_trans hb (Nat.le_of_lt hlV)) (fun q hq => Kd.R_base r3 _ hq)
  clear hbec g3 FV V0 V1 V2 BV hbb X
  have yy : w3.cell? ⟨b, 5, none⟩ = some (.int .i64 5) := by simp [World.cell?, F3]
  have yf : w3.frozen? ⟨b, 5, none⟩ = false := by simp [World.frozen?, F3]
  have hsay := say_any b 6 ⟨#[81, 85, 73, 84]⟩ _ w3 yy yf
  clear yy yf
  go_wp2_with fail
  refine hsay.mono ?_
  rintro e wz ⟨rfl, hz⟩
  clear hsay
  have FZ : wz.heap[b]? = some (.cells #[.string nm, .string m.f0.f0, .string m.f0.f1, .slice B0 m.f1.length d0, .slice B1 m.f2.length d1, .int .i64 6, .int .i64 pos, .slice B2 outs.length d2] 31 (0, 0)) := by rw [hz, blk_set1 F3]; simp
  have GZ : w3.grownBy wz (some b) := by rw [hz]; exact grown_set1 _ _ _ _
  have BZ : Below base w0 wz := by rw [hz]; exact bel_set B3 _ hb
  have Z := Lib.hid (⟨FZ, R_else W0 rfl GZ (Kd.R_ne W0 F3 (by decide)), R_else W1 rfl GZ (Kd.R_ne W1 F3 (by decide)), R_else r3 rfl GZ (Kd.R_ne r3 F3 (by decide)), BZ⟩ : wz.heap[b]? = some (.cells #[.string nm, .string m.f0.f0, .string m.f0.f1, .slice B0 m.f1.length d0, .slice B1 m.f2.length d1, .int .i64 6, .int .i64 pos, .slice B2 outs.length d2] 31 (0, 0)) ∧ Kd.R kAddr 24 wz base (fun _ => True) (.slice B0 m.f1.length d0) m.f1 ∧ Kd.R Kd.string 9 wz base (fun _ => True) (.slice B1 m.f2.length d1) m.f2 ∧ Kd.R (Kd.int .i64) 3 wz base (fun _ => True) (.slice B2 outs.length d2) (becomes (failC code) [0, 1] outs) ∧ Below base w0 wz)
  clear hz FZ GZ BZ
  go_wp2
  go_ret
  exact ⟨rfl, Z.out⟩


set_option maxRecDepth 100000 in
set_option maxHeartbeats 4000000 in
theorem step3_any (b : Nat) (nm : ByteArray) (m : SMail) (k : Nat) (outs : List Int) (B0 : Option Addr) (d0 : Nat) (B1 : Option Addr) (d1 : Nat) (B2 : Option Addr) (d2 : Nat) (base : Nat) (w0 w : World) (hb : base ≤ b)
    (hF : w.heap[b]? = some (.cells #[.string nm, .string m.f0.f0, .string m.f0.f1, .slice B0 m.f1.length d0, .slice B1 m.f2.length d1, .int .i64 3, .int .i64 ((k : Int) + 1), .slice B2 outs.length d2] 31 (0, 0))) (u0 : Kd.R kAddr 24 w base (fun _ => True) (.slice B0 m.f1.length d0) m.f1) (u1 : Kd.R Kd.string 9 w base (fun _ => True) (.slice B1 m.f2.length d1) m.f2) (u2 : Kd.R (Kd.int .i64) 3 w base (fun _ => True) (.slice B2 outs.length d2) outs) (HB : Below base w0 w) (hm : fitMail m) (hnm : nm.size ≤ 1048576) (h0 : 0 ≤ ((k : Int) + 1)) (h1 : ((k : Int) + 1) ≤ (m.f1.length : Int)) (hl : outs.length ≤ 1048576) (code : Int) (hkl : k < outs.length) (hc : code = 250) :
    Calls Tryz.prog 60 #[.pointer (some ⟨b, 0, none⟩), .int .i64 code] w fun e w' => e = .returned (.string ((nextC ⟨nm, m, 3, ((k : Int) + 1), (outs.set k 1)⟩).2)) ∧ w'.heap[b]? = some (.cells #[.string nm, .string m.f0.f0, .string m.f0.f1, .slice B0 m.f1.length d0, .slice B1 m.f2.length d1, .int .i64 (nextC ⟨nm, m, 3, ((k : Int) + 1), (outs.set k 1)⟩).1.f2, .int .i64 (nextC ⟨nm, m, 3, ((k : Int) + 1), (outs.set k 1)⟩).1.f3, .slice B2 outs.length d2] 31 (0, 0)) ∧ Kd.R kAddr 24 w' base (fun _ => True) (.slice B0 m.f1.length d0) m.f1 ∧ Kd.R Kd.string 9 w' base (fun _ => True) (.slice B1 m.f2.length d1) m.f2 ∧ Kd.R (Kd.int .i64) 3 w' base (fun _ => True) (.slice B2 outs.length d2) (outs.set k 1) ∧ Below base w0 w' := by
  have HF := Lib.hid hF
  have U0 := Lib.hid u0
  have U1 := Lib.hid u1
  have U2 := Lib.hid u2
  have HBB := Lib.hid HB
  have HMM := Lib.hid hm
  have hbl := blk_lt hF
  clear hF u0 u1 u2 HB hm
  have y5 : w.cell? ⟨b, 5, none⟩ = some (.int .i64 3) := by simp [World.cell?, HF.out]
  subst hc
  obtain ⟨gb, hB, hgb, hgs⟩ := own_form2 U2.out (by omega)
  subst hB
  have hbg : ¬ b = gb := fun e => Kd.R_ne U2.out HF.out (by decide) (by rw [e]; rfl)
  have UD := Aside0.mk (Kd.R_drew U2.out)
  obtain ⟨ce, hcl, hM, hcc, hfr⟩ := Kd.R_elem UD.out 0 (k : Int) (by omega) (by omega)
  rw [Int.toNat_natCast] at hM hcc hfr
  generalize outs.getD k 0 = y at hM
  have hM' : ce = [.int .i64 y] := hM
  subst hM'
  have x1 : w.drew.cell? ⟨gb, k, none⟩ = some (.int .i64 y) := by have := hcc 0 _ rfl; rwa [show k * (Kd.int .i64).sz + 0 = k from by show k * 1 + 0 = k; omega] at this
  have f1 : w.drew.frozen? ⟨gb, k, none⟩ = false := by have := hfr 0; rwa [show k * (Kd.int .i64).sz + 0 = k from by show k * 1 + 0 = k; omega] at this
  have P1 := own_put2 UD.out k hkl 1 [.int .i64 y] rfl 0 (.int .i64 1) (by decide) (by show _ = _; rfl) hcc
  rw [show k * (Kd.int .i64).sz + 0 = k from by show k * 1 + 0 = k; omega] at P1
  have HP := Aside0.mk P1.1
  have HG := Aside0.mk P1.2
  have HD := Lib.hid (show World.drew (World.setCell w ⟨gb, k, none⟩ (.int .i64 1)) = World.setCell w.drew ⟨gb, k, none⟩ (.int .i64 1) from rfl)
  have y6 : w.drew.cell? ⟨b, 6, none⟩ = some (.int .i64 ((k : Int) + 1)) := by have := HF.out; simp [World.cell?, show w.drew.heap[b]? = _ from this]
  have y7 : w.drew.cell? ⟨b, 7, none⟩ = some (.slice (some ⟨gb, 0, none⟩) outs.length d2) := by have := HF.out; simp [World.cell?, show w.drew.heap[b]? = _ from this]
  have hwk : IntKind.i64.wrap (k : Int) = (k : Int) := wrapk k (by omega)
  have hwk1 : IntKind.i64.wrap ((k : Int) + 1 - 1) = (k : Int) := by rw [show (k : Int) + 1 - 1 = k from by omega]; exact hwk
  clear P1 hcc hfr hM hcl UD
  go_enter Tryz.func60, Tryz.ntmps60
  go_wp2
  refine wp_region_held_drew (S := (fun W => W.cell? ⟨b, 7, none⟩ = some (.slice (some ⟨gb, 0, none⟩) outs.length d2) ∧ W.cell? ⟨b, 6, none⟩ = some (.int .i64 ((k : Int) + 1)))) (by kernel_rfl) ?s144 (fun hHeld => ?t144)
  case s144 => exact ⟨y7, y6⟩
  refine wpAnyH_take (i := 0) (oi := { dst := some 81, op := Op.move (Operand.tmp 0), type := 103, pos := "l4_client.go:112", after := #[], guard := none }) (v := ?v145) rfl (by kernel_rfl) (by kernel_rfl) (by kernel_rfl) (fun _ _ _ h => h) (Or.inl ⟨by rfl, ?y145⟩) (by assumption) ?r145
  case y145 => intro w_ hSw; (try dsimp only at hSw); go_simp; (try (with_reducible rfl))
  try simp only [Act.put, List.setIfInBounds_toArray, List.set_cons_zero, List.set_cons_succ]
  refine wpAnyH_take (i := 1) (oi := { dst := some 82, op := Op.nilCheck (Operand.tmp 81), type := 0, pos := "l4_client.go:112", after := #[{ on := 0, ground := Ground.data }], guard := none }) (v := ?v146) rfl (by kernel_rfl) (by kernel_rfl) (by kernel_rfl) (fun _ _ _ h => h) (Or.inl ⟨by rfl, ?y146⟩) (by assumption) ?r146
  case y146 => intro w_ hSw; (try dsimp only at hSw); go_simp; (try (with_reducible rfl))
  try simp only [Act.put, List.setIfInBounds_toArray, List.set_cons_zero, List.set_cons_succ]
  refine wpAnyH_take (i := 2) (oi := { dst := some 83, op := Op.fieldAddr 31 (Operand.tmp 82) 4, type := 0, pos := "l4_client.go:112", after := #[{ on := 1, ground := Ground.data }], guard := none }) (v := ?v147) rfl (by kernel_rfl) (by kernel_rfl) (by kernel_rfl) (fun _ _ _ h => h) (Or.inl ⟨by rfl, ?y147⟩) (by assumption) ?r147
  case y147 => intro w_ hSw; (try dsimp only at hSw); go_simp; (try (with_reducible rfl))
  try simp only [Act.put, List.setIfInBounds_toArray, List.set_cons_zero, List.set_cons_succ]
  refine wpAnyH_take (i := 3) (oi := { dst := some 84, op := Op.load 29 (Operand.tmp 83), type := 29, pos := "l4_client.go:112", after := #[{ on := 2, ground := Ground.data }], guard := none }) (v := ?v148) rfl (by kernel_rfl) (by kernel_rfl) (by kernel_rfl) (fun _ _ _ h => h) (Or.inl ⟨by rfl, ?y148⟩) (by assumption) ?r148
  case y148 => intro w_ hSw; (try dsimp only at hSw); go_simp; (try (with_reducible rfl))
  try simp only [Act.put, List.setIfInBounds_toArray, List.set_cons_zero, List.set_cons_succ]
  refine wpAnyH_take (i := 4) (oi := { dst := some 85, op := Op.move (Operand.tmp 0), type := 103, pos := "l4_client.go:112", after := #[], guard := none }) (v := ?v149) rfl (by kernel_rfl) (by kernel_rfl) (by kernel_rfl) (fun _ _ _ h => h) (Or.inl ⟨by rfl, ?y149⟩) (by assumption) ?r149
  case y149 => intro w_ hSw; (try dsimp only at hSw); go_simp; (try (with_reducible rfl))
  try simp only [Act.put, List.setIfInBounds_toArray, List.set_cons_zero, List.set_cons_succ]
  refine wpAnyH_take (i := 5) (oi := { dst := some 86, op := Op.nilCheck (Operand.tmp 85), type := 0, pos := "l4_client.go:112", after := #[{ on := 4, ground := Ground.data }], guard := none }) (v := ?v150) rfl (by kernel_rfl) (by kernel_rfl) (by kernel_rfl) (fun _ _ _ h => h) (Or.inl ⟨by rfl, ?y150⟩) (by assumption) ?r150
  case y150 => intro w_ hSw; (try dsimp only at hSw); go_simp; (try (with_reducible rfl))
  try simp only [Act.put, List.setIfInBounds_toArray, List.set_cons_zero, List.set_cons_succ]
  refine wpAnyH_take (i := 6) (oi := { dst := some 87, op := Op.fieldAddr 31 (Operand.tmp 86) 3, type := 0, pos := "l4_client.go:112", after := #[{ on := 5, ground := Ground.data }], guard := none }) (v := ?v151) rfl (by kernel_rfl) (by kernel_rfl) (by kernel_rfl) (fun _ _ _ h => h) (Or.inl ⟨by rfl, ?y151⟩) (by assumption) ?r151
  case y151 => intro w_ hSw; (try dsimp only at hSw); go_simp; (try (with_reducible rfl))
  try simp only [Act.put, List.setIfInBounds_toArray, List.set_cons_zero, List.set_cons_succ]
  refine wpAnyH_take (i := 7) (oi := { dst := some 88, op := Op.load 3 (Operand.tmp 87), type := 3, pos := "l4_client.go:112", after := #[{ on := 6, ground := Ground.data }], guard := none }) (v := ?v152) rfl (by kernel_rfl) (by kernel_rfl) (by kernel_rfl) (fun _ _ _ h => h) (Or.inl ⟨by rfl, ?y152⟩) (by assumption) ?r152
  case y152 => intro w_ hSw; (try dsimp only at hSw); go_simp; (try (with_reducible rfl))
  try simp only [Act.put, List.setIfInBounds_toArray, List.set_cons_zero, List.set_cons_succ]
  refine wpAnyH_take (i := 8) (oi := { dst := some 89, op := Op.binOp BinOp.sub 3 (Operand.tmp 88) (Operand.const (Value.int IntKind.i64 1)) 3, type := 3, pos := "l4_client.go:112", after := #[{ on := 7, ground := Ground.data }], guard := none }) (v := ?v153) rfl (by kernel_rfl) (by kernel_rfl) (by kernel_rfl) (fun _ _ _ h => h) (Or.inl ⟨by rfl, ?y153⟩) (by assumption) ?r153
  case y153 => intro w_ hSw; (try dsimp only at hSw); go_simp; (try (with_reducible rfl))
  try simp only [Act.put, List.setIfInBounds_toArray, List.set_cons_zero, List.set_cons_succ]
  refine wpAnyH_take (i := 9) (oi := { dst := some 90, op := Op.indexAddr 29 (Operand.tmp 84) (Operand.tmp 89), type := 0, pos := "l4_client.go:112", after := #[{ on := 3, ground := Ground.data }, { on := 8, ground := Ground.data }, { on := 0, ground := Ground.phase }, { on := 1, ground := Ground.phase }, { on := 2, ground := Ground.phase }, { on := 3, ground := Ground.phase }, { on := 4, ground := Ground.phase }, { on := 5, ground := Ground.phase }, { on := 6, ground := Ground.phase }, { on := 7, ground := Ground.phase }, { on := 8, ground := Ground.phase }], guard := none }) (v := ?v154) rfl (by kernel_rfl) (by kernel_rfl) (by kernel_rfl) (fun _ _ _ h => h) (Or.inl ⟨by rfl, ?y154⟩) (by assumption) ?r154
  case y154 => intro w_ hSw; (try dsimp only at hSw); go_simp; (try (with_reducible rfl))
  try simp only [Act.put, List.setIfInBounds_toArray, List.set_cons_zero, List.set_cons_succ]
  refine wpAnyH_ready (rs := [10]) (by kernel_rfl) (by simp) ?_
  refine AllReadyH.cons (o := { dst := none, op := Op.store 3 (Operand.tmp 90) (Operand.const (Value.int IntKind.i64 1)), type := 0, pos := "l4_client.go:112", after := #[{ on := 9, ground := Ground.data }, { on := 0, ground := Ground.phase }, { on := 1, ground := Ground.phase }, { on := 2, ground := Ground.phase }, { on := 3, ground := Ground.phase }, { on := 4, ground := Ground.phase }, { on := 5, ground := Ground.phase }, { on := 6, ground := Ground.phase }, { on := 7, ground := Ground.phase }, { on := 8, ground := Ground.phase }], guard := none }) rfl (fun K hK => ?k155) AllReadyH.nil
  case k155 =>
    go_simp
    generalize hV10 : World.drew (World.setCell w _ _) = V10
    have HP10 := HP.out
    have HG10 := HG.out
    rw [← HD.out, hV10] at HP10 HG10
    clear hV10
    have FX : V10.heap[b]? = some (.cells #[.string nm, .string m.f0.f0, .string m.f0.f1, .slice B0 m.f1.length d0, .slice B1 m.f2.length d1, .int .i64 3, .int .i64 ((k : Int) + 1), .slice (some ⟨gb, 0, none⟩) outs.length d2] 31 (0, 0)) := (HG10.block b hbl (fun e => hbg (Option.some.inj e))).trans HF.out
    refine hK.out _ _ ?h156 (fun hHeld => ?j156)
    case h156 => exact ⟨by simp [World.cell?, FX], by simp [World.cell?, FX]⟩
    clear hK K
    try simp only [Act.put, List.setIfInBounds_toArray, List.set_cons_zero, List.set_cons_succ]
    refine wpAnyH_done (by kernel_rfl) ?_ _
    have hn := next_any b nm m 3 ((k : Int) + 1) (outs.set k 1) B0 d0 B1 d1 (some ⟨gb, 0, none⟩) d2 base w0 V10 hb
    simp only [List.length_set] at hn
    have hn := hn FX (R_by (Kd.R_drew U0.out) rfl (Kd.R_drew U2.out) (by decide) HG10) (R_by (Kd.R_drew U1.out) rfl (Kd.R_drew U2.out) (by decide) HG10) HP10 (bel_grown (Below.drew HBB.out) HG10 (Nat.le_trans hb (Nat.le_of_lt hbl)) (fun q hq => by have := Option.some.inj hq; omega)) HMM.out h0 h1 hl
    clear hHeld FX HP10 HG10 HP HG
    go_wp2_with fail
    refine hn.mono ?_
    rintro e wz ⟨rfl, Z⟩
    have Z := Lib.hid Z
    clear hn
    go_wp2
    go_ret
    exact ⟨rfl, Z.out⟩


set_option maxRecDepth 100000 in
set_option maxHeartbeats 4000000 in
theorem stepF3_any (b : Nat) (nm : ByteArray) (m : SMail) (k : Nat) (outs : List Int) (B0 : Option Addr) (d0 : Nat) (B1 : Option Addr) (d1 : Nat) (B2 : Option Addr) (d2 : Nat) (base : Nat) (w0 w : World) (hb : base ≤ b)
    (hF : w.heap[b]? = some (.cells #[.string nm, .string m.f0.f0, .string m.f0.f1, .slice B0 m.f1.length d0, .slice B1 m.f2.length d1, .int .i64 3, .int .i64 ((k : Int) + 1), .slice B2 outs.length d2] 31 (0, 0))) (u0 : Kd.R kAddr 24 w base (fun _ => True) (.slice B0 m.f1.length d0) m.f1) (u1 : Kd.R Kd.string 9 w base (fun _ => True) (.slice B1 m.f2.length d1) m.f2) (u2 : Kd.R (Kd.int .i64) 3 w base (fun _ => True) (.slice B2 outs.length d2) outs) (HB : Below base w0 w) (hm : fitMail m) (hnm : nm.size ≤ 1048576) (h0 : 0 ≤ ((k : Int) + 1)) (h1 : ((k : Int) + 1) ≤ (m.f1.length : Int)) (hl : outs.length ≤ 1048576) (code : Int) (hkl : k < outs.length) (hc : ¬ code = 250) :
    Calls Tryz.prog 60 #[.pointer (some ⟨b, 0, none⟩), .int .i64 code] w fun e w' => e = .returned (.string ((nextC ⟨nm, m, 3, ((k : Int) + 1), (outs.set k (failC code))⟩).2)) ∧ w'.heap[b]? = some (.cells #[.string nm, .string m.f0.f0, .string m.f0.f1, .slice B0 m.f1.length d0, .slice B1 m.f2.length d1, .int .i64 (nextC ⟨nm, m, 3, ((k : Int) + 1), (outs.set k (failC code))⟩).1.f2, .int .i64 (nextC ⟨nm, m, 3, ((k : Int) + 1), (outs.set k (failC code))⟩).1.f3, .slice B2 outs.length d2] 31 (0, 0)) ∧ Kd.R kAddr 24 w' base (fun _ => True) (.slice B0 m.f1.length d0) m.f1 ∧ Kd.R Kd.string 9 w' base (fun _ => True) (.slice B1 m.f2.length d1) m.f2 ∧ Kd.R (Kd.int .i64) 3 w' base (fun _ => True) (.slice B2 outs.length d2) (outs.set k (failC code)) ∧ Below base w0 w' := by
  have HF := Lib.hid hF
  have U0 := Lib.hid u0
  have U1 := Lib.hid u1
  have U2 := Lib.hid u2
  have HBB := Lib.hid HB
  have HMM := Lib.hid hm
  have hbl := blk_lt hF
  clear hF u0 u1 u2 HB hm
  have y5 : w.cell? ⟨b, 5, none⟩ = some (.int .i64 3) := by simp [World.cell?, HF.out]
  have hcb : (code == 250) = false := by simp [hc]
  obtain ⟨gb, hB, hgb, hgs⟩ := own_form2 U2.out (by omega)
  subst hB
  have hbg : ¬ b = gb := fun e => Kd.R_ne U2.out HF.out (by decide) (by rw [e]; rfl)
  have UD := Aside0.mk (Kd.R_drew U2.out)
  obtain ⟨ce, hcl, hM, hcc, hfr⟩ := Kd.R_elem UD.out 0 (k : Int) (by omega) (by omega)
  rw [Int.toNat_natCast] at hM hcc hfr
  generalize outs.getD k 0 = y at hM
  have hM' : ce = [.int .i64 y] := hM
  subst hM'
  have x1 : w.drew.cell? ⟨gb, k, none⟩ = some (.int .i64 y) := by have := hcc 0 _ rfl; rwa [show k * (Kd.int .i64).sz + 0 = k from by show k * 1 + 0 = k; omega] at this
  have f1 : w.drew.frozen? ⟨gb, k, none⟩ = false := by have := hfr 0; rwa [show k * (Kd.int .i64).sz + 0 = k from by show k * 1 + 0 = k; omega] at this
  have P1 := own_put2 UD.out k hkl (failC code) [.int .i64 y] rfl 0 (.int .i64 (failC code)) (by decide) (by show _ = _; rfl) hcc
  rw [show k * (Kd.int .i64).sz + 0 = k from by show k * 1 + 0 = k; omega] at P1
  have HP := Aside0.mk P1.1
  have HG := Aside0.mk P1.2
  have HD := Lib.hid (show World.drew (World.setCell w ⟨gb, k, none⟩ (.int .i64 (failC code))) = World.setCell w.drew ⟨gb, k, none⟩ (.int .i64 (failC code)) from rfl)
  have y6 : w.drew.cell? ⟨b, 6, none⟩ = some (.int .i64 ((k : Int) + 1)) := by have := HF.out; simp [World.cell?, show w.drew.heap[b]? = _ from this]
  have y7 : w.drew.cell? ⟨b, 7, none⟩ = some (.slice (some ⟨gb, 0, none⟩) outs.length d2) := by have := HF.out; simp [World.cell?, show w.drew.heap[b]? = _ from this]
  have hwk : IntKind.i64.wrap (k : Int) = (k : Int) := wrapk k (by omega)
  have hwk1 : IntKind.i64.wrap ((k : Int) + 1 - 1) = (k : Int) := by rw [show (k : Int) + 1 - 1 = k from by omega]; exact hwk
  clear P1 hcc hfr hM hcl UD
  go_enter Tryz.func60, Tryz.ntmps60
  go_wp2
  refine wp_region_held_drew (S := (fun W => W.cell? ⟨b, 7, none⟩ = some (.slice (some ⟨gb, 0, none⟩) outs.length d2) ∧ W.cell? ⟨b, 6, none⟩ = some (.int .i64 ((k : Int) + 1)))) (by kernel_rfl) ?s157 (fun hHeld => ?t157)
  case s157 => exact ⟨y7, y6⟩
  refine wpAnyH_take (i := 0) (oi := { dst := some 99, op := Op.move (Operand.tmp 0), type := 103, pos := "l4_client.go:115", after := #[], guard := none }) (v := ?v158) rfl (by kernel_rfl) (by kernel_rfl) (by kernel_rfl) (fun _ _ _ h => h) (Or.inl ⟨by rfl, ?y158⟩) (by assumption) ?r158
  case y158 => intro w_ hSw; (try dsimp only at hSw); go_simp; (try (with_reducible rfl))
  try simp only [Act.put, List.setIfInBounds_toArray, List.set_cons_zero, List.set_cons_succ]
  refine wpAnyH_take (i := 1) (oi := { dst := some 100, op := Op.nilCheck (Operand.tmp 99), type := 0, pos := "l4_client.go:115", after := #[{ on := 0, ground := Ground.data }], guard := none }) (v := ?v159) rfl (by kernel_rfl) (by kernel_rfl) (by kernel_rfl) (fun _ _ _ h => h) (Or.inl ⟨by rfl, ?y159⟩) (by assumption) ?r159
  case y159 => intro w_ hSw; (try dsimp only at hSw); go_simp; (try (with_reducible rfl))
  try simp only [Act.put, List.setIfInBounds_toArray, List.set_cons_zero, List.set_cons_succ]
  refine wpAnyH_take (i := 2) (oi := { dst := some 101, op := Op.fieldAddr 31 (Operand.tmp 100) 4, type := 0, pos := "l4_client.go:115", after := #[{ on := 1, ground := Ground.data }], guard := none }) (v := ?v160) rfl (by kernel_rfl) (by kernel_rfl) (by kernel_rfl) (fun _ _ _ h => h) (Or.inl ⟨by rfl, ?y160⟩) (by assumption) ?r160
  case y160 => intro w_ hSw; (try dsimp only at hSw); go_simp; (try (with_reducible rfl))
  try simp only [Act.put, List.setIfInBounds_toArray, List.set_cons_zero, List.set_cons_succ]
  refine wpAnyH_take (i := 3) (oi := { dst := some 102, op := Op.load 29 (Operand.tmp 101), type := 29, pos := "l4_client.go:115", after := #[{ on := 2, ground := Ground.data }], guard := none }) (v := ?v161) rfl (by kernel_rfl) (by kernel_rfl) (by kernel_rfl) (fun _ _ _ h => h) (Or.inl ⟨by rfl, ?y161⟩) (by assumption) ?r161
  case y161 => intro w_ hSw; (try dsimp only at hSw); go_simp; (try (with_reducible rfl))
  try simp only [Act.put, List.setIfInBounds_toArray, List.set_cons_zero, List.set_cons_succ]
  refine wpAnyH_take (i := 4) (oi := { dst := some 103, op := Op.move (Operand.tmp 0), type := 103, pos := "l4_client.go:115", after := #[], guard := none }) (v := ?v162) rfl (by kernel_rfl) (by kernel_rfl) (by kernel_rfl) (fun _ _ _ h => h) (Or.inl ⟨by rfl, ?y162⟩) (by assumption) ?r162
  case y162 => intro w_ hSw; (try dsimp only at hSw); go_simp; (try (with_reducible rfl))
  try simp only [Act.put, List.setIfInBounds_toArray, List.set_cons_zero, List.set_cons_succ]
  refine wpAnyH_take (i := 5) (oi := { dst := some 104, op := Op.nilCheck (Operand.tmp 103), type := 0, pos := "l4_client.go:115", after := #[{ on := 4, ground := Ground.data }], guard := none }) (v := ?v163) rfl (by kernel_rfl) (by kernel_rfl) (by kernel_rfl) (fun _ _ _ h => h) (Or.inl ⟨by rfl, ?y163⟩) (by assumption) ?r163
  case y163 => intro w_ hSw; (try dsimp only at hSw); go_simp; (try (with_reducible rfl))
  try simp only [Act.put, List.setIfInBounds_toArray, List.set_cons_zero, List.set_cons_succ]
  refine wpAnyH_take (i := 6) (oi := { dst := some 105, op := Op.fieldAddr 31 (Operand.tmp 104) 3, type := 0, pos := "l4_client.go:115", after := #[{ on := 5, ground := Ground.data }], guard := none }) (v := ?v164) rfl (by kernel_rfl) (by kernel_rfl) (by kernel_rfl) (fun _ _ _ h => h) (Or.inl ⟨by rfl, ?y164⟩) (by assumption) ?r164
  case y164 => intro w_ hSw; (try dsimp only at hSw); go_simp; (try (with_reducible rfl))
  try simp only [Act.put, List.setIfInBounds_toArray, List.set_cons_zero, List.set_cons_succ]
  refine wpAnyH_take (i := 7) (oi := { dst := some 106, op := Op.load 3 (Operand.tmp 105), type := 3, pos := "l4_client.go:115", after := #[{ on := 6, ground := Ground.data }], guard := none }) (v := ?v165) rfl (by kernel_rfl) (by kernel_rfl) (by kernel_rfl) (fun _ _ _ h => h) (Or.inl ⟨by rfl, ?y165⟩) (by assumption) ?r165
  case y165 => intro w_ hSw; (try dsimp only at hSw); go_simp; (try (with_reducible rfl))
  try simp only [Act.put, List.setIfInBounds_toArray, List.set_cons_zero, List.set_cons_succ]
  refine wpAnyH_take (i := 8) (oi := { dst := some 107, op := Op.binOp BinOp.sub 3 (Operand.tmp 106) (Operand.const (Value.int IntKind.i64 1)) 3, type := 3, pos := "l4_client.go:115", after := #[{ on := 7, ground := Ground.data }], guard := none }) (v := ?v166) rfl (by kernel_rfl) (by kernel_rfl) (by kernel_rfl) (fun _ _ _ h => h) (Or.inl ⟨by rfl, ?y166⟩) (by assumption) ?r166
  case y166 => intro w_ hSw; (try dsimp only at hSw); go_simp; (try (with_reducible rfl))
  try simp only [Act.put, List.setIfInBounds_toArray, List.set_cons_zero, List.set_cons_succ]
  refine wpAnyH_take (i := 9) (oi := { dst := some 108, op := Op.move (Operand.tmp 1), type := 3, pos := "l4_client.go:115", after := #[], guard := none }) (v := ?v167) rfl (by kernel_rfl) (by kernel_rfl) (by kernel_rfl) (fun _ _ _ h => h) (Or.inl ⟨by rfl, ?y167⟩) (by assumption) ?r167
  case y167 => intro w_ hSw; (try dsimp only at hSw); go_simp; (try (with_reducible rfl))
  try simp only [Act.put, List.setIfInBounds_toArray, List.set_cons_zero, List.set_cons_succ]
  refine wpAnyH_ready (rs := [10]) (by kernel_rfl) (by simp) ?_
  refine AllReadyH.cons (o := { dst := some 109, op := Op.call { callee := Callee.value (Operand.func 105), args := #[Operand.tmp 108], argTypes := #[3] }, type := 3, pos := "l4_client.go:115", after := #[{ on := 9, ground := Ground.data }], guard := none }) rfl (fun K hK => ?k168) AllReadyH.nil
  case k168 =>
    go_simp
    refine (failure_any code _).mono ?_
    rintro e wx ⟨rfl, rfl⟩
    refine hK.out _ _ ?h169 (fun hHeld => ?j169)
    case h169 => exact hHeld
    clear hK K
    try simp only [Act.put, List.setIfInBounds_toArray, List.set_cons_zero, List.set_cons_succ]
    refine wpAnyH_take (i := 11) (oi := { dst := some 110, op := Op.indexAddr 29 (Operand.tmp 102) (Operand.tmp 107), type := 0, pos := "l4_client.go:115", after := #[{ on := 3, ground := Ground.data }, { on := 8, ground := Ground.data }, { on := 0, ground := Ground.phase }, { on := 1, ground := Ground.phase }, { on := 2, ground := Ground.phase }, { on := 3, ground := Ground.phase }, { on := 4, ground := Ground.phase }, { on := 5, ground := Ground.phase }, { on := 6, ground := Ground.phase }, { on := 7, ground := Ground.phase }, { on := 8, ground := Ground.phase }, { on := 9, ground := Ground.phase }, { on := 10, ground := Ground.phase }], guard := none }) (v := ?v170) rfl (by kernel_rfl) (by kernel_rfl) (by kernel_rfl) (fun _ _ _ h => h) (Or.inl ⟨by rfl, ?y170⟩) (by assumption) ?r170
    case y170 => intro w_ hSw; (try dsimp only at hSw); go_simp; (try (with_reducible rfl))
    try simp only [Act.put, List.setIfInBounds_toArray, List.set_cons_zero, List.set_cons_succ]
    refine wpAnyH_ready (rs := [12]) (by kernel_rfl) (by simp) ?_
    refine AllReadyH.cons (o := { dst := none, op := Op.store 3 (Operand.tmp 110) (Operand.tmp 109), type := 0, pos := "l4_client.go:115", after := #[{ on := 11, ground := Ground.data }, { on := 10, ground := Ground.data }, { on := 10, ground := Ground.chain }, { on := 0, ground := Ground.phase }, { on := 1, ground := Ground.phase }, { on := 2, ground := Ground.phase }, { on := 3, ground := Ground.phase }, { on := 4, ground := Ground.phase }, { on := 5, ground := Ground.phase }, { on := 6, ground := Ground.phase }, { on := 7, ground := Ground.phase }, { on := 8, ground := Ground.phase }, { on := 9, ground := Ground.phase }, { on := 10, ground := Ground.phase }], guard := none }) rfl (fun K hK => ?k171) AllReadyH.nil
    case k171 =>
      go_simp
      generalize hV12 : World.drew (World.setCell w _ _) = V12
      have HP12 := HP.out
      have HG12 := HG.out
      rw [← HD.out, hV12] at HP12 HG12
      clear hV12
      have FX : V12.heap[b]? = some (.cells #[.string nm, .string m.f0.f0, .string m.f0.f1, .slice B0 m.f1.length d0, .slice B1 m.f2.length d1, .int .i64 3, .int .i64 ((k : Int) + 1), .slice (some ⟨gb, 0, none⟩) outs.length d2] 31 (0, 0)) := (HG12.block b hbl (fun e => hbg (Option.some.inj e))).trans HF.out
      refine hK.out _ _ ?h172 (fun hHeld => ?j172)
      case h172 => exact ⟨by simp [World.cell?, FX], by simp [World.cell?, FX]⟩
      clear hK K
      try simp only [Act.put, List.setIfInBounds_toArray, List.set_cons_zero, List.set_cons_succ]
      refine wpAnyH_done (by kernel_rfl) ?_ _
      have hn := next_any b nm m 3 ((k : Int) + 1) (outs.set k (failC code)) B0 d0 B1 d1 (some ⟨gb, 0, none⟩) d2 base w0 V12 hb
      simp only [List.length_set] at hn
      have hn := hn FX (R_by (Kd.R_drew U0.out) rfl (Kd.R_drew U2.out) (by decide) HG12) (R_by (Kd.R_drew U1.out) rfl (Kd.R_drew U2.out) (by decide) HG12) HP12 (bel_grown (Below.drew HBB.out) HG12 (Nat.le_trans hb (Nat.le_of_lt hbl)) (fun q hq => by have := Option.some.inj hq; omega)) HMM.out h0 h1 hl
      clear hHeld FX HP12 HG12 HP HG
      go_wp2_with fail
      refine hn.mono ?_
      rintro e wz ⟨rfl, Z⟩
      have Z := Lib.hid Z
      clear hn
      go_wp2
      go_ret
      exact ⟨rfl, Z.out⟩

end Go.Proofs.YtoppgnmnbbhghaaGreatDoor

/- A client's step, of the program: contracts. -/
namespace Go.Proofs.YtoppgnmnbbhghaaGreatDoor
open Go.RowKit Go.Proofs.YtoppgnmnbbhghaaGreatDoorW.PrintWords
set_option linter.unusedVariables false
set_option linter.unusedSimpArgs false

theorem step_any (b : Nat) (nm : ByteArray) (m : SMail) (st pos : Int) (outs : List Int) (B0 : Option Addr) (d0 : Nat) (B1 : Option Addr) (d1 : Nat) (B2 : Option Addr) (d2 : Nat) (base : Nat) (w0 w : World) (hb : base ≤ b)
    (hF : w.heap[b]? = some (.cells #[.string nm, .string m.f0.f0, .string m.f0.f1, .slice B0 m.f1.length d0, .slice B1 m.f2.length d1, .int .i64 st, .int .i64 pos, .slice B2 outs.length d2] 31 (0, 0))) (u0 : Kd.R kAddr 24 w base (fun _ => True) (.slice B0 m.f1.length d0) m.f1) (u1 : Kd.R Kd.string 9 w base (fun _ => True) (.slice B1 m.f2.length d1) m.f2) (u2 : Kd.R (Kd.int .i64) 3 w base (fun _ => True) (.slice B2 outs.length d2) outs) (HB : Below base w0 w) (hm : fitMail m) (hnm : nm.size ≤ 1048576) (hst0 : 0 ≤ st) (hst1 : st ≤ 7) (h3 : st = 3 → 0 < pos) (h0 : 0 ≤ pos) (h1 : pos ≤ (m.f1.length : Int)) (hl : outs.length ≤ 1048576) (hle : outs.length = m.f1.length) (code : Int) :
    Calls Tryz.prog 60 #[.pointer (some ⟨b, 0, none⟩), .int .i64 code] w fun e w' => e = .returned (.string (stepC ⟨nm, m, st, pos, outs⟩ code).2) ∧ w'.heap[b]? = some (.cells #[.string nm, .string m.f0.f0, .string m.f0.f1, .slice B0 m.f1.length d0, .slice B1 m.f2.length d1, .int .i64 (stepC ⟨nm, m, st, pos, outs⟩ code).1.f2, .int .i64 (stepC ⟨nm, m, st, pos, outs⟩ code).1.f3, .slice B2 outs.length d2] 31 (0, 0)) ∧ Kd.R kAddr 24 w' base (fun _ => True) (.slice B0 m.f1.length d0) m.f1 ∧ Kd.R Kd.string 9 w' base (fun _ => True) (.slice B1 m.f2.length d1) m.f2 ∧ Kd.R (Kd.int .i64) 3 w' base (fun _ => True) (.slice B2 outs.length d2) (stepC ⟨nm, m, st, pos, outs⟩ code).1.f4 ∧ Below base w0 w' := by
  rcases (by omega : st = 0 ∨ st = 1 ∨ st = 2 ∨ st = 3 ∨ st = 4 ∨ st = 5 ∨ st = 6 ∨ st = 7) with rfl | rfl | rfl | rfl | rfl | rfl | rfl | rfl
  · by_cases hc : code = 220
    · refine (step0_any b nm m pos outs B0 d0 B1 d1 B2 d2 base w0 w hb hF u0 u1 u2 HB hm hnm h0 h1 hl code hc).mono ?_
      rintro e w' h
      rw [show stepC ⟨nm, m, 0, pos, outs⟩ code = (⟨nm, m, 1, pos, outs⟩, (⟨#[72, 69, 76, 79, 32]⟩ : ByteArray) ++ nm) from by simp [stepC, hc]]
      exact h
    · refine (stepF0_any b nm m pos outs B0 d0 B1 d1 B2 d2 base w0 w hb hF u0 u1 u2 HB hm hnm h0 h1 hl code hc).mono ?_
      rintro e w' h
      rw [show stepC ⟨nm, m, 0, pos, outs⟩ code = (⟨nm, m, 6, pos, becomes (failC code) [0, 1] outs⟩, ⟨#[81, 85, 73, 84]⟩) from by simp [stepC, hc]]
      exact h
  · by_cases hc : code = 250
    · refine (step1_any b nm m pos outs B0 d0 B1 d1 B2 d2 base w0 w hb hF u0 u1 u2 HB hm hnm h0 h1 hl code hc).mono ?_
      rintro e w' h
      rw [show stepC ⟨nm, m, 1, pos, outs⟩ code = (⟨nm, m, 2, pos, outs⟩, (⟨#[77, 65, 73, 76, 32, 70, 82, 79, 77, 58]⟩ : ByteArray) ++ textS m.f0.f0 m.f0.f1) from by simp [stepC, hc]]
      exact h
    · refine (stepF1_any b nm m pos outs B0 d0 B1 d1 B2 d2 base w0 w hb hF u0 u1 u2 HB hm hnm h0 h1 hl code hc).mono ?_
      rintro e w' h
      rw [show stepC ⟨nm, m, 1, pos, outs⟩ code = (⟨nm, m, 6, pos, becomes (failC code) [0, 1] outs⟩, ⟨#[81, 85, 73, 84]⟩) from by simp [stepC, hc]]
      exact h
  · by_cases hc : code = 250
    · refine (step2_any b nm m pos outs B0 d0 B1 d1 B2 d2 base w0 w hb hF u0 u1 u2 HB hm hnm h0 h1 hl code hc).mono ?_
      rintro e w' h
      rw [show stepC ⟨nm, m, 2, pos, outs⟩ code = nextC ⟨nm, m, 2, pos, outs⟩ from by simp [stepC, hc]]
      rw [(nextC_rest _).2.2]
      exact h
    · refine (stepF2_any b nm m pos outs B0 d0 B1 d1 B2 d2 base w0 w hb hF u0 u1 u2 HB hm hnm h0 h1 hl code hc).mono ?_
      rintro e w' h
      rw [show stepC ⟨nm, m, 2, pos, outs⟩ code = (⟨nm, m, 6, pos, becomes (failC code) [0, 1] outs⟩, ⟨#[81, 85, 73, 84]⟩) from by simp [stepC, hc]]
      exact h
  · obtain ⟨k, rfl⟩ : ∃ k : Nat, pos = (k : Int) + 1 := ⟨(pos - 1).toNat, by have := h3 rfl; omega⟩
    have ek : ((k : Int) + 1 - 1).toNat = k := by omega
    by_cases hc : code = 250
    · refine (step3_any b nm m k outs B0 d0 B1 d1 B2 d2 base w0 w hb hF u0 u1 u2 HB hm hnm h0 h1 hl code (by omega) hc).mono ?_
      rintro e w' h
      rw [show stepC ⟨nm, m, 3, (k : Int) + 1, outs⟩ code = nextC ⟨nm, m, 3, (k : Int) + 1, outs.set k 1⟩ from by simp [stepC, hc]]
      rw [(nextC_rest _).2.2]
      exact h
    · refine (stepF3_any b nm m k outs B0 d0 B1 d1 B2 d2 base w0 w hb hF u0 u1 u2 HB hm hnm h0 h1 hl code (by omega) hc).mono ?_
      rintro e w' h
      rw [show stepC ⟨nm, m, 3, (k : Int) + 1, outs⟩ code = nextC ⟨nm, m, 3, (k : Int) + 1, outs.set k (failC code)⟩ from by simp [stepC, hc]]
      rw [(nextC_rest _).2.2]
      exact h
  · by_cases hc : code = 354
    · refine (step4_any b nm m pos outs B0 d0 B1 d1 B2 d2 base w0 w hb hF u0 u1 u2 HB hm hnm h0 h1 hl code hc).mono ?_
      rintro e w' h
      rw [show stepC ⟨nm, m, 4, pos, outs⟩ code = (⟨nm, m, 5, pos, outs⟩, dots m.f2) from by simp [stepC, hc]]
      exact h
    · refine (stepF4_any b nm m pos outs B0 d0 B1 d1 B2 d2 base w0 w hb hF u0 u1 u2 HB hm hnm h0 h1 hl code hc).mono ?_
      rintro e w' h
      rw [show stepC ⟨nm, m, 4, pos, outs⟩ code = (⟨nm, m, 6, pos, becomes (failC code) [0, 1] outs⟩, ⟨#[81, 85, 73, 84]⟩) from by simp [stepC, hc]]
      exact h
  · by_cases hc : code = 250
    · refine (step5_any b nm m pos outs B0 d0 B1 d1 B2 d2 base w0 w hb hF u0 u1 u2 HB hm hnm h0 h1 hl code hc).mono ?_
      rintro e w' h
      rw [show stepC ⟨nm, m, 5, pos, outs⟩ code = (⟨nm, m, 6, pos, becomes 2 [1] outs⟩, ⟨#[81, 85, 73, 84]⟩) from by simp [stepC, hc]]
      exact h
    · refine (stepF5_any b nm m pos outs B0 d0 B1 d1 B2 d2 base w0 w hb hF u0 u1 u2 HB hm hnm h0 h1 hl code hc).mono ?_
      rintro e w' h
      rw [show stepC ⟨nm, m, 5, pos, outs⟩ code = (⟨nm, m, 6, pos, becomes (failC code) [0, 1] outs⟩, ⟨#[81, 85, 73, 84]⟩) from by simp [stepC, hc]]
      exact h
  · refine (step6_any b nm m pos outs B0 d0 B1 d1 B2 d2 base w0 w hb hF u0 u1 u2 HB hm hnm h0 h1 hl code).mono ?_
    rintro e w' h
    rw [show stepC ⟨nm, m, 6, pos, outs⟩ code = (⟨nm, m, 7, pos, outs⟩, ⟨#[]⟩) from by simp [stepC]]
    exact h
  · refine (step7_any b nm m pos outs B0 d0 B1 d1 B2 d2 base w0 w hb hF u0 u1 u2 HB hm hnm h0 h1 hl code).mono ?_
    rintro e w' h
    rw [show stepC ⟨nm, m, 7, pos, outs⟩ code = (⟨nm, m, 7, pos, outs⟩, ⟨#[]⟩) from by simp [stepC]]
    exact h

set_option maxRecDepth 100000 in
set_option maxHeartbeats 8000000 in
theorem cliStep_any (c : SCli) (A0 : Option Addr) (c0 : Nat) (A1 : Option Addr) (c1 : Nat) (A2 : Option Addr) (c2 : Nat) (answer : ByteArray) (w : World) (hw : fitCli c) (hs : answer.size ≤ 1048576) (hr0 : Kd.C kAddr w A0 c.f1.f1.length c.f1.f1) (hr1 : Kd.C Kd.string w A1 c.f1.f2.length c.f1.f2) (hr2 : Kd.C (Kd.int .i64) w A2 c.f4.length c.f4) (hG : Glob w) :
    Calls Tryz.prog 22 #[.agg #[.string c.f0, .string c.f1.f0.f0, .string c.f1.f0.f1, .slice A0 c.f1.f1.length c0, .slice A1 c.f1.f2.length c1, .int .i64 c.f2, .int .i64 c.f3, .slice A2 c.f4.length c2], .string answer] w fun e w' => ∃ B0 d0 B1 d1 B2 d2, e = .returned (.tuple #[.agg #[.string (stepS c answer).f0, .string (stepS c answer).f1.f0.f0, .string (stepS c answer).f1.f0.f1, .slice B0 (stepS c answer).f1.f1.length d0, .slice B1 (stepS c answer).f1.f2.length d1, .int .i64 (stepS c answer).f2, .int .i64 (stepS c answer).f3, .slice B2 (stepS c answer).f4.length d2], .string (stepT c answer)]) ∧ Kd.R kAddr 24 w' w.heap.size (fun _ => True) (.slice B0 (stepS c answer).f1.f1.length d0) (stepS c answer).f1.f1 ∧ Kd.R Kd.string 9 w' w.heap.size (fun _ => True) (.slice B1 (stepS c answer).f1.f2.length d1) (stepS c answer).f1.f2 ∧ Kd.R (Kd.int .i64) 3 w' w.heap.size (fun _ => True) (.slice B2 (stepS c answer).f4.length d2) (stepS c answer).f4 ∧ Below w.heap.size w w' := by
  have hok := fun W (hW : Below w.heap.size w W) => cliOk_any c A0 c0 A1 c1 A2 c2 W hw (Kd.C_below hr0 hW) (Kd.C_below hr1 hW) (Kd.C_below hr2 hW) (hG.below hW)
  have hcp := fun W (hW : Below w.heap.size w W) => cliCopied_any c A0 c0 A1 c1 A2 c2 W hw (Kd.C_below hr0 hW) (Kd.C_below hr1 hW) (Kd.C_below hr2 hW)
  have hcode := fun W => replyCode_any answer W hs
  have HS := Lib.hid (show stepS c answer = if cliOk c then (stepC c (codeOf answer)).1 else zCli from rfl)
  have HT := Lib.hid (show stepT c answer = if cliOk c then (stepC c (codeOf answer)).2 else ⟨#[]⟩ from rfl)
  have HOK := Lib.hid (cliOk_facts c)
  have HW := Lib.hid hw
  clear hw hr0 hr1 hr2 hG hs
  generalize stepS c answer = M at HS ⊢
  generalize stepT c answer = X at HT ⊢
  generalize cliOk c = q at HS HT HOK hok
  go_enter Tryz.func22, Tryz.ntmps22
  go_wp2_with fail
  obtain ⟨W0, hW0⟩ : ∃ W, W = (w.alloc (.cells #[.string c.f0, .string c.f1.f0.f0, .string c.f1.f0.f1, .slice A0 c.f1.f1.length c0, .slice A1 c.f1.f2.length c1, .int .i64 c.f2, .int .i64 c.f3, .slice A2 c.f4.length c2] 31)).alloc (.cells #[.string ⟨#[]⟩, .string ⟨#[]⟩, .string ⟨#[]⟩, .slice none 0 0, .slice none 0 0, .int .i64 0, .int .i64 0, .slice none 0 0] 31) := ⟨_, rfl⟩
  rw [← hW0]
  have HF0 : Aside0 (W0.heap[w.heap.size]? = some (.cells #[.string c.f0, .string c.f1.f0.f0, .string c.f1.f0.f1, .slice A0 c.f1.f1.length c0, .slice A1 c.f1.f2.length c1, .int .i64 c.f2, .int .i64 c.f3, .slice A2 c.f4.length c2] 31 (0, 0))) := ⟨by rw [hW0]; exact below_blk (blk_new _ _) (bel_alloc (Below.refl _ _) _)⟩
  have HF1 : Aside0 (W0.heap[w.heap.size + 1]? = some (.cells #[.string ⟨#[]⟩, .string ⟨#[]⟩, .string ⟨#[]⟩, .slice none 0 0, .slice none 0 0, .int .i64 0, .int .i64 0, .slice none 0 0] 31 (0, 0))) := ⟨by rw [hW0, show w.heap.size + 1 = (w.alloc (.cells #[.string c.f0, .string c.f1.f0.f0, .string c.f1.f0.f1, .slice A0 c.f1.f1.length c0, .slice A1 c.f1.f2.length c1, .int .i64 c.f2, .int .i64 c.f3, .slice A2 c.f4.length c2] 31)).heap.size by simp]; exact blk_new _ _⟩
  have B0 : Below w.heap.size w W0 := by rw [hW0]; exact bel_alloc (bel_alloc (Below.refl _ _) _) _
  clear hW0
  obtain ⟨c0_, c1_, c2_, c3_, c4_, c5_, c6_, c7_⟩ := cells8 HF0.out
  go_wp2_with fail
  refine (hok _ B0).mono ?_
  rintro e w1 ⟨rfl, b1⟩
  have B1 := bel_then B0 b1
  have F0 := Aside0.mk (below_blk HF0.out b1)
  have F1 := Aside0.mk (below_blk HF1.out b1)
  clear c0_ c1_ c2_ c3_ c4_ c5_ c6_ c7_ hok b1 B0 HF0 HF1
  obtain ⟨c0_, c1_, c2_, c3_, c4_, c5_, c6_, c7_⟩ := cells8 F0.out
  obtain ⟨k0_, k1_, k2_, k3_, k4_, k5_, k6_, k7_⟩ := cells8 F1.out
  obtain ⟨kz0_, kz1_, kz2_, kz3_, kz4_, kz5_, kz6_, kz7_⟩ := froz8 F1.out
  cases q
  · obtain rfl : M = zCli := HS.out
    obtain rfl : X = ⟨#[]⟩ := HT.out
    go_wp2
    refine bodyPost_ret (v := .tuple #[.agg #[.string ⟨#[]⟩, .string ⟨#[]⟩, .string ⟨#[]⟩, .slice none 0 0, .slice none 0 0, .int .i64 0, .int .i64 0, .slice none 0 0], .string ⟨#[]⟩]) ?hrA rfl ?hpA
    case hrA => simp [results, Tryz.results22, go_sem, k0_, k1_, k2_, k3_, k4_, k5_, k6_, k7_]
    case hpA => exact ⟨none, 0, none, 0, none, 0, rfl, Kd.R_nil _ _ _ _ _, Kd.R_nil _ _ _ _ _, Kd.R_nil _ _ _ _ _, by (with_reducible repeat (first | exact B1 | refine bel_alloc ?_ _ | refine bel_set ?_ _ ?_ | refine blw_drewN ?_ _ | refine Below.drew ?_)); all_goals (first | (simp; done) | (simp; omega) | omega)⟩

  · go_wp2_with fail
    refine (hcp _ B1).mono ?_
    rintro e w2 ⟨P0, d0, P1, d1, P2, d2, rfl, g0, g1, g2, b2⟩
    have s2 := B1.size
    have sf := blk_lt F1.out
    have F2 := Aside0.mk (below_blk F1.out b2)
    have F1k := F1
    clear c0_ c1_ c2_ c3_ c4_ c5_ c6_ c7_ hcp F0 F1
    go_wp2_with fail
    generalize hV : World.alloc w2 _ = V
    have bV : Below w2.heap.size w2 V := by rw [← hV]; exact bel_alloc (Below.refl _ _) _
    have FV : V.heap[w2.heap.size]? = some (.cells #[.string c.f0, .string c.f1.f0.f0, .string c.f1.f0.f1, .slice P0 c.f1.f1.length d0, .slice P1 c.f1.f2.length d1, .int .i64 c.f2, .int .i64 c.f3, .slice P2 c.f4.length d2] 31 (0, 0)) := by rw [← hV]; exact blk_new _ _
    clear hV
    refine (hcode _).mono ?_
    rintro e w3 ⟨rfl, b3⟩
    have bb := bel_then bV b3
    have FV3 := below_blk FV b3
    have sV := b2.size
    have hst := step_any w2.heap.size c.f0 c.f1 c.f2 c.f3 c.f4 P0 d0 P1 d1 P2 d2 w1.heap.size w1 w3 sV FV3 (Kd.R_below g0 bb) (Kd.R_below g1 bb) (Kd.R_below g2 bb) (bel_then b2 bb) HW.out.2.1 HW.out.1 (HOK.out (by trivial)).1.1 (HOK.out (by trivial)).1.2 (HOK.out (by trivial)).2.2.1 (HOK.out (by trivial)).2.1.1 (HOK.out (by trivial)).2.1.2 HW.out.2.2.2.2.1 (HOK.out (by trivial)).2.2.2 (codeOf answer)
    have BB := Lib.hid (bel_then B1 (bel_then b2 bb))
    have F3 := Aside0.mk (below_blk F2.out bb)
    clear hcode g0 g1 g2 b2 bV b3 bb FV FV3 F2
    go_wp2_with fail
    refine hst.mono ?_
    rintro e w4 ⟨rfl, f4, r0, r1, r2, b4⟩
    have F1 := Aside0.mk ((b4.block (w.heap.size + 1) sf).trans (F1k.out))
    have F4 := Aside0.mk f4
    have U0 := Aside0.mk (Kd.R_lower (base' := w.heap.size) r0 s2)
    have U1 := Aside0.mk (Kd.R_lower (base' := w.heap.size) r1 s2)
    have U2 := Aside0.mk (Kd.R_lower (base' := w.heap.size) r2 s2)
    have B4 := Aside0.mk (bel_then B1 b4)
    have HR := Lib.hid (stepC_rest c (codeOf answer))
    have hM : M = ⟨c.f0, c.f1, (stepC c (codeOf answer)).1.f2, (stepC c (codeOf answer)).1.f3, (stepC c (codeOf answer)).1.f4⟩ := by
      rw [HS.out.trans (if_pos (by trivial)), ← HR.out.1, ← HR.out.2.1]
    obtain rfl : X = (stepC c (codeOf answer)).2 := HT.out.trans (if_pos (by trivial))
    subst hM
    clear hst f4 r0 r1 r2 b4 F3 BB
    obtain ⟨m0_, m1_, m2_, m3_, m4_, m5_, m6_, m7_⟩ := cells8 F4.out
    obtain ⟨k0_, k1_, k2_, k3_, k4_, k5_, k6_, k7_⟩ := cells8 F1.out
    obtain ⟨kz0_, kz1_, kz2_, kz3_, kz4_, kz5_, kz6_, kz7_⟩ := froz8 F1.out
    go_wp2
    refine bodyPost_ret (v := .tuple #[.agg #[.string c.f0, .string c.f1.f0.f0, .string c.f1.f0.f1, .slice P0 c.f1.f1.length d0, .slice P1 c.f1.f2.length d1, .int .i64 (stepC c (codeOf answer)).1.f2, .int .i64 (stepC c (codeOf answer)).1.f3, .slice P2 c.f4.length d2], .string (stepC c (codeOf answer)).2]) ?hrB rfl ?hpB
    case hrB => simp [results, Tryz.results22, go_sem, m0_, m1_, m2_, m3_, m4_, m5_, m6_, m7_, k0_, k1_, k2_, k3_, k4_, k5_, k6_, k7_]
    case hpB =>
      have b0 := B4.out
      generalize hwz : World.setCell (World.setCell (World.setCell (World.setCell (World.setCell (World.setCell (World.setCell (World.setCell w4 ⟨w.heap.size + 1, 0, none⟩ _) ⟨w.heap.size + 1, 1, none⟩ _) ⟨w.heap.size + 1, 2, none⟩ _) ⟨w.heap.size + 1, 3, none⟩ _) ⟨w.heap.size + 1, 4, none⟩ _) ⟨w.heap.size + 1, 5, none⟩ _) ⟨w.heap.size + 1, 6, none⟩ _) ⟨w.heap.size + 1, 7, none⟩ _ = wz
      have GZ : w4.grownBy wz (some (w.heap.size + 1)) := by rw [← hwz]; exact (((((((grown_set1 _ _ _ _).trans (grown_set1 _ _ _ _)).trans (grown_set1 _ _ _ _)).trans (grown_set1 _ _ _ _)).trans (grown_set1 _ _ _ _)).trans (grown_set1 _ _ _ _)).trans (grown_set1 _ _ _ _)).trans (grown_set1 _ _ _ _)
      have BZ : Below w.heap.size w wz := by rw [← hwz]; exact (bel_set (bel_set (bel_set (bel_set (bel_set (bel_set (bel_set (bel_set b0 _ (by show w.heap.size ≤ w.heap.size + 1; omega)) _ (by show w.heap.size ≤ w.heap.size + 1; omega)) _ (by show w.heap.size ≤ w.heap.size + 1; omega)) _ (by show w.heap.size ≤ w.heap.size + 1; omega)) _ (by show w.heap.size ≤ w.heap.size + 1; omega)) _ (by show w.heap.size ≤ w.heap.size + 1; omega)) _ (by show w.heap.size ≤ w.heap.size + 1; omega)) _ (by show w.heap.size ≤ w.heap.size + 1; omega))
      clear hwz
      try dsimp only
      rw [HR.out.2.2]
      exact ⟨P0, d0, P1, d1, P2, d2, rfl, R_else U0.out rfl GZ (Kd.R_ne U0.out F1.out (by decide)), R_else U1.out rfl GZ (Kd.R_ne U1.out F1.out (by decide)), R_else U2.out rfl GZ (Kd.R_ne U2.out F1.out (by decide)), BZ⟩

end Go.Proofs.YtoppgnmnbbhghaaGreatDoor
