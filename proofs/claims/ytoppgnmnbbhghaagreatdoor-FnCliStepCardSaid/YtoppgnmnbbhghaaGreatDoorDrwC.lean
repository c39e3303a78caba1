/- The reference's new client: a contract. -/
import Derived.Test.YtoppgnmnbbhghaaGreatDoorCopyS
import Derived.Test.YtoppgnmnbbhghaaGreatDoorStepL
import Derived.Test.YtoppgnmnbbhghaaGreatDoorDrw0
import Derived.Test.YtoppgnmnbbhghaaGreatDoorStepS
namespace Go.Proofs.YtoppgnmnbbhghaaGreatDoor
open Go.RowKit Go.Proofs.YtoppgnmnbbhghaaGreatDoorW.PrintWords
set_option linter.unusedVariables false
set_option linter.unusedSimpArgs false

def cliB (nm : ByteArray) (m : SMail) : SCli := ⟨nm, m, 0, 0, List.replicate m.f1.length 0⟩
set_option maxRecDepth 100000 in
set_option maxHeartbeats 8000000 in
theorem specNew1_any (nm : ByteArray) (m : SMail) (A0 : Option Addr) (c0 : Nat) (A1 : Option Addr) (c1 : Nat) (w : World) (hn : nm.size ≤ 1048576) (hw : fitMail m) (hr0 : Kd.C kAddr w A0 m.f1.length m.f1) (hr1 : Kd.C Kd.string w A1 m.f2.length m.f2) :
    Calls Tryz.prog 128 #[.string nm, .agg #[.string m.f0.f0, .string m.f0.f1, .slice A0 m.f1.length c0, .slice A1 m.f2.length c1]] w fun e w' => ∃ B0 d0 B1 d1 B2 d2, e = .returned (.agg #[.string (cliB nm m).f0, .string (cliB nm m).f1.f0.f0, .string (cliB nm m).f1.f0.f1, .slice B0 (cliB nm m).f1.f1.length d0, .slice B1 (cliB nm m).f1.f2.length d1, .int .i64 (cliB nm m).f2, .int .i64 (cliB nm m).f3, .slice B2 (cliB nm m).f4.length d2]) ∧ Kd.R kAddr 24 w' w.heap.size (fun _ => True) (.slice B0 (cliB nm m).f1.f1.length d0) (cliB nm m).f1.f1 ∧ Kd.R Kd.string 9 w' w.heap.size (fun _ => True) (.slice B1 (cliB nm m).f1.f2.length d1) (cliB nm m).f1.f2 ∧ Kd.R (Kd.int .i64) 3 w' w.heap.size (fun _ => True) (.slice B2 (cliB nm m).f4.length d2) (cliB nm m).f4 ∧ Below w.heap.size w w' := by
  have hcp := fun W (hW : Below w.heap.size w W) => specCopy_any m A0 c0 A1 c1 W hw (Kd.C_below hr0 hW) (Kd.C_below hr1 hW)
  have hl1 := hw.2.1.1
  unfold cliB
  obtain ⟨rs, hrs⟩ : ∃ rs, rs = List.replicate m.f1.length (0 : Int) := ⟨_, rfl⟩
  rw [← hrs]
  have HRS := Lib.hid hrs
  clear hw hr0 hr1 hrs
  go_enter Tryz.func128, Tryz.ntmps128
  go_wp2
  obtain ⟨W0, hW0⟩ : ∃ W, W = (w.alloc (.cells #[.string m.f0.f0, .string m.f0.f1, .slice A0 m.f1.length c0, .slice A1 m.f2.length c1] 28)).alloc (.cells #[.string ⟨#[]⟩, .string ⟨#[]⟩, .string ⟨#[]⟩, .slice none 0 0, .slice none 0 0, .int .i64 0, .int .i64 0, .slice none 0 0] 31) := ⟨_, rfl⟩
  rw [← hW0]
  have HF0 : Aside0 (W0.heap[w.heap.size]? = some (.cells #[.string m.f0.f0, .string m.f0.f1, .slice A0 m.f1.length c0, .slice A1 m.f2.length c1] 28 (0, 0))) := ⟨by rw [hW0]; exact below_blk (blk_new _ _) (bel_alloc (Below.refl _ _) _)⟩
  have HF1 : Aside0 (W0.heap[w.heap.size + 1]? = some (.cells #[.string ⟨#[]⟩, .string ⟨#[]⟩, .string ⟨#[]⟩, .slice none 0 0, .slice none 0 0, .int .i64 0, .int .i64 0, .slice none 0 0] 31 (0, 0))) := ⟨by rw [hW0, show w.heap.size + 1 = (w.alloc (.cells #[.string m.f0.f0, .string m.f0.f1, .slice A0 m.f1.length c0, .slice A1 m.f2.length c1] 28)).heap.size by simp]; exact blk_new _ _⟩
  have B0 : Below w.heap.size w W0 := by rw [hW0]; exact bel_alloc (bel_alloc (Below.refl _ _) _) _
  clear hW0
  have join : Hid (∀ {goal : Prop} {G : Option Addr → Nat → Option Addr → Nat → Option Addr → Nat → World → Prop} (rg : Hid (∀ (B0 : Option Addr) (d0 : Nat) (B1 : Option Addr) (d1 : Nat) (B2 : Option Addr) (d2 : Nat) (V : World), Below w.heap.size w V ∧ w.heap.size + 1 < V.heap.size ∧ V.heap[w.heap.size + 1]? = some (.cells #[.string nm, .string m.f0.f0, .string m.f0.f1, .slice B0 m.f1.length d0, .slice B1 m.f2.length d1, .int .i64 0, .int .i64 0, .slice B2 rs.length d2] 31 (0, 0)) ∧ Kd.R kAddr 24 V w.heap.size (fun _ => True) (.slice B0 m.f1.length d0) m.f1 ∧ Kd.R Kd.string 9 V w.heap.size (fun _ => True) (.slice B1 m.f2.length d1) m.f2 ∧ Kd.R (Kd.int .i64) 3 V w.heap.size (fun _ => True) (.slice B2 rs.length d2) rs → G B0 d0 B1 d1 B2 d2 V) → goal) (hk : ∀ (B0 : Option Addr) (d0 : Nat) (B1 : Option Addr) (d1 : Nat) (B2 : Option Addr) (d2 : Nat) (V : World), Below w.heap.size w V ∧ w.heap.size + 1 < V.heap.size ∧ V.heap[w.heap.size + 1]? = some (.cells #[.string nm, .string m.f0.f0, .string m.f0.f1, .slice B0 m.f1.length d0, .slice B1 m.f2.length d1, .int .i64 0, .int .i64 0, .slice B2 rs.length d2] 31 (0, 0)) ∧ Kd.R kAddr 24 V w.heap.size (fun _ => True) (.slice B0 m.f1.length d0) m.f1 ∧ Kd.R Kd.string 9 V w.heap.size (fun _ => True) (.slice B1 m.f2.length d1) m.f2 ∧ Kd.R (Kd.int .i64) 3 V w.heap.size (fun _ => True) (.slice B2 rs.length d2) rs → G B0 d0 B1 d1 B2 d2 V), goal) := Lib.hid (fun f h => f (Lib.hid h))
  have HK : Aside0 (∀ W W1, Below W.heap.size W W1 → (W.cell? ⟨w.heap.size, 0, none⟩ = some (.string m.f0.f0) ∧ W.cell? ⟨w.heap.size, 1, none⟩ = some (.string m.f0.f1) ∧ W.cell? ⟨w.heap.size, 2, none⟩ = some (.slice A0 m.f1.length c0) ∧ W.cell? ⟨w.heap.size, 3, none⟩ = some (.slice A1 m.f2.length c1) ∧ Below w.heap.size w W) → (W1.cell? ⟨w.heap.size, 0, none⟩ = some (.string m.f0.f0) ∧ W1.cell? ⟨w.heap.size, 1, none⟩ = some (.string m.f0.f1) ∧ W1.cell? ⟨w.heap.size, 2, none⟩ = some (.slice A0 m.f1.length c0) ∧ W1.cell? ⟨w.heap.size, 3, none⟩ = some (.slice A1 m.f2.length c1) ∧ Below w.heap.size w W1)) := ⟨fun W W1 hb h => ⟨(hb.cell (World.block_lt_of_cell? W _ (h.1))).trans (h.1), (hb.cell (World.block_lt_of_cell? W _ (h.2.1))).trans (h.2.1), (hb.cell (World.block_lt_of_cell? W _ (h.2.2.1))).trans (h.2.2.1), (hb.cell (World.block_lt_of_cell? W _ (h.2.2.2.1))).trans (h.2.2.2.1), bel_then (h.2.2.2.2) hb⟩⟩
  have x0_ : W0.cell? ⟨w.heap.size, 0, none⟩ = some (.string m.f0.f0) := by simp [World.cell?, HF0.out]
  have x1_ : W0.cell? ⟨w.heap.size, 1, none⟩ = some (.string m.f0.f1) := by simp [World.cell?, HF0.out]
  have x2_ : W0.cell? ⟨w.heap.size, 2, none⟩ = some (.slice A0 m.f1.length c0) := by simp [World.cell?, HF0.out]
  have x3_ : W0.cell? ⟨w.heap.size, 3, none⟩ = some (.slice A1 m.f2.length c1) := by simp [World.cell?, HF0.out]
  have HST : Aside0 ((fun W => W.cell? ⟨w.heap.size, 0, none⟩ = some (.string m.f0.f0) ∧ W.cell? ⟨w.heap.size, 1, none⟩ = some (.string m.f0.f1) ∧ W.cell? ⟨w.heap.size, 2, none⟩ = some (.slice A0 m.f1.length c0) ∧ W.cell? ⟨w.heap.size, 3, none⟩ = some (.slice A1 m.f2.length c1) ∧ Below w.heap.size w W) W0.drew) := ⟨⟨x0_, x1_, x2_, x3_, bel_then B0 (drew_below0 W0)⟩⟩
  clear B0 x0_ x1_ x2_ x3_
  apply join.out
  case rg =>
    intro HKK
    refine wp_region_held_drew (S := (fun W => W.cell? ⟨w.heap.size, 0, none⟩ = some (.string m.f0.f0) ∧ W.cell? ⟨w.heap.size, 1, none⟩ = some (.string m.f0.f1) ∧ W.cell? ⟨w.heap.size, 2, none⟩ = some (.slice A0 m.f1.length c0) ∧ W.cell? ⟨w.heap.size, 3, none⟩ = some (.slice A1 m.f2.length c1) ∧ Below w.heap.size w W)) (by kernel_rfl) ?s218 (fun hHeld => ?t218)
    case s218 => exact HST.out
    generalize hV0 : World.drew _ = V0 at hHeld ⊢
    have F1 : Aside0 (V0.heap[w.heap.size + 1]? = some (.cells #[.string ⟨#[]⟩, .string ⟨#[]⟩, .string ⟨#[]⟩, .slice none 0 0, .slice none 0 0, .int .i64 0, .int .i64 0, .slice none 0 0] 31 (0, 0))) := ⟨by rw [← hV0]; exact HF1.out⟩
    clear hV0
    refine wpAnyH_take (i := 0) (oi := { dst := some 5, op := Op.move (Operand.tmp 0), type := 9, pos := "l4_client.go:38", after := #[], guard := none }) (v := ?v219) rfl (by kernel_rfl) (by kernel_rfl) (by kernel_rfl) (fun _ _ _ h => h) (Or.inl ⟨by rfl, ?y219⟩) (by assumption) ?r219
    case y219 => intro w_ hSw; (try dsimp only at hSw); go_simp; (try (with_reducible rfl))
    try simp only [Act.put, List.setIfInBounds_toArray, List.set_cons_zero, List.set_cons_succ]
    refine wpAnyH_take (i := 1) (oi := { dst := some 6, op := Op.load 28 (Operand.tmp 3), type := 28, pos := "l4_client.go:38", after := #[], guard := none }) (v := ?v220) rfl (by kernel_rfl) (by kernel_rfl) (by kernel_rfl) (fun _ _ _ h => h) (Or.inl ⟨by rfl, ?y220⟩) (by assumption) ?r220
    case y220 => intro w_ hSw; (try dsimp only at hSw); go_simp; (try (with_reducible rfl))
    try simp only [Act.put, List.setIfInBounds_toArray, List.set_cons_zero, List.set_cons_succ]
    refine wpAnyH_take (i := 3) (oi := { dst := some 8, op := Op.fieldAddr 28 (Operand.tmp 3) 1, type := 0, pos := "l4_client.go:38", after := #[], guard := none }) (v := ?v221) rfl (by kernel_rfl) (by kernel_rfl) (by kernel_rfl) (fun _ _ _ h => h) (Or.inl ⟨by rfl, ?y221⟩) (by assumption) ?r221
    case y221 => intro w_ hSw; (try dsimp only at hSw); go_simp; (try (with_reducible rfl))
    try simp only [Act.put, List.setIfInBounds_toArray, List.set_cons_zero, List.set_cons_succ]
    refine wpAnyH_take (i := 4) (oi := { dst := some 9, op := Op.load 25 (Operand.tmp 8), type := 25, pos := "l4_client.go:38", after := #[{ on := 3, ground := Ground.data }], guard := none }) (v := ?v222) rfl (by kernel_rfl) (by kernel_rfl) (by kernel_rfl) (fun _ _ _ h => h) (Or.inl ⟨by rfl, ?y222⟩) (by assumption) ?r222
    case y222 => intro w_ hSw; (try dsimp only at hSw); go_simp; (try (with_reducible rfl))
    try simp only [Act.put, List.setIfInBounds_toArray, List.set_cons_zero, List.set_cons_succ]
    refine wpAnyH_take (i := 5) (oi := { dst := some 10, op := Op.call { callee := Callee.builtin Builtin.len, args := #[Operand.tmp 9], argTypes := #[25] }, type := 3, pos := "l4_client.go:38", after := #[{ on := 4, ground := Ground.data }], guard := none }) (v := ?v223) rfl (by kernel_rfl) (by kernel_rfl) (by kernel_rfl) (fun _ _ _ h => h) (Or.inl ⟨by rfl, ?y223⟩) (by assumption) ?r223
    case y223 => intro w_ hSw; (try dsimp only at hSw); go_simp; (try (with_reducible rfl))
    try simp only [Act.put, List.setIfInBounds_toArray, List.set_cons_zero, List.set_cons_succ]
    refine wpAnyH_ready (rs := [2, 6]) (by kernel_rfl) (by simp) ?_
    refine AllReadyH.cons (o := { dst := some 7, op := Op.call { callee := Callee.value (Operand.func 62), args := #[Operand.tmp 6], argTypes := #[28] }, type := 28, pos := "l4_client.go:38", after := #[{ on := 1, ground := Ground.data }], guard := none }) rfl (fun K hK => ?k224) (AllReadyH.cons (o := { dst := some 11, op := Op.makeSlice 29 (Operand.tmp 10) (Operand.tmp 10), type := 29, pos := "l4_client.go:38", after := #[{ on := 5, ground := Ground.data }, { on := 5, ground := Ground.data }], guard := none }) rfl (fun K hK => ?k225) AllReadyH.nil)
    case k224 =>
      have hsl2 : w.heap.size ≤ V0.heap.size := (hHeld.2.2.2.2).size
      go_simp
      refine (hcp _ hHeld.2.2.2.2).mono ?_
      rintro e V2 ⟨B0, d0, B1, d1, rfl, ga0, ga1, b2⟩
      refine hK.out _ _ ?h226 (fun hHeld => ?j226)
      case h226 => exact HK.out _ _ b2 hHeld
      clear hK K
      try simp only [Act.put, List.setIfInBounds_toArray, List.set_cons_zero, List.set_cons_succ]
      have U0 := Aside0.mk (Kd.R_lower (base' := w.heap.size) ga0 hsl2)
      have U1 := Aside0.mk (Kd.R_lower (base' := w.heap.size) ga1 hsl2)
      clear ga0 ga1 hsl2
      replace F1 := Aside0.mk (below_blk F1.out b2)
      refine wpAnyH_ready (rs := [6]) (by kernel_rfl) (by simp) ?_
      refine AllReadyH.cons (o := { dst := some 11, op := Op.makeSlice 29 (Operand.tmp 10) (Operand.tmp 10), type := 29, pos := "l4_client.go:38", after := #[{ on := 5, ground := Ground.data }, { on := 5, ground := Ground.data }], guard := none }) rfl (fun K hK => ?k227) AllReadyH.nil
      case k227 =>
        refine Kd.R_make_step (Kd.int .i64) (w0 := w) (w.heap.size) 3 (by rfl) (N := 11) rfl 29 (.tmp 10) (.tmp 10) rfl (m.f1.length : Int) rfl rfl Tryz.underlying29 (.int .i64 0) 8 info3 rfl (by decide) (by omega) (0 : Int) (ok := fun _ => True) (okp := fun _ => True) rfl (fun _ h => h) trivial (by omega) ?aL6 hHeld.2.2.2.2 ?aS6 ?_
        case aL6 => (rw [Int.toNat_natCast]; omega)
        case aS6 => exact (hHeld.2.2.2.2).size
        intro v6 V6 ho hb hg hat
        rw [Int.toNat_natCast, ← HRS.out] at ho
        have b6 : Below V2.heap.size V2 V6 := ⟨hg.os, hg.tape, hg.output, hg.size, fun k hk => hg.block k hk (fun e => by cases e)⟩
        obtain ⟨B2, d2, hv6⟩ := Kd.R_slice ho
        subst hv6
        clear hg hat hb
        refine hK.out _ _ ?h228 (fun hHeld => ?j228)
        case h228 => exact HK.out _ _ b6 hHeld
        clear hK K
        try simp only [Act.put, List.setIfInBounds_toArray, List.set_cons_zero, List.set_cons_succ]
        have U2 := Aside0.mk ho
        clear ho
        replace F1 := Aside0.mk (below_blk F1.out b6)
        replace U0 := Aside0.mk (Kd.R_below U0.out b6)
        replace U1 := Aside0.mk (Kd.R_below U1.out b6)
        refine wpAnyH_take (i := 7) (oi := { dst := some 12, op := Op.build 31 #[(0, Operand.tmp 5), (1, Operand.tmp 7), (4, Operand.tmp 11)], type := 31, pos := "l4_client.go:38", after := #[{ on := 0, ground := Ground.data }, { on := 2, ground := Ground.data }, { on := 6, ground := Ground.data }], guard := none }) (v := ?v229) rfl (by kernel_rfl) (by kernel_rfl) (by kernel_rfl) (fun _ _ _ h => h) (Or.inl ⟨by rfl, ?y229⟩) (by assumption) ?r229
        case y229 => intro w_ hSw; (try dsimp only at hSw); go_simp; (try (with_reducible rfl))
        try simp only [Act.put, List.setIfInBounds_toArray, List.set_cons_zero, List.set_cons_succ]
        refine wpAnyH_ready (rs := [8]) (by kernel_rfl) (by simp) ?_
        refine AllReadyH.cons (o := { dst := none, op := Op.store 31 (Operand.tmp 4) (Operand.tmp 12), type := 0, pos := "l4_client.go:38", after := #[{ on := 7, ground := Ground.data }, { on := 2, ground := Ground.chain }, { on := 0, ground := Ground.phase }, { on := 1, ground := Ground.phase }, { on := 2, ground := Ground.phase }, { on := 3, ground := Ground.phase }, { on := 4, ground := Ground.phase }, { on := 5, ground := Ground.phase }, { on := 6, ground := Ground.phase }, { on := 7, ground := Ground.phase }], guard := none }) rfl (fun K hK => ?k230) AllReadyH.nil
        case k230 =>
          have hb7 := F1.out
          have v0_ : V6.cell? ⟨w.heap.size + 1, 0, none⟩ = some (.string ⟨#[]⟩) := by simp [World.cell?, hb7]
          have v1_ : V6.cell? ⟨w.heap.size + 1, 1, none⟩ = some (.string ⟨#[]⟩) := by simp [World.cell?, hb7]
          have v2_ : V6.cell? ⟨w.heap.size + 1, 2, none⟩ = some (.string ⟨#[]⟩) := by simp [World.cell?, hb7]
          have v3_ : V6.cell? ⟨w.heap.size + 1, 3, none⟩ = some (.slice none 0 0) := by simp [World.cell?, hb7]
          have v4_ : V6.cell? ⟨w.heap.size + 1, 4, none⟩ = some (.slice none 0 0) := by simp [World.cell?, hb7]
          have v5_ : V6.cell? ⟨w.heap.size + 1, 5, none⟩ = some (.int .i64 0) := by simp [World.cell?, hb7]
          have v6_ : V6.cell? ⟨w.heap.size + 1, 6, none⟩ = some (.int .i64 0) := by simp [World.cell?, hb7]
          have v7_ : V6.cell? ⟨w.heap.size + 1, 7, none⟩ = some (.slice none 0 0) := by simp [World.cell?, hb7]
          have u0_ : V6.frozen? ⟨w.heap.size + 1, 0, none⟩ = false := by simp [World.frozen?, hb7]
          have u1_ : V6.frozen? ⟨w.heap.size + 1, 1, none⟩ = false := by simp [World.frozen?, hb7]
          have u2_ : V6.frozen? ⟨w.heap.size + 1, 2, none⟩ = false := by simp [World.frozen?, hb7]
          have u3_ : V6.frozen? ⟨w.heap.size + 1, 3, none⟩ = false := by simp [World.frozen?, hb7]
          have u4_ : V6.frozen? ⟨w.heap.size + 1, 4, none⟩ = false := by simp [World.frozen?, hb7]
          have u5_ : V6.frozen? ⟨w.heap.size + 1, 5, none⟩ = false := by simp [World.frozen?, hb7]
          have u6_ : V6.frozen? ⟨w.heap.size + 1, 6, none⟩ = false := by simp [World.frozen?, hb7]
          have u7_ : V6.frozen? ⟨w.heap.size + 1, 7, none⟩ = false := by simp [World.frozen?, hb7]
          go_simp
          generalize hV8 : World.setCell (World.setCell (World.setCell (World.setCell (World.setCell (World.setCell (World.setCell (World.setCell V6 ⟨w.heap.size + 1, 0, none⟩ _) ⟨w.heap.size + 1, 1, none⟩ _) ⟨w.heap.size + 1, 2, none⟩ _) ⟨w.heap.size + 1, 3, none⟩ _) ⟨w.heap.size + 1, 4, none⟩ _) ⟨w.heap.size + 1, 5, none⟩ _) ⟨w.heap.size + 1, 6, none⟩ _) ⟨w.heap.size + 1, 7, none⟩ _ = V8
          have G8 : V6.grownBy V8 (some (w.heap.size + 1)) := by rw [← hV8]; exact (((((((grown_set1 _ _ _ _).trans (grown_set1 _ _ _ _)).trans (grown_set1 _ _ _ _)).trans (grown_set1 _ _ _ _)).trans (grown_set1 _ _ _ _)).trans (grown_set1 _ _ _ _)).trans (grown_set1 _ _ _ _)).trans (grown_set1 _ _ _ _)
          have FF : V8.heap[w.heap.size + 1]? = some (.cells #[.string nm, .string m.f0.f0, .string m.f0.f1, .slice B0 m.f1.length d0, .slice B1 m.f2.length d1, .int .i64 0, .int .i64 0, .slice B2 rs.length d2] 31 (0, 0)) := by rw [← hV8, blk_set1 (blk_set1 (blk_set1 (blk_set1 (blk_set1 (blk_set1 (blk_set1 (blk_set1 (F1.out) 0 _) 1 _) 2 _) 3 _) 4 _) 5 _) 6 _) 7 _]; simp
          have BB : Below w.heap.size w V8 := by rw [← hV8]; exact (bel_set (bel_set (bel_set (bel_set (bel_set (bel_set (bel_set (bel_set hHeld.2.2.2.2 _ (by show w.heap.size ≤ w.heap.size + 1; omega)) _ (by show w.heap.size ≤ w.heap.size + 1; omega)) _ (by show w.heap.size ≤ w.heap.size + 1; omega)) _ (by show w.heap.size ≤ w.heap.size + 1; omega)) _ (by show w.heap.size ≤ w.heap.size + 1; omega)) _ (by show w.heap.size ≤ w.heap.size + 1; omega)) _ (by show w.heap.size ≤ w.heap.size + 1; omega)) _ (by show w.heap.size ≤ w.heap.size + 1; omega))
          clear hV8
          refine hK.out _ _ ?h231 (fun hHeld => ?j231)
          case h231 => exact ⟨(World.cell?_of_block (G8.block _ (World.block_lt_of_cell? _ _ hHeld.1) (fun e => by have e := Option.some.inj e; (try dsimp only at e); omega))).trans hHeld.1, (World.cell?_of_block (G8.block _ (World.block_lt_of_cell? _ _ hHeld.2.1) (fun e => by have e := Option.some.inj e; (try dsimp only at e); omega))).trans hHeld.2.1, (World.cell?_of_block (G8.block _ (World.block_lt_of_cell? _ _ hHeld.2.2.1) (fun e => by have e := Option.some.inj e; (try dsimp only at e); omega))).trans hHeld.2.2.1, (World.cell?_of_block (G8.block _ (World.block_lt_of_cell? _ _ hHeld.2.2.2.1) (fun e => by have e := Option.some.inj e; (try dsimp only at e); omega))).trans hHeld.2.2.2.1, BB⟩
          clear hK K
          try simp only [Act.put, List.setIfInBounds_toArray, List.set_cons_zero, List.set_cons_succ]
          replace U0 := Aside0.mk (R_else U0.out rfl G8 (Kd.R_ne U0.out F1.out (by decide)))
          replace U1 := Aside0.mk (R_else U1.out rfl G8 (Kd.R_ne U1.out F1.out (by decide)))
          replace U2 := Aside0.mk (R_else U2.out rfl G8 (Kd.R_ne U2.out F1.out (by decide)))
          replace F1 := Aside0.mk FF
          clear FF
          refine wpAnyH_done (by kernel_rfl) ?_ _
          exact HKK.out B0 d0 B1 d1 B2 d2 V8 ⟨hHeld.2.2.2.2, blk_lt F1.out, F1.out, U0.out, U1.out, U2.out⟩
    case k225 =>
      refine Kd.R_make_step (Kd.int .i64) (w0 := w) (w.heap.size) 3 (by rfl) (N := 11) rfl 29 (.tmp 10) (.tmp 10) rfl (m.f1.length : Int) rfl rfl Tryz.underlying29 (.int .i64 0) 8 info3 rfl (by decide) (by omega) (0 : Int) (ok := fun _ => True) (okp := fun _ => True) rfl (fun _ h => h) trivial (by omega) ?aL6 hHeld.2.2.2.2 ?aS6 ?_
      case aL6 => (rw [Int.toNat_natCast]; omega)
      case aS6 => exact (hHeld.2.2.2.2).size
      intro v6 V6 ho hb hg hat
      rw [Int.toNat_natCast, ← HRS.out] at ho
      have b6 : Below V0.heap.size V0 V6 := ⟨hg.os, hg.tape, hg.output, hg.size, fun k hk => hg.block k hk (fun e => by cases e)⟩
      obtain ⟨B2, d2, hv6⟩ := Kd.R_slice ho
      subst hv6
      clear hg hat hb
      refine hK.out _ _ ?h232 (fun hHeld => ?j232)
      case h232 => exact HK.out _ _ b6 hHeld
      clear hK K
      try simp only [Act.put, List.setIfInBounds_toArray, List.set_cons_zero, List.set_cons_succ]
      have U2 := Aside0.mk ho
      clear ho
      replace F1 := Aside0.mk (below_blk F1.out b6)
      refine wpAnyH_ready (rs := [2]) (by kernel_rfl) (by simp) ?_
      refine AllReadyH.cons (o := { dst := some 7, op := Op.call { callee := Callee.value (Operand.func 62), args := #[Operand.tmp 6], argTypes := #[28] }, type := 28, pos := "l4_client.go:38", after := #[{ on := 1, ground := Ground.data }], guard := none }) rfl (fun K hK => ?k233) AllReadyH.nil
      case k233 =>
        have hsl2 : w.heap.size ≤ V6.heap.size := (hHeld.2.2.2.2).size
        go_simp
        refine (hcp _ hHeld.2.2.2.2).mono ?_
        rintro e V2 ⟨B0, d0, B1, d1, rfl, ga0, ga1, b2⟩
        refine hK.out _ _ ?h234 (fun hHeld => ?j234)
        case h234 => exact HK.out _ _ b2 hHeld
        clear hK K
        try simp only [Act.put, List.setIfInBounds_toArray, List.set_cons_zero, List.set_cons_succ]
        have U0 := Aside0.mk (Kd.R_lower (base' := w.heap.size) ga0 hsl2)
        have U1 := Aside0.mk (Kd.R_lower (base' := w.heap.size) ga1 hsl2)
        clear ga0 ga1 hsl2
        replace F1 := Aside0.mk (below_blk F1.out b2)
        replace U2 := Aside0.mk (Kd.R_below U2.out b2)
        refine wpAnyH_take (i := 7) (oi := { dst := some 12, op := Op.build 31 #[(0, Operand.tmp 5), (1, Operand.tmp 7), (4, Operand.tmp 11)], type := 31, pos := "l4_client.go:38", after := #[{ on := 0, ground := Ground.data }, { on := 2, ground := Ground.data }, { on := 6, ground := Ground.data }], guard := none }) (v := ?v235) rfl (by kernel_rfl) (by kernel_rfl) (by kernel_rfl) (fun _ _ _ h => h) (Or.inl ⟨by rfl, ?y235⟩) (by assumption) ?r235
        case y235 => intro w_ hSw; (try dsimp only at hSw); go_simp; (try (with_reducible rfl))
        try simp only [Act.put, List.setIfInBounds_toArray, List.set_cons_zero, List.set_cons_succ]
        refine wpAnyH_ready (rs := [8]) (by kernel_rfl) (by simp) ?_
        refine AllReadyH.cons (o := { dst := none, op := Op.store 31 (Operand.tmp 4) (Operand.tmp 12), type := 0, pos := "l4_client.go:38", after := #[{ on := 7, ground := Ground.data }, { on := 2, ground := Ground.chain }, { on := 0, ground := Ground.phase }, { on := 1, ground := Ground.phase }, { on := 2, ground := Ground.phase }, { on := 3, ground := Ground.phase }, { on := 4, ground := Ground.phase }, { on := 5, ground := Ground.phase }, { on := 6, ground := Ground.phase }, { on := 7, ground := Ground.phase }], guard := none }) rfl (fun K hK => ?k236) AllReadyH.nil
        case k236 =>
          have hb7 := F1.out
          have v0_ : V2.cell? ⟨w.heap.size + 1, 0, none⟩ = some (.string ⟨#[]⟩) := by simp [World.cell?, hb7]
          have v1_ : V2.cell? ⟨w.heap.size + 1, 1, none⟩ = some (.string ⟨#[]⟩) := by simp [World.cell?, hb7]
          have v2_ : V2.cell? ⟨w.heap.size + 1, 2, none⟩ = some (.string ⟨#[]⟩) := by simp [World.cell?, hb7]
          have v3_ : V2.cell? ⟨w.heap.size + 1, 3, none⟩ = some (.slice none 0 0) := by simp [World.cell?, hb7]
          have v4_ : V2.cell? ⟨w.heap.size + 1, 4, none⟩ = some (.slice none 0 0) := by simp [World.cell?, hb7]
          have v5_ : V2.cell? ⟨w.heap.size + 1, 5, none⟩ = some (.int .i64 0) := by simp [World.cell?, hb7]
          have v6_ : V2.cell? ⟨w.heap.size + 1, 6, none⟩ = some (.int .i64 0) := by simp [World.cell?, hb7]
          have v7_ : V2.cell? ⟨w.heap.size + 1, 7, none⟩ = some (.slice none 0 0) := by simp [World.cell?, hb7]
          have u0_ : V2.frozen? ⟨w.heap.size + 1, 0, none⟩ = false := by simp [World.frozen?, hb7]
          have u1_ : V2.frozen? ⟨w.heap.size + 1, 1, none⟩ = false := by simp [World.frozen?, hb7]
          have u2_ : V2.frozen? ⟨w.heap.size + 1, 2, none⟩ = false := by simp [World.frozen?, hb7]
          have u3_ : V2.frozen? ⟨w.heap.size + 1, 3, none⟩ = false := by simp [World.frozen?, hb7]
          have u4_ : V2.frozen? ⟨w.heap.size + 1, 4, none⟩ = false := by simp [World.frozen?, hb7]
          have u5_ : V2.frozen? ⟨w.heap.size + 1, 5, none⟩ = false := by simp [World.frozen?, hb7]
          have u6_ : V2.frozen? ⟨w.heap.size + 1, 6, none⟩ = false := by simp [World.frozen?, hb7]
          have u7_ : V2.frozen? ⟨w.heap.size + 1, 7, none⟩ = false := by simp [World.frozen?, hb7]
          go_simp
          generalize hV8 : World.setCell (World.setCell (World.setCell (World.setCell (World.setCell (World.setCell (World.setCell (World.setCell V2 ⟨w.heap.size + 1, 0, none⟩ _) ⟨w.heap.size + 1, 1, none⟩ _) ⟨w.heap.size + 1, 2, none⟩ _) ⟨w.heap.size + 1, 3, none⟩ _) ⟨w.heap.size + 1, 4, none⟩ _) ⟨w.heap.size + 1, 5, none⟩ _) ⟨w.heap.size + 1, 6, none⟩ _) ⟨w.heap.size + 1, 7, none⟩ _ = V8
          have G8 : V2.grownBy V8 (some (w.heap.size + 1)) := by rw [← hV8]; exact (((((((grown_set1 _ _ _ _).trans (grown_set1 _ _ _ _)).trans (grown_set1 _ _ _ _)).trans (grown_set1 _ _ _ _)).trans (grown_set1 _ _ _ _)).trans (grown_set1 _ _ _ _)).trans (grown_set1 _ _ _ _)).trans (grown_set1 _ _ _ _)
          have FF : V8.heap[w.heap.size + 1]? = some (.cells #[.string nm, .string m.f0.f0, .string m.f0.f1, .slice B0 m.f1.length d0, .slice B1 m.f2.length d1, .int .i64 0, .int .i64 0, .slice B2 rs.length d2] 31 (0, 0)) := by rw [← hV8, blk_set1 (blk_set1 (blk_set1 (blk_set1 (blk_set1 (blk_set1 (blk_set1 (blk_set1 (F1.out) 0 _) 1 _) 2 _) 3 _) 4 _) 5 _) 6 _) 7 _]; simp
          have BB : Below w.heap.size w V8 := by rw [← hV8]; exact (bel_set (bel_set (bel_set (bel_set (bel_set (bel_set (bel_set (bel_set hHeld.2.2.2.2 _ (by show w.heap.size ≤ w.heap.size + 1; omega)) _ (by show w.heap.size ≤ w.heap.size + 1; omega)) _ (by show w.heap.size ≤ w.heap.size + 1; omega)) _ (by show w.heap.size ≤ w.heap.size + 1; omega)) _ (by show w.heap.size ≤ w.heap.size + 1; omega)) _ (by show w.heap.size ≤ w.heap.size + 1; omega)) _ (by show w.heap.size ≤ w.heap.size + 1; omega)) _ (by show w.heap.size ≤ w.heap.size + 1; omega))
          clear hV8
          refine hK.out _ _ ?h237 (fun hHeld => ?j237)
          case h237 => exact ⟨(World.cell?_of_block (G8.block _ (World.block_lt_of_cell? _ _ hHeld.1) (fun e => by have e := Option.some.inj e; (try dsimp only at e); omega))).trans hHeld.1, (World.cell?_of_block (G8.block _ (World.block_lt_of_cell? _ _ hHeld.2.1) (fun e => by have e := Option.some.inj e; (try dsimp only at e); omega))).trans hHeld.2.1, (World.cell?_of_block (G8.block _ (World.block_lt_of_cell? _ _ hHeld.2.2.1) (fun e => by have e := Option.some.inj e; (try dsimp only at e); omega))).trans hHeld.2.2.1, (World.cell?_of_block (G8.block _ (World.block_lt_of_cell? _ _ hHeld.2.2.2.1) (fun e => by have e := Option.some.inj e; (try dsimp only at e); omega))).trans hHeld.2.2.2.1, BB⟩
          clear hK K
          try simp only [Act.put, List.setIfInBounds_toArray, List.set_cons_zero, List.set_cons_succ]
          replace U0 := Aside0.mk (R_else U0.out rfl G8 (Kd.R_ne U0.out F1.out (by decide)))
          replace U1 := Aside0.mk (R_else U1.out rfl G8 (Kd.R_ne U1.out F1.out (by decide)))
          replace U2 := Aside0.mk (R_else U2.out rfl G8 (Kd.R_ne U2.out F1.out (by decide)))
          replace F1 := Aside0.mk FF
          clear FF
          refine wpAnyH_done (by kernel_rfl) ?_ _
          exact HKK.out B0 d0 B1 d1 B2 d2 V8 ⟨hHeld.2.2.2.2, blk_lt F1.out, F1.out, U0.out, U1.out, U2.out⟩
  case hk =>
    intro B0 d0 B1 d1 B2 d2 V ⟨BV, sV, f2, u0, u1, u2⟩
    clear HST HK HF0 HF1 join
    have U0 := Aside0.mk u0
    have U1 := Aside0.mk u1
    have U2 := Aside0.mk u2
    have F1 := Aside0.mk f2
    have BW := Aside0.mk BV
    clear u0 u1 u2 f2 BV
    have m0_ : V.cell? ⟨w.heap.size + 1, 0, none⟩ = some (.string nm) := by simp [World.cell?, F1.out]
    have m1_ : V.cell? ⟨w.heap.size + 1, 1, none⟩ = some (.string m.f0.f0) := by simp [World.cell?, F1.out]
    have m2_ : V.cell? ⟨w.heap.size + 1, 2, none⟩ = some (.string m.f0.f1) := by simp [World.cell?, F1.out]
    have m3_ : V.cell? ⟨w.heap.size + 1, 3, none⟩ = some (.slice B0 m.f1.length d0) := by simp [World.cell?, F1.out]
    have m4_ : V.cell? ⟨w.heap.size + 1, 4, none⟩ = some (.slice B1 m.f2.length d1) := by simp [World.cell?, F1.out]
    have m5_ : V.cell? ⟨w.heap.size + 1, 5, none⟩ = some (.int .i64 0) := by simp [World.cell?, F1.out]
    have m6_ : V.cell? ⟨w.heap.size + 1, 6, none⟩ = some (.int .i64 0) := by simp [World.cell?, F1.out]
    have m7_ : V.cell? ⟨w.heap.size + 1, 7, none⟩ = some (.slice B2 rs.length d2) := by simp [World.cell?, F1.out]
    go_wp2
    refine bodyPost_ret (v := .agg #[.string nm, .string m.f0.f0, .string m.f0.f1, .slice B0 m.f1.length d0, .slice B1 m.f2.length d1, .int .i64 0, .int .i64 0, .slice B2 rs.length d2]) ?hrB rfl ?hpB
    case hrB => simp [results, Tryz.results128, go_sem, m0_, m1_, m2_, m3_, m4_, m5_, m6_, m7_]
    case hpB => exact ⟨B0, d0, B1, d1, B2, d2, rfl, U0.out, U1.out, U2.out, BW.out⟩

end Go.Proofs.YtoppgnmnbbhghaaGreatDoor

/- Drawn clients in plain words. -/
namespace Go.Proofs.YtoppgnmnbbhghaaGreatDoor
open Go.RowKit Go.Proofs.YtoppgnmnbbhghaaGreatDoorW.PrintWords
set_option linter.unusedVariables false
set_option linter.unusedSimpArgs false

/-- A client that a draw may have made: its dialogue is one that can be. -/
def goodC (c : SCli) : Prop := c.f0.size ≤ 64 ∧ smallM c.f1 ∧ (0 ≤ c.f2 ∧ c.f2 ≤ 7) ∧ (0 ≤ c.f3 ∧ c.f3 ≤ (c.f1.f1.length : Int)) ∧ (c.f2 = 3 → 0 < c.f3) ∧ c.f4.length = c.f1.f1.length ∧ ∀ y ∈ c.f4, 0 ≤ y ∧ y ≤ 4
theorem goodC_next {c : SCli} (h : goodC c) : goodC (nextC c).1 := by
  obtain ⟨h0, h1, h2, h3, h4, h5, h6⟩ := h
  unfold nextC
  split
  · exact ⟨h0, h1, ⟨by show (0 : Int) ≤ 3; omega, by show (3 : Int) ≤ 7; omega⟩, ⟨by show 0 ≤ c.f3 + 1; omega, by show c.f3 + 1 ≤ (c.f1.f1.length : Int); omega⟩, fun _ => by show 0 < c.f3 + 1; omega, h5, h6⟩
  · split
    · exact ⟨h0, h1, ⟨by show (0 : Int) ≤ 4; omega, by show (4 : Int) ≤ 7; omega⟩, h3, fun h => absurd h (by show ¬ (4 : Int) = 3; omega), h5, h6⟩
    · exact ⟨h0, h1, ⟨by show (0 : Int) ≤ 6; omega, by show (6 : Int) ≤ 7; omega⟩, h3, fun h => absurd h (by show ¬ (6 : Int) = 3; omega), h5, h6⟩
theorem outs_bec {nv : Int} {fs xs : List Int} (hn : 0 ≤ nv ∧ nv ≤ 4) (h : ∀ y ∈ xs, 0 ≤ y ∧ y ≤ 4) : ∀ y ∈ becomes nv fs xs, 0 ≤ y ∧ y ≤ 4 := by
  intro y hy
  unfold becomes at hy
  obtain ⟨x, hx, rfl⟩ := List.mem_map.1 hy
  split
  · exact hn
  · exact h x hx
theorem failC_r (code : Int) : 0 ≤ failC code ∧ failC code ≤ 4 := by unfold failC; split <;> omega
theorem goodC_step {c : SCli} (h : goodC c) (code : Int) : goodC (stepC c code).1 := by
  have h' := h
  obtain ⟨h0, h1, h2, h3, h4, h5, h6⟩ := h
  have k : ∀ n : Int, 0 ≤ n → n ≤ 7 → n ≠ 3 → ∀ outs : List Int, outs.length = c.f1.f1.length → (∀ y ∈ outs, 0 ≤ y ∧ y ≤ 4) → goodC ⟨c.f0, c.f1, n, c.f3, outs⟩ := fun n a b d outs e f => ⟨h0, h1, ⟨a, b⟩, h3, fun h => absurd h d, e, f⟩
  unfold stepC
  split
  · exact k 7 (by omega) (by omega) (by omega) _ h5 h6
  split
  · exact k 1 (by omega) (by omega) (by omega) _ h5 h6
  split
  · exact k 2 (by omega) (by omega) (by omega) _ h5 h6
  split
  · exact goodC_next h'
  split
  · refine goodC_next ⟨h0, h1, h2, h3, h4, by show (c.f4.set _ _).length = _; rw [List.length_set]; exact h5, fun y hy => ?_⟩
    rcases List.mem_or_eq_of_mem_set hy with hy | rfl
    · exact h6 y hy
    · split
      · omega
      · exact failC_r code
  split
  · exact k 5 (by omega) (by omega) (by omega) _ h5 h6
  split
  · exact k 6 (by omega) (by omega) (by omega) _ (by rw [becomes_length]; exact h5) (outs_bec (by omega) h6)
  · exact k 6 (by omega) (by omega) (by omega) _ (by rw [becomes_length]; exact h5) (outs_bec (failC_r code) h6)
theorem fitA_of {a : SAddr} (h : smallA a) : fitAddr a := ⟨by have := h.1; omega, by have := h.2; omega⟩
theorem fitM_of {m : SMail} (h : smallM m) : fitMail m := by
  obtain ⟨ha, ⟨_, h1, h2⟩, hb1, hb2⟩ := h
  exact ⟨fitA_of ha, ⟨by omega, fun y hy => fitA_of (h2 y hy)⟩, ⟨by omega, fun y hy => by have := hb2 y hy; omega⟩⟩
theorem goodC_new {nm : ByteArray} {m : SMail} (hn : nm.size ≤ 64) (hm : smallM m) : goodC ⟨nm, m, 0, 0, List.replicate m.f1.length 0⟩ :=
  ⟨hn, hm, ⟨by show (0 : Int) ≤ 0; omega, by show (0 : Int) ≤ 7; omega⟩, ⟨by show (0 : Int) ≤ 0; omega, by show (0 : Int) ≤ (m.f1.length : Int); omega⟩, fun h => absurd h (by show ¬ (0 : Int) = 3; omega), List.length_replicate, fun y hy => by rw [List.eq_of_mem_replicate hy]; omega⟩
/-- The state of a drawn client: its boxes and rows at world W. -/
structure CSt (g k bc : Nat) (w W : World) (c : SCli) (B0 : Option Addr) (d0 : Nat) (B1 : Option Addr) (d1 : Nat) (B2 : Option Addr) (d2 : Nat) : Prop where
  f0 : W.heap[w.heap.size]? = some (.cells #[.string ⟨#[]⟩, .string ⟨#[]⟩, .string ⟨#[]⟩, .slice none 0 0, .slice none 0 0, .int .i64 0, .int .i64 0, .slice none 0 0] 31 (0, 0))
  f1 : W.heap[bc]? = some (.cells #[.string c.f0, .string c.f1.f0.f0, .string c.f1.f0.f1, .slice B0 c.f1.f1.length d0, .slice B1 c.f1.f2.length d1, .int .i64 c.f2, .int .i64 c.f3, .slice B2 c.f4.length d2] 31 (0, 0))
  r0 : Kd.R kAddr 24 W w.heap.size (fun _ => True) (.slice B0 c.f1.f1.length d0) c.f1.f1
  r1 : Kd.R Kd.string 9 W w.heap.size (fun _ => True) (.slice B1 c.f1.f2.length d1) c.f1.f2
  r2 : Kd.R (Kd.int .i64) 3 W w.heap.size (fun _ => True) (.slice B2 c.f4.length d2) c.f4
  hr : Rd g k W
  hd : Dr g w W
end Go.Proofs.YtoppgnmnbbhghaaGreatDoor

/- Drawn clients: a weak contract. -/
namespace Go.Proofs.YtoppgnmnbbhghaaGreatDoor
open Go.RowKit Go.Proofs.YtoppgnmnbbhghaaGreatDoorW.PrintWords
set_option linter.unusedVariables false
set_option linter.unusedSimpArgs false
set_option maxRecDepth 100000 in
set_option maxHeartbeats 4000000 in
theorem drAnswer_any (g m : Nat) (w : World) (h : Rd g m w) (hm : m + 1 ≤ 1000000000) :
    Calls Tryz.prog 59 #[.pointer (some ⟨g, 0, none⟩)] w fun e w' => ∃ s : ByteArray, e = .returned (.string s) ∧ s.size ≤ 64 ∧ Rd g (m + 1) w' ∧ Dr g w w' := by
  have HR := Aside0.mk h
  have HD := Aside0.mk (Dr.refl g w)
  have hgl := h.lt
  have ng0 : ¬ w.heap.size = g := by omega
  have ng1 : ¬ w.heap.size + 1 = g := by omega
  have ng2 : ¬ w.heap.size + 2 = g := by omega
  clear h
  go_enter Tryz.func59, Tryz.ntmps59
  go_wp2_with (go_at_call 101; (with_reducible refine Calls.mono (of_any g _ _ _ _ _ _ _ (Rd.at HR.out (by (with_reducible repeat (first | exact Keep.refl (Rd.lt HR.out) | refine Keep.alloc ?_ _ | refine Keep.drewN ?_ _ | refine Keep.drew ?_ | refine Keep.set ?_ _ ?_)); all_goals (first | (simp; done) | (simp; omega) | omega))) (by omega) (blk_at _ _ (by first | (simp; done) | (simp; omega))) (by decide) (by decide) (by decide) (by decide) (by decide)) ?_); (rintro e w1 ⟨s1, rfl, hs1, hr_, hd_⟩); (have y1 := hd_.size); ((try simp at y1)); (have hd2_ : Dr g w w1 := Dr.then_ (by (with_reducible repeat (first | exact HD.out | refine Dr.alloc ?_ _ | refine Dr.drewN ?_ _ | refine Dr.drew ?_ | refine Dr.set ?_ _ ?_)); all_goals (first | (left; simp; done) | (left; simp; omega) | (left; omega) | (right; rfl))) hd_); (clear HR HD); (have HR := Aside0.mk hr_); (have HD := Aside0.mk hd2_); (clear hr_ hd_ hd2_))
  go_ret
  exact ⟨_, rfl, hs1, HR.out, HD.out⟩

set_option maxRecDepth 100000 in
set_option maxHeartbeats 8000000 in
theorem drCli_any (g m : Nat) (w : World) (h : Rd g m w) (hm : m + 140 ≤ 1000000000) :
    Calls Tryz.prog 75 #[.pointer (some ⟨g, 0, none⟩)] w fun e w' => ∃ (x : SCli) (A0 : Option Addr) (c0 : Nat) (A1 : Option Addr) (c1 : Nat) (A2 : Option Addr) (c2 : Nat), e = .returned (.agg #[.string x.f0, .string x.f1.f0.f0, .string x.f1.f0.f1, .slice A0 x.f1.f1.length c0, .slice A1 x.f1.f2.length c1, .int .i64 x.f2, .int .i64 x.f3, .slice A2 x.f4.length c2]) ∧ goodC x ∧ Kd.R kAddr 24 w' w.heap.size (fun _ => True) (.slice A0 x.f1.f1.length c0) x.f1.f1 ∧ Kd.R Kd.string 9 w' w.heap.size (fun _ => True) (.slice A1 x.f1.f2.length c1) x.f1.f2 ∧ Kd.R (Kd.int .i64) 3 w' w.heap.size (fun _ => True) (.slice A2 x.f4.length c2) x.f4 ∧ Rd g (m + 140) w' ∧ Dr g w w' := by
  have HR := Aside0.mk h
  have HD := Aside0.mk (Dr.refl g w)
  have hgl := h.lt
  have ng0 : ¬ w.heap.size = g := by omega
  have ng1 : ¬ w.heap.size + 1 = g := by omega
  have ng2 : ¬ w.heap.size + 2 = g := by omega
  clear h
  go_enter Tryz.func75, Tryz.ntmps75
  go_wp2_with (first | (go_at_call 91; (with_reducible refine Calls.mono (drMail_any g _ _ (Rd.at HR.out (by (with_reducible repeat (first | exact Keep.refl (Rd.lt HR.out) | refine Keep.alloc ?_ _ | refine Keep.drewN ?_ _ | refine Keep.drew ?_ | refine Keep.set ?_ _ ?_)); all_goals (first | (simp; done) | (simp; omega) | omega))) (by omega)) ?_); (rintro e w1 ⟨m1, P0, e0, P1, e1, rfl, hs1, g0, g1, hr_, hd_⟩); (have y1 := hd_.size); ((try simp at y1)); (have nF0 : w1.heap[w.heap.size]? = some (.cells #[.string ⟨#[]⟩, .string ⟨#[]⟩, .string ⟨#[]⟩, .slice none 0 0, .slice none 0 0, .int .i64 0, .int .i64 0, .slice none 0 0] 31 (0, 0)) := hd_.blk (by (with_reducible repeat (first | exact blk_at _ _ (by first | (simp; done) | (simp; omega)) | refine blk_alloc ?_ _ | refine blk_drew ?_ | refine blk_drewN ?_ _ | refine blk_set ?_ _ _ | refine blk_far ?_ ?_ _)); all_goals (first | (simp; done) | (simp; omega) | omega)) (by omega)); (have F0 := Aside0.mk nF0); (have cF0_0 : w1.cell? ⟨w.heap.size, 0, none⟩ = some (.string ⟨#[]⟩) := (by simp [World.cell?, nF0])); (have cF0_1 : w1.cell? ⟨w.heap.size, 1, none⟩ = some (.string ⟨#[]⟩) := (by simp [World.cell?, nF0])); (have cF0_2 : w1.cell? ⟨w.heap.size, 2, none⟩ = some (.string ⟨#[]⟩) := (by simp [World.cell?, nF0])); (have cF0_3 : w1.cell? ⟨w.heap.size, 3, none⟩ = some (.slice none 0 0) := (by simp [World.cell?, nF0])); (have cF0_4 : w1.cell? ⟨w.heap.size, 4, none⟩ = some (.slice none 0 0) := (by simp [World.cell?, nF0])); (have cF0_5 : w1.cell? ⟨w.heap.size, 5, none⟩ = some (.int .i64 0) := (by simp [World.cell?, nF0])); (have cF0_6 : w1.cell? ⟨w.heap.size, 6, none⟩ = some (.int .i64 0) := (by simp [World.cell?, nF0])); (have cF0_7 : w1.cell? ⟨w.heap.size, 7, none⟩ = some (.slice none 0 0) := (by simp [World.cell?, nF0])); (clear nF0); (have hd2_ : Dr g w w1 := Dr.then_ (by (with_reducible repeat (first | exact HD.out | refine Dr.alloc ?_ _ | refine Dr.drewN ?_ _ | refine Dr.drew ?_ | refine Dr.set ?_ _ ?_)); all_goals (first | (left; simp; done) | (left; simp; omega) | (left; omega) | (right; rfl))) hd_); (clear HR HD); (have HR := Aside0.mk hr_); (have HD := Aside0.mk hd2_); (clear hr_ hd_ hd2_)) | (go_at_call 128; (with_reducible refine Calls.mono (specNew1_any _ m1 P0 e0 P1 e1 _ (by decide) (fitM_of hs1) ((Kd.R_reads' g0).2.2) ((Kd.R_reads' g1).2.2)) ?_); (rintro e w2 ⟨B0, d0, B1, d1, B2, d2, rfl, r0, r1, r2, b2⟩); have y2 := b2.size; have nF0 := below_blk F0.out b2; have nHR := Rd.below HR.out b2; have nHD := Dr.below HD.out b2; (try clear cF0_0 cF0_1 cF0_2 cF0_3 cF0_4 cF0_5 cF0_6 cF0_7); clear F0 HR HD g0 g1; have F0 := Aside0.mk nF0; have HR := Aside0.mk nHR; have HD := Aside0.mk nHD; generalize hcc : cliB _ m1 = c at r0 r1 r2 ⊢; have hgc : goodC c := (by rw [← hcc]; exact goodC_new (by decide) hs1); clear hcc; have U0 := Aside0.mk (Kd.R_lower (base' := w.heap.size) r0 (by omega)); have U1 := Aside0.mk (Kd.R_lower (base' := w.heap.size) r1 (by omega)); have U2 := Aside0.mk (Kd.R_lower (base' := w.heap.size) r2 (by omega)); clear r0 r1 r2 nF0 nHR nHD b2) | (go_at_call 76; (with_reducible refine Calls.mono (pick_any g _ 2 _ (Rd.at HR.out (by (with_reducible repeat (first | exact Keep.refl (Rd.lt HR.out) | refine Keep.alloc ?_ _ | refine Keep.drewN ?_ _ | refine Keep.drew ?_ | refine Keep.set ?_ _ ?_)); all_goals (first | (simp; done) | (simp; omega) | omega))) (by omega) (by omega)) ?_); (rintro e w3 ⟨k3, rfl, hk3, hr_, hd_⟩); (have y3 := hd_.size); ((try simp at y3)); (have nF0 : w3.heap[w.heap.size]? = some (.cells #[.string ⟨#[]⟩, .string ⟨#[]⟩, .string ⟨#[]⟩, .slice none 0 0, .slice none 0 0, .int .i64 0, .int .i64 0, .slice none 0 0] 31 (0, 0)) := hd_.blk (by (with_reducible repeat (first | exact blk_at _ _ (by first | (simp; done) | (simp; omega)) | exact F0.out | refine blk_alloc ?_ _ | refine blk_drew ?_ | refine blk_drewN ?_ _ | refine blk_set ?_ _ _ | refine blk_far ?_ ?_ _)); all_goals (first | (simp; done) | (simp; omega) | omega)) (by omega)); (have nF1 : w3.heap[w2.heap.size]? = some (.cells #[.string c.f0, .string c.f1.f0.f0, .string c.f1.f0.f1, .slice B0 c.f1.f1.length d0, .slice B1 c.f1.f2.length d1, .int .i64 c.f2, .int .i64 c.f3, .slice B2 c.f4.length d2] 31 (0, 0)) := hd_.blk (by (with_reducible repeat (first | exact blk_at _ _ (by first | (simp; done) | (simp; omega)) | refine blk_alloc ?_ _ | refine blk_drew ?_ | refine blk_drewN ?_ _ | refine blk_set ?_ _ _ | refine blk_far ?_ ?_ _)); all_goals (first | (simp; done) | (simp; omega) | omega)) (by omega)); (have nU0 := hd_.R2 U0.out (by (with_reducible repeat (first | exact Below.refl _ _ | refine bel_alloc ?_ _ | refine blw_drewN ?_ _ | refine Below.drew ?_))) (by omega)); (have nU1 := hd_.R2 U1.out (by (with_reducible repeat (first | exact Below.refl _ _ | refine bel_alloc ?_ _ | refine blw_drewN ?_ _ | refine Below.drew ?_))) (by omega)); (have nU2 := hd_.R2 U2.out (by (with_reducible repeat (first | exact Below.refl _ _ | refine bel_alloc ?_ _ | refine blw_drewN ?_ _ | refine Below.drew ?_))) (by omega)); ((try clear cF0_0 cF0_1 cF0_2 cF0_3 cF0_4 cF0_5 cF0_6 cF0_7)); ((try clear dF0_0 dF0_1 dF0_2 dF0_3 dF0_4 dF0_5 dF0_6 dF0_7)); (clear F0); (have F0 := Aside0.mk nF0); (have cF0_0 : w3.cell? ⟨w.heap.size, 0, none⟩ = some (.string ⟨#[]⟩) := (by simp [World.cell?, nF0])); (have cF0_1 : w3.cell? ⟨w.heap.size, 1, none⟩ = some (.string ⟨#[]⟩) := (by simp [World.cell?, nF0])); (have cF0_2 : w3.cell? ⟨w.heap.size, 2, none⟩ = some (.string ⟨#[]⟩) := (by simp [World.cell?, nF0])); (have cF0_3 : w3.cell? ⟨w.heap.size, 3, none⟩ = some (.slice none 0 0) := (by simp [World.cell?, nF0])); (have cF0_4 : w3.cell? ⟨w.heap.size, 4, none⟩ = some (.slice none 0 0) := (by simp [World.cell?, nF0])); (have cF0_5 : w3.cell? ⟨w.heap.size, 5, none⟩ = some (.int .i64 0) := (by simp [World.cell?, nF0])); (have cF0_6 : w3.cell? ⟨w.heap.size, 6, none⟩ = some (.int .i64 0) := (by simp [World.cell?, nF0])); (have cF0_7 : w3.cell? ⟨w.heap.size, 7, none⟩ = some (.slice none 0 0) := (by simp [World.cell?, nF0])); (clear nF0); (have F1 := Aside0.mk nF1); (have cF1_0 : w3.cell? ⟨w2.heap.size, 0, none⟩ = some (.string c.f0) := (by simp [World.cell?, nF1])); (have cF1_1 : w3.cell? ⟨w2.heap.size, 1, none⟩ = some (.string c.f1.f0.f0) := (by simp [World.cell?, nF1])); (have cF1_2 : w3.cell? ⟨w2.heap.size, 2, none⟩ = some (.string c.f1.f0.f1) := (by simp [World.cell?, nF1])); (have cF1_3 : w3.cell? ⟨w2.heap.size, 3, none⟩ = some (.slice B0 c.f1.f1.length d0) := (by simp [World.cell?, nF1])); (have cF1_4 : w3.cell? ⟨w2.heap.size, 4, none⟩ = some (.slice B1 c.f1.f2.length d1) := (by simp [World.cell?, nF1])); (have cF1_5 : w3.cell? ⟨w2.heap.size, 5, none⟩ = some (.int .i64 c.f2) := (by simp [World.cell?, nF1])); (have cF1_6 : w3.cell? ⟨w2.heap.size, 6, none⟩ = some (.int .i64 c.f3) := (by simp [World.cell?, nF1])); (have cF1_7 : w3.cell? ⟨w2.heap.size, 7, none⟩ = some (.slice B2 c.f4.length d2) := (by simp [World.cell?, nF1])); (clear nF1); (clear U0); (have U0 := Aside0.mk nU0); (clear nU0); (clear U1); (have U1 := Aside0.mk nU1); (clear nU1); (clear U2); (have U2 := Aside0.mk nU2); (clear nU2); (have hd2_ : Dr g w w3 := Dr.then_ (by (with_reducible repeat (first | exact HD.out | refine Dr.alloc ?_ _ | refine Dr.drewN ?_ _ | refine Dr.drew ?_ | refine Dr.set ?_ _ ?_)); all_goals (first | (left; simp; done) | (left; simp; omega) | (left; omega) | (right; rfl))) hd_); (clear HR HD); (have HR := Aside0.mk hr_); (have HD := Aside0.mk hd2_); (clear hr_ hd_ hd2_)) | (go_at_call 76; (with_reducible refine Calls.mono (pick_any g _ 9 w3 (Rd.at HR.out (by (with_reducible repeat (first | exact Keep.refl (Rd.lt HR.out) | refine Keep.alloc ?_ _ | refine Keep.drewN ?_ _ | refine Keep.drew ?_ | refine Keep.set ?_ _ ?_)); all_goals (first | (simp; done) | (simp; omega) | omega))) (by omega) (by omega)) ?_); (rintro e w4 ⟨k4, rfl, hk4, hr_, hd_⟩); (have y4 := hd_.size); ((try simp at y4)); (have nF0 : w4.heap[w.heap.size]? = some (.cells #[.string ⟨#[]⟩, .string ⟨#[]⟩, .string ⟨#[]⟩, .slice none 0 0, .slice none 0 0, .int .i64 0, .int .i64 0, .slice none 0 0] 31 (0, 0)) := hd_.blk (by (with_reducible repeat (first | exact blk_at _ _ (by first | (simp; done) | (simp; omega)) | exact F0.out | refine blk_alloc ?_ _ | refine blk_drew ?_ | refine blk_drewN ?_ _ | refine blk_set ?_ _ _ | refine blk_far ?_ ?_ _)); all_goals (first | (simp; done) | (simp; omega) | omega)) (by omega)); (have nF1 : w4.heap[w2.heap.size]? = some (.cells #[.string c.f0, .string c.f1.f0.f0, .string c.f1.f0.f1, .slice B0 c.f1.f1.length d0, .slice B1 c.f1.f2.length d1, .int .i64 c.f2, .int .i64 c.f3, .slice B2 c.f4.length d2] 31 (0, 0)) := hd_.blk (by (with_reducible repeat (first | exact blk_at _ _ (by first | (simp; done) | (simp; omega)) | exact F1.out | refine blk_alloc ?_ _ | refine blk_drew ?_ | refine blk_drewN ?_ _ | refine blk_set ?_ _ _ | refine blk_far ?_ ?_ _)); all_goals (first | (simp; done) | (simp; omega) | omega)) (by omega)); (have nU0 := hd_.R2 U0.out (by (with_reducible repeat (first | exact Below.refl _ _ | refine bel_alloc ?_ _ | refine blw_drewN ?_ _ | refine Below.drew ?_))) (by omega)); (have nU1 := hd_.R2 U1.out (by (with_reducible repeat (first | exact Below.refl _ _ | refine bel_alloc ?_ _ | refine blw_drewN ?_ _ | refine Below.drew ?_))) (by omega)); (have nU2 := hd_.R2 U2.out (by (with_reducible repeat (first | exact Below.refl _ _ | refine bel_alloc ?_ _ | refine blw_drewN ?_ _ | refine Below.drew ?_))) (by omega)); ((try clear cF0_0 cF0_1 cF0_2 cF0_3 cF0_4 cF0_5 cF0_6 cF0_7)); ((try clear dF0_0 dF0_1 dF0_2 dF0_3 dF0_4 dF0_5 dF0_6 dF0_7)); ((try clear cF1_0 cF1_1 cF1_2 cF1_3 cF1_4 cF1_5 cF1_6 cF1_7)); ((try clear dF1_0 dF1_1 dF1_2 dF1_3 dF1_4 dF1_5 dF1_6 dF1_7)); (clear F0 F1); (have F0 := Aside0.mk nF0); (have cF0_0 : w4.cell? ⟨w.heap.size, 0, none⟩ = some (.string ⟨#[]⟩) := (by simp [World.cell?, nF0])); (have cF0_1 : w4.cell? ⟨w.heap.size, 1, none⟩ = some (.string ⟨#[]⟩) := (by simp [World.cell?, nF0])); (have cF0_2 : w4.cell? ⟨w.heap.size, 2, none⟩ = some (.string ⟨#[]⟩) := (by simp [World.cell?, nF0])); (have cF0_3 : w4.cell? ⟨w.heap.size, 3, none⟩ = some (.slice none 0 0) := (by simp [World.cell?, nF0])); (have cF0_4 : w4.cell? ⟨w.heap.size, 4, none⟩ = some (.slice none 0 0) := (by simp [World.cell?, nF0])); (have cF0_5 : w4.cell? ⟨w.heap.size, 5, none⟩ = some (.int .i64 0) := (by simp [World.cell?, nF0])); (have cF0_6 : w4.cell? ⟨w.heap.size, 6, none⟩ = some (.int .i64 0) := (by simp [World.cell?, nF0])); (have cF0_7 : w4.cell? ⟨w.heap.size, 7, none⟩ = some (.slice none 0 0) := (by simp [World.cell?, nF0])); (clear nF0); (have F1 := Aside0.mk nF1); (have cF1_0 : w4.cell? ⟨w2.heap.size, 0, none⟩ = some (.string c.f0) := (by simp [World.cell?, nF1])); (have cF1_1 : w4.cell? ⟨w2.heap.size, 1, none⟩ = some (.string c.f1.f0.f0) := (by simp [World.cell?, nF1])); (have cF1_2 : w4.cell? ⟨w2.heap.size, 2, none⟩ = some (.string c.f1.f0.f1) := (by simp [World.cell?, nF1])); (have cF1_3 : w4.cell? ⟨w2.heap.size, 3, none⟩ = some (.slice B0 c.f1.f1.length d0) := (by simp [World.cell?, nF1])); (have cF1_4 : w4.cell? ⟨w2.heap.size, 4, none⟩ = some (.slice B1 c.f1.f2.length d1) := (by simp [World.cell?, nF1])); (have cF1_5 : w4.cell? ⟨w2.heap.size, 5, none⟩ = some (.int .i64 c.f2) := (by simp [World.cell?, nF1])); (have cF1_6 : w4.cell? ⟨w2.heap.size, 6, none⟩ = some (.int .i64 c.f3) := (by simp [World.cell?, nF1])); (have cF1_7 : w4.cell? ⟨w2.heap.size, 7, none⟩ = some (.slice B2 c.f4.length d2) := (by simp [World.cell?, nF1])); (clear nF1); (clear U0); (have U0 := Aside0.mk nU0); (clear nU0); (clear U1); (have U1 := Aside0.mk nU1); (clear nU1); (clear U2); (have U2 := Aside0.mk nU2); (clear nU2); (have hd2_ : Dr g w w4 := Dr.then_ (by (with_reducible repeat (first | exact HD.out | refine Dr.alloc ?_ _ | refine Dr.drewN ?_ _ | refine Dr.drew ?_ | refine Dr.set ?_ _ ?_)); all_goals (first | (left; simp; done) | (left; simp; omega) | (left; omega) | (right; rfl))) hd_); (clear HR HD); (have HR := Aside0.mk hr_); (have HD := Aside0.mk hd2_); (clear hr_ hd_ hd2_)) | (go_at_call 76; (with_reducible refine Calls.mono (pick_any g _ 9 _ (Rd.at HR.out (by (with_reducible repeat (first | exact Keep.refl (Rd.lt HR.out) | refine Keep.alloc ?_ _ | refine Keep.drewN ?_ _ | refine Keep.drew ?_ | refine Keep.set ?_ _ ?_)); all_goals (first | (simp; done) | (simp; omega) | omega))) (by omega) (by omega)) ?_); (rintro e w4 ⟨k4, rfl, hk4, hr_, hd_⟩); (have y4 := hd_.size); ((try simp at y4)); (have nF0 : w4.heap[w.heap.size]? = some (.cells #[.string ⟨#[]⟩, .string ⟨#[]⟩, .string ⟨#[]⟩, .slice none 0 0, .slice none 0 0, .int .i64 0, .int .i64 0, .slice none 0 0] 31 (0, 0)) := hd_.blk (by (with_reducible repeat (first | exact blk_at _ _ (by first | (simp; done) | (simp; omega)) | exact F0.out | refine blk_alloc ?_ _ | refine blk_drew ?_ | refine blk_drewN ?_ _ | refine blk_set ?_ _ _ | refine blk_far ?_ ?_ _)); all_goals (first | (simp; done) | (simp; omega) | omega)) (by omega)); (have nF1 : w4.heap[w2.heap.size]? = some (.cells #[.string c.f0, .string c.f1.f0.f0, .string c.f1.f0.f1, .slice B0 c.f1.f1.length d0, .slice B1 c.f1.f2.length d1, .int .i64 c.f2, .int .i64 c.f3, .slice B2 c.f4.length d2] 31 (0, 0)) := hd_.blk (by (with_reducible repeat (first | exact blk_at _ _ (by first | (simp; done) | (simp; omega)) | exact F1.out | refine blk_alloc ?_ _ | refine blk_drew ?_ | refine blk_drewN ?_ _ | refine blk_set ?_ _ _ | refine blk_far ?_ ?_ _)); all_goals (first | (simp; done) | (simp; omega) | omega)) (by omega)); (have nFF : w4.heap[w3.heap.size]? = some (.cells #[.string ⟨#[50, 50, 48, 32, 120]⟩, .string ⟨#[50, 53, 48, 32, 111, 107]⟩, .string ⟨#[50, 53, 48, 32, 111, 107]⟩, .string ⟨#[50, 53, 48, 32, 111, 107]⟩, .string ⟨#[50, 53, 48, 32, 111, 107]⟩, .string ⟨#[50, 53, 48, 32, 111, 107]⟩, .string ⟨#[50, 53, 48, 32, 111, 107]⟩, .string ⟨#[51, 53, 52, 32, 103, 111, 32, 111, 110]⟩] 9 (0, 0)) := hd_.blk (by (with_reducible repeat (first | exact blk_at _ _ (by first | (simp; done) | (simp; omega)) | refine blk_alloc ?_ _ | refine blk_drew ?_ | refine blk_drewN ?_ _ | refine blk_set ?_ _ _ | refine blk_far ?_ ?_ _)); all_goals (first | (simp; done) | (simp; omega) | omega)) (by omega)); (have nU0 := hd_.R2 U0.out (by (with_reducible repeat (first | exact Below.refl _ _ | refine bel_alloc ?_ _ | refine blw_drewN ?_ _ | refine Below.drew ?_))) (by omega)); (have nU1 := hd_.R2 U1.out (by (with_reducible repeat (first | exact Below.refl _ _ | refine bel_alloc ?_ _ | refine blw_drewN ?_ _ | refine Below.drew ?_))) (by omega)); (have nU2 := hd_.R2 U2.out (by (with_reducible repeat (first | exact Below.refl _ _ | refine bel_alloc ?_ _ | refine blw_drewN ?_ _ | refine Below.drew ?_))) (by omega)); ((try clear cF0_0 cF0_1 cF0_2 cF0_3 cF0_4 cF0_5 cF0_6 cF0_7)); ((try clear dF0_0 dF0_1 dF0_2 dF0_3 dF0_4 dF0_5 dF0_6 dF0_7)); ((try clear cF1_0 cF1_1 cF1_2 cF1_3 cF1_4 cF1_5 cF1_6 cF1_7)); ((try clear dF1_0 dF1_1 dF1_2 dF1_3 dF1_4 dF1_5 dF1_6 dF1_7)); (clear F0 F1); (have F0 := Aside0.mk nF0); (have cF0_0 : w4.cell? ⟨w.heap.size, 0, none⟩ = some (.string ⟨#[]⟩) := (by simp [World.cell?, nF0])); (have cF0_1 : w4.cell? ⟨w.heap.size, 1, none⟩ = some (.string ⟨#[]⟩) := (by simp [World.cell?, nF0])); (have cF0_2 : w4.cell? ⟨w.heap.size, 2, none⟩ = some (.string ⟨#[]⟩) := (by simp [World.cell?, nF0])); (have cF0_3 : w4.cell? ⟨w.heap.size, 3, none⟩ = some (.slice none 0 0) := (by simp [World.cell?, nF0])); (have cF0_4 : w4.cell? ⟨w.heap.size, 4, none⟩ = some (.slice none 0 0) := (by simp [World.cell?, nF0])); (have cF0_5 : w4.cell? ⟨w.heap.size, 5, none⟩ = some (.int .i64 0) := (by simp [World.cell?, nF0])); (have cF0_6 : w4.cell? ⟨w.heap.size, 6, none⟩ = some (.int .i64 0) := (by simp [World.cell?, nF0])); (have cF0_7 : w4.cell? ⟨w.heap.size, 7, none⟩ = some (.slice none 0 0) := (by simp [World.cell?, nF0])); (clear nF0); (have F1 := Aside0.mk nF1); (have cF1_0 : w4.cell? ⟨w2.heap.size, 0, none⟩ = some (.string c.f0) := (by simp [World.cell?, nF1])); (have cF1_1 : w4.cell? ⟨w2.heap.size, 1, none⟩ = some (.string c.f1.f0.f0) := (by simp [World.cell?, nF1])); (have cF1_2 : w4.cell? ⟨w2.heap.size, 2, none⟩ = some (.string c.f1.f0.f1) := (by simp [World.cell?, nF1])); (have cF1_3 : w4.cell? ⟨w2.heap.size, 3, none⟩ = some (.slice B0 c.f1.f1.length d0) := (by simp [World.cell?, nF1])); (have cF1_4 : w4.cell? ⟨w2.heap.size, 4, none⟩ = some (.slice B1 c.f1.f2.length d1) := (by simp [World.cell?, nF1])); (have cF1_5 : w4.cell? ⟨w2.heap.size, 5, none⟩ = some (.int .i64 c.f2) := (by simp [World.cell?, nF1])); (have cF1_6 : w4.cell? ⟨w2.heap.size, 6, none⟩ = some (.int .i64 c.f3) := (by simp [World.cell?, nF1])); (have cF1_7 : w4.cell? ⟨w2.heap.size, 7, none⟩ = some (.slice B2 c.f4.length d2) := (by simp [World.cell?, nF1])); (clear nF1); (have FF := Aside0.mk nFF); (have cFF_0 : w4.cell? ⟨w3.heap.size, 0, none⟩ = some (.string ⟨#[50, 50, 48, 32, 120]⟩) := (by simp [World.cell?, nFF])); (have cFF_1 : w4.cell? ⟨w3.heap.size, 1, none⟩ = some (.string ⟨#[50, 53, 48, 32, 111, 107]⟩) := (by simp [World.cell?, nFF])); (have cFF_2 : w4.cell? ⟨w3.heap.size, 2, none⟩ = some (.string ⟨#[50, 53, 48, 32, 111, 107]⟩) := (by simp [World.cell?, nFF])); (have cFF_3 : w4.cell? ⟨w3.heap.size, 3, none⟩ = some (.string ⟨#[50, 53, 48, 32, 111, 107]⟩) := (by simp [World.cell?, nFF])); (have cFF_4 : w4.cell? ⟨w3.heap.size, 4, none⟩ = some (.string ⟨#[50, 53, 48, 32, 111, 107]⟩) := (by simp [World.cell?, nFF])); (have cFF_5 : w4.cell? ⟨w3.heap.size, 5, none⟩ = some (.string ⟨#[50, 53, 48, 32, 111, 107]⟩) := (by simp [World.cell?, nFF])); (have cFF_6 : w4.cell? ⟨w3.heap.size, 6, none⟩ = some (.string ⟨#[50, 53, 48, 32, 111, 107]⟩) := (by simp [World.cell?, nFF])); (have cFF_7 : w4.cell? ⟨w3.heap.size, 7, none⟩ = some (.string ⟨#[51, 53, 52, 32, 103, 111, 32, 111, 110]⟩) := (by simp [World.cell?, nFF])); (clear nFF); (clear U0); (have U0 := Aside0.mk nU0); (clear nU0); (clear U1); (have U1 := Aside0.mk nU1); (clear nU1); (clear U2); (have U2 := Aside0.mk nU2); (clear nU2); (have hd2_ : Dr g w w4 := Dr.then_ (by (with_reducible repeat (first | exact HD.out | refine Dr.alloc ?_ _ | refine Dr.drewN ?_ _ | refine Dr.drew ?_ | refine Dr.set ?_ _ ?_)); all_goals (first | (left; simp; done) | (left; simp; omega) | (left; omega) | (right; rfl))) hd_); (clear HR HD); (have HR := Aside0.mk hr_); (have HD := Aside0.mk hd2_); (clear hr_ hd_ hd2_)))
  rotate_left
  · have hk4 := hk4 (by omega)
    have hbc : w.heap.size < w2.heap.size := by omega
    have HS : Aside0 (CSt g (m + 122) w2.heap.size w w4 c B0 d0 B1 d1 B2 d2) := ⟨⟨F0.out, F1.out, U0.out, U1.out, U2.out, HR.out.up (by omega), HD.out⟩⟩
    clear F0 F1 U0 U1 U2 HR HD cF0_0 cF0_1 cF0_2 cF0_3 cF0_4 cF0_5 cF0_6 cF0_7 cF1_0 cF1_1 cF1_2 cF1_3 cF1_4 cF1_5 cF1_6 cF1_7
    generalize w2.heap.size = bc at HS hbc
    have HGC := Aside0.mk hgc
    clear hgc
    go_loopg [8, 9, 10] 8 (fun gq v8 _ _ wr => ∃ (k : Nat) (c : SCli) (B2 : Option Addr) (d2 : Nat), k ≤ gq ∧ k ≤ 8 ∧ v8 = .int .i64 (k : Int) ∧ Aside0 (goodC c) ∧ Aside0 (CSt g (m + (130 - k)) bc w wr c B0 d0 B1 d1 B2 d2))
    case atStart => exact ⟨k4, c, B2, d2, by omega, by omega, rfl, HGC, ⟨⟨HS.out.f0, HS.out.f1, HS.out.r0, HS.out.r1, HS.out.r2, HS.out.hr.up (by omega), HS.out.hd⟩⟩⟩
    case round =>
      clear HS HGC
      obtain ⟨k, c, B2, d2, hkg, hk8, rfl, HGC, HS⟩ := hrel
      have F0 := Aside0.mk HS.out.f0
      have F1 := Aside0.mk HS.out.f1
      have U0 := Aside0.mk HS.out.r0
      have U1 := Aside0.mk HS.out.r1
      have U2 := Aside0.mk HS.out.r2
      have HR := Aside0.mk HS.out.hr
      have HD := Aside0.mk HS.out.hd
      have ywr := HD.out.size
      clear HS
      by_cases hlt : 0 < k
      · have hlt' : (0 : Int) < (k : Int) := by omega
        go_wp2
        have join : Hid (∀ {goal : Prop} {G : ByteArray → ByteArray → Int → Int → List Int → Option Addr → Nat → Nat → World → Prop} (rg : Hid (∀ (an : ByteArray) (tx : ByteArray) (st1 : Int) (at1 : Int) (outs1 : List Int) (P : Option Addr) (e2 : Nat) (gx : Nat) (V : World), V.heap[w.heap.size]? = some (.cells #[.string ⟨#[]⟩, .string ⟨#[]⟩, .string ⟨#[]⟩, .slice none 0 0, .slice none 0 0, .int .i64 0, .int .i64 0, .slice none 0 0] 31 (0, 0)) ∧ V.heap[bc]? = some (.cells #[.string c.f0, .string c.f1.f0.f0, .string c.f1.f0.f1, .slice B0 c.f1.f1.length d0, .slice B1 c.f1.f2.length d1, .int .i64 c.f2, .int .i64 c.f3, .slice B2 c.f4.length d2] 31 (0, 0)) ∧ V.heap[gx]? = some (.cells #[.string c.f0, .string c.f1.f0.f0, .string c.f1.f0.f1, .slice B0 c.f1.f1.length d0, .slice B1 c.f1.f2.length d1, .int .i64 st1, .int .i64 at1, .slice P c.f4.length e2] 31 (0, 0)) ∧ Kd.R kAddr 24 V w.heap.size (fun _ => True) (.slice B0 c.f1.f1.length d0) c.f1.f1 ∧ Kd.R Kd.string 9 V w.heap.size (fun _ => True) (.slice B1 c.f1.f2.length d1) c.f1.f2 ∧ Kd.R (Kd.int .i64) 3 V w.heap.size (fun _ => True) (.slice P c.f4.length e2) outs1 ∧ Rd g (m + (130 - (k - 1))) V ∧ Dr g w V ∧ goodC ⟨c.f0, c.f1, st1, at1, outs1⟩ ∧ outs1.length = c.f4.length ∧ bc ≠ gx ∧ w.heap.size < gx → G an tx st1 at1 outs1 P e2 gx V) → goal) (hk : ∀ (an : ByteArray) (tx : ByteArray) (st1 : Int) (at1 : Int) (outs1 : List Int) (P : Option Addr) (e2 : Nat) (gx : Nat) (V : World), V.heap[w.heap.size]? = some (.cells #[.string ⟨#[]⟩, .string ⟨#[]⟩, .string ⟨#[]⟩, .slice none 0 0, .slice none 0 0, .int .i64 0, .int .i64 0, .slice none 0 0] 31 (0, 0)) ∧ V.heap[bc]? = some (.cells #[.string c.f0, .string c.f1.f0.f0, .string c.f1.f0.f1, .slice B0 c.f1.f1.length d0, .slice B1 c.f1.f2.length d1, .int .i64 c.f2, .int .i64 c.f3, .slice B2 c.f4.length d2] 31 (0, 0)) ∧ V.heap[gx]? = some (.cells #[.string c.f0, .string c.f1.f0.f0, .string c.f1.f0.f1, .slice B0 c.f1.f1.length d0, .slice B1 c.f1.f2.length d1, .int .i64 st1, .int .i64 at1, .slice P c.f4.length e2] 31 (0, 0)) ∧ Kd.R kAddr 24 V w.heap.size (fun _ => True) (.slice B0 c.f1.f1.length d0) c.f1.f1 ∧ Kd.R Kd.string 9 V w.heap.size (fun _ => True) (.slice B1 c.f1.f2.length d1) c.f1.f2 ∧ Kd.R (Kd.int .i64) 3 V w.heap.size (fun _ => True) (.slice P c.f4.length e2) outs1 ∧ Rd g (m + (130 - (k - 1))) V ∧ Dr g w V ∧ goodC ⟨c.f0, c.f1, st1, at1, outs1⟩ ∧ outs1.length = c.f4.length ∧ bc ≠ gx ∧ w.heap.size < gx → G an tx st1 at1 outs1 P e2 gx V), goal) := Lib.hid (fun f h => f (Lib.hid h))
        have HST : Aside0 ((fun W => W.cell? ⟨bc, 0, none⟩ = some (.string c.f0) ∧ W.cell? ⟨bc, 1, none⟩ = some (.string c.f1.f0.f0) ∧ W.cell? ⟨bc, 2, none⟩ = some (.string c.f1.f0.f1) ∧ W.cell? ⟨bc, 3, none⟩ = some (.slice B0 c.f1.f1.length d0) ∧ W.cell? ⟨bc, 4, none⟩ = some (.slice B1 c.f1.f2.length d1) ∧ W.cell? ⟨bc, 5, none⟩ = some (.int .i64 c.f2) ∧ W.cell? ⟨bc, 6, none⟩ = some (.int .i64 c.f3) ∧ W.cell? ⟨bc, 7, none⟩ = some (.slice B2 c.f4.length d2)) wr.drew) := ⟨cells8 (show wr.drew.heap[bc]? = _ from F1.out)⟩
        have HK : Aside0 (∀ W W1, Below W.heap.size W W1 → (W.cell? ⟨bc, 0, none⟩ = some (.string c.f0) ∧ W.cell? ⟨bc, 1, none⟩ = some (.string c.f1.f0.f0) ∧ W.cell? ⟨bc, 2, none⟩ = some (.string c.f1.f0.f1) ∧ W.cell? ⟨bc, 3, none⟩ = some (.slice B0 c.f1.f1.length d0) ∧ W.cell? ⟨bc, 4, none⟩ = some (.slice B1 c.f1.f2.length d1) ∧ W.cell? ⟨bc, 5, none⟩ = some (.int .i64 c.f2) ∧ W.cell? ⟨bc, 6, none⟩ = some (.int .i64 c.f3) ∧ W.cell? ⟨bc, 7, none⟩ = some (.slice B2 c.f4.length d2)) → (W1.cell? ⟨bc, 0, none⟩ = some (.string c.f0) ∧ W1.cell? ⟨bc, 1, none⟩ = some (.string c.f1.f0.f0) ∧ W1.cell? ⟨bc, 2, none⟩ = some (.string c.f1.f0.f1) ∧ W1.cell? ⟨bc, 3, none⟩ = some (.slice B0 c.f1.f1.length d0) ∧ W1.cell? ⟨bc, 4, none⟩ = some (.slice B1 c.f1.f2.length d1) ∧ W1.cell? ⟨bc, 5, none⟩ = some (.int .i64 c.f2) ∧ W1.cell? ⟨bc, 6, none⟩ = some (.int .i64 c.f3) ∧ W1.cell? ⟨bc, 7, none⟩ = some (.slice B2 c.f4.length d2))) := ⟨fun W W1 hb h => ⟨(hb.cell (World.block_lt_of_cell? W _ (h.1))).trans (h.1), (hb.cell (World.block_lt_of_cell? W _ (h.2.1))).trans (h.2.1), (hb.cell (World.block_lt_of_cell? W _ (h.2.2.1))).trans (h.2.2.1), (hb.cell (World.block_lt_of_cell? W _ (h.2.2.2.1))).trans (h.2.2.2.1), (hb.cell (World.block_lt_of_cell? W _ (h.2.2.2.2.1))).trans (h.2.2.2.2.1), (hb.cell (World.block_lt_of_cell? W _ (h.2.2.2.2.2.1))).trans (h.2.2.2.2.2.1), (hb.cell (World.block_lt_of_cell? W _ (h.2.2.2.2.2.2.1))).trans (h.2.2.2.2.2.2.1), (hb.cell (World.block_lt_of_cell? W _ (h.2.2.2.2.2.2.2))).trans (h.2.2.2.2.2.2.2)⟩⟩
        have HKd : Aside0 (∀ W W1, Dr g W W1 → (W.cell? ⟨bc, 0, none⟩ = some (.string c.f0) ∧ W.cell? ⟨bc, 1, none⟩ = some (.string c.f1.f0.f0) ∧ W.cell? ⟨bc, 2, none⟩ = some (.string c.f1.f0.f1) ∧ W.cell? ⟨bc, 3, none⟩ = some (.slice B0 c.f1.f1.length d0) ∧ W.cell? ⟨bc, 4, none⟩ = some (.slice B1 c.f1.f2.length d1) ∧ W.cell? ⟨bc, 5, none⟩ = some (.int .i64 c.f2) ∧ W.cell? ⟨bc, 6, none⟩ = some (.int .i64 c.f3) ∧ W.cell? ⟨bc, 7, none⟩ = some (.slice B2 c.f4.length d2)) → (W1.cell? ⟨bc, 0, none⟩ = some (.string c.f0) ∧ W1.cell? ⟨bc, 1, none⟩ = some (.string c.f1.f0.f0) ∧ W1.cell? ⟨bc, 2, none⟩ = some (.string c.f1.f0.f1) ∧ W1.cell? ⟨bc, 3, none⟩ = some (.slice B0 c.f1.f1.length d0) ∧ W1.cell? ⟨bc, 4, none⟩ = some (.slice B1 c.f1.f2.length d1) ∧ W1.cell? ⟨bc, 5, none⟩ = some (.int .i64 c.f2) ∧ W1.cell? ⟨bc, 6, none⟩ = some (.int .i64 c.f3) ∧ W1.cell? ⟨bc, 7, none⟩ = some (.slice B2 c.f4.length d2))) := ⟨fun W W1 hb h => ⟨(World.cell?_of_block (hb.block bc (World.block_lt_of_cell? W _ (h.1)) (by omega))).trans (h.1), (World.cell?_of_block (hb.block bc (World.block_lt_of_cell? W _ (h.2.1)) (by omega))).trans (h.2.1), (World.cell?_of_block (hb.block bc (World.block_lt_of_cell? W _ (h.2.2.1)) (by omega))).trans (h.2.2.1), (World.cell?_of_block (hb.block bc (World.block_lt_of_cell? W _ (h.2.2.2.1)) (by omega))).trans (h.2.2.2.1), (World.cell?_of_block (hb.block bc (World.block_lt_of_cell? W _ (h.2.2.2.2.1)) (by omega))).trans (h.2.2.2.2.1), (World.cell?_of_block (hb.block bc (World.block_lt_of_cell? W _ (h.2.2.2.2.2.1)) (by omega))).trans (h.2.2.2.2.2.1), (World.cell?_of_block (hb.block bc (World.block_lt_of_cell? W _ (h.2.2.2.2.2.2.1)) (by omega))).trans (h.2.2.2.2.2.2.1), (World.cell?_of_block (hb.block bc (World.block_lt_of_cell? W _ (h.2.2.2.2.2.2.2)) (by omega))).trans (h.2.2.2.2.2.2.2)⟩⟩
        apply join.out
        case rg =>
          intro HKK
          refine wp_region_held_drew (S := (fun W => W.cell? ⟨bc, 0, none⟩ = some (.string c.f0) ∧ W.cell? ⟨bc, 1, none⟩ = some (.string c.f1.f0.f0) ∧ W.cell? ⟨bc, 2, none⟩ = some (.string c.f1.f0.f1) ∧ W.cell? ⟨bc, 3, none⟩ = some (.slice B0 c.f1.f1.length d0) ∧ W.cell? ⟨bc, 4, none⟩ = some (.slice B1 c.f1.f2.length d1) ∧ W.cell? ⟨bc, 5, none⟩ = some (.int .i64 c.f2) ∧ W.cell? ⟨bc, 6, none⟩ = some (.int .i64 c.f3) ∧ W.cell? ⟨bc, 7, none⟩ = some (.slice B2 c.f4.length d2))) (by kernel_rfl) ?s263 (fun hHeld => ?t263)
          case s263 => exact HST.out
          generalize hV0 : World.drew _ = V0 at hHeld ⊢
          have F0 := Aside0.mk (show V0.heap[w.heap.size]? = some (.cells #[.string ⟨#[]⟩, .string ⟨#[]⟩, .string ⟨#[]⟩, .slice none 0 0, .slice none 0 0, .int .i64 0, .int .i64 0, .slice none 0 0] 31 (0, 0)) from by rw [← hV0]; exact blk_drew F0.out)
          have F1 := Aside0.mk (show V0.heap[bc]? = some (.cells #[.string c.f0, .string c.f1.f0.f0, .string c.f1.f0.f1, .slice B0 c.f1.f1.length d0, .slice B1 c.f1.f2.length d1, .int .i64 c.f2, .int .i64 c.f3, .slice B2 c.f4.length d2] 31 (0, 0)) from by rw [← hV0]; exact blk_drew F1.out)
          have U0 := Aside0.mk (show Kd.R kAddr 24 V0 w.heap.size (fun _ => True) (.slice B0 c.f1.f1.length d0) c.f1.f1 from by rw [← hV0]; exact Kd.R_drew U0.out)
          have U1 := Aside0.mk (show Kd.R Kd.string 9 V0 w.heap.size (fun _ => True) (.slice B1 c.f1.f2.length d1) c.f1.f2 from by rw [← hV0]; exact Kd.R_drew U1.out)
          have U2 := Aside0.mk (show Kd.R (Kd.int .i64) 3 V0 w.heap.size (fun _ => True) (.slice B2 c.f4.length d2) c.f4 from by rw [← hV0]; exact Kd.R_drew U2.out)
          have HR := Aside0.mk (show Rd g _ V0 from by rw [← hV0]; exact HR.out.drew)
          have HD := Aside0.mk (show Dr g w V0 from by rw [← hV0]; exact HD.out.drew)
          clear hV0
          refine wpAnyH_take (i := 0) (oi := { dst := some 48, op := Op.load 31 (Operand.tmp 3), type := 31, pos := "l20_draw.go:398", after := #[], guard := none }) (v := ?v264) rfl (by kernel_rfl) (by kernel_rfl) (by kernel_rfl) (fun _ _ _ h => h) (Or.inl ⟨by rfl, ?y264⟩) (by assumption) ?r264
          case y264 => intro w_ hSw; (try dsimp only at hSw); go_simp; (try (with_reducible rfl))
          try simp only [Act.put, List.setIfInBounds_toArray, List.set_cons_zero, List.set_cons_succ]
          refine wpAnyH_take (i := 1) (oi := { dst := some 49, op := Op.move (Operand.tmp 0), type := 67, pos := "l20_draw.go:398", after := #[], guard := none }) (v := ?v265) rfl (by kernel_rfl) (by kernel_rfl) (by kernel_rfl) (fun _ _ _ h => h) (Or.inl ⟨by rfl, ?y265⟩) (by assumption) ?r265
          case y265 => intro w_ hSw; (try dsimp only at hSw); go_simp; (try (with_reducible rfl))
          try simp only [Act.put, List.setIfInBounds_toArray, List.set_cons_zero, List.set_cons_succ]
          refine wpAnyH_ready (rs := [2, 7]) (by kernel_rfl) (by simp) ?_
          refine AllReadyH.cons (o := { dst := some 50, op := Op.call { callee := Callee.value (Operand.func 59), args := #[Operand.tmp 49], argTypes := #[67] }, type := 9, pos := "l20_draw.go:398", after := #[{ on := 1, ground := Ground.data }], guard := none }) rfl (fun K hK => ?k266) (AllReadyH.cons (o := { dst := some 9, op := Op.alloc 31, type := 0, pos := "l20_draw.go:398", after := #[], guard := none }) rfl (fun K hK => ?k267) AllReadyH.nil)
          case k266 =>
            go_simp
            refine Calls.mono (drAnswer_any g _ _ HR.out (by omega)) ?_
            rintro e V2 ⟨an, rfl, han, hr_, bd⟩
            refine hK.out _ _ ?h268 (fun hHeld => ?j268)
            case h268 => exact HKd.out _ _ bd hHeld
            clear hK K
            try simp only [Act.put, List.setIfInBounds_toArray, List.set_cons_zero, List.set_cons_succ]
            replace F0 := Aside0.mk (bd.blk F0.out (by omega))
            replace F1 := Aside0.mk (bd.blk F1.out (by omega))
            replace U0 := Aside0.mk (bd.R U0.out hgl)
            replace U1 := Aside0.mk (bd.R U1.out hgl)
            replace U2 := Aside0.mk (bd.R U2.out hgl)
            replace HR := Aside0.mk hr_
            replace HD := Aside0.mk (HD.out.then_ bd)
            clear hr_ bd
            refine wpAnyH_ready (rs := [3, 7]) (by kernel_rfl) (by simp) ?_
            refine AllReadyH.cons (o := { dst := some 51, op := Op.call { callee := Callee.value (Operand.func 63), args := #[Operand.tmp 48, Operand.tmp 50], argTypes := #[31, 9] }, type := 52, pos := "l20_draw.go:398", after := #[{ on := 0, ground := Ground.data }, { on := 2, ground := Ground.data }, { on := 2, ground := Ground.chain }], guard := none }) rfl (fun K hK => ?k269) (AllReadyH.cons (o := { dst := some 9, op := Op.alloc 31, type := 0, pos := "l20_draw.go:398", after := #[], guard := none }) rfl (fun K hK => ?k270) AllReadyH.nil)
            case k269 =>
              go_simp
              have hst := specStep_any c.f0 c.f1 c.f2 c.f3 c.f4 B0 d0 B1 d1 B2 d2 an (codeOf an) w.heap.size V2 (fitM_of HGC.out.2.1) (by have := HGC.out.1; omega) HGC.out.2.2.2.1.1 HGC.out.2.2.2.1.2 (by have h1 := HGC.out.2.2.2.2.2.1; have h2 := HGC.out.2.1.2.1.2.1; omega) HD.out.size HGC.out.2.2.1.1 HGC.out.2.2.1.2 HGC.out.2.2.2.2.1 HGC.out.2.2.2.2.2.1 (fun W => specCode_any an W (by omega)) (Kd.R_reads' U0.out).2.2 (Kd.R_reads' U1.out).2.2 U2.out
              have hgn : goodC (stepC ⟨c.f0, c.f1, c.f2, c.f3, c.f4⟩ (codeOf an)).1 := goodC_step HGC.out (codeOf an)
              have hrs := stepC_rest ⟨c.f0, c.f1, c.f2, c.f3, c.f4⟩ (codeOf an)
              generalize stepC ⟨c.f0, c.f1, c.f2, c.f3, c.f4⟩ (codeOf an) = SS at hst hgn hrs
              obtain ⟨⟨n0, n1, st1, at1, outs1⟩, tx⟩ := SS
              obtain ⟨h0_, h1_, h4_⟩ := hrs
              obtain rfl : n0 = c.f0 := h0_
              obtain rfl : n1 = c.f1 := h1_
              have HG1 := Aside0.mk hgn
              have HL1 := Lib.hid (show outs1.length = c.f4.length from h4_)
              clear hgn h4_
              refine Calls.mono hst ?_
              clear hst
              rintro e V3 ⟨P, e2, rfl, r2, b3⟩
              refine hK.out _ _ ?h271 (fun hHeld => ?j271)
              case h271 => exact HK.out _ _ b3 hHeld
              clear hK K
              try simp only [Act.put, List.setIfInBounds_toArray, List.set_cons_zero, List.set_cons_succ]
              have R2 := Aside0.mk r2
              clear r2
              replace F0 := Aside0.mk (below_blk F0.out b3)
              replace F1 := Aside0.mk (below_blk F1.out b3)
              replace U0 := Aside0.mk (Kd.R_below U0.out b3)
              replace U1 := Aside0.mk (Kd.R_below U1.out b3)
              replace U2 := Aside0.mk (Kd.R_below U2.out b3)
              replace HR := Aside0.mk (Rd.below HR.out b3)
              replace HD := Aside0.mk (Dr.below HD.out b3)
              refine wpAnyH_take (i := 4) (oi := { dst := some 47, op := Op.move (Operand.tmp 51), type := 52, pos := "l20_draw.go:398", after := #[{ on := 3, ground := Ground.data }], guard := none }) (v := ?v272) rfl (by kernel_rfl) (by kernel_rfl) (by kernel_rfl) (fun _ _ _ h => h) (Or.inl ⟨by rfl, ?y272⟩) (by assumption) ?r272
              case y272 => intro w_ hSw; (try dsimp only at hSw); go_simp; (try (with_reducible rfl))
              try simp only [Act.put, List.setIfInBounds_toArray, List.set_cons_zero, List.set_cons_succ]
              refine wpAnyH_take (i := 5) (oi := { dst := some 52, op := Op.extract (Operand.tmp 47) 0, type := 31, pos := "l20_draw.go:398", after := #[{ on := 4, ground := Ground.data }], guard := none }) (v := ?v273) rfl (by kernel_rfl) (by kernel_rfl) (by kernel_rfl) (fun _ _ _ h => h) (Or.inl ⟨by rfl, ?y273⟩) (by assumption) ?r273
              case y273 => intro w_ hSw; (try dsimp only at hSw); go_simp; (try (with_reducible rfl))
              try simp only [Act.put, List.setIfInBounds_toArray, List.set_cons_zero, List.set_cons_succ]
              refine wpAnyH_take (i := 6) (oi := { dst := some 53, op := Op.extract (Operand.tmp 47) 1, type := 9, pos := "l20_draw.go:398", after := #[{ on := 4, ground := Ground.data }, { on := 8, ground := Ground.gcOnly Departure.lateStores }], guard := none }) (v := ?v274) rfl (by kernel_rfl) (by kernel_rfl) (by kernel_rfl) (fun _ _ _ h => h) (Or.inl ⟨by rfl, ?y274⟩) (by assumption) ?r274
              case y274 => intro w_ hSw; (try dsimp only at hSw); go_simp; (try (with_reducible rfl))
              try simp only [Act.put, List.setIfInBounds_toArray, List.set_cons_zero, List.set_cons_succ]
              refine wpAnyH_ready (rs := [7]) (by kernel_rfl) (by simp) ?_
              refine AllReadyH.cons (o := { dst := some 9, op := Op.alloc 31, type := 0, pos := "l20_draw.go:398", after := #[], guard := none }) rfl (fun K hK => ?k275) AllReadyH.nil
              case k275 =>
                go_simp
                refine hK.out _ _ ?h276 (fun hHeld => ?j276)
                case h276 => exact HK.out _ _ (bel_alloc (Below.refl _ _) _) hHeld
                clear hK K
                try simp only [Act.put, List.setIfInBounds_toArray, List.set_cons_zero, List.set_cons_succ]
                generalize hV7 : World.alloc V3 _ = V7 at hHeld ⊢
                have b7 : Below V3.heap.size V3 V7 := by rw [← hV7]; exact bel_alloc (Below.refl _ _) _
                have FX := Aside0.mk (by rw [← hV7]; exact blk_new _ _ : V7.heap[V3.heap.size]? = some (.cells #[.string ⟨#[]⟩, .string ⟨#[]⟩, .string ⟨#[]⟩, .slice none 0 0, .slice none 0 0, .int .i64 0, .int .i64 0, .slice none 0 0] 31 (0, 0)))
                have lo7 := blk_lt F1.out
                have lp7 := blk_lt F0.out
                obtain ⟨gx, hg7⟩ : ∃ g, g = V3.heap.size := ⟨_, rfl⟩
                have lgx : bc < gx := by omega
                have lgw : w.heap.size < gx := by omega
                rw [← hg7] at FX ⊢
                clear hV7 hg7 lo7 lp7
                replace F0 := Aside0.mk (below_blk F0.out b7)
                replace F1 := Aside0.mk (below_blk F1.out b7)
                replace U0 := Aside0.mk (Kd.R_below U0.out b7)
                replace U1 := Aside0.mk (Kd.R_below U1.out b7)
                replace U2 := Aside0.mk (Kd.R_below U2.out b7)
                replace HR := Aside0.mk (Rd.below HR.out b7)
                replace HD := Aside0.mk (Dr.below HD.out b7)
                replace R2 := Aside0.mk (Kd.R_below R2.out b7)
                refine wpAnyH_ready (rs := [8]) (by kernel_rfl) (by simp) ?_
                refine AllReadyH.cons (o := { dst := none, op := Op.store 31 (Operand.tmp 9) (Operand.tmp 52), type := 0, pos := "l20_draw.go:398", after := #[{ on := 7, ground := Ground.data }, { on := 5, ground := Ground.data }, { on := 3, ground := Ground.chain }, { on := 0, ground := Ground.phase }, { on := 1, ground := Ground.phase }, { on := 2, ground := Ground.phase }, { on := 3, ground := Ground.phase }, { on := 4, ground := Ground.phase }, { on := 5, ground := Ground.phase }, { on := 6, ground := Ground.textOnly Departure.lateStores }, { on := 7, ground := Ground.phase }], guard := none }) rfl (fun K hK => ?k277) AllReadyH.nil
                case k277 =>
                  obtain ⟨v0_, v1_, v2_, v3_, v4_, v5_, v6_, v7_⟩ := cells8 FX.out
                  obtain ⟨u0_, u1_, u2_, u3_, u4_, u5_, u6_, u7_⟩ := froz8 FX.out
                  go_simp
                  generalize hV8 : World.setCell (World.setCell (World.setCell (World.setCell (World.setCell (World.setCell (World.setCell (World.setCell V7 ⟨gx, 0, none⟩ _) ⟨gx, 1, none⟩ _) ⟨gx, 2, none⟩ _) ⟨gx, 3, none⟩ _) ⟨gx, 4, none⟩ _) ⟨gx, 5, none⟩ _) ⟨gx, 6, none⟩ _) ⟨gx, 7, none⟩ _ = V8
                  have G8 : V7.grownBy V8 (some gx) := by rw [← hV8]; exact (((((((grown_set1 _ _ _ _).trans (grown_set1 _ _ _ _)).trans (grown_set1 _ _ _ _)).trans (grown_set1 _ _ _ _)).trans (grown_set1 _ _ _ _)).trans (grown_set1 _ _ _ _)).trans (grown_set1 _ _ _ _)).trans (grown_set1 _ _ _ _)
                  have FXN : V8.heap[gx]? = some (.cells #[.string c.f0, .string c.f1.f0.f0, .string c.f1.f0.f1, .slice B0 c.f1.f1.length d0, .slice B1 c.f1.f2.length d1, .int .i64 st1, .int .i64 at1, .slice P c.f4.length e2] 31 (0, 0)) := by rw [← hV8, blk_set1 (blk_set1 (blk_set1 (blk_set1 (blk_set1 (blk_set1 (blk_set1 (blk_set1 (FX.out) 0 _) 1 _) 2 _) 3 _) 4 _) 5 _) 6 _) 7 _]; simp
                  clear hV8
                  have F1N := (G8.block _ (blk_lt F1.out) (fun e => by have e := Option.some.inj e; omega)).trans F1.out
                  have F0N := (G8.block _ (blk_lt F0.out) (fun e => by have e := Option.some.inj e; omega)).trans F0.out
                  refine hK.out _ _ ?h278 (fun hHeld => ?j278)
                  case h278 => exact cells8 F1N
                  clear hK K
                  try simp only [Act.put, List.setIfInBounds_toArray, List.set_cons_zero, List.set_cons_succ]
                  replace U0 := Aside0.mk (R_else U0.out rfl G8 (Kd.R_ne U0.out FX.out (by decide)))
                  replace U1 := Aside0.mk (R_else U1.out rfl G8 (Kd.R_ne U1.out FX.out (by decide)))
                  replace R2 := Aside0.mk (R_else R2.out rfl G8 (Kd.R_ne R2.out FX.out (by decide)))
                  replace HR := Aside0.mk (Rd.grown HR.out G8 (fun q e => by have e := Option.some.inj e; omega))
                  replace HD := Aside0.mk (Dr.grown HD.out G8 (fun q e => .inl (by have e := Option.some.inj e; omega)))
                  replace F0 := Aside0.mk F0N
                  replace F1 := Aside0.mk F1N
                  replace FX := Aside0.mk FXN
                  clear F0N F1N FXN U2
                  refine wpAnyH_take (i := 9) (oi := { dst := some 10, op := Op.assign (Operand.tmp 53), type := 9, pos := "l20_draw.go:398", after := #[{ on := 6, ground := Ground.data }, { on := 8, ground := Ground.chain }, { on := 0, ground := Ground.phase }, { on := 1, ground := Ground.phase }, { on := 2, ground := Ground.phase }, { on := 3, ground := Ground.phase }, { on := 4, ground := Ground.phase }, { on := 5, ground := Ground.phase }, { on := 6, ground := Ground.phase }, { on := 7, ground := Ground.phase }, { on := 8, ground := Ground.phase }], guard := none }) (v := ?v279) rfl (by kernel_rfl) (by kernel_rfl) (by kernel_rfl) (fun _ _ _ h => h) (Or.inl ⟨by rfl, ?y279⟩) (by assumption) ?r279
                  case y279 => intro w_ hSw; (try dsimp only at hSw); go_simp; (try (with_reducible rfl))
                  try simp only [Act.put, List.setIfInBounds_toArray, List.set_cons_zero, List.set_cons_succ]
                  refine wpAnyH_done (by kernel_rfl) ?_ _
                  exact HKK.out an tx st1 at1 outs1 P e2 gx V8 ⟨F0.out, F1.out, FX.out, U0.out, U1.out, R2.out, HR.out.up (by omega), HD.out, HG1.out, HL1.out, (by omega), (by omega)⟩
            case k270 =>
              go_simp
              refine hK.out _ _ ?h280 (fun hHeld => ?j280)
              case h280 => exact HK.out _ _ (bel_alloc (Below.refl _ _) _) hHeld
              clear hK K
              try simp only [Act.put, List.setIfInBounds_toArray, List.set_cons_zero, List.set_cons_succ]
              generalize hV7 : World.alloc V2 _ = V7 at hHeld ⊢
              have b7 : Below V2.heap.size V2 V7 := by rw [← hV7]; exact bel_alloc (Below.refl _ _) _
              have FX := Aside0.mk (by rw [← hV7]; exact blk_new _ _ : V7.heap[V2.heap.size]? = some (.cells #[.string ⟨#[]⟩, .string ⟨#[]⟩, .string ⟨#[]⟩, .slice none 0 0, .slice none 0 0, .int .i64 0, .int .i64 0, .slice none 0 0] 31 (0, 0)))
              have lo7 := blk_lt F1.out
              have lp7 := blk_lt F0.out
              obtain ⟨gx, hg7⟩ : ∃ g, g = V2.heap.size := ⟨_, rfl⟩
              have lgx : bc < gx := by omega
              have lgw : w.heap.size < gx := by omega
              rw [← hg7] at FX ⊢
              clear hV7 hg7 lo7 lp7
              replace F0 := Aside0.mk (below_blk F0.out b7)
              replace F1 := Aside0.mk (below_blk F1.out b7)
              replace U0 := Aside0.mk (Kd.R_below U0.out b7)
              replace U1 := Aside0.mk (Kd.R_below U1.out b7)
              replace U2 := Aside0.mk (Kd.R_below U2.out b7)
              replace HR := Aside0.mk (Rd.below HR.out b7)
              replace HD := Aside0.mk (Dr.below HD.out b7)
              refine wpAnyH_ready (rs := [3]) (by kernel_rfl) (by simp) ?_
              refine AllReadyH.cons (o := { dst := some 51, op := Op.call { callee := Callee.value (Operand.func 63), args := #[Operand.tmp 48, Operand.tmp 50], argTypes := #[31, 9] }, type := 52, pos := "l20_draw.go:398", after := #[{ on := 0, ground := Ground.data }, { on := 2, ground := Ground.data }, { on := 2, ground := Ground.chain }], guard := none }) rfl (fun K hK => ?k281) AllReadyH.nil
              case k281 =>
                go_simp
                have hst := specStep_any c.f0 c.f1 c.f2 c.f3 c.f4 B0 d0 B1 d1 B2 d2 an (codeOf an) w.heap.size V7 (fitM_of HGC.out.2.1) (by have := HGC.out.1; omega) HGC.out.2.2.2.1.1 HGC.out.2.2.2.1.2 (by have h1 := HGC.out.2.2.2.2.2.1; have h2 := HGC.out.2.1.2.1.2.1; omega) HD.out.size HGC.out.2.2.1.1 HGC.out.2.2.1.2 HGC.out.2.2.2.2.1 HGC.out.2.2.2.2.2.1 (fun W => specCode_any an W (by omega)) (Kd.R_reads' U0.out).2.2 (Kd.R_reads' U1.out).2.2 U2.out
                have hgn : goodC (stepC ⟨c.f0, c.f1, c.f2, c.f3, c.f4⟩ (codeOf an)).1 := goodC_step HGC.out (codeOf an)
                have hrs := stepC_rest ⟨c.f0, c.f1, c.f2, c.f3, c.f4⟩ (codeOf an)
                generalize stepC ⟨c.f0, c.f1, c.f2, c.f3, c.f4⟩ (codeOf an) = SS at hst hgn hrs
                obtain ⟨⟨n0, n1, st1, at1, outs1⟩, tx⟩ := SS
                obtain ⟨h0_, h1_, h4_⟩ := hrs
                obtain rfl : n0 = c.f0 := h0_
                obtain rfl : n1 = c.f1 := h1_
                have HG1 := Aside0.mk hgn
                have HL1 := Lib.hid (show outs1.length = c.f4.length from h4_)
                clear hgn h4_
                refine Calls.mono hst ?_
                clear hst
                rintro e V3 ⟨P, e2, rfl, r2, b3⟩
                refine hK.out _ _ ?h282 (fun hHeld => ?j282)
                case h282 => exact HK.out _ _ b3 hHeld
                clear hK K
                try simp only [Act.put, List.setIfInBounds_toArray, List.set_cons_zero, List.set_cons_succ]
                have R2 := Aside0.mk r2
                clear r2
                replace F0 := Aside0.mk (below_blk F0.out b3)
                replace F1 := Aside0.mk (below_blk F1.out b3)
                replace U0 := Aside0.mk (Kd.R_below U0.out b3)
                replace U1 := Aside0.mk (Kd.R_below U1.out b3)
                replace U2 := Aside0.mk (Kd.R_below U2.out b3)
                replace HR := Aside0.mk (Rd.below HR.out b3)
                replace HD := Aside0.mk (Dr.below HD.out b3)
                replace FX := Aside0.mk (below_blk FX.out b3)
                refine wpAnyH_take (i := 4) (oi := { dst := some 47, op := Op.move (Operand.tmp 51), type := 52, pos := "l20_draw.go:398", after := #[{ on := 3, ground := Ground.data }], guard := none }) (v := ?v283) rfl (by kernel_rfl) (by kernel_rfl) (by kernel_rfl) (fun _ _ _ h => h) (Or.inl ⟨by rfl, ?y283⟩) (by assumption) ?r283
                case y283 => intro w_ hSw; (try dsimp only at hSw); go_simp; (try (with_reducible rfl))
                try simp only [Act.put, List.setIfInBounds_toArray, List.set_cons_zero, List.set_cons_succ]
                refine wpAnyH_take (i := 5) (oi := { dst := some 52, op := Op.extract (Operand.tmp 47) 0, type := 31, pos := "l20_draw.go:398", after := #[{ on := 4, ground := Ground.data }], guard := none }) (v := ?v284) rfl (by kernel_rfl) (by kernel_rfl) (by kernel_rfl) (fun _ _ _ h => h) (Or.inl ⟨by rfl, ?y284⟩) (by assumption) ?r284
                case y284 => intro w_ hSw; (try dsimp only at hSw); go_simp; (try (with_reducible rfl))
                try simp only [Act.put, List.setIfInBounds_toArray, List.set_cons_zero, List.set_cons_succ]
                refine wpAnyH_take (i := 6) (oi := { dst := some 53, op := Op.extract (Operand.tmp 47) 1, type := 9, pos := "l20_draw.go:398", after := #[{ on := 4, ground := Ground.data }, { on := 8, ground := Ground.gcOnly Departure.lateStores }], guard := none }) (v := ?v285) rfl (by kernel_rfl) (by kernel_rfl) (by kernel_rfl) (fun _ _ _ h => h) (Or.inl ⟨by rfl, ?y285⟩) (by assumption) ?r285
                case y285 => intro w_ hSw; (try dsimp only at hSw); go_simp; (try (with_reducible rfl))
                try simp only [Act.put, List.setIfInBounds_toArray, List.set_cons_zero, List.set_cons_succ]
                refine wpAnyH_ready (rs := [8]) (by kernel_rfl) (by simp) ?_
                refine AllReadyH.cons (o := { dst := none, op := Op.store 31 (Operand.tmp 9) (Operand.tmp 52), type := 0, pos := "l20_draw.go:398", after := #[{ on := 7, ground := Ground.data }, { on := 5, ground := Ground.data }, { on := 3, ground := Ground.chain }, { on := 0, ground := Ground.phase }, { on := 1, ground := Ground.phase }, { on := 2, ground := Ground.phase }, { on := 3, ground := Ground.phase }, { on := 4, ground := Ground.phase }, { on := 5, ground := Ground.phase }, { on := 6, ground := Ground.textOnly Departure.lateStores }, { on := 7, ground := Ground.phase }], guard := none }) rfl (fun K hK => ?k286) AllReadyH.nil
                case k286 =>
                  obtain ⟨v0_, v1_, v2_, v3_, v4_, v5_, v6_, v7_⟩ := cells8 FX.out
                  obtain ⟨u0_, u1_, u2_, u3_, u4_, u5_, u6_, u7_⟩ := froz8 FX.out
                  go_simp
                  generalize hV8 : World.setCell (World.setCell (World.setCell (World.setCell (World.setCell (World.setCell (World.setCell (World.setCell V3 ⟨gx, 0, none⟩ _) ⟨gx, 1, none⟩ _) ⟨gx, 2, none⟩ _) ⟨gx, 3, none⟩ _) ⟨gx, 4, none⟩ _) ⟨gx, 5, none⟩ _) ⟨gx, 6, none⟩ _) ⟨gx, 7, none⟩ _ = V8
                  have G8 : V3.grownBy V8 (some gx) := by rw [← hV8]; exact (((((((grown_set1 _ _ _ _).trans (grown_set1 _ _ _ _)).trans (grown_set1 _ _ _ _)).trans (grown_set1 _ _ _ _)).trans (grown_set1 _ _ _ _)).trans (grown_set1 _ _ _ _)).trans (grown_set1 _ _ _ _)).trans (grown_set1 _ _ _ _)
                  have FXN : V8.heap[gx]? = some (.cells #[.string c.f0, .string c.f1.f0.f0, .string c.f1.f0.f1, .slice B0 c.f1.f1.length d0, .slice B1 c.f1.f2.length d1, .int .i64 st1, .int .i64 at1, .slice P c.f4.length e2] 31 (0, 0)) := by rw [← hV8, blk_set1 (blk_set1 (blk_set1 (blk_set1 (blk_set1 (blk_set1 (blk_set1 (blk_set1 (FX.out) 0 _) 1 _) 2 _) 3 _) 4 _) 5 _) 6 _) 7 _]; simp
                  clear hV8
                  have F1N := (G8.block _ (blk_lt F1.out) (fun e => by have e := Option.some.inj e; omega)).trans F1.out
                  have F0N := (G8.block _ (blk_lt F0.out) (fun e => by have e := Option.some.inj e; omega)).trans F0.out
                  refine hK.out _ _ ?h287 (fun hHeld => ?j287)
                  case h287 => exact cells8 F1N
                  clear hK K
                  try simp only [Act.put, List.setIfInBounds_toArray, List.set_cons_zero, List.set_cons_succ]
                  replace U0 := Aside0.mk (R_else U0.out rfl G8 (Kd.R_ne U0.out FX.out (by decide)))
                  replace U1 := Aside0.mk (R_else U1.out rfl G8 (Kd.R_ne U1.out FX.out (by decide)))
                  replace R2 := Aside0.mk (R_else R2.out rfl G8 (Kd.R_ne R2.out FX.out (by decide)))
                  replace HR := Aside0.mk (Rd.grown HR.out G8 (fun q e => by have e := Option.some.inj e; omega))
                  replace HD := Aside0.mk (Dr.grown HD.out G8 (fun q e => .inl (by have e := Option.some.inj e; omega)))
                  replace F0 := Aside0.mk F0N
                  replace F1 := Aside0.mk F1N
                  replace FX := Aside0.mk FXN
                  clear F0N F1N FXN U2
                  refine wpAnyH_take (i := 9) (oi := { dst := some 10, op := Op.assign (Operand.tmp 53), type := 9, pos := "l20_draw.go:398", after := #[{ on := 6, ground := Ground.data }, { on := 8, ground := Ground.chain }, { on := 0, ground := Ground.phase }, { on := 1, ground := Ground.phase }, { on := 2, ground := Ground.phase }, { on := 3, ground := Ground.phase }, { on := 4, ground := Ground.phase }, { on := 5, ground := Ground.phase }, { on := 6, ground := Ground.phase }, { on := 7, ground := Ground.phase }, { on := 8, ground := Ground.phase }], guard := none }) (v := ?v288) rfl (by kernel_rfl) (by kernel_rfl) (by kernel_rfl) (fun _ _ _ h => h) (Or.inl ⟨by rfl, ?y288⟩) (by assumption) ?r288
                  case y288 => intro w_ hSw; (try dsimp only at hSw); go_simp; (try (with_reducible rfl))
                  try simp only [Act.put, List.setIfInBounds_toArray, List.set_cons_zero, List.set_cons_succ]
                  refine wpAnyH_done (by kernel_rfl) ?_ _
                  exact HKK.out an tx st1 at1 outs1 P e2 gx V8 ⟨F0.out, F1.out, FX.out, U0.out, U1.out, R2.out, HR.out.up (by omega), HD.out, HG1.out, HL1.out, (by omega), (by omega)⟩
          case k267 =>
            go_simp
            refine hK.out _ _ ?h289 (fun hHeld => ?j289)
            case h289 => exact HK.out _ _ (bel_alloc (Below.refl _ _) _) hHeld
            clear hK K
            try simp only [Act.put, List.setIfInBounds_toArray, List.set_cons_zero, List.set_cons_succ]
            generalize hV7 : World.alloc V0 _ = V7 at hHeld ⊢
            have b7 : Below V0.heap.size V0 V7 := by rw [← hV7]; exact bel_alloc (Below.refl _ _) _
            have FX := Aside0.mk (by rw [← hV7]; exact blk_new _ _ : V7.heap[V0.heap.size]? = some (.cells #[.string ⟨#[]⟩, .string ⟨#[]⟩, .string ⟨#[]⟩, .slice none 0 0, .slice none 0 0, .int .i64 0, .int .i64 0, .slice none 0 0] 31 (0, 0)))
            have lo7 := blk_lt F1.out
            have lp7 := blk_lt F0.out
            obtain ⟨gx, hg7⟩ : ∃ g, g = V0.heap.size := ⟨_, rfl⟩
            have lgx : bc < gx := by omega
            have lgw : w.heap.size < gx := by omega
            rw [← hg7] at FX ⊢
            clear hV7 hg7 lo7 lp7
            replace F0 := Aside0.mk (below_blk F0.out b7)
            replace F1 := Aside0.mk (below_blk F1.out b7)
            replace U0 := Aside0.mk (Kd.R_below U0.out b7)
            replace U1 := Aside0.mk (Kd.R_below U1.out b7)
            replace U2 := Aside0.mk (Kd.R_below U2.out b7)
            replace HR := Aside0.mk (Rd.below HR.out b7)
            replace HD := Aside0.mk (Dr.below HD.out b7)
            refine wpAnyH_ready (rs := [2]) (by kernel_rfl) (by simp) ?_
            refine AllReadyH.cons (o := { dst := some 50, op := Op.call { callee := Callee.value (Operand.func 59), args := #[Operand.tmp 49], argTypes := #[67] }, type := 9, pos := "l20_draw.go:398", after := #[{ on := 1, ground := Ground.data }], guard := none }) rfl (fun K hK => ?k290) AllReadyH.nil
            case k290 =>
              go_simp
              refine Calls.mono (drAnswer_any g _ _ HR.out (by omega)) ?_
              rintro e V2 ⟨an, rfl, han, hr_, bd⟩
              refine hK.out _ _ ?h291 (fun hHeld => ?j291)
              case h291 => exact HKd.out _ _ bd hHeld
              clear hK K
              try simp only [Act.put, List.setIfInBounds_toArray, List.set_cons_zero, List.set_cons_succ]
              replace F0 := Aside0.mk (bd.blk F0.out (by omega))
              replace F1 := Aside0.mk (bd.blk F1.out (by omega))
              replace U0 := Aside0.mk (bd.R U0.out hgl)
              replace U1 := Aside0.mk (bd.R U1.out hgl)
              replace U2 := Aside0.mk (bd.R U2.out hgl)
              replace FX := Aside0.mk (bd.blk FX.out (by omega))
              replace HR := Aside0.mk hr_
              replace HD := Aside0.mk (HD.out.then_ bd)
              clear hr_ bd
              refine wpAnyH_ready (rs := [3]) (by kernel_rfl) (by simp) ?_
              refine AllReadyH.cons (o := { dst := some 51, op := Op.call { callee := Callee.value (Operand.func 63), args := #[Operand.tmp 48, Operand.tmp 50], argTypes := #[31, 9] }, type := 52, pos := "l20_draw.go:398", after := #[{ on := 0, ground := Ground.data }, { on := 2, ground := Ground.data }, { on := 2, ground := Ground.chain }], guard := none }) rfl (fun K hK => ?k292) AllReadyH.nil
              case k292 =>
                go_simp
                have hst := specStep_any c.f0 c.f1 c.f2 c.f3 c.f4 B0 d0 B1 d1 B2 d2 an (codeOf an) w.heap.size V2 (fitM_of HGC.out.2.1) (by have := HGC.out.1; omega) HGC.out.2.2.2.1.1 HGC.out.2.2.2.1.2 (by have h1 := HGC.out.2.2.2.2.2.1; have h2 := HGC.out.2.1.2.1.2.1; omega) HD.out.size HGC.out.2.2.1.1 HGC.out.2.2.1.2 HGC.out.2.2.2.2.1 HGC.out.2.2.2.2.2.1 (fun W => specCode_any an W (by omega)) (Kd.R_reads' U0.out).2.2 (Kd.R_reads' U1.out).2.2 U2.out
                have hgn : goodC (stepC ⟨c.f0, c.f1, c.f2, c.f3, c.f4⟩ (codeOf an)).1 := goodC_step HGC.out (codeOf an)
                have hrs := stepC_rest ⟨c.f0, c.f1, c.f2, c.f3, c.f4⟩ (codeOf an)
                generalize stepC ⟨c.f0, c.f1, c.f2, c.f3, c.f4⟩ (codeOf an) = SS at hst hgn hrs
                obtain ⟨⟨n0, n1, st1, at1, outs1⟩, tx⟩ := SS
                obtain ⟨h0_, h1_, h4_⟩ := hrs
                obtain rfl : n0 = c.f0 := h0_
                obtain rfl : n1 = c.f1 := h1_
                have HG1 := Aside0.mk hgn
                have HL1 := Lib.hid (show outs1.length = c.f4.length from h4_)
                clear hgn h4_
                refine Calls.mono hst ?_
                clear hst
                rintro e V3 ⟨P, e2, rfl, r2, b3⟩
                refine hK.out _ _ ?h293 (fun hHeld => ?j293)
                case h293 => exact HK.out _ _ b3 hHeld
                clear hK K
                try simp only [Act.put, List.setIfInBounds_toArray, List.set_cons_zero, List.set_cons_succ]
                have R2 := Aside0.mk r2
                clear r2
                replace F0 := Aside0.mk (below_blk F0.out b3)
                replace F1 := Aside0.mk (below_blk F1.out b3)
                replace U0 := Aside0.mk (Kd.R_below U0.out b3)
                replace U1 := Aside0.mk (Kd.R_below U1.out b3)
                replace U2 := Aside0.mk (Kd.R_below U2.out b3)
                replace HR := Aside0.mk (Rd.below HR.out b3)
                replace HD := Aside0.mk (Dr.below HD.out b3)
                replace FX := Aside0.mk (below_blk FX.out b3)
                refine wpAnyH_take (i := 4) (oi := { dst := some 47, op := Op.move (Operand.tmp 51), type := 52, pos := "l20_draw.go:398", after := #[{ on := 3, ground := Ground.data }], guard := none }) (v := ?v294) rfl (by kernel_rfl) (by kernel_rfl) (by kernel_rfl) (fun _ _ _ h => h) (Or.inl ⟨by rfl, ?y294⟩) (by assumption) ?r294
                case y294 => intro w_ hSw; (try dsimp only at hSw); go_simp; (try (with_reducible rfl))
                try simp only [Act.put, List.setIfInBounds_toArray, List.set_cons_zero, List.set_cons_succ]
                refine wpAnyH_take (i := 5) (oi := { dst := some 52, op := Op.extract (Operand.tmp 47) 0, type := 31, pos := "l20_draw.go:398", after := #[{ on := 4, ground := Ground.data }], guard := none }) (v := ?v295) rfl (by kernel_rfl) (by kernel_rfl) (by kernel_rfl) (fun _ _ _ h => h) (Or.inl ⟨by rfl, ?y295⟩) (by assumption) ?r295
                case y295 => intro w_ hSw; (try dsimp only at hSw); go_simp; (try (with_reducible rfl))
                try simp only [Act.put, List.setIfInBounds_toArray, List.set_cons_zero, List.set_cons_succ]
                refine wpAnyH_take (i := 6) (oi := { dst := some 53, op := Op.extract (Operand.tmp 47) 1, type := 9, pos := "l20_draw.go:398", after := #[{ on := 4, ground := Ground.data }, { on := 8, ground := Ground.gcOnly Departure.lateStores }], guard := none }) (v := ?v296) rfl (by kernel_rfl) (by kernel_rfl) (by kernel_rfl) (fun _ _ _ h => h) (Or.inl ⟨by rfl, ?y296⟩) (by assumption) ?r296
                case y296 => intro w_ hSw; (try dsimp only at hSw); go_simp; (try (with_reducible rfl))
                try simp only [Act.put, List.setIfInBounds_toArray, List.set_cons_zero, List.set_cons_succ]
                refine wpAnyH_ready (rs := [8]) (by kernel_rfl) (by simp) ?_
                refine AllReadyH.cons (o := { dst := none, op := Op.store 31 (Operand.tmp 9) (Operand.tmp 52), type := 0, pos := "l20_draw.go:398", after := #[{ on := 7, ground := Ground.data }, { on := 5, ground := Ground.data }, { on := 3, ground := Ground.chain }, { on := 0, ground := Ground.phase }, { on := 1, ground := Ground.phase }, { on := 2, ground := Ground.phase }, { on := 3, ground := Ground.phase }, { on := 4, ground := Ground.phase }, { on := 5, ground := Ground.phase }, { on := 6, ground := Ground.textOnly Departure.lateStores }, { on := 7, ground := Ground.phase }], guard := none }) rfl (fun K hK => ?k297) AllReadyH.nil
                case k297 =>
                  obtain ⟨v0_, v1_, v2_, v3_, v4_, v5_, v6_, v7_⟩ := cells8 FX.out
                  obtain ⟨u0_, u1_, u2_, u3_, u4_, u5_, u6_, u7_⟩ := froz8 FX.out
                  go_simp
                  generalize hV8 : World.setCell (World.setCell (World.setCell (World.setCell (World.setCell (World.setCell (World.setCell (World.setCell V3 ⟨gx, 0, none⟩ _) ⟨gx, 1, none⟩ _) ⟨gx, 2, none⟩ _) ⟨gx, 3, none⟩ _) ⟨gx, 4, none⟩ _) ⟨gx, 5, none⟩ _) ⟨gx, 6, none⟩ _) ⟨gx, 7, none⟩ _ = V8
                  have G8 : V3.grownBy V8 (some gx) := by rw [← hV8]; exact (((((((grown_set1 _ _ _ _).trans (grown_set1 _ _ _ _)).trans (grown_set1 _ _ _ _)).trans (grown_set1 _ _ _ _)).trans (grown_set1 _ _ _ _)).trans (grown_set1 _ _ _ _)).trans (grown_set1 _ _ _ _)).trans (grown_set1 _ _ _ _)
                  have FXN : V8.heap[gx]? = some (.cells #[.string c.f0, .string c.f1.f0.f0, .string c.f1.f0.f1, .slice B0 c.f1.f1.length d0, .slice B1 c.f1.f2.length d1, .int .i64 st1, .int .i64 at1, .slice P c.f4.length e2] 31 (0, 0)) := by rw [← hV8, blk_set1 (blk_set1 (blk_set1 (blk_set1 (blk_set1 (blk_set1 (blk_set1 (blk_set1 (FX.out) 0 _) 1 _) 2 _) 3 _) 4 _) 5 _) 6 _) 7 _]; simp
                  clear hV8
                  have F1N := (G8.block _ (blk_lt F1.out) (fun e => by have e := Option.some.inj e; omega)).trans F1.out
                  have F0N := (G8.block _ (blk_lt F0.out) (fun e => by have e := Option.some.inj e; omega)).trans F0.out
                  refine hK.out _ _ ?h298 (fun hHeld => ?j298)
                  case h298 => exact cells8 F1N
                  clear hK K
                  try simp only [Act.put, List.setIfInBounds_toArray, List.set_cons_zero, List.set_cons_succ]
                  replace U0 := Aside0.mk (R_else U0.out rfl G8 (Kd.R_ne U0.out FX.out (by decide)))
                  replace U1 := Aside0.mk (R_else U1.out rfl G8 (Kd.R_ne U1.out FX.out (by decide)))
                  replace R2 := Aside0.mk (R_else R2.out rfl G8 (Kd.R_ne R2.out FX.out (by decide)))
                  replace HR := Aside0.mk (Rd.grown HR.out G8 (fun q e => by have e := Option.some.inj e; omega))
                  replace HD := Aside0.mk (Dr.grown HD.out G8 (fun q e => .inl (by have e := Option.some.inj e; omega)))
                  replace F0 := Aside0.mk F0N
                  replace F1 := Aside0.mk F1N
                  replace FX := Aside0.mk FXN
                  clear F0N F1N FXN U2
                  refine wpAnyH_take (i := 9) (oi := { dst := some 10, op := Op.assign (Operand.tmp 53), type := 9, pos := "l20_draw.go:398", after := #[{ on := 6, ground := Ground.data }, { on := 8, ground := Ground.chain }, { on := 0, ground := Ground.phase }, { on := 1, ground := Ground.phase }, { on := 2, ground := Ground.phase }, { on := 3, ground := Ground.phase }, { on := 4, ground := Ground.phase }, { on := 5, ground := Ground.phase }, { on := 6, ground := Ground.phase }, { on := 7, ground := Ground.phase }, { on := 8, ground := Ground.phase }], guard := none }) (v := ?v299) rfl (by kernel_rfl) (by kernel_rfl) (by kernel_rfl) (fun _ _ _ h => h) (Or.inl ⟨by rfl, ?y299⟩) (by assumption) ?r299
                  case y299 => intro w_ hSw; (try dsimp only at hSw); go_simp; (try (with_reducible rfl))
                  try simp only [Act.put, List.setIfInBounds_toArray, List.set_cons_zero, List.set_cons_succ]
                  refine wpAnyH_done (by kernel_rfl) ?_ _
                  exact HKK.out an tx st1 at1 outs1 P e2 gx V8 ⟨F0.out, F1.out, FX.out, U0.out, U1.out, R2.out, HR.out.up (by omega), HD.out, HG1.out, HL1.out, (by omega), (by omega)⟩
        case hk =>
          intro an tx st1 at1 outs1 P e2 gx V ⟨f0, f1, fx, u0, u1, u2, hr, hd, hg1, hl1, hne, hlw⟩
          clear HST HK HKd join F0 F1 U0 U1 U2 HR HD
          have FX := Aside0.mk fx
          have F1 := Aside0.mk f1
          obtain ⟨cFX_0, cFX_1, cFX_2, cFX_3, cFX_4, cFX_5, cFX_6, cFX_7⟩ := cells8 FX.out
          obtain ⟨cF1_0, cF1_1, cF1_2, cF1_3, cF1_4, cF1_5, cF1_6, cF1_7⟩ := cells8 F1.out
          obtain ⟨dF1_0, dF1_1, dF1_2, dF1_3, dF1_4, dF1_5, dF1_6, dF1_7⟩ := froz8 F1.out
          have u0n := Kd.R_ne u0 f1 (by decide)
          have u1n := Kd.R_ne u1 f1 (by decide)
          have u2n := Kd.R_ne u2 f1 (by decide)
          have Z := Lib.hid (⟨f0, f1, u0, u1, u2, hr, hd, u0n, u1n, u2n⟩ : _ ∧ _ ∧ _ ∧ _ ∧ _ ∧ _ ∧ _ ∧ _ ∧ _ ∧ _)
          have HG1 := Aside0.mk hg1
          have HL1 := Lib.hid hl1
          clear f0 f1 fx u0 u1 u2 hr hd u0n u1n u2n hg1 hl1
          go_wp2
          go_roundg (k - 1)
          case measure => omega
          case rel => exact ⟨k - 1, ⟨c.f0, c.f1, st1, at1, outs1⟩, P, e2, Nat.le_refl _, by omega, congrArg (Value.int .i64) (by omega), HG1, ⟨⟨blk_far (blk_far (blk_far (blk_far (blk_far (blk_far (blk_far (blk_far (Z.out.1) (by show w.heap.size ≠ bc; omega) _) (by show w.heap.size ≠ bc; omega) _) (by show w.heap.size ≠ bc; omega) _) (by show w.heap.size ≠ bc; omega) _) (by show w.heap.size ≠ bc; omega) _) (by show w.heap.size ≠ bc; omega) _) (by show w.heap.size ≠ bc; omega) _) (by show w.heap.size ≠ bc; omega) _, (blk_set1 (blk_set1 (blk_set1 (blk_set1 (blk_set1 (blk_set1 (blk_set1 (blk_set1 (Z.out.2.1) 0 _) 1 _) 2 _) 3 _) 4 _) 5 _) 6 _) 7 _).trans (by first | (simp; done) | (simp; exact HL1.out.symm)), R_put1 (R_put1 (R_put1 (R_put1 (R_put1 (R_put1 (R_put1 (R_put1 (Z.out.2.2.1) rfl Z.out.2.2.2.2.2.2.2.1) rfl Z.out.2.2.2.2.2.2.2.1) rfl Z.out.2.2.2.2.2.2.2.1) rfl Z.out.2.2.2.2.2.2.2.1) rfl Z.out.2.2.2.2.2.2.2.1) rfl Z.out.2.2.2.2.2.2.2.1) rfl Z.out.2.2.2.2.2.2.2.1) rfl Z.out.2.2.2.2.2.2.2.1, R_put1 (R_put1 (R_put1 (R_put1 (R_put1 (R_put1 (R_put1 (R_put1 (Z.out.2.2.2.1) rfl Z.out.2.2.2.2.2.2.2.2.1) rfl Z.out.2.2.2.2.2.2.2.2.1) rfl Z.out.2.2.2.2.2.2.2.2.1) rfl Z.out.2.2.2.2.2.2.2.2.1) rfl Z.out.2.2.2.2.2.2.2.2.1) rfl Z.out.2.2.2.2.2.2.2.2.1) rfl Z.out.2.2.2.2.2.2.2.2.1) rfl Z.out.2.2.2.2.2.2.2.2.1, (by rw [HL1.out]; exact R_put1 (R_put1 (R_put1 (R_put1 (R_put1 (R_put1 (R_put1 (R_put1 (Z.out.2.2.2.2.1) rfl Z.out.2.2.2.2.2.2.2.2.2) rfl Z.out.2.2.2.2.2.2.2.2.2) rfl Z.out.2.2.2.2.2.2.2.2.2) rfl Z.out.2.2.2.2.2.2.2.2.2) rfl Z.out.2.2.2.2.2.2.2.2.2) rfl Z.out.2.2.2.2.2.2.2.2.2) rfl Z.out.2.2.2.2.2.2.2.2.2) rfl Z.out.2.2.2.2.2.2.2.2.2), (Rd.set (Rd.set (Rd.set (Rd.set (Rd.set (Rd.set (Rd.set (Rd.set (Z.out.2.2.2.2.2.1) _ (by show g < bc; omega)) _ (by show g < bc; omega)) _ (by show g < bc; omega)) _ (by show g < bc; omega)) _ (by show g < bc; omega)) _ (by show g < bc; omega)) _ (by show g < bc; omega)) _ (by show g < bc; omega)).up (by omega), Dr.set (Dr.set (Dr.set (Dr.set (Dr.set (Dr.set (Dr.set (Dr.set (Z.out.2.2.2.2.2.2.1) _ (.inl (by show w.heap.size ≤ bc; omega))) _ (.inl (by show w.heap.size ≤ bc; omega))) _ (.inl (by show w.heap.size ≤ bc; omega))) _ (.inl (by show w.heap.size ≤ bc; omega))) _ (.inl (by show w.heap.size ≤ bc; omega))) _ (.inl (by show w.heap.size ≤ bc; omega))) _ (.inl (by show w.heap.size ≤ bc; omega))) _ (.inl (by show w.heap.size ≤ bc; omega))⟩⟩⟩
      · have hlt' : ¬ (0 : Int) < (k : Int) := by omega
        obtain ⟨cF0_0, cF0_1, cF0_2, cF0_3, cF0_4, cF0_5, cF0_6, cF0_7⟩ := cells8 F0.out
        obtain ⟨dF0_0, dF0_1, dF0_2, dF0_3, dF0_4, dF0_5, dF0_6, dF0_7⟩ := froz8 F0.out
        obtain ⟨cF1_0, cF1_1, cF1_2, cF1_3, cF1_4, cF1_5, cF1_6, cF1_7⟩ := cells8 F1.out
        go_wp2
        refine bodyPost_ret (v := .agg #[.string c.f0, .string c.f1.f0.f0, .string c.f1.f0.f1, .slice B0 c.f1.f1.length d0, .slice B1 c.f1.f2.length d1, .int .i64 c.f2, .int .i64 c.f3, .slice B2 c.f4.length d2]) ?hrA rfl ?hpA
        case hrA => simp [results, Tryz.results75, go_sem, cF0_0, cF0_1, cF0_2, cF0_3, cF0_4, cF0_5, cF0_6, cF0_7]
        case hpA => exact ⟨c, B0, d0, B1, d1, B2, d2, rfl, HGC.out, (by (with_reducible repeat (first | exact U0.out | refine R_put1 ?_ rfl (Kd.R_ne U0.out F0.out (by decide))))), (by (with_reducible repeat (first | exact U1.out | refine R_put1 ?_ rfl (Kd.R_ne U1.out F0.out (by decide))))), (by (with_reducible repeat (first | exact U2.out | refine R_put1 ?_ rfl (Kd.R_ne U2.out F0.out (by decide))))), (Rd.at HR.out (by (with_reducible repeat (first | exact Keep.refl (Rd.lt HR.out) | refine Keep.alloc ?_ _ | refine Keep.drewN ?_ _ | refine Keep.drew ?_ | refine Keep.set ?_ _ ?_)); all_goals (first | (simp; done) | (simp; omega) | omega))).up (by omega), by (with_reducible repeat (first | exact HD.out | refine Dr.alloc ?_ _ | refine Dr.drewN ?_ _ | refine Dr.drew ?_ | refine Dr.set ?_ _ ?_)); all_goals (first | (left; simp; done) | (left; simp; omega) | (left; omega) | (right; rfl))⟩
  · have hk4 := hk4 (by omega)
    have hbc : w.heap.size < w2.heap.size := by omega
    have hbf : w2.heap.size < w3.heap.size := by omega
    have HS : Aside0 (CSt g (m + 130) w2.heap.size w w4 c B0 d0 B1 d1 B2 d2) := ⟨⟨F0.out, F1.out, U0.out, U1.out, U2.out, HR.out.up (by omega), HD.out⟩⟩
    have hff : w4.heap[w3.heap.size]? = some (.cells #[.string ⟨#[50, 50, 48, 32, 120]⟩, .string ⟨#[50, 53, 48, 32, 111, 107]⟩, .string ⟨#[50, 53, 48, 32, 111, 107]⟩, .string ⟨#[50, 53, 48, 32, 111, 107]⟩, .string ⟨#[50, 53, 48, 32, 111, 107]⟩, .string ⟨#[50, 53, 48, 32, 111, 107]⟩, .string ⟨#[50, 53, 48, 32, 111, 107]⟩, .string ⟨#[51, 53, 52, 32, 103, 111, 32, 111, 110]⟩] 9 (0, 0)) := FF.out
    obtain ⟨fine, hfz, hfs, hff⟩ : ∃ fine : Array Value, fine.size = 8 ∧ strs fine = true ∧ w4.heap[w3.heap.size]? = some (.cells fine 9 (0, 0)) := ⟨_, by decide, by decide, hff⟩
    clear F0 F1 FF U0 U1 U2 HR HD cF0_0 cF0_1 cF0_2 cF0_3 cF0_4 cF0_5 cF0_6 cF0_7 cF1_0 cF1_1 cF1_2 cF1_3 cF1_4 cF1_5 cF1_6 cF1_7 cFF_0 cFF_1 cFF_2 cFF_3 cFF_4 cFF_5 cFF_6 cFF_7
    have FF := Aside0.mk hff
    have HFZ := Lib.hid hfz
    have HFS := Lib.hid hfs
    clear hff hfz hfs
    generalize w2.heap.size = bc at HS hbc hbf
    generalize w3.heap.size = bf at FF hbf ⊢
    have HGC := Aside0.mk hgc
    clear hgc
    go_loopg [4, 5, 6, 7] 8 (fun gq v4 v5 _ _ wr => ∃ (k fi L : Nat) (A : Option Addr) (c : SCli) (B2 : Option Addr) (d2 : Nat), k ≤ gq ∧ k ≤ 8 ∧ v5 = .int .i64 (k : Int) ∧ v4 = .slice A L L ∧ fi + L = 8 ∧ (0 < L → A = some ⟨bf, fi, none⟩) ∧ Aside0 (goodC c) ∧ Aside0 (CSt g (m + 130) bc w wr c B0 d0 B1 d1 B2 d2) ∧ Aside0 (wr.heap[bf]? = some (.cells fine 9 (0, 0))))
    case atStart => exact ⟨k4, 0, 8, some ⟨bf, 0, none⟩, c, B2, d2, by omega, by omega, rfl, rfl, rfl, fun _ => rfl, HGC, HS, FF⟩
    case round =>
      clear HS HGC FF
      obtain ⟨k, fi, L, A, c, B2, d2, hkg, hk8, rfl, rfl, hfl, hA, HGC, HS, FF⟩ := hrel
      have F0 := Aside0.mk HS.out.f0
      have F1 := Aside0.mk HS.out.f1
      have U0 := Aside0.mk HS.out.r0
      have U1 := Aside0.mk HS.out.r1
      have U2 := Aside0.mk HS.out.r2
      have HR := Aside0.mk HS.out.hr
      have HD := Aside0.mk HS.out.hd
      have ywr := HD.out.size
      clear HS
      by_cases hlt : 0 < k
      · have hlt' : (0 : Int) < (k : Int) := by omega
        by_cases hL : 0 < L
        · have hL' : (0 : Int) < (L : Int) := by omega
          obtain rfl := hA hL
          obtain ⟨an, han0, han⟩ := strs_at HFS.out fi (by have := HFZ.out; omega)
          have HFI := Lib.hid ((blk_cell FF.out fi).trans han0)
          clear han0 hA
          go_wp2
          have join : Hid (∀ {goal : Prop} {G : ByteArray → Int → Int → List Int → Option Addr → Nat → Nat → World → Prop} (rg : Hid (∀ (tx : ByteArray) (st1 : Int) (at1 : Int) (outs1 : List Int) (P : Option Addr) (e2 : Nat) (gx : Nat) (V : World), V.heap[w.heap.size]? = some (.cells #[.string ⟨#[]⟩, .string ⟨#[]⟩, .string ⟨#[]⟩, .slice none 0 0, .slice none 0 0, .int .i64 0, .int .i64 0, .slice none 0 0] 31 (0, 0)) ∧ V.heap[bc]? = some (.cells #[.string c.f0, .string c.f1.f0.f0, .string c.f1.f0.f1, .slice B0 c.f1.f1.length d0, .slice B1 c.f1.f2.length d1, .int .i64 c.f2, .int .i64 c.f3, .slice B2 c.f4.length d2] 31 (0, 0)) ∧ V.heap[gx]? = some (.cells #[.string c.f0, .string c.f1.f0.f0, .string c.f1.f0.f1, .slice B0 c.f1.f1.length d0, .slice B1 c.f1.f2.length d1, .int .i64 st1, .int .i64 at1, .slice P c.f4.length e2] 31 (0, 0)) ∧ Kd.R kAddr 24 V w.heap.size (fun _ => True) (.slice B0 c.f1.f1.length d0) c.f1.f1 ∧ Kd.R Kd.string 9 V w.heap.size (fun _ => True) (.slice B1 c.f1.f2.length d1) c.f1.f2 ∧ Kd.R (Kd.int .i64) 3 V w.heap.size (fun _ => True) (.slice P c.f4.length e2) outs1 ∧ Rd g (m + 130) V ∧ Dr g w V ∧ goodC ⟨c.f0, c.f1, st1, at1, outs1⟩ ∧ outs1.length = c.f4.length ∧ bc ≠ gx ∧ w.heap.size < gx ∧ V.heap[bf]? = some (.cells fine 9 (0, 0)) → G tx st1 at1 outs1 P e2 gx V) → goal) (hk : ∀ (tx : ByteArray) (st1 : Int) (at1 : Int) (outs1 : List Int) (P : Option Addr) (e2 : Nat) (gx : Nat) (V : World), V.heap[w.heap.size]? = some (.cells #[.string ⟨#[]⟩, .string ⟨#[]⟩, .string ⟨#[]⟩, .slice none 0 0, .slice none 0 0, .int .i64 0, .int .i64 0, .slice none 0 0] 31 (0, 0)) ∧ V.heap[bc]? = some (.cells #[.string c.f0, .string c.f1.f0.f0, .string c.f1.f0.f1, .slice B0 c.f1.f1.length d0, .slice B1 c.f1.f2.length d1, .int .i64 c.f2, .int .i64 c.f3, .slice B2 c.f4.length d2] 31 (0, 0)) ∧ V.heap[gx]? = some (.cells #[.string c.f0, .string c.f1.f0.f0, .string c.f1.f0.f1, .slice B0 c.f1.f1.length d0, .slice B1 c.f1.f2.length d1, .int .i64 st1, .int .i64 at1, .slice P c.f4.length e2] 31 (0, 0)) ∧ Kd.R kAddr 24 V w.heap.size (fun _ => True) (.slice B0 c.f1.f1.length d0) c.f1.f1 ∧ Kd.R Kd.string 9 V w.heap.size (fun _ => True) (.slice B1 c.f1.f2.length d1) c.f1.f2 ∧ Kd.R (Kd.int .i64) 3 V w.heap.size (fun _ => True) (.slice P c.f4.length e2) outs1 ∧ Rd g (m + 130) V ∧ Dr g w V ∧ goodC ⟨c.f0, c.f1, st1, at1, outs1⟩ ∧ outs1.length = c.f4.length ∧ bc ≠ gx ∧ w.heap.size < gx ∧ V.heap[bf]? = some (.cells fine 9 (0, 0)) → G tx st1 at1 outs1 P e2 gx V), goal) := Lib.hid (fun f h => f (Lib.hid h))
          have HST : Aside0 ((fun W => W.cell? ⟨bc, 0, none⟩ = some (.string c.f0) ∧ W.cell? ⟨bc, 1, none⟩ = some (.string c.f1.f0.f0) ∧ W.cell? ⟨bc, 2, none⟩ = some (.string c.f1.f0.f1) ∧ W.cell? ⟨bc, 3, none⟩ = some (.slice B0 c.f1.f1.length d0) ∧ W.cell? ⟨bc, 4, none⟩ = some (.slice B1 c.f1.f2.length d1) ∧ W.cell? ⟨bc, 5, none⟩ = some (.int .i64 c.f2) ∧ W.cell? ⟨bc, 6, none⟩ = some (.int .i64 c.f3) ∧ W.cell? ⟨bc, 7, none⟩ = some (.slice B2 c.f4.length d2) ∧ W.cell? ⟨bf, fi, none⟩ = some (.string an)) wr.drew) := ⟨(by have h := cells8 (show wr.drew.heap[bc]? = _ from F1.out); exact ⟨h.1, h.2.1, h.2.2.1, h.2.2.2.1, h.2.2.2.2.1, h.2.2.2.2.2.1, h.2.2.2.2.2.2.1, h.2.2.2.2.2.2.2, (show wr.drew.cell? ⟨bf, fi, none⟩ = _ from HFI.out)⟩)⟩
          have HK : Aside0 (∀ W W1, Below W.heap.size W W1 → (W.cell? ⟨bc, 0, none⟩ = some (.string c.f0) ∧ W.cell? ⟨bc, 1, none⟩ = some (.string c.f1.f0.f0) ∧ W.cell? ⟨bc, 2, none⟩ = some (.string c.f1.f0.f1) ∧ W.cell? ⟨bc, 3, none⟩ = some (.slice B0 c.f1.f1.length d0) ∧ W.cell? ⟨bc, 4, none⟩ = some (.slice B1 c.f1.f2.length d1) ∧ W.cell? ⟨bc, 5, none⟩ = some (.int .i64 c.f2) ∧ W.cell? ⟨bc, 6, none⟩ = some (.int .i64 c.f3) ∧ W.cell? ⟨bc, 7, none⟩ = some (.slice B2 c.f4.length d2) ∧ W.cell? ⟨bf, fi, none⟩ = some (.string an)) → (W1.cell? ⟨bc, 0, none⟩ = some (.string c.f0) ∧ W1.cell? ⟨bc, 1, none⟩ = some (.string c.f1.f0.f0) ∧ W1.cell? ⟨bc, 2, none⟩ = some (.string c.f1.f0.f1) ∧ W1.cell? ⟨bc, 3, none⟩ = some (.slice B0 c.f1.f1.length d0) ∧ W1.cell? ⟨bc, 4, none⟩ = some (.slice B1 c.f1.f2.length d1) ∧ W1.cell? ⟨bc, 5, none⟩ = some (.int .i64 c.f2) ∧ W1.cell? ⟨bc, 6, none⟩ = some (.int .i64 c.f3) ∧ W1.cell? ⟨bc, 7, none⟩ = some (.slice B2 c.f4.length d2) ∧ W1.cell? ⟨bf, fi, none⟩ = some (.string an))) := ⟨fun W W1 hb h => ⟨(hb.cell (World.block_lt_of_cell? W _ (h.1))).trans (h.1), (hb.cell (World.block_lt_of_cell? W _ (h.2.1))).trans (h.2.1), (hb.cell (World.block_lt_of_cell? W _ (h.2.2.1))).trans (h.2.2.1), (hb.cell (World.block_lt_of_cell? W _ (h.2.2.2.1))).trans (h.2.2.2.1), (hb.cell (World.block_lt_of_cell? W _ (h.2.2.2.2.1))).trans (h.2.2.2.2.1), (hb.cell (World.block_lt_of_cell? W _ (h.2.2.2.2.2.1))).trans (h.2.2.2.2.2.1), (hb.cell (World.block_lt_of_cell? W _ (h.2.2.2.2.2.2.1))).trans (h.2.2.2.2.2.2.1), (hb.cell (World.block_lt_of_cell? W _ (h.2.2.2.2.2.2.2.1))).trans (h.2.2.2.2.2.2.2.1), (hb.cell (World.block_lt_of_cell? W _ (h.2.2.2.2.2.2.2.2))).trans (h.2.2.2.2.2.2.2.2)⟩⟩
          apply join.out
          case rg =>
            intro HKK
            refine wp_region_held_drew (S := (fun W => W.cell? ⟨bc, 0, none⟩ = some (.string c.f0) ∧ W.cell? ⟨bc, 1, none⟩ = some (.string c.f1.f0.f0) ∧ W.cell? ⟨bc, 2, none⟩ = some (.string c.f1.f0.f1) ∧ W.cell? ⟨bc, 3, none⟩ = some (.slice B0 c.f1.f1.length d0) ∧ W.cell? ⟨bc, 4, none⟩ = some (.slice B1 c.f1.f2.length d1) ∧ W.cell? ⟨bc, 5, none⟩ = some (.int .i64 c.f2) ∧ W.cell? ⟨bc, 6, none⟩ = some (.int .i64 c.f3) ∧ W.cell? ⟨bc, 7, none⟩ = some (.slice B2 c.f4.length d2) ∧ W.cell? ⟨bf, fi, none⟩ = some (.string an))) (by kernel_rfl) ?s238 (fun hHeld => ?t238)
            case s238 => exact HST.out
            generalize hV0 : World.drew _ = V0 at hHeld ⊢
            have F0 := Aside0.mk (show V0.heap[w.heap.size]? = some (.cells #[.string ⟨#[]⟩, .string ⟨#[]⟩, .string ⟨#[]⟩, .slice none 0 0, .slice none 0 0, .int .i64 0, .int .i64 0, .slice none 0 0] 31 (0, 0)) from by rw [← hV0]; exact blk_drew F0.out)
            have F1 := Aside0.mk (show V0.heap[bc]? = some (.cells #[.string c.f0, .string c.f1.f0.f0, .string c.f1.f0.f1, .slice B0 c.f1.f1.length d0, .slice B1 c.f1.f2.length d1, .int .i64 c.f2, .int .i64 c.f3, .slice B2 c.f4.length d2] 31 (0, 0)) from by rw [← hV0]; exact blk_drew F1.out)
            have U0 := Aside0.mk (show Kd.R kAddr 24 V0 w.heap.size (fun _ => True) (.slice B0 c.f1.f1.length d0) c.f1.f1 from by rw [← hV0]; exact Kd.R_drew U0.out)
            have U1 := Aside0.mk (show Kd.R Kd.string 9 V0 w.heap.size (fun _ => True) (.slice B1 c.f1.f2.length d1) c.f1.f2 from by rw [← hV0]; exact Kd.R_drew U1.out)
            have U2 := Aside0.mk (show Kd.R (Kd.int .i64) 3 V0 w.heap.size (fun _ => True) (.slice B2 c.f4.length d2) c.f4 from by rw [← hV0]; exact Kd.R_drew U2.out)
            have HR := Aside0.mk (show Rd g _ V0 from by rw [← hV0]; exact HR.out.drew)
            have HD := Aside0.mk (show Dr g w V0 from by rw [← hV0]; exact HD.out.drew)
            have FF := Aside0.mk (show V0.heap[bf]? = some (.cells fine 9 (0, 0)) from by rw [← hV0]; exact blk_drew FF.out)
            clear hV0
            refine wpAnyH_take (i := 0) (oi := { dst := some 30, op := Op.load 31 (Operand.tmp 3), type := 31, pos := "l20_draw.go:391", after := #[], guard := none }) (v := ?v239) rfl (by kernel_rfl) (by kernel_rfl) (by kernel_rfl) (fun _ _ _ h => h) (Or.inl ⟨by rfl, ?y239⟩) (by assumption) ?r239
            case y239 => intro w_ hSw; (try dsimp only at hSw); go_simp; (try (with_reducible rfl))
            try simp only [Act.put, List.setIfInBounds_toArray, List.set_cons_zero, List.set_cons_succ]
            refine wpAnyH_take (i := 1) (oi := { dst := some 31, op := Op.move (Operand.tmp 4), type := 26, pos := "l20_draw.go:391", after := #[], guard := none }) (v := ?v240) rfl (by kernel_rfl) (by kernel_rfl) (by kernel_rfl) (fun _ _ _ h => h) (Or.inl ⟨by rfl, ?y240⟩) (by assumption) ?r240
            case y240 => intro w_ hSw; (try dsimp only at hSw); go_simp; (try (with_reducible rfl))
            try simp only [Act.put, List.setIfInBounds_toArray, List.set_cons_zero, List.set_cons_succ]
            refine wpAnyH_take (i := 2) (oi := { dst := some 32, op := Op.indexAddr 26 (Operand.tmp 31) (Operand.const (Value.int IntKind.i64 0)), type := 0, pos := "l20_draw.go:391", after := #[{ on := 1, ground := Ground.data }], guard := none }) (v := ?v241) rfl (by kernel_rfl) (by kernel_rfl) (by kernel_rfl) (fun _ _ _ h => h) (Or.inl ⟨by rfl, ?y241⟩) (by assumption) ?r241
            case y241 => intro w_ hSw; (try dsimp only at hSw); go_simp; (try (with_reducible rfl))
            try simp only [Act.put, List.setIfInBounds_toArray, List.set_cons_zero, List.set_cons_succ]
            refine wpAnyH_take (i := 3) (oi := { dst := some 33, op := Op.load 9 (Operand.tmp 32), type := 9, pos := "l20_draw.go:391", after := #[{ on := 2, ground := Ground.data }], guard := none }) (v := ?v242) rfl (by kernel_rfl) (by kernel_rfl) (by kernel_rfl) (fun _ _ _ h => h) (Or.inl ⟨by rfl, ?y242⟩) (by assumption) ?r242
            case y242 => intro w_ hSw; (try dsimp only at hSw); go_simp; (try (with_reducible rfl))
            try simp only [Act.put, List.setIfInBounds_toArray, List.set_cons_zero, List.set_cons_succ]
            refine wpAnyH_ready (rs := [4, 8]) (by kernel_rfl) (by simp) ?_
            refine AllReadyH.cons (o := { dst := some 34, op := Op.call { callee := Callee.value (Operand.func 63), args := #[Operand.tmp 30, Operand.tmp 33], argTypes := #[31, 9] }, type := 52, pos := "l20_draw.go:391", after := #[{ on := 0, ground := Ground.data }, { on := 3, ground := Ground.data }], guard := none }) rfl (fun K hK => ?k243) (AllReadyH.cons (o := { dst := some 6, op := Op.alloc 31, type := 0, pos := "l20_draw.go:391", after := #[], guard := none }) rfl (fun K hK => ?k244) AllReadyH.nil)
            case k243 =>
              go_simp
              have hst := specStep_any c.f0 c.f1 c.f2 c.f3 c.f4 B0 d0 B1 d1 B2 d2 an (codeOf an) w.heap.size V0 (fitM_of HGC.out.2.1) (by have := HGC.out.1; omega) HGC.out.2.2.2.1.1 HGC.out.2.2.2.1.2 (by have h1 := HGC.out.2.2.2.2.2.1; have h2 := HGC.out.2.1.2.1.2.1; omega) HD.out.size HGC.out.2.2.1.1 HGC.out.2.2.1.2 HGC.out.2.2.2.2.1 HGC.out.2.2.2.2.2.1 (fun W => specCode_any an W (by omega)) (Kd.R_reads' U0.out).2.2 (Kd.R_reads' U1.out).2.2 U2.out
              have hgn : goodC (stepC ⟨c.f0, c.f1, c.f2, c.f3, c.f4⟩ (codeOf an)).1 := goodC_step HGC.out (codeOf an)
              have hrs := stepC_rest ⟨c.f0, c.f1, c.f2, c.f3, c.f4⟩ (codeOf an)
              generalize stepC ⟨c.f0, c.f1, c.f2, c.f3, c.f4⟩ (codeOf an) = SS at hst hgn hrs
              obtain ⟨⟨n0, n1, st1, at1, outs1⟩, tx⟩ := SS
              obtain ⟨h0_, h1_, h4_⟩ := hrs
              obtain rfl : n0 = c.f0 := h0_
              obtain rfl : n1 = c.f1 := h1_
              have HG1 := Aside0.mk hgn
              have HL1 := Lib.hid (show outs1.length = c.f4.length from h4_)
              clear hgn h4_
              refine Calls.mono hst ?_
              clear hst
              rintro e V4 ⟨P, e2, rfl, r2, b4⟩
              refine hK.out _ _ ?h245 (fun hHeld => ?j245)
              case h245 => exact HK.out _ _ b4 hHeld
              clear hK K
              try simp only [Act.put, List.setIfInBounds_toArray, List.set_cons_zero, List.set_cons_succ]
              have R2 := Aside0.mk r2
              clear r2
              replace F0 := Aside0.mk (below_blk F0.out b4)
              replace F1 := Aside0.mk (below_blk F1.out b4)
              replace U0 := Aside0.mk (Kd.R_below U0.out b4)
              replace U1 := Aside0.mk (Kd.R_below U1.out b4)
              replace U2 := Aside0.mk (Kd.R_below U2.out b4)
              replace HR := Aside0.mk (Rd.below HR.out b4)
              replace HD := Aside0.mk (Dr.below HD.out b4)
              replace FF := Aside0.mk (below_blk FF.out b4)
              refine wpAnyH_take (i := 5) (oi := { dst := some 29, op := Op.move (Operand.tmp 34), type := 52, pos := "l20_draw.go:391", after := #[{ on := 4, ground := Ground.data }], guard := none }) (v := ?v246) rfl (by kernel_rfl) (by kernel_rfl) (by kernel_rfl) (fun _ _ _ h => h) (Or.inl ⟨by rfl, ?y246⟩) (by assumption) ?r246
              case y246 => intro w_ hSw; (try dsimp only at hSw); go_simp; (try (with_reducible rfl))
              try simp only [Act.put, List.setIfInBounds_toArray, List.set_cons_zero, List.set_cons_succ]
              refine wpAnyH_take (i := 6) (oi := { dst := some 35, op := Op.extract (Operand.tmp 29) 0, type := 31, pos := "l20_draw.go:391", after := #[{ on := 5, ground := Ground.data }], guard := none }) (v := ?v247) rfl (by kernel_rfl) (by kernel_rfl) (by kernel_rfl) (fun _ _ _ h => h) (Or.inl ⟨by rfl, ?y247⟩) (by assumption) ?r247
              case y247 => intro w_ hSw; (try dsimp only at hSw); go_simp; (try (with_reducible rfl))
              try simp only [Act.put, List.setIfInBounds_toArray, List.set_cons_zero, List.set_cons_succ]
              refine wpAnyH_take (i := 7) (oi := { dst := some 36, op := Op.extract (Operand.tmp 29) 1, type := 9, pos := "l20_draw.go:391", after := #[{ on := 5, ground := Ground.data }, { on := 9, ground := Ground.gcOnly Departure.lateStores }], guard := none }) (v := ?v248) rfl (by kernel_rfl) (by kernel_rfl) (by kernel_rfl) (fun _ _ _ h => h) (Or.inl ⟨by rfl, ?y248⟩) (by assumption) ?r248
              case y248 => intro w_ hSw; (try dsimp only at hSw); go_simp; (try (with_reducible rfl))
              try simp only [Act.put, List.setIfInBounds_toArray, List.set_cons_zero, List.set_cons_succ]
              refine wpAnyH_ready (rs := [8]) (by kernel_rfl) (by simp) ?_
              refine AllReadyH.cons (o := { dst := some 6, op := Op.alloc 31, type := 0, pos := "l20_draw.go:391", after := #[], guard := none }) rfl (fun K hK => ?k249) AllReadyH.nil
              case k249 =>
                go_simp
                refine hK.out _ _ ?h250 (fun hHeld => ?j250)
                case h250 => exact HK.out _ _ (bel_alloc (Below.refl _ _) _) hHeld
                clear hK K
                try simp only [Act.put, List.setIfInBounds_toArray, List.set_cons_zero, List.set_cons_succ]
                generalize hV8 : World.alloc V4 _ = V8 at hHeld ⊢
                have b8 : Below V4.heap.size V4 V8 := by rw [← hV8]; exact bel_alloc (Below.refl _ _) _
                have FX := Aside0.mk (by rw [← hV8]; exact blk_new _ _ : V8.heap[V4.heap.size]? = some (.cells #[.string ⟨#[]⟩, .string ⟨#[]⟩, .string ⟨#[]⟩, .slice none 0 0, .slice none 0 0, .int .i64 0, .int .i64 0, .slice none 0 0] 31 (0, 0)))
                have lo8 := blk_lt F1.out
                have lp8 := blk_lt F0.out
                obtain ⟨gx, hg8⟩ : ∃ g, g = V4.heap.size := ⟨_, rfl⟩
                have lgx : bc < gx := by omega
                have lgw : w.heap.size < gx := by omega
                have lff := blk_lt FF.out
                have lgf : bf < gx := by omega
                clear lff
                rw [← hg8] at FX ⊢
                clear hV8 hg8 lo8 lp8
                replace F0 := Aside0.mk (below_blk F0.out b8)
                replace F1 := Aside0.mk (below_blk F1.out b8)
                replace U0 := Aside0.mk (Kd.R_below U0.out b8)
                replace U1 := Aside0.mk (Kd.R_below U1.out b8)
                replace U2 := Aside0.mk (Kd.R_below U2.out b8)
                replace HR := Aside0.mk (Rd.below HR.out b8)
                replace HD := Aside0.mk (Dr.below HD.out b8)
                replace FF := Aside0.mk (below_blk FF.out b8)
                replace R2 := Aside0.mk (Kd.R_below R2.out b8)
                refine wpAnyH_ready (rs := [9]) (by kernel_rfl) (by simp) ?_
                refine AllReadyH.cons (o := { dst := none, op := Op.store 31 (Operand.tmp 6) (Operand.tmp 35), type := 0, pos := "l20_draw.go:391", after := #[{ on := 8, ground := Ground.data }, { on := 6, ground := Ground.data }, { on := 4, ground := Ground.chain }, { on := 0, ground := Ground.phase }, { on := 1, ground := Ground.phase }, { on := 2, ground := Ground.phase }, { on := 3, ground := Ground.phase }, { on := 4, ground := Ground.phase }, { on := 5, ground := Ground.phase }, { on := 6, ground := Ground.phase }, { on := 7, ground := Ground.textOnly Departure.lateStores }, { on := 8, ground := Ground.phase }], guard := none }) rfl (fun K hK => ?k251) AllReadyH.nil
                case k251 =>
                  obtain ⟨v0_, v1_, v2_, v3_, v4_, v5_, v6_, v7_⟩ := cells8 FX.out
                  obtain ⟨u0_, u1_, u2_, u3_, u4_, u5_, u6_, u7_⟩ := froz8 FX.out
                  go_simp
                  generalize hV9 : World.setCell (World.setCell (World.setCell (World.setCell (World.setCell (World.setCell (World.setCell (World.setCell V8 ⟨gx, 0, none⟩ _) ⟨gx, 1, none⟩ _) ⟨gx, 2, none⟩ _) ⟨gx, 3, none⟩ _) ⟨gx, 4, none⟩ _) ⟨gx, 5, none⟩ _) ⟨gx, 6, none⟩ _) ⟨gx, 7, none⟩ _ = V9
                  have G9 : V8.grownBy V9 (some gx) := by rw [← hV9]; exact (((((((grown_set1 _ _ _ _).trans (grown_set1 _ _ _ _)).trans (grown_set1 _ _ _ _)).trans (grown_set1 _ _ _ _)).trans (grown_set1 _ _ _ _)).trans (grown_set1 _ _ _ _)).trans (grown_set1 _ _ _ _)).trans (grown_set1 _ _ _ _)
                  have FXN : V9.heap[gx]? = some (.cells #[.string c.f0, .string c.f1.f0.f0, .string c.f1.f0.f1, .slice B0 c.f1.f1.length d0, .slice B1 c.f1.f2.length d1, .int .i64 st1, .int .i64 at1, .slice P c.f4.length e2] 31 (0, 0)) := by rw [← hV9, blk_set1 (blk_set1 (blk_set1 (blk_set1 (blk_set1 (blk_set1 (blk_set1 (blk_set1 (FX.out) 0 _) 1 _) 2 _) 3 _) 4 _) 5 _) 6 _) 7 _]; simp
                  clear hV9
                  have F1N := (G9.block _ (blk_lt F1.out) (fun e => by have e := Option.some.inj e; omega)).trans F1.out
                  have F0N := (G9.block _ (blk_lt F0.out) (fun e => by have e := Option.some.inj e; omega)).trans F0.out
                  have Fspec.l20Cli := (G9.block _ (blk_lt FF.out) (fun e => by have e := Option.some.inj e; omega)).trans FF.out
                  refine hK.out _ _ ?h252 (fun hHeld => ?j252)
                  case h252 => exact (by have h := cells8 F1N; exact ⟨h.1, h.2.1, h.2.2.1, h.2.2.2.1, h.2.2.2.2.1, h.2.2.2.2.2.1, h.2.2.2.2.2.2.1, h.2.2.2.2.2.2.2, (World.cell?_of_block (G9.block bf (blk_lt FF.out) (fun e => by have e := Option.some.inj e; omega))).trans hHeld.2.2.2.2.2.2.2.2⟩)
                  clear hK K
                  try simp only [Act.put, List.setIfInBounds_toArray, List.set_cons_zero, List.set_cons_succ]
                  replace U0 := Aside0.mk (R_else U0.out rfl G9 (Kd.R_ne U0.out FX.out (by decide)))
                  replace U1 := Aside0.mk (R_else U1.out rfl G9 (Kd.R_ne U1.out FX.out (by decide)))
                  replace R2 := Aside0.mk (R_else R2.out rfl G9 (Kd.R_ne R2.out FX.out (by decide)))
                  replace HR := Aside0.mk (Rd.grown HR.out G9 (fun q e => by have e := Option.some.inj e; omega))
                  replace HD := Aside0.mk (Dr.grown HD.out G9 (fun q e => .inl (by have e := Option.some.inj e; omega)))
                  replace F0 := Aside0.mk F0N
                  replace F1 := Aside0.mk F1N
                  replace FX := Aside0.mk FXN
                  clear F0N F1N FXN U2
                  replace FF := Aside0.mk Fspec.l20Cli
                  clear Fspec.l20Cli
                  refine wpAnyH_take (i := 10) (oi := { dst := some 7, op := Op.assign (Operand.tmp 36), type := 9, pos := "l20_draw.go:391", after := #[{ on := 7, ground := Ground.data }, { on := 9, ground := Ground.chain }, { on := 0, ground := Ground.phase }, { on := 1, ground := Ground.phase }, { on := 2, ground := Ground.phase }, { on := 3, ground := Ground.phase }, { on := 4, ground := Ground.phase }, { on := 5, ground := Ground.phase }, { on := 6, ground := Ground.phase }, { on := 7, ground := Ground.phase }, { on := 8, ground := Ground.phase }, { on := 9, ground := Ground.phase }], guard := none }) (v := ?v253) rfl (by kernel_rfl) (by kernel_rfl) (by kernel_rfl) (fun _ _ _ h => h) (Or.inl ⟨by rfl, ?y253⟩) (by assumption) ?r253
                  case y253 => intro w_ hSw; (try dsimp only at hSw); go_simp; (try (with_reducible rfl))
                  try simp only [Act.put, List.setIfInBounds_toArray, List.set_cons_zero, List.set_cons_succ]
                  refine wpAnyH_done (by kernel_rfl) ?_ _
                  exact HKK.out tx st1 at1 outs1 P e2 gx V9 ⟨F0.out, F1.out, FX.out, U0.out, U1.out, R2.out, HR.out.up (by omega), HD.out, HG1.out, HL1.out, (by omega), (by omega), FF.out⟩
            case k244 =>
              go_simp
              refine hK.out _ _ ?h254 (fun hHeld => ?j254)
              case h254 => exact HK.out _ _ (bel_alloc (Below.refl _ _) _) hHeld
              clear hK K
              try simp only [Act.put, List.setIfInBounds_toArray, List.set_cons_zero, List.set_cons_succ]
              generalize hV8 : World.alloc V0 _ = V8 at hHeld ⊢
              have b8 : Below V0.heap.size V0 V8 := by rw [← hV8]; exact bel_alloc (Below.refl _ _) _
              have FX := Aside0.mk (by rw [← hV8]; exact blk_new _ _ : V8.heap[V0.heap.size]? = some (.cells #[.string ⟨#[]⟩, .string ⟨#[]⟩, .string ⟨#[]⟩, .slice none 0 0, .slice none 0 0, .int .i64 0, .int .i64 0, .slice none 0 0] 31 (0, 0)))
              have lo8 := blk_lt F1.out
              have lp8 := blk_lt F0.out
              obtain ⟨gx, hg8⟩ : ∃ g, g = V0.heap.size := ⟨_, rfl⟩
              have lgx : bc < gx := by omega
              have lgw : w.heap.size < gx := by omega
              have lff := blk_lt FF.out
              have lgf : bf < gx := by omega
              clear lff
              rw [← hg8] at FX ⊢
              clear hV8 hg8 lo8 lp8
              replace F0 := Aside0.mk (below_blk F0.out b8)
              replace F1 := Aside0.mk (below_blk F1.out b8)
              replace U0 := Aside0.mk (Kd.R_below U0.out b8)
              replace U1 := Aside0.mk (Kd.R_below U1.out b8)
              replace U2 := Aside0.mk (Kd.R_below U2.out b8)
              replace HR := Aside0.mk (Rd.below HR.out b8)
              replace HD := Aside0.mk (Dr.below HD.out b8)
              replace FF := Aside0.mk (below_blk FF.out b8)
              refine wpAnyH_ready (rs := [4]) (by kernel_rfl) (by simp) ?_
              refine AllReadyH.cons (o := { dst := some 34, op := Op.call { callee := Callee.value (Operand.func 63), args := #[Operand.tmp 30, Operand.tmp 33], argTypes := #[31, 9] }, type := 52, pos := "l20_draw.go:391", after := #[{ on := 0, ground := Ground.data }, { on := 3, ground := Ground.data }], guard := none }) rfl (fun K hK => ?k255) AllReadyH.nil
              case k255 =>
                go_simp
                have hst := specStep_any c.f0 c.f1 c.f2 c.f3 c.f4 B0 d0 B1 d1 B2 d2 an (codeOf an) w.heap.size V8 (fitM_of HGC.out.2.1) (by have := HGC.out.1; omega) HGC.out.2.2.2.1.1 HGC.out.2.2.2.1.2 (by have h1 := HGC.out.2.2.2.2.2.1; have h2 := HGC.out.2.1.2.1.2.1; omega) HD.out.size HGC.out.2.2.1.1 HGC.out.2.2.1.2 HGC.out.2.2.2.2.1 HGC.out.2.2.2.2.2.1 (fun W => specCode_any an W (by omega)) (Kd.R_reads' U0.out).2.2 (Kd.R_reads' U1.out).2.2 U2.out
                have hgn : goodC (stepC ⟨c.f0, c.f1, c.f2, c.f3, c.f4⟩ (codeOf an)).1 := goodC_step HGC.out (codeOf an)
                have hrs := stepC_rest ⟨c.f0, c.f1, c.f2, c.f3, c.f4⟩ (codeOf an)
                generalize stepC ⟨c.f0, c.f1, c.f2, c.f3, c.f4⟩ (codeOf an) = SS at hst hgn hrs
                obtain ⟨⟨n0, n1, st1, at1, outs1⟩, tx⟩ := SS
                obtain ⟨h0_, h1_, h4_⟩ := hrs
                obtain rfl : n0 = c.f0 := h0_
                obtain rfl : n1 = c.f1 := h1_
                have HG1 := Aside0.mk hgn
                have HL1 := Lib.hid (show outs1.length = c.f4.length from h4_)
                clear hgn h4_
                refine Calls.mono hst ?_
                clear hst
                rintro e V4 ⟨P, e2, rfl, r2, b4⟩
                refine hK.out _ _ ?h256 (fun hHeld => ?j256)
                case h256 => exact HK.out _ _ b4 hHeld
                clear hK K
                try simp only [Act.put, List.setIfInBounds_toArray, List.set_cons_zero, List.set_cons_succ]
                have R2 := Aside0.mk r2
                clear r2
                replace F0 := Aside0.mk (below_blk F0.out b4)
                replace F1 := Aside0.mk (below_blk F1.out b4)
                replace U0 := Aside0.mk (Kd.R_below U0.out b4)
                replace U1 := Aside0.mk (Kd.R_below U1.out b4)
                replace U2 := Aside0.mk (Kd.R_below U2.out b4)
                replace HR := Aside0.mk (Rd.below HR.out b4)
                replace HD := Aside0.mk (Dr.below HD.out b4)
                replace FF := Aside0.mk (below_blk FF.out b4)
                replace FX := Aside0.mk (below_blk FX.out b4)
                refine wpAnyH_take (i := 5) (oi := { dst := some 29, op := Op.move (Operand.tmp 34), type := 52, pos := "l20_draw.go:391", after := #[{ on := 4, ground := Ground.data }], guard := none }) (v := ?v257) rfl (by kernel_rfl) (by kernel_rfl) (by kernel_rfl) (fun _ _ _ h => h) (Or.inl ⟨by rfl, ?y257⟩) (by assumption) ?r257
                case y257 => intro w_ hSw; (try dsimp only at hSw); go_simp; (try (with_reducible rfl))
                try simp only [Act.put, List.setIfInBounds_toArray, List.set_cons_zero, List.set_cons_succ]
                refine wpAnyH_take (i := 6) (oi := { dst := some 35, op := Op.extract (Operand.tmp 29) 0, type := 31, pos := "l20_draw.go:391", after := #[{ on := 5, ground := Ground.data }], guard := none }) (v := ?v258) rfl (by kernel_rfl) (by kernel_rfl) (by kernel_rfl) (fun _ _ _ h => h) (Or.inl ⟨by rfl, ?y258⟩) (by assumption) ?r258
                case y258 => intro w_ hSw; (try dsimp only at hSw); go_simp; (try (with_reducible rfl))
                try simp only [Act.put, List.setIfInBounds_toArray, List.set_cons_zero, List.set_cons_succ]
                refine wpAnyH_take (i := 7) (oi := { dst := some 36, op := Op.extract (Operand.tmp 29) 1, type := 9, pos := "l20_draw.go:391", after := #[{ on := 5, ground := Ground.data }, { on := 9, ground := Ground.gcOnly Departure.lateStores }], guard := none }) (v := ?v259) rfl (by kernel_rfl) (by kernel_rfl) (by kernel_rfl) (fun _ _ _ h => h) (Or.inl ⟨by rfl, ?y259⟩) (by assumption) ?r259
                case y259 => intro w_ hSw; (try dsimp only at hSw); go_simp; (try (with_reducible rfl))
                try simp only [Act.put, List.setIfInBounds_toArray, List.set_cons_zero, List.set_cons_succ]
                refine wpAnyH_ready (rs := [9]) (by kernel_rfl) (by simp) ?_
                refine AllReadyH.cons (o := { dst := none, op := Op.store 31 (Operand.tmp 6) (Operand.tmp 35), type := 0, pos := "l20_draw.go:391", after := #[{ on := 8, ground := Ground.data }, { on := 6, ground := Ground.data }, { on := 4, ground := Ground.chain }, { on := 0, ground := Ground.phase }, { on := 1, ground := Ground.phase }, { on := 2, ground := Ground.phase }, { on := 3, ground := Ground.phase }, { on := 4, ground := Ground.phase }, { on := 5, ground := Ground.phase }, { on := 6, ground := Ground.phase }, { on := 7, ground := Ground.textOnly Departure.lateStores }, { on := 8, ground := Ground.phase }], guard := none }) rfl (fun K hK => ?k260) AllReadyH.nil
                case k260 =>
                  obtain ⟨v0_, v1_, v2_, v3_, v4_, v5_, v6_, v7_⟩ := cells8 FX.out
                  obtain ⟨u0_, u1_, u2_, u3_, u4_, u5_, u6_, u7_⟩ := froz8 FX.out
                  go_simp
                  generalize hV9 : World.setCell (World.setCell (World.setCell (World.setCell (World.setCell (World.setCell (World.setCell (World.setCell V4 ⟨gx, 0, none⟩ _) ⟨gx, 1, none⟩ _) ⟨gx, 2, none⟩ _) ⟨gx, 3, none⟩ _) ⟨gx, 4, none⟩ _) ⟨gx, 5, none⟩ _) ⟨gx, 6, none⟩ _) ⟨gx, 7, none⟩ _ = V9
                  have G9 : V4.grownBy V9 (some gx) := by rw [← hV9]; exact (((((((grown_set1 _ _ _ _).trans (grown_set1 _ _ _ _)).trans (grown_set1 _ _ _ _)).trans (grown_set1 _ _ _ _)).trans (grown_set1 _ _ _ _)).trans (grown_set1 _ _ _ _)).trans (grown_set1 _ _ _ _)).trans (grown_set1 _ _ _ _)
                  have FXN : V9.heap[gx]? = some (.cells #[.string c.f0, .string c.f1.f0.f0, .string c.f1.f0.f1, .slice B0 c.f1.f1.length d0, .slice B1 c.f1.f2.length d1, .int .i64 st1, .int .i64 at1, .slice P c.f4.length e2] 31 (0, 0)) := by rw [← hV9, blk_set1 (blk_set1 (blk_set1 (blk_set1 (blk_set1 (blk_set1 (blk_set1 (blk_set1 (FX.out) 0 _) 1 _) 2 _) 3 _) 4 _) 5 _) 6 _) 7 _]; simp
                  clear hV9
                  have F1N := (G9.block _ (blk_lt F1.out) (fun e => by have e := Option.some.inj e; omega)).trans F1.out
                  have F0N := (G9.block _ (blk_lt F0.out) (fun e => by have e := Option.some.inj e; omega)).trans F0.out
                  have Fspec.l20Cli := (G9.block _ (blk_lt FF.out) (fun e => by have e := Option.some.inj e; omega)).trans FF.out
                  refine hK.out _ _ ?h261 (fun hHeld => ?j261)
                  case h261 => exact (by have h := cells8 F1N; exact ⟨h.1, h.2.1, h.2.2.1, h.2.2.2.1, h.2.2.2.2.1, h.2.2.2.2.2.1, h.2.2.2.2.2.2.1, h.2.2.2.2.2.2.2, (World.cell?_of_block (G9.block bf (blk_lt FF.out) (fun e => by have e := Option.some.inj e; omega))).trans hHeld.2.2.2.2.2.2.2.2⟩)
                  clear hK K
                  try simp only [Act.put, List.setIfInBounds_toArray, List.set_cons_zero, List.set_cons_succ]
                  replace U0 := Aside0.mk (R_else U0.out rfl G9 (Kd.R_ne U0.out FX.out (by decide)))
                  replace U1 := Aside0.mk (R_else U1.out rfl G9 (Kd.R_ne U1.out FX.out (by decide)))
                  replace R2 := Aside0.mk (R_else R2.out rfl G9 (Kd.R_ne R2.out FX.out (by decide)))
                  replace HR := Aside0.mk (Rd.grown HR.out G9 (fun q e => by have e := Option.some.inj e; omega))
                  replace HD := Aside0.mk (Dr.grown HD.out G9 (fun q e => .inl (by have e := Option.some.inj e; omega)))
                  replace F0 := Aside0.mk F0N
                  replace F1 := Aside0.mk F1N
                  replace FX := Aside0.mk FXN
                  clear F0N F1N FXN U2
                  replace FF := Aside0.mk Fspec.l20Cli
                  clear Fspec.l20Cli
                  refine wpAnyH_take (i := 10) (oi := { dst := some 7, op := Op.assign (Operand.tmp 36), type := 9, pos := "l20_draw.go:391", after := #[{ on := 7, ground := Ground.data }, { on := 9, ground := Ground.chain }, { on := 0, ground := Ground.phase }, { on := 1, ground := Ground.phase }, { on := 2, ground := Ground.phase }, { on := 3, ground := Ground.phase }, { on := 4, ground := Ground.phase }, { on := 5, ground := Ground.phase }, { on := 6, ground := Ground.phase }, { on := 7, ground := Ground.phase }, { on := 8, ground := Ground.phase }, { on := 9, ground := Ground.phase }], guard := none }) (v := ?v262) rfl (by kernel_rfl) (by kernel_rfl) (by kernel_rfl) (fun _ _ _ h => h) (Or.inl ⟨by rfl, ?y262⟩) (by assumption) ?r262
                  case y262 => intro w_ hSw; (try dsimp only at hSw); go_simp; (try (with_reducible rfl))
                  try simp only [Act.put, List.setIfInBounds_toArray, List.set_cons_zero, List.set_cons_succ]
                  refine wpAnyH_done (by kernel_rfl) ?_ _
                  exact HKK.out tx st1 at1 outs1 P e2 gx V9 ⟨F0.out, F1.out, FX.out, U0.out, U1.out, R2.out, HR.out.up (by omega), HD.out, HG1.out, HL1.out, (by omega), (by omega), FF.out⟩
          case hk =>
            intro tx st1 at1 outs1 P e2 gx V ⟨f0, f1, fx, u0, u1, u2, hr, hd, hg1, hl1, hne, hlw, ff⟩
            clear HST HK join F0 F1 U0 U1 U2 HR HD FF
            have FX := Aside0.mk fx
            have F1 := Aside0.mk f1
            obtain ⟨cFX_0, cFX_1, cFX_2, cFX_3, cFX_4, cFX_5, cFX_6, cFX_7⟩ := cells8 FX.out
            obtain ⟨cF1_0, cF1_1, cF1_2, cF1_3, cF1_4, cF1_5, cF1_6, cF1_7⟩ := cells8 F1.out
            obtain ⟨dF1_0, dF1_1, dF1_2, dF1_3, dF1_4, dF1_5, dF1_6, dF1_7⟩ := froz8 F1.out
            have u0n := Kd.R_ne u0 f1 (by decide)
            have u1n := Kd.R_ne u1 f1 (by decide)
            have u2n := Kd.R_ne u2 f1 (by decide)
            have Z := Lib.hid (⟨f0, f1, u0, u1, u2, hr, hd, u0n, u1n, u2n⟩ : _ ∧ _ ∧ _ ∧ _ ∧ _ ∧ _ ∧ _ ∧ _ ∧ _ ∧ _)
            have HG1 := Aside0.mk hg1
            have HL1 := Lib.hid hl1
            have FFH := Aside0.mk ff
            clear ff f0 f1 fx u0 u1 u2 hr hd u0n u1n u2n hg1 hl1
            go_wp2
            · go_roundg (k - 1)
              case measure => omega
              case rel => exact ⟨k - 1, fi + 1, 0, _, ⟨c.f0, c.f1, st1, at1, outs1⟩, P, e2, Nat.le_refl _, by omega, congrArg (Value.int .i64) (by omega), rfl, by omega, fun h => absurd h (by omega), HG1, ⟨⟨blk_far (blk_far (blk_far (blk_far (blk_far (blk_far (blk_far (blk_far (Z.out.1) (by show w.heap.size ≠ bc; omega) _) (by show w.heap.size ≠ bc; omega) _) (by show w.heap.size ≠ bc; omega) _) (by show w.heap.size ≠ bc; omega) _) (by show w.heap.size ≠ bc; omega) _) (by show w.heap.size ≠ bc; omega) _) (by show w.heap.size ≠ bc; omega) _) (by show w.heap.size ≠ bc; omega) _, (blk_set1 (blk_set1 (blk_set1 (blk_set1 (blk_set1 (blk_set1 (blk_set1 (blk_set1 (Z.out.2.1) 0 _) 1 _) 2 _) 3 _) 4 _) 5 _) 6 _) 7 _).trans (by first | (simp; done) | (simp; exact HL1.out.symm)), R_put1 (R_put1 (R_put1 (R_put1 (R_put1 (R_put1 (R_put1 (R_put1 (Z.out.2.2.1) rfl Z.out.2.2.2.2.2.2.2.1) rfl Z.out.2.2.2.2.2.2.2.1) rfl Z.out.2.2.2.2.2.2.2.1) rfl Z.out.2.2.2.2.2.2.2.1) rfl Z.out.2.2.2.2.2.2.2.1) rfl Z.out.2.2.2.2.2.2.2.1) rfl Z.out.2.2.2.2.2.2.2.1) rfl Z.out.2.2.2.2.2.2.2.1, R_put1 (R_put1 (R_put1 (R_put1 (R_put1 (R_put1 (R_put1 (R_put1 (Z.out.2.2.2.1) rfl Z.out.2.2.2.2.2.2.2.2.1) rfl Z.out.2.2.2.2.2.2.2.2.1) rfl Z.out.2.2.2.2.2.2.2.2.1) rfl Z.out.2.2.2.2.2.2.2.2.1) rfl Z.out.2.2.2.2.2.2.2.2.1) rfl Z.out.2.2.2.2.2.2.2.2.1) rfl Z.out.2.2.2.2.2.2.2.2.1) rfl Z.out.2.2.2.2.2.2.2.2.1, (by rw [HL1.out]; exact R_put1 (R_put1 (R_put1 (R_put1 (R_put1 (R_put1 (R_put1 (R_put1 (Z.out.2.2.2.2.1) rfl Z.out.2.2.2.2.2.2.2.2.2) rfl Z.out.2.2.2.2.2.2.2.2.2) rfl Z.out.2.2.2.2.2.2.2.2.2) rfl Z.out.2.2.2.2.2.2.2.2.2) rfl Z.out.2.2.2.2.2.2.2.2.2) rfl Z.out.2.2.2.2.2.2.2.2.2) rfl Z.out.2.2.2.2.2.2.2.2.2) rfl Z.out.2.2.2.2.2.2.2.2.2), (Rd.set (Rd.set (Rd.set (Rd.set (Rd.set (Rd.set (Rd.set (Rd.set (Z.out.2.2.2.2.2.1) _ (by show g < bc; omega)) _ (by show g < bc; omega)) _ (by show g < bc; omega)) _ (by show g < bc; omega)) _ (by show g < bc; omega)) _ (by show g < bc; omega)) _ (by show g < bc; omega)) _ (by show g < bc; omega)).up (by omega), Dr.set (Dr.set (Dr.set (Dr.set (Dr.set (Dr.set (Dr.set (Dr.set (Z.out.2.2.2.2.2.2.1) _ (.inl (by show w.heap.size ≤ bc; omega))) _ (.inl (by show w.heap.size ≤ bc; omega))) _ (.inl (by show w.heap.size ≤ bc; omega))) _ (.inl (by show w.heap.size ≤ bc; omega))) _ (.inl (by show w.heap.size ≤ bc; omega))) _ (.inl (by show w.heap.size ≤ bc; omega))) _ (.inl (by show w.heap.size ≤ bc; omega))) _ (.inl (by show w.heap.size ≤ bc; omega))⟩⟩, ⟨blk_far (blk_far (blk_far (blk_far (blk_far (blk_far (blk_far (blk_far (FFH.out) (by show bf ≠ bc; omega) _) (by show bf ≠ bc; omega) _) (by show bf ≠ bc; omega) _) (by show bf ≠ bc; omega) _) (by show bf ≠ bc; omega) _) (by show bf ≠ bc; omega) _) (by show bf ≠ bc; omega) _) (by show bf ≠ bc; omega) _⟩⟩
            · go_roundg (k - 1)
              case measure => omega
              case rel => exact ⟨k - 1, fi + 1, L - 1, _, ⟨c.f0, c.f1, st1, at1, outs1⟩, P, e2, Nat.le_refl _, by omega, congrArg (Value.int .i64) (by omega), rfl, by omega, fun _ => rfl, HG1, ⟨⟨blk_far (blk_far (blk_far (blk_far (blk_far (blk_far (blk_far (blk_far (Z.out.1) (by show w.heap.size ≠ bc; omega) _) (by show w.heap.size ≠ bc; omega) _) (by show w.heap.size ≠ bc; omega) _) (by show w.heap.size ≠ bc; omega) _) (by show w.heap.size ≠ bc; omega) _) (by show w.heap.size ≠ bc; omega) _) (by show w.heap.size ≠ bc; omega) _) (by show w.heap.size ≠ bc; omega) _, (blk_set1 (blk_set1 (blk_set1 (blk_set1 (blk_set1 (blk_set1 (blk_set1 (blk_set1 (Z.out.2.1) 0 _) 1 _) 2 _) 3 _) 4 _) 5 _) 6 _) 7 _).trans (by first | (simp; done) | (simp; exact HL1.out.symm)), R_put1 (R_put1 (R_put1 (R_put1 (R_put1 (R_put1 (R_put1 (R_put1 (Z.out.2.2.1) rfl Z.out.2.2.2.2.2.2.2.1) rfl Z.out.2.2.2.2.2.2.2.1) rfl Z.out.2.2.2.2.2.2.2.1) rfl Z.out.2.2.2.2.2.2.2.1) rfl Z.out.2.2.2.2.2.2.2.1) rfl Z.out.2.2.2.2.2.2.2.1) rfl Z.out.2.2.2.2.2.2.2.1) rfl Z.out.2.2.2.2.2.2.2.1, R_put1 (R_put1 (R_put1 (R_put1 (R_put1 (R_put1 (R_put1 (R_put1 (Z.out.2.2.2.1) rfl Z.out.2.2.2.2.2.2.2.2.1) rfl Z.out.2.2.2.2.2.2.2.2.1) rfl Z.out.2.2.2.2.2.2.2.2.1) rfl Z.out.2.2.2.2.2.2.2.2.1) rfl Z.out.2.2.2.2.2.2.2.2.1) rfl Z.out.2.2.2.2.2.2.2.2.1) rfl Z.out.2.2.2.2.2.2.2.2.1) rfl Z.out.2.2.2.2.2.2.2.2.1, (by rw [HL1.out]; exact R_put1 (R_put1 (R_put1 (R_put1 (R_put1 (R_put1 (R_put1 (R_put1 (Z.out.2.2.2.2.1) rfl Z.out.2.2.2.2.2.2.2.2.2) rfl Z.out.2.2.2.2.2.2.2.2.2) rfl Z.out.2.2.2.2.2.2.2.2.2) rfl Z.out.2.2.2.2.2.2.2.2.2) rfl Z.out.2.2.2.2.2.2.2.2.2) rfl Z.out.2.2.2.2.2.2.2.2.2) rfl Z.out.2.2.2.2.2.2.2.2.2) rfl Z.out.2.2.2.2.2.2.2.2.2), (Rd.set (Rd.set (Rd.set (Rd.set (Rd.set (Rd.set (Rd.set (Rd.set (Z.out.2.2.2.2.2.1) _ (by show g < bc; omega)) _ (by show g < bc; omega)) _ (by show g < bc; omega)) _ (by show g < bc; omega)) _ (by show g < bc; omega)) _ (by show g < bc; omega)) _ (by show g < bc; omega)) _ (by show g < bc; omega)).up (by omega), Dr.set (Dr.set (Dr.set (Dr.set (Dr.set (Dr.set (Dr.set (Dr.set (Z.out.2.2.2.2.2.2.1) _ (.inl (by show w.heap.size ≤ bc; omega))) _ (.inl (by show w.heap.size ≤ bc; omega))) _ (.inl (by show w.heap.size ≤ bc; omega))) _ (.inl (by show w.heap.size ≤ bc; omega))) _ (.inl (by show w.heap.size ≤ bc; omega))) _ (.inl (by show w.heap.size ≤ bc; omega))) _ (.inl (by show w.heap.size ≤ bc; omega))) _ (.inl (by show w.heap.size ≤ bc; omega))⟩⟩, ⟨blk_far (blk_far (blk_far (blk_far (blk_far (blk_far (blk_far (blk_far (FFH.out) (by show bf ≠ bc; omega) _) (by show bf ≠ bc; omega) _) (by show bf ≠ bc; omega) _) (by show bf ≠ bc; omega) _) (by show bf ≠ bc; omega) _) (by show bf ≠ bc; omega) _) (by show bf ≠ bc; omega) _) (by show bf ≠ bc; omega) _⟩⟩
        · have hL' : ¬ (0 : Int) < (L : Int) := by omega
          obtain ⟨cF0_0, cF0_1, cF0_2, cF0_3, cF0_4, cF0_5, cF0_6, cF0_7⟩ := cells8 F0.out
          obtain ⟨dF0_0, dF0_1, dF0_2, dF0_3, dF0_4, dF0_5, dF0_6, dF0_7⟩ := froz8 F0.out
          obtain ⟨cF1_0, cF1_1, cF1_2, cF1_3, cF1_4, cF1_5, cF1_6, cF1_7⟩ := cells8 F1.out
          go_wp2
          refine bodyPost_ret (v := .agg #[.string c.f0, .string c.f1.f0.f0, .string c.f1.f0.f1, .slice B0 c.f1.f1.length d0, .slice B1 c.f1.f2.length d1, .int .i64 c.f2, .int .i64 c.f3, .slice B2 c.f4.length d2]) ?hrB rfl ?hpB
          case hrB => simp [results, Tryz.results75, go_sem, cF0_0, cF0_1, cF0_2, cF0_3, cF0_4, cF0_5, cF0_6, cF0_7]
          case hpB => exact ⟨c, B0, d0, B1, d1, B2, d2, rfl, HGC.out, (by (with_reducible repeat (first | exact U0.out | refine R_put1 ?_ rfl (Kd.R_ne U0.out F0.out (by decide))))), (by (with_reducible repeat (first | exact U1.out | refine R_put1 ?_ rfl (Kd.R_ne U1.out F0.out (by decide))))), (by (with_reducible repeat (first | exact U2.out | refine R_put1 ?_ rfl (Kd.R_ne U2.out F0.out (by decide))))), (Rd.at HR.out (by (with_reducible repeat (first | exact Keep.refl (Rd.lt HR.out) | refine Keep.alloc ?_ _ | refine Keep.drewN ?_ _ | refine Keep.drew ?_ | refine Keep.set ?_ _ ?_)); all_goals (first | (simp; done) | (simp; omega) | omega))).up (by omega), by (with_reducible repeat (first | exact HD.out | refine Dr.alloc ?_ _ | refine Dr.drewN ?_ _ | refine Dr.drew ?_ | refine Dr.set ?_ _ ?_)); all_goals (first | (left; simp; done) | (left; simp; omega) | (left; omega) | (right; rfl))⟩
      · have hlt' : ¬ (0 : Int) < (k : Int) := by omega
        obtain ⟨cF0_0, cF0_1, cF0_2, cF0_3, cF0_4, cF0_5, cF0_6, cF0_7⟩ := cells8 F0.out
        obtain ⟨dF0_0, dF0_1, dF0_2, dF0_3, dF0_4, dF0_5, dF0_6, dF0_7⟩ := froz8 F0.out
        obtain ⟨cF1_0, cF1_1, cF1_2, cF1_3, cF1_4, cF1_5, cF1_6, cF1_7⟩ := cells8 F1.out
        go_wp2
        refine bodyPost_ret (v := .agg #[.string c.f0, .string c.f1.f0.f0, .string c.f1.f0.f1, .slice B0 c.f1.f1.length d0, .slice B1 c.f1.f2.length d1, .int .i64 c.f2, .int .i64 c.f3, .slice B2 c.f4.length d2]) ?hrC rfl ?hpC
        case hrC => simp [results, Tryz.results75, go_sem, cF0_0, cF0_1, cF0_2, cF0_3, cF0_4, cF0_5, cF0_6, cF0_7]
        case hpC => exact ⟨c, B0, d0, B1, d1, B2, d2, rfl, HGC.out, (by (with_reducible repeat (first | exact U0.out | refine R_put1 ?_ rfl (Kd.R_ne U0.out F0.out (by decide))))), (by (with_reducible repeat (first | exact U1.out | refine R_put1 ?_ rfl (Kd.R_ne U1.out F0.out (by decide))))), (by (with_reducible repeat (first | exact U2.out | refine R_put1 ?_ rfl (Kd.R_ne U2.out F0.out (by decide))))), (Rd.at HR.out (by (with_reducible repeat (first | exact Keep.refl (Rd.lt HR.out) | refine Keep.alloc ?_ _ | refine Keep.drewN ?_ _ | refine Keep.drew ?_ | refine Keep.set ?_ _ ?_)); all_goals (first | (simp; done) | (simp; omega) | omega))).up (by omega), by (with_reducible repeat (first | exact HD.out | refine Dr.alloc ?_ _ | refine Dr.drewN ?_ _ | refine Dr.drew ?_ | refine Dr.set ?_ _ ?_)); all_goals (first | (left; simp; done) | (left; simp; omega) | (left; omega) | (right; rfl))⟩

end Go.Proofs.YtoppgnmnbbhghaaGreatDoor

/- Drawn clients, any: a weak contract. -/
namespace Go.Proofs.YtoppgnmnbbhghaaGreatDoor
open Go.RowKit Go.Proofs.YtoppgnmnbbhghaaGreatDoorW.PrintWords
set_option linter.unusedVariables false
set_option linter.unusedSimpArgs false

theorem goodC_fit {c : SCli} (h : goodC c) : fitCli c := by
  obtain ⟨h0, h1, h2, h3, h4, h5, h6⟩ := h
  have hl : c.f1.f1.length ≤ 4 := h1.2.1.2.1
  exact ⟨by omega, fitM_of h1, WalkArith.wf_i64 (by omega), WalkArith.wf_i64 (by omega), by omega, fun y hy => WalkArith.wf_i64 (by have := h6 y hy; omega)⟩
theorem goodC_len {c : SCli} (h : goodC c) : c.f4.length ≤ 4 := by have h5 := h.2.2.2.2.2.1; have hl : c.f1.f1.length ≤ 4 := h.2.1.2.1.2.1; omega
theorem goodC_fitS {c : SCli} {k : Int} (h : goodC c) (h0 : -100 ≤ k) (h1 : k ≤ 100) : fitCli ⟨c.f0, c.f1, k, c.f3, c.f4⟩ := ⟨(goodC_fit h).1, (goodC_fit h).2.1, WalkArith.wf_i64 (by dsimp only; omega), (goodC_fit h).2.2.2.1, (goodC_fit h).2.2.2.2⟩
theorem goodC_fitT {c : SCli} {k : Int} (h : goodC c) (h0 : -100 ≤ k) (h1 : k ≤ 100) : fitCli ⟨c.f0, c.f1, c.f2, k, c.f4⟩ := ⟨(goodC_fit h).1, (goodC_fit h).2.1, (goodC_fit h).2.2.1, WalkArith.wf_i64 (by dsimp only; omega), (goodC_fit h).2.2.2.2⟩
theorem goodC_fitO {c : SCli} (h : goodC c) : fitCli ⟨c.f0, c.f1, c.f2, c.f3, c.f4 ++ [0]⟩ := ⟨(goodC_fit h).1, (goodC_fit h).2.1, (goodC_fit h).2.2.1, (goodC_fit h).2.2.2.1, by
  have h5 := h.2.2.2.2.2.1
  have hl : c.f1.f1.length ≤ 4 := h.2.1.2.1.2.1
  refine ⟨by show (c.f4 ++ [(0 : Int)]).length ≤ 1048576; rw [List.length_append]; simp; omega, fun y hy => ?_⟩
  rcases List.mem_append.1 hy with hy | hy
  · exact (goodC_fit h).2.2.2.2.2 y hy
  · obtain rfl := List.mem_singleton.1 hy
    decide⟩
set_option maxRecDepth 100000 in
set_option maxHeartbeats 8000000 in
theorem drAnyCli_any (g m : Nat) (w : World) (h : Rd g m w) (hm : m + 142 ≤ 1000000000) :
    Calls Tryz.prog 31 #[.pointer (some ⟨g, 0, none⟩)] w fun e w' => ∃ (x : SCli) (A0 : Option Addr) (c0 : Nat) (A1 : Option Addr) (c1 : Nat) (A2 : Option Addr) (c2 : Nat), e = .returned (.agg #[.string x.f0, .string x.f1.f0.f0, .string x.f1.f0.f1, .slice A0 x.f1.f1.length c0, .slice A1 x.f1.f2.length c1, .int .i64 x.f2, .int .i64 x.f3, .slice A2 x.f4.length c2]) ∧ fitCli x ∧ Kd.R kAddr 24 w' w.heap.size (fun _ => True) (.slice A0 x.f1.f1.length c0) x.f1.f1 ∧ Kd.R Kd.string 9 w' w.heap.size (fun _ => True) (.slice A1 x.f1.f2.length c1) x.f1.f2 ∧ Kd.R (Kd.int .i64) 3 w' w.heap.size (fun _ => True) (.slice A2 x.f4.length c2) x.f4 ∧ Rd g (m + 142) w' ∧ Dr g w w' := by
  have HR := Aside0.mk h
  have HD := Aside0.mk (Dr.refl g w)
  have hgl := h.lt
  have ng0 : ¬ w.heap.size = g := by omega
  have ng1 : ¬ w.heap.size + 1 = g := by omega
  have ng2 : ¬ w.heap.size + 2 = g := by omega
  clear h
  go_enter Tryz.func31, Tryz.ntmps31
  go_wp2_with (first | (go_at_call 75; (with_reducible refine Calls.mono (drCli_any g _ _ (Rd.at HR.out (by (with_reducible repeat (first | exact Keep.refl (Rd.lt HR.out) | refine Keep.alloc ?_ _ | refine Keep.drewN ?_ _ | refine Keep.drew ?_ | refine Keep.set ?_ _ ?_)); all_goals (first | (simp; done) | (simp; omega) | omega))) (by omega)) ?_); (rintro e w1 ⟨c, B0, d0, B1, d1, B2, d2, rfl, hgc, r0, r1, r2, hr_, hd_⟩); (have y1 := hd_.size); ((try simp at y1)); (have nF0 : w1.heap[w.heap.size]? = some (.cells #[.string ⟨#[]⟩, .string ⟨#[]⟩, .string ⟨#[]⟩, .slice none 0 0, .slice none 0 0, .int .i64 0, .int .i64 0, .slice none 0 0] 31 (0, 0)) := hd_.blk (by (with_reducible repeat (first | exact blk_at _ _ (by first | (simp; done) | (simp; omega)) | refine blk_alloc ?_ _ | refine blk_drew ?_ | refine blk_drewN ?_ _ | refine blk_set ?_ _ _ | refine blk_far ?_ ?_ _)); all_goals (first | (simp; done) | (simp; omega) | omega)) (by omega)); (have F0 := Aside0.mk nF0); (have cF0_0 : w1.cell? ⟨w.heap.size, 0, none⟩ = some (.string ⟨#[]⟩) := (by simp [World.cell?, nF0])); (have cF0_1 : w1.cell? ⟨w.heap.size, 1, none⟩ = some (.string ⟨#[]⟩) := (by simp [World.cell?, nF0])); (have cF0_2 : w1.cell? ⟨w.heap.size, 2, none⟩ = some (.string ⟨#[]⟩) := (by simp [World.cell?, nF0])); (have cF0_3 : w1.cell? ⟨w.heap.size, 3, none⟩ = some (.slice none 0 0) := (by simp [World.cell?, nF0])); (have cF0_4 : w1.cell? ⟨w.heap.size, 4, none⟩ = some (.slice none 0 0) := (by simp [World.cell?, nF0])); (have cF0_5 : w1.cell? ⟨w.heap.size, 5, none⟩ = some (.int .i64 0) := (by simp [World.cell?, nF0])); (have cF0_6 : w1.cell? ⟨w.heap.size, 6, none⟩ = some (.int .i64 0) := (by simp [World.cell?, nF0])); (have cF0_7 : w1.cell? ⟨w.heap.size, 7, none⟩ = some (.slice none 0 0) := (by simp [World.cell?, nF0])); (have dF0_0 : w1.frozen? ⟨w.heap.size, 0, none⟩ = false := (by simp [World.frozen?, nF0])); (have dF0_1 : w1.frozen? ⟨w.heap.size, 1, none⟩ = false := (by simp [World.frozen?, nF0])); (have dF0_2 : w1.frozen? ⟨w.heap.size, 2, none⟩ = false := (by simp [World.frozen?, nF0])); (have dF0_3 : w1.frozen? ⟨w.heap.size, 3, none⟩ = false := (by simp [World.frozen?, nF0])); (have dF0_4 : w1.frozen? ⟨w.heap.size, 4, none⟩ = false := (by simp [World.frozen?, nF0])); (have dF0_5 : w1.frozen? ⟨w.heap.size, 5, none⟩ = false := (by simp [World.frozen?, nF0])); (have dF0_6 : w1.frozen? ⟨w.heap.size, 6, none⟩ = false := (by simp [World.frozen?, nF0])); (have dF0_7 : w1.frozen? ⟨w.heap.size, 7, none⟩ = false := (by simp [World.frozen?, nF0])); (clear nF0); (have hd2_ : Dr g w w1 := Dr.then_ (by (with_reducible repeat (first | exact HD.out | refine Dr.alloc ?_ _ | refine Dr.drewN ?_ _ | refine Dr.drew ?_ | refine Dr.set ?_ _ ?_)); all_goals (first | (left; simp; done) | (left; simp; omega) | (left; omega) | (right; rfl))) hd_); (clear HR HD); (have HR := Aside0.mk hr_); (have HD := Aside0.mk hd2_); (clear hr_ hd_ hd2_); have U0 := Aside0.mk (Kd.R_lower (base' := w.heap.size) r0 (by first | (simp; done) | (simp; omega) | omega)); have U1 := Aside0.mk (Kd.R_lower (base' := w.heap.size) r1 (by first | (simp; done) | (simp; omega) | omega)); have U2 := Aside0.mk (Kd.R_lower (base' := w.heap.size) r2 (by first | (simp; done) | (simp; omega) | omega)); clear r0 r1 r2; have hl4 := goodC_len hgc) | (go_at_call 76; (with_reducible refine Calls.mono (pick_any g _ 12 _ (Rd.at HR.out (by (with_reducible repeat (first | exact Keep.refl (Rd.lt HR.out) | refine Keep.alloc ?_ _ | refine Keep.drewN ?_ _ | refine Keep.drew ?_ | refine Keep.set ?_ _ ?_)); all_goals (first | (simp; done) | (simp; omega) | omega))) (by omega) (by omega)) ?_); (rintro e w2 ⟨k2, rfl, hk2, hr_, hd_⟩); (have y2 := hd_.size); ((try simp at y2)); (have nF0 : w2.heap[w.heap.size]? = some (.cells #[.string ⟨#[]⟩, .string ⟨#[]⟩, .string ⟨#[]⟩, .slice none 0 0, .slice none 0 0, .int .i64 0, .int .i64 0, .slice none 0 0] 31 (0, 0)) := hd_.blk (by (with_reducible repeat (first | exact blk_at _ _ (by first | (simp; done) | (simp; omega)) | exact F0.out | refine blk_alloc ?_ _ | refine blk_drew ?_ | refine blk_drewN ?_ _ | refine blk_set ?_ _ _ | refine blk_far ?_ ?_ _)); all_goals (first | (simp; done) | (simp; omega) | omega)) (by omega)); (have nF1 : w2.heap[w1.heap.size]? = some (.cells #[.string c.f0, .string c.f1.f0.f0, .string c.f1.f0.f1, .slice B0 c.f1.f1.length d0, .slice B1 c.f1.f2.length d1, .int .i64 c.f2, .int .i64 c.f3, .slice B2 c.f4.length d2] 31 (0, 0)) := hd_.blk (by (with_reducible repeat (first | exact blk_at _ _ (by first | (simp; done) | (simp; omega)) | refine blk_alloc ?_ _ | refine blk_drew ?_ | refine blk_drewN ?_ _ | refine blk_set ?_ _ _ | refine blk_far ?_ ?_ _)); all_goals (first | (simp; done) | (simp; omega) | omega)) (by omega)); (have nU0 := hd_.R2 U0.out (by (with_reducible repeat (first | exact Below.refl _ _ | refine bel_alloc ?_ _ | refine blw_drewN ?_ _ | refine Below.drew ?_))) (by omega)); (have nU1 := hd_.R2 U1.out (by (with_reducible repeat (first | exact Below.refl _ _ | refine bel_alloc ?_ _ | refine blw_drewN ?_ _ | refine Below.drew ?_))) (by omega)); (have nU2 := hd_.R2 U2.out (by (with_reducible repeat (first | exact Below.refl _ _ | refine bel_alloc ?_ _ | refine blw_drewN ?_ _ | refine Below.drew ?_))) (by omega)); ((try clear cF0_0 cF0_1 cF0_2 cF0_3 cF0_4 cF0_5 cF0_6 cF0_7)); ((try clear dF0_0 dF0_1 dF0_2 dF0_3 dF0_4 dF0_5 dF0_6 dF0_7)); (clear F0); (have F0 := Aside0.mk nF0); (have cF0_0 : w2.cell? ⟨w.heap.size, 0, none⟩ = some (.string ⟨#[]⟩) := (by simp [World.cell?, nF0])); (have cF0_1 : w2.cell? ⟨w.heap.size, 1, none⟩ = some (.string ⟨#[]⟩) := (by simp [World.cell?, nF0])); (have cF0_2 : w2.cell? ⟨w.heap.size, 2, none⟩ = some (.string ⟨#[]⟩) := (by simp [World.cell?, nF0])); (have cF0_3 : w2.cell? ⟨w.heap.size, 3, none⟩ = some (.slice none 0 0) := (by simp [World.cell?, nF0])); (have cF0_4 : w2.cell? ⟨w.heap.size, 4, none⟩ = some (.slice none 0 0) := (by simp [World.cell?, nF0])); (have cF0_5 : w2.cell? ⟨w.heap.size, 5, none⟩ = some (.int .i64 0) := (by simp [World.cell?, nF0])); (have cF0_6 : w2.cell? ⟨w.heap.size, 6, none⟩ = some (.int .i64 0) := (by simp [World.cell?, nF0])); (have cF0_7 : w2.cell? ⟨w.heap.size, 7, none⟩ = some (.slice none 0 0) := (by simp [World.cell?, nF0])); (have dF0_0 : w2.frozen? ⟨w.heap.size, 0, none⟩ = false := (by simp [World.frozen?, nF0])); (have dF0_1 : w2.frozen? ⟨w.heap.size, 1, none⟩ = false := (by simp [World.frozen?, nF0])); (have dF0_2 : w2.frozen? ⟨w.heap.size, 2, none⟩ = false := (by simp [World.frozen?, nF0])); (have dF0_3 : w2.frozen? ⟨w.heap.size, 3, none⟩ = false := (by simp [World.frozen?, nF0])); (have dF0_4 : w2.frozen? ⟨w.heap.size, 4, none⟩ = false := (by simp [World.frozen?, nF0])); (have dF0_5 : w2.frozen? ⟨w.heap.size, 5, none⟩ = false := (by simp [World.frozen?, nF0])); (have dF0_6 : w2.frozen? ⟨w.heap.size, 6, none⟩ = false := (by simp [World.frozen?, nF0])); (have dF0_7 : w2.frozen? ⟨w.heap.size, 7, none⟩ = false := (by simp [World.frozen?, nF0])); (clear nF0); (have F1 := Aside0.mk nF1); (have cF1_0 : w2.cell? ⟨w1.heap.size, 0, none⟩ = some (.string c.f0) := (by simp [World.cell?, nF1])); (have cF1_1 : w2.cell? ⟨w1.heap.size, 1, none⟩ = some (.string c.f1.f0.f0) := (by simp [World.cell?, nF1])); (have cF1_2 : w2.cell? ⟨w1.heap.size, 2, none⟩ = some (.string c.f1.f0.f1) := (by simp [World.cell?, nF1])); (have cF1_3 : w2.cell? ⟨w1.heap.size, 3, none⟩ = some (.slice B0 c.f1.f1.length d0) := (by simp [World.cell?, nF1])); (have cF1_4 : w2.cell? ⟨w1.heap.size, 4, none⟩ = some (.slice B1 c.f1.f2.length d1) := (by simp [World.cell?, nF1])); (have cF1_5 : w2.cell? ⟨w1.heap.size, 5, none⟩ = some (.int .i64 c.f2) := (by simp [World.cell?, nF1])); (have cF1_6 : w2.cell? ⟨w1.heap.size, 6, none⟩ = some (.int .i64 c.f3) := (by simp [World.cell?, nF1])); (have cF1_7 : w2.cell? ⟨w1.heap.size, 7, none⟩ = some (.slice B2 c.f4.length d2) := (by simp [World.cell?, nF1])); (have dF1_0 : w2.frozen? ⟨w1.heap.size, 0, none⟩ = false := (by simp [World.frozen?, nF1])); (have dF1_1 : w2.frozen? ⟨w1.heap.size, 1, none⟩ = false := (by simp [World.frozen?, nF1])); (have dF1_2 : w2.frozen? ⟨w1.heap.size, 2, none⟩ = false := (by simp [World.frozen?, nF1])); (have dF1_3 : w2.frozen? ⟨w1.heap.size, 3, none⟩ = false := (by simp [World.frozen?, nF1])); (have dF1_4 : w2.frozen? ⟨w1.heap.size, 4, none⟩ = false := (by simp [World.frozen?, nF1])); (have dF1_5 : w2.frozen? ⟨w1.heap.size, 5, none⟩ = false := (by simp [World.frozen?, nF1])); (have dF1_6 : w2.frozen? ⟨w1.heap.size, 6, none⟩ = false := (by simp [World.frozen?, nF1])); (have dF1_7 : w2.frozen? ⟨w1.heap.size, 7, none⟩ = false := (by simp [World.frozen?, nF1])); (clear nF1); (clear U0); (have U0 := Aside0.mk nU0); (clear nU0); (clear U1); (have U1 := Aside0.mk nU1); (clear nU1); (clear U2); (have U2 := Aside0.mk nU2); (clear nU2); (have hd2_ : Dr g w w2 := Dr.then_ (by (with_reducible repeat (first | exact HD.out | refine Dr.alloc ?_ _ | refine Dr.drewN ?_ _ | refine Dr.drew ?_ | refine Dr.set ?_ _ ?_)); all_goals (first | (left; simp; done) | (left; simp; omega) | (left; omega) | (right; rfl))) hd_); (clear HR HD); (have HR := Aside0.mk hr_); (have HD := Aside0.mk hd2_); (clear hr_ hd_ hd2_)) | (first | (go_at_call 44; (with_reducible refine Calls.mono (one_any (-1) 9 g _ _ _ _ _ _ _ (Rd.at HR.out (by (with_reducible repeat (first | exact Keep.refl (Rd.lt HR.out) | refine Keep.alloc ?_ _ | refine Keep.drewN ?_ _ | refine Keep.drew ?_ | refine Keep.set ?_ _ ?_)); all_goals (first | (simp; done) | (simp; omega) | omega))) (by omega) (blk_at _ _ (by first | (simp; done) | (simp; omega))) (by decide) (by decide) (by decide) (by decide) (by decide)) ?_); (rintro e w3 ⟨k3, rfl, hk3, hr_, hd_⟩); (have y3 := hd_.size); ((try simp at y3)); (have nF0 : w3.heap[w.heap.size]? = some (.cells #[.string ⟨#[]⟩, .string ⟨#[]⟩, .string ⟨#[]⟩, .slice none 0 0, .slice none 0 0, .int .i64 0, .int .i64 0, .slice none 0 0] 31 (0, 0)) := hd_.blk (by (with_reducible repeat (first | exact blk_at _ _ (by first | (simp; done) | (simp; omega)) | exact F0.out | refine blk_alloc ?_ _ | refine blk_drew ?_ | refine blk_drewN ?_ _ | refine blk_set ?_ _ _ | refine blk_far ?_ ?_ _)); all_goals (first | (simp; done) | (simp; omega) | omega)) (by omega)); (have nF1 : w3.heap[w1.heap.size]? = some (.cells #[.string c.f0, .string c.f1.f0.f0, .string c.f1.f0.f1, .slice B0 c.f1.f1.length d0, .slice B1 c.f1.f2.length d1, .int .i64 c.f2, .int .i64 c.f3, .slice B2 c.f4.length d2] 31 (0, 0)) := hd_.blk (by (with_reducible repeat (first | exact blk_at _ _ (by first | (simp; done) | (simp; omega)) | exact F1.out | refine blk_alloc ?_ _ | refine blk_drew ?_ | refine blk_drewN ?_ _ | refine blk_set ?_ _ _ | refine blk_far ?_ ?_ _)); all_goals (first | (simp; done) | (simp; omega) | omega)) (by omega)); (have nU0 := hd_.R2 U0.out (by (with_reducible repeat (first | exact Below.refl _ _ | refine bel_alloc ?_ _ | refine blw_drewN ?_ _ | refine Below.drew ?_))) (by omega)); (have nU1 := hd_.R2 U1.out (by (with_reducible repeat (first | exact Below.refl _ _ | refine bel_alloc ?_ _ | refine blw_drewN ?_ _ | refine Below.drew ?_))) (by omega)); (have nU2 := hd_.R2 U2.out (by (with_reducible repeat (first | exact Below.refl _ _ | refine bel_alloc ?_ _ | refine blw_drewN ?_ _ | refine Below.drew ?_))) (by omega)); ((try clear cF0_0 cF0_1 cF0_2 cF0_3 cF0_4 cF0_5 cF0_6 cF0_7)); ((try clear dF0_0 dF0_1 dF0_2 dF0_3 dF0_4 dF0_5 dF0_6 dF0_7)); ((try clear cF1_0 cF1_1 cF1_2 cF1_3 cF1_4 cF1_5 cF1_6 cF1_7)); ((try clear dF1_0 dF1_1 dF1_2 dF1_3 dF1_4 dF1_5 dF1_6 dF1_7)); (clear F0 F1); (have F0 := Aside0.mk nF0); (have cF0_0 : w3.cell? ⟨w.heap.size, 0, none⟩ = some (.string ⟨#[]⟩) := (by simp [World.cell?, nF0])); (have cF0_1 : w3.cell? ⟨w.heap.size, 1, none⟩ = some (.string ⟨#[]⟩) := (by simp [World.cell?, nF0])); (have cF0_2 : w3.cell? ⟨w.heap.size, 2, none⟩ = some (.string ⟨#[]⟩) := (by simp [World.cell?, nF0])); (have cF0_3 : w3.cell? ⟨w.heap.size, 3, none⟩ = some (.slice none 0 0) := (by simp [World.cell?, nF0])); (have cF0_4 : w3.cell? ⟨w.heap.size, 4, none⟩ = some (.slice none 0 0) := (by simp [World.cell?, nF0])); (have cF0_5 : w3.cell? ⟨w.heap.size, 5, none⟩ = some (.int .i64 0) := (by simp [World.cell?, nF0])); (have cF0_6 : w3.cell? ⟨w.heap.size, 6, none⟩ = some (.int .i64 0) := (by simp [World.cell?, nF0])); (have cF0_7 : w3.cell? ⟨w.heap.size, 7, none⟩ = some (.slice none 0 0) := (by simp [World.cell?, nF0])); (have dF0_0 : w3.frozen? ⟨w.heap.size, 0, none⟩ = false := (by simp [World.frozen?, nF0])); (have dF0_1 : w3.frozen? ⟨w.heap.size, 1, none⟩ = false := (by simp [World.frozen?, nF0])); (have dF0_2 : w3.frozen? ⟨w.heap.size, 2, none⟩ = false := (by simp [World.frozen?, nF0])); (have dF0_3 : w3.frozen? ⟨w.heap.size, 3, none⟩ = false := (by simp [World.frozen?, nF0])); (have dF0_4 : w3.frozen? ⟨w.heap.size, 4, none⟩ = false := (by simp [World.frozen?, nF0])); (have dF0_5 : w3.frozen? ⟨w.heap.size, 5, none⟩ = false := (by simp [World.frozen?, nF0])); (have dF0_6 : w3.frozen? ⟨w.heap.size, 6, none⟩ = false := (by simp [World.frozen?, nF0])); (have dF0_7 : w3.frozen? ⟨w.heap.size, 7, none⟩ = false := (by simp [World.frozen?, nF0])); (clear nF0); (have F1 := Aside0.mk nF1); (have cF1_0 : w3.cell? ⟨w1.heap.size, 0, none⟩ = some (.string c.f0) := (by simp [World.cell?, nF1])); (have cF1_1 : w3.cell? ⟨w1.heap.size, 1, none⟩ = some (.string c.f1.f0.f0) := (by simp [World.cell?, nF1])); (have cF1_2 : w3.cell? ⟨w1.heap.size, 2, none⟩ = some (.string c.f1.f0.f1) := (by simp [World.cell?, nF1])); (have cF1_3 : w3.cell? ⟨w1.heap.size, 3, none⟩ = some (.slice B0 c.f1.f1.length d0) := (by simp [World.cell?, nF1])); (have cF1_4 : w3.cell? ⟨w1.heap.size, 4, none⟩ = some (.slice B1 c.f1.f2.length d1) := (by simp [World.cell?, nF1])); (have cF1_5 : w3.cell? ⟨w1.heap.size, 5, none⟩ = some (.int .i64 c.f2) := (by simp [World.cell?, nF1])); (have cF1_6 : w3.cell? ⟨w1.heap.size, 6, none⟩ = some (.int .i64 c.f3) := (by simp [World.cell?, nF1])); (have cF1_7 : w3.cell? ⟨w1.heap.size, 7, none⟩ = some (.slice B2 c.f4.length d2) := (by simp [World.cell?, nF1])); (have dF1_0 : w3.frozen? ⟨w1.heap.size, 0, none⟩ = false := (by simp [World.frozen?, nF1])); (have dF1_1 : w3.frozen? ⟨w1.heap.size, 1, none⟩ = false := (by simp [World.frozen?, nF1])); (have dF1_2 : w3.frozen? ⟨w1.heap.size, 2, none⟩ = false := (by simp [World.frozen?, nF1])); (have dF1_3 : w3.frozen? ⟨w1.heap.size, 3, none⟩ = false := (by simp [World.frozen?, nF1])); (have dF1_4 : w3.frozen? ⟨w1.heap.size, 4, none⟩ = false := (by simp [World.frozen?, nF1])); (have dF1_5 : w3.frozen? ⟨w1.heap.size, 5, none⟩ = false := (by simp [World.frozen?, nF1])); (have dF1_6 : w3.frozen? ⟨w1.heap.size, 6, none⟩ = false := (by simp [World.frozen?, nF1])); (have dF1_7 : w3.frozen? ⟨w1.heap.size, 7, none⟩ = false := (by simp [World.frozen?, nF1])); (clear nF1); (clear U0); (have U0 := Aside0.mk nU0); (clear nU0); (clear U1); (have U1 := Aside0.mk nU1); (clear nU1); (clear U2); (have U2 := Aside0.mk nU2); (clear nU2); (have hd2_ : Dr g w w3 := Dr.then_ (by (with_reducible repeat (first | exact HD.out | refine Dr.alloc ?_ _ | refine Dr.drewN ?_ _ | refine Dr.drew ?_ | refine Dr.set ?_ _ ?_)); all_goals (first | (left; simp; done) | (left; simp; omega) | (left; omega) | (right; rfl))) hd_); (clear HR HD); (have HR := Aside0.mk hr_); (have HD := Aside0.mk hd2_); (clear hr_ hd_ hd2_)) | (go_at_call 44; (with_reducible refine Calls.mono (one_any (-1) 9 g _ _ _ _ _ _ _ (Rd.at HR.out (by (with_reducible repeat (first | exact Keep.refl (Rd.lt HR.out) | refine Keep.alloc ?_ _ | refine Keep.drewN ?_ _ | refine Keep.drew ?_ | refine Keep.set ?_ _ ?_)); all_goals (first | (simp; done) | (simp; omega) | omega))) (by omega) (blk_at _ _ (by first | (simp; done) | (simp; omega))) (by decide) (by decide) (by decide) (by decide) (by decide)) ?_); (rintro e w3 ⟨k3, rfl, hk3, hr_, hd_⟩); (have y3 := hd_.size); ((try simp at y3)); (have nF0 : w3.heap[w.heap.size]? = some (.cells #[.string ⟨#[]⟩, .string ⟨#[]⟩, .string ⟨#[]⟩, .slice none 0 0, .slice none 0 0, .int .i64 0, .int .i64 0, .slice none 0 0] 31 (0, 0)) := hd_.blk (by (with_reducible repeat (first | exact blk_at _ _ (by first | (simp; done) | (simp; omega)) | exact F0.out | refine blk_alloc ?_ _ | refine blk_drew ?_ | refine blk_drewN ?_ _ | refine blk_set ?_ _ _ | refine blk_far ?_ ?_ _)); all_goals (first | (simp; done) | (simp; omega) | omega)) (by omega)); (have nF1 : w3.heap[w1.heap.size]? = some (.cells #[.string c.f0, .string c.f1.f0.f0, .string c.f1.f0.f1, .slice B0 c.f1.f1.length d0, .slice B1 c.f1.f2.length d1, .int .i64 c.f2, .int .i64 c.f3, .slice B2 c.f4.length d2] 31 (0, 0)) := hd_.blk (by (with_reducible repeat (first | exact blk_at _ _ (by first | (simp; done) | (simp; omega)) | exact F1.out | refine blk_alloc ?_ _ | refine blk_drew ?_ | refine blk_drewN ?_ _ | refine blk_set ?_ _ _ | refine blk_far ?_ ?_ _)); all_goals (first | (simp; done) | (simp; omega) | omega)) (by omega)); (have nU0 := hd_.R2 U0.out (by (with_reducible repeat (first | exact Below.refl _ _ | refine bel_alloc ?_ _ | refine blw_drewN ?_ _ | refine Below.drew ?_))) (by omega)); (have nU1 := hd_.R2 U1.out (by (with_reducible repeat (first | exact Below.refl _ _ | refine bel_alloc ?_ _ | refine blw_drewN ?_ _ | refine Below.drew ?_))) (by omega)); (have nU2 := hd_.R2 U2.out (by (with_reducible repeat (first | exact Below.refl _ _ | refine bel_alloc ?_ _ | refine blw_drewN ?_ _ | refine Below.drew ?_))) (by omega)); ((try clear cF0_0 cF0_1 cF0_2 cF0_3 cF0_4 cF0_5 cF0_6 cF0_7)); ((try clear dF0_0 dF0_1 dF0_2 dF0_3 dF0_4 dF0_5 dF0_6 dF0_7)); ((try clear cF1_0 cF1_1 cF1_2 cF1_3 cF1_4 cF1_5 cF1_6 cF1_7)); ((try clear dF1_0 dF1_1 dF1_2 dF1_3 dF1_4 dF1_5 dF1_6 dF1_7)); (clear F0 F1); (have F0 := Aside0.mk nF0); (have cF0_0 : w3.cell? ⟨w.heap.size, 0, none⟩ = some (.string ⟨#[]⟩) := (by simp [World.cell?, nF0])); (have cF0_1 : w3.cell? ⟨w.heap.size, 1, none⟩ = some (.string ⟨#[]⟩) := (by simp [World.cell?, nF0])); (have cF0_2 : w3.cell? ⟨w.heap.size, 2, none⟩ = some (.string ⟨#[]⟩) := (by simp [World.cell?, nF0])); (have cF0_3 : w3.cell? ⟨w.heap.size, 3, none⟩ = some (.slice none 0 0) := (by simp [World.cell?, nF0])); (have cF0_4 : w3.cell? ⟨w.heap.size, 4, none⟩ = some (.slice none 0 0) := (by simp [World.cell?, nF0])); (have cF0_5 : w3.cell? ⟨w.heap.size, 5, none⟩ = some (.int .i64 0) := (by simp [World.cell?, nF0])); (have cF0_6 : w3.cell? ⟨w.heap.size, 6, none⟩ = some (.int .i64 0) := (by simp [World.cell?, nF0])); (have cF0_7 : w3.cell? ⟨w.heap.size, 7, none⟩ = some (.slice none 0 0) := (by simp [World.cell?, nF0])); (have dF0_0 : w3.frozen? ⟨w.heap.size, 0, none⟩ = false := (by simp [World.frozen?, nF0])); (have dF0_1 : w3.frozen? ⟨w.heap.size, 1, none⟩ = false := (by simp [World.frozen?, nF0])); (have dF0_2 : w3.frozen? ⟨w.heap.size, 2, none⟩ = false := (by simp [World.frozen?, nF0])); (have dF0_3 : w3.frozen? ⟨w.heap.size, 3, none⟩ = false := (by simp [World.frozen?, nF0])); (have dF0_4 : w3.frozen? ⟨w.heap.size, 4, none⟩ = false := (by simp [World.frozen?, nF0])); (have dF0_5 : w3.frozen? ⟨w.heap.size, 5, none⟩ = false := (by simp [World.frozen?, nF0])); (have dF0_6 : w3.frozen? ⟨w.heap.size, 6, none⟩ = false := (by simp [World.frozen?, nF0])); (have dF0_7 : w3.frozen? ⟨w.heap.size, 7, none⟩ = false := (by simp [World.frozen?, nF0])); (clear nF0); (have F1 := Aside0.mk nF1); (have cF1_0 : w3.cell? ⟨w1.heap.size, 0, none⟩ = some (.string c.f0) := (by simp [World.cell?, nF1])); (have cF1_1 : w3.cell? ⟨w1.heap.size, 1, none⟩ = some (.string c.f1.f0.f0) := (by simp [World.cell?, nF1])); (have cF1_2 : w3.cell? ⟨w1.heap.size, 2, none⟩ = some (.string c.f1.f0.f1) := (by simp [World.cell?, nF1])); (have cF1_3 : w3.cell? ⟨w1.heap.size, 3, none⟩ = some (.slice B0 c.f1.f1.length d0) := (by simp [World.cell?, nF1])); (have cF1_4 : w3.cell? ⟨w1.heap.size, 4, none⟩ = some (.slice B1 c.f1.f2.length d1) := (by simp [World.cell?, nF1])); (have cF1_5 : w3.cell? ⟨w1.heap.size, 5, none⟩ = some (.int .i64 c.f2) := (by simp [World.cell?, nF1])); (have cF1_6 : w3.cell? ⟨w1.heap.size, 6, none⟩ = some (.int .i64 c.f3) := (by simp [World.cell?, nF1])); (have cF1_7 : w3.cell? ⟨w1.heap.size, 7, none⟩ = some (.slice B2 c.f4.length d2) := (by simp [World.cell?, nF1])); (have dF1_0 : w3.frozen? ⟨w1.heap.size, 0, none⟩ = false := (by simp [World.frozen?, nF1])); (have dF1_1 : w3.frozen? ⟨w1.heap.size, 1, none⟩ = false := (by simp [World.frozen?, nF1])); (have dF1_2 : w3.frozen? ⟨w1.heap.size, 2, none⟩ = false := (by simp [World.frozen?, nF1])); (have dF1_3 : w3.frozen? ⟨w1.heap.size, 3, none⟩ = false := (by simp [World.frozen?, nF1])); (have dF1_4 : w3.frozen? ⟨w1.heap.size, 4, none⟩ = false := (by simp [World.frozen?, nF1])); (have dF1_5 : w3.frozen? ⟨w1.heap.size, 5, none⟩ = false := (by simp [World.frozen?, nF1])); (have dF1_6 : w3.frozen? ⟨w1.heap.size, 6, none⟩ = false := (by simp [World.frozen?, nF1])); (have dF1_7 : w3.frozen? ⟨w1.heap.size, 7, none⟩ = false := (by simp [World.frozen?, nF1])); (clear nF1); (clear U0); (have U0 := Aside0.mk nU0); (clear nU0); (clear U1); (have U1 := Aside0.mk nU1); (clear nU1); (clear U2); (have U2 := Aside0.mk nU2); (clear nU2); (have hd2_ : Dr g w w3 := Dr.then_ (by (with_reducible repeat (first | exact HD.out | refine Dr.alloc ?_ _ | refine Dr.drewN ?_ _ | refine Dr.drew ?_ | refine Dr.set ?_ _ ?_)); all_goals (first | (left; simp; done) | (left; simp; omega) | (left; omega) | (right; rfl))) hd_); (clear HR HD); (have HR := Aside0.mk hr_); (have HD := Aside0.mk hd2_); (clear hr_ hd_ hd2_))) | ((with_reducible refine gate_builtin (b := .append) (xs := #[.tmp 23, .tmp 24]) rfl ?_); (try (refine gate_guard (by rfl) ?_; dsimp only)); at_builtin; (refine Kd.R_append (Kd.int .i64) (w0 := w2) (w.heap.size) rfl (.tmp 23) (.tmp 24) 29 3 (.int .i64 0) 8 rfl Tryz.underlying29 info3 rfl (by decide) (by omega) (.slice B2 c.f4.length d2) (c.f4) ((0 : Int)) [.int .i64 0] (fun _ => True) (fun _ => False) rfl rfl rfl (fun _ hk => hk.elim) (fun _ _ => trivial) ?aO4 ?aB4 ?aS4 ?aL4 ?_); (case aO4 => exact U2.out); (case aB4 => exact Below.refl _ _); (case aS4 => (have := HD.out.size; omega)); (case aL4 => exact (by omega)); (intro v4 w4 ho hb hg hat; have nHD := Dr.belowB HD.out hb; have nHR := Rd.keep HR.out (fun q hq => hb.block q (by omega)); have y4 := hb.size; have nF0 : w4.heap[w.heap.size]? = some (.cells #[.string ⟨#[]⟩, .string ⟨#[]⟩, .string ⟨#[]⟩, .slice none 0 0, .slice none 0 0, .int .i64 0, .int .i64 0, .slice none 0 0] 31 (0, 0)) := (hg.block _ (blk_lt F0.out) (Kd.R_ne U2.out F0.out (by decide))).trans F0.out; have nF1 : w4.heap[w1.heap.size]? = some (.cells #[.string c.f0, .string c.f1.f0.f0, .string c.f1.f0.f1, .slice B0 c.f1.f1.length d0, .slice B1 c.f1.f2.length d1, .int .i64 c.f2, .int .i64 c.f3, .slice B2 c.f4.length d2] 31 (0, 0)) := (hg.block _ (blk_lt F1.out) (Kd.R_ne U2.out F1.out (by decide))).trans F1.out; have nU0 := R_by2 U0.out rfl U2.out (by decide) hg; have nU1 := R_by2 U1.out rfl U2.out (by decide) hg; clear U2 HR HD F0 F1 U0 U1; have U2 := Aside0.mk ho; have HR := Aside0.mk nHR; have HD := Aside0.mk nHD; have F0 := Aside0.mk nF0; have F1 := Aside0.mk nF1; have U0 := Aside0.mk nU0; have U1 := Aside0.mk nU1; clear ho hb hg hat nHR nHD nF0 nF1 nU0 nU1; obtain ⟨vB, vd, hv⟩ := Kd.R_slice U2.out; subst hv; obtain ⟨cF0_0, cF0_1, cF0_2, cF0_3, cF0_4, cF0_5, cF0_6, cF0_7⟩ := cells8 F0.out; obtain ⟨dF0_0, dF0_1, dF0_2, dF0_3, dF0_4, dF0_5, dF0_6, dF0_7⟩ := froz8 F0.out; obtain ⟨cF1_0, cF1_1, cF1_2, cF1_3, cF1_4, cF1_5, cF1_6, cF1_7⟩ := cells8 F1.out; obtain ⟨dF1_0, dF1_1, dF1_2, dF1_3, dF1_4, dF1_5, dF1_6, dF1_7⟩ := froz8 F1.out)))
  · refine bodyPost_ret (v := .agg #[.string c.f0, .string c.f1.f0.f0, .string c.f1.f0.f1, .slice B0 c.f1.f1.length d0, .slice B1 c.f1.f2.length d1, .int .i64 k3, .int .i64 c.f3, .slice B2 c.f4.length d2]) ?hrA rfl ?hpA
    case hrA => simp [results, Tryz.results31, go_sem, cF0_0, cF0_1, cF0_2, cF0_3, cF0_4, cF0_5, cF0_6, cF0_7]
    case hpA => exact ⟨(⟨c.f0, c.f1, k3, c.f3, c.f4⟩ : SCli), B0, d0, B1, d1, B2, d2, rfl, goodC_fitS hgc (by omega) (by omega), (by (with_reducible repeat (first | exact U0.out | refine R_put1 ?_ rfl (Kd.R_ne U0.out F0.out (by decide)) | refine R_put1 ?_ rfl (Kd.R_ne U0.out F1.out (by decide))))), (by (with_reducible repeat (first | exact U1.out | refine R_put1 ?_ rfl (Kd.R_ne U1.out F0.out (by decide)) | refine R_put1 ?_ rfl (Kd.R_ne U1.out F1.out (by decide))))), (by (with_reducible repeat (first | exact U2.out | refine R_put1 ?_ rfl (Kd.R_ne U2.out F0.out (by decide)) | refine R_put1 ?_ rfl (Kd.R_ne U2.out F1.out (by decide))))), (Rd.at HR.out (by (with_reducible repeat (first | exact Keep.refl (Rd.lt HR.out) | refine Keep.alloc ?_ _ | refine Keep.drewN ?_ _ | refine Keep.drew ?_ | refine Keep.set ?_ _ ?_)); all_goals (first | (simp; done) | (simp; omega) | omega))).up (by omega), by (with_reducible repeat (first | exact HD.out | refine Dr.alloc ?_ _ | refine Dr.drewN ?_ _ | refine Dr.drew ?_ | refine Dr.set ?_ _ ?_)); all_goals (first | (left; simp; done) | (left; simp; omega) | (left; omega) | (right; rfl))⟩
  · refine bodyPost_ret (v := .agg #[.string c.f0, .string c.f1.f0.f0, .string c.f1.f0.f1, .slice B0 c.f1.f1.length d0, .slice B1 c.f1.f2.length d1, .int .i64 c.f2, .int .i64 k3, .slice B2 c.f4.length d2]) ?hrB rfl ?hpB
    case hrB => simp [results, Tryz.results31, go_sem, cF0_0, cF0_1, cF0_2, cF0_3, cF0_4, cF0_5, cF0_6, cF0_7]
    case hpB => exact ⟨(⟨c.f0, c.f1, c.f2, k3, c.f4⟩ : SCli), B0, d0, B1, d1, B2, d2, rfl, goodC_fitT hgc (by omega) (by omega), (by (with_reducible repeat (first | exact U0.out | refine R_put1 ?_ rfl (Kd.R_ne U0.out F0.out (by decide)) | refine R_put1 ?_ rfl (Kd.R_ne U0.out F1.out (by decide))))), (by (with_reducible repeat (first | exact U1.out | refine R_put1 ?_ rfl (Kd.R_ne U1.out F0.out (by decide)) | refine R_put1 ?_ rfl (Kd.R_ne U1.out F1.out (by decide))))), (by (with_reducible repeat (first | exact U2.out | refine R_put1 ?_ rfl (Kd.R_ne U2.out F0.out (by decide)) | refine R_put1 ?_ rfl (Kd.R_ne U2.out F1.out (by decide))))), (Rd.at HR.out (by (with_reducible repeat (first | exact Keep.refl (Rd.lt HR.out) | refine Keep.alloc ?_ _ | refine Keep.drewN ?_ _ | refine Keep.drew ?_ | refine Keep.set ?_ _ ?_)); all_goals (first | (simp; done) | (simp; omega) | omega))).up (by omega), by (with_reducible repeat (first | exact HD.out | refine Dr.alloc ?_ _ | refine Dr.drewN ?_ _ | refine Dr.drew ?_ | refine Dr.set ?_ _ ?_)); all_goals (first | (left; simp; done) | (left; simp; omega) | (left; omega) | (right; rfl))⟩
  · refine bodyPost_ret (v := .agg #[.string c.f0, .string c.f1.f0.f0, .string c.f1.f0.f1, .slice B0 c.f1.f1.length d0, .slice B1 c.f1.f2.length d1, .int .i64 c.f2, .int .i64 c.f3, .slice vB (c.f4 ++ [(0 : Int)]).length vd]) ?hrC rfl ?hpC
    case hrC => simp [results, Tryz.results31, go_sem, cF0_0, cF0_1, cF0_2, cF0_3, cF0_4, cF0_5, cF0_6, cF0_7]
    case hpC => exact ⟨(⟨c.f0, c.f1, c.f2, c.f3, c.f4 ++ [0]⟩ : SCli), B0, d0, B1, d1, vB, vd, rfl, goodC_fitO hgc, (by (with_reducible repeat (first | exact U0.out | refine R_put1 ?_ rfl (Kd.R_ne U0.out F0.out (by decide)) | refine R_put1 ?_ rfl (Kd.R_ne U0.out F1.out (by decide))))), (by (with_reducible repeat (first | exact U1.out | refine R_put1 ?_ rfl (Kd.R_ne U1.out F0.out (by decide)) | refine R_put1 ?_ rfl (Kd.R_ne U1.out F1.out (by decide))))), (by (with_reducible repeat (first | exact U2.out | refine R_put1 ?_ rfl (Kd.R_ne U2.out F0.out (by decide)) | refine R_put1 ?_ rfl (Kd.R_ne U2.out F1.out (by decide))))), (Rd.at HR.out (by (with_reducible repeat (first | exact Keep.refl (Rd.lt HR.out) | refine Keep.alloc ?_ _ | refine Keep.drewN ?_ _ | refine Keep.drew ?_ | refine Keep.set ?_ _ ?_)); all_goals (first | (simp; done) | (simp; omega) | omega))).up (by omega), by (with_reducible repeat (first | exact HD.out | refine Dr.alloc ?_ _ | refine Dr.drewN ?_ _ | refine Dr.drew ?_ | refine Dr.set ?_ _ ?_)); all_goals (first | (left; simp; done) | (left; simp; omega) | (left; omega) | (right; rfl))⟩
  · refine bodyPost_ret (v := .agg #[.string c.f0, .string c.f1.f0.f0, .string c.f1.f0.f1, .slice B0 c.f1.f1.length d0, .slice B1 c.f1.f2.length d1, .int .i64 c.f2, .int .i64 c.f3, .slice B2 c.f4.length d2]) ?hrD rfl ?hpD
    case hrD => simp [results, Tryz.results31, go_sem, cF0_0, cF0_1, cF0_2, cF0_3, cF0_4, cF0_5, cF0_6, cF0_7]
    case hpD => exact ⟨c, B0, d0, B1, d1, B2, d2, rfl, goodC_fit hgc, (by (with_reducible repeat (first | exact U0.out | refine R_put1 ?_ rfl (Kd.R_ne U0.out F0.out (by decide)) | refine R_put1 ?_ rfl (Kd.R_ne U0.out F1.out (by decide))))), (by (with_reducible repeat (first | exact U1.out | refine R_put1 ?_ rfl (Kd.R_ne U1.out F0.out (by decide)) | refine R_put1 ?_ rfl (Kd.R_ne U1.out F1.out (by decide))))), (by (with_reducible repeat (first | exact U2.out | refine R_put1 ?_ rfl (Kd.R_ne U2.out F0.out (by decide)) | refine R_put1 ?_ rfl (Kd.R_ne U2.out F1.out (by decide))))), (Rd.at HR.out (by (with_reducible repeat (first | exact Keep.refl (Rd.lt HR.out) | refine Keep.alloc ?_ _ | refine Keep.drewN ?_ _ | refine Keep.drew ?_ | refine Keep.set ?_ _ ?_)); all_goals (first | (simp; done) | (simp; omega) | omega))).up (by omega), by (with_reducible repeat (first | exact HD.out | refine Dr.alloc ?_ _ | refine Dr.drewN ?_ _ | refine Dr.drew ?_ | refine Dr.set ?_ _ ?_)); all_goals (first | (left; simp; done) | (left; simp; omega) | (left; omega) | (right; rfl))⟩
end Go.Proofs.YtoppgnmnbbhghaaGreatDoor
