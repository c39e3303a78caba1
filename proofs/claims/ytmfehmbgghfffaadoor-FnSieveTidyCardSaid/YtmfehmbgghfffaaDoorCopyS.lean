/- Copies of mails, of the reference: a contract. -/
import Derived.Test.YtmfehmbgghfffaaDoorCopyM
namespace Go.Proofs.YtmfehmbgghfffaaDoor
open Go.RowKit Go.Proofs.YtmfehmbgghfffaaDoorW.PrintWords
set_option linter.unusedVariables false
set_option linter.unusedSimpArgs false

set_option maxRecDepth 100000 in
set_option maxHeartbeats 4000000 in
theorem specCopy_any (m : SMail) (A0 : Option Addr) (c0 : Nat) (A1 : Option Addr) (c1 : Nat) (w : World) (hw : fitMail m) (hr0 : Kd.C kAddr w A0 m.f1.length m.f1) (hr1 : Kd.C Kd.string w A1 m.f2.length m.f2) :
    Calls Tryd.prog 77 #[.agg #[.string m.f0.f0, .string m.f0.f1, .slice A0 m.f1.length c0, .slice A1 m.f2.length c1]] w fun e w' => ∃ B0 d0 B1 d1, e = .returned (.agg #[.string m.f0.f0, .string m.f0.f1, .slice B0 m.f1.length d0, .slice B1 m.f2.length d1]) ∧ Kd.R kAddr 33 w' w.heap.size (fun _ => True) (.slice B0 m.f1.length d0) m.f1 ∧ Kd.R Kd.string 9 w' w.heap.size (fun _ => True) (.slice B1 m.f2.length d1) m.f2 ∧ Below w.heap.size w w' := by
  have hl0 : m.f1.length ≤ 1048576 := hw.2.1.1
  have hl1 : m.f2.length ≤ 1048576 := hw.2.2.1
  clear hw
  go_enter Tryd.func77, Tryd.ntmps77
  go_wp2
  obtain ⟨W0, hW0⟩ : ∃ W, W = (w.alloc (.cells #[.string m.f0.f0, .string m.f0.f1, .slice A0 m.f1.length c0, .slice A1 m.f2.length c1] 46)).alloc (.cells #[.string ⟨#[]⟩, .string ⟨#[]⟩, .slice none 0 0, .slice none 0 0] 46) := ⟨_, rfl⟩
  rw [← hW0]
  have f0 : W0.heap[w.heap.size]? = some (.cells #[.string m.f0.f0, .string m.f0.f1, .slice A0 m.f1.length c0, .slice A1 m.f2.length c1] 46 (0, 0)) := by rw [hW0]; exact below_blk (blk_new _ _) (bel_alloc (Below.refl _ _) _)
  have HF1 : Aside0 (W0.heap[w.heap.size + 1]? = some (.cells #[.string ⟨#[]⟩, .string ⟨#[]⟩, .slice none 0 0, .slice none 0 0] 46 (0, 0))) := ⟨by rw [hW0, show w.heap.size + 1 = (w.alloc (.cells #[.string m.f0.f0, .string m.f0.f1, .slice A0 m.f1.length c0, .slice A1 m.f2.length c1] 46)).heap.size by simp]; exact blk_new _ _⟩
  have B0 : Below w.heap.size w W0 := by rw [hW0]; exact bel_alloc (bel_alloc (Below.refl _ _) _) _
  clear hW0
  have join : Hid (∀ {goal : Prop} {G : Option Addr → Nat → Option Addr → Nat → Nat → Nat → World → Prop} (rg : Hid (∀ (B0 : Option Addr) (d0 : Nat) (B1 : Option Addr) (d1 : Nat) (g0 g1 : Nat) (V : World), Below w.heap.size w V ∧ V.heap[w.heap.size + 1]? = some (.cells #[.string m.f0.f0, .string m.f0.f1, .slice B0 m.f1.length d0, .slice B1 m.f2.length d1] 46 (0, 0)) ∧ Kd.R kAddr 33 V w.heap.size (fun _ => True) (.slice B0 m.f1.length d0) m.f1 ∧ Kd.R Kd.string 9 V w.heap.size (fun _ => True) (.slice B1 m.f2.length d1) m.f2 → G B0 d0 B1 d1 g0 g1 V) → goal) (hk : ∀ (B0 : Option Addr) (d0 : Nat) (B1 : Option Addr) (d1 : Nat) (g0 g1 : Nat) (V : World), Below w.heap.size w V ∧ V.heap[w.heap.size + 1]? = some (.cells #[.string m.f0.f0, .string m.f0.f1, .slice B0 m.f1.length d0, .slice B1 m.f2.length d1] 46 (0, 0)) ∧ Kd.R kAddr 33 V w.heap.size (fun _ => True) (.slice B0 m.f1.length d0) m.f1 ∧ Kd.R Kd.string 9 V w.heap.size (fun _ => True) (.slice B1 m.f2.length d1) m.f2 → G B0 d0 B1 d1 g0 g1 V), goal) := Lib.hid (fun f h => f (Lib.hid h))
  have HK : Aside0 (∀ W W1, Below W.heap.size W W1 → (W.cell? ⟨w.heap.size, 0, none⟩ = some (.string m.f0.f0) ∧ W.cell? ⟨w.heap.size, 1, none⟩ = some (.string m.f0.f1) ∧ W.cell? ⟨w.heap.size, 2, none⟩ = some (.slice A0 m.f1.length c0) ∧ W.cell? ⟨w.heap.size, 3, none⟩ = some (.slice A1 m.f2.length c1) ∧ Below w.heap.size w W) → (W1.cell? ⟨w.heap.size, 0, none⟩ = some (.string m.f0.f0) ∧ W1.cell? ⟨w.heap.size, 1, none⟩ = some (.string m.f0.f1) ∧ W1.cell? ⟨w.heap.size, 2, none⟩ = some (.slice A0 m.f1.length c0) ∧ W1.cell? ⟨w.heap.size, 3, none⟩ = some (.slice A1 m.f2.length c1) ∧ Below w.heap.size w W1)) := ⟨fun W W1 hb h => ⟨(hb.cell (World.block_lt_of_cell? W _ (h.1))).trans (h.1), (hb.cell (World.block_lt_of_cell? W _ (h.2.1))).trans (h.2.1), (hb.cell (World.block_lt_of_cell? W _ (h.2.2.1))).trans (h.2.2.1), (hb.cell (World.block_lt_of_cell? W _ (h.2.2.2.1))).trans (h.2.2.2.1), bel_then (h.2.2.2.2) hb⟩⟩
  have x0_ : W0.cell? ⟨w.heap.size, 0, none⟩ = some (.string m.f0.f0) := by simp [World.cell?, f0]
  have x1_ : W0.cell? ⟨w.heap.size, 1, none⟩ = some (.string m.f0.f1) := by simp [World.cell?, f0]
  have x2_ : W0.cell? ⟨w.heap.size, 2, none⟩ = some (.slice A0 m.f1.length c0) := by simp [World.cell?, f0]
  have x3_ : W0.cell? ⟨w.heap.size, 3, none⟩ = some (.slice A1 m.f2.length c1) := by simp [World.cell?, f0]
  have HST : Aside0 ((fun W => W.cell? ⟨w.heap.size, 0, none⟩ = some (.string m.f0.f0) ∧ W.cell? ⟨w.heap.size, 1, none⟩ = some (.string m.f0.f1) ∧ W.cell? ⟨w.heap.size, 2, none⟩ = some (.slice A0 m.f1.length c0) ∧ W.cell? ⟨w.heap.size, 3, none⟩ = some (.slice A1 m.f2.length c1) ∧ Below w.heap.size w W) W0.drew) := ⟨⟨x0_, x1_, x2_, x3_, bel_then B0 (drew_below0 W0)⟩⟩
  clear f0 B0 x0_ x1_ x2_ x3_
  apply join.out
  case rg =>
    intro HKK
    refine wp_region_held_drew (S := (fun W => W.cell? ⟨w.heap.size, 0, none⟩ = some (.string m.f0.f0) ∧ W.cell? ⟨w.heap.size, 1, none⟩ = some (.string m.f0.f1) ∧ W.cell? ⟨w.heap.size, 2, none⟩ = some (.slice A0 m.f1.length c0) ∧ W.cell? ⟨w.heap.size, 3, none⟩ = some (.slice A1 m.f2.length c1) ∧ Below w.heap.size w W)) (by kernel_rfl) ?s239 (fun hHeld => ?t239)
    case s239 => exact HST.out
    generalize hV0 : World.drew _ = V0 at hHeld ⊢
    have F1 : Aside0 (V0.heap[w.heap.size + 1]? = some (.cells #[.string ⟨#[]⟩, .string ⟨#[]⟩, .slice none 0 0, .slice none 0 0] 46 (0, 0))) := ⟨by rw [← hV0]; exact HF1.out⟩
    have s0_ : w.heap.size + 1 < V0.heap.size := blk_lt F1.out
    clear hV0
    refine wpAnyH_take (i := 0) (oi := { dst := some 3, op := Op.fieldAddr 46 (Operand.tmp 1) 0, type := 0, pos := "l2_mail.go:136", after := #[], guard := none }) (v := ?v240) rfl (by kernel_rfl) (by kernel_rfl) (by kernel_rfl) (fun _ _ _ h => h) (Or.inl ⟨by rfl, ?y240⟩) (by assumption) ?r240
    case y240 => intro w_ hSw; (try dsimp only at hSw); go_simp; (try (with_reducible rfl))
    try simp only [Act.put, List.setIfInBounds_toArray, List.set_cons_zero, List.set_cons_succ]
    refine wpAnyH_take (i := 1) (oi := { dst := some 4, op := Op.load 33 (Operand.tmp 3), type := 33, pos := "l2_mail.go:136", after := #[{ on := 0, ground := Ground.data }], guard := none }) (v := ?v241) rfl (by kernel_rfl) (by kernel_rfl) (by kernel_rfl) (fun _ _ _ h => h) (Or.inl ⟨by rfl, ?y241⟩) (by assumption) ?r241
    case y241 => intro w_ hSw; (try dsimp only at hSw); go_simp; (try (with_reducible rfl))
    try simp only [Act.put, List.setIfInBounds_toArray, List.set_cons_zero, List.set_cons_succ]
    refine wpAnyH_take (i := 3) (oi := { dst := some 6, op := Op.fieldAddr 46 (Operand.tmp 1) 1, type := 0, pos := "l2_mail.go:136", after := #[], guard := none }) (v := ?v242) rfl (by kernel_rfl) (by kernel_rfl) (by kernel_rfl) (fun _ _ _ h => h) (Or.inl ⟨by rfl, ?y242⟩) (by assumption) ?r242
    case y242 => intro w_ hSw; (try dsimp only at hSw); go_simp; (try (with_reducible rfl))
    try simp only [Act.put, List.setIfInBounds_toArray, List.set_cons_zero, List.set_cons_succ]
    refine wpAnyH_take (i := 4) (oi := { dst := some 7, op := Op.load 44 (Operand.tmp 6), type := 44, pos := "l2_mail.go:136", after := #[{ on := 3, ground := Ground.data }], guard := none }) (v := ?v243) rfl (by kernel_rfl) (by kernel_rfl) (by kernel_rfl) (fun _ _ _ h => h) (Or.inl ⟨by rfl, ?y243⟩) (by assumption) ?r243
    case y243 => intro w_ hSw; (try dsimp only at hSw); go_simp; (try (with_reducible rfl))
    try simp only [Act.put, List.setIfInBounds_toArray, List.set_cons_zero, List.set_cons_succ]
    refine wpAnyH_take (i := 7) (oi := { dst := some 10, op := Op.fieldAddr 46 (Operand.tmp 1) 2, type := 0, pos := "l2_mail.go:136", after := #[], guard := none }) (v := ?v244) rfl (by kernel_rfl) (by kernel_rfl) (by kernel_rfl) (fun _ _ _ h => h) (Or.inl ⟨by rfl, ?y244⟩) (by assumption) ?r244
    case y244 => intro w_ hSw; (try dsimp only at hSw); go_simp; (try (with_reducible rfl))
    try simp only [Act.put, List.setIfInBounds_toArray, List.set_cons_zero, List.set_cons_succ]
    refine wpAnyH_take (i := 8) (oi := { dst := some 11, op := Op.load 35 (Operand.tmp 10), type := 35, pos := "l2_mail.go:136", after := #[{ on := 7, ground := Ground.data }], guard := none }) (v := ?v245) rfl (by kernel_rfl) (by kernel_rfl) (by kernel_rfl) (fun _ _ _ h => h) (Or.inl ⟨by rfl, ?y245⟩) (by assumption) ?r245
    case y245 => intro w_ hSw; (try dsimp only at hSw); go_simp; (try (with_reducible rfl))
    try simp only [Act.put, List.setIfInBounds_toArray, List.set_cons_zero, List.set_cons_succ]
    refine wpAnyH_ready (rs := [2, 6]) (by kernel_rfl) (by simp) ?_
    refine AllReadyH.cons (o := { dst := some 5, op := Op.buildSlice 44 0 #[], type := 44, pos := "l2_mail.go:136", after := #[], guard := none }) rfl (fun K hK => ?k246) (AllReadyH.cons (o := { dst := some 9, op := Op.buildSlice 35 0 #[], type := 35, pos := "l2_mail.go:136", after := #[], guard := none }) rfl (fun K hK => ?k247) AllReadyH.nil)
    case k246 =>
      go_simp
      refine hK.out _ _ ?h248 (fun hHeld => ?j248)
      case h248 => exact HK.out _ _ (bel_alloc (Below.refl _ _) _) hHeld
      clear hK K
      try simp only [Act.put, List.setIfInBounds_toArray, List.set_cons_zero, List.set_cons_succ]
      generalize hV2 : World.alloc V0 _ = V2 at hHeld ⊢
      have b2 : Below V0.heap.size V0 V2 := by rw [← hV2]; exact bel_alloc (Below.refl _ _) _
      have z2 : V0.heap.size < V2.heap.size := by rw [← hV2]; simp
      have lo2 : w.heap.size + 1 < V0.heap.size := by omega
      have E0 : Aside0 (Kd.R kAddr 33 V2 w.heap.size (fun _ => True) (.slice (some ⟨V0.heap.size, 0, none⟩) 0 0) []) := ⟨by rw [← hV2]; exact R_empty kAddr 33 V0 w.heap.size (by omega) trivial⟩
      obtain ⟨g0, hg2⟩ : ∃ g, g = V0.heap.size := ⟨_, rfl⟩
      have lg0 : w.heap.size + 1 < g0 := by omega
      rw [← hg2] at E0 ⊢
      have s2_ : w.heap.size + 1 < V2.heap.size := by omega
      clear hV2 hg2 z2
      replace F1 := Aside0.mk (below_blk F1.out b2)
      refine wpAnyH_ready (rs := [5, 6]) (by kernel_rfl) (by simp) ?_
      refine AllReadyH.cons (o := { dst := some 8, op := Op.call { callee := Callee.builtin Builtin.append, args := #[Operand.tmp 5, Operand.tmp 7], argTypes := #[44, 44] }, type := 44, pos := "l2_mail.go:136", after := #[{ on := 2, ground := Ground.data }, { on := 4, ground := Ground.data }], guard := none }) rfl (fun K hK => ?k249) (AllReadyH.cons (o := { dst := some 9, op := Op.buildSlice 35 0 #[], type := 35, pos := "l2_mail.go:136", after := #[], guard := none }) rfl (fun K hK => ?k250) AllReadyH.nil)
      case k249 =>
        refine Kd.R_append_rows_step kAddr (w0 := w) (w.heap.size) (by rfl) (.tmp 5) (.tmp 7) 44 33 (.agg #[(.string ⟨#[]⟩), (.string ⟨#[]⟩)]) 32 rfl Tryd.underlying44 info33 rfl (by decide) (by omega) (.slice (some ⟨g0, 0, none⟩) 0 0) [] m.f1 _ _ _ (fun _ => True) (fun _ => False) rfl rfl ?aO5 ?aR5 (fun _ _ h => h) (fun _ h => h.elim) (fun _ _ => trivial) ?aB5 ?aS5 ?aL5 ?_
        case aO5 => exact E0.out
        case aR5 => exact Kd.C_below hr0 hHeld.2.2.2.2
        case aB5 => exact hHeld.2.2.2.2
        case aS5 => exact (hHeld.2.2.2.2).size
        case aL5 => (simp; omega)
        intro v5 V5 ho hb hg hat
        have ho : Kd.R kAddr 33 V5 w.heap.size (fun _ => True) v5 m.f1 := ho
        obtain ⟨B0, d0, hv5⟩ := Kd.R_slice ho
        subst hv5
        have GR5 : V2.grownBy V5 (some g0) := hg
        clear hg hat
        refine hK.out _ _ ?h251 (fun hHeld => ?j251)
        case h251 => exact ⟨(World.cell?_of_block (GR5.block _ (World.block_lt_of_cell? _ _ hHeld.1) (fun e => by have e := Option.some.inj e; (try dsimp only at e); omega))).trans hHeld.1, (World.cell?_of_block (GR5.block _ (World.block_lt_of_cell? _ _ hHeld.2.1) (fun e => by have e := Option.some.inj e; (try dsimp only at e); omega))).trans hHeld.2.1, (World.cell?_of_block (GR5.block _ (World.block_lt_of_cell? _ _ hHeld.2.2.1) (fun e => by have e := Option.some.inj e; (try dsimp only at e); omega))).trans hHeld.2.2.1, (World.cell?_of_block (GR5.block _ (World.block_lt_of_cell? _ _ hHeld.2.2.2.1) (fun e => by have e := Option.some.inj e; (try dsimp only at e); omega))).trans hHeld.2.2.2.1, hb⟩
        clear hK K
        try simp only [Act.put, List.setIfInBounds_toArray, List.set_cons_zero, List.set_cons_succ]
        have U0 := Aside0.mk ho
        have s5_ : w.heap.size + 1 < V5.heap.size := by have := GR5.size; omega
        replace F1 := Aside0.mk ((GR5.block _ (blk_lt F1.out) (fun e => by have e := Option.some.inj e; omega)).trans F1.out)
        clear ho hb E0
        refine wpAnyH_ready (rs := [6]) (by kernel_rfl) (by simp) ?_
        refine AllReadyH.cons (o := { dst := some 9, op := Op.buildSlice 35 0 #[], type := 35, pos := "l2_mail.go:136", after := #[], guard := none }) rfl (fun K hK => ?k252) AllReadyH.nil
        case k252 =>
          go_simp
          refine hK.out _ _ ?h253 (fun hHeld => ?j253)
          case h253 => exact HK.out _ _ (bel_alloc (Below.refl _ _) _) hHeld
          clear hK K
          try simp only [Act.put, List.setIfInBounds_toArray, List.set_cons_zero, List.set_cons_succ]
          generalize hV6 : World.alloc V5 _ = V6 at hHeld ⊢
          have b6 : Below V5.heap.size V5 V6 := by rw [← hV6]; exact bel_alloc (Below.refl _ _) _
          have z6 : V5.heap.size < V6.heap.size := by rw [← hV6]; simp
          have lo6 : w.heap.size + 1 < V5.heap.size := by omega
          have E1 : Aside0 (Kd.R Kd.string 9 V6 w.heap.size (fun _ => True) (.slice (some ⟨V5.heap.size, 0, none⟩) 0 0) []) := ⟨by rw [← hV6]; exact R_empty Kd.string 9 V5 w.heap.size (by omega) trivial⟩
          obtain ⟨g1, hg6⟩ : ∃ g, g = V5.heap.size := ⟨_, rfl⟩
          have lg1 : w.heap.size + 1 < g1 := by omega
          rw [← hg6] at E1 ⊢
          have s6_ : w.heap.size + 1 < V6.heap.size := by omega
          clear hV6 hg6 z6
          replace F1 := Aside0.mk (below_blk F1.out b6)
          replace U0 := Aside0.mk (Kd.R_below U0.out b6)
          refine wpAnyH_ready (rs := [9]) (by kernel_rfl) (by simp) ?_
          refine AllReadyH.cons (o := { dst := some 12, op := Op.call { callee := Callee.builtin Builtin.append, args := #[Operand.tmp 9, Operand.tmp 11], argTypes := #[35, 35] }, type := 35, pos := "l2_mail.go:136", after := #[{ on := 6, ground := Ground.data }, { on := 8, ground := Ground.data }, { on := 5, ground := Ground.chain }], guard := none }) rfl (fun K hK => ?k254) AllReadyH.nil
          case k254 =>
            refine Kd.R_append_rows_step Kd.string (w0 := w) (w.heap.size) (by rfl) (.tmp 9) (.tmp 11) 35 9 (.string ⟨#[]⟩) 16 rfl Tryd.underlying35 info9 rfl (by decide) (by omega) (.slice (some ⟨g1, 0, none⟩) 0 0) [] m.f2 _ _ _ (fun _ => True) (fun _ => False) rfl rfl ?aO9 ?aR9 (fun _ _ h => h) (fun _ h => h.elim) (fun _ _ => trivial) ?aB9 ?aS9 ?aL9 ?_
            case aO9 => exact E1.out
            case aR9 => exact Kd.C_below hr1 hHeld.2.2.2.2
            case aB9 => exact hHeld.2.2.2.2
            case aS9 => exact (hHeld.2.2.2.2).size
            case aL9 => (simp; omega)
            intro v9 V9 ho hb hg hat
            have ho : Kd.R Kd.string 9 V9 w.heap.size (fun _ => True) v9 m.f2 := ho
            obtain ⟨B1, d1, hv9⟩ := Kd.R_slice ho
            subst hv9
            have GR9 : V6.grownBy V9 (some g1) := hg
            clear hg hat
            refine hK.out _ _ ?h255 (fun hHeld => ?j255)
            case h255 => exact ⟨(World.cell?_of_block (GR9.block _ (World.block_lt_of_cell? _ _ hHeld.1) (fun e => by have e := Option.some.inj e; (try dsimp only at e); omega))).trans hHeld.1, (World.cell?_of_block (GR9.block _ (World.block_lt_of_cell? _ _ hHeld.2.1) (fun e => by have e := Option.some.inj e; (try dsimp only at e); omega))).trans hHeld.2.1, (World.cell?_of_block (GR9.block _ (World.block_lt_of_cell? _ _ hHeld.2.2.1) (fun e => by have e := Option.some.inj e; (try dsimp only at e); omega))).trans hHeld.2.2.1, (World.cell?_of_block (GR9.block _ (World.block_lt_of_cell? _ _ hHeld.2.2.2.1) (fun e => by have e := Option.some.inj e; (try dsimp only at e); omega))).trans hHeld.2.2.2.1, hb⟩
            clear hK K
            try simp only [Act.put, List.setIfInBounds_toArray, List.set_cons_zero, List.set_cons_succ]
            have U1 := Aside0.mk ho
            have s9_ : w.heap.size + 1 < V9.heap.size := by have := GR9.size; omega
            replace F1 := Aside0.mk ((GR9.block _ (blk_lt F1.out) (fun e => by have e := Option.some.inj e; omega)).trans F1.out)
            replace U0 := Aside0.mk (Kd.R_over' U0.out (Kd.R_typed E1.out) (by decide) GR9)
            clear ho hb E1
            refine wpAnyH_take (i := 10) (oi := { dst := some 13, op := Op.build 46 #[(0, Operand.tmp 4), (1, Operand.tmp 8), (2, Operand.tmp 12)], type := 46, pos := "l2_mail.go:136", after := #[{ on := 1, ground := Ground.data }, { on := 5, ground := Ground.data }, { on := 9, ground := Ground.data }], guard := none }) (v := ?v256) rfl (by kernel_rfl) (by kernel_rfl) (by kernel_rfl) (fun _ _ _ h => h) (Or.inl ⟨by rfl, ?y256⟩) (by assumption) ?r256
            case y256 => intro w_ hSw; (try dsimp only at hSw); go_simp; (try (with_reducible rfl))
            try simp only [Act.put, List.setIfInBounds_toArray, List.set_cons_zero, List.set_cons_succ]
            refine wpAnyH_ready (rs := [11]) (by kernel_rfl) (by simp) ?_
            refine AllReadyH.cons (o := { dst := none, op := Op.store 46 (Operand.tmp 2) (Operand.tmp 13), type := 0, pos := "l2_mail.go:136", after := #[{ on := 10, ground := Ground.data }, { on := 9, ground := Ground.chain }, { on := 0, ground := Ground.phase }, { on := 1, ground := Ground.phase }, { on := 2, ground := Ground.phase }, { on := 3, ground := Ground.phase }, { on := 4, ground := Ground.phase }, { on := 5, ground := Ground.phase }, { on := 6, ground := Ground.phase }, { on := 7, ground := Ground.phase }, { on := 8, ground := Ground.phase }, { on := 9, ground := Ground.phase }, { on := 10, ground := Ground.phase }], guard := none }) rfl (fun K hK => ?k257) AllReadyH.nil
            case k257 =>
              have hb7 := F1.out
              have v0_ : V9.cell? ⟨w.heap.size + 1, 0, none⟩ = some (.string ⟨#[]⟩) := by simp [World.cell?, hb7]
              have v1_ : V9.cell? ⟨w.heap.size + 1, 1, none⟩ = some (.string ⟨#[]⟩) := by simp [World.cell?, hb7]
              have v2_ : V9.cell? ⟨w.heap.size + 1, 2, none⟩ = some (.slice none 0 0) := by simp [World.cell?, hb7]
              have v3_ : V9.cell? ⟨w.heap.size + 1, 3, none⟩ = some (.slice none 0 0) := by simp [World.cell?, hb7]
              have u0_ : V9.frozen? ⟨w.heap.size + 1, 0, none⟩ = false := by simp [World.frozen?, hb7]
              have u1_ : V9.frozen? ⟨w.heap.size + 1, 1, none⟩ = false := by simp [World.frozen?, hb7]
              have u2_ : V9.frozen? ⟨w.heap.size + 1, 2, none⟩ = false := by simp [World.frozen?, hb7]
              have u3_ : V9.frozen? ⟨w.heap.size + 1, 3, none⟩ = false := by simp [World.frozen?, hb7]
              go_simp
              generalize hV11 : World.setCell (World.setCell (World.setCell (World.setCell V9 ⟨w.heap.size + 1, 0, none⟩ _) ⟨w.heap.size + 1, 1, none⟩ _) ⟨w.heap.size + 1, 2, none⟩ _) ⟨w.heap.size + 1, 3, none⟩ _ = V11
              have G11 : V9.grownBy V11 (some (w.heap.size + 1)) := by rw [← hV11]; exact (((grown_set1 _ _ _ _).trans (grown_set1 _ _ _ _)).trans (grown_set1 _ _ _ _)).trans (grown_set1 _ _ _ _)
              have FF : V11.heap[w.heap.size + 1]? = some (.cells #[.string m.f0.f0, .string m.f0.f1, .slice B0 m.f1.length d0, .slice B1 m.f2.length d1] 46 (0, 0)) := by rw [← hV11, blk_set1 (blk_set1 (blk_set1 (blk_set1 (F1.out) 0 _) 1 _) 2 _) 3 _]; simp
              have BB : Below w.heap.size w V11 := by rw [← hV11]; exact (bel_set (bel_set (bel_set (bel_set hHeld.2.2.2.2 _ (by show w.heap.size ≤ w.heap.size + 1; omega)) _ (by show w.heap.size ≤ w.heap.size + 1; omega)) _ (by show w.heap.size ≤ w.heap.size + 1; omega)) _ (by show w.heap.size ≤ w.heap.size + 1; omega))
              clear hV11
              refine hK.out _ _ ?h258 (fun hHeld => ?j258)
              case h258 => exact ⟨(World.cell?_of_block (G11.block _ (World.block_lt_of_cell? _ _ hHeld.1) (fun e => by have e := Option.some.inj e; (try dsimp only at e); omega))).trans hHeld.1, (World.cell?_of_block (G11.block _ (World.block_lt_of_cell? _ _ hHeld.2.1) (fun e => by have e := Option.some.inj e; (try dsimp only at e); omega))).trans hHeld.2.1, (World.cell?_of_block (G11.block _ (World.block_lt_of_cell? _ _ hHeld.2.2.1) (fun e => by have e := Option.some.inj e; (try dsimp only at e); omega))).trans hHeld.2.2.1, (World.cell?_of_block (G11.block _ (World.block_lt_of_cell? _ _ hHeld.2.2.2.1) (fun e => by have e := Option.some.inj e; (try dsimp only at e); omega))).trans hHeld.2.2.2.1, BB⟩
              clear hK K
              try simp only [Act.put, List.setIfInBounds_toArray, List.set_cons_zero, List.set_cons_succ]
              replace U0 := Aside0.mk (R_else U0.out rfl G11 (Kd.R_ne U0.out F1.out (by decide)))
              replace U1 := Aside0.mk (R_else U1.out rfl G11 (Kd.R_ne U1.out F1.out (by decide)))
              replace F1 := Aside0.mk FF
              clear FF
              refine wpAnyH_done (by kernel_rfl) ?_ _
              exact HKK.out B0 d0 B1 d1 g0 g1 V11 ⟨hHeld.2.2.2.2, F1.out, U0.out, U1.out⟩
      case k250 =>
        go_simp
        refine hK.out _ _ ?h259 (fun hHeld => ?j259)
        case h259 => exact HK.out _ _ (bel_alloc (Below.refl _ _) _) hHeld
        clear hK K
        try simp only [Act.put, List.setIfInBounds_toArray, List.set_cons_zero, List.set_cons_succ]
        generalize hV6 : World.alloc V2 _ = V6 at hHeld ⊢
        have b6 : Below V2.heap.size V2 V6 := by rw [← hV6]; exact bel_alloc (Below.refl _ _) _
        have z6 : V2.heap.size < V6.heap.size := by rw [← hV6]; simp
        have lo6 : w.heap.size + 1 < V2.heap.size := by omega
        have E1 : Aside0 (Kd.R Kd.string 9 V6 w.heap.size (fun _ => True) (.slice (some ⟨V2.heap.size, 0, none⟩) 0 0) []) := ⟨by rw [← hV6]; exact R_empty Kd.string 9 V2 w.heap.size (by omega) trivial⟩
        obtain ⟨g1, hg6⟩ : ∃ g, g = V2.heap.size := ⟨_, rfl⟩
        have lg1 : w.heap.size + 1 < g1 := by omega
        rw [← hg6] at E1 ⊢
        have s6_ : w.heap.size + 1 < V6.heap.size := by omega
        clear hV6 hg6 z6
        replace F1 := Aside0.mk (below_blk F1.out b6)
        replace E0 := Aside0.mk (Kd.R_below E0.out b6)
        refine wpAnyH_ready (rs := [5]) (by kernel_rfl) (by simp) ?_
        refine AllReadyH.cons (o := { dst := some 8, op := Op.call { callee := Callee.builtin Builtin.append, args := #[Operand.tmp 5, Operand.tmp 7], argTypes := #[44, 44] }, type := 44, pos := "l2_mail.go:136", after := #[{ on := 2, ground := Ground.data }, { on := 4, ground := Ground.data }], guard := none }) rfl (fun K hK => ?k260) AllReadyH.nil
        case k260 =>
          refine Kd.R_append_rows_step kAddr (w0 := w) (w.heap.size) (by rfl) (.tmp 5) (.tmp 7) 44 33 (.agg #[(.string ⟨#[]⟩), (.string ⟨#[]⟩)]) 32 rfl Tryd.underlying44 info33 rfl (by decide) (by omega) (.slice (some ⟨g0, 0, none⟩) 0 0) [] m.f1 _ _ _ (fun _ => True) (fun _ => False) rfl rfl ?aO5 ?aR5 (fun _ _ h => h) (fun _ h => h.elim) (fun _ _ => trivial) ?aB5 ?aS5 ?aL5 ?_
          case aO5 => exact E0.out
          case aR5 => exact Kd.C_below hr0 hHeld.2.2.2.2
          case aB5 => exact hHeld.2.2.2.2
          case aS5 => exact (hHeld.2.2.2.2).size
          case aL5 => (simp; omega)
          intro v5 V5 ho hb hg hat
          have ho : Kd.R kAddr 33 V5 w.heap.size (fun _ => True) v5 m.f1 := ho
          obtain ⟨B0, d0, hv5⟩ := Kd.R_slice ho
          subst hv5
          have GR5 : V6.grownBy V5 (some g0) := hg
          clear hg hat
          refine hK.out _ _ ?h261 (fun hHeld => ?j261)
          case h261 => exact ⟨(World.cell?_of_block (GR5.block _ (World.block_lt_of_cell? _ _ hHeld.1) (fun e => by have e := Option.some.inj e; (try dsimp only at e); omega))).trans hHeld.1, (World.cell?_of_block (GR5.block _ (World.block_lt_of_cell? _ _ hHeld.2.1) (fun e => by have e := Option.some.inj e; (try dsimp only at e); omega))).trans hHeld.2.1, (World.cell?_of_block (GR5.block _ (World.block_lt_of_cell? _ _ hHeld.2.2.1) (fun e => by have e := Option.some.inj e; (try dsimp only at e); omega))).trans hHeld.2.2.1, (World.cell?_of_block (GR5.block _ (World.block_lt_of_cell? _ _ hHeld.2.2.2.1) (fun e => by have e := Option.some.inj e; (try dsimp only at e); omega))).trans hHeld.2.2.2.1, hb⟩
          clear hK K
          try simp only [Act.put, List.setIfInBounds_toArray, List.set_cons_zero, List.set_cons_succ]
          have U0 := Aside0.mk ho
          have s5_ : w.heap.size + 1 < V5.heap.size := by have := GR5.size; omega
          replace F1 := Aside0.mk ((GR5.block _ (blk_lt F1.out) (fun e => by have e := Option.some.inj e; omega)).trans F1.out)
          replace E1 := Aside0.mk (Kd.R_over' E1.out (Kd.R_typed E0.out) (by decide) GR5)
          clear ho hb E0
          refine wpAnyH_ready (rs := [9]) (by kernel_rfl) (by simp) ?_
          refine AllReadyH.cons (o := { dst := some 12, op := Op.call { callee := Callee.builtin Builtin.append, args := #[Operand.tmp 9, Operand.tmp 11], argTypes := #[35, 35] }, type := 35, pos := "l2_mail.go:136", after := #[{ on := 6, ground := Ground.data }, { on := 8, ground := Ground.data }, { on := 5, ground := Ground.chain }], guard := none }) rfl (fun K hK => ?k262) AllReadyH.nil
          case k262 =>
            refine Kd.R_append_rows_step Kd.string (w0 := w) (w.heap.size) (by rfl) (.tmp 9) (.tmp 11) 35 9 (.string ⟨#[]⟩) 16 rfl Tryd.underlying35 info9 rfl (by decide) (by omega) (.slice (some ⟨g1, 0, none⟩) 0 0) [] m.f2 _ _ _ (fun _ => True) (fun _ => False) rfl rfl ?aO9 ?aR9 (fun _ _ h => h) (fun _ h => h.elim) (fun _ _ => trivial) ?aB9 ?aS9 ?aL9 ?_
            case aO9 => exact E1.out
            case aR9 => exact Kd.C_below hr1 hHeld.2.2.2.2
            case aB9 => exact hHeld.2.2.2.2
            case aS9 => exact (hHeld.2.2.2.2).size
            case aL9 => (simp; omega)
            intro v9 V9 ho hb hg hat
            have ho : Kd.R Kd.string 9 V9 w.heap.size (fun _ => True) v9 m.f2 := ho
            obtain ⟨B1, d1, hv9⟩ := Kd.R_slice ho
            subst hv9
            have GR9 : V5.grownBy V9 (some g1) := hg
            clear hg hat
            refine hK.out _ _ ?h263 (fun hHeld => ?j263)
            case h263 => exact ⟨(World.cell?_of_block (GR9.block _ (World.block_lt_of_cell? _ _ hHeld.1) (fun e => by have e := Option.some.inj e; (try dsimp only at e); omega))).trans hHeld.1, (World.cell?_of_block (GR9.block _ (World.block_lt_of_cell? _ _ hHeld.2.1) (fun e => by have e := Option.some.inj e; (try dsimp only at e); omega))).trans hHeld.2.1, (World.cell?_of_block (GR9.block _ (World.block_lt_of_cell? _ _ hHeld.2.2.1) (fun e => by have e := Option.some.inj e; (try dsimp only at e); omega))).trans hHeld.2.2.1, (World.cell?_of_block (GR9.block _ (World.block_lt_of_cell? _ _ hHeld.2.2.2.1) (fun e => by have e := Option.some.inj e; (try dsimp only at e); omega))).trans hHeld.2.2.2.1, hb⟩
            clear hK K
            try simp only [Act.put, List.setIfInBounds_toArray, List.set_cons_zero, List.set_cons_succ]
            have U1 := Aside0.mk ho
            have s9_ : w.heap.size + 1 < V9.heap.size := by have := GR9.size; omega
            replace F1 := Aside0.mk ((GR9.block _ (blk_lt F1.out) (fun e => by have e := Option.some.inj e; omega)).trans F1.out)
            replace U0 := Aside0.mk (Kd.R_over' U0.out (Kd.R_typed E1.out) (by decide) GR9)
            clear ho hb E1
            refine wpAnyH_take (i := 10) (oi := { dst := some 13, op := Op.build 46 #[(0, Operand.tmp 4), (1, Operand.tmp 8), (2, Operand.tmp 12)], type := 46, pos := "l2_mail.go:136", after := #[{ on := 1, ground := Ground.data }, { on := 5, ground := Ground.data }, { on := 9, ground := Ground.data }], guard := none }) (v := ?v264) rfl (by kernel_rfl) (by kernel_rfl) (by kernel_rfl) (fun _ _ _ h => h) (Or.inl ⟨by rfl, ?y264⟩) (by assumption) ?r264
            case y264 => intro w_ hSw; (try dsimp only at hSw); go_simp; (try (with_reducible rfl))
            try simp only [Act.put, List.setIfInBounds_toArray, List.set_cons_zero, List.set_cons_succ]
            refine wpAnyH_ready (rs := [11]) (by kernel_rfl) (by simp) ?_
            refine AllReadyH.cons (o := { dst := none, op := Op.store 46 (Operand.tmp 2) (Operand.tmp 13), type := 0, pos := "l2_mail.go:136", after := #[{ on := 10, ground := Ground.data }, { on := 9, ground := Ground.chain }, { on := 0, ground := Ground.phase }, { on := 1, ground := Ground.phase }, { on := 2, ground := Ground.phase }, { on := 3, ground := Ground.phase }, { on := 4, ground := Ground.phase }, { on := 5, ground := Ground.phase }, { on := 6, ground := Ground.phase }, { on := 7, ground := Ground.phase }, { on := 8, ground := Ground.phase }, { on := 9, ground := Ground.phase }, { on := 10, ground := Ground.phase }], guard := none }) rfl (fun K hK => ?k265) AllReadyH.nil
            case k265 =>
              have hb7 := F1.out
              have v0_ : V9.cell? ⟨w.heap.size + 1, 0, none⟩ = some (.string ⟨#[]⟩) := by simp [World.cell?, hb7]
              have v1_ : V9.cell? ⟨w.heap.size + 1, 1, none⟩ = some (.string ⟨#[]⟩) := by simp [World.cell?, hb7]
              have v2_ : V9.cell? ⟨w.heap.size + 1, 2, none⟩ = some (.slice none 0 0) := by simp [World.cell?, hb7]
              have v3_ : V9.cell? ⟨w.heap.size + 1, 3, none⟩ = some (.slice none 0 0) := by simp [World.cell?, hb7]
              have u0_ : V9.frozen? ⟨w.heap.size + 1, 0, none⟩ = false := by simp [World.frozen?, hb7]
              have u1_ : V9.frozen? ⟨w.heap.size + 1, 1, none⟩ = false := by simp [World.frozen?, hb7]
              have u2_ : V9.frozen? ⟨w.heap.size + 1, 2, none⟩ = false := by simp [World.frozen?, hb7]
              have u3_ : V9.frozen? ⟨w.heap.size + 1, 3, none⟩ = false := by simp [World.frozen?, hb7]
              go_simp
              generalize hV11 : World.setCell (World.setCell (World.setCell (World.setCell V9 ⟨w.heap.size + 1, 0, none⟩ _) ⟨w.heap.size + 1, 1, none⟩ _) ⟨w.heap.size + 1, 2, none⟩ _) ⟨w.heap.size + 1, 3, none⟩ _ = V11
              have G11 : V9.grownBy V11 (some (w.heap.size + 1)) := by rw [← hV11]; exact (((grown_set1 _ _ _ _).trans (grown_set1 _ _ _ _)).trans (grown_set1 _ _ _ _)).trans (grown_set1 _ _ _ _)
              have FF : V11.heap[w.heap.size + 1]? = some (.cells #[.string m.f0.f0, .string m.f0.f1, .slice B0 m.f1.length d0, .slice B1 m.f2.length d1] 46 (0, 0)) := by rw [← hV11, blk_set1 (blk_set1 (blk_set1 (blk_set1 (F1.out) 0 _) 1 _) 2 _) 3 _]; simp
              have BB : Below w.heap.size w V11 := by rw [← hV11]; exact (bel_set (bel_set (bel_set (bel_set hHeld.2.2.2.2 _ (by show w.heap.size ≤ w.heap.size + 1; omega)) _ (by show w.heap.size ≤ w.heap.size + 1; omega)) _ (by show w.heap.size ≤ w.heap.size + 1; omega)) _ (by show w.heap.size ≤ w.heap.size + 1; omega))
              clear hV11
              refine hK.out _ _ ?h266 (fun hHeld => ?j266)
              case h266 => exact ⟨(World.cell?_of_block (G11.block _ (World.block_lt_of_cell? _ _ hHeld.1) (fun e => by have e := Option.some.inj e; (try dsimp only at e); omega))).trans hHeld.1, (World.cell?_of_block (G11.block _ (World.block_lt_of_cell? _ _ hHeld.2.1) (fun e => by have e := Option.some.inj e; (try dsimp only at e); omega))).trans hHeld.2.1, (World.cell?_of_block (G11.block _ (World.block_lt_of_cell? _ _ hHeld.2.2.1) (fun e => by have e := Option.some.inj e; (try dsimp only at e); omega))).trans hHeld.2.2.1, (World.cell?_of_block (G11.block _ (World.block_lt_of_cell? _ _ hHeld.2.2.2.1) (fun e => by have e := Option.some.inj e; (try dsimp only at e); omega))).trans hHeld.2.2.2.1, BB⟩
              clear hK K
              try simp only [Act.put, List.setIfInBounds_toArray, List.set_cons_zero, List.set_cons_succ]
              replace U0 := Aside0.mk (R_else U0.out rfl G11 (Kd.R_ne U0.out F1.out (by decide)))
              replace U1 := Aside0.mk (R_else U1.out rfl G11 (Kd.R_ne U1.out F1.out (by decide)))
              replace F1 := Aside0.mk FF
              clear FF
              refine wpAnyH_done (by kernel_rfl) ?_ _
              exact HKK.out B0 d0 B1 d1 g0 g1 V11 ⟨hHeld.2.2.2.2, F1.out, U0.out, U1.out⟩
    case k247 =>
      go_simp
      refine hK.out _ _ ?h267 (fun hHeld => ?j267)
      case h267 => exact HK.out _ _ (bel_alloc (Below.refl _ _) _) hHeld
      clear hK K
      try simp only [Act.put, List.setIfInBounds_toArray, List.set_cons_zero, List.set_cons_succ]
      generalize hV6 : World.alloc V0 _ = V6 at hHeld ⊢
      have b6 : Below V0.heap.size V0 V6 := by rw [← hV6]; exact bel_alloc (Below.refl _ _) _
      have z6 : V0.heap.size < V6.heap.size := by rw [← hV6]; simp
      have lo6 : w.heap.size + 1 < V0.heap.size := by omega
      have E1 : Aside0 (Kd.R Kd.string 9 V6 w.heap.size (fun _ => True) (.slice (some ⟨V0.heap.size, 0, none⟩) 0 0) []) := ⟨by rw [← hV6]; exact R_empty Kd.string 9 V0 w.heap.size (by omega) trivial⟩
      obtain ⟨g1, hg6⟩ : ∃ g, g = V0.heap.size := ⟨_, rfl⟩
      have lg1 : w.heap.size + 1 < g1 := by omega
      rw [← hg6] at E1 ⊢
      have s6_ : w.heap.size + 1 < V6.heap.size := by omega
      clear hV6 hg6 z6
      replace F1 := Aside0.mk (below_blk F1.out b6)
      refine wpAnyH_ready (rs := [2]) (by kernel_rfl) (by simp) ?_
      refine AllReadyH.cons (o := { dst := some 5, op := Op.buildSlice 44 0 #[], type := 44, pos := "l2_mail.go:136", after := #[], guard := none }) rfl (fun K hK => ?k268) AllReadyH.nil
      case k268 =>
        go_simp
        refine hK.out _ _ ?h269 (fun hHeld => ?j269)
        case h269 => exact HK.out _ _ (bel_alloc (Below.refl _ _) _) hHeld
        clear hK K
        try simp only [Act.put, List.setIfInBounds_toArray, List.set_cons_zero, List.set_cons_succ]
        generalize hV2 : World.alloc V6 _ = V2 at hHeld ⊢
        have b2 : Below V6.heap.size V6 V2 := by rw [← hV2]; exact bel_alloc (Below.refl _ _) _
        have z2 : V6.heap.size < V2.heap.size := by rw [← hV2]; simp
        have lo2 : w.heap.size + 1 < V6.heap.size := by omega
        have E0 : Aside0 (Kd.R kAddr 33 V2 w.heap.size (fun _ => True) (.slice (some ⟨V6.heap.size, 0, none⟩) 0 0) []) := ⟨by rw [← hV2]; exact R_empty kAddr 33 V6 w.heap.size (by omega) trivial⟩
        obtain ⟨g0, hg2⟩ : ∃ g, g = V6.heap.size := ⟨_, rfl⟩
        have lg0 : w.heap.size + 1 < g0 := by omega
        rw [← hg2] at E0 ⊢
        have s2_ : w.heap.size + 1 < V2.heap.size := by omega
        clear hV2 hg2 z2
        replace F1 := Aside0.mk (below_blk F1.out b2)
        replace E1 := Aside0.mk (Kd.R_below E1.out b2)
        refine wpAnyH_ready (rs := [5]) (by kernel_rfl) (by simp) ?_
        refine AllReadyH.cons (o := { dst := some 8, op := Op.call { callee := Callee.builtin Builtin.append, args := #[Operand.tmp 5, Operand.tmp 7], argTypes := #[44, 44] }, type := 44, pos := "l2_mail.go:136", after := #[{ on := 2, ground := Ground.data }, { on := 4, ground := Ground.data }], guard := none }) rfl (fun K hK => ?k270) AllReadyH.nil
        case k270 =>
          refine Kd.R_append_rows_step kAddr (w0 := w) (w.heap.size) (by rfl) (.tmp 5) (.tmp 7) 44 33 (.agg #[(.string ⟨#[]⟩), (.string ⟨#[]⟩)]) 32 rfl Tryd.underlying44 info33 rfl (by decide) (by omega) (.slice (some ⟨g0, 0, none⟩) 0 0) [] m.f1 _ _ _ (fun _ => True) (fun _ => False) rfl rfl ?aO5 ?aR5 (fun _ _ h => h) (fun _ h => h.elim) (fun _ _ => trivial) ?aB5 ?aS5 ?aL5 ?_
          case aO5 => exact E0.out
          case aR5 => exact Kd.C_below hr0 hHeld.2.2.2.2
          case aB5 => exact hHeld.2.2.2.2
          case aS5 => exact (hHeld.2.2.2.2).size
          case aL5 => (simp; omega)
          intro v5 V5 ho hb hg hat
          have ho : Kd.R kAddr 33 V5 w.heap.size (fun _ => True) v5 m.f1 := ho
          obtain ⟨B0, d0, hv5⟩ := Kd.R_slice ho
          subst hv5
          have GR5 : V2.grownBy V5 (some g0) := hg
          clear hg hat
          refine hK.out _ _ ?h271 (fun hHeld => ?j271)
          case h271 => exact ⟨(World.cell?_of_block (GR5.block _ (World.block_lt_of_cell? _ _ hHeld.1) (fun e => by have e := Option.some.inj e; (try dsimp only at e); omega))).trans hHeld.1, (World.cell?_of_block (GR5.block _ (World.block_lt_of_cell? _ _ hHeld.2.1) (fun e => by have e := Option.some.inj e; (try dsimp only at e); omega))).trans hHeld.2.1, (World.cell?_of_block (GR5.block _ (World.block_lt_of_cell? _ _ hHeld.2.2.1) (fun e => by have e := Option.some.inj e; (try dsimp only at e); omega))).trans hHeld.2.2.1, (World.cell?_of_block (GR5.block _ (World.block_lt_of_cell? _ _ hHeld.2.2.2.1) (fun e => by have e := Option.some.inj e; (try dsimp only at e); omega))).trans hHeld.2.2.2.1, hb⟩
          clear hK K
          try simp only [Act.put, List.setIfInBounds_toArray, List.set_cons_zero, List.set_cons_succ]
          have U0 := Aside0.mk ho
          have s5_ : w.heap.size + 1 < V5.heap.size := by have := GR5.size; omega
          replace F1 := Aside0.mk ((GR5.block _ (blk_lt F1.out) (fun e => by have e := Option.some.inj e; omega)).trans F1.out)
          replace E1 := Aside0.mk (Kd.R_over' E1.out (Kd.R_typed E0.out) (by decide) GR5)
          clear ho hb E0
          refine wpAnyH_ready (rs := [9]) (by kernel_rfl) (by simp) ?_
          refine AllReadyH.cons (o := { dst := some 12, op := Op.call { callee := Callee.builtin Builtin.append, args := #[Operand.tmp 9, Operand.tmp 11], argTypes := #[35, 35] }, type := 35, pos := "l2_mail.go:136", after := #[{ on := 6, ground := Ground.data }, { on := 8, ground := Ground.data }, { on := 5, ground := Ground.chain }], guard := none }) rfl (fun K hK => ?k272) AllReadyH.nil
          case k272 =>
            refine Kd.R_append_rows_step Kd.string (w0 := w) (w.heap.size) (by rfl) (.tmp 9) (.tmp 11) 35 9 (.string ⟨#[]⟩) 16 rfl Tryd.underlying35 info9 rfl (by decide) (by omega) (.slice (some ⟨g1, 0, none⟩) 0 0) [] m.f2 _ _ _ (fun _ => True) (fun _ => False) rfl rfl ?aO9 ?aR9 (fun _ _ h => h) (fun _ h => h.elim) (fun _ _ => trivial) ?aB9 ?aS9 ?aL9 ?_
            case aO9 => exact E1.out
            case aR9 => exact Kd.C_below hr1 hHeld.2.2.2.2
            case aB9 => exact hHeld.2.2.2.2
            case aS9 => exact (hHeld.2.2.2.2).size
            case aL9 => (simp; omega)
            intro v9 V9 ho hb hg hat
            have ho : Kd.R Kd.string 9 V9 w.heap.size (fun _ => True) v9 m.f2 := ho
            obtain ⟨B1, d1, hv9⟩ := Kd.R_slice ho
            subst hv9
            have GR9 : V5.grownBy V9 (some g1) := hg
            clear hg hat
            refine hK.out _ _ ?h273 (fun hHeld => ?j273)
            case h273 => exact ⟨(World.cell?_of_block (GR9.block _ (World.block_lt_of_cell? _ _ hHeld.1) (fun e => by have e := Option.some.inj e; (try dsimp only at e); omega))).trans hHeld.1, (World.cell?_of_block (GR9.block _ (World.block_lt_of_cell? _ _ hHeld.2.1) (fun e => by have e := Option.some.inj e; (try dsimp only at e); omega))).trans hHeld.2.1, (World.cell?_of_block (GR9.block _ (World.block_lt_of_cell? _ _ hHeld.2.2.1) (fun e => by have e := Option.some.inj e; (try dsimp only at e); omega))).trans hHeld.2.2.1, (World.cell?_of_block (GR9.block _ (World.block_lt_of_cell? _ _ hHeld.2.2.2.1) (fun e => by have e := Option.some.inj e; (try dsimp only at e); omega))).trans hHeld.2.2.2.1, hb⟩
            clear hK K
            try simp only [Act.put, List.setIfInBounds_toArray, List.set_cons_zero, List.set_cons_succ]
            have U1 := Aside0.mk ho
            have s9_ : w.heap.size + 1 < V9.heap.size := by have := GR9.size; omega
            replace F1 := Aside0.mk ((GR9.block _ (blk_lt F1.out) (fun e => by have e := Option.some.inj e; omega)).trans F1.out)
            replace U0 := Aside0.mk (Kd.R_over' U0.out (Kd.R_typed E1.out) (by decide) GR9)
            clear ho hb E1
            refine wpAnyH_take (i := 10) (oi := { dst := some 13, op := Op.build 46 #[(0, Operand.tmp 4), (1, Operand.tmp 8), (2, Operand.tmp 12)], type := 46, pos := "l2_mail.go:136", after := #[{ on := 1, ground := Ground.data }, { on := 5, ground := Ground.data }, { on := 9, ground := Ground.data }], guard := none }) (v := ?v274) rfl (by kernel_rfl) (by kernel_rfl) (by kernel_rfl) (fun _ _ _ h => h) (Or.inl ⟨by rfl, ?y274⟩) (by assumption) ?r274
            case y274 => intro w_ hSw; (try dsimp only at hSw); go_simp; (try (with_reducible rfl))
            try simp only [Act.put, List.setIfInBounds_toArray, List.set_cons_zero, List.set_cons_succ]
            refine wpAnyH_ready (rs := [11]) (by kernel_rfl) (by simp) ?_
            refine AllReadyH.cons (o := { dst := none, op := Op.store 46 (Operand.tmp 2) (Operand.tmp 13), type := 0, pos := "l2_mail.go:136", after := #[{ on := 10, ground := Ground.data }, { on := 9, ground := Ground.chain }, { on := 0, ground := Ground.phase }, { on := 1, ground := Ground.phase }, { on := 2, ground := Ground.phase }, { on := 3, ground := Ground.phase }, { on := 4, ground := Ground.phase }, { on := 5, ground := Ground.phase }, { on := 6, ground := Ground.phase }, { on := 7, ground := Ground.phase }, { on := 8, ground := Ground.phase }, { on := 9, ground := Ground.phase }, { on := 10, ground := Ground.phase }], guard := none }) rfl (fun K hK => ?k275) AllReadyH.nil
            case k275 =>
              have hb7 := F1.out
              have v0_ : V9.cell? ⟨w.heap.size + 1, 0, none⟩ = some (.string ⟨#[]⟩) := by simp [World.cell?, hb7]
              have v1_ : V9.cell? ⟨w.heap.size + 1, 1, none⟩ = some (.string ⟨#[]⟩) := by simp [World.cell?, hb7]
              have v2_ : V9.cell? ⟨w.heap.size + 1, 2, none⟩ = some (.slice none 0 0) := by simp [World.cell?, hb7]
              have v3_ : V9.cell? ⟨w.heap.size + 1, 3, none⟩ = some (.slice none 0 0) := by simp [World.cell?, hb7]
              have u0_ : V9.frozen? ⟨w.heap.size + 1, 0, none⟩ = false := by simp [World.frozen?, hb7]
              have u1_ : V9.frozen? ⟨w.heap.size + 1, 1, none⟩ = false := by simp [World.frozen?, hb7]
              have u2_ : V9.frozen? ⟨w.heap.size + 1, 2, none⟩ = false := by simp [World.frozen?, hb7]
              have u3_ : V9.frozen? ⟨w.heap.size + 1, 3, none⟩ = false := by simp [World.frozen?, hb7]
              go_simp
              generalize hV11 : World.setCell (World.setCell (World.setCell (World.setCell V9 ⟨w.heap.size + 1, 0, none⟩ _) ⟨w.heap.size + 1, 1, none⟩ _) ⟨w.heap.size + 1, 2, none⟩ _) ⟨w.heap.size + 1, 3, none⟩ _ = V11
              have G11 : V9.grownBy V11 (some (w.heap.size + 1)) := by rw [← hV11]; exact (((grown_set1 _ _ _ _).trans (grown_set1 _ _ _ _)).trans (grown_set1 _ _ _ _)).trans (grown_set1 _ _ _ _)
              have FF : V11.heap[w.heap.size + 1]? = some (.cells #[.string m.f0.f0, .string m.f0.f1, .slice B0 m.f1.length d0, .slice B1 m.f2.length d1] 46 (0, 0)) := by rw [← hV11, blk_set1 (blk_set1 (blk_set1 (blk_set1 (F1.out) 0 _) 1 _) 2 _) 3 _]; simp
              have BB : Below w.heap.size w V11 := by rw [← hV11]; exact (bel_set (bel_set (bel_set (bel_set hHeld.2.2.2.2 _ (by show w.heap.size ≤ w.heap.size + 1; omega)) _ (by show w.heap.size ≤ w.heap.size + 1; omega)) _ (by show w.heap.size ≤ w.heap.size + 1; omega)) _ (by show w.heap.size ≤ w.heap.size + 1; omega))
              clear hV11
              refine hK.out _ _ ?h276 (fun hHeld => ?j276)
              case h276 => exact ⟨(World.cell?_of_block (G11.block _ (World.block_lt_of_cell? _ _ hHeld.1) (fun e => by have e := Option.some.inj e; (try dsimp only at e); omega))).trans hHeld.1, (World.cell?_of_block (G11.block _ (World.block_lt_of_cell? _ _ hHeld.2.1) (fun e => by have e := Option.some.inj e; (try dsimp only at e); omega))).trans hHeld.2.1, (World.cell?_of_block (G11.block _ (World.block_lt_of_cell? _ _ hHeld.2.2.1) (fun e => by have e := Option.some.inj e; (try dsimp only at e); omega))).trans hHeld.2.2.1, (World.cell?_of_block (G11.block _ (World.block_lt_of_cell? _ _ hHeld.2.2.2.1) (fun e => by have e := Option.some.inj e; (try dsimp only at e); omega))).trans hHeld.2.2.2.1, BB⟩
              clear hK K
              try simp only [Act.put, List.setIfInBounds_toArray, List.set_cons_zero, List.set_cons_succ]
              replace U0 := Aside0.mk (R_else U0.out rfl G11 (Kd.R_ne U0.out F1.out (by decide)))
              replace U1 := Aside0.mk (R_else U1.out rfl G11 (Kd.R_ne U1.out F1.out (by decide)))
              replace F1 := Aside0.mk FF
              clear FF
              refine wpAnyH_done (by kernel_rfl) ?_ _
              exact HKK.out B0 d0 B1 d1 g0 g1 V11 ⟨hHeld.2.2.2.2, F1.out, U0.out, U1.out⟩
  case hk =>
    intro B0 d0 B1 d1 g0 g1 V ⟨BV, f1, u0, u1⟩
    clear HST HK HF1 join
    have U0 := Aside0.mk u0
    have U1 := Aside0.mk u1
    have F1 := Aside0.mk f1
    have BW := Aside0.mk BV
    clear u0 u1 f1 BV
    have m0_ : V.cell? ⟨w.heap.size + 1, 0, none⟩ = some (.string m.f0.f0) := by simp [World.cell?, F1.out]
    have m1_ : V.cell? ⟨w.heap.size + 1, 1, none⟩ = some (.string m.f0.f1) := by simp [World.cell?, F1.out]
    have m2_ : V.cell? ⟨w.heap.size + 1, 2, none⟩ = some (.slice B0 m.f1.length d0) := by simp [World.cell?, F1.out]
    have m3_ : V.cell? ⟨w.heap.size + 1, 3, none⟩ = some (.slice B1 m.f2.length d1) := by simp [World.cell?, F1.out]
    go_wp2
    refine bodyPost_ret (v := .agg #[.string m.f0.f0, .string m.f0.f1, .slice B0 m.f1.length d0, .slice B1 m.f2.length d1]) ?hr rfl ?hp
    case hr => simp [results, Tryd.results77, go_sem, m0_, m1_, m2_, m3_]
    case hp => exact ⟨B0, d0, B1, d1, rfl, U0.out, U1.out, BW.out⟩

end Go.Proofs.YtmfehmbgghfffaaDoor
