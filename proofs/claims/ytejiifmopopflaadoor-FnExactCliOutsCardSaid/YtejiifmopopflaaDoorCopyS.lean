/- Copies of mails, of the reference: a contract. -/
import Derived.Test.YtejiifmopopflaaDoorCopyM
namespace Go.Proofs.YtejiifmopopflaaDoor
open Go.RowKit Go.Proofs.YtejiifmopopflaaDoorW.PrintWords
set_option linter.unusedVariables false
set_option linter.unusedSimpArgs false

set_option maxRecDepth 100000 in
set_option maxHeartbeats 4000000 in
theorem specCopy_any (m : SMail) (A0 : Option Addr) (c0 : Nat) (A1 : Option Addr) (c1 : Nat) (w : World) (hw : fitMail m) (hr0 : Kd.C kAddr w A0 m.f1.length m.f1) (hr1 : Kd.C Kd.string w A1 m.f2.length m.f2) :
    Calls Tryd.prog 112 #[.agg #[.string m.f0.f0, .string m.f0.f1, .slice A0 m.f1.length c0, .slice A1 m.f2.length c1]] w fun e w' => ∃ B0 d0 B1 d1, e = .returned (.agg #[.string m.f0.f0, .string m.f0.f1, .slice B0 m.f1.length d0, .slice B1 m.f2.length d1]) ∧ Kd.R kAddr 30 w' w.heap.size (fun _ => True) (.slice B0 m.f1.length d0) m.f1 ∧ Kd.R Kd.string 9 w' w.heap.size (fun _ => True) (.slice B1 m.f2.length d1) m.f2 ∧ Below w.heap.size w w' := by
  have hl0 : m.f1.length ≤ 1048576 := hw.2.1.1
  have hl1 : m.f2.length ≤ 1048576 := hw.2.2.1
  clear hw
  go_enter Tryd.func112, Tryd.ntmps112
  go_wp2
  obtain ⟨W0, hW0⟩ : ∃ W, W = (w.alloc (.cells #[.string m.f0.f0, .string m.f0.f1, .slice A0 m.f1.length c0, .slice A1 m.f2.length c1] 33)).alloc (.cells #[.string ⟨#[]⟩, .string ⟨#[]⟩, .slice none 0 0, .slice none 0 0] 33) := ⟨_, rfl⟩
  rw [← hW0]
  have f0 : W0.heap[w.heap.size]? = some (.cells #[.string m.f0.f0, .string m.f0.f1, .slice A0 m.f1.length c0, .slice A1 m.f2.length c1] 33 (0, 0)) := by rw [hW0]; exact below_blk (blk_new _ _) (bel_alloc (Below.refl _ _) _)
  have HF1 : Aside0 (W0.heap[w.heap.size + 1]? = some (.cells #[.string ⟨#[]⟩, .string ⟨#[]⟩, .slice none 0 0, .slice none 0 0] 33 (0, 0))) := ⟨by rw [hW0, show w.heap.size + 1 = (w.alloc (.cells #[.string m.f0.f0, .string m.f0.f1, .slice A0 m.f1.length c0, .slice A1 m.f2.length c1] 33)).heap.size by simp]; exact blk_new _ _⟩
  have B0 : Below w.heap.size w W0 := by rw [hW0]; exact bel_alloc (bel_alloc (Below.refl _ _) _) _
  clear hW0
  have join : Hid (∀ {goal : Prop} {G : Option Addr → Nat → Option Addr → Nat → Nat → Nat → World → Prop} (rg : Hid (∀ (B0 : Option Addr) (d0 : Nat) (B1 : Option Addr) (d1 : Nat) (g0 g1 : Nat) (V : World), Below w.heap.size w V ∧ V.heap[w.heap.size + 1]? = some (.cells #[.string m.f0.f0, .string m.f0.f1, .slice B0 m.f1.length d0, .slice B1 m.f2.length d1] 33 (0, 0)) ∧ Kd.R kAddr 30 V w.heap.size (fun _ => True) (.slice B0 m.f1.length d0) m.f1 ∧ Kd.R Kd.string 9 V w.heap.size (fun _ => True) (.slice B1 m.f2.length d1) m.f2 → G B0 d0 B1 d1 g0 g1 V) → goal) (hk : ∀ (B0 : Option Addr) (d0 : Nat) (B1 : Option Addr) (d1 : Nat) (g0 g1 : Nat) (V : World), Below w.heap.size w V ∧ V.heap[w.heap.size + 1]? = some (.cells #[.string m.f0.f0, .string m.f0.f1, .slice B0 m.f1.length d0, .slice B1 m.f2.length d1] 33 (0, 0)) ∧ Kd.R kAddr 30 V w.heap.size (fun _ => True) (.slice B0 m.f1.length d0) m.f1 ∧ Kd.R Kd.string 9 V w.heap.size (fun _ => True) (.slice B1 m.f2.length d1) m.f2 → G B0 d0 B1 d1 g0 g1 V), goal) := Lib.hid (fun f h => f (Lib.hid h))
  have HK : Aside0 (∀ W W1, Below W.heap.size W W1 → (W.cell? ⟨w.heap.size, 0, none⟩ = some (.string m.f0.f0) ∧ W.cell? ⟨w.heap.size, 1, none⟩ = some (.string m.f0.f1) ∧ W.cell? ⟨w.heap.size, 2, none⟩ = some (.slice A0 m.f1.length c0) ∧ W.cell? ⟨w.heap.size, 3, none⟩ = some (.slice A1 m.f2.length c1) ∧ Below w.heap.size w W) → (W1.cell? ⟨w.heap.size, 0, none⟩ = some (.string m.f0.f0) ∧ W1.cell? ⟨w.heap.size, 1, none⟩ = some (.string m.f0.f1) ∧ W1.cell? ⟨w.heap.size, 2, none⟩ = some (.slice A0 m.f1.length c0) ∧ W1.cell? ⟨w.heap.size, 3, none⟩ = some (.slice A1 m.f2.length c1) ∧ Below w.heap.size w W1)) := ⟨fun W W1 hb h => ⟨(hb.cell (World.block_lt_of_cell? W _ (h.1))).trans (h.1), (hb.cell (World.block_lt_of_cell? W _ (h.2.1))).trans (h.2.1), (hb.cell (World.block_lt_of_cell? W _ (h.2.2.1))).trans (h.2.2.1), (hb.cell (World.block_lt_of_cell? W _ (h.2.2.2.1))).trans (h.2.2.2.1), bel_then (h.2.2.2.2) hb⟩⟩
  have x0_ : W0.cell? ⟨w.heap.size, 0, none⟩ = some (.string m.f0.f0) := by simp [World.cell?, f0]
  have x1_ : W0.cell? ⟨w.heap.size, 1, none⟩ = some (.string m.f0.f1) := by simp [World.cell?, f0]
  have x2_ : W0.cell? ⟨w.heap.size, 2, none⟩ = some (.slice A0 m.f1.length c0) := by simp [World.cell?, f0]
  have x3_ : W0.cell? ⟨w.heap.size, 3, none⟩ = some (.slice A1 m.f2.length c1) := by simp [World.cell?, f0]
  have HST : Aside0 ((fun W => W.cell? ⟨w.heap.size, 0, none⟩ = some (.string m.f0.f0) ∧ W.cell? ⟨w.heap.size, 1, none⟩ = some (.string m.f0.f1) ∧ W.cell? ⟨w.heap.size, 2, none⟩ = some (.slice A0 m.f1.length c0) ∧ W.cell? ⟨w.heap.size, 3, none⟩ = some (.slice A1 m.f2.length c1) ∧ Below w.heap.size w W) W0.drew) := ⟨⟨x0_, x1_, x2_, x3_, bel_then B0 (drew_below0 W0)⟩⟩
  clear f0 B0 x0_ x1_ x2_ x3_
  apply join.out
  case rg =>
    intro HKK
    refine wp_region_held_drew (S := (fun W => W.cell? ⟨w.heap.size, 0, none⟩ = some (.string m.f0.f0) ∧ W.cell? ⟨w.heap.size, 1, none⟩ = some (.string m.f0.f1) ∧ W.cell? ⟨w.heap.size, 2, none⟩ = some (.slice A0 m.f1.length c0) ∧ W.cell? ⟨w.heap.size, 3, none⟩ = some (.slice A1 m.f2.length c1) ∧ Below w.heap.size w W)) (by kernel_rfl) ?s260 (fun hHeld => ?t260)
    case s260 => exact HST.out
    generalize hV0 : World.drew _ = V0 at hHeld ⊢
    have F1 : Aside0 (V0.heap[w.heap.size + 1]? = some (.cells #[.string ⟨#[]⟩, .string ⟨#[]⟩, .slice none 0 0, .slice none 0 0] 33 (0, 0))) := ⟨by rw [← hV0]; exact HF1.out⟩
    have s0_ : w.heap.size + 1 < V0.heap.size := blk_lt F1.out
    clear hV0
    refine wpAnyH_take (i := 0) (oi := { dst := some 3, op := Op.fieldAddr 33 (Operand.tmp 1) 0, type := 0, pos := "l2_mail.go:136", after := #[], guard := none }) (v := ?v261) rfl (by kernel_rfl) (by kernel_rfl) (by kernel_rfl) (fun _ _ _ h => h) (Or.inl ⟨by rfl, ?y261⟩) (by assumption) ?r261
    case y261 => intro w_ hSw; (try dsimp only at hSw); go_simp; (try (with_reducible rfl))
    try simp only [Act.put, List.setIfInBounds_toArray, List.set_cons_zero, List.set_cons_succ]
    refine wpAnyH_take (i := 1) (oi := { dst := some 4, op := Op.load 30 (Operand.tmp 3), type := 30, pos := "l2_mail.go:136", after := #[{ on := 0, ground := Ground.data }], guard := none }) (v := ?v262) rfl (by kernel_rfl) (by kernel_rfl) (by kernel_rfl) (fun _ _ _ h => h) (Or.inl ⟨by rfl, ?y262⟩) (by assumption) ?r262
    case y262 => intro w_ hSw; (try dsimp only at hSw); go_simp; (try (with_reducible rfl))
    try simp only [Act.put, List.setIfInBounds_toArray, List.set_cons_zero, List.set_cons_succ]
    refine wpAnyH_take (i := 3) (oi := { dst := some 6, op := Op.fieldAddr 33 (Operand.tmp 1) 1, type := 0, pos := "l2_mail.go:136", after := #[], guard := none }) (v := ?v263) rfl (by kernel_rfl) (by kernel_rfl) (by kernel_rfl) (fun _ _ _ h => h) (Or.inl ⟨by rfl, ?y263⟩) (by assumption) ?r263
    case y263 => intro w_ hSw; (try dsimp only at hSw); go_simp; (try (with_reducible rfl))
    try simp only [Act.put, List.setIfInBounds_toArray, List.set_cons_zero, List.set_cons_succ]
    refine wpAnyH_take (i := 4) (oi := { dst := some 7, op := Op.load 31 (Operand.tmp 6), type := 31, pos := "l2_mail.go:136", after := #[{ on := 3, ground := Ground.data }], guard := none }) (v := ?v264) rfl (by kernel_rfl) (by kernel_rfl) (by kernel_rfl) (fun _ _ _ h => h) (Or.inl ⟨by rfl, ?y264⟩) (by assumption) ?r264
    case y264 => intro w_ hSw; (try dsimp only at hSw); go_simp; (try (with_reducible rfl))
    try simp only [Act.put, List.setIfInBounds_toArray, List.set_cons_zero, List.set_cons_succ]
    refine wpAnyH_take (i := 7) (oi := { dst := some 10, op := Op.fieldAddr 33 (Operand.tmp 1) 2, type := 0, pos := "l2_mail.go:136", after := #[], guard := none }) (v := ?v265) rfl (by kernel_rfl) (by kernel_rfl) (by kernel_rfl) (fun _ _ _ h => h) (Or.inl ⟨by rfl, ?y265⟩) (by assumption) ?r265
    case y265 => intro w_ hSw; (try dsimp only at hSw); go_simp; (try (with_reducible rfl))
    try simp only [Act.put, List.setIfInBounds_toArray, List.set_cons_zero, List.set_cons_succ]
    refine wpAnyH_take (i := 8) (oi := { dst := some 11, op := Op.load 25 (Operand.tmp 10), type := 25, pos := "l2_mail.go:136", after := #[{ on := 7, ground := Ground.data }], guard := none }) (v := ?v266) rfl (by kernel_rfl) (by kernel_rfl) (by kernel_rfl) (fun _ _ _ h => h) (Or.inl ⟨by rfl, ?y266⟩) (by assumption) ?r266
    case y266 => intro w_ hSw; (try dsimp only at hSw); go_simp; (try (with_reducible rfl))
    try simp only [Act.put, List.setIfInBounds_toArray, List.set_cons_zero, List.set_cons_succ]
    refine wpAnyH_ready (rs := [2, 6]) (by kernel_rfl) (by simp) ?_
    refine AllReadyH.cons (o := { dst := some 5, op := Op.buildSlice 31 0 #[], type := 31, pos := "l2_mail.go:136", after := #[], guard := none }) rfl (fun K hK => ?k267) (AllReadyH.cons (o := { dst := some 9, op := Op.buildSlice 25 0 #[], type := 25, pos := "l2_mail.go:136", after := #[], guard := none }) rfl (fun K hK => ?k268) AllReadyH.nil)
    case k267 =>
      go_simp
      refine hK.out _ _ ?h269 (fun hHeld => ?j269)
      case h269 => exact HK.out _ _ (bel_alloc (Below.refl _ _) _) hHeld
      clear hK K
      try simp only [Act.put, List.setIfInBounds_toArray, List.set_cons_zero, List.set_cons_succ]
      generalize hV2 : World.alloc V0 _ = V2 at hHeld ⊢
      have b2 : Below V0.heap.size V0 V2 := by rw [← hV2]; exact bel_alloc (Below.refl _ _) _
      have z2 : V0.heap.size < V2.heap.size := by rw [← hV2]; simp
      have lo2 : w.heap.size + 1 < V0.heap.size := by omega
      have E0 : Aside0 (Kd.R kAddr 30 V2 w.heap.size (fun _ => True) (.slice (some ⟨V0.heap.size, 0, none⟩) 0 0) []) := ⟨by rw [← hV2]; exact R_empty kAddr 30 V0 w.heap.size (by omega) trivial⟩
      obtain ⟨g0, hg2⟩ : ∃ g, g = V0.heap.size := ⟨_, rfl⟩
      have lg0 : w.heap.size + 1 < g0 := by omega
      rw [← hg2] at E0 ⊢
      have s2_ : w.heap.size + 1 < V2.heap.size := by omega
      clear hV2 hg2 z2
      replace F1 := Aside0.mk (below_blk F1.out b2)
      refine wpAnyH_ready (rs := [5, 6]) (by kernel_rfl) (by simp) ?_
      refine AllReadyH.cons (o := { dst := some 8, op := Op.call { callee := Callee.builtin Builtin.append, args := #[Operand.tmp 5, Operand.tmp 7], argTypes := #[31, 31] }, type := 31, pos := "l2_mail.go:136", after := #[{ on := 2, ground := Ground.data }, { on := 4, ground := Ground.data }], guard := none }) rfl (fun K hK => ?k270) (AllReadyH.cons (o := { dst := some 9, op := Op.buildSlice 25 0 #[], type := 25, pos := "l2_mail.go:136", after := #[], guard := none }) rfl (fun K hK => ?k271) AllReadyH.nil)
      case k270 =>
        refine Kd.R_append_rows_step kAddr (w0 := w) (w.heap.size) (by rfl) (.tmp 5) (.tmp 7) 31 30 (.agg #[(.string ⟨#[]⟩), (.string ⟨#[]⟩)]) 32 rfl Tryd.underlying31 info30 rfl (by decide) (by omega) (.slice (some ⟨g0, 0, none⟩) 0 0) [] m.f1 _ _ _ (fun _ => True) (fun _ => False) rfl rfl ?aO5 ?aR5 (fun _ _ h => h) (fun _ h => h.elim) (fun _ _ => trivial) ?aB5 ?aS5 ?aL5 ?_
        case aO5 => exact E0.out
        case aR5 => exact Kd.C_below hr0 hHeld.2.2.2.2
        case aB5 => exact hHeld.2.2.2.2
        case aS5 => exact (hHeld.2.2.2.2).size
        case aL5 => (simp; omega)
        intro v5 V5 ho hb hg hat
        have ho : Kd.R kAddr 30 V5 w.heap.size (fun _ => True) v5 m.f1 := ho
        obtain ⟨B0, d0, hv5⟩ := Kd.R_slice ho
        subst hv5
        have GR5 : V2.grownBy V5 (some g0) := hg
        clear hg hat
        refine hK.out _ _ ?h272 (fun hHeld => ?j272)
        case h272 => exact ⟨(World.cell?_of_block (GR5.block _ (World.block_lt_of_cell? _ _ hHeld.1) (fun e => by have e := Option.some.inj e; (try dsimp only at e); omega))).trans hHeld.1, (World.cell?_of_block (GR5.block _ (World.block_lt_of_cell? _ _ hHeld.2.1) (fun e => by have e := Option.some.inj e; (try dsimp only at e); omega))).trans hHeld.2.1, (World.cell?_of_block (GR5.block _ (World.block_lt_of_cell? _ _ hHeld.2.2.1) (fun e => by have e := Option.some.inj e; (try dsimp only at e); omega))).trans hHeld.2.2.1, (World.cell?_of_block (GR5.block _ (World.block_lt_of_cell? _ _ hHeld.2.2.2.1) (fun e => by have e := Option.some.inj e; (try dsimp only at e); omega))).trans hHeld.2.2.2.1, hb⟩
        clear hK K
        try simp only [Act.put, List.setIfInBounds_toArray, List.set_cons_zero, List.set_cons_succ]
        have U0 := Aside0.mk ho
        have s5_ : w.heap.size + 1 < V5.heap.size := by have := GR5.size; omega
        replace F1 := Aside0.mk ((GR5.block _ (blk_lt F1.out) (fun e => by have e := Option.some.inj e; omega)).trans F1.out)
        clear ho hb E0
        refine wpAnyH_ready (rs := [6]) (by kernel_rfl) (by simp) ?_
        refine AllReadyH.cons (o := { dst := some 9, op := Op.buildSlice 25 0 #[], type := 25, pos := "l2_mail.go:136", after := #[], guard := none }) rfl (fun K hK => ?k273) AllReadyH.nil
        case k273 =>
          go_simp
          refine hK.out _ _ ?h274 (fun hHeld => ?j274)
          case h274 => exact HK.out _ _ (bel_alloc (Below.refl _ _) _) hHeld
          clear hK K
          try simp only [Act.put, List.setIfInBounds_toArray, List.set_cons_zero, List.set_cons_succ]
          generalize hV6 : World.alloc V5 _ = V6 at hHeld ⊢
          have b6 : Below V5.heap.size V5 V6 := by rw [← hV6]; exact bel_alloc (Below.refl _ _) _
          have z6 : V5.heap.size < V6.heap.size := by rw [← hV6]; simp
          have lo6 : w.heap.size + 1 < V5.heap.size := by omega
          have E1 : Aside0 (Kd.R Kd.string 9 V6 w.heap.size (fun _ => True) (.slice (some ⟨V5.heap.size, 0, none⟩) 0 0) []) := ⟨by rw [← hV6]; exact R_empty Kd.string 9 V5 w.heap.size (by omega) trivial⟩
          obtain ⟨g1, hg6⟩ : ∃ g, g = V5.heap.size := ⟨_, rfl⟩
          have lg1 : w.heap.size + 1 < g1 := by omega
          rw [← hg6] at E1 ⊢
          have s6_ : w.heap.size + 1 < V6.heap.size := by omega
          clear hV6 hg6 z6
          replace F1 := Aside0.mk (below_blk F1.out b6)
          replace U0 := Aside0.mk (Kd.R_below U0.out b6)
          refine wpAnyH_ready (rs := [9]) (by kernel_rfl) (by simp) ?_
          refine AllReadyH.cons (o := { dst := some 12, op := Op.call { callee := Callee.builtin Builtin.append, args := #[Operand.tmp 9, Operand.tmp 11], argTypes := #[25, 25] }, type := 25, pos := "l2_mail.go:136", after := #[{ on := 6, ground := Ground.data }, { on := 8, ground := Ground.data }, { on := 5, ground := Ground.chain }], guard := none }) rfl (fun K hK => ?k275) AllReadyH.nil
          case k275 =>
            refine Kd.R_append_rows_step Kd.string (w0 := w) (w.heap.size) (by rfl) (.tmp 9) (.tmp 11) 25 9 (.string ⟨#[]⟩) 16 rfl Tryd.underlying25 info9 rfl (by decide) (by omega) (.slice (some ⟨g1, 0, none⟩) 0 0) [] m.f2 _ _ _ (fun _ => True) (fun _ => False) rfl rfl ?aO9 ?aR9 (fun _ _ h => h) (fun _ h => h.elim) (fun _ _ => trivial) ?aB9 ?aS9 ?aL9 ?_
            case aO9 => exact E1.out
            case aR9 => exact Kd.C_below hr1 hHeld.2.2.2.2
            case aB9 => exact hHeld.2.2.2.2
            case aS9 => exact (hHeld.2.2.2.2).size
            case aL9 => (simp; omega)
            intro v9 V9 ho hb hg hat
            have ho : Kd.R Kd.string 9 V9 w.heap.size (fun _ => True) v9 m.f2 := ho
            obtain ⟨B1, d1, hv9⟩ := Kd.R_slice ho
            subst hv9
            have GR9 : V6.grownBy V9 (some g1) := hg
            clear hg hat
            refine hK.out _ _ ?h276 (fun hHeld => ?j276)
            case h276 => exact ⟨(World.cell?_of_block (GR9.block _ (World.block_lt_of_cell? _ _ hHeld.1) (fun e => by have e := Option.some.inj e; (try dsimp only at e); omega))).trans hHeld.1, (World.cell?_of_block (GR9.block _ (World.block_lt_of_cell? _ _ hHeld.2.1) (fun e => by have e := Option.some.inj e; (try dsimp only at e); omega))).trans hHeld.2.1, (World.cell?_of_block (GR9.block _ (World.block_lt_of_cell? _ _ hHeld.2.2.1) (fun e => by have e := Option.some.inj e; (try dsimp only at e); omega))).trans hHeld.2.2.1, (World.cell?_of_block (GR9.block _ (World.block_lt_of_cell? _ _ hHeld.2.2.2.1) (fun e => by have e := Option.some.inj e; (try dsimp only at e); omega))).trans hHeld.2.2.2.1, hb⟩
            clear hK K
            try simp only [Act.put, List.setIfInBounds_toArray, List.set_cons_zero, List.set_cons_succ]
            have U1 := Aside0.mk ho
            have s9_ : w.heap.size + 1 < V9.heap.size := by have := GR9.size; omega
            replace F1 := Aside0.mk ((GR9.block _ (blk_lt F1.out) (fun e => by have e := Option.some.inj e; omega)).trans F1.out)
            replace U0 := Aside0.mk (Kd.R_over' U0.out (Kd.R_typed E1.out) (by decide) GR9)
            clear ho hb E1
            refine wpAnyH_take (i := 10) (oi := { dst := some 13, op := Op.build 33 #[(0, Operand.tmp 4), (1, Operand.tmp 8), (2, Operand.tmp 12)], type := 33, pos := "l2_mail.go:136", after := #[{ on := 1, ground := Ground.data }, { on := 5, ground := Ground.data }, { on := 9, ground := Ground.data }], guard := none }) (v := ?v277) rfl (by kernel_rfl) (by kernel_rfl) (by kernel_rfl) (fun _ _ _ h => h) (Or.inl ⟨by rfl, ?y277⟩) (by assumption) ?r277
            case y277 => intro w_ hSw; (try dsimp only at hSw); go_simp; (try (with_reducible rfl))
            try simp only [Act.put, List.setIfInBounds_toArray, List.set_cons_zero, List.set_cons_succ]
            refine wpAnyH_ready (rs := [11]) (by kernel_rfl) (by simp) ?_
            refine AllReadyH.cons (o := { dst := none, op := Op.store 33 (Operand.tmp 2) (Operand.tmp 13), type := 0, pos := "l2_mail.go:136", after := #[{ on := 10, ground := Ground.data }, { on := 9, ground := Ground.chain }, { on := 0, ground := Ground.phase }, { on := 1, ground := Ground.phase }, { on := 2, ground := Ground.phase }, { on := 3, ground := Ground.phase }, { on := 4, ground := Ground.phase }, { on := 5, ground := Ground.phase }, { on := 6, ground := Ground.phase }, { on := 7, ground := Ground.phase }, { on := 8, ground := Ground.phase }, { on := 9, ground := Ground.phase }, { on := 10, ground := Ground.phase }], guard := none }) rfl (fun K hK => ?k278) AllReadyH.nil
            case k278 =>
              have hb7 := F1.out
              have v0_ : V9.cell? ⟨w.heap.size + 1, 0, none⟩ = some (.string ⟨#[]⟩) := by simp [World.cell?, hb7]
              have v1_ : V9.cell? ⟨w.heap.size + 1, 1, none⟩ = some (.string ⟨#[]⟩) := by simp [World.cell?, hb7]
              have v2_ : V9.cell? ⟨w.heap.size + 1, 2, none⟩ = some (.slice none 0 0) := by simp [World.cell?, hb7]
              have v3_ : V9.cell? ⟨w.heap.size + 1, 3, none⟩ = some (.slice none 0 0) := by simp [World.cell?, hb7]
              have u0_ : V9.frozen? ⟨w.heap.size + 1, 0, none⟩ = false := by simp [World.frozen?, hb7]
              have u1_ : V9.frozen? ⟨w.heap.size + 1, 1, none⟩ = false := by simp [World.frozen?, hb7]
              have u2_ : V9.frozen? ⟨w.heap.size + 1, 2, none⟩ = false := by simp [World.frozen?, hb7]
              have u3_ : V9.frozen? ⟨w.heap.size + 1, 3, none⟩ = false := by simp [World.frozen?, hb7]
              go_simp
              generalize hV11 : World.setCell (World.setCell (World.setCell (World.setCell V9 ⟨w.heap.size + 1, 0, none⟩ _) ⟨w.heap.size + 1, 1, none⟩ _) ⟨w.heap.size + 1, 2, none⟩ _) ⟨w.heap.size + 1, 3, none⟩ _ = V11
              have G11 : V9.grownBy V11 (some (w.heap.size + 1)) := by rw [← hV11]; exact (((grown_set1 _ _ _ _).trans (grown_set1 _ _ _ _)).trans (grown_set1 _ _ _ _)).trans (grown_set1 _ _ _ _)
              have FF : V11.heap[w.heap.size + 1]? = some (.cells #[.string m.f0.f0, .string m.f0.f1, .slice B0 m.f1.length d0, .slice B1 m.f2.length d1] 33 (0, 0)) := by rw [← hV11, blk_set1 (blk_set1 (blk_set1 (blk_set1 (F1.out) 0 _) 1 _) 2 _) 3 _]; simp
              have BB : Below w.heap.size w V11 := by rw [← hV11]; exact (bel_set (bel_set (bel_set (bel_set hHeld.2.2.2.2 _ (by show w.heap.size ≤ w.heap.size + 1; omega)) _ (by show w.heap.size ≤ w.heap.size + 1; omega)) _ (by show w.heap.size ≤ w.heap.size + 1; omega)) _ (by show w.heap.size ≤ w.heap.size + 1; omega))
              clear hV11
              refine hK.out _ _ ?h279 (fun hHeld => ?j279)
              case h279 => exact ⟨(World.cell?_of_block (G11.block _ (World.block_lt_of_cell? _ _ hHeld.1) (fun e => by have e := Option.some.inj e; (try dsimp only at e); omega))).trans hHeld.1, (World.cell?_of_block (G11.block _ (World.block_lt_of_cell? _ _ hHeld.2.1) (fun e => by have e := Option.some.inj e; (try dsimp only at e); omega))).trans hHeld.2.1, (World.cell?_of_block (G11.block _ (World.block_lt_of_cell? _ _ hHeld.2.2.1) (fun e => by have e := Option.some.inj e; (try dsimp only at e); omega))).trans hHeld.2.2.1, (World.cell?_of_block (G11.block _ (World.block_lt_of_cell? _ _ hHeld.2.2.2.1) (fun e => by have e := Option.some.inj e; (try dsimp only at e); omega))).trans hHeld.2.2.2.1, BB⟩
              clear hK K
              try simp only [Act.put, List.setIfInBounds_toArray, List.set_cons_zero, List.set_cons_succ]
              replace U0 := Aside0.mk (R_else U0.out rfl G11 (Kd.R_ne U0.out F1.out (by decide)))
              replace U1 := Aside0.mk (R_else U1.out rfl G11 (Kd.R_ne U1.out F1.out (by decide)))
              replace F1 := Aside0.mk FF
              clear FF
              refine wpAnyH_done (by kernel_rfl) ?_ _
              exact HKK.out B0 d0 B1 d1 g0 g1 V11 ⟨hHeld.2.2.2.2, F1.out, U0.out, U1.out⟩
      case k271 =>
        go_simp
        refine hK.out _ _ ?h280 (fun hHeld => ?j280)
        case h280 => exact HK.out _ _ (bel_alloc (Below.refl _ _) _) hHeld
        clear hK K
        try simp only [Act.put, List.setIfInBounds_toArray, List.set_cons_zero, List.set_cons_succ]
        generalize hV6 : World.alloc V2 _ = V6 at hHeld ⊢
        have b6 : Below V2.heap.size V2 V6 := by rw [← hV6]; exact bel_alloc (Below.refl _ _) _
        have z6 : V2.heap.size < V6.heap.size := by rw [← hV6]; simp
        have lo6 : w.heap.size + 1 < V2.heap.size := by omega
        have E1 : Aside0 (Kd.R Kd.string 9 V6 w.heap.size (fun _ => True) (.slice (some ⟨V2.heap.size, 0, none⟩) 0 0) []) := ⟨by rw [← hV6]; exact R_empty Kd.string 9 V2 w.heap.size (by omega) trivial⟩
        obtain ⟨g1, hg6⟩ : ∃ g, g = V2.heap.size := ⟨_, rfl⟩
        have lg1 : w.heap.size + 1 < g1 := by omega
        rw [← hg6] at E1 ⊢
        have s6_ : w.heap.size + 1 < V6.heap.size := by omega
        clear hV6 hg6 z6
        replace F1 := Aside0.mk (below_blk F1.out b6)
        replace E0 := Aside0.mk (Kd.R_below E0.out b6)
        refine wpAnyH_ready (rs := [5]) (by kernel_rfl) (by simp) ?_
        refine AllReadyH.cons (o := { dst := some 8, op := Op.call { callee := Callee.builtin Builtin.append, args := #[Operand.tmp 5, Operand.tmp 7], argTypes := #[31, 31] }, type := 31, pos := "l2_mail.go:136", after := #[{ on := 2, ground := Ground.data }, { on := 4, ground := Ground.data }], guard := none }) rfl (fun K hK => ?k281) AllReadyH.nil
        case k281 =>
          refine Kd.R_append_rows_step kAddr (w0 := w) (w.heap.size) (by rfl) (.tmp 5) (.tmp 7) 31 30 (.agg #[(.string ⟨#[]⟩), (.string ⟨#[]⟩)]) 32 rfl Tryd.underlying31 info30 rfl (by decide) (by omega) (.slice (some ⟨g0, 0, none⟩) 0 0) [] m.f1 _ _ _ (fun _ => True) (fun _ => False) rfl rfl ?aO5 ?aR5 (fun _ _ h => h) (fun _ h => h.elim) (fun _ _ => trivial) ?aB5 ?aS5 ?aL5 ?_
          case aO5 => exact E0.out
          case aR5 => exact Kd.C_below hr0 hHeld.2.2.2.2
          case aB5 => exact hHeld.2.2.2.2
          case aS5 => exact (hHeld.2.2.2.2).size
          case aL5 => (simp; omega)
          intro v5 V5 ho hb hg hat
          have ho : Kd.R kAddr 30 V5 w.heap.size (fun _ => True) v5 m.f1 := ho
          obtain ⟨B0, d0, hv5⟩ := Kd.R_slice ho
          subst hv5
          have GR5 : V6.grownBy V5 (some g0) := hg
          clear hg hat
          refine hK.out _ _ ?h282 (fun hHeld => ?j282)
          case h282 => exact ⟨(World.cell?_of_block (GR5.block _ (World.block_lt_of_cell? _ _ hHeld.1) (fun e => by have e := Option.some.inj e; (try dsimp only at e); omega))).trans hHeld.1, (World.cell?_of_block (GR5.block _ (World.block_lt_of_cell? _ _ hHeld.2.1) (fun e => by have e := Option.some.inj e; (try dsimp only at e); omega))).trans hHeld.2.1, (World.cell?_of_block (GR5.block _ (World.block_lt_of_cell? _ _ hHeld.2.2.1) (fun e => by have e := Option.some.inj e; (try dsimp only at e); omega))).trans hHeld.2.2.1, (World.cell?_of_block (GR5.block _ (World.block_lt_of_cell? _ _ hHeld.2.2.2.1) (fun e => by have e := Option.some.inj e; (try dsimp only at e); omega))).trans hHeld.2.2.2.1, hb⟩
          clear hK K
          try simp only [Act.put, List.setIfInBounds_toArray, List.set_cons_zero, List.set_cons_succ]
          have U0 := Aside0.mk ho
          have s5_ : w.heap.size + 1 < V5.heap.size := by have := GR5.size; omega
          replace F1 := Aside0.mk ((GR5.block _ (blk_lt F1.out) (fun e => by have e := Option.some.inj e; omega)).trans F1.out)
          replace E1 := Aside0.mk (Kd.R_over' E1.out (Kd.R_typed E0.out) (by decide) GR5)
          clear ho hb E0
          refine wpAnyH_ready (rs := [9]) (by kernel_rfl) (by simp) ?_
          refine AllReadyH.cons (o := { dst := some 12, op := Op.call { callee := Callee.builtin Builtin.append, args := #[Operand.tmp 9, Operand.tmp 11], argTypes := #[25, 25] }, type := 25, pos := "l2_mail.go:136", after := #[{ on := 6, ground := Ground.data }, { on := 8, ground := Ground.data }, { on := 5, ground := Ground.chain }], guard := none }) rfl (fun K hK => ?k283) AllReadyH.nil
          case k283 =>
            refine Kd.R_append_rows_step Kd.string (w0 := w) (w.heap.size) (by rfl) (.tmp 9) (.tmp 11) 25 9 (.string ⟨#[]⟩) 16 rfl Tryd.underlying25 info9 rfl (by decide) (by omega) (.slice (some ⟨g1, 0, none⟩) 0 0) [] m.f2 _ _ _ (fun _ => True) (fun _ => False) rfl rfl ?aO9 ?aR9 (fun _ _ h => h) (fun _ h => h.elim) (fun _ _ => trivial) ?aB9 ?aS9 ?aL9 ?_
            case aO9 => exact E1.out
            case aR9 => exact Kd.C_below hr1 hHeld.2.2.2.2
            case aB9 => exact hHeld.2.2.2.2
            case aS9 => exact (hHeld.2.2.2.2).size
            case aL9 => (simp; omega)
            intro v9 V9 ho hb hg hat
            have ho : Kd.R Kd.string 9 V9 w.heap.size (fun _ => True) v9 m.f2 := ho
            obtain ⟨B1, d1, hv9⟩ := Kd.R_slice ho
            subst hv9
            have GR9 : V5.grownBy V9 (some g1) := hg
            clear hg hat
            refine hK.out _ _ ?h284 (fun hHeld => ?j284)
            case h284 => exact ⟨(World.cell?_of_block (GR9.block _ (World.block_lt_of_cell? _ _ hHeld.1) (fun e => by have e := Option.some.inj e; (try dsimp only at e); omega))).trans hHeld.1, (World.cell?_of_block (GR9.block _ (World.block_lt_of_cell? _ _ hHeld.2.1) (fun e => by have e := Option.some.inj e; (try dsimp only at e); omega))).trans hHeld.2.1, (World.cell?_of_block (GR9.block _ (World.block_lt_of_cell? _ _ hHeld.2.2.1) (fun e => by have e := Option.some.inj e; (try dsimp only at e); omega))).trans hHeld.2.2.1, (World.cell?_of_block (GR9.block _ (World.block_lt_of_cell? _ _ hHeld.2.2.2.1) (fun e => by have e := Option.some.inj e; (try dsimp only at e); omega))).trans hHeld.2.2.2.1, hb⟩
            clear hK K
            try simp only [Act.put, List.setIfInBounds_toArray, List.set_cons_zero, List.set_cons_succ]
            have U1 := Aside0.mk ho
            have s9_ : w.heap.size + 1 < V9.heap.size := by have := GR9.size; omega
            replace F1 := Aside0.mk ((GR9.block _ (blk_lt F1.out) (fun e => by have e := Option.some.inj e; omega)).trans F1.out)
            replace U0 := Aside0.mk (Kd.R_over' U0.out (Kd.R_typed E1.out) (by decide) GR9)
            clear ho hb E1
            refine wpAnyH_take (i := 10) (oi := { dst := some 13, op := Op.build 33 #[(0, Operand.tmp 4), (1, Operand.tmp 8), (2, Operand.tmp 12)], type := 33, pos := "l2_mail.go:136", after := #[{ on := 1, ground := Ground.data }, { on := 5, ground := Ground.data }, { on := 9, ground := Ground.data }], guard := none }) (v := ?v285) rfl (by kernel_rfl) (by kernel_rfl) (by kernel_rfl) (fun _ _ _ h => h) (Or.inl ⟨by rfl, ?y285⟩) (by assumption) ?r285
            case y285 => intro w_ hSw; (try dsimp only at hSw); go_simp; (try (with_reducible rfl))
            try simp only [Act.put, List.setIfInBounds_toArray, List.set_cons_zero, List.set_cons_succ]
            refine wpAnyH_ready (rs := [11]) (by kernel_rfl) (by simp) ?_
            refine AllReadyH.cons (o := { dst := none, op := Op.store 33 (Operand.tmp 2) (Operand.tmp 13), type := 0, pos := "l2_mail.go:136", after := #[{ on := 10, ground := Ground.data }, { on := 9, ground := Ground.chain }, { on := 0, ground := Ground.phase }, { on := 1, ground := Ground.phase }, { on := 2, ground := Ground.phase }, { on := 3, ground := Ground.phase }, { on := 4, ground := Ground.phase }, { on := 5, ground := Ground.phase }, { on := 6, ground := Ground.phase }, { on := 7, ground := Ground.phase }, { on := 8, ground := Ground.phase }, { on := 9, ground := Ground.phase }, { on := 10, ground := Ground.phase }], guard := none }) rfl (fun K hK => ?k286) AllReadyH.nil
            case k286 =>
              have hb7 := F1.out
              have v0_ : V9.cell? ⟨w.heap.size + 1, 0, none⟩ = some (.string ⟨#[]⟩) := by simp [World.cell?, hb7]
              have v1_ : V9.cell? ⟨w.heap.size + 1, 1, none⟩ = some (.string ⟨#[]⟩) := by simp [World.cell?, hb7]
              have v2_ : V9.cell? ⟨w.heap.size + 1, 2, none⟩ = some (.slice none 0 0) := by simp [World.cell?, hb7]
              have v3_ : V9.cell? ⟨w.heap.size + 1, 3, none⟩ = some (.slice none 0 0) := by simp [World.cell?, hb7]
              have u0_ : V9.frozen? ⟨w.heap.size + 1, 0, none⟩ = false := by simp [World.frozen?, hb7]
              have u1_ : V9.frozen? ⟨w.heap.size + 1, 1, none⟩ = false := by simp [World.frozen?, hb7]
              have u2_ : V9.frozen? ⟨w.heap.size + 1, 2, none⟩ = false := by simp [World.frozen?, hb7]
              have u3_ : V9.frozen? ⟨w.heap.size + 1, 3, none⟩ = false := by simp [World.frozen?, hb7]
              go_simp
              generalize hV11 : World.setCell (World.setCell (World.setCell (World.setCell V9 ⟨w.heap.size + 1, 0, none⟩ _) ⟨w.heap.size + 1, 1, none⟩ _) ⟨w.heap.size + 1, 2, none⟩ _) ⟨w.heap.size + 1, 3, none⟩ _ = V11
              have G11 : V9.grownBy V11 (some (w.heap.size + 1)) := by rw [← hV11]; exact (((grown_set1 _ _ _ _).trans (grown_set1 _ _ _ _)).trans (grown_set1 _ _ _ _)).trans (grown_set1 _ _ _ _)
              have FF : V11.heap[w.heap.size + 1]? = some (.cells #[.string m.f0.f0, .string m.f0.f1, .slice B0 m.f1.length d0, .slice B1 m.f2.length d1] 33 (0, 0)) := by rw [← hV11, blk_set1 (blk_set1 (blk_set1 (blk_set1 (F1.out) 0 _) 1 _) 2 _) 3 _]; simp
              have BB : Below w.heap.size w V11 := by rw [← hV11]; exact (bel_set (bel_set (bel_set (bel_set hHeld.2.2.2.2 _ (by show w.heap.size ≤ w.heap.size + 1; omega)) _ (by show w.heap.size ≤ w.heap.size + 1; omega)) _ (by show w.heap.size ≤ w.heap.size + 1; omega)) _ (by show w.heap.size ≤ w.heap.size + 1; omega))
              clear hV11
              refine hK.out _ _ ?h287 (fun hHeld => ?j287)
              case h287 => exact ⟨(World.cell?_of_block (G11.block _ (World.block_lt_of_cell? _ _ hHeld.1) (fun e => by have e := Option.some.inj e; (try dsimp only at e); omega))).trans hHeld.1, (World.cell?_of_block (G11.block _ (World.block_lt_of_cell? _ _ hHeld.2.1) (fun e => by have e := Option.some.inj e; (try dsimp only at e); omega))).trans hHeld.2.1, (World.cell?_of_block (G11.block _ (World.block_lt_of_cell? _ _ hHeld.2.2.1) (fun e => by have e := Option.some.inj e; (try dsimp only at e); omega))).trans hHeld.2.2.1, (World.cell?_of_block (G11.block _ (World.block_lt_of_cell? _ _ hHeld.2.2.2.1) (fun e => by have e := Option.some.inj e; (try dsimp only at e); omega))).trans hHeld.2.2.2.1, BB⟩
              clear hK K
              try simp only [Act.put, List.setIfInBounds_toArray, List.set_cons_zero, List.set_cons_succ]
              replace U0 := Aside0.mk (R_else U0.out rfl G11 (Kd.R_ne U0.out F1.out (by decide)))
              replace U1 := Aside0.mk (R_else U1.out rfl G11 (Kd.R_ne U1.out F1.out (by decide)))
              replace F1 := Aside0.mk FF
              clear FF
              refine wpAnyH_done (by kernel_rfl) ?_ _
              exact HKK.out B0 d0 B1 d1 g0 g1 V11 ⟨hHeld.2.2.2.2, F1.out, U0.out, U1.out⟩
    case k268 =>
      go_simp
      refine hK.out _ _ ?h288 (fun hHeld => ?j288)
      case h288 => exact HK.out _ _ (bel_alloc (Below.refl _ _) _) hHeld
      clear hK K
      try simp only [Act.put, List.setIfInBounds_toArray, List.set_cons_zero, List.set_cons_succ]
      generalize hV6 : World.alloc V0 _ = V6 at hHeld ⊢
      have b6 : Below V0.heap.size V0 V6 := by rw [← hV6]; exact bel_alloc (Below.refl _ _) _
      have z6 : V0.heap.size < V6.heap.size := by rw [← hV6]; simp
      have lo6 : w.heap.size + 1 < V0.heap.size := by omega
      have E1 : Aside0 (Kd.R Kd.string 9 V6 w.heap.size (fun _ => True) (.slice (some ⟨V0.heap.size, 0, none⟩) 0 0) []) := ⟨by rw [← hV6]; exact R_empty Kd.string 9 V0 w.heap.size (by omega) trivial⟩
      obtain ⟨g1, hg6⟩ : ∃ g, g = V0.heap.size := ⟨_, rfl⟩
      have lg1 : w.heap.size + 1 < g1 := by omega
      rw [← hg6] at E1 ⊢
      have s6_ : w.heap.size + 1 < V6.heap.size := by omega
      clear hV6 hg6 z6
      replace F1 := Aside0.mk (below_blk F1.out b6)
      refine wpAnyH_ready (rs := [2]) (by kernel_rfl) (by simp) ?_
      refine AllReadyH.cons (o := { dst := some 5, op := Op.buildSlice 31 0 #[], type := 31, pos := "l2_mail.go:136", after := #[], guard := none }) rfl (fun K hK => ?k289) AllReadyH.nil
      case k289 =>
        go_simp
        refine hK.out _ _ ?h290 (fun hHeld => ?j290)
        case h290 => exact HK.out _ _ (bel_alloc (Below.refl _ _) _) hHeld
        clear hK K
        try simp only [Act.put, List.setIfInBounds_toArray, List.set_cons_zero, List.set_cons_succ]
        generalize hV2 : World.alloc V6 _ = V2 at hHeld ⊢
        have b2 : Below V6.heap.size V6 V2 := by rw [← hV2]; exact bel_alloc (Below.refl _ _) _
        have z2 : V6.heap.size < V2.heap.size := by rw [← hV2]; simp
        have lo2 : w.heap.size + 1 < V6.heap.size := by omega
        have E0 : Aside0 (Kd.R kAddr 30 V2 w.heap.size (fun _ => True) (.slice (some ⟨V6.heap.size, 0, none⟩) 0 0) []) := ⟨by rw [← hV2]; exact R_empty kAddr 30 V6 w.heap.size (by omega) trivial⟩
        obtain ⟨g0, hg2⟩ : ∃ g, g = V6.heap.size := ⟨_, rfl⟩
        have lg0 : w.heap.size + 1 < g0 := by omega
        rw [← hg2] at E0 ⊢
        have s2_ : w.heap.size + 1 < V2.heap.size := by omega
        clear hV2 hg2 z2
        replace F1 := Aside0.mk (below_blk F1.out b2)
        replace E1 := Aside0.mk (Kd.R_below E1.out b2)
        refine wpAnyH_ready (rs := [5]) (by kernel_rfl) (by simp) ?_
        refine AllReadyH.cons (o := { dst := some 8, op := Op.call { callee := Callee.builtin Builtin.append, args := #[Operand.tmp 5, Operand.tmp 7], argTypes := #[31, 31] }, type := 31, pos := "l2_mail.go:136", after := #[{ on := 2, ground := Ground.data }, { on := 4, ground := Ground.data }], guard := none }) rfl (fun K hK => ?k291) AllReadyH.nil
        case k291 =>
          refine Kd.R_append_rows_step kAddr (w0 := w) (w.heap.size) (by rfl) (.tmp 5) (.tmp 7) 31 30 (.agg #[(.string ⟨#[]⟩), (.string ⟨#[]⟩)]) 32 rfl Tryd.underlying31 info30 rfl (by decide) (by omega) (.slice (some ⟨g0, 0, none⟩) 0 0) [] m.f1 _ _ _ (fun _ => True) (fun _ => False) rfl rfl ?aO5 ?aR5 (fun _ _ h => h) (fun _ h => h.elim) (fun _ _ => trivial) ?aB5 ?aS5 ?aL5 ?_
          case aO5 => exact E0.out
          case aR5 => exact Kd.C_below hr0 hHeld.2.2.2.2
          case aB5 => exact hHeld.2.2.2.2
          case aS5 => exact (hHeld.2.2.2.2).size
          case aL5 => (simp; omega)
          intro v5 V5 ho hb hg hat
          have ho : Kd.R kAddr 30 V5 w.heap.size (fun _ => True) v5 m.f1 := ho
          obtain ⟨B0, d0, hv5⟩ := Kd.R_slice ho
          subst hv5
          have GR5 : V2.grownBy V5 (some g0) := hg
          clear hg hat
          refine hK.out _ _ ?h292 (fun hHeld => ?j292)
          case h292 => exact ⟨(World.cell?_of_block (GR5.block _ (World.block_lt_of_cell? _ _ hHeld.1) (fun e => by have e := Option.some.inj e; (try dsimp only at e); omega))).trans hHeld.1, (World.cell?_of_block (GR5.block _ (World.block_lt_of_cell? _ _ hHeld.2.1) (fun e => by have e := Option.some.inj e; (try dsimp only at e); omega))).trans hHeld.2.1, (World.cell?_of_block (GR5.block _ (World.block_lt_of_cell? _ _ hHeld.2.2.1) (fun e => by have e := Option.some.inj e; (try dsimp only at e); omega))).trans hHeld.2.2.1, (World.cell?_of_block (GR5.block _ (World.block_lt_of_cell? _ _ hHeld.2.2.2.1) (fun e => by have e := Option.some.inj e; (try dsimp only at e); omega))).trans hHeld.2.2.2.1, hb⟩
          clear hK K
          try simp only [Act.put, List.setIfInBounds_toArray, List.set_cons_zero, List.set_cons_succ]
          have U0 := Aside0.mk ho
          have s5_ : w.heap.size + 1 < V5.heap.size := by have := GR5.size; omega
          replace F1 := Aside0.mk ((GR5.block _ (blk_lt F1.out) (fun e => by have e := Option.some.inj e; omega)).trans F1.out)
          replace E1 := Aside0.mk (Kd.R_over' E1.out (Kd.R_typed E0.out) (by decide) GR5)
          clear ho hb E0
          refine wpAnyH_ready (rs := [9]) (by kernel_rfl) (by simp) ?_
          refine AllReadyH.cons (o := { dst := some 12, op := Op.call { callee := Callee.builtin Builtin.append, args := #[Operand.tmp 9, Operand.tmp 11], argTypes := #[25, 25] }, type := 25, pos := "l2_mail.go:136", after := #[{ on := 6, ground := Ground.data }, { on := 8, ground := Ground.data }, { on := 5, ground := Ground.chain }], guard := none }) rfl (fun K hK => ?k293) AllReadyH.nil
          case k293 =>
            refine Kd.R_append_rows_step Kd.string (w0 := w) (w.heap.size) (by rfl) (.tmp 9) (.tmp 11) 25 9 (.string ⟨#[]⟩) 16 rfl Tryd.underlying25 info9 rfl (by decide) (by omega) (.slice (some ⟨g1, 0, none⟩) 0 0) [] m.f2 _ _ _ (fun _ => True) (fun _ => False) rfl rfl ?aO9 ?aR9 (fun _ _ h => h) (fun _ h => h.elim) (fun _ _ => trivial) ?aB9 ?aS9 ?aL9 ?_
            case aO9 => exact E1.out
            case aR9 => exact Kd.C_below hr1 hHeld.2.2.2.2
            case aB9 => exact hHeld.2.2.2.2
            case aS9 => exact (hHeld.2.2.2.2).size
            case aL9 => (simp; omega)
            intro v9 V9 ho hb hg hat
            have ho : Kd.R Kd.string 9 V9 w.heap.size (fun _ => True) v9 m.f2 := ho
            obtain ⟨B1, d1, hv9⟩ := Kd.R_slice ho
            subst hv9
            have GR9 : V5.grownBy V9 (some g1) := hg
            clear hg hat
            refine hK.out _ _ ?h294 (fun hHeld => ?j294)
            case h294 => exact ⟨(World.cell?_of_block (GR9.block _ (World.block_lt_of_cell? _ _ hHeld.1) (fun e => by have e := Option.some.inj e; (try dsimp only at e); omega))).trans hHeld.1, (World.cell?_of_block (GR9.block _ (World.block_lt_of_cell? _ _ hHeld.2.1) (fun e => by have e := Option.some.inj e; (try dsimp only at e); omega))).trans hHeld.2.1, (World.cell?_of_block (GR9.block _ (World.block_lt_of_cell? _ _ hHeld.2.2.1) (fun e => by have e := Option.some.inj e; (try dsimp only at e); omega))).trans hHeld.2.2.1, (World.cell?_of_block (GR9.block _ (World.block_lt_of_cell? _ _ hHeld.2.2.2.1) (fun e => by have e := Option.some.inj e; (try dsimp only at e); omega))).trans hHeld.2.2.2.1, hb⟩
            clear hK K
            try simp only [Act.put, List.setIfInBounds_toArray, List.set_cons_zero, List.set_cons_succ]
            have U1 := Aside0.mk ho
            have s9_ : w.heap.size + 1 < V9.heap.size := by have := GR9.size; omega
            replace F1 := Aside0.mk ((GR9.block _ (blk_lt F1.out) (fun e => by have e := Option.some.inj e; omega)).trans F1.out)
            replace U0 := Aside0.mk (Kd.R_over' U0.out (Kd.R_typed E1.out) (by decide) GR9)
            clear ho hb E1
            refine wpAnyH_take (i := 10) (oi := { dst := some 13, op := Op.build 33 #[(0, Operand.tmp 4), (1, Operand.tmp 8), (2, Operand.tmp 12)], type := 33, pos := "l2_mail.go:136", after := #[{ on := 1, ground := Ground.data }, { on := 5, ground := Ground.data }, { on := 9, ground := Ground.data }], guard := none }) (v := ?v295) rfl (by kernel_rfl) (by kernel_rfl) (by kernel_rfl) (fun _ _ _ h => h) (Or.inl ⟨by rfl, ?y295⟩) (by assumption) ?r295
            case y295 => intro w_ hSw; (try dsimp only at hSw); go_simp; (try (with_reducible rfl))
            try simp only [Act.put, List.setIfInBounds_toArray, List.set_cons_zero, List.set_cons_succ]
            refine wpAnyH_ready (rs := [11]) (by kernel_rfl) (by simp) ?_
            refine AllReadyH.cons (o := { dst := none, op := Op.store 33 (Operand.tmp 2) (Operand.tmp 13), type := 0, pos := "l2_mail.go:136", after := #[{ on := 10, ground := Ground.data }, { on := 9, ground := Ground.chain }, { on := 0, ground := Ground.phase }, { on := 1, ground := Ground.phase }, { on := 2, ground := Ground.phase }, { on := 3, ground := Ground.phase }, { on := 4, ground := Ground.phase }, { on := 5, ground := Ground.phase }, { on := 6, ground := Ground.phase }, { on := 7, ground := Ground.phase }, { on := 8, ground := Ground.phase }, { on := 9, ground := Ground.phase }, { on := 10, ground := Ground.phase }], guard := none }) rfl (fun K hK => ?k296) AllReadyH.nil
            case k296 =>
              have hb7 := F1.out
              have v0_ : V9.cell? ⟨w.heap.size + 1, 0, none⟩ = some (.string ⟨#[]⟩) := by simp [World.cell?, hb7]
              have v1_ : V9.cell? ⟨w.heap.size + 1, 1, none⟩ = some (.string ⟨#[]⟩) := by simp [World.cell?, hb7]
              have v2_ : V9.cell? ⟨w.heap.size + 1, 2, none⟩ = some (.slice none 0 0) := by simp [World.cell?, hb7]
              have v3_ : V9.cell? ⟨w.heap.size + 1, 3, none⟩ = some (.slice none 0 0) := by simp [World.cell?, hb7]
              have u0_ : V9.frozen? ⟨w.heap.size + 1, 0, none⟩ = false := by simp [World.frozen?, hb7]
              have u1_ : V9.frozen? ⟨w.heap.size + 1, 1, none⟩ = false := by simp [World.frozen?, hb7]
              have u2_ : V9.frozen? ⟨w.heap.size + 1, 2, none⟩ = false := by simp [World.frozen?, hb7]
              have u3_ : V9.frozen? ⟨w.heap.size + 1, 3, none⟩ = false := by simp [World.frozen?, hb7]
              go_simp
              generalize hV11 : World.setCell (World.setCell (World.setCell (World.setCell V9 ⟨w.heap.size + 1, 0, none⟩ _) ⟨w.heap.size + 1, 1, none⟩ _) ⟨w.heap.size + 1, 2, none⟩ _) ⟨w.heap.size + 1, 3, none⟩ _ = V11
              have G11 : V9.grownBy V11 (some (w.heap.size + 1)) := by rw [← hV11]; exact (((grown_set1 _ _ _ _).trans (grown_set1 _ _ _ _)).trans (grown_set1 _ _ _ _)).trans (grown_set1 _ _ _ _)
              have FF : V11.heap[w.heap.size + 1]? = some (.cells #[.string m.f0.f0, .string m.f0.f1, .slice B0 m.f1.length d0, .slice B1 m.f2.length d1] 33 (0, 0)) := by rw [← hV11, blk_set1 (blk_set1 (blk_set1 (blk_set1 (F1.out) 0 _) 1 _) 2 _) 3 _]; simp
              have BB : Below w.heap.size w V11 := by rw [← hV11]; exact (bel_set (bel_set (bel_set (bel_set hHeld.2.2.2.2 _ (by show w.heap.size ≤ w.heap.size + 1; omega)) _ (by show w.heap.size ≤ w.heap.size + 1; omega)) _ (by show w.heap.size ≤ w.heap.size + 1; omega)) _ (by show w.heap.size ≤ w.heap.size + 1; omega))
              clear hV11
              refine hK.out _ _ ?h297 (fun hHeld => ?j297)
              case h297 => exact ⟨(World.cell?_of_block (G11.block _ (World.block_lt_of_cell? _ _ hHeld.1) (fun e => by have e := Option.some.inj e; (try dsimp only at e); omega))).trans hHeld.1, (World.cell?_of_block (G11.block _ (World.block_lt_of_cell? _ _ hHeld.2.1) (fun e => by have e := Option.some.inj e; (try dsimp only at e); omega))).trans hHeld.2.1, (World.cell?_of_block (G11.block _ (World.block_lt_of_cell? _ _ hHeld.2.2.1) (fun e => by have e := Option.some.inj e; (try dsimp only at e); omega))).trans hHeld.2.2.1, (World.cell?_of_block (G11.block _ (World.block_lt_of_cell? _ _ hHeld.2.2.2.1) (fun e => by have e := Option.some.inj e; (try dsimp only at e); omega))).trans hHeld.2.2.2.1, BB⟩
              clear hK K
              try simp only [Act.put, List.setIfInBounds_toArray, List.set_cons_zero, List.set_cons_succ]
              replace U0 := Aside0.mk (R_else U0.out rfl G11 (Kd.R_ne U0.out F1.out (by decide)))
              replace U1 := Aside0.mk (R_else U1.out rfl G11 (Kd.R_ne U1.out F1.out (by decide)))
              replace F1 := Aside0.mk FF
              clear FF
              refine wpAnyH_done (by kernel_rfl) ?_ _
              exact HKK.out B0 d0 B1 d1 g0 g1 V11 ⟨hHeld.2.2.2.2, F1.out, U0.out, U1.out⟩
  case hk =>
    intro B0 d0 B1 d1 g0 g1 V ⟨BV, f1, u0, u1⟩
    clear HST HK HF1 join
    have U0 := Aside0.mk u0
    have U1 := Aside0.mk u1
    have F1 := Aside0.mk f1
    have BW := Aside0.mk BV
    clear u0 u1 f1 BV
    have m0_ : V.cell? ⟨w.heap.size + 1, 0, none⟩ = some (.string m.f0.f0) := by simp [World.cell?, F1.out]
    have m1_ : V.cell? ⟨w.heap.size + 1, 1, none⟩ = some (.string m.f0.f1) := by simp [World.cell?, F1.out]
    have m2_ : V.cell? ⟨w.heap.size + 1, 2, none⟩ = some (.slice B0 m.f1.length d0) := by simp [World.cell?, F1.out]
    have m3_ : V.cell? ⟨w.heap.size + 1, 3, none⟩ = some (.slice B1 m.f2.length d1) := by simp [World.cell?, F1.out]
    go_wp2
    refine bodyPost_ret (v := .agg #[.string m.f0.f0, .string m.f0.f1, .slice B0 m.f1.length d0, .slice B1 m.f2.length d1]) ?hr rfl ?hp
    case hr => simp [results, Tryd.results112, go_sem, m0_, m1_, m2_, m3_]
    case hp => exact ⟨B0, d0, B1, d1, rfl, U0.out, U1.out, BW.out⟩

end Go.Proofs.YtejiifmopopflaaDoor
