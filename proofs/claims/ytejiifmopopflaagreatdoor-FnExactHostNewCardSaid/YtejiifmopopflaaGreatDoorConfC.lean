/- Copies of hosts' configurations: contracts. -/
import Derived.Test.YtejiifmopopflaaGreatDoorClone
import Derived.Test.YtejiifmopopflaaGreatDoorBlk
namespace Go.Proofs.YtejiifmopopflaaGreatDoor
open Go.RowKit Go.Proofs.YtejiifmopopflaaGreatDoorW.PrintWords
set_option linter.unusedVariables false
set_option linter.unusedSimpArgs false

set_option maxRecDepth 100000 in
set_option maxHeartbeats 4000000 in
theorem confCopied_any (c : SConf) (A0 : Option Addr) (c0 : Nat) (A1 : Option Addr) (c1 : Nat) (w : World) (hw : fitConf c) (hr0 : Kd.C Kd.string w A0 c.f1.length c.f1) (hr1 : Kd.C kWay w A1 c.f2.length c.f2) :
    Calls Tryz.prog 68 #[.agg #[.string c.f0, .slice A0 c.f1.length c0, .slice A1 c.f2.length c1]] w fun e w' => ∃ B0 d0 B1 d1, e = .returned (.agg #[.string c.f0, .slice B0 c.f1.length d0, .slice B1 c.f2.length d1]) ∧ Kd.R Kd.string 9 w' w.heap.size (fun _ => True) (.slice B0 c.f1.length d0) c.f1 ∧ Kd.R kWay 136 w' w.heap.size (fun _ => True) (.slice B1 c.f2.length d1) c.f2 ∧ Below w.heap.size w w' := by
  have hc0 := fun W (hW : Below w.heap.size w W) => cloneString_any A0 c0 c.f1 W (Kd.C_below hr0 hW) hw.2.1.1
  have hc1 := fun W (hW : Below w.heap.size w W) => cloneWay_any A1 c1 c.f2 W (Kd.C_below hr1 hW) hw.2.2.1
  clear hw hr0 hr1
  go_enter Tryz.func68, Tryz.ntmps68
  go_wp2
  obtain ⟨W0, hW0⟩ : ∃ W, W = (w.alloc (.cells #[.string c.f0, .slice A0 c.f1.length c0, .slice A1 c.f2.length c1] 47)).alloc (.cells #[.string ⟨#[]⟩, .slice none 0 0, .slice none 0 0] 47) := ⟨_, rfl⟩
  rw [← hW0]
  have HF0 : Aside0 (W0.heap[w.heap.size]? = some (.cells #[.string c.f0, .slice A0 c.f1.length c0, .slice A1 c.f2.length c1] 47 (0, 0))) := ⟨by rw [hW0]; exact below_blk (blk_new _ _) (bel_alloc (Below.refl _ _) _)⟩
  have HF1 : Aside0 (W0.heap[w.heap.size + 1]? = some (.cells #[.string ⟨#[]⟩, .slice none 0 0, .slice none 0 0] 47 (0, 0))) := ⟨by rw [hW0, show w.heap.size + 1 = (w.alloc (.cells #[.string c.f0, .slice A0 c.f1.length c0, .slice A1 c.f2.length c1] 47)).heap.size by simp]; exact blk_new _ _⟩
  have B0 : Below w.heap.size w W0 := by rw [hW0]; exact bel_alloc (bel_alloc (Below.refl _ _) _) _
  clear hW0
  have join : Hid (∀ {goal : Prop} {G : Option Addr → Nat → Option Addr → Nat → World → Prop} (rg : Hid (∀ (B0 : Option Addr) (d0 : Nat) (B1 : Option Addr) (d1 : Nat) (V : World), Below w.heap.size w V ∧ w.heap.size + 1 < V.heap.size ∧ V.heap[w.heap.size]? = some (.cells #[.string c.f0, .slice B0 c.f1.length d0, .slice B1 c.f2.length d1] 47 (0, 0)) ∧ V.heap[w.heap.size + 1]? = some (.cells #[.string ⟨#[]⟩, .slice none 0 0, .slice none 0 0] 47 (0, 0)) ∧ Kd.R Kd.string 9 V w.heap.size (fun _ => True) (.slice B0 c.f1.length d0) c.f1 ∧ Kd.R kWay 136 V w.heap.size (fun _ => True) (.slice B1 c.f2.length d1) c.f2 → G B0 d0 B1 d1 V) → goal) (hk : ∀ (B0 : Option Addr) (d0 : Nat) (B1 : Option Addr) (d1 : Nat) (V : World), Below w.heap.size w V ∧ w.heap.size + 1 < V.heap.size ∧ V.heap[w.heap.size]? = some (.cells #[.string c.f0, .slice B0 c.f1.length d0, .slice B1 c.f2.length d1] 47 (0, 0)) ∧ V.heap[w.heap.size + 1]? = some (.cells #[.string ⟨#[]⟩, .slice none 0 0, .slice none 0 0] 47 (0, 0)) ∧ Kd.R Kd.string 9 V w.heap.size (fun _ => True) (.slice B0 c.f1.length d0) c.f1 ∧ Kd.R kWay 136 V w.heap.size (fun _ => True) (.slice B1 c.f2.length d1) c.f2 → G B0 d0 B1 d1 V), goal) := Lib.hid (fun f h => f (Lib.hid h))
  have HST : Aside0 (Below w.heap.size w W0.drew) := ⟨bel_then B0 (drew_below0 W0)⟩
  clear B0
  apply join.out
  case rg =>
    intro HKK
    refine wp_region_held_drew (S := (fun W => Below w.heap.size w W)) (by kernel_rfl) ?s1 (fun hHeld => ?t1)
    case s1 => exact HST.out
    generalize hV0 : World.drew _ = V0 at hHeld ⊢
    have F0 : Aside0 (V0.heap[w.heap.size]? = some (.cells #[.string c.f0, .slice A0 c.f1.length c0, .slice A1 c.f2.length c1] 47 (0, 0))) := ⟨by rw [← hV0]; exact HF0.out⟩
    have F1 : Aside0 (V0.heap[w.heap.size + 1]? = some (.cells #[.string ⟨#[]⟩, .slice none 0 0, .slice none 0 0] 47 (0, 0))) := ⟨by rw [← hV0]; exact HF1.out⟩
    clear hV0
    refine wpAnyH_take (i := 0) (oi := { dst := some 3, op := Op.fieldAddr 47 (Operand.tmp 1) 1, type := 0, pos := "l3_serve.go:72", after := #[], guard := none }) (v := ?v2) rfl (by kernel_rfl) (by kernel_rfl) (by kernel_rfl) (fun _ _ _ h => h) (Or.inl ⟨by rfl, ?y2⟩) (by assumption) ?r2
    case y2 => intro w_ hSw; (try dsimp only at hSw); go_simp; (try (with_reducible rfl))
    try simp only [Act.put, List.setIfInBounds_toArray, List.set_cons_zero, List.set_cons_succ]
    refine wpAnyH_take (i := 3) (oi := { dst := some 6, op := Op.fieldAddr 47 (Operand.tmp 1) 2, type := 0, pos := "l3_serve.go:72", after := #[], guard := none }) (v := ?v3) rfl (by kernel_rfl) (by kernel_rfl) (by kernel_rfl) (fun _ _ _ h => h) (Or.inl ⟨by rfl, ?y3⟩) (by assumption) ?r3
    case y3 => intro w_ hSw; (try dsimp only at hSw); go_simp; (try (with_reducible rfl))
    try simp only [Act.put, List.setIfInBounds_toArray, List.set_cons_zero, List.set_cons_succ]
    refine wpAnyH_ready (rs := [1, 4]) (by kernel_rfl) (by simp) ?_
    refine AllReadyH.cons (o := { dst := some 4, op := Op.load 25 (Operand.tmp 3), type := 25, pos := "l3_serve.go:72", after := #[{ on := 0, ground := Ground.data }], guard := none }) rfl (fun K hK => ?k4) (AllReadyH.cons (o := { dst := some 7, op := Op.load 45 (Operand.tmp 6), type := 45, pos := "l3_serve.go:72", after := #[{ on := 3, ground := Ground.data }], guard := none }) rfl (fun K hK => ?k5) AllReadyH.nil)
    case k4 =>
      have y11_ : V0.cell? ⟨w.heap.size, 1, none⟩ = some (.slice A0 c.f1.length c0) := by simp [World.cell?, F0.out]
      go_simp
      refine hK.out _ _ ?h6 (fun hHeld => ?j6)
      case h6 => exact hHeld
      clear hK K
      try simp only [Act.put, List.setIfInBounds_toArray, List.set_cons_zero, List.set_cons_succ]
      refine wpAnyH_ready (rs := [2, 4]) (by kernel_rfl) (by simp) ?_
      refine AllReadyH.cons (o := { dst := some 5, op := Op.call { callee := Callee.value (Operand.func 133), args := #[Operand.tmp 4], argTypes := #[25] }, type := 25, pos := "l3_serve.go:72", after := #[{ on := 1, ground := Ground.data }], guard := none }) rfl (fun K hK => ?k7) (AllReadyH.cons (o := { dst := some 7, op := Op.load 45 (Operand.tmp 6), type := 45, pos := "l3_serve.go:72", after := #[{ on := 3, ground := Ground.data }], guard := none }) rfl (fun K hK => ?k8) AllReadyH.nil)
      case k7 =>
        have hsl2 : w.heap.size ≤ V0.heap.size := (hHeld).size
        go_simp
        refine (hc0 _ hHeld).mono ?_
        rintro e V2 ⟨B0, d0, rfl, ga0, b2⟩
        refine hK.out _ _ ?h9 (fun hHeld => ?j9)
        case h9 => exact bel_then hHeld b2
        clear hK K
        try simp only [Act.put, List.setIfInBounds_toArray, List.set_cons_zero, List.set_cons_succ]
        have U0 := Aside0.mk (Kd.R_lower (base' := w.heap.size) ga0 hsl2)
        clear ga0 hsl2
        replace F0 := Aside0.mk (below_blk F0.out b2)
        replace F1 := Aside0.mk (below_blk F1.out b2)
        refine wpAnyH_ready (rs := [4]) (by kernel_rfl) (by simp) ?_
        refine AllReadyH.cons (o := { dst := some 7, op := Op.load 45 (Operand.tmp 6), type := 45, pos := "l3_serve.go:72", after := #[{ on := 3, ground := Ground.data }], guard := none }) rfl (fun K hK => ?k10) AllReadyH.nil
        case k10 =>
          have y42_ : V2.cell? ⟨w.heap.size, 2, none⟩ = some (.slice A1 c.f2.length c1) := by simp [World.cell?, F0.out]
          go_simp
          refine hK.out _ _ ?h11 (fun hHeld => ?j11)
          case h11 => exact hHeld
          clear hK K
          try simp only [Act.put, List.setIfInBounds_toArray, List.set_cons_zero, List.set_cons_succ]
          refine wpAnyH_take (i := 6) (oi := { dst := some 9, op := Op.fieldAddr 47 (Operand.tmp 1) 1, type := 0, pos := "l3_serve.go:72", after := #[{ on := 0, ground := Ground.phase }, { on := 1, ground := Ground.phase }, { on := 2, ground := Ground.phase }, { on := 3, ground := Ground.phase }, { on := 4, ground := Ground.phase }, { on := 5, ground := Ground.textOnly Departure.lateStoresUnsure }], guard := none }) (v := ?v12) rfl (by kernel_rfl) (by kernel_rfl) (by kernel_rfl) (fun _ _ _ h => h) (Or.inl ⟨by rfl, ?y12⟩) (by assumption) ?r12
          case y12 => intro w_ hSw; (try dsimp only at hSw); go_simp; (try (with_reducible rfl))
          try simp only [Act.put, List.setIfInBounds_toArray, List.set_cons_zero, List.set_cons_succ]
          refine wpAnyH_ready (rs := [5]) (by kernel_rfl) (by simp) ?_
          refine AllReadyH.cons (o := { dst := some 8, op := Op.call { callee := Callee.value (Operand.func 134), args := #[Operand.tmp 7], argTypes := #[45] }, type := 45, pos := "l3_serve.go:72", after := #[{ on := 4, ground := Ground.data }, { on := 2, ground := Ground.chain }], guard := none }) rfl (fun K hK => ?k13) AllReadyH.nil
          case k13 =>
            have hsl5 : w.heap.size ≤ V2.heap.size := (hHeld).size
            go_simp
            refine (hc1 _ hHeld).mono ?_
            rintro e V5 ⟨B1, d1, rfl, ga0, b5⟩
            refine hK.out _ _ ?h14 (fun hHeld => ?j14)
            case h14 => exact bel_then hHeld b5
            clear hK K
            try simp only [Act.put, List.setIfInBounds_toArray, List.set_cons_zero, List.set_cons_succ]
            have U1 := Aside0.mk (Kd.R_lower (base' := w.heap.size) ga0 hsl5)
            clear ga0 hsl5
            replace F0 := Aside0.mk (below_blk F0.out b5)
            replace F1 := Aside0.mk (below_blk F1.out b5)
            replace U0 := Aside0.mk (Kd.R_below U0.out b5)
            refine wpAnyH_ready (rs := [7]) (by kernel_rfl) (by simp) ?_
            refine AllReadyH.cons (o := { dst := none, op := Op.store 25 (Operand.tmp 9) (Operand.tmp 5), type := 0, pos := "l3_serve.go:72", after := #[{ on := 6, ground := Ground.data }, { on := 2, ground := Ground.data }, { on := 5, ground := Ground.chain }, { on := 0, ground := Ground.phase }, { on := 1, ground := Ground.phase }, { on := 2, ground := Ground.phase }, { on := 3, ground := Ground.phase }, { on := 4, ground := Ground.phase }, { on := 5, ground := Ground.textOnly Departure.lateStoresUnsure }], guard := none }) rfl (fun K hK => ?k15) AllReadyH.nil
            case k15 =>
              have hb7 := F0.out
              have v1_ : V5.cell? ⟨w.heap.size, 1, none⟩ = some (.slice A0 c.f1.length c0) := by simp [World.cell?, hb7]
              have u1_ : V5.frozen? ⟨w.heap.size, 1, none⟩ = false := by simp [World.frozen?, hb7]
              go_simp
              generalize hV7 : World.setCell V5 ⟨w.heap.size, 1, none⟩ _ = V7
              have G7 : V5.grownBy V7 (some (w.heap.size)) := by rw [← hV7]; exact grown_set1 _ _ _ _
              have FF : V7.heap[w.heap.size]? = some (.cells #[.string c.f0, .slice B0 c.f1.length d0, .slice A1 c.f2.length c1] 47 (0, 0)) := by rw [← hV7, blk_set1 (F0.out) 1 _]; simp
              have BB : Below w.heap.size w V7 := by rw [← hV7]; exact (bel_set hHeld _ (Nat.le_refl _))
              clear hV7
              refine hK.out _ _ ?h16 (fun hHeld => ?j16)
              case h16 => exact BB
              clear hK K
              try simp only [Act.put, List.setIfInBounds_toArray, List.set_cons_zero, List.set_cons_succ]
              replace U0 := Aside0.mk (R_else U0.out rfl G7 (Kd.R_ne U0.out F0.out (by decide)))
              replace U1 := Aside0.mk (R_else U1.out rfl G7 (Kd.R_ne U1.out F0.out (by decide)))
              replace F0 := Aside0.mk FF
              clear FF
              replace F1 := Aside0.mk ((G7.block _ (blk_lt F1.out) (fun e => by have e := Option.some.inj e; omega)).trans F1.out)
              refine wpAnyH_take (i := 8) (oi := { dst := some 10, op := Op.fieldAddr 47 (Operand.tmp 1) 2, type := 0, pos := "l3_serve.go:72", after := #[{ on := 0, ground := Ground.phase }, { on := 1, ground := Ground.phase }, { on := 2, ground := Ground.phase }, { on := 3, ground := Ground.phase }, { on := 4, ground := Ground.phase }, { on := 5, ground := Ground.phase }, { on := 6, ground := Ground.phase }, { on := 7, ground := Ground.phase }], guard := none }) (v := ?v17) rfl (by kernel_rfl) (by kernel_rfl) (by kernel_rfl) (fun _ _ _ h => h) (Or.inl ⟨by rfl, ?y17⟩) (by assumption) ?r17
              case y17 => intro w_ hSw; (try dsimp only at hSw); go_simp; (try (with_reducible rfl))
              try simp only [Act.put, List.setIfInBounds_toArray, List.set_cons_zero, List.set_cons_succ]
              refine wpAnyH_ready (rs := [9]) (by kernel_rfl) (by simp) ?_
              refine AllReadyH.cons (o := { dst := none, op := Op.store 45 (Operand.tmp 10) (Operand.tmp 8), type := 0, pos := "l3_serve.go:72", after := #[{ on := 8, ground := Ground.data }, { on := 5, ground := Ground.data }, { on := 7, ground := Ground.chain }, { on := 0, ground := Ground.phase }, { on := 1, ground := Ground.phase }, { on := 2, ground := Ground.phase }, { on := 3, ground := Ground.phase }, { on := 4, ground := Ground.phase }, { on := 5, ground := Ground.phase }, { on := 6, ground := Ground.phase }, { on := 7, ground := Ground.phase }], guard := none }) rfl (fun K hK => ?k18) AllReadyH.nil
              case k18 =>
                have hb7 := F0.out
                have v2_ : V7.cell? ⟨w.heap.size, 2, none⟩ = some (.slice A1 c.f2.length c1) := by simp [World.cell?, hb7]
                have u2_ : V7.frozen? ⟨w.heap.size, 2, none⟩ = false := by simp [World.frozen?, hb7]
                go_simp
                generalize hV9 : World.setCell V7 ⟨w.heap.size, 2, none⟩ _ = V9
                have G9 : V7.grownBy V9 (some (w.heap.size)) := by rw [← hV9]; exact grown_set1 _ _ _ _
                have FF : V9.heap[w.heap.size]? = some (.cells #[.string c.f0, .slice B0 c.f1.length d0, .slice B1 c.f2.length d1] 47 (0, 0)) := by rw [← hV9, blk_set1 (F0.out) 2 _]; simp
                have BB : Below w.heap.size w V9 := by rw [← hV9]; exact (bel_set hHeld _ (Nat.le_refl _))
                clear hV9
                refine hK.out _ _ ?h19 (fun hHeld => ?j19)
                case h19 => exact BB
                clear hK K
                try simp only [Act.put, List.setIfInBounds_toArray, List.set_cons_zero, List.set_cons_succ]
                replace U0 := Aside0.mk (R_else U0.out rfl G9 (Kd.R_ne U0.out F0.out (by decide)))
                replace U1 := Aside0.mk (R_else U1.out rfl G9 (Kd.R_ne U1.out F0.out (by decide)))
                replace F0 := Aside0.mk FF
                clear FF
                replace F1 := Aside0.mk ((G9.block _ (blk_lt F1.out) (fun e => by have e := Option.some.inj e; omega)).trans F1.out)
                refine wpAnyH_done (by kernel_rfl) ?_ _
                exact HKK.out B0 d0 B1 d1 V9 ⟨hHeld, blk_lt F1.out, F0.out, F1.out, U0.out, U1.out⟩
      case k8 =>
        have y42_ : V0.cell? ⟨w.heap.size, 2, none⟩ = some (.slice A1 c.f2.length c1) := by simp [World.cell?, F0.out]
        go_simp
        refine hK.out _ _ ?h20 (fun hHeld => ?j20)
        case h20 => exact hHeld
        clear hK K
        try simp only [Act.put, List.setIfInBounds_toArray, List.set_cons_zero, List.set_cons_succ]
        refine wpAnyH_ready (rs := [2]) (by kernel_rfl) (by simp) ?_
        refine AllReadyH.cons (o := { dst := some 5, op := Op.call { callee := Callee.value (Operand.func 133), args := #[Operand.tmp 4], argTypes := #[25] }, type := 25, pos := "l3_serve.go:72", after := #[{ on := 1, ground := Ground.data }], guard := none }) rfl (fun K hK => ?k21) AllReadyH.nil
        case k21 =>
          have hsl2 : w.heap.size ≤ V0.heap.size := (hHeld).size
          go_simp
          refine (hc0 _ hHeld).mono ?_
          rintro e V2 ⟨B0, d0, rfl, ga0, b2⟩
          refine hK.out _ _ ?h22 (fun hHeld => ?j22)
          case h22 => exact bel_then hHeld b2
          clear hK K
          try simp only [Act.put, List.setIfInBounds_toArray, List.set_cons_zero, List.set_cons_succ]
          have U0 := Aside0.mk (Kd.R_lower (base' := w.heap.size) ga0 hsl2)
          clear ga0 hsl2
          replace F0 := Aside0.mk (below_blk F0.out b2)
          replace F1 := Aside0.mk (below_blk F1.out b2)
          refine wpAnyH_take (i := 6) (oi := { dst := some 9, op := Op.fieldAddr 47 (Operand.tmp 1) 1, type := 0, pos := "l3_serve.go:72", after := #[{ on := 0, ground := Ground.phase }, { on := 1, ground := Ground.phase }, { on := 2, ground := Ground.phase }, { on := 3, ground := Ground.phase }, { on := 4, ground := Ground.phase }, { on := 5, ground := Ground.textOnly Departure.lateStoresUnsure }], guard := none }) (v := ?v23) rfl (by kernel_rfl) (by kernel_rfl) (by kernel_rfl) (fun _ _ _ h => h) (Or.inl ⟨by rfl, ?y23⟩) (by assumption) ?r23
          case y23 => intro w_ hSw; (try dsimp only at hSw); go_simp; (try (with_reducible rfl))
          try simp only [Act.put, List.setIfInBounds_toArray, List.set_cons_zero, List.set_cons_succ]
          refine wpAnyH_ready (rs := [5]) (by kernel_rfl) (by simp) ?_
          refine AllReadyH.cons (o := { dst := some 8, op := Op.call { callee := Callee.value (Operand.func 134), args := #[Operand.tmp 7], argTypes := #[45] }, type := 45, pos := "l3_serve.go:72", after := #[{ on := 4, ground := Ground.data }, { on := 2, ground := Ground.chain }], guard := none }) rfl (fun K hK => ?k24) AllReadyH.nil
          case k24 =>
            have hsl5 : w.heap.size ≤ V2.heap.size := (hHeld).size
            go_simp
            refine (hc1 _ hHeld).mono ?_
            rintro e V5 ⟨B1, d1, rfl, ga0, b5⟩
            refine hK.out _ _ ?h25 (fun hHeld => ?j25)
            case h25 => exact bel_then hHeld b5
            clear hK K
            try simp only [Act.put, List.setIfInBounds_toArray, List.set_cons_zero, List.set_cons_succ]
            have U1 := Aside0.mk (Kd.R_lower (base' := w.heap.size) ga0 hsl5)
            clear ga0 hsl5
            replace F0 := Aside0.mk (below_blk F0.out b5)
            replace F1 := Aside0.mk (below_blk F1.out b5)
            replace U0 := Aside0.mk (Kd.R_below U0.out b5)
            refine wpAnyH_ready (rs := [7]) (by kernel_rfl) (by simp) ?_
            refine AllReadyH.cons (o := { dst := none, op := Op.store 25 (Operand.tmp 9) (Operand.tmp 5), type := 0, pos := "l3_serve.go:72", after := #[{ on := 6, ground := Ground.data }, { on := 2, ground := Ground.data }, { on := 5, ground := Ground.chain }, { on := 0, ground := Ground.phase }, { on := 1, ground := Ground.phase }, { on := 2, ground := Ground.phase }, { on := 3, ground := Ground.phase }, { on := 4, ground := Ground.phase }, { on := 5, ground := Ground.textOnly Departure.lateStoresUnsure }], guard := none }) rfl (fun K hK => ?k26) AllReadyH.nil
            case k26 =>
              have hb7 := F0.out
              have v1_ : V5.cell? ⟨w.heap.size, 1, none⟩ = some (.slice A0 c.f1.length c0) := by simp [World.cell?, hb7]
              have u1_ : V5.frozen? ⟨w.heap.size, 1, none⟩ = false := by simp [World.frozen?, hb7]
              go_simp
              generalize hV7 : World.setCell V5 ⟨w.heap.size, 1, none⟩ _ = V7
              have G7 : V5.grownBy V7 (some (w.heap.size)) := by rw [← hV7]; exact grown_set1 _ _ _ _
              have FF : V7.heap[w.heap.size]? = some (.cells #[.string c.f0, .slice B0 c.f1.length d0, .slice A1 c.f2.length c1] 47 (0, 0)) := by rw [← hV7, blk_set1 (F0.out) 1 _]; simp
              have BB : Below w.heap.size w V7 := by rw [← hV7]; exact (bel_set hHeld _ (Nat.le_refl _))
              clear hV7
              refine hK.out _ _ ?h27 (fun hHeld => ?j27)
              case h27 => exact BB
              clear hK K
              try simp only [Act.put, List.setIfInBounds_toArray, List.set_cons_zero, List.set_cons_succ]
              replace U0 := Aside0.mk (R_else U0.out rfl G7 (Kd.R_ne U0.out F0.out (by decide)))
              replace U1 := Aside0.mk (R_else U1.out rfl G7 (Kd.R_ne U1.out F0.out (by decide)))
              replace F0 := Aside0.mk FF
              clear FF
              replace F1 := Aside0.mk ((G7.block _ (blk_lt F1.out) (fun e => by have e := Option.some.inj e; omega)).trans F1.out)
              refine wpAnyH_take (i := 8) (oi := { dst := some 10, op := Op.fieldAddr 47 (Operand.tmp 1) 2, type := 0, pos := "l3_serve.go:72", after := #[{ on := 0, ground := Ground.phase }, { on := 1, ground := Ground.phase }, { on := 2, ground := Ground.phase }, { on := 3, ground := Ground.phase }, { on := 4, ground := Ground.phase }, { on := 5, ground := Ground.phase }, { on := 6, ground := Ground.phase }, { on := 7, ground := Ground.phase }], guard := none }) (v := ?v28) rfl (by kernel_rfl) (by kernel_rfl) (by kernel_rfl) (fun _ _ _ h => h) (Or.inl ⟨by rfl, ?y28⟩) (by assumption) ?r28
              case y28 => intro w_ hSw; (try dsimp only at hSw); go_simp; (try (with_reducible rfl))
              try simp only [Act.put, List.setIfInBounds_toArray, List.set_cons_zero, List.set_cons_succ]
              refine wpAnyH_ready (rs := [9]) (by kernel_rfl) (by simp) ?_
              refine AllReadyH.cons (o := { dst := none, op := Op.store 45 (Operand.tmp 10) (Operand.tmp 8), type := 0, pos := "l3_serve.go:72", after := #[{ on := 8, ground := Ground.data }, { on := 5, ground := Ground.data }, { on := 7, ground := Ground.chain }, { on := 0, ground := Ground.phase }, { on := 1, ground := Ground.phase }, { on := 2, ground := Ground.phase }, { on := 3, ground := Ground.phase }, { on := 4, ground := Ground.phase }, { on := 5, ground := Ground.phase }, { on := 6, ground := Ground.phase }, { on := 7, ground := Ground.phase }], guard := none }) rfl (fun K hK => ?k29) AllReadyH.nil
              case k29 =>
                have hb7 := F0.out
                have v2_ : V7.cell? ⟨w.heap.size, 2, none⟩ = some (.slice A1 c.f2.length c1) := by simp [World.cell?, hb7]
                have u2_ : V7.frozen? ⟨w.heap.size, 2, none⟩ = false := by simp [World.frozen?, hb7]
                go_simp
                generalize hV9 : World.setCell V7 ⟨w.heap.size, 2, none⟩ _ = V9
                have G9 : V7.grownBy V9 (some (w.heap.size)) := by rw [← hV9]; exact grown_set1 _ _ _ _
                have FF : V9.heap[w.heap.size]? = some (.cells #[.string c.f0, .slice B0 c.f1.length d0, .slice B1 c.f2.length d1] 47 (0, 0)) := by rw [← hV9, blk_set1 (F0.out) 2 _]; simp
                have BB : Below w.heap.size w V9 := by rw [← hV9]; exact (bel_set hHeld _ (Nat.le_refl _))
                clear hV9
                refine hK.out _ _ ?h30 (fun hHeld => ?j30)
                case h30 => exact BB
                clear hK K
                try simp only [Act.put, List.setIfInBounds_toArray, List.set_cons_zero, List.set_cons_succ]
                replace U0 := Aside0.mk (R_else U0.out rfl G9 (Kd.R_ne U0.out F0.out (by decide)))
                replace U1 := Aside0.mk (R_else U1.out rfl G9 (Kd.R_ne U1.out F0.out (by decide)))
                replace F0 := Aside0.mk FF
                clear FF
                replace F1 := Aside0.mk ((G9.block _ (blk_lt F1.out) (fun e => by have e := Option.some.inj e; omega)).trans F1.out)
                refine wpAnyH_done (by kernel_rfl) ?_ _
                exact HKK.out B0 d0 B1 d1 V9 ⟨hHeld, blk_lt F1.out, F0.out, F1.out, U0.out, U1.out⟩
    case k5 =>
      have y42_ : V0.cell? ⟨w.heap.size, 2, none⟩ = some (.slice A1 c.f2.length c1) := by simp [World.cell?, F0.out]
      go_simp
      refine hK.out _ _ ?h31 (fun hHeld => ?j31)
      case h31 => exact hHeld
      clear hK K
      try simp only [Act.put, List.setIfInBounds_toArray, List.set_cons_zero, List.set_cons_succ]
      refine wpAnyH_ready (rs := [1]) (by kernel_rfl) (by simp) ?_
      refine AllReadyH.cons (o := { dst := some 4, op := Op.load 25 (Operand.tmp 3), type := 25, pos := "l3_serve.go:72", after := #[{ on := 0, ground := Ground.data }], guard := none }) rfl (fun K hK => ?k32) AllReadyH.nil
      case k32 =>
        have y11_ : V0.cell? ⟨w.heap.size, 1, none⟩ = some (.slice A0 c.f1.length c0) := by simp [World.cell?, F0.out]
        go_simp
        refine hK.out _ _ ?h33 (fun hHeld => ?j33)
        case h33 => exact hHeld
        clear hK K
        try simp only [Act.put, List.setIfInBounds_toArray, List.set_cons_zero, List.set_cons_succ]
        refine wpAnyH_ready (rs := [2]) (by kernel_rfl) (by simp) ?_
        refine AllReadyH.cons (o := { dst := some 5, op := Op.call { callee := Callee.value (Operand.func 133), args := #[Operand.tmp 4], argTypes := #[25] }, type := 25, pos := "l3_serve.go:72", after := #[{ on := 1, ground := Ground.data }], guard := none }) rfl (fun K hK => ?k34) AllReadyH.nil
        case k34 =>
          have hsl2 : w.heap.size ≤ V0.heap.size := (hHeld).size
          go_simp
          refine (hc0 _ hHeld).mono ?_
          rintro e V2 ⟨B0, d0, rfl, ga0, b2⟩
          refine hK.out _ _ ?h35 (fun hHeld => ?j35)
          case h35 => exact bel_then hHeld b2
          clear hK K
          try simp only [Act.put, List.setIfInBounds_toArray, List.set_cons_zero, List.set_cons_succ]
          have U0 := Aside0.mk (Kd.R_lower (base' := w.heap.size) ga0 hsl2)
          clear ga0 hsl2
          replace F0 := Aside0.mk (below_blk F0.out b2)
          replace F1 := Aside0.mk (below_blk F1.out b2)
          refine wpAnyH_take (i := 6) (oi := { dst := some 9, op := Op.fieldAddr 47 (Operand.tmp 1) 1, type := 0, pos := "l3_serve.go:72", after := #[{ on := 0, ground := Ground.phase }, { on := 1, ground := Ground.phase }, { on := 2, ground := Ground.phase }, { on := 3, ground := Ground.phase }, { on := 4, ground := Ground.phase }, { on := 5, ground := Ground.textOnly Departure.lateStoresUnsure }], guard := none }) (v := ?v36) rfl (by kernel_rfl) (by kernel_rfl) (by kernel_rfl) (fun _ _ _ h => h) (Or.inl ⟨by rfl, ?y36⟩) (by assumption) ?r36
          case y36 => intro w_ hSw; (try dsimp only at hSw); go_simp; (try (with_reducible rfl))
          try simp only [Act.put, List.setIfInBounds_toArray, List.set_cons_zero, List.set_cons_succ]
          refine wpAnyH_ready (rs := [5]) (by kernel_rfl) (by simp) ?_
          refine AllReadyH.cons (o := { dst := some 8, op := Op.call { callee := Callee.value (Operand.func 134), args := #[Operand.tmp 7], argTypes := #[45] }, type := 45, pos := "l3_serve.go:72", after := #[{ on := 4, ground := Ground.data }, { on := 2, ground := Ground.chain }], guard := none }) rfl (fun K hK => ?k37) AllReadyH.nil
          case k37 =>
            have hsl5 : w.heap.size ≤ V2.heap.size := (hHeld).size
            go_simp
            refine (hc1 _ hHeld).mono ?_
            rintro e V5 ⟨B1, d1, rfl, ga0, b5⟩
            refine hK.out _ _ ?h38 (fun hHeld => ?j38)
            case h38 => exact bel_then hHeld b5
            clear hK K
            try simp only [Act.put, List.setIfInBounds_toArray, List.set_cons_zero, List.set_cons_succ]
            have U1 := Aside0.mk (Kd.R_lower (base' := w.heap.size) ga0 hsl5)
            clear ga0 hsl5
            replace F0 := Aside0.mk (below_blk F0.out b5)
            replace F1 := Aside0.mk (below_blk F1.out b5)
            replace U0 := Aside0.mk (Kd.R_below U0.out b5)
            refine wpAnyH_ready (rs := [7]) (by kernel_rfl) (by simp) ?_
            refine AllReadyH.cons (o := { dst := none, op := Op.store 25 (Operand.tmp 9) (Operand.tmp 5), type := 0, pos := "l3_serve.go:72", after := #[{ on := 6, ground := Ground.data }, { on := 2, ground := Ground.data }, { on := 5, ground := Ground.chain }, { on := 0, ground := Ground.phase }, { on := 1, ground := Ground.phase }, { on := 2, ground := Ground.phase }, { on := 3, ground := Ground.phase }, { on := 4, ground := Ground.phase }, { on := 5, ground := Ground.textOnly Departure.lateStoresUnsure }], guard := none }) rfl (fun K hK => ?k39) AllReadyH.nil
            case k39 =>
              have hb7 := F0.out
              have v1_ : V5.cell? ⟨w.heap.size, 1, none⟩ = some (.slice A0 c.f1.length c0) := by simp [World.cell?, hb7]
              have u1_ : V5.frozen? ⟨w.heap.size, 1, none⟩ = false := by simp [World.frozen?, hb7]
              go_simp
              generalize hV7 : World.setCell V5 ⟨w.heap.size, 1, none⟩ _ = V7
              have G7 : V5.grownBy V7 (some (w.heap.size)) := by rw [← hV7]; exact grown_set1 _ _ _ _
              have FF : V7.heap[w.heap.size]? = some (.cells #[.string c.f0, .slice B0 c.f1.length d0, .slice A1 c.f2.length c1] 47 (0, 0)) := by rw [← hV7, blk_set1 (F0.out) 1 _]; simp
              have BB : Below w.heap.size w V7 := by rw [← hV7]; exact (bel_set hHeld _ (Nat.le_refl _))
              clear hV7
              refine hK.out _ _ ?h40 (fun hHeld => ?j40)
              case h40 => exact BB
              clear hK K
              try simp only [Act.put, List.setIfInBounds_toArray, List.set_cons_zero, List.set_cons_succ]
              replace U0 := Aside0.mk (R_else U0.out rfl G7 (Kd.R_ne U0.out F0.out (by decide)))
              replace U1 := Aside0.mk (R_else U1.out rfl G7 (Kd.R_ne U1.out F0.out (by decide)))
              replace F0 := Aside0.mk FF
              clear FF
              replace F1 := Aside0.mk ((G7.block _ (blk_lt F1.out) (fun e => by have e := Option.some.inj e; omega)).trans F1.out)
              refine wpAnyH_take (i := 8) (oi := { dst := some 10, op := Op.fieldAddr 47 (Operand.tmp 1) 2, type := 0, pos := "l3_serve.go:72", after := #[{ on := 0, ground := Ground.phase }, { on := 1, ground := Ground.phase }, { on := 2, ground := Ground.phase }, { on := 3, ground := Ground.phase }, { on := 4, ground := Ground.phase }, { on := 5, ground := Ground.phase }, { on := 6, ground := Ground.phase }, { on := 7, ground := Ground.phase }], guard := none }) (v := ?v41) rfl (by kernel_rfl) (by kernel_rfl) (by kernel_rfl) (fun _ _ _ h => h) (Or.inl ⟨by rfl, ?y41⟩) (by assumption) ?r41
              case y41 => intro w_ hSw; (try dsimp only at hSw); go_simp; (try (with_reducible rfl))
              try simp only [Act.put, List.setIfInBounds_toArray, List.set_cons_zero, List.set_cons_succ]
              refine wpAnyH_ready (rs := [9]) (by kernel_rfl) (by simp) ?_
              refine AllReadyH.cons (o := { dst := none, op := Op.store 45 (Operand.tmp 10) (Operand.tmp 8), type := 0, pos := "l3_serve.go:72", after := #[{ on := 8, ground := Ground.data }, { on := 5, ground := Ground.data }, { on := 7, ground := Ground.chain }, { on := 0, ground := Ground.phase }, { on := 1, ground := Ground.phase }, { on := 2, ground := Ground.phase }, { on := 3, ground := Ground.phase }, { on := 4, ground := Ground.phase }, { on := 5, ground := Ground.phase }, { on := 6, ground := Ground.phase }, { on := 7, ground := Ground.phase }], guard := none }) rfl (fun K hK => ?k42) AllReadyH.nil
              case k42 =>
                have hb7 := F0.out
                have v2_ : V7.cell? ⟨w.heap.size, 2, none⟩ = some (.slice A1 c.f2.length c1) := by simp [World.cell?, hb7]
                have u2_ : V7.frozen? ⟨w.heap.size, 2, none⟩ = false := by simp [World.frozen?, hb7]
                go_simp
                generalize hV9 : World.setCell V7 ⟨w.heap.size, 2, none⟩ _ = V9
                have G9 : V7.grownBy V9 (some (w.heap.size)) := by rw [← hV9]; exact grown_set1 _ _ _ _
                have FF : V9.heap[w.heap.size]? = some (.cells #[.string c.f0, .slice B0 c.f1.length d0, .slice B1 c.f2.length d1] 47 (0, 0)) := by rw [← hV9, blk_set1 (F0.out) 2 _]; simp
                have BB : Below w.heap.size w V9 := by rw [← hV9]; exact (bel_set hHeld _ (Nat.le_refl _))
                clear hV9
                refine hK.out _ _ ?h43 (fun hHeld => ?j43)
                case h43 => exact BB
                clear hK K
                try simp only [Act.put, List.setIfInBounds_toArray, List.set_cons_zero, List.set_cons_succ]
                replace U0 := Aside0.mk (R_else U0.out rfl G9 (Kd.R_ne U0.out F0.out (by decide)))
                replace U1 := Aside0.mk (R_else U1.out rfl G9 (Kd.R_ne U1.out F0.out (by decide)))
                replace F0 := Aside0.mk FF
                clear FF
                replace F1 := Aside0.mk ((G9.block _ (blk_lt F1.out) (fun e => by have e := Option.some.inj e; omega)).trans F1.out)
                refine wpAnyH_done (by kernel_rfl) ?_ _
                exact HKK.out B0 d0 B1 d1 V9 ⟨hHeld, blk_lt F1.out, F0.out, F1.out, U0.out, U1.out⟩
  case hk =>
    intro B0 d0 B1 d1 V ⟨BV, sV, f0, f1, u0, u1⟩
    clear HST HF0 HF1 join
    have U0 := Aside0.mk u0
    have U1 := Aside0.mk u1
    have F1 := Aside0.mk f1
    have F0 := Aside0.mk f0
    have BW := Aside0.mk BV
    clear u0 u1 f0 f1 BV
    have m0_ : V.cell? ⟨w.heap.size, 0, none⟩ = some (.string c.f0) := by simp [World.cell?, F0.out]
    have m1_ : V.cell? ⟨w.heap.size, 1, none⟩ = some (.slice B0 c.f1.length d0) := by simp [World.cell?, F0.out]
    have m2_ : V.cell? ⟨w.heap.size, 2, none⟩ = some (.slice B1 c.f2.length d1) := by simp [World.cell?, F0.out]
    have k0_ : V.cell? ⟨w.heap.size + 1, 0, none⟩ = some (.string ⟨#[]⟩) := by simp [World.cell?, F1.out]
    have k1_ : V.cell? ⟨w.heap.size + 1, 1, none⟩ = some (.slice none 0 0) := by simp [World.cell?, F1.out]
    have k2_ : V.cell? ⟨w.heap.size + 1, 2, none⟩ = some (.slice none 0 0) := by simp [World.cell?, F1.out]
    have kz0_ : V.frozen? ⟨w.heap.size + 1, 0, none⟩ = false := by simp [World.frozen?, F1.out]
    have kz1_ : V.frozen? ⟨w.heap.size + 1, 1, none⟩ = false := by simp [World.frozen?, F1.out]
    have kz2_ : V.frozen? ⟨w.heap.size + 1, 2, none⟩ = false := by simp [World.frozen?, F1.out]
    go_wp2
    refine bodyPost_ret (v := .agg #[.string c.f0, .slice B0 c.f1.length d0, .slice B1 c.f2.length d1]) ?hr rfl ?hp
    case hr => simp [results, Tryz.results68, go_sem, m0_, m1_, m2_, k0_, k1_, k2_]
    case hp =>
      have b0 := BW.out
      generalize hwz : World.setCell (World.setCell (World.setCell V ⟨w.heap.size + 1, 0, none⟩ _) ⟨w.heap.size + 1, 1, none⟩ _) ⟨w.heap.size + 1, 2, none⟩ _ = wz
      have GZ : V.grownBy wz (some (w.heap.size + 1)) := by rw [← hwz]; exact ((grown_set1 _ _ _ _).trans (grown_set1 _ _ _ _)).trans (grown_set1 _ _ _ _)
      have BZ : Below w.heap.size w wz := by rw [← hwz]; exact (bel_set (bel_set (bel_set b0 _ (by show w.heap.size ≤ w.heap.size + 1; omega)) _ (by show w.heap.size ≤ w.heap.size + 1; omega)) _ (by show w.heap.size ≤ w.heap.size + 1; omega))
      clear hwz
      exact ⟨B0, d0, B1, d1, rfl, R_else U0.out rfl GZ (Kd.R_ne U0.out F1.out (by decide)), R_else U1.out rfl GZ (Kd.R_ne U1.out F1.out (by decide)), BZ⟩

set_option maxRecDepth 100000 in
set_option maxHeartbeats 4000000 in
theorem specCopyConf_any (m : SConf) (A0 : Option Addr) (c0 : Nat) (A1 : Option Addr) (c1 : Nat) (w : World) (hw : fitConf m) (hr0 : Kd.C Kd.string w A0 m.f1.length m.f1) (hr1 : Kd.C kWay w A1 m.f2.length m.f2) :
    Calls Tryz.prog 65 #[.agg #[.string m.f0, .slice A0 m.f1.length c0, .slice A1 m.f2.length c1]] w fun e w' => ∃ B0 d0 B1 d1, e = .returned (.agg #[.string m.f0, .slice B0 m.f1.length d0, .slice B1 m.f2.length d1]) ∧ Kd.R Kd.string 9 w' w.heap.size (fun _ => True) (.slice B0 m.f1.length d0) m.f1 ∧ Kd.R kWay 136 w' w.heap.size (fun _ => True) (.slice B1 m.f2.length d1) m.f2 ∧ Below w.heap.size w w' := by
  have hl0 : m.f1.length ≤ 1048576 := hw.2.1.1
  have hl1 : m.f2.length ≤ 1048576 := hw.2.2.1
  clear hw
  go_enter Tryz.func65, Tryz.ntmps65
  go_wp2
  obtain ⟨W0, hW0⟩ : ∃ W, W = (w.alloc (.cells #[.string m.f0, .slice A0 m.f1.length c0, .slice A1 m.f2.length c1] 47)).alloc (.cells #[.string ⟨#[]⟩, .slice none 0 0, .slice none 0 0] 47) := ⟨_, rfl⟩
  rw [← hW0]
  have f0 : W0.heap[w.heap.size]? = some (.cells #[.string m.f0, .slice A0 m.f1.length c0, .slice A1 m.f2.length c1] 47 (0, 0)) := by rw [hW0]; exact below_blk (blk_new _ _) (bel_alloc (Below.refl _ _) _)
  have HF1 : Aside0 (W0.heap[w.heap.size + 1]? = some (.cells #[.string ⟨#[]⟩, .slice none 0 0, .slice none 0 0] 47 (0, 0))) := ⟨by rw [hW0, show w.heap.size + 1 = (w.alloc (.cells #[.string m.f0, .slice A0 m.f1.length c0, .slice A1 m.f2.length c1] 47)).heap.size by simp]; exact blk_new _ _⟩
  have B0 : Below w.heap.size w W0 := by rw [hW0]; exact bel_alloc (bel_alloc (Below.refl _ _) _) _
  clear hW0
  have join : Hid (∀ {goal : Prop} {G : Option Addr → Nat → Option Addr → Nat → Nat → Nat → World → Prop} (rg : Hid (∀ (B0 : Option Addr) (d0 : Nat) (B1 : Option Addr) (d1 : Nat) (g0 g1 : Nat) (V : World), Below w.heap.size w V ∧ V.heap[w.heap.size + 1]? = some (.cells #[.string m.f0, .slice B0 m.f1.length d0, .slice B1 m.f2.length d1] 47 (0, 0)) ∧ Kd.R Kd.string 9 V w.heap.size (fun _ => True) (.slice B0 m.f1.length d0) m.f1 ∧ Kd.R kWay 136 V w.heap.size (fun _ => True) (.slice B1 m.f2.length d1) m.f2 → G B0 d0 B1 d1 g0 g1 V) → goal) (hk : ∀ (B0 : Option Addr) (d0 : Nat) (B1 : Option Addr) (d1 : Nat) (g0 g1 : Nat) (V : World), Below w.heap.size w V ∧ V.heap[w.heap.size + 1]? = some (.cells #[.string m.f0, .slice B0 m.f1.length d0, .slice B1 m.f2.length d1] 47 (0, 0)) ∧ Kd.R Kd.string 9 V w.heap.size (fun _ => True) (.slice B0 m.f1.length d0) m.f1 ∧ Kd.R kWay 136 V w.heap.size (fun _ => True) (.slice B1 m.f2.length d1) m.f2 → G B0 d0 B1 d1 g0 g1 V), goal) := Lib.hid (fun f h => f (Lib.hid h))
  have HK : Aside0 (∀ W W1, Below W.heap.size W W1 → (W.cell? ⟨w.heap.size, 0, none⟩ = some (.string m.f0) ∧ W.cell? ⟨w.heap.size, 1, none⟩ = some (.slice A0 m.f1.length c0) ∧ W.cell? ⟨w.heap.size, 2, none⟩ = some (.slice A1 m.f2.length c1) ∧ Below w.heap.size w W) → (W1.cell? ⟨w.heap.size, 0, none⟩ = some (.string m.f0) ∧ W1.cell? ⟨w.heap.size, 1, none⟩ = some (.slice A0 m.f1.length c0) ∧ W1.cell? ⟨w.heap.size, 2, none⟩ = some (.slice A1 m.f2.length c1) ∧ Below w.heap.size w W1)) := ⟨fun W W1 hb h => ⟨(hb.cell (World.block_lt_of_cell? W _ (h.1))).trans (h.1), (hb.cell (World.block_lt_of_cell? W _ (h.2.1))).trans (h.2.1), (hb.cell (World.block_lt_of_cell? W _ (h.2.2.1))).trans (h.2.2.1), bel_then (h.2.2.2) hb⟩⟩
  have x0_ : W0.cell? ⟨w.heap.size, 0, none⟩ = some (.string m.f0) := by simp [World.cell?, f0]
  have x1_ : W0.cell? ⟨w.heap.size, 1, none⟩ = some (.slice A0 m.f1.length c0) := by simp [World.cell?, f0]
  have x2_ : W0.cell? ⟨w.heap.size, 2, none⟩ = some (.slice A1 m.f2.length c1) := by simp [World.cell?, f0]
  have HST : Aside0 ((fun W => W.cell? ⟨w.heap.size, 0, none⟩ = some (.string m.f0) ∧ W.cell? ⟨w.heap.size, 1, none⟩ = some (.slice A0 m.f1.length c0) ∧ W.cell? ⟨w.heap.size, 2, none⟩ = some (.slice A1 m.f2.length c1) ∧ Below w.heap.size w W) W0.drew) := ⟨⟨x0_, x1_, x2_, bel_then B0 (drew_below0 W0)⟩⟩
  clear f0 B0 x0_ x1_ x2_
  apply join.out
  case rg =>
    intro HKK
    refine wp_region_held_drew (S := (fun W => W.cell? ⟨w.heap.size, 0, none⟩ = some (.string m.f0) ∧ W.cell? ⟨w.heap.size, 1, none⟩ = some (.slice A0 m.f1.length c0) ∧ W.cell? ⟨w.heap.size, 2, none⟩ = some (.slice A1 m.f2.length c1) ∧ Below w.heap.size w W)) (by kernel_rfl) ?s44 (fun hHeld => ?t44)
    case s44 => exact HST.out
    generalize hV0 : World.drew _ = V0 at hHeld ⊢
    have F1 : Aside0 (V0.heap[w.heap.size + 1]? = some (.cells #[.string ⟨#[]⟩, .slice none 0 0, .slice none 0 0] 47 (0, 0))) := ⟨by rw [← hV0]; exact HF1.out⟩
    have s0_ : w.heap.size + 1 < V0.heap.size := blk_lt F1.out
    clear hV0
    refine wpAnyH_take (i := 0) (oi := { dst := some 3, op := Op.fieldAddr 47 (Operand.tmp 1) 0, type := 0, pos := "l7_host.go:65", after := #[], guard := none }) (v := ?v45) rfl (by kernel_rfl) (by kernel_rfl) (by kernel_rfl) (fun _ _ _ h => h) (Or.inl ⟨by rfl, ?y45⟩) (by assumption) ?r45
    case y45 => intro w_ hSw; (try dsimp only at hSw); go_simp; (try (with_reducible rfl))
    try simp only [Act.put, List.setIfInBounds_toArray, List.set_cons_zero, List.set_cons_succ]
    refine wpAnyH_take (i := 1) (oi := { dst := some 4, op := Op.load 9 (Operand.tmp 3), type := 9, pos := "l7_host.go:65", after := #[{ on := 0, ground := Ground.data }], guard := none }) (v := ?v46) rfl (by kernel_rfl) (by kernel_rfl) (by kernel_rfl) (fun _ _ _ h => h) (Or.inl ⟨by rfl, ?y46⟩) (by assumption) ?r46
    case y46 => intro w_ hSw; (try dsimp only at hSw); go_simp; (try (with_reducible rfl))
    try simp only [Act.put, List.setIfInBounds_toArray, List.set_cons_zero, List.set_cons_succ]
    refine wpAnyH_take (i := 3) (oi := { dst := some 6, op := Op.fieldAddr 47 (Operand.tmp 1) 1, type := 0, pos := "l7_host.go:65", after := #[], guard := none }) (v := ?v47) rfl (by kernel_rfl) (by kernel_rfl) (by kernel_rfl) (fun _ _ _ h => h) (Or.inl ⟨by rfl, ?y47⟩) (by assumption) ?r47
    case y47 => intro w_ hSw; (try dsimp only at hSw); go_simp; (try (with_reducible rfl))
    try simp only [Act.put, List.setIfInBounds_toArray, List.set_cons_zero, List.set_cons_succ]
    refine wpAnyH_take (i := 4) (oi := { dst := some 7, op := Op.load 25 (Operand.tmp 6), type := 25, pos := "l7_host.go:65", after := #[{ on := 3, ground := Ground.data }], guard := none }) (v := ?v48) rfl (by kernel_rfl) (by kernel_rfl) (by kernel_rfl) (fun _ _ _ h => h) (Or.inl ⟨by rfl, ?y48⟩) (by assumption) ?r48
    case y48 => intro w_ hSw; (try dsimp only at hSw); go_simp; (try (with_reducible rfl))
    try simp only [Act.put, List.setIfInBounds_toArray, List.set_cons_zero, List.set_cons_succ]
    refine wpAnyH_take (i := 7) (oi := { dst := some 10, op := Op.fieldAddr 47 (Operand.tmp 1) 2, type := 0, pos := "l7_host.go:65", after := #[], guard := none }) (v := ?v49) rfl (by kernel_rfl) (by kernel_rfl) (by kernel_rfl) (fun _ _ _ h => h) (Or.inl ⟨by rfl, ?y49⟩) (by assumption) ?r49
    case y49 => intro w_ hSw; (try dsimp only at hSw); go_simp; (try (with_reducible rfl))
    try simp only [Act.put, List.setIfInBounds_toArray, List.set_cons_zero, List.set_cons_succ]
    refine wpAnyH_take (i := 8) (oi := { dst := some 11, op := Op.load 45 (Operand.tmp 10), type := 45, pos := "l7_host.go:65", after := #[{ on := 7, ground := Ground.data }], guard := none }) (v := ?v50) rfl (by kernel_rfl) (by kernel_rfl) (by kernel_rfl) (fun _ _ _ h => h) (Or.inl ⟨by rfl, ?y50⟩) (by assumption) ?r50
    case y50 => intro w_ hSw; (try dsimp only at hSw); go_simp; (try (with_reducible rfl))
    try simp only [Act.put, List.setIfInBounds_toArray, List.set_cons_zero, List.set_cons_succ]
    refine wpAnyH_ready (rs := [2, 6]) (by kernel_rfl) (by simp) ?_
    refine AllReadyH.cons (o := { dst := some 5, op := Op.buildSlice 25 0 #[], type := 25, pos := "l7_host.go:65", after := #[], guard := none }) rfl (fun K hK => ?k51) (AllReadyH.cons (o := { dst := some 9, op := Op.buildSlice 45 0 #[], type := 45, pos := "l7_host.go:65", after := #[], guard := none }) rfl (fun K hK => ?k52) AllReadyH.nil)
    case k51 =>
      go_simp
      refine hK.out _ _ ?h53 (fun hHeld => ?j53)
      case h53 => exact HK.out _ _ (bel_alloc (Below.refl _ _) _) hHeld
      clear hK K
      try simp only [Act.put, List.setIfInBounds_toArray, List.set_cons_zero, List.set_cons_succ]
      generalize hV2 : World.alloc V0 _ = V2 at hHeld ⊢
      have b2 : Below V0.heap.size V0 V2 := by rw [← hV2]; exact bel_alloc (Below.refl _ _) _
      have z2 : V0.heap.size < V2.heap.size := by rw [← hV2]; simp
      have lo2 : w.heap.size + 1 < V0.heap.size := by omega
      have E0 : Aside0 (Kd.R Kd.string 9 V2 w.heap.size (fun _ => True) (.slice (some ⟨V0.heap.size, 0, none⟩) 0 0) []) := ⟨by rw [← hV2]; exact R_empty Kd.string 9 V0 w.heap.size (by omega) trivial⟩
      obtain ⟨g0, hg2⟩ : ∃ g, g = V0.heap.size := ⟨_, rfl⟩
      have lg0 : w.heap.size + 1 < g0 := by omega
      rw [← hg2] at E0 ⊢
      have s2_ : w.heap.size + 1 < V2.heap.size := by omega
      clear hV2 hg2 z2
      replace F1 := Aside0.mk (below_blk F1.out b2)
      refine wpAnyH_ready (rs := [5, 6]) (by kernel_rfl) (by simp) ?_
      refine AllReadyH.cons (o := { dst := some 8, op := Op.call { callee := Callee.builtin Builtin.append, args := #[Operand.tmp 5, Operand.tmp 7], argTypes := #[25, 25] }, type := 25, pos := "l7_host.go:65", after := #[{ on := 2, ground := Ground.data }, { on := 4, ground := Ground.data }], guard := none }) rfl (fun K hK => ?k54) (AllReadyH.cons (o := { dst := some 9, op := Op.buildSlice 45 0 #[], type := 45, pos := "l7_host.go:65", after := #[], guard := none }) rfl (fun K hK => ?k55) AllReadyH.nil)
      case k54 =>
        refine Kd.R_append_rows_step Kd.string (w0 := w) (w.heap.size) (by rfl) (.tmp 5) (.tmp 7) 25 9 (.string ⟨#[]⟩) 16 rfl Tryz.underlying25 info9 rfl (by decide) (by omega) (.slice (some ⟨g0, 0, none⟩) 0 0) [] m.f1 _ _ _ (fun _ => True) (fun _ => False) rfl rfl ?aO5 ?aR5 (fun _ _ h => h) (fun _ h => h.elim) (fun _ _ => trivial) ?aB5 ?aS5 ?aL5 ?_
        case aO5 => exact E0.out
        case aR5 => exact Kd.C_below hr0 hHeld.2.2.2
        case aB5 => exact hHeld.2.2.2
        case aS5 => exact (hHeld.2.2.2).size
        case aL5 => (simp; omega)
        intro v5 V5 ho hb hg hat
        have ho : Kd.R Kd.string 9 V5 w.heap.size (fun _ => True) v5 m.f1 := ho
        obtain ⟨B0, d0, hv5⟩ := Kd.R_slice ho
        subst hv5
        have GR5 : V2.grownBy V5 (some g0) := hg
        clear hg hat
        refine hK.out _ _ ?h56 (fun hHeld => ?j56)
        case h56 => exact ⟨(World.cell?_of_block (GR5.block _ (World.block_lt_of_cell? _ _ hHeld.1) (fun e => by have e := Option.some.inj e; (try dsimp only at e); omega))).trans hHeld.1, (World.cell?_of_block (GR5.block _ (World.block_lt_of_cell? _ _ hHeld.2.1) (fun e => by have e := Option.some.inj e; (try dsimp only at e); omega))).trans hHeld.2.1, (World.cell?_of_block (GR5.block _ (World.block_lt_of_cell? _ _ hHeld.2.2.1) (fun e => by have e := Option.some.inj e; (try dsimp only at e); omega))).trans hHeld.2.2.1, hb⟩
        clear hK K
        try simp only [Act.put, List.setIfInBounds_toArray, List.set_cons_zero, List.set_cons_succ]
        have U0 := Aside0.mk ho
        have s5_ : w.heap.size + 1 < V5.heap.size := by have := GR5.size; omega
        replace F1 := Aside0.mk ((GR5.block _ (blk_lt F1.out) (fun e => by have e := Option.some.inj e; omega)).trans F1.out)
        clear ho hb E0
        refine wpAnyH_ready (rs := [6]) (by kernel_rfl) (by simp) ?_
        refine AllReadyH.cons (o := { dst := some 9, op := Op.buildSlice 45 0 #[], type := 45, pos := "l7_host.go:65", after := #[], guard := none }) rfl (fun K hK => ?k57) AllReadyH.nil
        case k57 =>
          go_simp
          refine hK.out _ _ ?h58 (fun hHeld => ?j58)
          case h58 => exact HK.out _ _ (bel_alloc (Below.refl _ _) _) hHeld
          clear hK K
          try simp only [Act.put, List.setIfInBounds_toArray, List.set_cons_zero, List.set_cons_succ]
          generalize hV6 : World.alloc V5 _ = V6 at hHeld ⊢
          have b6 : Below V5.heap.size V5 V6 := by rw [← hV6]; exact bel_alloc (Below.refl _ _) _
          have z6 : V5.heap.size < V6.heap.size := by rw [← hV6]; simp
          have lo6 : w.heap.size + 1 < V5.heap.size := by omega
          have E1 : Aside0 (Kd.R kWay 136 V6 w.heap.size (fun _ => True) (.slice (some ⟨V5.heap.size, 0, none⟩) 0 0) []) := ⟨by rw [← hV6]; exact R_empty kWay 136 V5 w.heap.size (by omega) trivial⟩
          obtain ⟨g1, hg6⟩ : ∃ g, g = V5.heap.size := ⟨_, rfl⟩
          have lg1 : w.heap.size + 1 < g1 := by omega
          rw [← hg6] at E1 ⊢
          have s6_ : w.heap.size + 1 < V6.heap.size := by omega
          clear hV6 hg6 z6
          replace F1 := Aside0.mk (below_blk F1.out b6)
          replace U0 := Aside0.mk (Kd.R_below U0.out b6)
          refine wpAnyH_ready (rs := [9]) (by kernel_rfl) (by simp) ?_
          refine AllReadyH.cons (o := { dst := some 12, op := Op.call { callee := Callee.builtin Builtin.append, args := #[Operand.tmp 9, Operand.tmp 11], argTypes := #[45, 45] }, type := 45, pos := "l7_host.go:65", after := #[{ on := 6, ground := Ground.data }, { on := 8, ground := Ground.data }, { on := 5, ground := Ground.chain }], guard := none }) rfl (fun K hK => ?k59) AllReadyH.nil
          case k59 =>
            refine Kd.R_append_rows_step kWay (w0 := w) (w.heap.size) (by rfl) (.tmp 9) (.tmp 11) 45 136 (.agg #[(.string ⟨#[]⟩), (.string ⟨#[]⟩)]) 32 rfl Tryz.underlying45 info136 rfl (by decide) (by omega) (.slice (some ⟨g1, 0, none⟩) 0 0) [] m.f2 _ _ _ (fun _ => True) (fun _ => False) rfl rfl ?aO9 ?aR9 (fun _ _ h => h) (fun _ h => h.elim) (fun _ _ => trivial) ?aB9 ?aS9 ?aL9 ?_
            case aO9 => exact E1.out
            case aR9 => exact Kd.C_below hr1 hHeld.2.2.2
            case aB9 => exact hHeld.2.2.2
            case aS9 => exact (hHeld.2.2.2).size
            case aL9 => (simp; omega)
            intro v9 V9 ho hb hg hat
            have ho : Kd.R kWay 136 V9 w.heap.size (fun _ => True) v9 m.f2 := ho
            obtain ⟨B1, d1, hv9⟩ := Kd.R_slice ho
            subst hv9
            have GR9 : V6.grownBy V9 (some g1) := hg
            clear hg hat
            refine hK.out _ _ ?h60 (fun hHeld => ?j60)
            case h60 => exact ⟨(World.cell?_of_block (GR9.block _ (World.block_lt_of_cell? _ _ hHeld.1) (fun e => by have e := Option.some.inj e; (try dsimp only at e); omega))).trans hHeld.1, (World.cell?_of_block (GR9.block _ (World.block_lt_of_cell? _ _ hHeld.2.1) (fun e => by have e := Option.some.inj e; (try dsimp only at e); omega))).trans hHeld.2.1, (World.cell?_of_block (GR9.block _ (World.block_lt_of_cell? _ _ hHeld.2.2.1) (fun e => by have e := Option.some.inj e; (try dsimp only at e); omega))).trans hHeld.2.2.1, hb⟩
            clear hK K
            try simp only [Act.put, List.setIfInBounds_toArray, List.set_cons_zero, List.set_cons_succ]
            have U1 := Aside0.mk ho
            have s9_ : w.heap.size + 1 < V9.heap.size := by have := GR9.size; omega
            replace F1 := Aside0.mk ((GR9.block _ (blk_lt F1.out) (fun e => by have e := Option.some.inj e; omega)).trans F1.out)
            replace U0 := Aside0.mk (Kd.R_over' U0.out (Kd.R_typed E1.out) (by decide) GR9)
            clear ho hb E1
            refine wpAnyH_take (i := 10) (oi := { dst := some 13, op := Op.build 47 #[(0, Operand.tmp 4), (1, Operand.tmp 8), (2, Operand.tmp 12)], type := 47, pos := "l7_host.go:65", after := #[{ on := 1, ground := Ground.data }, { on := 5, ground := Ground.data }, { on := 9, ground := Ground.data }], guard := none }) (v := ?v61) rfl (by kernel_rfl) (by kernel_rfl) (by kernel_rfl) (fun _ _ _ h => h) (Or.inl ⟨by rfl, ?y61⟩) (by assumption) ?r61
            case y61 => intro w_ hSw; (try dsimp only at hSw); go_simp; (try (with_reducible rfl))
            try simp only [Act.put, List.setIfInBounds_toArray, List.set_cons_zero, List.set_cons_succ]
            refine wpAnyH_ready (rs := [11]) (by kernel_rfl) (by simp) ?_
            refine AllReadyH.cons (o := { dst := none, op := Op.store 47 (Operand.tmp 2) (Operand.tmp 13), type := 0, pos := "l7_host.go:65", after := #[{ on := 10, ground := Ground.data }, { on := 9, ground := Ground.chain }, { on := 0, ground := Ground.phase }, { on := 1, ground := Ground.phase }, { on := 2, ground := Ground.phase }, { on := 3, ground := Ground.phase }, { on := 4, ground := Ground.phase }, { on := 5, ground := Ground.phase }, { on := 6, ground := Ground.phase }, { on := 7, ground := Ground.phase }, { on := 8, ground := Ground.phase }, { on := 9, ground := Ground.phase }, { on := 10, ground := Ground.phase }], guard := none }) rfl (fun K hK => ?k62) AllReadyH.nil
            case k62 =>
              have hb7 := F1.out
              have v0_ : V9.cell? ⟨w.heap.size + 1, 0, none⟩ = some (.string ⟨#[]⟩) := by simp [World.cell?, hb7]
              have v1_ : V9.cell? ⟨w.heap.size + 1, 1, none⟩ = some (.slice none 0 0) := by simp [World.cell?, hb7]
              have v2_ : V9.cell? ⟨w.heap.size + 1, 2, none⟩ = some (.slice none 0 0) := by simp [World.cell?, hb7]
              have u0_ : V9.frozen? ⟨w.heap.size + 1, 0, none⟩ = false := by simp [World.frozen?, hb7]
              have u1_ : V9.frozen? ⟨w.heap.size + 1, 1, none⟩ = false := by simp [World.frozen?, hb7]
              have u2_ : V9.frozen? ⟨w.heap.size + 1, 2, none⟩ = false := by simp [World.frozen?, hb7]
              go_simp
              generalize hV11 : World.setCell (World.setCell (World.setCell V9 ⟨w.heap.size + 1, 0, none⟩ _) ⟨w.heap.size + 1, 1, none⟩ _) ⟨w.heap.size + 1, 2, none⟩ _ = V11
              have G11 : V9.grownBy V11 (some (w.heap.size + 1)) := by rw [← hV11]; exact ((grown_set1 _ _ _ _).trans (grown_set1 _ _ _ _)).trans (grown_set1 _ _ _ _)
              have FF : V11.heap[w.heap.size + 1]? = some (.cells #[.string m.f0, .slice B0 m.f1.length d0, .slice B1 m.f2.length d1] 47 (0, 0)) := by rw [← hV11, blk_set1 (blk_set1 (blk_set1 (F1.out) 0 _) 1 _) 2 _]; simp
              have BB : Below w.heap.size w V11 := by rw [← hV11]; exact (bel_set (bel_set (bel_set hHeld.2.2.2 _ (by show w.heap.size ≤ w.heap.size + 1; omega)) _ (by show w.heap.size ≤ w.heap.size + 1; omega)) _ (by show w.heap.size ≤ w.heap.size + 1; omega))
              clear hV11
              refine hK.out _ _ ?h63 (fun hHeld => ?j63)
              case h63 => exact ⟨(World.cell?_of_block (G11.block _ (World.block_lt_of_cell? _ _ hHeld.1) (fun e => by have e := Option.some.inj e; (try dsimp only at e); omega))).trans hHeld.1, (World.cell?_of_block (G11.block _ (World.block_lt_of_cell? _ _ hHeld.2.1) (fun e => by have e := Option.some.inj e; (try dsimp only at e); omega))).trans hHeld.2.1, (World.cell?_of_block (G11.block _ (World.block_lt_of_cell? _ _ hHeld.2.2.1) (fun e => by have e := Option.some.inj e; (try dsimp only at e); omega))).trans hHeld.2.2.1, BB⟩
              clear hK K
              try simp only [Act.put, List.setIfInBounds_toArray, List.set_cons_zero, List.set_cons_succ]
              replace U0 := Aside0.mk (R_else U0.out rfl G11 (Kd.R_ne U0.out F1.out (by decide)))
              replace U1 := Aside0.mk (R_else U1.out rfl G11 (Kd.R_ne U1.out F1.out (by decide)))
              replace F1 := Aside0.mk FF
              clear FF
              refine wpAnyH_done (by kernel_rfl) ?_ _
              exact HKK.out B0 d0 B1 d1 g0 g1 V11 ⟨hHeld.2.2.2, F1.out, U0.out, U1.out⟩
      case k55 =>
        go_simp
        refine hK.out _ _ ?h64 (fun hHeld => ?j64)
        case h64 => exact HK.out _ _ (bel_alloc (Below.refl _ _) _) hHeld
        clear hK K
        try simp only [Act.put, List.setIfInBounds_toArray, List.set_cons_zero, List.set_cons_succ]
        generalize hV6 : World.alloc V2 _ = V6 at hHeld ⊢
        have b6 : Below V2.heap.size V2 V6 := by rw [← hV6]; exact bel_alloc (Below.refl _ _) _
        have z6 : V2.heap.size < V6.heap.size := by rw [← hV6]; simp
        have lo6 : w.heap.size + 1 < V2.heap.size := by omega
        have E1 : Aside0 (Kd.R kWay 136 V6 w.heap.size (fun _ => True) (.slice (some ⟨V2.heap.size, 0, none⟩) 0 0) []) := ⟨by rw [← hV6]; exact R_empty kWay 136 V2 w.heap.size (by omega) trivial⟩
        obtain ⟨g1, hg6⟩ : ∃ g, g = V2.heap.size := ⟨_, rfl⟩
        have lg1 : w.heap.size + 1 < g1 := by omega
        rw [← hg6] at E1 ⊢
        have s6_ : w.heap.size + 1 < V6.heap.size := by omega
        clear hV6 hg6 z6
        replace F1 := Aside0.mk (below_blk F1.out b6)
        replace E0 := Aside0.mk (Kd.R_below E0.out b6)
        refine wpAnyH_ready (rs := [5]) (by kernel_rfl) (by simp) ?_
        refine AllReadyH.cons (o := { dst := some 8, op := Op.call { callee := Callee.builtin Builtin.append, args := #[Operand.tmp 5, Operand.tmp 7], argTypes := #[25, 25] }, type := 25, pos := "l7_host.go:65", after := #[{ on := 2, ground := Ground.data }, { on := 4, ground := Ground.data }], guard := none }) rfl (fun K hK => ?k65) AllReadyH.nil
        case k65 =>
          refine Kd.R_append_rows_step Kd.string (w0 := w) (w.heap.size) (by rfl) (.tmp 5) (.tmp 7) 25 9 (.string ⟨#[]⟩) 16 rfl Tryz.underlying25 info9 rfl (by decide) (by omega) (.slice (some ⟨g0, 0, none⟩) 0 0) [] m.f1 _ _ _ (fun _ => True) (fun _ => False) rfl rfl ?aO5 ?aR5 (fun _ _ h => h) (fun _ h => h.elim) (fun _ _ => trivial) ?aB5 ?aS5 ?aL5 ?_
          case aO5 => exact E0.out
          case aR5 => exact Kd.C_below hr0 hHeld.2.2.2
          case aB5 => exact hHeld.2.2.2
          case aS5 => exact (hHeld.2.2.2).size
          case aL5 => (simp; omega)
          intro v5 V5 ho hb hg hat
          have ho : Kd.R Kd.string 9 V5 w.heap.size (fun _ => True) v5 m.f1 := ho
          obtain ⟨B0, d0, hv5⟩ := Kd.R_slice ho
          subst hv5
          have GR5 : V6.grownBy V5 (some g0) := hg
          clear hg hat
          refine hK.out _ _ ?h66 (fun hHeld => ?j66)
          case h66 => exact ⟨(World.cell?_of_block (GR5.block _ (World.block_lt_of_cell? _ _ hHeld.1) (fun e => by have e := Option.some.inj e; (try dsimp only at e); omega))).trans hHeld.1, (World.cell?_of_block (GR5.block _ (World.block_lt_of_cell? _ _ hHeld.2.1) (fun e => by have e := Option.some.inj e; (try dsimp only at e); omega))).trans hHeld.2.1, (World.cell?_of_block (GR5.block _ (World.block_lt_of_cell? _ _ hHeld.2.2.1) (fun e => by have e := Option.some.inj e; (try dsimp only at e); omega))).trans hHeld.2.2.1, hb⟩
          clear hK K
          try simp only [Act.put, List.setIfInBounds_toArray, List.set_cons_zero, List.set_cons_succ]
          have U0 := Aside0.mk ho
          have s5_ : w.heap.size + 1 < V5.heap.size := by have := GR5.size; omega
          replace F1 := Aside0.mk ((GR5.block _ (blk_lt F1.out) (fun e => by have e := Option.some.inj e; omega)).trans F1.out)
          replace E1 := Aside0.mk (Kd.R_over' E1.out (Kd.R_typed E0.out) (by decide) GR5)
          clear ho hb E0
          refine wpAnyH_ready (rs := [9]) (by kernel_rfl) (by simp) ?_
          refine AllReadyH.cons (o := { dst := some 12, op := Op.call { callee := Callee.builtin Builtin.append, args := #[Operand.tmp 9, Operand.tmp 11], argTypes := #[45, 45] }, type := 45, pos := "l7_host.go:65", after := #[{ on := 6, ground := Ground.data }, { on := 8, ground := Ground.data }, { on := 5, ground := Ground.chain }], guard := none }) rfl (fun K hK => ?k67) AllReadyH.nil
          case k67 =>
            refine Kd.R_append_rows_step kWay (w0 := w) (w.heap.size) (by rfl) (.tmp 9) (.tmp 11) 45 136 (.agg #[(.string ⟨#[]⟩), (.string ⟨#[]⟩)]) 32 rfl Tryz.underlying45 info136 rfl (by decide) (by omega) (.slice (some ⟨g1, 0, none⟩) 0 0) [] m.f2 _ _ _ (fun _ => True) (fun _ => False) rfl rfl ?aO9 ?aR9 (fun _ _ h => h) (fun _ h => h.elim) (fun _ _ => trivial) ?aB9 ?aS9 ?aL9 ?_
            case aO9 => exact E1.out
            case aR9 => exact Kd.C_below hr1 hHeld.2.2.2
            case aB9 => exact hHeld.2.2.2
            case aS9 => exact (hHeld.2.2.2).size
            case aL9 => (simp; omega)
            intro v9 V9 ho hb hg hat
            have ho : Kd.R kWay 136 V9 w.heap.size (fun _ => True) v9 m.f2 := ho
            obtain ⟨B1, d1, hv9⟩ := Kd.R_slice ho
            subst hv9
            have GR9 : V5.grownBy V9 (some g1) := hg
            clear hg hat
            refine hK.out _ _ ?h68 (fun hHeld => ?j68)
            case h68 => exact ⟨(World.cell?_of_block (GR9.block _ (World.block_lt_of_cell? _ _ hHeld.1) (fun e => by have e := Option.some.inj e; (try dsimp only at e); omega))).trans hHeld.1, (World.cell?_of_block (GR9.block _ (World.block_lt_of_cell? _ _ hHeld.2.1) (fun e => by have e := Option.some.inj e; (try dsimp only at e); omega))).trans hHeld.2.1, (World.cell?_of_block (GR9.block _ (World.block_lt_of_cell? _ _ hHeld.2.2.1) (fun e => by have e := Option.some.inj e; (try dsimp only at e); omega))).trans hHeld.2.2.1, hb⟩
            clear hK K
            try simp only [Act.put, List.setIfInBounds_toArray, List.set_cons_zero, List.set_cons_succ]
            have U1 := Aside0.mk ho
            have s9_ : w.heap.size + 1 < V9.heap.size := by have := GR9.size; omega
            replace F1 := Aside0.mk ((GR9.block _ (blk_lt F1.out) (fun e => by have e := Option.some.inj e; omega)).trans F1.out)
            replace U0 := Aside0.mk (Kd.R_over' U0.out (Kd.R_typed E1.out) (by decide) GR9)
            clear ho hb E1
            refine wpAnyH_take (i := 10) (oi := { dst := some 13, op := Op.build 47 #[(0, Operand.tmp 4), (1, Operand.tmp 8), (2, Operand.tmp 12)], type := 47, pos := "l7_host.go:65", after := #[{ on := 1, ground := Ground.data }, { on := 5, ground := Ground.data }, { on := 9, ground := Ground.data }], guard := none }) (v := ?v69) rfl (by kernel_rfl) (by kernel_rfl) (by kernel_rfl) (fun _ _ _ h => h) (Or.inl ⟨by rfl, ?y69⟩) (by assumption) ?r69
            case y69 => intro w_ hSw; (try dsimp only at hSw); go_simp; (try (with_reducible rfl))
            try simp only [Act.put, List.setIfInBounds_toArray, List.set_cons_zero, List.set_cons_succ]
            refine wpAnyH_ready (rs := [11]) (by kernel_rfl) (by simp) ?_
            refine AllReadyH.cons (o := { dst := none, op := Op.store 47 (Operand.tmp 2) (Operand.tmp 13), type := 0, pos := "l7_host.go:65", after := #[{ on := 10, ground := Ground.data }, { on := 9, ground := Ground.chain }, { on := 0, ground := Ground.phase }, { on := 1, ground := Ground.phase }, { on := 2, ground := Ground.phase }, { on := 3, ground := Ground.phase }, { on := 4, ground := Ground.phase }, { on := 5, ground := Ground.phase }, { on := 6, ground := Ground.phase }, { on := 7, ground := Ground.phase }, { on := 8, ground := Ground.phase }, { on := 9, ground := Ground.phase }, { on := 10, ground := Ground.phase }], guard := none }) rfl (fun K hK => ?k70) AllReadyH.nil
            case k70 =>
              have hb7 := F1.out
              have v0_ : V9.cell? ⟨w.heap.size + 1, 0, none⟩ = some (.string ⟨#[]⟩) := by simp [World.cell?, hb7]
              have v1_ : V9.cell? ⟨w.heap.size + 1, 1, none⟩ = some (.slice none 0 0) := by simp [World.cell?, hb7]
              have v2_ : V9.cell? ⟨w.heap.size + 1, 2, none⟩ = some (.slice none 0 0) := by simp [World.cell?, hb7]
              have u0_ : V9.frozen? ⟨w.heap.size + 1, 0, none⟩ = false := by simp [World.frozen?, hb7]
              have u1_ : V9.frozen? ⟨w.heap.size + 1, 1, none⟩ = false := by simp [World.frozen?, hb7]
              have u2_ : V9.frozen? ⟨w.heap.size + 1, 2, none⟩ = false := by simp [World.frozen?, hb7]
              go_simp
              generalize hV11 : World.setCell (World.setCell (World.setCell V9 ⟨w.heap.size + 1, 0, none⟩ _) ⟨w.heap.size + 1, 1, none⟩ _) ⟨w.heap.size + 1, 2, none⟩ _ = V11
              have G11 : V9.grownBy V11 (some (w.heap.size + 1)) := by rw [← hV11]; exact ((grown_set1 _ _ _ _).trans (grown_set1 _ _ _ _)).trans (grown_set1 _ _ _ _)
              have FF : V11.heap[w.heap.size + 1]? = some (.cells #[.string m.f0, .slice B0 m.f1.length d0, .slice B1 m.f2.length d1] 47 (0, 0)) := by rw [← hV11, blk_set1 (blk_set1 (blk_set1 (F1.out) 0 _) 1 _) 2 _]; simp
              have BB : Below w.heap.size w V11 := by rw [← hV11]; exact (bel_set (bel_set (bel_set hHeld.2.2.2 _ (by show w.heap.size ≤ w.heap.size + 1; omega)) _ (by show w.heap.size ≤ w.heap.size + 1; omega)) _ (by show w.heap.size ≤ w.heap.size + 1; omega))
              clear hV11
              refine hK.out _ _ ?h71 (fun hHeld => ?j71)
              case h71 => exact ⟨(World.cell?_of_block (G11.block _ (World.block_lt_of_cell? _ _ hHeld.1) (fun e => by have e := Option.some.inj e; (try dsimp only at e); omega))).trans hHeld.1, (World.cell?_of_block (G11.block _ (World.block_lt_of_cell? _ _ hHeld.2.1) (fun e => by have e := Option.some.inj e; (try dsimp only at e); omega))).trans hHeld.2.1, (World.cell?_of_block (G11.block _ (World.block_lt_of_cell? _ _ hHeld.2.2.1) (fun e => by have e := Option.some.inj e; (try dsimp only at e); omega))).trans hHeld.2.2.1, BB⟩
              clear hK K
              try simp only [Act.put, List.setIfInBounds_toArray, List.set_cons_zero, List.set_cons_succ]
              replace U0 := Aside0.mk (R_else U0.out rfl G11 (Kd.R_ne U0.out F1.out (by decide)))
              replace U1 := Aside0.mk (R_else U1.out rfl G11 (Kd.R_ne U1.out F1.out (by decide)))
              replace F1 := Aside0.mk FF
              clear FF
              refine wpAnyH_done (by kernel_rfl) ?_ _
              exact HKK.out B0 d0 B1 d1 g0 g1 V11 ⟨hHeld.2.2.2, F1.out, U0.out, U1.out⟩
    case k52 =>
      go_simp
      refine hK.out _ _ ?h72 (fun hHeld => ?j72)
      case h72 => exact HK.out _ _ (bel_alloc (Below.refl _ _) _) hHeld
      clear hK K
      try simp only [Act.put, List.setIfInBounds_toArray, List.set_cons_zero, List.set_cons_succ]
      generalize hV6 : World.alloc V0 _ = V6 at hHeld ⊢
      have b6 : Below V0.heap.size V0 V6 := by rw [← hV6]; exact bel_alloc (Below.refl _ _) _
      have z6 : V0.heap.size < V6.heap.size := by rw [← hV6]; simp
      have lo6 : w.heap.size + 1 < V0.heap.size := by omega
      have E1 : Aside0 (Kd.R kWay 136 V6 w.heap.size (fun _ => True) (.slice (some ⟨V0.heap.size, 0, none⟩) 0 0) []) := ⟨by rw [← hV6]; exact R_empty kWay 136 V0 w.heap.size (by omega) trivial⟩
      obtain ⟨g1, hg6⟩ : ∃ g, g = V0.heap.size := ⟨_, rfl⟩
      have lg1 : w.heap.size + 1 < g1 := by omega
      rw [← hg6] at E1 ⊢
      have s6_ : w.heap.size + 1 < V6.heap.size := by omega
      clear hV6 hg6 z6
      replace F1 := Aside0.mk (below_blk F1.out b6)
      refine wpAnyH_ready (rs := [2]) (by kernel_rfl) (by simp) ?_
      refine AllReadyH.cons (o := { dst := some 5, op := Op.buildSlice 25 0 #[], type := 25, pos := "l7_host.go:65", after := #[], guard := none }) rfl (fun K hK => ?k73) AllReadyH.nil
      case k73 =>
        go_simp
        refine hK.out _ _ ?h74 (fun hHeld => ?j74)
        case h74 => exact HK.out _ _ (bel_alloc (Below.refl _ _) _) hHeld
        clear hK K
        try simp only [Act.put, List.setIfInBounds_toArray, List.set_cons_zero, List.set_cons_succ]
        generalize hV2 : World.alloc V6 _ = V2 at hHeld ⊢
        have b2 : Below V6.heap.size V6 V2 := by rw [← hV2]; exact bel_alloc (Below.refl _ _) _
        have z2 : V6.heap.size < V2.heap.size := by rw [← hV2]; simp
        have lo2 : w.heap.size + 1 < V6.heap.size := by omega
        have E0 : Aside0 (Kd.R Kd.string 9 V2 w.heap.size (fun _ => True) (.slice (some ⟨V6.heap.size, 0, none⟩) 0 0) []) := ⟨by rw [← hV2]; exact R_empty Kd.string 9 V6 w.heap.size (by omega) trivial⟩
        obtain ⟨g0, hg2⟩ : ∃ g, g = V6.heap.size := ⟨_, rfl⟩
        have lg0 : w.heap.size + 1 < g0 := by omega
        rw [← hg2] at E0 ⊢
        have s2_ : w.heap.size + 1 < V2.heap.size := by omega
        clear hV2 hg2 z2
        replace F1 := Aside0.mk (below_blk F1.out b2)
        replace E1 := Aside0.mk (Kd.R_below E1.out b2)
        refine wpAnyH_ready (rs := [5]) (by kernel_rfl) (by simp) ?_
        refine AllReadyH.cons (o := { dst := some 8, op := Op.call { callee := Callee.builtin Builtin.append, args := #[Operand.tmp 5, Operand.tmp 7], argTypes := #[25, 25] }, type := 25, pos := "l7_host.go:65", after := #[{ on := 2, ground := Ground.data }, { on := 4, ground := Ground.data }], guard := none }) rfl (fun K hK => ?k75) AllReadyH.nil
        case k75 =>
          refine Kd.R_append_rows_step Kd.string (w0 := w) (w.heap.size) (by rfl) (.tmp 5) (.tmp 7) 25 9 (.string ⟨#[]⟩) 16 rfl Tryz.underlying25 info9 rfl (by decide) (by omega) (.slice (some ⟨g0, 0, none⟩) 0 0) [] m.f1 _ _ _ (fun _ => True) (fun _ => False) rfl rfl ?aO5 ?aR5 (fun _ _ h => h) (fun _ h => h.elim) (fun _ _ => trivial) ?aB5 ?aS5 ?aL5 ?_
          case aO5 => exact E0.out
          case aR5 => exact Kd.C_below hr0 hHeld.2.2.2
          case aB5 => exact hHeld.2.2.2
          case aS5 => exact (hHeld.2.2.2).size
          case aL5 => (simp; omega)
          intro v5 V5 ho hb hg hat
          have ho : Kd.R Kd.string 9 V5 w.heap.size (fun _ => True) v5 m.f1 := ho
          obtain ⟨B0, d0, hv5⟩ := Kd.R_slice ho
          subst hv5
          have GR5 : V2.grownBy V5 (some g0) := hg
          clear hg hat
          refine hK.out _ _ ?h76 (fun hHeld => ?j76)
          case h76 => exact ⟨(World.cell?_of_block (GR5.block _ (World.block_lt_of_cell? _ _ hHeld.1) (fun e => by have e := Option.some.inj e; (try dsimp only at e); omega))).trans hHeld.1, (World.cell?_of_block (GR5.block _ (World.block_lt_of_cell? _ _ hHeld.2.1) (fun e => by have e := Option.some.inj e; (try dsimp only at e); omega))).trans hHeld.2.1, (World.cell?_of_block (GR5.block _ (World.block_lt_of_cell? _ _ hHeld.2.2.1) (fun e => by have e := Option.some.inj e; (try dsimp only at e); omega))).trans hHeld.2.2.1, hb⟩
          clear hK K
          try simp only [Act.put, List.setIfInBounds_toArray, List.set_cons_zero, List.set_cons_succ]
          have U0 := Aside0.mk ho
          have s5_ : w.heap.size + 1 < V5.heap.size := by have := GR5.size; omega
          replace F1 := Aside0.mk ((GR5.block _ (blk_lt F1.out) (fun e => by have e := Option.some.inj e; omega)).trans F1.out)
          replace E1 := Aside0.mk (Kd.R_over' E1.out (Kd.R_typed E0.out) (by decide) GR5)
          clear ho hb E0
          refine wpAnyH_ready (rs := [9]) (by kernel_rfl) (by simp) ?_
          refine AllReadyH.cons (o := { dst := some 12, op := Op.call { callee := Callee.builtin Builtin.append, args := #[Operand.tmp 9, Operand.tmp 11], argTypes := #[45, 45] }, type := 45, pos := "l7_host.go:65", after := #[{ on := 6, ground := Ground.data }, { on := 8, ground := Ground.data }, { on := 5, ground := Ground.chain }], guard := none }) rfl (fun K hK => ?k77) AllReadyH.nil
          case k77 =>
            refine Kd.R_append_rows_step kWay (w0 := w) (w.heap.size) (by rfl) (.tmp 9) (.tmp 11) 45 136 (.agg #[(.string ⟨#[]⟩), (.string ⟨#[]⟩)]) 32 rfl Tryz.underlying45 info136 rfl (by decide) (by omega) (.slice (some ⟨g1, 0, none⟩) 0 0) [] m.f2 _ _ _ (fun _ => True) (fun _ => False) rfl rfl ?aO9 ?aR9 (fun _ _ h => h) (fun _ h => h.elim) (fun _ _ => trivial) ?aB9 ?aS9 ?aL9 ?_
            case aO9 => exact E1.out
            case aR9 => exact Kd.C_below hr1 hHeld.2.2.2
            case aB9 => exact hHeld.2.2.2
            case aS9 => exact (hHeld.2.2.2).size
            case aL9 => (simp; omega)
            intro v9 V9 ho hb hg hat
            have ho : Kd.R kWay 136 V9 w.heap.size (fun _ => True) v9 m.f2 := ho
            obtain ⟨B1, d1, hv9⟩ := Kd.R_slice ho
            subst hv9
            have GR9 : V5.grownBy V9 (some g1) := hg
            clear hg hat
            refine hK.out _ _ ?h78 (fun hHeld => ?j78)
            case h78 => exact ⟨(World.cell?_of_block (GR9.block _ (World.block_lt_of_cell? _ _ hHeld.1) (fun e => by have e := Option.some.inj e; (try dsimp only at e); omega))).trans hHeld.1, (World.cell?_of_block (GR9.block _ (World.block_lt_of_cell? _ _ hHeld.2.1) (fun e => by have e := Option.some.inj e; (try dsimp only at e); omega))).trans hHeld.2.1, (World.cell?_of_block (GR9.block _ (World.block_lt_of_cell? _ _ hHeld.2.2.1) (fun e => by have e := Option.some.inj e; (try dsimp only at e); omega))).trans hHeld.2.2.1, hb⟩
            clear hK K
            try simp only [Act.put, List.setIfInBounds_toArray, List.set_cons_zero, List.set_cons_succ]
            have U1 := Aside0.mk ho
            have s9_ : w.heap.size + 1 < V9.heap.size := by have := GR9.size; omega
            replace F1 := Aside0.mk ((GR9.block _ (blk_lt F1.out) (fun e => by have e := Option.some.inj e; omega)).trans F1.out)
            replace U0 := Aside0.mk (Kd.R_over' U0.out (Kd.R_typed E1.out) (by decide) GR9)
            clear ho hb E1
            refine wpAnyH_take (i := 10) (oi := { dst := some 13, op := Op.build 47 #[(0, Operand.tmp 4), (1, Operand.tmp 8), (2, Operand.tmp 12)], type := 47, pos := "l7_host.go:65", after := #[{ on := 1, ground := Ground.data }, { on := 5, ground := Ground.data }, { on := 9, ground := Ground.data }], guard := none }) (v := ?v79) rfl (by kernel_rfl) (by kernel_rfl) (by kernel_rfl) (fun _ _ _ h => h) (Or.inl ⟨by rfl, ?y79⟩) (by assumption) ?r79
            case y79 => intro w_ hSw; (try dsimp only at hSw); go_simp; (try (with_reducible rfl))
            try simp only [Act.put, List.setIfInBounds_toArray, List.set_cons_zero, List.set_cons_succ]
            refine wpAnyH_ready (rs := [11]) (by kernel_rfl) (by simp) ?_
            refine AllReadyH.cons (o := { dst := none, op := Op.store 47 (Operand.tmp 2) (Operand.tmp 13), type := 0, pos := "l7_host.go:65", after := #[{ on := 10, ground := Ground.data }, { on := 9, ground := Ground.chain }, { on := 0, ground := Ground.phase }, { on := 1, ground := Ground.phase }, { on := 2, ground := Ground.phase }, { on := 3, ground := Ground.phase }, { on := 4, ground := Ground.phase }, { on := 5, ground := Ground.phase }, { on := 6, ground := Ground.phase }, { on := 7, ground := Ground.phase }, { on := 8, ground := Ground.phase }, { on := 9, ground := Ground.phase }, { on := 10, ground := Ground.phase }], guard := none }) rfl (fun K hK => ?k80) AllReadyH.nil
            case k80 =>
              have hb7 := F1.out
              have v0_ : V9.cell? ⟨w.heap.size + 1, 0, none⟩ = some (.string ⟨#[]⟩) := by simp [World.cell?, hb7]
              have v1_ : V9.cell? ⟨w.heap.size + 1, 1, none⟩ = some (.slice none 0 0) := by simp [World.cell?, hb7]
              have v2_ : V9.cell? ⟨w.heap.size + 1, 2, none⟩ = some (.slice none 0 0) := by simp [World.cell?, hb7]
              have u0_ : V9.frozen? ⟨w.heap.size + 1, 0, none⟩ = false := by simp [World.frozen?, hb7]
              have u1_ : V9.frozen? ⟨w.heap.size + 1, 1, none⟩ = false := by simp [World.frozen?, hb7]
              have u2_ : V9.frozen? ⟨w.heap.size + 1, 2, none⟩ = false := by simp [World.frozen?, hb7]
              go_simp
              generalize hV11 : World.setCell (World.setCell (World.setCell V9 ⟨w.heap.size + 1, 0, none⟩ _) ⟨w.heap.size + 1, 1, none⟩ _) ⟨w.heap.size + 1, 2, none⟩ _ = V11
              have G11 : V9.grownBy V11 (some (w.heap.size + 1)) := by rw [← hV11]; exact ((grown_set1 _ _ _ _).trans (grown_set1 _ _ _ _)).trans (grown_set1 _ _ _ _)
              have FF : V11.heap[w.heap.size + 1]? = some (.cells #[.string m.f0, .slice B0 m.f1.length d0, .slice B1 m.f2.length d1] 47 (0, 0)) := by rw [← hV11, blk_set1 (blk_set1 (blk_set1 (F1.out) 0 _) 1 _) 2 _]; simp
              have BB : Below w.heap.size w V11 := by rw [← hV11]; exact (bel_set (bel_set (bel_set hHeld.2.2.2 _ (by show w.heap.size ≤ w.heap.size + 1; omega)) _ (by show w.heap.size ≤ w.heap.size + 1; omega)) _ (by show w.heap.size ≤ w.heap.size + 1; omega))
              clear hV11
              refine hK.out _ _ ?h81 (fun hHeld => ?j81)
              case h81 => exact ⟨(World.cell?_of_block (G11.block _ (World.block_lt_of_cell? _ _ hHeld.1) (fun e => by have e := Option.some.inj e; (try dsimp only at e); omega))).trans hHeld.1, (World.cell?_of_block (G11.block _ (World.block_lt_of_cell? _ _ hHeld.2.1) (fun e => by have e := Option.some.inj e; (try dsimp only at e); omega))).trans hHeld.2.1, (World.cell?_of_block (G11.block _ (World.block_lt_of_cell? _ _ hHeld.2.2.1) (fun e => by have e := Option.some.inj e; (try dsimp only at e); omega))).trans hHeld.2.2.1, BB⟩
              clear hK K
              try simp only [Act.put, List.setIfInBounds_toArray, List.set_cons_zero, List.set_cons_succ]
              replace U0 := Aside0.mk (R_else U0.out rfl G11 (Kd.R_ne U0.out F1.out (by decide)))
              replace U1 := Aside0.mk (R_else U1.out rfl G11 (Kd.R_ne U1.out F1.out (by decide)))
              replace F1 := Aside0.mk FF
              clear FF
              refine wpAnyH_done (by kernel_rfl) ?_ _
              exact HKK.out B0 d0 B1 d1 g0 g1 V11 ⟨hHeld.2.2.2, F1.out, U0.out, U1.out⟩
  case hk =>
    intro B0 d0 B1 d1 g0 g1 V ⟨BV, f1, u0, u1⟩
    clear HST HK HF1 join
    have U0 := Aside0.mk u0
    have U1 := Aside0.mk u1
    have F1 := Aside0.mk f1
    have BW := Aside0.mk BV
    clear u0 u1 f1 BV
    have m0_ : V.cell? ⟨w.heap.size + 1, 0, none⟩ = some (.string m.f0) := by simp [World.cell?, F1.out]
    have m1_ : V.cell? ⟨w.heap.size + 1, 1, none⟩ = some (.slice B0 m.f1.length d0) := by simp [World.cell?, F1.out]
    have m2_ : V.cell? ⟨w.heap.size + 1, 2, none⟩ = some (.slice B1 m.f2.length d1) := by simp [World.cell?, F1.out]
    go_wp2
    refine bodyPost_ret (v := .agg #[.string m.f0, .slice B0 m.f1.length d0, .slice B1 m.f2.length d1]) ?hr rfl ?hp
    case hr => simp [results, Tryz.results65, go_sem, m0_, m1_, m2_]
    case hp => exact ⟨B0, d0, B1, d1, rfl, U0.out, U1.out, BW.out⟩

end Go.Proofs.YtejiifmopopflaaGreatDoor
