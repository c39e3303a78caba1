/- Copies of hosts' configurations: contracts. -/
import Derived.Test.YtoppgnmnbbhghaaDoorClone
import Derived.Test.YtoppgnmnbbhghaaDoorBlk
namespace Go.Proofs.YtoppgnmnbbhghaaDoor
open Go.RowKit Go.Proofs.YtoppgnmnbbhghaaDoorW.PrintWords
set_option linter.unusedVariables false
set_option linter.unusedSimpArgs false

set_option maxRecDepth 100000 in
set_option maxHeartbeats 4000000 in
theorem confCopied_any (c : SConf) (A0 : Option Addr) (c0 : Nat) (A1 : Option Addr) (c1 : Nat) (w : World) (hw : fitConf c) (hr0 : Kd.C Kd.string w A0 c.f1.length c.f1) (hr1 : Kd.C kWay w A1 c.f2.length c.f2) :
    Calls Tryd.prog 55 #[.agg #[.string c.f0, .slice A0 c.f1.length c0, .slice A1 c.f2.length c1]] w fun e w' => ∃ B0 d0 B1 d1, e = .returned (.agg #[.string c.f0, .slice B0 c.f1.length d0, .slice B1 c.f2.length d1]) ∧ Kd.R Kd.string 9 w' w.heap.size (fun _ => True) (.slice B0 c.f1.length d0) c.f1 ∧ Kd.R kWay 102 w' w.heap.size (fun _ => True) (.slice B1 c.f2.length d1) c.f2 ∧ Below w.heap.size w w' := by
  have hc0 := fun W (hW : Below w.heap.size w W) => cloneString_any A0 c0 c.f1 W (Kd.C_below hr0 hW) hw.2.1.1
  have hc1 := fun W (hW : Below w.heap.size w W) => cloneWay_any A1 c1 c.f2 W (Kd.C_below hr1 hW) hw.2.2.1
  clear hw hr0 hr1
  go_enter Tryd.func55, Tryd.ntmps55
  go_wp2
  obtain ⟨W0, hW0⟩ : ∃ W, W = (w.alloc (.cells #[.string c.f0, .slice A0 c.f1.length c0, .slice A1 c.f2.length c1] 26)).alloc (.cells #[.string ⟨#[]⟩, .slice none 0 0, .slice none 0 0] 26) := ⟨_, rfl⟩
  rw [← hW0]
  have HF0 : Aside0 (W0.heap[w.heap.size]? = some (.cells #[.string c.f0, .slice A0 c.f1.length c0, .slice A1 c.f2.length c1] 26 (0, 0))) := ⟨by rw [hW0]; exact below_blk (blk_new _ _) (bel_alloc (Below.refl _ _) _)⟩
  have HF1 : Aside0 (W0.heap[w.heap.size + 1]? = some (.cells #[.string ⟨#[]⟩, .slice none 0 0, .slice none 0 0] 26 (0, 0))) := ⟨by rw [hW0, show w.heap.size + 1 = (w.alloc (.cells #[.string c.f0, .slice A0 c.f1.length c0, .slice A1 c.f2.length c1] 26)).heap.size by simp]; exact blk_new _ _⟩
  have B0 : Below w.heap.size w W0 := by rw [hW0]; exact bel_alloc (bel_alloc (Below.refl _ _) _) _
  clear hW0
  have join : Hid (∀ {goal : Prop} {G : Option Addr → Nat → Option Addr → Nat → World → Prop} (rg : Hid (∀ (B0 : Option Addr) (d0 : Nat) (B1 : Option Addr) (d1 : Nat) (V : World), Below w.heap.size w V ∧ w.heap.size + 1 < V.heap.size ∧ V.heap[w.heap.size]? = some (.cells #[.string c.f0, .slice B0 c.f1.length d0, .slice B1 c.f2.length d1] 26 (0, 0)) ∧ V.heap[w.heap.size + 1]? = some (.cells #[.string ⟨#[]⟩, .slice none 0 0, .slice none 0 0] 26 (0, 0)) ∧ Kd.R Kd.string 9 V w.heap.size (fun _ => True) (.slice B0 c.f1.length d0) c.f1 ∧ Kd.R kWay 102 V w.heap.size (fun _ => True) (.slice B1 c.f2.length d1) c.f2 → G B0 d0 B1 d1 V) → goal) (hk : ∀ (B0 : Option Addr) (d0 : Nat) (B1 : Option Addr) (d1 : Nat) (V : World), Below w.heap.size w V ∧ w.heap.size + 1 < V.heap.size ∧ V.heap[w.heap.size]? = some (.cells #[.string c.f0, .slice B0 c.f1.length d0, .slice B1 c.f2.length d1] 26 (0, 0)) ∧ V.heap[w.heap.size + 1]? = some (.cells #[.string ⟨#[]⟩, .slice none 0 0, .slice none 0 0] 26 (0, 0)) ∧ Kd.R Kd.string 9 V w.heap.size (fun _ => True) (.slice B0 c.f1.length d0) c.f1 ∧ Kd.R kWay 102 V w.heap.size (fun _ => True) (.slice B1 c.f2.length d1) c.f2 → G B0 d0 B1 d1 V), goal) := Lib.hid (fun f h => f (Lib.hid h))
  have HST : Aside0 (Below w.heap.size w W0.drew) := ⟨bel_then B0 (drew_below0 W0)⟩
  clear B0
  apply join.out
  case rg =>
    intro HKK
    refine wp_region_held_drew (S := (fun W => Below w.heap.size w W)) (by kernel_rfl) ?s493 (fun hHeld => ?t493)
    case s493 => exact HST.out
    generalize hV0 : World.drew _ = V0 at hHeld ⊢
    have F0 : Aside0 (V0.heap[w.heap.size]? = some (.cells #[.string c.f0, .slice A0 c.f1.length c0, .slice A1 c.f2.length c1] 26 (0, 0))) := ⟨by rw [← hV0]; exact HF0.out⟩
    have F1 : Aside0 (V0.heap[w.heap.size + 1]? = some (.cells #[.string ⟨#[]⟩, .slice none 0 0, .slice none 0 0] 26 (0, 0))) := ⟨by rw [← hV0]; exact HF1.out⟩
    clear hV0
    refine wpAnyH_take (i := 0) (oi := { dst := some 3, op := Op.fieldAddr 26 (Operand.tmp 1) 1, type := 0, pos := "l3_serve.go:72", after := #[], guard := none }) (v := ?v494) rfl (by kernel_rfl) (by kernel_rfl) (by kernel_rfl) (fun _ _ _ h => h) (Or.inl ⟨by rfl, ?y494⟩) (by assumption) ?r494
    case y494 => intro w_ hSw; (try dsimp only at hSw); go_simp; (try (with_reducible rfl))
    try simp only [Act.put, List.setIfInBounds_toArray, List.set_cons_zero, List.set_cons_succ]
    refine wpAnyH_take (i := 3) (oi := { dst := some 6, op := Op.fieldAddr 26 (Operand.tmp 1) 2, type := 0, pos := "l3_serve.go:72", after := #[], guard := none }) (v := ?v495) rfl (by kernel_rfl) (by kernel_rfl) (by kernel_rfl) (fun _ _ _ h => h) (Or.inl ⟨by rfl, ?y495⟩) (by assumption) ?r495
    case y495 => intro w_ hSw; (try dsimp only at hSw); go_simp; (try (with_reducible rfl))
    try simp only [Act.put, List.setIfInBounds_toArray, List.set_cons_zero, List.set_cons_succ]
    refine wpAnyH_ready (rs := [1, 4]) (by kernel_rfl) (by simp) ?_
    refine AllReadyH.cons (o := { dst := some 4, op := Op.load 23 (Operand.tmp 3), type := 23, pos := "l3_serve.go:72", after := #[{ on := 0, ground := Ground.data }], guard := none }) rfl (fun K hK => ?k496) (AllReadyH.cons (o := { dst := some 7, op := Op.load 24 (Operand.tmp 6), type := 24, pos := "l3_serve.go:72", after := #[{ on := 3, ground := Ground.data }], guard := none }) rfl (fun K hK => ?k497) AllReadyH.nil)
    case k496 =>
      have y11_ : V0.cell? ⟨w.heap.size, 1, none⟩ = some (.slice A0 c.f1.length c0) := by simp [World.cell?, F0.out]
      go_simp
      refine hK.out _ _ ?h498 (fun hHeld => ?j498)
      case h498 => exact hHeld
      clear hK K
      try simp only [Act.put, List.setIfInBounds_toArray, List.set_cons_zero, List.set_cons_succ]
      refine wpAnyH_ready (rs := [2, 4]) (by kernel_rfl) (by simp) ?_
      refine AllReadyH.cons (o := { dst := some 5, op := Op.call { callee := Callee.value (Operand.func 122), args := #[Operand.tmp 4], argTypes := #[23] }, type := 23, pos := "l3_serve.go:72", after := #[{ on := 1, ground := Ground.data }], guard := none }) rfl (fun K hK => ?k499) (AllReadyH.cons (o := { dst := some 7, op := Op.load 24 (Operand.tmp 6), type := 24, pos := "l3_serve.go:72", after := #[{ on := 3, ground := Ground.data }], guard := none }) rfl (fun K hK => ?k500) AllReadyH.nil)
      case k499 =>
        have hsl2 : w.heap.size ≤ V0.heap.size := (hHeld).size
        go_simp
        refine (hc0 _ hHeld).mono ?_
        rintro e V2 ⟨B0, d0, rfl, ga0, b2⟩
        refine hK.out _ _ ?h501 (fun hHeld => ?j501)
        case h501 => exact bel_then hHeld b2
        clear hK K
        try simp only [Act.put, List.setIfInBounds_toArray, List.set_cons_zero, List.set_cons_succ]
        have U0 := Aside0.mk (Kd.R_lower (base' := w.heap.size) ga0 hsl2)
        clear ga0 hsl2
        replace F0 := Aside0.mk (below_blk F0.out b2)
        replace F1 := Aside0.mk (below_blk F1.out b2)
        refine wpAnyH_ready (rs := [4]) (by kernel_rfl) (by simp) ?_
        refine AllReadyH.cons (o := { dst := some 7, op := Op.load 24 (Operand.tmp 6), type := 24, pos := "l3_serve.go:72", after := #[{ on := 3, ground := Ground.data }], guard := none }) rfl (fun K hK => ?k502) AllReadyH.nil
        case k502 =>
          have y42_ : V2.cell? ⟨w.heap.size, 2, none⟩ = some (.slice A1 c.f2.length c1) := by simp [World.cell?, F0.out]
          go_simp
          refine hK.out _ _ ?h503 (fun hHeld => ?j503)
          case h503 => exact hHeld
          clear hK K
          try simp only [Act.put, List.setIfInBounds_toArray, List.set_cons_zero, List.set_cons_succ]
          refine wpAnyH_take (i := 6) (oi := { dst := some 9, op := Op.fieldAddr 26 (Operand.tmp 1) 1, type := 0, pos := "l3_serve.go:72", after := #[{ on := 0, ground := Ground.phase }, { on := 1, ground := Ground.phase }, { on := 2, ground := Ground.phase }, { on := 3, ground := Ground.phase }, { on := 4, ground := Ground.phase }, { on := 5, ground := Ground.textOnly Departure.lateStoresUnsure }], guard := none }) (v := ?v504) rfl (by kernel_rfl) (by kernel_rfl) (by kernel_rfl) (fun _ _ _ h => h) (Or.inl ⟨by rfl, ?y504⟩) (by assumption) ?r504
          case y504 => intro w_ hSw; (try dsimp only at hSw); go_simp; (try (with_reducible rfl))
          try simp only [Act.put, List.setIfInBounds_toArray, List.set_cons_zero, List.set_cons_succ]
          refine wpAnyH_ready (rs := [5]) (by kernel_rfl) (by simp) ?_
          refine AllReadyH.cons (o := { dst := some 8, op := Op.call { callee := Callee.value (Operand.func 123), args := #[Operand.tmp 7], argTypes := #[24] }, type := 24, pos := "l3_serve.go:72", after := #[{ on := 4, ground := Ground.data }, { on := 2, ground := Ground.chain }], guard := none }) rfl (fun K hK => ?k505) AllReadyH.nil
          case k505 =>
            have hsl5 : w.heap.size ≤ V2.heap.size := (hHeld).size
            go_simp
            refine (hc1 _ hHeld).mono ?_
            rintro e V5 ⟨B1, d1, rfl, ga0, b5⟩
            refine hK.out _ _ ?h506 (fun hHeld => ?j506)
            case h506 => exact bel_then hHeld b5
            clear hK K
            try simp only [Act.put, List.setIfInBounds_toArray, List.set_cons_zero, List.set_cons_succ]
            have U1 := Aside0.mk (Kd.R_lower (base' := w.heap.size) ga0 hsl5)
            clear ga0 hsl5
            replace F0 := Aside0.mk (below_blk F0.out b5)
            replace F1 := Aside0.mk (below_blk F1.out b5)
            replace U0 := Aside0.mk (Kd.R_below U0.out b5)
            refine wpAnyH_ready (rs := [7]) (by kernel_rfl) (by simp) ?_
            refine AllReadyH.cons (o := { dst := none, op := Op.store 23 (Operand.tmp 9) (Operand.tmp 5), type := 0, pos := "l3_serve.go:72", after := #[{ on := 6, ground := Ground.data }, { on := 2, ground := Ground.data }, { on := 5, ground := Ground.chain }, { on := 0, ground := Ground.phase }, { on := 1, ground := Ground.phase }, { on := 2, ground := Ground.phase }, { on := 3, ground := Ground.phase }, { on := 4, ground := Ground.phase }, { on := 5, ground := Ground.textOnly Departure.lateStoresUnsure }], guard := none }) rfl (fun K hK => ?k507) AllReadyH.nil
            case k507 =>
              have hb7 := F0.out
              have v1_ : V5.cell? ⟨w.heap.size, 1, none⟩ = some (.slice A0 c.f1.length c0) := by simp [World.cell?, hb7]
              have u1_ : V5.frozen? ⟨w.heap.size, 1, none⟩ = false := by simp [World.frozen?, hb7]
              go_simp
              generalize hV7 : World.setCell V5 ⟨w.heap.size, 1, none⟩ _ = V7
              have G7 : V5.grownBy V7 (some (w.heap.size)) := by rw [← hV7]; exact grown_set1 _ _ _ _
              have FF : V7.heap[w.heap.size]? = some (.cells #[.string c.f0, .slice B0 c.f1.length d0, .slice A1 c.f2.length c1] 26 (0, 0)) := by rw [← hV7, blk_set1 (F0.out) 1 _]; simp
              have BB : Below w.heap.size w V7 := by rw [← hV7]; exact (bel_set hHeld _ (Nat.le_refl _))
              clear hV7
              refine hK.out _ _ ?h508 (fun hHeld => ?j508)
              case h508 => exact BB
              clear hK K
              try simp only [Act.put, List.setIfInBounds_toArray, List.set_cons_zero, List.set_cons_succ]
              replace U0 := Aside0.mk (R_else U0.out rfl G7 (Kd.R_ne U0.out F0.out (by decide)))
              replace U1 := Aside0.mk (R_else U1.out rfl G7 (Kd.R_ne U1.out F0.out (by decide)))
              replace F0 := Aside0.mk FF
              clear FF
              replace F1 := Aside0.mk ((G7.block _ (blk_lt F1.out) (fun e => by have e := Option.some.inj e; omega)).trans F1.out)
              refine wpAnyH_take (i := 8) (oi := { dst := some 10, op := Op.fieldAddr 26 (Operand.tmp 1) 2, type := 0, pos := "l3_serve.go:72", after := #[{ on := 0, ground := Ground.phase }, { on := 1, ground := Ground.phase }, { on := 2, ground := Ground.phase }, { on := 3, ground := Ground.phase }, { on := 4, ground := Ground.phase }, { on := 5, ground := Ground.phase }, { on := 6, ground := Ground.phase }, { on := 7, ground := Ground.phase }], guard := none }) (v := ?v509) rfl (by kernel_rfl) (by kernel_rfl) (by kernel_rfl) (fun _ _ _ h => h) (Or.inl ⟨by rfl, ?y509⟩) (by assumption) ?r509
              case y509 => intro w_ hSw; (try dsimp only at hSw); go_simp; (try (with_reducible rfl))
              try simp only [Act.put, List.setIfInBounds_toArray, List.set_cons_zero, List.set_cons_succ]
              refine wpAnyH_ready (rs := [9]) (by kernel_rfl) (by simp) ?_
              refine AllReadyH.cons (o := { dst := none, op := Op.store 24 (Operand.tmp 10) (Operand.tmp 8), type := 0, pos := "l3_serve.go:72", after := #[{ on := 8, ground := Ground.data }, { on := 5, ground := Ground.data }, { on := 7, ground := Ground.chain }, { on := 0, ground := Ground.phase }, { on := 1, ground := Ground.phase }, { on := 2, ground := Ground.phase }, { on := 3, ground := Ground.phase }, { on := 4, ground := Ground.phase }, { on := 5, ground := Ground.phase }, { on := 6, ground := Ground.phase }, { on := 7, ground := Ground.phase }], guard := none }) rfl (fun K hK => ?k510) AllReadyH.nil
              case k510 =>
                have hb7 := F0.out
                have v2_ : V7.cell? ⟨w.heap.size, 2, none⟩ = some (.slice A1 c.f2.length c1) := by simp [World.cell?, hb7]
                have u2_ : V7.frozen? ⟨w.heap.size, 2, none⟩ = false := by simp [World.frozen?, hb7]
                go_simp
                generalize hV9 : World.setCell V7 ⟨w.heap.size, 2, none⟩ _ = V9
                have G9 : V7.grownBy V9 (some (w.heap.size)) := by rw [← hV9]; exact grown_set1 _ _ _ _
                have FF : V9.heap[w.heap.size]? = some (.cells #[.string c.f0, .slice B0 c.f1.length d0, .slice B1 c.f2.length d1] 26 (0, 0)) := by rw [← hV9, blk_set1 (F0.out) 2 _]; simp
                have BB : Below w.heap.size w V9 := by rw [← hV9]; exact (bel_set hHeld _ (Nat.le_refl _))
                clear hV9
                refine hK.out _ _ ?h511 (fun hHeld => ?j511)
                case h511 => exact BB
                clear hK K
                try simp only [Act.put, List.setIfInBounds_toArray, List.set_cons_zero, List.set_cons_succ]
                replace U0 := Aside0.mk (R_else U0.out rfl G9 (Kd.R_ne U0.out F0.out (by decide)))
                replace U1 := Aside0.mk (R_else U1.out rfl G9 (Kd.R_ne U1.out F0.out (by decide)))
                replace F0 := Aside0.mk FF
                clear FF
                replace F1 := Aside0.mk ((G9.block _ (blk_lt F1.out) (fun e => by have e := Option.some.inj e; omega)).trans F1.out)
                refine wpAnyH_done (by kernel_rfl) ?_ _
                exact HKK.out B0 d0 B1 d1 V9 ⟨hHeld, blk_lt F1.out, F0.out, F1.out, U0.out, U1.out⟩
      case k500 =>
        have y42_ : V0.cell? ⟨w.heap.size, 2, none⟩ = some (.slice A1 c.f2.length c1) := by simp [World.cell?, F0.out]
        go_simp
        refine hK.out _ _ ?h512 (fun hHeld => ?j512)
        case h512 => exact hHeld
        clear hK K
        try simp only [Act.put, List.setIfInBounds_toArray, List.set_cons_zero, List.set_cons_succ]
        refine wpAnyH_ready (rs := [2]) (by kernel_rfl) (by simp) ?_
        refine AllReadyH.cons (o := { dst := some 5, op := Op.call { callee := Callee.value (Operand.func 122), args := #[Operand.tmp 4], argTypes := #[23] }, type := 23, pos := "l3_serve.go:72", after := #[{ on := 1, ground := Ground.data }], guard := none }) rfl (fun K hK => ?k513) AllReadyH.nil
        case k513 =>
          have hsl2 : w.heap.size ≤ V0.heap.size := (hHeld).size
          go_simp
          refine (hc0 _ hHeld).mono ?_
          rintro e V2 ⟨B0, d0, rfl, ga0, b2⟩
          refine hK.out _ _ ?h514 (fun hHeld => ?j514)
          case h514 => exact bel_then hHeld b2
          clear hK K
          try simp only [Act.put, List.setIfInBounds_toArray, List.set_cons_zero, List.set_cons_succ]
          have U0 := Aside0.mk (Kd.R_lower (base' := w.heap.size) ga0 hsl2)
          clear ga0 hsl2
          replace F0 := Aside0.mk (below_blk F0.out b2)
          replace F1 := Aside0.mk (below_blk F1.out b2)
          refine wpAnyH_take (i := 6) (oi := { dst := some 9, op := Op.fieldAddr 26 (Operand.tmp 1) 1, type := 0, pos := "l3_serve.go:72", after := #[{ on := 0, ground := Ground.phase }, { on := 1, ground := Ground.phase }, { on := 2, ground := Ground.phase }, { on := 3, ground := Ground.phase }, { on := 4, ground := Ground.phase }, { on := 5, ground := Ground.textOnly Departure.lateStoresUnsure }], guard := none }) (v := ?v515) rfl (by kernel_rfl) (by kernel_rfl) (by kernel_rfl) (fun _ _ _ h => h) (Or.inl ⟨by rfl, ?y515⟩) (by assumption) ?r515
          case y515 => intro w_ hSw; (try dsimp only at hSw); go_simp; (try (with_reducible rfl))
          try simp only [Act.put, List.setIfInBounds_toArray, List.set_cons_zero, List.set_cons_succ]
          refine wpAnyH_ready (rs := [5]) (by kernel_rfl) (by simp) ?_
          refine AllReadyH.cons (o := { dst := some 8, op := Op.call { callee := Callee.value (Operand.func 123), args := #[Operand.tmp 7], argTypes := #[24] }, type := 24, pos := "l3_serve.go:72", after := #[{ on := 4, ground := Ground.data }, { on := 2, ground := Ground.chain }], guard := none }) rfl (fun K hK => ?k516) AllReadyH.nil
          case k516 =>
            have hsl5 : w.heap.size ≤ V2.heap.size := (hHeld).size
            go_simp
            refine (hc1 _ hHeld).mono ?_
            rintro e V5 ⟨B1, d1, rfl, ga0, b5⟩
            refine hK.out _ _ ?h517 (fun hHeld => ?j517)
            case h517 => exact bel_then hHeld b5
            clear hK K
            try simp only [Act.put, List.setIfInBounds_toArray, List.set_cons_zero, List.set_cons_succ]
            have U1 := Aside0.mk (Kd.R_lower (base' := w.heap.size) ga0 hsl5)
            clear ga0 hsl5
            replace F0 := Aside0.mk (below_blk F0.out b5)
            replace F1 := Aside0.mk (below_blk F1.out b5)
            replace U0 := Aside0.mk (Kd.R_below U0.out b5)
            refine wpAnyH_ready (rs := [7]) (by kernel_rfl) (by simp) ?_
            refine AllReadyH.cons (o := { dst := none, op := Op.store 23 (Operand.tmp 9) (Operand.tmp 5), type := 0, pos := "l3_serve.go:72", after := #[{ on := 6, ground := Ground.data }, { on := 2, ground := Ground.data }, { on := 5, ground := Ground.chain }, { on := 0, ground := Ground.phase }, { on := 1, ground := Ground.phase }, { on := 2, ground := Ground.phase }, { on := 3, ground := Ground.phase }, { on := 4, ground := Ground.phase }, { on := 5, ground := Ground.textOnly Departure.lateStoresUnsure }], guard := none }) rfl (fun K hK => ?k518) AllReadyH.nil
            case k518 =>
              have hb7 := F0.out
              have v1_ : V5.cell? ⟨w.heap.size, 1, none⟩ = some (.slice A0 c.f1.length c0) := by simp [World.cell?, hb7]
              have u1_ : V5.frozen? ⟨w.heap.size, 1, none⟩ = false := by simp [World.frozen?, hb7]
              go_simp
              generalize hV7 : World.setCell V5 ⟨w.heap.size, 1, none⟩ _ = V7
              have G7 : V5.grownBy V7 (some (w.heap.size)) := by rw [← hV7]; exact grown_set1 _ _ _ _
              have FF : V7.heap[w.heap.size]? = some (.cells #[.string c.f0, .slice B0 c.f1.length d0, .slice A1 c.f2.length c1] 26 (0, 0)) := by rw [← hV7, blk_set1 (F0.out) 1 _]; simp
              have BB : Below w.heap.size w V7 := by rw [← hV7]; exact (bel_set hHeld _ (Nat.le_refl _))
              clear hV7
              refine hK.out _ _ ?h519 (fun hHeld => ?j519)
              case h519 => exact BB
              clear hK K
              try simp only [Act.put, List.setIfInBounds_toArray, List.set_cons_zero, List.set_cons_succ]
              replace U0 := Aside0.mk (R_else U0.out rfl G7 (Kd.R_ne U0.out F0.out (by decide)))
              replace U1 := Aside0.mk (R_else U1.out rfl G7 (Kd.R_ne U1.out F0.out (by decide)))
              replace F0 := Aside0.mk FF
              clear FF
              replace F1 := Aside0.mk ((G7.block _ (blk_lt F1.out) (fun e => by have e := Option.some.inj e; omega)).trans F1.out)
              refine wpAnyH_take (i := 8) (oi := { dst := some 10, op := Op.fieldAddr 26 (Operand.tmp 1) 2, type := 0, pos := "l3_serve.go:72", after := #[{ on := 0, ground := Ground.phase }, { on := 1, ground := Ground.phase }, { on := 2, ground := Ground.phase }, { on := 3, ground := Ground.phase }, { on := 4, ground := Ground.phase }, { on := 5, ground := Ground.phase }, { on := 6, ground := Ground.phase }, { on := 7, ground := Ground.phase }], guard := none }) (v := ?v520) rfl (by kernel_rfl) (by kernel_rfl) (by kernel_rfl) (fun _ _ _ h => h) (Or.inl ⟨by rfl, ?y520⟩) (by assumption) ?r520
              case y520 => intro w_ hSw; (try dsimp only at hSw); go_simp; (try (with_reducible rfl))
              try simp only [Act.put, List.setIfInBounds_toArray, List.set_cons_zero, List.set_cons_succ]
              refine wpAnyH_ready (rs := [9]) (by kernel_rfl) (by simp) ?_
              refine AllReadyH.cons (o := { dst := none, op := Op.store 24 (Operand.tmp 10) (Operand.tmp 8), type := 0, pos := "l3_serve.go:72", after := #[{ on := 8, ground := Ground.data }, { on := 5, ground := Ground.data }, { on := 7, ground := Ground.chain }, { on := 0, ground := Ground.phase }, { on := 1, ground := Ground.phase }, { on := 2, ground := Ground.phase }, { on := 3, ground := Ground.phase }, { on := 4, ground := Ground.phase }, { on := 5, ground := Ground.phase }, { on := 6, ground := Ground.phase }, { on := 7, ground := Ground.phase }], guard := none }) rfl (fun K hK => ?k521) AllReadyH.nil
              case k521 =>
                have hb7 := F0.out
                have v2_ : V7.cell? ⟨w.heap.size, 2, none⟩ = some (.slice A1 c.f2.length c1) := by simp [World.cell?, hb7]
                have u2_ : V7.frozen? ⟨w.heap.size, 2, none⟩ = false := by simp [World.frozen?, hb7]
                go_simp
                generalize hV9 : World.setCell V7 ⟨w.heap.size, 2, none⟩ _ = V9
                have G9 : V7.grownBy V9 (some (w.heap.size)) := by rw [← hV9]; exact grown_set1 _ _ _ _
                have FF : V9.heap[w.heap.size]? = some (.cells #[.string c.f0, .slice B0 c.f1.length d0, .slice B1 c.f2.length d1] 26 (0, 0)) := by rw [← hV9, blk_set1 (F0.out) 2 _]; simp
                have BB : Below w.heap.size w V9 := by rw [← hV9]; exact (bel_set hHeld _ (Nat.le_refl _))
                clear hV9
                refine hK.out _ _ ?h522 (fun hHeld => ?j522)
                case h522 => exact BB
                clear hK K
                try simp only [Act.put, List.setIfInBounds_toArray, List.set_cons_zero, List.set_cons_succ]
                replace U0 := Aside0.mk (R_else U0.out rfl G9 (Kd.R_ne U0.out F0.out (by decide)))
                replace U1 := Aside0.mk (R_else U1.out rfl G9 (Kd.R_ne U1.out F0.out (by decide)))
                replace F0 := Aside0.mk FF
                clear FF
                replace F1 := Aside0.mk ((G9.block _ (blk_lt F1.out) (fun e => by have e := Option.some.inj e; omega)).trans F1.out)
                refine wpAnyH_done (by kernel_rfl) ?_ _
                exact HKK.out B0 d0 B1 d1 V9 ⟨hHeld, blk_lt F1.out, F0.out, F1.out, U0.out, U1.out⟩
    case k497 =>
      have y42_ : V0.cell? ⟨w.heap.size, 2, none⟩ = some (.slice A1 c.f2.length c1) := by simp [World.cell?, F0.out]
      go_simp
      refine hK.out _ _ ?h523 (fun hHeld => ?j523)
      case h523 => exact hHeld
      clear hK K
      try simp only [Act.put, List.setIfInBounds_toArray, List.set_cons_zero, List.set_cons_succ]
      refine wpAnyH_ready (rs := [1]) (by kernel_rfl) (by simp) ?_
      refine AllReadyH.cons (o := { dst := some 4, op := Op.load 23 (Operand.tmp 3), type := 23, pos := "l3_serve.go:72", after := #[{ on := 0, ground := Ground.data }], guard := none }) rfl (fun K hK => ?k524) AllReadyH.nil
      case k524 =>
        have y11_ : V0.cell? ⟨w.heap.size, 1, none⟩ = some (.slice A0 c.f1.length c0) := by simp [World.cell?, F0.out]
        go_simp
        refine hK.out _ _ ?h525 (fun hHeld => ?j525)
        case h525 => exact hHeld
        clear hK K
        try simp only [Act.put, List.setIfInBounds_toArray, List.set_cons_zero, List.set_cons_succ]
        refine wpAnyH_ready (rs := [2]) (by kernel_rfl) (by simp) ?_
        refine AllReadyH.cons (o := { dst := some 5, op := Op.call { callee := Callee.value (Operand.func 122), args := #[Operand.tmp 4], argTypes := #[23] }, type := 23, pos := "l3_serve.go:72", after := #[{ on := 1, ground := Ground.data }], guard := none }) rfl (fun K hK => ?k526) AllReadyH.nil
        case k526 =>
          have hsl2 : w.heap.size ≤ V0.heap.size := (hHeld).size
          go_simp
          refine (hc0 _ hHeld).mono ?_
          rintro e V2 ⟨B0, d0, rfl, ga0, b2⟩
          refine hK.out _ _ ?h527 (fun hHeld => ?j527)
          case h527 => exact bel_then hHeld b2
          clear hK K
          try simp only [Act.put, List.setIfInBounds_toArray, List.set_cons_zero, List.set_cons_succ]
          have U0 := Aside0.mk (Kd.R_lower (base' := w.heap.size) ga0 hsl2)
          clear ga0 hsl2
          replace F0 := Aside0.mk (below_blk F0.out b2)
          replace F1 := Aside0.mk (below_blk F1.out b2)
          refine wpAnyH_take (i := 6) (oi := { dst := some 9, op := Op.fieldAddr 26 (Operand.tmp 1) 1, type := 0, pos := "l3_serve.go:72", after := #[{ on := 0, ground := Ground.phase }, { on := 1, ground := Ground.phase }, { on := 2, ground := Ground.phase }, { on := 3, ground := Ground.phase }, { on := 4, ground := Ground.phase }, { on := 5, ground := Ground.textOnly Departure.lateStoresUnsure }], guard := none }) (v := ?v528) rfl (by kernel_rfl) (by kernel_rfl) (by kernel_rfl) (fun _ _ _ h => h) (Or.inl ⟨by rfl, ?y528⟩) (by assumption) ?r528
          case y528 => intro w_ hSw; (try dsimp only at hSw); go_simp; (try (with_reducible rfl))
          try simp only [Act.put, List.setIfInBounds_toArray, List.set_cons_zero, List.set_cons_succ]
          refine wpAnyH_ready (rs := [5]) (by kernel_rfl) (by simp) ?_
          refine AllReadyH.cons (o := { dst := some 8, op := Op.call { callee := Callee.value (Operand.func 123), args := #[Operand.tmp 7], argTypes := #[24] }, type := 24, pos := "l3_serve.go:72", after := #[{ on := 4, ground := Ground.data }, { on := 2, ground := Ground.chain }], guard := none }) rfl (fun K hK => ?k529) AllReadyH.nil
          case k529 =>
            have hsl5 : w.heap.size ≤ V2.heap.size := (hHeld).size
            go_simp
            refine (hc1 _ hHeld).mono ?_
            rintro e V5 ⟨B1, d1, rfl, ga0, b5⟩
            refine hK.out _ _ ?h530 (fun hHeld => ?j530)
            case h530 => exact bel_then hHeld b5
            clear hK K
            try simp only [Act.put, List.setIfInBounds_toArray, List.set_cons_zero, List.set_cons_succ]
            have U1 := Aside0.mk (Kd.R_lower (base' := w.heap.size) ga0 hsl5)
            clear ga0 hsl5
            replace F0 := Aside0.mk (below_blk F0.out b5)
            replace F1 := Aside0.mk (below_blk F1.out b5)
            replace U0 := Aside0.mk (Kd.R_below U0.out b5)
            refine wpAnyH_ready (rs := [7]) (by kernel_rfl) (by simp) ?_
            refine AllReadyH.cons (o := { dst := none, op := Op.store 23 (Operand.tmp 9) (Operand.tmp 5), type := 0, pos := "l3_serve.go:72", after := #[{ on := 6, ground := Ground.data }, { on := 2, ground := Ground.data }, { on := 5, ground := Ground.chain }, { on := 0, ground := Ground.phase }, { on := 1, ground := Ground.phase }, { on := 2, ground := Ground.phase }, { on := 3, ground := Ground.phase }, { on := 4, ground := Ground.phase }, { on := 5, ground := Ground.textOnly Departure.lateStoresUnsure }], guard := none }) rfl (fun K hK => ?k531) AllReadyH.nil
            case k531 =>
              have hb7 := F0.out
              have v1_ : V5.cell? ⟨w.heap.size, 1, none⟩ = some (.slice A0 c.f1.length c0) := by simp [World.cell?, hb7]
              have u1_ : V5.frozen? ⟨w.heap.size, 1, none⟩ = false := by simp [World.frozen?, hb7]
              go_simp
              generalize hV7 : World.setCell V5 ⟨w.heap.size, 1, none⟩ _ = V7
              have G7 : V5.grownBy V7 (some (w.heap.size)) := by rw [← hV7]; exact grown_set1 _ _ _ _
              have FF : V7.heap[w.heap.size]? = some (.cells #[.string c.f0, .slice B0 c.f1.length d0, .slice A1 c.f2.length c1] 26 (0, 0)) := by rw [← hV7, blk_set1 (F0.out) 1 _]; simp
              have BB : Below w.heap.size w V7 := by rw [← hV7]; exact (bel_set hHeld _ (Nat.le_refl _))
              clear hV7
              refine hK.out _ _ ?h532 (fun hHeld => ?j532)
              case h532 => exact BB
              clear hK K
              try simp only [Act.put, List.setIfInBounds_toArray, List.set_cons_zero, List.set_cons_succ]
              replace U0 := Aside0.mk (R_else U0.out rfl G7 (Kd.R_ne U0.out F0.out (by decide)))
              replace U1 := Aside0.mk (R_else U1.out rfl G7 (Kd.R_ne U1.out F0.out (by decide)))
              replace F0 := Aside0.mk FF
              clear FF
              replace F1 := Aside0.mk ((G7.block _ (blk_lt F1.out) (fun e => by have e := Option.some.inj e; omega)).trans F1.out)
              refine wpAnyH_take (i := 8) (oi := { dst := some 10, op := Op.fieldAddr 26 (Operand.tmp 1) 2, type := 0, pos := "l3_serve.go:72", after := #[{ on := 0, ground := Ground.phase }, { on := 1, ground := Ground.phase }, { on := 2, ground := Ground.phase }, { on := 3, ground := Ground.phase }, { on := 4, ground := Ground.phase }, { on := 5, ground := Ground.phase }, { on := 6, ground := Ground.phase }, { on := 7, ground := Ground.phase }], guard := none }) (v := ?v533) rfl (by kernel_rfl) (by kernel_rfl) (by kernel_rfl) (fun _ _ _ h => h) (Or.inl ⟨by rfl, ?y533⟩) (by assumption) ?r533
              case y533 => intro w_ hSw; (try dsimp only at hSw); go_simp; (try (with_reducible rfl))
              try simp only [Act.put, List.setIfInBounds_toArray, List.set_cons_zero, List.set_cons_succ]
              refine wpAnyH_ready (rs := [9]) (by kernel_rfl) (by simp) ?_
              refine AllReadyH.cons (o := { dst := none, op := Op.store 24 (Operand.tmp 10) (Operand.tmp 8), type := 0, pos := "l3_serve.go:72", after := #[{ on := 8, ground := Ground.data }, { on := 5, ground := Ground.data }, { on := 7, ground := Ground.chain }, { on := 0, ground := Ground.phase }, { on := 1, ground := Ground.phase }, { on := 2, ground := Ground.phase }, { on := 3, ground := Ground.phase }, { on := 4, ground := Ground.phase }, { on := 5, ground := Ground.phase }, { on := 6, ground := Ground.phase }, { on := 7, ground := Ground.phase }], guard := none }) rfl (fun K hK => ?k534) AllReadyH.nil
              case k534 =>
                have hb7 := F0.out
                have v2_ : V7.cell? ⟨w.heap.size, 2, none⟩ = some (.slice A1 c.f2.length c1) := by simp [World.cell?, hb7]
                have u2_ : V7.frozen? ⟨w.heap.size, 2, none⟩ = false := by simp [World.frozen?, hb7]
                go_simp
                generalize hV9 : World.setCell V7 ⟨w.heap.size, 2, none⟩ _ = V9
                have G9 : V7.grownBy V9 (some (w.heap.size)) := by rw [← hV9]; exact grown_set1 _ _ _ _
                have FF : V9.heap[w.heap.size]? = some (.cells #[.string c.f0, .slice B0 c.f1.length d0, .slice B1 c.f2.length d1] 26 (0, 0)) := by rw [← hV9, blk_set1 (F0.out) 2 _]; simp
                have BB : Below w.heap.size w V9 := by rw [← hV9]; exact (bel_set hHeld _ (Nat.le_refl _))
                clear hV9
                refine hK.out _ _ ?h535 (fun hHeld => ?j535)
                case h535 => exact BB
                clear hK K
                try simp only [Act.put, List.setIfInBounds_toArray, List.set_cons_zero, List.set_cons_succ]
                replace U0 := Aside0.mk (R_else U0.out rfl G9 (Kd.R_ne U0.out F0.out (by decide)))
                replace U1 := Aside0.mk (R_else U1.out rfl G9 (Kd.R_ne U1.out F0.out (by decide)))
                replace F0 := Aside0.mk FF
                clear FF
                replace F1 := Aside0.mk ((G9.block _ (blk_lt F1.out) (fun e => by have e := Option.some.inj e; omega)).trans F1.out)
                refine wpAnyH_done (by kernel_rfl) ?_ _
                exact HKK.out B0 d0 B1 d1 V9 ⟨hHeld, blk_lt F1.out, F0.out, F1.out, U0.out, U1.out⟩
  case hk =>
    intro B0 d0 B1 d1 V ⟨BV, sV, f0, f1, u0, u1⟩
    clear HST HF0 HF1 join
    have U0 := Aside0.mk u0
    have U1 := Aside0.mk u1
    have F1 := Aside0.mk f1
    have F0 := Aside0.mk f0
    have BW := Aside0.mk BV
    clear u0 u1 f0 f1 BV
    have m0_ : V.cell? ⟨w.heap.size, 0, none⟩ = some (.string c.f0) := by simp [World.cell?, F0.out]
    have m1_ : V.cell? ⟨w.heap.size, 1, none⟩ = some (.slice B0 c.f1.length d0) := by simp [World.cell?, F0.out]
    have m2_ : V.cell? ⟨w.heap.size, 2, none⟩ = some (.slice B1 c.f2.length d1) := by simp [World.cell?, F0.out]
    have k0_ : V.cell? ⟨w.heap.size + 1, 0, none⟩ = some (.string ⟨#[]⟩) := by simp [World.cell?, F1.out]
    have k1_ : V.cell? ⟨w.heap.size + 1, 1, none⟩ = some (.slice none 0 0) := by simp [World.cell?, F1.out]
    have k2_ : V.cell? ⟨w.heap.size + 1, 2, none⟩ = some (.slice none 0 0) := by simp [World.cell?, F1.out]
    have kz0_ : V.frozen? ⟨w.heap.size + 1, 0, none⟩ = false := by simp [World.frozen?, F1.out]
    have kz1_ : V.frozen? ⟨w.heap.size + 1, 1, none⟩ = false := by simp [World.frozen?, F1.out]
    have kz2_ : V.frozen? ⟨w.heap.size + 1, 2, none⟩ = false := by simp [World.frozen?, F1.out]
    go_wp2
    refine bodyPost_ret (v := .agg #[.string c.f0, .slice B0 c.f1.length d0, .slice B1 c.f2.length d1]) ?hr rfl ?hp
    case hr => simp [results, Tryd.results55, go_sem, m0_, m1_, m2_, k0_, k1_, k2_]
    case hp =>
      have b0 := BW.out
      generalize hwz : World.setCell (World.setCell (World.setCell V ⟨w.heap.size + 1, 0, none⟩ _) ⟨w.heap.size + 1, 1, none⟩ _) ⟨w.heap.size + 1, 2, none⟩ _ = wz
      have GZ : V.grownBy wz (some (w.heap.size + 1)) := by rw [← hwz]; exact ((grown_set1 _ _ _ _).trans (grown_set1 _ _ _ _)).trans (grown_set1 _ _ _ _)
      have BZ : Below w.heap.size w wz := by rw [← hwz]; exact (bel_set (bel_set (bel_set b0 _ (by show w.heap.size ≤ w.heap.size + 1; omega)) _ (by show w.heap.size ≤ w.heap.size + 1; omega)) _ (by show w.heap.size ≤ w.heap.size + 1; omega))
      clear hwz
      exact ⟨B0, d0, B1, d1, rfl, R_else U0.out rfl GZ (Kd.R_ne U0.out F1.out (by decide)), R_else U1.out rfl GZ (Kd.R_ne U1.out F1.out (by decide)), BZ⟩

set_option maxRecDepth 100000 in
set_option maxHeartbeats 4000000 in
theorem specCopyConf_any (m : SConf) (A0 : Option Addr) (c0 : Nat) (A1 : Option Addr) (c1 : Nat) (w : World) (hw : fitConf m) (hr0 : Kd.C Kd.string w A0 m.f1.length m.f1) (hr1 : Kd.C kWay w A1 m.f2.length m.f2) :
    Calls Tryd.prog 59 #[.agg #[.string m.f0, .slice A0 m.f1.length c0, .slice A1 m.f2.length c1]] w fun e w' => ∃ B0 d0 B1 d1, e = .returned (.agg #[.string m.f0, .slice B0 m.f1.length d0, .slice B1 m.f2.length d1]) ∧ Kd.R Kd.string 9 w' w.heap.size (fun _ => True) (.slice B0 m.f1.length d0) m.f1 ∧ Kd.R kWay 102 w' w.heap.size (fun _ => True) (.slice B1 m.f2.length d1) m.f2 ∧ Below w.heap.size w w' := by
  have hl0 : m.f1.length ≤ 1048576 := hw.2.1.1
  have hl1 : m.f2.length ≤ 1048576 := hw.2.2.1
  clear hw
  go_enter Tryd.func59, Tryd.ntmps59
  go_wp2
  obtain ⟨W0, hW0⟩ : ∃ W, W = (w.alloc (.cells #[.string m.f0, .slice A0 m.f1.length c0, .slice A1 m.f2.length c1] 26)).alloc (.cells #[.string ⟨#[]⟩, .slice none 0 0, .slice none 0 0] 26) := ⟨_, rfl⟩
  rw [← hW0]
  have f0 : W0.heap[w.heap.size]? = some (.cells #[.string m.f0, .slice A0 m.f1.length c0, .slice A1 m.f2.length c1] 26 (0, 0)) := by rw [hW0]; exact below_blk (blk_new _ _) (bel_alloc (Below.refl _ _) _)
  have HF1 : Aside0 (W0.heap[w.heap.size + 1]? = some (.cells #[.string ⟨#[]⟩, .slice none 0 0, .slice none 0 0] 26 (0, 0))) := ⟨by rw [hW0, show w.heap.size + 1 = (w.alloc (.cells #[.string m.f0, .slice A0 m.f1.length c0, .slice A1 m.f2.length c1] 26)).heap.size by simp]; exact blk_new _ _⟩
  have B0 : Below w.heap.size w W0 := by rw [hW0]; exact bel_alloc (bel_alloc (Below.refl _ _) _) _
  clear hW0
  have join : Hid (∀ {goal : Prop} {G : Option Addr → Nat → Option Addr → Nat → Nat → Nat → World → Prop} (rg : Hid (∀ (B0 : Option Addr) (d0 : Nat) (B1 : Option Addr) (d1 : Nat) (g0 g1 : Nat) (V : World), Below w.heap.size w V ∧ V.heap[w.heap.size + 1]? = some (.cells #[.string m.f0, .slice B0 m.f1.length d0, .slice B1 m.f2.length d1] 26 (0, 0)) ∧ Kd.R Kd.string 9 V w.heap.size (fun _ => True) (.slice B0 m.f1.length d0) m.f1 ∧ Kd.R kWay 102 V w.heap.size (fun _ => True) (.slice B1 m.f2.length d1) m.f2 → G B0 d0 B1 d1 g0 g1 V) → goal) (hk : ∀ (B0 : Option Addr) (d0 : Nat) (B1 : Option Addr) (d1 : Nat) (g0 g1 : Nat) (V : World), Below w.heap.size w V ∧ V.heap[w.heap.size + 1]? = some (.cells #[.string m.f0, .slice B0 m.f1.length d0, .slice B1 m.f2.length d1] 26 (0, 0)) ∧ Kd.R Kd.string 9 V w.heap.size (fun _ => True) (.slice B0 m.f1.length d0) m.f1 ∧ Kd.R kWay 102 V w.heap.size (fun _ => True) (.slice B1 m.f2.length d1) m.f2 → G B0 d0 B1 d1 g0 g1 V), goal) := Lib.hid (fun f h => f (Lib.hid h))
  have HK : Aside0 (∀ W W1, Below W.heap.size W W1 → (W.cell? ⟨w.heap.size, 0, none⟩ = some (.string m.f0) ∧ W.cell? ⟨w.heap.size, 1, none⟩ = some (.slice A0 m.f1.length c0) ∧ W.cell? ⟨w.heap.size, 2, none⟩ = some (.slice A1 m.f2.length c1) ∧ Below w.heap.size w W) → (W1.cell? ⟨w.heap.size, 0, none⟩ = some (.string m.f0) ∧ W1.cell? ⟨w.heap.size, 1, none⟩ = some (.slice A0 m.f1.length c0) ∧ W1.cell? ⟨w.heap.size, 2, none⟩ = some (.slice A1 m.f2.length c1) ∧ Below w.heap.size w W1)) := ⟨fun W W1 hb h => ⟨(hb.cell (World.block_lt_of_cell? W _ (h.1))).trans (h.1), (hb.cell (World.block_lt_of_cell? W _ (h.2.1))).trans (h.2.1), (hb.cell (World.block_lt_of_cell? W _ (h.2.2.1))).trans (h.2.2.1), bel_then (h.2.2.2) hb⟩⟩
  have x0_ : W0.cell? ⟨w.heap.size, 0, none⟩ = some (.string m.f0) := by simp [World.cell?, f0]
  have x1_ : W0.cell? ⟨w.heap.size, 1, none⟩ = some (.slice A0 m.f1.length c0) := by simp [World.cell?, f0]
  have x2_ : W0.cell? ⟨w.heap.size, 2, none⟩ = some (.slice A1 m.f2.length c1) := by simp [World.cell?, f0]
  have HST : Aside0 ((fun W => W.cell? ⟨w.heap.size, 0, none⟩ = some (.string m.f0) ∧ W.cell? ⟨w.heap.size, 1, none⟩ = some (.slice A0 m.f1.length c0) ∧ W.cell? ⟨w.heap.size, 2, none⟩ = some (.slice A1 m.f2.length c1) ∧ Below w.heap.size w W) W0.drew) := ⟨⟨x0_, x1_, x2_, bel_then B0 (drew_below0 W0)⟩⟩
  clear f0 B0 x0_ x1_ x2_
  apply join.out
  case rg =>
    intro HKK
    refine wp_region_held_drew (S := (fun W => W.cell? ⟨w.heap.size, 0, none⟩ = some (.string m.f0) ∧ W.cell? ⟨w.heap.size, 1, none⟩ = some (.slice A0 m.f1.length c0) ∧ W.cell? ⟨w.heap.size, 2, none⟩ = some (.slice A1 m.f2.length c1) ∧ Below w.heap.size w W)) (by kernel_rfl) ?s536 (fun hHeld => ?t536)
    case s536 => exact HST.out
    generalize hV0 : World.drew _ = V0 at hHeld ⊢
    have F1 : Aside0 (V0.heap[w.heap.size + 1]? = some (.cells #[.string ⟨#[]⟩, .slice none 0 0, .slice none 0 0] 26 (0, 0))) := ⟨by rw [← hV0]; exact HF1.out⟩
    have s0_ : w.heap.size + 1 < V0.heap.size := blk_lt F1.out
    clear hV0
    refine wpAnyH_take (i := 0) (oi := { dst := some 3, op := Op.fieldAddr 26 (Operand.tmp 1) 0, type := 0, pos := "l7_host.go:65", after := #[], guard := none }) (v := ?v537) rfl (by kernel_rfl) (by kernel_rfl) (by kernel_rfl) (fun _ _ _ h => h) (Or.inl ⟨by rfl, ?y537⟩) (by assumption) ?r537
    case y537 => intro w_ hSw; (try dsimp only at hSw); go_simp; (try (with_reducible rfl))
    try simp only [Act.put, List.setIfInBounds_toArray, List.set_cons_zero, List.set_cons_succ]
    refine wpAnyH_take (i := 1) (oi := { dst := some 4, op := Op.load 9 (Operand.tmp 3), type := 9, pos := "l7_host.go:65", after := #[{ on := 0, ground := Ground.data }], guard := none }) (v := ?v538) rfl (by kernel_rfl) (by kernel_rfl) (by kernel_rfl) (fun _ _ _ h => h) (Or.inl ⟨by rfl, ?y538⟩) (by assumption) ?r538
    case y538 => intro w_ hSw; (try dsimp only at hSw); go_simp; (try (with_reducible rfl))
    try simp only [Act.put, List.setIfInBounds_toArray, List.set_cons_zero, List.set_cons_succ]
    refine wpAnyH_take (i := 3) (oi := { dst := some 6, op := Op.fieldAddr 26 (Operand.tmp 1) 1, type := 0, pos := "l7_host.go:65", after := #[], guard := none }) (v := ?v539) rfl (by kernel_rfl) (by kernel_rfl) (by kernel_rfl) (fun _ _ _ h => h) (Or.inl ⟨by rfl, ?y539⟩) (by assumption) ?r539
    case y539 => intro w_ hSw; (try dsimp only at hSw); go_simp; (try (with_reducible rfl))
    try simp only [Act.put, List.setIfInBounds_toArray, List.set_cons_zero, List.set_cons_succ]
    refine wpAnyH_take (i := 4) (oi := { dst := some 7, op := Op.load 23 (Operand.tmp 6), type := 23, pos := "l7_host.go:65", after := #[{ on := 3, ground := Ground.data }], guard := none }) (v := ?v540) rfl (by kernel_rfl) (by kernel_rfl) (by kernel_rfl) (fun _ _ _ h => h) (Or.inl ⟨by rfl, ?y540⟩) (by assumption) ?r540
    case y540 => intro w_ hSw; (try dsimp only at hSw); go_simp; (try (with_reducible rfl))
    try simp only [Act.put, List.setIfInBounds_toArray, List.set_cons_zero, List.set_cons_succ]
    refine wpAnyH_take (i := 7) (oi := { dst := some 10, op := Op.fieldAddr 26 (Operand.tmp 1) 2, type := 0, pos := "l7_host.go:65", after := #[], guard := none }) (v := ?v541) rfl (by kernel_rfl) (by kernel_rfl) (by kernel_rfl) (fun _ _ _ h => h) (Or.inl ⟨by rfl, ?y541⟩) (by assumption) ?r541
    case y541 => intro w_ hSw; (try dsimp only at hSw); go_simp; (try (with_reducible rfl))
    try simp only [Act.put, List.setIfInBounds_toArray, List.set_cons_zero, List.set_cons_succ]
    refine wpAnyH_take (i := 8) (oi := { dst := some 11, op := Op.load 24 (Operand.tmp 10), type := 24, pos := "l7_host.go:65", after := #[{ on := 7, ground := Ground.data }], guard := none }) (v := ?v542) rfl (by kernel_rfl) (by kernel_rfl) (by kernel_rfl) (fun _ _ _ h => h) (Or.inl ⟨by rfl, ?y542⟩) (by assumption) ?r542
    case y542 => intro w_ hSw; (try dsimp only at hSw); go_simp; (try (with_reducible rfl))
    try simp only [Act.put, List.setIfInBounds_toArray, List.set_cons_zero, List.set_cons_succ]
    refine wpAnyH_ready (rs := [2, 6]) (by kernel_rfl) (by simp) ?_
    refine AllReadyH.cons (o := { dst := some 5, op := Op.buildSlice 23 0 #[], type := 23, pos := "l7_host.go:65", after := #[], guard := none }) rfl (fun K hK => ?k543) (AllReadyH.cons (o := { dst := some 9, op := Op.buildSlice 24 0 #[], type := 24, pos := "l7_host.go:65", after := #[], guard := none }) rfl (fun K hK => ?k544) AllReadyH.nil)
    case k543 =>
      go_simp
      refine hK.out _ _ ?h545 (fun hHeld => ?j545)
      case h545 => exact HK.out _ _ (bel_alloc (Below.refl _ _) _) hHeld
      clear hK K
      try simp only [Act.put, List.setIfInBounds_toArray, List.set_cons_zero, List.set_cons_succ]
      generalize hV2 : World.alloc V0 _ = V2 at hHeld ⊢
      have b2 : Below V0.heap.size V0 V2 := by rw [← hV2]; exact bel_alloc (Below.refl _ _) _
      have z2 : V0.heap.size < V2.heap.size := by rw [← hV2]; simp
      have lo2 : w.heap.size + 1 < V0.heap.size := by omega
      have E0 : Aside0 (Kd.R Kd.string 9 V2 w.heap.size (fun _ => True) (.slice (some ⟨V0.heap.size, 0, none⟩) 0 0) []) := ⟨by rw [← hV2]; exact R_empty Kd.string 9 V0 w.heap.size (by omega) trivial⟩
      obtain ⟨g0, hg2⟩ : ∃ g, g = V0.heap.size := ⟨_, rfl⟩
      have lg0 : w.heap.size + 1 < g0 := by omega
      rw [← hg2] at E0 ⊢
      have s2_ : w.heap.size + 1 < V2.heap.size := by omega
      clear hV2 hg2 z2
      replace F1 := Aside0.mk (below_blk F1.out b2)
      refine wpAnyH_ready (rs := [5, 6]) (by kernel_rfl) (by simp) ?_
      refine AllReadyH.cons (o := { dst := some 8, op := Op.call { callee := Callee.builtin Builtin.append, args := #[Operand.tmp 5, Operand.tmp 7], argTypes := #[23, 23] }, type := 23, pos := "l7_host.go:65", after := #[{ on := 2, ground := Ground.data }, { on := 4, ground := Ground.data }], guard := none }) rfl (fun K hK => ?k546) (AllReadyH.cons (o := { dst := some 9, op := Op.buildSlice 24 0 #[], type := 24, pos := "l7_host.go:65", after := #[], guard := none }) rfl (fun K hK => ?k547) AllReadyH.nil)
      case k546 =>
        refine Kd.R_append_rows_step Kd.string (w0 := w) (w.heap.size) (by rfl) (.tmp 5) (.tmp 7) 23 9 (.string ⟨#[]⟩) 16 rfl Tryd.underlying23 info9 rfl (by decide) (by omega) (.slice (some ⟨g0, 0, none⟩) 0 0) [] m.f1 _ _ _ (fun _ => True) (fun _ => False) rfl rfl ?aO5 ?aR5 (fun _ _ h => h) (fun _ h => h.elim) (fun _ _ => trivial) ?aB5 ?aS5 ?aL5 ?_
        case aO5 => exact E0.out
        case aR5 => exact Kd.C_below hr0 hHeld.2.2.2
        case aB5 => exact hHeld.2.2.2
        case aS5 => exact (hHeld.2.2.2).size
        case aL5 => (simp; omega)
        intro v5 V5 ho hb hg hat
        have ho : Kd.R Kd.string 9 V5 w.heap.size (fun _ => True) v5 m.f1 := ho
        obtain ⟨B0, d0, hv5⟩ := Kd.R_slice ho
        subst hv5
        have GR5 : V2.grownBy V5 (some g0) := hg
        clear hg hat
        refine hK.out _ _ ?h548 (fun hHeld => ?j548)
        case h548 => exact ⟨(World.cell?_of_block (GR5.block _ (World.block_lt_of_cell? _ _ hHeld.1) (fun e => by have e := Option.some.inj e; (try dsimp only at e); omega))).trans hHeld.1, (World.cell?_of_block (GR5.block _ (World.block_lt_of_cell? _ _ hHeld.2.1) (fun e => by have e := Option.some.inj e; (try dsimp only at e); omega))).trans hHeld.2.1, (World.cell?_of_block (GR5.block _ (World.block_lt_of_cell? _ _ hHeld.2.2.1) (fun e => by have e := Option.some.inj e; (try dsimp only at e); omega))).trans hHeld.2.2.1, hb⟩
        clear hK K
        try simp only [Act.put, List.setIfInBounds_toArray, List.set_cons_zero, List.set_cons_succ]
        have U0 := Aside0.mk ho
        have s5_ : w.heap.size + 1 < V5.heap.size := by have := GR5.size; omega
        replace F1 := Aside0.mk ((GR5.block _ (blk_lt F1.out) (fun e => by have e := Option.some.inj e; omega)).trans F1.out)
        clear ho hb E0
        refine wpAnyH_ready (rs := [6]) (by kernel_rfl) (by simp) ?_
        refine AllReadyH.cons (o := { dst := some 9, op := Op.buildSlice 24 0 #[], type := 24, pos := "l7_host.go:65", after := #[], guard := none }) rfl (fun K hK => ?k549) AllReadyH.nil
        case k549 =>
          go_simp
          refine hK.out _ _ ?h550 (fun hHeld => ?j550)
          case h550 => exact HK.out _ _ (bel_alloc (Below.refl _ _) _) hHeld
          clear hK K
          try simp only [Act.put, List.setIfInBounds_toArray, List.set_cons_zero, List.set_cons_succ]
          generalize hV6 : World.alloc V5 _ = V6 at hHeld ⊢
          have b6 : Below V5.heap.size V5 V6 := by rw [← hV6]; exact bel_alloc (Below.refl _ _) _
          have z6 : V5.heap.size < V6.heap.size := by rw [← hV6]; simp
          have lo6 : w.heap.size + 1 < V5.heap.size := by omega
          have E1 : Aside0 (Kd.R kWay 102 V6 w.heap.size (fun _ => True) (.slice (some ⟨V5.heap.size, 0, none⟩) 0 0) []) := ⟨by rw [← hV6]; exact R_empty kWay 102 V5 w.heap.size (by omega) trivial⟩
          obtain ⟨g1, hg6⟩ : ∃ g, g = V5.heap.size := ⟨_, rfl⟩
          have lg1 : w.heap.size + 1 < g1 := by omega
          rw [← hg6] at E1 ⊢
          have s6_ : w.heap.size + 1 < V6.heap.size := by omega
          clear hV6 hg6 z6
          replace F1 := Aside0.mk (below_blk F1.out b6)
          replace U0 := Aside0.mk (Kd.R_below U0.out b6)
          refine wpAnyH_ready (rs := [9]) (by kernel_rfl) (by simp) ?_
          refine AllReadyH.cons (o := { dst := some 12, op := Op.call { callee := Callee.builtin Builtin.append, args := #[Operand.tmp 9, Operand.tmp 11], argTypes := #[24, 24] }, type := 24, pos := "l7_host.go:65", after := #[{ on := 6, ground := Ground.data }, { on := 8, ground := Ground.data }, { on := 5, ground := Ground.chain }], guard := none }) rfl (fun K hK => ?k551) AllReadyH.nil
          case k551 =>
            refine Kd.R_append_rows_step kWay (w0 := w) (w.heap.size) (by rfl) (.tmp 9) (.tmp 11) 24 102 (.agg #[(.string ⟨#[]⟩), (.string ⟨#[]⟩)]) 32 rfl Tryd.underlying24 info102 rfl (by decide) (by omega) (.slice (some ⟨g1, 0, none⟩) 0 0) [] m.f2 _ _ _ (fun _ => True) (fun _ => False) rfl rfl ?aO9 ?aR9 (fun _ _ h => h) (fun _ h => h.elim) (fun _ _ => trivial) ?aB9 ?aS9 ?aL9 ?_
            case aO9 => exact E1.out
            case aR9 => exact Kd.C_below hr1 hHeld.2.2.2
            case aB9 => exact hHeld.2.2.2
            case aS9 => exact (hHeld.2.2.2).size
            case aL9 => (simp; omega)
            intro v9 V9 ho hb hg hat
            have ho : Kd.R kWay 102 V9 w.heap.size (fun _ => True) v9 m.f2 := ho
            obtain ⟨B1, d1, hv9⟩ := Kd.R_slice ho
            subst hv9
            have GR9 : V6.grownBy V9 (some g1) := hg
            clear hg hat
            refine hK.out _ _ ?h552 (fun hHeld => ?j552)
            case h552 => exact ⟨(World.cell?_of_block (GR9.block _ (World.block_lt_of_cell? _ _ hHeld.1) (fun e => by have e := Option.some.inj e; (try dsimp only at e); omega))).trans hHeld.1, (World.cell?_of_block (GR9.block _ (World.block_lt_of_cell? _ _ hHeld.2.1) (fun e => by have e := Option.some.inj e; (try dsimp only at e); omega))).trans hHeld.2.1, (World.cell?_of_block (GR9.block _ (World.block_lt_of_cell? _ _ hHeld.2.2.1) (fun e => by have e := Option.some.inj e; (try dsimp only at e); omega))).trans hHeld.2.2.1, hb⟩
            clear hK K
            try simp only [Act.put, List.setIfInBounds_toArray, List.set_cons_zero, List.set_cons_succ]
            have U1 := Aside0.mk ho
            have s9_ : w.heap.size + 1 < V9.heap.size := by have := GR9.size; omega
            replace F1 := Aside0.mk ((GR9.block _ (blk_lt F1.out) (fun e => by have e := Option.some.inj e; omega)).trans F1.out)
            replace U0 := Aside0.mk (Kd.R_over' U0.out (Kd.R_typed E1.out) (by decide) GR9)
            clear ho hb E1
            refine wpAnyH_take (i := 10) (oi := { dst := some 13, op := Op.build 26 #[(0, Operand.tmp 4), (1, Operand.tmp 8), (2, Operand.tmp 12)], type := 26, pos := "l7_host.go:65", after := #[{ on := 1, ground := Ground.data }, { on := 5, ground := Ground.data }, { on := 9, ground := Ground.data }], guard := none }) (v := ?v553) rfl (by kernel_rfl) (by kernel_rfl) (by kernel_rfl) (fun _ _ _ h => h) (Or.inl ⟨by rfl, ?y553⟩) (by assumption) ?r553
            case y553 => intro w_ hSw; (try dsimp only at hSw); go_simp; (try (with_reducible rfl))
            try simp only [Act.put, List.setIfInBounds_toArray, List.set_cons_zero, List.set_cons_succ]
            refine wpAnyH_ready (rs := [11]) (by kernel_rfl) (by simp) ?_
            refine AllReadyH.cons (o := { dst := none, op := Op.store 26 (Operand.tmp 2) (Operand.tmp 13), type := 0, pos := "l7_host.go:65", after := #[{ on := 10, ground := Ground.data }, { on := 9, ground := Ground.chain }, { on := 0, ground := Ground.phase }, { on := 1, ground := Ground.phase }, { on := 2, ground := Ground.phase }, { on := 3, ground := Ground.phase }, { on := 4, ground := Ground.phase }, { on := 5, ground := Ground.phase }, { on := 6, ground := Ground.phase }, { on := 7, ground := Ground.phase }, { on := 8, ground := Ground.phase }, { on := 9, ground := Ground.phase }, { on := 10, ground := Ground.phase }], guard := none }) rfl (fun K hK => ?k554) AllReadyH.nil
            case k554 =>
              have hb7 := F1.out
              have v0_ : V9.cell? ⟨w.heap.size + 1, 0, none⟩ = some (.string ⟨#[]⟩) := by simp [World.cell?, hb7]
              have v1_ : V9.cell? ⟨w.heap.size + 1, 1, none⟩ = some (.slice none 0 0) := by simp [World.cell?, hb7]
              have v2_ : V9.cell? ⟨w.heap.size + 1, 2, none⟩ = some (.slice none 0 0) := by simp [World.cell?, hb7]
              have u0_ : V9.frozen? ⟨w.heap.size + 1, 0, none⟩ = false := by simp [World.frozen?, hb7]
              have u1_ : V9.frozen? ⟨w.heap.size + 1, 1, none⟩ = false := by simp [World.frozen?, hb7]
              have u2_ : V9.frozen? ⟨w.heap.size + 1, 2, none⟩ = false := by simp [World.frozen?, hb7]
              go_simp
              generalize hV11 : World.setCell (World.setCell (World.setCell V9 ⟨w.heap.size + 1, 0, none⟩ _) ⟨w.heap.size + 1, 1, none⟩ _) ⟨w.heap.size + 1, 2, none⟩ _ = V11
              have G11 : V9.grownBy V11 (some (w.heap.size + 1)) := by rw [← hV11]; exact ((grown_set1 _ _ _ _).trans (grown_set1 _ _ _ _)).trans (grown_set1 _ _ _ _)
              have FF : V11.heap[w.heap.size + 1]? = some (.cells #[.string m.f0, .slice B0 m.f1.length d0, .slice B1 m.f2.length d1] 26 (0, 0)) := by rw [← hV11, blk_set1 (blk_set1 (blk_set1 (F1.out) 0 _) 1 _) 2 _]; simp
              have BB : Below w.heap.size w V11 := by rw [← hV11]; exact (bel_set (bel_set (bel_set hHeld.2.2.2 _ (by show w.heap.size ≤ w.heap.size + 1; omega)) _ (by show w.heap.size ≤ w.heap.size + 1; omega)) _ (by show w.heap.size ≤ w.heap.size + 1; omega))
              clear hV11
              refine hK.out _ _ ?h555 (fun hHeld => ?j555)
              case h555 => exact ⟨(World.cell?_of_block (G11.block _ (World.block_lt_of_cell? _ _ hHeld.1) (fun e => by have e := Option.some.inj e; (try dsimp only at e); omega))).trans hHeld.1, (World.cell?_of_block (G11.block _ (World.block_lt_of_cell? _ _ hHeld.2.1) (fun e => by have e := Option.some.inj e; (try dsimp only at e); omega))).trans hHeld.2.1, (World.cell?_of_block (G11.block _ (World.block_lt_of_cell? _ _ hHeld.2.2.1) (fun e => by have e := Option.some.inj e; (try dsimp only at e); omega))).trans hHeld.2.2.1, BB⟩
              clear hK K
              try simp only [Act.put, List.setIfInBounds_toArray, List.set_cons_zero, List.set_cons_succ]
              replace U0 := Aside0.mk (R_else U0.out rfl G11 (Kd.R_ne U0.out F1.out (by decide)))
              replace U1 := Aside0.mk (R_else U1.out rfl G11 (Kd.R_ne U1.out F1.out (by decide)))
              replace F1 := Aside0.mk FF
              clear FF
              refine wpAnyH_done (by kernel_rfl) ?_ _
              exact HKK.out B0 d0 B1 d1 g0 g1 V11 ⟨hHeld.2.2.2, F1.out, U0.out, U1.out⟩
      case k547 =>
        go_simp
        refine hK.out _ _ ?h556 (fun hHeld => ?j556)
        case h556 => exact HK.out _ _ (bel_alloc (Below.refl _ _) _) hHeld
        clear hK K
        try simp only [Act.put, List.setIfInBounds_toArray, List.set_cons_zero, List.set_cons_succ]
        generalize hV6 : World.alloc V2 _ = V6 at hHeld ⊢
        have b6 : Below V2.heap.size V2 V6 := by rw [← hV6]; exact bel_alloc (Below.refl _ _) _
        have z6 : V2.heap.size < V6.heap.size := by rw [← hV6]; simp
        have lo6 : w.heap.size + 1 < V2.heap.size := by omega
        have E1 : Aside0 (Kd.R kWay 102 V6 w.heap.size (fun _ => True) (.slice (some ⟨V2.heap.size, 0, none⟩) 0 0) []) := ⟨by rw [← hV6]; exact R_empty kWay 102 V2 w.heap.size (by omega) trivial⟩
        obtain ⟨g1, hg6⟩ : ∃ g, g = V2.heap.size := ⟨_, rfl⟩
        have lg1 : w.heap.size + 1 < g1 := by omega
        rw [← hg6] at E1 ⊢
        have s6_ : w.heap.size + 1 < V6.heap.size := by omega
        clear hV6 hg6 z6
        replace F1 := Aside0.mk (below_blk F1.out b6)
        replace E0 := Aside0.mk (Kd.R_below E0.out b6)
        refine wpAnyH_ready (rs := [5]) (by kernel_rfl) (by simp) ?_
        refine AllReadyH.cons (o := { dst := some 8, op := Op.call { callee := Callee.builtin Builtin.append, args := #[Operand.tmp 5, Operand.tmp 7], argTypes := #[23, 23] }, type := 23, pos := "l7_host.go:65", after := #[{ on := 2, ground := Ground.data }, { on := 4, ground := Ground.data }], guard := none }) rfl (fun K hK => ?k557) AllReadyH.nil
        case k557 =>
          refine Kd.R_append_rows_step Kd.string (w0 := w) (w.heap.size) (by rfl) (.tmp 5) (.tmp 7) 23 9 (.string ⟨#[]⟩) 16 rfl Tryd.underlying23 info9 rfl (by decide) (by omega) (.slice (some ⟨g0, 0, none⟩) 0 0) [] m.f1 _ _ _ (fun _ => True) (fun _ => False) rfl rfl ?aO5 ?aR5 (fun _ _ h => h) (fun _ h => h.elim) (fun _ _ => trivial) ?aB5 ?aS5 ?aL5 ?_
          case aO5 => exact E0.out
          case aR5 => exact Kd.C_below hr0 hHeld.2.2.2
          case aB5 => exact hHeld.2.2.2
          case aS5 => exact (hHeld.2.2.2).size
          case aL5 => (simp; omega)
          intro v5 V5 ho hb hg hat
          have ho : Kd.R Kd.string 9 V5 w.heap.size (fun _ => True) v5 m.f1 := ho
          obtain ⟨B0, d0, hv5⟩ := Kd.R_slice ho
          subst hv5
          have GR5 : V6.grownBy V5 (some g0) := hg
          clear hg hat
          refine hK.out _ _ ?h558 (fun hHeld => ?j558)
          case h558 => exact ⟨(World.cell?_of_block (GR5.block _ (World.block_lt_of_cell? _ _ hHeld.1) (fun e => by have e := Option.some.inj e; (try dsimp only at e); omega))).trans hHeld.1, (World.cell?_of_block (GR5.block _ (World.block_lt_of_cell? _ _ hHeld.2.1) (fun e => by have e := Option.some.inj e; (try dsimp only at e); omega))).trans hHeld.2.1, (World.cell?_of_block (GR5.block _ (World.block_lt_of_cell? _ _ hHeld.2.2.1) (fun e => by have e := Option.some.inj e; (try dsimp only at e); omega))).trans hHeld.2.2.1, hb⟩
          clear hK K
          try simp only [Act.put, List.setIfInBounds_toArray, List.set_cons_zero, List.set_cons_succ]
          have U0 := Aside0.mk ho
          have s5_ : w.heap.size + 1 < V5.heap.size := by have := GR5.size; omega
          replace F1 := Aside0.mk ((GR5.block _ (blk_lt F1.out) (fun e => by have e := Option.some.inj e; omega)).trans F1.out)
          replace E1 := Aside0.mk (Kd.R_over' E1.out (Kd.R_typed E0.out) (by decide) GR5)
          clear ho hb E0
          refine wpAnyH_ready (rs := [9]) (by kernel_rfl) (by simp) ?_
          refine AllReadyH.cons (o := { dst := some 12, op := Op.call { callee := Callee.builtin Builtin.append, args := #[Operand.tmp 9, Operand.tmp 11], argTypes := #[24, 24] }, type := 24, pos := "l7_host.go:65", after := #[{ on := 6, ground := Ground.data }, { on := 8, ground := Ground.data }, { on := 5, ground := Ground.chain }], guard := none }) rfl (fun K hK => ?k559) AllReadyH.nil
          case k559 =>
            refine Kd.R_append_rows_step kWay (w0 := w) (w.heap.size) (by rfl) (.tmp 9) (.tmp 11) 24 102 (.agg #[(.string ⟨#[]⟩), (.string ⟨#[]⟩)]) 32 rfl Tryd.underlying24 info102 rfl (by decide) (by omega) (.slice (some ⟨g1, 0, none⟩) 0 0) [] m.f2 _ _ _ (fun _ => True) (fun _ => False) rfl rfl ?aO9 ?aR9 (fun _ _ h => h) (fun _ h => h.elim) (fun _ _ => trivial) ?aB9 ?aS9 ?aL9 ?_
            case aO9 => exact E1.out
            case aR9 => exact Kd.C_below hr1 hHeld.2.2.2
            case aB9 => exact hHeld.2.2.2
            case aS9 => exact (hHeld.2.2.2).size
            case aL9 => (simp; omega)
            intro v9 V9 ho hb hg hat
            have ho : Kd.R kWay 102 V9 w.heap.size (fun _ => True) v9 m.f2 := ho
            obtain ⟨B1, d1, hv9⟩ := Kd.R_slice ho
            subst hv9
            have GR9 : V5.grownBy V9 (some g1) := hg
            clear hg hat
            refine hK.out _ _ ?h560 (fun hHeld => ?j560)
            case h560 => exact ⟨(World.cell?_of_block (GR9.block _ (World.block_lt_of_cell? _ _ hHeld.1) (fun e => by have e := Option.some.inj e; (try dsimp only at e); omega))).trans hHeld.1, (World.cell?_of_block (GR9.block _ (World.block_lt_of_cell? _ _ hHeld.2.1) (fun e => by have e := Option.some.inj e; (try dsimp only at e); omega))).trans hHeld.2.1, (World.cell?_of_block (GR9.block _ (World.block_lt_of_cell? _ _ hHeld.2.2.1) (fun e => by have e := Option.some.inj e; (try dsimp only at e); omega))).trans hHeld.2.2.1, hb⟩
            clear hK K
            try simp only [Act.put, List.setIfInBounds_toArray, List.set_cons_zero, List.set_cons_succ]
            have U1 := Aside0.mk ho
            have s9_ : w.heap.size + 1 < V9.heap.size := by have := GR9.size; omega
            replace F1 := Aside0.mk ((GR9.block _ (blk_lt F1.out) (fun e => by have e := Option.some.inj e; omega)).trans F1.out)
            replace U0 := Aside0.mk (Kd.R_over' U0.out (Kd.R_typed E1.out) (by decide) GR9)
            clear ho hb E1
            refine wpAnyH_take (i := 10) (oi := { dst := some 13, op := Op.build 26 #[(0, Operand.tmp 4), (1, Operand.tmp 8), (2, Operand.tmp 12)], type := 26, pos := "l7_host.go:65", after := #[{ on := 1, ground := Ground.data }, { on := 5, ground := Ground.data }, { on := 9, ground := Ground.data }], guard := none }) (v := ?v561) rfl (by kernel_rfl) (by kernel_rfl) (by kernel_rfl) (fun _ _ _ h => h) (Or.inl ⟨by rfl, ?y561⟩) (by assumption) ?r561
            case y561 => intro w_ hSw; (try dsimp only at hSw); go_simp; (try (with_reducible rfl))
            try simp only [Act.put, List.setIfInBounds_toArray, List.set_cons_zero, List.set_cons_succ]
            refine wpAnyH_ready (rs := [11]) (by kernel_rfl) (by simp) ?_
            refine AllReadyH.cons (o := { dst := none, op := Op.store 26 (Operand.tmp 2) (Operand.tmp 13), type := 0, pos := "l7_host.go:65", after := #[{ on := 10, ground := Ground.data }, { on := 9, ground := Ground.chain }, { on := 0, ground := Ground.phase }, { on := 1, ground := Ground.phase }, { on := 2, ground := Ground.phase }, { on := 3, ground := Ground.phase }, { on := 4, ground := Ground.phase }, { on := 5, ground := Ground.phase }, { on := 6, ground := Ground.phase }, { on := 7, ground := Ground.phase }, { on := 8, ground := Ground.phase }, { on := 9, ground := Ground.phase }, { on := 10, ground := Ground.phase }], guard := none }) rfl (fun K hK => ?k562) AllReadyH.nil
            case k562 =>
              have hb7 := F1.out
              have v0_ : V9.cell? ⟨w.heap.size + 1, 0, none⟩ = some (.string ⟨#[]⟩) := by simp [World.cell?, hb7]
              have v1_ : V9.cell? ⟨w.heap.size + 1, 1, none⟩ = some (.slice none 0 0) := by simp [World.cell?, hb7]
              have v2_ : V9.cell? ⟨w.heap.size + 1, 2, none⟩ = some (.slice none 0 0) := by simp [World.cell?, hb7]
              have u0_ : V9.frozen? ⟨w.heap.size + 1, 0, none⟩ = false := by simp [World.frozen?, hb7]
              have u1_ : V9.frozen? ⟨w.heap.size + 1, 1, none⟩ = false := by simp [World.frozen?, hb7]
              have u2_ : V9.frozen? ⟨w.heap.size + 1, 2, none⟩ = false := by simp [World.frozen?, hb7]
              go_simp
              generalize hV11 : World.setCell (World.setCell (World.setCell V9 ⟨w.heap.size + 1, 0, none⟩ _) ⟨w.heap.size + 1, 1, none⟩ _) ⟨w.heap.size + 1, 2, none⟩ _ = V11
              have G11 : V9.grownBy V11 (some (w.heap.size + 1)) := by rw [← hV11]; exact ((grown_set1 _ _ _ _).trans (grown_set1 _ _ _ _)).trans (grown_set1 _ _ _ _)
              have FF : V11.heap[w.heap.size + 1]? = some (.cells #[.string m.f0, .slice B0 m.f1.length d0, .slice B1 m.f2.length d1] 26 (0, 0)) := by rw [← hV11, blk_set1 (blk_set1 (blk_set1 (F1.out) 0 _) 1 _) 2 _]; simp
              have BB : Below w.heap.size w V11 := by rw [← hV11]; exact (bel_set (bel_set (bel_set hHeld.2.2.2 _ (by show w.heap.size ≤ w.heap.size + 1; omega)) _ (by show w.heap.size ≤ w.heap.size + 1; omega)) _ (by show w.heap.size ≤ w.heap.size + 1; omega))
              clear hV11
              refine hK.out _ _ ?h563 (fun hHeld => ?j563)
              case h563 => exact ⟨(World.cell?_of_block (G11.block _ (World.block_lt_of_cell? _ _ hHeld.1) (fun e => by have e := Option.some.inj e; (try dsimp only at e); omega))).trans hHeld.1, (World.cell?_of_block (G11.block _ (World.block_lt_of_cell? _ _ hHeld.2.1) (fun e => by have e := Option.some.inj e; (try dsimp only at e); omega))).trans hHeld.2.1, (World.cell?_of_block (G11.block _ (World.block_lt_of_cell? _ _ hHeld.2.2.1) (fun e => by have e := Option.some.inj e; (try dsimp only at e); omega))).trans hHeld.2.2.1, BB⟩
              clear hK K
              try simp only [Act.put, List.setIfInBounds_toArray, List.set_cons_zero, List.set_cons_succ]
              replace U0 := Aside0.mk (R_else U0.out rfl G11 (Kd.R_ne U0.out F1.out (by decide)))
              replace U1 := Aside0.mk (R_else U1.out rfl G11 (Kd.R_ne U1.out F1.out (by decide)))
              replace F1 := Aside0.mk FF
              clear FF
              refine wpAnyH_done (by kernel_rfl) ?_ _
              exact HKK.out B0 d0 B1 d1 g0 g1 V11 ⟨hHeld.2.2.2, F1.out, U0.out, U1.out⟩
    case k544 =>
      go_simp
      refine hK.out _ _ ?h564 (fun hHeld => ?j564)
      case h564 => exact HK.out _ _ (bel_alloc (Below.refl _ _) _) hHeld
      clear hK K
      try simp only [Act.put, List.setIfInBounds_toArray, List.set_cons_zero, List.set_cons_succ]
      generalize hV6 : World.alloc V0 _ = V6 at hHeld ⊢
      have b6 : Below V0.heap.size V0 V6 := by rw [← hV6]; exact bel_alloc (Below.refl _ _) _
      have z6 : V0.heap.size < V6.heap.size := by rw [← hV6]; simp
      have lo6 : w.heap.size + 1 < V0.heap.size := by omega
      have E1 : Aside0 (Kd.R kWay 102 V6 w.heap.size (fun _ => True) (.slice (some ⟨V0.heap.size, 0, none⟩) 0 0) []) := ⟨by rw [← hV6]; exact R_empty kWay 102 V0 w.heap.size (by omega) trivial⟩
      obtain ⟨g1, hg6⟩ : ∃ g, g = V0.heap.size := ⟨_, rfl⟩
      have lg1 : w.heap.size + 1 < g1 := by omega
      rw [← hg6] at E1 ⊢
      have s6_ : w.heap.size + 1 < V6.heap.size := by omega
      clear hV6 hg6 z6
      replace F1 := Aside0.mk (below_blk F1.out b6)
      refine wpAnyH_ready (rs := [2]) (by kernel_rfl) (by simp) ?_
      refine AllReadyH.cons (o := { dst := some 5, op := Op.buildSlice 23 0 #[], type := 23, pos := "l7_host.go:65", after := #[], guard := none }) rfl (fun K hK => ?k565) AllReadyH.nil
      case k565 =>
        go_simp
        refine hK.out _ _ ?h566 (fun hHeld => ?j566)
        case h566 => exact HK.out _ _ (bel_alloc (Below.refl _ _) _) hHeld
        clear hK K
        try simp only [Act.put, List.setIfInBounds_toArray, List.set_cons_zero, List.set_cons_succ]
        generalize hV2 : World.alloc V6 _ = V2 at hHeld ⊢
        have b2 : Below V6.heap.size V6 V2 := by rw [← hV2]; exact bel_alloc (Below.refl _ _) _
        have z2 : V6.heap.size < V2.heap.size := by rw [← hV2]; simp
        have lo2 : w.heap.size + 1 < V6.heap.size := by omega
        have E0 : Aside0 (Kd.R Kd.string 9 V2 w.heap.size (fun _ => True) (.slice (some ⟨V6.heap.size, 0, none⟩) 0 0) []) := ⟨by rw [← hV2]; exact R_empty Kd.string 9 V6 w.heap.size (by omega) trivial⟩
        obtain ⟨g0, hg2⟩ : ∃ g, g = V6.heap.size := ⟨_, rfl⟩
        have lg0 : w.heap.size + 1 < g0 := by omega
        rw [← hg2] at E0 ⊢
        have s2_ : w.heap.size + 1 < V2.heap.size := by omega
        clear hV2 hg2 z2
        replace F1 := Aside0.mk (below_blk F1.out b2)
        replace E1 := Aside0.mk (Kd.R_below E1.out b2)
        refine wpAnyH_ready (rs := [5]) (by kernel_rfl) (by simp) ?_
        refine AllReadyH.cons (o := { dst := some 8, op := Op.call { callee := Callee.builtin Builtin.append, args := #[Operand.tmp 5, Operand.tmp 7], argTypes := #[23, 23] }, type := 23, pos := "l7_host.go:65", after := #[{ on := 2, ground := Ground.data }, { on := 4, ground := Ground.data }], guard := none }) rfl (fun K hK => ?k567) AllReadyH.nil
        case k567 =>
          refine Kd.R_append_rows_step Kd.string (w0 := w) (w.heap.size) (by rfl) (.tmp 5) (.tmp 7) 23 9 (.string ⟨#[]⟩) 16 rfl Tryd.underlying23 info9 rfl (by decide) (by omega) (.slice (some ⟨g0, 0, none⟩) 0 0) [] m.f1 _ _ _ (fun _ => True) (fun _ => False) rfl rfl ?aO5 ?aR5 (fun _ _ h => h) (fun _ h => h.elim) (fun _ _ => trivial) ?aB5 ?aS5 ?aL5 ?_
          case aO5 => exact E0.out
          case aR5 => exact Kd.C_below hr0 hHeld.2.2.2
          case aB5 => exact hHeld.2.2.2
          case aS5 => exact (hHeld.2.2.2).size
          case aL5 => (simp; omega)
          intro v5 V5 ho hb hg hat
          have ho : Kd.R Kd.string 9 V5 w.heap.size (fun _ => True) v5 m.f1 := ho
          obtain ⟨B0, d0, hv5⟩ := Kd.R_slice ho
          subst hv5
          have GR5 : V2.grownBy V5 (some g0) := hg
          clear hg hat
          refine hK.out _ _ ?h568 (fun hHeld => ?j568)
          case h568 => exact ⟨(World.cell?_of_block (GR5.block _ (World.block_lt_of_cell? _ _ hHeld.1) (fun e => by have e := Option.some.inj e; (try dsimp only at e); omega))).trans hHeld.1, (World.cell?_of_block (GR5.block _ (World.block_lt_of_cell? _ _ hHeld.2.1) (fun e => by have e := Option.some.inj e; (try dsimp only at e); omega))).trans hHeld.2.1, (World.cell?_of_block (GR5.block _ (World.block_lt_of_cell? _ _ hHeld.2.2.1) (fun e => by have e := Option.some.inj e; (try dsimp only at e); omega))).trans hHeld.2.2.1, hb⟩
          clear hK K
          try simp only [Act.put, List.setIfInBounds_toArray, List.set_cons_zero, List.set_cons_succ]
          have U0 := Aside0.mk ho
          have s5_ : w.heap.size + 1 < V5.heap.size := by have := GR5.size; omega
          replace F1 := Aside0.mk ((GR5.block _ (blk_lt F1.out) (fun e => by have e := Option.some.inj e; omega)).trans F1.out)
          replace E1 := Aside0.mk (Kd.R_over' E1.out (Kd.R_typed E0.out) (by decide) GR5)
          clear ho hb E0
          refine wpAnyH_ready (rs := [9]) (by kernel_rfl) (by simp) ?_
          refine AllReadyH.cons (o := { dst := some 12, op := Op.call { callee := Callee.builtin Builtin.append, args := #[Operand.tmp 9, Operand.tmp 11], argTypes := #[24, 24] }, type := 24, pos := "l7_host.go:65", after := #[{ on := 6, ground := Ground.data }, { on := 8, ground := Ground.data }, { on := 5, ground := Ground.chain }], guard := none }) rfl (fun K hK => ?k569) AllReadyH.nil
          case k569 =>
            refine Kd.R_append_rows_step kWay (w0 := w) (w.heap.size) (by rfl) (.tmp 9) (.tmp 11) 24 102 (.agg #[(.string ⟨#[]⟩), (.string ⟨#[]⟩)]) 32 rfl Tryd.underlying24 info102 rfl (by decide) (by omega) (.slice (some ⟨g1, 0, none⟩) 0 0) [] m.f2 _ _ _ (fun _ => True) (fun _ => False) rfl rfl ?aO9 ?aR9 (fun _ _ h => h) (fun _ h => h.elim) (fun _ _ => trivial) ?aB9 ?aS9 ?aL9 ?_
            case aO9 => exact E1.out
            case aR9 => exact Kd.C_below hr1 hHeld.2.2.2
            case aB9 => exact hHeld.2.2.2
            case aS9 => exact (hHeld.2.2.2).size
            case aL9 => (simp; omega)
            intro v9 V9 ho hb hg hat
            have ho : Kd.R kWay 102 V9 w.heap.size (fun _ => True) v9 m.f2 := ho
            obtain ⟨B1, d1, hv9⟩ := Kd.R_slice ho
            subst hv9
            have GR9 : V5.grownBy V9 (some g1) := hg
            clear hg hat
            refine hK.out _ _ ?h570 (fun hHeld => ?j570)
            case h570 => exact ⟨(World.cell?_of_block (GR9.block _ (World.block_lt_of_cell? _ _ hHeld.1) (fun e => by have e := Option.some.inj e; (try dsimp only at e); omega))).trans hHeld.1, (World.cell?_of_block (GR9.block _ (World.block_lt_of_cell? _ _ hHeld.2.1) (fun e => by have e := Option.some.inj e; (try dsimp only at e); omega))).trans hHeld.2.1, (World.cell?_of_block (GR9.block _ (World.block_lt_of_cell? _ _ hHeld.2.2.1) (fun e => by have e := Option.some.inj e; (try dsimp only at e); omega))).trans hHeld.2.2.1, hb⟩
            clear hK K
            try simp only [Act.put, List.setIfInBounds_toArray, List.set_cons_zero, List.set_cons_succ]
            have U1 := Aside0.mk ho
            have s9_ : w.heap.size + 1 < V9.heap.size := by have := GR9.size; omega
            replace F1 := Aside0.mk ((GR9.block _ (blk_lt F1.out) (fun e => by have e := Option.some.inj e; omega)).trans F1.out)
            replace U0 := Aside0.mk (Kd.R_over' U0.out (Kd.R_typed E1.out) (by decide) GR9)
            clear ho hb E1
            refine wpAnyH_take (i := 10) (oi := { dst := some 13, op := Op.build 26 #[(0, Operand.tmp 4), (1, Operand.tmp 8), (2, Operand.tmp 12)], type := 26, pos := "l7_host.go:65", after := #[{ on := 1, ground := Ground.data }, { on := 5, ground := Ground.data }, { on := 9, ground := Ground.data }], guard := none }) (v := ?v571) rfl (by kernel_rfl) (by kernel_rfl) (by kernel_rfl) (fun _ _ _ h => h) (Or.inl ⟨by rfl, ?y571⟩) (by assumption) ?r571
            case y571 => intro w_ hSw; (try dsimp only at hSw); go_simp; (try (with_reducible rfl))
            try simp only [Act.put, List.setIfInBounds_toArray, List.set_cons_zero, List.set_cons_succ]
            refine wpAnyH_ready (rs := [11]) (by kernel_rfl) (by simp) ?_
            refine AllReadyH.cons (o := { dst := none, op := Op.store 26 (Operand.tmp 2) (Operand.tmp 13), type := 0, pos := "l7_host.go:65", after := #[{ on := 10, ground := Ground.data }, { on := 9, ground := Ground.chain }, { on := 0, ground := Ground.phase }, { on := 1, ground := Ground.phase }, { on := 2, ground := Ground.phase }, { on := 3, ground := Ground.phase }, { on := 4, ground := Ground.phase }, { on := 5, ground := Ground.phase }, { on := 6, ground := Ground.phase }, { on := 7, ground := Ground.phase }, { on := 8, ground := Ground.phase }, { on := 9, ground := Ground.phase }, { on := 10, ground := Ground.phase }], guard := none }) rfl (fun K hK => ?k572) AllReadyH.nil
            case k572 =>
              have hb7 := F1.out
              have v0_ : V9.cell? ⟨w.heap.size + 1, 0, none⟩ = some (.string ⟨#[]⟩) := by simp [World.cell?, hb7]
              have v1_ : V9.cell? ⟨w.heap.size + 1, 1, none⟩ = some (.slice none 0 0) := by simp [World.cell?, hb7]
              have v2_ : V9.cell? ⟨w.heap.size + 1, 2, none⟩ = some (.slice none 0 0) := by simp [World.cell?, hb7]
              have u0_ : V9.frozen? ⟨w.heap.size + 1, 0, none⟩ = false := by simp [World.frozen?, hb7]
              have u1_ : V9.frozen? ⟨w.heap.size + 1, 1, none⟩ = false := by simp [World.frozen?, hb7]
              have u2_ : V9.frozen? ⟨w.heap.size + 1, 2, none⟩ = false := by simp [World.frozen?, hb7]
              go_simp
              generalize hV11 : World.setCell (World.setCell (World.setCell V9 ⟨w.heap.size + 1, 0, none⟩ _) ⟨w.heap.size + 1, 1, none⟩ _) ⟨w.heap.size + 1, 2, none⟩ _ = V11
              have G11 : V9.grownBy V11 (some (w.heap.size + 1)) := by rw [← hV11]; exact ((grown_set1 _ _ _ _).trans (grown_set1 _ _ _ _)).trans (grown_set1 _ _ _ _)
              have FF : V11.heap[w.heap.size + 1]? = some (.cells #[.string m.f0, .slice B0 m.f1.length d0, .slice B1 m.f2.length d1] 26 (0, 0)) := by rw [← hV11, blk_set1 (blk_set1 (blk_set1 (F1.out) 0 _) 1 _) 2 _]; simp
              have BB : Below w.heap.size w V11 := by rw [← hV11]; exact (bel_set (bel_set (bel_set hHeld.2.2.2 _ (by show w.heap.size ≤ w.heap.size + 1; omega)) _ (by show w.heap.size ≤ w.heap.size + 1; omega)) _ (by show w.heap.size ≤ w.heap.size + 1; omega))
              clear hV11
              refine hK.out _ _ ?h573 (fun hHeld => ?j573)
              case h573 => exact ⟨(World.cell?_of_block (G11.block _ (World.block_lt_of_cell? _ _ hHeld.1) (fun e => by have e := Option.some.inj e; (try dsimp only at e); omega))).trans hHeld.1, (World.cell?_of_block (G11.block _ (World.block_lt_of_cell? _ _ hHeld.2.1) (fun e => by have e := Option.some.inj e; (try dsimp only at e); omega))).trans hHeld.2.1, (World.cell?_of_block (G11.block _ (World.block_lt_of_cell? _ _ hHeld.2.2.1) (fun e => by have e := Option.some.inj e; (try dsimp only at e); omega))).trans hHeld.2.2.1, BB⟩
              clear hK K
              try simp only [Act.put, List.setIfInBounds_toArray, List.set_cons_zero, List.set_cons_succ]
              replace U0 := Aside0.mk (R_else U0.out rfl G11 (Kd.R_ne U0.out F1.out (by decide)))
              replace U1 := Aside0.mk (R_else U1.out rfl G11 (Kd.R_ne U1.out F1.out (by decide)))
              replace F1 := Aside0.mk FF
              clear FF
              refine wpAnyH_done (by kernel_rfl) ?_ _
              exact HKK.out B0 d0 B1 d1 g0 g1 V11 ⟨hHeld.2.2.2, F1.out, U0.out, U1.out⟩
  case hk =>
    intro B0 d0 B1 d1 g0 g1 V ⟨BV, f1, u0, u1⟩
    clear HST HK HF1 join
    have U0 := Aside0.mk u0
    have U1 := Aside0.mk u1
    have F1 := Aside0.mk f1
    have BW := Aside0.mk BV
    clear u0 u1 f1 BV
    have m0_ : V.cell? ⟨w.heap.size + 1, 0, none⟩ = some (.string m.f0) := by simp [World.cell?, F1.out]
    have m1_ : V.cell? ⟨w.heap.size + 1, 1, none⟩ = some (.slice B0 m.f1.length d0) := by simp [World.cell?, F1.out]
    have m2_ : V.cell? ⟨w.heap.size + 1, 2, none⟩ = some (.slice B1 m.f2.length d1) := by simp [World.cell?, F1.out]
    go_wp2
    refine bodyPost_ret (v := .agg #[.string m.f0, .slice B0 m.f1.length d0, .slice B1 m.f2.length d1]) ?hr rfl ?hp
    case hr => simp [results, Tryd.results59, go_sem, m0_, m1_, m2_]
    case hp => exact ⟨B0, d0, B1, d1, rfl, U0.out, U1.out, BW.out⟩

end Go.Proofs.YtoppgnmnbbhghaaDoor
