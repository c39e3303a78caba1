/- Copies of clients; a client's outcomes that become others: contracts. -/
import Derived.Test.YtoppgnmnbbhghaaGreatDoorCliI
import Derived.Test.YtoppgnmnbbhghaaGreatDoorCopyM
namespace Go.Proofs.YtoppgnmnbbhghaaGreatDoor
open Go.RowKit Go.Proofs.YtoppgnmnbbhghaaGreatDoorW.PrintWords
set_option linter.unusedVariables false
set_option linter.unusedSimpArgs false

set_option maxRecDepth 100000 in
set_option maxHeartbeats 4000000 in
theorem cliCopied_any (c : SCli) (A0 : Option Addr) (c0 : Nat) (A1 : Option Addr) (c1 : Nat) (A2 : Option Addr) (c2 : Nat) (w : World) (hw : fitCli c) (hr0 : Kd.C kAddr w A0 c.f1.f1.length c.f1.f1) (hr1 : Kd.C Kd.string w A1 c.f1.f2.length c.f1.f2) (hr2 : Kd.C (Kd.int .i64) w A2 c.f4.length c.f4) :
    Calls Tryz.prog 33 #[.agg #[.string c.f0, .string c.f1.f0.f0, .string c.f1.f0.f1, .slice A0 c.f1.f1.length c0, .slice A1 c.f1.f2.length c1, .int .i64 c.f2, .int .i64 c.f3, .slice A2 c.f4.length c2]] w fun e w' => ∃ B0 d0 B1 d1 B2 d2, e = .returned (.agg #[.string c.f0, .string c.f1.f0.f0, .string c.f1.f0.f1, .slice B0 c.f1.f1.length d0, .slice B1 c.f1.f2.length d1, .int .i64 c.f2, .int .i64 c.f3, .slice B2 c.f4.length d2]) ∧ Kd.R kAddr 24 w' w.heap.size (fun _ => True) (.slice B0 c.f1.f1.length d0) c.f1.f1 ∧ Kd.R Kd.string 9 w' w.heap.size (fun _ => True) (.slice B1 c.f1.f2.length d1) c.f1.f2 ∧ Kd.R (Kd.int .i64) 3 w' w.heap.size (fun _ => True) (.slice B2 c.f4.length d2) c.f4 ∧ Below w.heap.size w w' := by
  have hc0 := fun W (hW : Below w.heap.size w W) => mailCopied_any c.f1 A0 c0 A1 c1 W hw.2.1 (Kd.C_below hr0 hW) (Kd.C_below hr1 hW)
  have hc1 := fun W (hW : Below w.heap.size w W) => cloneInt_any A2 c2 c.f4 W (Kd.C_below hr2 hW) hw.2.2.2.2.1
  clear hw hr0 hr1 hr2
  go_enter Tryz.func33, Tryz.ntmps33
  go_wp2
  obtain ⟨W0, hW0⟩ : ∃ W, W = (w.alloc (.cells #[.string c.f0, .string c.f1.f0.f0, .string c.f1.f0.f1, .slice A0 c.f1.f1.length c0, .slice A1 c.f1.f2.length c1, .int .i64 c.f2, .int .i64 c.f3, .slice A2 c.f4.length c2] 31)).alloc (.cells #[.string ⟨#[]⟩, .string ⟨#[]⟩, .string ⟨#[]⟩, .slice none 0 0, .slice none 0 0, .int .i64 0, .int .i64 0, .slice none 0 0] 31) := ⟨_, rfl⟩
  rw [← hW0]
  have HF0 : Aside0 (W0.heap[w.heap.size]? = some (.cells #[.string c.f0, .string c.f1.f0.f0, .string c.f1.f0.f1, .slice A0 c.f1.f1.length c0, .slice A1 c.f1.f2.length c1, .int .i64 c.f2, .int .i64 c.f3, .slice A2 c.f4.length c2] 31 (0, 0))) := ⟨by rw [hW0]; exact below_blk (blk_new _ _) (bel_alloc (Below.refl _ _) _)⟩
  have HF1 : Aside0 (W0.heap[w.heap.size + 1]? = some (.cells #[.string ⟨#[]⟩, .string ⟨#[]⟩, .string ⟨#[]⟩, .slice none 0 0, .slice none 0 0, .int .i64 0, .int .i64 0, .slice none 0 0] 31 (0, 0))) := ⟨by rw [hW0, show w.heap.size + 1 = (w.alloc (.cells #[.string c.f0, .string c.f1.f0.f0, .string c.f1.f0.f1, .slice A0 c.f1.f1.length c0, .slice A1 c.f1.f2.length c1, .int .i64 c.f2, .int .i64 c.f3, .slice A2 c.f4.length c2] 31)).heap.size by simp]; exact blk_new _ _⟩
  have B0 : Below w.heap.size w W0 := by rw [hW0]; exact bel_alloc (bel_alloc (Below.refl _ _) _) _
  clear hW0
  have join : Hid (∀ {goal : Prop} {G : Option Addr → Nat → Option Addr → Nat → Option Addr → Nat → World → Prop} (rg : Hid (∀ (B0 : Option Addr) (d0 : Nat) (B1 : Option Addr) (d1 : Nat) (B2 : Option Addr) (d2 : Nat) (V : World), Below w.heap.size w V ∧ w.heap.size + 1 < V.heap.size ∧ V.heap[w.heap.size]? = some (.cells #[.string c.f0, .string c.f1.f0.f0, .string c.f1.f0.f1, .slice B0 c.f1.f1.length d0, .slice B1 c.f1.f2.length d1, .int .i64 c.f2, .int .i64 c.f3, .slice B2 c.f4.length d2] 31 (0, 0)) ∧ V.heap[w.heap.size + 1]? = some (.cells #[.string ⟨#[]⟩, .string ⟨#[]⟩, .string ⟨#[]⟩, .slice none 0 0, .slice none 0 0, .int .i64 0, .int .i64 0, .slice none 0 0] 31 (0, 0)) ∧ Kd.R kAddr 24 V w.heap.size (fun _ => True) (.slice B0 c.f1.f1.length d0) c.f1.f1 ∧ Kd.R Kd.string 9 V w.heap.size (fun _ => True) (.slice B1 c.f1.f2.length d1) c.f1.f2 ∧ Kd.R (Kd.int .i64) 3 V w.heap.size (fun _ => True) (.slice B2 c.f4.length d2) c.f4 → G B0 d0 B1 d1 B2 d2 V) → goal) (hk : ∀ (B0 : Option Addr) (d0 : Nat) (B1 : Option Addr) (d1 : Nat) (B2 : Option Addr) (d2 : Nat) (V : World), Below w.heap.size w V ∧ w.heap.size + 1 < V.heap.size ∧ V.heap[w.heap.size]? = some (.cells #[.string c.f0, .string c.f1.f0.f0, .string c.f1.f0.f1, .slice B0 c.f1.f1.length d0, .slice B1 c.f1.f2.length d1, .int .i64 c.f2, .int .i64 c.f3, .slice B2 c.f4.length d2] 31 (0, 0)) ∧ V.heap[w.heap.size + 1]? = some (.cells #[.string ⟨#[]⟩, .string ⟨#[]⟩, .string ⟨#[]⟩, .slice none 0 0, .slice none 0 0, .int .i64 0, .int .i64 0, .slice none 0 0] 31 (0, 0)) ∧ Kd.R kAddr 24 V w.heap.size (fun _ => True) (.slice B0 c.f1.f1.length d0) c.f1.f1 ∧ Kd.R Kd.string 9 V w.heap.size (fun _ => True) (.slice B1 c.f1.f2.length d1) c.f1.f2 ∧ Kd.R (Kd.int .i64) 3 V w.heap.size (fun _ => True) (.slice B2 c.f4.length d2) c.f4 → G B0 d0 B1 d1 B2 d2 V), goal) := Lib.hid (fun f h => f (Lib.hid h))
  have HST : Aside0 (Below w.heap.size w W0.drew) := ⟨bel_then B0 (drew_below0 W0)⟩
  clear B0
  apply join.out
  case rg =>
    intro HKK
    refine wp_region_held_drew (S := (fun W => Below w.heap.size w W)) (by kernel_rfl) ?s303 (fun hHeld => ?t303)
    case s303 => exact HST.out
    generalize hV0 : World.drew _ = V0 at hHeld ⊢
    have F0 : Aside0 (V0.heap[w.heap.size]? = some (.cells #[.string c.f0, .string c.f1.f0.f0, .string c.f1.f0.f1, .slice A0 c.f1.f1.length c0, .slice A1 c.f1.f2.length c1, .int .i64 c.f2, .int .i64 c.f3, .slice A2 c.f4.length c2] 31 (0, 0))) := ⟨by rw [← hV0]; exact HF0.out⟩
    have F1 : Aside0 (V0.heap[w.heap.size + 1]? = some (.cells #[.string ⟨#[]⟩, .string ⟨#[]⟩, .string ⟨#[]⟩, .slice none 0 0, .slice none 0 0, .int .i64 0, .int .i64 0, .slice none 0 0] 31 (0, 0))) := ⟨by rw [← hV0]; exact HF1.out⟩
    clear hV0
    refine wpAnyH_take (i := 0) (oi := { dst := some 3, op := Op.fieldAddr 31 (Operand.tmp 1) 1, type := 0, pos := "l4_client.go:129", after := #[], guard := none }) (v := ?v304) rfl (by kernel_rfl) (by kernel_rfl) (by kernel_rfl) (fun _ _ _ h => h) (Or.inl ⟨by rfl, ?y304⟩) (by assumption) ?r304
    case y304 => intro w_ hSw; (try dsimp only at hSw); go_simp; (try (with_reducible rfl))
    try simp only [Act.put, List.setIfInBounds_toArray, List.set_cons_zero, List.set_cons_succ]
    refine wpAnyH_take (i := 3) (oi := { dst := some 6, op := Op.fieldAddr 31 (Operand.tmp 1) 4, type := 0, pos := "l4_client.go:129", after := #[], guard := none }) (v := ?v305) rfl (by kernel_rfl) (by kernel_rfl) (by kernel_rfl) (fun _ _ _ h => h) (Or.inl ⟨by rfl, ?y305⟩) (by assumption) ?r305
    case y305 => intro w_ hSw; (try dsimp only at hSw); go_simp; (try (with_reducible rfl))
    try simp only [Act.put, List.setIfInBounds_toArray, List.set_cons_zero, List.set_cons_succ]
    refine wpAnyH_ready (rs := [1, 4]) (by kernel_rfl) (by simp) ?_
    refine AllReadyH.cons (o := { dst := some 4, op := Op.load 28 (Operand.tmp 3), type := 28, pos := "l4_client.go:129", after := #[{ on := 0, ground := Ground.data }], guard := none }) rfl (fun K hK => ?k306) (AllReadyH.cons (o := { dst := some 7, op := Op.load 29 (Operand.tmp 6), type := 29, pos := "l4_client.go:129", after := #[{ on := 3, ground := Ground.data }], guard := none }) rfl (fun K hK => ?k307) AllReadyH.nil)
    case k306 =>
      have y11_ : V0.cell? ⟨w.heap.size, 1, none⟩ = some (.string c.f1.f0.f0) := by simp [World.cell?, F0.out]
      have y12_ : V0.cell? ⟨w.heap.size, 2, none⟩ = some (.string c.f1.f0.f1) := by simp [World.cell?, F0.out]
      have y13_ : V0.cell? ⟨w.heap.size, 3, none⟩ = some (.slice A0 c.f1.f1.length c0) := by simp [World.cell?, F0.out]
      have y14_ : V0.cell? ⟨w.heap.size, 4, none⟩ = some (.slice A1 c.f1.f2.length c1) := by simp [World.cell?, F0.out]
      go_simp
      refine hK.out _ _ ?h308 (fun hHeld => ?j308)
      case h308 => exact hHeld
      clear hK K
      try simp only [Act.put, List.setIfInBounds_toArray, List.set_cons_zero, List.set_cons_succ]
      refine wpAnyH_ready (rs := [2, 4]) (by kernel_rfl) (by simp) ?_
      refine AllReadyH.cons (o := { dst := some 5, op := Op.call { callee := Callee.value (Operand.func 77), args := #[Operand.tmp 4], argTypes := #[28] }, type := 28, pos := "l4_client.go:129", after := #[{ on := 1, ground := Ground.data }], guard := none }) rfl (fun K hK => ?k309) (AllReadyH.cons (o := { dst := some 7, op := Op.load 29 (Operand.tmp 6), type := 29, pos := "l4_client.go:129", after := #[{ on := 3, ground := Ground.data }], guard := none }) rfl (fun K hK => ?k310) AllReadyH.nil)
      case k309 =>
        have hsl2 : w.heap.size ≤ V0.heap.size := (hHeld).size
        go_simp
        refine (hc0 _ hHeld).mono ?_
        rintro e V2 ⟨B0, d0, B1, d1, rfl, ga0, ga1, b2⟩
        refine hK.out _ _ ?h311 (fun hHeld => ?j311)
        case h311 => exact bel_then hHeld b2
        clear hK K
        try simp only [Act.put, List.setIfInBounds_toArray, List.set_cons_zero, List.set_cons_succ]
        have U0 := Aside0.mk (Kd.R_lower (base' := w.heap.size) ga0 hsl2)
        have U1 := Aside0.mk (Kd.R_lower (base' := w.heap.size) ga1 hsl2)
        clear ga0 ga1 hsl2
        replace F0 := Aside0.mk (below_blk F0.out b2)
        replace F1 := Aside0.mk (below_blk F1.out b2)
        refine wpAnyH_ready (rs := [4]) (by kernel_rfl) (by simp) ?_
        refine AllReadyH.cons (o := { dst := some 7, op := Op.load 29 (Operand.tmp 6), type := 29, pos := "l4_client.go:129", after := #[{ on := 3, ground := Ground.data }], guard := none }) rfl (fun K hK => ?k312) AllReadyH.nil
        case k312 =>
          have y47_ : V2.cell? ⟨w.heap.size, 7, none⟩ = some (.slice A2 c.f4.length c2) := by simp [World.cell?, F0.out]
          go_simp
          refine hK.out _ _ ?h313 (fun hHeld => ?j313)
          case h313 => exact hHeld
          clear hK K
          try simp only [Act.put, List.setIfInBounds_toArray, List.set_cons_zero, List.set_cons_succ]
          refine wpAnyH_take (i := 6) (oi := { dst := some 9, op := Op.fieldAddr 31 (Operand.tmp 1) 1, type := 0, pos := "l4_client.go:129", after := #[{ on := 0, ground := Ground.phase }, { on := 1, ground := Ground.phase }, { on := 2, ground := Ground.phase }, { on := 3, ground := Ground.phase }, { on := 4, ground := Ground.phase }, { on := 5, ground := Ground.textOnly Departure.lateStoresUnsure }], guard := none }) (v := ?v314) rfl (by kernel_rfl) (by kernel_rfl) (by kernel_rfl) (fun _ _ _ h => h) (Or.inl ⟨by rfl, ?y314⟩) (by assumption) ?r314
          case y314 => intro w_ hSw; (try dsimp only at hSw); go_simp; (try (with_reducible rfl))
          try simp only [Act.put, List.setIfInBounds_toArray, List.set_cons_zero, List.set_cons_succ]
          refine wpAnyH_ready (rs := [5]) (by kernel_rfl) (by simp) ?_
          refine AllReadyH.cons (o := { dst := some 8, op := Op.call { callee := Callee.value (Operand.func 78), args := #[Operand.tmp 7], argTypes := #[29] }, type := 29, pos := "l4_client.go:129", after := #[{ on := 4, ground := Ground.data }, { on := 2, ground := Ground.chain }], guard := none }) rfl (fun K hK => ?k315) AllReadyH.nil
          case k315 =>
            have hsl5 : w.heap.size ≤ V2.heap.size := (hHeld).size
            go_simp
            refine (hc1 _ hHeld).mono ?_
            rintro e V5 ⟨B2, d2, rfl, ga0, b5⟩
            refine hK.out _ _ ?h316 (fun hHeld => ?j316)
            case h316 => exact bel_then hHeld b5
            clear hK K
            try simp only [Act.put, List.setIfInBounds_toArray, List.set_cons_zero, List.set_cons_succ]
            have U2 := Aside0.mk (Kd.R_lower (base' := w.heap.size) ga0 hsl5)
            clear ga0 hsl5
            replace F0 := Aside0.mk (below_blk F0.out b5)
            replace F1 := Aside0.mk (below_blk F1.out b5)
            replace U0 := Aside0.mk (Kd.R_below U0.out b5)
            replace U1 := Aside0.mk (Kd.R_below U1.out b5)
            refine wpAnyH_ready (rs := [7]) (by kernel_rfl) (by simp) ?_
            refine AllReadyH.cons (o := { dst := none, op := Op.store 28 (Operand.tmp 9) (Operand.tmp 5), type := 0, pos := "l4_client.go:129", after := #[{ on := 6, ground := Ground.data }, { on := 2, ground := Ground.data }, { on := 5, ground := Ground.chain }, { on := 0, ground := Ground.phase }, { on := 1, ground := Ground.phase }, { on := 2, ground := Ground.phase }, { on := 3, ground := Ground.phase }, { on := 4, ground := Ground.phase }, { on := 5, ground := Ground.textOnly Departure.lateStoresUnsure }], guard := none }) rfl (fun K hK => ?k317) AllReadyH.nil
            case k317 =>
              have hb7 := F0.out
              have v1_ : V5.cell? ⟨w.heap.size, 1, none⟩ = some (.string c.f1.f0.f0) := by simp [World.cell?, hb7]
              have v2_ : V5.cell? ⟨w.heap.size, 2, none⟩ = some (.string c.f1.f0.f1) := by simp [World.cell?, hb7]
              have v3_ : V5.cell? ⟨w.heap.size, 3, none⟩ = some (.slice A0 c.f1.f1.length c0) := by simp [World.cell?, hb7]
              have v4_ : V5.cell? ⟨w.heap.size, 4, none⟩ = some (.slice A1 c.f1.f2.length c1) := by simp [World.cell?, hb7]
              have u1_ : V5.frozen? ⟨w.heap.size, 1, none⟩ = false := by simp [World.frozen?, hb7]
              have u2_ : V5.frozen? ⟨w.heap.size, 2, none⟩ = false := by simp [World.frozen?, hb7]
              have u3_ : V5.frozen? ⟨w.heap.size, 3, none⟩ = false := by simp [World.frozen?, hb7]
              have u4_ : V5.frozen? ⟨w.heap.size, 4, none⟩ = false := by simp [World.frozen?, hb7]
              go_simp
              generalize hV7 : World.setCell (World.setCell (World.setCell (World.setCell V5 ⟨w.heap.size, 1, none⟩ _) ⟨w.heap.size, 2, none⟩ _) ⟨w.heap.size, 3, none⟩ _) ⟨w.heap.size, 4, none⟩ _ = V7
              have G7 : V5.grownBy V7 (some (w.heap.size)) := by rw [← hV7]; exact (((grown_set1 _ _ _ _).trans (grown_set1 _ _ _ _)).trans (grown_set1 _ _ _ _)).trans (grown_set1 _ _ _ _)
              have FF : V7.heap[w.heap.size]? = some (.cells #[.string c.f0, .string c.f1.f0.f0, .string c.f1.f0.f1, .slice B0 c.f1.f1.length d0, .slice B1 c.f1.f2.length d1, .int .i64 c.f2, .int .i64 c.f3, .slice A2 c.f4.length c2] 31 (0, 0)) := by rw [← hV7, blk_set1 (blk_set1 (blk_set1 (blk_set1 (F0.out) 1 _) 2 _) 3 _) 4 _]; simp
              have BB : Below w.heap.size w V7 := by rw [← hV7]; exact (bel_set (bel_set (bel_set (bel_set hHeld _ (Nat.le_refl _)) _ (Nat.le_refl _)) _ (Nat.le_refl _)) _ (Nat.le_refl _))
              clear hV7
              refine hK.out _ _ ?h318 (fun hHeld => ?j318)
              case h318 => exact BB
              clear hK K
              try simp only [Act.put, List.setIfInBounds_toArray, List.set_cons_zero, List.set_cons_succ]
              replace U0 := Aside0.mk (R_else U0.out rfl G7 (Kd.R_ne U0.out F0.out (by decide)))
              replace U1 := Aside0.mk (R_else U1.out rfl G7 (Kd.R_ne U1.out F0.out (by decide)))
              replace U2 := Aside0.mk (R_else U2.out rfl G7 (Kd.R_ne U2.out F0.out (by decide)))
              replace F0 := Aside0.mk FF
              clear FF
              replace F1 := Aside0.mk ((G7.block _ (blk_lt F1.out) (fun e => by have e := Option.some.inj e; omega)).trans F1.out)
              refine wpAnyH_take (i := 8) (oi := { dst := some 10, op := Op.fieldAddr 31 (Operand.tmp 1) 4, type := 0, pos := "l4_client.go:129", after := #[{ on := 0, ground := Ground.phase }, { on := 1, ground := Ground.phase }, { on := 2, ground := Ground.phase }, { on := 3, ground := Ground.phase }, { on := 4, ground := Ground.phase }, { on := 5, ground := Ground.phase }, { on := 6, ground := Ground.phase }, { on := 7, ground := Ground.phase }], guard := none }) (v := ?v319) rfl (by kernel_rfl) (by kernel_rfl) (by kernel_rfl) (fun _ _ _ h => h) (Or.inl ⟨by rfl, ?y319⟩) (by assumption) ?r319
              case y319 => intro w_ hSw; (try dsimp only at hSw); go_simp; (try (with_reducible rfl))
              try simp only [Act.put, List.setIfInBounds_toArray, List.set_cons_zero, List.set_cons_succ]
              refine wpAnyH_ready (rs := [9]) (by kernel_rfl) (by simp) ?_
              refine AllReadyH.cons (o := { dst := none, op := Op.store 29 (Operand.tmp 10) (Operand.tmp 8), type := 0, pos := "l4_client.go:129", after := #[{ on := 8, ground := Ground.data }, { on := 5, ground := Ground.data }, { on := 7, ground := Ground.chain }, { on := 0, ground := Ground.phase }, { on := 1, ground := Ground.phase }, { on := 2, ground := Ground.phase }, { on := 3, ground := Ground.phase }, { on := 4, ground := Ground.phase }, { on := 5, ground := Ground.phase }, { on := 6, ground := Ground.phase }, { on := 7, ground := Ground.phase }], guard := none }) rfl (fun K hK => ?k320) AllReadyH.nil
              case k320 =>
                have hb7 := F0.out
                have v7_ : V7.cell? ⟨w.heap.size, 7, none⟩ = some (.slice A2 c.f4.length c2) := by simp [World.cell?, hb7]
                have u7_ : V7.frozen? ⟨w.heap.size, 7, none⟩ = false := by simp [World.frozen?, hb7]
                go_simp
                generalize hV9 : World.setCell V7 ⟨w.heap.size, 7, none⟩ _ = V9
                have G9 : V7.grownBy V9 (some (w.heap.size)) := by rw [← hV9]; exact grown_set1 _ _ _ _
                have FF : V9.heap[w.heap.size]? = some (.cells #[.string c.f0, .string c.f1.f0.f0, .string c.f1.f0.f1, .slice B0 c.f1.f1.length d0, .slice B1 c.f1.f2.length d1, .int .i64 c.f2, .int .i64 c.f3, .slice B2 c.f4.length d2] 31 (0, 0)) := by rw [← hV9, blk_set1 (F0.out) 7 _]; simp
                have BB : Below w.heap.size w V9 := by rw [← hV9]; exact (bel_set hHeld _ (Nat.le_refl _))
                clear hV9
                refine hK.out _ _ ?h321 (fun hHeld => ?j321)
                case h321 => exact BB
                clear hK K
                try simp only [Act.put, List.setIfInBounds_toArray, List.set_cons_zero, List.set_cons_succ]
                replace U0 := Aside0.mk (R_else U0.out rfl G9 (Kd.R_ne U0.out F0.out (by decide)))
                replace U1 := Aside0.mk (R_else U1.out rfl G9 (Kd.R_ne U1.out F0.out (by decide)))
                replace U2 := Aside0.mk (R_else U2.out rfl G9 (Kd.R_ne U2.out F0.out (by decide)))
                replace F0 := Aside0.mk FF
                clear FF
                replace F1 := Aside0.mk ((G9.block _ (blk_lt F1.out) (fun e => by have e := Option.some.inj e; omega)).trans F1.out)
                refine wpAnyH_done (by kernel_rfl) ?_ _
                exact HKK.out B0 d0 B1 d1 B2 d2 V9 ⟨hHeld, blk_lt F1.out, F0.out, F1.out, U0.out, U1.out, U2.out⟩
      case k310 =>
        have y47_ : V0.cell? ⟨w.heap.size, 7, none⟩ = some (.slice A2 c.f4.length c2) := by simp [World.cell?, F0.out]
        go_simp
        refine hK.out _ _ ?h322 (fun hHeld => ?j322)
        case h322 => exact hHeld
        clear hK K
        try simp only [Act.put, List.setIfInBounds_toArray, List.set_cons_zero, List.set_cons_succ]
        refine wpAnyH_ready (rs := [2]) (by kernel_rfl) (by simp) ?_
        refine AllReadyH.cons (o := { dst := some 5, op := Op.call { callee := Callee.value (Operand.func 77), args := #[Operand.tmp 4], argTypes := #[28] }, type := 28, pos := "l4_client.go:129", after := #[{ on := 1, ground := Ground.data }], guard := none }) rfl (fun K hK => ?k323) AllReadyH.nil
        case k323 =>
          have hsl2 : w.heap.size ≤ V0.heap.size := (hHeld).size
          go_simp
          refine (hc0 _ hHeld).mono ?_
          rintro e V2 ⟨B0, d0, B1, d1, rfl, ga0, ga1, b2⟩
          refine hK.out _ _ ?h324 (fun hHeld => ?j324)
          case h324 => exact bel_then hHeld b2
          clear hK K
          try simp only [Act.put, List.setIfInBounds_toArray, List.set_cons_zero, List.set_cons_succ]
          have U0 := Aside0.mk (Kd.R_lower (base' := w.heap.size) ga0 hsl2)
          have U1 := Aside0.mk (Kd.R_lower (base' := w.heap.size) ga1 hsl2)
          clear ga0 ga1 hsl2
          replace F0 := Aside0.mk (below_blk F0.out b2)
          replace F1 := Aside0.mk (below_blk F1.out b2)
          refine wpAnyH_take (i := 6) (oi := { dst := some 9, op := Op.fieldAddr 31 (Operand.tmp 1) 1, type := 0, pos := "l4_client.go:129", after := #[{ on := 0, ground := Ground.phase }, { on := 1, ground := Ground.phase }, { on := 2, ground := Ground.phase }, { on := 3, ground := Ground.phase }, { on := 4, ground := Ground.phase }, { on := 5, ground := Ground.textOnly Departure.lateStoresUnsure }], guard := none }) (v := ?v325) rfl (by kernel_rfl) (by kernel_rfl) (by kernel_rfl) (fun _ _ _ h => h) (Or.inl ⟨by rfl, ?y325⟩) (by assumption) ?r325
          case y325 => intro w_ hSw; (try dsimp only at hSw); go_simp; (try (with_reducible rfl))
          try simp only [Act.put, List.setIfInBounds_toArray, List.set_cons_zero, List.set_cons_succ]
          refine wpAnyH_ready (rs := [5]) (by kernel_rfl) (by simp) ?_
          refine AllReadyH.cons (o := { dst := some 8, op := Op.call { callee := Callee.value (Operand.func 78), args := #[Operand.tmp 7], argTypes := #[29] }, type := 29, pos := "l4_client.go:129", after := #[{ on := 4, ground := Ground.data }, { on := 2, ground := Ground.chain }], guard := none }) rfl (fun K hK => ?k326) AllReadyH.nil
          case k326 =>
            have hsl5 : w.heap.size ≤ V2.heap.size := (hHeld).size
            go_simp
            refine (hc1 _ hHeld).mono ?_
            rintro e V5 ⟨B2, d2, rfl, ga0, b5⟩
            refine hK.out _ _ ?h327 (fun hHeld => ?j327)
            case h327 => exact bel_then hHeld b5
            clear hK K
            try simp only [Act.put, List.setIfInBounds_toArray, List.set_cons_zero, List.set_cons_succ]
            have U2 := Aside0.mk (Kd.R_lower (base' := w.heap.size) ga0 hsl5)
            clear ga0 hsl5
            replace F0 := Aside0.mk (below_blk F0.out b5)
            replace F1 := Aside0.mk (below_blk F1.out b5)
            replace U0 := Aside0.mk (Kd.R_below U0.out b5)
            replace U1 := Aside0.mk (Kd.R_below U1.out b5)
            refine wpAnyH_ready (rs := [7]) (by kernel_rfl) (by simp) ?_
            refine AllReadyH.cons (o := { dst := none, op := Op.store 28 (Operand.tmp 9) (Operand.tmp 5), type := 0, pos := "l4_client.go:129", after := #[{ on := 6, ground := Ground.data }, { on := 2, ground := Ground.data }, { on := 5, ground := Ground.chain }, { on := 0, ground := Ground.phase }, { on := 1, ground := Ground.phase }, { on := 2, ground := Ground.phase }, { on := 3, ground := Ground.phase }, { on := 4, ground := Ground.phase }, { on := 5, ground := Ground.textOnly Departure.lateStoresUnsure }], guard := none }) rfl (fun K hK => ?k328) AllReadyH.nil
            case k328 =>
              have hb7 := F0.out
              have v1_ : V5.cell? ⟨w.heap.size, 1, none⟩ = some (.string c.f1.f0.f0) := by simp [World.cell?, hb7]
              have v2_ : V5.cell? ⟨w.heap.size, 2, none⟩ = some (.string c.f1.f0.f1) := by simp [World.cell?, hb7]
              have v3_ : V5.cell? ⟨w.heap.size, 3, none⟩ = some (.slice A0 c.f1.f1.length c0) := by simp [World.cell?, hb7]
              have v4_ : V5.cell? ⟨w.heap.size, 4, none⟩ = some (.slice A1 c.f1.f2.length c1) := by simp [World.cell?, hb7]
              have u1_ : V5.frozen? ⟨w.heap.size, 1, none⟩ = false := by simp [World.frozen?, hb7]
              have u2_ : V5.frozen? ⟨w.heap.size, 2, none⟩ = false := by simp [World.frozen?, hb7]
              have u3_ : V5.frozen? ⟨w.heap.size, 3, none⟩ = false := by simp [World.frozen?, hb7]
              have u4_ : V5.frozen? ⟨w.heap.size, 4, none⟩ = false := by simp [World.frozen?, hb7]
              go_simp
              generalize hV7 : World.setCell (World.setCell (World.setCell (World.setCell V5 ⟨w.heap.size, 1, none⟩ _) ⟨w.heap.size, 2, none⟩ _) ⟨w.heap.size, 3, none⟩ _) ⟨w.heap.size, 4, none⟩ _ = V7
              have G7 : V5.grownBy V7 (some (w.heap.size)) := by rw [← hV7]; exact (((grown_set1 _ _ _ _).trans (grown_set1 _ _ _ _)).trans (grown_set1 _ _ _ _)).trans (grown_set1 _ _ _ _)
              have FF : V7.heap[w.heap.size]? = some (.cells #[.string c.f0, .string c.f1.f0.f0, .string c.f1.f0.f1, .slice B0 c.f1.f1.length d0, .slice B1 c.f1.f2.length d1, .int .i64 c.f2, .int .i64 c.f3, .slice A2 c.f4.length c2] 31 (0, 0)) := by rw [← hV7, blk_set1 (blk_set1 (blk_set1 (blk_set1 (F0.out) 1 _) 2 _) 3 _) 4 _]; simp
              have BB : Below w.heap.size w V7 := by rw [← hV7]; exact (bel_set (bel_set (bel_set (bel_set hHeld _ (Nat.le_refl _)) _ (Nat.le_refl _)) _ (Nat.le_refl _)) _ (Nat.le_refl _))
              clear hV7
              refine hK.out _ _ ?h329 (fun hHeld => ?j329)
              case h329 => exact BB
              clear hK K
              try simp only [Act.put, List.setIfInBounds_toArray, List.set_cons_zero, List.set_cons_succ]
              replace U0 := Aside0.mk (R_else U0.out rfl G7 (Kd.R_ne U0.out F0.out (by decide)))
              replace U1 := Aside0.mk (R_else U1.out rfl G7 (Kd.R_ne U1.out F0.out (by decide)))
              replace U2 := Aside0.mk (R_else U2.out rfl G7 (Kd.R_ne U2.out F0.out (by decide)))
              replace F0 := Aside0.mk FF
              clear FF
              replace F1 := Aside0.mk ((G7.block _ (blk_lt F1.out) (fun e => by have e := Option.some.inj e; omega)).trans F1.out)
              refine wpAnyH_take (i := 8) (oi := { dst := some 10, op := Op.fieldAddr 31 (Operand.tmp 1) 4, type := 0, pos := "l4_client.go:129", after := #[{ on := 0, ground := Ground.phase }, { on := 1, ground := Ground.phase }, { on := 2, ground := Ground.phase }, { on := 3, ground := Ground.phase }, { on := 4, ground := Ground.phase }, { on := 5, ground := Ground.phase }, { on := 6, ground := Ground.phase }, { on := 7, ground := Ground.phase }], guard := none }) (v := ?v330) rfl (by kernel_rfl) (by kernel_rfl) (by kernel_rfl) (fun _ _ _ h => h) (Or.inl ⟨by rfl, ?y330⟩) (by assumption) ?r330
              case y330 => intro w_ hSw; (try dsimp only at hSw); go_simp; (try (with_reducible rfl))
              try simp only [Act.put, List.setIfInBounds_toArray, List.set_cons_zero, List.set_cons_succ]
              refine wpAnyH_ready (rs := [9]) (by kernel_rfl) (by simp) ?_
              refine AllReadyH.cons (o := { dst := none, op := Op.store 29 (Operand.tmp 10) (Operand.tmp 8), type := 0, pos := "l4_client.go:129", after := #[{ on := 8, ground := Ground.data }, { on := 5, ground := Ground.data }, { on := 7, ground := Ground.chain }, { on := 0, ground := Ground.phase }, { on := 1, ground := Ground.phase }, { on := 2, ground := Ground.phase }, { on := 3, ground := Ground.phase }, { on := 4, ground := Ground.phase }, { on := 5, ground := Ground.phase }, { on := 6, ground := Ground.phase }, { on := 7, ground := Ground.phase }], guard := none }) rfl (fun K hK => ?k331) AllReadyH.nil
              case k331 =>
                have hb7 := F0.out
                have v7_ : V7.cell? ⟨w.heap.size, 7, none⟩ = some (.slice A2 c.f4.length c2) := by simp [World.cell?, hb7]
                have u7_ : V7.frozen? ⟨w.heap.size, 7, none⟩ = false := by simp [World.frozen?, hb7]
                go_simp
                generalize hV9 : World.setCell V7 ⟨w.heap.size, 7, none⟩ _ = V9
                have G9 : V7.grownBy V9 (some (w.heap.size)) := by rw [← hV9]; exact grown_set1 _ _ _ _
                have FF : V9.heap[w.heap.size]? = some (.cells #[.string c.f0, .string c.f1.f0.f0, .string c.f1.f0.f1, .slice B0 c.f1.f1.length d0, .slice B1 c.f1.f2.length d1, .int .i64 c.f2, .int .i64 c.f3, .slice B2 c.f4.length d2] 31 (0, 0)) := by rw [← hV9, blk_set1 (F0.out) 7 _]; simp
                have BB : Below w.heap.size w V9 := by rw [← hV9]; exact (bel_set hHeld _ (Nat.le_refl _))
                clear hV9
                refine hK.out _ _ ?h332 (fun hHeld => ?j332)
                case h332 => exact BB
                clear hK K
                try simp only [Act.put, List.setIfInBounds_toArray, List.set_cons_zero, List.set_cons_succ]
                replace U0 := Aside0.mk (R_else U0.out rfl G9 (Kd.R_ne U0.out F0.out (by decide)))
                replace U1 := Aside0.mk (R_else U1.out rfl G9 (Kd.R_ne U1.out F0.out (by decide)))
                replace U2 := Aside0.mk (R_else U2.out rfl G9 (Kd.R_ne U2.out F0.out (by decide)))
                replace F0 := Aside0.mk FF
                clear FF
                replace F1 := Aside0.mk ((G9.block _ (blk_lt F1.out) (fun e => by have e := Option.some.inj e; omega)).trans F1.out)
                refine wpAnyH_done (by kernel_rfl) ?_ _
                exact HKK.out B0 d0 B1 d1 B2 d2 V9 ⟨hHeld, blk_lt F1.out, F0.out, F1.out, U0.out, U1.out, U2.out⟩
    case k307 =>
      have y47_ : V0.cell? ⟨w.heap.size, 7, none⟩ = some (.slice A2 c.f4.length c2) := by simp [World.cell?, F0.out]
      go_simp
      refine hK.out _ _ ?h333 (fun hHeld => ?j333)
      case h333 => exact hHeld
      clear hK K
      try simp only [Act.put, List.setIfInBounds_toArray, List.set_cons_zero, List.set_cons_succ]
      refine wpAnyH_ready (rs := [1]) (by kernel_rfl) (by simp) ?_
      refine AllReadyH.cons (o := { dst := some 4, op := Op.load 28 (Operand.tmp 3), type := 28, pos := "l4_client.go:129", after := #[{ on := 0, ground := Ground.data }], guard := none }) rfl (fun K hK => ?k334) AllReadyH.nil
      case k334 =>
        have y11_ : V0.cell? ⟨w.heap.size, 1, none⟩ = some (.string c.f1.f0.f0) := by simp [World.cell?, F0.out]
        have y12_ : V0.cell? ⟨w.heap.size, 2, none⟩ = some (.string c.f1.f0.f1) := by simp [World.cell?, F0.out]
        have y13_ : V0.cell? ⟨w.heap.size, 3, none⟩ = some (.slice A0 c.f1.f1.length c0) := by simp [World.cell?, F0.out]
        have y14_ : V0.cell? ⟨w.heap.size, 4, none⟩ = some (.slice A1 c.f1.f2.length c1) := by simp [World.cell?, F0.out]
        go_simp
        refine hK.out _ _ ?h335 (fun hHeld => ?j335)
        case h335 => exact hHeld
        clear hK K
        try simp only [Act.put, List.setIfInBounds_toArray, List.set_cons_zero, List.set_cons_succ]
        refine wpAnyH_ready (rs := [2]) (by kernel_rfl) (by simp) ?_
        refine AllReadyH.cons (o := { dst := some 5, op := Op.call { callee := Callee.value (Operand.func 77), args := #[Operand.tmp 4], argTypes := #[28] }, type := 28, pos := "l4_client.go:129", after := #[{ on := 1, ground := Ground.data }], guard := none }) rfl (fun K hK => ?k336) AllReadyH.nil
        case k336 =>
          have hsl2 : w.heap.size ≤ V0.heap.size := (hHeld).size
          go_simp
          refine (hc0 _ hHeld).mono ?_
          rintro e V2 ⟨B0, d0, B1, d1, rfl, ga0, ga1, b2⟩
          refine hK.out _ _ ?h337 (fun hHeld => ?j337)
          case h337 => exact bel_then hHeld b2
          clear hK K
          try simp only [Act.put, List.setIfInBounds_toArray, List.set_cons_zero, List.set_cons_succ]
          have U0 := Aside0.mk (Kd.R_lower (base' := w.heap.size) ga0 hsl2)
          have U1 := Aside0.mk (Kd.R_lower (base' := w.heap.size) ga1 hsl2)
          clear ga0 ga1 hsl2
          replace F0 := Aside0.mk (below_blk F0.out b2)
          replace F1 := Aside0.mk (below_blk F1.out b2)
          refine wpAnyH_take (i := 6) (oi := { dst := some 9, op := Op.fieldAddr 31 (Operand.tmp 1) 1, type := 0, pos := "l4_client.go:129", after := #[{ on := 0, ground := Ground.phase }, { on := 1, ground := Ground.phase }, { on := 2, ground := Ground.phase }, { on := 3, ground := Ground.phase }, { on := 4, ground := Ground.phase }, { on := 5, ground := Ground.textOnly Departure.lateStoresUnsure }], guard := none }) (v := ?v338) rfl (by kernel_rfl) (by kernel_rfl) (by kernel_rfl) (fun _ _ _ h => h) (Or.inl ⟨by rfl, ?y338⟩) (by assumption) ?r338
          case y338 => intro w_ hSw; (try dsimp only at hSw); go_simp; (try (with_reducible rfl))
          try simp only [Act.put, List.setIfInBounds_toArray, List.set_cons_zero, List.set_cons_succ]
          refine wpAnyH_ready (rs := [5]) (by kernel_rfl) (by simp) ?_
          refine AllReadyH.cons (o := { dst := some 8, op := Op.call { callee := Callee.value (Operand.func 78), args := #[Operand.tmp 7], argTypes := #[29] }, type := 29, pos := "l4_client.go:129", after := #[{ on := 4, ground := Ground.data }, { on := 2, ground := Ground.chain }], guard := none }) rfl (fun K hK => ?k339) AllReadyH.nil
          case k339 =>
            have hsl5 : w.heap.size ≤ V2.heap.size := (hHeld).size
            go_simp
            refine (hc1 _ hHeld).mono ?_
            rintro e V5 ⟨B2, d2, rfl, ga0, b5⟩
            refine hK.out _ _ ?h340 (fun hHeld => ?j340)
            case h340 => exact bel_then hHeld b5
            clear hK K
            try simp only [Act.put, List.setIfInBounds_toArray, List.set_cons_zero, List.set_cons_succ]
            have U2 := Aside0.mk (Kd.R_lower (base' := w.heap.size) ga0 hsl5)
            clear ga0 hsl5
            replace F0 := Aside0.mk (below_blk F0.out b5)
            replace F1 := Aside0.mk (below_blk F1.out b5)
            replace U0 := Aside0.mk (Kd.R_below U0.out b5)
            replace U1 := Aside0.mk (Kd.R_below U1.out b5)
            refine wpAnyH_ready (rs := [7]) (by kernel_rfl) (by simp) ?_
            refine AllReadyH.cons (o := { dst := none, op := Op.store 28 (Operand.tmp 9) (Operand.tmp 5), type := 0, pos := "l4_client.go:129", after := #[{ on := 6, ground := Ground.data }, { on := 2, ground := Ground.data }, { on := 5, ground := Ground.chain }, { on := 0, ground := Ground.phase }, { on := 1, ground := Ground.phase }, { on := 2, ground := Ground.phase }, { on := 3, ground := Ground.phase }, { on := 4, ground := Ground.phase }, { on := 5, ground := Ground.textOnly Departure.lateStoresUnsure }], guard := none }) rfl (fun K hK => ?k341) AllReadyH.nil
            case k341 =>
              have hb7 := F0.out
              have v1_ : V5.cell? ⟨w.heap.size, 1, none⟩ = some (.string c.f1.f0.f0) := by simp [World.cell?, hb7]
              have v2_ : V5.cell? ⟨w.heap.size, 2, none⟩ = some (.string c.f1.f0.f1) := by simp [World.cell?, hb7]
              have v3_ : V5.cell? ⟨w.heap.size, 3, none⟩ = some (.slice A0 c.f1.f1.length c0) := by simp [World.cell?, hb7]
              have v4_ : V5.cell? ⟨w.heap.size, 4, none⟩ = some (.slice A1 c.f1.f2.length c1) := by simp [World.cell?, hb7]
              have u1_ : V5.frozen? ⟨w.heap.size, 1, none⟩ = false := by simp [World.frozen?, hb7]
              have u2_ : V5.frozen? ⟨w.heap.size, 2, none⟩ = false := by simp [World.frozen?, hb7]
              have u3_ : V5.frozen? ⟨w.heap.size, 3, none⟩ = false := by simp [World.frozen?, hb7]
              have u4_ : V5.frozen? ⟨w.heap.size, 4, none⟩ = false := by simp [World.frozen?, hb7]
              go_simp
              generalize hV7 : World.setCell (World.setCell (World.setCell (World.setCell V5 ⟨w.heap.size, 1, none⟩ _) ⟨w.heap.size, 2, none⟩ _) ⟨w.heap.size, 3, none⟩ _) ⟨w.heap.size, 4, none⟩ _ = V7
              have G7 : V5.grownBy V7 (some (w.heap.size)) := by rw [← hV7]; exact (((grown_set1 _ _ _ _).trans (grown_set1 _ _ _ _)).trans (grown_set1 _ _ _ _)).trans (grown_set1 _ _ _ _)
              have FF : V7.heap[w.heap.size]? = some (.cells #[.string c.f0, .string c.f1.f0.f0, .string c.f1.f0.f1, .slice B0 c.f1.f1.length d0, .slice B1 c.f1.f2.length d1, .int .i64 c.f2, .int .i64 c.f3, .slice A2 c.f4.length c2] 31 (0, 0)) := by rw [← hV7, blk_set1 (blk_set1 (blk_set1 (blk_set1 (F0.out) 1 _) 2 _) 3 _) 4 _]; simp
              have BB : Below w.heap.size w V7 := by rw [← hV7]; exact (bel_set (bel_set (bel_set (bel_set hHeld _ (Nat.le_refl _)) _ (Nat.le_refl _)) _ (Nat.le_refl _)) _ (Nat.le_refl _))
              clear hV7
              refine hK.out _ _ ?h342 (fun hHeld => ?j342)
              case h342 => exact BB
              clear hK K
              try simp only [Act.put, List.setIfInBounds_toArray, List.set_cons_zero, List.set_cons_succ]
              replace U0 := Aside0.mk (R_else U0.out rfl G7 (Kd.R_ne U0.out F0.out (by decide)))
              replace U1 := Aside0.mk (R_else U1.out rfl G7 (Kd.R_ne U1.out F0.out (by decide)))
              replace U2 := Aside0.mk (R_else U2.out rfl G7 (Kd.R_ne U2.out F0.out (by decide)))
              replace F0 := Aside0.mk FF
              clear FF
              replace F1 := Aside0.mk ((G7.block _ (blk_lt F1.out) (fun e => by have e := Option.some.inj e; omega)).trans F1.out)
              refine wpAnyH_take (i := 8) (oi := { dst := some 10, op := Op.fieldAddr 31 (Operand.tmp 1) 4, type := 0, pos := "l4_client.go:129", after := #[{ on := 0, ground := Ground.phase }, { on := 1, ground := Ground.phase }, { on := 2, ground := Ground.phase }, { on := 3, ground := Ground.phase }, { on := 4, ground := Ground.phase }, { on := 5, ground := Ground.phase }, { on := 6, ground := Ground.phase }, { on := 7, ground := Ground.phase }], guard := none }) (v := ?v343) rfl (by kernel_rfl) (by kernel_rfl) (by kernel_rfl) (fun _ _ _ h => h) (Or.inl ⟨by rfl, ?y343⟩) (by assumption) ?r343
              case y343 => intro w_ hSw; (try dsimp only at hSw); go_simp; (try (with_reducible rfl))
              try simp only [Act.put, List.setIfInBounds_toArray, List.set_cons_zero, List.set_cons_succ]
              refine wpAnyH_ready (rs := [9]) (by kernel_rfl) (by simp) ?_
              refine AllReadyH.cons (o := { dst := none, op := Op.store 29 (Operand.tmp 10) (Operand.tmp 8), type := 0, pos := "l4_client.go:129", after := #[{ on := 8, ground := Ground.data }, { on := 5, ground := Ground.data }, { on := 7, ground := Ground.chain }, { on := 0, ground := Ground.phase }, { on := 1, ground := Ground.phase }, { on := 2, ground := Ground.phase }, { on := 3, ground := Ground.phase }, { on := 4, ground := Ground.phase }, { on := 5, ground := Ground.phase }, { on := 6, ground := Ground.phase }, { on := 7, ground := Ground.phase }], guard := none }) rfl (fun K hK => ?k344) AllReadyH.nil
              case k344 =>
                have hb7 := F0.out
                have v7_ : V7.cell? ⟨w.heap.size, 7, none⟩ = some (.slice A2 c.f4.length c2) := by simp [World.cell?, hb7]
                have u7_ : V7.frozen? ⟨w.heap.size, 7, none⟩ = false := by simp [World.frozen?, hb7]
                go_simp
                generalize hV9 : World.setCell V7 ⟨w.heap.size, 7, none⟩ _ = V9
                have G9 : V7.grownBy V9 (some (w.heap.size)) := by rw [← hV9]; exact grown_set1 _ _ _ _
                have FF : V9.heap[w.heap.size]? = some (.cells #[.string c.f0, .string c.f1.f0.f0, .string c.f1.f0.f1, .slice B0 c.f1.f1.length d0, .slice B1 c.f1.f2.length d1, .int .i64 c.f2, .int .i64 c.f3, .slice B2 c.f4.length d2] 31 (0, 0)) := by rw [← hV9, blk_set1 (F0.out) 7 _]; simp
                have BB : Below w.heap.size w V9 := by rw [← hV9]; exact (bel_set hHeld _ (Nat.le_refl _))
                clear hV9
                refine hK.out _ _ ?h345 (fun hHeld => ?j345)
                case h345 => exact BB
                clear hK K
                try simp only [Act.put, List.setIfInBounds_toArray, List.set_cons_zero, List.set_cons_succ]
                replace U0 := Aside0.mk (R_else U0.out rfl G9 (Kd.R_ne U0.out F0.out (by decide)))
                replace U1 := Aside0.mk (R_else U1.out rfl G9 (Kd.R_ne U1.out F0.out (by decide)))
                replace U2 := Aside0.mk (R_else U2.out rfl G9 (Kd.R_ne U2.out F0.out (by decide)))
                replace F0 := Aside0.mk FF
                clear FF
                replace F1 := Aside0.mk ((G9.block _ (blk_lt F1.out) (fun e => by have e := Option.some.inj e; omega)).trans F1.out)
                refine wpAnyH_done (by kernel_rfl) ?_ _
                exact HKK.out B0 d0 B1 d1 B2 d2 V9 ⟨hHeld, blk_lt F1.out, F0.out, F1.out, U0.out, U1.out, U2.out⟩
  case hk =>
    intro B0 d0 B1 d1 B2 d2 V ⟨BV, sV, f0, f1, u0, u1, u2⟩
    clear HST HF0 HF1 join
    have U0 := Aside0.mk u0
    have U1 := Aside0.mk u1
    have U2 := Aside0.mk u2
    have F1 := Aside0.mk f1
    have F0 := Aside0.mk f0
    have BW := Aside0.mk BV
    clear u0 u1 u2 f0 f1 BV
    have m0_ : V.cell? ⟨w.heap.size, 0, none⟩ = some (.string c.f0) := by simp [World.cell?, F0.out]
    have m1_ : V.cell? ⟨w.heap.size, 1, none⟩ = some (.string c.f1.f0.f0) := by simp [World.cell?, F0.out]
    have m2_ : V.cell? ⟨w.heap.size, 2, none⟩ = some (.string c.f1.f0.f1) := by simp [World.cell?, F0.out]
    have m3_ : V.cell? ⟨w.heap.size, 3, none⟩ = some (.slice B0 c.f1.f1.length d0) := by simp [World.cell?, F0.out]
    have m4_ : V.cell? ⟨w.heap.size, 4, none⟩ = some (.slice B1 c.f1.f2.length d1) := by simp [World.cell?, F0.out]
    have m5_ : V.cell? ⟨w.heap.size, 5, none⟩ = some (.int .i64 c.f2) := by simp [World.cell?, F0.out]
    have m6_ : V.cell? ⟨w.heap.size, 6, none⟩ = some (.int .i64 c.f3) := by simp [World.cell?, F0.out]
    have m7_ : V.cell? ⟨w.heap.size, 7, none⟩ = some (.slice B2 c.f4.length d2) := by simp [World.cell?, F0.out]
    have k0_ : V.cell? ⟨w.heap.size + 1, 0, none⟩ = some (.string ⟨#[]⟩) := by simp [World.cell?, F1.out]
    have k1_ : V.cell? ⟨w.heap.size + 1, 1, none⟩ = some (.string ⟨#[]⟩) := by simp [World.cell?, F1.out]
    have k2_ : V.cell? ⟨w.heap.size + 1, 2, none⟩ = some (.string ⟨#[]⟩) := by simp [World.cell?, F1.out]
    have k3_ : V.cell? ⟨w.heap.size + 1, 3, none⟩ = some (.slice none 0 0) := by simp [World.cell?, F1.out]
    have k4_ : V.cell? ⟨w.heap.size + 1, 4, none⟩ = some (.slice none 0 0) := by simp [World.cell?, F1.out]
    have k5_ : V.cell? ⟨w.heap.size + 1, 5, none⟩ = some (.int .i64 0) := by simp [World.cell?, F1.out]
    have k6_ : V.cell? ⟨w.heap.size + 1, 6, none⟩ = some (.int .i64 0) := by simp [World.cell?, F1.out]
    have k7_ : V.cell? ⟨w.heap.size + 1, 7, none⟩ = some (.slice none 0 0) := by simp [World.cell?, F1.out]
    have kz0_ : V.frozen? ⟨w.heap.size + 1, 0, none⟩ = false := by simp [World.frozen?, F1.out]
    have kz1_ : V.frozen? ⟨w.heap.size + 1, 1, none⟩ = false := by simp [World.frozen?, F1.out]
    have kz2_ : V.frozen? ⟨w.heap.size + 1, 2, none⟩ = false := by simp [World.frozen?, F1.out]
    have kz3_ : V.frozen? ⟨w.heap.size + 1, 3, none⟩ = false := by simp [World.frozen?, F1.out]
    have kz4_ : V.frozen? ⟨w.heap.size + 1, 4, none⟩ = false := by simp [World.frozen?, F1.out]
    have kz5_ : V.frozen? ⟨w.heap.size + 1, 5, none⟩ = false := by simp [World.frozen?, F1.out]
    have kz6_ : V.frozen? ⟨w.heap.size + 1, 6, none⟩ = false := by simp [World.frozen?, F1.out]
    have kz7_ : V.frozen? ⟨w.heap.size + 1, 7, none⟩ = false := by simp [World.frozen?, F1.out]
    go_wp2
    refine bodyPost_ret (v := .agg #[.string c.f0, .string c.f1.f0.f0, .string c.f1.f0.f1, .slice B0 c.f1.f1.length d0, .slice B1 c.f1.f2.length d1, .int .i64 c.f2, .int .i64 c.f3, .slice B2 c.f4.length d2]) ?hr rfl ?hp
    case hr => simp [results, Tryz.results33, go_sem, m0_, m1_, m2_, m3_, m4_, m5_, m6_, m7_, k0_, k1_, k2_, k3_, k4_, k5_, k6_, k7_]
    case hp =>
      have b0 := BW.out
      generalize hwz : World.setCell (World.setCell (World.setCell (World.setCell (World.setCell (World.setCell (World.setCell (World.setCell V ⟨w.heap.size + 1, 0, none⟩ _) ⟨w.heap.size + 1, 1, none⟩ _) ⟨w.heap.size + 1, 2, none⟩ _) ⟨w.heap.size + 1, 3, none⟩ _) ⟨w.heap.size + 1, 4, none⟩ _) ⟨w.heap.size + 1, 5, none⟩ _) ⟨w.heap.size + 1, 6, none⟩ _) ⟨w.heap.size + 1, 7, none⟩ _ = wz
      have GZ : V.grownBy wz (some (w.heap.size + 1)) := by rw [← hwz]; exact (((((((grown_set1 _ _ _ _).trans (grown_set1 _ _ _ _)).trans (grown_set1 _ _ _ _)).trans (grown_set1 _ _ _ _)).trans (grown_set1 _ _ _ _)).trans (grown_set1 _ _ _ _)).trans (grown_set1 _ _ _ _)).trans (grown_set1 _ _ _ _)
      have BZ : Below w.heap.size w wz := by rw [← hwz]; exact (bel_set (bel_set (bel_set (bel_set (bel_set (bel_set (bel_set (bel_set b0 _ (by show w.heap.size ≤ w.heap.size + 1; omega)) _ (by show w.heap.size ≤ w.heap.size + 1; omega)) _ (by show w.heap.size ≤ w.heap.size + 1; omega)) _ (by show w.heap.size ≤ w.heap.size + 1; omega)) _ (by show w.heap.size ≤ w.heap.size + 1; omega)) _ (by show w.heap.size ≤ w.heap.size + 1; omega)) _ (by show w.heap.size ≤ w.heap.size + 1; omega)) _ (by show w.heap.size ≤ w.heap.size + 1; omega))
      clear hwz
      exact ⟨B0, d0, B1, d1, B2, d2, rfl, R_else U0.out rfl GZ (Kd.R_ne U0.out F1.out (by decide)), R_else U1.out rfl GZ (Kd.R_ne U1.out F1.out (by decide)), R_else U2.out rfl GZ (Kd.R_ne U2.out F1.out (by decide)), BZ⟩

def has (fs : List Int) (v : Int) : Bool := fs.any fun x => decide (v = x)
def becomes (nv : Int) (fs xs : List Int) : List Int := xs.map fun o => if has fs o then nv else o
set_option maxRecDepth 100000 in
theorem indexInt_any (A : Option Addr) (c : Nat) (fs : List Int) (v : Int) (w : World) (hr : Kd.C (Kd.int .i64) w A fs.length fs) (hlen : fs.length ≤ 1048576) :
    Calls Tryz.prog 130 #[.slice A fs.length c, .int .i64 v] w fun e w' => e = .returned (.int .i64 (idx (fun x => decide (v = x)) fs)) ∧ Below w.heap.size w w' := by
  go_enter Tryz.func130, Tryz.ntmps130
  go_wp2
  go_loopg [5, 8] (fs.length) (fun gg _ s8 wr => ∃ k : Nat, k ≤ fs.length ∧ fs.length - k ≤ gg ∧ s8 = .int .i64 k ∧ Aside0 (Below w.heap.size w wr) ∧ Aside0 (∀ j, j < k → decide (v = fs.getD j 0) = false))
  case atStart => exact ⟨0, Nat.zero_le _, by omega, rfl, ⟨Below.refl _ _⟩, ⟨fun j hj => absurd hj (Nat.not_lt_zero _)⟩⟩
  case round =>
    obtain ⟨k, hk, hg, rfl, BW, H⟩ := hrel
    by_cases hlt : k < fs.length
    · have hlt' : (k : Int) < (fs.length : Int) := by omega
      obtain ⟨ad, e1, h0⟩ := at_Int (Kd.C_below hr BW.out) k hlt
      subst e1
      generalize hy : fs.getD k 0 = y at h0
      have HY := Lib.hid hy
      clear hy hr
      by_cases hq : v = y
      · have HQ := Lib.hid hq
        go_wp2
        go_ret
        refine ⟨reti ?_, BW.out⟩
        rw [idx_hit (fun x => decide (v = x)) fs 0 k hlt (by rw [HY.out]; exact decide_eq_true HQ.out) H.out]
      · have HQ := Lib.hid hq
        go_wp2
        go_roundg (fs.length - (k + 1))
        case measure => omega
        case rel => exact ⟨k + 1, by omega, Nat.le_refl _, by go_num, BW, ⟨fun j hj => by
          by_cases e : j = k
          · subst e; rw [HY.out]; exact decide_eq_false HQ.out
          · exact H.out j (by omega)⟩⟩
    · have hlt' : ¬ (k : Int) < (fs.length : Int) := by omega
      go_wp2
      go_ret
      refine ⟨reti ?_, BW.out⟩
      rw [idx_miss (fun x => decide (v = x)) fs 0 (fun j hj => H.out j (by omega))]
theorem containsInt_any (A : Option Addr) (c : Nat) (fs : List Int) (v : Int) (w : World) (hr : Kd.C (Kd.int .i64) w A fs.length fs) (hlen : fs.length ≤ 1048576) :
    Calls Tryz.prog 79 #[.slice A fs.length c, .int .i64 v] w fun e w' => e = .returned (.bool (has fs v)) ∧ Below w.heap.size w w' := by
  have hcall := fun W (hW : Below w.heap.size w W) => indexInt_any A c fs v W (Kd.C_below hr hW) hlen
  have HI := Lib.hid (idx_any (fun x => decide (v = x)) fs)
  have B0 := Below.refl w.heap.size w
  unfold has
  clear hr
  generalize idx (fun x => decide (v = x)) fs = i at hcall HI
  go_enter Tryz.func79, Tryz.ntmps79
  go_wp2_with (go_at_call 130; refine (hcall _ (by (with_reducible repeat (first | exact B0 | refine bel_alloc ?_ _ | refine bel_set ?_ _ ?_ | refine blw_drewN ?_ _ | refine Below.drew ?_)); all_goals (first | (simp; done) | (simp; omega) | omega))).mono ?_; rintro e w1 ⟨rfl, b1⟩; have B1 : Below w.heap.size w w1 := bel_then (by (with_reducible repeat (first | exact B0 | refine bel_alloc ?_ _ | refine bel_set ?_ _ ?_ | refine blw_drewN ?_ _ | refine Below.drew ?_)); all_goals (first | (simp; done) | (simp; omega) | omega)) b1; clear b1)
  go_ret
  exact ⟨retb HI.out, B1⟩
theorem C_apart {w w1 : World} {A : Option Addr} {n : Nat} {xs : List Int} {row : Option Nat} (h : Kd.C (Kd.int .i64) w A n xs) (hg : w.grownBy w1 row) (hf : ∀ ad, A = some ad → some ad.block ≠ row) : Kd.C (Kd.int .i64) w1 A n xs := by
  obtain ⟨h1, h2, h3⟩ := h
  refine ⟨h1, h2, fun hp => ?_⟩
  obtain ⟨ad, e, hc⟩ := h3 hp
  refine ⟨ad, e, fun j p hj => ?_⟩
  obtain ⟨c, hcl, hR, hcc⟩ := hc j p hj
  exact ⟨c, hcl, hR, fun i u hu => by
    have h := hcc i u hu
    have hb := World.block_lt_of_cell? w _ h
    exact (World.cell?_of_block (hg.block _ hb (by have h5 := hf ad e; unfold Addr.add; split <;> exact h5))).trans h⟩

set_option maxRecDepth 100000 in
set_option maxHeartbeats 4000000 in
theorem become_any (b : Nat) (cs : Array Value) (t n cap : Nat) (B : Option Addr) (xs : List Int) (nv : Int) (A : Option Addr) (c : Nat) (fs : List Int) (base : Nat) (ok : Nat → Prop) (w : World) (hF : w.heap[b]? = some (.cells cs t (0, 0))) (h7 : cs[7]? = some (.slice B n cap))
    (hR : Kd.R (Kd.int .i64) 3 w base ok (.slice B n cap) xs) (hlen : n ≤ 1048576) (hA : Kd.C (Kd.int .i64) w A fs.length fs) (hfl : fs.length ≤ 1048576) (hfar : ∀ ad, A = some ad → some ad.block ≠ (Value.slice B n cap).ownBlock) (hbb : some b ≠ (Value.slice B n cap).ownBlock) :
    Calls Tryz.prog 34 #[.pointer (some ⟨b, 0, none⟩), .int .i64 nv, .slice A fs.length c] w fun e w' => (∃ v, e = .returned v) ∧ Kd.R (Kd.int .i64) 3 w' base ok (.slice B n cap) (becomes nv fs xs) ∧ w.grownBy w' (Value.slice B n cap).ownBlock := by
  have hn0 : n = xs.length := (Kd.R_reads' hR).1
  have HN := Lib.hid hn0
  have HA := Lib.hid hA
  have HFar := Lib.hid hfar
  have HBB := Lib.hid hbb
  have HF := Lib.hid hF
  have hc7 : w.cell? ⟨b, 7, none⟩ = some (.slice B n cap) := by simp [World.cell?, hF, h7]
  have HC7 := Lib.hid hc7
  have hbl := blk_lt hF
  clear hn0 hA hfar hbb hF h7
  go_enter Tryz.func34, Tryz.ntmps34
  go_wp2
  clear hc7
  go_loopg [6, 7, 13] n (fun gq _ _ v13 wr => ∃ (k : Nat) (zs : List Int), k ≤ n ∧ n - k ≤ gq ∧ v13 = .int .i64 (k : Int) ∧ Aside0 (zs = becomes nv fs (xs.take k) ++ xs.drop k) ∧ Aside0 (Kd.R (Kd.int .i64) 3 wr base ok (.slice B n cap) zs) ∧ Aside0 (w.grownBy wr (Value.slice B n cap).ownBlock))
  case atStart => exact ⟨0, xs, Nat.zero_le _, by omega, rfl, ⟨by simp [becomes]⟩, ⟨hR⟩, ⟨grown_of_below (Below.refl _ _) _⟩⟩
  case round =>
    clear hR
    obtain ⟨k, zs, hk, hg, rfl, HZ, HR, HG⟩ := hrel
    have hc7 : wr.cell? ⟨b, 7, none⟩ = some (.slice B n cap) := (World.cell?_of_block (HG.out.block b hbl HBB.out)).trans HC7.out
    have hbl2 : b < wr.heap.size := Nat.lt_of_lt_of_le hbl HG.out.size
    by_cases hlt : k < n
    · have hlt' : (k : Int) < (n : Int) := by omega
      have HLk : k < zs.length := by rw [HZ.out]; simp [becomes]; have := HN.out; omega
      have hlz : zs.length = n := ((Kd.R_reads' HR.out).1).symm
      have HLZ := Lib.hid hlz
      clear hlz
      obtain ⟨gb, hB, hgb, hgs⟩ := own_form2 HR.out (by omega)
      have hcall := fun (v : Int) (W : World) (hW : Below wr.heap.size wr W) => containsInt_any A c fs v W (Kd.C_below (C_apart HA.out HG.out HFar.out) hW) hfl
      have hbg : ¬ b = gb := fun e => HBB.out (by rw [hB, e]; rfl)
      subst hB
      have hx : zs.getD k 0 = xs.getD k 0 := by
        rw [HZ.out, List.getD, List.getD, List.getElem?_append_right (by simp [becomes]; omega), List.getElem?_drop]
        simp [becomes]
        congr 2
        have := HN.out
        omega
      have hst : ∀ y, zs.set k y = becomes nv fs (xs.take k) ++ y :: xs.drop (k + 1) := fun y => by
        have hl : (becomes nv fs (xs.take k)).length = k := by simp [becomes]; have := HN.out; omega
        rw [HZ.out, List.set_append_right _ _ (by omega), hl, Nat.sub_self, List.drop_eq_getElem_cons (by rw [← HN.out]; exact hlt), List.set_cons_zero]
      have hbe : becomes nv fs (xs.take (k + 1)) = becomes nv fs (xs.take k) ++ [if has fs (xs.getD k 0) then nv else xs.getD k 0] := by
        have hkx : k < xs.length := by rw [← HN.out]; exact hlt
        unfold becomes
        rw [List.take_succ_eq_append_getElem hkx, List.map_append, List.getD, List.getElem?_eq_getElem hkx]
        rfl
      have hset := fun y => set_getD zs k 0 y HLk
      have HX := Lib.hid hx
      have HST := Lib.hid hst
      have HBE := Lib.hid hbe
      have HSET := Lib.hid hset
      clear hx hst hbe hset
      obtain ⟨ce, hcl, hM, hcc, hfr⟩ := Kd.R_elem HR.out 0 (k : Int) (by omega) (by omega)
      rw [Int.toNat_natCast, HX.out] at hM
      rw [Int.toNat_natCast] at hcc hfr
      generalize hyy : xs.getD k 0 = y at hM
      have HY := Lib.hid hyy
      clear hyy
      have hM' : ce = [.int .i64 y] := hM
      subst hM'
      have x0 : wr.cell? ⟨gb, k, none⟩ = some (.int .i64 y) := by have := hcc 0 _ rfl; rwa [show k * (Kd.int .i64).sz + 0 = k from by show k * 1 + 0 = k; omega] at this
      clear hcc hfr hM hcl
      cases hq : has fs y
      · have hcall := fun W hW => hcall y W hW
        rw [hq] at hcall
        have HQ := Lib.hid hq
        clear hq
        go_wp2_with (go_at_call 79; refine (hcall _ (Below.refl _ _)).mono ?_; rintro e w1 ⟨rfl, b1⟩; have HR1 := Aside0.mk (Kd.R_below HR.out b1); have HG1 := Aside0.mk (HG.out.trans (grown_of_below b1 _)); clear b1)
        go_roundg (n - (k + 1))
        case measure => omega
        case rel =>
          refine ⟨k + 1, zs, by omega, Nat.le_refl _, by go_num, ⟨?_⟩, HR1, HG1⟩
          have h1 := HST.out y
          have h2 : zs.set k y = zs := by
            rw [← HY.out, ← HX.out]
            exact List.ext_getElem? (fun j => by
              rw [List.getElem?_set]
              by_cases e : k = j
              · subst e; simp [HLk, List.getD]
              · rw [if_neg e])
          rw [HBE.out, HY.out, HQ.out, ← h2, h1]
          simp
      · have hcall := fun W hW => hcall y W hW
        rw [hq] at hcall
        have HQ := Lib.hid hq
        clear hq
        go_wp2_with (go_at_call 79; refine (hcall _ (Below.refl _ _)).mono ?_; rintro e w1 ⟨rfl, b1⟩; have HR1 := Aside0.mk (Kd.R_below HR.out b1); have HG1 := Aside0.mk (HG.out.trans (grown_of_below b1 _)); have hc71 := (b1.cell (p := ⟨b, 7, none⟩) hbl2).trans hc7; obtain ⟨ce1, hcl1, hM1, hcc1, hfr1⟩ := Kd.R_elem HR1.out 0 (k : Int) (by omega) (by omega); rw [Int.toNat_natCast, HX.out, HY.out] at hM1; rw [Int.toNat_natCast] at hcc1 hfr1; have hM2 : ce1 = [.int .i64 y] := hM1; subst hM2; have x1 : w1.cell? ⟨gb, k, none⟩ = some (.int .i64 y) := (by have := hcc1 0 _ rfl; rwa [show k * (Kd.int .i64).sz + 0 = k from (by show k * 1 + 0 = k; omega)] at this); have f1 : w1.frozen? ⟨gb, k, none⟩ = false := (by have := hfr1 0; rwa [show k * (Kd.int .i64).sz + 0 = k from (by show k * 1 + 0 = k; omega)] at this); have P1 := own_put2 HR1.out k hlt nv [.int .i64 y] rfl 0 (.int .i64 nv) (by decide) (by show _ = _; rfl) hcc1; rw [show k * (Kd.int .i64).sz + 0 = k from (by show k * 1 + 0 = k; omega)] at P1; have HP := Aside0.mk P1.1; have HQ2 := Aside0.mk (HG1.out.trans P1.2); clear P1 hcc1 hfr1 hM1 hcl1 HR1 HG1 b1)
        go_roundg (n - (k + 1))
        case measure => omega
        case rel =>
          refine ⟨k + 1, _, by omega, Nat.le_refl _, by go_num, ⟨?_⟩, HP, HQ2⟩
          rw [HST.out, HBE.out, HY.out, HQ.out]
          simp
    · have hlt' : ¬ (k : Int) < (n : Int) := by omega
      have he : zs = becomes nv fs xs := by
        have := HN.out
        rw [HZ.out, List.take_of_length_le (by omega), List.drop_eq_nil_of_le (by omega), List.append_nil]
      rw [he] at HR
      clear he
      go_wp2
      go_end0
      exact ⟨⟨_, rfl⟩, HR.out, HG.out⟩

end Go.Proofs.YtoppgnmnbbhghaaGreatDoor
