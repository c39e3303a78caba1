/- Copies of mails, of the program: a contract. -/
import Derived.Test.YtmfehmbgghfffaaDoorClone
import Derived.Test.YtmfehmbgghfffaaDoorBlk
namespace Go.Proofs.YtmfehmbgghfffaaDoor
open Go.RowKit Go.Proofs.YtmfehmbgghfffaaDoorW.PrintWords
set_option linter.unusedVariables false
set_option linter.unusedSimpArgs false

set_option maxRecDepth 100000 in
set_option maxHeartbeats 4000000 in
theorem mailCopied_any (m : SMail) (A0 : Option Addr) (c0 : Nat) (A1 : Option Addr) (c1 : Nat) (w : World) (hw : fitMail m) (hr0 : Kd.C kAddr w A0 m.f1.length m.f1) (hr1 : Kd.C Kd.string w A1 m.f2.length m.f2) :
    Calls Tryd.prog 57 #[.agg #[.string m.f0.f0, .string m.f0.f1, .slice A0 m.f1.length c0, .slice A1 m.f2.length c1]] w fun e w' => ∃ B0 d0 B1 d1, e = .returned (.agg #[.string m.f0.f0, .string m.f0.f1, .slice B0 m.f1.length d0, .slice B1 m.f2.length d1]) ∧ Kd.R kAddr 33 w' w.heap.size (fun _ => True) (.slice B0 m.f1.length d0) m.f1 ∧ Kd.R Kd.string 9 w' w.heap.size (fun _ => True) (.slice B1 m.f2.length d1) m.f2 ∧ Below w.heap.size w w' := by
  have hc0 := fun W (hW : Below w.heap.size w W) => cloneAddr_any A0 c0 m.f1 W (Kd.C_below hr0 hW) hw.2.1.1
  have hc1 := fun W (hW : Below w.heap.size w W) => cloneString_any A1 c1 m.f2 W (Kd.C_below hr1 hW) hw.2.2.1
  clear hr0 hr1
  go_enter Tryd.func57, Tryd.ntmps57
  go_wp2
  obtain ⟨W0, hW0⟩ : ∃ W, W = (w.alloc (.cells #[.string m.f0.f0, .string m.f0.f1, .slice A0 m.f1.length c0, .slice A1 m.f2.length c1] 46)).alloc (.cells #[.string ⟨#[]⟩, .string ⟨#[]⟩, .slice none 0 0, .slice none 0 0] 46) := ⟨_, rfl⟩
  rw [← hW0]
  have f0 : W0.heap[w.heap.size]? = some (.cells #[.string m.f0.f0, .string m.f0.f1, .slice A0 m.f1.length c0, .slice A1 m.f2.length c1] 46 (0, 0)) := by rw [hW0]; exact below_blk (blk_new _ _) (bel_alloc (Below.refl _ _) _)
  have f1 : W0.heap[w.heap.size + 1]? = some (.cells #[.string ⟨#[]⟩, .string ⟨#[]⟩, .slice none 0 0, .slice none 0 0] 46 (0, 0)) := by rw [hW0, show w.heap.size + 1 = (w.alloc (.cells #[.string m.f0.f0, .string m.f0.f1, .slice A0 m.f1.length c0, .slice A1 m.f2.length c1] 46)).heap.size by simp]; exact blk_new _ _
  have B0 : Below w.heap.size w W0 := by rw [hW0]; exact bel_alloc (bel_alloc (Below.refl _ _) _) _
  clear hW0
  have join : Hid (∀ {goal : Prop} {G : Option Addr → Nat → Option Addr → Nat → World → Prop} (rg : Hid (∀ (B0 : Option Addr) (d0 : Nat) (B1 : Option Addr) (d1 : Nat) (V : World), Below w.heap.size w V ∧ w.heap.size + 1 < V.heap.size ∧ V.heap[w.heap.size]? = some (.cells #[.string m.f0.f0, .string m.f0.f1, .slice B0 m.f1.length d0, .slice B1 m.f2.length d1] 46 (0, 0)) ∧ V.heap[w.heap.size + 1]? = some (.cells #[.string ⟨#[]⟩, .string ⟨#[]⟩, .slice none 0 0, .slice none 0 0] 46 (0, 0)) ∧ Kd.R kAddr 33 V w.heap.size (fun _ => True) (.slice B0 m.f1.length d0) m.f1 ∧ Kd.R Kd.string 9 V w.heap.size (fun _ => True) (.slice B1 m.f2.length d1) m.f2 → G B0 d0 B1 d1 V) → goal) (hk : ∀ (B0 : Option Addr) (d0 : Nat) (B1 : Option Addr) (d1 : Nat) (V : World), Below w.heap.size w V ∧ w.heap.size + 1 < V.heap.size ∧ V.heap[w.heap.size]? = some (.cells #[.string m.f0.f0, .string m.f0.f1, .slice B0 m.f1.length d0, .slice B1 m.f2.length d1] 46 (0, 0)) ∧ V.heap[w.heap.size + 1]? = some (.cells #[.string ⟨#[]⟩, .string ⟨#[]⟩, .slice none 0 0, .slice none 0 0] 46 (0, 0)) ∧ Kd.R kAddr 33 V w.heap.size (fun _ => True) (.slice B0 m.f1.length d0) m.f1 ∧ Kd.R Kd.string 9 V w.heap.size (fun _ => True) (.slice B1 m.f2.length d1) m.f2 → G B0 d0 B1 d1 V), goal) := Lib.hid (fun f h => f (Lib.hid h))
  have HST : Aside0 (Below w.heap.size w W0.drew) := ⟨bel_then B0 (drew_below0 W0)⟩
  have HF0 : Aside0 (W0.heap[w.heap.size]? = some (.cells #[.string m.f0.f0, .string m.f0.f1, .slice A0 m.f1.length c0, .slice A1 m.f2.length c1] 46 (0, 0))) := ⟨f0⟩
  have HF1 : Aside0 (W0.heap[w.heap.size + 1]? = some (.cells #[.string ⟨#[]⟩, .string ⟨#[]⟩, .slice none 0 0, .slice none 0 0] 46 (0, 0))) := ⟨f1⟩
  clear f0 f1 B0
  apply join.out
  case rg =>
    intro HKK
    refine wp_region_held_drew (S := (fun W => Below w.heap.size w W)) (by kernel_rfl) ?s196 (fun hHeld => ?t196)
    case s196 => exact HST.out
    generalize hV0 : World.drew _ = V0 at hHeld ⊢
    have F0 : Aside0 (V0.heap[w.heap.size]? = some (.cells #[.string m.f0.f0, .string m.f0.f1, .slice A0 m.f1.length c0, .slice A1 m.f2.length c1] 46 (0, 0))) := ⟨by rw [← hV0]; exact HF0.out⟩
    have F1 : Aside0 (V0.heap[w.heap.size + 1]? = some (.cells #[.string ⟨#[]⟩, .string ⟨#[]⟩, .slice none 0 0, .slice none 0 0] 46 (0, 0))) := ⟨by rw [← hV0]; exact HF1.out⟩
    clear hV0
    refine wpAnyH_take (i := 0) (oi := { dst := some 3, op := Op.fieldAddr 46 (Operand.tmp 1) 1, type := 0, pos := "l2_mail.go:61", after := #[], guard := none }) (v := ?v197) rfl (by kernel_rfl) (by kernel_rfl) (by kernel_rfl) (fun _ _ _ h => h) (Or.inl ⟨by rfl, ?y197⟩) (by assumption) ?r197
    case y197 => intro w_ hSw; (try dsimp only at hSw); go_simp; (try (with_reducible rfl))
    try simp only [Act.put, List.setIfInBounds_toArray, List.set_cons_zero, List.set_cons_succ]
    refine wpAnyH_take (i := 3) (oi := { dst := some 6, op := Op.fieldAddr 46 (Operand.tmp 1) 2, type := 0, pos := "l2_mail.go:61", after := #[], guard := none }) (v := ?v198) rfl (by kernel_rfl) (by kernel_rfl) (by kernel_rfl) (fun _ _ _ h => h) (Or.inl ⟨by rfl, ?y198⟩) (by assumption) ?r198
    case y198 => intro w_ hSw; (try dsimp only at hSw); go_simp; (try (with_reducible rfl))
    try simp only [Act.put, List.setIfInBounds_toArray, List.set_cons_zero, List.set_cons_succ]
    refine wpAnyH_ready (rs := [1, 4]) (by kernel_rfl) (by simp) ?_
    refine AllReadyH.cons (o := { dst := some 4, op := Op.load 44 (Operand.tmp 3), type := 44, pos := "l2_mail.go:61", after := #[{ on := 0, ground := Ground.data }], guard := none }) rfl (fun K hK => ?k199) (AllReadyH.cons (o := { dst := some 7, op := Op.load 35 (Operand.tmp 6), type := 35, pos := "l2_mail.go:61", after := #[{ on := 3, ground := Ground.data }], guard := none }) rfl (fun K hK => ?k200) AllReadyH.nil)
    case k199 =>
      have y12_ : V0.cell? ⟨w.heap.size, 2, none⟩ = some (.slice A0 m.f1.length c0) := by simp [World.cell?, F0.out]
      go_simp
      refine hK.out _ _ ?h201 (fun hHeld => ?j201)
      case h201 => exact hHeld
      clear hK K
      try simp only [Act.put, List.setIfInBounds_toArray, List.set_cons_zero, List.set_cons_succ]
      refine wpAnyH_ready (rs := [2, 4]) (by kernel_rfl) (by simp) ?_
      refine AllReadyH.cons (o := { dst := some 5, op := Op.call { callee := Callee.value (Operand.func 103), args := #[Operand.tmp 4], argTypes := #[44] }, type := 44, pos := "l2_mail.go:61", after := #[{ on := 1, ground := Ground.data }], guard := none }) rfl (fun K hK => ?k202) (AllReadyH.cons (o := { dst := some 7, op := Op.load 35 (Operand.tmp 6), type := 35, pos := "l2_mail.go:61", after := #[{ on := 3, ground := Ground.data }], guard := none }) rfl (fun K hK => ?k203) AllReadyH.nil)
      case k202 =>
        have hsl2 : w.heap.size ≤ V0.heap.size := hHeld.size
        go_simp
        refine (hc0 _ hHeld).mono ?_
        rintro e V2 ⟨B0, d0, rfl, ga, b2⟩
        refine hK.out _ _ ?h204 (fun hHeld => ?j204)
        case h204 => exact bel_then hHeld b2
        clear hK K
        try simp only [Act.put, List.setIfInBounds_toArray, List.set_cons_zero, List.set_cons_succ]
        have U0 := Aside0.mk (Kd.R_lower (base' := w.heap.size) ga hsl2)
        clear ga hsl2
        replace F0 := Aside0.mk (below_blk F0.out b2)
        replace F1 := Aside0.mk (below_blk F1.out b2)
        refine wpAnyH_ready (rs := [4]) (by kernel_rfl) (by simp) ?_
        refine AllReadyH.cons (o := { dst := some 7, op := Op.load 35 (Operand.tmp 6), type := 35, pos := "l2_mail.go:61", after := #[{ on := 3, ground := Ground.data }], guard := none }) rfl (fun K hK => ?k205) AllReadyH.nil
        case k205 =>
          have y43_ : V2.cell? ⟨w.heap.size, 3, none⟩ = some (.slice A1 m.f2.length c1) := by simp [World.cell?, F0.out]
          go_simp
          refine hK.out _ _ ?h206 (fun hHeld => ?j206)
          case h206 => exact hHeld
          clear hK K
          try simp only [Act.put, List.setIfInBounds_toArray, List.set_cons_zero, List.set_cons_succ]
          refine wpAnyH_take (i := 6) (oi := { dst := some 9, op := Op.fieldAddr 46 (Operand.tmp 1) 1, type := 0, pos := "l2_mail.go:61", after := #[{ on := 0, ground := Ground.phase }, { on := 1, ground := Ground.phase }, { on := 2, ground := Ground.phase }, { on := 3, ground := Ground.phase }, { on := 4, ground := Ground.phase }, { on := 5, ground := Ground.textOnly Departure.lateStoresUnsure }], guard := none }) (v := ?v207) rfl (by kernel_rfl) (by kernel_rfl) (by kernel_rfl) (fun _ _ _ h => h) (Or.inl ⟨by rfl, ?y207⟩) (by assumption) ?r207
          case y207 => intro w_ hSw; (try dsimp only at hSw); go_simp; (try (with_reducible rfl))
          try simp only [Act.put, List.setIfInBounds_toArray, List.set_cons_zero, List.set_cons_succ]
          refine wpAnyH_ready (rs := [5]) (by kernel_rfl) (by simp) ?_
          refine AllReadyH.cons (o := { dst := some 8, op := Op.call { callee := Callee.value (Operand.func 104), args := #[Operand.tmp 7], argTypes := #[35] }, type := 35, pos := "l2_mail.go:61", after := #[{ on := 4, ground := Ground.data }, { on := 2, ground := Ground.chain }], guard := none }) rfl (fun K hK => ?k208) AllReadyH.nil
          case k208 =>
            have hsl5 : w.heap.size ≤ V2.heap.size := hHeld.size
            go_simp
            refine (hc1 _ hHeld).mono ?_
            rintro e V5 ⟨B1, d1, rfl, gb, b5⟩
            refine hK.out _ _ ?h209 (fun hHeld => ?j209)
            case h209 => exact bel_then hHeld b5
            clear hK K
            try simp only [Act.put, List.setIfInBounds_toArray, List.set_cons_zero, List.set_cons_succ]
            have U1 := Aside0.mk (Kd.R_lower (base' := w.heap.size) gb hsl5)
            clear gb hsl5
            replace F0 := Aside0.mk (below_blk F0.out b5)
            replace F1 := Aside0.mk (below_blk F1.out b5)
            replace U0 := Aside0.mk (Kd.R_below U0.out b5)
            refine wpAnyH_ready (rs := [7]) (by kernel_rfl) (by simp) ?_
            refine AllReadyH.cons (o := { dst := none, op := Op.store 44 (Operand.tmp 9) (Operand.tmp 5), type := 0, pos := "l2_mail.go:61", after := #[{ on := 6, ground := Ground.data }, { on := 2, ground := Ground.data }, { on := 5, ground := Ground.chain }, { on := 0, ground := Ground.phase }, { on := 1, ground := Ground.phase }, { on := 2, ground := Ground.phase }, { on := 3, ground := Ground.phase }, { on := 4, ground := Ground.phase }, { on := 5, ground := Ground.textOnly Departure.lateStoresUnsure }], guard := none }) rfl (fun K hK => ?k210) AllReadyH.nil
            case k210 =>
              have hb7 := F0.out
              have v2_ : V5.cell? ⟨w.heap.size, 2, none⟩ = some (.slice A0 m.f1.length c0) := by simp [World.cell?, hb7]
              have u2_ : V5.frozen? ⟨w.heap.size, 2, none⟩ = false := by simp [World.frozen?, hb7]
              go_simp
              generalize hV7 : World.setCell V5 ⟨w.heap.size, 2, none⟩ _ = V7
              have G7 : V5.grownBy V7 (some (w.heap.size)) := by rw [← hV7]; exact grown_set1 _ _ _ _
              have FF : V7.heap[w.heap.size]? = some (.cells #[.string m.f0.f0, .string m.f0.f1, .slice B0 m.f1.length d0, .slice A1 m.f2.length c1] 46 (0, 0)) := by rw [← hV7, blk_set1 (F0.out) 2 _]; simp
              have BB : Below w.heap.size w V7 := by rw [← hV7]; exact (bel_set hHeld _ (Nat.le_refl _))
              clear hV7
              refine hK.out _ _ ?h211 (fun hHeld => ?j211)
              case h211 => exact BB
              clear hK K
              try simp only [Act.put, List.setIfInBounds_toArray, List.set_cons_zero, List.set_cons_succ]
              replace U0 := Aside0.mk (R_else U0.out rfl G7 (Kd.R_ne U0.out F0.out (by decide)))
              replace U1 := Aside0.mk (R_else U1.out rfl G7 (Kd.R_ne U1.out F0.out (by decide)))
              replace F0 := Aside0.mk FF
              clear FF
              replace F1 := Aside0.mk ((G7.block _ (blk_lt F1.out) (fun e => by have e := Option.some.inj e; omega)).trans F1.out)
              refine wpAnyH_take (i := 8) (oi := { dst := some 10, op := Op.fieldAddr 46 (Operand.tmp 1) 2, type := 0, pos := "l2_mail.go:61", after := #[{ on := 0, ground := Ground.phase }, { on := 1, ground := Ground.phase }, { on := 2, ground := Ground.phase }, { on := 3, ground := Ground.phase }, { on := 4, ground := Ground.phase }, { on := 5, ground := Ground.phase }, { on := 6, ground := Ground.phase }, { on := 7, ground := Ground.phase }], guard := none }) (v := ?v212) rfl (by kernel_rfl) (by kernel_rfl) (by kernel_rfl) (fun _ _ _ h => h) (Or.inl ⟨by rfl, ?y212⟩) (by assumption) ?r212
              case y212 => intro w_ hSw; (try dsimp only at hSw); go_simp; (try (with_reducible rfl))
              try simp only [Act.put, List.setIfInBounds_toArray, List.set_cons_zero, List.set_cons_succ]
              refine wpAnyH_ready (rs := [9]) (by kernel_rfl) (by simp) ?_
              refine AllReadyH.cons (o := { dst := none, op := Op.store 35 (Operand.tmp 10) (Operand.tmp 8), type := 0, pos := "l2_mail.go:61", after := #[{ on := 8, ground := Ground.data }, { on := 5, ground := Ground.data }, { on := 7, ground := Ground.chain }, { on := 0, ground := Ground.phase }, { on := 1, ground := Ground.phase }, { on := 2, ground := Ground.phase }, { on := 3, ground := Ground.phase }, { on := 4, ground := Ground.phase }, { on := 5, ground := Ground.phase }, { on := 6, ground := Ground.phase }, { on := 7, ground := Ground.phase }], guard := none }) rfl (fun K hK => ?k213) AllReadyH.nil
              case k213 =>
                have hb7 := F0.out
                have v3_ : V7.cell? ⟨w.heap.size, 3, none⟩ = some (.slice A1 m.f2.length c1) := by simp [World.cell?, hb7]
                have u3_ : V7.frozen? ⟨w.heap.size, 3, none⟩ = false := by simp [World.frozen?, hb7]
                go_simp
                generalize hV9 : World.setCell V7 ⟨w.heap.size, 3, none⟩ _ = V9
                have G9 : V7.grownBy V9 (some (w.heap.size)) := by rw [← hV9]; exact grown_set1 _ _ _ _
                have FF : V9.heap[w.heap.size]? = some (.cells #[.string m.f0.f0, .string m.f0.f1, .slice B0 m.f1.length d0, .slice B1 m.f2.length d1] 46 (0, 0)) := by rw [← hV9, blk_set1 (F0.out) 3 _]; simp
                have BB : Below w.heap.size w V9 := by rw [← hV9]; exact (bel_set hHeld _ (Nat.le_refl _))
                clear hV9
                refine hK.out _ _ ?h214 (fun hHeld => ?j214)
                case h214 => exact BB
                clear hK K
                try simp only [Act.put, List.setIfInBounds_toArray, List.set_cons_zero, List.set_cons_succ]
                replace U0 := Aside0.mk (R_else U0.out rfl G9 (Kd.R_ne U0.out F0.out (by decide)))
                replace U1 := Aside0.mk (R_else U1.out rfl G9 (Kd.R_ne U1.out F0.out (by decide)))
                replace F0 := Aside0.mk FF
                clear FF
                replace F1 := Aside0.mk ((G9.block _ (blk_lt F1.out) (fun e => by have e := Option.some.inj e; omega)).trans F1.out)
                refine wpAnyH_done (by kernel_rfl) ?_ _
                exact HKK.out B0 d0 B1 d1 V9 ⟨hHeld, blk_lt F1.out, F0.out, F1.out, U0.out, U1.out⟩
      case k203 =>
        have y43_ : V0.cell? ⟨w.heap.size, 3, none⟩ = some (.slice A1 m.f2.length c1) := by simp [World.cell?, F0.out]
        go_simp
        refine hK.out _ _ ?h215 (fun hHeld => ?j215)
        case h215 => exact hHeld
        clear hK K
        try simp only [Act.put, List.setIfInBounds_toArray, List.set_cons_zero, List.set_cons_succ]
        refine wpAnyH_ready (rs := [2]) (by kernel_rfl) (by simp) ?_
        refine AllReadyH.cons (o := { dst := some 5, op := Op.call { callee := Callee.value (Operand.func 103), args := #[Operand.tmp 4], argTypes := #[44] }, type := 44, pos := "l2_mail.go:61", after := #[{ on := 1, ground := Ground.data }], guard := none }) rfl (fun K hK => ?k216) AllReadyH.nil
        case k216 =>
          have hsl2 : w.heap.size ≤ V0.heap.size := hHeld.size
          go_simp
          refine (hc0 _ hHeld).mono ?_
          rintro e V2 ⟨B0, d0, rfl, ga, b2⟩
          refine hK.out _ _ ?h217 (fun hHeld => ?j217)
          case h217 => exact bel_then hHeld b2
          clear hK K
          try simp only [Act.put, List.setIfInBounds_toArray, List.set_cons_zero, List.set_cons_succ]
          have U0 := Aside0.mk (Kd.R_lower (base' := w.heap.size) ga hsl2)
          clear ga hsl2
          replace F0 := Aside0.mk (below_blk F0.out b2)
          replace F1 := Aside0.mk (below_blk F1.out b2)
          refine wpAnyH_take (i := 6) (oi := { dst := some 9, op := Op.fieldAddr 46 (Operand.tmp 1) 1, type := 0, pos := "l2_mail.go:61", after := #[{ on := 0, ground := Ground.phase }, { on := 1, ground := Ground.phase }, { on := 2, ground := Ground.phase }, { on := 3, ground := Ground.phase }, { on := 4, ground := Ground.phase }, { on := 5, ground := Ground.textOnly Departure.lateStoresUnsure }], guard := none }) (v := ?v218) rfl (by kernel_rfl) (by kernel_rfl) (by kernel_rfl) (fun _ _ _ h => h) (Or.inl ⟨by rfl, ?y218⟩) (by assumption) ?r218
          case y218 => intro w_ hSw; (try dsimp only at hSw); go_simp; (try (with_reducible rfl))
          try simp only [Act.put, List.setIfInBounds_toArray, List.set_cons_zero, List.set_cons_succ]
          refine wpAnyH_ready (rs := [5]) (by kernel_rfl) (by simp) ?_
          refine AllReadyH.cons (o := { dst := some 8, op := Op.call { callee := Callee.value (Operand.func 104), args := #[Operand.tmp 7], argTypes := #[35] }, type := 35, pos := "l2_mail.go:61", after := #[{ on := 4, ground := Ground.data }, { on := 2, ground := Ground.chain }], guard := none }) rfl (fun K hK => ?k219) AllReadyH.nil
          case k219 =>
            have hsl5 : w.heap.size ≤ V2.heap.size := hHeld.size
            go_simp
            refine (hc1 _ hHeld).mono ?_
            rintro e V5 ⟨B1, d1, rfl, gb, b5⟩
            refine hK.out _ _ ?h220 (fun hHeld => ?j220)
            case h220 => exact bel_then hHeld b5
            clear hK K
            try simp only [Act.put, List.setIfInBounds_toArray, List.set_cons_zero, List.set_cons_succ]
            have U1 := Aside0.mk (Kd.R_lower (base' := w.heap.size) gb hsl5)
            clear gb hsl5
            replace F0 := Aside0.mk (below_blk F0.out b5)
            replace F1 := Aside0.mk (below_blk F1.out b5)
            replace U0 := Aside0.mk (Kd.R_below U0.out b5)
            refine wpAnyH_ready (rs := [7]) (by kernel_rfl) (by simp) ?_
            refine AllReadyH.cons (o := { dst := none, op := Op.store 44 (Operand.tmp 9) (Operand.tmp 5), type := 0, pos := "l2_mail.go:61", after := #[{ on := 6, ground := Ground.data }, { on := 2, ground := Ground.data }, { on := 5, ground := Ground.chain }, { on := 0, ground := Ground.phase }, { on := 1, ground := Ground.phase }, { on := 2, ground := Ground.phase }, { on := 3, ground := Ground.phase }, { on := 4, ground := Ground.phase }, { on := 5, ground := Ground.textOnly Departure.lateStoresUnsure }], guard := none }) rfl (fun K hK => ?k221) AllReadyH.nil
            case k221 =>
              have hb7 := F0.out
              have v2_ : V5.cell? ⟨w.heap.size, 2, none⟩ = some (.slice A0 m.f1.length c0) := by simp [World.cell?, hb7]
              have u2_ : V5.frozen? ⟨w.heap.size, 2, none⟩ = false := by simp [World.frozen?, hb7]
              go_simp
              generalize hV7 : World.setCell V5 ⟨w.heap.size, 2, none⟩ _ = V7
              have G7 : V5.grownBy V7 (some (w.heap.size)) := by rw [← hV7]; exact grown_set1 _ _ _ _
              have FF : V7.heap[w.heap.size]? = some (.cells #[.string m.f0.f0, .string m.f0.f1, .slice B0 m.f1.length d0, .slice A1 m.f2.length c1] 46 (0, 0)) := by rw [← hV7, blk_set1 (F0.out) 2 _]; simp
              have BB : Below w.heap.size w V7 := by rw [← hV7]; exact (bel_set hHeld _ (Nat.le_refl _))
              clear hV7
              refine hK.out _ _ ?h222 (fun hHeld => ?j222)
              case h222 => exact BB
              clear hK K
              try simp only [Act.put, List.setIfInBounds_toArray, List.set_cons_zero, List.set_cons_succ]
              replace U0 := Aside0.mk (R_else U0.out rfl G7 (Kd.R_ne U0.out F0.out (by decide)))
              replace U1 := Aside0.mk (R_else U1.out rfl G7 (Kd.R_ne U1.out F0.out (by decide)))
              replace F0 := Aside0.mk FF
              clear FF
              replace F1 := Aside0.mk ((G7.block _ (blk_lt F1.out) (fun e => by have e := Option.some.inj e; omega)).trans F1.out)
              refine wpAnyH_take (i := 8) (oi := { dst := some 10, op := Op.fieldAddr 46 (Operand.tmp 1) 2, type := 0, pos := "l2_mail.go:61", after := #[{ on := 0, ground := Ground.phase }, { on := 1, ground := Ground.phase }, { on := 2, ground := Ground.phase }, { on := 3, ground := Ground.phase }, { on := 4, ground := Ground.phase }, { on := 5, ground := Ground.phase }, { on := 6, ground := Ground.phase }, { on := 7, ground := Ground.phase }], guard := none }) (v := ?v223) rfl (by kernel_rfl) (by kernel_rfl) (by kernel_rfl) (fun _ _ _ h => h) (Or.inl ⟨by rfl, ?y223⟩) (by assumption) ?r223
              case y223 => intro w_ hSw; (try dsimp only at hSw); go_simp; (try (with_reducible rfl))
              try simp only [Act.put, List.setIfInBounds_toArray, List.set_cons_zero, List.set_cons_succ]
              refine wpAnyH_ready (rs := [9]) (by kernel_rfl) (by simp) ?_
              refine AllReadyH.cons (o := { dst := none, op := Op.store 35 (Operand.tmp 10) (Operand.tmp 8), type := 0, pos := "l2_mail.go:61", after := #[{ on := 8, ground := Ground.data }, { on := 5, ground := Ground.data }, { on := 7, ground := Ground.chain }, { on := 0, ground := Ground.phase }, { on := 1, ground := Ground.phase }, { on := 2, ground := Ground.phase }, { on := 3, ground := Ground.phase }, { on := 4, ground := Ground.phase }, { on := 5, ground := Ground.phase }, { on := 6, ground := Ground.phase }, { on := 7, ground := Ground.phase }], guard := none }) rfl (fun K hK => ?k224) AllReadyH.nil
              case k224 =>
                have hb7 := F0.out
                have v3_ : V7.cell? ⟨w.heap.size, 3, none⟩ = some (.slice A1 m.f2.length c1) := by simp [World.cell?, hb7]
                have u3_ : V7.frozen? ⟨w.heap.size, 3, none⟩ = false := by simp [World.frozen?, hb7]
                go_simp
                generalize hV9 : World.setCell V7 ⟨w.heap.size, 3, none⟩ _ = V9
                have G9 : V7.grownBy V9 (some (w.heap.size)) := by rw [← hV9]; exact grown_set1 _ _ _ _
                have FF : V9.heap[w.heap.size]? = some (.cells #[.string m.f0.f0, .string m.f0.f1, .slice B0 m.f1.length d0, .slice B1 m.f2.length d1] 46 (0, 0)) := by rw [← hV9, blk_set1 (F0.out) 3 _]; simp
                have BB : Below w.heap.size w V9 := by rw [← hV9]; exact (bel_set hHeld _ (Nat.le_refl _))
                clear hV9
                refine hK.out _ _ ?h225 (fun hHeld => ?j225)
                case h225 => exact BB
                clear hK K
                try simp only [Act.put, List.setIfInBounds_toArray, List.set_cons_zero, List.set_cons_succ]
                replace U0 := Aside0.mk (R_else U0.out rfl G9 (Kd.R_ne U0.out F0.out (by decide)))
                replace U1 := Aside0.mk (R_else U1.out rfl G9 (Kd.R_ne U1.out F0.out (by decide)))
                replace F0 := Aside0.mk FF
                clear FF
                replace F1 := Aside0.mk ((G9.block _ (blk_lt F1.out) (fun e => by have e := Option.some.inj e; omega)).trans F1.out)
                refine wpAnyH_done (by kernel_rfl) ?_ _
                exact HKK.out B0 d0 B1 d1 V9 ⟨hHeld, blk_lt F1.out, F0.out, F1.out, U0.out, U1.out⟩
    case k200 =>
      have y43_ : V0.cell? ⟨w.heap.size, 3, none⟩ = some (.slice A1 m.f2.length c1) := by simp [World.cell?, F0.out]
      go_simp
      refine hK.out _ _ ?h226 (fun hHeld => ?j226)
      case h226 => exact hHeld
      clear hK K
      try simp only [Act.put, List.setIfInBounds_toArray, List.set_cons_zero, List.set_cons_succ]
      refine wpAnyH_ready (rs := [1]) (by kernel_rfl) (by simp) ?_
      refine AllReadyH.cons (o := { dst := some 4, op := Op.load 44 (Operand.tmp 3), type := 44, pos := "l2_mail.go:61", after := #[{ on := 0, ground := Ground.data }], guard := none }) rfl (fun K hK => ?k227) AllReadyH.nil
      case k227 =>
        have y12_ : V0.cell? ⟨w.heap.size, 2, none⟩ = some (.slice A0 m.f1.length c0) := by simp [World.cell?, F0.out]
        go_simp
        refine hK.out _ _ ?h228 (fun hHeld => ?j228)
        case h228 => exact hHeld
        clear hK K
        try simp only [Act.put, List.setIfInBounds_toArray, List.set_cons_zero, List.set_cons_succ]
        refine wpAnyH_ready (rs := [2]) (by kernel_rfl) (by simp) ?_
        refine AllReadyH.cons (o := { dst := some 5, op := Op.call { callee := Callee.value (Operand.func 103), args := #[Operand.tmp 4], argTypes := #[44] }, type := 44, pos := "l2_mail.go:61", after := #[{ on := 1, ground := Ground.data }], guard := none }) rfl (fun K hK => ?k229) AllReadyH.nil
        case k229 =>
          have hsl2 : w.heap.size ≤ V0.heap.size := hHeld.size
          go_simp
          refine (hc0 _ hHeld).mono ?_
          rintro e V2 ⟨B0, d0, rfl, ga, b2⟩
          refine hK.out _ _ ?h230 (fun hHeld => ?j230)
          case h230 => exact bel_then hHeld b2
          clear hK K
          try simp only [Act.put, List.setIfInBounds_toArray, List.set_cons_zero, List.set_cons_succ]
          have U0 := Aside0.mk (Kd.R_lower (base' := w.heap.size) ga hsl2)
          clear ga hsl2
          replace F0 := Aside0.mk (below_blk F0.out b2)
          replace F1 := Aside0.mk (below_blk F1.out b2)
          refine wpAnyH_take (i := 6) (oi := { dst := some 9, op := Op.fieldAddr 46 (Operand.tmp 1) 1, type := 0, pos := "l2_mail.go:61", after := #[{ on := 0, ground := Ground.phase }, { on := 1, ground := Ground.phase }, { on := 2, ground := Ground.phase }, { on := 3, ground := Ground.phase }, { on := 4, ground := Ground.phase }, { on := 5, ground := Ground.textOnly Departure.lateStoresUnsure }], guard := none }) (v := ?v231) rfl (by kernel_rfl) (by kernel_rfl) (by kernel_rfl) (fun _ _ _ h => h) (Or.inl ⟨by rfl, ?y231⟩) (by assumption) ?r231
          case y231 => intro w_ hSw; (try dsimp only at hSw); go_simp; (try (with_reducible rfl))
          try simp only [Act.put, List.setIfInBounds_toArray, List.set_cons_zero, List.set_cons_succ]
          refine wpAnyH_ready (rs := [5]) (by kernel_rfl) (by simp) ?_
          refine AllReadyH.cons (o := { dst := some 8, op := Op.call { callee := Callee.value (Operand.func 104), args := #[Operand.tmp 7], argTypes := #[35] }, type := 35, pos := "l2_mail.go:61", after := #[{ on := 4, ground := Ground.data }, { on := 2, ground := Ground.chain }], guard := none }) rfl (fun K hK => ?k232) AllReadyH.nil
          case k232 =>
            have hsl5 : w.heap.size ≤ V2.heap.size := hHeld.size
            go_simp
            refine (hc1 _ hHeld).mono ?_
            rintro e V5 ⟨B1, d1, rfl, gb, b5⟩
            refine hK.out _ _ ?h233 (fun hHeld => ?j233)
            case h233 => exact bel_then hHeld b5
            clear hK K
            try simp only [Act.put, List.setIfInBounds_toArray, List.set_cons_zero, List.set_cons_succ]
            have U1 := Aside0.mk (Kd.R_lower (base' := w.heap.size) gb hsl5)
            clear gb hsl5
            replace F0 := Aside0.mk (below_blk F0.out b5)
            replace F1 := Aside0.mk (below_blk F1.out b5)
            replace U0 := Aside0.mk (Kd.R_below U0.out b5)
            refine wpAnyH_ready (rs := [7]) (by kernel_rfl) (by simp) ?_
            refine AllReadyH.cons (o := { dst := none, op := Op.store 44 (Operand.tmp 9) (Operand.tmp 5), type := 0, pos := "l2_mail.go:61", after := #[{ on := 6, ground := Ground.data }, { on := 2, ground := Ground.data }, { on := 5, ground := Ground.chain }, { on := 0, ground := Ground.phase }, { on := 1, ground := Ground.phase }, { on := 2, ground := Ground.phase }, { on := 3, ground := Ground.phase }, { on := 4, ground := Ground.phase }, { on := 5, ground := Ground.textOnly Departure.lateStoresUnsure }], guard := none }) rfl (fun K hK => ?k234) AllReadyH.nil
            case k234 =>
              have hb7 := F0.out
              have v2_ : V5.cell? ⟨w.heap.size, 2, none⟩ = some (.slice A0 m.f1.length c0) := by simp [World.cell?, hb7]
              have u2_ : V5.frozen? ⟨w.heap.size, 2, none⟩ = false := by simp [World.frozen?, hb7]
              go_simp
              generalize hV7 : World.setCell V5 ⟨w.heap.size, 2, none⟩ _ = V7
              have G7 : V5.grownBy V7 (some (w.heap.size)) := by rw [← hV7]; exact grown_set1 _ _ _ _
              have FF : V7.heap[w.heap.size]? = some (.cells #[.string m.f0.f0, .string m.f0.f1, .slice B0 m.f1.length d0, .slice A1 m.f2.length c1] 46 (0, 0)) := by rw [← hV7, blk_set1 (F0.out) 2 _]; simp
              have BB : Below w.heap.size w V7 := by rw [← hV7]; exact (bel_set hHeld _ (Nat.le_refl _))
              clear hV7
              refine hK.out _ _ ?h235 (fun hHeld => ?j235)
              case h235 => exact BB
              clear hK K
              try simp only [Act.put, List.setIfInBounds_toArray, List.set_cons_zero, List.set_cons_succ]
              replace U0 := Aside0.mk (R_else U0.out rfl G7 (Kd.R_ne U0.out F0.out (by decide)))
              replace U1 := Aside0.mk (R_else U1.out rfl G7 (Kd.R_ne U1.out F0.out (by decide)))
              replace F0 := Aside0.mk FF
              clear FF
              replace F1 := Aside0.mk ((G7.block _ (blk_lt F1.out) (fun e => by have e := Option.some.inj e; omega)).trans F1.out)
              refine wpAnyH_take (i := 8) (oi := { dst := some 10, op := Op.fieldAddr 46 (Operand.tmp 1) 2, type := 0, pos := "l2_mail.go:61", after := #[{ on := 0, ground := Ground.phase }, { on := 1, ground := Ground.phase }, { on := 2, ground := Ground.phase }, { on := 3, ground := Ground.phase }, { on := 4, ground := Ground.phase }, { on := 5, ground := Ground.phase }, { on := 6, ground := Ground.phase }, { on := 7, ground := Ground.phase }], guard := none }) (v := ?v236) rfl (by kernel_rfl) (by kernel_rfl) (by kernel_rfl) (fun _ _ _ h => h) (Or.inl ⟨by rfl, ?y236⟩) (by assumption) ?r236
              case y236 => intro w_ hSw; (try dsimp only at hSw); go_simp; (try (with_reducible rfl))
              try simp only [Act.put, List.setIfInBounds_toArray, List.set_cons_zero, List.set_cons_succ]
              refine wpAnyH_ready (rs := [9]) (by kernel_rfl) (by simp) ?_
              refine AllReadyH.cons (o := { dst := none, op := Op.store 35 (Operand.tmp 10) (Operand.tmp 8), type := 0, pos := "l2_mail.go:61", after := #[{ on := 8, ground := Ground.data }, { on := 5, ground := Ground.data }, { on := 7, ground := Ground.chain }, { on := 0, ground := Ground.phase }, { on := 1, ground := Ground.phase }, { on := 2, ground := Ground.phase }, { on := 3, ground := Ground.phase }, { on := 4, ground := Ground.phase }, { on := 5, ground := Ground.phase }, { on := 6, ground := Ground.phase }, { on := 7, ground := Ground.phase }], guard := none }) rfl (fun K hK => ?k237) AllReadyH.nil
              case k237 =>
                have hb7 := F0.out
                have v3_ : V7.cell? ⟨w.heap.size, 3, none⟩ = some (.slice A1 m.f2.length c1) := by simp [World.cell?, hb7]
                have u3_ : V7.frozen? ⟨w.heap.size, 3, none⟩ = false := by simp [World.frozen?, hb7]
                go_simp
                generalize hV9 : World.setCell V7 ⟨w.heap.size, 3, none⟩ _ = V9
                have G9 : V7.grownBy V9 (some (w.heap.size)) := by rw [← hV9]; exact grown_set1 _ _ _ _
                have FF : V9.heap[w.heap.size]? = some (.cells #[.string m.f0.f0, .string m.f0.f1, .slice B0 m.f1.length d0, .slice B1 m.f2.length d1] 46 (0, 0)) := by rw [← hV9, blk_set1 (F0.out) 3 _]; simp
                have BB : Below w.heap.size w V9 := by rw [← hV9]; exact (bel_set hHeld _ (Nat.le_refl _))
                clear hV9
                refine hK.out _ _ ?h238 (fun hHeld => ?j238)
                case h238 => exact BB
                clear hK K
                try simp only [Act.put, List.setIfInBounds_toArray, List.set_cons_zero, List.set_cons_succ]
                replace U0 := Aside0.mk (R_else U0.out rfl G9 (Kd.R_ne U0.out F0.out (by decide)))
                replace U1 := Aside0.mk (R_else U1.out rfl G9 (Kd.R_ne U1.out F0.out (by decide)))
                replace F0 := Aside0.mk FF
                clear FF
                replace F1 := Aside0.mk ((G9.block _ (blk_lt F1.out) (fun e => by have e := Option.some.inj e; omega)).trans F1.out)
                refine wpAnyH_done (by kernel_rfl) ?_ _
                exact HKK.out B0 d0 B1 d1 V9 ⟨hHeld, blk_lt F1.out, F0.out, F1.out, U0.out, U1.out⟩
  case hk =>
    intro B0 d0 B1 d1 V ⟨BV, sV, f0, f1, u0, u1⟩
    clear HST HF0 HF1 join
    have U0 := Aside0.mk u0
    have U1 := Aside0.mk u1
    have F1 := Aside0.mk f1
    have F0 := Aside0.mk f0
    have BW := Aside0.mk BV
    clear u0 u1 f0 f1 BV
    have m0_ : V.cell? ⟨w.heap.size, 0, none⟩ = some (.string m.f0.f0) := by simp [World.cell?, F0.out]
    have m1_ : V.cell? ⟨w.heap.size, 1, none⟩ = some (.string m.f0.f1) := by simp [World.cell?, F0.out]
    have m2_ : V.cell? ⟨w.heap.size, 2, none⟩ = some (.slice B0 m.f1.length d0) := by simp [World.cell?, F0.out]
    have m3_ : V.cell? ⟨w.heap.size, 3, none⟩ = some (.slice B1 m.f2.length d1) := by simp [World.cell?, F0.out]
    have k0_ : V.cell? ⟨w.heap.size + 1, 0, none⟩ = some (.string ⟨#[]⟩) := by simp [World.cell?, F1.out]
    have k1_ : V.cell? ⟨w.heap.size + 1, 1, none⟩ = some (.string ⟨#[]⟩) := by simp [World.cell?, F1.out]
    have k2_ : V.cell? ⟨w.heap.size + 1, 2, none⟩ = some (.slice none 0 0) := by simp [World.cell?, F1.out]
    have k3_ : V.cell? ⟨w.heap.size + 1, 3, none⟩ = some (.slice none 0 0) := by simp [World.cell?, F1.out]
    have kz0_ : V.frozen? ⟨w.heap.size + 1, 0, none⟩ = false := by simp [World.frozen?, F1.out]
    have kz1_ : V.frozen? ⟨w.heap.size + 1, 1, none⟩ = false := by simp [World.frozen?, F1.out]
    have kz2_ : V.frozen? ⟨w.heap.size + 1, 2, none⟩ = false := by simp [World.frozen?, F1.out]
    have kz3_ : V.frozen? ⟨w.heap.size + 1, 3, none⟩ = false := by simp [World.frozen?, F1.out]
    go_wp2
    refine bodyPost_ret (v := .agg #[.string m.f0.f0, .string m.f0.f1, .slice B0 m.f1.length d0, .slice B1 m.f2.length d1]) ?hr rfl ?hp
    case hr => simp [results, Tryd.results57, go_sem, m0_, m1_, m2_, m3_, k0_, k1_, k2_, k3_]
    case hp =>
      have g1 := (((grown_set1 V (w.heap.size + 1) 0 (.string m.f0.f0)).trans (grown_set1 _ _ 1 (.string m.f0.f1))).trans (grown_set1 _ _ 2 (.slice B0 m.f1.length d0))).trans (grown_set1 _ _ 3 (.slice B1 m.f2.length d1))
      exact ⟨B0, d0, B1, d1, rfl, R_else U0.out rfl g1 (Kd.R_ne U0.out F1.out (by decide)), R_else U1.out rfl g1 (Kd.R_ne U1.out F1.out (by decide)), by (with_reducible repeat (first | exact BW.out | refine bel_alloc ?_ _ | refine bel_set ?_ _ ?_ | refine blw_drewN ?_ _ | refine Below.drew ?_)); all_goals (first | (simp; done) | (simp; omega) | omega)⟩

end Go.Proofs.YtmfehmbgghfffaaDoor
