/- Copies of mails, of the program: a contract. -/
import Derived.Test.YtoppgnmnbbhghaaGreatDoorClone
import Derived.Test.YtoppgnmnbbhghaaGreatDoorBlk
namespace Go.Proofs.YtoppgnmnbbhghaaGreatDoor
open Go.RowKit Go.Proofs.YtoppgnmnbbhghaaGreatDoorW.PrintWords
set_option linter.unusedVariables false
set_option linter.unusedSimpArgs false

set_option maxRecDepth 100000 in
set_option maxHeartbeats 4000000 in
theorem mailCopied_any (m : SMail) (A0 : Option Addr) (c0 : Nat) (A1 : Option Addr) (c1 : Nat) (w : World) (hw : fitMail m) (hr0 : Kd.C kAddr w A0 m.f1.length m.f1) (hr1 : Kd.C Kd.string w A1 m.f2.length m.f2) :
    Calls Tryz.prog 77 #[.agg #[.string m.f0.f0, .string m.f0.f1, .slice A0 m.f1.length c0, .slice A1 m.f2.length c1]] w fun e w' => ∃ B0 d0 B1 d1, e = .returned (.agg #[.string m.f0.f0, .string m.f0.f1, .slice B0 m.f1.length d0, .slice B1 m.f2.length d1]) ∧ Kd.R kAddr 24 w' w.heap.size (fun _ => True) (.slice B0 m.f1.length d0) m.f1 ∧ Kd.R Kd.string 9 w' w.heap.size (fun _ => True) (.slice B1 m.f2.length d1) m.f2 ∧ Below w.heap.size w w' := by
  have hc0 := fun W (hW : Below w.heap.size w W) => cloneAddr_any A0 c0 m.f1 W (Kd.C_below hr0 hW) hw.2.1.1
  have hc1 := fun W (hW : Below w.heap.size w W) => cloneString_any A1 c1 m.f2 W (Kd.C_below hr1 hW) hw.2.2.1
  clear hr0 hr1
  go_enter Tryz.func77, Tryz.ntmps77
  go_wp2
  obtain ⟨W0, hW0⟩ : ∃ W, W = (w.alloc (.cells #[.string m.f0.f0, .string m.f0.f1, .slice A0 m.f1.length c0, .slice A1 m.f2.length c1] 28)).alloc (.cells #[.string ⟨#[]⟩, .string ⟨#[]⟩, .slice none 0 0, .slice none 0 0] 28) := ⟨_, rfl⟩
  rw [← hW0]
  have f0 : W0.heap[w.heap.size]? = some (.cells #[.string m.f0.f0, .string m.f0.f1, .slice A0 m.f1.length c0, .slice A1 m.f2.length c1] 28 (0, 0)) := by rw [hW0]; exact below_blk (blk_new _ _) (bel_alloc (Below.refl _ _) _)
  have f1 : W0.heap[w.heap.size + 1]? = some (.cells #[.string ⟨#[]⟩, .string ⟨#[]⟩, .slice none 0 0, .slice none 0 0] 28 (0, 0)) := by rw [hW0, show w.heap.size + 1 = (w.alloc (.cells #[.string m.f0.f0, .string m.f0.f1, .slice A0 m.f1.length c0, .slice A1 m.f2.length c1] 28)).heap.size by simp]; exact blk_new _ _
  have B0 : Below w.heap.size w W0 := by rw [hW0]; exact bel_alloc (bel_alloc (Below.refl _ _) _) _
  clear hW0
  have join : Hid (∀ {goal : Prop} {G : Option Addr → Nat → Option Addr → Nat → World → Prop} (rg : Hid (∀ (B0 : Option Addr) (d0 : Nat) (B1 : Option Addr) (d1 : Nat) (V : World), Below w.heap.size w V ∧ w.heap.size + 1 < V.heap.size ∧ V.heap[w.heap.size]? = some (.cells #[.string m.f0.f0, .string m.f0.f1, .slice B0 m.f1.length d0, .slice B1 m.f2.length d1] 28 (0, 0)) ∧ V.heap[w.heap.size + 1]? = some (.cells #[.string ⟨#[]⟩, .string ⟨#[]⟩, .slice none 0 0, .slice none 0 0] 28 (0, 0)) ∧ Kd.R kAddr 24 V w.heap.size (fun _ => True) (.slice B0 m.f1.length d0) m.f1 ∧ Kd.R Kd.string 9 V w.heap.size (fun _ => True) (.slice B1 m.f2.length d1) m.f2 → G B0 d0 B1 d1 V) → goal) (hk : ∀ (B0 : Option Addr) (d0 : Nat) (B1 : Option Addr) (d1 : Nat) (V : World), Below w.heap.size w V ∧ w.heap.size + 1 < V.heap.size ∧ V.heap[w.heap.size]? = some (.cells #[.string m.f0.f0, .string m.f0.f1, .slice B0 m.f1.length d0, .slice B1 m.f2.length d1] 28 (0, 0)) ∧ V.heap[w.heap.size + 1]? = some (.cells #[.string ⟨#[]⟩, .string ⟨#[]⟩, .slice none 0 0, .slice none 0 0] 28 (0, 0)) ∧ Kd.R kAddr 24 V w.heap.size (fun _ => True) (.slice B0 m.f1.length d0) m.f1 ∧ Kd.R Kd.string 9 V w.heap.size (fun _ => True) (.slice B1 m.f2.length d1) m.f2 → G B0 d0 B1 d1 V), goal) := Lib.hid (fun f h => f (Lib.hid h))
  have HST : Aside0 (Below w.heap.size w W0.drew) := ⟨bel_then B0 (drew_below0 W0)⟩
  have HF0 : Aside0 (W0.heap[w.heap.size]? = some (.cells #[.string m.f0.f0, .string m.f0.f1, .slice A0 m.f1.length c0, .slice A1 m.f2.length c1] 28 (0, 0))) := ⟨f0⟩
  have HF1 : Aside0 (W0.heap[w.heap.size + 1]? = some (.cells #[.string ⟨#[]⟩, .string ⟨#[]⟩, .slice none 0 0, .slice none 0 0] 28 (0, 0))) := ⟨f1⟩
  clear f0 f1 B0
  apply join.out
  case rg =>
    intro HKK
    refine wp_region_held_drew (S := (fun W => Below w.heap.size w W)) (by kernel_rfl) ?s222 (fun hHeld => ?t222)
    case s222 => exact HST.out
    generalize hV0 : World.drew _ = V0 at hHeld ⊢
    have F0 : Aside0 (V0.heap[w.heap.size]? = some (.cells #[.string m.f0.f0, .string m.f0.f1, .slice A0 m.f1.length c0, .slice A1 m.f2.length c1] 28 (0, 0))) := ⟨by rw [← hV0]; exact HF0.out⟩
    have F1 : Aside0 (V0.heap[w.heap.size + 1]? = some (.cells #[.string ⟨#[]⟩, .string ⟨#[]⟩, .slice none 0 0, .slice none 0 0] 28 (0, 0))) := ⟨by rw [← hV0]; exact HF1.out⟩
    clear hV0
    refine wpAnyH_take (i := 0) (oi := { dst := some 3, op := Op.fieldAddr 28 (Operand.tmp 1) 1, type := 0, pos := "l2_mail.go:61", after := #[], guard := none }) (v := ?v223) rfl (by kernel_rfl) (by kernel_rfl) (by kernel_rfl) (fun _ _ _ h => h) (Or.inl ⟨by rfl, ?y223⟩) (by assumption) ?r223
    case y223 => intro w_ hSw; (try dsimp only at hSw); go_simp; (try (with_reducible rfl))
    try simp only [Act.put, List.setIfInBounds_toArray, List.set_cons_zero, List.set_cons_succ]
    refine wpAnyH_take (i := 3) (oi := { dst := some 6, op := Op.fieldAddr 28 (Operand.tmp 1) 2, type := 0, pos := "l2_mail.go:61", after := #[], guard := none }) (v := ?v224) rfl (by kernel_rfl) (by kernel_rfl) (by kernel_rfl) (fun _ _ _ h => h) (Or.inl ⟨by rfl, ?y224⟩) (by assumption) ?r224
    case y224 => intro w_ hSw; (try dsimp only at hSw); go_simp; (try (with_reducible rfl))
    try simp only [Act.put, List.setIfInBounds_toArray, List.set_cons_zero, List.set_cons_succ]
    refine wpAnyH_ready (rs := [1, 4]) (by kernel_rfl) (by simp) ?_
    refine AllReadyH.cons (o := { dst := some 4, op := Op.load 25 (Operand.tmp 3), type := 25, pos := "l2_mail.go:61", after := #[{ on := 0, ground := Ground.data }], guard := none }) rfl (fun K hK => ?k225) (AllReadyH.cons (o := { dst := some 7, op := Op.load 26 (Operand.tmp 6), type := 26, pos := "l2_mail.go:61", after := #[{ on := 3, ground := Ground.data }], guard := none }) rfl (fun K hK => ?k226) AllReadyH.nil)
    case k225 =>
      have y12_ : V0.cell? ⟨w.heap.size, 2, none⟩ = some (.slice A0 m.f1.length c0) := by simp [World.cell?, F0.out]
      go_simp
      refine hK.out _ _ ?h227 (fun hHeld => ?j227)
      case h227 => exact hHeld
      clear hK K
      try simp only [Act.put, List.setIfInBounds_toArray, List.set_cons_zero, List.set_cons_succ]
      refine wpAnyH_ready (rs := [2, 4]) (by kernel_rfl) (by simp) ?_
      refine AllReadyH.cons (o := { dst := some 5, op := Op.call { callee := Callee.value (Operand.func 129), args := #[Operand.tmp 4], argTypes := #[25] }, type := 25, pos := "l2_mail.go:61", after := #[{ on := 1, ground := Ground.data }], guard := none }) rfl (fun K hK => ?k228) (AllReadyH.cons (o := { dst := some 7, op := Op.load 26 (Operand.tmp 6), type := 26, pos := "l2_mail.go:61", after := #[{ on := 3, ground := Ground.data }], guard := none }) rfl (fun K hK => ?k229) AllReadyH.nil)
      case k228 =>
        have hsl2 : w.heap.size ≤ V0.heap.size := hHeld.size
        go_simp
        refine (hc0 _ hHeld).mono ?_
        rintro e V2 ⟨B0, d0, rfl, ga, b2⟩
        refine hK.out _ _ ?h230 (fun hHeld => ?j230)
        case h230 => exact bel_then hHeld b2
        clear hK K
        try simp only [Act.put, List.setIfInBounds_toArray, List.set_cons_zero, List.set_cons_succ]
        have U0 := Aside0.mk (Kd.R_lower (base' := w.heap.size) ga hsl2)
        clear ga hsl2
        replace F0 := Aside0.mk (below_blk F0.out b2)
        replace F1 := Aside0.mk (below_blk F1.out b2)
        refine wpAnyH_ready (rs := [4]) (by kernel_rfl) (by simp) ?_
        refine AllReadyH.cons (o := { dst := some 7, op := Op.load 26 (Operand.tmp 6), type := 26, pos := "l2_mail.go:61", after := #[{ on := 3, ground := Ground.data }], guard := none }) rfl (fun K hK => ?k231) AllReadyH.nil
        case k231 =>
          have y43_ : V2.cell? ⟨w.heap.size, 3, none⟩ = some (.slice A1 m.f2.length c1) := by simp [World.cell?, F0.out]
          go_simp
          refine hK.out _ _ ?h232 (fun hHeld => ?j232)
          case h232 => exact hHeld
          clear hK K
          try simp only [Act.put, List.setIfInBounds_toArray, List.set_cons_zero, List.set_cons_succ]
          refine wpAnyH_take (i := 6) (oi := { dst := some 9, op := Op.fieldAddr 28 (Operand.tmp 1) 1, type := 0, pos := "l2_mail.go:61", after := #[{ on := 0, ground := Ground.phase }, { on := 1, ground := Ground.phase }, { on := 2, ground := Ground.phase }, { on := 3, ground := Ground.phase }, { on := 4, ground := Ground.phase }, { on := 5, ground := Ground.textOnly Departure.lateStoresUnsure }], guard := none }) (v := ?v233) rfl (by kernel_rfl) (by kernel_rfl) (by kernel_rfl) (fun _ _ _ h => h) (Or.inl ⟨by rfl, ?y233⟩) (by assumption) ?r233
          case y233 => intro w_ hSw; (try dsimp only at hSw); go_simp; (try (with_reducible rfl))
          try simp only [Act.put, List.setIfInBounds_toArray, List.set_cons_zero, List.set_cons_succ]
          refine wpAnyH_ready (rs := [5]) (by kernel_rfl) (by simp) ?_
          refine AllReadyH.cons (o := { dst := some 8, op := Op.call { callee := Callee.value (Operand.func 48), args := #[Operand.tmp 7], argTypes := #[26] }, type := 26, pos := "l2_mail.go:61", after := #[{ on := 4, ground := Ground.data }, { on := 2, ground := Ground.chain }], guard := none }) rfl (fun K hK => ?k234) AllReadyH.nil
          case k234 =>
            have hsl5 : w.heap.size ≤ V2.heap.size := hHeld.size
            go_simp
            refine (hc1 _ hHeld).mono ?_
            rintro e V5 ⟨B1, d1, rfl, gb, b5⟩
            refine hK.out _ _ ?h235 (fun hHeld => ?j235)
            case h235 => exact bel_then hHeld b5
            clear hK K
            try simp only [Act.put, List.setIfInBounds_toArray, List.set_cons_zero, List.set_cons_succ]
            have U1 := Aside0.mk (Kd.R_lower (base' := w.heap.size) gb hsl5)
            clear gb hsl5
            replace F0 := Aside0.mk (below_blk F0.out b5)
            replace F1 := Aside0.mk (below_blk F1.out b5)
            replace U0 := Aside0.mk (Kd.R_below U0.out b5)
            refine wpAnyH_ready (rs := [7]) (by kernel_rfl) (by simp) ?_
            refine AllReadyH.cons (o := { dst := none, op := Op.store 25 (Operand.tmp 9) (Operand.tmp 5), type := 0, pos := "l2_mail.go:61", after := #[{ on := 6, ground := Ground.data }, { on := 2, ground := Ground.data }, { on := 5, ground := Ground.chain }, { on := 0, ground := Ground.phase }, { on := 1, ground := Ground.phase }, { on := 2, ground := Ground.phase }, { on := 3, ground := Ground.phase }, { on := 4, ground := Ground.phase }, { on := 5, ground := Ground.textOnly Departure.lateStoresUnsure }], guard := none }) rfl (fun K hK => ?k236) AllReadyH.nil
            case k236 =>
              have hb7 := F0.out
              have v2_ : V5.cell? ⟨w.heap.size, 2, none⟩ = some (.slice A0 m.f1.length c0) := by simp [World.cell?, hb7]
              have u2_ : V5.frozen? ⟨w.heap.size, 2, none⟩ = false := by simp [World.frozen?, hb7]
              go_simp
              generalize hV7 : World.setCell V5 ⟨w.heap.size, 2, none⟩ _ = V7
              have G7 : V5.grownBy V7 (some (w.heap.size)) := by rw [← hV7]; exact grown_set1 _ _ _ _
              have FF : V7.heap[w.heap.size]? = some (.cells #[.string m.f0.f0, .string m.f0.f1, .slice B0 m.f1.length d0, .slice A1 m.f2.length c1] 28 (0, 0)) := by rw [← hV7, blk_set1 (F0.out) 2 _]; simp
              have BB : Below w.heap.size w V7 := by rw [← hV7]; exact (bel_set hHeld _ (Nat.le_refl _))
              clear hV7
              refine hK.out _ _ ?h237 (fun hHeld => ?j237)
              case h237 => exact BB
              clear hK K
              try simp only [Act.put, List.setIfInBounds_toArray, List.set_cons_zero, List.set_cons_succ]
              replace U0 := Aside0.mk (R_else U0.out rfl G7 (Kd.R_ne U0.out F0.out (by decide)))
              replace U1 := Aside0.mk (R_else U1.out rfl G7 (Kd.R_ne U1.out F0.out (by decide)))
              replace F0 := Aside0.mk FF
              clear FF
              replace F1 := Aside0.mk ((G7.block _ (blk_lt F1.out) (fun e => by have e := Option.some.inj e; omega)).trans F1.out)
              refine wpAnyH_take (i := 8) (oi := { dst := some 10, op := Op.fieldAddr 28 (Operand.tmp 1) 2, type := 0, pos := "l2_mail.go:61", after := #[{ on := 0, ground := Ground.phase }, { on := 1, ground := Ground.phase }, { on := 2, ground := Ground.phase }, { on := 3, ground := Ground.phase }, { on := 4, ground := Ground.phase }, { on := 5, ground := Ground.phase }, { on := 6, ground := Ground.phase }, { on := 7, ground := Ground.phase }], guard := none }) (v := ?v238) rfl (by kernel_rfl) (by kernel_rfl) (by kernel_rfl) (fun _ _ _ h => h) (Or.inl ⟨by rfl, ?y238⟩) (by assumption) ?r238
              case y238 => intro w_ hSw; (try dsimp only at hSw); go_simp; (try (with_reducible rfl))
              try simp only [Act.put, List.setIfInBounds_toArray, List.set_cons_zero, List.set_cons_succ]
              refine wpAnyH_ready (rs := [9]) (by kernel_rfl) (by simp) ?_
              refine AllReadyH.cons (o := { dst := none, op := Op.store 26 (Operand.tmp 10) (Operand.tmp 8), type := 0, pos := "l2_mail.go:61", after := #[{ on := 8, ground := Ground.data }, { on := 5, ground := Ground.data }, { on := 7, ground := Ground.chain }, { on := 0, ground := Ground.phase }, { on := 1, ground := Ground.phase }, { on := 2, ground := Ground.phase }, { on := 3, ground := Ground.phase }, { on := 4, ground := Ground.phase }, { on := 5, ground := Ground.phase }, { on := 6, ground := Ground.phase }, { on := 7, ground := Ground.phase }], guard := none }) rfl (fun K hK => ?k239) AllReadyH.nil
              case k239 =>
                have hb7 := F0.out
                have v3_ : V7.cell? ⟨w.heap.size, 3, none⟩ = some (.slice A1 m.f2.length c1) := by simp [World.cell?, hb7]
                have u3_ : V7.frozen? ⟨w.heap.size, 3, none⟩ = false := by simp [World.frozen?, hb7]
                go_simp
                generalize hV9 : World.setCell V7 ⟨w.heap.size, 3, none⟩ _ = V9
                have G9 : V7.grownBy V9 (some (w.heap.size)) := by rw [← hV9]; exact grown_set1 _ _ _ _
                have FF : V9.heap[w.heap.size]? = some (.cells #[.string m.f0.f0, .string m.f0.f1, .slice B0 m.f1.length d0, .slice B1 m.f2.length d1] 28 (0, 0)) := by rw [← hV9, blk_set1 (F0.out) 3 _]; simp
                have BB : Below w.heap.size w V9 := by rw [← hV9]; exact (bel_set hHeld _ (Nat.le_refl _))
                clear hV9
                refine hK.out _ _ ?h240 (fun hHeld => ?j240)
                case h240 => exact BB
                clear hK K
                try simp only [Act.put, List.setIfInBounds_toArray, List.set_cons_zero, List.set_cons_succ]
                replace U0 := Aside0.mk (R_else U0.out rfl G9 (Kd.R_ne U0.out F0.out (by decide)))
                replace U1 := Aside0.mk (R_else U1.out rfl G9 (Kd.R_ne U1.out F0.out (by decide)))
                replace F0 := Aside0.mk FF
                clear FF
                replace F1 := Aside0.mk ((G9.block _ (blk_lt F1.out) (fun e => by have e := Option.some.inj e; omega)).trans F1.out)
                refine wpAnyH_done (by kernel_rfl) ?_ _
                exact HKK.out B0 d0 B1 d1 V9 ⟨hHeld, blk_lt F1.out, F0.out, F1.out, U0.out, U1.out⟩
      case k229 =>
        have y43_ : V0.cell? ⟨w.heap.size, 3, none⟩ = some (.slice A1 m.f2.length c1) := by simp [World.cell?, F0.out]
        go_simp
        refine hK.out _ _ ?h241 (fun hHeld => ?j241)
        case h241 => exact hHeld
        clear hK K
        try simp only [Act.put, List.setIfInBounds_toArray, List.set_cons_zero, List.set_cons_succ]
        refine wpAnyH_ready (rs := [2]) (by kernel_rfl) (by simp) ?_
        refine AllReadyH.cons (o := { dst := some 5, op := Op.call { callee := Callee.value (Operand.func 129), args := #[Operand.tmp 4], argTypes := #[25] }, type := 25, pos := "l2_mail.go:61", after := #[{ on := 1, ground := Ground.data }], guard := none }) rfl (fun K hK => ?k242) AllReadyH.nil
        case k242 =>
          have hsl2 : w.heap.size ≤ V0.heap.size := hHeld.size
          go_simp
          refine (hc0 _ hHeld).mono ?_
          rintro e V2 ⟨B0, d0, rfl, ga, b2⟩
          refine hK.out _ _ ?h243 (fun hHeld => ?j243)
          case h243 => exact bel_then hHeld b2
          clear hK K
          try simp only [Act.put, List.setIfInBounds_toArray, List.set_cons_zero, List.set_cons_succ]
          have U0 := Aside0.mk (Kd.R_lower (base' := w.heap.size) ga hsl2)
          clear ga hsl2
          replace F0 := Aside0.mk (below_blk F0.out b2)
          replace F1 := Aside0.mk (below_blk F1.out b2)
          refine wpAnyH_take (i := 6) (oi := { dst := some 9, op := Op.fieldAddr 28 (Operand.tmp 1) 1, type := 0, pos := "l2_mail.go:61", after := #[{ on := 0, ground := Ground.phase }, { on := 1, ground := Ground.phase }, { on := 2, ground := Ground.phase }, { on := 3, ground := Ground.phase }, { on := 4, ground := Ground.phase }, { on := 5, ground := Ground.textOnly Departure.lateStoresUnsure }], guard := none }) (v := ?v244) rfl (by kernel_rfl) (by kernel_rfl) (by kernel_rfl) (fun _ _ _ h => h) (Or.inl ⟨by rfl, ?y244⟩) (by assumption) ?r244
          case y244 => intro w_ hSw; (try dsimp only at hSw); go_simp; (try (with_reducible rfl))
          try simp only [Act.put, List.setIfInBounds_toArray, List.set_cons_zero, List.set_cons_succ]
          refine wpAnyH_ready (rs := [5]) (by kernel_rfl) (by simp) ?_
          refine AllReadyH.cons (o := { dst := some 8, op := Op.call { callee := Callee.value (Operand.func 48), args := #[Operand.tmp 7], argTypes := #[26] }, type := 26, pos := "l2_mail.go:61", after := #[{ on := 4, ground := Ground.data }, { on := 2, ground := Ground.chain }], guard := none }) rfl (fun K hK => ?k245) AllReadyH.nil
          case k245 =>
            have hsl5 : w.heap.size ≤ V2.heap.size := hHeld.size
            go_simp
            refine (hc1 _ hHeld).mono ?_
            rintro e V5 ⟨B1, d1, rfl, gb, b5⟩
            refine hK.out _ _ ?h246 (fun hHeld => ?j246)
            case h246 => exact bel_then hHeld b5
            clear hK K
            try simp only [Act.put, List.setIfInBounds_toArray, List.set_cons_zero, List.set_cons_succ]
            have U1 := Aside0.mk (Kd.R_lower (base' := w.heap.size) gb hsl5)
            clear gb hsl5
            replace F0 := Aside0.mk (below_blk F0.out b5)
            replace F1 := Aside0.mk (below_blk F1.out b5)
            replace U0 := Aside0.mk (Kd.R_below U0.out b5)
            refine wpAnyH_ready (rs := [7]) (by kernel_rfl) (by simp) ?_
            refine AllReadyH.cons (o := { dst := none, op := Op.store 25 (Operand.tmp 9) (Operand.tmp 5), type := 0, pos := "l2_mail.go:61", after := #[{ on := 6, ground := Ground.data }, { on := 2, ground := Ground.data }, { on := 5, ground := Ground.chain }, { on := 0, ground := Ground.phase }, { on := 1, ground := Ground.phase }, { on := 2, ground := Ground.phase }, { on := 3, ground := Ground.phase }, { on := 4, ground := Ground.phase }, { on := 5, ground := Ground.textOnly Departure.lateStoresUnsure }], guard := none }) rfl (fun K hK => ?k247) AllReadyH.nil
            case k247 =>
              have hb7 := F0.out
              have v2_ : V5.cell? ⟨w.heap.size, 2, none⟩ = some (.slice A0 m.f1.length c0) := by simp [World.cell?, hb7]
              have u2_ : V5.frozen? ⟨w.heap.size, 2, none⟩ = false := by simp [World.frozen?, hb7]
              go_simp
              generalize hV7 : World.setCell V5 ⟨w.heap.size, 2, none⟩ _ = V7
              have G7 : V5.grownBy V7 (some (w.heap.size)) := by rw [← hV7]; exact grown_set1 _ _ _ _
              have FF : V7.heap[w.heap.size]? = some (.cells #[.string m.f0.f0, .string m.f0.f1, .slice B0 m.f1.length d0, .slice A1 m.f2.length c1] 28 (0, 0)) := by rw [← hV7, blk_set1 (F0.out) 2 _]; simp
              have BB : Below w.heap.size w V7 := by rw [← hV7]; exact (bel_set hHeld _ (Nat.le_refl _))
              clear hV7
              refine hK.out _ _ ?h248 (fun hHeld => ?j248)
              case h248 => exact BB
              clear hK K
              try simp only [Act.put, List.setIfInBounds_toArray, List.set_cons_zero, List.set_cons_succ]
              replace U0 := Aside0.mk (R_else U0.out rfl G7 (Kd.R_ne U0.out F0.out (by decide)))
              replace U1 := Aside0.mk (R_else U1.out rfl G7 (Kd.R_ne U1.out F0.out (by decide)))
              replace F0 := Aside0.mk FF
              clear FF
              replace F1 := Aside0.mk ((G7.block _ (blk_lt F1.out) (fun e => by have e := Option.some.inj e; omega)).trans F1.out)
              refine wpAnyH_take (i := 8) (oi := { dst := some 10, op := Op.fieldAddr 28 (Operand.tmp 1) 2, type := 0, pos := "l2_mail.go:61", after := #[{ on := 0, ground := Ground.phase }, { on := 1, ground := Ground.phase }, { on := 2, ground := Ground.phase }, { on := 3, ground := Ground.phase }, { on := 4, ground := Ground.phase }, { on := 5, ground := Ground.phase }, { on := 6, ground := Ground.phase }, { on := 7, ground := Ground.phase }], guard := none }) (v := ?v249) rfl (by kernel_rfl) (by kernel_rfl) (by kernel_rfl) (fun _ _ _ h => h) (Or.inl ⟨by rfl, ?y249⟩) (by assumption) ?r249
              case y249 => intro w_ hSw; (try dsimp only at hSw); go_simp; (try (with_reducible rfl))
              try simp only [Act.put, List.setIfInBounds_toArray, List.set_cons_zero, List.set_cons_succ]
              refine wpAnyH_ready (rs := [9]) (by kernel_rfl) (by simp) ?_
              refine AllReadyH.cons (o := { dst := none, op := Op.store 26 (Operand.tmp 10) (Operand.tmp 8), type := 0, pos := "l2_mail.go:61", after := #[{ on := 8, ground := Ground.data }, { on := 5, ground := Ground.data }, { on := 7, ground := Ground.chain }, { on := 0, ground := Ground.phase }, { on := 1, ground := Ground.phase }, { on := 2, ground := Ground.phase }, { on := 3, ground := Ground.phase }, { on := 4, ground := Ground.phase }, { on := 5, ground := Ground.phase }, { on := 6, ground := Ground.phase }, { on := 7, ground := Ground.phase }], guard := none }) rfl (fun K hK => ?k250) AllReadyH.nil
              case k250 =>
                have hb7 := F0.out
                have v3_ : V7.cell? ⟨w.heap.size, 3, none⟩ = some (.slice A1 m.f2.length c1) := by simp [World.cell?, hb7]
                have u3_ : V7.frozen? ⟨w.heap.size, 3, none⟩ = false := by simp [World.frozen?, hb7]
                go_simp
                generalize hV9 : World.setCell V7 ⟨w.heap.size, 3, none⟩ _ = V9
                have G9 : V7.grownBy V9 (some (w.heap.size)) := by rw [← hV9]; exact grown_set1 _ _ _ _
                have FF : V9.heap[w.heap.size]? = some (.cells #[.string m.f0.f0, .string m.f0.f1, .slice B0 m.f1.length d0, .slice B1 m.f2.length d1] 28 (0, 0)) := by rw [← hV9, blk_set1 (F0.out) 3 _]; simp
                have BB : Below w.heap.size w V9 := by rw [← hV9]; exact (bel_set hHeld _ (Nat.le_refl _))
                clear hV9
                refine hK.out _ _ ?h251 (fun hHeld => ?j251)
                case h251 => exact BB
                clear hK K
                try simp only [Act.put, List.setIfInBounds_toArray, List.set_cons_zero, List.set_cons_succ]
                replace U0 := Aside0.mk (R_else U0.out rfl G9 (Kd.R_ne U0.out F0.out (by decide)))
                replace U1 := Aside0.mk (R_else U1.out rfl G9 (Kd.R_ne U1.out F0.out (by decide)))
                replace F0 := Aside0.mk FF
                clear FF
                replace F1 := Aside0.mk ((G9.block _ (blk_lt F1.out) (fun e => by have e := Option.some.inj e; omega)).trans F1.out)
                refine wpAnyH_done (by kernel_rfl) ?_ _
                exact HKK.out B0 d0 B1 d1 V9 ⟨hHeld, blk_lt F1.out, F0.out, F1.out, U0.out, U1.out⟩
    case k226 =>
      have y43_ : V0.cell? ⟨w.heap.size, 3, none⟩ = some (.slice A1 m.f2.length c1) := by simp [World.cell?, F0.out]
      go_simp
      refine hK.out _ _ ?h252 (fun hHeld => ?j252)
      case h252 => exact hHeld
      clear hK K
      try simp only [Act.put, List.setIfInBounds_toArray, List.set_cons_zero, List.set_cons_succ]
      refine wpAnyH_ready (rs := [1]) (by kernel_rfl) (by simp) ?_
      refine AllReadyH.cons (o := { dst := some 4, op := Op.load 25 (Operand.tmp 3), type := 25, pos := "l2_mail.go:61", after := #[{ on := 0, ground := Ground.data }], guard := none }) rfl (fun K hK => ?k253) AllReadyH.nil
      case k253 =>
        have y12_ : V0.cell? ⟨w.heap.size, 2, none⟩ = some (.slice A0 m.f1.length c0) := by simp [World.cell?, F0.out]
        go_simp
        refine hK.out _ _ ?h254 (fun hHeld => ?j254)
        case h254 => exact hHeld
        clear hK K
        try simp only [Act.put, List.setIfInBounds_toArray, List.set_cons_zero, List.set_cons_succ]
        refine wpAnyH_ready (rs := [2]) (by kernel_rfl) (by simp) ?_
        refine AllReadyH.cons (o := { dst := some 5, op := Op.call { callee := Callee.value (Operand.func 129), args := #[Operand.tmp 4], argTypes := #[25] }, type := 25, pos := "l2_mail.go:61", after := #[{ on := 1, ground := Ground.data }], guard := none }) rfl (fun K hK => ?k255) AllReadyH.nil
        case k255 =>
          have hsl2 : w.heap.size ≤ V0.heap.size := hHeld.size
          go_simp
          refine (hc0 _ hHeld).mono ?_
          rintro e V2 ⟨B0, d0, rfl, ga, b2⟩
          refine hK.out _ _ ?h256 (fun hHeld => ?j256)
          case h256 => exact bel_then hHeld b2
          clear hK K
          try simp only [Act.put, List.setIfInBounds_toArray, List.set_cons_zero, List.set_cons_succ]
          have U0 := Aside0.mk (Kd.R_lower (base' := w.heap.size) ga hsl2)
          clear ga hsl2
          replace F0 := Aside0.mk (below_blk F0.out b2)
          replace F1 := Aside0.mk (below_blk F1.out b2)
          refine wpAnyH_take (i := 6) (oi := { dst := some 9, op := Op.fieldAddr 28 (Operand.tmp 1) 1, type := 0, pos := "l2_mail.go:61", after := #[{ on := 0, ground := Ground.phase }, { on := 1, ground := Ground.phase }, { on := 2, ground := Ground.phase }, { on := 3, ground := Ground.phase }, { on := 4, ground := Ground.phase }, { on := 5, ground := Ground.textOnly Departure.lateStoresUnsure }], guard := none }) (v := ?v257) rfl (by kernel_rfl) (by kernel_rfl) (by kernel_rfl) (fun _ _ _ h => h) (Or.inl ⟨by rfl, ?y257⟩) (by assumption) ?r257
          case y257 => intro w_ hSw; (try dsimp only at hSw); go_simp; (try (with_reducible rfl))
          try simp only [Act.put, List.setIfInBounds_toArray, List.set_cons_zero, List.set_cons_succ]
          refine wpAnyH_ready (rs := [5]) (by kernel_rfl) (by simp) ?_
          refine AllReadyH.cons (o := { dst := some 8, op := Op.call { callee := Callee.value (Operand.func 48), args := #[Operand.tmp 7], argTypes := #[26] }, type := 26, pos := "l2_mail.go:61", after := #[{ on := 4, ground := Ground.data }, { on := 2, ground := Ground.chain }], guard := none }) rfl (fun K hK => ?k258) AllReadyH.nil
          case k258 =>
            have hsl5 : w.heap.size ≤ V2.heap.size := hHeld.size
            go_simp
            refine (hc1 _ hHeld).mono ?_
            rintro e V5 ⟨B1, d1, rfl, gb, b5⟩
            refine hK.out _ _ ?h259 (fun hHeld => ?j259)
            case h259 => exact bel_then hHeld b5
            clear hK K
            try simp only [Act.put, List.setIfInBounds_toArray, List.set_cons_zero, List.set_cons_succ]
            have U1 := Aside0.mk (Kd.R_lower (base' := w.heap.size) gb hsl5)
            clear gb hsl5
            replace F0 := Aside0.mk (below_blk F0.out b5)
            replace F1 := Aside0.mk (below_blk F1.out b5)
            replace U0 := Aside0.mk (Kd.R_below U0.out b5)
            refine wpAnyH_ready (rs := [7]) (by kernel_rfl) (by simp) ?_
            refine AllReadyH.cons (o := { dst := none, op := Op.store 25 (Operand.tmp 9) (Operand.tmp 5), type := 0, pos := "l2_mail.go:61", after := #[{ on := 6, ground := Ground.data }, { on := 2, ground := Ground.data }, { on := 5, ground := Ground.chain }, { on := 0, ground := Ground.phase }, { on := 1, ground := Ground.phase }, { on := 2, ground := Ground.phase }, { on := 3, ground := Ground.phase }, { on := 4, ground := Ground.phase }, { on := 5, ground := Ground.textOnly Departure.lateStoresUnsure }], guard := none }) rfl (fun K hK => ?k260) AllReadyH.nil
            case k260 =>
              have hb7 := F0.out
              have v2_ : V5.cell? ⟨w.heap.size, 2, none⟩ = some (.slice A0 m.f1.length c0) := by simp [World.cell?, hb7]
              have u2_ : V5.frozen? ⟨w.heap.size, 2, none⟩ = false := by simp [World.frozen?, hb7]
              go_simp
              generalize hV7 : World.setCell V5 ⟨w.heap.size, 2, none⟩ _ = V7
              have G7 : V5.grownBy V7 (some (w.heap.size)) := by rw [← hV7]; exact grown_set1 _ _ _ _
              have FF : V7.heap[w.heap.size]? = some (.cells #[.string m.f0.f0, .string m.f0.f1, .slice B0 m.f1.length d0, .slice A1 m.f2.length c1] 28 (0, 0)) := by rw [← hV7, blk_set1 (F0.out) 2 _]; simp
              have BB : Below w.heap.size w V7 := by rw [← hV7]; exact (bel_set hHeld _ (Nat.le_refl _))
              clear hV7
              refine hK.out _ _ ?h261 (fun hHeld => ?j261)
              case h261 => exact BB
              clear hK K
              try simp only [Act.put, List.setIfInBounds_toArray, List.set_cons_zero, List.set_cons_succ]
              replace U0 := Aside0.mk (R_else U0.out rfl G7 (Kd.R_ne U0.out F0.out (by decide)))
              replace U1 := Aside0.mk (R_else U1.out rfl G7 (Kd.R_ne U1.out F0.out (by decide)))
              replace F0 := Aside0.mk FF
              clear FF
              replace F1 := Aside0.mk ((G7.block _ (blk_lt F1.out) (fun e => by have e := Option.some.inj e; omega)).trans F1.out)
              refine wpAnyH_take (i := 8) (oi := { dst := some 10, op := Op.fieldAddr 28 (Operand.tmp 1) 2, type := 0, pos := "l2_mail.go:61", after := #[{ on := 0, ground := Ground.phase }, { on := 1, ground := Ground.phase }, { on := 2, ground := Ground.phase }, { on := 3, ground := Ground.phase }, { on := 4, ground := Ground.phase }, { on := 5, ground := Ground.phase }, { on := 6, ground := Ground.phase }, { on := 7, ground := Ground.phase }], guard := none }) (v := ?v262) rfl (by kernel_rfl) (by kernel_rfl) (by kernel_rfl) (fun _ _ _ h => h) (Or.inl ⟨by rfl, ?y262⟩) (by assumption) ?r262
              case y262 => intro w_ hSw; (try dsimp only at hSw); go_simp; (try (with_reducible rfl))
              try simp only [Act.put, List.setIfInBounds_toArray, List.set_cons_zero, List.set_cons_succ]
              refine wpAnyH_ready (rs := [9]) (by kernel_rfl) (by simp) ?_
              refine AllReadyH.cons (o := { dst := none, op := Op.store 26 (Operand.tmp 10) (Operand.tmp 8), type := 0, pos := "l2_mail.go:61", after := #[{ on := 8, ground := Ground.data }, { on := 5, ground := Ground.data }, { on := 7, ground := Ground.chain }, { on := 0, ground := Ground.phase }, { on := 1, ground := Ground.phase }, { on := 2, ground := Ground.phase }, { on := 3, ground := Ground.phase }, { on := 4, ground := Ground.phase }, { on := 5, ground := Ground.phase }, { on := 6, ground := Ground.phase }, { on := 7, ground := Ground.phase }], guard := none }) rfl (fun K hK => ?k263) AllReadyH.nil
              case k263 =>
                have hb7 := F0.out
                have v3_ : V7.cell? ⟨w.heap.size, 3, none⟩ = some (.slice A1 m.f2.length c1) := by simp [World.cell?, hb7]
                have u3_ : V7.frozen? ⟨w.heap.size, 3, none⟩ = false := by simp [World.frozen?, hb7]
                go_simp
                generalize hV9 : World.setCell V7 ⟨w.heap.size, 3, none⟩ _ = V9
                have G9 : V7.grownBy V9 (some (w.heap.size)) := by rw [← hV9]; exact grown_set1 _ _ _ _
                have FF : V9.heap[w.heap.size]? = some (.cells #[.string m.f0.f0, .string m.f0.f1, .slice B0 m.f1.length d0, .slice B1 m.f2.length d1] 28 (0, 0)) := by rw [← hV9, blk_set1 (F0.out) 3 _]; simp
                have BB : Below w.heap.size w V9 := by rw [← hV9]; exact (bel_set hHeld _ (Nat.le_refl _))
                clear hV9
                refine hK.out _ _ ?h264 (fun hHeld => ?j264)
                case h264 => exact BB
                clear hK K
                try simp only [Act.put, List.setIfInBounds_toArray, List.set_cons_zero, List.set_cons_succ]
                replace U0 := Aside0.mk (R_else U0.out rfl G9 (Kd.R_ne U0.out F0.out (by decide)))
                replace U1 := Aside0.mk (R_else U1.out rfl G9 (Kd.R_ne U1.out F0.out (by decide)))
                replace F0 := Aside0.mk FF
                clear FF
                replace F1 := Aside0.mk ((G9.block _ (blk_lt F1.out) (fun e => by have e := Option.some.inj e; omega)).trans F1.out)
                refine wpAnyH_done (by kernel_rfl) ?_ _
                exact HKK.out B0 d0 B1 d1 V9 ⟨hHeld, blk_lt F1.out, F0.out, F1.out, U0.out, U1.out⟩
  case hk =>
    intro B0 d0 B1 d1 V ⟨BV, sV, f0, f1, u0, u1⟩
    clear HST HF0 HF1 join
    have U0 := Aside0.mk u0
    have U1 := Aside0.mk u1
    have F1 := Aside0.mk f1
    have F0 := Aside0.mk f0
    have BW := Aside0.mk BV
    clear u0 u1 f0 f1 BV
    have m0_ : V.cell? ⟨w.heap.size, 0, none⟩ = some (.string m.f0.f0) := by simp [World.cell?, F0.out]
    have m1_ : V.cell? ⟨w.heap.size, 1, none⟩ = some (.string m.f0.f1) := by simp [World.cell?, F0.out]
    have m2_ : V.cell? ⟨w.heap.size, 2, none⟩ = some (.slice B0 m.f1.length d0) := by simp [World.cell?, F0.out]
    have m3_ : V.cell? ⟨w.heap.size, 3, none⟩ = some (.slice B1 m.f2.length d1) := by simp [World.cell?, F0.out]
    have k0_ : V.cell? ⟨w.heap.size + 1, 0, none⟩ = some (.string ⟨#[]⟩) := by simp [World.cell?, F1.out]
    have k1_ : V.cell? ⟨w.heap.size + 1, 1, none⟩ = some (.string ⟨#[]⟩) := by simp [World.cell?, F1.out]
    have k2_ : V.cell? ⟨w.heap.size + 1, 2, none⟩ = some (.slice none 0 0) := by simp [World.cell?, F1.out]
    have k3_ : V.cell? ⟨w.heap.size + 1, 3, none⟩ = some (.slice none 0 0) := by simp [World.cell?, F1.out]
    have kz0_ : V.frozen? ⟨w.heap.size + 1, 0, none⟩ = false := by simp [World.frozen?, F1.out]
    have kz1_ : V.frozen? ⟨w.heap.size + 1, 1, none⟩ = false := by simp [World.frozen?, F1.out]
    have kz2_ : V.frozen? ⟨w.heap.size + 1, 2, none⟩ = false := by simp [World.frozen?, F1.out]
    have kz3_ : V.frozen? ⟨w.heap.size + 1, 3, none⟩ = false := by simp [World.frozen?, F1.out]
    go_wp2
    refine bodyPost_ret (v := .agg #[.string m.f0.f0, .string m.f0.f1, .slice B0 m.f1.length d0, .slice B1 m.f2.length d1]) ?hr rfl ?hp
    case hr => simp [results, Tryz.results77, go_sem, m0_, m1_, m2_, m3_, k0_, k1_, k2_, k3_]
    case hp =>
      have g1 := (((grown_set1 V (w.heap.size + 1) 0 (.string m.f0.f0)).trans (grown_set1 _ _ 1 (.string m.f0.f1))).trans (grown_set1 _ _ 2 (.slice B0 m.f1.length d0))).trans (grown_set1 _ _ 3 (.slice B1 m.f2.length d1))
      exact ⟨B0, d0, B1, d1, rfl, R_else U0.out rfl g1 (Kd.R_ne U0.out F1.out (by decide)), R_else U1.out rfl g1 (Kd.R_ne U1.out F1.out (by decide)), by (with_reducible repeat (first | exact BW.out | refine bel_alloc ?_ _ | refine bel_set ?_ _ ?_ | refine blw_drewN ?_ _ | refine Below.drew ?_)); all_goals (first | (simp; done) | (simp; omega) | omega)⟩

end Go.Proofs.YtoppgnmnbbhghaaGreatDoor
