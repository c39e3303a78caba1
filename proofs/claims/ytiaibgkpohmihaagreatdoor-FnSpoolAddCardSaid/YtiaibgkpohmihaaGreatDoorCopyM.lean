/- Copies of mails, of the program: a contract. -/
import Derived.Test.YtiaibgkpohmihaaGreatDoorReg
import Derived.Test.YtiaibgkpohmihaaGreatDoorClone
import Derived.Test.YtiaibgkpohmihaaGreatDoorBlk
namespace Go.Proofs.YtiaibgkpohmihaaGreatDoor
open Go.RowKit Go.Proofs.YtiaibgkpohmihaaGreatDoorW.PrintWords
set_option linter.unusedVariables false
set_option linter.unusedSimpArgs false

set_option maxRecDepth 100000 in
set_option maxHeartbeats 4000000 in
theorem mailCopied_any (m : SMail) (A0 : Option Addr) (c0 : Nat) (A1 : Option Addr) (c1 : Nat) (w : World) (hw : fitMail m) (hr0 : Kd.C kAddr w A0 m.f1.length m.f1) (hr1 : Kd.C Kd.string w A1 m.f2.length m.f2) :
  Calls Tryz.prog 55 #[.agg #[.string m.f0.f0, .string m.f0.f1, .slice A0 m.f1.length c0, .slice A1 m.f2.length c1]] w fun e w' => ∃ B0 d0 B1 d1, e = .returned (.agg #[.string m.f0.f0, .string m.f0.f1, .slice B0 m.f1.length d0, .slice B1 m.f2.length d1]) ∧ Kd.R kAddr 30 w' w.heap.size (fun _ => True) (.slice B0 m.f1.length d0) m.f1 ∧ Kd.R Kd.string 9 w' w.heap.size (fun _ => True) (.slice B1 m.f2.length d1) m.f2 ∧ Below w.heap.size w w' := by
 have hc0 := fun W (hW : Below w.heap.size w W) => cloneAddr_any A0 c0 m.f1 W (Kd.C_below hr0 hW) hw.2.1.1
 have hc1 := fun W (hW : Below w.heap.size w W) => cloneString_any A1 c1 m.f2 W (Kd.C_below hr1 hW) hw.2.2.1
 clear hr0 hr1
 go_enter Tryz.func55, Tryz.ntmps55
 go_wp2
 obtain ⟨W0, hW0⟩ : ∃ W, W = (w.alloc (.cells #[.string m.f0.f0, .string m.f0.f1, .slice A0 m.f1.length c0, .slice A1 m.f2.length c1] 33)).alloc (.cells #[.string ⟨#[]⟩, .string ⟨#[]⟩, .slice none 0 0, .slice none 0 0] 33) := ⟨_, rfl⟩
 rw [← hW0]
 have f0 : W0.heap[w.heap.size]? = some (.cells #[.string m.f0.f0, .string m.f0.f1, .slice A0 m.f1.length c0, .slice A1 m.f2.length c1] 33 (0, 0)) := by rw [hW0]; exact below_blk (blk_new _ _) (bel_alloc (Below.refl _ _) _)
 have f1 : W0.heap[w.heap.size + 1]? = some (.cells #[.string ⟨#[]⟩, .string ⟨#[]⟩, .slice none 0 0, .slice none 0 0] 33 (0, 0)) := by rw [hW0, show w.heap.size + 1 = (w.alloc (.cells #[.string m.f0.f0, .string m.f0.f1, .slice A0 m.f1.length c0, .slice A1 m.f2.length c1] 33)).heap.size by simp]; exact blk_new _ _
 have B0 : Below w.heap.size w W0 := by rw [hW0]; exact bel_alloc (bel_alloc (Below.refl _ _) _) _
 clear hW0
 have join : Hid (∀ {goal : Prop} {G : Option Addr → Nat → Option Addr → Nat → World → Prop} (rg : Hid (∀ (B0 : Option Addr) (d0 : Nat) (B1 : Option Addr) (d1 : Nat) (V : World), Below w.heap.size w V ∧ w.heap.size + 1 < V.heap.size ∧ V.heap[w.heap.size]? = some (.cells #[.string m.f0.f0, .string m.f0.f1, .slice B0 m.f1.length d0, .slice B1 m.f2.length d1] 33 (0, 0)) ∧ V.heap[w.heap.size + 1]? = some (.cells #[.string ⟨#[]⟩, .string ⟨#[]⟩, .slice none 0 0, .slice none 0 0] 33 (0, 0)) ∧ Kd.R kAddr 30 V w.heap.size (fun _ => True) (.slice B0 m.f1.length d0) m.f1 ∧ Kd.R Kd.string 9 V w.heap.size (fun _ => True) (.slice B1 m.f2.length d1) m.f2 → G B0 d0 B1 d1 V) → goal) (hk : ∀ (B0 : Option Addr) (d0 : Nat) (B1 : Option Addr) (d1 : Nat) (V : World), Below w.heap.size w V ∧ w.heap.size + 1 < V.heap.size ∧ V.heap[w.heap.size]? = some (.cells #[.string m.f0.f0, .string m.f0.f1, .slice B0 m.f1.length d0, .slice B1 m.f2.length d1] 33 (0, 0)) ∧ V.heap[w.heap.size + 1]? = some (.cells #[.string ⟨#[]⟩, .string ⟨#[]⟩, .slice none 0 0, .slice none 0 0] 33 (0, 0)) ∧ Kd.R kAddr 30 V w.heap.size (fun _ => True) (.slice B0 m.f1.length d0) m.f1 ∧ Kd.R Kd.string 9 V w.heap.size (fun _ => True) (.slice B1 m.f2.length d1) m.f2 → G B0 d0 B1 d1 V), goal) := Lib.hid (fun f h => f (Lib.hid h))
 have HST : Aside0 (Below w.heap.size w W0.drew) := ⟨bel_then B0 (drew_below0 W0)⟩
 have HF0 : Aside0 (W0.heap[w.heap.size]? = some (.cells #[.string m.f0.f0, .string m.f0.f1, .slice A0 m.f1.length c0, .slice A1 m.f2.length c1] 33 (0, 0))) := ⟨f0⟩
 have HF1 : Aside0 (W0.heap[w.heap.size + 1]? = some (.cells #[.string ⟨#[]⟩, .string ⟨#[]⟩, .slice none 0 0, .slice none 0 0] 33 (0, 0))) := ⟨f1⟩
 clear f0 f1 B0
 apply join.out
 case rg =>
  intro HKK
  refine wp_region_held_drew (S := (fun W => Below w.heap.size w W)) (by kernel_rfl) ?s1 (fun hHeld => ?t1)
  case s1 => exact HST.out
  generalize hV0 : World.drew _ = V0 at hHeld ⊢
  have F0 : Aside0 (V0.heap[w.heap.size]? = some (.cells #[.string m.f0.f0, .string m.f0.f1, .slice A0 m.f1.length c0, .slice A1 m.f2.length c1] 33 (0, 0))) := ⟨by rw [← hV0]; exact HF0.out⟩
  have F1 : Aside0 (V0.heap[w.heap.size + 1]? = some (.cells #[.string ⟨#[]⟩, .string ⟨#[]⟩, .slice none 0 0, .slice none 0 0] 33 (0, 0))) := ⟨by rw [← hV0]; exact HF1.out⟩
  clear hV0
  refine tk 0 ?v2 ?y2 ?r2
  case y2 => intro w_ hSw; (try dsimp only at hSw); go_simp; (try (with_reducible rfl))
  try simp only [Act.put, List.setIfInBounds_toArray, List.set_cons_zero, List.set_cons_succ]
  refine tk 3 ?v3 ?y3 ?r3
  case y3 => intro w_ hSw; (try dsimp only at hSw); go_simp; (try (with_reducible rfl))
  try simp only [Act.put, List.setIfInBounds_toArray, List.set_cons_zero, List.set_cons_succ]
  refine rdy (rs := [1, 4]) ?_
  refine rc (fun K hK => ?k4) (rc (fun K hK => ?k5) AllReadyH.nil)
  case k4 =>
   have y12_ : V0.cell? ⟨w.heap.size, 2, none⟩ = some (.slice A0 m.f1.length c0) := by simp [World.cell?, F0.out]
   go_simp
   refine hK.out _ _ ?h6 (fun hHeld => ?j6)
   case h6 => exact hHeld
   clear hK K
   try simp only [Act.put, List.setIfInBounds_toArray, List.set_cons_zero, List.set_cons_succ]
   refine rdy (rs := [2, 4]) ?_
   refine rc (fun K hK => ?k7) (rc (fun K hK => ?k8) AllReadyH.nil)
   case k7 =>
    have hsl2 : w.heap.size ≤ V0.heap.size := hHeld.size
    go_simp
    refine (hc0 _ hHeld).mono ?_
    rintro e V2 ⟨B0, d0, rfl, ga, b2⟩
    refine hK.out _ _ ?h9 (fun hHeld => ?j9)
    case h9 => exact bel_then hHeld b2
    clear hK K
    try simp only [Act.put, List.setIfInBounds_toArray, List.set_cons_zero, List.set_cons_succ]
    have U0 := Aside0.mk (Kd.R_lower (base' := w.heap.size) ga hsl2)
    clear ga hsl2
    replace F0 := Aside0.mk (below_blk F0.out b2)
    replace F1 := Aside0.mk (below_blk F1.out b2)
    refine rdy (rs := [4]) ?_
    refine rc (fun K hK => ?k10) AllReadyH.nil
    case k10 =>
     have y43_ : V2.cell? ⟨w.heap.size, 3, none⟩ = some (.slice A1 m.f2.length c1) := by simp [World.cell?, F0.out]
     go_simp
     refine hK.out _ _ ?h11 (fun hHeld => ?j11)
     case h11 => exact hHeld
     clear hK K
     try simp only [Act.put, List.setIfInBounds_toArray, List.set_cons_zero, List.set_cons_succ]
     refine tk 6 ?v12 ?y12 ?r12
     case y12 => intro w_ hSw; (try dsimp only at hSw); go_simp; (try (with_reducible rfl))
     try simp only [Act.put, List.setIfInBounds_toArray, List.set_cons_zero, List.set_cons_succ]
     refine rdy (rs := [5]) ?_
     refine rc (fun K hK => ?k13) AllReadyH.nil
     case k13 =>
      have hsl5 : w.heap.size ≤ V2.heap.size := hHeld.size
      go_simp
      refine (hc1 _ hHeld).mono ?_
      rintro e V5 ⟨B1, d1, rfl, gb, b5⟩
      refine hK.out _ _ ?h14 (fun hHeld => ?j14)
      case h14 => exact bel_then hHeld b5
      clear hK K
      try simp only [Act.put, List.setIfInBounds_toArray, List.set_cons_zero, List.set_cons_succ]
      have U1 := Aside0.mk (Kd.R_lower (base' := w.heap.size) gb hsl5)
      clear gb hsl5
      replace F0 := Aside0.mk (below_blk F0.out b5)
      replace F1 := Aside0.mk (below_blk F1.out b5)
      replace U0 := Aside0.mk (Kd.R_below U0.out b5)
      refine rdy (rs := [7]) ?_
      refine rc (fun K hK => ?k15) AllReadyH.nil
      case k15 =>
       have hb7 := F0.out
       have v2_ : V5.cell? ⟨w.heap.size, 2, none⟩ = some (.slice A0 m.f1.length c0) := by simp [World.cell?, hb7]
       have u2_ : V5.frozen? ⟨w.heap.size, 2, none⟩ = false := by simp [World.frozen?, hb7]
       go_simp
       generalize hV7 : World.setCell V5 ⟨w.heap.size, 2, none⟩ _ = V7
       have G7 : V5.grownBy V7 (some (w.heap.size)) := by rw [← hV7]; exact grown_set1 _ _ _ _
       have FF : V7.heap[w.heap.size]? = some (.cells #[.string m.f0.f0, .string m.f0.f1, .slice B0 m.f1.length d0, .slice A1 m.f2.length c1] 33 (0, 0)) := by rw [← hV7, blk_set1 (F0.out) 2 _]; simp
       have BB : Below w.heap.size w V7 := by rw [← hV7]; exact (bel_set hHeld _ (Nat.le_refl _))
       clear hV7
       refine hK.out _ _ ?h16 (fun hHeld => ?j16)
       case h16 => exact BB
       clear hK K
       try simp only [Act.put, List.setIfInBounds_toArray, List.set_cons_zero, List.set_cons_succ]
       replace U0 := Aside0.mk (R_else U0.out rfl G7 (Kd.R_ne U0.out F0.out (by decide)))
       replace U1 := Aside0.mk (R_else U1.out rfl G7 (Kd.R_ne U1.out F0.out (by decide)))
       replace F0 := Aside0.mk FF
       clear FF
       replace F1 := Aside0.mk ((G7.block _ (blk_lt F1.out) (fun e => by have e := Option.some.inj e; omega)).trans F1.out)
       refine tk 8 ?v17 ?y17 ?r17
       case y17 => intro w_ hSw; (try dsimp only at hSw); go_simp; (try (with_reducible rfl))
       try simp only [Act.put, List.setIfInBounds_toArray, List.set_cons_zero, List.set_cons_succ]
       refine rdy (rs := [9]) ?_
       refine rc (fun K hK => ?k18) AllReadyH.nil
       case k18 =>
        have hb7 := F0.out
        have v3_ : V7.cell? ⟨w.heap.size, 3, none⟩ = some (.slice A1 m.f2.length c1) := by simp [World.cell?, hb7]
        have u3_ : V7.frozen? ⟨w.heap.size, 3, none⟩ = false := by simp [World.frozen?, hb7]
        go_simp
        generalize hV9 : World.setCell V7 ⟨w.heap.size, 3, none⟩ _ = V9
        have G9 : V7.grownBy V9 (some (w.heap.size)) := by rw [← hV9]; exact grown_set1 _ _ _ _
        have FF : V9.heap[w.heap.size]? = some (.cells #[.string m.f0.f0, .string m.f0.f1, .slice B0 m.f1.length d0, .slice B1 m.f2.length d1] 33 (0, 0)) := by rw [← hV9, blk_set1 (F0.out) 3 _]; simp
        have BB : Below w.heap.size w V9 := by rw [← hV9]; exact (bel_set hHeld _ (Nat.le_refl _))
        clear hV9
        refine hK.out _ _ ?h19 (fun hHeld => ?j19)
        case h19 => exact BB
        clear hK K
        try simp only [Act.put, List.setIfInBounds_toArray, List.set_cons_zero, List.set_cons_succ]
        replace U0 := Aside0.mk (R_else U0.out rfl G9 (Kd.R_ne U0.out F0.out (by decide)))
        replace U1 := Aside0.mk (R_else U1.out rfl G9 (Kd.R_ne U1.out F0.out (by decide)))
        replace F0 := Aside0.mk FF
        clear FF
        replace F1 := Aside0.mk ((G9.block _ (blk_lt F1.out) (fun e => by have e := Option.some.inj e; omega)).trans F1.out)
        refine wpAnyH_done (by kernel_rfl) ?_ _
        exact HKK.out B0 d0 B1 d1 V9 ⟨hHeld, blk_lt F1.out, F0.out, F1.out, U0.out, U1.out⟩
   case k8 =>
    have y43_ : V0.cell? ⟨w.heap.size, 3, none⟩ = some (.slice A1 m.f2.length c1) := by simp [World.cell?, F0.out]
    go_simp
    refine hK.out _ _ ?h20 (fun hHeld => ?j20)
    case h20 => exact hHeld
    clear hK K
    try simp only [Act.put, List.setIfInBounds_toArray, List.set_cons_zero, List.set_cons_succ]
    refine rdy (rs := [2]) ?_
    refine rc (fun K hK => ?k21) AllReadyH.nil
    case k21 =>
     have hsl2 : w.heap.size ≤ V0.heap.size := hHeld.size
     go_simp
     refine (hc0 _ hHeld).mono ?_
     rintro e V2 ⟨B0, d0, rfl, ga, b2⟩
     refine hK.out _ _ ?h22 (fun hHeld => ?j22)
     case h22 => exact bel_then hHeld b2
     clear hK K
     try simp only [Act.put, List.setIfInBounds_toArray, List.set_cons_zero, List.set_cons_succ]
     have U0 := Aside0.mk (Kd.R_lower (base' := w.heap.size) ga hsl2)
     clear ga hsl2
     replace F0 := Aside0.mk (below_blk F0.out b2)
     replace F1 := Aside0.mk (below_blk F1.out b2)
     refine tk 6 ?v23 ?y23 ?r23
     case y23 => intro w_ hSw; (try dsimp only at hSw); go_simp; (try (with_reducible rfl))
     try simp only [Act.put, List.setIfInBounds_toArray, List.set_cons_zero, List.set_cons_succ]
     refine rdy (rs := [5]) ?_
     refine rc (fun K hK => ?k24) AllReadyH.nil
     case k24 =>
      have hsl5 : w.heap.size ≤ V2.heap.size := hHeld.size
      go_simp
      refine (hc1 _ hHeld).mono ?_
      rintro e V5 ⟨B1, d1, rfl, gb, b5⟩
      refine hK.out _ _ ?h25 (fun hHeld => ?j25)
      case h25 => exact bel_then hHeld b5
      clear hK K
      try simp only [Act.put, List.setIfInBounds_toArray, List.set_cons_zero, List.set_cons_succ]
      have U1 := Aside0.mk (Kd.R_lower (base' := w.heap.size) gb hsl5)
      clear gb hsl5
      replace F0 := Aside0.mk (below_blk F0.out b5)
      replace F1 := Aside0.mk (below_blk F1.out b5)
      replace U0 := Aside0.mk (Kd.R_below U0.out b5)
      refine rdy (rs := [7]) ?_
      refine rc (fun K hK => ?k26) AllReadyH.nil
      case k26 =>
       have hb7 := F0.out
       have v2_ : V5.cell? ⟨w.heap.size, 2, none⟩ = some (.slice A0 m.f1.length c0) := by simp [World.cell?, hb7]
       have u2_ : V5.frozen? ⟨w.heap.size, 2, none⟩ = false := by simp [World.frozen?, hb7]
       go_simp
       generalize hV7 : World.setCell V5 ⟨w.heap.size, 2, none⟩ _ = V7
       have G7 : V5.grownBy V7 (some (w.heap.size)) := by rw [← hV7]; exact grown_set1 _ _ _ _
       have FF : V7.heap[w.heap.size]? = some (.cells #[.string m.f0.f0, .string m.f0.f1, .slice B0 m.f1.length d0, .slice A1 m.f2.length c1] 33 (0, 0)) := by rw [← hV7, blk_set1 (F0.out) 2 _]; simp
       have BB : Below w.heap.size w V7 := by rw [← hV7]; exact (bel_set hHeld _ (Nat.le_refl _))
       clear hV7
       refine hK.out _ _ ?h27 (fun hHeld => ?j27)
       case h27 => exact BB
       clear hK K
       try simp only [Act.put, List.setIfInBounds_toArray, List.set_cons_zero, List.set_cons_succ]
       replace U0 := Aside0.mk (R_else U0.out rfl G7 (Kd.R_ne U0.out F0.out (by decide)))
       replace U1 := Aside0.mk (R_else U1.out rfl G7 (Kd.R_ne U1.out F0.out (by decide)))
       replace F0 := Aside0.mk FF
       clear FF
       replace F1 := Aside0.mk ((G7.block _ (blk_lt F1.out) (fun e => by have e := Option.some.inj e; omega)).trans F1.out)
       refine tk 8 ?v28 ?y28 ?r28
       case y28 => intro w_ hSw; (try dsimp only at hSw); go_simp; (try (with_reducible rfl))
       try simp only [Act.put, List.setIfInBounds_toArray, List.set_cons_zero, List.set_cons_succ]
       refine rdy (rs := [9]) ?_
       refine rc (fun K hK => ?k29) AllReadyH.nil
       case k29 =>
        have hb7 := F0.out
        have v3_ : V7.cell? ⟨w.heap.size, 3, none⟩ = some (.slice A1 m.f2.length c1) := by simp [World.cell?, hb7]
        have u3_ : V7.frozen? ⟨w.heap.size, 3, none⟩ = false := by simp [World.frozen?, hb7]
        go_simp
        generalize hV9 : World.setCell V7 ⟨w.heap.size, 3, none⟩ _ = V9
        have G9 : V7.grownBy V9 (some (w.heap.size)) := by rw [← hV9]; exact grown_set1 _ _ _ _
        have FF : V9.heap[w.heap.size]? = some (.cells #[.string m.f0.f0, .string m.f0.f1, .slice B0 m.f1.length d0, .slice B1 m.f2.length d1] 33 (0, 0)) := by rw [← hV9, blk_set1 (F0.out) 3 _]; simp
        have BB : Below w.heap.size w V9 := by rw [← hV9]; exact (bel_set hHeld _ (Nat.le_refl _))
        clear hV9
        refine hK.out _ _ ?h30 (fun hHeld => ?j30)
        case h30 => exact BB
        clear hK K
        try simp only [Act.put, List.setIfInBounds_toArray, List.set_cons_zero, List.set_cons_succ]
        replace U0 := Aside0.mk (R_else U0.out rfl G9 (Kd.R_ne U0.out F0.out (by decide)))
        replace U1 := Aside0.mk (R_else U1.out rfl G9 (Kd.R_ne U1.out F0.out (by decide)))
        replace F0 := Aside0.mk FF
        clear FF
        replace F1 := Aside0.mk ((G9.block _ (blk_lt F1.out) (fun e => by have e := Option.some.inj e; omega)).trans F1.out)
        refine wpAnyH_done (by kernel_rfl) ?_ _
        exact HKK.out B0 d0 B1 d1 V9 ⟨hHeld, blk_lt F1.out, F0.out, F1.out, U0.out, U1.out⟩
  case k5 =>
   have y43_ : V0.cell? ⟨w.heap.size, 3, none⟩ = some (.slice A1 m.f2.length c1) := by simp [World.cell?, F0.out]
   go_simp
   refine hK.out _ _ ?h31 (fun hHeld => ?j31)
   case h31 => exact hHeld
   clear hK K
   try simp only [Act.put, List.setIfInBounds_toArray, List.set_cons_zero, List.set_cons_succ]
   refine rdy (rs := [1]) ?_
   refine rc (fun K hK => ?k32) AllReadyH.nil
   case k32 =>
    have y12_ : V0.cell? ⟨w.heap.size, 2, none⟩ = some (.slice A0 m.f1.length c0) := by simp [World.cell?, F0.out]
    go_simp
    refine hK.out _ _ ?h33 (fun hHeld => ?j33)
    case h33 => exact hHeld
    clear hK K
    try simp only [Act.put, List.setIfInBounds_toArray, List.set_cons_zero, List.set_cons_succ]
    refine rdy (rs := [2]) ?_
    refine rc (fun K hK => ?k34) AllReadyH.nil
    case k34 =>
     have hsl2 : w.heap.size ≤ V0.heap.size := hHeld.size
     go_simp
     refine (hc0 _ hHeld).mono ?_
     rintro e V2 ⟨B0, d0, rfl, ga, b2⟩
     refine hK.out _ _ ?h35 (fun hHeld => ?j35)
     case h35 => exact bel_then hHeld b2
     clear hK K
     try simp only [Act.put, List.setIfInBounds_toArray, List.set_cons_zero, List.set_cons_succ]
     have U0 := Aside0.mk (Kd.R_lower (base' := w.heap.size) ga hsl2)
     clear ga hsl2
     replace F0 := Aside0.mk (below_blk F0.out b2)
     replace F1 := Aside0.mk (below_blk F1.out b2)
     refine tk 6 ?v36 ?y36 ?r36
     case y36 => intro w_ hSw; (try dsimp only at hSw); go_simp; (try (with_reducible rfl))
     try simp only [Act.put, List.setIfInBounds_toArray, List.set_cons_zero, List.set_cons_succ]
     refine rdy (rs := [5]) ?_
     refine rc (fun K hK => ?k37) AllReadyH.nil
     case k37 =>
      have hsl5 : w.heap.size ≤ V2.heap.size := hHeld.size
      go_simp
      refine (hc1 _ hHeld).mono ?_
      rintro e V5 ⟨B1, d1, rfl, gb, b5⟩
      refine hK.out _ _ ?h38 (fun hHeld => ?j38)
      case h38 => exact bel_then hHeld b5
      clear hK K
      try simp only [Act.put, List.setIfInBounds_toArray, List.set_cons_zero, List.set_cons_succ]
      have U1 := Aside0.mk (Kd.R_lower (base' := w.heap.size) gb hsl5)
      clear gb hsl5
      replace F0 := Aside0.mk (below_blk F0.out b5)
      replace F1 := Aside0.mk (below_blk F1.out b5)
      replace U0 := Aside0.mk (Kd.R_below U0.out b5)
      refine rdy (rs := [7]) ?_
      refine rc (fun K hK => ?k39) AllReadyH.nil
      case k39 =>
       have hb7 := F0.out
       have v2_ : V5.cell? ⟨w.heap.size, 2, none⟩ = some (.slice A0 m.f1.length c0) := by simp [World.cell?, hb7]
       have u2_ : V5.frozen? ⟨w.heap.size, 2, none⟩ = false := by simp [World.frozen?, hb7]
       go_simp
       generalize hV7 : World.setCell V5 ⟨w.heap.size, 2, none⟩ _ = V7
       have G7 : V5.grownBy V7 (some (w.heap.size)) := by rw [← hV7]; exact grown_set1 _ _ _ _
       have FF : V7.heap[w.heap.size]? = some (.cells #[.string m.f0.f0, .string m.f0.f1, .slice B0 m.f1.length d0, .slice A1 m.f2.length c1] 33 (0, 0)) := by rw [← hV7, blk_set1 (F0.out) 2 _]; simp
       have BB : Below w.heap.size w V7 := by rw [← hV7]; exact (bel_set hHeld _ (Nat.le_refl _))
       clear hV7
       refine hK.out _ _ ?h40 (fun hHeld => ?j40)
       case h40 => exact BB
       clear hK K
       try simp only [Act.put, List.setIfInBounds_toArray, List.set_cons_zero, List.set_cons_succ]
       replace U0 := Aside0.mk (R_else U0.out rfl G7 (Kd.R_ne U0.out F0.out (by decide)))
       replace U1 := Aside0.mk (R_else U1.out rfl G7 (Kd.R_ne U1.out F0.out (by decide)))
       replace F0 := Aside0.mk FF
       clear FF
       replace F1 := Aside0.mk ((G7.block _ (blk_lt F1.out) (fun e => by have e := Option.some.inj e; omega)).trans F1.out)
       refine tk 8 ?v41 ?y41 ?r41
       case y41 => intro w_ hSw; (try dsimp only at hSw); go_simp; (try (with_reducible rfl))
       try simp only [Act.put, List.setIfInBounds_toArray, List.set_cons_zero, List.set_cons_succ]
       refine rdy (rs := [9]) ?_
       refine rc (fun K hK => ?k42) AllReadyH.nil
       case k42 =>
        have hb7 := F0.out
        have v3_ : V7.cell? ⟨w.heap.size, 3, none⟩ = some (.slice A1 m.f2.length c1) := by simp [World.cell?, hb7]
        have u3_ : V7.frozen? ⟨w.heap.size, 3, none⟩ = false := by simp [World.frozen?, hb7]
        go_simp
        generalize hV9 : World.setCell V7 ⟨w.heap.size, 3, none⟩ _ = V9
        have G9 : V7.grownBy V9 (some (w.heap.size)) := by rw [← hV9]; exact grown_set1 _ _ _ _
        have FF : V9.heap[w.heap.size]? = some (.cells #[.string m.f0.f0, .string m.f0.f1, .slice B0 m.f1.length d0, .slice B1 m.f2.length d1] 33 (0, 0)) := by rw [← hV9, blk_set1 (F0.out) 3 _]; simp
        have BB : Below w.heap.size w V9 := by rw [← hV9]; exact (bel_set hHeld _ (Nat.le_refl _))
        clear hV9
        refine hK.out _ _ ?h43 (fun hHeld => ?j43)
        case h43 => exact BB
        clear hK K
        try simp only [Act.put, List.setIfInBounds_toArray, List.set_cons_zero, List.set_cons_succ]
        replace U0 := Aside0.mk (R_else U0.out rfl G9 (Kd.R_ne U0.out F0.out (by decide)))
        replace U1 := Aside0.mk (R_else U1.out rfl G9 (Kd.R_ne U1.out F0.out (by decide)))
        replace F0 := Aside0.mk FF
        clear FF
        replace F1 := Aside0.mk ((G9.block _ (blk_lt F1.out) (fun e => by have e := Option.some.inj e; omega)).trans F1.out)
        refine wpAnyH_done (by kernel_rfl) ?_ _
        exact HKK.out B0 d0 B1 d1 V9 ⟨hHeld, blk_lt F1.out, F0.out, F1.out, U0.out, U1.out⟩
 case hk =>
  intro B0 d0 B1 d1 V ⟨BV, sV, f0, f1, u0, u1⟩
  clear HST HF0 HF1 join
  have U0 := Aside0.mk u0
  have U1 := Aside0.mk u1
  have F1 := Aside0.mk f1
  have F0 := Aside0.mk f0
  have BW := Aside0.mk BV
  clear u0 u1 f0 f1 BV
  have m0_ : V.cell? ⟨w.heap.size, 0, none⟩ = some (.string m.f0.f0) := by simp [World.cell?, F0.out]
  have m1_ : V.cell? ⟨w.heap.size, 1, none⟩ = some (.string m.f0.f1) := by simp [World.cell?, F0.out]
  have m2_ : V.cell? ⟨w.heap.size, 2, none⟩ = some (.slice B0 m.f1.length d0) := by simp [World.cell?, F0.out]
  have m3_ : V.cell? ⟨w.heap.size, 3, none⟩ = some (.slice B1 m.f2.length d1) := by simp [World.cell?, F0.out]
  have k0_ : V.cell? ⟨w.heap.size + 1, 0, none⟩ = some (.string ⟨#[]⟩) := by simp [World.cell?, F1.out]
  have k1_ : V.cell? ⟨w.heap.size + 1, 1, none⟩ = some (.string ⟨#[]⟩) := by simp [World.cell?, F1.out]
  have k2_ : V.cell? ⟨w.heap.size + 1, 2, none⟩ = some (.slice none 0 0) := by simp [World.cell?, F1.out]
  have k3_ : V.cell? ⟨w.heap.size + 1, 3, none⟩ = some (.slice none 0 0) := by simp [World.cell?, F1.out]
  have kz0_ : V.frozen? ⟨w.heap.size + 1, 0, none⟩ = false := by simp [World.frozen?, F1.out]
  have kz1_ : V.frozen? ⟨w.heap.size + 1, 1, none⟩ = false := by simp [World.frozen?, F1.out]
  have kz2_ : V.frozen? ⟨w.heap.size + 1, 2, none⟩ = false := by simp [World.frozen?, F1.out]
  have kz3_ : V.frozen? ⟨w.heap.size + 1, 3, none⟩ = false := by simp [World.frozen?, F1.out]
  go_wp2
  refine bodyPost_ret (v := .agg #[.string m.f0.f0, .string m.f0.f1, .slice B0 m.f1.length d0, .slice B1 m.f2.length d1]) ?hr rfl ?hp
  case hr => simp [results, Tryz.results55, go_sem, m0_, m1_, m2_, m3_, k0_, k1_, k2_, k3_]
  case hp =>
   have g1 := (((grown_set1 V (w.heap.size + 1) 0 (.string m.f0.f0)).trans (grown_set1 _ _ 1 (.string m.f0.f1))).trans (grown_set1 _ _ 2 (.slice B0 m.f1.length d0))).trans (grown_set1 _ _ 3 (.slice B1 m.f2.length d1))
   exact ⟨B0, d0, B1, d1, rfl, R_else U0.out rfl g1 (Kd.R_ne U0.out F1.out (by decide)), R_else U1.out rfl g1 (Kd.R_ne U1.out F1.out (by decide)), by (with_reducible repeat (first | exact BW.out | refine bel_alloc ?_ _ | refine bel_set ?_ _ ?_ | refine blw_drewN ?_ _ | refine Below.drew ?_)); all_goals (first | (simp; done) | (simp; omega) | omega)⟩

end Go.Proofs.YtiaibgkpohmihaaGreatDoor
