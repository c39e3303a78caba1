/- New clients, of the program and of the reference: contracts. -/
import Derived.Test.YtejiifmopopflaaDoorCliI
import Derived.Test.YtejiifmopopflaaDoorCopyS
import Derived.Test.YtejiifmopopflaaDoorSpecC
namespace Go.Proofs.YtejiifmopopflaaDoor
open Go.RowKit Go.Proofs.YtejiifmopopflaaDoorW.PrintWords
set_option linter.unusedVariables false
set_option linter.unusedSimpArgs false

def cliNewOk (nm : ByteArray) (m : SMail) : Bool := dom nm.data.toList && mailOkS m
def cliB (nm : ByteArray) (m : SMail) : SCli := ⟨nm, m, 0, 0, List.replicate m.f1.length 0⟩
def cliNew (nm : ByteArray) (m : SMail) : SCli := if cliNewOk nm m then cliB nm m else zCli
theorem cliOk_new (nm : ByteArray) (m : SMail) : cliOk (cliB nm m) = cliNewOk nm m := by
  have h : (List.replicate m.f1.length (0 : Int)).all outOk = true := by
    rw [List.all_eq_true]
    intro x hx
    rw [List.eq_of_mem_replicate hx]
    decide
  unfold cliOk cliNewOk cliB
  simp only [h, List.length_replicate]
  cases dom nm.data.toList <;> cases mailOkS m <;> simp
theorem cliB_fit {nm : ByteArray} {m : SMail} (hn : nm.size ≤ 1048576) (hm : fitMail m) : fitCli (cliB nm m) :=
  ⟨hn, hm, by show (Lit.int .i64 0).wf = true; decide, by show (Lit.int .i64 0).wf = true; decide, by show (List.replicate m.f1.length (0 : Int)).length ≤ 1048576; rw [List.length_replicate]; exact hm.2.1.1, fun y hy => by
    rw [List.eq_of_mem_replicate hy]
    decide⟩

set_option maxRecDepth 100000 in
set_option maxHeartbeats 8000000 in
theorem cliNew_any (nm : ByteArray) (m : SMail) (A0 : Option Addr) (c0 : Nat) (A1 : Option Addr) (c1 : Nat) (w : World) (hn : nm.size ≤ 1048576) (hw : fitMail m) (hr0 : Kd.C kAddr w A0 m.f1.length m.f1) (hr1 : Kd.C Kd.string w A1 m.f2.length m.f2) (hG : Glob w) :
    Calls Tryd.prog 21 #[.string nm, .agg #[.string m.f0.f0, .string m.f0.f1, .slice A0 m.f1.length c0, .slice A1 m.f2.length c1]] w fun e w' => ∃ B0 d0 B1 d1 B2 d2, e = .returned (.agg #[.string (cliNew nm m).f0, .string (cliNew nm m).f1.f0.f0, .string (cliNew nm m).f1.f0.f1, .slice B0 (cliNew nm m).f1.f1.length d0, .slice B1 (cliNew nm m).f1.f2.length d1, .int .i64 (cliNew nm m).f2, .int .i64 (cliNew nm m).f3, .slice B2 (cliNew nm m).f4.length d2]) ∧ Kd.R kAddr 30 w' w.heap.size (fun _ => True) (.slice B0 (cliNew nm m).f1.f1.length d0) (cliNew nm m).f1.f1 ∧ Kd.R Kd.string 9 w' w.heap.size (fun _ => True) (.slice B1 (cliNew nm m).f1.f2.length d1) (cliNew nm m).f1.f2 ∧ Kd.R (Kd.int .i64) 3 w' w.heap.size (fun _ => True) (.slice B2 (cliNew nm m).f4.length d2) (cliNew nm m).f4 ∧ Below w.heap.size w w' := by
  have hcp := fun W (hW : Below w.heap.size w W) => mailCopied_any m A0 c0 A1 c1 W hw (Kd.C_below hr0 hW) (Kd.C_below hr1 hW)
  have hl1 := hw.2.1.1
  have hfit := cliB_fit hn hw
  have hoe := cliOk_new nm m
  have HM := Lib.hid (show cliNew nm m = if cliNewOk nm m then cliB nm m else zCli from rfl)
  unfold cliB at hfit hoe HM
  obtain ⟨rs, hrs⟩ : ∃ rs, rs = List.replicate m.f1.length (0 : Int) := ⟨_, rfl⟩
  rw [← hrs] at hfit hoe HM
  have HRS := Lib.hid hrs
  generalize cliNew nm m = M at HM
  generalize cliNewOk nm m = q at HM hoe
  have HF := Lib.hid hfit
  have HO := Lib.hid hoe
  have HGG := Lib.hid hG
  clear hw hr0 hr1 hrs hfit hoe hG hn
  go_enter Tryd.func21, Tryd.ntmps21
  go_wp2
  obtain ⟨W0, hW0⟩ : ∃ W, W = (w.alloc (.cells #[.string m.f0.f0, .string m.f0.f1, .slice A0 m.f1.length c0, .slice A1 m.f2.length c1] 33)).alloc (.cells #[.string ⟨#[]⟩, .string ⟨#[]⟩, .string ⟨#[]⟩, .slice none 0 0, .slice none 0 0, .int .i64 0, .int .i64 0, .slice none 0 0] 52) := ⟨_, rfl⟩
  rw [← hW0]
  have HF0 : Aside0 (W0.heap[w.heap.size]? = some (.cells #[.string m.f0.f0, .string m.f0.f1, .slice A0 m.f1.length c0, .slice A1 m.f2.length c1] 33 (0, 0))) := ⟨by rw [hW0]; exact below_blk (blk_new _ _) (bel_alloc (Below.refl _ _) _)⟩
  have HF1 : Aside0 (W0.heap[w.heap.size + 1]? = some (.cells #[.string ⟨#[]⟩, .string ⟨#[]⟩, .string ⟨#[]⟩, .slice none 0 0, .slice none 0 0, .int .i64 0, .int .i64 0, .slice none 0 0] 52 (0, 0))) := ⟨by rw [hW0, show w.heap.size + 1 = (w.alloc (.cells #[.string m.f0.f0, .string m.f0.f1, .slice A0 m.f1.length c0, .slice A1 m.f2.length c1] 33)).heap.size by simp]; exact blk_new _ _⟩
  have B0 : Below w.heap.size w W0 := by rw [hW0]; exact bel_alloc (bel_alloc (Below.refl _ _) _) _
  clear hW0
  have join : Hid (∀ {goal : Prop} {G : Option Addr → Nat → Option Addr → Nat → Option Addr → Nat → Nat → World → Prop} (rg : Hid (∀ (B0 : Option Addr) (d0 : Nat) (B1 : Option Addr) (d1 : Nat) (B2 : Option Addr) (d2 : Nat) (g : Nat) (V : World), Below w.heap.size w V ∧ w.heap.size + 1 < V.heap.size ∧ V.heap[g]? = some (.cells #[.string nm, .string m.f0.f0, .string m.f0.f1, .slice B0 m.f1.length d0, .slice B1 m.f2.length d1, .int .i64 0, .int .i64 0, .slice B2 rs.length d2] 52 (0, 0)) ∧ Kd.R kAddr 30 V w.heap.size (fun _ => True) (.slice B0 m.f1.length d0) m.f1 ∧ Kd.R Kd.string 9 V w.heap.size (fun _ => True) (.slice B1 m.f2.length d1) m.f2 ∧ Kd.R (Kd.int .i64) 3 V w.heap.size (fun _ => True) (.slice B2 rs.length d2) rs ∧ w.heap.size + 1 < g ∧ V.heap[w.heap.size + 1]? = some (.cells #[.string ⟨#[]⟩, .string ⟨#[]⟩, .string ⟨#[]⟩, .slice none 0 0, .slice none 0 0, .int .i64 0, .int .i64 0, .slice none 0 0] 52 (0, 0)) → G B0 d0 B1 d1 B2 d2 g V) → goal) (hk : ∀ (B0 : Option Addr) (d0 : Nat) (B1 : Option Addr) (d1 : Nat) (B2 : Option Addr) (d2 : Nat) (g : Nat) (V : World), Below w.heap.size w V ∧ w.heap.size + 1 < V.heap.size ∧ V.heap[g]? = some (.cells #[.string nm, .string m.f0.f0, .string m.f0.f1, .slice B0 m.f1.length d0, .slice B1 m.f2.length d1, .int .i64 0, .int .i64 0, .slice B2 rs.length d2] 52 (0, 0)) ∧ Kd.R kAddr 30 V w.heap.size (fun _ => True) (.slice B0 m.f1.length d0) m.f1 ∧ Kd.R Kd.string 9 V w.heap.size (fun _ => True) (.slice B1 m.f2.length d1) m.f2 ∧ Kd.R (Kd.int .i64) 3 V w.heap.size (fun _ => True) (.slice B2 rs.length d2) rs ∧ w.heap.size + 1 < g ∧ V.heap[w.heap.size + 1]? = some (.cells #[.string ⟨#[]⟩, .string ⟨#[]⟩, .string ⟨#[]⟩, .slice none 0 0, .slice none 0 0, .int .i64 0, .int .i64 0, .slice none 0 0] 52 (0, 0)) → G B0 d0 B1 d1 B2 d2 g V), goal) := Lib.hid (fun f h => f (Lib.hid h))
  have HK : Aside0 (∀ W W1, Below W.heap.size W W1 → (W.cell? ⟨w.heap.size, 0, none⟩ = some (.string m.f0.f0) ∧ W.cell? ⟨w.heap.size, 1, none⟩ = some (.string m.f0.f1) ∧ W.cell? ⟨w.heap.size, 2, none⟩ = some (.slice A0 m.f1.length c0) ∧ W.cell? ⟨w.heap.size, 3, none⟩ = some (.slice A1 m.f2.length c1) ∧ Below w.heap.size w W) → (W1.cell? ⟨w.heap.size, 0, none⟩ = some (.string m.f0.f0) ∧ W1.cell? ⟨w.heap.size, 1, none⟩ = some (.string m.f0.f1) ∧ W1.cell? ⟨w.heap.size, 2, none⟩ = some (.slice A0 m.f1.length c0) ∧ W1.cell? ⟨w.heap.size, 3, none⟩ = some (.slice A1 m.f2.length c1) ∧ Below w.heap.size w W1)) := ⟨fun W W1 hb h => ⟨(hb.cell (World.block_lt_of_cell? W _ (h.1))).trans (h.1), (hb.cell (World.block_lt_of_cell? W _ (h.2.1))).trans (h.2.1), (hb.cell (World.block_lt_of_cell? W _ (h.2.2.1))).trans (h.2.2.1), (hb.cell (World.block_lt_of_cell? W _ (h.2.2.2.1))).trans (h.2.2.2.1), bel_then (h.2.2.2.2) hb⟩⟩
  have x0_ : W0.cell? ⟨w.heap.size, 0, none⟩ = some (.string m.f0.f0) := by simp [World.cell?, HF0.out]
  have x1_ : W0.cell? ⟨w.heap.size, 1, none⟩ = some (.string m.f0.f1) := by simp [World.cell?, HF0.out]
  have x2_ : W0.cell? ⟨w.heap.size, 2, none⟩ = some (.slice A0 m.f1.length c0) := by simp [World.cell?, HF0.out]
  have x3_ : W0.cell? ⟨w.heap.size, 3, none⟩ = some (.slice A1 m.f2.length c1) := by simp [World.cell?, HF0.out]
  have HST : Aside0 ((fun W => W.cell? ⟨w.heap.size, 0, none⟩ = some (.string m.f0.f0) ∧ W.cell? ⟨w.heap.size, 1, none⟩ = some (.string m.f0.f1) ∧ W.cell? ⟨w.heap.size, 2, none⟩ = some (.slice A0 m.f1.length c0) ∧ W.cell? ⟨w.heap.size, 3, none⟩ = some (.slice A1 m.f2.length c1) ∧ Below w.heap.size w W) W0.drew) := ⟨⟨x0_, x1_, x2_, x3_, bel_then B0 (drew_below0 W0)⟩⟩
  clear B0 x0_ x1_ x2_ x3_
  apply join.out
  case rg =>
    intro HKK
    refine wp_region_held_drew (S := (fun W => W.cell? ⟨w.heap.size, 0, none⟩ = some (.string m.f0.f0) ∧ W.cell? ⟨w.heap.size, 1, none⟩ = some (.string m.f0.f1) ∧ W.cell? ⟨w.heap.size, 2, none⟩ = some (.slice A0 m.f1.length c0) ∧ W.cell? ⟨w.heap.size, 3, none⟩ = some (.slice A1 m.f2.length c1) ∧ Below w.heap.size w W)) (by kernel_rfl) ?s1 (fun hHeld => ?t1)
    case s1 => exact HST.out
    generalize hV0 : World.drew _ = V0 at hHeld ⊢
    have F1 : Aside0 (V0.heap[w.heap.size + 1]? = some (.cells #[.string ⟨#[]⟩, .string ⟨#[]⟩, .string ⟨#[]⟩, .slice none 0 0, .slice none 0 0, .int .i64 0, .int .i64 0, .slice none 0 0] 52 (0, 0))) := ⟨by rw [← hV0]; exact HF1.out⟩
    clear hV0
    refine wpAnyH_take (i := 0) (oi := { dst := some 6, op := Op.move (Operand.tmp 0), type := 9, pos := "l4_client.go:58", after := #[], guard := none }) (v := ?v2) rfl (by kernel_rfl) (by kernel_rfl) (by kernel_rfl) (fun _ _ _ h => h) (Or.inl ⟨by rfl, ?y2⟩) (by assumption) ?r2
    case y2 => intro w_ hSw; (try dsimp only at hSw); go_simp; (try (with_reducible rfl))
    try simp only [Act.put, List.setIfInBounds_toArray, List.set_cons_zero, List.set_cons_succ]
    refine wpAnyH_take (i := 1) (oi := { dst := some 7, op := Op.load 33 (Operand.tmp 3), type := 33, pos := "l4_client.go:58", after := #[], guard := none }) (v := ?v3) rfl (by kernel_rfl) (by kernel_rfl) (by kernel_rfl) (fun _ _ _ h => h) (Or.inl ⟨by rfl, ?y3⟩) (by assumption) ?r3
    case y3 => intro w_ hSw; (try dsimp only at hSw); go_simp; (try (with_reducible rfl))
    try simp only [Act.put, List.setIfInBounds_toArray, List.set_cons_zero, List.set_cons_succ]
    refine wpAnyH_take (i := 3) (oi := { dst := some 9, op := Op.fieldAddr 33 (Operand.tmp 3) 1, type := 0, pos := "l4_client.go:58", after := #[], guard := none }) (v := ?v4) rfl (by kernel_rfl) (by kernel_rfl) (by kernel_rfl) (fun _ _ _ h => h) (Or.inl ⟨by rfl, ?y4⟩) (by assumption) ?r4
    case y4 => intro w_ hSw; (try dsimp only at hSw); go_simp; (try (with_reducible rfl))
    try simp only [Act.put, List.setIfInBounds_toArray, List.set_cons_zero, List.set_cons_succ]
    refine wpAnyH_take (i := 4) (oi := { dst := some 10, op := Op.load 31 (Operand.tmp 9), type := 31, pos := "l4_client.go:58", after := #[{ on := 3, ground := Ground.data }], guard := none }) (v := ?v5) rfl (by kernel_rfl) (by kernel_rfl) (by kernel_rfl) (fun _ _ _ h => h) (Or.inl ⟨by rfl, ?y5⟩) (by assumption) ?r5
    case y5 => intro w_ hSw; (try dsimp only at hSw); go_simp; (try (with_reducible rfl))
    try simp only [Act.put, List.setIfInBounds_toArray, List.set_cons_zero, List.set_cons_succ]
    refine wpAnyH_take (i := 5) (oi := { dst := some 11, op := Op.call { callee := Callee.builtin Builtin.len, args := #[Operand.tmp 10], argTypes := #[31] }, type := 3, pos := "l4_client.go:58", after := #[{ on := 4, ground := Ground.data }], guard := none }) (v := ?v6) rfl (by kernel_rfl) (by kernel_rfl) (by kernel_rfl) (fun _ _ _ h => h) (Or.inl ⟨by rfl, ?y6⟩) (by assumption) ?r6
    case y6 => intro w_ hSw; (try dsimp only at hSw); go_simp; (try (with_reducible rfl))
    try simp only [Act.put, List.setIfInBounds_toArray, List.set_cons_zero, List.set_cons_succ]
    refine wpAnyH_ready (rs := [2, 6, 8]) (by kernel_rfl) (by simp) ?_
    refine AllReadyH.cons (o := { dst := some 8, op := Op.call { callee := Callee.value (Operand.func 67), args := #[Operand.tmp 7], argTypes := #[33] }, type := 33, pos := "l4_client.go:58", after := #[{ on := 1, ground := Ground.data }], guard := none }) rfl (fun K hK => ?k7) (AllReadyH.cons (o := { dst := some 12, op := Op.makeSlice 50 (Operand.tmp 11) (Operand.tmp 11), type := 50, pos := "l4_client.go:58", after := #[{ on := 5, ground := Ground.data }, { on := 5, ground := Ground.data }], guard := none }) rfl (fun K hK => ?k8) (AllReadyH.cons (o := { dst := some 5, op := Op.alloc 52, type := 0, pos := "l4_client.go:58", after := #[], guard := none }) rfl (fun K hK => ?k9) AllReadyH.nil))
    case k7 =>
      have hsl2 : w.heap.size ≤ V0.heap.size := (hHeld.2.2.2.2).size
      go_simp
      refine (hcp _ hHeld.2.2.2.2).mono ?_
      rintro e V2 ⟨B0, d0, B1, d1, rfl, ga0, ga1, b2⟩
      refine hK.out _ _ ?h10 (fun hHeld => ?j10)
      case h10 => exact HK.out _ _ b2 hHeld
      clear hK K
      try simp only [Act.put, List.setIfInBounds_toArray, List.set_cons_zero, List.set_cons_succ]
      have U0 := Aside0.mk (Kd.R_lower (base' := w.heap.size) ga0 hsl2)
      have U1 := Aside0.mk (Kd.R_lower (base' := w.heap.size) ga1 hsl2)
      clear ga0 ga1 hsl2
      replace F1 := Aside0.mk (below_blk F1.out b2)
      refine wpAnyH_ready (rs := [6, 8]) (by kernel_rfl) (by simp) ?_
      refine AllReadyH.cons (o := { dst := some 12, op := Op.makeSlice 50 (Operand.tmp 11) (Operand.tmp 11), type := 50, pos := "l4_client.go:58", after := #[{ on := 5, ground := Ground.data }, { on := 5, ground := Ground.data }], guard := none }) rfl (fun K hK => ?k11) (AllReadyH.cons (o := { dst := some 5, op := Op.alloc 52, type := 0, pos := "l4_client.go:58", after := #[], guard := none }) rfl (fun K hK => ?k12) AllReadyH.nil)
      case k11 =>
        refine Kd.R_make_step (Kd.int .i64) (w0 := w) (w.heap.size) 3 (by rfl) (N := 12) rfl 50 (.tmp 11) (.tmp 11) rfl (m.f1.length : Int) rfl rfl Tryd.underlying50 (.int .i64 0) 8 info3 rfl (by decide) (by omega) (0 : Int) (ok := fun _ => True) (okp := fun _ => True) rfl (fun _ h => h) trivial (by omega) ?aL6 hHeld.2.2.2.2 ?aS6 ?_
        case aL6 => (rw [Int.toNat_natCast]; omega)
        case aS6 => exact (hHeld.2.2.2.2).size
        intro v6 V6 ho hb hg hat
        rw [Int.toNat_natCast, ← HRS.out] at ho
        have b6 : Below V2.heap.size V2 V6 := ⟨hg.os, hg.tape, hg.output, hg.size, fun k hk => hg.block k hk (fun e => by cases e)⟩
        obtain ⟨B2, d2, hv6⟩ := Kd.R_slice ho
        subst hv6
        clear hg hat hb
        refine hK.out _ _ ?h13 (fun hHeld => ?j13)
        case h13 => exact HK.out _ _ b6 hHeld
        clear hK K
        try simp only [Act.put, List.setIfInBounds_toArray, List.set_cons_zero, List.set_cons_succ]
        have U2 := Aside0.mk ho
        clear ho
        replace F1 := Aside0.mk (below_blk F1.out b6)
        replace U0 := Aside0.mk (Kd.R_below U0.out b6)
        replace U1 := Aside0.mk (Kd.R_below U1.out b6)
        refine wpAnyH_take (i := 7) (oi := { dst := some 13, op := Op.build 52 #[(0, Operand.tmp 6), (1, Operand.tmp 8), (4, Operand.tmp 12)], type := 52, pos := "l4_client.go:58", after := #[{ on := 0, ground := Ground.data }, { on := 2, ground := Ground.data }, { on := 6, ground := Ground.data }], guard := none }) (v := ?v14) rfl (by kernel_rfl) (by kernel_rfl) (by kernel_rfl) (fun _ _ _ h => h) (Or.inl ⟨by rfl, ?y14⟩) (by assumption) ?r14
        case y14 => intro w_ hSw; (try dsimp only at hSw); go_simp; (try (with_reducible rfl))
        try simp only [Act.put, List.setIfInBounds_toArray, List.set_cons_zero, List.set_cons_succ]
        refine wpAnyH_ready (rs := [8]) (by kernel_rfl) (by simp) ?_
        refine AllReadyH.cons (o := { dst := some 5, op := Op.alloc 52, type := 0, pos := "l4_client.go:58", after := #[], guard := none }) rfl (fun K hK => ?k15) AllReadyH.nil
        case k15 =>
          go_simp
          refine hK.out _ _ ?h16 (fun hHeld => ?j16)
          case h16 => exact HK.out _ _ (bel_alloc (Below.refl _ _) _) hHeld
          clear hK K
          try simp only [Act.put, List.setIfInBounds_toArray, List.set_cons_zero, List.set_cons_succ]
          generalize hV8 : World.alloc V6 _ = V8 at hHeld ⊢
          have b8 : Below V6.heap.size V6 V8 := by rw [← hV8]; exact bel_alloc (Below.refl _ _) _
          have z8 : V6.heap.size < V8.heap.size := by rw [← hV8]; simp
          have F2 := Aside0.mk (by rw [← hV8]; exact blk_new _ _ : V8.heap[V6.heap.size]? = some (.cells #[.string ⟨#[]⟩, .string ⟨#[]⟩, .string ⟨#[]⟩, .slice none 0 0, .slice none 0 0, .int .i64 0, .int .i64 0, .slice none 0 0] 52 (0, 0)))
          have lo8 : w.heap.size + 1 < V6.heap.size := blk_lt (below_blk F1.out (Below.refl _ _))
          obtain ⟨g, hg8⟩ : ∃ g, g = V6.heap.size := ⟨_, rfl⟩
          have lg : w.heap.size + 1 < g := by omega
          rw [← hg8] at F2 ⊢
          clear hV8 hg8 z8
          replace F1 := Aside0.mk (below_blk F1.out b8)
          replace U0 := Aside0.mk (Kd.R_below U0.out b8)
          replace U1 := Aside0.mk (Kd.R_below U1.out b8)
          replace U2 := Aside0.mk (Kd.R_below U2.out b8)
          refine wpAnyH_ready (rs := [9]) (by kernel_rfl) (by simp) ?_
          refine AllReadyH.cons (o := { dst := none, op := Op.store 52 (Operand.tmp 5) (Operand.tmp 13), type := 0, pos := "l4_client.go:58", after := #[{ on := 8, ground := Ground.data }, { on := 7, ground := Ground.data }, { on := 2, ground := Ground.chain }, { on := 0, ground := Ground.phase }, { on := 1, ground := Ground.phase }, { on := 2, ground := Ground.phase }, { on := 3, ground := Ground.phase }, { on := 4, ground := Ground.phase }, { on := 5, ground := Ground.phase }, { on := 6, ground := Ground.phase }, { on := 7, ground := Ground.phase }, { on := 8, ground := Ground.phase }], guard := none }) rfl (fun K hK => ?k17) AllReadyH.nil
          case k17 =>
            have hb7 := F2.out
            have v0_ : V8.cell? ⟨g, 0, none⟩ = some (.string ⟨#[]⟩) := by simp [World.cell?, hb7]
            have v1_ : V8.cell? ⟨g, 1, none⟩ = some (.string ⟨#[]⟩) := by simp [World.cell?, hb7]
            have v2_ : V8.cell? ⟨g, 2, none⟩ = some (.string ⟨#[]⟩) := by simp [World.cell?, hb7]
            have v3_ : V8.cell? ⟨g, 3, none⟩ = some (.slice none 0 0) := by simp [World.cell?, hb7]
            have v4_ : V8.cell? ⟨g, 4, none⟩ = some (.slice none 0 0) := by simp [World.cell?, hb7]
            have v5_ : V8.cell? ⟨g, 5, none⟩ = some (.int .i64 0) := by simp [World.cell?, hb7]
            have v6_ : V8.cell? ⟨g, 6, none⟩ = some (.int .i64 0) := by simp [World.cell?, hb7]
            have v7_ : V8.cell? ⟨g, 7, none⟩ = some (.slice none 0 0) := by simp [World.cell?, hb7]
            have u0_ : V8.frozen? ⟨g, 0, none⟩ = false := by simp [World.frozen?, hb7]
            have u1_ : V8.frozen? ⟨g, 1, none⟩ = false := by simp [World.frozen?, hb7]
            have u2_ : V8.frozen? ⟨g, 2, none⟩ = false := by simp [World.frozen?, hb7]
            have u3_ : V8.frozen? ⟨g, 3, none⟩ = false := by simp [World.frozen?, hb7]
            have u4_ : V8.frozen? ⟨g, 4, none⟩ = false := by simp [World.frozen?, hb7]
            have u5_ : V8.frozen? ⟨g, 5, none⟩ = false := by simp [World.frozen?, hb7]
            have u6_ : V8.frozen? ⟨g, 6, none⟩ = false := by simp [World.frozen?, hb7]
            have u7_ : V8.frozen? ⟨g, 7, none⟩ = false := by simp [World.frozen?, hb7]
            go_simp
            generalize hV9 : World.setCell (World.setCell (World.setCell (World.setCell (World.setCell (World.setCell (World.setCell (World.setCell V8 ⟨g, 0, none⟩ _) ⟨g, 1, none⟩ _) ⟨g, 2, none⟩ _) ⟨g, 3, none⟩ _) ⟨g, 4, none⟩ _) ⟨g, 5, none⟩ _) ⟨g, 6, none⟩ _) ⟨g, 7, none⟩ _ = V9
            have G9 : V8.grownBy V9 (some (g)) := by rw [← hV9]; exact (((((((grown_set1 _ _ _ _).trans (grown_set1 _ _ _ _)).trans (grown_set1 _ _ _ _)).trans (grown_set1 _ _ _ _)).trans (grown_set1 _ _ _ _)).trans (grown_set1 _ _ _ _)).trans (grown_set1 _ _ _ _)).trans (grown_set1 _ _ _ _)
            have FF : V9.heap[g]? = some (.cells #[.string nm, .string m.f0.f0, .string m.f0.f1, .slice B0 m.f1.length d0, .slice B1 m.f2.length d1, .int .i64 0, .int .i64 0, .slice B2 rs.length d2] 52 (0, 0)) := by rw [← hV9, blk_set1 (blk_set1 (blk_set1 (blk_set1 (blk_set1 (blk_set1 (blk_set1 (blk_set1 (F2.out) 0 _) 1 _) 2 _) 3 _) 4 _) 5 _) 6 _) 7 _]; simp
            have BB : Below w.heap.size w V9 := by rw [← hV9]; exact (bel_set (bel_set (bel_set (bel_set (bel_set (bel_set (bel_set (bel_set hHeld.2.2.2.2 _ (by show w.heap.size ≤ g; omega)) _ (by show w.heap.size ≤ g; omega)) _ (by show w.heap.size ≤ g; omega)) _ (by show w.heap.size ≤ g; omega)) _ (by show w.heap.size ≤ g; omega)) _ (by show w.heap.size ≤ g; omega)) _ (by show w.heap.size ≤ g; omega)) _ (by show w.heap.size ≤ g; omega))
            clear hV9
            refine hK.out _ _ ?h18 (fun hHeld => ?j18)
            case h18 => exact ⟨(World.cell?_of_block (G9.block _ (World.block_lt_of_cell? _ _ hHeld.1) (fun e => by have e := Option.some.inj e; (try dsimp only at e); omega))).trans hHeld.1, (World.cell?_of_block (G9.block _ (World.block_lt_of_cell? _ _ hHeld.2.1) (fun e => by have e := Option.some.inj e; (try dsimp only at e); omega))).trans hHeld.2.1, (World.cell?_of_block (G9.block _ (World.block_lt_of_cell? _ _ hHeld.2.2.1) (fun e => by have e := Option.some.inj e; (try dsimp only at e); omega))).trans hHeld.2.2.1, (World.cell?_of_block (G9.block _ (World.block_lt_of_cell? _ _ hHeld.2.2.2.1) (fun e => by have e := Option.some.inj e; (try dsimp only at e); omega))).trans hHeld.2.2.2.1, BB⟩
            clear hK K
            try simp only [Act.put, List.setIfInBounds_toArray, List.set_cons_zero, List.set_cons_succ]
            replace U0 := Aside0.mk (R_else U0.out rfl G9 (Kd.R_ne U0.out F2.out (by decide)))
            replace U1 := Aside0.mk (R_else U1.out rfl G9 (Kd.R_ne U1.out F2.out (by decide)))
            replace U2 := Aside0.mk (R_else U2.out rfl G9 (Kd.R_ne U2.out F2.out (by decide)))
            replace F2 := Aside0.mk FF
            clear FF
            replace F1 := Aside0.mk ((G9.block _ (blk_lt F1.out) (fun e => by have e := Option.some.inj e; omega)).trans F1.out)
            refine wpAnyH_done (by kernel_rfl) ?_ _
            exact HKK.out B0 d0 B1 d1 B2 d2 g V9 ⟨hHeld.2.2.2.2, blk_lt F1.out, F2.out, U0.out, U1.out, U2.out, lg, F1.out⟩
      case k12 =>
        go_simp
        refine hK.out _ _ ?h19 (fun hHeld => ?j19)
        case h19 => exact HK.out _ _ (bel_alloc (Below.refl _ _) _) hHeld
        clear hK K
        try simp only [Act.put, List.setIfInBounds_toArray, List.set_cons_zero, List.set_cons_succ]
        generalize hV8 : World.alloc V2 _ = V8 at hHeld ⊢
        have b8 : Below V2.heap.size V2 V8 := by rw [← hV8]; exact bel_alloc (Below.refl _ _) _
        have z8 : V2.heap.size < V8.heap.size := by rw [← hV8]; simp
        have F2 := Aside0.mk (by rw [← hV8]; exact blk_new _ _ : V8.heap[V2.heap.size]? = some (.cells #[.string ⟨#[]⟩, .string ⟨#[]⟩, .string ⟨#[]⟩, .slice none 0 0, .slice none 0 0, .int .i64 0, .int .i64 0, .slice none 0 0] 52 (0, 0)))
        have lo8 : w.heap.size + 1 < V2.heap.size := blk_lt (below_blk F1.out (Below.refl _ _))
        obtain ⟨g, hg8⟩ : ∃ g, g = V2.heap.size := ⟨_, rfl⟩
        have lg : w.heap.size + 1 < g := by omega
        rw [← hg8] at F2 ⊢
        clear hV8 hg8 z8
        replace F1 := Aside0.mk (below_blk F1.out b8)
        replace U0 := Aside0.mk (Kd.R_below U0.out b8)
        replace U1 := Aside0.mk (Kd.R_below U1.out b8)
        refine wpAnyH_ready (rs := [6]) (by kernel_rfl) (by simp) ?_
        refine AllReadyH.cons (o := { dst := some 12, op := Op.makeSlice 50 (Operand.tmp 11) (Operand.tmp 11), type := 50, pos := "l4_client.go:58", after := #[{ on := 5, ground := Ground.data }, { on := 5, ground := Ground.data }], guard := none }) rfl (fun K hK => ?k20) AllReadyH.nil
        case k20 =>
          refine Kd.R_make_step (Kd.int .i64) (w0 := w) (w.heap.size) 3 (by rfl) (N := 12) rfl 50 (.tmp 11) (.tmp 11) rfl (m.f1.length : Int) rfl rfl Tryd.underlying50 (.int .i64 0) 8 info3 rfl (by decide) (by omega) (0 : Int) (ok := fun _ => True) (okp := fun _ => True) rfl (fun _ h => h) trivial (by omega) ?aL6 hHeld.2.2.2.2 ?aS6 ?_
          case aL6 => (rw [Int.toNat_natCast]; omega)
          case aS6 => exact (hHeld.2.2.2.2).size
          intro v6 V6 ho hb hg hat
          rw [Int.toNat_natCast, ← HRS.out] at ho
          have b6 : Below V8.heap.size V8 V6 := ⟨hg.os, hg.tape, hg.output, hg.size, fun k hk => hg.block k hk (fun e => by cases e)⟩
          obtain ⟨B2, d2, hv6⟩ := Kd.R_slice ho
          subst hv6
          clear hg hat hb
          refine hK.out _ _ ?h21 (fun hHeld => ?j21)
          case h21 => exact HK.out _ _ b6 hHeld
          clear hK K
          try simp only [Act.put, List.setIfInBounds_toArray, List.set_cons_zero, List.set_cons_succ]
          have U2 := Aside0.mk ho
          clear ho
          replace F1 := Aside0.mk (below_blk F1.out b6)
          replace U0 := Aside0.mk (Kd.R_below U0.out b6)
          replace U1 := Aside0.mk (Kd.R_below U1.out b6)
          replace F2 := Aside0.mk (below_blk F2.out b6)
          refine wpAnyH_take (i := 7) (oi := { dst := some 13, op := Op.build 52 #[(0, Operand.tmp 6), (1, Operand.tmp 8), (4, Operand.tmp 12)], type := 52, pos := "l4_client.go:58", after := #[{ on := 0, ground := Ground.data }, { on := 2, ground := Ground.data }, { on := 6, ground := Ground.data }], guard := none }) (v := ?v22) rfl (by kernel_rfl) (by kernel_rfl) (by kernel_rfl) (fun _ _ _ h => h) (Or.inl ⟨by rfl, ?y22⟩) (by assumption) ?r22
          case y22 => intro w_ hSw; (try dsimp only at hSw); go_simp; (try (with_reducible rfl))
          try simp only [Act.put, List.setIfInBounds_toArray, List.set_cons_zero, List.set_cons_succ]
          refine wpAnyH_ready (rs := [9]) (by kernel_rfl) (by simp) ?_
          refine AllReadyH.cons (o := { dst := none, op := Op.store 52 (Operand.tmp 5) (Operand.tmp 13), type := 0, pos := "l4_client.go:58", after := #[{ on := 8, ground := Ground.data }, { on := 7, ground := Ground.data }, { on := 2, ground := Ground.chain }, { on := 0, ground := Ground.phase }, { on := 1, ground := Ground.phase }, { on := 2, ground := Ground.phase }, { on := 3, ground := Ground.phase }, { on := 4, ground := Ground.phase }, { on := 5, ground := Ground.phase }, { on := 6, ground := Ground.phase }, { on := 7, ground := Ground.phase }, { on := 8, ground := Ground.phase }], guard := none }) rfl (fun K hK => ?k23) AllReadyH.nil
          case k23 =>
            have hb7 := F2.out
            have v0_ : V6.cell? ⟨g, 0, none⟩ = some (.string ⟨#[]⟩) := by simp [World.cell?, hb7]
            have v1_ : V6.cell? ⟨g, 1, none⟩ = some (.string ⟨#[]⟩) := by simp [World.cell?, hb7]
            have v2_ : V6.cell? ⟨g, 2, none⟩ = some (.string ⟨#[]⟩) := by simp [World.cell?, hb7]
            have v3_ : V6.cell? ⟨g, 3, none⟩ = some (.slice none 0 0) := by simp [World.cell?, hb7]
            have v4_ : V6.cell? ⟨g, 4, none⟩ = some (.slice none 0 0) := by simp [World.cell?, hb7]
            have v5_ : V6.cell? ⟨g, 5, none⟩ = some (.int .i64 0) := by simp [World.cell?, hb7]
            have v6_ : V6.cell? ⟨g, 6, none⟩ = some (.int .i64 0) := by simp [World.cell?, hb7]
            have v7_ : V6.cell? ⟨g, 7, none⟩ = some (.slice none 0 0) := by simp [World.cell?, hb7]
            have u0_ : V6.frozen? ⟨g, 0, none⟩ = false := by simp [World.frozen?, hb7]
            have u1_ : V6.frozen? ⟨g, 1, none⟩ = false := by simp [World.frozen?, hb7]
            have u2_ : V6.frozen? ⟨g, 2, none⟩ = false := by simp [World.frozen?, hb7]
            have u3_ : V6.frozen? ⟨g, 3, none⟩ = false := by simp [World.frozen?, hb7]
            have u4_ : V6.frozen? ⟨g, 4, none⟩ = false := by simp [World.frozen?, hb7]
            have u5_ : V6.frozen? ⟨g, 5, none⟩ = false := by simp [World.frozen?, hb7]
            have u6_ : V6.frozen? ⟨g, 6, none⟩ = false := by simp [World.frozen?, hb7]
            have u7_ : V6.frozen? ⟨g, 7, none⟩ = false := by simp [World.frozen?, hb7]
            go_simp
            generalize hV9 : World.setCell (World.setCell (World.setCell (World.setCell (World.setCell (World.setCell (World.setCell (World.setCell V6 ⟨g, 0, none⟩ _) ⟨g, 1, none⟩ _) ⟨g, 2, none⟩ _) ⟨g, 3, none⟩ _) ⟨g, 4, none⟩ _) ⟨g, 5, none⟩ _) ⟨g, 6, none⟩ _) ⟨g, 7, none⟩ _ = V9
            have G9 : V6.grownBy V9 (some (g)) := by rw [← hV9]; exact (((((((grown_set1 _ _ _ _).trans (grown_set1 _ _ _ _)).trans (grown_set1 _ _ _ _)).trans (grown_set1 _ _ _ _)).trans (grown_set1 _ _ _ _)).trans (grown_set1 _ _ _ _)).trans (grown_set1 _ _ _ _)).trans (grown_set1 _ _ _ _)
            have FF : V9.heap[g]? = some (.cells #[.string nm, .string m.f0.f0, .string m.f0.f1, .slice B0 m.f1.length d0, .slice B1 m.f2.length d1, .int .i64 0, .int .i64 0, .slice B2 rs.length d2] 52 (0, 0)) := by rw [← hV9, blk_set1 (blk_set1 (blk_set1 (blk_set1 (blk_set1 (blk_set1 (blk_set1 (blk_set1 (F2.out) 0 _) 1 _) 2 _) 3 _) 4 _) 5 _) 6 _) 7 _]; simp
            have BB : Below w.heap.size w V9 := by rw [← hV9]; exact (bel_set (bel_set (bel_set (bel_set (bel_set (bel_set (bel_set (bel_set hHeld.2.2.2.2 _ (by show w.heap.size ≤ g; omega)) _ (by show w.heap.size ≤ g; omega)) _ (by show w.heap.size ≤ g; omega)) _ (by show w.heap.size ≤ g; omega)) _ (by show w.heap.size ≤ g; omega)) _ (by show w.heap.size ≤ g; omega)) _ (by show w.heap.size ≤ g; omega)) _ (by show w.heap.size ≤ g; omega))
            clear hV9
            refine hK.out _ _ ?h24 (fun hHeld => ?j24)
            case h24 => exact ⟨(World.cell?_of_block (G9.block _ (World.block_lt_of_cell? _ _ hHeld.1) (fun e => by have e := Option.some.inj e; (try dsimp only at e); omega))).trans hHeld.1, (World.cell?_of_block (G9.block _ (World.block_lt_of_cell? _ _ hHeld.2.1) (fun e => by have e := Option.some.inj e; (try dsimp only at e); omega))).trans hHeld.2.1, (World.cell?_of_block (G9.block _ (World.block_lt_of_cell? _ _ hHeld.2.2.1) (fun e => by have e := Option.some.inj e; (try dsimp only at e); omega))).trans hHeld.2.2.1, (World.cell?_of_block (G9.block _ (World.block_lt_of_cell? _ _ hHeld.2.2.2.1) (fun e => by have e := Option.some.inj e; (try dsimp only at e); omega))).trans hHeld.2.2.2.1, BB⟩
            clear hK K
            try simp only [Act.put, List.setIfInBounds_toArray, List.set_cons_zero, List.set_cons_succ]
            replace U0 := Aside0.mk (R_else U0.out rfl G9 (Kd.R_ne U0.out F2.out (by decide)))
            replace U1 := Aside0.mk (R_else U1.out rfl G9 (Kd.R_ne U1.out F2.out (by decide)))
            replace U2 := Aside0.mk (R_else U2.out rfl G9 (Kd.R_ne U2.out F2.out (by decide)))
            replace F2 := Aside0.mk FF
            clear FF
            replace F1 := Aside0.mk ((G9.block _ (blk_lt F1.out) (fun e => by have e := Option.some.inj e; omega)).trans F1.out)
            refine wpAnyH_done (by kernel_rfl) ?_ _
            exact HKK.out B0 d0 B1 d1 B2 d2 g V9 ⟨hHeld.2.2.2.2, blk_lt F1.out, F2.out, U0.out, U1.out, U2.out, lg, F1.out⟩
    case k8 =>
      refine Kd.R_make_step (Kd.int .i64) (w0 := w) (w.heap.size) 3 (by rfl) (N := 12) rfl 50 (.tmp 11) (.tmp 11) rfl (m.f1.length : Int) rfl rfl Tryd.underlying50 (.int .i64 0) 8 info3 rfl (by decide) (by omega) (0 : Int) (ok := fun _ => True) (okp := fun _ => True) rfl (fun _ h => h) trivial (by omega) ?aL6 hHeld.2.2.2.2 ?aS6 ?_
      case aL6 => (rw [Int.toNat_natCast]; omega)
      case aS6 => exact (hHeld.2.2.2.2).size
      intro v6 V6 ho hb hg hat
      rw [Int.toNat_natCast, ← HRS.out] at ho
      have b6 : Below V0.heap.size V0 V6 := ⟨hg.os, hg.tape, hg.output, hg.size, fun k hk => hg.block k hk (fun e => by cases e)⟩
      obtain ⟨B2, d2, hv6⟩ := Kd.R_slice ho
      subst hv6
      clear hg hat hb
      refine hK.out _ _ ?h25 (fun hHeld => ?j25)
      case h25 => exact HK.out _ _ b6 hHeld
      clear hK K
      try simp only [Act.put, List.setIfInBounds_toArray, List.set_cons_zero, List.set_cons_succ]
      have U2 := Aside0.mk ho
      clear ho
      replace F1 := Aside0.mk (below_blk F1.out b6)
      refine wpAnyH_ready (rs := [2, 8]) (by kernel_rfl) (by simp) ?_
      refine AllReadyH.cons (o := { dst := some 8, op := Op.call { callee := Callee.value (Operand.func 67), args := #[Operand.tmp 7], argTypes := #[33] }, type := 33, pos := "l4_client.go:58", after := #[{ on := 1, ground := Ground.data }], guard := none }) rfl (fun K hK => ?k26) (AllReadyH.cons (o := { dst := some 5, op := Op.alloc 52, type := 0, pos := "l4_client.go:58", after := #[], guard := none }) rfl (fun K hK => ?k27) AllReadyH.nil)
      case k26 =>
        have hsl2 : w.heap.size ≤ V6.heap.size := (hHeld.2.2.2.2).size
        go_simp
        refine (hcp _ hHeld.2.2.2.2).mono ?_
        rintro e V2 ⟨B0, d0, B1, d1, rfl, ga0, ga1, b2⟩
        refine hK.out _ _ ?h28 (fun hHeld => ?j28)
        case h28 => exact HK.out _ _ b2 hHeld
        clear hK K
        try simp only [Act.put, List.setIfInBounds_toArray, List.set_cons_zero, List.set_cons_succ]
        have U0 := Aside0.mk (Kd.R_lower (base' := w.heap.size) ga0 hsl2)
        have U1 := Aside0.mk (Kd.R_lower (base' := w.heap.size) ga1 hsl2)
        clear ga0 ga1 hsl2
        replace F1 := Aside0.mk (below_blk F1.out b2)
        replace U2 := Aside0.mk (Kd.R_below U2.out b2)
        refine wpAnyH_take (i := 7) (oi := { dst := some 13, op := Op.build 52 #[(0, Operand.tmp 6), (1, Operand.tmp 8), (4, Operand.tmp 12)], type := 52, pos := "l4_client.go:58", after := #[{ on := 0, ground := Ground.data }, { on := 2, ground := Ground.data }, { on := 6, ground := Ground.data }], guard := none }) (v := ?v29) rfl (by kernel_rfl) (by kernel_rfl) (by kernel_rfl) (fun _ _ _ h => h) (Or.inl ⟨by rfl, ?y29⟩) (by assumption) ?r29
        case y29 => intro w_ hSw; (try dsimp only at hSw); go_simp; (try (with_reducible rfl))
        try simp only [Act.put, List.setIfInBounds_toArray, List.set_cons_zero, List.set_cons_succ]
        refine wpAnyH_ready (rs := [8]) (by kernel_rfl) (by simp) ?_
        refine AllReadyH.cons (o := { dst := some 5, op := Op.alloc 52, type := 0, pos := "l4_client.go:58", after := #[], guard := none }) rfl (fun K hK => ?k30) AllReadyH.nil
        case k30 =>
          go_simp
          refine hK.out _ _ ?h31 (fun hHeld => ?j31)
          case h31 => exact HK.out _ _ (bel_alloc (Below.refl _ _) _) hHeld
          clear hK K
          try simp only [Act.put, List.setIfInBounds_toArray, List.set_cons_zero, List.set_cons_succ]
          generalize hV8 : World.alloc V2 _ = V8 at hHeld ⊢
          have b8 : Below V2.heap.size V2 V8 := by rw [← hV8]; exact bel_alloc (Below.refl _ _) _
          have z8 : V2.heap.size < V8.heap.size := by rw [← hV8]; simp
          have F2 := Aside0.mk (by rw [← hV8]; exact blk_new _ _ : V8.heap[V2.heap.size]? = some (.cells #[.string ⟨#[]⟩, .string ⟨#[]⟩, .string ⟨#[]⟩, .slice none 0 0, .slice none 0 0, .int .i64 0, .int .i64 0, .slice none 0 0] 52 (0, 0)))
          have lo8 : w.heap.size + 1 < V2.heap.size := blk_lt (below_blk F1.out (Below.refl _ _))
          obtain ⟨g, hg8⟩ : ∃ g, g = V2.heap.size := ⟨_, rfl⟩
          have lg : w.heap.size + 1 < g := by omega
          rw [← hg8] at F2 ⊢
          clear hV8 hg8 z8
          replace F1 := Aside0.mk (below_blk F1.out b8)
          replace U2 := Aside0.mk (Kd.R_below U2.out b8)
          replace U0 := Aside0.mk (Kd.R_below U0.out b8)
          replace U1 := Aside0.mk (Kd.R_below U1.out b8)
          refine wpAnyH_ready (rs := [9]) (by kernel_rfl) (by simp) ?_
          refine AllReadyH.cons (o := { dst := none, op := Op.store 52 (Operand.tmp 5) (Operand.tmp 13), type := 0, pos := "l4_client.go:58", after := #[{ on := 8, ground := Ground.data }, { on := 7, ground := Ground.data }, { on := 2, ground := Ground.chain }, { on := 0, ground := Ground.phase }, { on := 1, ground := Ground.phase }, { on := 2, ground := Ground.phase }, { on := 3, ground := Ground.phase }, { on := 4, ground := Ground.phase }, { on := 5, ground := Ground.phase }, { on := 6, ground := Ground.phase }, { on := 7, ground := Ground.phase }, { on := 8, ground := Ground.phase }], guard := none }) rfl (fun K hK => ?k32) AllReadyH.nil
          case k32 =>
            have hb7 := F2.out
            have v0_ : V8.cell? ⟨g, 0, none⟩ = some (.string ⟨#[]⟩) := by simp [World.cell?, hb7]
            have v1_ : V8.cell? ⟨g, 1, none⟩ = some (.string ⟨#[]⟩) := by simp [World.cell?, hb7]
            have v2_ : V8.cell? ⟨g, 2, none⟩ = some (.string ⟨#[]⟩) := by simp [World.cell?, hb7]
            have v3_ : V8.cell? ⟨g, 3, none⟩ = some (.slice none 0 0) := by simp [World.cell?, hb7]
            have v4_ : V8.cell? ⟨g, 4, none⟩ = some (.slice none 0 0) := by simp [World.cell?, hb7]
            have v5_ : V8.cell? ⟨g, 5, none⟩ = some (.int .i64 0) := by simp [World.cell?, hb7]
            have v6_ : V8.cell? ⟨g, 6, none⟩ = some (.int .i64 0) := by simp [World.cell?, hb7]
            have v7_ : V8.cell? ⟨g, 7, none⟩ = some (.slice none 0 0) := by simp [World.cell?, hb7]
            have u0_ : V8.frozen? ⟨g, 0, none⟩ = false := by simp [World.frozen?, hb7]
            have u1_ : V8.frozen? ⟨g, 1, none⟩ = false := by simp [World.frozen?, hb7]
            have u2_ : V8.frozen? ⟨g, 2, none⟩ = false := by simp [World.frozen?, hb7]
            have u3_ : V8.frozen? ⟨g, 3, none⟩ = false := by simp [World.frozen?, hb7]
            have u4_ : V8.frozen? ⟨g, 4, none⟩ = false := by simp [World.frozen?, hb7]
            have u5_ : V8.frozen? ⟨g, 5, none⟩ = false := by simp [World.frozen?, hb7]
            have u6_ : V8.frozen? ⟨g, 6, none⟩ = false := by simp [World.frozen?, hb7]
            have u7_ : V8.frozen? ⟨g, 7, none⟩ = false := by simp [World.frozen?, hb7]
            go_simp
            generalize hV9 : World.setCell (World.setCell (World.setCell (World.setCell (World.setCell (World.setCell (World.setCell (World.setCell V8 ⟨g, 0, none⟩ _) ⟨g, 1, none⟩ _) ⟨g, 2, none⟩ _) ⟨g, 3, none⟩ _) ⟨g, 4, none⟩ _) ⟨g, 5, none⟩ _) ⟨g, 6, none⟩ _) ⟨g, 7, none⟩ _ = V9
            have G9 : V8.grownBy V9 (some (g)) := by rw [← hV9]; exact (((((((grown_set1 _ _ _ _).trans (grown_set1 _ _ _ _)).trans (grown_set1 _ _ _ _)).trans (grown_set1 _ _ _ _)).trans (grown_set1 _ _ _ _)).trans (grown_set1 _ _ _ _)).trans (grown_set1 _ _ _ _)).trans (grown_set1 _ _ _ _)
            have FF : V9.heap[g]? = some (.cells #[.string nm, .string m.f0.f0, .string m.f0.f1, .slice B0 m.f1.length d0, .slice B1 m.f2.length d1, .int .i64 0, .int .i64 0, .slice B2 rs.length d2] 52 (0, 0)) := by rw [← hV9, blk_set1 (blk_set1 (blk_set1 (blk_set1 (blk_set1 (blk_set1 (blk_set1 (blk_set1 (F2.out) 0 _) 1 _) 2 _) 3 _) 4 _) 5 _) 6 _) 7 _]; simp
            have BB : Below w.heap.size w V9 := by rw [← hV9]; exact (bel_set (bel_set (bel_set (bel_set (bel_set (bel_set (bel_set (bel_set hHeld.2.2.2.2 _ (by show w.heap.size ≤ g; omega)) _ (by show w.heap.size ≤ g; omega)) _ (by show w.heap.size ≤ g; omega)) _ (by show w.heap.size ≤ g; omega)) _ (by show w.heap.size ≤ g; omega)) _ (by show w.heap.size ≤ g; omega)) _ (by show w.heap.size ≤ g; omega)) _ (by show w.heap.size ≤ g; omega))
            clear hV9
            refine hK.out _ _ ?h33 (fun hHeld => ?j33)
            case h33 => exact ⟨(World.cell?_of_block (G9.block _ (World.block_lt_of_cell? _ _ hHeld.1) (fun e => by have e := Option.some.inj e; (try dsimp only at e); omega))).trans hHeld.1, (World.cell?_of_block (G9.block _ (World.block_lt_of_cell? _ _ hHeld.2.1) (fun e => by have e := Option.some.inj e; (try dsimp only at e); omega))).trans hHeld.2.1, (World.cell?_of_block (G9.block _ (World.block_lt_of_cell? _ _ hHeld.2.2.1) (fun e => by have e := Option.some.inj e; (try dsimp only at e); omega))).trans hHeld.2.2.1, (World.cell?_of_block (G9.block _ (World.block_lt_of_cell? _ _ hHeld.2.2.2.1) (fun e => by have e := Option.some.inj e; (try dsimp only at e); omega))).trans hHeld.2.2.2.1, BB⟩
            clear hK K
            try simp only [Act.put, List.setIfInBounds_toArray, List.set_cons_zero, List.set_cons_succ]
            replace U0 := Aside0.mk (R_else U0.out rfl G9 (Kd.R_ne U0.out F2.out (by decide)))
            replace U1 := Aside0.mk (R_else U1.out rfl G9 (Kd.R_ne U1.out F2.out (by decide)))
            replace U2 := Aside0.mk (R_else U2.out rfl G9 (Kd.R_ne U2.out F2.out (by decide)))
            replace F2 := Aside0.mk FF
            clear FF
            replace F1 := Aside0.mk ((G9.block _ (blk_lt F1.out) (fun e => by have e := Option.some.inj e; omega)).trans F1.out)
            refine wpAnyH_done (by kernel_rfl) ?_ _
            exact HKK.out B0 d0 B1 d1 B2 d2 g V9 ⟨hHeld.2.2.2.2, blk_lt F1.out, F2.out, U0.out, U1.out, U2.out, lg, F1.out⟩
      case k27 =>
        go_simp
        refine hK.out _ _ ?h34 (fun hHeld => ?j34)
        case h34 => exact HK.out _ _ (bel_alloc (Below.refl _ _) _) hHeld
        clear hK K
        try simp only [Act.put, List.setIfInBounds_toArray, List.set_cons_zero, List.set_cons_succ]
        generalize hV8 : World.alloc V6 _ = V8 at hHeld ⊢
        have b8 : Below V6.heap.size V6 V8 := by rw [← hV8]; exact bel_alloc (Below.refl _ _) _
        have z8 : V6.heap.size < V8.heap.size := by rw [← hV8]; simp
        have F2 := Aside0.mk (by rw [← hV8]; exact blk_new _ _ : V8.heap[V6.heap.size]? = some (.cells #[.string ⟨#[]⟩, .string ⟨#[]⟩, .string ⟨#[]⟩, .slice none 0 0, .slice none 0 0, .int .i64 0, .int .i64 0, .slice none 0 0] 52 (0, 0)))
        have lo8 : w.heap.size + 1 < V6.heap.size := blk_lt (below_blk F1.out (Below.refl _ _))
        obtain ⟨g, hg8⟩ : ∃ g, g = V6.heap.size := ⟨_, rfl⟩
        have lg : w.heap.size + 1 < g := by omega
        rw [← hg8] at F2 ⊢
        clear hV8 hg8 z8
        replace F1 := Aside0.mk (below_blk F1.out b8)
        replace U2 := Aside0.mk (Kd.R_below U2.out b8)
        refine wpAnyH_ready (rs := [2]) (by kernel_rfl) (by simp) ?_
        refine AllReadyH.cons (o := { dst := some 8, op := Op.call { callee := Callee.value (Operand.func 67), args := #[Operand.tmp 7], argTypes := #[33] }, type := 33, pos := "l4_client.go:58", after := #[{ on := 1, ground := Ground.data }], guard := none }) rfl (fun K hK => ?k35) AllReadyH.nil
        case k35 =>
          have hsl2 : w.heap.size ≤ V8.heap.size := (hHeld.2.2.2.2).size
          go_simp
          refine (hcp _ hHeld.2.2.2.2).mono ?_
          rintro e V2 ⟨B0, d0, B1, d1, rfl, ga0, ga1, b2⟩
          refine hK.out _ _ ?h36 (fun hHeld => ?j36)
          case h36 => exact HK.out _ _ b2 hHeld
          clear hK K
          try simp only [Act.put, List.setIfInBounds_toArray, List.set_cons_zero, List.set_cons_succ]
          have U0 := Aside0.mk (Kd.R_lower (base' := w.heap.size) ga0 hsl2)
          have U1 := Aside0.mk (Kd.R_lower (base' := w.heap.size) ga1 hsl2)
          clear ga0 ga1 hsl2
          replace F1 := Aside0.mk (below_blk F1.out b2)
          replace U2 := Aside0.mk (Kd.R_below U2.out b2)
          replace F2 := Aside0.mk (below_blk F2.out b2)
          refine wpAnyH_take (i := 7) (oi := { dst := some 13, op := Op.build 52 #[(0, Operand.tmp 6), (1, Operand.tmp 8), (4, Operand.tmp 12)], type := 52, pos := "l4_client.go:58", after := #[{ on := 0, ground := Ground.data }, { on := 2, ground := Ground.data }, { on := 6, ground := Ground.data }], guard := none }) (v := ?v37) rfl (by kernel_rfl) (by kernel_rfl) (by kernel_rfl) (fun _ _ _ h => h) (Or.inl ⟨by rfl, ?y37⟩) (by assumption) ?r37
          case y37 => intro w_ hSw; (try dsimp only at hSw); go_simp; (try (with_reducible rfl))
          try simp only [Act.put, List.setIfInBounds_toArray, List.set_cons_zero, List.set_cons_succ]
          refine wpAnyH_ready (rs := [9]) (by kernel_rfl) (by simp) ?_
          refine AllReadyH.cons (o := { dst := none, op := Op.store 52 (Operand.tmp 5) (Operand.tmp 13), type := 0, pos := "l4_client.go:58", after := #[{ on := 8, ground := Ground.data }, { on := 7, ground := Ground.data }, { on := 2, ground := Ground.chain }, { on := 0, ground := Ground.phase }, { on := 1, ground := Ground.phase }, { on := 2, ground := Ground.phase }, { on := 3, ground := Ground.phase }, { on := 4, ground := Ground.phase }, { on := 5, ground := Ground.phase }, { on := 6, ground := Ground.phase }, { on := 7, ground := Ground.phase }, { on := 8, ground := Ground.phase }], guard := none }) rfl (fun K hK => ?k38) AllReadyH.nil
          case k38 =>
            have hb7 := F2.out
            have v0_ : V2.cell? ⟨g, 0, none⟩ = some (.string ⟨#[]⟩) := by simp [World.cell?, hb7]
            have v1_ : V2.cell? ⟨g, 1, none⟩ = some (.string ⟨#[]⟩) := by simp [World.cell?, hb7]
            have v2_ : V2.cell? ⟨g, 2, none⟩ = some (.string ⟨#[]⟩) := by simp [World.cell?, hb7]
            have v3_ : V2.cell? ⟨g, 3, none⟩ = some (.slice none 0 0) := by simp [World.cell?, hb7]
            have v4_ : V2.cell? ⟨g, 4, none⟩ = some (.slice none 0 0) := by simp [World.cell?, hb7]
            have v5_ : V2.cell? ⟨g, 5, none⟩ = some (.int .i64 0) := by simp [World.cell?, hb7]
            have v6_ : V2.cell? ⟨g, 6, none⟩ = some (.int .i64 0) := by simp [World.cell?, hb7]
            have v7_ : V2.cell? ⟨g, 7, none⟩ = some (.slice none 0 0) := by simp [World.cell?, hb7]
            have u0_ : V2.frozen? ⟨g, 0, none⟩ = false := by simp [World.frozen?, hb7]
            have u1_ : V2.frozen? ⟨g, 1, none⟩ = false := by simp [World.frozen?, hb7]
            have u2_ : V2.frozen? ⟨g, 2, none⟩ = false := by simp [World.frozen?, hb7]
            have u3_ : V2.frozen? ⟨g, 3, none⟩ = false := by simp [World.frozen?, hb7]
            have u4_ : V2.frozen? ⟨g, 4, none⟩ = false := by simp [World.frozen?, hb7]
            have u5_ : V2.frozen? ⟨g, 5, none⟩ = false := by simp [World.frozen?, hb7]
            have u6_ : V2.frozen? ⟨g, 6, none⟩ = false := by simp [World.frozen?, hb7]
            have u7_ : V2.frozen? ⟨g, 7, none⟩ = false := by simp [World.frozen?, hb7]
            go_simp
            generalize hV9 : World.setCell (World.setCell (World.setCell (World.setCell (World.setCell (World.setCell (World.setCell (World.setCell V2 ⟨g, 0, none⟩ _) ⟨g, 1, none⟩ _) ⟨g, 2, none⟩ _) ⟨g, 3, none⟩ _) ⟨g, 4, none⟩ _) ⟨g, 5, none⟩ _) ⟨g, 6, none⟩ _) ⟨g, 7, none⟩ _ = V9
            have G9 : V2.grownBy V9 (some (g)) := by rw [← hV9]; exact (((((((grown_set1 _ _ _ _).trans (grown_set1 _ _ _ _)).trans (grown_set1 _ _ _ _)).trans (grown_set1 _ _ _ _)).trans (grown_set1 _ _ _ _)).trans (grown_set1 _ _ _ _)).trans (grown_set1 _ _ _ _)).trans (grown_set1 _ _ _ _)
            have FF : V9.heap[g]? = some (.cells #[.string nm, .string m.f0.f0, .string m.f0.f1, .slice B0 m.f1.length d0, .slice B1 m.f2.length d1, .int .i64 0, .int .i64 0, .slice B2 rs.length d2] 52 (0, 0)) := by rw [← hV9, blk_set1 (blk_set1 (blk_set1 (blk_set1 (blk_set1 (blk_set1 (blk_set1 (blk_set1 (F2.out) 0 _) 1 _) 2 _) 3 _) 4 _) 5 _) 6 _) 7 _]; simp
            have BB : Below w.heap.size w V9 := by rw [← hV9]; exact (bel_set (bel_set (bel_set (bel_set (bel_set (bel_set (bel_set (bel_set hHeld.2.2.2.2 _ (by show w.heap.size ≤ g; omega)) _ (by show w.heap.size ≤ g; omega)) _ (by show w.heap.size ≤ g; omega)) _ (by show w.heap.size ≤ g; omega)) _ (by show w.heap.size ≤ g; omega)) _ (by show w.heap.size ≤ g; omega)) _ (by show w.heap.size ≤ g; omega)) _ (by show w.heap.size ≤ g; omega))
            clear hV9
            refine hK.out _ _ ?h39 (fun hHeld => ?j39)
            case h39 => exact ⟨(World.cell?_of_block (G9.block _ (World.block_lt_of_cell? _ _ hHeld.1) (fun e => by have e := Option.some.inj e; (try dsimp only at e); omega))).trans hHeld.1, (World.cell?_of_block (G9.block _ (World.block_lt_of_cell? _ _ hHeld.2.1) (fun e => by have e := Option.some.inj e; (try dsimp only at e); omega))).trans hHeld.2.1, (World.cell?_of_block (G9.block _ (World.block_lt_of_cell? _ _ hHeld.2.2.1) (fun e => by have e := Option.some.inj e; (try dsimp only at e); omega))).trans hHeld.2.2.1, (World.cell?_of_block (G9.block _ (World.block_lt_of_cell? _ _ hHeld.2.2.2.1) (fun e => by have e := Option.some.inj e; (try dsimp only at e); omega))).trans hHeld.2.2.2.1, BB⟩
            clear hK K
            try simp only [Act.put, List.setIfInBounds_toArray, List.set_cons_zero, List.set_cons_succ]
            replace U0 := Aside0.mk (R_else U0.out rfl G9 (Kd.R_ne U0.out F2.out (by decide)))
            replace U1 := Aside0.mk (R_else U1.out rfl G9 (Kd.R_ne U1.out F2.out (by decide)))
            replace U2 := Aside0.mk (R_else U2.out rfl G9 (Kd.R_ne U2.out F2.out (by decide)))
            replace F2 := Aside0.mk FF
            clear FF
            replace F1 := Aside0.mk ((G9.block _ (blk_lt F1.out) (fun e => by have e := Option.some.inj e; omega)).trans F1.out)
            refine wpAnyH_done (by kernel_rfl) ?_ _
            exact HKK.out B0 d0 B1 d1 B2 d2 g V9 ⟨hHeld.2.2.2.2, blk_lt F1.out, F2.out, U0.out, U1.out, U2.out, lg, F1.out⟩
    case k9 =>
      go_simp
      refine hK.out _ _ ?h40 (fun hHeld => ?j40)
      case h40 => exact HK.out _ _ (bel_alloc (Below.refl _ _) _) hHeld
      clear hK K
      try simp only [Act.put, List.setIfInBounds_toArray, List.set_cons_zero, List.set_cons_succ]
      generalize hV8 : World.alloc V0 _ = V8 at hHeld ⊢
      have b8 : Below V0.heap.size V0 V8 := by rw [← hV8]; exact bel_alloc (Below.refl _ _) _
      have z8 : V0.heap.size < V8.heap.size := by rw [← hV8]; simp
      have F2 := Aside0.mk (by rw [← hV8]; exact blk_new _ _ : V8.heap[V0.heap.size]? = some (.cells #[.string ⟨#[]⟩, .string ⟨#[]⟩, .string ⟨#[]⟩, .slice none 0 0, .slice none 0 0, .int .i64 0, .int .i64 0, .slice none 0 0] 52 (0, 0)))
      have lo8 : w.heap.size + 1 < V0.heap.size := blk_lt (below_blk F1.out (Below.refl _ _))
      obtain ⟨g, hg8⟩ : ∃ g, g = V0.heap.size := ⟨_, rfl⟩
      have lg : w.heap.size + 1 < g := by omega
      rw [← hg8] at F2 ⊢
      clear hV8 hg8 z8
      replace F1 := Aside0.mk (below_blk F1.out b8)
      refine wpAnyH_ready (rs := [2, 6]) (by kernel_rfl) (by simp) ?_
      refine AllReadyH.cons (o := { dst := some 8, op := Op.call { callee := Callee.value (Operand.func 67), args := #[Operand.tmp 7], argTypes := #[33] }, type := 33, pos := "l4_client.go:58", after := #[{ on := 1, ground := Ground.data }], guard := none }) rfl (fun K hK => ?k41) (AllReadyH.cons (o := { dst := some 12, op := Op.makeSlice 50 (Operand.tmp 11) (Operand.tmp 11), type := 50, pos := "l4_client.go:58", after := #[{ on := 5, ground := Ground.data }, { on := 5, ground := Ground.data }], guard := none }) rfl (fun K hK => ?k42) AllReadyH.nil)
      case k41 =>
        have hsl2 : w.heap.size ≤ V8.heap.size := (hHeld.2.2.2.2).size
        go_simp
        refine (hcp _ hHeld.2.2.2.2).mono ?_
        rintro e V2 ⟨B0, d0, B1, d1, rfl, ga0, ga1, b2⟩
        refine hK.out _ _ ?h43 (fun hHeld => ?j43)
        case h43 => exact HK.out _ _ b2 hHeld
        clear hK K
        try simp only [Act.put, List.setIfInBounds_toArray, List.set_cons_zero, List.set_cons_succ]
        have U0 := Aside0.mk (Kd.R_lower (base' := w.heap.size) ga0 hsl2)
        have U1 := Aside0.mk (Kd.R_lower (base' := w.heap.size) ga1 hsl2)
        clear ga0 ga1 hsl2
        replace F1 := Aside0.mk (below_blk F1.out b2)
        replace F2 := Aside0.mk (below_blk F2.out b2)
        refine wpAnyH_ready (rs := [6]) (by kernel_rfl) (by simp) ?_
        refine AllReadyH.cons (o := { dst := some 12, op := Op.makeSlice 50 (Operand.tmp 11) (Operand.tmp 11), type := 50, pos := "l4_client.go:58", after := #[{ on := 5, ground := Ground.data }, { on := 5, ground := Ground.data }], guard := none }) rfl (fun K hK => ?k44) AllReadyH.nil
        case k44 =>
          refine Kd.R_make_step (Kd.int .i64) (w0 := w) (w.heap.size) 3 (by rfl) (N := 12) rfl 50 (.tmp 11) (.tmp 11) rfl (m.f1.length : Int) rfl rfl Tryd.underlying50 (.int .i64 0) 8 info3 rfl (by decide) (by omega) (0 : Int) (ok := fun _ => True) (okp := fun _ => True) rfl (fun _ h => h) trivial (by omega) ?aL6 hHeld.2.2.2.2 ?aS6 ?_
          case aL6 => (rw [Int.toNat_natCast]; omega)
          case aS6 => exact (hHeld.2.2.2.2).size
          intro v6 V6 ho hb hg hat
          rw [Int.toNat_natCast, ← HRS.out] at ho
          have b6 : Below V2.heap.size V2 V6 := ⟨hg.os, hg.tape, hg.output, hg.size, fun k hk => hg.block k hk (fun e => by cases e)⟩
          obtain ⟨B2, d2, hv6⟩ := Kd.R_slice ho
          subst hv6
          clear hg hat hb
          refine hK.out _ _ ?h45 (fun hHeld => ?j45)
          case h45 => exact HK.out _ _ b6 hHeld
          clear hK K
          try simp only [Act.put, List.setIfInBounds_toArray, List.set_cons_zero, List.set_cons_succ]
          have U2 := Aside0.mk ho
          clear ho
          replace F1 := Aside0.mk (below_blk F1.out b6)
          replace F2 := Aside0.mk (below_blk F2.out b6)
          replace U0 := Aside0.mk (Kd.R_below U0.out b6)
          replace U1 := Aside0.mk (Kd.R_below U1.out b6)
          refine wpAnyH_take (i := 7) (oi := { dst := some 13, op := Op.build 52 #[(0, Operand.tmp 6), (1, Operand.tmp 8), (4, Operand.tmp 12)], type := 52, pos := "l4_client.go:58", after := #[{ on := 0, ground := Ground.data }, { on := 2, ground := Ground.data }, { on := 6, ground := Ground.data }], guard := none }) (v := ?v46) rfl (by kernel_rfl) (by kernel_rfl) (by kernel_rfl) (fun _ _ _ h => h) (Or.inl ⟨by rfl, ?y46⟩) (by assumption) ?r46
          case y46 => intro w_ hSw; (try dsimp only at hSw); go_simp; (try (with_reducible rfl))
          try simp only [Act.put, List.setIfInBounds_toArray, List.set_cons_zero, List.set_cons_succ]
          refine wpAnyH_ready (rs := [9]) (by kernel_rfl) (by simp) ?_
          refine AllReadyH.cons (o := { dst := none, op := Op.store 52 (Operand.tmp 5) (Operand.tmp 13), type := 0, pos := "l4_client.go:58", after := #[{ on := 8, ground := Ground.data }, { on := 7, ground := Ground.data }, { on := 2, ground := Ground.chain }, { on := 0, ground := Ground.phase }, { on := 1, ground := Ground.phase }, { on := 2, ground := Ground.phase }, { on := 3, ground := Ground.phase }, { on := 4, ground := Ground.phase }, { on := 5, ground := Ground.phase }, { on := 6, ground := Ground.phase }, { on := 7, ground := Ground.phase }, { on := 8, ground := Ground.phase }], guard := none }) rfl (fun K hK => ?k47) AllReadyH.nil
          case k47 =>
            have hb7 := F2.out
            have v0_ : V6.cell? ⟨g, 0, none⟩ = some (.string ⟨#[]⟩) := by simp [World.cell?, hb7]
            have v1_ : V6.cell? ⟨g, 1, none⟩ = some (.string ⟨#[]⟩) := by simp [World.cell?, hb7]
            have v2_ : V6.cell? ⟨g, 2, none⟩ = some (.string ⟨#[]⟩) := by simp [World.cell?, hb7]
            have v3_ : V6.cell? ⟨g, 3, none⟩ = some (.slice none 0 0) := by simp [World.cell?, hb7]
            have v4_ : V6.cell? ⟨g, 4, none⟩ = some (.slice none 0 0) := by simp [World.cell?, hb7]
            have v5_ : V6.cell? ⟨g, 5, none⟩ = some (.int .i64 0) := by simp [World.cell?, hb7]
            have v6_ : V6.cell? ⟨g, 6, none⟩ = some (.int .i64 0) := by simp [World.cell?, hb7]
            have v7_ : V6.cell? ⟨g, 7, none⟩ = some (.slice none 0 0) := by simp [World.cell?, hb7]
            have u0_ : V6.frozen? ⟨g, 0, none⟩ = false := by simp [World.frozen?, hb7]
            have u1_ : V6.frozen? ⟨g, 1, none⟩ = false := by simp [World.frozen?, hb7]
            have u2_ : V6.frozen? ⟨g, 2, none⟩ = false := by simp [World.frozen?, hb7]
            have u3_ : V6.frozen? ⟨g, 3, none⟩ = false := by simp [World.frozen?, hb7]
            have u4_ : V6.frozen? ⟨g, 4, none⟩ = false := by simp [World.frozen?, hb7]
            have u5_ : V6.frozen? ⟨g, 5, none⟩ = false := by simp [World.frozen?, hb7]
            have u6_ : V6.frozen? ⟨g, 6, none⟩ = false := by simp [World.frozen?, hb7]
            have u7_ : V6.frozen? ⟨g, 7, none⟩ = false := by simp [World.frozen?, hb7]
            go_simp
            generalize hV9 : World.setCell (World.setCell (World.setCell (World.setCell (World.setCell (World.setCell (World.setCell (World.setCell V6 ⟨g, 0, none⟩ _) ⟨g, 1, none⟩ _) ⟨g, 2, none⟩ _) ⟨g, 3, none⟩ _) ⟨g, 4, none⟩ _) ⟨g, 5, none⟩ _) ⟨g, 6, none⟩ _) ⟨g, 7, none⟩ _ = V9
            have G9 : V6.grownBy V9 (some (g)) := by rw [← hV9]; exact (((((((grown_set1 _ _ _ _).trans (grown_set1 _ _ _ _)).trans (grown_set1 _ _ _ _)).trans (grown_set1 _ _ _ _)).trans (grown_set1 _ _ _ _)).trans (grown_set1 _ _ _ _)).trans (grown_set1 _ _ _ _)).trans (grown_set1 _ _ _ _)
            have FF : V9.heap[g]? = some (.cells #[.string nm, .string m.f0.f0, .string m.f0.f1, .slice B0 m.f1.length d0, .slice B1 m.f2.length d1, .int .i64 0, .int .i64 0, .slice B2 rs.length d2] 52 (0, 0)) := by rw [← hV9, blk_set1 (blk_set1 (blk_set1 (blk_set1 (blk_set1 (blk_set1 (blk_set1 (blk_set1 (F2.out) 0 _) 1 _) 2 _) 3 _) 4 _) 5 _) 6 _) 7 _]; simp
            have BB : Below w.heap.size w V9 := by rw [← hV9]; exact (bel_set (bel_set (bel_set (bel_set (bel_set (bel_set (bel_set (bel_set hHeld.2.2.2.2 _ (by show w.heap.size ≤ g; omega)) _ (by show w.heap.size ≤ g; omega)) _ (by show w.heap.size ≤ g; omega)) _ (by show w.heap.size ≤ g; omega)) _ (by show w.heap.size ≤ g; omega)) _ (by show w.heap.size ≤ g; omega)) _ (by show w.heap.size ≤ g; omega)) _ (by show w.heap.size ≤ g; omega))
            clear hV9
            refine hK.out _ _ ?h48 (fun hHeld => ?j48)
            case h48 => exact ⟨(World.cell?_of_block (G9.block _ (World.block_lt_of_cell? _ _ hHeld.1) (fun e => by have e := Option.some.inj e; (try dsimp only at e); omega))).trans hHeld.1, (World.cell?_of_block (G9.block _ (World.block_lt_of_cell? _ _ hHeld.2.1) (fun e => by have e := Option.some.inj e; (try dsimp only at e); omega))).trans hHeld.2.1, (World.cell?_of_block (G9.block _ (World.block_lt_of_cell? _ _ hHeld.2.2.1) (fun e => by have e := Option.some.inj e; (try dsimp only at e); omega))).trans hHeld.2.2.1, (World.cell?_of_block (G9.block _ (World.block_lt_of_cell? _ _ hHeld.2.2.2.1) (fun e => by have e := Option.some.inj e; (try dsimp only at e); omega))).trans hHeld.2.2.2.1, BB⟩
            clear hK K
            try simp only [Act.put, List.setIfInBounds_toArray, List.set_cons_zero, List.set_cons_succ]
            replace U0 := Aside0.mk (R_else U0.out rfl G9 (Kd.R_ne U0.out F2.out (by decide)))
            replace U1 := Aside0.mk (R_else U1.out rfl G9 (Kd.R_ne U1.out F2.out (by decide)))
            replace U2 := Aside0.mk (R_else U2.out rfl G9 (Kd.R_ne U2.out F2.out (by decide)))
            replace F2 := Aside0.mk FF
            clear FF
            replace F1 := Aside0.mk ((G9.block _ (blk_lt F1.out) (fun e => by have e := Option.some.inj e; omega)).trans F1.out)
            refine wpAnyH_done (by kernel_rfl) ?_ _
            exact HKK.out B0 d0 B1 d1 B2 d2 g V9 ⟨hHeld.2.2.2.2, blk_lt F1.out, F2.out, U0.out, U1.out, U2.out, lg, F1.out⟩
      case k42 =>
        refine Kd.R_make_step (Kd.int .i64) (w0 := w) (w.heap.size) 3 (by rfl) (N := 12) rfl 50 (.tmp 11) (.tmp 11) rfl (m.f1.length : Int) rfl rfl Tryd.underlying50 (.int .i64 0) 8 info3 rfl (by decide) (by omega) (0 : Int) (ok := fun _ => True) (okp := fun _ => True) rfl (fun _ h => h) trivial (by omega) ?aL6 hHeld.2.2.2.2 ?aS6 ?_
        case aL6 => (rw [Int.toNat_natCast]; omega)
        case aS6 => exact (hHeld.2.2.2.2).size
        intro v6 V6 ho hb hg hat
        rw [Int.toNat_natCast, ← HRS.out] at ho
        have b6 : Below V8.heap.size V8 V6 := ⟨hg.os, hg.tape, hg.output, hg.size, fun k hk => hg.block k hk (fun e => by cases e)⟩
        obtain ⟨B2, d2, hv6⟩ := Kd.R_slice ho
        subst hv6
        clear hg hat hb
        refine hK.out _ _ ?h49 (fun hHeld => ?j49)
        case h49 => exact HK.out _ _ b6 hHeld
        clear hK K
        try simp only [Act.put, List.setIfInBounds_toArray, List.set_cons_zero, List.set_cons_succ]
        have U2 := Aside0.mk ho
        clear ho
        replace F1 := Aside0.mk (below_blk F1.out b6)
        replace F2 := Aside0.mk (below_blk F2.out b6)
        refine wpAnyH_ready (rs := [2]) (by kernel_rfl) (by simp) ?_
        refine AllReadyH.cons (o := { dst := some 8, op := Op.call { callee := Callee.value (Operand.func 67), args := #[Operand.tmp 7], argTypes := #[33] }, type := 33, pos := "l4_client.go:58", after := #[{ on := 1, ground := Ground.data }], guard := none }) rfl (fun K hK => ?k50) AllReadyH.nil
        case k50 =>
          have hsl2 : w.heap.size ≤ V6.heap.size := (hHeld.2.2.2.2).size
          go_simp
          refine (hcp _ hHeld.2.2.2.2).mono ?_
          rintro e V2 ⟨B0, d0, B1, d1, rfl, ga0, ga1, b2⟩
          refine hK.out _ _ ?h51 (fun hHeld => ?j51)
          case h51 => exact HK.out _ _ b2 hHeld
          clear hK K
          try simp only [Act.put, List.setIfInBounds_toArray, List.set_cons_zero, List.set_cons_succ]
          have U0 := Aside0.mk (Kd.R_lower (base' := w.heap.size) ga0 hsl2)
          have U1 := Aside0.mk (Kd.R_lower (base' := w.heap.size) ga1 hsl2)
          clear ga0 ga1 hsl2
          replace F1 := Aside0.mk (below_blk F1.out b2)
          replace F2 := Aside0.mk (below_blk F2.out b2)
          replace U2 := Aside0.mk (Kd.R_below U2.out b2)
          refine wpAnyH_take (i := 7) (oi := { dst := some 13, op := Op.build 52 #[(0, Operand.tmp 6), (1, Operand.tmp 8), (4, Operand.tmp 12)], type := 52, pos := "l4_client.go:58", after := #[{ on := 0, ground := Ground.data }, { on := 2, ground := Ground.data }, { on := 6, ground := Ground.data }], guard := none }) (v := ?v52) rfl (by kernel_rfl) (by kernel_rfl) (by kernel_rfl) (fun _ _ _ h => h) (Or.inl ⟨by rfl, ?y52⟩) (by assumption) ?r52
          case y52 => intro w_ hSw; (try dsimp only at hSw); go_simp; (try (with_reducible rfl))
          try simp only [Act.put, List.setIfInBounds_toArray, List.set_cons_zero, List.set_cons_succ]
          refine wpAnyH_ready (rs := [9]) (by kernel_rfl) (by simp) ?_
          refine AllReadyH.cons (o := { dst := none, op := Op.store 52 (Operand.tmp 5) (Operand.tmp 13), type := 0, pos := "l4_client.go:58", after := #[{ on := 8, ground := Ground.data }, { on := 7, ground := Ground.data }, { on := 2, ground := Ground.chain }, { on := 0, ground := Ground.phase }, { on := 1, ground := Ground.phase }, { on := 2, ground := Ground.phase }, { on := 3, ground := Ground.phase }, { on := 4, ground := Ground.phase }, { on := 5, ground := Ground.phase }, { on := 6, ground := Ground.phase }, { on := 7, ground := Ground.phase }, { on := 8, ground := Ground.phase }], guard := none }) rfl (fun K hK => ?k53) AllReadyH.nil
          case k53 =>
            have hb7 := F2.out
            have v0_ : V2.cell? ⟨g, 0, none⟩ = some (.string ⟨#[]⟩) := by simp [World.cell?, hb7]
            have v1_ : V2.cell? ⟨g, 1, none⟩ = some (.string ⟨#[]⟩) := by simp [World.cell?, hb7]
            have v2_ : V2.cell? ⟨g, 2, none⟩ = some (.string ⟨#[]⟩) := by simp [World.cell?, hb7]
            have v3_ : V2.cell? ⟨g, 3, none⟩ = some (.slice none 0 0) := by simp [World.cell?, hb7]
            have v4_ : V2.cell? ⟨g, 4, none⟩ = some (.slice none 0 0) := by simp [World.cell?, hb7]
            have v5_ : V2.cell? ⟨g, 5, none⟩ = some (.int .i64 0) := by simp [World.cell?, hb7]
            have v6_ : V2.cell? ⟨g, 6, none⟩ = some (.int .i64 0) := by simp [World.cell?, hb7]
            have v7_ : V2.cell? ⟨g, 7, none⟩ = some (.slice none 0 0) := by simp [World.cell?, hb7]
            have u0_ : V2.frozen? ⟨g, 0, none⟩ = false := by simp [World.frozen?, hb7]
            have u1_ : V2.frozen? ⟨g, 1, none⟩ = false := by simp [World.frozen?, hb7]
            have u2_ : V2.frozen? ⟨g, 2, none⟩ = false := by simp [World.frozen?, hb7]
            have u3_ : V2.frozen? ⟨g, 3, none⟩ = false := by simp [World.frozen?, hb7]
            have u4_ : V2.frozen? ⟨g, 4, none⟩ = false := by simp [World.frozen?, hb7]
            have u5_ : V2.frozen? ⟨g, 5, none⟩ = false := by simp [World.frozen?, hb7]
            have u6_ : V2.frozen? ⟨g, 6, none⟩ = false := by simp [World.frozen?, hb7]
            have u7_ : V2.frozen? ⟨g, 7, none⟩ = false := by simp [World.frozen?, hb7]
            go_simp
            generalize hV9 : World.setCell (World.setCell (World.setCell (World.setCell (World.setCell (World.setCell (World.setCell (World.setCell V2 ⟨g, 0, none⟩ _) ⟨g, 1, none⟩ _) ⟨g, 2, none⟩ _) ⟨g, 3, none⟩ _) ⟨g, 4, none⟩ _) ⟨g, 5, none⟩ _) ⟨g, 6, none⟩ _) ⟨g, 7, none⟩ _ = V9
            have G9 : V2.grownBy V9 (some (g)) := by rw [← hV9]; exact (((((((grown_set1 _ _ _ _).trans (grown_set1 _ _ _ _)).trans (grown_set1 _ _ _ _)).trans (grown_set1 _ _ _ _)).trans (grown_set1 _ _ _ _)).trans (grown_set1 _ _ _ _)).trans (grown_set1 _ _ _ _)).trans (grown_set1 _ _ _ _)
            have FF : V9.heap[g]? = some (.cells #[.string nm, .string m.f0.f0, .string m.f0.f1, .slice B0 m.f1.length d0, .slice B1 m.f2.length d1, .int .i64 0, .int .i64 0, .slice B2 rs.length d2] 52 (0, 0)) := by rw [← hV9, blk_set1 (blk_set1 (blk_set1 (blk_set1 (blk_set1 (blk_set1 (blk_set1 (blk_set1 (F2.out) 0 _) 1 _) 2 _) 3 _) 4 _) 5 _) 6 _) 7 _]; simp
            have BB : Below w.heap.size w V9 := by rw [← hV9]; exact (bel_set (bel_set (bel_set (bel_set (bel_set (bel_set (bel_set (bel_set hHeld.2.2.2.2 _ (by show w.heap.size ≤ g; omega)) _ (by show w.heap.size ≤ g; omega)) _ (by show w.heap.size ≤ g; omega)) _ (by show w.heap.size ≤ g; omega)) _ (by show w.heap.size ≤ g; omega)) _ (by show w.heap.size ≤ g; omega)) _ (by show w.heap.size ≤ g; omega)) _ (by show w.heap.size ≤ g; omega))
            clear hV9
            refine hK.out _ _ ?h54 (fun hHeld => ?j54)
            case h54 => exact ⟨(World.cell?_of_block (G9.block _ (World.block_lt_of_cell? _ _ hHeld.1) (fun e => by have e := Option.some.inj e; (try dsimp only at e); omega))).trans hHeld.1, (World.cell?_of_block (G9.block _ (World.block_lt_of_cell? _ _ hHeld.2.1) (fun e => by have e := Option.some.inj e; (try dsimp only at e); omega))).trans hHeld.2.1, (World.cell?_of_block (G9.block _ (World.block_lt_of_cell? _ _ hHeld.2.2.1) (fun e => by have e := Option.some.inj e; (try dsimp only at e); omega))).trans hHeld.2.2.1, (World.cell?_of_block (G9.block _ (World.block_lt_of_cell? _ _ hHeld.2.2.2.1) (fun e => by have e := Option.some.inj e; (try dsimp only at e); omega))).trans hHeld.2.2.2.1, BB⟩
            clear hK K
            try simp only [Act.put, List.setIfInBounds_toArray, List.set_cons_zero, List.set_cons_succ]
            replace U0 := Aside0.mk (R_else U0.out rfl G9 (Kd.R_ne U0.out F2.out (by decide)))
            replace U1 := Aside0.mk (R_else U1.out rfl G9 (Kd.R_ne U1.out F2.out (by decide)))
            replace U2 := Aside0.mk (R_else U2.out rfl G9 (Kd.R_ne U2.out F2.out (by decide)))
            replace F2 := Aside0.mk FF
            clear FF
            replace F1 := Aside0.mk ((G9.block _ (blk_lt F1.out) (fun e => by have e := Option.some.inj e; omega)).trans F1.out)
            refine wpAnyH_done (by kernel_rfl) ?_ _
            exact HKK.out B0 d0 B1 d1 B2 d2 g V9 ⟨hHeld.2.2.2.2, blk_lt F1.out, F2.out, U0.out, U1.out, U2.out, lg, F1.out⟩
  case hk =>
    intro B0 d0 B1 d1 B2 d2 g V ⟨BV, sV, f2, u0, u1, u2, lg, f1⟩
    clear HST HK HF0 HF1 join
    have U0 := Aside0.mk u0
    have U1 := Aside0.mk u1
    have U2 := Aside0.mk u2
    have F2 := Aside0.mk f2
    have BW := Aside0.mk BV
    have F1 := Aside0.mk f1
    clear u0 u1 u2 f2 BV f1
    have hok := fun (_ : True) => cliOk_any ⟨nm, m, 0, 0, rs⟩ B0 d0 B1 d1 B2 d2 V HF.out (Kd.R_reads' U0.out).2.2 (Kd.R_reads' U1.out).2.2 (Kd.R_reads' U2.out).2.2 (HGG.out.below BW.out)
    rw [HO.out] at hok
    have m0_ : V.cell? ⟨g, 0, none⟩ = some (.string nm) := by simp [World.cell?, F2.out]
    have m1_ : V.cell? ⟨g, 1, none⟩ = some (.string m.f0.f0) := by simp [World.cell?, F2.out]
    have m2_ : V.cell? ⟨g, 2, none⟩ = some (.string m.f0.f1) := by simp [World.cell?, F2.out]
    have m3_ : V.cell? ⟨g, 3, none⟩ = some (.slice B0 m.f1.length d0) := by simp [World.cell?, F2.out]
    have m4_ : V.cell? ⟨g, 4, none⟩ = some (.slice B1 m.f2.length d1) := by simp [World.cell?, F2.out]
    have m5_ : V.cell? ⟨g, 5, none⟩ = some (.int .i64 0) := by simp [World.cell?, F2.out]
    have m6_ : V.cell? ⟨g, 6, none⟩ = some (.int .i64 0) := by simp [World.cell?, F2.out]
    have m7_ : V.cell? ⟨g, 7, none⟩ = some (.slice B2 rs.length d2) := by simp [World.cell?, F2.out]
    cases q
    · obtain rfl : M = zCli := HM.out
      go_wp2_with (go_at_call 68; refine (hok trivial).mono ?_; rintro e w4 ⟨rfl, b4⟩; have B4 := Aside0.mk (bel_then BW.out b4); replace U0 := Aside0.mk (Kd.R_below U0.out b4); replace U1 := Aside0.mk (Kd.R_below U1.out b4); replace U2 := Aside0.mk (Kd.R_below U2.out b4); replace F1 := Aside0.mk (below_blk F1.out b4); replace F2 := Aside0.mk (below_blk F2.out b4); have n0_ : w4.cell? ⟨g, 0, none⟩ = some (.string nm) := (by simp [World.cell?, F2.out]); have n1_ : w4.cell? ⟨g, 1, none⟩ = some (.string m.f0.f0) := (by simp [World.cell?, F2.out]); have n2_ : w4.cell? ⟨g, 2, none⟩ = some (.string m.f0.f1) := (by simp [World.cell?, F2.out]); have n3_ : w4.cell? ⟨g, 3, none⟩ = some (.slice B0 m.f1.length d0) := (by simp [World.cell?, F2.out]); have n4_ : w4.cell? ⟨g, 4, none⟩ = some (.slice B1 m.f2.length d1) := (by simp [World.cell?, F2.out]); have n5_ : w4.cell? ⟨g, 5, none⟩ = some (.int .i64 0) := (by simp [World.cell?, F2.out]); have n6_ : w4.cell? ⟨g, 6, none⟩ = some (.int .i64 0) := (by simp [World.cell?, F2.out]); have n7_ : w4.cell? ⟨g, 7, none⟩ = some (.slice B2 rs.length d2) := (by simp [World.cell?, F2.out]); have k0_ : w4.cell? ⟨w.heap.size + 1, 0, none⟩ = some (.string ⟨#[]⟩) := (by simp [World.cell?, F1.out]); have k1_ : w4.cell? ⟨w.heap.size + 1, 1, none⟩ = some (.string ⟨#[]⟩) := (by simp [World.cell?, F1.out]); have k2_ : w4.cell? ⟨w.heap.size + 1, 2, none⟩ = some (.string ⟨#[]⟩) := (by simp [World.cell?, F1.out]); have k3_ : w4.cell? ⟨w.heap.size + 1, 3, none⟩ = some (.slice none 0 0) := (by simp [World.cell?, F1.out]); have k4_ : w4.cell? ⟨w.heap.size + 1, 4, none⟩ = some (.slice none 0 0) := (by simp [World.cell?, F1.out]); have k5_ : w4.cell? ⟨w.heap.size + 1, 5, none⟩ = some (.int .i64 0) := (by simp [World.cell?, F1.out]); have k6_ : w4.cell? ⟨w.heap.size + 1, 6, none⟩ = some (.int .i64 0) := (by simp [World.cell?, F1.out]); have k7_ : w4.cell? ⟨w.heap.size + 1, 7, none⟩ = some (.slice none 0 0) := (by simp [World.cell?, F1.out]); have kz0_ : w4.frozen? ⟨w.heap.size + 1, 0, none⟩ = false := (by simp [World.frozen?, F1.out]); have kz1_ : w4.frozen? ⟨w.heap.size + 1, 1, none⟩ = false := (by simp [World.frozen?, F1.out]); have kz2_ : w4.frozen? ⟨w.heap.size + 1, 2, none⟩ = false := (by simp [World.frozen?, F1.out]); have kz3_ : w4.frozen? ⟨w.heap.size + 1, 3, none⟩ = false := (by simp [World.frozen?, F1.out]); have kz4_ : w4.frozen? ⟨w.heap.size + 1, 4, none⟩ = false := (by simp [World.frozen?, F1.out]); have kz5_ : w4.frozen? ⟨w.heap.size + 1, 5, none⟩ = false := (by simp [World.frozen?, F1.out]); have kz6_ : w4.frozen? ⟨w.heap.size + 1, 6, none⟩ = false := (by simp [World.frozen?, F1.out]); have kz7_ : w4.frozen? ⟨w.heap.size + 1, 7, none⟩ = false := (by simp [World.frozen?, F1.out]); clear b4)
      refine bodyPost_ret (v := .agg #[.string ⟨#[]⟩, .string ⟨#[]⟩, .string ⟨#[]⟩, .slice none 0 0, .slice none 0 0, .int .i64 0, .int .i64 0, .slice none 0 0]) ?hrA rfl ?hpA
      case hrA => simp [results, Tryd.results21, go_sem, k0_, k1_, k2_, k3_, k4_, k5_, k6_, k7_]
      case hpA => exact ⟨none, 0, none, 0, none, 0, rfl, Kd.R_nil _ _ _ _ _, Kd.R_nil _ _ _ _ _, Kd.R_nil _ _ _ _ _, by (with_reducible repeat (first | exact B4.out | refine bel_alloc ?_ _ | refine bel_set ?_ _ ?_ | refine blw_drewN ?_ _ | refine Below.drew ?_)); all_goals (first | (simp; done) | (simp; omega) | omega)⟩
    · obtain rfl : M = ⟨nm, m, 0, 0, rs⟩ := HM.out
      go_wp2_with (go_at_call 68; refine (hok trivial).mono ?_; rintro e w4 ⟨rfl, b4⟩; have B4 := Aside0.mk (bel_then BW.out b4); replace U0 := Aside0.mk (Kd.R_below U0.out b4); replace U1 := Aside0.mk (Kd.R_below U1.out b4); replace U2 := Aside0.mk (Kd.R_below U2.out b4); replace F1 := Aside0.mk (below_blk F1.out b4); replace F2 := Aside0.mk (below_blk F2.out b4); have n0_ : w4.cell? ⟨g, 0, none⟩ = some (.string nm) := (by simp [World.cell?, F2.out]); have n1_ : w4.cell? ⟨g, 1, none⟩ = some (.string m.f0.f0) := (by simp [World.cell?, F2.out]); have n2_ : w4.cell? ⟨g, 2, none⟩ = some (.string m.f0.f1) := (by simp [World.cell?, F2.out]); have n3_ : w4.cell? ⟨g, 3, none⟩ = some (.slice B0 m.f1.length d0) := (by simp [World.cell?, F2.out]); have n4_ : w4.cell? ⟨g, 4, none⟩ = some (.slice B1 m.f2.length d1) := (by simp [World.cell?, F2.out]); have n5_ : w4.cell? ⟨g, 5, none⟩ = some (.int .i64 0) := (by simp [World.cell?, F2.out]); have n6_ : w4.cell? ⟨g, 6, none⟩ = some (.int .i64 0) := (by simp [World.cell?, F2.out]); have n7_ : w4.cell? ⟨g, 7, none⟩ = some (.slice B2 rs.length d2) := (by simp [World.cell?, F2.out]); have k0_ : w4.cell? ⟨w.heap.size + 1, 0, none⟩ = some (.string ⟨#[]⟩) := (by simp [World.cell?, F1.out]); have k1_ : w4.cell? ⟨w.heap.size + 1, 1, none⟩ = some (.string ⟨#[]⟩) := (by simp [World.cell?, F1.out]); have k2_ : w4.cell? ⟨w.heap.size + 1, 2, none⟩ = some (.string ⟨#[]⟩) := (by simp [World.cell?, F1.out]); have k3_ : w4.cell? ⟨w.heap.size + 1, 3, none⟩ = some (.slice none 0 0) := (by simp [World.cell?, F1.out]); have k4_ : w4.cell? ⟨w.heap.size + 1, 4, none⟩ = some (.slice none 0 0) := (by simp [World.cell?, F1.out]); have k5_ : w4.cell? ⟨w.heap.size + 1, 5, none⟩ = some (.int .i64 0) := (by simp [World.cell?, F1.out]); have k6_ : w4.cell? ⟨w.heap.size + 1, 6, none⟩ = some (.int .i64 0) := (by simp [World.cell?, F1.out]); have k7_ : w4.cell? ⟨w.heap.size + 1, 7, none⟩ = some (.slice none 0 0) := (by simp [World.cell?, F1.out]); have kz0_ : w4.frozen? ⟨w.heap.size + 1, 0, none⟩ = false := (by simp [World.frozen?, F1.out]); have kz1_ : w4.frozen? ⟨w.heap.size + 1, 1, none⟩ = false := (by simp [World.frozen?, F1.out]); have kz2_ : w4.frozen? ⟨w.heap.size + 1, 2, none⟩ = false := (by simp [World.frozen?, F1.out]); have kz3_ : w4.frozen? ⟨w.heap.size + 1, 3, none⟩ = false := (by simp [World.frozen?, F1.out]); have kz4_ : w4.frozen? ⟨w.heap.size + 1, 4, none⟩ = false := (by simp [World.frozen?, F1.out]); have kz5_ : w4.frozen? ⟨w.heap.size + 1, 5, none⟩ = false := (by simp [World.frozen?, F1.out]); have kz6_ : w4.frozen? ⟨w.heap.size + 1, 6, none⟩ = false := (by simp [World.frozen?, F1.out]); have kz7_ : w4.frozen? ⟨w.heap.size + 1, 7, none⟩ = false := (by simp [World.frozen?, F1.out]); clear b4)
      refine bodyPost_ret (v := .agg #[.string nm, .string m.f0.f0, .string m.f0.f1, .slice B0 m.f1.length d0, .slice B1 m.f2.length d1, .int .i64 0, .int .i64 0, .slice B2 rs.length d2]) ?hrB rfl ?hpB
      case hrB => simp [results, Tryd.results21, go_sem, k0_, k1_, k2_, k3_, k4_, k5_, k6_, k7_]
      case hpB =>
        have b0 := B4.out
        generalize hwz : World.setCell (World.setCell (World.setCell (World.setCell (World.setCell (World.setCell (World.setCell (World.setCell w4 ⟨w.heap.size + 1, 0, none⟩ _) ⟨w.heap.size + 1, 1, none⟩ _) ⟨w.heap.size + 1, 2, none⟩ _) ⟨w.heap.size + 1, 3, none⟩ _) ⟨w.heap.size + 1, 4, none⟩ _) ⟨w.heap.size + 1, 5, none⟩ _) ⟨w.heap.size + 1, 6, none⟩ _) ⟨w.heap.size + 1, 7, none⟩ _ = wz
        have GZ : w4.grownBy wz (some (w.heap.size + 1)) := by rw [← hwz]; exact (((((((grown_set1 _ _ _ _).trans (grown_set1 _ _ _ _)).trans (grown_set1 _ _ _ _)).trans (grown_set1 _ _ _ _)).trans (grown_set1 _ _ _ _)).trans (grown_set1 _ _ _ _)).trans (grown_set1 _ _ _ _)).trans (grown_set1 _ _ _ _)
        have BZ : Below w.heap.size w wz := by rw [← hwz]; exact (bel_set (bel_set (bel_set (bel_set (bel_set (bel_set (bel_set (bel_set b0 _ (by show w.heap.size ≤ w.heap.size + 1; omega)) _ (by show w.heap.size ≤ w.heap.size + 1; omega)) _ (by show w.heap.size ≤ w.heap.size + 1; omega)) _ (by show w.heap.size ≤ w.heap.size + 1; omega)) _ (by show w.heap.size ≤ w.heap.size + 1; omega)) _ (by show w.heap.size ≤ w.heap.size + 1; omega)) _ (by show w.heap.size ≤ w.heap.size + 1; omega)) _ (by show w.heap.size ≤ w.heap.size + 1; omega))
        clear hwz
        exact ⟨B0, d0, B1, d1, B2, d2, rfl, R_else U0.out rfl GZ (Kd.R_ne U0.out F1.out (by decide)), R_else U1.out rfl GZ (Kd.R_ne U1.out F1.out (by decide)), R_else U2.out rfl GZ (Kd.R_ne U2.out F1.out (by decide)), BZ⟩

set_option maxRecDepth 100000 in
set_option maxHeartbeats 8000000 in
theorem specNew1_any (nm : ByteArray) (m : SMail) (A0 : Option Addr) (c0 : Nat) (A1 : Option Addr) (c1 : Nat) (w : World) (hn : nm.size ≤ 1048576) (hw : fitMail m) (hr0 : Kd.C kAddr w A0 m.f1.length m.f1) (hr1 : Kd.C Kd.string w A1 m.f2.length m.f2) :
    Calls Tryd.prog 65 #[.string nm, .agg #[.string m.f0.f0, .string m.f0.f1, .slice A0 m.f1.length c0, .slice A1 m.f2.length c1]] w fun e w' => ∃ B0 d0 B1 d1 B2 d2, e = .returned (.agg #[.string (cliB nm m).f0, .string (cliB nm m).f1.f0.f0, .string (cliB nm m).f1.f0.f1, .slice B0 (cliB nm m).f1.f1.length d0, .slice B1 (cliB nm m).f1.f2.length d1, .int .i64 (cliB nm m).f2, .int .i64 (cliB nm m).f3, .slice B2 (cliB nm m).f4.length d2]) ∧ Kd.R kAddr 30 w' w.heap.size (fun _ => True) (.slice B0 (cliB nm m).f1.f1.length d0) (cliB nm m).f1.f1 ∧ Kd.R Kd.string 9 w' w.heap.size (fun _ => True) (.slice B1 (cliB nm m).f1.f2.length d1) (cliB nm m).f1.f2 ∧ Kd.R (Kd.int .i64) 3 w' w.heap.size (fun _ => True) (.slice B2 (cliB nm m).f4.length d2) (cliB nm m).f4 ∧ Below w.heap.size w w' := by
  have hcp := fun W (hW : Below w.heap.size w W) => specCopy_any m A0 c0 A1 c1 W hw (Kd.C_below hr0 hW) (Kd.C_below hr1 hW)
  have hl1 := hw.2.1.1
  unfold cliB
  obtain ⟨rs, hrs⟩ : ∃ rs, rs = List.replicate m.f1.length (0 : Int) := ⟨_, rfl⟩
  rw [← hrs]
  have HRS := Lib.hid hrs
  clear hw hr0 hr1 hrs
  go_enter Tryd.func65, Tryd.ntmps65
  go_wp2
  obtain ⟨W0, hW0⟩ : ∃ W, W = (w.alloc (.cells #[.string m.f0.f0, .string m.f0.f1, .slice A0 m.f1.length c0, .slice A1 m.f2.length c1] 33)).alloc (.cells #[.string ⟨#[]⟩, .string ⟨#[]⟩, .string ⟨#[]⟩, .slice none 0 0, .slice none 0 0, .int .i64 0, .int .i64 0, .slice none 0 0] 52) := ⟨_, rfl⟩
  rw [← hW0]
  have HF0 : Aside0 (W0.heap[w.heap.size]? = some (.cells #[.string m.f0.f0, .string m.f0.f1, .slice A0 m.f1.length c0, .slice A1 m.f2.length c1] 33 (0, 0))) := ⟨by rw [hW0]; exact below_blk (blk_new _ _) (bel_alloc (Below.refl _ _) _)⟩
  have HF1 : Aside0 (W0.heap[w.heap.size + 1]? = some (.cells #[.string ⟨#[]⟩, .string ⟨#[]⟩, .string ⟨#[]⟩, .slice none 0 0, .slice none 0 0, .int .i64 0, .int .i64 0, .slice none 0 0] 52 (0, 0))) := ⟨by rw [hW0, show w.heap.size + 1 = (w.alloc (.cells #[.string m.f0.f0, .string m.f0.f1, .slice A0 m.f1.length c0, .slice A1 m.f2.length c1] 33)).heap.size by simp]; exact blk_new _ _⟩
  have B0 : Below w.heap.size w W0 := by rw [hW0]; exact bel_alloc (bel_alloc (Below.refl _ _) _) _
  clear hW0
  have join : Hid (∀ {goal : Prop} {G : Option Addr → Nat → Option Addr → Nat → Option Addr → Nat → World → Prop} (rg : Hid (∀ (B0 : Option Addr) (d0 : Nat) (B1 : Option Addr) (d1 : Nat) (B2 : Option Addr) (d2 : Nat) (V : World), Below w.heap.size w V ∧ w.heap.size + 1 < V.heap.size ∧ V.heap[w.heap.size + 1]? = some (.cells #[.string nm, .string m.f0.f0, .string m.f0.f1, .slice B0 m.f1.length d0, .slice B1 m.f2.length d1, .int .i64 0, .int .i64 0, .slice B2 rs.length d2] 52 (0, 0)) ∧ Kd.R kAddr 30 V w.heap.size (fun _ => True) (.slice B0 m.f1.length d0) m.f1 ∧ Kd.R Kd.string 9 V w.heap.size (fun _ => True) (.slice B1 m.f2.length d1) m.f2 ∧ Kd.R (Kd.int .i64) 3 V w.heap.size (fun _ => True) (.slice B2 rs.length d2) rs → G B0 d0 B1 d1 B2 d2 V) → goal) (hk : ∀ (B0 : Option Addr) (d0 : Nat) (B1 : Option Addr) (d1 : Nat) (B2 : Option Addr) (d2 : Nat) (V : World), Below w.heap.size w V ∧ w.heap.size + 1 < V.heap.size ∧ V.heap[w.heap.size + 1]? = some (.cells #[.string nm, .string m.f0.f0, .string m.f0.f1, .slice B0 m.f1.length d0, .slice B1 m.f2.length d1, .int .i64 0, .int .i64 0, .slice B2 rs.length d2] 52 (0, 0)) ∧ Kd.R kAddr 30 V w.heap.size (fun _ => True) (.slice B0 m.f1.length d0) m.f1 ∧ Kd.R Kd.string 9 V w.heap.size (fun _ => True) (.slice B1 m.f2.length d1) m.f2 ∧ Kd.R (Kd.int .i64) 3 V w.heap.size (fun _ => True) (.slice B2 rs.length d2) rs → G B0 d0 B1 d1 B2 d2 V), goal) := Lib.hid (fun f h => f (Lib.hid h))
  have HK : Aside0 (∀ W W1, Below W.heap.size W W1 → (W.cell? ⟨w.heap.size, 0, none⟩ = some (.string m.f0.f0) ∧ W.cell? ⟨w.heap.size, 1, none⟩ = some (.string m.f0.f1) ∧ W.cell? ⟨w.heap.size, 2, none⟩ = some (.slice A0 m.f1.length c0) ∧ W.cell? ⟨w.heap.size, 3, none⟩ = some (.slice A1 m.f2.length c1) ∧ Below w.heap.size w W) → (W1.cell? ⟨w.heap.size, 0, none⟩ = some (.string m.f0.f0) ∧ W1.cell? ⟨w.heap.size, 1, none⟩ = some (.string m.f0.f1) ∧ W1.cell? ⟨w.heap.size, 2, none⟩ = some (.slice A0 m.f1.length c0) ∧ W1.cell? ⟨w.heap.size, 3, none⟩ = some (.slice A1 m.f2.length c1) ∧ Below w.heap.size w W1)) := ⟨fun W W1 hb h => ⟨(hb.cell (World.block_lt_of_cell? W _ (h.1))).trans (h.1), (hb.cell (World.block_lt_of_cell? W _ (h.2.1))).trans (h.2.1), (hb.cell (World.block_lt_of_cell? W _ (h.2.2.1))).trans (h.2.2.1), (hb.cell (World.block_lt_of_cell? W _ (h.2.2.2.1))).trans (h.2.2.2.1), bel_then (h.2.2.2.2) hb⟩⟩
  have x0_ : W0.cell? ⟨w.heap.size, 0, none⟩ = some (.string m.f0.f0) := by simp [World.cell?, HF0.out]
  have x1_ : W0.cell? ⟨w.heap.size, 1, none⟩ = some (.string m.f0.f1) := by simp [World.cell?, HF0.out]
  have x2_ : W0.cell? ⟨w.heap.size, 2, none⟩ = some (.slice A0 m.f1.length c0) := by simp [World.cell?, HF0.out]
  have x3_ : W0.cell? ⟨w.heap.size, 3, none⟩ = some (.slice A1 m.f2.length c1) := by simp [World.cell?, HF0.out]
  have HST : Aside0 ((fun W => W.cell? ⟨w.heap.size, 0, none⟩ = some (.string m.f0.f0) ∧ W.cell? ⟨w.heap.size, 1, none⟩ = some (.string m.f0.f1) ∧ W.cell? ⟨w.heap.size, 2, none⟩ = some (.slice A0 m.f1.length c0) ∧ W.cell? ⟨w.heap.size, 3, none⟩ = some (.slice A1 m.f2.length c1) ∧ Below w.heap.size w W) W0.drew) := ⟨⟨x0_, x1_, x2_, x3_, bel_then B0 (drew_below0 W0)⟩⟩
  clear B0 x0_ x1_ x2_ x3_
  apply join.out
  case rg =>
    intro HKK
    refine wp_region_held_drew (S := (fun W => W.cell? ⟨w.heap.size, 0, none⟩ = some (.string m.f0.f0) ∧ W.cell? ⟨w.heap.size, 1, none⟩ = some (.string m.f0.f1) ∧ W.cell? ⟨w.heap.size, 2, none⟩ = some (.slice A0 m.f1.length c0) ∧ W.cell? ⟨w.heap.size, 3, none⟩ = some (.slice A1 m.f2.length c1) ∧ Below w.heap.size w W)) (by kernel_rfl) ?s55 (fun hHeld => ?t55)
    case s55 => exact HST.out
    generalize hV0 : World.drew _ = V0 at hHeld ⊢
    have F1 : Aside0 (V0.heap[w.heap.size + 1]? = some (.cells #[.string ⟨#[]⟩, .string ⟨#[]⟩, .string ⟨#[]⟩, .slice none 0 0, .slice none 0 0, .int .i64 0, .int .i64 0, .slice none 0 0] 52 (0, 0))) := ⟨by rw [← hV0]; exact HF1.out⟩
    clear hV0
    refine wpAnyH_take (i := 0) (oi := { dst := some 5, op := Op.move (Operand.tmp 0), type := 9, pos := "l4_client.go:38", after := #[], guard := none }) (v := ?v56) rfl (by kernel_rfl) (by kernel_rfl) (by kernel_rfl) (fun _ _ _ h => h) (Or.inl ⟨by rfl, ?y56⟩) (by assumption) ?r56
    case y56 => intro w_ hSw; (try dsimp only at hSw); go_simp; (try (with_reducible rfl))
    try simp only [Act.put, List.setIfInBounds_toArray, List.set_cons_zero, List.set_cons_succ]
    refine wpAnyH_take (i := 1) (oi := { dst := some 6, op := Op.load 33 (Operand.tmp 3), type := 33, pos := "l4_client.go:38", after := #[], guard := none }) (v := ?v57) rfl (by kernel_rfl) (by kernel_rfl) (by kernel_rfl) (fun _ _ _ h => h) (Or.inl ⟨by rfl, ?y57⟩) (by assumption) ?r57
    case y57 => intro w_ hSw; (try dsimp only at hSw); go_simp; (try (with_reducible rfl))
    try simp only [Act.put, List.setIfInBounds_toArray, List.set_cons_zero, List.set_cons_succ]
    refine wpAnyH_take (i := 3) (oi := { dst := some 8, op := Op.fieldAddr 33 (Operand.tmp 3) 1, type := 0, pos := "l4_client.go:38", after := #[], guard := none }) (v := ?v58) rfl (by kernel_rfl) (by kernel_rfl) (by kernel_rfl) (fun _ _ _ h => h) (Or.inl ⟨by rfl, ?y58⟩) (by assumption) ?r58
    case y58 => intro w_ hSw; (try dsimp only at hSw); go_simp; (try (with_reducible rfl))
    try simp only [Act.put, List.setIfInBounds_toArray, List.set_cons_zero, List.set_cons_succ]
    refine wpAnyH_take (i := 4) (oi := { dst := some 9, op := Op.load 31 (Operand.tmp 8), type := 31, pos := "l4_client.go:38", after := #[{ on := 3, ground := Ground.data }], guard := none }) (v := ?v59) rfl (by kernel_rfl) (by kernel_rfl) (by kernel_rfl) (fun _ _ _ h => h) (Or.inl ⟨by rfl, ?y59⟩) (by assumption) ?r59
    case y59 => intro w_ hSw; (try dsimp only at hSw); go_simp; (try (with_reducible rfl))
    try simp only [Act.put, List.setIfInBounds_toArray, List.set_cons_zero, List.set_cons_succ]
    refine wpAnyH_take (i := 5) (oi := { dst := some 10, op := Op.call { callee := Callee.builtin Builtin.len, args := #[Operand.tmp 9], argTypes := #[31] }, type := 3, pos := "l4_client.go:38", after := #[{ on := 4, ground := Ground.data }], guard := none }) (v := ?v60) rfl (by kernel_rfl) (by kernel_rfl) (by kernel_rfl) (fun _ _ _ h => h) (Or.inl ⟨by rfl, ?y60⟩) (by assumption) ?r60
    case y60 => intro w_ hSw; (try dsimp only at hSw); go_simp; (try (with_reducible rfl))
    try simp only [Act.put, List.setIfInBounds_toArray, List.set_cons_zero, List.set_cons_succ]
    refine wpAnyH_ready (rs := [2, 6]) (by kernel_rfl) (by simp) ?_
    refine AllReadyH.cons (o := { dst := some 7, op := Op.call { callee := Callee.value (Operand.func 112), args := #[Operand.tmp 6], argTypes := #[33] }, type := 33, pos := "l4_client.go:38", after := #[{ on := 1, ground := Ground.data }], guard := none }) rfl (fun K hK => ?k61) (AllReadyH.cons (o := { dst := some 11, op := Op.makeSlice 50 (Operand.tmp 10) (Operand.tmp 10), type := 50, pos := "l4_client.go:38", after := #[{ on := 5, ground := Ground.data }, { on := 5, ground := Ground.data }], guard := none }) rfl (fun K hK => ?k62) AllReadyH.nil)
    case k61 =>
      have hsl2 : w.heap.size ≤ V0.heap.size := (hHeld.2.2.2.2).size
      go_simp
      refine (hcp _ hHeld.2.2.2.2).mono ?_
      rintro e V2 ⟨B0, d0, B1, d1, rfl, ga0, ga1, b2⟩
      refine hK.out _ _ ?h63 (fun hHeld => ?j63)
      case h63 => exact HK.out _ _ b2 hHeld
      clear hK K
      try simp only [Act.put, List.setIfInBounds_toArray, List.set_cons_zero, List.set_cons_succ]
      have U0 := Aside0.mk (Kd.R_lower (base' := w.heap.size) ga0 hsl2)
      have U1 := Aside0.mk (Kd.R_lower (base' := w.heap.size) ga1 hsl2)
      clear ga0 ga1 hsl2
      replace F1 := Aside0.mk (below_blk F1.out b2)
      refine wpAnyH_ready (rs := [6]) (by kernel_rfl) (by simp) ?_
      refine AllReadyH.cons (o := { dst := some 11, op := Op.makeSlice 50 (Operand.tmp 10) (Operand.tmp 10), type := 50, pos := "l4_client.go:38", after := #[{ on := 5, ground := Ground.data }, { on := 5, ground := Ground.data }], guard := none }) rfl (fun K hK => ?k64) AllReadyH.nil
      case k64 =>
        refine Kd.R_make_step (Kd.int .i64) (w0 := w) (w.heap.size) 3 (by rfl) (N := 11) rfl 50 (.tmp 10) (.tmp 10) rfl (m.f1.length : Int) rfl rfl Tryd.underlying50 (.int .i64 0) 8 info3 rfl (by decide) (by omega) (0 : Int) (ok := fun _ => True) (okp := fun _ => True) rfl (fun _ h => h) trivial (by omega) ?aL6 hHeld.2.2.2.2 ?aS6 ?_
        case aL6 => (rw [Int.toNat_natCast]; omega)
        case aS6 => exact (hHeld.2.2.2.2).size
        intro v6 V6 ho hb hg hat
        rw [Int.toNat_natCast, ← HRS.out] at ho
        have b6 : Below V2.heap.size V2 V6 := ⟨hg.os, hg.tape, hg.output, hg.size, fun k hk => hg.block k hk (fun e => by cases e)⟩
        obtain ⟨B2, d2, hv6⟩ := Kd.R_slice ho
        subst hv6
        clear hg hat hb
        refine hK.out _ _ ?h65 (fun hHeld => ?j65)
        case h65 => exact HK.out _ _ b6 hHeld
        clear hK K
        try simp only [Act.put, List.setIfInBounds_toArray, List.set_cons_zero, List.set_cons_succ]
        have U2 := Aside0.mk ho
        clear ho
        replace F1 := Aside0.mk (below_blk F1.out b6)
        replace U0 := Aside0.mk (Kd.R_below U0.out b6)
        replace U1 := Aside0.mk (Kd.R_below U1.out b6)
        refine wpAnyH_take (i := 7) (oi := { dst := some 12, op := Op.build 52 #[(0, Operand.tmp 5), (1, Operand.tmp 7), (4, Operand.tmp 11)], type := 52, pos := "l4_client.go:38", after := #[{ on := 0, ground := Ground.data }, { on := 2, ground := Ground.data }, { on := 6, ground := Ground.data }], guard := none }) (v := ?v66) rfl (by kernel_rfl) (by kernel_rfl) (by kernel_rfl) (fun _ _ _ h => h) (Or.inl ⟨by rfl, ?y66⟩) (by assumption) ?r66
        case y66 => intro w_ hSw; (try dsimp only at hSw); go_simp; (try (with_reducible rfl))
        try simp only [Act.put, List.setIfInBounds_toArray, List.set_cons_zero, List.set_cons_succ]
        refine wpAnyH_ready (rs := [8]) (by kernel_rfl) (by simp) ?_
        refine AllReadyH.cons (o := { dst := none, op := Op.store 52 (Operand.tmp 4) (Operand.tmp 12), type := 0, pos := "l4_client.go:38", after := #[{ on := 7, ground := Ground.data }, { on := 2, ground := Ground.chain }, { on := 0, ground := Ground.phase }, { on := 1, ground := Ground.phase }, { on := 2, ground := Ground.phase }, { on := 3, ground := Ground.phase }, { on := 4, ground := Ground.phase }, { on := 5, ground := Ground.phase }, { on := 6, ground := Ground.phase }, { on := 7, ground := Ground.phase }], guard := none }) rfl (fun K hK => ?k67) AllReadyH.nil
        case k67 =>
          have hb7 := F1.out
          have v0_ : V6.cell? ⟨w.heap.size + 1, 0, none⟩ = some (.string ⟨#[]⟩) := by simp [World.cell?, hb7]
          have v1_ : V6.cell? ⟨w.heap.size + 1, 1, none⟩ = some (.string ⟨#[]⟩) := by simp [World.cell?, hb7]
          have v2_ : V6.cell? ⟨w.heap.size + 1, 2, none⟩ = some (.string ⟨#[]⟩) := by simp [World.cell?, hb7]
          have v3_ : V6.cell? ⟨w.heap.size + 1, 3, none⟩ = some (.slice none 0 0) := by simp [World.cell?, hb7]
          have v4_ : V6.cell? ⟨w.heap.size + 1, 4, none⟩ = some (.slice none 0 0) := by simp [World.cell?, hb7]
          have v5_ : V6.cell? ⟨w.heap.size + 1, 5, none⟩ = some (.int .i64 0) := by simp [World.cell?, hb7]
          have v6_ : V6.cell? ⟨w.heap.size + 1, 6, none⟩ = some (.int .i64 0) := by simp [World.cell?, hb7]
          have v7_ : V6.cell? ⟨w.heap.size + 1, 7, none⟩ = some (.slice none 0 0) := by simp [World.cell?, hb7]
          have u0_ : V6.frozen? ⟨w.heap.size + 1, 0, none⟩ = false := by simp [World.frozen?, hb7]
          have u1_ : V6.frozen? ⟨w.heap.size + 1, 1, none⟩ = false := by simp [World.frozen?, hb7]
          have u2_ : V6.frozen? ⟨w.heap.size + 1, 2, none⟩ = false := by simp [World.frozen?, hb7]
          have u3_ : V6.frozen? ⟨w.heap.size + 1, 3, none⟩ = false := by simp [World.frozen?, hb7]
          have u4_ : V6.frozen? ⟨w.heap.size + 1, 4, none⟩ = false := by simp [World.frozen?, hb7]
          have u5_ : V6.frozen? ⟨w.heap.size + 1, 5, none⟩ = false := by simp [World.frozen?, hb7]
          have u6_ : V6.frozen? ⟨w.heap.size + 1, 6, none⟩ = false := by simp [World.frozen?, hb7]
          have u7_ : V6.frozen? ⟨w.heap.size + 1, 7, none⟩ = false := by simp [World.frozen?, hb7]
          go_simp
          generalize hV8 : World.setCell (World.setCell (World.setCell (World.setCell (World.setCell (World.setCell (World.setCell (World.setCell V6 ⟨w.heap.size + 1, 0, none⟩ _) ⟨w.heap.size + 1, 1, none⟩ _) ⟨w.heap.size + 1, 2, none⟩ _) ⟨w.heap.size + 1, 3, none⟩ _) ⟨w.heap.size + 1, 4, none⟩ _) ⟨w.heap.size + 1, 5, none⟩ _) ⟨w.heap.size + 1, 6, none⟩ _) ⟨w.heap.size + 1, 7, none⟩ _ = V8
          have G8 : V6.grownBy V8 (some (w.heap.size + 1)) := by rw [← hV8]; exact (((((((grown_set1 _ _ _ _).trans (grown_set1 _ _ _ _)).trans (grown_set1 _ _ _ _)).trans (grown_set1 _ _ _ _)).trans (grown_set1 _ _ _ _)).trans (grown_set1 _ _ _ _)).trans (grown_set1 _ _ _ _)).trans (grown_set1 _ _ _ _)
          have FF : V8.heap[w.heap.size + 1]? = some (.cells #[.string nm, .string m.f0.f0, .string m.f0.f1, .slice B0 m.f1.length d0, .slice B1 m.f2.length d1, .int .i64 0, .int .i64 0, .slice B2 rs.length d2] 52 (0, 0)) := by rw [← hV8, blk_set1 (blk_set1 (blk_set1 (blk_set1 (blk_set1 (blk_set1 (blk_set1 (blk_set1 (F1.out) 0 _) 1 _) 2 _) 3 _) 4 _) 5 _) 6 _) 7 _]; simp
          have BB : Below w.heap.size w V8 := by rw [← hV8]; exact (bel_set (bel_set (bel_set (bel_set (bel_set (bel_set (bel_set (bel_set hHeld.2.2.2.2 _ (by show w.heap.size ≤ w.heap.size + 1; omega)) _ (by show w.heap.size ≤ w.heap.size + 1; omega)) _ (by show w.heap.size ≤ w.heap.size + 1; omega)) _ (by show w.heap.size ≤ w.heap.size + 1; omega)) _ (by show w.heap.size ≤ w.heap.size + 1; omega)) _ (by show w.heap.size ≤ w.heap.size + 1; omega)) _ (by show w.heap.size ≤ w.heap.size + 1; omega)) _ (by show w.heap.size ≤ w.heap.size + 1; omega))
          clear hV8
          refine hK.out _ _ ?h68 (fun hHeld => ?j68)
          case h68 => exact ⟨(World.cell?_of_block (G8.block _ (World.block_lt_of_cell? _ _ hHeld.1) (fun e => by have e := Option.some.inj e; (try dsimp only at e); omega))).trans hHeld.1, (World.cell?_of_block (G8.block _ (World.block_lt_of_cell? _ _ hHeld.2.1) (fun e => by have e := Option.some.inj e; (try dsimp only at e); omega))).trans hHeld.2.1, (World.cell?_of_block (G8.block _ (World.block_lt_of_cell? _ _ hHeld.2.2.1) (fun e => by have e := Option.some.inj e; (try dsimp only at e); omega))).trans hHeld.2.2.1, (World.cell?_of_block (G8.block _ (World.block_lt_of_cell? _ _ hHeld.2.2.2.1) (fun e => by have e := Option.some.inj e; (try dsimp only at e); omega))).trans hHeld.2.2.2.1, BB⟩
          clear hK K
          try simp only [Act.put, List.setIfInBounds_toArray, List.set_cons_zero, List.set_cons_succ]
          replace U0 := Aside0.mk (R_else U0.out rfl G8 (Kd.R_ne U0.out F1.out (by decide)))
          replace U1 := Aside0.mk (R_else U1.out rfl G8 (Kd.R_ne U1.out F1.out (by decide)))
          replace U2 := Aside0.mk (R_else U2.out rfl G8 (Kd.R_ne U2.out F1.out (by decide)))
          replace F1 := Aside0.mk FF
          clear FF
          refine wpAnyH_done (by kernel_rfl) ?_ _
          exact HKK.out B0 d0 B1 d1 B2 d2 V8 ⟨hHeld.2.2.2.2, blk_lt F1.out, F1.out, U0.out, U1.out, U2.out⟩
    case k62 =>
      refine Kd.R_make_step (Kd.int .i64) (w0 := w) (w.heap.size) 3 (by rfl) (N := 11) rfl 50 (.tmp 10) (.tmp 10) rfl (m.f1.length : Int) rfl rfl Tryd.underlying50 (.int .i64 0) 8 info3 rfl (by decide) (by omega) (0 : Int) (ok := fun _ => True) (okp := fun _ => True) rfl (fun _ h => h) trivial (by omega) ?aL6 hHeld.2.2.2.2 ?aS6 ?_
      case aL6 => (rw [Int.toNat_natCast]; omega)
      case aS6 => exact (hHeld.2.2.2.2).size
      intro v6 V6 ho hb hg hat
      rw [Int.toNat_natCast, ← HRS.out] at ho
      have b6 : Below V0.heap.size V0 V6 := ⟨hg.os, hg.tape, hg.output, hg.size, fun k hk => hg.block k hk (fun e => by cases e)⟩
      obtain ⟨B2, d2, hv6⟩ := Kd.R_slice ho
      subst hv6
      clear hg hat hb
      refine hK.out _ _ ?h69 (fun hHeld => ?j69)
      case h69 => exact HK.out _ _ b6 hHeld
      clear hK K
      try simp only [Act.put, List.setIfInBounds_toArray, List.set_cons_zero, List.set_cons_succ]
      have U2 := Aside0.mk ho
      clear ho
      replace F1 := Aside0.mk (below_blk F1.out b6)
      refine wpAnyH_ready (rs := [2]) (by kernel_rfl) (by simp) ?_
      refine AllReadyH.cons (o := { dst := some 7, op := Op.call { callee := Callee.value (Operand.func 112), args := #[Operand.tmp 6], argTypes := #[33] }, type := 33, pos := "l4_client.go:38", after := #[{ on := 1, ground := Ground.data }], guard := none }) rfl (fun K hK => ?k70) AllReadyH.nil
      case k70 =>
        have hsl2 : w.heap.size ≤ V6.heap.size := (hHeld.2.2.2.2).size
        go_simp
        refine (hcp _ hHeld.2.2.2.2).mono ?_
        rintro e V2 ⟨B0, d0, B1, d1, rfl, ga0, ga1, b2⟩
        refine hK.out _ _ ?h71 (fun hHeld => ?j71)
        case h71 => exact HK.out _ _ b2 hHeld
        clear hK K
        try simp only [Act.put, List.setIfInBounds_toArray, List.set_cons_zero, List.set_cons_succ]
        have U0 := Aside0.mk (Kd.R_lower (base' := w.heap.size) ga0 hsl2)
        have U1 := Aside0.mk (Kd.R_lower (base' := w.heap.size) ga1 hsl2)
        clear ga0 ga1 hsl2
        replace F1 := Aside0.mk (below_blk F1.out b2)
        replace U2 := Aside0.mk (Kd.R_below U2.out b2)
        refine wpAnyH_take (i := 7) (oi := { dst := some 12, op := Op.build 52 #[(0, Operand.tmp 5), (1, Operand.tmp 7), (4, Operand.tmp 11)], type := 52, pos := "l4_client.go:38", after := #[{ on := 0, ground := Ground.data }, { on := 2, ground := Ground.data }, { on := 6, ground := Ground.data }], guard := none }) (v := ?v72) rfl (by kernel_rfl) (by kernel_rfl) (by kernel_rfl) (fun _ _ _ h => h) (Or.inl ⟨by rfl, ?y72⟩) (by assumption) ?r72
        case y72 => intro w_ hSw; (try dsimp only at hSw); go_simp; (try (with_reducible rfl))
        try simp only [Act.put, List.setIfInBounds_toArray, List.set_cons_zero, List.set_cons_succ]
        refine wpAnyH_ready (rs := [8]) (by kernel_rfl) (by simp) ?_
        refine AllReadyH.cons (o := { dst := none, op := Op.store 52 (Operand.tmp 4) (Operand.tmp 12), type := 0, pos := "l4_client.go:38", after := #[{ on := 7, ground := Ground.data }, { on := 2, ground := Ground.chain }, { on := 0, ground := Ground.phase }, { on := 1, ground := Ground.phase }, { on := 2, ground := Ground.phase }, { on := 3, ground := Ground.phase }, { on := 4, ground := Ground.phase }, { on := 5, ground := Ground.phase }, { on := 6, ground := Ground.phase }, { on := 7, ground := Ground.phase }], guard := none }) rfl (fun K hK => ?k73) AllReadyH.nil
        case k73 =>
          have hb7 := F1.out
          have v0_ : V2.cell? ⟨w.heap.size + 1, 0, none⟩ = some (.string ⟨#[]⟩) := by simp [World.cell?, hb7]
          have v1_ : V2.cell? ⟨w.heap.size + 1, 1, none⟩ = some (.string ⟨#[]⟩) := by simp [World.cell?, hb7]
          have v2_ : V2.cell? ⟨w.heap.size + 1, 2, none⟩ = some (.string ⟨#[]⟩) := by simp [World.cell?, hb7]
          have v3_ : V2.cell? ⟨w.heap.size + 1, 3, none⟩ = some (.slice none 0 0) := by simp [World.cell?, hb7]
          have v4_ : V2.cell? ⟨w.heap.size + 1, 4, none⟩ = some (.slice none 0 0) := by simp [World.cell?, hb7]
          have v5_ : V2.cell? ⟨w.heap.size + 1, 5, none⟩ = some (.int .i64 0) := by simp [World.cell?, hb7]
          have v6_ : V2.cell? ⟨w.heap.size + 1, 6, none⟩ = some (.int .i64 0) := by simp [World.cell?, hb7]
          have v7_ : V2.cell? ⟨w.heap.size + 1, 7, none⟩ = some (.slice none 0 0) := by simp [World.cell?, hb7]
          have u0_ : V2.frozen? ⟨w.heap.size + 1, 0, none⟩ = false := by simp [World.frozen?, hb7]
          have u1_ : V2.frozen? ⟨w.heap.size + 1, 1, none⟩ = false := by simp [World.frozen?, hb7]
          have u2_ : V2.frozen? ⟨w.heap.size + 1, 2, none⟩ = false := by simp [World.frozen?, hb7]
          have u3_ : V2.frozen? ⟨w.heap.size + 1, 3, none⟩ = false := by simp [World.frozen?, hb7]
          have u4_ : V2.frozen? ⟨w.heap.size + 1, 4, none⟩ = false := by simp [World.frozen?, hb7]
          have u5_ : V2.frozen? ⟨w.heap.size + 1, 5, none⟩ = false := by simp [World.frozen?, hb7]
          have u6_ : V2.frozen? ⟨w.heap.size + 1, 6, none⟩ = false := by simp [World.frozen?, hb7]
          have u7_ : V2.frozen? ⟨w.heap.size + 1, 7, none⟩ = false := by simp [World.frozen?, hb7]
          go_simp
          generalize hV8 : World.setCell (World.setCell (World.setCell (World.setCell (World.setCell (World.setCell (World.setCell (World.setCell V2 ⟨w.heap.size + 1, 0, none⟩ _) ⟨w.heap.size + 1, 1, none⟩ _) ⟨w.heap.size + 1, 2, none⟩ _) ⟨w.heap.size + 1, 3, none⟩ _) ⟨w.heap.size + 1, 4, none⟩ _) ⟨w.heap.size + 1, 5, none⟩ _) ⟨w.heap.size + 1, 6, none⟩ _) ⟨w.heap.size + 1, 7, none⟩ _ = V8
          have G8 : V2.grownBy V8 (some (w.heap.size + 1)) := by rw [← hV8]; exact (((((((grown_set1 _ _ _ _).trans (grown_set1 _ _ _ _)).trans (grown_set1 _ _ _ _)).trans (grown_set1 _ _ _ _)).trans (grown_set1 _ _ _ _)).trans (grown_set1 _ _ _ _)).trans (grown_set1 _ _ _ _)).trans (grown_set1 _ _ _ _)
          have FF : V8.heap[w.heap.size + 1]? = some (.cells #[.string nm, .string m.f0.f0, .string m.f0.f1, .slice B0 m.f1.length d0, .slice B1 m.f2.length d1, .int .i64 0, .int .i64 0, .slice B2 rs.length d2] 52 (0, 0)) := by rw [← hV8, blk_set1 (blk_set1 (blk_set1 (blk_set1 (blk_set1 (blk_set1 (blk_set1 (blk_set1 (F1.out) 0 _) 1 _) 2 _) 3 _) 4 _) 5 _) 6 _) 7 _]; simp
          have BB : Below w.heap.size w V8 := by rw [← hV8]; exact (bel_set (bel_set (bel_set (bel_set (bel_set (bel_set (bel_set (bel_set hHeld.2.2.2.2 _ (by show w.heap.size ≤ w.heap.size + 1; omega)) _ (by show w.heap.size ≤ w.heap.size + 1; omega)) _ (by show w.heap.size ≤ w.heap.size + 1; omega)) _ (by show w.heap.size ≤ w.heap.size + 1; omega)) _ (by show w.heap.size ≤ w.heap.size + 1; omega)) _ (by show w.heap.size ≤ w.heap.size + 1; omega)) _ (by show w.heap.size ≤ w.heap.size + 1; omega)) _ (by show w.heap.size ≤ w.heap.size + 1; omega))
          clear hV8
          refine hK.out _ _ ?h74 (fun hHeld => ?j74)
          case h74 => exact ⟨(World.cell?_of_block (G8.block _ (World.block_lt_of_cell? _ _ hHeld.1) (fun e => by have e := Option.some.inj e; (try dsimp only at e); omega))).trans hHeld.1, (World.cell?_of_block (G8.block _ (World.block_lt_of_cell? _ _ hHeld.2.1) (fun e => by have e := Option.some.inj e; (try dsimp only at e); omega))).trans hHeld.2.1, (World.cell?_of_block (G8.block _ (World.block_lt_of_cell? _ _ hHeld.2.2.1) (fun e => by have e := Option.some.inj e; (try dsimp only at e); omega))).trans hHeld.2.2.1, (World.cell?_of_block (G8.block _ (World.block_lt_of_cell? _ _ hHeld.2.2.2.1) (fun e => by have e := Option.some.inj e; (try dsimp only at e); omega))).trans hHeld.2.2.2.1, BB⟩
          clear hK K
          try simp only [Act.put, List.setIfInBounds_toArray, List.set_cons_zero, List.set_cons_succ]
          replace U0 := Aside0.mk (R_else U0.out rfl G8 (Kd.R_ne U0.out F1.out (by decide)))
          replace U1 := Aside0.mk (R_else U1.out rfl G8 (Kd.R_ne U1.out F1.out (by decide)))
          replace U2 := Aside0.mk (R_else U2.out rfl G8 (Kd.R_ne U2.out F1.out (by decide)))
          replace F1 := Aside0.mk FF
          clear FF
          refine wpAnyH_done (by kernel_rfl) ?_ _
          exact HKK.out B0 d0 B1 d1 B2 d2 V8 ⟨hHeld.2.2.2.2, blk_lt F1.out, F1.out, U0.out, U1.out, U2.out⟩
  case hk =>
    intro B0 d0 B1 d1 B2 d2 V ⟨BV, sV, f2, u0, u1, u2⟩
    clear HST HK HF0 HF1 join
    have U0 := Aside0.mk u0
    have U1 := Aside0.mk u1
    have U2 := Aside0.mk u2
    have F1 := Aside0.mk f2
    have BW := Aside0.mk BV
    clear u0 u1 u2 f2 BV
    have m0_ : V.cell? ⟨w.heap.size + 1, 0, none⟩ = some (.string nm) := by simp [World.cell?, F1.out]
    have m1_ : V.cell? ⟨w.heap.size + 1, 1, none⟩ = some (.string m.f0.f0) := by simp [World.cell?, F1.out]
    have m2_ : V.cell? ⟨w.heap.size + 1, 2, none⟩ = some (.string m.f0.f1) := by simp [World.cell?, F1.out]
    have m3_ : V.cell? ⟨w.heap.size + 1, 3, none⟩ = some (.slice B0 m.f1.length d0) := by simp [World.cell?, F1.out]
    have m4_ : V.cell? ⟨w.heap.size + 1, 4, none⟩ = some (.slice B1 m.f2.length d1) := by simp [World.cell?, F1.out]
    have m5_ : V.cell? ⟨w.heap.size + 1, 5, none⟩ = some (.int .i64 0) := by simp [World.cell?, F1.out]
    have m6_ : V.cell? ⟨w.heap.size + 1, 6, none⟩ = some (.int .i64 0) := by simp [World.cell?, F1.out]
    have m7_ : V.cell? ⟨w.heap.size + 1, 7, none⟩ = some (.slice B2 rs.length d2) := by simp [World.cell?, F1.out]
    go_wp2
    refine bodyPost_ret (v := .agg #[.string nm, .string m.f0.f0, .string m.f0.f1, .slice B0 m.f1.length d0, .slice B1 m.f2.length d1, .int .i64 0, .int .i64 0, .slice B2 rs.length d2]) ?hrB rfl ?hpB
    case hrB => simp [results, Tryd.results65, go_sem, m0_, m1_, m2_, m3_, m4_, m5_, m6_, m7_]
    case hpB => exact ⟨B0, d0, B1, d1, B2, d2, rfl, U0.out, U1.out, U2.out, BW.out⟩

end Go.Proofs.YtejiifmopopflaaDoor
