/- New clients, of the program and of the reference: contracts. -/
import Derived.Test.YtejiifmopopflaaDoorCliI
import Derived.Test.YtejiifmopopflaaDoorCopyS
import Derived.Test.YtejiifmopopflaaDoorSpecC
namespace Go.Proofs.YtejiifmopopflaaDoor
open Go.RowKit Go.Proofs.YtejiifmopopflaaDoorW.PrintWords
set_option linter.unusedVariables false
set_option linter.unusedSimpArgs false

def cliNewOk (nm : ByteArray) (m : SMail) : Bool := dom nm.data.toList && mailOkS m
def cliB (nm : ByteArray) (m : SMail) : SCli := ⟨nm, m, 0, 0, List.replicate m.f1.length 0⟩
def cliNew (nm : ByteArray) (m : SMail) : SCli := if cliNewOk nm m then cliB nm m else zCli
theorem cliOk_new (nm : ByteArray) (m : SMail) : cliOk (cliB nm m) = cliNewOk nm m := by
  have h : (List.replicate m.f1.length (0 : Int)).all outOk = true := by
    rw [List.all_eq_true]
    intro x hx
    rw [List.eq_of_mem_replicate hx]
    decide
  unfold cliOk cliNewOk cliB
  simp only [h, List.length_replicate]
  cases dom nm.data.toList <;> cases mailOkS m <;> simp
theorem cliB_fit {nm : ByteArray} {m : SMail} (hn : nm.size ≤ 1048576) (hm : fitMail m) : fitCli (cliB nm m) :=
  ⟨hn, hm, by show (Lit.int .i64 0).wf = true; decide, by show (Lit.int .i64 0).wf = true; decide, by show (List.replicate m.f1.length (0 : Int)).length ≤ 1048576; rw [List.length_replicate]; exact hm.2.1.1, fun y hy => by
    rw [List.eq_of_mem_replicate hy]
    decide⟩

set_option maxRecDepth 100000 in
set_option maxHeartbeats 8000000 in
theorem cliNew_any (nm : ByteArray) (m : SMail) (A0 : Option Addr) (c0 : Nat) (A1 : Option Addr) (c1 : Nat) (w : World) (hn : nm.size ≤ 1048576) (hw : fitMail m) (hr0 : Kd.C kAddr w A0 m.f1.length m.f1) (hr1 : Kd.C Kd.string w A1 m.f2.length m.f2) (hG : Glob w) :
    Calls Tryd.prog 21 #[.string nm, .agg #[.string m.f0.f0, .string m.f0.f1, .slice A0 m.f1.length c0, .slice A1 m.f2.length c1]] w fun e w' => ∃ B0 d0 B1 d1 B2 d2, e = .returned (.agg #[.string (cliNew nm m).f0, .string (cliNew nm m).f1.f0.f0, .string (cliNew nm m).f1.f0.f1, .slice B0 (cliNew nm m).f1.f1.length d0, .slice B1 (cliNew nm m).f1.f2.length d1, .int .i64 (cliNew nm m).f2, .int .i64 (cliNew nm m).f3, .slice B2 (cliNew nm m).f4.length d2]) ∧ Kd.R kAddr 30 w' w.heap.size (fun _ => True) (.slice B0 (cliNew nm m).f1.f1.length d0) (cliNew nm m).f1.f1 ∧ Kd.R Kd.string 9 w' w.heap.size (fun _ => True) (.slice B1 (cliNew nm m).f1.f2.length d1) (cliNew nm m).f1.f2 ∧ Kd.R (Kd.int .i64) 3 w' w.heap.size (fun _ => True) (.slice B2 (cliNew nm m).f4.length d2) (cliNew nm m).f4 ∧ Below w.heap.size w w' := by
  have hcp := fun W (hW : Below w.heap.size w W) => mailCopied_any m A0 c0 A1 c1 W hw (Kd.C_below hr0 hW) (Kd.C_below hr1 hW)
  have hl1 := hw.2.1.1
  have hfit := cliB_fit hn hw
  have hoe := cliOk_new nm m
  have HM := Lib.hid (show cliNew nm m = if cliNewOk nm m then cliB nm m else zCli from rfl)
  unfold cliB at hfit hoe HM
  obtain ⟨rs, hrs⟩ : ∃ rs, rs = List.replicate m.f1.length (0 : Int) := ⟨_, rfl⟩
  rw [← hrs] at hfit hoe HM
  have HRS := Lib.hid hrs
  generalize cliNew nm m = M at HM
  generalize cliNewOk nm m = q at HM hoe
  have HF := Lib.hid hfit
  have HO := Lib.hid hoe
  have HGG := Lib.hid hG
  clear hw hr0 hr1 hrs hfit hoe hG hn
  go_enter Tryd.func21, Tryd.ntmps21
  go_wp2
  obtain ⟨W0, hW0⟩ : ∃ W, W = (w.alloc (.cells #[.string m.f0.f0, .string m.f0.f1, .slice A0 m.f1.length c0, .slice A1 m.f2.length c1] 33)).alloc (.cells #[.string ⟨#[]⟩, .string ⟨#[]⟩, .string ⟨#[]⟩, .slice none 0 0, .slice none 0 0, .int .i64 0, .int .i64 0, .slice none 0 0] 52) := ⟨_, rfl⟩
  rw [← hW0]
  have HF0 : Aside0 (W0.heap[w.heap.size]? = some (.cells #[.string m.f0.f0, .string m.f0.f1, .slice A0 m.f1.length c0, .slice A1 m.f2.length c1] 33 (0, 0))) := ⟨by rw [hW0]; exact below_blk (blk_new _ _) (bel_alloc (Below.refl _ _) _)⟩
  have HF1 : Aside0 (W0.heap[w.heap.size + 1]? = some (.cells #[.string ⟨#[]⟩, .string ⟨#[]⟩, .string ⟨#[]⟩, .slice none 0 0, .slice none 0 0, .int .i64 0, .int .i64 0, .slice none 0 0] 52 (0, 0))) := ⟨by rw [hW0, show w.heap.size + 1 = (w.alloc (.cells #[.string m.f0.f0, .string m.f0.f1, .slice A0 m.f1.length c0, .slice A1 m.f2.length c1] 33)).heap.size by simp]; exact blk_new _ _⟩
  have B0 : Below w.heap.size w W0 := by rw [hW0]; exact bel_alloc (bel_alloc (Below.refl _ _) _) _
  clear hW0
  have join : Hid (∀ {goal : Prop} {G : Option Addr → Nat → Option Addr → Nat → Option Addr → Nat → Nat → World → Prop} (rg : Hid (∀ (B0 : Option Addr) (d0 : Nat) (B1 : Option Addr) (d1 : Nat) (B2 : Option Addr) (d2 : Nat) (g : Nat) (V : World), Below w.heap.size w V ∧ w.heap.size + 1 < V.heap.size ∧ V.heap[g]? = some (.cells #[.string nm, .string m.f0.f0, .string m.f0.f1, .slice B0 m.f1.length d0, .slice B1 m.f2.length d1, .int .i64 0, .int .i64 0, .slice B2 rs.length d2] 52 (0, 0)) ∧ Kd.R kAddr 30 V w.heap.size (fun _ => True) (.slice B0 m.f1.length d0) m.f1 ∧ Kd.R Kd.string 9 V w.heap.size (fun _ => True) (.slice B1 m.f2.length d1) m.f2 ∧ Kd.R (Kd.int .i64) 3 V w.heap.size (fun _ => True) (.slice B2 rs.length d2) rs ∧ w.heap.size + 1 < g ∧ V.heap[w.heap.size + 1]? = some (.cells #[.string ⟨#[]⟩, .string ⟨#[]⟩, .string ⟨#[]⟩, .slice none 0 0, .slice none 0 0, .int .i64 0, .int .i64 0, .slice none 0 0] 52 (0, 0)) → G B0 d0 B1 d1 B2 d2 g V) → goal) (hk : ∀ (B0 : Option Addr) (d0 : Nat) (B1 : Option Addr) (d1 : Nat) (B2 : Option Addr) (d2 : Nat) (g : Nat) (V : World), Below w.heap.size w V ∧ w.heap.size + 1 < V.heap.size ∧ V.heap[g]? = some (.cells #[.string nm, .string m.f0.f0, .string m.f0.f1, .slice B0 m.f1.length d0, .slice B1 m.f2.length d1, .int .i64 0, .int .i64 0, .slice B2 rs.length d2] 52 (0, 0)) ∧ Kd.R kAddr 30 V w.heap.size (fun _ => True) (.slice B0 m.f1.length d0) m.f1 ∧ Kd.R Kd.string 9 V w.heap.size (fun _ => True) (.slice B1 m.f2.length d1) m.f2 ∧ Kd.R (Kd.int .i64) 3 V w.heap.size (fun _ => True) (.slice B2 rs.length d2) rs ∧ w.heap.size + 1 < g ∧ V.heap[w.heap.size + 1]? = some (.cells #[.string ⟨#[]⟩, .string ⟨#[]⟩, .string ⟨#[]⟩, .slice none 0 0, .slice none 0 0, .int .i64 0, .int .i64 0, .slice none 0 0] 52 (0, 0)) → G B0 d0 B1 d1 B2 d2 g V), goal) := Lib.hid (fun f h => f (Lib.hid h))
  have HK : Aside0 (∀ W W1, Below W.heap.size W W1 → (W.cell? ⟨w.heap.size, 0, none⟩ = some (.string m.f0.f0) ∧ W.cell? ⟨w.heap.size, 1, none⟩ = some (.string m.f0.f1) ∧ W.cell? ⟨w.heap.size, 2, none⟩ = some (.slice A0 m.f1.length c0) ∧ W.cell? ⟨w.heap.size, 3, none⟩ = some (.slice A1 m.f2.length c1) ∧ Below w.heap.size w W) → (W1.cell? ⟨w.heap.size, 0, none⟩ = some (.string m.f0.f0) ∧ W1.cell? ⟨w.heap.size, 1, none⟩ = some (.string m.f0.f1) ∧ W1.cell? ⟨w.heap.size, 2, none⟩ = some (.slice A0 m.f1.length c0) ∧ W1.cell? ⟨w.heap.size, 3, none⟩ = some (.slice A1 m.f2.length c1) ∧ Below w.heap.size w W1)) := ⟨fun W W1 hb h => ⟨(hb.cell (World.block_lt_of_cell? W _ (h.1))).trans (h.1), (hb.cell (World.block_lt_of_cell? W _ (h.2.1))).trans (h.2.1), (hb.cell (World.block_lt_of_cell? W _ (h.2.2.1))).trans (h.2.2.1), (hb.cell (World.block_lt_of_cell? W _ (h.2.2.2.1))).trans (h.2.2.2.1), bel_then (h.2.2.2.2) hb⟩⟩
  have x0_ : W0.cell? ⟨w.heap.size, 0, none⟩ = some (.string m.f0.f0) := by simp [World.cell?, HF0.out]
  have x1_ : W0.cell? ⟨w.heap.size, 1, none⟩ = some (.string m.f0.f1) := by simp [World.cell?, HF0.out]
  have x2_ : W0.cell? ⟨w.heap.size, 2, none⟩ = some (.slice A0 m.f1.length c0) := by simp [World.cell?, HF0.out]
  have x3_ : W0.cell? ⟨w.heap.size, 3, none⟩ = some (.slice A1 m.f2.length c1) := by simp [World.cell?, HF0.out]
  have HST : Aside0 ((fun W => W.cell? ⟨w.heap.size, 0, none⟩ = some (.string m.f0.f0) ∧ W.cell? ⟨w.heap.size, 1, none⟩ = some (.string m.f0.f1) ∧ W.cell? ⟨w.heap.size, 2, none⟩ = some (.slice A0 m.f1.length c0) ∧ W.cell? ⟨w.heap.size, 3, none⟩ = some (.slice A1 m.f2.length c1) ∧ Below w.heap.size w W) W0.drew) := ⟨⟨x0_, x1_, x2_, x3_, bel_then B0 (drew_below0 W0)⟩⟩
  clear B0 x0_ x1_ x2_ x3_
  apply join.out
  case rg =>
    intro HKK
    refine wp_region_held_drew (S := (fun W => W.cell? ⟨w.heap.size, 0, none⟩ = some (.string m.f0.f0) ∧ W.cell? ⟨w.heap.size, 1, none⟩ = some (.string m.f0.f1) ∧ W.cell? ⟨w.heap.size, 2, none⟩ = some (.slice A0 m.f1.length c0) ∧ W.cell? ⟨w.heap.size, 3, none⟩ = some (.slice A1 m.f2.length c1) ∧ Below w.heap.size w W)) (by kernel_rfl) ?s298 (fun hHeld => ?t298)
    case s298 => exact HST.out
    generalize hV0 : World.drew _ = V0 at hHeld ⊢
    have F1 : Aside0 (V0.heap[w.heap.size + 1]? = some (.cells #[.string ⟨#[]⟩, .string ⟨#[]⟩, .string ⟨#[]⟩, .slice none 0 0, .slice none 0 0, .int .i64 0, .int .i64 0, .slice none 0 0] 52 (0, 0))) := ⟨by rw [← hV0]; exact HF1.out⟩
    clear hV0
    refine wpAnyH_take (i := 0) (oi := { dst := some 6, op := Op.move (Operand.tmp 0), type := 9, pos := "l4_client.go:58", after := #[], guard := none }) (v := ?v299) rfl (by kernel_rfl) (by kernel_rfl) (by kernel_rfl) (fun _ _ _ h => h) (Or.inl ⟨by rfl, ?y299⟩) (by assumption) ?r299
    case y299 => intro w_ hSw; (try dsimp only at hSw); go_simp; (try (with_reducible rfl))
    try simp only [Act.put, List.setIfInBounds_toArray, List.set_cons_zero, List.set_cons_succ]
    refine wpAnyH_take (i := 1) (oi := { dst := some 7, op := Op.load 33 (Operand.tmp 3), type := 33, pos := "l4_client.go:58", after := #[], guard := none }) (v := ?v300) rfl (by kernel_rfl) (by kernel_rfl) (by kernel_rfl) (fun _ _ _ h => h) (Or.inl ⟨by rfl, ?y300⟩) (by assumption) ?r300
    case y300 => intro w_ hSw; (try dsimp only at hSw); go_simp; (try (with_reducible rfl))
    try simp only [Act.put, List.setIfInBounds_toArray, List.set_cons_zero, List.set_cons_succ]
    refine wpAnyH_take (i := 3) (oi := { dst := some 9, op := Op.fieldAddr 33 (Operand.tmp 3) 1, type := 0, pos := "l4_client.go:58", after := #[], guard := none }) (v := ?v301) rfl (by kernel_rfl) (by kernel_rfl) (by kernel_rfl) (fun _ _ _ h => h) (Or.inl ⟨by rfl, ?y301⟩) (by assumption) ?r301
    case y301 => intro w_ hSw; (try dsimp only at hSw); go_simp; (try (with_reducible rfl))
    try simp only [Act.put, List.setIfInBounds_toArray, List.set_cons_zero, List.set_cons_succ]
    refine wpAnyH_take (i := 4) (oi := { dst := some 10, op := Op.load 31 (Operand.tmp 9), type := 31, pos := "l4_client.go:58", after := #[{ on := 3, ground := Ground.data }], guard := none }) (v := ?v302) rfl (by kernel_rfl) (by kernel_rfl) (by kernel_rfl) (fun _ _ _ h => h) (Or.inl ⟨by rfl, ?y302⟩) (by assumption) ?r302
    case y302 => intro w_ hSw; (try dsimp only at hSw); go_simp; (try (with_reducible rfl))
    try simp only [Act.put, List.setIfInBounds_toArray, List.set_cons_zero, List.set_cons_succ]
    refine wpAnyH_take (i := 5) (oi := { dst := some 11, op := Op.call { callee := Callee.builtin Builtin.len, args := #[Operand.tmp 10], argTypes := #[31] }, type := 3, pos := "l4_client.go:58", after := #[{ on := 4, ground := Ground.data }], guard := none }) (v := ?v303) rfl (by kernel_rfl) (by kernel_rfl) (by kernel_rfl) (fun _ _ _ h => h) (Or.inl ⟨by rfl, ?y303⟩) (by assumption) ?r303
    case y303 => intro w_ hSw; (try dsimp only at hSw); go_simp; (try (with_reducible rfl))
    try simp only [Act.put, List.setIfInBounds_toArray, List.set_cons_zero, List.set_cons_succ]
    refine wpAnyH_ready (rs := [2, 6, 8]) (by kernel_rfl) (by simp) ?_
    refine AllReadyH.cons (o := { dst := some 8, op := Op.call { callee := Callee.value (Operand.func 67), args := #[Operand.tmp 7], argTypes := #[33] }, type := 33, pos := "l4_client.go:58", after := #[{ on := 1, ground := Ground.data }], guard := none }) rfl (fun K hK => ?k304) (AllReadyH.cons (o := { dst := some 12, op := Op.makeSlice 50 (Operand.tmp 11) (Operand.tmp 11), type := 50, pos := "l4_client.go:58", after := #[{ on := 5, ground := Ground.data }, { on := 5, ground := Ground.data }], guard := none }) rfl (fun K hK => ?k305) (AllReadyH.cons (o := { dst := some 5, op := Op.alloc 52, type := 0, pos := "l4_client.go:58", after := #[], guard := none }) rfl (fun K hK => ?k306) AllReadyH.nil))
    case k304 =>
      have hsl2 : w.heap.size ≤ V0.heap.size := (hHeld.2.2.2.2).size
      go_simp
      refine (hcp _ hHeld.2.2.2.2).mono ?_
      rintro e V2 ⟨B0, d0, B1, d1, rfl, ga0, ga1, b2⟩
      refine hK.out _ _ ?h307 (fun hHeld => ?j307)
      case h307 => exact HK.out _ _ b2 hHeld
      clear hK K
      try simp only [Act.put, List.setIfInBounds_toArray, List.set_cons_zero, List.set_cons_succ]
      have U0 := Aside0.mk (Kd.R_lower (base' := w.heap.size) ga0 hsl2)
      have U1 := Aside0.mk (Kd.R_lower (base' := w.heap.size) ga1 hsl2)
      clear ga0 ga1 hsl2
      replace F1 := Aside0.mk (below_blk F1.out b2)
      refine wpAnyH_ready (rs := [6, 8]) (by kernel_rfl) (by simp) ?_
      refine AllReadyH.cons (o := { dst := some 12, op := Op.makeSlice 50 (Operand.tmp 11) (Operand.tmp 11), type := 50, pos := "l4_client.go:58", after := #[{ on := 5, ground := Ground.data }, { on := 5, ground := Ground.data }], guard := none }) rfl (fun K hK => ?k308) (AllReadyH.cons (o := { dst := some 5, op := Op.alloc 52, type := 0, pos := "l4_client.go:58", after := #[], guard := none }) rfl (fun K hK => ?k309) AllReadyH.nil)
      case k308 =>
        refine Kd.R_make_step (Kd.int .i64) (w0 := w) (w.heap.size) 3 (by rfl) (N := 12) rfl 50 (.tmp 11) (.tmp 11) rfl (m.f1.length : Int) rfl rfl Tryd.underlying50 (.int .i64 0) 8 info3 rfl (by decide) (by omega) (0 : Int) (ok := fun _ => True) (okp := fun _ => True) rfl (fun _ h => h) trivial (by omega) ?aL6 hHeld.2.2.2.2 ?aS6 ?_
        case aL6 => (rw [Int.toNat_natCast]; omega)
        case aS6 => exact (hHeld.2.2.2.2).size
        intro v6 V6 ho hb hg hat
        rw [Int.toNat_natCast, ← HRS.out] at ho
        have b6 : Below V2.heap.size V2 V6 := ⟨hg.os, hg.tape, hg.output, hg.size, fun k hk => hg.block k hk (fun e => by cases e)⟩
        obtain ⟨B2, d2, hv6⟩ := Kd.R_slice ho
        subst hv6
        clear hg hat hb
        refine hK.out _ _ ?h310 (fun hHeld => ?j310)
        case h310 => exact HK.out _ _ b6 hHeld
        clear hK K
        try simp only [Act.put, List.setIfInBounds_toArray, List.set_cons_zero, List.set_cons_succ]
        have U2 := Aside0.mk ho
        clear ho
        replace F1 := Aside0.mk (below_blk F1.out b6)
        replace U0 := Aside0.mk (Kd.R_below U0.out b6)
        replace U1 := Aside0.mk (Kd.R_below U1.out b6)
        refine wpAnyH_take (i := 7) (oi := { dst := some 13, op := Op.build 52 #[(0, Operand.tmp 6), (1, Operand.tmp 8), (4, Operand.tmp 12)], type := 52, pos := "l4_client.go:58", after := #[{ on := 0, ground := Ground.data }, { on := 2, ground := Ground.data }, { on := 6, ground := Ground.data }], guard := none }) (v := ?v311) rfl (by kernel_rfl) (by kernel_rfl) (by kernel_rfl) (fun _ _ _ h => h) (Or.inl ⟨by rfl, ?y311⟩) (by assumption) ?r311
        case y311 => intro w_ hSw; (try dsimp only at hSw); go_simp; (try (with_reducible rfl))
        try simp only [Act.put, List.setIfInBounds_toArray, List.set_cons_zero, List.set_cons_succ]
        refine wpAnyH_ready (rs := [8]) (by kernel_rfl) (by simp) ?_
        refine AllReadyH.cons (o := { dst := some 5, op := Op.alloc 52, type := 0, pos := "l4_client.go:58", after := #[], guard := none }) rfl (fun K hK => ?k312) AllReadyH.nil
        case k312 =>
          go_simp
          refine hK.out _ _ ?h313 (fun hHeld => ?j313)
          case h313 => exact HK.out _ _ (bel_alloc (Below.refl _ _) _) hHeld
          clear hK K
          try simp only [Act.put, List.setIfInBounds_toArray, List.set_cons_zero, List.set_cons_succ]
          generalize hV8 : World.alloc V6 _ = V8 at hHeld ⊢
          have b8 : Below V6.heap.size V6 V8 := by rw [← hV8]; exact bel_alloc (Below.refl _ _) _
          have z8 : V6.heap.size < V8.heap.size := by rw [← hV8]; simp
          have F2 := Aside0.mk (by rw [← hV8]; exact blk_new _ _ : V8.heap[V6.heap.size]? = some (.cells #[.string ⟨#[]⟩, .string ⟨#[]⟩, .string ⟨#[]⟩, .slice none 0 0, .slice none 0 0, .int .i64 0, .int .i64 0, .slice none 0 0] 52 (0, 0)))
          have lo8 : w.heap.size + 1 < V6.heap.size := blk_lt (below_blk F1.out (Below.refl _ _))
          obtain ⟨g, hg8⟩ : ∃ g, g = V6.heap.size := ⟨_, rfl⟩
          have lg : w.heap.size + 1 < g := by omega
          rw [← hg8] at F2 ⊢
          clear hV8 hg8 z8
          replace F1 := Aside0.mk (below_blk F1.out b8)
          replace U0 := Aside0.mk (Kd.R_below U0.out b8)
          replace U1 := Aside0.mk (Kd.R_below U1.out b8)
          replace U2 := Aside0.mk (Kd.R_below U2.out b8)
          refine wpAnyH_ready (rs := [9]) (by kernel_rfl) (by simp) ?_
          refine AllReadyH.cons (o := { dst := none, op := Op.store 52 (Operand.tmp 5) (Operand.tmp 13), type := 0, pos := "l4_client.go:58", after := #[{ on := 8, ground := Ground.data }, { on := 7, ground := Ground.data }, { on := 2, ground := Ground.chain }, { on := 0, ground := Ground.phase }, { on := 1, ground := Ground.phase }, { on := 2, ground := Ground.phase }, { on := 3, ground := Ground.phase }, { on := 4, ground := Ground.phase }, { on := 5, ground := Ground.phase }, { on := 6, ground := Ground.phase }, { on := 7, ground := Ground.phase }, { on := 8, ground := Ground.phase }], guard := none }) rfl (fun K hK => ?k314) AllReadyH.nil
          case k314 =>
            have hb7 := F2.out
            have v0_ : V8.cell? ⟨g, 0, none⟩ = some (.string ⟨#[]⟩) := by simp [World.cell?, hb7]
            have v1_ : V8.cell? ⟨g, 1, none⟩ = some (.string ⟨#[]⟩) := by simp [World.cell?, hb7]
            have v2_ : V8.cell? ⟨g, 2, none⟩ = some (.string ⟨#[]⟩) := by simp [World.cell?, hb7]
            have v3_ : V8.cell? ⟨g, 3, none⟩ = some (.slice none 0 0) := by simp [World.cell?, hb7]
            have v4_ : V8.cell? ⟨g, 4, none⟩ = some (.slice none 0 0) := by simp [World.cell?, hb7]
            have v5_ : V8.cell? ⟨g, 5, none⟩ = some (.int .i64 0) := by simp [World.cell?, hb7]
            have v6_ : V8.cell? ⟨g, 6, none⟩ = some (.int .i64 0) := by simp [World.cell?, hb7]
            have v7_ : V8.cell? ⟨g, 7, none⟩ = some (.slice none 0 0) := by simp [World.cell?, hb7]
            have u0_ : V8.frozen? ⟨g, 0, none⟩ = false := by simp [World.frozen?, hb7]
            have u1_ : V8.frozen? ⟨g, 1, none⟩ = false := by simp [World.frozen?, hb7]
            have u2_ : V8.frozen? ⟨g, 2, none⟩ = false := by simp [World.frozen?, hb7]
            have u3_ : V8.frozen? ⟨g, 3, none⟩ = false := by simp [World.frozen?, hb7]
            have u4_ : V8.frozen? ⟨g, 4, none⟩ = false := by simp [World.frozen?, hb7]
            have u5_ : V8.frozen? ⟨g, 5, none⟩ = false := by simp [World.frozen?, hb7]
            have u6_ : V8.frozen? ⟨g, 6, none⟩ = false := by simp [World.frozen?, hb7]
            have u7_ : V8.frozen? ⟨g, 7, none⟩ = false := by simp [World.frozen?, hb7]
            go_simp
            generalize hV9 : World.setCell (World.setCell (World.setCell (World.setCell (World.setCell (World.setCell (World.setCell (World.setCell V8 ⟨g, 0, none⟩ _) ⟨g, 1, none⟩ _) ⟨g, 2, none⟩ _) ⟨g, 3, none⟩ _) ⟨g, 4, none⟩ _) ⟨g, 5, none⟩ _) ⟨g, 6, none⟩ _) ⟨g, 7, none⟩ _ = V9
            have G9 : V8.grownBy V9 (some (g)) := by rw [← hV9]; exact (((((((grown_set1 _ _ _ _).trans (grown_set1 _ _ _ _)).trans (grown_set1 _ _ _ _)).trans (grown_set1 _ _ _ _)).trans (grown_set1 _ _ _ _)).trans (grown_set1 _ _ _ _)).trans (grown_set1 _ _ _ _)).trans (grown_set1 _ _ _ _)
            have FF : V9.heap[g]? = some (.cells #[.string nm, .string m.f0.f0, .string m.f0.f1, .slice B0 m.f1.length d0, .slice B1 m.f2.length d1, .int .i64 0, .int .i64 0, .slice B2 rs.length d2] 52 (0, 0)) := by rw [← hV9, blk_set1 (blk_set1 (blk_set1 (blk_set1 (blk_set1 (blk_set1 (blk_set1 (blk_set1 (F2.out) 0 _) 1 _) 2 _) 3 _) 4 _) 5 _) 6 _) 7 _]; simp
            have BB : Below w.heap.size w V9 := by rw [← hV9]; exact (bel_set (bel_set (bel_set (bel_set (bel_set (bel_set (bel_set (bel_set hHeld.2.2.2.2 _ (by show w.heap.size ≤ g; omega)) _ (by show w.heap.size ≤ g; omega)) _ (by show w.heap.size ≤ g; omega)) _ (by show w.heap.size ≤ g; omega)) _ (by show w.heap.size ≤ g; omega)) _ (by show w.heap.size ≤ g; omega)) _ (by show w.heap.size ≤ g; omega)) _ (by show w.heap.size ≤ g; omega))
            clear hV9
            refine hK.out _ _ ?h315 (fun hHeld => ?j315)
            case h315 => exact ⟨(World.cell?_of_block (G9.block _ (World.block_lt_of_cell? _ _ hHeld.1) (fun e => by have e := Option.some.inj e; (try dsimp only at e); omega))).trans hHeld.1, (World.cell?_of_block (G9.block _ (World.block_lt_of_cell? _ _ hHeld.2.1) (fun e => by have e := Option.some.inj e; (try dsimp only at e); omega))).trans hHeld.2.1, (World.cell?_of_block (G9.block _ (World.block_lt_of_cell? _ _ hHeld.2.2.1) (fun e => by have e := Option.some.inj e; (try dsimp only at e); omega))).trans hHeld.2.2.1, (World.cell?_of_block (G9.block _ (World.block_lt_of_cell? _ _ hHeld.2.2.2.1) (fun e => by have e := Option.some.inj e; (try dsimp only at e); omega))).trans hHeld.2.2.2.1, BB⟩
            clear hK K
            try simp only [Act.put, List.setIfInBounds_toArray, List.set_cons_zero, List.set_cons_succ]
            replace U0 := Aside0.mk (R_else U0.out rfl G9 (Kd.R_ne U0.out F2.out (by decide)))
            replace U1 := Aside0.mk (R_else U1.out rfl G9 (Kd.R_ne U1.out F2.out (by decide)))
            replace U2 := Aside0.mk (R_else U2.out rfl G9 (Kd.R_ne U2.out F2.out (by decide)))
            replace F2 := Aside0.mk FF
            clear FF
            replace F1 := Aside0.mk ((G9.block _ (blk_lt F1.out) (fun e => by have e := Option.some.inj e; omega)).trans F1.out)
            refine wpAnyH_done (by kernel_rfl) ?_ _
            exact HKK.out B0 d0 B1 d1 B2 d2 g V9 ⟨hHeld.2.2.2.2, blk_lt F1.out, F2.out, U0.out, U1.out, U2.out, lg, F1.out⟩
      case k309 =>
        go_simp
        refine hK.out _ _ ?h316 (fun hHeld => ?j316)
        case h316 => exact HK.out _ _ (bel_alloc (Below.refl _ _) _) hHeld
        clear hK K
        try simp only [Act.put, List.setIfInBounds_toArray, List.set_cons_zero, List.set_cons_succ]
        generalize hV8 : World.alloc V2 _ = V8 at hHeld ⊢
        have b8 : Below V2.heap.size V2 V8 := by rw [← hV8]; exact bel_alloc (Below.refl _ _) _
        have z8 : V2.heap.size < V8.heap.size := by rw [← hV8]; simp
        have F2 := Aside0.mk (by rw [← hV8]; exact blk_new _ _ : V8.heap[V2.heap.size]? = some (.cells #[.string ⟨#[]⟩, .string ⟨#[]⟩, .string ⟨#[]⟩, .slice none 0 0, .slice none 0 0, .int .i64 0, .int .i64 0, .slice none 0 0] 52 (0, 0)))
        have lo8 : w.heap.size + 1 < V2.heap.size := blk_lt (below_blk F1.out (Below.refl _ _))
        obtain ⟨g, hg8⟩ : ∃ g, g = V2.heap.size := ⟨_, rfl⟩
        have lg : w.heap.size + 1 < g := by omega
        rw [← hg8] at F2 ⊢
        clear hV8 hg8 z8
        replace F1 := Aside0.mk (below_blk F1.out b8)
        replace U0 := Aside0.mk (Kd.R_below U0.out b8)
        replace U1 := Aside0.mk (Kd.R_below U1.out b8)
        refine wpAnyH_ready (rs := [6]) (by kernel_rfl) (by simp) ?_
        refine AllReadyH.cons (o := { dst := some 12, op := Op.makeSlice 50 (Operand.tmp 11) (Operand.tmp 11), type := 50, pos := "l4_client.go:58", after := #[{ on := 5, ground := Ground.data }, { on := 5, ground := Ground.data }], guard := none }) rfl (fun K hK => ?k317) AllReadyH.nil
        case k317 =>
          refine Kd.R_make_step (Kd.int .i64) (w0 := w) (w.heap.size) 3 (by rfl) (N := 12) rfl 50 (.tmp 11) (.tmp 11) rfl (m.f1.length : Int) rfl rfl Tryd.underlying50 (.int .i64 0) 8 info3 rfl (by decide) (by omega) (0 : Int) (ok := fun _ => True) (okp := fun _ => True) rfl (fun _ h => h) trivial (by omega) ?aL6 hHeld.2.2.2.2 ?aS6 ?_
          case aL6 => (rw [Int.toNat_natCast]; omega)
          case aS6 => exact (hHeld.2.2.2.2).size
          intro v6 V6 ho hb hg hat
          rw [Int.toNat_natCast, ← HRS.out] at ho
          have b6 : Below V8.heap.size V8 V6 := ⟨hg.os, hg.tape, hg.output, hg.size, fun k hk => hg.block k hk (fun e => by cases e)⟩
          obtain ⟨B2, d2, hv6⟩ := Kd.R_slice ho
          subst hv6
          clear hg hat hb
          refine hK.out _ _ ?h318 (fun hHeld => ?j318)
          case h318 => exact HK.out _ _ b6 hHeld
          clear hK K
          try simp only [Act.put, List.setIfInBounds_toArray, List.set_cons_zero, List.set_cons_succ]
          have U2 := Aside0.mk ho
          clear ho
          replace F1 := Aside0.mk (below_blk F1.out b6)
          replace U0 := Aside0.mk (Kd.R_below U0.out b6)
          replace U1 := Aside0.mk (Kd.R_below U1.out b6)
          replace F2 := Aside0.mk (below_blk F2.out b6)
          refine wpAnyH_take (i := 7) (oi := { dst := some 13, op := Op.build 52 #[(0, Operand.tmp 6), (1, Operand.tmp 8), (4, Operand.tmp 12)], type := 52, pos := "l4_client.go:58", after := #[{ on := 0, ground := Ground.data }, { on := 2, ground := Ground.data }, { on := 6, ground := Ground.data }], guard := none }) (v := ?v319) rfl (by kernel_rfl) (by kernel_rfl) (by kernel_rfl) (fun _ _ _ h => h) (Or.inl ⟨by rfl, ?y319⟩) (by assumption) ?r319
          case y319 => intro w_ hSw; (try dsimp only at hSw); go_simp; (try (with_reducible rfl))
          try simp only [Act.put, List.setIfInBounds_toArray, List.set_cons_zero, List.set_cons_succ]
          refine wpAnyH_ready (rs := [9]) (by kernel_rfl) (by simp) ?_
          refine AllReadyH.cons (o := { dst := none, op := Op.store 52 (Operand.tmp 5) (Operand.tmp 13), type := 0, pos := "l4_client.go:58", after := #[{ on := 8, ground := Ground.data }, { on := 7, ground := Ground.data }, { on := 2, ground := Ground.chain }, { on := 0, ground := Ground.phase }, { on := 1, ground := Ground.phase }, { on := 2, ground := Ground.phase }, { on := 3, ground := Ground.phase }, { on := 4, ground := Ground.phase }, { on := 5, ground := Ground.phase }, { on := 6, ground := Ground.phase }, { on := 7, ground := Ground.phase }, { on := 8, ground := Ground.phase }], guard := none }) rfl (fun K hK => ?k320) AllReadyH.nil
          case k320 =>
            have hb7 := F2.out
            have v0_ : V6.cell? ⟨g, 0, none⟩ = some (.string ⟨#[]⟩) := by simp [World.cell?, hb7]
            have v1_ : V6.cell? ⟨g, 1, none⟩ = some (.string ⟨#[]⟩) := by simp [World.cell?, hb7]
            have v2_ : V6.cell? ⟨g, 2, none⟩ = some (.string ⟨#[]⟩) := by simp [World.cell?, hb7]
            have v3_ : V6.cell? ⟨g, 3, none⟩ = some (.slice none 0 0) := by simp [World.cell?, hb7]
            have v4_ : V6.cell? ⟨g, 4, none⟩ = some (.slice none 0 0) := by simp [World.cell?, hb7]
            have v5_ : V6.cell? ⟨g, 5, none⟩ = some (.int .i64 0) := by simp [World.cell?, hb7]
            have v6_ : V6.cell? ⟨g, 6, none⟩ = some (.int .i64 0) := by simp [World.cell?, hb7]
            have v7_ : V6.cell? ⟨g, 7, none⟩ = some (.slice none 0 0) := by simp [World.cell?, hb7]
            have u0_ : V6.frozen? ⟨g, 0, none⟩ = false := by simp [World.frozen?, hb7]
            have u1_ : V6.frozen? ⟨g, 1, none⟩ = false := by simp [World.frozen?, hb7]
            have u2_ : V6.frozen? ⟨g, 2, none⟩ = false := by simp [World.frozen?, hb7]
            have u3_ : V6.frozen? ⟨g, 3, none⟩ = false := by simp [World.frozen?, hb7]
            have u4_ : V6.frozen? ⟨g, 4, none⟩ = false := by simp [World.frozen?, hb7]
            have u5_ : V6.frozen? ⟨g, 5, none⟩ = false := by simp [World.frozen?, hb7]
            have u6_ : V6.frozen? ⟨g, 6, none⟩ = false := by simp [World.frozen?, hb7]
            have u7_ : V6.frozen? ⟨g, 7, none⟩ = false := by simp [World.frozen?, hb7]
            go_simp
            generalize hV9 : World.setCell (World.setCell (World.setCell (World.setCell (World.setCell (World.setCell (World.setCell (World.setCell V6 ⟨g, 0, none⟩ _) ⟨g, 1, none⟩ _) ⟨g, 2, none⟩ _) ⟨g, 3, none⟩ _) ⟨g, 4, none⟩ _) ⟨g, 5, none⟩ _) ⟨g, 6, none⟩ _) ⟨g, 7, none⟩ _ = V9
            have G9 : V6.grownBy V9 (some (g)) := by rw [← hV9]; exact (((((((grown_set1 _ _ _ _).trans (grown_set1 _ _ _ _)).trans (grown_set1 _ _ _ _)).trans (grown_set1 _ _ _ _)).trans (grown_set1 _ _ _ _)).trans (grown_set1 _ _ _ _)).trans (grown_set1 _ _ _ _)).trans (grown_set1 _ _ _ _)
            have FF : V9.heap[g]? = some (.cells #[.string nm, .string m.f0.f0, .string m.f0.f1, .slice B0 m.f1.length d0, .slice B1 m.f2.length d1, .int .i64 0, .int .i64 0, .slice B2 rs.length d2] 52 (0, 0)) := by rw [← hV9, blk_set1 (blk_set1 (blk_set1 (blk_set1 (blk_set1 (blk_set1 (blk_set1 (blk_set1 (F2.out) 0 _) 1 _) 2 _) 3 _) 4 _) 5 _) 6 _) 7 _]; simp
            have BB : Below w.heap.size w V9 := by rw [← hV9]; exact (bel_set (bel_set (bel_set (bel_set (bel_set (bel_set (bel_set (bel_set hHeld.2.2.2.2 _ (by show w.heap.size ≤ g; omega)) _ (by show w.heap.size ≤ g; omega)) _ (by show w.heap.size ≤ g; omega)) _ (by show w.heap.size ≤ g; omega)) _ (by show w.heap.size ≤ g; omega)) _ (by show w.heap.size ≤ g; omega)) _ (by show w.heap.size ≤ g; omega)) _ (by show w.heap.size ≤ g; omega))
            clear hV9
            refine hK.out _ _ ?h321 (fun hHeld => ?j321)
            case h321 => exact ⟨(World.cell?_of_block (G9.block _ (World.block_lt_of_cell? _ _ hHeld.1) (fun e => by have e := Option.some.inj e; (try dsimp only at e); omega))).trans hHeld.1, (World.cell?_of_block (G9.block _ (World.block_lt_of_cell? _ _ hHeld.2.1) (fun e => by have e := Option.some.inj e; (try dsimp only at e); omega))).trans hHeld.2.1, (World.cell?_of_block (G9.block _ (World.block_lt_of_cell? _ _ hHeld.2.2.1) (fun e => by have e := Option.some.inj e; (try dsimp only at e); omega))).trans hHeld.2.2.1, (World.cell?_of_block (G9.block _ (World.block_lt_of_cell? _ _ hHeld.2.2.2.1) (fun e => by have e := Option.some.inj e; (try dsimp only at e); omega))).trans hHeld.2.2.2.1, BB⟩
            clear hK K
            try simp only [Act.put, List.setIfInBounds_toArray, List.set_cons_zero, List.set_cons_succ]
            replace U0 := Aside0.mk (R_else U0.out rfl G9 (Kd.R_ne U0.out F2.out (by decide)))
            replace U1 := Aside0.mk (R_else U1.out rfl G9 (Kd.R_ne U1.out F2.out (by decide)))
            replace U2 := Aside0.mk (R_else U2.out rfl G9 (Kd.R_ne U2.out F2.out (by decide)))
            replace F2 := Aside0.mk FF
            clear FF
            replace F1 := Aside0.mk ((G9.block _ (blk_lt F1.out) (fun e => by have e := Option.some.inj e; omega)).trans F1.out)
            refine wpAnyH_done (by kernel_rfl) ?_ _
            exact HKK.out B0 d0 B1 d1 B2 d2 g V9 ⟨hHeld.2.2.2.2, blk_lt F1.out, F2.out, U0.out, U1.out, U2.out, lg, F1.out⟩
    case k305 =>
      refine Kd.R_make_step (Kd.int .i64) (w0 := w) (w.heap.size) 3 (by rfl) (N := 12) rfl 50 (.tmp 11) (.tmp 11) rfl (m.f1.length : Int) rfl rfl Tryd.underlying50 (.int .i64 0) 8 info3 rfl (by decide) (by omega) (0 : Int) (ok := fun _ => True) (okp := fun _ => True) rfl (fun _ h => h) trivial (by omega) ?aL6 hHeld.2.2.2.2 ?aS6 ?_
      case aL6 => (rw [Int.toNat_natCast]; omega)
      case aS6 => exact (hHeld.2.2.2.2).size
      intro v6 V6 ho hb hg hat
      rw [Int.toNat_natCast, ← HRS.out] at ho
      have b6 : Below V0.heap.size V0 V6 := ⟨hg.os, hg.tape, hg.output, hg.size, fun k hk => hg.block k hk (fun e => by cases e)⟩
      obtain ⟨B2, d2, hv6⟩ := Kd.R_slice ho
      subst hv6
      clear hg hat hb
      refine hK.out _ _ ?h322 (fun hHeld => ?j322)
      case h322 => exact HK.out _ _ b6 hHeld
      clear hK K
      try simp only [Act.put, List.setIfInBounds_toArray, List.set_cons_zero, List.set_cons_succ]
      have U2 := Aside0.mk ho
      clear ho
      replace F1 := Aside0.mk (below_blk F1.out b6)
      refine wpAnyH_ready (rs := [2, 8]) (by kernel_rfl) (by simp) ?_
      refine AllReadyH.cons (o := { dst := some 8, op := Op.call { callee := Callee.value (Operand.func 67), args := #[Operand.tmp 7], argTypes := #[33] }, type := 33, pos := "l4_client.go:58", after := #[{ on := 1, ground := Ground.data }], guard := none }) rfl (fun K hK => ?k323) (AllReadyH.cons (o := { dst := some 5, op := Op.alloc 52, type := 0, pos := "l4_client.go:58", after := #[], guard := none }) rfl (fun K hK => ?k324) AllReadyH.nil)
      case k323 =>
        have hsl2 : w.heap.size ≤ V6.heap.size := (hHeld.2.2.2.2).size
        go_simp
        refine (hcp _ hHeld.2.2.2.2).mono ?_
        rintro e V2 ⟨B0, d0, B1, d1, rfl, ga0, ga1, b2⟩
        refine hK.out _ _ ?h325 (fun hHeld => ?j325)
        case h325 => exact HK.out _ _ b2 hHeld
        clear hK K
        try simp only [Act.put, List.setIfInBounds_toArray, List.set_cons_zero, List.set_cons_succ]
        have U0 := Aside0.mk (Kd.R_lower (base' := w.heap.size) ga0 hsl2)
        have U1 := Aside0.mk (Kd.R_lower (base' := w.heap.size) ga1 hsl2)
        clear ga0 ga1 hsl2
        replace F1 := Aside0.mk (below_blk F1.out b2)
        replace U2 := Aside0.mk (Kd.R_below U2.out b2)
        refine wpAnyH_take (i := 7) (oi := { dst := some 13, op := Op.build 52 #[(0, Operand.tmp 6), (1, Operand.tmp 8), (4, Operand.tmp 12)], type := 52, pos := "l4_client.go:58", after := #[{ on := 0, ground := Ground.data }, { on := 2, ground := Ground.data }, { on := 6, ground := Ground.data }], guard := none }) (v := ?v326) rfl (by kernel_rfl) (by kernel_rfl) (by kernel_rfl) (fun _ _ _ h => h) (Or.inl ⟨by rfl, ?y326⟩) (by assumption) ?r326
        case y326 => intro w_ hSw; (try dsimp only at hSw); go_simp; (try (with_reducible rfl))
        try simp only [Act.put, List.setIfInBounds_toArray, List.set_cons_zero, List.set_cons_succ]
        refine wpAnyH_ready (rs := [8]) (by kernel_rfl) (by simp) ?_
        refine AllReadyH.cons (o := { dst := some 5, op := Op.alloc 52, type := 0, pos := "l4_client.go:58", after := #[], guard := none }) rfl (fun K hK => ?k327) AllReadyH.nil
        case k327 =>
          go_simp
          refine hK.out _ _ ?h328 (fun hHeld => ?j328)
          case h328 => exact HK.out _ _ (bel_alloc (Below.refl _ _) _) hHeld
          clear hK K
          try simp only [Act.put, List.setIfInBounds_toArray, List.set_cons_zero, List.set_cons_succ]
          generalize hV8 : World.alloc V2 _ = V8 at hHeld ⊢
          have b8 : Below V2.heap.size V2 V8 := by rw [← hV8]; exact bel_alloc (Below.refl _ _) _
          have z8 : V2.heap.size < V8.heap.size := by rw [← hV8]; simp
          have F2 := Aside0.mk (by rw [← hV8]; exact blk_new _ _ : V8.heap[V2.heap.size]? = some (.cells #[.string ⟨#[]⟩, .string ⟨#[]⟩, .string ⟨#[]⟩, .slice none 0 0, .slice none 0 0, .int .i64 0, .int .i64 0, .slice none 0 0] 52 (0, 0)))
          have lo8 : w.heap.size + 1 < V2.heap.size := blk_lt (below_blk F1.out (Below.refl _ _))
          obtain ⟨g, hg8⟩ : ∃ g, g = V2.heap.size := ⟨_, rfl⟩
          have lg : w.heap.size + 1 < g := by omega
          rw [← hg8] at F2 ⊢
          clear hV8 hg8 z8
          replace F1 := Aside0.mk (below_blk F1.out b8)
          replace U2 := Aside0.mk (Kd.R_below U2.out b8)
          replace U0 := Aside0.mk (Kd.R_below U0.out b8)
          replace U1 := Aside0.mk (Kd.R_below U1.out b8)
          refine wpAnyH_ready (rs := [9]) (by kernel_rfl) (by simp) ?_
          refine AllReadyH.cons (o := { dst := none, op := Op.store 52 (Operand.tmp 5) (Operand.tmp 13), type := 0, pos := "l4_client.go:58", after := #[{ on := 8, ground := Ground.data }, { on := 7, ground := Ground.data }, { on := 2, ground := Ground.chain }, { on := 0, ground := Ground.phase }, { on := 1, ground := Ground.phase }, { on := 2, ground := Ground.phase }, { on := 3, ground := Ground.phase }, { on := 4, ground := Ground.phase }, { on := 5, ground := Ground.phase }, { on := 6, ground := Ground.phase }, { on := 7, ground := Ground.phase }, { on := 8, ground := Ground.phase }], guard := none }) rfl (fun K hK => ?k329) AllReadyH.nil
          case k329 =>
            have hb7 := F2.out
            have v0_ : V8.cell? ⟨g, 0, none⟩ = some (.string ⟨#[]⟩) := by simp [World.cell?, hb7]
            have v1_ : V8.cell? ⟨g, 1, none⟩ = some (.string ⟨#[]⟩) := by simp [World.cell?, hb7]
            have v2_ : V8.cell? ⟨g, 2, none⟩ = some (.string ⟨#[]⟩) := by simp [World.cell?, hb7]
            have v3_ : V8.cell? ⟨g, 3, none⟩ = some (.slice none 0 0) := by simp [World.cell?, hb7]
            have v4_ : V8.cell? ⟨g, 4, none⟩ = some (.slice none 0 0) := by simp [World.cell?, hb7]
            have v5_ : V8.cell? ⟨g, 5, none⟩ = some (.int .i64 0) := by simp [World.cell?, hb7]
            have v6_ : V8.cell? ⟨g, 6, none⟩ = some (.int .i64 0) := by simp [World.cell?, hb7]
            have v7_ : V8.cell? ⟨g, 7, none⟩ = some (.slice none 0 0) := by simp [World.cell?, hb7]
            have u0_ : V8.frozen? ⟨g, 0, none⟩ = false := by simp [World.frozen?, hb7]
            have u1_ : V8.frozen? ⟨g, 1, none⟩ = false := by simp [World.frozen?, hb7]
            have u2_ : V8.frozen? ⟨g, 2, none⟩ = false := by simp [World.frozen?, hb7]
            have u3_ : V8.frozen? ⟨g, 3, none⟩ = false := by simp [World.frozen?, hb7]
            have u4_ : V8.frozen? ⟨g, 4, none⟩ = false := by simp [World.frozen?, hb7]
            have u5_ : V8.frozen? ⟨g, 5, none⟩ = false := by simp [World.frozen?, hb7]
            have u6_ : V8.frozen? ⟨g, 6, none⟩ = false := by simp [World.frozen?, hb7]
            have u7_ : V8.frozen? ⟨g, 7, none⟩ = false := by simp [World.frozen?, hb7]
            go_simp
            generalize hV9 : World.setCell (World.setCell (World.setCell (World.setCell (World.setCell (World.setCell (World.setCell (World.setCell V8 ⟨g, 0, none⟩ _) ⟨g, 1, none⟩ _) ⟨g, 2, none⟩ _) ⟨g, 3, none⟩ _) ⟨g, 4, none⟩ _) ⟨g, 5, none⟩ _) ⟨g, 6, none⟩ _) ⟨g, 7, none⟩ _ = V9
            have G9 : V8.grownBy V9 (some (g)) := by rw [← hV9]; exact (((((((grown_set1 _ _ _ _).trans (grown_set1 _ _ _ _)).trans (grown_set1 _ _ _ _)).trans (grown_set1 _ _ _ _)).trans (grown_set1 _ _ _ _)).trans (grown_set1 _ _ _ _)).trans (grown_set1 _ _ _ _)).trans (grown_set1 _ _ _ _)
            have FF : V9.heap[g]? = some (.cells #[.string nm, .string m.f0.f0, .string m.f0.f1, .slice B0 m.f1.length d0, .slice B1 m.f2.length d1, .int .i64 0, .int .i64 0, .slice B2 rs.length d2] 52 (0, 0)) := by rw [← hV9, blk_set1 (blk_set1 (blk_set1 (blk_set1 (blk_set1 (blk_set1 (blk_set1 (blk_set1 (F2.out) 0 _) 1 _) 2 _) 3 _) 4 _) 5 _) 6 _) 7 _]; simp
            have BB : Below w.heap.size w V9 := by rw [← hV9]; exact (bel_set (bel_set (bel_set (bel_set (bel_set (bel_set (bel_set (bel_set hHeld.2.2.2.2 _ (by show w.heap.size ≤ g; omega)) _ (by show w.heap.size ≤ g; omega)) _ (by show w.heap.size ≤ g; omega)) _ (by show w.heap.size ≤ g; omega)) _ (by show w.heap.size ≤ g; omega)) _ (by show w.heap.size ≤ g; omega)) _ (by show w.heap.size ≤ g; omega)) _ (by show w.heap.size ≤ g; omega))
            clear hV9
            refine hK.out _ _ ?h330 (fun hHeld => ?j330)
            case h330 => exact ⟨(World.cell?_of_block (G9.block _ (World.block_lt_of_cell? _ _ hHeld.1) (fun e => by have e := Option.some.inj e; (try dsimp only at e); omega))).trans hHeld.1, (World.cell?_of_block (G9.block _ (World.block_lt_of_cell? _ _ hHeld.2.1) (fun e => by have e := Option.some.inj e; (try dsimp only at e); omega))).trans hHeld.2.1, (World.cell?_of_block (G9.block _ (World.block_lt_of_cell? _ _ hHeld.2.2.1) (fun e => by have e := Option.some.inj e; (try dsimp only at e); omega))).trans hHeld.2.2.1, (World.cell?_of_block (G9.block _ (World.block_lt_of_cell? _ _ hHeld.2.2.2.1) (fun e => by have e := Option.some.inj e; (try dsimp only at e); omega))).trans hHeld.2.2.2.1, BB⟩
            clear hK K
            try simp only [Act.put, List.setIfInBounds_toArray, List.set_cons_zero, List.set_cons_succ]
            replace U0 := Aside0.mk (R_else U0.out rfl G9 (Kd.R_ne U0.out F2.out (by decide)))
            replace U1 := Aside0.mk (R_else U1.out rfl G9 (Kd.R_ne U1.out F2.out (by decide)))
            replace U2 := Aside0.mk (R_else U2.out rfl G9 (Kd.R_ne U2.out F2.out (by decide)))
            replace F2 := Aside0.mk FF
            clear FF
            replace F1 := Aside0.mk ((G9.block _ (blk_lt F1.out) (fun e => by have e := Option.some.inj e; omega)).trans F1.out)
            refine wpAnyH_done (by kernel_rfl) ?_ _
            exact HKK.out B0 d0 B1 d1 B2 d2 g V9 ⟨hHeld.2.2.2.2, blk_lt F1.out, F2.out, U0.out, U1.out, U2.out, lg, F1.out⟩
      case k324 =>
        go_simp
        refine hK.out _ _ ?h331 (fun hHeld => ?j331)
        case h331 => exact HK.out _ _ (bel_alloc (Below.refl _ _) _) hHeld
        clear hK K
        try simp only [Act.put, List.setIfInBounds_toArray, List.set_cons_zero, List.set_cons_succ]
        generalize hV8 : World.alloc V6 _ = V8 at hHeld ⊢
        have b8 : Below V6.heap.size V6 V8 := by rw [← hV8]; exact bel_alloc (Below.refl _ _) _
        have z8 : V6.heap.size < V8.heap.size := by rw [← hV8]; simp
        have F2 := Aside0.mk (by rw [← hV8]; exact blk_new _ _ : V8.heap[V6.heap.size]? = some (.cells #[.string ⟨#[]⟩, .string ⟨#[]⟩, .string ⟨#[]⟩, .slice none 0 0, .slice none 0 0, .int .i64 0, .int .i64 0, .slice none 0 0] 52 (0, 0)))
        have lo8 : w.heap.size + 1 < V6.heap.size := blk_lt (below_blk F1.out (Below.refl _ _))
        obtain ⟨g, hg8⟩ : ∃ g, g = V6.heap.size := ⟨_, rfl⟩
        have lg : w.heap.size + 1 < g := by omega
        rw [← hg8] at F2 ⊢
        clear hV8 hg8 z8
        replace F1 := Aside0.mk (below_blk F1.out b8)
        replace U2 := Aside0.mk (Kd.R_below U2.out b8)
        refine wpAnyH_ready (rs := [2]) (by kernel_rfl) (by simp) ?_
        refine AllReadyH.cons (o := { dst := some 8, op := Op.call { callee := Callee.value (Operand.func 67), args := #[Operand.tmp 7], argTypes := #[33] }, type := 33, pos := "l4_client.go:58", after := #[{ on := 1, ground := Ground.data }], guard := none }) rfl (fun K hK => ?k332) AllReadyH.nil
        case k332 =>
          have hsl2 : w.heap.size ≤ V8.heap.size := (hHeld.2.2.2.2).size
          go_simp
          refine (hcp _ hHeld.2.2.2.2).mono ?_
          rintro e V2 ⟨B0, d0, B1, d1, rfl, ga0, ga1, b2⟩
          refine hK.out _ _ ?h333 (fun hHeld => ?j333)
          case h333 => exact HK.out _ _ b2 hHeld
          clear hK K
          try simp only [Act.put, List.setIfInBounds_toArray, List.set_cons_zero, List.set_cons_succ]
          have U0 := Aside0.mk (Kd.R_lower (base' := w.heap.size) ga0 hsl2)
          have U1 := Aside0.mk (Kd.R_lower (base' := w.heap.size) ga1 hsl2)
          clear ga0 ga1 hsl2
          replace F1 := Aside0.mk (below_blk F1.out b2)
          replace U2 := Aside0.mk (Kd.R_below U2.out b2)
          replace F2 := Aside0.mk (below_blk F2.out b2)
          refine wpAnyH_take (i := 7) (oi := { dst := some 13, op := Op.build 52 #[(0, Operand.tmp 6), (1, Operand.tmp 8), (4, Operand.tmp 12)], type := 52, pos := "l4_client.go:58", after := #[{ on := 0, ground := Ground.data }, { on := 2, ground := Ground.data }, { on := 6, ground := Ground.data }], guard := none }) (v := ?v334) rfl (by kernel_rfl) (by kernel_rfl) (by kernel_rfl) (fun _ _ _ h => h) (Or.inl ⟨by rfl, ?y334⟩) (by assumption) ?r334
          case y334 => intro w_ hSw; (try dsimp only at hSw); go_simp; (try (with_reducible rfl))
          try simp only [Act.put, List.setIfInBounds_toArray, List.set_cons_zero, List.set_cons_succ]
          refine wpAnyH_ready (rs := [9]) (by kernel_rfl) (by simp) ?_
          refine AllReadyH.cons (o := { dst := none, op := Op.store 52 (Operand.tmp 5) (Operand.tmp 13), type := 0, pos := "l4_client.go:58", after := #[{ on := 8, ground := Ground.data }, { on := 7, ground := Ground.data }, { on := 2, ground := Ground.chain }, { on := 0, ground := Ground.phase }, { on := 1, ground := Ground.phase }, { on := 2, ground := Ground.phase }, { on := 3, ground := Ground.phase }, { on := 4, ground := Ground.phase }, { on := 5, ground := Ground.phase }, { on := 6, ground := Ground.phase }, { on := 7, ground := Ground.phase }, { on := 8, ground := Ground.phase }], guard := none }) rfl (fun K hK => ?k335) AllReadyH.nil
          case k335 =>
            have hb7 := F2.out
            have v0_ : V2.cell? ⟨g, 0, none⟩ = some (.string ⟨#[]⟩) := by simp [World.cell?, hb7]
            have v1_ : V2.cell? ⟨g, 1, none⟩ = some (.string ⟨#[]⟩) := by simp [World.cell?, hb7]
            have v2_ : V2.cell? ⟨g, 2, none⟩ = some (.string ⟨#[]⟩) := by simp [World.cell?, hb7]
            have v3_ : V2.cell? ⟨g, 3, none⟩ = some (.slice none 0 0) := by simp [World.cell?, hb7]
            have v4_ : V2.cell? ⟨g, 4, none⟩ = some (.slice none 0 0) := by simp [World.cell?, hb7]
            have v5_ : V2.cell? ⟨g, 5, none⟩ = some (.int .i64 0) := by simp [World.cell?, hb7]
            have v6_ : V2.cell? ⟨g, 6, none⟩ = some (.int .i64 0) := by simp [World.cell?, hb7]
            have v7_ : V2.cell? ⟨g, 7, none⟩ = some (.slice none 0 0) := by simp [World.cell?, hb7]
            have u0_ : V2.frozen? ⟨g, 0, none⟩ = false := by simp [World.frozen?, hb7]
            have u1_ : V2.frozen? ⟨g, 1, none⟩ = false := by simp [World.frozen?, hb7]
            have u2_ : V2.frozen? ⟨g, 2, none⟩ = false := by simp [World.frozen?, hb7]
            have u3_ : V2.frozen? ⟨g, 3, none⟩ = false := by simp [World.frozen?, hb7]
            have u4_ : V2.frozen? ⟨g, 4, none⟩ = false := by simp [World.frozen?, hb7]
            have u5_ : V2.frozen? ⟨g, 5, none⟩ = false := by simp [World.frozen?, hb7]
            have u6_ : V2.frozen? ⟨g, 6, none⟩ = false := by simp [World.frozen?, hb7]
            have u7_ : V2.frozen? ⟨g, 7, none⟩ = false := by simp [World.frozen?, hb7]
            go_simp
            generalize hV9 : World.setCell (World.setCell (World.setCell (World.setCell (World.setCell (World.setCell (World.setCell (World.setCell V2 ⟨g, 0, none⟩ _) ⟨g, 1, none⟩ _) ⟨g, 2, none⟩ _) ⟨g, 3, none⟩ _) ⟨g, 4, none⟩ _) ⟨g, 5, none⟩ _) ⟨g, 6, none⟩ _) ⟨g, 7, none⟩ _ = V9
            have G9 : V2.grownBy V9 (some (g)) := by rw [← hV9]; exact (((((((grown_set1 _ _ _ _).trans (grown_set1 _ _ _ _)).trans (grown_set1 _ _ _ _)).trans (grown_set1 _ _ _ _)).trans (grown_set1 _ _ _ _)).trans (grown_set1 _ _ _ _)).trans (grown_set1 _ _ _ _)).trans (grown_set1 _ _ _ _)
            have FF : V9.heap[g]? = some (.cells #[.string nm, .string m.f0.f0, .string m.f0.f1, .slice B0 m.f1.length d0, .slice B1 m.f2.length d1, .int .i64 0, .int .i64 0, .slice B2 rs.length d2] 52 (0, 0)) := by rw [← hV9, blk_set1 (blk_set1 (blk_set1 (blk_set1 (blk_set1 (blk_set1 (blk_set1 (blk_set1 (F2.out) 0 _) 1 _) 2 _) 3 _) 4 _) 5 _) 6 _) 7 _]; simp
            have BB : Below w.heap.size w V9 := by rw [← hV9]; exact (bel_set (bel_set (bel_set (bel_set (bel_set (bel_set (bel_set (bel_set hHeld.2.2.2.2 _ (by show w.heap.size ≤ g; omega)) _ (by show w.heap.size ≤ g; omega)) _ (by show w.heap.size ≤ g; omega)) _ (by show w.heap.size ≤ g; omega)) _ (by show w.heap.size ≤ g; omega)) _ (by show w.heap.size ≤ g; omega)) _ (by show w.heap.size ≤ g; omega)) _ (by show w.heap.size ≤ g; omega))
            clear hV9
            refine hK.out _ _ ?h336 (fun hHeld => ?j336)
            case h336 => exact ⟨(World.cell?_of_block (G9.block _ (World.block_lt_of_cell? _ _ hHeld.1) (fun e => by have e := Option.some.inj e; (try dsimp only at e); omega))).trans hHeld.1, (World.cell?_of_block (G9.block _ (World.block_lt_of_cell? _ _ hHeld.2.1) (fun e => by have e := Option.some.inj e; (try dsimp only at e); omega))).trans hHeld.2.1, (World.cell?_of_block (G9.block _ (World.block_lt_of_cell? _ _ hHeld.2.2.1) (fun e => by have e := Option.some.inj e; (try dsimp only at e); omega))).trans hHeld.2.2.1, (World.cell?_of_block (G9.block _ (World.block_lt_of_cell? _ _ hHeld.2.2.2.1) (fun e => by have e := Option.some.inj e; (try dsimp only at e); omega))).trans hHeld.2.2.2.1, BB⟩
            clear hK K
            try simp only [Act.put, List.setIfInBounds_toArray, List.set_cons_zero, List.set_cons_succ]
            replace U0 := Aside0.mk (R_else U0.out rfl G9 (Kd.R_ne U0.out F2.out (by decide)))
            replace U1 := Aside0.mk (R_else U1.out rfl G9 (Kd.R_ne U1.out F2.out (by decide)))
            replace U2 := Aside0.mk (R_else U2.out rfl G9 (Kd.R_ne U2.out F2.out (by decide)))
            replace F2 := Aside0.mk FF
            clear FF
            replace F1 := Aside0.mk ((G9.block _ (blk_lt F1.out) (fun e => by have e := Option.some.inj e; omega)).trans F1.out)
            refine wpAnyH_done (by kernel_rfl) ?_ _
            exact HKK.out B0 d0 B1 d1 B2 d2 g V9 ⟨hHeld.2.2.2.2, blk_lt F1.out, F2.out, U0.out, U1.out, U2.out, lg, F1.out⟩
    case k306 =>
      go_simp
      refine hK.out _ _ ?h337 (fun hHeld => ?j337)
      case h337 => exact HK.out _ _ (bel_alloc (Below.refl _ _) _) hHeld
      clear hK K
      try simp only [Act.put, List.setIfInBounds_toArray, List.set_cons_zero, List.set_cons_succ]
      generalize hV8 : World.alloc V0 _ = V8 at hHeld ⊢
      have b8 : Below V0.heap.size V0 V8 := by rw [← hV8]; exact bel_alloc (Below.refl _ _) _
      have z8 : V0.heap.size < V8.heap.size := by rw [← hV8]; simp
      have F2 := Aside0.mk (by rw [← hV8]; exact blk_new _ _ : V8.heap[V0.heap.size]? = some (.cells #[.string ⟨#[]⟩, .string ⟨#[]⟩, .string ⟨#[]⟩, .slice none 0 0, .slice none 0 0, .int .i64 0, .int .i64 0, .slice none 0 0] 52 (0, 0)))
      have lo8 : w.heap.size + 1 < V0.heap.size := blk_lt (below_blk F1.out (Below.refl _ _))
      obtain ⟨g, hg8⟩ : ∃ g, g = V0.heap.size := ⟨_, rfl⟩
      have lg : w.heap.size + 1 < g := by omega
      rw [← hg8] at F2 ⊢
      clear hV8 hg8 z8
      replace F1 := Aside0.mk (below_blk F1.out b8)
      refine wpAnyH_ready (rs := [2, 6]) (by kernel_rfl) (by simp) ?_
      refine AllReadyH.cons (o := { dst := some 8, op := Op.call { callee := Callee.value (Operand.func 67), args := #[Operand.tmp 7], argTypes := #[33] }, type := 33, pos := "l4_client.go:58", after := #[{ on := 1, ground := Ground.data }], guard := none }) rfl (fun K hK => ?k338) (AllReadyH.cons (o := { dst := some 12, op := Op.makeSlice 50 (Operand.tmp 11) (Operand.tmp 11), type := 50, pos := "l4_client.go:58", after := #[{ on := 5, ground := Ground.data }, { on := 5, ground := Ground.data }], guard := none }) rfl (fun K hK => ?k339) AllReadyH.nil)
      case k338 =>
        have hsl2 : w.heap.size ≤ V8.heap.size := (hHeld.2.2.2.2).size
        go_simp
        refine (hcp _ hHeld.2.2.2.2).mono ?_
        rintro e V2 ⟨B0, d0, B1, d1, rfl, ga0, ga1, b2⟩
        refine hK.out _ _ ?h340 (fun hHeld => ?j340)
        case h340 => exact HK.out _ _ b2 hHeld
        clear hK K
        try simp only [Act.put, List.setIfInBounds_toArray, List.set_cons_zero, List.set_cons_succ]
        have U0 := Aside0.mk (Kd.R_lower (base' := w.heap.size) ga0 hsl2)
        have U1 := Aside0.mk (Kd.R_lower (base' := w.heap.size) ga1 hsl2)
        clear ga0 ga1 hsl2
        replace F1 := Aside0.mk (below_blk F1.out b2)
        replace F2 := Aside0.mk (below_blk F2.out b2)
        refine wpAnyH_ready (rs := [6]) (by kernel_rfl) (by simp) ?_
        refine AllReadyH.cons (o := { dst := some 12, op := Op.makeSlice 50 (Operand.tmp 11) (Operand.tmp 11), type := 50, pos := "l4_client.go:58", after := #[{ on := 5, ground := Ground.data }, { on := 5, ground := Ground.data }], guard := none }) rfl (fun K hK => ?k341) AllReadyH.nil
        case k341 =>
          refine Kd.R_make_step (Kd.int .i64) (w0 := w) (w.heap.size) 3 (by rfl) (N := 12) rfl 50 (.tmp 11) (.tmp 11) rfl (m.f1.length : Int) rfl rfl Tryd.underlying50 (.int .i64 0) 8 info3 rfl (by decide) (by omega) (0 : Int) (ok := fun _ => True) (okp := fun _ => True) rfl (fun _ h => h) trivial (by omega) ?aL6 hHeld.2.2.2.2 ?aS6 ?_
          case aL6 => (rw [Int.toNat_natCast]; omega)
          case aS6 => exact (hHeld.2.2.2.2).size
          intro v6 V6 ho hb hg hat
          rw [Int.toNat_natCast, ← HRS.out] at ho
          have b6 : Below V2.heap.size V2 V6 := ⟨hg.os, hg.tape, hg.output, hg.size, fun k hk => hg.block k hk (fun e => by cases e)⟩
          obtain ⟨B2, d2, hv6⟩ := Kd.R_slice ho
          subst hv6
          clear hg hat hb
          refine hK.out _ _ ?h342 (fun hHeld => ?j342)
          case h342 => exact HK.out _ _ b6 hHeld
          clear hK K
          try simp only [Act.put, List.setIfInBounds_toArray, List.set_cons_zero, List.set_cons_succ]
          have U2 := Aside0.mk ho
          clear ho
          replace F1 := Aside0.mk (below_blk F1.out b6)
          replace F2 := Aside0.mk (below_blk F2.out b6)
          replace U0 := Aside0.mk (Kd.R_below U0.out b6)
          replace U1 := Aside0.mk (Kd.R_below U1.out b6)
          refine wpAnyH_take (i := 7) (oi := { dst := some 13, op := Op.build 52 #[(0, Operand.tmp 6), (1, Operand.tmp 8), (4, Operand.tmp 12)], type := 52, pos := "l4_client.go:58", after := #[{ on := 0, ground := Ground.data }, { on := 2, ground := Ground.data }, { on := 6, ground := Ground.data }], guard := none }) (v := ?v343) rfl (by kernel_rfl) (by kernel_rfl) (by kernel_rfl) (fun _ _ _ h => h) (Or.inl ⟨by rfl, ?y343⟩) (by assumption) ?r343
          case y343 => intro w_ hSw; (try dsimp only at hSw); go_simp; (try (with_reducible rfl))
          try simp only [Act.put, List.setIfInBounds_toArray, List.set_cons_zero, List.set_cons_succ]
          refine wpAnyH_ready (rs := [9]) (by kernel_rfl) (by simp) ?_
          refine AllReadyH.cons (o := { dst := none, op := Op.store 52 (Operand.tmp 5) (Operand.tmp 13), type := 0, pos := "l4_client.go:58", after := #[{ on := 8, ground := Ground.data }, { on := 7, ground := Ground.data }, { on := 2, ground := Ground.chain }, { on := 0, ground := Ground.phase }, { on := 1, ground := Ground.phase }, { on := 2, ground := Ground.phase }, { on := 3, ground := Ground.phase }, { on := 4, ground := Ground.phase }, { on := 5, ground := Ground.phase }, { on := 6, ground := Ground.phase }, { on := 7, ground := Ground.phase }, { on := 8, ground := Ground.phase }], guard := none }) rfl (fun K hK => ?k344) AllReadyH.nil
          case k344 =>
            have hb7 := F2.out
            have v0_ : V6.cell? ⟨g, 0, none⟩ = some (.string ⟨#[]⟩) := by simp [World.cell?, hb7]
            have v1_ : V6.cell? ⟨g, 1, none⟩ = some (.string ⟨#[]⟩) := by simp [World.cell?, hb7]
            have v2_ : V6.cell? ⟨g, 2, none⟩ = some (.string ⟨#[]⟩) := by simp [World.cell?, hb7]
            have v3_ : V6.cell? ⟨g, 3, none⟩ = some (.slice none 0 0) := by simp [World.cell?, hb7]
            have v4_ : V6.cell? ⟨g, 4, none⟩ = some (.slice none 0 0) := by simp [World.cell?, hb7]
            have v5_ : V6.cell? ⟨g, 5, none⟩ = some (.int .i64 0) := by simp [World.cell?, hb7]
            have v6_ : V6.cell? ⟨g, 6, none⟩ = some (.int .i64 0) := by simp [World.cell?, hb7]
            have v7_ : V6.cell? ⟨g, 7, none⟩ = some (.slice none 0 0) := by simp [World.cell?, hb7]
            have u0_ : V6.frozen? ⟨g, 0, none⟩ = false := by simp [World.frozen?, hb7]
            have u1_ : V6.frozen? ⟨g, 1, none⟩ = false := by simp [World.frozen?, hb7]
            have u2_ : V6.frozen? ⟨g, 2, none⟩ = false := by simp [World.frozen?, hb7]
            have u3_ : V6.frozen? ⟨g, 3, none⟩ = false := by simp [World.frozen?, hb7]
            have u4_ : V6.frozen? ⟨g, 4, none⟩ = false := by simp [World.frozen?, hb7]
            have u5_ : V6.frozen? ⟨g, 5, none⟩ = false := by simp [World.frozen?, hb7]
            have u6_ : V6.frozen? ⟨g, 6, none⟩ = false := by simp [World.frozen?, hb7]
            have u7_ : V6.frozen? ⟨g, 7, none⟩ = false := by simp [World.frozen?, hb7]
            go_simp
            generalize hV9 : World.setCell (World.setCell (World.setCell (World.setCell (World.setCell (World.setCell (World.setCell (World.setCell V6 ⟨g, 0, none⟩ _) ⟨g, 1, none⟩ _) ⟨g, 2, none⟩ _) ⟨g, 3, none⟩ _) ⟨g, 4, none⟩ _) ⟨g, 5, none⟩ _) ⟨g, 6, none⟩ _) ⟨g, 7, none⟩ _ = V9
            have G9 : V6.grownBy V9 (some (g)) := by rw [← hV9]; exact (((((((grown_set1 _ _ _ _).trans (grown_set1 _ _ _ _)).trans (grown_set1 _ _ _ _)).trans (grown_set1 _ _ _ _)).trans (grown_set1 _ _ _ _)).trans (grown_set1 _ _ _ _)).trans (grown_set1 _ _ _ _)).trans (grown_set1 _ _ _ _)
            have FF : V9.heap[g]? = some (.cells #[.string nm, .string m.f0.f0, .string m.f0.f1, .slice B0 m.f1.length d0, .slice B1 m.f2.length d1, .int .i64 0, .int .i64 0, .slice B2 rs.length d2] 52 (0, 0)) := by rw [← hV9, blk_set1 (blk_set1 (blk_set1 (blk_set1 (blk_set1 (blk_set1 (blk_set1 (blk_set1 (F2.out) 0 _) 1 _) 2 _) 3 _) 4 _) 5 _) 6 _) 7 _]; simp
            have BB : Below w.heap.size w V9 := by rw [← hV9]; exact (bel_set (bel_set (bel_set (bel_set (bel_set (bel_set (bel_set (bel_set hHeld.2.2.2.2 _ (by show w.heap.size ≤ g; omega)) _ (by show w.heap.size ≤ g; omega)) _ (by show w.heap.size ≤ g; omega)) _ (by show w.heap.size ≤ g; omega)) _ (by show w.heap.size ≤ g; omega)) _ (by show w.heap.size ≤ g; omega)) _ (by show w.heap.size ≤ g; omega)) _ (by show w.heap.size ≤ g; omega))
            clear hV9
            refine hK.out _ _ ?h345 (fun hHeld => ?j345)
            case h345 => exact ⟨(World.cell?_of_block (G9.block _ (World.block_lt_of_cell? _ _ hHeld.1) (fun e => by have e := Option.some.inj e; (try dsimp only at e); omega))).trans hHeld.1, (World.cell?_of_block (G9.block _ (World.block_lt_of_cell? _ _ hHeld.2.1) (fun e => by have e := Option.some.inj e; (try dsimp only at e); omega))).trans hHeld.2.1, (World.cell?_of_block (G9.block _ (World.block_lt_of_cell? _ _ hHeld.2.2.1) (fun e => by have e := Option.some.inj e; (try dsimp only at e); omega))).trans hHeld.2.2.1, (World.cell?_of_block (G9.block _ (World.block_lt_of_cell? _ _ hHeld.2.2.2.1) (fun e => by have e := Option.some.inj e; (try dsimp only at e); omega))).trans hHeld.2.2.2.1, BB⟩
            clear hK K
            try simp only [Act.put, List.setIfInBounds_toArray, List.set_cons_zero, List.set_cons_succ]
            replace U0 := Aside0.mk (R_else U0.out rfl G9 (Kd.R_ne U0.out F2.out (by decide)))
            replace U1 := Aside0.mk (R_else U1.out rfl G9 (Kd.R_ne U1.out F2.out (by decide)))
            replace U2 := Aside0.mk (R_else U2.out rfl G9 (Kd.R_ne U2.out F2.out (by decide)))
            replace F2 := Aside0.mk FF
            clear FF
            replace F1 := Aside0.mk ((G9.block _ (blk_lt F1.out) (fun e => by have e := Option.some.inj e; omega)).trans F1.out)
            refine wpAnyH_done (by kernel_rfl) ?_ _
            exact HKK.out B0 d0 B1 d1 B2 d2 g V9 ⟨hHeld.2.2.2.2, blk_lt F1.out, F2.out, U0.out, U1.out, U2.out, lg, F1.out⟩
      case k339 =>
        refine Kd.R_make_step (Kd.int .i64) (w0 := w) (w.heap.size) 3 (by rfl) (N := 12) rfl 50 (.tmp 11) (.tmp 11) rfl (m.f1.length : Int) rfl rfl Tryd.underlying50 (.int .i64 0) 8 info3 rfl (by decide) (by omega) (0 : Int) (ok := fun _ => True) (okp := fun _ => True) rfl (fun _ h => h) trivial (by omega) ?aL6 hHeld.2.2.2.2 ?aS6 ?_
        case aL6 => (rw [Int.toNat_natCast]; omega)
        case aS6 => exact (hHeld.2.2.2.2).size
        intro v6 V6 ho hb hg hat
        rw [Int.toNat_natCast, ← HRS.out] at ho
        have b6 : Below V8.heap.size V8 V6 := ⟨hg.os, hg.tape, hg.output, hg.size, fun k hk => hg.block k hk (fun e => by cases e)⟩
        obtain ⟨B2, d2, hv6⟩ := Kd.R_slice ho
        subst hv6
        clear hg hat hb
        refine hK.out _ _ ?h346 (fun hHeld => ?j346)
        case h346 => exact HK.out _ _ b6 hHeld
        clear hK K
        try simp only [Act.put, List.setIfInBounds_toArray, List.set_cons_zero, List.set_cons_succ]
        have U2 := Aside0.mk ho
        clear ho
        replace F1 := Aside0.mk (below_blk F1.out b6)
        replace F2 := Aside0.mk (below_blk F2.out b6)
        refine wpAnyH_ready (rs := [2]) (by kernel_rfl) (by simp) ?_
        refine AllReadyH.cons (o := { dst := some 8, op := Op.call { callee := Callee.value (Operand.func 67), args := #[Operand.tmp 7], argTypes := #[33] }, type := 33, pos := "l4_client.go:58", after := #[{ on := 1, ground := Ground.data }], guard := none }) rfl (fun K hK => ?k347) AllReadyH.nil
        case k347 =>
          have hsl2 : w.heap.size ≤ V6.heap.size := (hHeld.2.2.2.2).size
          go_simp
          refine (hcp _ hHeld.2.2.2.2).mono ?_
          rintro e V2 ⟨B0, d0, B1, d1, rfl, ga0, ga1, b2⟩
          refine hK.out _ _ ?h348 (fun hHeld => ?j348)
          case h348 => exact HK.out _ _ b2 hHeld
          clear hK K
          try simp only [Act.put, List.setIfInBounds_toArray, List.set_cons_zero, List.set_cons_succ]
          have U0 := Aside0.mk (Kd.R_lower (base' := w.heap.size) ga0 hsl2)
          have U1 := Aside0.mk (Kd.R_lower (base' := w.heap.size) ga1 hsl2)
          clear ga0 ga1 hsl2
          replace F1 := Aside0.mk (below_blk F1.out b2)
          replace F2 := Aside0.mk (below_blk F2.out b2)
          replace U2 := Aside0.mk (Kd.R_below U2.out b2)
          refine wpAnyH_take (i := 7) (oi := { dst := some 13, op := Op.build 52 #[(0, Operand.tmp 6), (1, Operand.tmp 8), (4, Operand.tmp 12)], type := 52, pos := "l4_client.go:58", after := #[{ on := 0, ground := Ground.data }, { on := 2, ground := Ground.data }, { on := 6, ground := Ground.data }], guard := none }) (v := ?v349) rfl (by kernel_rfl) (by kernel_rfl) (by kernel_rfl) (fun _ _ _ h => h) (Or.inl ⟨by rfl, ?y349⟩) (by assumption) ?r349
          case y349 => intro w_ hSw; (try dsimp only at hSw); go_simp; (try (with_reducible rfl))
          try simp only [Act.put, List.setIfInBounds_toArray, List.set_cons_zero, List.set_cons_succ]
          refine wpAnyH_ready (rs := [9]) (by kernel_rfl) (by simp) ?_
          refine AllReadyH.cons (o := { dst := none, op := Op.store 52 (Operand.tmp 5) (Operand.tmp 13), type := 0, pos := "l4_client.go:58", after := #[{ on := 8, ground := Ground.data }, { on := 7, ground := Ground.data }, { on := 2, ground := Ground.chain }, { on := 0, ground := Ground.phase }, { on := 1, ground := Ground.phase }, { on := 2, ground := Ground.phase }, { on := 3, ground := Ground.phase }, { on := 4, ground := Ground.phase }, { on := 5, ground := Ground.phase }, { on := 6, ground := Ground.phase }, { on := 7, ground := Ground.phase }, { on := 8, ground := Ground.phase }], guard := none }) rfl (fun K hK => ?k350) AllReadyH.nil
          case k350 =>
            have hb7 := F2.out
            have v0_ : V2.cell? ⟨g, 0, none⟩ = some (.string ⟨#[]⟩) := by simp [World.cell?, hb7]
            have v1_ : V2.cell? ⟨g, 1, none⟩ = some (.string ⟨#[]⟩) := by simp [World.cell?, hb7]
            have v2_ : V2.cell? ⟨g, 2, none⟩ = some (.string ⟨#[]⟩) := by simp [World.cell?, hb7]
            have v3_ : V2.cell? ⟨g, 3, none⟩ = some (.slice none 0 0) := by simp [World.cell?, hb7]
            have v4_ : V2.cell? ⟨g, 4, none⟩ = some (.slice none 0 0) := by simp [World.cell?, hb7]
            have v5_ : V2.cell? ⟨g, 5, none⟩ = some (.int .i64 0) := by simp [World.cell?, hb7]
            have v6_ : V2.cell? ⟨g, 6, none⟩ = some (.int .i64 0) := by simp [World.cell?, hb7]
            have v7_ : V2.cell? ⟨g, 7, none⟩ = some (.slice none 0 0) := by simp [World.cell?, hb7]
            have u0_ : V2.frozen? ⟨g, 0, none⟩ = false := by simp [World.frozen?, hb7]
            have u1_ : V2.frozen? ⟨g, 1, none⟩ = false := by simp [World.frozen?, hb7]
            have u2_ : V2.frozen? ⟨g, 2, none⟩ = false := by simp [World.frozen?, hb7]
            have u3_ : V2.frozen? ⟨g, 3, none⟩ = false := by simp [World.frozen?, hb7]
            have u4_ : V2.frozen? ⟨g, 4, none⟩ = false := by simp [World.frozen?, hb7]
            have u5_ : V2.frozen? ⟨g, 5, none⟩ = false := by simp [World.frozen?, hb7]
            have u6_ : V2.frozen? ⟨g, 6, none⟩ = false := by simp [World.frozen?, hb7]
            have u7_ : V2.frozen? ⟨g, 7, none⟩ = false := by simp [World.frozen?, hb7]
            go_simp
            generalize hV9 : World.setCell (World.setCell (World.setCell (World.setCell (World.setCell (World.setCell (World.setCell (World.setCell V2 ⟨g, 0, none⟩ _) ⟨g, 1, none⟩ _) ⟨g, 2, none⟩ _) ⟨g, 3, none⟩ _) ⟨g, 4, none⟩ _) ⟨g, 5, none⟩ _) ⟨g, 6, none⟩ _) ⟨g, 7, none⟩ _ = V9
            have G9 : V2.grownBy V9 (some (g)) := by rw [← hV9]; exact (((((((grown_set1 _ _ _ _).trans (grown_set1 _ _ _ _)).trans (grown_set1 _ _ _ _)).trans (grown_set1 _ _ _ _)).trans (grown_set1 _ _ _ _)).trans (grown_set1 _ _ _ _)).trans (grown_set1 _ _ _ _)).trans (grown_set1 _ _ _ _)
            have FF : V9.heap[g]? = some (.cells #[.string nm, .string m.f0.f0, .string m.f0.f1, .slice B0 m.f1.length d0, .slice B1 m.f2.length d1, .int .i64 0, .int .i64 0, .slice B2 rs.length d2] 52 (0, 0)) := by rw [← hV9, blk_set1 (blk_set1 (blk_set1 (blk_set1 (blk_set1 (blk_set1 (blk_set1 (blk_set1 (F2.out) 0 _) 1 _) 2 _) 3 _) 4 _) 5 _) 6 _) 7 _]; simp
            have BB : Below w.heap.size w V9 := by rw [← hV9]; exact (bel_set (bel_set (bel_set (bel_set (bel_set (bel_set (bel_set (bel_set hHeld.2.2.2.2 _ (by show w.heap.size ≤ g; omega)) _ (by show w.heap.size ≤ g; omega)) _ (by show w.heap.size ≤ g; omega)) _ (by show w.heap.size ≤ g; omega)) _ (by show w.heap.size ≤ g; omega)) _ (by show w.heap.size ≤ g; omega)) _ (by show w.heap.size ≤ g; omega)) _ (by show w.heap.size ≤ g; omega))
            clear hV9
            refine hK.out _ _ ?h351 (fun hHeld => ?j351)
            case h351 => exact ⟨(World.cell?_of_block (G9.block _ (World.block_lt_of_cell? _ _ hHeld.1) (fun e => by have e := Option.some.inj e; (try dsimp only at e); omega))).trans hHeld.1, (World.cell?_of_block (G9.block _ (World.block_lt_of_cell? _ _ hHeld.2.1) (fun e => by have e := Option.some.inj e; (try dsimp only at e); omega))).trans hHeld.2.1, (World.cell?_of_block (G9.block _ (World.block_lt_of_cell? _ _ hHeld.2.2.1) (fun e => by have e := Option.some.inj e; (try dsimp only at e); omega))).trans hHeld.2.2.1, (World.cell?_of_block (G9.block _ (World.block_lt_of_cell? _ _ hHeld.2.2.2.1) (fun e => by have e := Option.some.inj e; (try dsimp only at e); omega))).trans hHeld.2.2.2.1, BB⟩
            clear hK K
            try simp only [Act.put, List.setIfInBounds_toArray, List.set_cons_zero, List.set_cons_succ]
            replace U0 := Aside0.mk (R_else U0.out rfl G9 (Kd.R_ne U0.out F2.out (by decide)))
            replace U1 := Aside0.mk (R_else U1.out rfl G9 (Kd.R_ne U1.out F2.out (by decide)))
            replace U2 := Aside0.mk (R_else U2.out rfl G9 (Kd.R_ne U2.out F2.out (by decide)))
            replace F2 := Aside0.mk FF
            clear FF
            replace F1 := Aside0.mk ((G9.block _ (blk_lt F1.out) (fun e => by have e := Option.some.inj e; omega)).trans F1.out)
            refine wpAnyH_done (by kernel_rfl) ?_ _
            exact HKK.out B0 d0 B1 d1 B2 d2 g V9 ⟨hHeld.2.2.2.2, blk_lt F1.out, F2.out, U0.out, U1.out, U2.out, lg, F1.out⟩
  case hk =>
    intro B0 d0 B1 d1 B2 d2 g V ⟨BV, sV, f2, u0, u1, u2, lg, f1⟩
    clear HST HK HF0 HF1 join
    have U0 := Aside0.mk u0
    have U1 := Aside0.mk u1
    have U2 := Aside0.mk u2
    have F2 := Aside0.mk f2
    have BW := Aside0.mk BV
    have F1 := Aside0.mk f1
    clear u0 u1 u2 f2 BV f1
    have hok := fun (_ : True) => cliOk_any ⟨nm, m, 0, 0, rs⟩ B0 d0 B1 d1 B2 d2 V HF.out (Kd.R_reads' U0.out).2.2 (Kd.R_reads' U1.out).2.2 (Kd.R_reads' U2.out).2.2 (HGG.out.below BW.out)
    rw [HO.out] at hok
    have m0_ : V.cell? ⟨g, 0, none⟩ = some (.string nm) := by simp [World.cell?, F2.out]
    have m1_ : V.cell? ⟨g, 1, none⟩ = some (.string m.f0.f0) := by simp [World.cell?, F2.out]
    have m2_ : V.cell? ⟨g, 2, none⟩ = some (.string m.f0.f1) := by simp [World.cell?, F2.out]
    have m3_ : V.cell? ⟨g, 3, none⟩ = some (.slice B0 m.f1.length d0) := by simp [World.cell?, F2.out]
    have m4_ : V.cell? ⟨g, 4, none⟩ = some (.slice B1 m.f2.length d1) := by simp [World.cell?, F2.out]
    have m5_ : V.cell? ⟨g, 5, none⟩ = some (.int .i64 0) := by simp [World.cell?, F2.out]
    have m6_ : V.cell? ⟨g, 6, none⟩ = some (.int .i64 0) := by simp [World.cell?, F2.out]
    have m7_ : V.cell? ⟨g, 7, none⟩ = some (.slice B2 rs.length d2) := by simp [World.cell?, F2.out]
    cases q
    · obtain rfl : M = zCli := HM.out
      go_wp2_with (go_at_call 68; refine (hok trivial).mono ?_; rintro e w4 ⟨rfl, b4⟩; have B4 := Aside0.mk (bel_then BW.out b4); replace U0 := Aside0.mk (Kd.R_below U0.out b4); replace U1 := Aside0.mk (Kd.R_below U1.out b4); replace U2 := Aside0.mk (Kd.R_below U2.out b4); replace F1 := Aside0.mk (below_blk F1.out b4); replace F2 := Aside0.mk (below_blk F2.out b4); have n0_ : w4.cell? ⟨g, 0, none⟩ = some (.string nm) := (by simp [World.cell?, F2.out]); have n1_ : w4.cell? ⟨g, 1, none⟩ = some (.string m.f0.f0) := (by simp [World.cell?, F2.out]); have n2_ : w4.cell? ⟨g, 2, none⟩ = some (.string m.f0.f1) := (by simp [World.cell?, F2.out]); have n3_ : w4.cell? ⟨g, 3, none⟩ = some (.slice B0 m.f1.length d0) := (by simp [World.cell?, F2.out]); have n4_ : w4.cell? ⟨g, 4, none⟩ = some (.slice B1 m.f2.length d1) := (by simp [World.cell?, F2.out]); have n5_ : w4.cell? ⟨g, 5, none⟩ = some (.int .i64 0) := (by simp [World.cell?, F2.out]); have n6_ : w4.cell? ⟨g, 6, none⟩ = some (.int .i64 0) := (by simp [World.cell?, F2.out]); have n7_ : w4.cell? ⟨g, 7, none⟩ = some (.slice B2 rs.length d2) := (by simp [World.cell?, F2.out]); have k0_ : w4.cell? ⟨w.heap.size + 1, 0, none⟩ = some (.string ⟨#[]⟩) := (by simp [World.cell?, F1.out]); have k1_ : w4.cell? ⟨w.heap.size + 1, 1, none⟩ = some (.string ⟨#[]⟩) := (by simp [World.cell?, F1.out]); have k2_ : w4.cell? ⟨w.heap.size + 1, 2, none⟩ = some (.string ⟨#[]⟩) := (by simp [World.cell?, F1.out]); have k3_ : w4.cell? ⟨w.heap.size + 1, 3, none⟩ = some (.slice none 0 0) := (by simp [World.cell?, F1.out]); have k4_ : w4.cell? ⟨w.heap.size + 1, 4, none⟩ = some (.slice none 0 0) := (by simp [World.cell?, F1.out]); have k5_ : w4.cell? ⟨w.heap.size + 1, 5, none⟩ = some (.int .i64 0) := (by simp [World.cell?, F1.out]); have k6_ : w4.cell? ⟨w.heap.size + 1, 6, none⟩ = some (.int .i64 0) := (by simp [World.cell?, F1.out]); have k7_ : w4.cell? ⟨w.heap.size + 1, 7, none⟩ = some (.slice none 0 0) := (by simp [World.cell?, F1.out]); have kz0_ : w4.frozen? ⟨w.heap.size + 1, 0, none⟩ = false := (by simp [World.frozen?, F1.out]); have kz1_ : w4.frozen? ⟨w.heap.size + 1, 1, none⟩ = false := (by simp [World.frozen?, F1.out]); have kz2_ : w4.frozen? ⟨w.heap.size + 1, 2, none⟩ = false := (by simp [World.frozen?, F1.out]); have kz3_ : w4.frozen? ⟨w.heap.size + 1, 3, none⟩ = false := (by simp [World.frozen?, F1.out]); have kz4_ : w4.frozen? ⟨w.heap.size + 1, 4, none⟩ = false := (by simp [World.frozen?, F1.out]); have kz5_ : w4.frozen? ⟨w.heap.size + 1, 5, none⟩ = false := (by simp [World.frozen?, F1.out]); have kz6_ : w4.frozen? ⟨w.heap.size + 1, 6, none⟩ = false := (by simp [World.frozen?, F1.out]); have kz7_ : w4.frozen? ⟨w.heap.size + 1, 7, none⟩ = false := (by simp [World.frozen?, F1.out]); clear b4)
      refine bodyPost_ret (v := .agg #[.string ⟨#[]⟩, .string ⟨#[]⟩, .string ⟨#[]⟩, .slice none 0 0, .slice none 0 0, .int .i64 0, .int .i64 0, .slice none 0 0]) ?hrA rfl ?hpA
      case hrA => simp [results, Tryd.results21, go_sem, k0_, k1_, k2_, k3_, k4_, k5_, k6_, k7_]
      case hpA => exact ⟨none, 0, none, 0, none, 0, rfl, Kd.R_nil _ _ _ _ _, Kd.R_nil _ _ _ _ _, Kd.R_nil _ _ _ _ _, by (with_reducible repeat (first | exact B4.out | refine bel_alloc ?_ _ | refine bel_set ?_ _ ?_ | refine blw_drewN ?_ _ | refine Below.drew ?_)); all_goals (first | (simp; done) | (simp; omega) | omega)⟩
    · obtain rfl : M = ⟨nm, m, 0, 0, rs⟩ := HM.out
      go_wp2_with (go_at_call 68; refine (hok trivial).mono ?_; rintro e w4 ⟨rfl, b4⟩; have B4 := Aside0.mk (bel_then BW.out b4); replace U0 := Aside0.mk (Kd.R_below U0.out b4); replace U1 := Aside0.mk (Kd.R_below U1.out b4); replace U2 := Aside0.mk (Kd.R_below U2.out b4); replace F1 := Aside0.mk (below_blk F1.out b4); replace F2 := Aside0.mk (below_blk F2.out b4); have n0_ : w4.cell? ⟨g, 0, none⟩ = some (.string nm) := (by simp [World.cell?, F2.out]); have n1_ : w4.cell? ⟨g, 1, none⟩ = some (.string m.f0.f0) := (by simp [World.cell?, F2.out]); have n2_ : w4.cell? ⟨g, 2, none⟩ = some (.string m.f0.f1) := (by simp [World.cell?, F2.out]); have n3_ : w4.cell? ⟨g, 3, none⟩ = some (.slice B0 m.f1.length d0) := (by simp [World.cell?, F2.out]); have n4_ : w4.cell? ⟨g, 4, none⟩ = some (.slice B1 m.f2.length d1) := (by simp [World.cell?, F2.out]); have n5_ : w4.cell? ⟨g, 5, none⟩ = some (.int .i64 0) := (by simp [World.cell?, F2.out]); have n6_ : w4.cell? ⟨g, 6, none⟩ = some (.int .i64 0) := (by simp [World.cell?, F2.out]); have n7_ : w4.cell? ⟨g, 7, none⟩ = some (.slice B2 rs.length d2) := (by simp [World.cell?, F2.out]); have k0_ : w4.cell? ⟨w.heap.size + 1, 0, none⟩ = some (.string ⟨#[]⟩) := (by simp [World.cell?, F1.out]); have k1_ : w4.cell? ⟨w.heap.size + 1, 1, none⟩ = some (.string ⟨#[]⟩) := (by simp [World.cell?, F1.out]); have k2_ : w4.cell? ⟨w.heap.size + 1, 2, none⟩ = some (.string ⟨#[]⟩) := (by simp [World.cell?, F1.out]); have k3_ : w4.cell? ⟨w.heap.size + 1, 3, none⟩ = some (.slice none 0 0) := (by simp [World.cell?, F1.out]); have k4_ : w4.cell? ⟨w.heap.size + 1, 4, none⟩ = some (.slice none 0 0) := (by simp [World.cell?, F1.out]); have k5_ : w4.cell? ⟨w.heap.size + 1, 5, none⟩ = some (.int .i64 0) := (by simp [World.cell?, F1.out]); have k6_ : w4.cell? ⟨w.heap.size + 1, 6, none⟩ = some (.int .i64 0) := (by simp [World.cell?, F1.out]); have k7_ : w4.cell? ⟨w.heap.size + 1, 7, none⟩ = some (.slice none 0 0) := (by simp [World.cell?, F1.out]); have kz0_ : w4.frozen? ⟨w.heap.size + 1, 0, none⟩ = false := (by simp [World.frozen?, F1.out]); have kz1_ : w4.frozen? ⟨w.heap.size + 1, 1, none⟩ = false := (by simp [World.frozen?, F1.out]); have kz2_ : w4.frozen? ⟨w.heap.size + 1, 2, none⟩ = false := (by simp [World.frozen?, F1.out]); have kz3_ : w4.frozen? ⟨w.heap.size + 1, 3, none⟩ = false := (by simp [World.frozen?, F1.out]); have kz4_ : w4.frozen? ⟨w.heap.size + 1, 4, none⟩ = false := (by simp [World.frozen?, F1.out]); have kz5_ : w4.frozen? ⟨w.heap.size + 1, 5, none⟩ = false := (by simp [World.frozen?, F1.out]); have kz6_ : w4.frozen? ⟨w.heap.size + 1, 6, none⟩ = false := (by simp [World.frozen?, F1.out]); have kz7_ : w4.frozen? ⟨w.heap.size + 1, 7, none⟩ = false := (by simp [World.frozen?, F1.out]); clear b4)
      refine bodyPost_ret (v := .agg #[.string nm, .string m.f0.f0, .string m.f0.f1, .slice B0 m.f1.length d0, .slice B1 m.f2.length d1, .int .i64 0, .int .i64 0, .slice B2 rs.length d2]) ?hrB rfl ?hpB
      case hrB => simp [results, Tryd.results21, go_sem, k0_, k1_, k2_, k3_, k4_, k5_, k6_, k7_]
      case hpB =>
        have b0 := B4.out
        generalize hwz : World.setCell (World.setCell (World.setCell (World.setCell (World.setCell (World.setCell (World.setCell (World.setCell w4 ⟨w.heap.size + 1, 0, none⟩ _) ⟨w.heap.size + 1, 1, none⟩ _) ⟨w.heap.size + 1, 2, none⟩ _) ⟨w.heap.size + 1, 3, none⟩ _) ⟨w.heap.size + 1, 4, none⟩ _) ⟨w.heap.size + 1, 5, none⟩ _) ⟨w.heap.size + 1, 6, none⟩ _) ⟨w.heap.size + 1, 7, none⟩ _ = wz
        have GZ : w4.grownBy wz (some (w.heap.size + 1)) := by rw [← hwz]; exact (((((((grown_set1 _ _ _ _).trans (grown_set1 _ _ _ _)).trans (grown_set1 _ _ _ _)).trans (grown_set1 _ _ _ _)).trans (grown_set1 _ _ _ _)).trans (grown_set1 _ _ _ _)).trans (grown_set1 _ _ _ _)).trans (grown_set1 _ _ _ _)
        have BZ : Below w.heap.size w wz := by rw [← hwz]; exact (bel_set (bel_set (bel_set (bel_set (bel_set (bel_set (bel_set (bel_set b0 _ (by show w.heap.size ≤ w.heap.size + 1; omega)) _ (by show w.heap.size ≤ w.heap.size + 1; omega)) _ (by show w.heap.size ≤ w.heap.size + 1; omega)) _ (by show w.heap.size ≤ w.heap.size + 1; omega)) _ (by show w.heap.size ≤ w.heap.size + 1; omega)) _ (by show w.heap.size ≤ w.heap.size + 1; omega)) _ (by show w.heap.size ≤ w.heap.size + 1; omega)) _ (by show w.heap.size ≤ w.heap.size + 1; omega))
        clear hwz
        exact ⟨B0, d0, B1, d1, B2, d2, rfl, R_else U0.out rfl GZ (Kd.R_ne U0.out F1.out (by decide)), R_else U1.out rfl GZ (Kd.R_ne U1.out F1.out (by decide)), R_else U2.out rfl GZ (Kd.R_ne U2.out F1.out (by decide)), BZ⟩

set_option maxRecDepth 100000 in
set_option maxHeartbeats 8000000 in
theorem specNew1_any (nm : ByteArray) (m : SMail) (A0 : Option Addr) (c0 : Nat) (A1 : Option Addr) (c1 : Nat) (w : World) (hn : nm.size ≤ 1048576) (hw : fitMail m) (hr0 : Kd.C kAddr w A0 m.f1.length m.f1) (hr1 : Kd.C Kd.string w A1 m.f2.length m.f2) :
    Calls Tryd.prog 65 #[.string nm, .agg #[.string m.f0.f0, .string m.f0.f1, .slice A0 m.f1.length c0, .slice A1 m.f2.length c1]] w fun e w' => ∃ B0 d0 B1 d1 B2 d2, e = .returned (.agg #[.string (cliB nm m).f0, .string (cliB nm m).f1.f0.f0, .string (cliB nm m).f1.f0.f1, .slice B0 (cliB nm m).f1.f1.length d0, .slice B1 (cliB nm m).f1.f2.length d1, .int .i64 (cliB nm m).f2, .int .i64 (cliB nm m).f3, .slice B2 (cliB nm m).f4.length d2]) ∧ Kd.R kAddr 30 w' w.heap.size (fun _ => True) (.slice B0 (cliB nm m).f1.f1.length d0) (cliB nm m).f1.f1 ∧ Kd.R Kd.string 9 w' w.heap.size (fun _ => True) (.slice B1 (cliB nm m).f1.f2.length d1) (cliB nm m).f1.f2 ∧ Kd.R (Kd.int .i64) 3 w' w.heap.size (fun _ => True) (.slice B2 (cliB nm m).f4.length d2) (cliB nm m).f4 ∧ Below w.heap.size w w' := by
  have hcp := fun W (hW : Below w.heap.size w W) => specCopy_any m A0 c0 A1 c1 W hw (Kd.C_below hr0 hW) (Kd.C_below hr1 hW)
  have hl1 := hw.2.1.1
  unfold cliB
  obtain ⟨rs, hrs⟩ : ∃ rs, rs = List.replicate m.f1.length (0 : Int) := ⟨_, rfl⟩
  rw [← hrs]
  have HRS := Lib.hid hrs
  clear hw hr0 hr1 hrs
  go_enter Tryd.func65, Tryd.ntmps65
  go_wp2
  obtain ⟨W0, hW0⟩ : ∃ W, W = (w.alloc (.cells #[.string m.f0.f0, .string m.f0.f1, .slice A0 m.f1.length c0, .slice A1 m.f2.length c1] 33)).alloc (.cells #[.string ⟨#[]⟩, .string ⟨#[]⟩, .string ⟨#[]⟩, .slice none 0 0, .slice none 0 0, .int .i64 0, .int .i64 0, .slice none 0 0] 52) := ⟨_, rfl⟩
  rw [← hW0]
  have HF0 : Aside0 (W0.heap[w.heap.size]? = some (.cells #[.string m.f0.f0, .string m.f0.f1, .slice A0 m.f1.length c0, .slice A1 m.f2.length c1] 33 (0, 0))) := ⟨by rw [hW0]; exact below_blk (blk_new _ _) (bel_alloc (Below.refl _ _) _)⟩
  have HF1 : Aside0 (W0.heap[w.heap.size + 1]? = some (.cells #[.string ⟨#[]⟩, .string ⟨#[]⟩, .string ⟨#[]⟩, .slice none 0 0, .slice none 0 0, .int .i64 0, .int .i64 0, .slice none 0 0] 52 (0, 0))) := ⟨by rw [hW0, show w.heap.size + 1 = (w.alloc (.cells #[.string m.f0.f0, .string m.f0.f1, .slice A0 m.f1.length c0, .slice A1 m.f2.length c1] 33)).heap.size by simp]; exact blk_new _ _⟩
  have B0 : Below w.heap.size w W0 := by rw [hW0]; exact bel_alloc (bel_alloc (Below.refl _ _) _) _
  clear hW0
  have join : Hid (∀ {goal : Prop} {G : Option Addr → Nat → Option Addr → Nat → Option Addr → Nat → World → Prop} (rg : Hid (∀ (B0 : Option Addr) (d0 : Nat) (B1 : Option Addr) (d1 : Nat) (B2 : Option Addr) (d2 : Nat) (V : World), Below w.heap.size w V ∧ w.heap.size + 1 < V.heap.size ∧ V.heap[w.heap.size + 1]? = some (.cells #[.string nm, .string m.f0.f0, .string m.f0.f1, .slice B0 m.f1.length d0, .slice B1 m.f2.length d1, .int .i64 0, .int .i64 0, .slice B2 rs.length d2] 52 (0, 0)) ∧ Kd.R kAddr 30 V w.heap.size (fun _ => True) (.slice B0 m.f1.length d0) m.f1 ∧ Kd.R Kd.string 9 V w.heap.size (fun _ => True) (.slice B1 m.f2.length d1) m.f2 ∧ Kd.R (Kd.int .i64) 3 V w.heap.size (fun _ => True) (.slice B2 rs.length d2) rs → G B0 d0 B1 d1 B2 d2 V) → goal) (hk : ∀ (B0 : Option Addr) (d0 : Nat) (B1 : Option Addr) (d1 : Nat) (B2 : Option Addr) (d2 : Nat) (V : World), Below w.heap.size w V ∧ w.heap.size + 1 < V.heap.size ∧ V.heap[w.heap.size + 1]? = some (.cells #[.string nm, .string m.f0.f0, .string m.f0.f1, .slice B0 m.f1.length d0, .slice B1 m.f2.length d1, .int .i64 0, .int .i64 0, .slice B2 rs.length d2] 52 (0, 0)) ∧ Kd.R kAddr 30 V w.heap.size (fun _ => True) (.slice B0 m.f1.length d0) m.f1 ∧ Kd.R Kd.string 9 V w.heap.size (fun _ => True) (.slice B1 m.f2.length d1) m.f2 ∧ Kd.R (Kd.int .i64) 3 V w.heap.size (fun _ => True) (.slice B2 rs.length d2) rs → G B0 d0 B1 d1 B2 d2 V), goal) := Lib.hid (fun f h => f (Lib.hid h))
  have HK : Aside0 (∀ W W1, Below W.heap.size W W1 → (W.cell? ⟨w.heap.size, 0, none⟩ = some (.string m.f0.f0) ∧ W.cell? ⟨w.heap.size, 1, none⟩ = some (.string m.f0.f1) ∧ W.cell? ⟨w.heap.size, 2, none⟩ = some (.slice A0 m.f1.length c0) ∧ W.cell? ⟨w.heap.size, 3, none⟩ = some (.slice A1 m.f2.length c1) ∧ Below w.heap.size w W) → (W1.cell? ⟨w.heap.size, 0, none⟩ = some (.string m.f0.f0) ∧ W1.cell? ⟨w.heap.size, 1, none⟩ = some (.string m.f0.f1) ∧ W1.cell? ⟨w.heap.size, 2, none⟩ = some (.slice A0 m.f1.length c0) ∧ W1.cell? ⟨w.heap.size, 3, none⟩ = some (.slice A1 m.f2.length c1) ∧ Below w.heap.size w W1)) := ⟨fun W W1 hb h => ⟨(hb.cell (World.block_lt_of_cell? W _ (h.1))).trans (h.1), (hb.cell (World.block_lt_of_cell? W _ (h.2.1))).trans (h.2.1), (hb.cell (World.block_lt_of_cell? W _ (h.2.2.1))).trans (h.2.2.1), (hb.cell (World.block_lt_of_cell? W _ (h.2.2.2.1))).trans (h.2.2.2.1), bel_then (h.2.2.2.2) hb⟩⟩
  have x0_ : W0.cell? ⟨w.heap.size, 0, none⟩ = some (.string m.f0.f0) := by simp [World.cell?, HF0.out]
  have x1_ : W0.cell? ⟨w.heap.size, 1, none⟩ = some (.string m.f0.f1) := by simp [World.cell?, HF0.out]
  have x2_ : W0.cell? ⟨w.heap.size, 2, none⟩ = some (.slice A0 m.f1.length c0) := by simp [World.cell?, HF0.out]
  have x3_ : W0.cell? ⟨w.heap.size, 3, none⟩ = some (.slice A1 m.f2.length c1) := by simp [World.cell?, HF0.out]
  have HST : Aside0 ((fun W => W.cell? ⟨w.heap.size, 0, none⟩ = some (.string m.f0.f0) ∧ W.cell? ⟨w.heap.size, 1, none⟩ = some (.string m.f0.f1) ∧ W.cell? ⟨w.heap.size, 2, none⟩ = some (.slice A0 m.f1.length c0) ∧ W.cell? ⟨w.heap.size, 3, none⟩ = some (.slice A1 m.f2.length c1) ∧ Below w.heap.size w W) W0.drew) := ⟨⟨x0_, x1_, x2_, x3_, bel_then B0 (drew_below0 W0)⟩⟩
  clear B0 x0_ x1_ x2_ x3_
  apply join.out
  case rg =>
    intro HKK
    refine wp_region_held_drew (S := (fun W => W.cell? ⟨w.heap.size, 0, none⟩ = some (.string m.f0.f0) ∧ W.cell? ⟨w.heap.size, 1, none⟩ = some (.string m.f0.f1) ∧ W.cell? ⟨w.heap.size, 2, none⟩ = some (.slice A0 m.f1.length c0) ∧ W.cell? ⟨w.heap.size, 3, none⟩ = some (.slice A1 m.f2.length c1) ∧ Below w.heap.size w W)) (by kernel_rfl) ?s352 (fun hHeld => ?t352)
    case s352 => exact HST.out
    generalize hV0 : World.drew _ = V0 at hHeld ⊢
    have F1 : Aside0 (V0.heap[w.heap.size + 1]? = some (.cells #[.string ⟨#[]⟩, .string ⟨#[]⟩, .string ⟨#[]⟩, .slice none 0 0, .slice none 0 0, .int .i64 0, .int .i64 0, .slice none 0 0] 52 (0, 0))) := ⟨by rw [← hV0]; exact HF1.out⟩
    clear hV0
    refine wpAnyH_take (i := 0) (oi := { dst := some 5, op := Op.move (Operand.tmp 0), type := 9, pos := "l4_client.go:38", after := #[], guard := none }) (v := ?v353) rfl (by kernel_rfl) (by kernel_rfl) (by kernel_rfl) (fun _ _ _ h => h) (Or.inl ⟨by rfl, ?y353⟩) (by assumption) ?r353
    case y353 => intro w_ hSw; (try dsimp only at hSw); go_simp; (try (with_reducible rfl))
    try simp only [Act.put, List.setIfInBounds_toArray, List.set_cons_zero, List.set_cons_succ]
    refine wpAnyH_take (i := 1) (oi := { dst := some 6, op := Op.load 33 (Operand.tmp 3), type := 33, pos := "l4_client.go:38", after := #[], guard := none }) (v := ?v354) rfl (by kernel_rfl) (by kernel_rfl) (by kernel_rfl) (fun _ _ _ h => h) (Or.inl ⟨by rfl, ?y354⟩) (by assumption) ?r354
    case y354 => intro w_ hSw; (try dsimp only at hSw); go_simp; (try (with_reducible rfl))
    try simp only [Act.put, List.setIfInBounds_toArray, List.set_cons_zero, List.set_cons_succ]
    refine wpAnyH_take (i := 3) (oi := { dst := some 8, op := Op.fieldAddr 33 (Operand.tmp 3) 1, type := 0, pos := "l4_client.go:38", after := #[], guard := none }) (v := ?v355) rfl (by kernel_rfl) (by kernel_rfl) (by kernel_rfl) (fun _ _ _ h => h) (Or.inl ⟨by rfl, ?y355⟩) (by assumption) ?r355
    case y355 => intro w_ hSw; (try dsimp only at hSw); go_simp; (try (with_reducible rfl))
    try simp only [Act.put, List.setIfInBounds_toArray, List.set_cons_zero, List.set_cons_succ]
    refine wpAnyH_take (i := 4) (oi := { dst := some 9, op := Op.load 31 (Operand.tmp 8), type := 31, pos := "l4_client.go:38", after := #[{ on := 3, ground := Ground.data }], guard := none }) (v := ?v356) rfl (by kernel_rfl) (by kernel_rfl) (by kernel_rfl) (fun _ _ _ h => h) (Or.inl ⟨by rfl, ?y356⟩) (by assumption) ?r356
    case y356 => intro w_ hSw; (try dsimp only at hSw); go_simp; (try (with_reducible rfl))
    try simp only [Act.put, List.setIfInBounds_toArray, List.set_cons_zero, List.set_cons_succ]
    refine wpAnyH_take (i := 5) (oi := { dst := some 10, op := Op.call { callee := Callee.builtin Builtin.len, args := #[Operand.tmp 9], argTypes := #[31] }, type := 3, pos := "l4_client.go:38", after := #[{ on := 4, ground := Ground.data }], guard := none }) (v := ?v357) rfl (by kernel_rfl) (by kernel_rfl) (by kernel_rfl) (fun _ _ _ h => h) (Or.inl ⟨by rfl, ?y357⟩) (by assumption) ?r357
    case y357 => intro w_ hSw; (try dsimp only at hSw); go_simp; (try (with_reducible rfl))
    try simp only [Act.put, List.setIfInBounds_toArray, List.set_cons_zero, List.set_cons_succ]
    refine wpAnyH_ready (rs := [2, 6]) (by kernel_rfl) (by simp) ?_
    refine AllReadyH.cons (o := { dst := some 7, op := Op.call { callee := Callee.value (Operand.func 112), args := #[Operand.tmp 6], argTypes := #[33] }, type := 33, pos := "l4_client.go:38", after := #[{ on := 1, ground := Ground.data }], guard := none }) rfl (fun K hK => ?k358) (AllReadyH.cons (o := { dst := some 11, op := Op.makeSlice 50 (Operand.tmp 10) (Operand.tmp 10), type := 50, pos := "l4_client.go:38", after := #[{ on := 5, ground := Ground.data }, { on := 5, ground := Ground.data }], guard := none }) rfl (fun K hK => ?k359) AllReadyH.nil)
    case k358 =>
      have hsl2 : w.heap.size ≤ V0.heap.size := (hHeld.2.2.2.2).size
      go_simp
      refine (hcp _ hHeld.2.2.2.2).mono ?_
      rintro e V2 ⟨B0, d0, B1, d1, rfl, ga0, ga1, b2⟩
      refine hK.out _ _ ?h360 (fun hHeld => ?j360)
      case h360 => exact HK.out _ _ b2 hHeld
      clear hK K
      try simp only [Act.put, List.setIfInBounds_toArray, List.set_cons_zero, List.set_cons_succ]
      have U0 := Aside0.mk (Kd.R_lower (base' := w.heap.size) ga0 hsl2)
      have U1 := Aside0.mk (Kd.R_lower (base' := w.heap.size) ga1 hsl2)
      clear ga0 ga1 hsl2
      replace F1 := Aside0.mk (below_blk F1.out b2)
      refine wpAnyH_ready (rs := [6]) (by kernel_rfl) (by simp) ?_
      refine AllReadyH.cons (o := { dst := some 11, op := Op.makeSlice 50 (Operand.tmp 10) (Operand.tmp 10), type := 50, pos := "l4_client.go:38", after := #[{ on := 5, ground := Ground.data }, { on := 5, ground := Ground.data }], guard := none }) rfl (fun K hK => ?k361) AllReadyH.nil
      case k361 =>
        refine Kd.R_make_step (Kd.int .i64) (w0 := w) (w.heap.size) 3 (by rfl) (N := 11) rfl 50 (.tmp 10) (.tmp 10) rfl (m.f1.length : Int) rfl rfl Tryd.underlying50 (.int .i64 0) 8 info3 rfl (by decide) (by omega) (0 : Int) (ok := fun _ => True) (okp := fun _ => True) rfl (fun _ h => h) trivial (by omega) ?aL6 hHeld.2.2.2.2 ?aS6 ?_
        case aL6 => (rw [Int.toNat_natCast]; omega)
        case aS6 => exact (hHeld.2.2.2.2).size
        intro v6 V6 ho hb hg hat
        rw [Int.toNat_natCast, ← HRS.out] at ho
        have b6 : Below V2.heap.size V2 V6 := ⟨hg.os, hg.tape, hg.output, hg.size, fun k hk => hg.block k hk (fun e => by cases e)⟩
        obtain ⟨B2, d2, hv6⟩ := Kd.R_slice ho
        subst hv6
        clear hg hat hb
        refine hK.out _ _ ?h362 (fun hHeld => ?j362)
        case h362 => exact HK.out _ _ b6 hHeld
        clear hK K
        try simp only [Act.put, List.setIfInBounds_toArray, List.set_cons_zero, List.set_cons_succ]
        have U2 := Aside0.mk ho
        clear ho
        replace F1 := Aside0.mk (below_blk F1.out b6)
        replace U0 := Aside0.mk (Kd.R_below U0.out b6)
        replace U1 := Aside0.mk (Kd.R_below U1.out b6)
        refine wpAnyH_take (i := 7) (oi := { dst := some 12, op := Op.build 52 #[(0, Operand.tmp 5), (1, Operand.tmp 7), (4, Operand.tmp 11)], type := 52, pos := "l4_client.go:38", after := #[{ on := 0, ground := Ground.data }, { on := 2, ground := Ground.data }, { on := 6, ground := Ground.data }], guard := none }) (v := ?v363) rfl (by kernel_rfl) (by kernel_rfl) (by kernel_rfl) (fun _ _ _ h => h) (Or.inl ⟨by rfl, ?y363⟩) (by assumption) ?r363
        case y363 => intro w_ hSw; (try dsimp only at hSw); go_simp; (try (with_reducible rfl))
        try simp only [Act.put, List.setIfInBounds_toArray, List.set_cons_zero, List.set_cons_succ]
        refine wpAnyH_ready (rs := [8]) (by kernel_rfl) (by simp) ?_
        refine AllReadyH.cons (o := { dst := none, op := Op.store 52 (Operand.tmp 4) (Operand.tmp 12), type := 0, pos := "l4_client.go:38", after := #[{ on := 7, ground := Ground.data }, { on := 2, ground := Ground.chain }, { on := 0, ground := Ground.phase }, { on := 1, ground := Ground.phase }, { on := 2, ground := Ground.phase }, { on := 3, ground := Ground.phase }, { on := 4, ground := Ground.phase }, { on := 5, ground := Ground.phase }, { on := 6, ground := Ground.phase }, { on := 7, ground := Ground.phase }], guard := none }) rfl (fun K hK => ?k364) AllReadyH.nil
        case k364 =>
          have hb7 := F1.out
          have v0_ : V6.cell? ⟨w.heap.size + 1, 0, none⟩ = some (.string ⟨#[]⟩) := by simp [World.cell?, hb7]
          have v1_ : V6.cell? ⟨w.heap.size + 1, 1, none⟩ = some (.string ⟨#[]⟩) := by simp [World.cell?, hb7]
          have v2_ : V6.cell? ⟨w.heap.size + 1, 2, none⟩ = some (.string ⟨#[]⟩) := by simp [World.cell?, hb7]
          have v3_ : V6.cell? ⟨w.heap.size + 1, 3, none⟩ = some (.slice none 0 0) := by simp [World.cell?, hb7]
          have v4_ : V6.cell? ⟨w.heap.size + 1, 4, none⟩ = some (.slice none 0 0) := by simp [World.cell?, hb7]
          have v5_ : V6.cell? ⟨w.heap.size + 1, 5, none⟩ = some (.int .i64 0) := by simp [World.cell?, hb7]
          have v6_ : V6.cell? ⟨w.heap.size + 1, 6, none⟩ = some (.int .i64 0) := by simp [World.cell?, hb7]
          have v7_ : V6.cell? ⟨w.heap.size + 1, 7, none⟩ = some (.slice none 0 0) := by simp [World.cell?, hb7]
          have u0_ : V6.frozen? ⟨w.heap.size + 1, 0, none⟩ = false := by simp [World.frozen?, hb7]
          have u1_ : V6.frozen? ⟨w.heap.size + 1, 1, none⟩ = false := by simp [World.frozen?, hb7]
          have u2_ : V6.frozen? ⟨w.heap.size + 1, 2, none⟩ = false := by simp [World.frozen?, hb7]
          have u3_ : V6.frozen? ⟨w.heap.size + 1, 3, none⟩ = false := by simp [World.frozen?, hb7]
          have u4_ : V6.frozen? ⟨w.heap.size + 1, 4, none⟩ = false := by simp [World.frozen?, hb7]
          have u5_ : V6.frozen? ⟨w.heap.size + 1, 5, none⟩ = false := by simp [World.frozen?, hb7]
          have u6_ : V6.frozen? ⟨w.heap.size + 1, 6, none⟩ = false := by simp [World.frozen?, hb7]
          have u7_ : V6.frozen? ⟨w.heap.size + 1, 7, none⟩ = false := by simp [World.frozen?, hb7]
          go_simp
          generalize hV8 : World.setCell (World.setCell (World.setCell (World.setCell (World.setCell (World.setCell (World.setCell (World.setCell V6 ⟨w.heap.size + 1, 0, none⟩ _) ⟨w.heap.size + 1, 1, none⟩ _) ⟨w.heap.size + 1, 2, none⟩ _) ⟨w.heap.size + 1, 3, none⟩ _) ⟨w.heap.size + 1, 4, none⟩ _) ⟨w.heap.size + 1, 5, none⟩ _) ⟨w.heap.size + 1, 6, none⟩ _) ⟨w.heap.size + 1, 7, none⟩ _ = V8
          have G8 : V6.grownBy V8 (some (w.heap.size + 1)) := by rw [← hV8]; exact (((((((grown_set1 _ _ _ _).trans (grown_set1 _ _ _ _)).trans (grown_set1 _ _ _ _)).trans (grown_set1 _ _ _ _)).trans (grown_set1 _ _ _ _)).trans (grown_set1 _ _ _ _)).trans (grown_set1 _ _ _ _)).trans (grown_set1 _ _ _ _)
          have FF : V8.heap[w.heap.size + 1]? = some (.cells #[.string nm, .string m.f0.f0, .string m.f0.f1, .slice B0 m.f1.length d0, .slice B1 m.f2.length d1, .int .i64 0, .int .i64 0, .slice B2 rs.length d2] 52 (0, 0)) := by rw [← hV8, blk_set1 (blk_set1 (blk_set1 (blk_set1 (blk_set1 (blk_set1 (blk_set1 (blk_set1 (F1.out) 0 _) 1 _) 2 _) 3 _) 4 _) 5 _) 6 _) 7 _]; simp
          have BB : Below w.heap.size w V8 := by rw [← hV8]; exact (bel_set (bel_set (bel_set (bel_set (bel_set (bel_set (bel_set (bel_set hHeld.2.2.2.2 _ (by show w.heap.size ≤ w.heap.size + 1; omega)) _ (by show w.heap.size ≤ w.heap.size + 1; omega)) _ (by show w.heap.size ≤ w.heap.size + 1; omega)) _ (by show w.heap.size ≤ w.heap.size + 1; omega)) _ (by show w.heap.size ≤ w.heap.size + 1; omega)) _ (by show w.heap.size ≤ w.heap.size + 1; omega)) _ (by show w.heap.size ≤ w.heap.size + 1; omega)) _ (by show w.heap.size ≤ w.heap.size + 1; omega))
          clear hV8
          refine hK.out _ _ ?h365 (fun hHeld => ?j365)
          case h365 => exact ⟨(World.cell?_of_block (G8.block _ (World.block_lt_of_cell? _ _ hHeld.1) (fun e => by have e := Option.some.inj e; (try dsimp only at e); omega))).trans hHeld.1, (World.cell?_of_block (G8.block _ (World.block_lt_of_cell? _ _ hHeld.2.1) (fun e => by have e := Option.some.inj e; (try dsimp only at e); omega))).trans hHeld.2.1, (World.cell?_of_block (G8.block _ (World.block_lt_of_cell? _ _ hHeld.2.2.1) (fun e => by have e := Option.some.inj e; (try dsimp only at e); omega))).trans hHeld.2.2.1, (World.cell?_of_block (G8.block _ (World.block_lt_of_cell? _ _ hHeld.2.2.2.1) (fun e => by have e := Option.some.inj e; (try dsimp only at e); omega))).trans hHeld.2.2.2.1, BB⟩
          clear hK K
          try simp only [Act.put, List.setIfInBounds_toArray, List.set_cons_zero, List.set_cons_succ]
          replace U0 := Aside0.mk (R_else U0.out rfl G8 (Kd.R_ne U0.out F1.out (by decide)))
          replace U1 := Aside0.mk (R_else U1.out rfl G8 (Kd.R_ne U1.out F1.out (by decide)))
          replace U2 := Aside0.mk (R_else U2.out rfl G8 (Kd.R_ne U2.out F1.out (by decide)))
          replace F1 := Aside0.mk FF
          clear FF
          refine wpAnyH_done (by kernel_rfl) ?_ _
          exact HKK.out B0 d0 B1 d1 B2 d2 V8 ⟨hHeld.2.2.2.2, blk_lt F1.out, F1.out, U0.out, U1.out, U2.out⟩
    case k359 =>
      refine Kd.R_make_step (Kd.int .i64) (w0 := w) (w.heap.size) 3 (by rfl) (N := 11) rfl 50 (.tmp 10) (.tmp 10) rfl (m.f1.length : Int) rfl rfl Tryd.underlying50 (.int .i64 0) 8 info3 rfl (by decide) (by omega) (0 : Int) (ok := fun _ => True) (okp := fun _ => True) rfl (fun _ h => h) trivial (by omega) ?aL6 hHeld.2.2.2.2 ?aS6 ?_
      case aL6 => (rw [Int.toNat_natCast]; omega)
      case aS6 => exact (hHeld.2.2.2.2).size
      intro v6 V6 ho hb hg hat
      rw [Int.toNat_natCast, ← HRS.out] at ho
      have b6 : Below V0.heap.size V0 V6 := ⟨hg.os, hg.tape, hg.output, hg.size, fun k hk => hg.block k hk (fun e => by cases e)⟩
      obtain ⟨B2, d2, hv6⟩ := Kd.R_slice ho
      subst hv6
      clear hg hat hb
      refine hK.out _ _ ?h366 (fun hHeld => ?j366)
      case h366 => exact HK.out _ _ b6 hHeld
      clear hK K
      try simp only [Act.put, List.setIfInBounds_toArray, List.set_cons_zero, List.set_cons_succ]
      have U2 := Aside0.mk ho
      clear ho
      replace F1 := Aside0.mk (below_blk F1.out b6)
      refine wpAnyH_ready (rs := [2]) (by kernel_rfl) (by simp) ?_
      refine AllReadyH.cons (o := { dst := some 7, op := Op.call { callee := Callee.value (Operand.func 112), args := #[Operand.tmp 6], argTypes := #[33] }, type := 33, pos := "l4_client.go:38", after := #[{ on := 1, ground := Ground.data }], guard := none }) rfl (fun K hK => ?k367) AllReadyH.nil
      case k367 =>
        have hsl2 : w.heap.size ≤ V6.heap.size := (hHeld.2.2.2.2).size
        go_simp
        refine (hcp _ hHeld.2.2.2.2).mono ?_
        rintro e V2 ⟨B0, d0, B1, d1, rfl, ga0, ga1, b2⟩
        refine hK.out _ _ ?h368 (fun hHeld => ?j368)
        case h368 => exact HK.out _ _ b2 hHeld
        clear hK K
        try simp only [Act.put, List.setIfInBounds_toArray, List.set_cons_zero, List.set_cons_succ]
        have U0 := Aside0.mk (Kd.R_lower (base' := w.heap.size) ga0 hsl2)
        have U1 := Aside0.mk (Kd.R_lower (base' := w.heap.size) ga1 hsl2)
        clear ga0 ga1 hsl2
        replace F1 := Aside0.mk (below_blk F1.out b2)
        replace U2 := Aside0.mk (Kd.R_below U2.out b2)
        refine wpAnyH_take (i := 7) (oi := { dst := some 12, op := Op.build 52 #[(0, Operand.tmp 5), (1, Operand.tmp 7), (4, Operand.tmp 11)], type := 52, pos := "l4_client.go:38", after := #[{ on := 0, ground := Ground.data }, { on := 2, ground := Ground.data }, { on := 6, ground := Ground.data }], guard := none }) (v := ?v369) rfl (by kernel_rfl) (by kernel_rfl) (by kernel_rfl) (fun _ _ _ h => h) (Or.inl ⟨by rfl, ?y369⟩) (by assumption) ?r369
        case y369 => intro w_ hSw; (try dsimp only at hSw); go_simp; (try (with_reducible rfl))
        try simp only [Act.put, List.setIfInBounds_toArray, List.set_cons_zero, List.set_cons_succ]
        refine wpAnyH_ready (rs := [8]) (by kernel_rfl) (by simp) ?_
        refine AllReadyH.cons (o := { dst := none, op := Op.store 52 (Operand.tmp 4) (Operand.tmp 12), type := 0, pos := "l4_client.go:38", after := #[{ on := 7, ground := Ground.data }, { on := 2, ground := Ground.chain }, { on := 0, ground := Ground.phase }, { on := 1, ground := Ground.phase }, { on := 2, ground := Ground.phase }, { on := 3, ground := Ground.phase }, { on := 4, ground := Ground.phase }, { on := 5, ground := Ground.phase }, { on := 6, ground := Ground.phase }, { on := 7, ground := Ground.phase }], guard := none }) rfl (fun K hK => ?k370) AllReadyH.nil
        case k370 =>
          have hb7 := F1.out
          have v0_ : V2.cell? ⟨w.heap.size + 1, 0, none⟩ = some (.string ⟨#[]⟩) := by simp [World.cell?, hb7]
          have v1_ : V2.cell? ⟨w.heap.size + 1, 1, none⟩ = some (.string ⟨#[]⟩) := by simp [World.cell?, hb7]
          have v2_ : V2.cell? ⟨w.heap.size + 1, 2, none⟩ = some (.string ⟨#[]⟩) := by simp [World.cell?, hb7]
          have v3_ : V2.cell? ⟨w.heap.size + 1, 3, none⟩ = some (.slice none 0 0) := by simp [World.cell?, hb7]
          have v4_ : V2.cell? ⟨w.heap.size + 1, 4, none⟩ = some (.slice none 0 0) := by simp [World.cell?, hb7]
          have v5_ : V2.cell? ⟨w.heap.size + 1, 5, none⟩ = some (.int .i64 0) := by simp [World.cell?, hb7]
          have v6_ : V2.cell? ⟨w.heap.size + 1, 6, none⟩ = some (.int .i64 0) := by simp [World.cell?, hb7]
          have v7_ : V2.cell? ⟨w.heap.size + 1, 7, none⟩ = some (.slice none 0 0) := by simp [World.cell?, hb7]
          have u0_ : V2.frozen? ⟨w.heap.size + 1, 0, none⟩ = false := by simp [World.frozen?, hb7]
          have u1_ : V2.frozen? ⟨w.heap.size + 1, 1, none⟩ = false := by simp [World.frozen?, hb7]
          have u2_ : V2.frozen? ⟨w.heap.size + 1, 2, none⟩ = false := by simp [World.frozen?, hb7]
          have u3_ : V2.frozen? ⟨w.heap.size + 1, 3, none⟩ = false := by simp [World.frozen?, hb7]
          have u4_ : V2.frozen? ⟨w.heap.size + 1, 4, none⟩ = false := by simp [World.frozen?, hb7]
          have u5_ : V2.frozen? ⟨w.heap.size + 1, 5, none⟩ = false := by simp [World.frozen?, hb7]
          have u6_ : V2.frozen? ⟨w.heap.size + 1, 6, none⟩ = false := by simp [World.frozen?, hb7]
          have u7_ : V2.frozen? ⟨w.heap.size + 1, 7, none⟩ = false := by simp [World.frozen?, hb7]
          go_simp
          generalize hV8 : World.setCell (World.setCell (World.setCell (World.setCell (World.setCell (World.setCell (World.setCell (World.setCell V2 ⟨w.heap.size + 1, 0, none⟩ _) ⟨w.heap.size + 1, 1, none⟩ _) ⟨w.heap.size + 1, 2, none⟩ _) ⟨w.heap.size + 1, 3, none⟩ _) ⟨w.heap.size + 1, 4, none⟩ _) ⟨w.heap.size + 1, 5, none⟩ _) ⟨w.heap.size + 1, 6, none⟩ _) ⟨w.heap.size + 1, 7, none⟩ _ = V8
          have G8 : V2.grownBy V8 (some (w.heap.size + 1)) := by rw [← hV8]; exact (((((((grown_set1 _ _ _ _).trans (grown_set1 _ _ _ _)).trans (grown_set1 _ _ _ _)).trans (grown_set1 _ _ _ _)).trans (grown_set1 _ _ _ _)).trans (grown_set1 _ _ _ _)).trans (grown_set1 _ _ _ _)).trans (grown_set1 _ _ _ _)
          have FF : V8.heap[w.heap.size + 1]? = some (.cells #[.string nm, .string m.f0.f0, .string m.f0.f1, .slice B0 m.f1.length d0, .slice B1 m.f2.length d1, .int .i64 0, .int .i64 0, .slice B2 rs.length d2] 52 (0, 0)) := by rw [← hV8, blk_set1 (blk_set1 (blk_set1 (blk_set1 (blk_set1 (blk_set1 (blk_set1 (blk_set1 (F1.out) 0 _) 1 _) 2 _) 3 _) 4 _) 5 _) 6 _) 7 _]; simp
          have BB : Below w.heap.size w V8 := by rw [← hV8]; exact (bel_set (bel_set (bel_set (bel_set (bel_set (bel_set (bel_set (bel_set hHeld.2.2.2.2 _ (by show w.heap.size ≤ w.heap.size + 1; omega)) _ (by show w.heap.size ≤ w.heap.size + 1; omega)) _ (by show w.heap.size ≤ w.heap.size + 1; omega)) _ (by show w.heap.size ≤ w.heap.size + 1; omega)) _ (by show w.heap.size ≤ w.heap.size + 1; omega)) _ (by show w.heap.size ≤ w.heap.size + 1; omega)) _ (by show w.heap.size ≤ w.heap.size + 1; omega)) _ (by show w.heap.size ≤ w.heap.size + 1; omega))
          clear hV8
          refine hK.out _ _ ?h371 (fun hHeld => ?j371)
          case h371 => exact ⟨(World.cell?_of_block (G8.block _ (World.block_lt_of_cell? _ _ hHeld.1) (fun e => by have e := Option.some.inj e; (try dsimp only at e); omega))).trans hHeld.1, (World.cell?_of_block (G8.block _ (World.block_lt_of_cell? _ _ hHeld.2.1) (fun e => by have e := Option.some.inj e; (try dsimp only at e); omega))).trans hHeld.2.1, (World.cell?_of_block (G8.block _ (World.block_lt_of_cell? _ _ hHeld.2.2.1) (fun e => by have e := Option.some.inj e; (try dsimp only at e); omega))).trans hHeld.2.2.1, (World.cell?_of_block (G8.block _ (World.block_lt_of_cell? _ _ hHeld.2.2.2.1) (fun e => by have e := Option.some.inj e; (try dsimp only at e); omega))).trans hHeld.2.2.2.1, BB⟩
          clear hK K
          try simp only [Act.put, List.setIfInBounds_toArray, List.set_cons_zero, List.set_cons_succ]
          replace U0 := Aside0.mk (R_else U0.out rfl G8 (Kd.R_ne U0.out F1.out (by decide)))
          replace U1 := Aside0.mk (R_else U1.out rfl G8 (Kd.R_ne U1.out F1.out (by decide)))
          replace U2 := Aside0.mk (R_else U2.out rfl G8 (Kd.R_ne U2.out F1.out (by decide)))
          replace F1 := Aside0.mk FF
          clear FF
          refine wpAnyH_done (by kernel_rfl) ?_ _
          exact HKK.out B0 d0 B1 d1 B2 d2 V8 ⟨hHeld.2.2.2.2, blk_lt F1.out, F1.out, U0.out, U1.out, U2.out⟩
  case hk =>
    intro B0 d0 B1 d1 B2 d2 V ⟨BV, sV, f2, u0, u1, u2⟩
    clear HST HK HF0 HF1 join
    have U0 := Aside0.mk u0
    have U1 := Aside0.mk u1
    have U2 := Aside0.mk u2
    have F1 := Aside0.mk f2
    have BW := Aside0.mk BV
    clear u0 u1 u2 f2 BV
    have m0_ : V.cell? ⟨w.heap.size + 1, 0, none⟩ = some (.string nm) := by simp [World.cell?, F1.out]
    have m1_ : V.cell? ⟨w.heap.size + 1, 1, none⟩ = some (.string m.f0.f0) := by simp [World.cell?, F1.out]
    have m2_ : V.cell? ⟨w.heap.size + 1, 2, none⟩ = some (.string m.f0.f1) := by simp [World.cell?, F1.out]
    have m3_ : V.cell? ⟨w.heap.size + 1, 3, none⟩ = some (.slice B0 m.f1.length d0) := by simp [World.cell?, F1.out]
    have m4_ : V.cell? ⟨w.heap.size + 1, 4, none⟩ = some (.slice B1 m.f2.length d1) := by simp [World.cell?, F1.out]
    have m5_ : V.cell? ⟨w.heap.size + 1, 5, none⟩ = some (.int .i64 0) := by simp [World.cell?, F1.out]
    have m6_ : V.cell? ⟨w.heap.size + 1, 6, none⟩ = some (.int .i64 0) := by simp [World.cell?, F1.out]
    have m7_ : V.cell? ⟨w.heap.size + 1, 7, none⟩ = some (.slice B2 rs.length d2) := by simp [World.cell?, F1.out]
    go_wp2
    refine bodyPost_ret (v := .agg #[.string nm, .string m.f0.f0, .string m.f0.f1, .slice B0 m.f1.length d0, .slice B1 m.f2.length d1, .int .i64 0, .int .i64 0, .slice B2 rs.length d2]) ?hrB rfl ?hpB
    case hrB => simp [results, Tryd.results65, go_sem, m0_, m1_, m2_, m3_, m4_, m5_, m6_, m7_]
    case hpB => exact ⟨B0, d0, B1, d1, B2, d2, rfl, U0.out, U1.out, U2.out, BW.out⟩

end Go.Proofs.YtejiifmopopflaaDoor
