/- The reference's next word of a client: a contract. -/
import Derived.Test.YtoppgnmnbbhghaaGreatDoorStepL
import Derived.Test.YtoppgnmnbbhghaaGreatDoorCliOS
namespace Go.Proofs.YtoppgnmnbbhghaaGreatDoor
open Go.RowKit Go.Proofs.YtoppgnmnbbhghaaGreatDoorW.PrintWords
set_option linter.unusedVariables false
set_option linter.unusedSimpArgs false

theorem has_of (xs : List Int) (i : Nat) (h : i < xs.length) (e : xs.getD i 0 = 1) : has xs 1 = true := by
  unfold has
  rw [List.any_eq_true]
  exact ⟨xs.getD i 0, getD_mem xs 0 h, by rw [e]; rfl⟩
theorem has_not (xs : List Int) (h : ∀ j, j < xs.length → ¬ xs.getD j 0 = 1) : has xs 1 = false := by
  unfold has
  rw [List.any_eq_false]
  intro x hx
  obtain ⟨j, hj, rfl⟩ := List.getElem_of_mem hx
  have := h j hj
  rw [List.getD, List.getElem?_eq_getElem hj] at this
  simpa using fun e => this e.symm
set_option maxRecDepth 100000 in
set_option maxHeartbeats 4000000 in
theorem specNext_any (nm : ByteArray) (m : SMail) (st pos : Int) (outs : List Int) (B0 : Option Addr) (d0 : Nat) (B1 : Option Addr) (d1 : Nat) (B2 : Option Addr) (d2 : Nat) (w : World) (hm : fitMail m) (h0 : 0 ≤ pos) (h1 : pos ≤ (m.f1.length : Int)) (hl : outs.length ≤ 1048576) (hr0 : Kd.C kAddr w B0 m.f1.length m.f1) (hr2 : Kd.C (Kd.int .i64) w B2 outs.length outs) :
    Calls Tryz.prog 110 #[.agg #[.string nm, .string m.f0.f0, .string m.f0.f1, .slice B0 m.f1.length d0, .slice B1 m.f2.length d1, .int .i64 st, .int .i64 pos, .slice B2 outs.length d2]] w fun e w' => e = .returned (.tuple #[.agg #[.string nm, .string m.f0.f0, .string m.f0.f1, .slice B0 m.f1.length d0, .slice B1 m.f2.length d1, .int .i64 (nextC ⟨nm, m, st, pos, outs⟩).1.f2, .int .i64 (nextC ⟨nm, m, st, pos, outs⟩).1.f3, .slice B2 outs.length d2], .string (nextC ⟨nm, m, st, pos, outs⟩).2]) ∧ Below w.heap.size w w' := by
  have hlm := hm.2.1.1
  have HMM := Lib.hid hm
  clear hm
  unfold nextC
  by_cases hlt : pos < (m.f1.length : Int)
  · rw [if_pos hlt]
    obtain ⟨k, hk⟩ : ∃ k : Nat, pos = k := ⟨pos.toNat, by omega⟩
    subst hk
    have hkl : k < m.f1.length := by omega
    have HT := Lib.hid (show ((k : Int)).toNat = k from Int.toNat_natCast k)
    simp only [HT.out]
    generalize hy : m.f1.getD k zAddr = y
    have hft := HMM.out.2.1.2 _ (getD_mem m.f1 zAddr hkl)
    rw [hy] at hft
    have htext := fun W => specPut_any y.f0 y.f1 W hft.1 hft.2
    obtain ⟨ad, rfl, p0, p1⟩ := at_Addr hr0 k hkl
    rw [hy] at p0 p1
    have hts : ¬ 9223372036854775807 < 8 + (textS y.f0 y.f1).size := by have := text_szN hft.1 hft.2; omega
    have hadl := World.block_lt_of_cell? w _ p0
    have P0 := Lib.hid p0
    have P1 := Lib.hid p1
    have hwk : IntKind.i64.wrap (k : Int) = (k : Int) := wrapk k (by omega)
    have hwk1 : IntKind.i64.wrap ((k : Int) + 1 - 1) = (k : Int) := by rw [show (k : Int) + 1 - 1 = k from by omega]; exact hwk
    clear hy hft p0 p1 hr0 hr2
    go_enter Tryz.func110, Tryz.ntmps110
    go_wp2
    obtain ⟨W0, hW0⟩ : ∃ W, W = (w.alloc (.cells #[.string nm, .string m.f0.f0, .string m.f0.f1, .slice (some ad) m.f1.length d0, .slice B1 m.f2.length d1, .int .i64 3, .int .i64 ((k : Int) + 1), .slice B2 outs.length d2] 31)).alloc (.cells #[.string ⟨#[]⟩, .string ⟨#[]⟩, .string ⟨#[]⟩, .slice none 0 0, .slice none 0 0, .int .i64 0, .int .i64 0, .slice none 0 0] 31) := ⟨_, rfl⟩
    rw [← hW0]
    have HF0 : Aside0 (W0.heap[w.heap.size]? = some (.cells #[.string nm, .string m.f0.f0, .string m.f0.f1, .slice (some ad) m.f1.length d0, .slice B1 m.f2.length d1, .int .i64 3, .int .i64 ((k : Int) + 1), .slice B2 outs.length d2] 31 (0, 0))) := ⟨by rw [hW0]; exact below_blk (blk_new _ _) (bel_alloc (Below.refl _ _) _)⟩
    have HF1 : Aside0 (W0.heap[w.heap.size + 1]? = some (.cells #[.string ⟨#[]⟩, .string ⟨#[]⟩, .string ⟨#[]⟩, .slice none 0 0, .slice none 0 0, .int .i64 0, .int .i64 0, .slice none 0 0] 31 (0, 0))) := ⟨by rw [hW0, show w.heap.size + 1 = (w.alloc (.cells #[.string nm, .string m.f0.f0, .string m.f0.f1, .slice (some ad) m.f1.length d0, .slice B1 m.f2.length d1, .int .i64 3, .int .i64 ((k : Int) + 1), .slice B2 outs.length d2] 31)).heap.size by simp]; exact blk_new _ _⟩
    have BL0 : Below w.heap.size w W0 := by rw [hW0]; exact bel_alloc (bel_alloc (Below.refl _ _) _) _
    clear hW0
    have HK : Aside0 (∀ W W1, Below W.heap.size W W1 → (W.cell? ⟨w.heap.size, 0, none⟩ = some (.string nm) ∧ W.cell? ⟨w.heap.size, 1, none⟩ = some (.string m.f0.f0) ∧ W.cell? ⟨w.heap.size, 2, none⟩ = some (.string m.f0.f1) ∧ W.cell? ⟨w.heap.size, 3, none⟩ = some (.slice (some ad) m.f1.length d0) ∧ W.cell? ⟨w.heap.size, 4, none⟩ = some (.slice B1 m.f2.length d1) ∧ W.cell? ⟨w.heap.size, 5, none⟩ = some (.int .i64 3) ∧ W.cell? ⟨w.heap.size, 6, none⟩ = some (.int .i64 ((k : Int) + 1)) ∧ W.cell? ⟨w.heap.size, 7, none⟩ = some (.slice B2 outs.length d2) ∧ W.cell? (ad.add (k * 2)) = some (.string y.f0) ∧ W.cell? ⟨(ad.add (k * 2)).block, (ad.add (k * 2)).off + 1, none⟩ = some (.string y.f1) ∧ Below w.heap.size w W) → (W1.cell? ⟨w.heap.size, 0, none⟩ = some (.string nm) ∧ W1.cell? ⟨w.heap.size, 1, none⟩ = some (.string m.f0.f0) ∧ W1.cell? ⟨w.heap.size, 2, none⟩ = some (.string m.f0.f1) ∧ W1.cell? ⟨w.heap.size, 3, none⟩ = some (.slice (some ad) m.f1.length d0) ∧ W1.cell? ⟨w.heap.size, 4, none⟩ = some (.slice B1 m.f2.length d1) ∧ W1.cell? ⟨w.heap.size, 5, none⟩ = some (.int .i64 3) ∧ W1.cell? ⟨w.heap.size, 6, none⟩ = some (.int .i64 ((k : Int) + 1)) ∧ W1.cell? ⟨w.heap.size, 7, none⟩ = some (.slice B2 outs.length d2) ∧ W1.cell? (ad.add (k * 2)) = some (.string y.f0) ∧ W1.cell? ⟨(ad.add (k * 2)).block, (ad.add (k * 2)).off + 1, none⟩ = some (.string y.f1) ∧ Below w.heap.size w W1)) := ⟨fun W W1 hb h => ⟨(hb.cell (World.block_lt_of_cell? W _ (h.1))).trans (h.1), (hb.cell (World.block_lt_of_cell? W _ (h.2.1))).trans (h.2.1), (hb.cell (World.block_lt_of_cell? W _ (h.2.2.1))).trans (h.2.2.1), (hb.cell (World.block_lt_of_cell? W _ (h.2.2.2.1))).trans (h.2.2.2.1), (hb.cell (World.block_lt_of_cell? W _ (h.2.2.2.2.1))).trans (h.2.2.2.2.1), (hb.cell (World.block_lt_of_cell? W _ (h.2.2.2.2.2.1))).trans (h.2.2.2.2.2.1), (hb.cell (World.block_lt_of_cell? W _ (h.2.2.2.2.2.2.1))).trans (h.2.2.2.2.2.2.1), (hb.cell (World.block_lt_of_cell? W _ (h.2.2.2.2.2.2.2.1))).trans (h.2.2.2.2.2.2.2.1), (hb.cell (World.block_lt_of_cell? W _ (h.2.2.2.2.2.2.2.2.1))).trans (h.2.2.2.2.2.2.2.2.1), (hb.cell (World.block_lt_of_cell? W _ (h.2.2.2.2.2.2.2.2.2.1))).trans (h.2.2.2.2.2.2.2.2.2.1), bel_then (h.2.2.2.2.2.2.2.2.2.2) hb⟩⟩
    have HST : Aside0 ((fun W => W.cell? ⟨w.heap.size, 0, none⟩ = some (.string nm) ∧ W.cell? ⟨w.heap.size, 1, none⟩ = some (.string m.f0.f0) ∧ W.cell? ⟨w.heap.size, 2, none⟩ = some (.string m.f0.f1) ∧ W.cell? ⟨w.heap.size, 3, none⟩ = some (.slice (some ad) m.f1.length d0) ∧ W.cell? ⟨w.heap.size, 4, none⟩ = some (.slice B1 m.f2.length d1) ∧ W.cell? ⟨w.heap.size, 5, none⟩ = some (.int .i64 3) ∧ W.cell? ⟨w.heap.size, 6, none⟩ = some (.int .i64 ((k : Int) + 1)) ∧ W.cell? ⟨w.heap.size, 7, none⟩ = some (.slice B2 outs.length d2) ∧ W.cell? (ad.add (k * 2)) = some (.string y.f0) ∧ W.cell? ⟨(ad.add (k * 2)).block, (ad.add (k * 2)).off + 1, none⟩ = some (.string y.f1) ∧ Below w.heap.size w W) W0.drew) := ⟨⟨by have := HF0.out; simp [World.cell?, show W0.drew.heap[w.heap.size]? = _ from this], by have := HF0.out; simp [World.cell?, show W0.drew.heap[w.heap.size]? = _ from this], by have := HF0.out; simp [World.cell?, show W0.drew.heap[w.heap.size]? = _ from this], by have := HF0.out; simp [World.cell?, show W0.drew.heap[w.heap.size]? = _ from this], by have := HF0.out; simp [World.cell?, show W0.drew.heap[w.heap.size]? = _ from this], by have := HF0.out; simp [World.cell?, show W0.drew.heap[w.heap.size]? = _ from this], by have := HF0.out; simp [World.cell?, show W0.drew.heap[w.heap.size]? = _ from this], by have := HF0.out; simp [World.cell?, show W0.drew.heap[w.heap.size]? = _ from this], (BL0.cell hadl).trans P0.out, (BL0.cell (World.block_lt_of_cell? w _ P1.out)).trans P1.out, bel_then BL0 (drew_below0 W0)⟩⟩
    clear BL0 HF0
    refine wp_region_held_drew (S := (fun W => W.cell? ⟨w.heap.size, 0, none⟩ = some (.string nm) ∧ W.cell? ⟨w.heap.size, 1, none⟩ = some (.string m.f0.f0) ∧ W.cell? ⟨w.heap.size, 2, none⟩ = some (.string m.f0.f1) ∧ W.cell? ⟨w.heap.size, 3, none⟩ = some (.slice (some ad) m.f1.length d0) ∧ W.cell? ⟨w.heap.size, 4, none⟩ = some (.slice B1 m.f2.length d1) ∧ W.cell? ⟨w.heap.size, 5, none⟩ = some (.int .i64 3) ∧ W.cell? ⟨w.heap.size, 6, none⟩ = some (.int .i64 ((k : Int) + 1)) ∧ W.cell? ⟨w.heap.size, 7, none⟩ = some (.slice B2 outs.length d2) ∧ W.cell? (ad.add (k * 2)) = some (.string y.f0) ∧ W.cell? ⟨(ad.add (k * 2)).block, (ad.add (k * 2)).off + 1, none⟩ = some (.string y.f1) ∧ Below w.heap.size w W)) (by kernel_rfl) ?s173 (fun hHeld => ?t173)
    case s173 => exact HST.out
    generalize hV0 : World.drew _ = V0 at hHeld ⊢
    have F1 : Aside0 (V0.heap[w.heap.size + 1]? = some (.cells #[.string ⟨#[]⟩, .string ⟨#[]⟩, .string ⟨#[]⟩, .slice none 0 0, .slice none 0 0, .int .i64 0, .int .i64 0, .slice none 0 0] 31 (0, 0))) := ⟨by rw [← hV0]; exact HF1.out⟩
    clear hV0 HST
    refine wpAnyH_take (i := 0) (oi := { dst := some 17, op := Op.load 31 (Operand.tmp 1), type := 31, pos := "l4_client.go:77", after := #[], guard := none }) (v := ?v174) rfl (by kernel_rfl) (by kernel_rfl) (by kernel_rfl) (fun _ _ _ h => h) (Or.inl ⟨by rfl, ?y174⟩) (by assumption) ?r174
    case y174 => intro w_ hSw; (try dsimp only at hSw); go_simp; (try (with_reducible rfl))
    try simp only [Act.put, List.setIfInBounds_toArray, List.set_cons_zero, List.set_cons_succ]
    refine wpAnyH_take (i := 1) (oi := { dst := some 18, op := Op.fieldAddr 31 (Operand.tmp 1) 1, type := 0, pos := "l4_client.go:77", after := #[], guard := none }) (v := ?v175) rfl (by kernel_rfl) (by kernel_rfl) (by kernel_rfl) (fun _ _ _ h => h) (Or.inl ⟨by rfl, ?y175⟩) (by assumption) ?r175
    case y175 => intro w_ hSw; (try dsimp only at hSw); go_simp; (try (with_reducible rfl))
    try simp only [Act.put, List.setIfInBounds_toArray, List.set_cons_zero, List.set_cons_succ]
    refine wpAnyH_take (i := 2) (oi := { dst := some 19, op := Op.fieldAddr 28 (Operand.tmp 18) 1, type := 0, pos := "l4_client.go:77", after := #[{ on := 1, ground := Ground.data }], guard := none }) (v := ?v176) rfl (by kernel_rfl) (by kernel_rfl) (by kernel_rfl) (fun _ _ _ h => h) (Or.inl ⟨by rfl, ?y176⟩) (by assumption) ?r176
    case y176 => intro w_ hSw; (try dsimp only at hSw); go_simp; (try (with_reducible rfl))
    try simp only [Act.put, List.setIfInBounds_toArray, List.set_cons_zero, List.set_cons_succ]
    refine wpAnyH_take (i := 3) (oi := { dst := some 20, op := Op.load 25 (Operand.tmp 19), type := 25, pos := "l4_client.go:77", after := #[{ on := 2, ground := Ground.data }], guard := none }) (v := ?v177) rfl (by kernel_rfl) (by kernel_rfl) (by kernel_rfl) (fun _ _ _ h => h) (Or.inl ⟨by rfl, ?y177⟩) (by assumption) ?r177
    case y177 => intro w_ hSw; (try dsimp only at hSw); go_simp; (try (with_reducible rfl))
    try simp only [Act.put, List.setIfInBounds_toArray, List.set_cons_zero, List.set_cons_succ]
    refine wpAnyH_take (i := 4) (oi := { dst := some 21, op := Op.fieldAddr 31 (Operand.tmp 1) 3, type := 0, pos := "l4_client.go:77", after := #[], guard := none }) (v := ?v178) rfl (by kernel_rfl) (by kernel_rfl) (by kernel_rfl) (fun _ _ _ h => h) (Or.inl ⟨by rfl, ?y178⟩) (by assumption) ?r178
    case y178 => intro w_ hSw; (try dsimp only at hSw); go_simp; (try (with_reducible rfl))
    try simp only [Act.put, List.setIfInBounds_toArray, List.set_cons_zero, List.set_cons_succ]
    refine wpAnyH_take (i := 5) (oi := { dst := some 22, op := Op.load 3 (Operand.tmp 21), type := 3, pos := "l4_client.go:77", after := #[{ on := 4, ground := Ground.data }], guard := none }) (v := ?v179) rfl (by kernel_rfl) (by kernel_rfl) (by kernel_rfl) (fun _ _ _ h => h) (Or.inl ⟨by rfl, ?y179⟩) (by assumption) ?r179
    case y179 => intro w_ hSw; (try dsimp only at hSw); go_simp; (try (with_reducible rfl))
    try simp only [Act.put, List.setIfInBounds_toArray, List.set_cons_zero, List.set_cons_succ]
    refine wpAnyH_take (i := 6) (oi := { dst := some 23, op := Op.binOp BinOp.sub 3 (Operand.tmp 22) (Operand.const (Value.int IntKind.i64 1)) 3, type := 3, pos := "l4_client.go:77", after := #[{ on := 5, ground := Ground.data }], guard := none }) (v := ?v180) rfl (by kernel_rfl) (by kernel_rfl) (by kernel_rfl) (fun _ _ _ h => h) (Or.inl ⟨by rfl, ?y180⟩) (by assumption) ?r180
    case y180 => intro w_ hSw; (try dsimp only at hSw); go_simp; (try (with_reducible rfl))
    try simp only [Act.put, List.setIfInBounds_toArray, List.set_cons_zero, List.set_cons_succ]
    refine wpAnyH_take (i := 7) (oi := { dst := some 24, op := Op.indexAddr 25 (Operand.tmp 20) (Operand.tmp 23), type := 0, pos := "l4_client.go:77", after := #[{ on := 3, ground := Ground.data }, { on := 6, ground := Ground.data }], guard := none }) (v := ?v181) rfl (by kernel_rfl) (by kernel_rfl) (by kernel_rfl) (fun _ _ _ h => h) (Or.inl ⟨by rfl, ?y181⟩) (by assumption) ?r181
    case y181 => intro w_ hSw; (try dsimp only at hSw); go_simp; (try (with_reducible rfl))
    try simp only [Act.put, List.setIfInBounds_toArray, List.set_cons_zero, List.set_cons_succ]
    refine wpAnyH_take (i := 8) (oi := { dst := some 25, op := Op.load 24 (Operand.tmp 24), type := 24, pos := "l4_client.go:77", after := #[{ on := 7, ground := Ground.data }], guard := none }) (v := ?v182) rfl (by kernel_rfl) (by kernel_rfl) (by kernel_rfl) (fun _ _ _ h => h) (Or.inl ⟨by rfl, ?y182⟩) (by assumption) ?r182
    case y182 => intro w_ hSw; (try dsimp only at hSw); go_simp; (try (with_reducible rfl))
    try simp only [Act.put, List.setIfInBounds_toArray, List.set_cons_zero, List.set_cons_succ]
    refine wpAnyH_ready (rs := [9]) (by kernel_rfl) (by simp) ?_
    refine AllReadyH.cons (o := { dst := some 26, op := Op.call { callee := Callee.value (Operand.func 109), args := #[Operand.tmp 25], argTypes := #[24] }, type := 9, pos := "l4_client.go:77", after := #[{ on := 8, ground := Ground.data }], guard := none }) rfl (fun K hK => ?k183) AllReadyH.nil
    case k183 =>
      go_simp
      refine (htext _).mono ?_
      rintro e V9 ⟨rfl, b9⟩
      refine hK.out _ _ ?h184 (fun hHeld => ?j184)
      case h184 => exact HK.out _ _ b9 hHeld
      clear hK K
      try simp only [Act.put, List.setIfInBounds_toArray, List.set_cons_zero, List.set_cons_succ]
      replace F1 := Aside0.mk (below_blk F1.out b9)
      refine wpAnyH_take (i := 10) (oi := { dst := some 27, op := Op.binOp BinOp.add 9 (Operand.const (Value.string { data := #[82, 67, 80, 84, 32, 84, 79, 58] })) (Operand.tmp 26) 9, type := 9, pos := "l4_client.go:77", after := #[{ on := 9, ground := Ground.data }, { on := 11, ground := Ground.gcOnly Departure.lateStores }], guard := none }) (v := ?v185) rfl (by kernel_rfl) (by kernel_rfl) (by kernel_rfl) (fun _ _ _ h => h) (Or.inl ⟨by rfl, ?y185⟩) (by assumption) ?r185
      case y185 => intro w_ hSw; (try dsimp only at hSw); go_simp; (try (with_reducible rfl))
      try simp only [Act.put, List.setIfInBounds_toArray, List.set_cons_zero, List.set_cons_succ]
      refine wpAnyH_ready (rs := [11]) (by kernel_rfl) (by simp) ?_
      refine AllReadyH.cons (o := { dst := none, op := Op.store 31 (Operand.tmp 2) (Operand.tmp 17), type := 0, pos := "l4_client.go:77", after := #[{ on := 0, ground := Ground.data }, { on := 9, ground := Ground.chain }, { on := 0, ground := Ground.phase }, { on := 1, ground := Ground.textOnly Departure.lateStores }, { on := 2, ground := Ground.textOnly Departure.lateStores }, { on := 3, ground := Ground.textOnly Departure.lateStores }, { on := 4, ground := Ground.textOnly Departure.lateStores }, { on := 5, ground := Ground.textOnly Departure.lateStores }, { on := 6, ground := Ground.textOnly Departure.lateStores }, { on := 7, ground := Ground.textOnly Departure.lateStores }, { on := 8, ground := Ground.textOnly Departure.lateStores }, { on := 9, ground := Ground.textOnly Departure.lateStoresUnsure }, { on := 10, ground := Ground.textOnly Departure.lateStores }], guard := none }) rfl (fun K hK => ?k186) AllReadyH.nil
      case k186 =>
        have hb7 := F1.out
        have v0_ : V9.cell? ⟨w.heap.size + 1, 0, none⟩ = some (.string ⟨#[]⟩) := by simp [World.cell?, hb7]
        have v1_ : V9.cell? ⟨w.heap.size + 1, 1, none⟩ = some (.string ⟨#[]⟩) := by simp [World.cell?, hb7]
        have v2_ : V9.cell? ⟨w.heap.size + 1, 2, none⟩ = some (.string ⟨#[]⟩) := by simp [World.cell?, hb7]
        have v3_ : V9.cell? ⟨w.heap.size + 1, 3, none⟩ = some (.slice none 0 0) := by simp [World.cell?, hb7]
        have v4_ : V9.cell? ⟨w.heap.size + 1, 4, none⟩ = some (.slice none 0 0) := by simp [World.cell?, hb7]
        have v5_ : V9.cell? ⟨w.heap.size + 1, 5, none⟩ = some (.int .i64 0) := by simp [World.cell?, hb7]
        have v6_ : V9.cell? ⟨w.heap.size + 1, 6, none⟩ = some (.int .i64 0) := by simp [World.cell?, hb7]
        have v7_ : V9.cell? ⟨w.heap.size + 1, 7, none⟩ = some (.slice none 0 0) := by simp [World.cell?, hb7]
        have u0_ : V9.frozen? ⟨w.heap.size + 1, 0, none⟩ = false := by simp [World.frozen?, hb7]
        have u1_ : V9.frozen? ⟨w.heap.size + 1, 1, none⟩ = false := by simp [World.frozen?, hb7]
        have u2_ : V9.frozen? ⟨w.heap.size + 1, 2, none⟩ = false := by simp [World.frozen?, hb7]
        have u3_ : V9.frozen? ⟨w.heap.size + 1, 3, none⟩ = false := by simp [World.frozen?, hb7]
        have u4_ : V9.frozen? ⟨w.heap.size + 1, 4, none⟩ = false := by simp [World.frozen?, hb7]
        have u5_ : V9.frozen? ⟨w.heap.size + 1, 5, none⟩ = false := by simp [World.frozen?, hb7]
        have u6_ : V9.frozen? ⟨w.heap.size + 1, 6, none⟩ = false := by simp [World.frozen?, hb7]
        have u7_ : V9.frozen? ⟨w.heap.size + 1, 7, none⟩ = false := by simp [World.frozen?, hb7]
        go_simp
        generalize hV11 : World.setCell (World.setCell (World.setCell (World.setCell (World.setCell (World.setCell (World.setCell (World.setCell V9 ⟨w.heap.size + 1, 0, none⟩ _) ⟨w.heap.size + 1, 1, none⟩ _) ⟨w.heap.size + 1, 2, none⟩ _) ⟨w.heap.size + 1, 3, none⟩ _) ⟨w.heap.size + 1, 4, none⟩ _) ⟨w.heap.size + 1, 5, none⟩ _) ⟨w.heap.size + 1, 6, none⟩ _) ⟨w.heap.size + 1, 7, none⟩ _ = V11
        have G11 : V9.grownBy V11 (some (w.heap.size + 1)) := by rw [← hV11]; exact (((((((grown_set1 _ _ _ _).trans (grown_set1 _ _ _ _)).trans (grown_set1 _ _ _ _)).trans (grown_set1 _ _ _ _)).trans (grown_set1 _ _ _ _)).trans (grown_set1 _ _ _ _)).trans (grown_set1 _ _ _ _)).trans (grown_set1 _ _ _ _)
        have FF : V11.heap[w.heap.size + 1]? = some (.cells #[.string nm, .string m.f0.f0, .string m.f0.f1, .slice (some ad) m.f1.length d0, .slice B1 m.f2.length d1, .int .i64 3, .int .i64 ((k : Int) + 1), .slice B2 outs.length d2] 31 (0, 0)) := by rw [← hV11, blk_set1 (blk_set1 (blk_set1 (blk_set1 (blk_set1 (blk_set1 (blk_set1 (blk_set1 (F1.out) 0 _) 1 _) 2 _) 3 _) 4 _) 5 _) 6 _) 7 _]; simp
        have BB : Below w.heap.size w V11 := by rw [← hV11]; exact (bel_set (bel_set (bel_set (bel_set (bel_set (bel_set (bel_set (bel_set hHeld.2.2.2.2.2.2.2.2.2.2 _ (by show w.heap.size ≤ w.heap.size + 1; omega)) _ (by show w.heap.size ≤ w.heap.size + 1; omega)) _ (by show w.heap.size ≤ w.heap.size + 1; omega)) _ (by show w.heap.size ≤ w.heap.size + 1; omega)) _ (by show w.heap.size ≤ w.heap.size + 1; omega)) _ (by show w.heap.size ≤ w.heap.size + 1; omega)) _ (by show w.heap.size ≤ w.heap.size + 1; omega)) _ (by show w.heap.size ≤ w.heap.size + 1; omega))
        clear hV11
        refine hK.out _ _ ?h187 (fun hHeld => ?j187)
        case h187 => exact ⟨(World.cell?_of_block (G11.block _ (World.block_lt_of_cell? _ _ hHeld.1) (fun e => by have e := Option.some.inj e; (try dsimp only at e); omega))).trans hHeld.1, (World.cell?_of_block (G11.block _ (World.block_lt_of_cell? _ _ hHeld.2.1) (fun e => by have e := Option.some.inj e; (try dsimp only at e); omega))).trans hHeld.2.1, (World.cell?_of_block (G11.block _ (World.block_lt_of_cell? _ _ hHeld.2.2.1) (fun e => by have e := Option.some.inj e; (try dsimp only at e); omega))).trans hHeld.2.2.1, (World.cell?_of_block (G11.block _ (World.block_lt_of_cell? _ _ hHeld.2.2.2.1) (fun e => by have e := Option.some.inj e; (try dsimp only at e); omega))).trans hHeld.2.2.2.1, (World.cell?_of_block (G11.block _ (World.block_lt_of_cell? _ _ hHeld.2.2.2.2.1) (fun e => by have e := Option.some.inj e; (try dsimp only at e); omega))).trans hHeld.2.2.2.2.1, (World.cell?_of_block (G11.block _ (World.block_lt_of_cell? _ _ hHeld.2.2.2.2.2.1) (fun e => by have e := Option.some.inj e; (try dsimp only at e); omega))).trans hHeld.2.2.2.2.2.1, (World.cell?_of_block (G11.block _ (World.block_lt_of_cell? _ _ hHeld.2.2.2.2.2.2.1) (fun e => by have e := Option.some.inj e; (try dsimp only at e); omega))).trans hHeld.2.2.2.2.2.2.1, (World.cell?_of_block (G11.block _ (World.block_lt_of_cell? _ _ hHeld.2.2.2.2.2.2.2.1) (fun e => by have e := Option.some.inj e; (try dsimp only at e); omega))).trans hHeld.2.2.2.2.2.2.2.1, (World.cell?_of_block (G11.block _ (World.block_lt_of_cell? _ _ hHeld.2.2.2.2.2.2.2.2.1) (fun e => by have e := Option.some.inj e; (try dsimp only at e); omega))).trans hHeld.2.2.2.2.2.2.2.2.1, (World.cell?_of_block (G11.block _ (World.block_lt_of_cell? _ _ hHeld.2.2.2.2.2.2.2.2.2.1) (fun e => by have e := Option.some.inj e; (try dsimp only at e); omega))).trans hHeld.2.2.2.2.2.2.2.2.2.1, BB⟩
        clear hK K
        try simp only [Act.put, List.setIfInBounds_toArray, List.set_cons_zero, List.set_cons_succ]
        replace F1 := Aside0.mk FF
        clear FF
        refine wpAnyH_take (i := 12) (oi := { dst := some 3, op := Op.assign (Operand.tmp 27), type := 9, pos := "l4_client.go:77", after := #[{ on := 10, ground := Ground.data }, { on := 11, ground := Ground.chain }, { on := 0, ground := Ground.phase }, { on := 1, ground := Ground.phase }, { on := 2, ground := Ground.phase }, { on := 3, ground := Ground.phase }, { on := 4, ground := Ground.phase }, { on := 5, ground := Ground.phase }, { on := 6, ground := Ground.phase }, { on := 7, ground := Ground.phase }, { on := 8, ground := Ground.phase }, { on := 9, ground := Ground.phase }, { on := 10, ground := Ground.phase }, { on := 11, ground := Ground.phase }], guard := none }) (v := ?v188) rfl (by kernel_rfl) (by kernel_rfl) (by kernel_rfl) (fun _ _ _ h => h) (Or.inl ⟨by rfl, ?y188⟩) (by assumption) ?r188
        case y188 => intro w_ hSw; (try dsimp only at hSw); go_simp; (try (with_reducible rfl))
        try simp only [Act.put, List.setIfInBounds_toArray, List.set_cons_zero, List.set_cons_succ]
        refine wpAnyH_done (by kernel_rfl) ?_ _
        obtain ⟨m0_, m1_, m2_, m3_, m4_, m5_, m6_, m7_⟩ := cells8 F1.out
        have hfin := hHeld.2.2.2.2.2.2.2.2.2.2
        clear hHeld
        go_wp2
        refine bodyPost_ret (v := .tuple #[.agg #[.string nm, .string m.f0.f0, .string m.f0.f1, .slice (some ad) m.f1.length d0, .slice B1 m.f2.length d1, .int .i64 3, .int .i64 ((k : Int) + 1), .slice B2 outs.length d2], .string ((⟨#[82, 67, 80, 84, 32, 84, 79, 58]⟩ : ByteArray) ++ textS y.f0 y.f1)]) ?hrA rfl ?hpA
        case hrA => simp [results, Tryz.results110, go_sem, m0_, m1_, m2_, m3_, m4_, m5_, m6_, m7_]
        case hpA => exact ⟨rfl, hfin⟩
  · rw [if_neg hlt]
    obtain rfl : pos = (m.f1.length : Int) := by omega
    generalize hg : has outs 1 = q
    have HG := Lib.hid hg
    clear hg hr0
    cases q
    · rw [if_neg (by decide)]
      go_enter Tryz.func110, Tryz.ntmps110
      go_wp2
      obtain ⟨W0, hW0⟩ : ∃ W, W = (w.alloc (.cells #[.string nm, .string m.f0.f0, .string m.f0.f1, .slice B0 m.f1.length d0, .slice B1 m.f2.length d1, .int .i64 st, .int .i64 (m.f1.length : Int), .slice B2 outs.length d2] 31)).alloc (.cells #[.string ⟨#[]⟩, .string ⟨#[]⟩, .string ⟨#[]⟩, .slice none 0 0, .slice none 0 0, .int .i64 0, .int .i64 0, .slice none 0 0] 31) := ⟨_, rfl⟩
      rw [← hW0]
      have HF0 : Aside0 (W0.heap[w.heap.size]? = some (.cells #[.string nm, .string m.f0.f0, .string m.f0.f1, .slice B0 m.f1.length d0, .slice B1 m.f2.length d1, .int .i64 st, .int .i64 (m.f1.length : Int), .slice B2 outs.length d2] 31 (0, 0))) := ⟨by rw [hW0]; exact below_blk (blk_new _ _) (bel_alloc (Below.refl _ _) _)⟩
      have HF1 : Aside0 (W0.heap[w.heap.size + 1]? = some (.cells #[.string ⟨#[]⟩, .string ⟨#[]⟩, .string ⟨#[]⟩, .slice none 0 0, .slice none 0 0, .int .i64 0, .int .i64 0, .slice none 0 0] 31 (0, 0))) := ⟨by rw [hW0, show w.heap.size + 1 = (w.alloc (.cells #[.string nm, .string m.f0.f0, .string m.f0.f1, .slice B0 m.f1.length d0, .slice B1 m.f2.length d1, .int .i64 st, .int .i64 (m.f1.length : Int), .slice B2 outs.length d2] 31)).heap.size by simp]; exact blk_new _ _⟩
      have BL0 : Below w.heap.size w W0 := by rw [hW0]; exact bel_alloc (bel_alloc (Below.refl _ _) _) _
      clear hW0
      obtain ⟨c0_, c1_, c2_, c3_, c4_, c5_, c6_, c7_⟩ := cells8 HF0.out
      obtain ⟨cz0_, cz1_, cz2_, cz3_, cz4_, cz5_, cz6_, cz7_⟩ := froz8 HF0.out
      obtain ⟨k0_, k1_, k2_, k3_, k4_, k5_, k6_, k7_⟩ := cells8 HF1.out
      obtain ⟨kz0_, kz1_, kz2_, kz3_, kz4_, kz5_, kz6_, kz7_⟩ := froz8 HF1.out
      go_loopg [4] outs.length (fun g v4 wr => ∃ i : Nat, i ≤ outs.length ∧ outs.length - i ≤ g ∧ v4 = .int .i64 i ∧ W0 = wr ∧ Aside0 (∀ j, j < i → ¬ outs.getD j 0 = 1))
      case atStart => exact ⟨0, Nat.zero_le _, by omega, rfl, rfl, ⟨fun j hj => absurd hj (Nat.not_lt_zero _)⟩⟩
      case round =>
        obtain ⟨i, hi, hg, rfl, rfl, H⟩ := hrel
        by_cases hlt : i < outs.length
        · have hlt' : (i : Int) < (outs.length : Int) := by omega
          obtain ⟨ad, e1, p0⟩ := at_Int (Kd.C_below hr2 BL0) i hlt
          subst e1
          generalize hy : outs.getD i 0 = y at p0
          have HY := Lib.hid hy
          clear hy
          by_cases hy1 : y = 1
          · subst hy1
            exact absurd (HG.out.symm.trans (has_of outs i hlt (by rw [HY.out]))) (by decide)
          · have hy2 : (y == 1) = false := by simp [hy1]
            go_wp2
            go_roundg (outs.length - (i + 1))
            case measure => omega
            case rel => exact ⟨i + 1, by omega, Nat.le_refl _, by go_num, rfl, ⟨fun j hj => by
              by_cases e : j = i
              · subst e; rw [HY.out]; exact hy1
              · exact H.out j (by omega)⟩⟩
        · have hlt' : ¬ (i : Int) < (outs.length : Int) := by omega
          go_wp2
          refine bodyPost_ret (v := .tuple #[.agg #[.string nm, .string m.f0.f0, .string m.f0.f1, .slice B0 m.f1.length d0, .slice B1 m.f2.length d1, .int .i64 6, .int .i64 (m.f1.length : Int), .slice B2 outs.length d2], .string ⟨#[81, 85, 73, 84]⟩]) ?hr6 rfl ?hp6
          case hr6 => simp [results, Tryz.results110, go_sem, c0_, c1_, c2_, c3_, c4_, c5_, c6_, c7_, k0_, k1_, k2_, k3_, k4_, k5_, k6_, k7_]
          case hp6 => exact ⟨rfl, by (with_reducible repeat (first | exact BL0 | refine bel_alloc ?_ _ | refine bel_set ?_ _ ?_ | refine blw_drewN ?_ _ | refine Below.drew ?_)); all_goals (first | (simp; done) | (simp; omega) | omega)⟩
    · rw [if_pos rfl]
      go_enter Tryz.func110, Tryz.ntmps110
      go_wp2
      obtain ⟨W0, hW0⟩ : ∃ W, W = (w.alloc (.cells #[.string nm, .string m.f0.f0, .string m.f0.f1, .slice B0 m.f1.length d0, .slice B1 m.f2.length d1, .int .i64 st, .int .i64 (m.f1.length : Int), .slice B2 outs.length d2] 31)).alloc (.cells #[.string ⟨#[]⟩, .string ⟨#[]⟩, .string ⟨#[]⟩, .slice none 0 0, .slice none 0 0, .int .i64 0, .int .i64 0, .slice none 0 0] 31) := ⟨_, rfl⟩
      rw [← hW0]
      have HF0 : Aside0 (W0.heap[w.heap.size]? = some (.cells #[.string nm, .string m.f0.f0, .string m.f0.f1, .slice B0 m.f1.length d0, .slice B1 m.f2.length d1, .int .i64 st, .int .i64 (m.f1.length : Int), .slice B2 outs.length d2] 31 (0, 0))) := ⟨by rw [hW0]; exact below_blk (blk_new _ _) (bel_alloc (Below.refl _ _) _)⟩
      have HF1 : Aside0 (W0.heap[w.heap.size + 1]? = some (.cells #[.string ⟨#[]⟩, .string ⟨#[]⟩, .string ⟨#[]⟩, .slice none 0 0, .slice none 0 0, .int .i64 0, .int .i64 0, .slice none 0 0] 31 (0, 0))) := ⟨by rw [hW0, show w.heap.size + 1 = (w.alloc (.cells #[.string nm, .string m.f0.f0, .string m.f0.f1, .slice B0 m.f1.length d0, .slice B1 m.f2.length d1, .int .i64 st, .int .i64 (m.f1.length : Int), .slice B2 outs.length d2] 31)).heap.size by simp]; exact blk_new _ _⟩
      have BL0 : Below w.heap.size w W0 := by rw [hW0]; exact bel_alloc (bel_alloc (Below.refl _ _) _) _
      clear hW0
      obtain ⟨c0_, c1_, c2_, c3_, c4_, c5_, c6_, c7_⟩ := cells8 HF0.out
      obtain ⟨cz0_, cz1_, cz2_, cz3_, cz4_, cz5_, cz6_, cz7_⟩ := froz8 HF0.out
      obtain ⟨k0_, k1_, k2_, k3_, k4_, k5_, k6_, k7_⟩ := cells8 HF1.out
      obtain ⟨kz0_, kz1_, kz2_, kz3_, kz4_, kz5_, kz6_, kz7_⟩ := froz8 HF1.out
      go_loopg [4] outs.length (fun g v4 wr => ∃ i : Nat, i ≤ outs.length ∧ outs.length - i ≤ g ∧ v4 = .int .i64 i ∧ W0 = wr ∧ Aside0 (∀ j, j < i → ¬ outs.getD j 0 = 1))
      case atStart => exact ⟨0, Nat.zero_le _, by omega, rfl, rfl, ⟨fun j hj => absurd hj (Nat.not_lt_zero _)⟩⟩
      case round =>
        obtain ⟨i, hi, hg, rfl, rfl, H⟩ := hrel
        by_cases hlt : i < outs.length
        · have hlt' : (i : Int) < (outs.length : Int) := by omega
          obtain ⟨ad, e1, p0⟩ := at_Int (Kd.C_below hr2 BL0) i hlt
          subst e1
          generalize hy : outs.getD i 0 = y at p0
          have HY := Lib.hid hy
          clear hy
          by_cases hy1 : y = 1
          · subst hy1
            go_wp2
            refine bodyPost_ret (v := .tuple #[.agg #[.string nm, .string m.f0.f0, .string m.f0.f1, .slice B0 m.f1.length d0, .slice B1 m.f2.length d1, .int .i64 4, .int .i64 (m.f1.length : Int), .slice (some ad) outs.length d2], .string ⟨#[68, 65, 84, 65]⟩]) ?hr4 rfl ?hp4
            case hr4 => simp [results, Tryz.results110, go_sem, c0_, c1_, c2_, c3_, c4_, c5_, c6_, c7_, k0_, k1_, k2_, k3_, k4_, k5_, k6_, k7_]
            case hp4 => exact ⟨rfl, by (with_reducible repeat (first | exact BL0 | refine bel_alloc ?_ _ | refine bel_set ?_ _ ?_ | refine blw_drewN ?_ _ | refine Below.drew ?_)); all_goals (first | (simp; done) | (simp; omega) | omega)⟩
          · have hy2 : (y == 1) = false := by simp [hy1]
            go_wp2
            go_roundg (outs.length - (i + 1))
            case measure => omega
            case rel => exact ⟨i + 1, by omega, Nat.le_refl _, by go_num, rfl, ⟨fun j hj => by
              by_cases e : j = i
              · subst e; rw [HY.out]; exact hy1
              · exact H.out j (by omega)⟩⟩
        · have hlt' : ¬ (i : Int) < (outs.length : Int) := by omega
          exact absurd (HG.out.symm.trans (has_not outs (fun j hj => H.out j (by omega)))) (by decide)

end Go.Proofs.YtoppgnmnbbhghaaGreatDoor

/- The reference's words on outcomes that become others: contracts. -/
namespace Go.Proofs.YtoppgnmnbbhghaaGreatDoor
open Go.RowKit Go.Proofs.YtoppgnmnbbhghaaGreatDoorW.PrintWords
set_option linter.unusedVariables false
set_option linter.unusedSimpArgs false

set_option maxRecDepth 100000 in
set_option maxHeartbeats 4000000 in
theorem specPass_any (nm : ByteArray) (m : SMail) (st pos : Int) (outs : List Int) (B0 : Option Addr) (d0 : Nat) (B1 : Option Addr) (d1 : Nat) (B2 : Option Addr) (d2 : Nat) (w : World) (hl : outs.length ≤ 1048576) (hr2 : Kd.C (Kd.int .i64) w B2 outs.length outs) :
    Calls Tryz.prog 112 #[.agg #[.string nm, .string m.f0.f0, .string m.f0.f1, .slice B0 m.f1.length d0, .slice B1 m.f2.length d1, .int .i64 st, .int .i64 pos, .slice B2 outs.length d2]] w fun e w' => ∃ B d, e = .returned (.agg #[.string nm, .string m.f0.f0, .string m.f0.f1, .slice B0 m.f1.length d0, .slice B1 m.f2.length d1, .int .i64 st, .int .i64 pos, .slice B outs.length d]) ∧ Kd.R (Kd.int .i64) 3 w' w.heap.size (fun _ => True) (.slice B outs.length d) (becomes 2 [1] outs) ∧ Below w.heap.size w w' := by
  obtain ⟨W0, hW0⟩ : ∃ W, W = (w.alloc (.cells #[.string nm, .string m.f0.f0, .string m.f0.f1, .slice B0 m.f1.length d0, .slice B1 m.f2.length d1, .int .i64 st, .int .i64 pos, .slice B2 outs.length d2] 31)).alloc (.cells #[.string ⟨#[]⟩, .string ⟨#[]⟩, .string ⟨#[]⟩, .slice none 0 0, .slice none 0 0, .int .i64 0, .int .i64 0, .slice none 0 0] 31) := ⟨_, rfl⟩
  have HF0 : Aside0 (W0.heap[w.heap.size]? = some (.cells #[.string nm, .string m.f0.f0, .string m.f0.f1, .slice B0 m.f1.length d0, .slice B1 m.f2.length d1, .int .i64 st, .int .i64 pos, .slice B2 outs.length d2] 31 (0, 0))) := ⟨by rw [hW0]; exact below_blk (blk_new _ _) (bel_alloc (Below.refl _ _) _)⟩
  have HF1 : Aside0 (W0.heap[w.heap.size + 1]? = some (.cells #[.string ⟨#[]⟩, .string ⟨#[]⟩, .string ⟨#[]⟩, .slice none 0 0, .slice none 0 0, .int .i64 0, .int .i64 0, .slice none 0 0] 31 (0, 0))) := ⟨by rw [hW0, show w.heap.size + 1 = (w.alloc (.cells #[.string nm, .string m.f0.f0, .string m.f0.f1, .slice B0 m.f1.length d0, .slice B1 m.f2.length d1, .int .i64 st, .int .i64 pos, .slice B2 outs.length d2] 31)).heap.size by simp]; exact blk_new _ _⟩
  have BL0 : Below w.heap.size w W0 := by rw [hW0]; exact bel_alloc (bel_alloc (Below.refl _ _) _) _
  have HZE := Lib.hid (show W0.heap.size = w.heap.size + 1 + 1 by rw [hW0]; simp)
  have HW0 := Lib.hid hW0
  clear hW0
  have HE : Aside0 (Kd.R (Kd.int .i64) 3 (W0.alloc (.cells #[] 3)) w.heap.size (fun _ => True) (.slice (some ⟨w.heap.size + 1 + 1, 0, none⟩) 0 0) []) := ⟨by rw [← HZE.out]; exact R_empty (Kd.int .i64) 3 W0 w.heap.size BL0.size trivial⟩
  have HR := Aside0.mk (Kd.C_below hr2 (bel_alloc BL0 (.cells #[] 3)))
  clear hr2
  go_enter Tryz.func112, Tryz.ntmps112
  go_wp2_with (rw [← HW0.out]; ((with_reducible refine gate_builtin (b := .append) (xs := #[.tmp 5, .tmp 7]) rfl ?_); (try (refine gate_guard (by rfl) ?_; dsimp only)); at_builtin; (refine Kd.R_append_rows (Kd.int .i64) (w0 := w) (w.heap.size) rfl (.tmp 5) (.tmp 7) 29 3 (.int .i64 0) 8 rfl Tryz.underlying29 info3 rfl (by decide) (by omega) (.slice (some ⟨w.heap.size + 1 + 1, 0, none⟩) 0 0) [] outs _ _ _ (fun _ => True) (fun _ => False) rfl rfl ?aO ?aR (fun _ _ h => h) (fun _ h => h.elim) (fun _ _ => trivial) ?aB ?aS ?aL ?_); (case aO => exact HE.out); (case aR => exact HR.out); (case aB => exact bel_alloc BL0 _); (case aS => exact (bel_alloc BL0 _).size); (case aL => (simp; omega)); intro v1 w1 ho hb hg hat; have HO := Aside0.mk ho; have HB := Aside0.mk hb; have GR := Lib.hid (show (W0.alloc (.cells #[] 3)).grownBy w1 (some (w.heap.size + 1 + 1)) from hg); clear ho hb hg hat))
  have ho : Kd.R (Kd.int .i64) 3 w1 w.heap.size (fun _ => True) v1 outs := HO.out
  obtain ⟨vB, vd, hv⟩ := Kd.R_slice ho
  subst hv
  have HO2 := Aside0.mk ho
  have F0 : Aside0 (w1.heap[w.heap.size]? = some (.cells #[.string nm, .string m.f0.f0, .string m.f0.f1, .slice B0 m.f1.length d0, .slice B1 m.f2.length d1, .int .i64 st, .int .i64 pos, .slice B2 outs.length d2] 31 (0, 0))) := ⟨(GR.out.block w.heap.size (blk_lt (below_blk HF0.out (bel_alloc (Below.refl _ _) _))) (fun e => by have e := Option.some.inj e; omega)).trans (below_blk HF0.out (bel_alloc (Below.refl _ _) _))⟩
  have F1 : Aside0 (w1.heap[w.heap.size + 1]? = some (.cells #[.string ⟨#[]⟩, .string ⟨#[]⟩, .string ⟨#[]⟩, .slice none 0 0, .slice none 0 0, .int .i64 0, .int .i64 0, .slice none 0 0] 31 (0, 0))) := ⟨(GR.out.block (w.heap.size + 1) (blk_lt (below_blk HF1.out (bel_alloc (Below.refl _ _) _))) (fun e => by have e := Option.some.inj e; omega)).trans (below_blk HF1.out (bel_alloc (Below.refl _ _) _))⟩
  clear ho HO HE HR GR HF0 HF1 BL0
  go_loopg [4] outs.length (fun gq vi wr => ∃ (k : Nat) (zs : List Int), k ≤ outs.length ∧ outs.length - k ≤ gq ∧ vi = .int .i64 (k : Int) ∧ Aside0 (zs = becomes 2 [1] (outs.take k) ++ outs.drop k) ∧ Aside0 (Kd.R (Kd.int .i64) 3 wr w.heap.size (fun _ => True) (.slice vB outs.length vd) zs) ∧ Aside0 (Below w.heap.size w wr) ∧ Aside0 (wr.heap[w.heap.size]? = some (.cells #[.string nm, .string m.f0.f0, .string m.f0.f1, .slice B0 m.f1.length d0, .slice B1 m.f2.length d1, .int .i64 st, .int .i64 pos, .slice B2 outs.length d2] 31 (0, 0))) ∧ Aside0 (wr.heap[w.heap.size + 1]? = some (.cells #[.string ⟨#[]⟩, .string ⟨#[]⟩, .string ⟨#[]⟩, .slice none 0 0, .slice none 0 0, .int .i64 0, .int .i64 0, .slice none 0 0] 31 (0, 0))))
  case atStart => exact ⟨0, outs, Nat.zero_le _, by omega, rfl, ⟨by simp [becomes]⟩, HO2, HB, F0, F1⟩
  case round =>
    clear HO2 HB F0 F1
    obtain ⟨k, zs, hk, hg, rfl, HZ, HRR, HB, F0, F1⟩ := hrel
    by_cases hlt : k < outs.length
    · have hlt' : (k : Int) < (outs.length : Int) := by omega
      have HLk : k < zs.length := by rw [HZ.out]; simp [becomes]; omega
      have hlz : zs.length = outs.length := ((Kd.R_reads' HRR.out).1).symm
      have HLZ := Lib.hid hlz
      clear hlz
      obtain ⟨gb, hBb, hgb, hgs⟩ := own_form2 HRR.out (by omega)
      subst hBb
      have hb0 : ¬ w.heap.size = gb := fun e => Kd.R_ne HRR.out F0.out (by decide) (by rw [e]; rfl)
      have hb1 : ¬ w.heap.size + 1 = gb := fun e => Kd.R_ne HRR.out F1.out (by decide) (by rw [e]; rfl)
      have hx : zs.getD k 0 = outs.getD k 0 := by
        rw [HZ.out, List.getD, List.getD, List.getElem?_append_right (by simp [becomes]; omega), List.getElem?_drop]
        simp [becomes]
        congr 2
        omega
      have hst : ∀ y, zs.set k y = becomes 2 [1] (outs.take k) ++ y :: outs.drop (k + 1) := fun y => by
        have hl : (becomes 2 [1] (outs.take k)).length = k := by simp [becomes]; omega
        rw [HZ.out, List.set_append_right _ _ (by omega), hl, Nat.sub_self, List.drop_eq_getElem_cons hlt, List.set_cons_zero]
      have hbe := becomes_step 2 [1] outs k hlt
      have HX := Lib.hid hx
      have HST := Lib.hid hst
      have HBE := Lib.hid hbe
      clear hx hst hbe
      obtain ⟨ce, hcl, hM, hcc, hfr⟩ := Kd.R_elem HRR.out 0 (k : Int) (by omega) (by omega)
      rw [Int.toNat_natCast, HX.out] at hM
      rw [Int.toNat_natCast] at hcc hfr
      generalize hyy : outs.getD k 0 = y at hM
      have HY := Lib.hid hyy
      clear hyy
      have hM' : ce = [.int .i64 y] := hM
      subst hM'
      have x0 : wr.cell? ⟨gb, k, none⟩ = some (.int .i64 y) := by have := hcc 0 _ rfl; rwa [show k * (Kd.int .i64).sz + 0 = k from by show k * 1 + 0 = k; omega] at this
      have f0 : wr.frozen? ⟨gb, k, none⟩ = false := by have := hfr 0; rwa [show k * (Kd.int .i64).sz + 0 = k from by show k * 1 + 0 = k; omega] at this
      clear hfr hM hcl
      by_cases h1 : y = 1
      · subst h1
        have hy0 : has [1] 1 = true := by decide
        have P1 := own_put2 HRR.out k hlt 2 [.int .i64 1] rfl 0 (.int .i64 2) (by decide) (by show _ = _; rfl) hcc
        rw [show k * (Kd.int .i64).sz + 0 = k from (by show k * 1 + 0 = k; omega)] at P1
        have HP := Aside0.mk P1.1
        have BP := Aside0.mk (bel_set HB.out (.int .i64 2) hgb : Below w.heap.size w (wr.setCell ⟨gb, k, none⟩ (.int .i64 2)))
        have FP0 := Aside0.mk ((P1.2.block _ (blk_lt F0.out) (fun e => hb0 (Option.some.inj e))).trans F0.out)
        have FP1 := Aside0.mk ((P1.2.block _ (blk_lt F1.out) (fun e => hb1 (Option.some.inj e))).trans F1.out)
        have HH := Lib.hid hy0
        clear P1 hcc hy0
        go_wp2
        go_roundg (outs.length - (k + 1))
        case measure => omega
        case rel =>
          refine ⟨k + 1, _, by omega, Nat.le_refl _, by go_num, ⟨?_⟩, HP, BP, FP0, FP1⟩
          rw [HST.out, HBE.out, HY.out, HH.out]
          simp
      have hy0 : has [1] y = false := by unfold has; simp only [List.any_cons, List.any_nil, Bool.or_false, Bool.or_eq_false_iff, decide_eq_false_iff_not]; omega
      have hn1 : (y == 1) = false := by simp [h1]
      have HH := Lib.hid hy0
      clear hy0 hcc
      go_wp2
      go_roundg (outs.length - (k + 1))
      case measure => omega
      case rel =>
        refine ⟨k + 1, zs, by omega, Nat.le_refl _, by go_num, ⟨?_⟩, HRR, HB, F0, F1⟩
        have h1 := HST.out y
        have h2 : zs.set k y = zs := by
          rw [← HY.out, ← HX.out]
          exact List.ext_getElem? (fun j => by
            rw [List.getElem?_set]
            by_cases e : k = j
            · subst e; simp [HLk, List.getD]
            · rw [if_neg e])
        rw [HBE.out, HY.out, HH.out, ← h2, h1]
        simp
    · have hlt' : ¬ (k : Int) < (outs.length : Int) := by omega
      have he : zs = becomes 2 [1] outs := by
        rw [HZ.out, List.take_of_length_le (by omega), List.drop_eq_nil_of_le (by omega), List.append_nil]
      rw [he] at HRR
      clear he
      obtain ⟨c0_, c1_, c2_, c3_, c4_, c5_, c6_, c7_⟩ := cells8 F0.out
      obtain ⟨cz0_, cz1_, cz2_, cz3_, cz4_, cz5_, cz6_, cz7_⟩ := froz8 F0.out
      obtain ⟨k0_, k1_, k2_, k3_, k4_, k5_, k6_, k7_⟩ := cells8 F1.out
      obtain ⟨kz0_, kz1_, kz2_, kz3_, kz4_, kz5_, kz6_, kz7_⟩ := froz8 F1.out
      go_wp2
      refine bodyPost_ret (v := .agg #[.string nm, .string m.f0.f0, .string m.f0.f1, .slice B0 m.f1.length d0, .slice B1 m.f2.length d1, .int .i64 st, .int .i64 pos, .slice vB outs.length vd]) ?hr rfl ?hp
      case hr => simp [results, Tryz.results112, go_sem, c0_, c1_, c2_, c3_, c4_, c5_, c6_, c7_, k0_, k1_, k2_, k3_, k4_, k5_, k6_, k7_]
      case hp =>
        have b0 : Below w.heap.size w (World.setCell wr ⟨w.heap.size, 7, none⟩ (.slice vB outs.length vd)) := bel_set HB.out _ (Nat.le_refl _)
        generalize hwz : World.setCell (World.setCell (World.setCell (World.setCell (World.setCell (World.setCell (World.setCell (World.setCell (World.setCell wr ⟨w.heap.size, 7, none⟩ (.slice vB outs.length vd)) ⟨w.heap.size + 1, 0, none⟩ _) ⟨w.heap.size + 1, 1, none⟩ _) ⟨w.heap.size + 1, 2, none⟩ _) ⟨w.heap.size + 1, 3, none⟩ _) ⟨w.heap.size + 1, 4, none⟩ _) ⟨w.heap.size + 1, 5, none⟩ _) ⟨w.heap.size + 1, 6, none⟩ _) ⟨w.heap.size + 1, 7, none⟩ _ = wz
        have GZ : (World.setCell wr ⟨w.heap.size, 7, none⟩ (.slice vB outs.length vd)).grownBy wz (some (w.heap.size + 1)) := by rw [← hwz]; exact (((((((grown_set1 _ _ _ _).trans (grown_set1 _ _ _ _)).trans (grown_set1 _ _ _ _)).trans (grown_set1 _ _ _ _)).trans (grown_set1 _ _ _ _)).trans (grown_set1 _ _ _ _)).trans (grown_set1 _ _ _ _)).trans (grown_set1 _ _ _ _)
        have BZ : Below w.heap.size w wz := by rw [← hwz]; exact (bel_set (bel_set (bel_set (bel_set (bel_set (bel_set (bel_set (bel_set b0 _ (by show w.heap.size ≤ w.heap.size + 1; omega)) _ (by show w.heap.size ≤ w.heap.size + 1; omega)) _ (by show w.heap.size ≤ w.heap.size + 1; omega)) _ (by show w.heap.size ≤ w.heap.size + 1; omega)) _ (by show w.heap.size ≤ w.heap.size + 1; omega)) _ (by show w.heap.size ≤ w.heap.size + 1; omega)) _ (by show w.heap.size ≤ w.heap.size + 1; omega)) _ (by show w.heap.size ≤ w.heap.size + 1; omega))
        clear hwz
        have Rm := R_else HRR.out rfl (grown_set1 wr w.heap.size 7 (.slice vB outs.length vd)) (Kd.R_ne HRR.out F0.out (by decide))
        have Fm := ((grown_set1 wr w.heap.size 7 (.slice vB outs.length vd)).block _ (blk_lt F1.out) (fun e => by have e := Option.some.inj e; omega)).trans F1.out
        exact ⟨vB, vd, rfl, R_else Rm rfl GZ (Kd.R_ne Rm Fm (by decide)), BZ⟩

set_option maxRecDepth 100000 in
set_option maxHeartbeats 4000000 in
theorem specAll_any (nm : ByteArray) (m : SMail) (st pos : Int) (outs : List Int) (B0 : Option Addr) (d0 : Nat) (B1 : Option Addr) (d1 : Nat) (B2 : Option Addr) (d2 : Nat) (nv : Int) (w : World) (hl : outs.length ≤ 1048576) (hr2 : Kd.C (Kd.int .i64) w B2 outs.length outs) :
    Calls Tryz.prog 151 #[.agg #[.string nm, .string m.f0.f0, .string m.f0.f1, .slice B0 m.f1.length d0, .slice B1 m.f2.length d1, .int .i64 st, .int .i64 pos, .slice B2 outs.length d2], .int .i64 nv] w fun e w' => ∃ B d, e = .returned (.agg #[.string nm, .string m.f0.f0, .string m.f0.f1, .slice B0 m.f1.length d0, .slice B1 m.f2.length d1, .int .i64 st, .int .i64 pos, .slice B outs.length d]) ∧ Kd.R (Kd.int .i64) 3 w' w.heap.size (fun _ => True) (.slice B outs.length d) (becomes nv [0, 1] outs) ∧ Below w.heap.size w w' := by
  obtain ⟨W0, hW0⟩ : ∃ W, W = (w.alloc (.cells #[.string nm, .string m.f0.f0, .string m.f0.f1, .slice B0 m.f1.length d0, .slice B1 m.f2.length d1, .int .i64 st, .int .i64 pos, .slice B2 outs.length d2] 31)).alloc (.cells #[.string ⟨#[]⟩, .string ⟨#[]⟩, .string ⟨#[]⟩, .slice none 0 0, .slice none 0 0, .int .i64 0, .int .i64 0, .slice none 0 0] 31) := ⟨_, rfl⟩
  have HF0 : Aside0 (W0.heap[w.heap.size]? = some (.cells #[.string nm, .string m.f0.f0, .string m.f0.f1, .slice B0 m.f1.length d0, .slice B1 m.f2.length d1, .int .i64 st, .int .i64 pos, .slice B2 outs.length d2] 31 (0, 0))) := ⟨by rw [hW0]; exact below_blk (blk_new _ _) (bel_alloc (Below.refl _ _) _)⟩
  have HF1 : Aside0 (W0.heap[w.heap.size + 1]? = some (.cells #[.string ⟨#[]⟩, .string ⟨#[]⟩, .string ⟨#[]⟩, .slice none 0 0, .slice none 0 0, .int .i64 0, .int .i64 0, .slice none 0 0] 31 (0, 0))) := ⟨by rw [hW0, show w.heap.size + 1 = (w.alloc (.cells #[.string nm, .string m.f0.f0, .string m.f0.f1, .slice B0 m.f1.length d0, .slice B1 m.f2.length d1, .int .i64 st, .int .i64 pos, .slice B2 outs.length d2] 31)).heap.size by simp]; exact blk_new _ _⟩
  have BL0 : Below w.heap.size w W0 := by rw [hW0]; exact bel_alloc (bel_alloc (Below.refl _ _) _) _
  have HZE := Lib.hid (show W0.heap.size = w.heap.size + 1 + 1 by rw [hW0]; simp)
  have HW0 := Lib.hid hW0
  clear hW0
  have HE : Aside0 (Kd.R (Kd.int .i64) 3 (W0.alloc (.cells #[] 3)) w.heap.size (fun _ => True) (.slice (some ⟨w.heap.size + 1 + 1, 0, none⟩) 0 0) []) := ⟨by rw [← HZE.out]; exact R_empty (Kd.int .i64) 3 W0 w.heap.size BL0.size trivial⟩
  have HR := Aside0.mk (Kd.C_below hr2 (bel_alloc BL0 (.cells #[] 3)))
  clear hr2
  go_enter Tryz.func151, Tryz.ntmps151
  go_wp2_with (rw [← HW0.out]; ((with_reducible refine gate_builtin (b := .append) (xs := #[.tmp 7, .tmp 9]) rfl ?_); (try (refine gate_guard (by rfl) ?_; dsimp only)); at_builtin; (refine Kd.R_append_rows (Kd.int .i64) (w0 := w) (w.heap.size) rfl (.tmp 7) (.tmp 9) 29 3 (.int .i64 0) 8 rfl Tryz.underlying29 info3 rfl (by decide) (by omega) (.slice (some ⟨w.heap.size + 1 + 1, 0, none⟩) 0 0) [] outs _ _ _ (fun _ => True) (fun _ => False) rfl rfl ?aO ?aR (fun _ _ h => h) (fun _ h => h.elim) (fun _ _ => trivial) ?aB ?aS ?aL ?_); (case aO => exact HE.out); (case aR => exact HR.out); (case aB => exact bel_alloc BL0 _); (case aS => exact (bel_alloc BL0 _).size); (case aL => (simp; omega)); intro v1 w1 ho hb hg hat; have HO := Aside0.mk ho; have HB := Aside0.mk hb; have GR := Lib.hid (show (W0.alloc (.cells #[] 3)).grownBy w1 (some (w.heap.size + 1 + 1)) from hg); clear ho hb hg hat))
  have ho : Kd.R (Kd.int .i64) 3 w1 w.heap.size (fun _ => True) v1 outs := HO.out
  obtain ⟨vB, vd, hv⟩ := Kd.R_slice ho
  subst hv
  have HO2 := Aside0.mk ho
  have F0 : Aside0 (w1.heap[w.heap.size]? = some (.cells #[.string nm, .string m.f0.f0, .string m.f0.f1, .slice B0 m.f1.length d0, .slice B1 m.f2.length d1, .int .i64 st, .int .i64 pos, .slice B2 outs.length d2] 31 (0, 0))) := ⟨(GR.out.block w.heap.size (blk_lt (below_blk HF0.out (bel_alloc (Below.refl _ _) _))) (fun e => by have e := Option.some.inj e; omega)).trans (below_blk HF0.out (bel_alloc (Below.refl _ _) _))⟩
  have F1 : Aside0 (w1.heap[w.heap.size + 1]? = some (.cells #[.string ⟨#[]⟩, .string ⟨#[]⟩, .string ⟨#[]⟩, .slice none 0 0, .slice none 0 0, .int .i64 0, .int .i64 0, .slice none 0 0] 31 (0, 0))) := ⟨(GR.out.block (w.heap.size + 1) (blk_lt (below_blk HF1.out (bel_alloc (Below.refl _ _) _))) (fun e => by have e := Option.some.inj e; omega)).trans (below_blk HF1.out (bel_alloc (Below.refl _ _) _))⟩
  clear ho HO HE HR GR HF0 HF1 BL0
  go_loopg [6] outs.length (fun gq vi wr => ∃ (k : Nat) (zs : List Int), k ≤ outs.length ∧ outs.length - k ≤ gq ∧ vi = .int .i64 (k : Int) ∧ Aside0 (zs = becomes nv [0, 1] (outs.take k) ++ outs.drop k) ∧ Aside0 (Kd.R (Kd.int .i64) 3 wr w.heap.size (fun _ => True) (.slice vB outs.length vd) zs) ∧ Aside0 (Below w.heap.size w wr) ∧ Aside0 (wr.heap[w.heap.size]? = some (.cells #[.string nm, .string m.f0.f0, .string m.f0.f1, .slice B0 m.f1.length d0, .slice B1 m.f2.length d1, .int .i64 st, .int .i64 pos, .slice B2 outs.length d2] 31 (0, 0))) ∧ Aside0 (wr.heap[w.heap.size + 1]? = some (.cells #[.string ⟨#[]⟩, .string ⟨#[]⟩, .string ⟨#[]⟩, .slice none 0 0, .slice none 0 0, .int .i64 0, .int .i64 0, .slice none 0 0] 31 (0, 0))))
  case atStart => exact ⟨0, outs, Nat.zero_le _, by omega, rfl, ⟨by simp [becomes]⟩, HO2, HB, F0, F1⟩
  case round =>
    clear HO2 HB F0 F1
    obtain ⟨k, zs, hk, hg, rfl, HZ, HRR, HB, F0, F1⟩ := hrel
    by_cases hlt : k < outs.length
    · have hlt' : (k : Int) < (outs.length : Int) := by omega
      have HLk : k < zs.length := by rw [HZ.out]; simp [becomes]; omega
      have hlz : zs.length = outs.length := ((Kd.R_reads' HRR.out).1).symm
      have HLZ := Lib.hid hlz
      clear hlz
      obtain ⟨gb, hBb, hgb, hgs⟩ := own_form2 HRR.out (by omega)
      subst hBb
      have hb0 : ¬ w.heap.size = gb := fun e => Kd.R_ne HRR.out F0.out (by decide) (by rw [e]; rfl)
      have hb1 : ¬ w.heap.size + 1 = gb := fun e => Kd.R_ne HRR.out F1.out (by decide) (by rw [e]; rfl)
      have hx : zs.getD k 0 = outs.getD k 0 := by
        rw [HZ.out, List.getD, List.getD, List.getElem?_append_right (by simp [becomes]; omega), List.getElem?_drop]
        simp [becomes]
        congr 2
        omega
      have hst : ∀ y, zs.set k y = becomes nv [0, 1] (outs.take k) ++ y :: outs.drop (k + 1) := fun y => by
        have hl : (becomes nv [0, 1] (outs.take k)).length = k := by simp [becomes]; omega
        rw [HZ.out, List.set_append_right _ _ (by omega), hl, Nat.sub_self, List.drop_eq_getElem_cons hlt, List.set_cons_zero]
      have hbe := becomes_step nv [0, 1] outs k hlt
      have HX := Lib.hid hx
      have HST := Lib.hid hst
      have HBE := Lib.hid hbe
      clear hx hst hbe
      obtain ⟨ce, hcl, hM, hcc, hfr⟩ := Kd.R_elem HRR.out 0 (k : Int) (by omega) (by omega)
      rw [Int.toNat_natCast, HX.out] at hM
      rw [Int.toNat_natCast] at hcc hfr
      generalize hyy : outs.getD k 0 = y at hM
      have HY := Lib.hid hyy
      clear hyy
      have hM' : ce = [.int .i64 y] := hM
      subst hM'
      have x0 : wr.cell? ⟨gb, k, none⟩ = some (.int .i64 y) := by have := hcc 0 _ rfl; rwa [show k * (Kd.int .i64).sz + 0 = k from by show k * 1 + 0 = k; omega] at this
      have f0 : wr.frozen? ⟨gb, k, none⟩ = false := by have := hfr 0; rwa [show k * (Kd.int .i64).sz + 0 = k from by show k * 1 + 0 = k; omega] at this
      clear hfr hM hcl
      by_cases h0 : y = 0
      · subst h0
        have hy0 : has [0, 1] 0 = true := by decide
        have P1 := own_put2 HRR.out k hlt nv [.int .i64 0] rfl 0 (.int .i64 nv) (by decide) (by show _ = _; rfl) hcc
        rw [show k * (Kd.int .i64).sz + 0 = k from (by show k * 1 + 0 = k; omega)] at P1
        have HP := Aside0.mk P1.1
        have BP := Aside0.mk (bel_set HB.out (.int .i64 nv) hgb : Below w.heap.size w (wr.setCell ⟨gb, k, none⟩ (.int .i64 nv)))
        have FP0 := Aside0.mk ((P1.2.block _ (blk_lt F0.out) (fun e => hb0 (Option.some.inj e))).trans F0.out)
        have FP1 := Aside0.mk ((P1.2.block _ (blk_lt F1.out) (fun e => hb1 (Option.some.inj e))).trans F1.out)
        have HH := Lib.hid hy0
        clear P1 hcc hy0
        go_wp2
        go_roundg (outs.length - (k + 1))
        case measure => omega
        case rel =>
          refine ⟨k + 1, _, by omega, Nat.le_refl _, by go_num, ⟨?_⟩, HP, BP, FP0, FP1⟩
          rw [HST.out, HBE.out, HY.out, HH.out]
          simp
      by_cases h1 : y = 1
      · subst h1
        have hy0 : has [0, 1] 1 = true := by decide
        have P1 := own_put2 HRR.out k hlt nv [.int .i64 1] rfl 0 (.int .i64 nv) (by decide) (by show _ = _; rfl) hcc
        rw [show k * (Kd.int .i64).sz + 0 = k from (by show k * 1 + 0 = k; omega)] at P1
        have HP := Aside0.mk P1.1
        have BP := Aside0.mk (bel_set HB.out (.int .i64 nv) hgb : Below w.heap.size w (wr.setCell ⟨gb, k, none⟩ (.int .i64 nv)))
        have FP0 := Aside0.mk ((P1.2.block _ (blk_lt F0.out) (fun e => hb0 (Option.some.inj e))).trans F0.out)
        have FP1 := Aside0.mk ((P1.2.block _ (blk_lt F1.out) (fun e => hb1 (Option.some.inj e))).trans F1.out)
        have HH := Lib.hid hy0
        clear P1 hcc hy0
        go_wp2
        go_roundg (outs.length - (k + 1))
        case measure => omega
        case rel =>
          refine ⟨k + 1, _, by omega, Nat.le_refl _, by go_num, ⟨?_⟩, HP, BP, FP0, FP1⟩
          rw [HST.out, HBE.out, HY.out, HH.out]
          simp
      have hy0 : has [0, 1] y = false := by unfold has; simp only [List.any_cons, List.any_nil, Bool.or_false, Bool.or_eq_false_iff, decide_eq_false_iff_not]; omega
      have hn0 : (y == 0) = false := by simp [h0]
      have hn1 : (y == 1) = false := by simp [h1]
      have HH := Lib.hid hy0
      clear hy0 hcc
      go_wp2
      go_roundg (outs.length - (k + 1))
      case measure => omega
      case rel =>
        refine ⟨k + 1, zs, by omega, Nat.le_refl _, by go_num, ⟨?_⟩, HRR, HB, F0, F1⟩
        have h1 := HST.out y
        have h2 : zs.set k y = zs := by
          rw [← HY.out, ← HX.out]
          exact List.ext_getElem? (fun j => by
            rw [List.getElem?_set]
            by_cases e : k = j
            · subst e; simp [HLk, List.getD]
            · rw [if_neg e])
        rw [HBE.out, HY.out, HH.out, ← h2, h1]
        simp
    · have hlt' : ¬ (k : Int) < (outs.length : Int) := by omega
      have he : zs = becomes nv [0, 1] outs := by
        rw [HZ.out, List.take_of_length_le (by omega), List.drop_eq_nil_of_le (by omega), List.append_nil]
      rw [he] at HRR
      clear he
      obtain ⟨c0_, c1_, c2_, c3_, c4_, c5_, c6_, c7_⟩ := cells8 F0.out
      obtain ⟨cz0_, cz1_, cz2_, cz3_, cz4_, cz5_, cz6_, cz7_⟩ := froz8 F0.out
      obtain ⟨k0_, k1_, k2_, k3_, k4_, k5_, k6_, k7_⟩ := cells8 F1.out
      obtain ⟨kz0_, kz1_, kz2_, kz3_, kz4_, kz5_, kz6_, kz7_⟩ := froz8 F1.out
      go_wp2
      refine bodyPost_ret (v := .agg #[.string nm, .string m.f0.f0, .string m.f0.f1, .slice B0 m.f1.length d0, .slice B1 m.f2.length d1, .int .i64 st, .int .i64 pos, .slice vB outs.length vd]) ?hr rfl ?hp
      case hr => simp [results, Tryz.results151, go_sem, c0_, c1_, c2_, c3_, c4_, c5_, c6_, c7_, k0_, k1_, k2_, k3_, k4_, k5_, k6_, k7_]
      case hp =>
        have b0 : Below w.heap.size w (World.setCell wr ⟨w.heap.size, 7, none⟩ (.slice vB outs.length vd)) := bel_set HB.out _ (Nat.le_refl _)
        generalize hwz : World.setCell (World.setCell (World.setCell (World.setCell (World.setCell (World.setCell (World.setCell (World.setCell (World.setCell wr ⟨w.heap.size, 7, none⟩ (.slice vB outs.length vd)) ⟨w.heap.size + 1, 0, none⟩ _) ⟨w.heap.size + 1, 1, none⟩ _) ⟨w.heap.size + 1, 2, none⟩ _) ⟨w.heap.size + 1, 3, none⟩ _) ⟨w.heap.size + 1, 4, none⟩ _) ⟨w.heap.size + 1, 5, none⟩ _) ⟨w.heap.size + 1, 6, none⟩ _) ⟨w.heap.size + 1, 7, none⟩ _ = wz
        have GZ : (World.setCell wr ⟨w.heap.size, 7, none⟩ (.slice vB outs.length vd)).grownBy wz (some (w.heap.size + 1)) := by rw [← hwz]; exact (((((((grown_set1 _ _ _ _).trans (grown_set1 _ _ _ _)).trans (grown_set1 _ _ _ _)).trans (grown_set1 _ _ _ _)).trans (grown_set1 _ _ _ _)).trans (grown_set1 _ _ _ _)).trans (grown_set1 _ _ _ _)).trans (grown_set1 _ _ _ _)
        have BZ : Below w.heap.size w wz := by rw [← hwz]; exact (bel_set (bel_set (bel_set (bel_set (bel_set (bel_set (bel_set (bel_set b0 _ (by show w.heap.size ≤ w.heap.size + 1; omega)) _ (by show w.heap.size ≤ w.heap.size + 1; omega)) _ (by show w.heap.size ≤ w.heap.size + 1; omega)) _ (by show w.heap.size ≤ w.heap.size + 1; omega)) _ (by show w.heap.size ≤ w.heap.size + 1; omega)) _ (by show w.heap.size ≤ w.heap.size + 1; omega)) _ (by show w.heap.size ≤ w.heap.size + 1; omega)) _ (by show w.heap.size ≤ w.heap.size + 1; omega))
        clear hwz
        have Rm := R_else HRR.out rfl (grown_set1 wr w.heap.size 7 (.slice vB outs.length vd)) (Kd.R_ne HRR.out F0.out (by decide))
        have Fm := ((grown_set1 wr w.heap.size 7 (.slice vB outs.length vd)).block _ (blk_lt F1.out) (fun e => by have e := Option.some.inj e; omega)).trans F1.out
        exact ⟨vB, vd, rfl, R_else Rm rfl GZ (Kd.R_ne Rm Fm (by decide)), BZ⟩

end Go.Proofs.YtoppgnmnbbhghaaGreatDoor

/- The reference's words on answers: contracts. -/
namespace Go.Proofs.YtoppgnmnbbhghaaGreatDoor
open Go.RowKit Go.Proofs.YtoppgnmnbbhghaaGreatDoorW.PrintWords
set_option linter.unusedVariables false
set_option linter.unusedSimpArgs false

theorem R_set {α : Type} {d : Kd α} {e base : Nat} {ok : Nat → Prop} {W : World} {v : Value} {xs : List α} {g j : Nat} {u : Value} (h : d.R e W base ok v xs) (hE : d.E = []) (hne : some g ≠ v.ownBlock) : d.R e (W.setCell ⟨g, j, none⟩ u) base ok v xs := R_else h hE (grown_set1 _ _ _ _) hne

set_option maxRecDepth 100000 in
set_option maxHeartbeats 4000000 in
theorem specTo1_any (nm : ByteArray) (m : SMail) (outs : List Int) (B0 : Option Addr) (d0 : Nat) (B1 : Option Addr) (d1 : Nat) (B2 : Option Addr) (d2 : Nat) (code : Int) (k : Nat) (w : World) (hm : fitMail m) (h0 : 0 ≤ ((k : Int) + 1)) (h1 : ((k : Int) + 1) ≤ (m.f1.length : Int)) (hl : outs.length ≤ 1048576) (hkl : k < outs.length) (hc : code = 250) (hr0 : Kd.C kAddr w B0 m.f1.length m.f1) (hr2 : Kd.C (Kd.int .i64) w B2 outs.length outs) :
    Calls Tryz.prog 108 #[.agg #[.string nm, .string m.f0.f0, .string m.f0.f1, .slice B0 m.f1.length d0, .slice B1 m.f2.length d1, .int .i64 3, .int .i64 ((k : Int) + 1), .slice B2 outs.length d2], .int .i64 code] w fun e w' => ∃ B d, e = .returned (.tuple #[.agg #[.string nm, .string m.f0.f0, .string m.f0.f1, .slice B0 m.f1.length d0, .slice B1 m.f2.length d1, .int .i64 (nextC ⟨nm, m, 3, ((k : Int) + 1), outs.set k 1⟩).1.f2, .int .i64 (nextC ⟨nm, m, 3, ((k : Int) + 1), outs.set k 1⟩).1.f3, .slice B outs.length d], .string (nextC ⟨nm, m, 3, ((k : Int) + 1), outs.set k 1⟩).2]) ∧ Kd.R (Kd.int .i64) 3 w' w.heap.size (fun _ => True) (.slice B outs.length d) (outs.set k 1) ∧ Below w.heap.size w w' := by
  have HMM := Lib.hid hm
  have HR0 := Lib.hid hr0
  have hwk : IntKind.i64.wrap (k : Int) = (k : Int) := wrapk k (by omega)
  have hwk1 : IntKind.i64.wrap ((k : Int) + 1 - 1) = (k : Int) := by rw [show (k : Int) + 1 - 1 = k from by omega]; exact hwk
  clear hm hr0
  generalize hN : (nextC ⟨nm, m, 3, ((k : Int) + 1), outs.set k 1⟩) = N
  have HNX := Lib.hid hN
  clear hN
  subst hc
  obtain ⟨W0, hW0⟩ : ∃ W, W = (w.alloc (.cells #[.string nm, .string m.f0.f0, .string m.f0.f1, .slice B0 m.f1.length d0, .slice B1 m.f2.length d1, .int .i64 3, .int .i64 ((k : Int) + 1), .slice B2 outs.length d2] 31)).alloc (.cells #[.string ⟨#[]⟩, .string ⟨#[]⟩, .string ⟨#[]⟩, .slice none 0 0, .slice none 0 0, .int .i64 0, .int .i64 0, .slice none 0 0] 31) := ⟨_, rfl⟩
  have HF0 : Aside0 (W0.heap[w.heap.size]? = some (.cells #[.string nm, .string m.f0.f0, .string m.f0.f1, .slice B0 m.f1.length d0, .slice B1 m.f2.length d1, .int .i64 3, .int .i64 ((k : Int) + 1), .slice B2 outs.length d2] 31 (0, 0))) := ⟨by rw [hW0]; exact below_blk (blk_new _ _) (bel_alloc (Below.refl _ _) _)⟩
  have HF1 : Aside0 (W0.heap[w.heap.size + 1]? = some (.cells #[.string ⟨#[]⟩, .string ⟨#[]⟩, .string ⟨#[]⟩, .slice none 0 0, .slice none 0 0, .int .i64 0, .int .i64 0, .slice none 0 0] 31 (0, 0))) := ⟨by rw [hW0, show w.heap.size + 1 = (w.alloc (.cells #[.string nm, .string m.f0.f0, .string m.f0.f1, .slice B0 m.f1.length d0, .slice B1 m.f2.length d1, .int .i64 3, .int .i64 ((k : Int) + 1), .slice B2 outs.length d2] 31)).heap.size by simp]; exact blk_new _ _⟩
  have BL0 : Below w.heap.size w W0 := by rw [hW0]; exact bel_alloc (bel_alloc (Below.refl _ _) _) _
  have HZE := Lib.hid (show W0.heap.size = w.heap.size + 1 + 1 by rw [hW0]; simp)
  have HW0 := Lib.hid hW0
  clear hW0
  have HE : Aside0 (Kd.R (Kd.int .i64) 3 (W0.alloc (.cells #[] 3)) w.heap.size (fun _ => True) (.slice (some ⟨w.heap.size + 1 + 1, 0, none⟩) 0 0) []) := ⟨by rw [← HZE.out]; exact R_empty (Kd.int .i64) 3 W0 w.heap.size BL0.size trivial⟩
  have HR := Aside0.mk (Kd.C_below hr2 (bel_alloc BL0 (.cells #[] 3)))
  clear hr2
  go_enter Tryz.func108, Tryz.ntmps108
  go_wp2_with (rw [← HW0.out]; ((with_reducible refine gate_builtin (b := .append) (xs := #[.tmp 7, .tmp 9]) rfl ?_); (try (refine gate_guard (by rfl) ?_; dsimp only)); at_builtin; (refine Kd.R_append_rows (Kd.int .i64) (w0 := w) (w.heap.size) rfl (.tmp 7) (.tmp 9) 29 3 (.int .i64 0) 8 rfl Tryz.underlying29 info3 rfl (by decide) (by omega) (.slice (some ⟨w.heap.size + 1 + 1, 0, none⟩) 0 0) [] outs _ _ _ (fun _ => True) (fun _ => False) rfl rfl ?aO ?aR (fun _ _ h => h) (fun _ h => h.elim) (fun _ _ => trivial) ?aB ?aS ?aL ?_); (case aO => exact HE.out); (case aR => exact HR.out); (case aB => exact bel_alloc BL0 _); (case aS => exact (bel_alloc BL0 _).size); (case aL => (simp; omega)); intro v1 w1 ho hb hg hat; have HO := Aside0.mk ho; have HB := Aside0.mk hb; have GR := Lib.hid (show (W0.alloc (.cells #[] 3)).grownBy w1 (some (w.heap.size + 1 + 1)) from hg); clear ho hb hg hat; have ho2 : Kd.R (Kd.int .i64) 3 w1 w.heap.size (fun _ => True) v1 outs := HO.out; obtain ⟨vB, vd, hv⟩ := Kd.R_slice ho2; subst hv; obtain ⟨gb, hBb, hgb, hgs⟩ := own_form2 ho2 (by omega); subst hBb; have F0 : Aside0 (w1.heap[w.heap.size]? = some (.cells #[.string nm, .string m.f0.f0, .string m.f0.f1, .slice B0 m.f1.length d0, .slice B1 m.f2.length d1, .int .i64 3, .int .i64 ((k : Int) + 1), .slice B2 outs.length d2] 31 (0, 0))) := ⟨(GR.out.block w.heap.size (blk_lt (below_blk HF0.out (bel_alloc (Below.refl _ _) _))) (fun e => by have e := Option.some.inj e; omega)).trans (below_blk HF0.out (bel_alloc (Below.refl _ _) _))⟩; have F1 : Aside0 (w1.heap[w.heap.size + 1]? = some (.cells #[.string ⟨#[]⟩, .string ⟨#[]⟩, .string ⟨#[]⟩, .slice none 0 0, .slice none 0 0, .int .i64 0, .int .i64 0, .slice none 0 0] 31 (0, 0))) := ⟨(GR.out.block (w.heap.size + 1) (blk_lt (below_blk HF1.out (bel_alloc (Below.refl _ _) _))) (fun e => by have e := Option.some.inj e; omega)).trans (below_blk HF1.out (bel_alloc (Below.refl _ _) _))⟩; have hb0 : ¬ w.heap.size = gb := (fun e => Kd.R_ne ho2 F0.out (by decide) (by rw [e]; rfl)); have hb1 : ¬ w.heap.size + 1 = gb := (fun e => Kd.R_ne ho2 F1.out (by decide) (by rw [e]; rfl)); obtain ⟨ce, hcl, hM, hcc, hfr⟩ := Kd.R_elem ho2 0 (k : Int) (by omega) (by omega); rw [Int.toNat_natCast] at hM hcc hfr; generalize outs.getD k 0 = y at hM; have hM' : ce = [.int .i64 y] := hM; subst hM'; have x0 : w1.cell? ⟨gb, k, none⟩ = some (.int .i64 y) := (by have := hcc 0 _ rfl; rwa [show k * (Kd.int .i64).sz + 0 = k from (by show k * 1 + 0 = k; omega)] at this); have f0 : w1.frozen? ⟨gb, k, none⟩ = false := (by have := hfr 0; rwa [show k * (Kd.int .i64).sz + 0 = k from (by show k * 1 + 0 = k; omega)] at this); have P1 := own_put2 ho2 k hkl 1 [.int .i64 y] rfl 0 (.int .i64 1) (by decide) (by show _ = _; rfl) hcc; rw [show k * (Kd.int .i64).sz + 0 = k from (by show k * 1 + 0 = k; omega)] at P1; have HP := Aside0.mk P1.1; have HQ := Aside0.mk P1.2; have c0_ : w1.cell? ⟨w.heap.size, 0, none⟩ = some (.string nm) := (by simp [World.cell?, F0.out]); have c1_ : w1.cell? ⟨w.heap.size, 1, none⟩ = some (.string m.f0.f0) := (by simp [World.cell?, F0.out]); have c2_ : w1.cell? ⟨w.heap.size, 2, none⟩ = some (.string m.f0.f1) := (by simp [World.cell?, F0.out]); have c3_ : w1.cell? ⟨w.heap.size, 3, none⟩ = some (.slice B0 m.f1.length d0) := (by simp [World.cell?, F0.out]); have c4_ : w1.cell? ⟨w.heap.size, 4, none⟩ = some (.slice B1 m.f2.length d1) := (by simp [World.cell?, F0.out]); have c5_ : w1.cell? ⟨w.heap.size, 5, none⟩ = some (.int .i64 3) := (by simp [World.cell?, F0.out]); have c6_ : w1.cell? ⟨w.heap.size, 6, none⟩ = some (.int .i64 ((k : Int) + 1)) := (by simp [World.cell?, F0.out]); have c7_ : w1.cell? ⟨w.heap.size, 7, none⟩ = some (.slice B2 outs.length d2) := (by simp [World.cell?, F0.out]); have cz0_ : w1.frozen? ⟨w.heap.size, 0, none⟩ = false := (by simp [World.frozen?, F0.out]); have cz1_ : w1.frozen? ⟨w.heap.size, 1, none⟩ = false := (by simp [World.frozen?, F0.out]); have cz2_ : w1.frozen? ⟨w.heap.size, 2, none⟩ = false := (by simp [World.frozen?, F0.out]); have cz3_ : w1.frozen? ⟨w.heap.size, 3, none⟩ = false := (by simp [World.frozen?, F0.out]); have cz4_ : w1.frozen? ⟨w.heap.size, 4, none⟩ = false := (by simp [World.frozen?, F0.out]); have cz5_ : w1.frozen? ⟨w.heap.size, 5, none⟩ = false := (by simp [World.frozen?, F0.out]); have cz6_ : w1.frozen? ⟨w.heap.size, 6, none⟩ = false := (by simp [World.frozen?, F0.out]); have cz7_ : w1.frozen? ⟨w.heap.size, 7, none⟩ = false := (by simp [World.frozen?, F0.out]); clear ho2 P1 hcc hfr hM hcl HO HE HR GR HF0 HF1))
  generalize hV : World.setCell (World.setCell w1 _ _) _ _ = V
  have FP0 := (HQ.out.block _ (blk_lt F0.out) (fun e => hb0 (Option.some.inj e))).trans F0.out
  have FP1 := (HQ.out.block _ (blk_lt F1.out) (fun e => hb1 (Option.some.inj e))).trans F1.out
  have BV : Below w.heap.size w V := by rw [← hV]; exact bel_set (bel_set HB.out _ hgb) _ (Nat.le_refl _)
  have FV1 : V.heap[w.heap.size + 1]? = some (.cells #[.string ⟨#[]⟩, .string ⟨#[]⟩, .string ⟨#[]⟩, .slice none 0 0, .slice none 0 0, .int .i64 0, .int .i64 0, .slice none 0 0] 31 (0, 0)) := by rw [← hV]; exact ((grown_set1 _ w.heap.size 7 _).block _ (blk_lt FP1) (fun e => by have e := Option.some.inj e; omega)).trans FP1
  have RV : Kd.R (Kd.int .i64) 3 V w.heap.size (fun _ => True) (.slice (some ⟨gb, 0, none⟩) outs.length vd) (outs.set k 1) := by rw [← hV]; exact R_else HP.out rfl (grown_set1 _ _ _ _) (Kd.R_ne HP.out FP0 (by decide))
  clear hV FP0 FP1 HP HQ F0 F1 HB c0_ cz0_ c1_ cz1_ c2_ cz2_ c3_ cz3_ c4_ cz4_ c5_ cz5_ c6_ cz6_ c7_ cz7_ x0 f0
  have hn := specNext_any nm m 3 ((k : Int) + 1) (outs.set k 1) B0 d0 B1 d1 (some ⟨gb, 0, none⟩) vd V HMM.out h0 h1
  simp only [List.length_set] at hn
  rw [HNX.out] at hn
  have hn := hn hl (Kd.C_below HR0.out BV) (by have := (Kd.R_reads' RV).2.2; simpa only [List.length_set] using this)
  have HRV := Aside0.mk RV
  have HFV := Aside0.mk FV1
  have HBV := Aside0.mk BV
  clear RV FV1 BV
  refine hn.mono ?_
  rintro e w2 ⟨rfl, b2⟩
  have F1 := Aside0.mk (below_blk HFV.out b2)
  have R2 := Aside0.mk (Kd.R_below HRV.out b2)
  have b0 := bel_then HBV.out b2
  clear hn HRV HFV HBV b2
  obtain ⟨k0_, k1_, k2_, k3_, k4_, k5_, k6_, k7_⟩ := cells8 F1.out
  obtain ⟨kz0_, kz1_, kz2_, kz3_, kz4_, kz5_, kz6_, kz7_⟩ := froz8 F1.out
  go_wp2
  refine bodyPost_ret (v := .tuple #[.agg #[.string nm, .string m.f0.f0, .string m.f0.f1, .slice B0 m.f1.length d0, .slice B1 m.f2.length d1, .int .i64 N.1.f2, .int .i64 N.1.f3, .slice (some ⟨gb, 0, none⟩) outs.length vd], .string (N.2)]) ?hr rfl ?hp
  case hr => simp [results, Tryz.results108, go_sem, k0_, k1_, k2_, k3_, k4_, k5_, k6_, k7_]
  case hp =>
    generalize hwz : World.setCell (World.setCell (World.setCell (World.setCell (World.setCell (World.setCell (World.setCell (World.setCell w2 ⟨w.heap.size + 1, 0, none⟩ _) ⟨w.heap.size + 1, 1, none⟩ _) ⟨w.heap.size + 1, 2, none⟩ _) ⟨w.heap.size + 1, 3, none⟩ _) ⟨w.heap.size + 1, 4, none⟩ _) ⟨w.heap.size + 1, 5, none⟩ _) ⟨w.heap.size + 1, 6, none⟩ _) ⟨w.heap.size + 1, 7, none⟩ _ = wz
    have GZ : w2.grownBy wz (some (w.heap.size + 1)) := by rw [← hwz]; exact (((((((grown_set1 _ _ _ _).trans (grown_set1 _ _ _ _)).trans (grown_set1 _ _ _ _)).trans (grown_set1 _ _ _ _)).trans (grown_set1 _ _ _ _)).trans (grown_set1 _ _ _ _)).trans (grown_set1 _ _ _ _)).trans (grown_set1 _ _ _ _)
    have BZ : Below w.heap.size w wz := by rw [← hwz]; exact (bel_set (bel_set (bel_set (bel_set (bel_set (bel_set (bel_set (bel_set b0 _ (by show w.heap.size ≤ w.heap.size + 1; omega)) _ (by show w.heap.size ≤ w.heap.size + 1; omega)) _ (by show w.heap.size ≤ w.heap.size + 1; omega)) _ (by show w.heap.size ≤ w.heap.size + 1; omega)) _ (by show w.heap.size ≤ w.heap.size + 1; omega)) _ (by show w.heap.size ≤ w.heap.size + 1; omega)) _ (by show w.heap.size ≤ w.heap.size + 1; omega)) _ (by show w.heap.size ≤ w.heap.size + 1; omega))
    clear hwz
    exact ⟨some ⟨gb, 0, none⟩, vd, rfl, R_else R2.out rfl GZ (Kd.R_ne R2.out F1.out (by decide)), BZ⟩

set_option maxRecDepth 100000 in
set_option maxHeartbeats 4000000 in
theorem specTo4_any (nm : ByteArray) (m : SMail) (outs : List Int) (B0 : Option Addr) (d0 : Nat) (B1 : Option Addr) (d1 : Nat) (B2 : Option Addr) (d2 : Nat) (code : Int) (k : Nat) (w : World) (hm : fitMail m) (h0 : 0 ≤ ((k : Int) + 1)) (h1 : ((k : Int) + 1) ≤ (m.f1.length : Int)) (hl : outs.length ≤ 1048576) (hkl : k < outs.length) (hc : ¬ code = 250) (h5 : 500 ≤ code) (hr0 : Kd.C kAddr w B0 m.f1.length m.f1) (hr2 : Kd.C (Kd.int .i64) w B2 outs.length outs) :
    Calls Tryz.prog 108 #[.agg #[.string nm, .string m.f0.f0, .string m.f0.f1, .slice B0 m.f1.length d0, .slice B1 m.f2.length d1, .int .i64 3, .int .i64 ((k : Int) + 1), .slice B2 outs.length d2], .int .i64 code] w fun e w' => ∃ B d, e = .returned (.tuple #[.agg #[.string nm, .string m.f0.f0, .string m.f0.f1, .slice B0 m.f1.length d0, .slice B1 m.f2.length d1, .int .i64 (nextC ⟨nm, m, 3, ((k : Int) + 1), outs.set k 4⟩).1.f2, .int .i64 (nextC ⟨nm, m, 3, ((k : Int) + 1), outs.set k 4⟩).1.f3, .slice B outs.length d], .string (nextC ⟨nm, m, 3, ((k : Int) + 1), outs.set k 4⟩).2]) ∧ Kd.R (Kd.int .i64) 3 w' w.heap.size (fun _ => True) (.slice B outs.length d) (outs.set k 4) ∧ Below w.heap.size w w' := by
  have HMM := Lib.hid hm
  have HR0 := Lib.hid hr0
  have hwk : IntKind.i64.wrap (k : Int) = (k : Int) := wrapk k (by omega)
  have hwk1 : IntKind.i64.wrap ((k : Int) + 1 - 1) = (k : Int) := by rw [show (k : Int) + 1 - 1 = k from by omega]; exact hwk
  clear hm hr0
  generalize hN : (nextC ⟨nm, m, 3, ((k : Int) + 1), outs.set k 4⟩) = N
  have HNX := Lib.hid hN
  clear hN
  have hcb : (code == 250) = false := by simp [hc]
  obtain ⟨W0, hW0⟩ : ∃ W, W = (w.alloc (.cells #[.string nm, .string m.f0.f0, .string m.f0.f1, .slice B0 m.f1.length d0, .slice B1 m.f2.length d1, .int .i64 3, .int .i64 ((k : Int) + 1), .slice B2 outs.length d2] 31)).alloc (.cells #[.string ⟨#[]⟩, .string ⟨#[]⟩, .string ⟨#[]⟩, .slice none 0 0, .slice none 0 0, .int .i64 0, .int .i64 0, .slice none 0 0] 31) := ⟨_, rfl⟩
  have HF0 : Aside0 (W0.heap[w.heap.size]? = some (.cells #[.string nm, .string m.f0.f0, .string m.f0.f1, .slice B0 m.f1.length d0, .slice B1 m.f2.length d1, .int .i64 3, .int .i64 ((k : Int) + 1), .slice B2 outs.length d2] 31 (0, 0))) := ⟨by rw [hW0]; exact below_blk (blk_new _ _) (bel_alloc (Below.refl _ _) _)⟩
  have HF1 : Aside0 (W0.heap[w.heap.size + 1]? = some (.cells #[.string ⟨#[]⟩, .string ⟨#[]⟩, .string ⟨#[]⟩, .slice none 0 0, .slice none 0 0, .int .i64 0, .int .i64 0, .slice none 0 0] 31 (0, 0))) := ⟨by rw [hW0, show w.heap.size + 1 = (w.alloc (.cells #[.string nm, .string m.f0.f0, .string m.f0.f1, .slice B0 m.f1.length d0, .slice B1 m.f2.length d1, .int .i64 3, .int .i64 ((k : Int) + 1), .slice B2 outs.length d2] 31)).heap.size by simp]; exact blk_new _ _⟩
  have BL0 : Below w.heap.size w W0 := by rw [hW0]; exact bel_alloc (bel_alloc (Below.refl _ _) _) _
  have HZE := Lib.hid (show W0.heap.size = w.heap.size + 1 + 1 by rw [hW0]; simp)
  have HW0 := Lib.hid hW0
  clear hW0
  have HE : Aside0 (Kd.R (Kd.int .i64) 3 (W0.alloc (.cells #[] 3)) w.heap.size (fun _ => True) (.slice (some ⟨w.heap.size + 1 + 1, 0, none⟩) 0 0) []) := ⟨by rw [← HZE.out]; exact R_empty (Kd.int .i64) 3 W0 w.heap.size BL0.size trivial⟩
  have HR := Aside0.mk (Kd.C_below hr2 (bel_alloc BL0 (.cells #[] 3)))
  clear hr2
  go_enter Tryz.func108, Tryz.ntmps108
  go_wp2_with (rw [← HW0.out]; ((with_reducible refine gate_builtin (b := .append) (xs := #[.tmp 7, .tmp 9]) rfl ?_); (try (refine gate_guard (by rfl) ?_; dsimp only)); at_builtin; (refine Kd.R_append_rows (Kd.int .i64) (w0 := w) (w.heap.size) rfl (.tmp 7) (.tmp 9) 29 3 (.int .i64 0) 8 rfl Tryz.underlying29 info3 rfl (by decide) (by omega) (.slice (some ⟨w.heap.size + 1 + 1, 0, none⟩) 0 0) [] outs _ _ _ (fun _ => True) (fun _ => False) rfl rfl ?aO ?aR (fun _ _ h => h) (fun _ h => h.elim) (fun _ _ => trivial) ?aB ?aS ?aL ?_); (case aO => exact HE.out); (case aR => exact HR.out); (case aB => exact bel_alloc BL0 _); (case aS => exact (bel_alloc BL0 _).size); (case aL => (simp; omega)); intro v1 w1 ho hb hg hat; have HO := Aside0.mk ho; have HB := Aside0.mk hb; have GR := Lib.hid (show (W0.alloc (.cells #[] 3)).grownBy w1 (some (w.heap.size + 1 + 1)) from hg); clear ho hb hg hat; have ho2 : Kd.R (Kd.int .i64) 3 w1 w.heap.size (fun _ => True) v1 outs := HO.out; obtain ⟨vB, vd, hv⟩ := Kd.R_slice ho2; subst hv; obtain ⟨gb, hBb, hgb, hgs⟩ := own_form2 ho2 (by omega); subst hBb; have F0 : Aside0 (w1.heap[w.heap.size]? = some (.cells #[.string nm, .string m.f0.f0, .string m.f0.f1, .slice B0 m.f1.length d0, .slice B1 m.f2.length d1, .int .i64 3, .int .i64 ((k : Int) + 1), .slice B2 outs.length d2] 31 (0, 0))) := ⟨(GR.out.block w.heap.size (blk_lt (below_blk HF0.out (bel_alloc (Below.refl _ _) _))) (fun e => by have e := Option.some.inj e; omega)).trans (below_blk HF0.out (bel_alloc (Below.refl _ _) _))⟩; have F1 : Aside0 (w1.heap[w.heap.size + 1]? = some (.cells #[.string ⟨#[]⟩, .string ⟨#[]⟩, .string ⟨#[]⟩, .slice none 0 0, .slice none 0 0, .int .i64 0, .int .i64 0, .slice none 0 0] 31 (0, 0))) := ⟨(GR.out.block (w.heap.size + 1) (blk_lt (below_blk HF1.out (bel_alloc (Below.refl _ _) _))) (fun e => by have e := Option.some.inj e; omega)).trans (below_blk HF1.out (bel_alloc (Below.refl _ _) _))⟩; have hb0 : ¬ w.heap.size = gb := (fun e => Kd.R_ne ho2 F0.out (by decide) (by rw [e]; rfl)); have hb1 : ¬ w.heap.size + 1 = gb := (fun e => Kd.R_ne ho2 F1.out (by decide) (by rw [e]; rfl)); obtain ⟨ce, hcl, hM, hcc, hfr⟩ := Kd.R_elem ho2 0 (k : Int) (by omega) (by omega); rw [Int.toNat_natCast] at hM hcc hfr; generalize outs.getD k 0 = y at hM; have hM' : ce = [.int .i64 y] := hM; subst hM'; have x0 : w1.cell? ⟨gb, k, none⟩ = some (.int .i64 y) := (by have := hcc 0 _ rfl; rwa [show k * (Kd.int .i64).sz + 0 = k from (by show k * 1 + 0 = k; omega)] at this); have f0 : w1.frozen? ⟨gb, k, none⟩ = false := (by have := hfr 0; rwa [show k * (Kd.int .i64).sz + 0 = k from (by show k * 1 + 0 = k; omega)] at this); have P1 := own_put2 ho2 k hkl 4 [.int .i64 y] rfl 0 (.int .i64 4) (by decide) (by show _ = _; rfl) hcc; rw [show k * (Kd.int .i64).sz + 0 = k from (by show k * 1 + 0 = k; omega)] at P1; have HP := Aside0.mk P1.1; have HQ := Aside0.mk P1.2; have c0_ : w1.cell? ⟨w.heap.size, 0, none⟩ = some (.string nm) := (by simp [World.cell?, F0.out]); have c1_ : w1.cell? ⟨w.heap.size, 1, none⟩ = some (.string m.f0.f0) := (by simp [World.cell?, F0.out]); have c2_ : w1.cell? ⟨w.heap.size, 2, none⟩ = some (.string m.f0.f1) := (by simp [World.cell?, F0.out]); have c3_ : w1.cell? ⟨w.heap.size, 3, none⟩ = some (.slice B0 m.f1.length d0) := (by simp [World.cell?, F0.out]); have c4_ : w1.cell? ⟨w.heap.size, 4, none⟩ = some (.slice B1 m.f2.length d1) := (by simp [World.cell?, F0.out]); have c5_ : w1.cell? ⟨w.heap.size, 5, none⟩ = some (.int .i64 3) := (by simp [World.cell?, F0.out]); have c6_ : w1.cell? ⟨w.heap.size, 6, none⟩ = some (.int .i64 ((k : Int) + 1)) := (by simp [World.cell?, F0.out]); have c7_ : w1.cell? ⟨w.heap.size, 7, none⟩ = some (.slice B2 outs.length d2) := (by simp [World.cell?, F0.out]); have cz0_ : w1.frozen? ⟨w.heap.size, 0, none⟩ = false := (by simp [World.frozen?, F0.out]); have cz1_ : w1.frozen? ⟨w.heap.size, 1, none⟩ = false := (by simp [World.frozen?, F0.out]); have cz2_ : w1.frozen? ⟨w.heap.size, 2, none⟩ = false := (by simp [World.frozen?, F0.out]); have cz3_ : w1.frozen? ⟨w.heap.size, 3, none⟩ = false := (by simp [World.frozen?, F0.out]); have cz4_ : w1.frozen? ⟨w.heap.size, 4, none⟩ = false := (by simp [World.frozen?, F0.out]); have cz5_ : w1.frozen? ⟨w.heap.size, 5, none⟩ = false := (by simp [World.frozen?, F0.out]); have cz6_ : w1.frozen? ⟨w.heap.size, 6, none⟩ = false := (by simp [World.frozen?, F0.out]); have cz7_ : w1.frozen? ⟨w.heap.size, 7, none⟩ = false := (by simp [World.frozen?, F0.out]); clear ho2 P1 hcc hfr hM hcl HO HE HR GR HF0 HF1))
  generalize hV : World.setCell (World.setCell w1 _ _) _ _ = V
  have FP0 := (HQ.out.block _ (blk_lt F0.out) (fun e => hb0 (Option.some.inj e))).trans F0.out
  have FP1 := (HQ.out.block _ (blk_lt F1.out) (fun e => hb1 (Option.some.inj e))).trans F1.out
  have BV : Below w.heap.size w V := by rw [← hV]; exact bel_set (bel_set HB.out _ hgb) _ (Nat.le_refl _)
  have FV1 : V.heap[w.heap.size + 1]? = some (.cells #[.string ⟨#[]⟩, .string ⟨#[]⟩, .string ⟨#[]⟩, .slice none 0 0, .slice none 0 0, .int .i64 0, .int .i64 0, .slice none 0 0] 31 (0, 0)) := by rw [← hV]; exact ((grown_set1 _ w.heap.size 7 _).block _ (blk_lt FP1) (fun e => by have e := Option.some.inj e; omega)).trans FP1
  have RV : Kd.R (Kd.int .i64) 3 V w.heap.size (fun _ => True) (.slice (some ⟨gb, 0, none⟩) outs.length vd) (outs.set k 4) := by rw [← hV]; exact R_else HP.out rfl (grown_set1 _ _ _ _) (Kd.R_ne HP.out FP0 (by decide))
  clear hV FP0 FP1 HP HQ F0 F1 HB c0_ cz0_ c1_ cz1_ c2_ cz2_ c3_ cz3_ c4_ cz4_ c5_ cz5_ c6_ cz6_ c7_ cz7_ x0 f0
  have hn := specNext_any nm m 3 ((k : Int) + 1) (outs.set k 4) B0 d0 B1 d1 (some ⟨gb, 0, none⟩) vd V HMM.out h0 h1
  simp only [List.length_set] at hn
  rw [HNX.out] at hn
  have hn := hn hl (Kd.C_below HR0.out BV) (by have := (Kd.R_reads' RV).2.2; simpa only [List.length_set] using this)
  have HRV := Aside0.mk RV
  have HFV := Aside0.mk FV1
  have HBV := Aside0.mk BV
  clear RV FV1 BV
  refine hn.mono ?_
  rintro e w2 ⟨rfl, b2⟩
  have F1 := Aside0.mk (below_blk HFV.out b2)
  have R2 := Aside0.mk (Kd.R_below HRV.out b2)
  have b0 := bel_then HBV.out b2
  clear hn HRV HFV HBV b2
  obtain ⟨k0_, k1_, k2_, k3_, k4_, k5_, k6_, k7_⟩ := cells8 F1.out
  obtain ⟨kz0_, kz1_, kz2_, kz3_, kz4_, kz5_, kz6_, kz7_⟩ := froz8 F1.out
  go_wp2
  refine bodyPost_ret (v := .tuple #[.agg #[.string nm, .string m.f0.f0, .string m.f0.f1, .slice B0 m.f1.length d0, .slice B1 m.f2.length d1, .int .i64 N.1.f2, .int .i64 N.1.f3, .slice (some ⟨gb, 0, none⟩) outs.length vd], .string (N.2)]) ?hr rfl ?hp
  case hr => simp [results, Tryz.results108, go_sem, k0_, k1_, k2_, k3_, k4_, k5_, k6_, k7_]
  case hp =>
    generalize hwz : World.setCell (World.setCell (World.setCell (World.setCell (World.setCell (World.setCell (World.setCell (World.setCell w2 ⟨w.heap.size + 1, 0, none⟩ _) ⟨w.heap.size + 1, 1, none⟩ _) ⟨w.heap.size + 1, 2, none⟩ _) ⟨w.heap.size + 1, 3, none⟩ _) ⟨w.heap.size + 1, 4, none⟩ _) ⟨w.heap.size + 1, 5, none⟩ _) ⟨w.heap.size + 1, 6, none⟩ _) ⟨w.heap.size + 1, 7, none⟩ _ = wz
    have GZ : w2.grownBy wz (some (w.heap.size + 1)) := by rw [← hwz]; exact (((((((grown_set1 _ _ _ _).trans (grown_set1 _ _ _ _)).trans (grown_set1 _ _ _ _)).trans (grown_set1 _ _ _ _)).trans (grown_set1 _ _ _ _)).trans (grown_set1 _ _ _ _)).trans (grown_set1 _ _ _ _)).trans (grown_set1 _ _ _ _)
    have BZ : Below w.heap.size w wz := by rw [← hwz]; exact (bel_set (bel_set (bel_set (bel_set (bel_set (bel_set (bel_set (bel_set b0 _ (by show w.heap.size ≤ w.heap.size + 1; omega)) _ (by show w.heap.size ≤ w.heap.size + 1; omega)) _ (by show w.heap.size ≤ w.heap.size + 1; omega)) _ (by show w.heap.size ≤ w.heap.size + 1; omega)) _ (by show w.heap.size ≤ w.heap.size + 1; omega)) _ (by show w.heap.size ≤ w.heap.size + 1; omega)) _ (by show w.heap.size ≤ w.heap.size + 1; omega)) _ (by show w.heap.size ≤ w.heap.size + 1; omega))
    clear hwz
    exact ⟨some ⟨gb, 0, none⟩, vd, rfl, R_else R2.out rfl GZ (Kd.R_ne R2.out F1.out (by decide)), BZ⟩

set_option maxRecDepth 100000 in
set_option maxHeartbeats 4000000 in
theorem specTo3_any (nm : ByteArray) (m : SMail) (outs : List Int) (B0 : Option Addr) (d0 : Nat) (B1 : Option Addr) (d1 : Nat) (B2 : Option Addr) (d2 : Nat) (code : Int) (k : Nat) (w : World) (hm : fitMail m) (h0 : 0 ≤ ((k : Int) + 1)) (h1 : ((k : Int) + 1) ≤ (m.f1.length : Int)) (hl : outs.length ≤ 1048576) (hkl : k < outs.length) (hc : ¬ code = 250) (h5 : ¬ 500 ≤ code) (hr0 : Kd.C kAddr w B0 m.f1.length m.f1) (hr2 : Kd.C (Kd.int .i64) w B2 outs.length outs) :
    Calls Tryz.prog 108 #[.agg #[.string nm, .string m.f0.f0, .string m.f0.f1, .slice B0 m.f1.length d0, .slice B1 m.f2.length d1, .int .i64 3, .int .i64 ((k : Int) + 1), .slice B2 outs.length d2], .int .i64 code] w fun e w' => ∃ B d, e = .returned (.tuple #[.agg #[.string nm, .string m.f0.f0, .string m.f0.f1, .slice B0 m.f1.length d0, .slice B1 m.f2.length d1, .int .i64 (nextC ⟨nm, m, 3, ((k : Int) + 1), outs.set k 3⟩).1.f2, .int .i64 (nextC ⟨nm, m, 3, ((k : Int) + 1), outs.set k 3⟩).1.f3, .slice B outs.length d], .string (nextC ⟨nm, m, 3, ((k : Int) + 1), outs.set k 3⟩).2]) ∧ Kd.R (Kd.int .i64) 3 w' w.heap.size (fun _ => True) (.slice B outs.length d) (outs.set k 3) ∧ Below w.heap.size w w' := by
  have HMM := Lib.hid hm
  have HR0 := Lib.hid hr0
  have hwk : IntKind.i64.wrap (k : Int) = (k : Int) := wrapk k (by omega)
  have hwk1 : IntKind.i64.wrap ((k : Int) + 1 - 1) = (k : Int) := by rw [show (k : Int) + 1 - 1 = k from by omega]; exact hwk
  clear hm hr0
  generalize hN : (nextC ⟨nm, m, 3, ((k : Int) + 1), outs.set k 3⟩) = N
  have HNX := Lib.hid hN
  clear hN
  have hcb : (code == 250) = false := by simp [hc]
  obtain ⟨W0, hW0⟩ : ∃ W, W = (w.alloc (.cells #[.string nm, .string m.f0.f0, .string m.f0.f1, .slice B0 m.f1.length d0, .slice B1 m.f2.length d1, .int .i64 3, .int .i64 ((k : Int) + 1), .slice B2 outs.length d2] 31)).alloc (.cells #[.string ⟨#[]⟩, .string ⟨#[]⟩, .string ⟨#[]⟩, .slice none 0 0, .slice none 0 0, .int .i64 0, .int .i64 0, .slice none 0 0] 31) := ⟨_, rfl⟩
  have HF0 : Aside0 (W0.heap[w.heap.size]? = some (.cells #[.string nm, .string m.f0.f0, .string m.f0.f1, .slice B0 m.f1.length d0, .slice B1 m.f2.length d1, .int .i64 3, .int .i64 ((k : Int) + 1), .slice B2 outs.length d2] 31 (0, 0))) := ⟨by rw [hW0]; exact below_blk (blk_new _ _) (bel_alloc (Below.refl _ _) _)⟩
  have HF1 : Aside0 (W0.heap[w.heap.size + 1]? = some (.cells #[.string ⟨#[]⟩, .string ⟨#[]⟩, .string ⟨#[]⟩, .slice none 0 0, .slice none 0 0, .int .i64 0, .int .i64 0, .slice none 0 0] 31 (0, 0))) := ⟨by rw [hW0, show w.heap.size + 1 = (w.alloc (.cells #[.string nm, .string m.f0.f0, .string m.f0.f1, .slice B0 m.f1.length d0, .slice B1 m.f2.length d1, .int .i64 3, .int .i64 ((k : Int) + 1), .slice B2 outs.length d2] 31)).heap.size by simp]; exact blk_new _ _⟩
  have BL0 : Below w.heap.size w W0 := by rw [hW0]; exact bel_alloc (bel_alloc (Below.refl _ _) _) _
  have HZE := Lib.hid (show W0.heap.size = w.heap.size + 1 + 1 by rw [hW0]; simp)
  have HW0 := Lib.hid hW0
  clear hW0
  have HE : Aside0 (Kd.R (Kd.int .i64) 3 (W0.alloc (.cells #[] 3)) w.heap.size (fun _ => True) (.slice (some ⟨w.heap.size + 1 + 1, 0, none⟩) 0 0) []) := ⟨by rw [← HZE.out]; exact R_empty (Kd.int .i64) 3 W0 w.heap.size BL0.size trivial⟩
  have HR := Aside0.mk (Kd.C_below hr2 (bel_alloc BL0 (.cells #[] 3)))
  clear hr2
  go_enter Tryz.func108, Tryz.ntmps108
  go_wp2_with (rw [← HW0.out]; ((with_reducible refine gate_builtin (b := .append) (xs := #[.tmp 7, .tmp 9]) rfl ?_); (try (refine gate_guard (by rfl) ?_; dsimp only)); at_builtin; (refine Kd.R_append_rows (Kd.int .i64) (w0 := w) (w.heap.size) rfl (.tmp 7) (.tmp 9) 29 3 (.int .i64 0) 8 rfl Tryz.underlying29 info3 rfl (by decide) (by omega) (.slice (some ⟨w.heap.size + 1 + 1, 0, none⟩) 0 0) [] outs _ _ _ (fun _ => True) (fun _ => False) rfl rfl ?aO ?aR (fun _ _ h => h) (fun _ h => h.elim) (fun _ _ => trivial) ?aB ?aS ?aL ?_); (case aO => exact HE.out); (case aR => exact HR.out); (case aB => exact bel_alloc BL0 _); (case aS => exact (bel_alloc BL0 _).size); (case aL => (simp; omega)); intro v1 w1 ho hb hg hat; have HO := Aside0.mk ho; have HB := Aside0.mk hb; have GR := Lib.hid (show (W0.alloc (.cells #[] 3)).grownBy w1 (some (w.heap.size + 1 + 1)) from hg); clear ho hb hg hat; have ho2 : Kd.R (Kd.int .i64) 3 w1 w.heap.size (fun _ => True) v1 outs := HO.out; obtain ⟨vB, vd, hv⟩ := Kd.R_slice ho2; subst hv; obtain ⟨gb, hBb, hgb, hgs⟩ := own_form2 ho2 (by omega); subst hBb; have F0 : Aside0 (w1.heap[w.heap.size]? = some (.cells #[.string nm, .string m.f0.f0, .string m.f0.f1, .slice B0 m.f1.length d0, .slice B1 m.f2.length d1, .int .i64 3, .int .i64 ((k : Int) + 1), .slice B2 outs.length d2] 31 (0, 0))) := ⟨(GR.out.block w.heap.size (blk_lt (below_blk HF0.out (bel_alloc (Below.refl _ _) _))) (fun e => by have e := Option.some.inj e; omega)).trans (below_blk HF0.out (bel_alloc (Below.refl _ _) _))⟩; have F1 : Aside0 (w1.heap[w.heap.size + 1]? = some (.cells #[.string ⟨#[]⟩, .string ⟨#[]⟩, .string ⟨#[]⟩, .slice none 0 0, .slice none 0 0, .int .i64 0, .int .i64 0, .slice none 0 0] 31 (0, 0))) := ⟨(GR.out.block (w.heap.size + 1) (blk_lt (below_blk HF1.out (bel_alloc (Below.refl _ _) _))) (fun e => by have e := Option.some.inj e; omega)).trans (below_blk HF1.out (bel_alloc (Below.refl _ _) _))⟩; have hb0 : ¬ w.heap.size = gb := (fun e => Kd.R_ne ho2 F0.out (by decide) (by rw [e]; rfl)); have hb1 : ¬ w.heap.size + 1 = gb := (fun e => Kd.R_ne ho2 F1.out (by decide) (by rw [e]; rfl)); obtain ⟨ce, hcl, hM, hcc, hfr⟩ := Kd.R_elem ho2 0 (k : Int) (by omega) (by omega); rw [Int.toNat_natCast] at hM hcc hfr; generalize outs.getD k 0 = y at hM; have hM' : ce = [.int .i64 y] := hM; subst hM'; have x0 : w1.cell? ⟨gb, k, none⟩ = some (.int .i64 y) := (by have := hcc 0 _ rfl; rwa [show k * (Kd.int .i64).sz + 0 = k from (by show k * 1 + 0 = k; omega)] at this); have f0 : w1.frozen? ⟨gb, k, none⟩ = false := (by have := hfr 0; rwa [show k * (Kd.int .i64).sz + 0 = k from (by show k * 1 + 0 = k; omega)] at this); have P1 := own_put2 ho2 k hkl 3 [.int .i64 y] rfl 0 (.int .i64 3) (by decide) (by show _ = _; rfl) hcc; rw [show k * (Kd.int .i64).sz + 0 = k from (by show k * 1 + 0 = k; omega)] at P1; have HP := Aside0.mk P1.1; have HQ := Aside0.mk P1.2; have c0_ : w1.cell? ⟨w.heap.size, 0, none⟩ = some (.string nm) := (by simp [World.cell?, F0.out]); have c1_ : w1.cell? ⟨w.heap.size, 1, none⟩ = some (.string m.f0.f0) := (by simp [World.cell?, F0.out]); have c2_ : w1.cell? ⟨w.heap.size, 2, none⟩ = some (.string m.f0.f1) := (by simp [World.cell?, F0.out]); have c3_ : w1.cell? ⟨w.heap.size, 3, none⟩ = some (.slice B0 m.f1.length d0) := (by simp [World.cell?, F0.out]); have c4_ : w1.cell? ⟨w.heap.size, 4, none⟩ = some (.slice B1 m.f2.length d1) := (by simp [World.cell?, F0.out]); have c5_ : w1.cell? ⟨w.heap.size, 5, none⟩ = some (.int .i64 3) := (by simp [World.cell?, F0.out]); have c6_ : w1.cell? ⟨w.heap.size, 6, none⟩ = some (.int .i64 ((k : Int) + 1)) := (by simp [World.cell?, F0.out]); have c7_ : w1.cell? ⟨w.heap.size, 7, none⟩ = some (.slice B2 outs.length d2) := (by simp [World.cell?, F0.out]); have cz0_ : w1.frozen? ⟨w.heap.size, 0, none⟩ = false := (by simp [World.frozen?, F0.out]); have cz1_ : w1.frozen? ⟨w.heap.size, 1, none⟩ = false := (by simp [World.frozen?, F0.out]); have cz2_ : w1.frozen? ⟨w.heap.size, 2, none⟩ = false := (by simp [World.frozen?, F0.out]); have cz3_ : w1.frozen? ⟨w.heap.size, 3, none⟩ = false := (by simp [World.frozen?, F0.out]); have cz4_ : w1.frozen? ⟨w.heap.size, 4, none⟩ = false := (by simp [World.frozen?, F0.out]); have cz5_ : w1.frozen? ⟨w.heap.size, 5, none⟩ = false := (by simp [World.frozen?, F0.out]); have cz6_ : w1.frozen? ⟨w.heap.size, 6, none⟩ = false := (by simp [World.frozen?, F0.out]); have cz7_ : w1.frozen? ⟨w.heap.size, 7, none⟩ = false := (by simp [World.frozen?, F0.out]); clear ho2 P1 hcc hfr hM hcl HO HE HR GR HF0 HF1))
  generalize hV : World.setCell (World.setCell w1 _ _) _ _ = V
  have FP0 := (HQ.out.block _ (blk_lt F0.out) (fun e => hb0 (Option.some.inj e))).trans F0.out
  have FP1 := (HQ.out.block _ (blk_lt F1.out) (fun e => hb1 (Option.some.inj e))).trans F1.out
  have BV : Below w.heap.size w V := by rw [← hV]; exact bel_set (bel_set HB.out _ hgb) _ (Nat.le_refl _)
  have FV1 : V.heap[w.heap.size + 1]? = some (.cells #[.string ⟨#[]⟩, .string ⟨#[]⟩, .string ⟨#[]⟩, .slice none 0 0, .slice none 0 0, .int .i64 0, .int .i64 0, .slice none 0 0] 31 (0, 0)) := by rw [← hV]; exact ((grown_set1 _ w.heap.size 7 _).block _ (blk_lt FP1) (fun e => by have e := Option.some.inj e; omega)).trans FP1
  have RV : Kd.R (Kd.int .i64) 3 V w.heap.size (fun _ => True) (.slice (some ⟨gb, 0, none⟩) outs.length vd) (outs.set k 3) := by rw [← hV]; exact R_else HP.out rfl (grown_set1 _ _ _ _) (Kd.R_ne HP.out FP0 (by decide))
  clear hV FP0 FP1 HP HQ F0 F1 HB c0_ cz0_ c1_ cz1_ c2_ cz2_ c3_ cz3_ c4_ cz4_ c5_ cz5_ c6_ cz6_ c7_ cz7_ x0 f0
  have hn := specNext_any nm m 3 ((k : Int) + 1) (outs.set k 3) B0 d0 B1 d1 (some ⟨gb, 0, none⟩) vd V HMM.out h0 h1
  simp only [List.length_set] at hn
  rw [HNX.out] at hn
  have hn := hn hl (Kd.C_below HR0.out BV) (by have := (Kd.R_reads' RV).2.2; simpa only [List.length_set] using this)
  have HRV := Aside0.mk RV
  have HFV := Aside0.mk FV1
  have HBV := Aside0.mk BV
  clear RV FV1 BV
  refine hn.mono ?_
  rintro e w2 ⟨rfl, b2⟩
  have F1 := Aside0.mk (below_blk HFV.out b2)
  have R2 := Aside0.mk (Kd.R_below HRV.out b2)
  have b0 := bel_then HBV.out b2
  clear hn HRV HFV HBV b2
  obtain ⟨k0_, k1_, k2_, k3_, k4_, k5_, k6_, k7_⟩ := cells8 F1.out
  obtain ⟨kz0_, kz1_, kz2_, kz3_, kz4_, kz5_, kz6_, kz7_⟩ := froz8 F1.out
  go_wp2
  refine bodyPost_ret (v := .tuple #[.agg #[.string nm, .string m.f0.f0, .string m.f0.f1, .slice B0 m.f1.length d0, .slice B1 m.f2.length d1, .int .i64 N.1.f2, .int .i64 N.1.f3, .slice (some ⟨gb, 0, none⟩) outs.length vd], .string (N.2)]) ?hr rfl ?hp
  case hr => simp [results, Tryz.results108, go_sem, k0_, k1_, k2_, k3_, k4_, k5_, k6_, k7_]
  case hp =>
    generalize hwz : World.setCell (World.setCell (World.setCell (World.setCell (World.setCell (World.setCell (World.setCell (World.setCell w2 ⟨w.heap.size + 1, 0, none⟩ _) ⟨w.heap.size + 1, 1, none⟩ _) ⟨w.heap.size + 1, 2, none⟩ _) ⟨w.heap.size + 1, 3, none⟩ _) ⟨w.heap.size + 1, 4, none⟩ _) ⟨w.heap.size + 1, 5, none⟩ _) ⟨w.heap.size + 1, 6, none⟩ _) ⟨w.heap.size + 1, 7, none⟩ _ = wz
    have GZ : w2.grownBy wz (some (w.heap.size + 1)) := by rw [← hwz]; exact (((((((grown_set1 _ _ _ _).trans (grown_set1 _ _ _ _)).trans (grown_set1 _ _ _ _)).trans (grown_set1 _ _ _ _)).trans (grown_set1 _ _ _ _)).trans (grown_set1 _ _ _ _)).trans (grown_set1 _ _ _ _)).trans (grown_set1 _ _ _ _)
    have BZ : Below w.heap.size w wz := by rw [← hwz]; exact (bel_set (bel_set (bel_set (bel_set (bel_set (bel_set (bel_set (bel_set b0 _ (by show w.heap.size ≤ w.heap.size + 1; omega)) _ (by show w.heap.size ≤ w.heap.size + 1; omega)) _ (by show w.heap.size ≤ w.heap.size + 1; omega)) _ (by show w.heap.size ≤ w.heap.size + 1; omega)) _ (by show w.heap.size ≤ w.heap.size + 1; omega)) _ (by show w.heap.size ≤ w.heap.size + 1; omega)) _ (by show w.heap.size ≤ w.heap.size + 1; omega)) _ (by show w.heap.size ≤ w.heap.size + 1; omega))
    clear hwz
    exact ⟨some ⟨gb, 0, none⟩, vd, rfl, R_else R2.out rfl GZ (Kd.R_ne R2.out F1.out (by decide)), BZ⟩

set_option maxRecDepth 100000 in
set_option maxHeartbeats 4000000 in
theorem specFail4_any (nm : ByteArray) (m : SMail) (st pos : Int) (outs : List Int) (B0 : Option Addr) (d0 : Nat) (B1 : Option Addr) (d1 : Nat) (B2 : Option Addr) (d2 : Nat) (code : Int) (w : World) (hl : outs.length ≤ 1048576) (h5 : 500 ≤ code) (hr2 : Kd.C (Kd.int .i64) w B2 outs.length outs) :
    Calls Tryz.prog 113 #[.agg #[.string nm, .string m.f0.f0, .string m.f0.f1, .slice B0 m.f1.length d0, .slice B1 m.f2.length d1, .int .i64 st, .int .i64 pos, .slice B2 outs.length d2], .int .i64 code] w fun e w' => ∃ B d, e = .returned (.tuple #[.agg #[.string nm, .string m.f0.f0, .string m.f0.f1, .slice B0 m.f1.length d0, .slice B1 m.f2.length d1, .int .i64 6, .int .i64 pos, .slice B outs.length d], .string ⟨#[81, 85, 73, 84]⟩]) ∧ Kd.R (Kd.int .i64) 3 w' w.heap.size (fun _ => True) (.slice B outs.length d) (becomes 4 [0, 1] outs) ∧ Below w.heap.size w w' := by
  obtain ⟨W0, hW0⟩ : ∃ W, W = (w.alloc (.cells #[.string nm, .string m.f0.f0, .string m.f0.f1, .slice B0 m.f1.length d0, .slice B1 m.f2.length d1, .int .i64 st, .int .i64 pos, .slice B2 outs.length d2] 31)).alloc (.cells #[.string ⟨#[]⟩, .string ⟨#[]⟩, .string ⟨#[]⟩, .slice none 0 0, .slice none 0 0, .int .i64 0, .int .i64 0, .slice none 0 0] 31) := ⟨_, rfl⟩
  have HF0 : Aside0 (W0.heap[w.heap.size]? = some (.cells #[.string nm, .string m.f0.f0, .string m.f0.f1, .slice B0 m.f1.length d0, .slice B1 m.f2.length d1, .int .i64 st, .int .i64 pos, .slice B2 outs.length d2] 31 (0, 0))) := ⟨by rw [hW0]; exact below_blk (blk_new _ _) (bel_alloc (Below.refl _ _) _)⟩
  have HF1 : Aside0 (W0.heap[w.heap.size + 1]? = some (.cells #[.string ⟨#[]⟩, .string ⟨#[]⟩, .string ⟨#[]⟩, .slice none 0 0, .slice none 0 0, .int .i64 0, .int .i64 0, .slice none 0 0] 31 (0, 0))) := ⟨by rw [hW0, show w.heap.size + 1 = (w.alloc (.cells #[.string nm, .string m.f0.f0, .string m.f0.f1, .slice B0 m.f1.length d0, .slice B1 m.f2.length d1, .int .i64 st, .int .i64 pos, .slice B2 outs.length d2] 31)).heap.size by simp]; exact blk_new _ _⟩
  have BL0 : Below w.heap.size w W0 := by rw [hW0]; exact bel_alloc (bel_alloc (Below.refl _ _) _) _
  have HW0 := Lib.hid hW0
  clear hW0
  go_enter Tryz.func113, Tryz.ntmps113
  go_wp2_with fail
  rw [← HW0.out]
  refine (specAll_any nm m st pos outs B0 d0 B1 d1 B2 d2 4 W0 hl (Kd.C_below hr2 BL0)).mono ?_
  rintro e w1 ⟨P2, e2, rfl, r2, b1⟩
  have b0 := bel_then BL0 b1
  have R2 := Aside0.mk (Kd.R_lower (base' := w.heap.size) r2 BL0.size)
  have F0 := Aside0.mk (below_blk HF0.out b1)
  have F1 := Aside0.mk (below_blk HF1.out b1)
  have NE0 := Lib.hid (Kd.R_ne R2.out F0.out (by decide))
  have NE1 := Lib.hid (Kd.R_ne R2.out F1.out (by decide))
  clear r2 b1 HF0 HF1 BL0 hr2
  obtain ⟨c0_, c1_, c2_, c3_, c4_, c5_, c6_, c7_⟩ := cells8 F0.out
  obtain ⟨cz0_, cz1_, cz2_, cz3_, cz4_, cz5_, cz6_, cz7_⟩ := froz8 F0.out
  go_upto_region 5 with (fail)
  have ne0 := NE0.out
  have hE0 : (Kd.int .i64).E = [] := rfl
  have rz := R2.out
  generalize hV : World.setCell (World.setCell (World.setCell (World.setCell (World.setCell (World.setCell (World.setCell (World.setCell w1 ⟨w.heap.size, 0, none⟩ _) ⟨w.heap.size, 1, none⟩ _) ⟨w.heap.size, 2, none⟩ _) ⟨w.heap.size, 3, none⟩ _) ⟨w.heap.size, 4, none⟩ _) ⟨w.heap.size, 5, none⟩ _) ⟨w.heap.size, 6, none⟩ _) ⟨w.heap.size, 7, none⟩ _ = V
  have fv : V.heap[w.heap.size]? = some (.cells #[.string nm, .string m.f0.f0, .string m.f0.f1, .slice B0 m.f1.length d0, .slice B1 m.f2.length d1, .int .i64 st, .int .i64 pos, .slice P2 outs.length e2] 31 (0, 0)) := by rw [← hV]; exact (blk_set1 (blk_set1 (blk_set1 (blk_set1 (blk_set1 (blk_set1 (blk_set1 (blk_set1 (F0.out) 0 _) 1 _) 2 _) 3 _) 4 _) 5 _) 6 _) 7 _).trans (by simp)
  have gv : w1.grownBy V (some w.heap.size) := by rw [← hV]; exact (((((((grown_set1 _ _ _ _).trans (grown_set1 _ _ _ _)).trans (grown_set1 _ _ _ _)).trans (grown_set1 _ _ _ _)).trans (grown_set1 _ _ _ _)).trans (grown_set1 _ _ _ _)).trans (grown_set1 _ _ _ _)).trans (grown_set1 _ _ _ _)
  have rz := R_else rz rfl gv ne0
  have bz : Below w.heap.size w V := by rw [← hV]; exact bel_set (bel_set (bel_set (bel_set (bel_set (bel_set (bel_set (bel_set (b0) _ (Nat.le_refl _)) _ (Nat.le_refl _)) _ (Nat.le_refl _)) _ (Nat.le_refl _)) _ (Nat.le_refl _)) _ (Nat.le_refl _)) _ (Nat.le_refl _)) _ (Nat.le_refl _)
  have f1 := (gv.block _ (blk_lt F1.out) (fun e => by have e := Option.some.inj e; omega)).trans F1.out
  clear hV
  clear F0 F1 R2 b0 c0_ c1_ c2_ c3_ c4_ c5_ c6_ c7_ cz0_ cz1_ cz2_ cz3_ cz4_ cz5_ cz6_ cz7_
  have F0 := Aside0.mk fv
  have F1 := Aside0.mk f1
  have R2 := Aside0.mk rz
  have b0 := bz
  clear fv gv rz bz f1 ne0 hE0
  obtain ⟨d0_, d1_, d2_, d3_, d4_, d5_, d6_, d7_⟩ := cells8 F0.out
  obtain ⟨dz0_, dz1_, dz2_, dz3_, dz4_, dz5_, dz6_, dz7_⟩ := froz8 F0.out
  obtain ⟨k0_, k1_, k2_, k3_, k4_, k5_, k6_, k7_⟩ := cells8 F1.out
  obtain ⟨kz0_, kz1_, kz2_, kz3_, kz4_, kz5_, kz6_, kz7_⟩ := froz8 F1.out
  go_wp2
  refine bodyPost_ret (v := .tuple #[.agg #[.string nm, .string m.f0.f0, .string m.f0.f1, .slice B0 m.f1.length d0, .slice B1 m.f2.length d1, .int .i64 6, .int .i64 pos, .slice P2 outs.length e2], .string (⟨#[81, 85, 73, 84]⟩)]) ?hr rfl ?hp
  case hr => simp [results, Tryz.results113, go_sem, d0_, d1_, d2_, d3_, d4_, d5_, d6_, d7_, k0_, k1_, k2_, k3_, k4_, k5_, k6_, k7_]
  case hp =>
    have ne0 := NE0.out
    have ne1 := NE1.out
    have hE0 : (Kd.int .i64).E = [] := rfl
    have RZ := R2.out
    exact ⟨P2, e2, rfl, by (with_reducible repeat (first | exact RZ | refine R_set ?_ hE0 ne0 | refine R_set ?_ hE0 ne1)), by (with_reducible repeat (first | exact b0 | refine bel_alloc ?_ _ | refine bel_set ?_ _ ?_ | refine blw_drewN ?_ _ | refine Below.drew ?_)); all_goals (first | (simp; done) | (simp; omega) | omega)⟩

set_option maxRecDepth 100000 in
set_option maxHeartbeats 4000000 in
theorem specFail3_any (nm : ByteArray) (m : SMail) (st pos : Int) (outs : List Int) (B0 : Option Addr) (d0 : Nat) (B1 : Option Addr) (d1 : Nat) (B2 : Option Addr) (d2 : Nat) (code : Int) (w : World) (hl : outs.length ≤ 1048576) (h5 : ¬ 500 ≤ code) (hr2 : Kd.C (Kd.int .i64) w B2 outs.length outs) :
    Calls Tryz.prog 113 #[.agg #[.string nm, .string m.f0.f0, .string m.f0.f1, .slice B0 m.f1.length d0, .slice B1 m.f2.length d1, .int .i64 st, .int .i64 pos, .slice B2 outs.length d2], .int .i64 code] w fun e w' => ∃ B d, e = .returned (.tuple #[.agg #[.string nm, .string m.f0.f0, .string m.f0.f1, .slice B0 m.f1.length d0, .slice B1 m.f2.length d1, .int .i64 6, .int .i64 pos, .slice B outs.length d], .string ⟨#[81, 85, 73, 84]⟩]) ∧ Kd.R (Kd.int .i64) 3 w' w.heap.size (fun _ => True) (.slice B outs.length d) (becomes 3 [0, 1] outs) ∧ Below w.heap.size w w' := by
  obtain ⟨W0, hW0⟩ : ∃ W, W = (w.alloc (.cells #[.string nm, .string m.f0.f0, .string m.f0.f1, .slice B0 m.f1.length d0, .slice B1 m.f2.length d1, .int .i64 st, .int .i64 pos, .slice B2 outs.length d2] 31)).alloc (.cells #[.string ⟨#[]⟩, .string ⟨#[]⟩, .string ⟨#[]⟩, .slice none 0 0, .slice none 0 0, .int .i64 0, .int .i64 0, .slice none 0 0] 31) := ⟨_, rfl⟩
  have HF0 : Aside0 (W0.heap[w.heap.size]? = some (.cells #[.string nm, .string m.f0.f0, .string m.f0.f1, .slice B0 m.f1.length d0, .slice B1 m.f2.length d1, .int .i64 st, .int .i64 pos, .slice B2 outs.length d2] 31 (0, 0))) := ⟨by rw [hW0]; exact below_blk (blk_new _ _) (bel_alloc (Below.refl _ _) _)⟩
  have HF1 : Aside0 (W0.heap[w.heap.size + 1]? = some (.cells #[.string ⟨#[]⟩, .string ⟨#[]⟩, .string ⟨#[]⟩, .slice none 0 0, .slice none 0 0, .int .i64 0, .int .i64 0, .slice none 0 0] 31 (0, 0))) := ⟨by rw [hW0, show w.heap.size + 1 = (w.alloc (.cells #[.string nm, .string m.f0.f0, .string m.f0.f1, .slice B0 m.f1.length d0, .slice B1 m.f2.length d1, .int .i64 st, .int .i64 pos, .slice B2 outs.length d2] 31)).heap.size by simp]; exact blk_new _ _⟩
  have BL0 : Below w.heap.size w W0 := by rw [hW0]; exact bel_alloc (bel_alloc (Below.refl _ _) _) _
  have HW0 := Lib.hid hW0
  clear hW0
  go_enter Tryz.func113, Tryz.ntmps113
  go_wp2_with fail
  rw [← HW0.out]
  refine (specAll_any nm m st pos outs B0 d0 B1 d1 B2 d2 3 W0 hl (Kd.C_below hr2 BL0)).mono ?_
  rintro e w1 ⟨P2, e2, rfl, r2, b1⟩
  have b0 := bel_then BL0 b1
  have R2 := Aside0.mk (Kd.R_lower (base' := w.heap.size) r2 BL0.size)
  have F0 := Aside0.mk (below_blk HF0.out b1)
  have F1 := Aside0.mk (below_blk HF1.out b1)
  have NE0 := Lib.hid (Kd.R_ne R2.out F0.out (by decide))
  have NE1 := Lib.hid (Kd.R_ne R2.out F1.out (by decide))
  clear r2 b1 HF0 HF1 BL0 hr2
  obtain ⟨c0_, c1_, c2_, c3_, c4_, c5_, c6_, c7_⟩ := cells8 F0.out
  obtain ⟨cz0_, cz1_, cz2_, cz3_, cz4_, cz5_, cz6_, cz7_⟩ := froz8 F0.out
  go_upto_region 5 with (fail)
  have ne0 := NE0.out
  have hE0 : (Kd.int .i64).E = [] := rfl
  have rz := R2.out
  generalize hV : World.setCell (World.setCell (World.setCell (World.setCell (World.setCell (World.setCell (World.setCell (World.setCell w1 ⟨w.heap.size, 0, none⟩ _) ⟨w.heap.size, 1, none⟩ _) ⟨w.heap.size, 2, none⟩ _) ⟨w.heap.size, 3, none⟩ _) ⟨w.heap.size, 4, none⟩ _) ⟨w.heap.size, 5, none⟩ _) ⟨w.heap.size, 6, none⟩ _) ⟨w.heap.size, 7, none⟩ _ = V
  have fv : V.heap[w.heap.size]? = some (.cells #[.string nm, .string m.f0.f0, .string m.f0.f1, .slice B0 m.f1.length d0, .slice B1 m.f2.length d1, .int .i64 st, .int .i64 pos, .slice P2 outs.length e2] 31 (0, 0)) := by rw [← hV]; exact (blk_set1 (blk_set1 (blk_set1 (blk_set1 (blk_set1 (blk_set1 (blk_set1 (blk_set1 (F0.out) 0 _) 1 _) 2 _) 3 _) 4 _) 5 _) 6 _) 7 _).trans (by simp)
  have gv : w1.grownBy V (some w.heap.size) := by rw [← hV]; exact (((((((grown_set1 _ _ _ _).trans (grown_set1 _ _ _ _)).trans (grown_set1 _ _ _ _)).trans (grown_set1 _ _ _ _)).trans (grown_set1 _ _ _ _)).trans (grown_set1 _ _ _ _)).trans (grown_set1 _ _ _ _)).trans (grown_set1 _ _ _ _)
  have rz := R_else rz rfl gv ne0
  have bz : Below w.heap.size w V := by rw [← hV]; exact bel_set (bel_set (bel_set (bel_set (bel_set (bel_set (bel_set (bel_set (b0) _ (Nat.le_refl _)) _ (Nat.le_refl _)) _ (Nat.le_refl _)) _ (Nat.le_refl _)) _ (Nat.le_refl _)) _ (Nat.le_refl _)) _ (Nat.le_refl _)) _ (Nat.le_refl _)
  have f1 := (gv.block _ (blk_lt F1.out) (fun e => by have e := Option.some.inj e; omega)).trans F1.out
  clear hV
  clear F0 F1 R2 b0 c0_ c1_ c2_ c3_ c4_ c5_ c6_ c7_ cz0_ cz1_ cz2_ cz3_ cz4_ cz5_ cz6_ cz7_
  have F0 := Aside0.mk fv
  have F1 := Aside0.mk f1
  have R2 := Aside0.mk rz
  have b0 := bz
  clear fv gv rz bz f1 ne0 hE0
  obtain ⟨d0_, d1_, d2_, d3_, d4_, d5_, d6_, d7_⟩ := cells8 F0.out
  obtain ⟨dz0_, dz1_, dz2_, dz3_, dz4_, dz5_, dz6_, dz7_⟩ := froz8 F0.out
  obtain ⟨k0_, k1_, k2_, k3_, k4_, k5_, k6_, k7_⟩ := cells8 F1.out
  obtain ⟨kz0_, kz1_, kz2_, kz3_, kz4_, kz5_, kz6_, kz7_⟩ := froz8 F1.out
  go_wp2
  refine bodyPost_ret (v := .tuple #[.agg #[.string nm, .string m.f0.f0, .string m.f0.f1, .slice B0 m.f1.length d0, .slice B1 m.f2.length d1, .int .i64 6, .int .i64 pos, .slice P2 outs.length e2], .string (⟨#[81, 85, 73, 84]⟩)]) ?hr rfl ?hp
  case hr => simp [results, Tryz.results113, go_sem, d0_, d1_, d2_, d3_, d4_, d5_, d6_, d7_, k0_, k1_, k2_, k3_, k4_, k5_, k6_, k7_]
  case hp =>
    have ne0 := NE0.out
    have ne1 := NE1.out
    have hE0 : (Kd.int .i64).E = [] := rfl
    have RZ := R2.out
    exact ⟨P2, e2, rfl, by (with_reducible repeat (first | exact RZ | refine R_set ?_ hE0 ne0 | refine R_set ?_ hE0 ne1)), by (with_reducible repeat (first | exact b0 | refine bel_alloc ?_ _ | refine bel_set ?_ _ ?_ | refine blw_drewN ?_ _ | refine Below.drew ?_)); all_goals (first | (simp; done) | (simp; omega) | omega)⟩

end Go.Proofs.YtoppgnmnbbhghaaGreatDoor

/- The reference's step of a client, by cases: contracts. -/
namespace Go.Proofs.YtoppgnmnbbhghaaGreatDoor
open Go.RowKit Go.Proofs.YtoppgnmnbbhghaaGreatDoorW.PrintWords
set_option linter.unusedVariables false
set_option linter.unusedSimpArgs false


set_option maxRecDepth 100000 in
set_option maxHeartbeats 4000000 in
theorem specStep7_any (nm : ByteArray) (m : SMail) (pos : Int) (outs : List Int) (B0 : Option Addr) (d0 : Nat) (B1 : Option Addr) (d1 : Nat) (B2 : Option Addr) (d2 : Nat) (answer : ByteArray) (code : Int) (base : Nat) (w : World)
    (hm : fitMail m) (hnm : nm.size ≤ 1048576) (h0 : 0 ≤ pos) (h1 : pos ≤ (m.f1.length : Int)) (hl : outs.length ≤ 1048576) (hbase : base ≤ w.heap.size) (hcode : ∀ W, Calls Tryz.prog 107 #[.string answer] W fun e w' => e = .returned (.int .i64 code) ∧ Below W.heap.size W w')
    (hr0 : Kd.C kAddr w B0 m.f1.length m.f1) (hr1 : Kd.C Kd.string w B1 m.f2.length m.f2) (u2 : Kd.R (Kd.int .i64) 3 w base (fun _ => True) (.slice B2 outs.length d2) outs) :
    Calls Tryz.prog 63 #[.agg #[.string nm, .string m.f0.f0, .string m.f0.f1, .slice B0 m.f1.length d0, .slice B1 m.f2.length d1, .int .i64 7, .int .i64 pos, .slice B2 outs.length d2], .string answer] w fun e w' => ∃ B d, e = .returned (.tuple #[.agg #[.string nm, .string m.f0.f0, .string m.f0.f1, .slice B0 m.f1.length d0, .slice B1 m.f2.length d1, .int .i64 7, .int .i64 pos, .slice B outs.length d], .string (⟨#[]⟩)]) ∧ Kd.R (Kd.int .i64) 3 w' base (fun _ => True) (.slice B outs.length d) (outs) ∧ Below w.heap.size w w' := by
  have HMM := Lib.hid hm
  have HR0 := Lib.hid hr0
  have HR1 := Lib.hid hr1
  have U2 := Lib.hid u2
  clear hm hr0 hr1 u2
  obtain ⟨W0, hW0⟩ : ∃ W, W = (w.alloc (.cells #[.string nm, .string m.f0.f0, .string m.f0.f1, .slice B0 m.f1.length d0, .slice B1 m.f2.length d1, .int .i64 7, .int .i64 pos, .slice B2 outs.length d2] 31)).alloc (.cells #[.string ⟨#[]⟩, .string ⟨#[]⟩, .string ⟨#[]⟩, .slice none 0 0, .slice none 0 0, .int .i64 0, .int .i64 0, .slice none 0 0] 31) := ⟨_, rfl⟩
  have HF0 : Aside0 (W0.heap[w.heap.size]? = some (.cells #[.string nm, .string m.f0.f0, .string m.f0.f1, .slice B0 m.f1.length d0, .slice B1 m.f2.length d1, .int .i64 7, .int .i64 pos, .slice B2 outs.length d2] 31 (0, 0))) := ⟨by rw [hW0]; exact below_blk (blk_new _ _) (bel_alloc (Below.refl _ _) _)⟩
  have HF1 : Aside0 (W0.heap[w.heap.size + 1]? = some (.cells #[.string ⟨#[]⟩, .string ⟨#[]⟩, .string ⟨#[]⟩, .slice none 0 0, .slice none 0 0, .int .i64 0, .int .i64 0, .slice none 0 0] 31 (0, 0))) := ⟨by rw [hW0, show w.heap.size + 1 = (w.alloc (.cells #[.string nm, .string m.f0.f0, .string m.f0.f1, .slice B0 m.f1.length d0, .slice B1 m.f2.length d1, .int .i64 7, .int .i64 pos, .slice B2 outs.length d2] 31)).heap.size by simp]; exact blk_new _ _⟩
  have BL0 : Below w.heap.size w W0 := by rw [hW0]; exact bel_alloc (bel_alloc (Below.refl _ _) _) _
  have HW0 := Lib.hid hW0
  clear hW0
  have SB := Lib.hid (Nat.le_trans hbase BL0.size)
  go_enter Tryz.func63, Tryz.ntmps63
  go_wp2_with fail
  rw [← HW0.out]
  refine (hcode _).mono ?_
  rintro e w1 ⟨rfl, b1⟩
  have b0 := bel_then BL0 b1
  have F0 := Aside0.mk (below_blk HF0.out b1)
  have F1 := Aside0.mk (below_blk HF1.out b1)
  have R2 := Aside0.mk (Kd.R_below U2.out b0)
  have NE0 := Lib.hid (Kd.R_ne R2.out F0.out (by decide))
  have NE1 := Lib.hid (Kd.R_ne R2.out F1.out (by decide))
  clear b1 HF0 HF1 BL0 hcode
  obtain ⟨c0_, c1_, c2_, c3_, c4_, c5_, c6_, c7_⟩ := cells8 F0.out
  obtain ⟨cz0_, cz1_, cz2_, cz3_, cz4_, cz5_, cz6_, cz7_⟩ := froz8 F0.out
  obtain ⟨k0_, k1_, k2_, k3_, k4_, k5_, k6_, k7_⟩ := cells8 F1.out
  obtain ⟨kz0_, kz1_, kz2_, kz3_, kz4_, kz5_, kz6_, kz7_⟩ := froz8 F1.out
  go_wp2
  refine bodyPost_ret (v := .tuple #[.agg #[.string nm, .string m.f0.f0, .string m.f0.f1, .slice B0 m.f1.length d0, .slice B1 m.f2.length d1, .int .i64 7, .int .i64 pos, .slice B2 outs.length d2], .string (⟨#[]⟩)]) ?hr rfl ?hp
  case hr => simp [results, Tryz.results63, go_sem, c0_, c1_, c2_, c3_, c4_, c5_, c6_, c7_, k0_, k1_, k2_, k3_, k4_, k5_, k6_, k7_]
  case hp =>
    have ne0 := NE0.out
    have ne1 := NE1.out
    have hE0 : (Kd.int .i64).E = [] := rfl
    have RZ := R2.out
    exact ⟨B2, d2, rfl, by (with_reducible repeat (first | exact RZ | refine R_set ?_ hE0 ne0 | refine R_set ?_ hE0 ne1)), by (with_reducible repeat (first | exact b0 | refine bel_alloc ?_ _ | refine bel_set ?_ _ ?_ | refine blw_drewN ?_ _ | refine Below.drew ?_)); all_goals (first | (simp; done) | (simp; omega) | omega)⟩


set_option maxRecDepth 100000 in
set_option maxHeartbeats 4000000 in
theorem specStep6_any (nm : ByteArray) (m : SMail) (pos : Int) (outs : List Int) (B0 : Option Addr) (d0 : Nat) (B1 : Option Addr) (d1 : Nat) (B2 : Option Addr) (d2 : Nat) (answer : ByteArray) (code : Int) (base : Nat) (w : World)
    (hm : fitMail m) (hnm : nm.size ≤ 1048576) (h0 : 0 ≤ pos) (h1 : pos ≤ (m.f1.length : Int)) (hl : outs.length ≤ 1048576) (hbase : base ≤ w.heap.size) (hcode : ∀ W, Calls Tryz.prog 107 #[.string answer] W fun e w' => e = .returned (.int .i64 code) ∧ Below W.heap.size W w')
    (hr0 : Kd.C kAddr w B0 m.f1.length m.f1) (hr1 : Kd.C Kd.string w B1 m.f2.length m.f2) (u2 : Kd.R (Kd.int .i64) 3 w base (fun _ => True) (.slice B2 outs.length d2) outs) :
    Calls Tryz.prog 63 #[.agg #[.string nm, .string m.f0.f0, .string m.f0.f1, .slice B0 m.f1.length d0, .slice B1 m.f2.length d1, .int .i64 6, .int .i64 pos, .slice B2 outs.length d2], .string answer] w fun e w' => ∃ B d, e = .returned (.tuple #[.agg #[.string nm, .string m.f0.f0, .string m.f0.f1, .slice B0 m.f1.length d0, .slice B1 m.f2.length d1, .int .i64 7, .int .i64 pos, .slice B outs.length d], .string (⟨#[]⟩)]) ∧ Kd.R (Kd.int .i64) 3 w' base (fun _ => True) (.slice B outs.length d) (outs) ∧ Below w.heap.size w w' := by
  have HMM := Lib.hid hm
  have HR0 := Lib.hid hr0
  have HR1 := Lib.hid hr1
  have U2 := Lib.hid u2
  clear hm hr0 hr1 u2
  obtain ⟨W0, hW0⟩ : ∃ W, W = (w.alloc (.cells #[.string nm, .string m.f0.f0, .string m.f0.f1, .slice B0 m.f1.length d0, .slice B1 m.f2.length d1, .int .i64 6, .int .i64 pos, .slice B2 outs.length d2] 31)).alloc (.cells #[.string ⟨#[]⟩, .string ⟨#[]⟩, .string ⟨#[]⟩, .slice none 0 0, .slice none 0 0, .int .i64 0, .int .i64 0, .slice none 0 0] 31) := ⟨_, rfl⟩
  have HF0 : Aside0 (W0.heap[w.heap.size]? = some (.cells #[.string nm, .string m.f0.f0, .string m.f0.f1, .slice B0 m.f1.length d0, .slice B1 m.f2.length d1, .int .i64 6, .int .i64 pos, .slice B2 outs.length d2] 31 (0, 0))) := ⟨by rw [hW0]; exact below_blk (blk_new _ _) (bel_alloc (Below.refl _ _) _)⟩
  have HF1 : Aside0 (W0.heap[w.heap.size + 1]? = some (.cells #[.string ⟨#[]⟩, .string ⟨#[]⟩, .string ⟨#[]⟩, .slice none 0 0, .slice none 0 0, .int .i64 0, .int .i64 0, .slice none 0 0] 31 (0, 0))) := ⟨by rw [hW0, show w.heap.size + 1 = (w.alloc (.cells #[.string nm, .string m.f0.f0, .string m.f0.f1, .slice B0 m.f1.length d0, .slice B1 m.f2.length d1, .int .i64 6, .int .i64 pos, .slice B2 outs.length d2] 31)).heap.size by simp]; exact blk_new _ _⟩
  have BL0 : Below w.heap.size w W0 := by rw [hW0]; exact bel_alloc (bel_alloc (Below.refl _ _) _) _
  have HW0 := Lib.hid hW0
  clear hW0
  have SB := Lib.hid (Nat.le_trans hbase BL0.size)
  go_enter Tryz.func63, Tryz.ntmps63
  go_wp2_with fail
  rw [← HW0.out]
  refine (hcode _).mono ?_
  rintro e w1 ⟨rfl, b1⟩
  have b0 := bel_then BL0 b1
  have F0 := Aside0.mk (below_blk HF0.out b1)
  have F1 := Aside0.mk (below_blk HF1.out b1)
  have R2 := Aside0.mk (Kd.R_below U2.out b0)
  have NE0 := Lib.hid (Kd.R_ne R2.out F0.out (by decide))
  have NE1 := Lib.hid (Kd.R_ne R2.out F1.out (by decide))
  clear b1 HF0 HF1 BL0 hcode
  obtain ⟨c0_, c1_, c2_, c3_, c4_, c5_, c6_, c7_⟩ := cells8 F0.out
  obtain ⟨cz0_, cz1_, cz2_, cz3_, cz4_, cz5_, cz6_, cz7_⟩ := froz8 F0.out
  obtain ⟨k0_, k1_, k2_, k3_, k4_, k5_, k6_, k7_⟩ := cells8 F1.out
  obtain ⟨kz0_, kz1_, kz2_, kz3_, kz4_, kz5_, kz6_, kz7_⟩ := froz8 F1.out
  go_wp2
  refine bodyPost_ret (v := .tuple #[.agg #[.string nm, .string m.f0.f0, .string m.f0.f1, .slice B0 m.f1.length d0, .slice B1 m.f2.length d1, .int .i64 7, .int .i64 pos, .slice B2 outs.length d2], .string (⟨#[]⟩)]) ?hr rfl ?hp
  case hr => simp [results, Tryz.results63, go_sem, c0_, c1_, c2_, c3_, c4_, c5_, c6_, c7_, k0_, k1_, k2_, k3_, k4_, k5_, k6_, k7_]
  case hp =>
    have ne0 := NE0.out
    have ne1 := NE1.out
    have hE0 : (Kd.int .i64).E = [] := rfl
    have RZ := R2.out
    exact ⟨B2, d2, rfl, by (with_reducible repeat (first | exact RZ | refine R_set ?_ hE0 ne0 | refine R_set ?_ hE0 ne1)), by (with_reducible repeat (first | exact b0 | refine bel_alloc ?_ _ | refine bel_set ?_ _ ?_ | refine blw_drewN ?_ _ | refine Below.drew ?_)); all_goals (first | (simp; done) | (simp; omega) | omega)⟩


set_option maxRecDepth 100000 in
set_option maxHeartbeats 4000000 in
theorem specStepF04_any (nm : ByteArray) (m : SMail) (pos : Int) (outs : List Int) (B0 : Option Addr) (d0 : Nat) (B1 : Option Addr) (d1 : Nat) (B2 : Option Addr) (d2 : Nat) (answer : ByteArray) (code : Int) (base : Nat) (w : World)
    (hm : fitMail m) (hnm : nm.size ≤ 1048576) (h0 : 0 ≤ pos) (h1 : pos ≤ (m.f1.length : Int)) (hl : outs.length ≤ 1048576) (hbase : base ≤ w.heap.size) (hc : ¬ code = 220) (h5 : 500 ≤ code) (hcode : ∀ W, Calls Tryz.prog 107 #[.string answer] W fun e w' => e = .returned (.int .i64 code) ∧ Below W.heap.size W w')
    (hr0 : Kd.C kAddr w B0 m.f1.length m.f1) (hr1 : Kd.C Kd.string w B1 m.f2.length m.f2) (u2 : Kd.R (Kd.int .i64) 3 w base (fun _ => True) (.slice B2 outs.length d2) outs) :
    Calls Tryz.prog 63 #[.agg #[.string nm, .string m.f0.f0, .string m.f0.f1, .slice B0 m.f1.length d0, .slice B1 m.f2.length d1, .int .i64 0, .int .i64 pos, .slice B2 outs.length d2], .string answer] w fun e w' => ∃ B d, e = .returned (.tuple #[.agg #[.string nm, .string m.f0.f0, .string m.f0.f1, .slice B0 m.f1.length d0, .slice B1 m.f2.length d1, .int .i64 6, .int .i64 pos, .slice B outs.length d], .string (⟨#[81, 85, 73, 84]⟩)]) ∧ Kd.R (Kd.int .i64) 3 w' base (fun _ => True) (.slice B outs.length d) (becomes 4 [0, 1] outs) ∧ Below w.heap.size w w' := by
  have HMM := Lib.hid hm
  have HR0 := Lib.hid hr0
  have HR1 := Lib.hid hr1
  have U2 := Lib.hid u2
  clear hm hr0 hr1 u2
  have hcb : (code == 220) = false := by simp [hc]
  obtain ⟨W0, hW0⟩ : ∃ W, W = (w.alloc (.cells #[.string nm, .string m.f0.f0, .string m.f0.f1, .slice B0 m.f1.length d0, .slice B1 m.f2.length d1, .int .i64 0, .int .i64 pos, .slice B2 outs.length d2] 31)).alloc (.cells #[.string ⟨#[]⟩, .string ⟨#[]⟩, .string ⟨#[]⟩, .slice none 0 0, .slice none 0 0, .int .i64 0, .int .i64 0, .slice none 0 0] 31) := ⟨_, rfl⟩
  have HF0 : Aside0 (W0.heap[w.heap.size]? = some (.cells #[.string nm, .string m.f0.f0, .string m.f0.f1, .slice B0 m.f1.length d0, .slice B1 m.f2.length d1, .int .i64 0, .int .i64 pos, .slice B2 outs.length d2] 31 (0, 0))) := ⟨by rw [hW0]; exact below_blk (blk_new _ _) (bel_alloc (Below.refl _ _) _)⟩
  have HF1 : Aside0 (W0.heap[w.heap.size + 1]? = some (.cells #[.string ⟨#[]⟩, .string ⟨#[]⟩, .string ⟨#[]⟩, .slice none 0 0, .slice none 0 0, .int .i64 0, .int .i64 0, .slice none 0 0] 31 (0, 0))) := ⟨by rw [hW0, show w.heap.size + 1 = (w.alloc (.cells #[.string nm, .string m.f0.f0, .string m.f0.f1, .slice B0 m.f1.length d0, .slice B1 m.f2.length d1, .int .i64 0, .int .i64 pos, .slice B2 outs.length d2] 31)).heap.size by simp]; exact blk_new _ _⟩
  have BL0 : Below w.heap.size w W0 := by rw [hW0]; exact bel_alloc (bel_alloc (Below.refl _ _) _) _
  have HW0 := Lib.hid hW0
  clear hW0
  have SB := Lib.hid (Nat.le_trans hbase BL0.size)
  go_enter Tryz.func63, Tryz.ntmps63
  go_wp2_with fail
  rw [← HW0.out]
  refine (hcode _).mono ?_
  rintro e w1 ⟨rfl, b1⟩
  have b0 := bel_then BL0 b1
  have F0 := Aside0.mk (below_blk HF0.out b1)
  have F1 := Aside0.mk (below_blk HF1.out b1)
  have R2 := Aside0.mk (Kd.R_below U2.out b0)
  have NE0 := Lib.hid (Kd.R_ne R2.out F0.out (by decide))
  have NE1 := Lib.hid (Kd.R_ne R2.out F1.out (by decide))
  clear b1 HF0 HF1 BL0 hcode
  obtain ⟨c0_, c1_, c2_, c3_, c4_, c5_, c6_, c7_⟩ := cells8 F0.out
  obtain ⟨cz0_, cz1_, cz2_, cz3_, cz4_, cz5_, cz6_, cz7_⟩ := froz8 F0.out
  obtain ⟨k0_, k1_, k2_, k3_, k4_, k5_, k6_, k7_⟩ := cells8 F1.out
  obtain ⟨kz0_, kz1_, kz2_, kz3_, kz4_, kz5_, kz6_, kz7_⟩ := froz8 F1.out
  go_wp2_with fail
  refine (specFail4_any nm m 0 pos outs B0 d0 B1 d1 B2 d2 code w1 hl (by omega) (Kd.R_reads' R2.out).2.2).mono ?_
  rintro e w2 ⟨P2, e2, rfl, r2, b2⟩
  have R3 := Aside0.mk (Kd.R_lower (base' := base) r2 (Nat.le_trans hbase b0.size))
  have f0 := below_blk F0.out b2
  have f1 := below_blk F1.out b2
  have bb := bel_then b0 b2
  clear R2 F0 F1 NE0 NE1 b0 r2 b2 c0_ cz0_ c1_ cz1_ c2_ cz2_ c3_ cz3_ c4_ cz4_ c5_ cz5_ c6_ cz6_ c7_ cz7_ k0_ kz0_ k1_ kz1_ k2_ kz2_ k3_ kz3_ k4_ kz4_ k5_ kz5_ k6_ kz6_ k7_ kz7_
  have R2 := R3
  have F0 := Aside0.mk f0
  have F1 := Aside0.mk f1
  have b0 := bb
  clear R3 f0 f1 bb
  have NE0 := Lib.hid (Kd.R_ne R2.out F0.out (by decide))
  have NE1 := Lib.hid (Kd.R_ne R2.out F1.out (by decide))
  obtain ⟨c0_, c1_, c2_, c3_, c4_, c5_, c6_, c7_⟩ := cells8 F0.out
  obtain ⟨cz0_, cz1_, cz2_, cz3_, cz4_, cz5_, cz6_, cz7_⟩ := froz8 F0.out
  obtain ⟨k0_, k1_, k2_, k3_, k4_, k5_, k6_, k7_⟩ := cells8 F1.out
  obtain ⟨kz0_, kz1_, kz2_, kz3_, kz4_, kz5_, kz6_, kz7_⟩ := froz8 F1.out
  go_wp2
  refine bodyPost_ret (v := .tuple #[.agg #[.string nm, .string m.f0.f0, .string m.f0.f1, .slice B0 m.f1.length d0, .slice B1 m.f2.length d1, .int .i64 6, .int .i64 pos, .slice P2 outs.length e2], .string (⟨#[81, 85, 73, 84]⟩)]) ?hr rfl ?hp
  case hr => simp [results, Tryz.results63, go_sem, c0_, c1_, c2_, c3_, c4_, c5_, c6_, c7_, k0_, k1_, k2_, k3_, k4_, k5_, k6_, k7_]
  case hp =>
    have ne0 := NE0.out
    have ne1 := NE1.out
    have hE0 : (Kd.int .i64).E = [] := rfl
    have RZ := R2.out
    exact ⟨P2, e2, rfl, by (with_reducible repeat (first | exact RZ | refine R_set ?_ hE0 ne0 | refine R_set ?_ hE0 ne1)), by (with_reducible repeat (first | exact b0 | refine bel_alloc ?_ _ | refine bel_set ?_ _ ?_ | refine blw_drewN ?_ _ | refine Below.drew ?_)); all_goals (first | (simp; done) | (simp; omega) | omega)⟩


set_option maxRecDepth 100000 in
set_option maxHeartbeats 4000000 in
theorem specStepF03_any (nm : ByteArray) (m : SMail) (pos : Int) (outs : List Int) (B0 : Option Addr) (d0 : Nat) (B1 : Option Addr) (d1 : Nat) (B2 : Option Addr) (d2 : Nat) (answer : ByteArray) (code : Int) (base : Nat) (w : World)
    (hm : fitMail m) (hnm : nm.size ≤ 1048576) (h0 : 0 ≤ pos) (h1 : pos ≤ (m.f1.length : Int)) (hl : outs.length ≤ 1048576) (hbase : base ≤ w.heap.size) (hc : ¬ code = 220) (h5 : ¬ 500 ≤ code) (hcode : ∀ W, Calls Tryz.prog 107 #[.string answer] W fun e w' => e = .returned (.int .i64 code) ∧ Below W.heap.size W w')
    (hr0 : Kd.C kAddr w B0 m.f1.length m.f1) (hr1 : Kd.C Kd.string w B1 m.f2.length m.f2) (u2 : Kd.R (Kd.int .i64) 3 w base (fun _ => True) (.slice B2 outs.length d2) outs) :
    Calls Tryz.prog 63 #[.agg #[.string nm, .string m.f0.f0, .string m.f0.f1, .slice B0 m.f1.length d0, .slice B1 m.f2.length d1, .int .i64 0, .int .i64 pos, .slice B2 outs.length d2], .string answer] w fun e w' => ∃ B d, e = .returned (.tuple #[.agg #[.string nm, .string m.f0.f0, .string m.f0.f1, .slice B0 m.f1.length d0, .slice B1 m.f2.length d1, .int .i64 6, .int .i64 pos, .slice B outs.length d], .string (⟨#[81, 85, 73, 84]⟩)]) ∧ Kd.R (Kd.int .i64) 3 w' base (fun _ => True) (.slice B outs.length d) (becomes 3 [0, 1] outs) ∧ Below w.heap.size w w' := by
  have HMM := Lib.hid hm
  have HR0 := Lib.hid hr0
  have HR1 := Lib.hid hr1
  have U2 := Lib.hid u2
  clear hm hr0 hr1 u2
  have hcb : (code == 220) = false := by simp [hc]
  obtain ⟨W0, hW0⟩ : ∃ W, W = (w.alloc (.cells #[.string nm, .string m.f0.f0, .string m.f0.f1, .slice B0 m.f1.length d0, .slice B1 m.f2.length d1, .int .i64 0, .int .i64 pos, .slice B2 outs.length d2] 31)).alloc (.cells #[.string ⟨#[]⟩, .string ⟨#[]⟩, .string ⟨#[]⟩, .slice none 0 0, .slice none 0 0, .int .i64 0, .int .i64 0, .slice none 0 0] 31) := ⟨_, rfl⟩
  have HF0 : Aside0 (W0.heap[w.heap.size]? = some (.cells #[.string nm, .string m.f0.f0, .string m.f0.f1, .slice B0 m.f1.length d0, .slice B1 m.f2.length d1, .int .i64 0, .int .i64 pos, .slice B2 outs.length d2] 31 (0, 0))) := ⟨by rw [hW0]; exact below_blk (blk_new _ _) (bel_alloc (Below.refl _ _) _)⟩
  have HF1 : Aside0 (W0.heap[w.heap.size + 1]? = some (.cells #[.string ⟨#[]⟩, .string ⟨#[]⟩, .string ⟨#[]⟩, .slice none 0 0, .slice none 0 0, .int .i64 0, .int .i64 0, .slice none 0 0] 31 (0, 0))) := ⟨by rw [hW0, show w.heap.size + 1 = (w.alloc (.cells #[.string nm, .string m.f0.f0, .string m.f0.f1, .slice B0 m.f1.length d0, .slice B1 m.f2.length d1, .int .i64 0, .int .i64 pos, .slice B2 outs.length d2] 31)).heap.size by simp]; exact blk_new _ _⟩
  have BL0 : Below w.heap.size w W0 := by rw [hW0]; exact bel_alloc (bel_alloc (Below.refl _ _) _) _
  have HW0 := Lib.hid hW0
  clear hW0
  have SB := Lib.hid (Nat.le_trans hbase BL0.size)
  go_enter Tryz.func63, Tryz.ntmps63
  go_wp2_with fail
  rw [← HW0.out]
  refine (hcode _).mono ?_
  rintro e w1 ⟨rfl, b1⟩
  have b0 := bel_then BL0 b1
  have F0 := Aside0.mk (below_blk HF0.out b1)
  have F1 := Aside0.mk (below_blk HF1.out b1)
  have R2 := Aside0.mk (Kd.R_below U2.out b0)
  have NE0 := Lib.hid (Kd.R_ne R2.out F0.out (by decide))
  have NE1 := Lib.hid (Kd.R_ne R2.out F1.out (by decide))
  clear b1 HF0 HF1 BL0 hcode
  obtain ⟨c0_, c1_, c2_, c3_, c4_, c5_, c6_, c7_⟩ := cells8 F0.out
  obtain ⟨cz0_, cz1_, cz2_, cz3_, cz4_, cz5_, cz6_, cz7_⟩ := froz8 F0.out
  obtain ⟨k0_, k1_, k2_, k3_, k4_, k5_, k6_, k7_⟩ := cells8 F1.out
  obtain ⟨kz0_, kz1_, kz2_, kz3_, kz4_, kz5_, kz6_, kz7_⟩ := froz8 F1.out
  go_wp2_with fail
  refine (specFail3_any nm m 0 pos outs B0 d0 B1 d1 B2 d2 code w1 hl (by omega) (Kd.R_reads' R2.out).2.2).mono ?_
  rintro e w2 ⟨P2, e2, rfl, r2, b2⟩
  have R3 := Aside0.mk (Kd.R_lower (base' := base) r2 (Nat.le_trans hbase b0.size))
  have f0 := below_blk F0.out b2
  have f1 := below_blk F1.out b2
  have bb := bel_then b0 b2
  clear R2 F0 F1 NE0 NE1 b0 r2 b2 c0_ cz0_ c1_ cz1_ c2_ cz2_ c3_ cz3_ c4_ cz4_ c5_ cz5_ c6_ cz6_ c7_ cz7_ k0_ kz0_ k1_ kz1_ k2_ kz2_ k3_ kz3_ k4_ kz4_ k5_ kz5_ k6_ kz6_ k7_ kz7_
  have R2 := R3
  have F0 := Aside0.mk f0
  have F1 := Aside0.mk f1
  have b0 := bb
  clear R3 f0 f1 bb
  have NE0 := Lib.hid (Kd.R_ne R2.out F0.out (by decide))
  have NE1 := Lib.hid (Kd.R_ne R2.out F1.out (by decide))
  obtain ⟨c0_, c1_, c2_, c3_, c4_, c5_, c6_, c7_⟩ := cells8 F0.out
  obtain ⟨cz0_, cz1_, cz2_, cz3_, cz4_, cz5_, cz6_, cz7_⟩ := froz8 F0.out
  obtain ⟨k0_, k1_, k2_, k3_, k4_, k5_, k6_, k7_⟩ := cells8 F1.out
  obtain ⟨kz0_, kz1_, kz2_, kz3_, kz4_, kz5_, kz6_, kz7_⟩ := froz8 F1.out
  go_wp2
  refine bodyPost_ret (v := .tuple #[.agg #[.string nm, .string m.f0.f0, .string m.f0.f1, .slice B0 m.f1.length d0, .slice B1 m.f2.length d1, .int .i64 6, .int .i64 pos, .slice P2 outs.length e2], .string (⟨#[81, 85, 73, 84]⟩)]) ?hr rfl ?hp
  case hr => simp [results, Tryz.results63, go_sem, c0_, c1_, c2_, c3_, c4_, c5_, c6_, c7_, k0_, k1_, k2_, k3_, k4_, k5_, k6_, k7_]
  case hp =>
    have ne0 := NE0.out
    have ne1 := NE1.out
    have hE0 : (Kd.int .i64).E = [] := rfl
    have RZ := R2.out
    exact ⟨P2, e2, rfl, by (with_reducible repeat (first | exact RZ | refine R_set ?_ hE0 ne0 | refine R_set ?_ hE0 ne1)), by (with_reducible repeat (first | exact b0 | refine bel_alloc ?_ _ | refine bel_set ?_ _ ?_ | refine blw_drewN ?_ _ | refine Below.drew ?_)); all_goals (first | (simp; done) | (simp; omega) | omega)⟩


set_option maxRecDepth 100000 in
set_option maxHeartbeats 4000000 in
theorem specStepF14_any (nm : ByteArray) (m : SMail) (pos : Int) (outs : List Int) (B0 : Option Addr) (d0 : Nat) (B1 : Option Addr) (d1 : Nat) (B2 : Option Addr) (d2 : Nat) (answer : ByteArray) (code : Int) (base : Nat) (w : World)
    (hm : fitMail m) (hnm : nm.size ≤ 1048576) (h0 : 0 ≤ pos) (h1 : pos ≤ (m.f1.length : Int)) (hl : outs.length ≤ 1048576) (hbase : base ≤ w.heap.size) (hc : ¬ code = 250) (h5 : 500 ≤ code) (hcode : ∀ W, Calls Tryz.prog 107 #[.string answer] W fun e w' => e = .returned (.int .i64 code) ∧ Below W.heap.size W w')
    (hr0 : Kd.C kAddr w B0 m.f1.length m.f1) (hr1 : Kd.C Kd.string w B1 m.f2.length m.f2) (u2 : Kd.R (Kd.int .i64) 3 w base (fun _ => True) (.slice B2 outs.length d2) outs) :
    Calls Tryz.prog 63 #[.agg #[.string nm, .string m.f0.f0, .string m.f0.f1, .slice B0 m.f1.length d0, .slice B1 m.f2.length d1, .int .i64 1, .int .i64 pos, .slice B2 outs.length d2], .string answer] w fun e w' => ∃ B d, e = .returned (.tuple #[.agg #[.string nm, .string m.f0.f0, .string m.f0.f1, .slice B0 m.f1.length d0, .slice B1 m.f2.length d1, .int .i64 6, .int .i64 pos, .slice B outs.length d], .string (⟨#[81, 85, 73, 84]⟩)]) ∧ Kd.R (Kd.int .i64) 3 w' base (fun _ => True) (.slice B outs.length d) (becomes 4 [0, 1] outs) ∧ Below w.heap.size w w' := by
  have HMM := Lib.hid hm
  have HR0 := Lib.hid hr0
  have HR1 := Lib.hid hr1
  have U2 := Lib.hid u2
  clear hm hr0 hr1 u2
  have hcb : (code == 250) = false := by simp [hc]
  obtain ⟨W0, hW0⟩ : ∃ W, W = (w.alloc (.cells #[.string nm, .string m.f0.f0, .string m.f0.f1, .slice B0 m.f1.length d0, .slice B1 m.f2.length d1, .int .i64 1, .int .i64 pos, .slice B2 outs.length d2] 31)).alloc (.cells #[.string ⟨#[]⟩, .string ⟨#[]⟩, .string ⟨#[]⟩, .slice none 0 0, .slice none 0 0, .int .i64 0, .int .i64 0, .slice none 0 0] 31) := ⟨_, rfl⟩
  have HF0 : Aside0 (W0.heap[w.heap.size]? = some (.cells #[.string nm, .string m.f0.f0, .string m.f0.f1, .slice B0 m.f1.length d0, .slice B1 m.f2.length d1, .int .i64 1, .int .i64 pos, .slice B2 outs.length d2] 31 (0, 0))) := ⟨by rw [hW0]; exact below_blk (blk_new _ _) (bel_alloc (Below.refl _ _) _)⟩
  have HF1 : Aside0 (W0.heap[w.heap.size + 1]? = some (.cells #[.string ⟨#[]⟩, .string ⟨#[]⟩, .string ⟨#[]⟩, .slice none 0 0, .slice none 0 0, .int .i64 0, .int .i64 0, .slice none 0 0] 31 (0, 0))) := ⟨by rw [hW0, show w.heap.size + 1 = (w.alloc (.cells #[.string nm, .string m.f0.f0, .string m.f0.f1, .slice B0 m.f1.length d0, .slice B1 m.f2.length d1, .int .i64 1, .int .i64 pos, .slice B2 outs.length d2] 31)).heap.size by simp]; exact blk_new _ _⟩
  have BL0 : Below w.heap.size w W0 := by rw [hW0]; exact bel_alloc (bel_alloc (Below.refl _ _) _) _
  have HW0 := Lib.hid hW0
  clear hW0
  have SB := Lib.hid (Nat.le_trans hbase BL0.size)
  go_enter Tryz.func63, Tryz.ntmps63
  go_wp2_with fail
  rw [← HW0.out]
  refine (hcode _).mono ?_
  rintro e w1 ⟨rfl, b1⟩
  have b0 := bel_then BL0 b1
  have F0 := Aside0.mk (below_blk HF0.out b1)
  have F1 := Aside0.mk (below_blk HF1.out b1)
  have R2 := Aside0.mk (Kd.R_below U2.out b0)
  have NE0 := Lib.hid (Kd.R_ne R2.out F0.out (by decide))
  have NE1 := Lib.hid (Kd.R_ne R2.out F1.out (by decide))
  clear b1 HF0 HF1 BL0 hcode
  obtain ⟨c0_, c1_, c2_, c3_, c4_, c5_, c6_, c7_⟩ := cells8 F0.out
  obtain ⟨cz0_, cz1_, cz2_, cz3_, cz4_, cz5_, cz6_, cz7_⟩ := froz8 F0.out
  obtain ⟨k0_, k1_, k2_, k3_, k4_, k5_, k6_, k7_⟩ := cells8 F1.out
  obtain ⟨kz0_, kz1_, kz2_, kz3_, kz4_, kz5_, kz6_, kz7_⟩ := froz8 F1.out
  go_wp2_with fail
  refine (specFail4_any nm m 1 pos outs B0 d0 B1 d1 B2 d2 code w1 hl (by omega) (Kd.R_reads' R2.out).2.2).mono ?_
  rintro e w2 ⟨P2, e2, rfl, r2, b2⟩
  have R3 := Aside0.mk (Kd.R_lower (base' := base) r2 (Nat.le_trans hbase b0.size))
  have f0 := below_blk F0.out b2
  have f1 := below_blk F1.out b2
  have bb := bel_then b0 b2
  clear R2 F0 F1 NE0 NE1 b0 r2 b2 c0_ cz0_ c1_ cz1_ c2_ cz2_ c3_ cz3_ c4_ cz4_ c5_ cz5_ c6_ cz6_ c7_ cz7_ k0_ kz0_ k1_ kz1_ k2_ kz2_ k3_ kz3_ k4_ kz4_ k5_ kz5_ k6_ kz6_ k7_ kz7_
  have R2 := R3
  have F0 := Aside0.mk f0
  have F1 := Aside0.mk f1
  have b0 := bb
  clear R3 f0 f1 bb
  have NE0 := Lib.hid (Kd.R_ne R2.out F0.out (by decide))
  have NE1 := Lib.hid (Kd.R_ne R2.out F1.out (by decide))
  obtain ⟨c0_, c1_, c2_, c3_, c4_, c5_, c6_, c7_⟩ := cells8 F0.out
  obtain ⟨cz0_, cz1_, cz2_, cz3_, cz4_, cz5_, cz6_, cz7_⟩ := froz8 F0.out
  obtain ⟨k0_, k1_, k2_, k3_, k4_, k5_, k6_, k7_⟩ := cells8 F1.out
  obtain ⟨kz0_, kz1_, kz2_, kz3_, kz4_, kz5_, kz6_, kz7_⟩ := froz8 F1.out
  go_wp2
  refine bodyPost_ret (v := .tuple #[.agg #[.string nm, .string m.f0.f0, .string m.f0.f1, .slice B0 m.f1.length d0, .slice B1 m.f2.length d1, .int .i64 6, .int .i64 pos, .slice P2 outs.length e2], .string (⟨#[81, 85, 73, 84]⟩)]) ?hr rfl ?hp
  case hr => simp [results, Tryz.results63, go_sem, c0_, c1_, c2_, c3_, c4_, c5_, c6_, c7_, k0_, k1_, k2_, k3_, k4_, k5_, k6_, k7_]
  case hp =>
    have ne0 := NE0.out
    have ne1 := NE1.out
    have hE0 : (Kd.int .i64).E = [] := rfl
    have RZ := R2.out
    exact ⟨P2, e2, rfl, by (with_reducible repeat (first | exact RZ | refine R_set ?_ hE0 ne0 | refine R_set ?_ hE0 ne1)), by (with_reducible repeat (first | exact b0 | refine bel_alloc ?_ _ | refine bel_set ?_ _ ?_ | refine blw_drewN ?_ _ | refine Below.drew ?_)); all_goals (first | (simp; done) | (simp; omega) | omega)⟩


set_option maxRecDepth 100000 in
set_option maxHeartbeats 4000000 in
theorem specStepF13_any (nm : ByteArray) (m : SMail) (pos : Int) (outs : List Int) (B0 : Option Addr) (d0 : Nat) (B1 : Option Addr) (d1 : Nat) (B2 : Option Addr) (d2 : Nat) (answer : ByteArray) (code : Int) (base : Nat) (w : World)
    (hm : fitMail m) (hnm : nm.size ≤ 1048576) (h0 : 0 ≤ pos) (h1 : pos ≤ (m.f1.length : Int)) (hl : outs.length ≤ 1048576) (hbase : base ≤ w.heap.size) (hc : ¬ code = 250) (h5 : ¬ 500 ≤ code) (hcode : ∀ W, Calls Tryz.prog 107 #[.string answer] W fun e w' => e = .returned (.int .i64 code) ∧ Below W.heap.size W w')
    (hr0 : Kd.C kAddr w B0 m.f1.length m.f1) (hr1 : Kd.C Kd.string w B1 m.f2.length m.f2) (u2 : Kd.R (Kd.int .i64) 3 w base (fun _ => True) (.slice B2 outs.length d2) outs) :
    Calls Tryz.prog 63 #[.agg #[.string nm, .string m.f0.f0, .string m.f0.f1, .slice B0 m.f1.length d0, .slice B1 m.f2.length d1, .int .i64 1, .int .i64 pos, .slice B2 outs.length d2], .string answer] w fun e w' => ∃ B d, e = .returned (.tuple #[.agg #[.string nm, .string m.f0.f0, .string m.f0.f1, .slice B0 m.f1.length d0, .slice B1 m.f2.length d1, .int .i64 6, .int .i64 pos, .slice B outs.length d], .string (⟨#[81, 85, 73, 84]⟩)]) ∧ Kd.R (Kd.int .i64) 3 w' base (fun _ => True) (.slice B outs.length d) (becomes 3 [0, 1] outs) ∧ Below w.heap.size w w' := by
  have HMM := Lib.hid hm
  have HR0 := Lib.hid hr0
  have HR1 := Lib.hid hr1
  have U2 := Lib.hid u2
  clear hm hr0 hr1 u2
  have hcb : (code == 250) = false := by simp [hc]
  obtain ⟨W0, hW0⟩ : ∃ W, W = (w.alloc (.cells #[.string nm, .string m.f0.f0, .string m.f0.f1, .slice B0 m.f1.length d0, .slice B1 m.f2.length d1, .int .i64 1, .int .i64 pos, .slice B2 outs.length d2] 31)).alloc (.cells #[.string ⟨#[]⟩, .string ⟨#[]⟩, .string ⟨#[]⟩, .slice none 0 0, .slice none 0 0, .int .i64 0, .int .i64 0, .slice none 0 0] 31) := ⟨_, rfl⟩
  have HF0 : Aside0 (W0.heap[w.heap.size]? = some (.cells #[.string nm, .string m.f0.f0, .string m.f0.f1, .slice B0 m.f1.length d0, .slice B1 m.f2.length d1, .int .i64 1, .int .i64 pos, .slice B2 outs.length d2] 31 (0, 0))) := ⟨by rw [hW0]; exact below_blk (blk_new _ _) (bel_alloc (Below.refl _ _) _)⟩
  have HF1 : Aside0 (W0.heap[w.heap.size + 1]? = some (.cells #[.string ⟨#[]⟩, .string ⟨#[]⟩, .string ⟨#[]⟩, .slice none 0 0, .slice none 0 0, .int .i64 0, .int .i64 0, .slice none 0 0] 31 (0, 0))) := ⟨by rw [hW0, show w.heap.size + 1 = (w.alloc (.cells #[.string nm, .string m.f0.f0, .string m.f0.f1, .slice B0 m.f1.length d0, .slice B1 m.f2.length d1, .int .i64 1, .int .i64 pos, .slice B2 outs.length d2] 31)).heap.size by simp]; exact blk_new _ _⟩
  have BL0 : Below w.heap.size w W0 := by rw [hW0]; exact bel_alloc (bel_alloc (Below.refl _ _) _) _
  have HW0 := Lib.hid hW0
  clear hW0
  have SB := Lib.hid (Nat.le_trans hbase BL0.size)
  go_enter Tryz.func63, Tryz.ntmps63
  go_wp2_with fail
  rw [← HW0.out]
  refine (hcode _).mono ?_
  rintro e w1 ⟨rfl, b1⟩
  have b0 := bel_then BL0 b1
  have F0 := Aside0.mk (below_blk HF0.out b1)
  have F1 := Aside0.mk (below_blk HF1.out b1)
  have R2 := Aside0.mk (Kd.R_below U2.out b0)
  have NE0 := Lib.hid (Kd.R_ne R2.out F0.out (by decide))
  have NE1 := Lib.hid (Kd.R_ne R2.out F1.out (by decide))
  clear b1 HF0 HF1 BL0 hcode
  obtain ⟨c0_, c1_, c2_, c3_, c4_, c5_, c6_, c7_⟩ := cells8 F0.out
  obtain ⟨cz0_, cz1_, cz2_, cz3_, cz4_, cz5_, cz6_, cz7_⟩ := froz8 F0.out
  obtain ⟨k0_, k1_, k2_, k3_, k4_, k5_, k6_, k7_⟩ := cells8 F1.out
  obtain ⟨kz0_, kz1_, kz2_, kz3_, kz4_, kz5_, kz6_, kz7_⟩ := froz8 F1.out
  go_wp2_with fail
  refine (specFail3_any nm m 1 pos outs B0 d0 B1 d1 B2 d2 code w1 hl (by omega) (Kd.R_reads' R2.out).2.2).mono ?_
  rintro e w2 ⟨P2, e2, rfl, r2, b2⟩
  have R3 := Aside0.mk (Kd.R_lower (base' := base) r2 (Nat.le_trans hbase b0.size))
  have f0 := below_blk F0.out b2
  have f1 := below_blk F1.out b2
  have bb := bel_then b0 b2
  clear R2 F0 F1 NE0 NE1 b0 r2 b2 c0_ cz0_ c1_ cz1_ c2_ cz2_ c3_ cz3_ c4_ cz4_ c5_ cz5_ c6_ cz6_ c7_ cz7_ k0_ kz0_ k1_ kz1_ k2_ kz2_ k3_ kz3_ k4_ kz4_ k5_ kz5_ k6_ kz6_ k7_ kz7_
  have R2 := R3
  have F0 := Aside0.mk f0
  have F1 := Aside0.mk f1
  have b0 := bb
  clear R3 f0 f1 bb
  have NE0 := Lib.hid (Kd.R_ne R2.out F0.out (by decide))
  have NE1 := Lib.hid (Kd.R_ne R2.out F1.out (by decide))
  obtain ⟨c0_, c1_, c2_, c3_, c4_, c5_, c6_, c7_⟩ := cells8 F0.out
  obtain ⟨cz0_, cz1_, cz2_, cz3_, cz4_, cz5_, cz6_, cz7_⟩ := froz8 F0.out
  obtain ⟨k0_, k1_, k2_, k3_, k4_, k5_, k6_, k7_⟩ := cells8 F1.out
  obtain ⟨kz0_, kz1_, kz2_, kz3_, kz4_, kz5_, kz6_, kz7_⟩ := froz8 F1.out
  go_wp2
  refine bodyPost_ret (v := .tuple #[.agg #[.string nm, .string m.f0.f0, .string m.f0.f1, .slice B0 m.f1.length d0, .slice B1 m.f2.length d1, .int .i64 6, .int .i64 pos, .slice P2 outs.length e2], .string (⟨#[81, 85, 73, 84]⟩)]) ?hr rfl ?hp
  case hr => simp [results, Tryz.results63, go_sem, c0_, c1_, c2_, c3_, c4_, c5_, c6_, c7_, k0_, k1_, k2_, k3_, k4_, k5_, k6_, k7_]
  case hp =>
    have ne0 := NE0.out
    have ne1 := NE1.out
    have hE0 : (Kd.int .i64).E = [] := rfl
    have RZ := R2.out
    exact ⟨P2, e2, rfl, by (with_reducible repeat (first | exact RZ | refine R_set ?_ hE0 ne0 | refine R_set ?_ hE0 ne1)), by (with_reducible repeat (first | exact b0 | refine bel_alloc ?_ _ | refine bel_set ?_ _ ?_ | refine blw_drewN ?_ _ | refine Below.drew ?_)); all_goals (first | (simp; done) | (simp; omega) | omega)⟩


set_option maxRecDepth 100000 in
set_option maxHeartbeats 4000000 in
theorem specStepF24_any (nm : ByteArray) (m : SMail) (pos : Int) (outs : List Int) (B0 : Option Addr) (d0 : Nat) (B1 : Option Addr) (d1 : Nat) (B2 : Option Addr) (d2 : Nat) (answer : ByteArray) (code : Int) (base : Nat) (w : World)
    (hm : fitMail m) (hnm : nm.size ≤ 1048576) (h0 : 0 ≤ pos) (h1 : pos ≤ (m.f1.length : Int)) (hl : outs.length ≤ 1048576) (hbase : base ≤ w.heap.size) (hc : ¬ code = 250) (h5 : 500 ≤ code) (hcode : ∀ W, Calls Tryz.prog 107 #[.string answer] W fun e w' => e = .returned (.int .i64 code) ∧ Below W.heap.size W w')
    (hr0 : Kd.C kAddr w B0 m.f1.length m.f1) (hr1 : Kd.C Kd.string w B1 m.f2.length m.f2) (u2 : Kd.R (Kd.int .i64) 3 w base (fun _ => True) (.slice B2 outs.length d2) outs) :
    Calls Tryz.prog 63 #[.agg #[.string nm, .string m.f0.f0, .string m.f0.f1, .slice B0 m.f1.length d0, .slice B1 m.f2.length d1, .int .i64 2, .int .i64 pos, .slice B2 outs.length d2], .string answer] w fun e w' => ∃ B d, e = .returned (.tuple #[.agg #[.string nm, .string m.f0.f0, .string m.f0.f1, .slice B0 m.f1.length d0, .slice B1 m.f2.length d1, .int .i64 6, .int .i64 pos, .slice B outs.length d], .string (⟨#[81, 85, 73, 84]⟩)]) ∧ Kd.R (Kd.int .i64) 3 w' base (fun _ => True) (.slice B outs.length d) (becomes 4 [0, 1] outs) ∧ Below w.heap.size w w' := by
  have HMM := Lib.hid hm
  have HR0 := Lib.hid hr0
  have HR1 := Lib.hid hr1
  have U2 := Lib.hid u2
  clear hm hr0 hr1 u2
  have hcb : (code == 250) = false := by simp [hc]
  obtain ⟨W0, hW0⟩ : ∃ W, W = (w.alloc (.cells #[.string nm, .string m.f0.f0, .string m.f0.f1, .slice B0 m.f1.length d0, .slice B1 m.f2.length d1, .int .i64 2, .int .i64 pos, .slice B2 outs.length d2] 31)).alloc (.cells #[.string ⟨#[]⟩, .string ⟨#[]⟩, .string ⟨#[]⟩, .slice none 0 0, .slice none 0 0, .int .i64 0, .int .i64 0, .slice none 0 0] 31) := ⟨_, rfl⟩
  have HF0 : Aside0 (W0.heap[w.heap.size]? = some (.cells #[.string nm, .string m.f0.f0, .string m.f0.f1, .slice B0 m.f1.length d0, .slice B1 m.f2.length d1, .int .i64 2, .int .i64 pos, .slice B2 outs.length d2] 31 (0, 0))) := ⟨by rw [hW0]; exact below_blk (blk_new _ _) (bel_alloc (Below.refl _ _) _)⟩
  have HF1 : Aside0 (W0.heap[w.heap.size + 1]? = some (.cells #[.string ⟨#[]⟩, .string ⟨#[]⟩, .string ⟨#[]⟩, .slice none 0 0, .slice none 0 0, .int .i64 0, .int .i64 0, .slice none 0 0] 31 (0, 0))) := ⟨by rw [hW0, show w.heap.size + 1 = (w.alloc (.cells #[.string nm, .string m.f0.f0, .string m.f0.f1, .slice B0 m.f1.length d0, .slice B1 m.f2.length d1, .int .i64 2, .int .i64 pos, .slice B2 outs.length d2] 31)).heap.size by simp]; exact blk_new _ _⟩
  have BL0 : Below w.heap.size w W0 := by rw [hW0]; exact bel_alloc (bel_alloc (Below.refl _ _) _) _
  have HW0 := Lib.hid hW0
  clear hW0
  have SB := Lib.hid (Nat.le_trans hbase BL0.size)
  go_enter Tryz.func63, Tryz.ntmps63
  go_wp2_with fail
  rw [← HW0.out]
  refine (hcode _).mono ?_
  rintro e w1 ⟨rfl, b1⟩
  have b0 := bel_then BL0 b1
  have F0 := Aside0.mk (below_blk HF0.out b1)
  have F1 := Aside0.mk (below_blk HF1.out b1)
  have R2 := Aside0.mk (Kd.R_below U2.out b0)
  have NE0 := Lib.hid (Kd.R_ne R2.out F0.out (by decide))
  have NE1 := Lib.hid (Kd.R_ne R2.out F1.out (by decide))
  clear b1 HF0 HF1 BL0 hcode
  obtain ⟨c0_, c1_, c2_, c3_, c4_, c5_, c6_, c7_⟩ := cells8 F0.out
  obtain ⟨cz0_, cz1_, cz2_, cz3_, cz4_, cz5_, cz6_, cz7_⟩ := froz8 F0.out
  obtain ⟨k0_, k1_, k2_, k3_, k4_, k5_, k6_, k7_⟩ := cells8 F1.out
  obtain ⟨kz0_, kz1_, kz2_, kz3_, kz4_, kz5_, kz6_, kz7_⟩ := froz8 F1.out
  go_wp2_with fail
  refine (specFail4_any nm m 2 pos outs B0 d0 B1 d1 B2 d2 code w1 hl (by omega) (Kd.R_reads' R2.out).2.2).mono ?_
  rintro e w2 ⟨P2, e2, rfl, r2, b2⟩
  have R3 := Aside0.mk (Kd.R_lower (base' := base) r2 (Nat.le_trans hbase b0.size))
  have f0 := below_blk F0.out b2
  have f1 := below_blk F1.out b2
  have bb := bel_then b0 b2
  clear R2 F0 F1 NE0 NE1 b0 r2 b2 c0_ cz0_ c1_ cz1_ c2_ cz2_ c3_ cz3_ c4_ cz4_ c5_ cz5_ c6_ cz6_ c7_ cz7_ k0_ kz0_ k1_ kz1_ k2_ kz2_ k3_ kz3_ k4_ kz4_ k5_ kz5_ k6_ kz6_ k7_ kz7_
  have R2 := R3
  have F0 := Aside0.mk f0
  have F1 := Aside0.mk f1
  have b0 := bb
  clear R3 f0 f1 bb
  have NE0 := Lib.hid (Kd.R_ne R2.out F0.out (by decide))
  have NE1 := Lib.hid (Kd.R_ne R2.out F1.out (by decide))
  obtain ⟨c0_, c1_, c2_, c3_, c4_, c5_, c6_, c7_⟩ := cells8 F0.out
  obtain ⟨cz0_, cz1_, cz2_, cz3_, cz4_, cz5_, cz6_, cz7_⟩ := froz8 F0.out
  obtain ⟨k0_, k1_, k2_, k3_, k4_, k5_, k6_, k7_⟩ := cells8 F1.out
  obtain ⟨kz0_, kz1_, kz2_, kz3_, kz4_, kz5_, kz6_, kz7_⟩ := froz8 F1.out
  go_wp2
  refine bodyPost_ret (v := .tuple #[.agg #[.string nm, .string m.f0.f0, .string m.f0.f1, .slice B0 m.f1.length d0, .slice B1 m.f2.length d1, .int .i64 6, .int .i64 pos, .slice P2 outs.length e2], .string (⟨#[81, 85, 73, 84]⟩)]) ?hr rfl ?hp
  case hr => simp [results, Tryz.results63, go_sem, c0_, c1_, c2_, c3_, c4_, c5_, c6_, c7_, k0_, k1_, k2_, k3_, k4_, k5_, k6_, k7_]
  case hp =>
    have ne0 := NE0.out
    have ne1 := NE1.out
    have hE0 : (Kd.int .i64).E = [] := rfl
    have RZ := R2.out
    exact ⟨P2, e2, rfl, by (with_reducible repeat (first | exact RZ | refine R_set ?_ hE0 ne0 | refine R_set ?_ hE0 ne1)), by (with_reducible repeat (first | exact b0 | refine bel_alloc ?_ _ | refine bel_set ?_ _ ?_ | refine blw_drewN ?_ _ | refine Below.drew ?_)); all_goals (first | (simp; done) | (simp; omega) | omega)⟩


set_option maxRecDepth 100000 in
set_option maxHeartbeats 4000000 in
theorem specStepF23_any (nm : ByteArray) (m : SMail) (pos : Int) (outs : List Int) (B0 : Option Addr) (d0 : Nat) (B1 : Option Addr) (d1 : Nat) (B2 : Option Addr) (d2 : Nat) (answer : ByteArray) (code : Int) (base : Nat) (w : World)
    (hm : fitMail m) (hnm : nm.size ≤ 1048576) (h0 : 0 ≤ pos) (h1 : pos ≤ (m.f1.length : Int)) (hl : outs.length ≤ 1048576) (hbase : base ≤ w.heap.size) (hc : ¬ code = 250) (h5 : ¬ 500 ≤ code) (hcode : ∀ W, Calls Tryz.prog 107 #[.string answer] W fun e w' => e = .returned (.int .i64 code) ∧ Below W.heap.size W w')
    (hr0 : Kd.C kAddr w B0 m.f1.length m.f1) (hr1 : Kd.C Kd.string w B1 m.f2.length m.f2) (u2 : Kd.R (Kd.int .i64) 3 w base (fun _ => True) (.slice B2 outs.length d2) outs) :
    Calls Tryz.prog 63 #[.agg #[.string nm, .string m.f0.f0, .string m.f0.f1, .slice B0 m.f1.length d0, .slice B1 m.f2.length d1, .int .i64 2, .int .i64 pos, .slice B2 outs.length d2], .string answer] w fun e w' => ∃ B d, e = .returned (.tuple #[.agg #[.string nm, .string m.f0.f0, .string m.f0.f1, .slice B0 m.f1.length d0, .slice B1 m.f2.length d1, .int .i64 6, .int .i64 pos, .slice B outs.length d], .string (⟨#[81, 85, 73, 84]⟩)]) ∧ Kd.R (Kd.int .i64) 3 w' base (fun _ => True) (.slice B outs.length d) (becomes 3 [0, 1] outs) ∧ Below w.heap.size w w' := by
  have HMM := Lib.hid hm
  have HR0 := Lib.hid hr0
  have HR1 := Lib.hid hr1
  have U2 := Lib.hid u2
  clear hm hr0 hr1 u2
  have hcb : (code == 250) = false := by simp [hc]
  obtain ⟨W0, hW0⟩ : ∃ W, W = (w.alloc (.cells #[.string nm, .string m.f0.f0, .string m.f0.f1, .slice B0 m.f1.length d0, .slice B1 m.f2.length d1, .int .i64 2, .int .i64 pos, .slice B2 outs.length d2] 31)).alloc (.cells #[.string ⟨#[]⟩, .string ⟨#[]⟩, .string ⟨#[]⟩, .slice none 0 0, .slice none 0 0, .int .i64 0, .int .i64 0, .slice none 0 0] 31) := ⟨_, rfl⟩
  have HF0 : Aside0 (W0.heap[w.heap.size]? = some (.cells #[.string nm, .string m.f0.f0, .string m.f0.f1, .slice B0 m.f1.length d0, .slice B1 m.f2.length d1, .int .i64 2, .int .i64 pos, .slice B2 outs.length d2] 31 (0, 0))) := ⟨by rw [hW0]; exact below_blk (blk_new _ _) (bel_alloc (Below.refl _ _) _)⟩
  have HF1 : Aside0 (W0.heap[w.heap.size + 1]? = some (.cells #[.string ⟨#[]⟩, .string ⟨#[]⟩, .string ⟨#[]⟩, .slice none 0 0, .slice none 0 0, .int .i64 0, .int .i64 0, .slice none 0 0] 31 (0, 0))) := ⟨by rw [hW0, show w.heap.size + 1 = (w.alloc (.cells #[.string nm, .string m.f0.f0, .string m.f0.f1, .slice B0 m.f1.length d0, .slice B1 m.f2.length d1, .int .i64 2, .int .i64 pos, .slice B2 outs.length d2] 31)).heap.size by simp]; exact blk_new _ _⟩
  have BL0 : Below w.heap.size w W0 := by rw [hW0]; exact bel_alloc (bel_alloc (Below.refl _ _) _) _
  have HW0 := Lib.hid hW0
  clear hW0
  have SB := Lib.hid (Nat.le_trans hbase BL0.size)
  go_enter Tryz.func63, Tryz.ntmps63
  go_wp2_with fail
  rw [← HW0.out]
  refine (hcode _).mono ?_
  rintro e w1 ⟨rfl, b1⟩
  have b0 := bel_then BL0 b1
  have F0 := Aside0.mk (below_blk HF0.out b1)
  have F1 := Aside0.mk (below_blk HF1.out b1)
  have R2 := Aside0.mk (Kd.R_below U2.out b0)
  have NE0 := Lib.hid (Kd.R_ne R2.out F0.out (by decide))
  have NE1 := Lib.hid (Kd.R_ne R2.out F1.out (by decide))
  clear b1 HF0 HF1 BL0 hcode
  obtain ⟨c0_, c1_, c2_, c3_, c4_, c5_, c6_, c7_⟩ := cells8 F0.out
  obtain ⟨cz0_, cz1_, cz2_, cz3_, cz4_, cz5_, cz6_, cz7_⟩ := froz8 F0.out
  obtain ⟨k0_, k1_, k2_, k3_, k4_, k5_, k6_, k7_⟩ := cells8 F1.out
  obtain ⟨kz0_, kz1_, kz2_, kz3_, kz4_, kz5_, kz6_, kz7_⟩ := froz8 F1.out
  go_wp2_with fail
  refine (specFail3_any nm m 2 pos outs B0 d0 B1 d1 B2 d2 code w1 hl (by omega) (Kd.R_reads' R2.out).2.2).mono ?_
  rintro e w2 ⟨P2, e2, rfl, r2, b2⟩
  have R3 := Aside0.mk (Kd.R_lower (base' := base) r2 (Nat.le_trans hbase b0.size))
  have f0 := below_blk F0.out b2
  have f1 := below_blk F1.out b2
  have bb := bel_then b0 b2
  clear R2 F0 F1 NE0 NE1 b0 r2 b2 c0_ cz0_ c1_ cz1_ c2_ cz2_ c3_ cz3_ c4_ cz4_ c5_ cz5_ c6_ cz6_ c7_ cz7_ k0_ kz0_ k1_ kz1_ k2_ kz2_ k3_ kz3_ k4_ kz4_ k5_ kz5_ k6_ kz6_ k7_ kz7_
  have R2 := R3
  have F0 := Aside0.mk f0
  have F1 := Aside0.mk f1
  have b0 := bb
  clear R3 f0 f1 bb
  have NE0 := Lib.hid (Kd.R_ne R2.out F0.out (by decide))
  have NE1 := Lib.hid (Kd.R_ne R2.out F1.out (by decide))
  obtain ⟨c0_, c1_, c2_, c3_, c4_, c5_, c6_, c7_⟩ := cells8 F0.out
  obtain ⟨cz0_, cz1_, cz2_, cz3_, cz4_, cz5_, cz6_, cz7_⟩ := froz8 F0.out
  obtain ⟨k0_, k1_, k2_, k3_, k4_, k5_, k6_, k7_⟩ := cells8 F1.out
  obtain ⟨kz0_, kz1_, kz2_, kz3_, kz4_, kz5_, kz6_, kz7_⟩ := froz8 F1.out
  go_wp2
  refine bodyPost_ret (v := .tuple #[.agg #[.string nm, .string m.f0.f0, .string m.f0.f1, .slice B0 m.f1.length d0, .slice B1 m.f2.length d1, .int .i64 6, .int .i64 pos, .slice P2 outs.length e2], .string (⟨#[81, 85, 73, 84]⟩)]) ?hr rfl ?hp
  case hr => simp [results, Tryz.results63, go_sem, c0_, c1_, c2_, c3_, c4_, c5_, c6_, c7_, k0_, k1_, k2_, k3_, k4_, k5_, k6_, k7_]
  case hp =>
    have ne0 := NE0.out
    have ne1 := NE1.out
    have hE0 : (Kd.int .i64).E = [] := rfl
    have RZ := R2.out
    exact ⟨P2, e2, rfl, by (with_reducible repeat (first | exact RZ | refine R_set ?_ hE0 ne0 | refine R_set ?_ hE0 ne1)), by (with_reducible repeat (first | exact b0 | refine bel_alloc ?_ _ | refine bel_set ?_ _ ?_ | refine blw_drewN ?_ _ | refine Below.drew ?_)); all_goals (first | (simp; done) | (simp; omega) | omega)⟩


set_option maxRecDepth 100000 in
set_option maxHeartbeats 4000000 in
theorem specStepF44_any (nm : ByteArray) (m : SMail) (pos : Int) (outs : List Int) (B0 : Option Addr) (d0 : Nat) (B1 : Option Addr) (d1 : Nat) (B2 : Option Addr) (d2 : Nat) (answer : ByteArray) (code : Int) (base : Nat) (w : World)
    (hm : fitMail m) (hnm : nm.size ≤ 1048576) (h0 : 0 ≤ pos) (h1 : pos ≤ (m.f1.length : Int)) (hl : outs.length ≤ 1048576) (hbase : base ≤ w.heap.size) (hc : ¬ code = 354) (h5 : 500 ≤ code) (hcode : ∀ W, Calls Tryz.prog 107 #[.string answer] W fun e w' => e = .returned (.int .i64 code) ∧ Below W.heap.size W w')
    (hr0 : Kd.C kAddr w B0 m.f1.length m.f1) (hr1 : Kd.C Kd.string w B1 m.f2.length m.f2) (u2 : Kd.R (Kd.int .i64) 3 w base (fun _ => True) (.slice B2 outs.length d2) outs) :
    Calls Tryz.prog 63 #[.agg #[.string nm, .string m.f0.f0, .string m.f0.f1, .slice B0 m.f1.length d0, .slice B1 m.f2.length d1, .int .i64 4, .int .i64 pos, .slice B2 outs.length d2], .string answer] w fun e w' => ∃ B d, e = .returned (.tuple #[.agg #[.string nm, .string m.f0.f0, .string m.f0.f1, .slice B0 m.f1.length d0, .slice B1 m.f2.length d1, .int .i64 6, .int .i64 pos, .slice B outs.length d], .string (⟨#[81, 85, 73, 84]⟩)]) ∧ Kd.R (Kd.int .i64) 3 w' base (fun _ => True) (.slice B outs.length d) (becomes 4 [0, 1] outs) ∧ Below w.heap.size w w' := by
  have HMM := Lib.hid hm
  have HR0 := Lib.hid hr0
  have HR1 := Lib.hid hr1
  have U2 := Lib.hid u2
  clear hm hr0 hr1 u2
  have hcb : (code == 354) = false := by simp [hc]
  obtain ⟨W0, hW0⟩ : ∃ W, W = (w.alloc (.cells #[.string nm, .string m.f0.f0, .string m.f0.f1, .slice B0 m.f1.length d0, .slice B1 m.f2.length d1, .int .i64 4, .int .i64 pos, .slice B2 outs.length d2] 31)).alloc (.cells #[.string ⟨#[]⟩, .string ⟨#[]⟩, .string ⟨#[]⟩, .slice none 0 0, .slice none 0 0, .int .i64 0, .int .i64 0, .slice none 0 0] 31) := ⟨_, rfl⟩
  have HF0 : Aside0 (W0.heap[w.heap.size]? = some (.cells #[.string nm, .string m.f0.f0, .string m.f0.f1, .slice B0 m.f1.length d0, .slice B1 m.f2.length d1, .int .i64 4, .int .i64 pos, .slice B2 outs.length d2] 31 (0, 0))) := ⟨by rw [hW0]; exact below_blk (blk_new _ _) (bel_alloc (Below.refl _ _) _)⟩
  have HF1 : Aside0 (W0.heap[w.heap.size + 1]? = some (.cells #[.string ⟨#[]⟩, .string ⟨#[]⟩, .string ⟨#[]⟩, .slice none 0 0, .slice none 0 0, .int .i64 0, .int .i64 0, .slice none 0 0] 31 (0, 0))) := ⟨by rw [hW0, show w.heap.size + 1 = (w.alloc (.cells #[.string nm, .string m.f0.f0, .string m.f0.f1, .slice B0 m.f1.length d0, .slice B1 m.f2.length d1, .int .i64 4, .int .i64 pos, .slice B2 outs.length d2] 31)).heap.size by simp]; exact blk_new _ _⟩
  have BL0 : Below w.heap.size w W0 := by rw [hW0]; exact bel_alloc (bel_alloc (Below.refl _ _) _) _
  have HW0 := Lib.hid hW0
  clear hW0
  have SB := Lib.hid (Nat.le_trans hbase BL0.size)
  go_enter Tryz.func63, Tryz.ntmps63
  go_wp2_with fail
  rw [← HW0.out]
  refine (hcode _).mono ?_
  rintro e w1 ⟨rfl, b1⟩
  have b0 := bel_then BL0 b1
  have F0 := Aside0.mk (below_blk HF0.out b1)
  have F1 := Aside0.mk (below_blk HF1.out b1)
  have R2 := Aside0.mk (Kd.R_below U2.out b0)
  have NE0 := Lib.hid (Kd.R_ne R2.out F0.out (by decide))
  have NE1 := Lib.hid (Kd.R_ne R2.out F1.out (by decide))
  clear b1 HF0 HF1 BL0 hcode
  obtain ⟨c0_, c1_, c2_, c3_, c4_, c5_, c6_, c7_⟩ := cells8 F0.out
  obtain ⟨cz0_, cz1_, cz2_, cz3_, cz4_, cz5_, cz6_, cz7_⟩ := froz8 F0.out
  obtain ⟨k0_, k1_, k2_, k3_, k4_, k5_, k6_, k7_⟩ := cells8 F1.out
  obtain ⟨kz0_, kz1_, kz2_, kz3_, kz4_, kz5_, kz6_, kz7_⟩ := froz8 F1.out
  go_wp2_with fail
  refine (specFail4_any nm m 4 pos outs B0 d0 B1 d1 B2 d2 code w1 hl (by omega) (Kd.R_reads' R2.out).2.2).mono ?_
  rintro e w2 ⟨P2, e2, rfl, r2, b2⟩
  have R3 := Aside0.mk (Kd.R_lower (base' := base) r2 (Nat.le_trans hbase b0.size))
  have f0 := below_blk F0.out b2
  have f1 := below_blk F1.out b2
  have bb := bel_then b0 b2
  clear R2 F0 F1 NE0 NE1 b0 r2 b2 c0_ cz0_ c1_ cz1_ c2_ cz2_ c3_ cz3_ c4_ cz4_ c5_ cz5_ c6_ cz6_ c7_ cz7_ k0_ kz0_ k1_ kz1_ k2_ kz2_ k3_ kz3_ k4_ kz4_ k5_ kz5_ k6_ kz6_ k7_ kz7_
  have R2 := R3
  have F0 := Aside0.mk f0
  have F1 := Aside0.mk f1
  have b0 := bb
  clear R3 f0 f1 bb
  have NE0 := Lib.hid (Kd.R_ne R2.out F0.out (by decide))
  have NE1 := Lib.hid (Kd.R_ne R2.out F1.out (by decide))
  obtain ⟨c0_, c1_, c2_, c3_, c4_, c5_, c6_, c7_⟩ := cells8 F0.out
  obtain ⟨cz0_, cz1_, cz2_, cz3_, cz4_, cz5_, cz6_, cz7_⟩ := froz8 F0.out
  obtain ⟨k0_, k1_, k2_, k3_, k4_, k5_, k6_, k7_⟩ := cells8 F1.out
  obtain ⟨kz0_, kz1_, kz2_, kz3_, kz4_, kz5_, kz6_, kz7_⟩ := froz8 F1.out
  go_wp2
  refine bodyPost_ret (v := .tuple #[.agg #[.string nm, .string m.f0.f0, .string m.f0.f1, .slice B0 m.f1.length d0, .slice B1 m.f2.length d1, .int .i64 6, .int .i64 pos, .slice P2 outs.length e2], .string (⟨#[81, 85, 73, 84]⟩)]) ?hr rfl ?hp
  case hr => simp [results, Tryz.results63, go_sem, c0_, c1_, c2_, c3_, c4_, c5_, c6_, c7_, k0_, k1_, k2_, k3_, k4_, k5_, k6_, k7_]
  case hp =>
    have ne0 := NE0.out
    have ne1 := NE1.out
    have hE0 : (Kd.int .i64).E = [] := rfl
    have RZ := R2.out
    exact ⟨P2, e2, rfl, by (with_reducible repeat (first | exact RZ | refine R_set ?_ hE0 ne0 | refine R_set ?_ hE0 ne1)), by (with_reducible repeat (first | exact b0 | refine bel_alloc ?_ _ | refine bel_set ?_ _ ?_ | refine blw_drewN ?_ _ | refine Below.drew ?_)); all_goals (first | (simp; done) | (simp; omega) | omega)⟩


set_option maxRecDepth 100000 in
set_option maxHeartbeats 4000000 in
theorem specStepF43_any (nm : ByteArray) (m : SMail) (pos : Int) (outs : List Int) (B0 : Option Addr) (d0 : Nat) (B1 : Option Addr) (d1 : Nat) (B2 : Option Addr) (d2 : Nat) (answer : ByteArray) (code : Int) (base : Nat) (w : World)
    (hm : fitMail m) (hnm : nm.size ≤ 1048576) (h0 : 0 ≤ pos) (h1 : pos ≤ (m.f1.length : Int)) (hl : outs.length ≤ 1048576) (hbase : base ≤ w.heap.size) (hc : ¬ code = 354) (h5 : ¬ 500 ≤ code) (hcode : ∀ W, Calls Tryz.prog 107 #[.string answer] W fun e w' => e = .returned (.int .i64 code) ∧ Below W.heap.size W w')
    (hr0 : Kd.C kAddr w B0 m.f1.length m.f1) (hr1 : Kd.C Kd.string w B1 m.f2.length m.f2) (u2 : Kd.R (Kd.int .i64) 3 w base (fun _ => True) (.slice B2 outs.length d2) outs) :
    Calls Tryz.prog 63 #[.agg #[.string nm, .string m.f0.f0, .string m.f0.f1, .slice B0 m.f1.length d0, .slice B1 m.f2.length d1, .int .i64 4, .int .i64 pos, .slice B2 outs.length d2], .string answer] w fun e w' => ∃ B d, e = .returned (.tuple #[.agg #[.string nm, .string m.f0.f0, .string m.f0.f1, .slice B0 m.f1.length d0, .slice B1 m.f2.length d1, .int .i64 6, .int .i64 pos, .slice B outs.length d], .string (⟨#[81, 85, 73, 84]⟩)]) ∧ Kd.R (Kd.int .i64) 3 w' base (fun _ => True) (.slice B outs.length d) (becomes 3 [0, 1] outs) ∧ Below w.heap.size w w' := by
  have HMM := Lib.hid hm
  have HR0 := Lib.hid hr0
  have HR1 := Lib.hid hr1
  have U2 := Lib.hid u2
  clear hm hr0 hr1 u2
  have hcb : (code == 354) = false := by simp [hc]
  obtain ⟨W0, hW0⟩ : ∃ W, W = (w.alloc (.cells #[.string nm, .string m.f0.f0, .string m.f0.f1, .slice B0 m.f1.length d0, .slice B1 m.f2.length d1, .int .i64 4, .int .i64 pos, .slice B2 outs.length d2] 31)).alloc (.cells #[.string ⟨#[]⟩, .string ⟨#[]⟩, .string ⟨#[]⟩, .slice none 0 0, .slice none 0 0, .int .i64 0, .int .i64 0, .slice none 0 0] 31) := ⟨_, rfl⟩
  have HF0 : Aside0 (W0.heap[w.heap.size]? = some (.cells #[.string nm, .string m.f0.f0, .string m.f0.f1, .slice B0 m.f1.length d0, .slice B1 m.f2.length d1, .int .i64 4, .int .i64 pos, .slice B2 outs.length d2] 31 (0, 0))) := ⟨by rw [hW0]; exact below_blk (blk_new _ _) (bel_alloc (Below.refl _ _) _)⟩
  have HF1 : Aside0 (W0.heap[w.heap.size + 1]? = some (.cells #[.string ⟨#[]⟩, .string ⟨#[]⟩, .string ⟨#[]⟩, .slice none 0 0, .slice none 0 0, .int .i64 0, .int .i64 0, .slice none 0 0] 31 (0, 0))) := ⟨by rw [hW0, show w.heap.size + 1 = (w.alloc (.cells #[.string nm, .string m.f0.f0, .string m.f0.f1, .slice B0 m.f1.length d0, .slice B1 m.f2.length d1, .int .i64 4, .int .i64 pos, .slice B2 outs.length d2] 31)).heap.size by simp]; exact blk_new _ _⟩
  have BL0 : Below w.heap.size w W0 := by rw [hW0]; exact bel_alloc (bel_alloc (Below.refl _ _) _) _
  have HW0 := Lib.hid hW0
  clear hW0
  have SB := Lib.hid (Nat.le_trans hbase BL0.size)
  go_enter Tryz.func63, Tryz.ntmps63
  go_wp2_with fail
  rw [← HW0.out]
  refine (hcode _).mono ?_
  rintro e w1 ⟨rfl, b1⟩
  have b0 := bel_then BL0 b1
  have F0 := Aside0.mk (below_blk HF0.out b1)
  have F1 := Aside0.mk (below_blk HF1.out b1)
  have R2 := Aside0.mk (Kd.R_below U2.out b0)
  have NE0 := Lib.hid (Kd.R_ne R2.out F0.out (by decide))
  have NE1 := Lib.hid (Kd.R_ne R2.out F1.out (by decide))
  clear b1 HF0 HF1 BL0 hcode
  obtain ⟨c0_, c1_, c2_, c3_, c4_, c5_, c6_, c7_⟩ := cells8 F0.out
  obtain ⟨cz0_, cz1_, cz2_, cz3_, cz4_, cz5_, cz6_, cz7_⟩ := froz8 F0.out
  obtain ⟨k0_, k1_, k2_, k3_, k4_, k5_, k6_, k7_⟩ := cells8 F1.out
  obtain ⟨kz0_, kz1_, kz2_, kz3_, kz4_, kz5_, kz6_, kz7_⟩ := froz8 F1.out
  go_wp2_with fail
  refine (specFail3_any nm m 4 pos outs B0 d0 B1 d1 B2 d2 code w1 hl (by omega) (Kd.R_reads' R2.out).2.2).mono ?_
  rintro e w2 ⟨P2, e2, rfl, r2, b2⟩
  have R3 := Aside0.mk (Kd.R_lower (base' := base) r2 (Nat.le_trans hbase b0.size))
  have f0 := below_blk F0.out b2
  have f1 := below_blk F1.out b2
  have bb := bel_then b0 b2
  clear R2 F0 F1 NE0 NE1 b0 r2 b2 c0_ cz0_ c1_ cz1_ c2_ cz2_ c3_ cz3_ c4_ cz4_ c5_ cz5_ c6_ cz6_ c7_ cz7_ k0_ kz0_ k1_ kz1_ k2_ kz2_ k3_ kz3_ k4_ kz4_ k5_ kz5_ k6_ kz6_ k7_ kz7_
  have R2 := R3
  have F0 := Aside0.mk f0
  have F1 := Aside0.mk f1
  have b0 := bb
  clear R3 f0 f1 bb
  have NE0 := Lib.hid (Kd.R_ne R2.out F0.out (by decide))
  have NE1 := Lib.hid (Kd.R_ne R2.out F1.out (by decide))
  obtain ⟨c0_, c1_, c2_, c3_, c4_, c5_, c6_, c7_⟩ := cells8 F0.out
  obtain ⟨cz0_, cz1_, cz2_, cz3_, cz4_, cz5_, cz6_, cz7_⟩ := froz8 F0.out
  obtain ⟨k0_, k1_, k2_, k3_, k4_, k5_, k6_, k7_⟩ := cells8 F1.out
  obtain ⟨kz0_, kz1_, kz2_, kz3_, kz4_, kz5_, kz6_, kz7_⟩ := froz8 F1.out
  go_wp2
  refine bodyPost_ret (v := .tuple #[.agg #[.string nm, .string m.f0.f0, .string m.f0.f1, .slice B0 m.f1.length d0, .slice B1 m.f2.length d1, .int .i64 6, .int .i64 pos, .slice P2 outs.length e2], .string (⟨#[81, 85, 73, 84]⟩)]) ?hr rfl ?hp
  case hr => simp [results, Tryz.results63, go_sem, c0_, c1_, c2_, c3_, c4_, c5_, c6_, c7_, k0_, k1_, k2_, k3_, k4_, k5_, k6_, k7_]
  case hp =>
    have ne0 := NE0.out
    have ne1 := NE1.out
    have hE0 : (Kd.int .i64).E = [] := rfl
    have RZ := R2.out
    exact ⟨P2, e2, rfl, by (with_reducible repeat (first | exact RZ | refine R_set ?_ hE0 ne0 | refine R_set ?_ hE0 ne1)), by (with_reducible repeat (first | exact b0 | refine bel_alloc ?_ _ | refine bel_set ?_ _ ?_ | refine blw_drewN ?_ _ | refine Below.drew ?_)); all_goals (first | (simp; done) | (simp; omega) | omega)⟩


set_option maxRecDepth 100000 in
set_option maxHeartbeats 4000000 in
theorem specStepF54_any (nm : ByteArray) (m : SMail) (pos : Int) (outs : List Int) (B0 : Option Addr) (d0 : Nat) (B1 : Option Addr) (d1 : Nat) (B2 : Option Addr) (d2 : Nat) (answer : ByteArray) (code : Int) (base : Nat) (w : World)
    (hm : fitMail m) (hnm : nm.size ≤ 1048576) (h0 : 0 ≤ pos) (h1 : pos ≤ (m.f1.length : Int)) (hl : outs.length ≤ 1048576) (hbase : base ≤ w.heap.size) (hc : ¬ code = 250) (h5 : 500 ≤ code) (hcode : ∀ W, Calls Tryz.prog 107 #[.string answer] W fun e w' => e = .returned (.int .i64 code) ∧ Below W.heap.size W w')
    (hr0 : Kd.C kAddr w B0 m.f1.length m.f1) (hr1 : Kd.C Kd.string w B1 m.f2.length m.f2) (u2 : Kd.R (Kd.int .i64) 3 w base (fun _ => True) (.slice B2 outs.length d2) outs) :
    Calls Tryz.prog 63 #[.agg #[.string nm, .string m.f0.f0, .string m.f0.f1, .slice B0 m.f1.length d0, .slice B1 m.f2.length d1, .int .i64 5, .int .i64 pos, .slice B2 outs.length d2], .string answer] w fun e w' => ∃ B d, e = .returned (.tuple #[.agg #[.string nm, .string m.f0.f0, .string m.f0.f1, .slice B0 m.f1.length d0, .slice B1 m.f2.length d1, .int .i64 6, .int .i64 pos, .slice B outs.length d], .string (⟨#[81, 85, 73, 84]⟩)]) ∧ Kd.R (Kd.int .i64) 3 w' base (fun _ => True) (.slice B outs.length d) (becomes 4 [0, 1] outs) ∧ Below w.heap.size w w' := by
  have HMM := Lib.hid hm
  have HR0 := Lib.hid hr0
  have HR1 := Lib.hid hr1
  have U2 := Lib.hid u2
  clear hm hr0 hr1 u2
  have hcb : (code == 250) = false := by simp [hc]
  obtain ⟨W0, hW0⟩ : ∃ W, W = (w.alloc (.cells #[.string nm, .string m.f0.f0, .string m.f0.f1, .slice B0 m.f1.length d0, .slice B1 m.f2.length d1, .int .i64 5, .int .i64 pos, .slice B2 outs.length d2] 31)).alloc (.cells #[.string ⟨#[]⟩, .string ⟨#[]⟩, .string ⟨#[]⟩, .slice none 0 0, .slice none 0 0, .int .i64 0, .int .i64 0, .slice none 0 0] 31) := ⟨_, rfl⟩
  have HF0 : Aside0 (W0.heap[w.heap.size]? = some (.cells #[.string nm, .string m.f0.f0, .string m.f0.f1, .slice B0 m.f1.length d0, .slice B1 m.f2.length d1, .int .i64 5, .int .i64 pos, .slice B2 outs.length d2] 31 (0, 0))) := ⟨by rw [hW0]; exact below_blk (blk_new _ _) (bel_alloc (Below.refl _ _) _)⟩
  have HF1 : Aside0 (W0.heap[w.heap.size + 1]? = some (.cells #[.string ⟨#[]⟩, .string ⟨#[]⟩, .string ⟨#[]⟩, .slice none 0 0, .slice none 0 0, .int .i64 0, .int .i64 0, .slice none 0 0] 31 (0, 0))) := ⟨by rw [hW0, show w.heap.size + 1 = (w.alloc (.cells #[.string nm, .string m.f0.f0, .string m.f0.f1, .slice B0 m.f1.length d0, .slice B1 m.f2.length d1, .int .i64 5, .int .i64 pos, .slice B2 outs.length d2] 31)).heap.size by simp]; exact blk_new _ _⟩
  have BL0 : Below w.heap.size w W0 := by rw [hW0]; exact bel_alloc (bel_alloc (Below.refl _ _) _) _
  have HW0 := Lib.hid hW0
  clear hW0
  have SB := Lib.hid (Nat.le_trans hbase BL0.size)
  go_enter Tryz.func63, Tryz.ntmps63
  go_wp2_with fail
  rw [← HW0.out]
  refine (hcode _).mono ?_
  rintro e w1 ⟨rfl, b1⟩
  have b0 := bel_then BL0 b1
  have F0 := Aside0.mk (below_blk HF0.out b1)
  have F1 := Aside0.mk (below_blk HF1.out b1)
  have R2 := Aside0.mk (Kd.R_below U2.out b0)
  have NE0 := Lib.hid (Kd.R_ne R2.out F0.out (by decide))
  have NE1 := Lib.hid (Kd.R_ne R2.out F1.out (by decide))
  clear b1 HF0 HF1 BL0 hcode
  obtain ⟨c0_, c1_, c2_, c3_, c4_, c5_, c6_, c7_⟩ := cells8 F0.out
  obtain ⟨cz0_, cz1_, cz2_, cz3_, cz4_, cz5_, cz6_, cz7_⟩ := froz8 F0.out
  obtain ⟨k0_, k1_, k2_, k3_, k4_, k5_, k6_, k7_⟩ := cells8 F1.out
  obtain ⟨kz0_, kz1_, kz2_, kz3_, kz4_, kz5_, kz6_, kz7_⟩ := froz8 F1.out
  go_wp2_with fail
  refine (specFail4_any nm m 5 pos outs B0 d0 B1 d1 B2 d2 code w1 hl (by omega) (Kd.R_reads' R2.out).2.2).mono ?_
  rintro e w2 ⟨P2, e2, rfl, r2, b2⟩
  have R3 := Aside0.mk (Kd.R_lower (base' := base) r2 (Nat.le_trans hbase b0.size))
  have f0 := below_blk F0.out b2
  have f1 := below_blk F1.out b2
  have bb := bel_then b0 b2
  clear R2 F0 F1 NE0 NE1 b0 r2 b2 c0_ cz0_ c1_ cz1_ c2_ cz2_ c3_ cz3_ c4_ cz4_ c5_ cz5_ c6_ cz6_ c7_ cz7_ k0_ kz0_ k1_ kz1_ k2_ kz2_ k3_ kz3_ k4_ kz4_ k5_ kz5_ k6_ kz6_ k7_ kz7_
  have R2 := R3
  have F0 := Aside0.mk f0
  have F1 := Aside0.mk f1
  have b0 := bb
  clear R3 f0 f1 bb
  have NE0 := Lib.hid (Kd.R_ne R2.out F0.out (by decide))
  have NE1 := Lib.hid (Kd.R_ne R2.out F1.out (by decide))
  obtain ⟨c0_, c1_, c2_, c3_, c4_, c5_, c6_, c7_⟩ := cells8 F0.out
  obtain ⟨cz0_, cz1_, cz2_, cz3_, cz4_, cz5_, cz6_, cz7_⟩ := froz8 F0.out
  obtain ⟨k0_, k1_, k2_, k3_, k4_, k5_, k6_, k7_⟩ := cells8 F1.out
  obtain ⟨kz0_, kz1_, kz2_, kz3_, kz4_, kz5_, kz6_, kz7_⟩ := froz8 F1.out
  go_wp2
  refine bodyPost_ret (v := .tuple #[.agg #[.string nm, .string m.f0.f0, .string m.f0.f1, .slice B0 m.f1.length d0, .slice B1 m.f2.length d1, .int .i64 6, .int .i64 pos, .slice P2 outs.length e2], .string (⟨#[81, 85, 73, 84]⟩)]) ?hr rfl ?hp
  case hr => simp [results, Tryz.results63, go_sem, c0_, c1_, c2_, c3_, c4_, c5_, c6_, c7_, k0_, k1_, k2_, k3_, k4_, k5_, k6_, k7_]
  case hp =>
    have ne0 := NE0.out
    have ne1 := NE1.out
    have hE0 : (Kd.int .i64).E = [] := rfl
    have RZ := R2.out
    exact ⟨P2, e2, rfl, by (with_reducible repeat (first | exact RZ | refine R_set ?_ hE0 ne0 | refine R_set ?_ hE0 ne1)), by (with_reducible repeat (first | exact b0 | refine bel_alloc ?_ _ | refine bel_set ?_ _ ?_ | refine blw_drewN ?_ _ | refine Below.drew ?_)); all_goals (first | (simp; done) | (simp; omega) | omega)⟩


set_option maxRecDepth 100000 in
set_option maxHeartbeats 4000000 in
theorem specStepF53_any (nm : ByteArray) (m : SMail) (pos : Int) (outs : List Int) (B0 : Option Addr) (d0 : Nat) (B1 : Option Addr) (d1 : Nat) (B2 : Option Addr) (d2 : Nat) (answer : ByteArray) (code : Int) (base : Nat) (w : World)
    (hm : fitMail m) (hnm : nm.size ≤ 1048576) (h0 : 0 ≤ pos) (h1 : pos ≤ (m.f1.length : Int)) (hl : outs.length ≤ 1048576) (hbase : base ≤ w.heap.size) (hc : ¬ code = 250) (h5 : ¬ 500 ≤ code) (hcode : ∀ W, Calls Tryz.prog 107 #[.string answer] W fun e w' => e = .returned (.int .i64 code) ∧ Below W.heap.size W w')
    (hr0 : Kd.C kAddr w B0 m.f1.length m.f1) (hr1 : Kd.C Kd.string w B1 m.f2.length m.f2) (u2 : Kd.R (Kd.int .i64) 3 w base (fun _ => True) (.slice B2 outs.length d2) outs) :
    Calls Tryz.prog 63 #[.agg #[.string nm, .string m.f0.f0, .string m.f0.f1, .slice B0 m.f1.length d0, .slice B1 m.f2.length d1, .int .i64 5, .int .i64 pos, .slice B2 outs.length d2], .string answer] w fun e w' => ∃ B d, e = .returned (.tuple #[.agg #[.string nm, .string m.f0.f0, .string m.f0.f1, .slice B0 m.f1.length d0, .slice B1 m.f2.length d1, .int .i64 6, .int .i64 pos, .slice B outs.length d], .string (⟨#[81, 85, 73, 84]⟩)]) ∧ Kd.R (Kd.int .i64) 3 w' base (fun _ => True) (.slice B outs.length d) (becomes 3 [0, 1] outs) ∧ Below w.heap.size w w' := by
  have HMM := Lib.hid hm
  have HR0 := Lib.hid hr0
  have HR1 := Lib.hid hr1
  have U2 := Lib.hid u2
  clear hm hr0 hr1 u2
  have hcb : (code == 250) = false := by simp [hc]
  obtain ⟨W0, hW0⟩ : ∃ W, W = (w.alloc (.cells #[.string nm, .string m.f0.f0, .string m.f0.f1, .slice B0 m.f1.length d0, .slice B1 m.f2.length d1, .int .i64 5, .int .i64 pos, .slice B2 outs.length d2] 31)).alloc (.cells #[.string ⟨#[]⟩, .string ⟨#[]⟩, .string ⟨#[]⟩, .slice none 0 0, .slice none 0 0, .int .i64 0, .int .i64 0, .slice none 0 0] 31) := ⟨_, rfl⟩
  have HF0 : Aside0 (W0.heap[w.heap.size]? = some (.cells #[.string nm, .string m.f0.f0, .string m.f0.f1, .slice B0 m.f1.length d0, .slice B1 m.f2.length d1, .int .i64 5, .int .i64 pos, .slice B2 outs.length d2] 31 (0, 0))) := ⟨by rw [hW0]; exact below_blk (blk_new _ _) (bel_alloc (Below.refl _ _) _)⟩
  have HF1 : Aside0 (W0.heap[w.heap.size + 1]? = some (.cells #[.string ⟨#[]⟩, .string ⟨#[]⟩, .string ⟨#[]⟩, .slice none 0 0, .slice none 0 0, .int .i64 0, .int .i64 0, .slice none 0 0] 31 (0, 0))) := ⟨by rw [hW0, show w.heap.size + 1 = (w.alloc (.cells #[.string nm, .string m.f0.f0, .string m.f0.f1, .slice B0 m.f1.length d0, .slice B1 m.f2.length d1, .int .i64 5, .int .i64 pos, .slice B2 outs.length d2] 31)).heap.size by simp]; exact blk_new _ _⟩
  have BL0 : Below w.heap.size w W0 := by rw [hW0]; exact bel_alloc (bel_alloc (Below.refl _ _) _) _
  have HW0 := Lib.hid hW0
  clear hW0
  have SB := Lib.hid (Nat.le_trans hbase BL0.size)
  go_enter Tryz.func63, Tryz.ntmps63
  go_wp2_with fail
  rw [← HW0.out]
  refine (hcode _).mono ?_
  rintro e w1 ⟨rfl, b1⟩
  have b0 := bel_then BL0 b1
  have F0 := Aside0.mk (below_blk HF0.out b1)
  have F1 := Aside0.mk (below_blk HF1.out b1)
  have R2 := Aside0.mk (Kd.R_below U2.out b0)
  have NE0 := Lib.hid (Kd.R_ne R2.out F0.out (by decide))
  have NE1 := Lib.hid (Kd.R_ne R2.out F1.out (by decide))
  clear b1 HF0 HF1 BL0 hcode
  obtain ⟨c0_, c1_, c2_, c3_, c4_, c5_, c6_, c7_⟩ := cells8 F0.out
  obtain ⟨cz0_, cz1_, cz2_, cz3_, cz4_, cz5_, cz6_, cz7_⟩ := froz8 F0.out
  obtain ⟨k0_, k1_, k2_, k3_, k4_, k5_, k6_, k7_⟩ := cells8 F1.out
  obtain ⟨kz0_, kz1_, kz2_, kz3_, kz4_, kz5_, kz6_, kz7_⟩ := froz8 F1.out
  go_wp2_with fail
  refine (specFail3_any nm m 5 pos outs B0 d0 B1 d1 B2 d2 code w1 hl (by omega) (Kd.R_reads' R2.out).2.2).mono ?_
  rintro e w2 ⟨P2, e2, rfl, r2, b2⟩
  have R3 := Aside0.mk (Kd.R_lower (base' := base) r2 (Nat.le_trans hbase b0.size))
  have f0 := below_blk F0.out b2
  have f1 := below_blk F1.out b2
  have bb := bel_then b0 b2
  clear R2 F0 F1 NE0 NE1 b0 r2 b2 c0_ cz0_ c1_ cz1_ c2_ cz2_ c3_ cz3_ c4_ cz4_ c5_ cz5_ c6_ cz6_ c7_ cz7_ k0_ kz0_ k1_ kz1_ k2_ kz2_ k3_ kz3_ k4_ kz4_ k5_ kz5_ k6_ kz6_ k7_ kz7_
  have R2 := R3
  have F0 := Aside0.mk f0
  have F1 := Aside0.mk f1
  have b0 := bb
  clear R3 f0 f1 bb
  have NE0 := Lib.hid (Kd.R_ne R2.out F0.out (by decide))
  have NE1 := Lib.hid (Kd.R_ne R2.out F1.out (by decide))
  obtain ⟨c0_, c1_, c2_, c3_, c4_, c5_, c6_, c7_⟩ := cells8 F0.out
  obtain ⟨cz0_, cz1_, cz2_, cz3_, cz4_, cz5_, cz6_, cz7_⟩ := froz8 F0.out
  obtain ⟨k0_, k1_, k2_, k3_, k4_, k5_, k6_, k7_⟩ := cells8 F1.out
  obtain ⟨kz0_, kz1_, kz2_, kz3_, kz4_, kz5_, kz6_, kz7_⟩ := froz8 F1.out
  go_wp2
  refine bodyPost_ret (v := .tuple #[.agg #[.string nm, .string m.f0.f0, .string m.f0.f1, .slice B0 m.f1.length d0, .slice B1 m.f2.length d1, .int .i64 6, .int .i64 pos, .slice P2 outs.length e2], .string (⟨#[81, 85, 73, 84]⟩)]) ?hr rfl ?hp
  case hr => simp [results, Tryz.results63, go_sem, c0_, c1_, c2_, c3_, c4_, c5_, c6_, c7_, k0_, k1_, k2_, k3_, k4_, k5_, k6_, k7_]
  case hp =>
    have ne0 := NE0.out
    have ne1 := NE1.out
    have hE0 : (Kd.int .i64).E = [] := rfl
    have RZ := R2.out
    exact ⟨P2, e2, rfl, by (with_reducible repeat (first | exact RZ | refine R_set ?_ hE0 ne0 | refine R_set ?_ hE0 ne1)), by (with_reducible repeat (first | exact b0 | refine bel_alloc ?_ _ | refine bel_set ?_ _ ?_ | refine blw_drewN ?_ _ | refine Below.drew ?_)); all_goals (first | (simp; done) | (simp; omega) | omega)⟩


set_option maxRecDepth 100000 in
set_option maxHeartbeats 4000000 in
theorem specStep31_any (nm : ByteArray) (m : SMail) (k : Nat) (outs : List Int) (B0 : Option Addr) (d0 : Nat) (B1 : Option Addr) (d1 : Nat) (B2 : Option Addr) (d2 : Nat) (answer : ByteArray) (code : Int) (base : Nat) (w : World)
    (hm : fitMail m) (hnm : nm.size ≤ 1048576) (h0 : 0 ≤ ((k : Int) + 1)) (h1 : ((k : Int) + 1) ≤ (m.f1.length : Int)) (hl : outs.length ≤ 1048576) (hbase : base ≤ w.heap.size) (hkl : k < outs.length) (hc : code = 250) (hcode : ∀ W, Calls Tryz.prog 107 #[.string answer] W fun e w' => e = .returned (.int .i64 code) ∧ Below W.heap.size W w')
    (hr0 : Kd.C kAddr w B0 m.f1.length m.f1) (hr1 : Kd.C Kd.string w B1 m.f2.length m.f2) (u2 : Kd.R (Kd.int .i64) 3 w base (fun _ => True) (.slice B2 outs.length d2) outs) :
    Calls Tryz.prog 63 #[.agg #[.string nm, .string m.f0.f0, .string m.f0.f1, .slice B0 m.f1.length d0, .slice B1 m.f2.length d1, .int .i64 3, .int .i64 ((k : Int) + 1), .slice B2 outs.length d2], .string answer] w fun e w' => ∃ B d, e = .returned (.tuple #[.agg #[.string nm, .string m.f0.f0, .string m.f0.f1, .slice B0 m.f1.length d0, .slice B1 m.f2.length d1, .int .i64 (nextC ⟨nm, m, 3, ((k : Int) + 1), (outs.set k 1)⟩).1.f2, .int .i64 (nextC ⟨nm, m, 3, ((k : Int) + 1), (outs.set k 1)⟩).1.f3, .slice B outs.length d], .string ((nextC ⟨nm, m, 3, ((k : Int) + 1), (outs.set k 1)⟩).2)]) ∧ Kd.R (Kd.int .i64) 3 w' base (fun _ => True) (.slice B outs.length d) (outs.set k 1) ∧ Below w.heap.size w w' := by
  have HMM := Lib.hid hm
  have HR0 := Lib.hid hr0
  have HR1 := Lib.hid hr1
  have U2 := Lib.hid u2
  clear hm hr0 hr1 u2
  generalize hN : (nextC ⟨nm, m, 3, ((k : Int) + 1), (outs.set k 1)⟩) = N
  have HNX := Lib.hid hN
  clear hN
  subst hc
  obtain ⟨W0, hW0⟩ : ∃ W, W = (w.alloc (.cells #[.string nm, .string m.f0.f0, .string m.f0.f1, .slice B0 m.f1.length d0, .slice B1 m.f2.length d1, .int .i64 3, .int .i64 ((k : Int) + 1), .slice B2 outs.length d2] 31)).alloc (.cells #[.string ⟨#[]⟩, .string ⟨#[]⟩, .string ⟨#[]⟩, .slice none 0 0, .slice none 0 0, .int .i64 0, .int .i64 0, .slice none 0 0] 31) := ⟨_, rfl⟩
  have HF0 : Aside0 (W0.heap[w.heap.size]? = some (.cells #[.string nm, .string m.f0.f0, .string m.f0.f1, .slice B0 m.f1.length d0, .slice B1 m.f2.length d1, .int .i64 3, .int .i64 ((k : Int) + 1), .slice B2 outs.length d2] 31 (0, 0))) := ⟨by rw [hW0]; exact below_blk (blk_new _ _) (bel_alloc (Below.refl _ _) _)⟩
  have HF1 : Aside0 (W0.heap[w.heap.size + 1]? = some (.cells #[.string ⟨#[]⟩, .string ⟨#[]⟩, .string ⟨#[]⟩, .slice none 0 0, .slice none 0 0, .int .i64 0, .int .i64 0, .slice none 0 0] 31 (0, 0))) := ⟨by rw [hW0, show w.heap.size + 1 = (w.alloc (.cells #[.string nm, .string m.f0.f0, .string m.f0.f1, .slice B0 m.f1.length d0, .slice B1 m.f2.length d1, .int .i64 3, .int .i64 ((k : Int) + 1), .slice B2 outs.length d2] 31)).heap.size by simp]; exact blk_new _ _⟩
  have BL0 : Below w.heap.size w W0 := by rw [hW0]; exact bel_alloc (bel_alloc (Below.refl _ _) _) _
  have HW0 := Lib.hid hW0
  clear hW0
  have SB := Lib.hid (Nat.le_trans hbase BL0.size)
  go_enter Tryz.func63, Tryz.ntmps63
  go_wp2_with fail
  rw [← HW0.out]
  refine (hcode _).mono ?_
  rintro e w1 ⟨rfl, b1⟩
  have b0 := bel_then BL0 b1
  have F0 := Aside0.mk (below_blk HF0.out b1)
  have F1 := Aside0.mk (below_blk HF1.out b1)
  have R2 := Aside0.mk (Kd.R_below U2.out b0)
  have NE0 := Lib.hid (Kd.R_ne R2.out F0.out (by decide))
  have NE1 := Lib.hid (Kd.R_ne R2.out F1.out (by decide))
  clear b1 HF0 HF1 BL0 hcode
  obtain ⟨c0_, c1_, c2_, c3_, c4_, c5_, c6_, c7_⟩ := cells8 F0.out
  obtain ⟨cz0_, cz1_, cz2_, cz3_, cz4_, cz5_, cz6_, cz7_⟩ := froz8 F0.out
  obtain ⟨k0_, k1_, k2_, k3_, k4_, k5_, k6_, k7_⟩ := cells8 F1.out
  obtain ⟨kz0_, kz1_, kz2_, kz3_, kz4_, kz5_, kz6_, kz7_⟩ := froz8 F1.out
  have hto := specTo1_any nm m outs B0 d0 B1 d1 B2 d2 250 k w1 HMM.out h0 h1 hl hkl rfl (Kd.C_below HR0.out b0) (Kd.R_reads' R2.out).2.2
  rw [HNX.out] at hto
  go_wp2_with fail
  refine hto.mono ?_
  rintro e w2 ⟨P2, e2, rfl, r2, b2⟩
  have R3 := Aside0.mk (Kd.R_lower (base' := base) r2 (Nat.le_trans hbase b0.size))
  have f0 := below_blk F0.out b2
  have f1 := below_blk F1.out b2
  have bb := bel_then b0 b2
  clear hto R2 F0 F1 NE0 NE1 b0 r2 b2 c0_ cz0_ c1_ cz1_ c2_ cz2_ c3_ cz3_ c4_ cz4_ c5_ cz5_ c6_ cz6_ c7_ cz7_ k0_ kz0_ k1_ kz1_ k2_ kz2_ k3_ kz3_ k4_ kz4_ k5_ kz5_ k6_ kz6_ k7_ kz7_
  have R2 := R3
  have F0 := Aside0.mk f0
  have F1 := Aside0.mk f1
  have b0 := bb
  clear R3 f0 f1 bb
  have NE0 := Lib.hid (Kd.R_ne R2.out F0.out (by decide))
  have NE1 := Lib.hid (Kd.R_ne R2.out F1.out (by decide))
  obtain ⟨c0_, c1_, c2_, c3_, c4_, c5_, c6_, c7_⟩ := cells8 F0.out
  obtain ⟨cz0_, cz1_, cz2_, cz3_, cz4_, cz5_, cz6_, cz7_⟩ := froz8 F0.out
  obtain ⟨k0_, k1_, k2_, k3_, k4_, k5_, k6_, k7_⟩ := cells8 F1.out
  obtain ⟨kz0_, kz1_, kz2_, kz3_, kz4_, kz5_, kz6_, kz7_⟩ := froz8 F1.out
  go_wp2
  refine bodyPost_ret (v := .tuple #[.agg #[.string nm, .string m.f0.f0, .string m.f0.f1, .slice B0 m.f1.length d0, .slice B1 m.f2.length d1, .int .i64 N.1.f2, .int .i64 N.1.f3, .slice P2 outs.length e2], .string (N.2)]) ?hr rfl ?hp
  case hr => simp [results, Tryz.results63, go_sem, c0_, c1_, c2_, c3_, c4_, c5_, c6_, c7_, k0_, k1_, k2_, k3_, k4_, k5_, k6_, k7_]
  case hp =>
    have ne0 := NE0.out
    have ne1 := NE1.out
    have hE0 : (Kd.int .i64).E = [] := rfl
    have RZ := R2.out
    exact ⟨P2, e2, rfl, by (with_reducible repeat (first | exact RZ | refine R_set ?_ hE0 ne0 | refine R_set ?_ hE0 ne1)), by (with_reducible repeat (first | exact b0 | refine bel_alloc ?_ _ | refine bel_set ?_ _ ?_ | refine blw_drewN ?_ _ | refine Below.drew ?_)); all_goals (first | (simp; done) | (simp; omega) | omega)⟩


set_option maxRecDepth 100000 in
set_option maxHeartbeats 4000000 in
theorem specStep34_any (nm : ByteArray) (m : SMail) (k : Nat) (outs : List Int) (B0 : Option Addr) (d0 : Nat) (B1 : Option Addr) (d1 : Nat) (B2 : Option Addr) (d2 : Nat) (answer : ByteArray) (code : Int) (base : Nat) (w : World)
    (hm : fitMail m) (hnm : nm.size ≤ 1048576) (h0 : 0 ≤ ((k : Int) + 1)) (h1 : ((k : Int) + 1) ≤ (m.f1.length : Int)) (hl : outs.length ≤ 1048576) (hbase : base ≤ w.heap.size) (hkl : k < outs.length) (hc : ¬ code = 250) (h5 : 500 ≤ code) (hcode : ∀ W, Calls Tryz.prog 107 #[.string answer] W fun e w' => e = .returned (.int .i64 code) ∧ Below W.heap.size W w')
    (hr0 : Kd.C kAddr w B0 m.f1.length m.f1) (hr1 : Kd.C Kd.string w B1 m.f2.length m.f2) (u2 : Kd.R (Kd.int .i64) 3 w base (fun _ => True) (.slice B2 outs.length d2) outs) :
    Calls Tryz.prog 63 #[.agg #[.string nm, .string m.f0.f0, .string m.f0.f1, .slice B0 m.f1.length d0, .slice B1 m.f2.length d1, .int .i64 3, .int .i64 ((k : Int) + 1), .slice B2 outs.length d2], .string answer] w fun e w' => ∃ B d, e = .returned (.tuple #[.agg #[.string nm, .string m.f0.f0, .string m.f0.f1, .slice B0 m.f1.length d0, .slice B1 m.f2.length d1, .int .i64 (nextC ⟨nm, m, 3, ((k : Int) + 1), (outs.set k 4)⟩).1.f2, .int .i64 (nextC ⟨nm, m, 3, ((k : Int) + 1), (outs.set k 4)⟩).1.f3, .slice B outs.length d], .string ((nextC ⟨nm, m, 3, ((k : Int) + 1), (outs.set k 4)⟩).2)]) ∧ Kd.R (Kd.int .i64) 3 w' base (fun _ => True) (.slice B outs.length d) (outs.set k 4) ∧ Below w.heap.size w w' := by
  have HMM := Lib.hid hm
  have HR0 := Lib.hid hr0
  have HR1 := Lib.hid hr1
  have U2 := Lib.hid u2
  clear hm hr0 hr1 u2
  generalize hN : (nextC ⟨nm, m, 3, ((k : Int) + 1), (outs.set k 4)⟩) = N
  have HNX := Lib.hid hN
  clear hN
  obtain ⟨W0, hW0⟩ : ∃ W, W = (w.alloc (.cells #[.string nm, .string m.f0.f0, .string m.f0.f1, .slice B0 m.f1.length d0, .slice B1 m.f2.length d1, .int .i64 3, .int .i64 ((k : Int) + 1), .slice B2 outs.length d2] 31)).alloc (.cells #[.string ⟨#[]⟩, .string ⟨#[]⟩, .string ⟨#[]⟩, .slice none 0 0, .slice none 0 0, .int .i64 0, .int .i64 0, .slice none 0 0] 31) := ⟨_, rfl⟩
  have HF0 : Aside0 (W0.heap[w.heap.size]? = some (.cells #[.string nm, .string m.f0.f0, .string m.f0.f1, .slice B0 m.f1.length d0, .slice B1 m.f2.length d1, .int .i64 3, .int .i64 ((k : Int) + 1), .slice B2 outs.length d2] 31 (0, 0))) := ⟨by rw [hW0]; exact below_blk (blk_new _ _) (bel_alloc (Below.refl _ _) _)⟩
  have HF1 : Aside0 (W0.heap[w.heap.size + 1]? = some (.cells #[.string ⟨#[]⟩, .string ⟨#[]⟩, .string ⟨#[]⟩, .slice none 0 0, .slice none 0 0, .int .i64 0, .int .i64 0, .slice none 0 0] 31 (0, 0))) := ⟨by rw [hW0, show w.heap.size + 1 = (w.alloc (.cells #[.string nm, .string m.f0.f0, .string m.f0.f1, .slice B0 m.f1.length d0, .slice B1 m.f2.length d1, .int .i64 3, .int .i64 ((k : Int) + 1), .slice B2 outs.length d2] 31)).heap.size by simp]; exact blk_new _ _⟩
  have BL0 : Below w.heap.size w W0 := by rw [hW0]; exact bel_alloc (bel_alloc (Below.refl _ _) _) _
  have HW0 := Lib.hid hW0
  clear hW0
  have SB := Lib.hid (Nat.le_trans hbase BL0.size)
  go_enter Tryz.func63, Tryz.ntmps63
  go_wp2_with fail
  rw [← HW0.out]
  refine (hcode _).mono ?_
  rintro e w1 ⟨rfl, b1⟩
  have b0 := bel_then BL0 b1
  have F0 := Aside0.mk (below_blk HF0.out b1)
  have F1 := Aside0.mk (below_blk HF1.out b1)
  have R2 := Aside0.mk (Kd.R_below U2.out b0)
  have NE0 := Lib.hid (Kd.R_ne R2.out F0.out (by decide))
  have NE1 := Lib.hid (Kd.R_ne R2.out F1.out (by decide))
  clear b1 HF0 HF1 BL0 hcode
  obtain ⟨c0_, c1_, c2_, c3_, c4_, c5_, c6_, c7_⟩ := cells8 F0.out
  obtain ⟨cz0_, cz1_, cz2_, cz3_, cz4_, cz5_, cz6_, cz7_⟩ := froz8 F0.out
  obtain ⟨k0_, k1_, k2_, k3_, k4_, k5_, k6_, k7_⟩ := cells8 F1.out
  obtain ⟨kz0_, kz1_, kz2_, kz3_, kz4_, kz5_, kz6_, kz7_⟩ := froz8 F1.out
  have hto := specTo4_any nm m outs B0 d0 B1 d1 B2 d2 code k w1 HMM.out h0 h1 hl hkl (by omega) (by omega) (Kd.C_below HR0.out b0) (Kd.R_reads' R2.out).2.2
  rw [HNX.out] at hto
  go_wp2_with fail
  refine hto.mono ?_
  rintro e w2 ⟨P2, e2, rfl, r2, b2⟩
  have R3 := Aside0.mk (Kd.R_lower (base' := base) r2 (Nat.le_trans hbase b0.size))
  have f0 := below_blk F0.out b2
  have f1 := below_blk F1.out b2
  have bb := bel_then b0 b2
  clear hto R2 F0 F1 NE0 NE1 b0 r2 b2 c0_ cz0_ c1_ cz1_ c2_ cz2_ c3_ cz3_ c4_ cz4_ c5_ cz5_ c6_ cz6_ c7_ cz7_ k0_ kz0_ k1_ kz1_ k2_ kz2_ k3_ kz3_ k4_ kz4_ k5_ kz5_ k6_ kz6_ k7_ kz7_
  have R2 := R3
  have F0 := Aside0.mk f0
  have F1 := Aside0.mk f1
  have b0 := bb
  clear R3 f0 f1 bb
  have NE0 := Lib.hid (Kd.R_ne R2.out F0.out (by decide))
  have NE1 := Lib.hid (Kd.R_ne R2.out F1.out (by decide))
  obtain ⟨c0_, c1_, c2_, c3_, c4_, c5_, c6_, c7_⟩ := cells8 F0.out
  obtain ⟨cz0_, cz1_, cz2_, cz3_, cz4_, cz5_, cz6_, cz7_⟩ := froz8 F0.out
  obtain ⟨k0_, k1_, k2_, k3_, k4_, k5_, k6_, k7_⟩ := cells8 F1.out
  obtain ⟨kz0_, kz1_, kz2_, kz3_, kz4_, kz5_, kz6_, kz7_⟩ := froz8 F1.out
  go_wp2
  refine bodyPost_ret (v := .tuple #[.agg #[.string nm, .string m.f0.f0, .string m.f0.f1, .slice B0 m.f1.length d0, .slice B1 m.f2.length d1, .int .i64 N.1.f2, .int .i64 N.1.f3, .slice P2 outs.length e2], .string (N.2)]) ?hr rfl ?hp
  case hr => simp [results, Tryz.results63, go_sem, c0_, c1_, c2_, c3_, c4_, c5_, c6_, c7_, k0_, k1_, k2_, k3_, k4_, k5_, k6_, k7_]
  case hp =>
    have ne0 := NE0.out
    have ne1 := NE1.out
    have hE0 : (Kd.int .i64).E = [] := rfl
    have RZ := R2.out
    exact ⟨P2, e2, rfl, by (with_reducible repeat (first | exact RZ | refine R_set ?_ hE0 ne0 | refine R_set ?_ hE0 ne1)), by (with_reducible repeat (first | exact b0 | refine bel_alloc ?_ _ | refine bel_set ?_ _ ?_ | refine blw_drewN ?_ _ | refine Below.drew ?_)); all_goals (first | (simp; done) | (simp; omega) | omega)⟩


set_option maxRecDepth 100000 in
set_option maxHeartbeats 4000000 in
theorem specStep33_any (nm : ByteArray) (m : SMail) (k : Nat) (outs : List Int) (B0 : Option Addr) (d0 : Nat) (B1 : Option Addr) (d1 : Nat) (B2 : Option Addr) (d2 : Nat) (answer : ByteArray) (code : Int) (base : Nat) (w : World)
    (hm : fitMail m) (hnm : nm.size ≤ 1048576) (h0 : 0 ≤ ((k : Int) + 1)) (h1 : ((k : Int) + 1) ≤ (m.f1.length : Int)) (hl : outs.length ≤ 1048576) (hbase : base ≤ w.heap.size) (hkl : k < outs.length) (hc : ¬ code = 250) (h5 : ¬ 500 ≤ code) (hcode : ∀ W, Calls Tryz.prog 107 #[.string answer] W fun e w' => e = .returned (.int .i64 code) ∧ Below W.heap.size W w')
    (hr0 : Kd.C kAddr w B0 m.f1.length m.f1) (hr1 : Kd.C Kd.string w B1 m.f2.length m.f2) (u2 : Kd.R (Kd.int .i64) 3 w base (fun _ => True) (.slice B2 outs.length d2) outs) :
    Calls Tryz.prog 63 #[.agg #[.string nm, .string m.f0.f0, .string m.f0.f1, .slice B0 m.f1.length d0, .slice B1 m.f2.length d1, .int .i64 3, .int .i64 ((k : Int) + 1), .slice B2 outs.length d2], .string answer] w fun e w' => ∃ B d, e = .returned (.tuple #[.agg #[.string nm, .string m.f0.f0, .string m.f0.f1, .slice B0 m.f1.length d0, .slice B1 m.f2.length d1, .int .i64 (nextC ⟨nm, m, 3, ((k : Int) + 1), (outs.set k 3)⟩).1.f2, .int .i64 (nextC ⟨nm, m, 3, ((k : Int) + 1), (outs.set k 3)⟩).1.f3, .slice B outs.length d], .string ((nextC ⟨nm, m, 3, ((k : Int) + 1), (outs.set k 3)⟩).2)]) ∧ Kd.R (Kd.int .i64) 3 w' base (fun _ => True) (.slice B outs.length d) (outs.set k 3) ∧ Below w.heap.size w w' := by
  have HMM := Lib.hid hm
  have HR0 := Lib.hid hr0
  have HR1 := Lib.hid hr1
  have U2 := Lib.hid u2
  clear hm hr0 hr1 u2
  generalize hN : (nextC ⟨nm, m, 3, ((k : Int) + 1), (outs.set k 3)⟩) = N
  have HNX := Lib.hid hN
  clear hN
  obtain ⟨W0, hW0⟩ : ∃ W, W = (w.alloc (.cells #[.string nm, .string m.f0.f0, .string m.f0.f1, .slice B0 m.f1.length d0, .slice B1 m.f2.length d1, .int .i64 3, .int .i64 ((k : Int) + 1), .slice B2 outs.length d2] 31)).alloc (.cells #[.string ⟨#[]⟩, .string ⟨#[]⟩, .string ⟨#[]⟩, .slice none 0 0, .slice none 0 0, .int .i64 0, .int .i64 0, .slice none 0 0] 31) := ⟨_, rfl⟩
  have HF0 : Aside0 (W0.heap[w.heap.size]? = some (.cells #[.string nm, .string m.f0.f0, .string m.f0.f1, .slice B0 m.f1.length d0, .slice B1 m.f2.length d1, .int .i64 3, .int .i64 ((k : Int) + 1), .slice B2 outs.length d2] 31 (0, 0))) := ⟨by rw [hW0]; exact below_blk (blk_new _ _) (bel_alloc (Below.refl _ _) _)⟩
  have HF1 : Aside0 (W0.heap[w.heap.size + 1]? = some (.cells #[.string ⟨#[]⟩, .string ⟨#[]⟩, .string ⟨#[]⟩, .slice none 0 0, .slice none 0 0, .int .i64 0, .int .i64 0, .slice none 0 0] 31 (0, 0))) := ⟨by rw [hW0, show w.heap.size + 1 = (w.alloc (.cells #[.string nm, .string m.f0.f0, .string m.f0.f1, .slice B0 m.f1.length d0, .slice B1 m.f2.length d1, .int .i64 3, .int .i64 ((k : Int) + 1), .slice B2 outs.length d2] 31)).heap.size by simp]; exact blk_new _ _⟩
  have BL0 : Below w.heap.size w W0 := by rw [hW0]; exact bel_alloc (bel_alloc (Below.refl _ _) _) _
  have HW0 := Lib.hid hW0
  clear hW0
  have SB := Lib.hid (Nat.le_trans hbase BL0.size)
  go_enter Tryz.func63, Tryz.ntmps63
  go_wp2_with fail
  rw [← HW0.out]
  refine (hcode _).mono ?_
  rintro e w1 ⟨rfl, b1⟩
  have b0 := bel_then BL0 b1
  have F0 := Aside0.mk (below_blk HF0.out b1)
  have F1 := Aside0.mk (below_blk HF1.out b1)
  have R2 := Aside0.mk (Kd.R_below U2.out b0)
  have NE0 := Lib.hid (Kd.R_ne R2.out F0.out (by decide))
  have NE1 := Lib.hid (Kd.R_ne R2.out F1.out (by decide))
  clear b1 HF0 HF1 BL0 hcode
  obtain ⟨c0_, c1_, c2_, c3_, c4_, c5_, c6_, c7_⟩ := cells8 F0.out
  obtain ⟨cz0_, cz1_, cz2_, cz3_, cz4_, cz5_, cz6_, cz7_⟩ := froz8 F0.out
  obtain ⟨k0_, k1_, k2_, k3_, k4_, k5_, k6_, k7_⟩ := cells8 F1.out
  obtain ⟨kz0_, kz1_, kz2_, kz3_, kz4_, kz5_, kz6_, kz7_⟩ := froz8 F1.out
  have hto := specTo3_any nm m outs B0 d0 B1 d1 B2 d2 code k w1 HMM.out h0 h1 hl hkl (by omega) (by omega) (Kd.C_below HR0.out b0) (Kd.R_reads' R2.out).2.2
  rw [HNX.out] at hto
  go_wp2_with fail
  refine hto.mono ?_
  rintro e w2 ⟨P2, e2, rfl, r2, b2⟩
  have R3 := Aside0.mk (Kd.R_lower (base' := base) r2 (Nat.le_trans hbase b0.size))
  have f0 := below_blk F0.out b2
  have f1 := below_blk F1.out b2
  have bb := bel_then b0 b2
  clear hto R2 F0 F1 NE0 NE1 b0 r2 b2 c0_ cz0_ c1_ cz1_ c2_ cz2_ c3_ cz3_ c4_ cz4_ c5_ cz5_ c6_ cz6_ c7_ cz7_ k0_ kz0_ k1_ kz1_ k2_ kz2_ k3_ kz3_ k4_ kz4_ k5_ kz5_ k6_ kz6_ k7_ kz7_
  have R2 := R3
  have F0 := Aside0.mk f0
  have F1 := Aside0.mk f1
  have b0 := bb
  clear R3 f0 f1 bb
  have NE0 := Lib.hid (Kd.R_ne R2.out F0.out (by decide))
  have NE1 := Lib.hid (Kd.R_ne R2.out F1.out (by decide))
  obtain ⟨c0_, c1_, c2_, c3_, c4_, c5_, c6_, c7_⟩ := cells8 F0.out
  obtain ⟨cz0_, cz1_, cz2_, cz3_, cz4_, cz5_, cz6_, cz7_⟩ := froz8 F0.out
  obtain ⟨k0_, k1_, k2_, k3_, k4_, k5_, k6_, k7_⟩ := cells8 F1.out
  obtain ⟨kz0_, kz1_, kz2_, kz3_, kz4_, kz5_, kz6_, kz7_⟩ := froz8 F1.out
  go_wp2
  refine bodyPost_ret (v := .tuple #[.agg #[.string nm, .string m.f0.f0, .string m.f0.f1, .slice B0 m.f1.length d0, .slice B1 m.f2.length d1, .int .i64 N.1.f2, .int .i64 N.1.f3, .slice P2 outs.length e2], .string (N.2)]) ?hr rfl ?hp
  case hr => simp [results, Tryz.results63, go_sem, c0_, c1_, c2_, c3_, c4_, c5_, c6_, c7_, k0_, k1_, k2_, k3_, k4_, k5_, k6_, k7_]
  case hp =>
    have ne0 := NE0.out
    have ne1 := NE1.out
    have hE0 : (Kd.int .i64).E = [] := rfl
    have RZ := R2.out
    exact ⟨P2, e2, rfl, by (with_reducible repeat (first | exact RZ | refine R_set ?_ hE0 ne0 | refine R_set ?_ hE0 ne1)), by (with_reducible repeat (first | exact b0 | refine bel_alloc ?_ _ | refine bel_set ?_ _ ?_ | refine blw_drewN ?_ _ | refine Below.drew ?_)); all_goals (first | (simp; done) | (simp; omega) | omega)⟩

end Go.Proofs.YtoppgnmnbbhghaaGreatDoor

/- The reference's step of a client where it goes on: contracts. -/
namespace Go.Proofs.YtoppgnmnbbhghaaGreatDoor
open Go.RowKit Go.Proofs.YtoppgnmnbbhghaaGreatDoorW.PrintWords
set_option linter.unusedVariables false
set_option linter.unusedSimpArgs false


set_option maxRecDepth 100000 in
set_option maxHeartbeats 4000000 in
theorem specStep2_any (nm : ByteArray) (m : SMail) (pos : Int) (outs : List Int) (B0 : Option Addr) (d0 : Nat) (B1 : Option Addr) (d1 : Nat) (B2 : Option Addr) (d2 : Nat) (answer : ByteArray) (code : Int) (base : Nat) (w : World)
    (hm : fitMail m) (hnm : nm.size ≤ 1048576) (h0 : 0 ≤ pos) (h1 : pos ≤ (m.f1.length : Int)) (hl : outs.length ≤ 1048576) (hbase : base ≤ w.heap.size) (hc : code = 250) (hcode : ∀ W, Calls Tryz.prog 107 #[.string answer] W fun e w' => e = .returned (.int .i64 code) ∧ Below W.heap.size W w')
    (hr0 : Kd.C kAddr w B0 m.f1.length m.f1) (hr1 : Kd.C Kd.string w B1 m.f2.length m.f2) (u2 : Kd.R (Kd.int .i64) 3 w base (fun _ => True) (.slice B2 outs.length d2) outs) :
    Calls Tryz.prog 63 #[.agg #[.string nm, .string m.f0.f0, .string m.f0.f1, .slice B0 m.f1.length d0, .slice B1 m.f2.length d1, .int .i64 2, .int .i64 pos, .slice B2 outs.length d2], .string answer] w fun e w' => ∃ B d, e = .returned (.tuple #[.agg #[.string nm, .string m.f0.f0, .string m.f0.f1, .slice B0 m.f1.length d0, .slice B1 m.f2.length d1, .int .i64 (nextC ⟨nm, m, 2, pos, outs⟩).1.f2, .int .i64 (nextC ⟨nm, m, 2, pos, outs⟩).1.f3, .slice B outs.length d], .string ((nextC ⟨nm, m, 2, pos, outs⟩).2)]) ∧ Kd.R (Kd.int .i64) 3 w' base (fun _ => True) (.slice B outs.length d) (outs) ∧ Below w.heap.size w w' := by
  have HMM := Lib.hid hm
  have HR0 := Lib.hid hr0
  have HR1 := Lib.hid hr1
  have U2 := Lib.hid u2
  clear hm hr0 hr1 u2
  generalize hN : (nextC ⟨nm, m, 2, pos, outs⟩) = N
  have HNX := Lib.hid hN
  clear hN
  subst hc
  obtain ⟨W0, hW0⟩ : ∃ W, W = (w.alloc (.cells #[.string nm, .string m.f0.f0, .string m.f0.f1, .slice B0 m.f1.length d0, .slice B1 m.f2.length d1, .int .i64 2, .int .i64 pos, .slice B2 outs.length d2] 31)).alloc (.cells #[.string ⟨#[]⟩, .string ⟨#[]⟩, .string ⟨#[]⟩, .slice none 0 0, .slice none 0 0, .int .i64 0, .int .i64 0, .slice none 0 0] 31) := ⟨_, rfl⟩
  have HF0 : Aside0 (W0.heap[w.heap.size]? = some (.cells #[.string nm, .string m.f0.f0, .string m.f0.f1, .slice B0 m.f1.length d0, .slice B1 m.f2.length d1, .int .i64 2, .int .i64 pos, .slice B2 outs.length d2] 31 (0, 0))) := ⟨by rw [hW0]; exact below_blk (blk_new _ _) (bel_alloc (Below.refl _ _) _)⟩
  have HF1 : Aside0 (W0.heap[w.heap.size + 1]? = some (.cells #[.string ⟨#[]⟩, .string ⟨#[]⟩, .string ⟨#[]⟩, .slice none 0 0, .slice none 0 0, .int .i64 0, .int .i64 0, .slice none 0 0] 31 (0, 0))) := ⟨by rw [hW0, show w.heap.size + 1 = (w.alloc (.cells #[.string nm, .string m.f0.f0, .string m.f0.f1, .slice B0 m.f1.length d0, .slice B1 m.f2.length d1, .int .i64 2, .int .i64 pos, .slice B2 outs.length d2] 31)).heap.size by simp]; exact blk_new _ _⟩
  have BL0 : Below w.heap.size w W0 := by rw [hW0]; exact bel_alloc (bel_alloc (Below.refl _ _) _) _
  have HW0 := Lib.hid hW0
  clear hW0
  have SB := Lib.hid (Nat.le_trans hbase BL0.size)
  go_enter Tryz.func63, Tryz.ntmps63
  go_wp2_with fail
  rw [← HW0.out]
  refine (hcode _).mono ?_
  rintro e w1 ⟨rfl, b1⟩
  have b0 := bel_then BL0 b1
  have F0 := Aside0.mk (below_blk HF0.out b1)
  have F1 := Aside0.mk (below_blk HF1.out b1)
  have R2 := Aside0.mk (Kd.R_below U2.out b0)
  have NE0 := Lib.hid (Kd.R_ne R2.out F0.out (by decide))
  have NE1 := Lib.hid (Kd.R_ne R2.out F1.out (by decide))
  clear b1 HF0 HF1 BL0 hcode
  obtain ⟨c0_, c1_, c2_, c3_, c4_, c5_, c6_, c7_⟩ := cells8 F0.out
  obtain ⟨cz0_, cz1_, cz2_, cz3_, cz4_, cz5_, cz6_, cz7_⟩ := froz8 F0.out
  obtain ⟨k0_, k1_, k2_, k3_, k4_, k5_, k6_, k7_⟩ := cells8 F1.out
  obtain ⟨kz0_, kz1_, kz2_, kz3_, kz4_, kz5_, kz6_, kz7_⟩ := froz8 F1.out
  have hn := specNext_any nm m 2 pos outs B0 d0 B1 d1 B2 d2 w1 HMM.out h0 h1 hl (Kd.C_below HR0.out b0) (Kd.R_reads' R2.out).2.2
  rw [HNX.out] at hn
  go_wp2_with fail
  refine hn.mono ?_
  rintro e w2 ⟨rfl, b2⟩
  have r3 := Kd.R_below R2.out b2
  have f0 := below_blk F0.out b2
  have f1 := below_blk F1.out b2
  have bb := bel_then b0 b2
  clear hn R2 F0 F1 b0 b2 c0_ cz0_ c1_ cz1_ c2_ cz2_ c3_ cz3_ c4_ cz4_ c5_ cz5_ c6_ cz6_ c7_ cz7_ k0_ kz0_ k1_ kz1_ k2_ kz2_ k3_ kz3_ k4_ kz4_ k5_ kz5_ k6_ kz6_ k7_ kz7_
  have R2 := Aside0.mk r3
  have F0 := Aside0.mk f0
  have F1 := Aside0.mk f1
  have b0 := bb
  clear r3 f0 f1 bb
  obtain ⟨c0_, c1_, c2_, c3_, c4_, c5_, c6_, c7_⟩ := cells8 F0.out
  obtain ⟨cz0_, cz1_, cz2_, cz3_, cz4_, cz5_, cz6_, cz7_⟩ := froz8 F0.out
  obtain ⟨k0_, k1_, k2_, k3_, k4_, k5_, k6_, k7_⟩ := cells8 F1.out
  obtain ⟨kz0_, kz1_, kz2_, kz3_, kz4_, kz5_, kz6_, kz7_⟩ := froz8 F1.out
  go_wp2
  refine bodyPost_ret (v := .tuple #[.agg #[.string nm, .string m.f0.f0, .string m.f0.f1, .slice B0 m.f1.length d0, .slice B1 m.f2.length d1, .int .i64 N.1.f2, .int .i64 N.1.f3, .slice B2 outs.length d2], .string (N.2)]) ?hr rfl ?hp
  case hr => simp [results, Tryz.results63, go_sem, c0_, c1_, c2_, c3_, c4_, c5_, c6_, c7_, k0_, k1_, k2_, k3_, k4_, k5_, k6_, k7_]
  case hp =>
    have ne0 := NE0.out
    have ne1 := NE1.out
    have hE0 : (Kd.int .i64).E = [] := rfl
    have RZ := R2.out
    exact ⟨B2, d2, rfl, by (with_reducible repeat (first | exact RZ | refine R_set ?_ hE0 ne0 | refine R_set ?_ hE0 ne1)), by (with_reducible repeat (first | exact b0 | refine bel_alloc ?_ _ | refine bel_set ?_ _ ?_ | refine blw_drewN ?_ _ | refine Below.drew ?_)); all_goals (first | (simp; done) | (simp; omega) | omega)⟩


set_option maxRecDepth 100000 in
set_option maxHeartbeats 4000000 in
theorem specStep5_any (nm : ByteArray) (m : SMail) (pos : Int) (outs : List Int) (B0 : Option Addr) (d0 : Nat) (B1 : Option Addr) (d1 : Nat) (B2 : Option Addr) (d2 : Nat) (answer : ByteArray) (code : Int) (base : Nat) (w : World)
    (hm : fitMail m) (hnm : nm.size ≤ 1048576) (h0 : 0 ≤ pos) (h1 : pos ≤ (m.f1.length : Int)) (hl : outs.length ≤ 1048576) (hbase : base ≤ w.heap.size) (hc : code = 250) (hcode : ∀ W, Calls Tryz.prog 107 #[.string answer] W fun e w' => e = .returned (.int .i64 code) ∧ Below W.heap.size W w')
    (hr0 : Kd.C kAddr w B0 m.f1.length m.f1) (hr1 : Kd.C Kd.string w B1 m.f2.length m.f2) (u2 : Kd.R (Kd.int .i64) 3 w base (fun _ => True) (.slice B2 outs.length d2) outs) :
    Calls Tryz.prog 63 #[.agg #[.string nm, .string m.f0.f0, .string m.f0.f1, .slice B0 m.f1.length d0, .slice B1 m.f2.length d1, .int .i64 5, .int .i64 pos, .slice B2 outs.length d2], .string answer] w fun e w' => ∃ B d, e = .returned (.tuple #[.agg #[.string nm, .string m.f0.f0, .string m.f0.f1, .slice B0 m.f1.length d0, .slice B1 m.f2.length d1, .int .i64 6, .int .i64 pos, .slice B outs.length d], .string (⟨#[81, 85, 73, 84]⟩)]) ∧ Kd.R (Kd.int .i64) 3 w' base (fun _ => True) (.slice B outs.length d) (becomes 2 [1] outs) ∧ Below w.heap.size w w' := by
  have HMM := Lib.hid hm
  have HR0 := Lib.hid hr0
  have HR1 := Lib.hid hr1
  have U2 := Lib.hid u2
  clear hm hr0 hr1 u2
  subst hc
  obtain ⟨W0, hW0⟩ : ∃ W, W = (w.alloc (.cells #[.string nm, .string m.f0.f0, .string m.f0.f1, .slice B0 m.f1.length d0, .slice B1 m.f2.length d1, .int .i64 5, .int .i64 pos, .slice B2 outs.length d2] 31)).alloc (.cells #[.string ⟨#[]⟩, .string ⟨#[]⟩, .string ⟨#[]⟩, .slice none 0 0, .slice none 0 0, .int .i64 0, .int .i64 0, .slice none 0 0] 31) := ⟨_, rfl⟩
  have HF0 : Aside0 (W0.heap[w.heap.size]? = some (.cells #[.string nm, .string m.f0.f0, .string m.f0.f1, .slice B0 m.f1.length d0, .slice B1 m.f2.length d1, .int .i64 5, .int .i64 pos, .slice B2 outs.length d2] 31 (0, 0))) := ⟨by rw [hW0]; exact below_blk (blk_new _ _) (bel_alloc (Below.refl _ _) _)⟩
  have HF1 : Aside0 (W0.heap[w.heap.size + 1]? = some (.cells #[.string ⟨#[]⟩, .string ⟨#[]⟩, .string ⟨#[]⟩, .slice none 0 0, .slice none 0 0, .int .i64 0, .int .i64 0, .slice none 0 0] 31 (0, 0))) := ⟨by rw [hW0, show w.heap.size + 1 = (w.alloc (.cells #[.string nm, .string m.f0.f0, .string m.f0.f1, .slice B0 m.f1.length d0, .slice B1 m.f2.length d1, .int .i64 5, .int .i64 pos, .slice B2 outs.length d2] 31)).heap.size by simp]; exact blk_new _ _⟩
  have BL0 : Below w.heap.size w W0 := by rw [hW0]; exact bel_alloc (bel_alloc (Below.refl _ _) _) _
  have HW0 := Lib.hid hW0
  clear hW0
  have SB := Lib.hid (Nat.le_trans hbase BL0.size)
  go_enter Tryz.func63, Tryz.ntmps63
  go_wp2_with fail
  rw [← HW0.out]
  refine (hcode _).mono ?_
  rintro e w1 ⟨rfl, b1⟩
  have b0 := bel_then BL0 b1
  have F0 := Aside0.mk (below_blk HF0.out b1)
  have F1 := Aside0.mk (below_blk HF1.out b1)
  have R2 := Aside0.mk (Kd.R_below U2.out b0)
  have NE0 := Lib.hid (Kd.R_ne R2.out F0.out (by decide))
  have NE1 := Lib.hid (Kd.R_ne R2.out F1.out (by decide))
  clear b1 HF0 HF1 BL0 hcode
  obtain ⟨c0_, c1_, c2_, c3_, c4_, c5_, c6_, c7_⟩ := cells8 F0.out
  obtain ⟨cz0_, cz1_, cz2_, cz3_, cz4_, cz5_, cz6_, cz7_⟩ := froz8 F0.out
  obtain ⟨k0_, k1_, k2_, k3_, k4_, k5_, k6_, k7_⟩ := cells8 F1.out
  obtain ⟨kz0_, kz1_, kz2_, kz3_, kz4_, kz5_, kz6_, kz7_⟩ := froz8 F1.out
  go_wp2_with fail
  refine (specPass_any nm m 5 pos outs B0 d0 B1 d1 B2 d2 w1 hl (Kd.R_reads' R2.out).2.2).mono ?_
  rintro e w2 ⟨P2, e2, rfl, r2, b2⟩
  have R3 := Aside0.mk (Kd.R_lower (base' := base) r2 (Nat.le_trans hbase b0.size))
  have f0 := below_blk F0.out b2
  have f1 := below_blk F1.out b2
  have bb := bel_then b0 b2
  clear R2 F0 F1 NE0 NE1 b0 r2 b2 c0_ cz0_ c1_ cz1_ c2_ cz2_ c3_ cz3_ c4_ cz4_ c5_ cz5_ c6_ cz6_ c7_ cz7_ k0_ kz0_ k1_ kz1_ k2_ kz2_ k3_ kz3_ k4_ kz4_ k5_ kz5_ k6_ kz6_ k7_ kz7_
  have R2 := R3
  have F0 := Aside0.mk f0
  have F1 := Aside0.mk f1
  have b0 := bb
  clear R3 f0 f1 bb
  have NE0 := Lib.hid (Kd.R_ne R2.out F0.out (by decide))
  have NE1 := Lib.hid (Kd.R_ne R2.out F1.out (by decide))
  obtain ⟨c0_, c1_, c2_, c3_, c4_, c5_, c6_, c7_⟩ := cells8 F0.out
  obtain ⟨cz0_, cz1_, cz2_, cz3_, cz4_, cz5_, cz6_, cz7_⟩ := froz8 F0.out
  go_upto_region 22 with (fail)
  have ne0 := NE0.out
  have hE0 : (Kd.int .i64).E = [] := rfl
  have rz := R2.out
  generalize hV : World.setCell (World.setCell (World.setCell (World.setCell (World.setCell (World.setCell (World.setCell (World.setCell w2 ⟨w.heap.size, 0, none⟩ _) ⟨w.heap.size, 1, none⟩ _) ⟨w.heap.size, 2, none⟩ _) ⟨w.heap.size, 3, none⟩ _) ⟨w.heap.size, 4, none⟩ _) ⟨w.heap.size, 5, none⟩ _) ⟨w.heap.size, 6, none⟩ _) ⟨w.heap.size, 7, none⟩ _ = V
  have fv : V.heap[w.heap.size]? = some (.cells #[.string nm, .string m.f0.f0, .string m.f0.f1, .slice B0 m.f1.length d0, .slice B1 m.f2.length d1, .int .i64 5, .int .i64 pos, .slice P2 outs.length e2] 31 (0, 0)) := by rw [← hV]; exact (blk_set1 (blk_set1 (blk_set1 (blk_set1 (blk_set1 (blk_set1 (blk_set1 (blk_set1 (F0.out) 0 _) 1 _) 2 _) 3 _) 4 _) 5 _) 6 _) 7 _).trans (by simp)
  have gv : w2.grownBy V (some w.heap.size) := by rw [← hV]; exact (((((((grown_set1 _ _ _ _).trans (grown_set1 _ _ _ _)).trans (grown_set1 _ _ _ _)).trans (grown_set1 _ _ _ _)).trans (grown_set1 _ _ _ _)).trans (grown_set1 _ _ _ _)).trans (grown_set1 _ _ _ _)).trans (grown_set1 _ _ _ _)
  have rz := R_else rz rfl gv ne0
  have bz : Below w.heap.size w V := by rw [← hV]; exact bel_set (bel_set (bel_set (bel_set (bel_set (bel_set (bel_set (bel_set (b0) _ (Nat.le_refl _)) _ (Nat.le_refl _)) _ (Nat.le_refl _)) _ (Nat.le_refl _)) _ (Nat.le_refl _)) _ (Nat.le_refl _)) _ (Nat.le_refl _)) _ (Nat.le_refl _)
  have f1 := (gv.block _ (blk_lt F1.out) (fun e => by have e := Option.some.inj e; omega)).trans F1.out
  clear hV
  clear F0 F1 R2 b0 c0_ c1_ c2_ c3_ c4_ c5_ c6_ c7_ cz0_ cz1_ cz2_ cz3_ cz4_ cz5_ cz6_ cz7_
  have F0 := Aside0.mk fv
  have F1 := Aside0.mk f1
  have R2 := Aside0.mk rz
  have b0 := bz
  clear fv gv rz bz f1 ne0 hE0
  obtain ⟨d0_, d1_, d2_, d3_, d4_, d5_, d6_, d7_⟩ := cells8 F0.out
  obtain ⟨dz0_, dz1_, dz2_, dz3_, dz4_, dz5_, dz6_, dz7_⟩ := froz8 F0.out
  obtain ⟨k0_, k1_, k2_, k3_, k4_, k5_, k6_, k7_⟩ := cells8 F1.out
  obtain ⟨kz0_, kz1_, kz2_, kz3_, kz4_, kz5_, kz6_, kz7_⟩ := froz8 F1.out
  go_wp2
  refine bodyPost_ret (v := .tuple #[.agg #[.string nm, .string m.f0.f0, .string m.f0.f1, .slice B0 m.f1.length d0, .slice B1 m.f2.length d1, .int .i64 6, .int .i64 pos, .slice P2 outs.length e2], .string (⟨#[81, 85, 73, 84]⟩)]) ?hr rfl ?hp
  case hr => simp [results, Tryz.results63, go_sem, d0_, d1_, d2_, d3_, d4_, d5_, d6_, d7_, k0_, k1_, k2_, k3_, k4_, k5_, k6_, k7_]
  case hp =>
    have ne0 := NE0.out
    have ne1 := NE1.out
    have hE0 : (Kd.int .i64).E = [] := rfl
    have RZ := R2.out
    exact ⟨P2, e2, rfl, by (with_reducible repeat (first | exact RZ | refine R_set ?_ hE0 ne0 | refine R_set ?_ hE0 ne1)), by (with_reducible repeat (first | exact b0 | refine bel_alloc ?_ _ | refine bel_set ?_ _ ?_ | refine blw_drewN ?_ _ | refine Below.drew ?_)); all_goals (first | (simp; done) | (simp; omega) | omega)⟩


set_option maxRecDepth 100000 in
set_option maxHeartbeats 4000000 in
theorem specStep0_any (nm : ByteArray) (m : SMail) (pos : Int) (outs : List Int) (B0 : Option Addr) (d0 : Nat) (B1 : Option Addr) (d1 : Nat) (B2 : Option Addr) (d2 : Nat) (answer : ByteArray) (code : Int) (base : Nat) (w : World)
    (hm : fitMail m) (hnm : nm.size ≤ 1048576) (h0 : 0 ≤ pos) (h1 : pos ≤ (m.f1.length : Int)) (hl : outs.length ≤ 1048576) (hbase : base ≤ w.heap.size) (hc : code = 220) (hcode : ∀ W, Calls Tryz.prog 107 #[.string answer] W fun e w' => e = .returned (.int .i64 code) ∧ Below W.heap.size W w')
    (hr0 : Kd.C kAddr w B0 m.f1.length m.f1) (hr1 : Kd.C Kd.string w B1 m.f2.length m.f2) (u2 : Kd.R (Kd.int .i64) 3 w base (fun _ => True) (.slice B2 outs.length d2) outs) :
    Calls Tryz.prog 63 #[.agg #[.string nm, .string m.f0.f0, .string m.f0.f1, .slice B0 m.f1.length d0, .slice B1 m.f2.length d1, .int .i64 0, .int .i64 pos, .slice B2 outs.length d2], .string answer] w fun e w' => ∃ B d, e = .returned (.tuple #[.agg #[.string nm, .string m.f0.f0, .string m.f0.f1, .slice B0 m.f1.length d0, .slice B1 m.f2.length d1, .int .i64 1, .int .i64 pos, .slice B outs.length d], .string ((⟨#[72, 69, 76, 79, 32]⟩ : ByteArray) ++ nm)]) ∧ Kd.R (Kd.int .i64) 3 w' base (fun _ => True) (.slice B outs.length d) (outs) ∧ Below w.heap.size w w' := by
  have HMM := Lib.hid hm
  have HR0 := Lib.hid hr0
  have HR1 := Lib.hid hr1
  have U2 := Lib.hid u2
  clear hm hr0 hr1 u2
  subst hc
  have hts : ¬ 9223372036854775807 < 5 + nm.size := by omega
  obtain ⟨W0, hW0⟩ : ∃ W, W = (w.alloc (.cells #[.string nm, .string m.f0.f0, .string m.f0.f1, .slice B0 m.f1.length d0, .slice B1 m.f2.length d1, .int .i64 0, .int .i64 pos, .slice B2 outs.length d2] 31)).alloc (.cells #[.string ⟨#[]⟩, .string ⟨#[]⟩, .string ⟨#[]⟩, .slice none 0 0, .slice none 0 0, .int .i64 0, .int .i64 0, .slice none 0 0] 31) := ⟨_, rfl⟩
  have HF0 : Aside0 (W0.heap[w.heap.size]? = some (.cells #[.string nm, .string m.f0.f0, .string m.f0.f1, .slice B0 m.f1.length d0, .slice B1 m.f2.length d1, .int .i64 0, .int .i64 pos, .slice B2 outs.length d2] 31 (0, 0))) := ⟨by rw [hW0]; exact below_blk (blk_new _ _) (bel_alloc (Below.refl _ _) _)⟩
  have HF1 : Aside0 (W0.heap[w.heap.size + 1]? = some (.cells #[.string ⟨#[]⟩, .string ⟨#[]⟩, .string ⟨#[]⟩, .slice none 0 0, .slice none 0 0, .int .i64 0, .int .i64 0, .slice none 0 0] 31 (0, 0))) := ⟨by rw [hW0, show w.heap.size + 1 = (w.alloc (.cells #[.string nm, .string m.f0.f0, .string m.f0.f1, .slice B0 m.f1.length d0, .slice B1 m.f2.length d1, .int .i64 0, .int .i64 pos, .slice B2 outs.length d2] 31)).heap.size by simp]; exact blk_new _ _⟩
  have BL0 : Below w.heap.size w W0 := by rw [hW0]; exact bel_alloc (bel_alloc (Below.refl _ _) _) _
  have HW0 := Lib.hid hW0
  clear hW0
  have SB := Lib.hid (Nat.le_trans hbase BL0.size)
  go_enter Tryz.func63, Tryz.ntmps63
  go_wp2_with fail
  rw [← HW0.out]
  refine (hcode _).mono ?_
  rintro e w1 ⟨rfl, b1⟩
  have b0 := bel_then BL0 b1
  have F0 := Aside0.mk (below_blk HF0.out b1)
  have F1 := Aside0.mk (below_blk HF1.out b1)
  have R2 := Aside0.mk (Kd.R_below U2.out b0)
  have NE0 := Lib.hid (Kd.R_ne R2.out F0.out (by decide))
  have NE1 := Lib.hid (Kd.R_ne R2.out F1.out (by decide))
  clear b1 HF0 HF1 BL0 hcode
  obtain ⟨c0_, c1_, c2_, c3_, c4_, c5_, c6_, c7_⟩ := cells8 F0.out
  obtain ⟨cz0_, cz1_, cz2_, cz3_, cz4_, cz5_, cz6_, cz7_⟩ := froz8 F0.out
  obtain ⟨k0_, k1_, k2_, k3_, k4_, k5_, k6_, k7_⟩ := cells8 F1.out
  obtain ⟨kz0_, kz1_, kz2_, kz3_, kz4_, kz5_, kz6_, kz7_⟩ := froz8 F1.out
  go_wp2
  generalize hV : World.setCell w1 _ _ = V
  have fv : V.heap[w.heap.size]? = some (.cells #[.string nm, .string m.f0.f0, .string m.f0.f1, .slice B0 m.f1.length d0, .slice B1 m.f2.length d1, .int .i64 1, .int .i64 pos, .slice B2 outs.length d2] 31 (0, 0)) := by rw [← hV]; exact (blk_set1 F0.out 5 _).trans (by simp)
  have gv : w1.grownBy V (some w.heap.size) := by rw [← hV]; exact grown_set1 _ _ _ _
  have FR := Aside0.mk ((gv.block _ (blk_lt F1.out) (fun e => by have e := Option.some.inj e; omega)).trans F1.out)
  have RR := Aside0.mk (R_else R2.out rfl gv NE0.out)
  have bz : Below w.heap.size w V := by rw [← hV]; exact bel_set b0 _ (Nat.le_refl _)
  clear hV gv F0 F1 R2 NE0 NE1 b0 c0_ cz0_ c1_ cz1_ c2_ cz2_ c3_ cz3_ c4_ cz4_ c5_ cz5_ c6_ cz6_ c7_ cz7_ k0_ kz0_ k1_ kz1_ k2_ kz2_ k3_ kz3_ k4_ kz4_ k5_ kz5_ k6_ kz6_ k7_ kz7_
  have HK : Aside0 (∀ W W1, Below W.heap.size W W1 → (W.cell? ⟨w.heap.size, 0, none⟩ = some (.string nm) ∧ W.cell? ⟨w.heap.size, 1, none⟩ = some (.string m.f0.f0) ∧ W.cell? ⟨w.heap.size, 2, none⟩ = some (.string m.f0.f1) ∧ W.cell? ⟨w.heap.size, 3, none⟩ = some (.slice B0 m.f1.length d0) ∧ W.cell? ⟨w.heap.size, 4, none⟩ = some (.slice B1 m.f2.length d1) ∧ W.cell? ⟨w.heap.size, 5, none⟩ = some (.int .i64 1) ∧ W.cell? ⟨w.heap.size, 6, none⟩ = some (.int .i64 pos) ∧ W.cell? ⟨w.heap.size, 7, none⟩ = some (.slice B2 outs.length d2) ∧ Below w.heap.size w W) → (W1.cell? ⟨w.heap.size, 0, none⟩ = some (.string nm) ∧ W1.cell? ⟨w.heap.size, 1, none⟩ = some (.string m.f0.f0) ∧ W1.cell? ⟨w.heap.size, 2, none⟩ = some (.string m.f0.f1) ∧ W1.cell? ⟨w.heap.size, 3, none⟩ = some (.slice B0 m.f1.length d0) ∧ W1.cell? ⟨w.heap.size, 4, none⟩ = some (.slice B1 m.f2.length d1) ∧ W1.cell? ⟨w.heap.size, 5, none⟩ = some (.int .i64 1) ∧ W1.cell? ⟨w.heap.size, 6, none⟩ = some (.int .i64 pos) ∧ W1.cell? ⟨w.heap.size, 7, none⟩ = some (.slice B2 outs.length d2) ∧ Below w.heap.size w W1)) := ⟨fun W W1 hb h => ⟨(hb.cell (World.block_lt_of_cell? W _ (h.1))).trans (h.1), (hb.cell (World.block_lt_of_cell? W _ (h.2.1))).trans (h.2.1), (hb.cell (World.block_lt_of_cell? W _ (h.2.2.1))).trans (h.2.2.1), (hb.cell (World.block_lt_of_cell? W _ (h.2.2.2.1))).trans (h.2.2.2.1), (hb.cell (World.block_lt_of_cell? W _ (h.2.2.2.2.1))).trans (h.2.2.2.2.1), (hb.cell (World.block_lt_of_cell? W _ (h.2.2.2.2.2.1))).trans (h.2.2.2.2.2.1), (hb.cell (World.block_lt_of_cell? W _ (h.2.2.2.2.2.2.1))).trans (h.2.2.2.2.2.2.1), (hb.cell (World.block_lt_of_cell? W _ (h.2.2.2.2.2.2.2.1))).trans (h.2.2.2.2.2.2.2.1), bel_then (h.2.2.2.2.2.2.2.2) hb⟩⟩
  have HST : Aside0 ((fun W => W.cell? ⟨w.heap.size, 0, none⟩ = some (.string nm) ∧ W.cell? ⟨w.heap.size, 1, none⟩ = some (.string m.f0.f0) ∧ W.cell? ⟨w.heap.size, 2, none⟩ = some (.string m.f0.f1) ∧ W.cell? ⟨w.heap.size, 3, none⟩ = some (.slice B0 m.f1.length d0) ∧ W.cell? ⟨w.heap.size, 4, none⟩ = some (.slice B1 m.f2.length d1) ∧ W.cell? ⟨w.heap.size, 5, none⟩ = some (.int .i64 1) ∧ W.cell? ⟨w.heap.size, 6, none⟩ = some (.int .i64 pos) ∧ W.cell? ⟨w.heap.size, 7, none⟩ = some (.slice B2 outs.length d2) ∧ Below w.heap.size w W) V.drew) := ⟨⟨by have := fv; simp [World.cell?, show V.drew.heap[w.heap.size]? = _ from this], by have := fv; simp [World.cell?, show V.drew.heap[w.heap.size]? = _ from this], by have := fv; simp [World.cell?, show V.drew.heap[w.heap.size]? = _ from this], by have := fv; simp [World.cell?, show V.drew.heap[w.heap.size]? = _ from this], by have := fv; simp [World.cell?, show V.drew.heap[w.heap.size]? = _ from this], by have := fv; simp [World.cell?, show V.drew.heap[w.heap.size]? = _ from this], by have := fv; simp [World.cell?, show V.drew.heap[w.heap.size]? = _ from this], by have := fv; simp [World.cell?, show V.drew.heap[w.heap.size]? = _ from this], bel_then bz (drew_below0 V)⟩⟩
  clear fv bz
  refine wp_region_held_drew (S := (fun W => W.cell? ⟨w.heap.size, 0, none⟩ = some (.string nm) ∧ W.cell? ⟨w.heap.size, 1, none⟩ = some (.string m.f0.f0) ∧ W.cell? ⟨w.heap.size, 2, none⟩ = some (.string m.f0.f1) ∧ W.cell? ⟨w.heap.size, 3, none⟩ = some (.slice B0 m.f1.length d0) ∧ W.cell? ⟨w.heap.size, 4, none⟩ = some (.slice B1 m.f2.length d1) ∧ W.cell? ⟨w.heap.size, 5, none⟩ = some (.int .i64 1) ∧ W.cell? ⟨w.heap.size, 6, none⟩ = some (.int .i64 pos) ∧ W.cell? ⟨w.heap.size, 7, none⟩ = some (.slice B2 outs.length d2) ∧ Below w.heap.size w W)) (by kernel_rfl) ?s189 (fun hHeld => ?t189)
  case s189 => exact HST.out
  generalize hV0 : World.drew _ = V0 at hHeld ⊢
  have F1 : Aside0 (V0.heap[w.heap.size + 1]? = some (.cells #[.string ⟨#[]⟩, .string ⟨#[]⟩, .string ⟨#[]⟩, .slice none 0 0, .slice none 0 0, .int .i64 0, .int .i64 0, .slice none 0 0] 31 (0, 0))) := ⟨by rw [← hV0]; exact FR.out⟩
  have R2 : Aside0 (Kd.R (Kd.int .i64) 3 V0 base (fun _ => True) (.slice B2 outs.length d2) outs) := ⟨by rw [← hV0]; exact Kd.R_drew RR.out⟩
  clear hV0 HST FR RR
  refine wpAnyH_take (i := 0) (oi := { dst := some 38, op := Op.load 31 (Operand.tmp 2), type := 31, pos := "l4_client.go:117", after := #[], guard := none }) (v := ?v190) rfl (by kernel_rfl) (by kernel_rfl) (by kernel_rfl) (fun _ _ _ h => h) (Or.inl ⟨by rfl, ?y190⟩) (by assumption) ?r190
  case y190 => intro w_ hSw; (try dsimp only at hSw); go_simp; (try (with_reducible rfl))
  try simp only [Act.put, List.setIfInBounds_toArray, List.set_cons_zero, List.set_cons_succ]
  refine wpAnyH_take (i := 1) (oi := { dst := some 39, op := Op.fieldAddr 31 (Operand.tmp 2) 0, type := 0, pos := "l4_client.go:117", after := #[{ on := 4, ground := Ground.gcOnly Departure.lateStores }], guard := none }) (v := ?v191) rfl (by kernel_rfl) (by kernel_rfl) (by kernel_rfl) (fun _ _ _ h => h) (Or.inl ⟨by rfl, ?y191⟩) (by assumption) ?r191
  case y191 => intro w_ hSw; (try dsimp only at hSw); go_simp; (try (with_reducible rfl))
  try simp only [Act.put, List.setIfInBounds_toArray, List.set_cons_zero, List.set_cons_succ]
  refine wpAnyH_take (i := 2) (oi := { dst := some 40, op := Op.load 9 (Operand.tmp 39), type := 9, pos := "l4_client.go:117", after := #[{ on := 1, ground := Ground.data }, { on := 4, ground := Ground.gcOnly Departure.lateStores }], guard := none }) (v := ?v192) rfl (by kernel_rfl) (by kernel_rfl) (by kernel_rfl) (fun _ _ _ h => h) (Or.inl ⟨by rfl, ?y192⟩) (by assumption) ?r192
  case y192 => intro w_ hSw; (try dsimp only at hSw); go_simp; (try (with_reducible rfl))
  try simp only [Act.put, List.setIfInBounds_toArray, List.set_cons_zero, List.set_cons_succ]
  refine wpAnyH_take (i := 3) (oi := { dst := some 41, op := Op.binOp BinOp.add 9 (Operand.const (Value.string { data := #[72, 69, 76, 79, 32] })) (Operand.tmp 40) 9, type := 9, pos := "l4_client.go:117", after := #[{ on := 2, ground := Ground.data }, { on := 4, ground := Ground.gcOnly Departure.lateStores }], guard := none }) (v := ?v193) rfl (by kernel_rfl) (by kernel_rfl) (by kernel_rfl) (fun _ _ _ h => h) (Or.inl ⟨by rfl, ?y193⟩) (by assumption) ?r193
  case y193 => intro w_ hSw; (try dsimp only at hSw); go_simp; (try (with_reducible rfl))
  try simp only [Act.put, List.setIfInBounds_toArray, List.set_cons_zero, List.set_cons_succ]
  refine wpAnyH_ready (rs := [4]) (by kernel_rfl) (by simp) ?_
  refine AllReadyH.cons (o := { dst := none, op := Op.store 31 (Operand.tmp 4) (Operand.tmp 38), type := 0, pos := "l4_client.go:117", after := #[{ on := 0, ground := Ground.data }, { on := 0, ground := Ground.phase }, { on := 1, ground := Ground.textOnly Departure.lateStores }, { on := 2, ground := Ground.textOnly Departure.lateStores }, { on := 3, ground := Ground.textOnly Departure.lateStores }], guard := none }) rfl (fun K hK => ?k194) AllReadyH.nil
  case k194 =>
    have hb7 := F1.out
    have v0_ : V0.cell? ⟨w.heap.size + 1, 0, none⟩ = some (.string ⟨#[]⟩) := by simp [World.cell?, hb7]
    have v1_ : V0.cell? ⟨w.heap.size + 1, 1, none⟩ = some (.string ⟨#[]⟩) := by simp [World.cell?, hb7]
    have v2_ : V0.cell? ⟨w.heap.size + 1, 2, none⟩ = some (.string ⟨#[]⟩) := by simp [World.cell?, hb7]
    have v3_ : V0.cell? ⟨w.heap.size + 1, 3, none⟩ = some (.slice none 0 0) := by simp [World.cell?, hb7]
    have v4_ : V0.cell? ⟨w.heap.size + 1, 4, none⟩ = some (.slice none 0 0) := by simp [World.cell?, hb7]
    have v5_ : V0.cell? ⟨w.heap.size + 1, 5, none⟩ = some (.int .i64 0) := by simp [World.cell?, hb7]
    have v6_ : V0.cell? ⟨w.heap.size + 1, 6, none⟩ = some (.int .i64 0) := by simp [World.cell?, hb7]
    have v7_ : V0.cell? ⟨w.heap.size + 1, 7, none⟩ = some (.slice none 0 0) := by simp [World.cell?, hb7]
    have u0_ : V0.frozen? ⟨w.heap.size + 1, 0, none⟩ = false := by simp [World.frozen?, hb7]
    have u1_ : V0.frozen? ⟨w.heap.size + 1, 1, none⟩ = false := by simp [World.frozen?, hb7]
    have u2_ : V0.frozen? ⟨w.heap.size + 1, 2, none⟩ = false := by simp [World.frozen?, hb7]
    have u3_ : V0.frozen? ⟨w.heap.size + 1, 3, none⟩ = false := by simp [World.frozen?, hb7]
    have u4_ : V0.frozen? ⟨w.heap.size + 1, 4, none⟩ = false := by simp [World.frozen?, hb7]
    have u5_ : V0.frozen? ⟨w.heap.size + 1, 5, none⟩ = false := by simp [World.frozen?, hb7]
    have u6_ : V0.frozen? ⟨w.heap.size + 1, 6, none⟩ = false := by simp [World.frozen?, hb7]
    have u7_ : V0.frozen? ⟨w.heap.size + 1, 7, none⟩ = false := by simp [World.frozen?, hb7]
    go_simp
    generalize hV4 : World.setCell (World.setCell (World.setCell (World.setCell (World.setCell (World.setCell (World.setCell (World.setCell V0 ⟨w.heap.size + 1, 0, none⟩ _) ⟨w.heap.size + 1, 1, none⟩ _) ⟨w.heap.size + 1, 2, none⟩ _) ⟨w.heap.size + 1, 3, none⟩ _) ⟨w.heap.size + 1, 4, none⟩ _) ⟨w.heap.size + 1, 5, none⟩ _) ⟨w.heap.size + 1, 6, none⟩ _) ⟨w.heap.size + 1, 7, none⟩ _ = V4
    have G4 : V0.grownBy V4 (some (w.heap.size + 1)) := by rw [← hV4]; exact (((((((grown_set1 _ _ _ _).trans (grown_set1 _ _ _ _)).trans (grown_set1 _ _ _ _)).trans (grown_set1 _ _ _ _)).trans (grown_set1 _ _ _ _)).trans (grown_set1 _ _ _ _)).trans (grown_set1 _ _ _ _)).trans (grown_set1 _ _ _ _)
    have FF : V4.heap[w.heap.size + 1]? = some (.cells #[.string nm, .string m.f0.f0, .string m.f0.f1, .slice B0 m.f1.length d0, .slice B1 m.f2.length d1, .int .i64 1, .int .i64 pos, .slice B2 outs.length d2] 31 (0, 0)) := by rw [← hV4, blk_set1 (blk_set1 (blk_set1 (blk_set1 (blk_set1 (blk_set1 (blk_set1 (blk_set1 (F1.out) 0 _) 1 _) 2 _) 3 _) 4 _) 5 _) 6 _) 7 _]; simp
    have BB : Below w.heap.size w V4 := by rw [← hV4]; exact (bel_set (bel_set (bel_set (bel_set (bel_set (bel_set (bel_set (bel_set hHeld.2.2.2.2.2.2.2.2 _ (by show w.heap.size ≤ w.heap.size + 1; omega)) _ (by show w.heap.size ≤ w.heap.size + 1; omega)) _ (by show w.heap.size ≤ w.heap.size + 1; omega)) _ (by show w.heap.size ≤ w.heap.size + 1; omega)) _ (by show w.heap.size ≤ w.heap.size + 1; omega)) _ (by show w.heap.size ≤ w.heap.size + 1; omega)) _ (by show w.heap.size ≤ w.heap.size + 1; omega)) _ (by show w.heap.size ≤ w.heap.size + 1; omega))
    clear hV4
    refine hK.out _ _ ?h195 (fun hHeld => ?j195)
    case h195 => exact ⟨(World.cell?_of_block (G4.block _ (World.block_lt_of_cell? _ _ hHeld.1) (fun e => by have e := Option.some.inj e; (try dsimp only at e); omega))).trans hHeld.1, (World.cell?_of_block (G4.block _ (World.block_lt_of_cell? _ _ hHeld.2.1) (fun e => by have e := Option.some.inj e; (try dsimp only at e); omega))).trans hHeld.2.1, (World.cell?_of_block (G4.block _ (World.block_lt_of_cell? _ _ hHeld.2.2.1) (fun e => by have e := Option.some.inj e; (try dsimp only at e); omega))).trans hHeld.2.2.1, (World.cell?_of_block (G4.block _ (World.block_lt_of_cell? _ _ hHeld.2.2.2.1) (fun e => by have e := Option.some.inj e; (try dsimp only at e); omega))).trans hHeld.2.2.2.1, (World.cell?_of_block (G4.block _ (World.block_lt_of_cell? _ _ hHeld.2.2.2.2.1) (fun e => by have e := Option.some.inj e; (try dsimp only at e); omega))).trans hHeld.2.2.2.2.1, (World.cell?_of_block (G4.block _ (World.block_lt_of_cell? _ _ hHeld.2.2.2.2.2.1) (fun e => by have e := Option.some.inj e; (try dsimp only at e); omega))).trans hHeld.2.2.2.2.2.1, (World.cell?_of_block (G4.block _ (World.block_lt_of_cell? _ _ hHeld.2.2.2.2.2.2.1) (fun e => by have e := Option.some.inj e; (try dsimp only at e); omega))).trans hHeld.2.2.2.2.2.2.1, (World.cell?_of_block (G4.block _ (World.block_lt_of_cell? _ _ hHeld.2.2.2.2.2.2.2.1) (fun e => by have e := Option.some.inj e; (try dsimp only at e); omega))).trans hHeld.2.2.2.2.2.2.2.1, BB⟩
    clear hK K
    try simp only [Act.put, List.setIfInBounds_toArray, List.set_cons_zero, List.set_cons_succ]
    replace R2 := Aside0.mk (R_else R2.out rfl G4 (Kd.R_ne R2.out F1.out (by decide)))
    replace F1 := Aside0.mk FF
    clear FF
    refine wpAnyH_take (i := 5) (oi := { dst := some 5, op := Op.assign (Operand.tmp 41), type := 9, pos := "l4_client.go:117", after := #[{ on := 3, ground := Ground.data }, { on := 4, ground := Ground.chain }, { on := 0, ground := Ground.phase }, { on := 1, ground := Ground.phase }, { on := 2, ground := Ground.phase }, { on := 3, ground := Ground.phase }, { on := 4, ground := Ground.phase }], guard := none }) (v := ?v196) rfl (by kernel_rfl) (by kernel_rfl) (by kernel_rfl) (fun _ _ _ h => h) (Or.inl ⟨by rfl, ?y196⟩) (by assumption) ?r196
    case y196 => intro w_ hSw; (try dsimp only at hSw); go_simp; (try (with_reducible rfl))
    try simp only [Act.put, List.setIfInBounds_toArray, List.set_cons_zero, List.set_cons_succ]
    refine wpAnyH_done (by kernel_rfl) ?_ _
    obtain ⟨m0_, m1_, m2_, m3_, m4_, m5_, m6_, m7_⟩ := cells8 F1.out
    have hfin := hHeld.2.2.2.2.2.2.2.2
    clear hHeld
    go_wp2
    refine bodyPost_ret (v := .tuple #[.agg #[.string nm, .string m.f0.f0, .string m.f0.f1, .slice B0 m.f1.length d0, .slice B1 m.f2.length d1, .int .i64 1, .int .i64 pos, .slice B2 outs.length d2], .string ((⟨#[72, 69, 76, 79, 32]⟩ : ByteArray) ++ nm)]) ?hrL1 rfl ?hpL1
    case hrL1 => simp [results, Tryz.results63, go_sem, m0_, m1_, m2_, m3_, m4_, m5_, m6_, m7_]
    case hpL1 =>
      exact ⟨B2, d2, rfl, R2.out, hfin⟩


set_option maxRecDepth 100000 in
set_option maxHeartbeats 4000000 in
theorem specStep1_any (nm : ByteArray) (m : SMail) (pos : Int) (outs : List Int) (B0 : Option Addr) (d0 : Nat) (B1 : Option Addr) (d1 : Nat) (B2 : Option Addr) (d2 : Nat) (answer : ByteArray) (code : Int) (base : Nat) (w : World)
    (hm : fitMail m) (hnm : nm.size ≤ 1048576) (h0 : 0 ≤ pos) (h1 : pos ≤ (m.f1.length : Int)) (hl : outs.length ≤ 1048576) (hbase : base ≤ w.heap.size) (hc : code = 250) (hcode : ∀ W, Calls Tryz.prog 107 #[.string answer] W fun e w' => e = .returned (.int .i64 code) ∧ Below W.heap.size W w')
    (hr0 : Kd.C kAddr w B0 m.f1.length m.f1) (hr1 : Kd.C Kd.string w B1 m.f2.length m.f2) (u2 : Kd.R (Kd.int .i64) 3 w base (fun _ => True) (.slice B2 outs.length d2) outs) :
    Calls Tryz.prog 63 #[.agg #[.string nm, .string m.f0.f0, .string m.f0.f1, .slice B0 m.f1.length d0, .slice B1 m.f2.length d1, .int .i64 1, .int .i64 pos, .slice B2 outs.length d2], .string answer] w fun e w' => ∃ B d, e = .returned (.tuple #[.agg #[.string nm, .string m.f0.f0, .string m.f0.f1, .slice B0 m.f1.length d0, .slice B1 m.f2.length d1, .int .i64 2, .int .i64 pos, .slice B outs.length d], .string ((⟨#[77, 65, 73, 76, 32, 70, 82, 79, 77, 58]⟩ : ByteArray) ++ textS m.f0.f0 m.f0.f1)]) ∧ Kd.R (Kd.int .i64) 3 w' base (fun _ => True) (.slice B outs.length d) (outs) ∧ Below w.heap.size w w' := by
  have HMM := Lib.hid hm
  have HR0 := Lib.hid hr0
  have HR1 := Lib.hid hr1
  have U2 := Lib.hid u2
  clear hm hr0 hr1 u2
  subst hc
  have hts : ¬ 9223372036854775807 < 10 + (textS m.f0.f0 m.f0.f1).size := by have := text_szN HMM.out.1.1 HMM.out.1.2; omega
  have htext := fun W (hW : Below w.heap.size w W) => specPut_any m.f0.f0 m.f0.f1 W HMM.out.1.1 HMM.out.1.2
  obtain ⟨W0, hW0⟩ : ∃ W, W = (w.alloc (.cells #[.string nm, .string m.f0.f0, .string m.f0.f1, .slice B0 m.f1.length d0, .slice B1 m.f2.length d1, .int .i64 1, .int .i64 pos, .slice B2 outs.length d2] 31)).alloc (.cells #[.string ⟨#[]⟩, .string ⟨#[]⟩, .string ⟨#[]⟩, .slice none 0 0, .slice none 0 0, .int .i64 0, .int .i64 0, .slice none 0 0] 31) := ⟨_, rfl⟩
  have HF0 : Aside0 (W0.heap[w.heap.size]? = some (.cells #[.string nm, .string m.f0.f0, .string m.f0.f1, .slice B0 m.f1.length d0, .slice B1 m.f2.length d1, .int .i64 1, .int .i64 pos, .slice B2 outs.length d2] 31 (0, 0))) := ⟨by rw [hW0]; exact below_blk (blk_new _ _) (bel_alloc (Below.refl _ _) _)⟩
  have HF1 : Aside0 (W0.heap[w.heap.size + 1]? = some (.cells #[.string ⟨#[]⟩, .string ⟨#[]⟩, .string ⟨#[]⟩, .slice none 0 0, .slice none 0 0, .int .i64 0, .int .i64 0, .slice none 0 0] 31 (0, 0))) := ⟨by rw [hW0, show w.heap.size + 1 = (w.alloc (.cells #[.string nm, .string m.f0.f0, .string m.f0.f1, .slice B0 m.f1.length d0, .slice B1 m.f2.length d1, .int .i64 1, .int .i64 pos, .slice B2 outs.length d2] 31)).heap.size by simp]; exact blk_new _ _⟩
  have BL0 : Below w.heap.size w W0 := by rw [hW0]; exact bel_alloc (bel_alloc (Below.refl _ _) _) _
  have HW0 := Lib.hid hW0
  clear hW0
  have SB := Lib.hid (Nat.le_trans hbase BL0.size)
  go_enter Tryz.func63, Tryz.ntmps63
  go_wp2_with fail
  rw [← HW0.out]
  refine (hcode _).mono ?_
  rintro e w1 ⟨rfl, b1⟩
  have b0 := bel_then BL0 b1
  have F0 := Aside0.mk (below_blk HF0.out b1)
  have F1 := Aside0.mk (below_blk HF1.out b1)
  have R2 := Aside0.mk (Kd.R_below U2.out b0)
  have NE0 := Lib.hid (Kd.R_ne R2.out F0.out (by decide))
  have NE1 := Lib.hid (Kd.R_ne R2.out F1.out (by decide))
  clear b1 HF0 HF1 BL0 hcode
  obtain ⟨c0_, c1_, c2_, c3_, c4_, c5_, c6_, c7_⟩ := cells8 F0.out
  obtain ⟨cz0_, cz1_, cz2_, cz3_, cz4_, cz5_, cz6_, cz7_⟩ := froz8 F0.out
  obtain ⟨k0_, k1_, k2_, k3_, k4_, k5_, k6_, k7_⟩ := cells8 F1.out
  obtain ⟨kz0_, kz1_, kz2_, kz3_, kz4_, kz5_, kz6_, kz7_⟩ := froz8 F1.out
  go_wp2
  generalize hV : World.setCell w1 _ _ = V
  have fv : V.heap[w.heap.size]? = some (.cells #[.string nm, .string m.f0.f0, .string m.f0.f1, .slice B0 m.f1.length d0, .slice B1 m.f2.length d1, .int .i64 2, .int .i64 pos, .slice B2 outs.length d2] 31 (0, 0)) := by rw [← hV]; exact (blk_set1 F0.out 5 _).trans (by simp)
  have gv : w1.grownBy V (some w.heap.size) := by rw [← hV]; exact grown_set1 _ _ _ _
  have FR := Aside0.mk ((gv.block _ (blk_lt F1.out) (fun e => by have e := Option.some.inj e; omega)).trans F1.out)
  have RR := Aside0.mk (R_else R2.out rfl gv NE0.out)
  have bz : Below w.heap.size w V := by rw [← hV]; exact bel_set b0 _ (Nat.le_refl _)
  clear hV gv F0 F1 R2 NE0 NE1 b0 c0_ cz0_ c1_ cz1_ c2_ cz2_ c3_ cz3_ c4_ cz4_ c5_ cz5_ c6_ cz6_ c7_ cz7_ k0_ kz0_ k1_ kz1_ k2_ kz2_ k3_ kz3_ k4_ kz4_ k5_ kz5_ k6_ kz6_ k7_ kz7_
  have HK : Aside0 (∀ W W1, Below W.heap.size W W1 → (W.cell? ⟨w.heap.size, 0, none⟩ = some (.string nm) ∧ W.cell? ⟨w.heap.size, 1, none⟩ = some (.string m.f0.f0) ∧ W.cell? ⟨w.heap.size, 2, none⟩ = some (.string m.f0.f1) ∧ W.cell? ⟨w.heap.size, 3, none⟩ = some (.slice B0 m.f1.length d0) ∧ W.cell? ⟨w.heap.size, 4, none⟩ = some (.slice B1 m.f2.length d1) ∧ W.cell? ⟨w.heap.size, 5, none⟩ = some (.int .i64 2) ∧ W.cell? ⟨w.heap.size, 6, none⟩ = some (.int .i64 pos) ∧ W.cell? ⟨w.heap.size, 7, none⟩ = some (.slice B2 outs.length d2) ∧ Below w.heap.size w W) → (W1.cell? ⟨w.heap.size, 0, none⟩ = some (.string nm) ∧ W1.cell? ⟨w.heap.size, 1, none⟩ = some (.string m.f0.f0) ∧ W1.cell? ⟨w.heap.size, 2, none⟩ = some (.string m.f0.f1) ∧ W1.cell? ⟨w.heap.size, 3, none⟩ = some (.slice B0 m.f1.length d0) ∧ W1.cell? ⟨w.heap.size, 4, none⟩ = some (.slice B1 m.f2.length d1) ∧ W1.cell? ⟨w.heap.size, 5, none⟩ = some (.int .i64 2) ∧ W1.cell? ⟨w.heap.size, 6, none⟩ = some (.int .i64 pos) ∧ W1.cell? ⟨w.heap.size, 7, none⟩ = some (.slice B2 outs.length d2) ∧ Below w.heap.size w W1)) := ⟨fun W W1 hb h => ⟨(hb.cell (World.block_lt_of_cell? W _ (h.1))).trans (h.1), (hb.cell (World.block_lt_of_cell? W _ (h.2.1))).trans (h.2.1), (hb.cell (World.block_lt_of_cell? W _ (h.2.2.1))).trans (h.2.2.1), (hb.cell (World.block_lt_of_cell? W _ (h.2.2.2.1))).trans (h.2.2.2.1), (hb.cell (World.block_lt_of_cell? W _ (h.2.2.2.2.1))).trans (h.2.2.2.2.1), (hb.cell (World.block_lt_of_cell? W _ (h.2.2.2.2.2.1))).trans (h.2.2.2.2.2.1), (hb.cell (World.block_lt_of_cell? W _ (h.2.2.2.2.2.2.1))).trans (h.2.2.2.2.2.2.1), (hb.cell (World.block_lt_of_cell? W _ (h.2.2.2.2.2.2.2.1))).trans (h.2.2.2.2.2.2.2.1), bel_then (h.2.2.2.2.2.2.2.2) hb⟩⟩
  have HST : Aside0 ((fun W => W.cell? ⟨w.heap.size, 0, none⟩ = some (.string nm) ∧ W.cell? ⟨w.heap.size, 1, none⟩ = some (.string m.f0.f0) ∧ W.cell? ⟨w.heap.size, 2, none⟩ = some (.string m.f0.f1) ∧ W.cell? ⟨w.heap.size, 3, none⟩ = some (.slice B0 m.f1.length d0) ∧ W.cell? ⟨w.heap.size, 4, none⟩ = some (.slice B1 m.f2.length d1) ∧ W.cell? ⟨w.heap.size, 5, none⟩ = some (.int .i64 2) ∧ W.cell? ⟨w.heap.size, 6, none⟩ = some (.int .i64 pos) ∧ W.cell? ⟨w.heap.size, 7, none⟩ = some (.slice B2 outs.length d2) ∧ Below w.heap.size w W) V.drew) := ⟨⟨by have := fv; simp [World.cell?, show V.drew.heap[w.heap.size]? = _ from this], by have := fv; simp [World.cell?, show V.drew.heap[w.heap.size]? = _ from this], by have := fv; simp [World.cell?, show V.drew.heap[w.heap.size]? = _ from this], by have := fv; simp [World.cell?, show V.drew.heap[w.heap.size]? = _ from this], by have := fv; simp [World.cell?, show V.drew.heap[w.heap.size]? = _ from this], by have := fv; simp [World.cell?, show V.drew.heap[w.heap.size]? = _ from this], by have := fv; simp [World.cell?, show V.drew.heap[w.heap.size]? = _ from this], by have := fv; simp [World.cell?, show V.drew.heap[w.heap.size]? = _ from this], bel_then bz (drew_below0 V)⟩⟩
  clear fv bz
  refine wp_region_held_drew (S := (fun W => W.cell? ⟨w.heap.size, 0, none⟩ = some (.string nm) ∧ W.cell? ⟨w.heap.size, 1, none⟩ = some (.string m.f0.f0) ∧ W.cell? ⟨w.heap.size, 2, none⟩ = some (.string m.f0.f1) ∧ W.cell? ⟨w.heap.size, 3, none⟩ = some (.slice B0 m.f1.length d0) ∧ W.cell? ⟨w.heap.size, 4, none⟩ = some (.slice B1 m.f2.length d1) ∧ W.cell? ⟨w.heap.size, 5, none⟩ = some (.int .i64 2) ∧ W.cell? ⟨w.heap.size, 6, none⟩ = some (.int .i64 pos) ∧ W.cell? ⟨w.heap.size, 7, none⟩ = some (.slice B2 outs.length d2) ∧ Below w.heap.size w W)) (by kernel_rfl) ?s197 (fun hHeld => ?t197)
  case s197 => exact HST.out
  generalize hV0 : World.drew _ = V0 at hHeld ⊢
  have F1 : Aside0 (V0.heap[w.heap.size + 1]? = some (.cells #[.string ⟨#[]⟩, .string ⟨#[]⟩, .string ⟨#[]⟩, .slice none 0 0, .slice none 0 0, .int .i64 0, .int .i64 0, .slice none 0 0] 31 (0, 0))) := ⟨by rw [← hV0]; exact FR.out⟩
  have R2 : Aside0 (Kd.R (Kd.int .i64) 3 V0 base (fun _ => True) (.slice B2 outs.length d2) outs) := ⟨by rw [← hV0]; exact Kd.R_drew RR.out⟩
  clear hV0 HST FR RR
  refine wpAnyH_take (i := 0) (oi := { dst := some 51, op := Op.load 31 (Operand.tmp 2), type := 31, pos := "l4_client.go:120", after := #[], guard := none }) (v := ?v198) rfl (by kernel_rfl) (by kernel_rfl) (by kernel_rfl) (fun _ _ _ h => h) (Or.inl ⟨by rfl, ?y198⟩) (by assumption) ?r198
  case y198 => intro w_ hSw; (try dsimp only at hSw); go_simp; (try (with_reducible rfl))
  try simp only [Act.put, List.setIfInBounds_toArray, List.set_cons_zero, List.set_cons_succ]
  refine wpAnyH_take (i := 1) (oi := { dst := some 52, op := Op.fieldAddr 31 (Operand.tmp 2) 1, type := 0, pos := "l4_client.go:120", after := #[], guard := none }) (v := ?v199) rfl (by kernel_rfl) (by kernel_rfl) (by kernel_rfl) (fun _ _ _ h => h) (Or.inl ⟨by rfl, ?y199⟩) (by assumption) ?r199
  case y199 => intro w_ hSw; (try dsimp only at hSw); go_simp; (try (with_reducible rfl))
  try simp only [Act.put, List.setIfInBounds_toArray, List.set_cons_zero, List.set_cons_succ]
  refine wpAnyH_take (i := 2) (oi := { dst := some 53, op := Op.fieldAddr 28 (Operand.tmp 52) 0, type := 0, pos := "l4_client.go:120", after := #[{ on := 1, ground := Ground.data }], guard := none }) (v := ?v200) rfl (by kernel_rfl) (by kernel_rfl) (by kernel_rfl) (fun _ _ _ h => h) (Or.inl ⟨by rfl, ?y200⟩) (by assumption) ?r200
  case y200 => intro w_ hSw; (try dsimp only at hSw); go_simp; (try (with_reducible rfl))
  try simp only [Act.put, List.setIfInBounds_toArray, List.set_cons_zero, List.set_cons_succ]
  refine wpAnyH_take (i := 3) (oi := { dst := some 54, op := Op.load 24 (Operand.tmp 53), type := 24, pos := "l4_client.go:120", after := #[{ on := 2, ground := Ground.data }], guard := none }) (v := ?v201) rfl (by kernel_rfl) (by kernel_rfl) (by kernel_rfl) (fun _ _ _ h => h) (Or.inl ⟨by rfl, ?y201⟩) (by assumption) ?r201
  case y201 => intro w_ hSw; (try dsimp only at hSw); go_simp; (try (with_reducible rfl))
  try simp only [Act.put, List.setIfInBounds_toArray, List.set_cons_zero, List.set_cons_succ]
  refine wpAnyH_ready (rs := [4]) (by kernel_rfl) (by simp) ?_
  refine AllReadyH.cons (o := { dst := some 55, op := Op.call { callee := Callee.value (Operand.func 109), args := #[Operand.tmp 54], argTypes := #[24] }, type := 9, pos := "l4_client.go:120", after := #[{ on := 3, ground := Ground.data }], guard := none }) rfl (fun K hK => ?k202) AllReadyH.nil
  case k202 =>
    go_simp
    refine (htext _ (hHeld.2.2.2.2.2.2.2.2)).mono ?_
    rintro e V4 ⟨rfl, b4⟩
    refine hK.out _ _ ?h203 (fun hHeld => ?j203)
    case h203 => exact HK.out _ _ b4 hHeld
    clear hK K
    try simp only [Act.put, List.setIfInBounds_toArray, List.set_cons_zero, List.set_cons_succ]
    replace F1 := Aside0.mk (below_blk F1.out b4)
    replace R2 := Aside0.mk (Kd.R_below R2.out b4)
    refine wpAnyH_take (i := 5) (oi := { dst := some 56, op := Op.binOp BinOp.add 9 (Operand.const (Value.string { data := #[77, 65, 73, 76, 32, 70, 82, 79, 77, 58] })) (Operand.tmp 55) 9, type := 9, pos := "l4_client.go:120", after := #[{ on := 4, ground := Ground.data }, { on := 6, ground := Ground.gcOnly Departure.lateStores }], guard := none }) (v := ?v204) rfl (by kernel_rfl) (by kernel_rfl) (by kernel_rfl) (fun _ _ _ h => h) (Or.inl ⟨by rfl, ?y204⟩) (by assumption) ?r204
    case y204 => intro w_ hSw; (try dsimp only at hSw); go_simp; (try (with_reducible rfl))
    try simp only [Act.put, List.setIfInBounds_toArray, List.set_cons_zero, List.set_cons_succ]
    refine wpAnyH_ready (rs := [6]) (by kernel_rfl) (by simp) ?_
    refine AllReadyH.cons (o := { dst := none, op := Op.store 31 (Operand.tmp 4) (Operand.tmp 51), type := 0, pos := "l4_client.go:120", after := #[{ on := 0, ground := Ground.data }, { on := 4, ground := Ground.chain }, { on := 0, ground := Ground.phase }, { on := 1, ground := Ground.textOnly Departure.lateStores }, { on := 2, ground := Ground.textOnly Departure.lateStores }, { on := 3, ground := Ground.textOnly Departure.lateStores }, { on := 4, ground := Ground.textOnly Departure.lateStoresUnsure }, { on := 5, ground := Ground.textOnly Departure.lateStores }], guard := none }) rfl (fun K hK => ?k205) AllReadyH.nil
    case k205 =>
      have hb7 := F1.out
      have v0_ : V4.cell? ⟨w.heap.size + 1, 0, none⟩ = some (.string ⟨#[]⟩) := by simp [World.cell?, hb7]
      have v1_ : V4.cell? ⟨w.heap.size + 1, 1, none⟩ = some (.string ⟨#[]⟩) := by simp [World.cell?, hb7]
      have v2_ : V4.cell? ⟨w.heap.size + 1, 2, none⟩ = some (.string ⟨#[]⟩) := by simp [World.cell?, hb7]
      have v3_ : V4.cell? ⟨w.heap.size + 1, 3, none⟩ = some (.slice none 0 0) := by simp [World.cell?, hb7]
      have v4_ : V4.cell? ⟨w.heap.size + 1, 4, none⟩ = some (.slice none 0 0) := by simp [World.cell?, hb7]
      have v5_ : V4.cell? ⟨w.heap.size + 1, 5, none⟩ = some (.int .i64 0) := by simp [World.cell?, hb7]
      have v6_ : V4.cell? ⟨w.heap.size + 1, 6, none⟩ = some (.int .i64 0) := by simp [World.cell?, hb7]
      have v7_ : V4.cell? ⟨w.heap.size + 1, 7, none⟩ = some (.slice none 0 0) := by simp [World.cell?, hb7]
      have u0_ : V4.frozen? ⟨w.heap.size + 1, 0, none⟩ = false := by simp [World.frozen?, hb7]
      have u1_ : V4.frozen? ⟨w.heap.size + 1, 1, none⟩ = false := by simp [World.frozen?, hb7]
      have u2_ : V4.frozen? ⟨w.heap.size + 1, 2, none⟩ = false := by simp [World.frozen?, hb7]
      have u3_ : V4.frozen? ⟨w.heap.size + 1, 3, none⟩ = false := by simp [World.frozen?, hb7]
      have u4_ : V4.frozen? ⟨w.heap.size + 1, 4, none⟩ = false := by simp [World.frozen?, hb7]
      have u5_ : V4.frozen? ⟨w.heap.size + 1, 5, none⟩ = false := by simp [World.frozen?, hb7]
      have u6_ : V4.frozen? ⟨w.heap.size + 1, 6, none⟩ = false := by simp [World.frozen?, hb7]
      have u7_ : V4.frozen? ⟨w.heap.size + 1, 7, none⟩ = false := by simp [World.frozen?, hb7]
      go_simp
      generalize hV6 : World.setCell (World.setCell (World.setCell (World.setCell (World.setCell (World.setCell (World.setCell (World.setCell V4 ⟨w.heap.size + 1, 0, none⟩ _) ⟨w.heap.size + 1, 1, none⟩ _) ⟨w.heap.size + 1, 2, none⟩ _) ⟨w.heap.size + 1, 3, none⟩ _) ⟨w.heap.size + 1, 4, none⟩ _) ⟨w.heap.size + 1, 5, none⟩ _) ⟨w.heap.size + 1, 6, none⟩ _) ⟨w.heap.size + 1, 7, none⟩ _ = V6
      have G6 : V4.grownBy V6 (some (w.heap.size + 1)) := by rw [← hV6]; exact (((((((grown_set1 _ _ _ _).trans (grown_set1 _ _ _ _)).trans (grown_set1 _ _ _ _)).trans (grown_set1 _ _ _ _)).trans (grown_set1 _ _ _ _)).trans (grown_set1 _ _ _ _)).trans (grown_set1 _ _ _ _)).trans (grown_set1 _ _ _ _)
      have FF : V6.heap[w.heap.size + 1]? = some (.cells #[.string nm, .string m.f0.f0, .string m.f0.f1, .slice B0 m.f1.length d0, .slice B1 m.f2.length d1, .int .i64 2, .int .i64 pos, .slice B2 outs.length d2] 31 (0, 0)) := by rw [← hV6, blk_set1 (blk_set1 (blk_set1 (blk_set1 (blk_set1 (blk_set1 (blk_set1 (blk_set1 (F1.out) 0 _) 1 _) 2 _) 3 _) 4 _) 5 _) 6 _) 7 _]; simp
      have BB : Below w.heap.size w V6 := by rw [← hV6]; exact (bel_set (bel_set (bel_set (bel_set (bel_set (bel_set (bel_set (bel_set hHeld.2.2.2.2.2.2.2.2 _ (by show w.heap.size ≤ w.heap.size + 1; omega)) _ (by show w.heap.size ≤ w.heap.size + 1; omega)) _ (by show w.heap.size ≤ w.heap.size + 1; omega)) _ (by show w.heap.size ≤ w.heap.size + 1; omega)) _ (by show w.heap.size ≤ w.heap.size + 1; omega)) _ (by show w.heap.size ≤ w.heap.size + 1; omega)) _ (by show w.heap.size ≤ w.heap.size + 1; omega)) _ (by show w.heap.size ≤ w.heap.size + 1; omega))
      clear hV6
      refine hK.out _ _ ?h206 (fun hHeld => ?j206)
      case h206 => exact ⟨(World.cell?_of_block (G6.block _ (World.block_lt_of_cell? _ _ hHeld.1) (fun e => by have e := Option.some.inj e; (try dsimp only at e); omega))).trans hHeld.1, (World.cell?_of_block (G6.block _ (World.block_lt_of_cell? _ _ hHeld.2.1) (fun e => by have e := Option.some.inj e; (try dsimp only at e); omega))).trans hHeld.2.1, (World.cell?_of_block (G6.block _ (World.block_lt_of_cell? _ _ hHeld.2.2.1) (fun e => by have e := Option.some.inj e; (try dsimp only at e); omega))).trans hHeld.2.2.1, (World.cell?_of_block (G6.block _ (World.block_lt_of_cell? _ _ hHeld.2.2.2.1) (fun e => by have e := Option.some.inj e; (try dsimp only at e); omega))).trans hHeld.2.2.2.1, (World.cell?_of_block (G6.block _ (World.block_lt_of_cell? _ _ hHeld.2.2.2.2.1) (fun e => by have e := Option.some.inj e; (try dsimp only at e); omega))).trans hHeld.2.2.2.2.1, (World.cell?_of_block (G6.block _ (World.block_lt_of_cell? _ _ hHeld.2.2.2.2.2.1) (fun e => by have e := Option.some.inj e; (try dsimp only at e); omega))).trans hHeld.2.2.2.2.2.1, (World.cell?_of_block (G6.block _ (World.block_lt_of_cell? _ _ hHeld.2.2.2.2.2.2.1) (fun e => by have e := Option.some.inj e; (try dsimp only at e); omega))).trans hHeld.2.2.2.2.2.2.1, (World.cell?_of_block (G6.block _ (World.block_lt_of_cell? _ _ hHeld.2.2.2.2.2.2.2.1) (fun e => by have e := Option.some.inj e; (try dsimp only at e); omega))).trans hHeld.2.2.2.2.2.2.2.1, BB⟩
      clear hK K
      try simp only [Act.put, List.setIfInBounds_toArray, List.set_cons_zero, List.set_cons_succ]
      replace R2 := Aside0.mk (R_else R2.out rfl G6 (Kd.R_ne R2.out F1.out (by decide)))
      replace F1 := Aside0.mk FF
      clear FF
      refine wpAnyH_take (i := 7) (oi := { dst := some 5, op := Op.assign (Operand.tmp 56), type := 9, pos := "l4_client.go:120", after := #[{ on := 5, ground := Ground.data }, { on := 6, ground := Ground.chain }, { on := 0, ground := Ground.phase }, { on := 1, ground := Ground.phase }, { on := 2, ground := Ground.phase }, { on := 3, ground := Ground.phase }, { on := 4, ground := Ground.phase }, { on := 5, ground := Ground.phase }, { on := 6, ground := Ground.phase }], guard := none }) (v := ?v207) rfl (by kernel_rfl) (by kernel_rfl) (by kernel_rfl) (fun _ _ _ h => h) (Or.inl ⟨by rfl, ?y207⟩) (by assumption) ?r207
      case y207 => intro w_ hSw; (try dsimp only at hSw); go_simp; (try (with_reducible rfl))
      try simp only [Act.put, List.setIfInBounds_toArray, List.set_cons_zero, List.set_cons_succ]
      refine wpAnyH_done (by kernel_rfl) ?_ _
      obtain ⟨m0_, m1_, m2_, m3_, m4_, m5_, m6_, m7_⟩ := cells8 F1.out
      have hfin := hHeld.2.2.2.2.2.2.2.2
      clear hHeld
      go_wp2
      refine bodyPost_ret (v := .tuple #[.agg #[.string nm, .string m.f0.f0, .string m.f0.f1, .slice B0 m.f1.length d0, .slice B1 m.f2.length d1, .int .i64 2, .int .i64 pos, .slice B2 outs.length d2], .string ((⟨#[77, 65, 73, 76, 32, 70, 82, 79, 77, 58]⟩ : ByteArray) ++ textS m.f0.f0 m.f0.f1)]) ?hrL1 rfl ?hpL1
      case hrL1 => simp [results, Tryz.results63, go_sem, m0_, m1_, m2_, m3_, m4_, m5_, m6_, m7_]
      case hpL1 =>
        exact ⟨B2, d2, rfl, R2.out, hfin⟩


set_option maxRecDepth 100000 in
set_option maxHeartbeats 4000000 in
theorem specStep4_any (nm : ByteArray) (m : SMail) (pos : Int) (outs : List Int) (B0 : Option Addr) (d0 : Nat) (B1 : Option Addr) (d1 : Nat) (B2 : Option Addr) (d2 : Nat) (answer : ByteArray) (code : Int) (base : Nat) (w : World)
    (hm : fitMail m) (hnm : nm.size ≤ 1048576) (h0 : 0 ≤ pos) (h1 : pos ≤ (m.f1.length : Int)) (hl : outs.length ≤ 1048576) (hbase : base ≤ w.heap.size) (hc : code = 354) (hcode : ∀ W, Calls Tryz.prog 107 #[.string answer] W fun e w' => e = .returned (.int .i64 code) ∧ Below W.heap.size W w')
    (hr0 : Kd.C kAddr w B0 m.f1.length m.f1) (hr1 : Kd.C Kd.string w B1 m.f2.length m.f2) (u2 : Kd.R (Kd.int .i64) 3 w base (fun _ => True) (.slice B2 outs.length d2) outs) :
    Calls Tryz.prog 63 #[.agg #[.string nm, .string m.f0.f0, .string m.f0.f1, .slice B0 m.f1.length d0, .slice B1 m.f2.length d1, .int .i64 4, .int .i64 pos, .slice B2 outs.length d2], .string answer] w fun e w' => ∃ B d, e = .returned (.tuple #[.agg #[.string nm, .string m.f0.f0, .string m.f0.f1, .slice B0 m.f1.length d0, .slice B1 m.f2.length d1, .int .i64 5, .int .i64 pos, .slice B outs.length d], .string (dots m.f2)]) ∧ Kd.R (Kd.int .i64) 3 w' base (fun _ => True) (.slice B outs.length d) (outs) ∧ Below w.heap.size w w' := by
  have HMM := Lib.hid hm
  have HR0 := Lib.hid hr0
  have HR1 := Lib.hid hr1
  have U2 := Lib.hid u2
  clear hm hr0 hr1 u2
  subst hc
  have htext := fun W (hW : Below w.heap.size w W) => specDots_any B1 d1 m.f2 W (Kd.C_below HR1.out hW) HMM.out.2.2.1 HMM.out.2.2.2
  obtain ⟨W0, hW0⟩ : ∃ W, W = (w.alloc (.cells #[.string nm, .string m.f0.f0, .string m.f0.f1, .slice B0 m.f1.length d0, .slice B1 m.f2.length d1, .int .i64 4, .int .i64 pos, .slice B2 outs.length d2] 31)).alloc (.cells #[.string ⟨#[]⟩, .string ⟨#[]⟩, .string ⟨#[]⟩, .slice none 0 0, .slice none 0 0, .int .i64 0, .int .i64 0, .slice none 0 0] 31) := ⟨_, rfl⟩
  have HF0 : Aside0 (W0.heap[w.heap.size]? = some (.cells #[.string nm, .string m.f0.f0, .string m.f0.f1, .slice B0 m.f1.length d0, .slice B1 m.f2.length d1, .int .i64 4, .int .i64 pos, .slice B2 outs.length d2] 31 (0, 0))) := ⟨by rw [hW0]; exact below_blk (blk_new _ _) (bel_alloc (Below.refl _ _) _)⟩
  have HF1 : Aside0 (W0.heap[w.heap.size + 1]? = some (.cells #[.string ⟨#[]⟩, .string ⟨#[]⟩, .string ⟨#[]⟩, .slice none 0 0, .slice none 0 0, .int .i64 0, .int .i64 0, .slice none 0 0] 31 (0, 0))) := ⟨by rw [hW0, show w.heap.size + 1 = (w.alloc (.cells #[.string nm, .string m.f0.f0, .string m.f0.f1, .slice B0 m.f1.length d0, .slice B1 m.f2.length d1, .int .i64 4, .int .i64 pos, .slice B2 outs.length d2] 31)).heap.size by simp]; exact blk_new _ _⟩
  have BL0 : Below w.heap.size w W0 := by rw [hW0]; exact bel_alloc (bel_alloc (Below.refl _ _) _) _
  have HW0 := Lib.hid hW0
  clear hW0
  have SB := Lib.hid (Nat.le_trans hbase BL0.size)
  go_enter Tryz.func63, Tryz.ntmps63
  go_wp2_with fail
  rw [← HW0.out]
  refine (hcode _).mono ?_
  rintro e w1 ⟨rfl, b1⟩
  have b0 := bel_then BL0 b1
  have F0 := Aside0.mk (below_blk HF0.out b1)
  have F1 := Aside0.mk (below_blk HF1.out b1)
  have R2 := Aside0.mk (Kd.R_below U2.out b0)
  have NE0 := Lib.hid (Kd.R_ne R2.out F0.out (by decide))
  have NE1 := Lib.hid (Kd.R_ne R2.out F1.out (by decide))
  clear b1 HF0 HF1 BL0 hcode
  obtain ⟨c0_, c1_, c2_, c3_, c4_, c5_, c6_, c7_⟩ := cells8 F0.out
  obtain ⟨cz0_, cz1_, cz2_, cz3_, cz4_, cz5_, cz6_, cz7_⟩ := froz8 F0.out
  obtain ⟨k0_, k1_, k2_, k3_, k4_, k5_, k6_, k7_⟩ := cells8 F1.out
  obtain ⟨kz0_, kz1_, kz2_, kz3_, kz4_, kz5_, kz6_, kz7_⟩ := froz8 F1.out
  go_wp2
  generalize hV : World.setCell w1 _ _ = V
  have fv : V.heap[w.heap.size]? = some (.cells #[.string nm, .string m.f0.f0, .string m.f0.f1, .slice B0 m.f1.length d0, .slice B1 m.f2.length d1, .int .i64 5, .int .i64 pos, .slice B2 outs.length d2] 31 (0, 0)) := by rw [← hV]; exact (blk_set1 F0.out 5 _).trans (by simp)
  have gv : w1.grownBy V (some w.heap.size) := by rw [← hV]; exact grown_set1 _ _ _ _
  have FR := Aside0.mk ((gv.block _ (blk_lt F1.out) (fun e => by have e := Option.some.inj e; omega)).trans F1.out)
  have RR := Aside0.mk (R_else R2.out rfl gv NE0.out)
  have bz : Below w.heap.size w V := by rw [← hV]; exact bel_set b0 _ (Nat.le_refl _)
  clear hV gv F0 F1 R2 NE0 NE1 b0 c0_ cz0_ c1_ cz1_ c2_ cz2_ c3_ cz3_ c4_ cz4_ c5_ cz5_ c6_ cz6_ c7_ cz7_ k0_ kz0_ k1_ kz1_ k2_ kz2_ k3_ kz3_ k4_ kz4_ k5_ kz5_ k6_ kz6_ k7_ kz7_
  have HK : Aside0 (∀ W W1, Below W.heap.size W W1 → (W.cell? ⟨w.heap.size, 0, none⟩ = some (.string nm) ∧ W.cell? ⟨w.heap.size, 1, none⟩ = some (.string m.f0.f0) ∧ W.cell? ⟨w.heap.size, 2, none⟩ = some (.string m.f0.f1) ∧ W.cell? ⟨w.heap.size, 3, none⟩ = some (.slice B0 m.f1.length d0) ∧ W.cell? ⟨w.heap.size, 4, none⟩ = some (.slice B1 m.f2.length d1) ∧ W.cell? ⟨w.heap.size, 5, none⟩ = some (.int .i64 5) ∧ W.cell? ⟨w.heap.size, 6, none⟩ = some (.int .i64 pos) ∧ W.cell? ⟨w.heap.size, 7, none⟩ = some (.slice B2 outs.length d2) ∧ Below w.heap.size w W) → (W1.cell? ⟨w.heap.size, 0, none⟩ = some (.string nm) ∧ W1.cell? ⟨w.heap.size, 1, none⟩ = some (.string m.f0.f0) ∧ W1.cell? ⟨w.heap.size, 2, none⟩ = some (.string m.f0.f1) ∧ W1.cell? ⟨w.heap.size, 3, none⟩ = some (.slice B0 m.f1.length d0) ∧ W1.cell? ⟨w.heap.size, 4, none⟩ = some (.slice B1 m.f2.length d1) ∧ W1.cell? ⟨w.heap.size, 5, none⟩ = some (.int .i64 5) ∧ W1.cell? ⟨w.heap.size, 6, none⟩ = some (.int .i64 pos) ∧ W1.cell? ⟨w.heap.size, 7, none⟩ = some (.slice B2 outs.length d2) ∧ Below w.heap.size w W1)) := ⟨fun W W1 hb h => ⟨(hb.cell (World.block_lt_of_cell? W _ (h.1))).trans (h.1), (hb.cell (World.block_lt_of_cell? W _ (h.2.1))).trans (h.2.1), (hb.cell (World.block_lt_of_cell? W _ (h.2.2.1))).trans (h.2.2.1), (hb.cell (World.block_lt_of_cell? W _ (h.2.2.2.1))).trans (h.2.2.2.1), (hb.cell (World.block_lt_of_cell? W _ (h.2.2.2.2.1))).trans (h.2.2.2.2.1), (hb.cell (World.block_lt_of_cell? W _ (h.2.2.2.2.2.1))).trans (h.2.2.2.2.2.1), (hb.cell (World.block_lt_of_cell? W _ (h.2.2.2.2.2.2.1))).trans (h.2.2.2.2.2.2.1), (hb.cell (World.block_lt_of_cell? W _ (h.2.2.2.2.2.2.2.1))).trans (h.2.2.2.2.2.2.2.1), bel_then (h.2.2.2.2.2.2.2.2) hb⟩⟩
  have HST : Aside0 ((fun W => W.cell? ⟨w.heap.size, 0, none⟩ = some (.string nm) ∧ W.cell? ⟨w.heap.size, 1, none⟩ = some (.string m.f0.f0) ∧ W.cell? ⟨w.heap.size, 2, none⟩ = some (.string m.f0.f1) ∧ W.cell? ⟨w.heap.size, 3, none⟩ = some (.slice B0 m.f1.length d0) ∧ W.cell? ⟨w.heap.size, 4, none⟩ = some (.slice B1 m.f2.length d1) ∧ W.cell? ⟨w.heap.size, 5, none⟩ = some (.int .i64 5) ∧ W.cell? ⟨w.heap.size, 6, none⟩ = some (.int .i64 pos) ∧ W.cell? ⟨w.heap.size, 7, none⟩ = some (.slice B2 outs.length d2) ∧ Below w.heap.size w W) V.drew) := ⟨⟨by have := fv; simp [World.cell?, show V.drew.heap[w.heap.size]? = _ from this], by have := fv; simp [World.cell?, show V.drew.heap[w.heap.size]? = _ from this], by have := fv; simp [World.cell?, show V.drew.heap[w.heap.size]? = _ from this], by have := fv; simp [World.cell?, show V.drew.heap[w.heap.size]? = _ from this], by have := fv; simp [World.cell?, show V.drew.heap[w.heap.size]? = _ from this], by have := fv; simp [World.cell?, show V.drew.heap[w.heap.size]? = _ from this], by have := fv; simp [World.cell?, show V.drew.heap[w.heap.size]? = _ from this], by have := fv; simp [World.cell?, show V.drew.heap[w.heap.size]? = _ from this], bel_then bz (drew_below0 V)⟩⟩
  clear fv bz
  refine wp_region_held_drew (S := (fun W => W.cell? ⟨w.heap.size, 0, none⟩ = some (.string nm) ∧ W.cell? ⟨w.heap.size, 1, none⟩ = some (.string m.f0.f0) ∧ W.cell? ⟨w.heap.size, 2, none⟩ = some (.string m.f0.f1) ∧ W.cell? ⟨w.heap.size, 3, none⟩ = some (.slice B0 m.f1.length d0) ∧ W.cell? ⟨w.heap.size, 4, none⟩ = some (.slice B1 m.f2.length d1) ∧ W.cell? ⟨w.heap.size, 5, none⟩ = some (.int .i64 5) ∧ W.cell? ⟨w.heap.size, 6, none⟩ = some (.int .i64 pos) ∧ W.cell? ⟨w.heap.size, 7, none⟩ = some (.slice B2 outs.length d2) ∧ Below w.heap.size w W)) (by kernel_rfl) ?s208 (fun hHeld => ?t208)
  case s208 => exact HST.out
  generalize hV0 : World.drew _ = V0 at hHeld ⊢
  have F1 : Aside0 (V0.heap[w.heap.size + 1]? = some (.cells #[.string ⟨#[]⟩, .string ⟨#[]⟩, .string ⟨#[]⟩, .slice none 0 0, .slice none 0 0, .int .i64 0, .int .i64 0, .slice none 0 0] 31 (0, 0))) := ⟨by rw [← hV0]; exact FR.out⟩
  have R2 : Aside0 (Kd.R (Kd.int .i64) 3 V0 base (fun _ => True) (.slice B2 outs.length d2) outs) := ⟨by rw [← hV0]; exact Kd.R_drew RR.out⟩
  clear hV0 HST FR RR
  refine wpAnyH_take (i := 0) (oi := { dst := some 78, op := Op.load 31 (Operand.tmp 2), type := 31, pos := "l4_client.go:125", after := #[], guard := none }) (v := ?v209) rfl (by kernel_rfl) (by kernel_rfl) (by kernel_rfl) (fun _ _ _ h => h) (Or.inl ⟨by rfl, ?y209⟩) (by assumption) ?r209
  case y209 => intro w_ hSw; (try dsimp only at hSw); go_simp; (try (with_reducible rfl))
  try simp only [Act.put, List.setIfInBounds_toArray, List.set_cons_zero, List.set_cons_succ]
  refine wpAnyH_take (i := 1) (oi := { dst := some 79, op := Op.fieldAddr 31 (Operand.tmp 2) 1, type := 0, pos := "l4_client.go:125", after := #[], guard := none }) (v := ?v210) rfl (by kernel_rfl) (by kernel_rfl) (by kernel_rfl) (fun _ _ _ h => h) (Or.inl ⟨by rfl, ?y210⟩) (by assumption) ?r210
  case y210 => intro w_ hSw; (try dsimp only at hSw); go_simp; (try (with_reducible rfl))
  try simp only [Act.put, List.setIfInBounds_toArray, List.set_cons_zero, List.set_cons_succ]
  refine wpAnyH_take (i := 2) (oi := { dst := some 80, op := Op.fieldAddr 28 (Operand.tmp 79) 2, type := 0, pos := "l4_client.go:125", after := #[{ on := 1, ground := Ground.data }], guard := none }) (v := ?v211) rfl (by kernel_rfl) (by kernel_rfl) (by kernel_rfl) (fun _ _ _ h => h) (Or.inl ⟨by rfl, ?y211⟩) (by assumption) ?r211
  case y211 => intro w_ hSw; (try dsimp only at hSw); go_simp; (try (with_reducible rfl))
  try simp only [Act.put, List.setIfInBounds_toArray, List.set_cons_zero, List.set_cons_succ]
  refine wpAnyH_take (i := 3) (oi := { dst := some 81, op := Op.load 26 (Operand.tmp 80), type := 26, pos := "l4_client.go:125", after := #[{ on := 2, ground := Ground.data }], guard := none }) (v := ?v212) rfl (by kernel_rfl) (by kernel_rfl) (by kernel_rfl) (fun _ _ _ h => h) (Or.inl ⟨by rfl, ?y212⟩) (by assumption) ?r212
  case y212 => intro w_ hSw; (try dsimp only at hSw); go_simp; (try (with_reducible rfl))
  try simp only [Act.put, List.setIfInBounds_toArray, List.set_cons_zero, List.set_cons_succ]
  refine wpAnyH_ready (rs := [4]) (by kernel_rfl) (by simp) ?_
  refine AllReadyH.cons (o := { dst := some 82, op := Op.call { callee := Callee.value (Operand.func 111), args := #[Operand.tmp 81], argTypes := #[26] }, type := 9, pos := "l4_client.go:125", after := #[{ on := 3, ground := Ground.data }], guard := none }) rfl (fun K hK => ?k213) AllReadyH.nil
  case k213 =>
    go_simp
    refine (htext _ (hHeld.2.2.2.2.2.2.2.2)).mono ?_
    rintro e V4 ⟨rfl, b4⟩
    refine hK.out _ _ ?h214 (fun hHeld => ?j214)
    case h214 => exact HK.out _ _ b4 hHeld
    clear hK K
    try simp only [Act.put, List.setIfInBounds_toArray, List.set_cons_zero, List.set_cons_succ]
    replace F1 := Aside0.mk (below_blk F1.out b4)
    replace R2 := Aside0.mk (Kd.R_below R2.out b4)
    refine wpAnyH_ready (rs := [5]) (by kernel_rfl) (by simp) ?_
    refine AllReadyH.cons (o := { dst := none, op := Op.store 31 (Operand.tmp 4) (Operand.tmp 78), type := 0, pos := "l4_client.go:125", after := #[{ on := 0, ground := Ground.data }, { on := 4, ground := Ground.chain }, { on := 0, ground := Ground.phase }, { on := 1, ground := Ground.textOnly Departure.lateStores }, { on := 2, ground := Ground.textOnly Departure.lateStores }, { on := 3, ground := Ground.textOnly Departure.lateStores }, { on := 4, ground := Ground.textOnly Departure.lateStoresUnsure }], guard := none }) rfl (fun K hK => ?k215) AllReadyH.nil
    case k215 =>
      have hb7 := F1.out
      have v0_ : V4.cell? ⟨w.heap.size + 1, 0, none⟩ = some (.string ⟨#[]⟩) := by simp [World.cell?, hb7]
      have v1_ : V4.cell? ⟨w.heap.size + 1, 1, none⟩ = some (.string ⟨#[]⟩) := by simp [World.cell?, hb7]
      have v2_ : V4.cell? ⟨w.heap.size + 1, 2, none⟩ = some (.string ⟨#[]⟩) := by simp [World.cell?, hb7]
      have v3_ : V4.cell? ⟨w.heap.size + 1, 3, none⟩ = some (.slice none 0 0) := by simp [World.cell?, hb7]
      have v4_ : V4.cell? ⟨w.heap.size + 1, 4, none⟩ = some (.slice none 0 0) := by simp [World.cell?, hb7]
      have v5_ : V4.cell? ⟨w.heap.size + 1, 5, none⟩ = some (.int .i64 0) := by simp [World.cell?, hb7]
      have v6_ : V4.cell? ⟨w.heap.size + 1, 6, none⟩ = some (.int .i64 0) := by simp [World.cell?, hb7]
      have v7_ : V4.cell? ⟨w.heap.size + 1, 7, none⟩ = some (.slice none 0 0) := by simp [World.cell?, hb7]
      have u0_ : V4.frozen? ⟨w.heap.size + 1, 0, none⟩ = false := by simp [World.frozen?, hb7]
      have u1_ : V4.frozen? ⟨w.heap.size + 1, 1, none⟩ = false := by simp [World.frozen?, hb7]
      have u2_ : V4.frozen? ⟨w.heap.size + 1, 2, none⟩ = false := by simp [World.frozen?, hb7]
      have u3_ : V4.frozen? ⟨w.heap.size + 1, 3, none⟩ = false := by simp [World.frozen?, hb7]
      have u4_ : V4.frozen? ⟨w.heap.size + 1, 4, none⟩ = false := by simp [World.frozen?, hb7]
      have u5_ : V4.frozen? ⟨w.heap.size + 1, 5, none⟩ = false := by simp [World.frozen?, hb7]
      have u6_ : V4.frozen? ⟨w.heap.size + 1, 6, none⟩ = false := by simp [World.frozen?, hb7]
      have u7_ : V4.frozen? ⟨w.heap.size + 1, 7, none⟩ = false := by simp [World.frozen?, hb7]
      go_simp
      generalize hV5 : World.setCell (World.setCell (World.setCell (World.setCell (World.setCell (World.setCell (World.setCell (World.setCell V4 ⟨w.heap.size + 1, 0, none⟩ _) ⟨w.heap.size + 1, 1, none⟩ _) ⟨w.heap.size + 1, 2, none⟩ _) ⟨w.heap.size + 1, 3, none⟩ _) ⟨w.heap.size + 1, 4, none⟩ _) ⟨w.heap.size + 1, 5, none⟩ _) ⟨w.heap.size + 1, 6, none⟩ _) ⟨w.heap.size + 1, 7, none⟩ _ = V5
      have G5 : V4.grownBy V5 (some (w.heap.size + 1)) := by rw [← hV5]; exact (((((((grown_set1 _ _ _ _).trans (grown_set1 _ _ _ _)).trans (grown_set1 _ _ _ _)).trans (grown_set1 _ _ _ _)).trans (grown_set1 _ _ _ _)).trans (grown_set1 _ _ _ _)).trans (grown_set1 _ _ _ _)).trans (grown_set1 _ _ _ _)
      have FF : V5.heap[w.heap.size + 1]? = some (.cells #[.string nm, .string m.f0.f0, .string m.f0.f1, .slice B0 m.f1.length d0, .slice B1 m.f2.length d1, .int .i64 5, .int .i64 pos, .slice B2 outs.length d2] 31 (0, 0)) := by rw [← hV5, blk_set1 (blk_set1 (blk_set1 (blk_set1 (blk_set1 (blk_set1 (blk_set1 (blk_set1 (F1.out) 0 _) 1 _) 2 _) 3 _) 4 _) 5 _) 6 _) 7 _]; simp
      have BB : Below w.heap.size w V5 := by rw [← hV5]; exact (bel_set (bel_set (bel_set (bel_set (bel_set (bel_set (bel_set (bel_set hHeld.2.2.2.2.2.2.2.2 _ (by show w.heap.size ≤ w.heap.size + 1; omega)) _ (by show w.heap.size ≤ w.heap.size + 1; omega)) _ (by show w.heap.size ≤ w.heap.size + 1; omega)) _ (by show w.heap.size ≤ w.heap.size + 1; omega)) _ (by show w.heap.size ≤ w.heap.size + 1; omega)) _ (by show w.heap.size ≤ w.heap.size + 1; omega)) _ (by show w.heap.size ≤ w.heap.size + 1; omega)) _ (by show w.heap.size ≤ w.heap.size + 1; omega))
      clear hV5
      refine hK.out _ _ ?h216 (fun hHeld => ?j216)
      case h216 => exact ⟨(World.cell?_of_block (G5.block _ (World.block_lt_of_cell? _ _ hHeld.1) (fun e => by have e := Option.some.inj e; (try dsimp only at e); omega))).trans hHeld.1, (World.cell?_of_block (G5.block _ (World.block_lt_of_cell? _ _ hHeld.2.1) (fun e => by have e := Option.some.inj e; (try dsimp only at e); omega))).trans hHeld.2.1, (World.cell?_of_block (G5.block _ (World.block_lt_of_cell? _ _ hHeld.2.2.1) (fun e => by have e := Option.some.inj e; (try dsimp only at e); omega))).trans hHeld.2.2.1, (World.cell?_of_block (G5.block _ (World.block_lt_of_cell? _ _ hHeld.2.2.2.1) (fun e => by have e := Option.some.inj e; (try dsimp only at e); omega))).trans hHeld.2.2.2.1, (World.cell?_of_block (G5.block _ (World.block_lt_of_cell? _ _ hHeld.2.2.2.2.1) (fun e => by have e := Option.some.inj e; (try dsimp only at e); omega))).trans hHeld.2.2.2.2.1, (World.cell?_of_block (G5.block _ (World.block_lt_of_cell? _ _ hHeld.2.2.2.2.2.1) (fun e => by have e := Option.some.inj e; (try dsimp only at e); omega))).trans hHeld.2.2.2.2.2.1, (World.cell?_of_block (G5.block _ (World.block_lt_of_cell? _ _ hHeld.2.2.2.2.2.2.1) (fun e => by have e := Option.some.inj e; (try dsimp only at e); omega))).trans hHeld.2.2.2.2.2.2.1, (World.cell?_of_block (G5.block _ (World.block_lt_of_cell? _ _ hHeld.2.2.2.2.2.2.2.1) (fun e => by have e := Option.some.inj e; (try dsimp only at e); omega))).trans hHeld.2.2.2.2.2.2.2.1, BB⟩
      clear hK K
      try simp only [Act.put, List.setIfInBounds_toArray, List.set_cons_zero, List.set_cons_succ]
      replace R2 := Aside0.mk (R_else R2.out rfl G5 (Kd.R_ne R2.out F1.out (by decide)))
      replace F1 := Aside0.mk FF
      clear FF
      refine wpAnyH_take (i := 6) (oi := { dst := some 5, op := Op.assign (Operand.tmp 82), type := 9, pos := "l4_client.go:125", after := #[{ on := 4, ground := Ground.data }, { on := 5, ground := Ground.chain }, { on := 0, ground := Ground.phase }, { on := 1, ground := Ground.phase }, { on := 2, ground := Ground.phase }, { on := 3, ground := Ground.phase }, { on := 4, ground := Ground.phase }, { on := 5, ground := Ground.phase }], guard := none }) (v := ?v217) rfl (by kernel_rfl) (by kernel_rfl) (by kernel_rfl) (fun _ _ _ h => h) (Or.inl ⟨by rfl, ?y217⟩) (by assumption) ?r217
      case y217 => intro w_ hSw; (try dsimp only at hSw); go_simp; (try (with_reducible rfl))
      try simp only [Act.put, List.setIfInBounds_toArray, List.set_cons_zero, List.set_cons_succ]
      refine wpAnyH_done (by kernel_rfl) ?_ _
      obtain ⟨m0_, m1_, m2_, m3_, m4_, m5_, m6_, m7_⟩ := cells8 F1.out
      have hfin := hHeld.2.2.2.2.2.2.2.2
      clear hHeld
      go_wp2
      refine bodyPost_ret (v := .tuple #[.agg #[.string nm, .string m.f0.f0, .string m.f0.f1, .slice B0 m.f1.length d0, .slice B1 m.f2.length d1, .int .i64 5, .int .i64 pos, .slice B2 outs.length d2], .string (dots m.f2)]) ?hrL1 rfl ?hpL1
      case hrL1 => simp [results, Tryz.results63, go_sem, m0_, m1_, m2_, m3_, m4_, m5_, m6_, m7_]
      case hpL1 =>
        exact ⟨B2, d2, rfl, R2.out, hfin⟩

end Go.Proofs.YtoppgnmnbbhghaaGreatDoor

/- The reference's step of a client: a contract. -/
namespace Go.Proofs.YtoppgnmnbbhghaaGreatDoor
open Go.RowKit Go.Proofs.YtoppgnmnbbhghaaGreatDoorW.PrintWords
set_option linter.unusedVariables false
set_option linter.unusedSimpArgs false

theorem specStep_any (nm : ByteArray) (m : SMail) (st pos : Int) (outs : List Int) (B0 : Option Addr) (d0 : Nat) (B1 : Option Addr) (d1 : Nat) (B2 : Option Addr) (d2 : Nat) (answer : ByteArray) (code : Int) (base : Nat) (w : World)
    (hm : fitMail m) (hnm : nm.size ≤ 1048576) (h0 : 0 ≤ pos) (h1 : pos ≤ (m.f1.length : Int)) (hl : outs.length ≤ 1048576) (hbase : base ≤ w.heap.size) (hst0 : 0 ≤ st) (hst1 : st ≤ 7) (h3 : st = 3 → 0 < pos) (hle : outs.length = m.f1.length)
    (hcode : ∀ W, Calls Tryz.prog 107 #[.string answer] W fun e w' => e = .returned (.int .i64 code) ∧ Below W.heap.size W w')
    (hr0 : Kd.C kAddr w B0 m.f1.length m.f1) (hr1 : Kd.C Kd.string w B1 m.f2.length m.f2) (u2 : Kd.R (Kd.int .i64) 3 w base (fun _ => True) (.slice B2 outs.length d2) outs) :
    Calls Tryz.prog 63 #[.agg #[.string nm, .string m.f0.f0, .string m.f0.f1, .slice B0 m.f1.length d0, .slice B1 m.f2.length d1, .int .i64 st, .int .i64 pos, .slice B2 outs.length d2], .string answer] w fun e w' => ∃ B d, e = .returned (.tuple #[.agg #[.string nm, .string m.f0.f0, .string m.f0.f1, .slice B0 m.f1.length d0, .slice B1 m.f2.length d1, .int .i64 (stepC ⟨nm, m, st, pos, outs⟩ code).1.f2, .int .i64 (stepC ⟨nm, m, st, pos, outs⟩ code).1.f3, .slice B outs.length d], .string (stepC ⟨nm, m, st, pos, outs⟩ code).2]) ∧ Kd.R (Kd.int .i64) 3 w' base (fun _ => True) (.slice B outs.length d) (stepC ⟨nm, m, st, pos, outs⟩ code).1.f4 ∧ Below w.heap.size w w' := by
  rcases (by omega : st = 0 ∨ st = 1 ∨ st = 2 ∨ st = 3 ∨ st = 4 ∨ st = 5 ∨ st = 6 ∨ st = 7) with rfl | rfl | rfl | rfl | rfl | rfl | rfl | rfl
  · by_cases hc : code = 220
    · refine (specStep0_any nm m pos outs B0 d0 B1 d1 B2 d2 answer code base w hm hnm h0 h1 hl hbase hc hcode hr0 hr1 u2).mono ?_
      rintro e w' h
      rw [show stepC ⟨nm, m, 0, pos, outs⟩ code = (⟨nm, m, 1, pos, outs⟩, (⟨#[72, 69, 76, 79, 32]⟩ : ByteArray) ++ nm) from by simp [stepC, hc]]
      exact h
    · by_cases h5 : 500 ≤ code
      · refine (specStepF04_any nm m pos outs B0 d0 B1 d1 B2 d2 answer code base w hm hnm h0 h1 hl hbase hc h5 hcode hr0 hr1 u2).mono ?_
        rintro e w' h
        rw [show stepC ⟨nm, m, 0, pos, outs⟩ code = (⟨nm, m, 6, pos, becomes 4 [0, 1] outs⟩, ⟨#[81, 85, 73, 84]⟩) from by simp [stepC, hc, failC, h5]]
        exact h
      · refine (specStepF03_any nm m pos outs B0 d0 B1 d1 B2 d2 answer code base w hm hnm h0 h1 hl hbase hc h5 hcode hr0 hr1 u2).mono ?_
        rintro e w' h
        rw [show stepC ⟨nm, m, 0, pos, outs⟩ code = (⟨nm, m, 6, pos, becomes 3 [0, 1] outs⟩, ⟨#[81, 85, 73, 84]⟩) from by simp [stepC, hc, failC, h5]]
        exact h
  · by_cases hc : code = 250
    · refine (specStep1_any nm m pos outs B0 d0 B1 d1 B2 d2 answer code base w hm hnm h0 h1 hl hbase hc hcode hr0 hr1 u2).mono ?_
      rintro e w' h
      rw [show stepC ⟨nm, m, 1, pos, outs⟩ code = (⟨nm, m, 2, pos, outs⟩, (⟨#[77, 65, 73, 76, 32, 70, 82, 79, 77, 58]⟩ : ByteArray) ++ textS m.f0.f0 m.f0.f1) from by simp [stepC, hc]]
      exact h
    · by_cases h5 : 500 ≤ code
      · refine (specStepF14_any nm m pos outs B0 d0 B1 d1 B2 d2 answer code base w hm hnm h0 h1 hl hbase hc h5 hcode hr0 hr1 u2).mono ?_
        rintro e w' h
        rw [show stepC ⟨nm, m, 1, pos, outs⟩ code = (⟨nm, m, 6, pos, becomes 4 [0, 1] outs⟩, ⟨#[81, 85, 73, 84]⟩) from by simp [stepC, hc, failC, h5]]
        exact h
      · refine (specStepF13_any nm m pos outs B0 d0 B1 d1 B2 d2 answer code base w hm hnm h0 h1 hl hbase hc h5 hcode hr0 hr1 u2).mono ?_
        rintro e w' h
        rw [show stepC ⟨nm, m, 1, pos, outs⟩ code = (⟨nm, m, 6, pos, becomes 3 [0, 1] outs⟩, ⟨#[81, 85, 73, 84]⟩) from by simp [stepC, hc, failC, h5]]
        exact h
  · by_cases hc : code = 250
    · refine (specStep2_any nm m pos outs B0 d0 B1 d1 B2 d2 answer code base w hm hnm h0 h1 hl hbase hc hcode hr0 hr1 u2).mono ?_
      rintro e w' h
      rw [show stepC ⟨nm, m, 2, pos, outs⟩ code = nextC ⟨nm, m, 2, pos, outs⟩ from by simp [stepC, hc]]
      rw [(nextC_rest _).2.2]
      exact h
    · by_cases h5 : 500 ≤ code
      · refine (specStepF24_any nm m pos outs B0 d0 B1 d1 B2 d2 answer code base w hm hnm h0 h1 hl hbase hc h5 hcode hr0 hr1 u2).mono ?_
        rintro e w' h
        rw [show stepC ⟨nm, m, 2, pos, outs⟩ code = (⟨nm, m, 6, pos, becomes 4 [0, 1] outs⟩, ⟨#[81, 85, 73, 84]⟩) from by simp [stepC, hc, failC, h5]]
        exact h
      · refine (specStepF23_any nm m pos outs B0 d0 B1 d1 B2 d2 answer code base w hm hnm h0 h1 hl hbase hc h5 hcode hr0 hr1 u2).mono ?_
        rintro e w' h
        rw [show stepC ⟨nm, m, 2, pos, outs⟩ code = (⟨nm, m, 6, pos, becomes 3 [0, 1] outs⟩, ⟨#[81, 85, 73, 84]⟩) from by simp [stepC, hc, failC, h5]]
        exact h
  · obtain ⟨k, rfl⟩ : ∃ k : Nat, pos = (k : Int) + 1 := ⟨(pos - 1).toNat, by have := h3 rfl; omega⟩
    have hkl : k < outs.length := by omega
    by_cases hc : code = 250
    · refine (specStep31_any nm m k outs B0 d0 B1 d1 B2 d2 answer code base w hm hnm h0 h1 hl hbase hkl hc hcode hr0 hr1 u2).mono ?_
      rintro e w' h
      rw [show stepC ⟨nm, m, 3, (k : Int) + 1, outs⟩ code = nextC ⟨nm, m, 3, (k : Int) + 1, outs.set k 1⟩ from by simp [stepC, hc]]
      rw [(nextC_rest _).2.2]
      exact h
    · by_cases h5 : 500 ≤ code
      · refine (specStep34_any nm m k outs B0 d0 B1 d1 B2 d2 answer code base w hm hnm h0 h1 hl hbase hkl hc h5 hcode hr0 hr1 u2).mono ?_
        rintro e w' h
        rw [show stepC ⟨nm, m, 3, (k : Int) + 1, outs⟩ code = nextC ⟨nm, m, 3, (k : Int) + 1, outs.set k 4⟩ from by simp [stepC, hc, failC, h5]]
        rw [(nextC_rest _).2.2]
        exact h
      · refine (specStep33_any nm m k outs B0 d0 B1 d1 B2 d2 answer code base w hm hnm h0 h1 hl hbase hkl hc h5 hcode hr0 hr1 u2).mono ?_
        rintro e w' h
        rw [show stepC ⟨nm, m, 3, (k : Int) + 1, outs⟩ code = nextC ⟨nm, m, 3, (k : Int) + 1, outs.set k 3⟩ from by simp [stepC, hc, failC, h5]]
        rw [(nextC_rest _).2.2]
        exact h
  · by_cases hc : code = 354
    · refine (specStep4_any nm m pos outs B0 d0 B1 d1 B2 d2 answer code base w hm hnm h0 h1 hl hbase hc hcode hr0 hr1 u2).mono ?_
      rintro e w' h
      rw [show stepC ⟨nm, m, 4, pos, outs⟩ code = (⟨nm, m, 5, pos, outs⟩, dots m.f2) from by simp [stepC, hc]]
      exact h
    · by_cases h5 : 500 ≤ code
      · refine (specStepF44_any nm m pos outs B0 d0 B1 d1 B2 d2 answer code base w hm hnm h0 h1 hl hbase hc h5 hcode hr0 hr1 u2).mono ?_
        rintro e w' h
        rw [show stepC ⟨nm, m, 4, pos, outs⟩ code = (⟨nm, m, 6, pos, becomes 4 [0, 1] outs⟩, ⟨#[81, 85, 73, 84]⟩) from by simp [stepC, hc, failC, h5]]
        exact h
      · refine (specStepF43_any nm m pos outs B0 d0 B1 d1 B2 d2 answer code base w hm hnm h0 h1 hl hbase hc h5 hcode hr0 hr1 u2).mono ?_
        rintro e w' h
        rw [show stepC ⟨nm, m, 4, pos, outs⟩ code = (⟨nm, m, 6, pos, becomes 3 [0, 1] outs⟩, ⟨#[81, 85, 73, 84]⟩) from by simp [stepC, hc, failC, h5]]
        exact h
  · by_cases hc : code = 250
    · refine (specStep5_any nm m pos outs B0 d0 B1 d1 B2 d2 answer code base w hm hnm h0 h1 hl hbase hc hcode hr0 hr1 u2).mono ?_
      rintro e w' h
      rw [show stepC ⟨nm, m, 5, pos, outs⟩ code = (⟨nm, m, 6, pos, becomes 2 [1] outs⟩, ⟨#[81, 85, 73, 84]⟩) from by simp [stepC, hc]]
      exact h
    · by_cases h5 : 500 ≤ code
      · refine (specStepF54_any nm m pos outs B0 d0 B1 d1 B2 d2 answer code base w hm hnm h0 h1 hl hbase hc h5 hcode hr0 hr1 u2).mono ?_
        rintro e w' h
        rw [show stepC ⟨nm, m, 5, pos, outs⟩ code = (⟨nm, m, 6, pos, becomes 4 [0, 1] outs⟩, ⟨#[81, 85, 73, 84]⟩) from by simp [stepC, hc, failC, h5]]
        exact h
      · refine (specStepF53_any nm m pos outs B0 d0 B1 d1 B2 d2 answer code base w hm hnm h0 h1 hl hbase hc h5 hcode hr0 hr1 u2).mono ?_
        rintro e w' h
        rw [show stepC ⟨nm, m, 5, pos, outs⟩ code = (⟨nm, m, 6, pos, becomes 3 [0, 1] outs⟩, ⟨#[81, 85, 73, 84]⟩) from by simp [stepC, hc, failC, h5]]
        exact h
  · refine (specStep6_any nm m pos outs B0 d0 B1 d1 B2 d2 answer code base w hm hnm h0 h1 hl hbase  hcode hr0 hr1 u2).mono ?_
    rintro e w' h
    rw [show stepC ⟨nm, m, 6, pos, outs⟩ code = (⟨nm, m, 7, pos, outs⟩, ⟨#[]⟩) from by simp [stepC]]
    exact h
  · refine (specStep7_any nm m pos outs B0 d0 B1 d1 B2 d2 answer code base w hm hnm h0 h1 hl hbase  hcode hr0 hr1 u2).mono ?_
    rintro e w' h
    rw [show stepC ⟨nm, m, 7, pos, outs⟩ code = (⟨nm, m, 7, pos, outs⟩, ⟨#[]⟩) from by simp [stepC]]
    exact h

end Go.Proofs.YtoppgnmnbbhghaaGreatDoor
