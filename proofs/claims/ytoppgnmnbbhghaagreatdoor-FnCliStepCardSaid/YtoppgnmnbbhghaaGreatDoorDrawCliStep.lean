/- A drawn client and an answer, of bytes: a contract. -/
import Derived.Test.YtoppgnmnbbhghaaGreatDoorDrwC
import Derived.Test.YtoppgnmnbbhghaaGreatDoorDrw0
namespace Go.Proofs.YtoppgnmnbbhghaaGreatDoor
open Go.RowKit Go.Proofs.YtoppgnmnbbhghaaGreatDoorW.PrintWords
set_option linter.unusedVariables false
set_option linter.unusedSimpArgs false

def nou8 (cs : Array Value) : Bool := cs.toList.all fun v => match v with | .int .u8 _ => false | _ => true
theorem Rd.other {g m q : Nat} {w W : World} {cs : Array Value} {t : TypeId} (h : Rd g m w) (hF : w.heap[q]? = some (.cells cs t (0, 0))) (hq : q ≠ g) (hno : nou8 cs = true) (hk : ∀ k, k ≤ g → k ≠ q → W.heap[k]? = w.heap[k]?) : Rd g m W := by
  obtain ⟨A, n, c, p, hn, hp, hb, hs⟩ := h
  refine ⟨A, n, c, p, hn, hp, (hk g (Nat.le_refl _) (Ne.symm hq)).trans hb, fun k hlt => ?_⟩
  obtain ⟨ad, b, e, hg, h0, h1, hc⟩ := hs k hlt
  refine ⟨ad, b, e, hg, h0, h1, (World.cell?_of_block (hk _ (by rw [addr_block]; omega) (fun e2 => ?_))).trans hc⟩
  have hc2 := hc
  unfold World.cell? at hc2
  rw [e2, hF] at hc2
  dsimp only at hc2
  split at hc2
  · cases hc2
  · have hm := Array.mem_of_getElem? hc2
    have := List.all_eq_true.1 hno _ (by simpa using hm)
    simp at this
set_option maxRecDepth 100000 in
set_option maxHeartbeats 4000000 in
theorem drawCliStep_any (A : Option Addr) (c : Nat) (xs : List Int) (w : World) (hw : fitBytes xs) (hc : xs.length ≤ c) (hr : Kd.C (Kd.int .u8) w A xs.length xs) :
    Calls Tryz.prog 21 #[.slice A xs.length c] w fun e w' => ∃ (x : SCli) (A0 : Option Addr) (c0 : Nat) (A1 : Option Addr) (c1 : Nat) (A2 : Option Addr) (c2 : Nat) (an : ByteArray), e = .returned (.tuple #[.agg #[.string x.f0, .string x.f1.f0.f0, .string x.f1.f0.f1, .slice A0 x.f1.f1.length c0, .slice A1 x.f1.f2.length c1, .int .i64 x.f2, .int .i64 x.f3, .slice A2 x.f4.length c2], .string an]) ∧ fitCli x ∧ an.size ≤ 64 ∧ Kd.R kAddr 24 w' w.heap.size (fun _ => True) (.slice A0 x.f1.f1.length c0) x.f1.f1 ∧ Kd.R Kd.string 9 w' w.heap.size (fun _ => True) (.slice A1 x.f1.f2.length c1) x.f1.f2 ∧ Kd.R (Kd.int .i64) 3 w' w.heap.size (fun _ => True) (.slice A2 x.f4.length c2) x.f4 ∧ Below w.heap.size w w' := by
  have ho := fun W (hW : Below w.heap.size w W) => drOpen_any A c xs W hw hc (Kd.C_below hr hW)
  clear hw hc hr
  generalize xs.length = L at ho
  go_enter Tryz.func21, Tryz.ntmps21
  go_wp2_with fail
  refine Calls.mono (ho _ (bel_alloc (Below.refl _ _) _)) ?_
  rintro e w1 ⟨g, rfl, hg, hR, b1⟩
  have hg1 : w.heap.size < g := by simp at hg; omega
  have f0 := below_blk (blk_new w (.cells #[.string ⟨#[]⟩, .string ⟨#[]⟩, .string ⟨#[]⟩, .slice none 0 0, .slice none 0 0, .int .i64 0, .int .i64 0, .slice none 0 0] 31)) b1
  have B1 : Below w.heap.size w w1 := bel_then (bel_alloc (Below.refl _ _) _) b1
  have hgl : g < w1.heap.size := hR.lt
  clear ho b1 hg
  go_wp2_with fail
  refine Calls.mono (drAnyCli_any g 0 w1 hR (by omega)) ?_
  rintro e w2 ⟨x, A0, c0, A1, c1, A2, c2, rfl, hf, r0, r1, r2, hr2, hd⟩
  have f0 := hd.blk f0 (by omega)
  have B2 : Below w.heap.size w w2 := B1.trans (hd.bel (by omega) B1.size)
  have hw12 := hd.size
  have SZ1 := Lib.hid B1.size
  go_wp2
  have F0 := Aside0.mk (blk_alloc f0 (.cells #[.string x.f0, .string x.f1.f0.f0, .string x.f1.f0.f1, .slice A0 x.f1.f1.length c0, .slice A1 x.f1.f2.length c1, .int .i64 x.f2, .int .i64 x.f3, .slice A2 x.f4.length c2] 31))
  have FC := Aside0.mk (blk_new w2 (.cells #[.string x.f0, .string x.f1.f0.f0, .string x.f1.f0.f1, .slice A0 x.f1.f1.length c0, .slice A1 x.f1.f2.length c1, .int .i64 x.f2, .int .i64 x.f3, .slice A2 x.f4.length c2] 31))
  have U0 := Aside0.mk (Kd.R_alloc r0 (.cells #[.string x.f0, .string x.f1.f0.f0, .string x.f1.f0.f1, .slice A0 x.f1.f1.length c0, .slice A1 x.f1.f2.length c1, .int .i64 x.f2, .int .i64 x.f3, .slice A2 x.f4.length c2] 31))
  have U1 := Aside0.mk (Kd.R_alloc r1 (.cells #[.string x.f0, .string x.f1.f0.f0, .string x.f1.f0.f1, .slice A0 x.f1.f1.length c0, .slice A1 x.f1.f2.length c1, .int .i64 x.f2, .int .i64 x.f3, .slice A2 x.f4.length c2] 31))
  have U2 := Aside0.mk (Kd.R_alloc r2 (.cells #[.string x.f0, .string x.f1.f0.f0, .string x.f1.f0.f1, .slice A0 x.f1.f1.length c0, .slice A1 x.f1.f2.length c1, .int .i64 x.f2, .int .i64 x.f3, .slice A2 x.f4.length c2] 31))
  have HR := Aside0.mk (hr2.alloc (.cells #[.string x.f0, .string x.f1.f0.f0, .string x.f1.f0.f1, .slice A0 x.f1.f1.length c0, .slice A1 x.f1.f2.length c1, .int .i64 x.f2, .int .i64 x.f3, .slice A2 x.f4.length c2] 31))
  have HB := Aside0.mk (bel_alloc B2 (.cells #[.string x.f0, .string x.f1.f0.f0, .string x.f1.f0.f1, .slice A0 x.f1.f1.length c0, .slice A1 x.f1.f2.length c1, .int .i64 x.f2, .int .i64 x.f3, .slice A2 x.f4.length c2] 31))
  have HF := Lib.hid hf
  have hlt2 : w.heap.size < w2.heap.size := by omega
  clear hR hr2 hd hf f0 B1 B2 r0 r1 r2
  have join : Hid (∀ {goal : Prop} {G : ByteArray → World → Prop} (rg : Hid (∀ (an : ByteArray) (V : World), V.heap[w.heap.size]? = some (.cells #[.string x.f0, .string x.f1.f0.f0, .string x.f1.f0.f1, .slice A0 x.f1.f1.length c0, .slice A1 x.f1.f2.length c1, .int .i64 x.f2, .int .i64 x.f3, .slice A2 x.f4.length c2] 31 (0, 0)) ∧ Kd.R kAddr 24 V w1.heap.size (fun _ => True) (.slice A0 x.f1.f1.length c0) x.f1.f1 ∧ Kd.R Kd.string 9 V w1.heap.size (fun _ => True) (.slice A1 x.f1.f2.length c1) x.f1.f2 ∧ Kd.R (Kd.int .i64) 3 V w1.heap.size (fun _ => True) (.slice A2 x.f4.length c2) x.f4 ∧ Below w.heap.size w V ∧ an.size ≤ 64 → G an V) → goal) (hk : ∀ (an : ByteArray) (V : World), V.heap[w.heap.size]? = some (.cells #[.string x.f0, .string x.f1.f0.f0, .string x.f1.f0.f1, .slice A0 x.f1.f1.length c0, .slice A1 x.f1.f2.length c1, .int .i64 x.f2, .int .i64 x.f3, .slice A2 x.f4.length c2] 31 (0, 0)) ∧ Kd.R kAddr 24 V w1.heap.size (fun _ => True) (.slice A0 x.f1.f1.length c0) x.f1.f1 ∧ Kd.R Kd.string 9 V w1.heap.size (fun _ => True) (.slice A1 x.f1.f2.length c1) x.f1.f2 ∧ Kd.R (Kd.int .i64) 3 V w1.heap.size (fun _ => True) (.slice A2 x.f4.length c2) x.f4 ∧ Below w.heap.size w V ∧ an.size ≤ 64 → G an V), goal) := Lib.hid (fun f h => f (Lib.hid h))
  have HST : Aside0 ((fun W => W.cell? ⟨w2.heap.size, 0, none⟩ = some (.string x.f0) ∧ W.cell? ⟨w2.heap.size, 1, none⟩ = some (.string x.f1.f0.f0) ∧ W.cell? ⟨w2.heap.size, 2, none⟩ = some (.string x.f1.f0.f1) ∧ W.cell? ⟨w2.heap.size, 3, none⟩ = some (.slice A0 x.f1.f1.length c0) ∧ W.cell? ⟨w2.heap.size, 4, none⟩ = some (.slice A1 x.f1.f2.length c1) ∧ W.cell? ⟨w2.heap.size, 5, none⟩ = some (.int .i64 x.f2) ∧ W.cell? ⟨w2.heap.size, 6, none⟩ = some (.int .i64 x.f3) ∧ W.cell? ⟨w2.heap.size, 7, none⟩ = some (.slice A2 x.f4.length c2)) (w2.alloc (.cells #[.string x.f0, .string x.f1.f0.f0, .string x.f1.f0.f1, .slice A0 x.f1.f1.length c0, .slice A1 x.f1.f2.length c1, .int .i64 x.f2, .int .i64 x.f3, .slice A2 x.f4.length c2] 31)).drew) := ⟨cells8 (show (w2.alloc (.cells #[.string x.f0, .string x.f1.f0.f0, .string x.f1.f0.f1, .slice A0 x.f1.f1.length c0, .slice A1 x.f1.f2.length c1, .int .i64 x.f2, .int .i64 x.f3, .slice A2 x.f4.length c2] 31)).drew.heap[w2.heap.size]? = _ from FC.out)⟩
  have HK : Aside0 (∀ W W1, Below W.heap.size W W1 → (W.cell? ⟨w2.heap.size, 0, none⟩ = some (.string x.f0) ∧ W.cell? ⟨w2.heap.size, 1, none⟩ = some (.string x.f1.f0.f0) ∧ W.cell? ⟨w2.heap.size, 2, none⟩ = some (.string x.f1.f0.f1) ∧ W.cell? ⟨w2.heap.size, 3, none⟩ = some (.slice A0 x.f1.f1.length c0) ∧ W.cell? ⟨w2.heap.size, 4, none⟩ = some (.slice A1 x.f1.f2.length c1) ∧ W.cell? ⟨w2.heap.size, 5, none⟩ = some (.int .i64 x.f2) ∧ W.cell? ⟨w2.heap.size, 6, none⟩ = some (.int .i64 x.f3) ∧ W.cell? ⟨w2.heap.size, 7, none⟩ = some (.slice A2 x.f4.length c2)) → (W1.cell? ⟨w2.heap.size, 0, none⟩ = some (.string x.f0) ∧ W1.cell? ⟨w2.heap.size, 1, none⟩ = some (.string x.f1.f0.f0) ∧ W1.cell? ⟨w2.heap.size, 2, none⟩ = some (.string x.f1.f0.f1) ∧ W1.cell? ⟨w2.heap.size, 3, none⟩ = some (.slice A0 x.f1.f1.length c0) ∧ W1.cell? ⟨w2.heap.size, 4, none⟩ = some (.slice A1 x.f1.f2.length c1) ∧ W1.cell? ⟨w2.heap.size, 5, none⟩ = some (.int .i64 x.f2) ∧ W1.cell? ⟨w2.heap.size, 6, none⟩ = some (.int .i64 x.f3) ∧ W1.cell? ⟨w2.heap.size, 7, none⟩ = some (.slice A2 x.f4.length c2))) := ⟨fun W W1 hb h => ⟨(hb.cell (World.block_lt_of_cell? W _ (h.1))).trans (h.1), (hb.cell (World.block_lt_of_cell? W _ (h.2.1))).trans (h.2.1), (hb.cell (World.block_lt_of_cell? W _ (h.2.2.1))).trans (h.2.2.1), (hb.cell (World.block_lt_of_cell? W _ (h.2.2.2.1))).trans (h.2.2.2.1), (hb.cell (World.block_lt_of_cell? W _ (h.2.2.2.2.1))).trans (h.2.2.2.2.1), (hb.cell (World.block_lt_of_cell? W _ (h.2.2.2.2.2.1))).trans (h.2.2.2.2.2.1), (hb.cell (World.block_lt_of_cell? W _ (h.2.2.2.2.2.2.1))).trans (h.2.2.2.2.2.2.1), (hb.cell (World.block_lt_of_cell? W _ (h.2.2.2.2.2.2.2))).trans (h.2.2.2.2.2.2.2)⟩⟩
  have HKd : Aside0 (∀ W W1, Dr g W W1 → (W.cell? ⟨w2.heap.size, 0, none⟩ = some (.string x.f0) ∧ W.cell? ⟨w2.heap.size, 1, none⟩ = some (.string x.f1.f0.f0) ∧ W.cell? ⟨w2.heap.size, 2, none⟩ = some (.string x.f1.f0.f1) ∧ W.cell? ⟨w2.heap.size, 3, none⟩ = some (.slice A0 x.f1.f1.length c0) ∧ W.cell? ⟨w2.heap.size, 4, none⟩ = some (.slice A1 x.f1.f2.length c1) ∧ W.cell? ⟨w2.heap.size, 5, none⟩ = some (.int .i64 x.f2) ∧ W.cell? ⟨w2.heap.size, 6, none⟩ = some (.int .i64 x.f3) ∧ W.cell? ⟨w2.heap.size, 7, none⟩ = some (.slice A2 x.f4.length c2)) → (W1.cell? ⟨w2.heap.size, 0, none⟩ = some (.string x.f0) ∧ W1.cell? ⟨w2.heap.size, 1, none⟩ = some (.string x.f1.f0.f0) ∧ W1.cell? ⟨w2.heap.size, 2, none⟩ = some (.string x.f1.f0.f1) ∧ W1.cell? ⟨w2.heap.size, 3, none⟩ = some (.slice A0 x.f1.f1.length c0) ∧ W1.cell? ⟨w2.heap.size, 4, none⟩ = some (.slice A1 x.f1.f2.length c1) ∧ W1.cell? ⟨w2.heap.size, 5, none⟩ = some (.int .i64 x.f2) ∧ W1.cell? ⟨w2.heap.size, 6, none⟩ = some (.int .i64 x.f3) ∧ W1.cell? ⟨w2.heap.size, 7, none⟩ = some (.slice A2 x.f4.length c2))) := ⟨fun W W1 hb h => ⟨(World.cell?_of_block (hb.block w2.heap.size (World.block_lt_of_cell? W _ (h.1)) (by omega))).trans (h.1), (World.cell?_of_block (hb.block w2.heap.size (World.block_lt_of_cell? W _ (h.2.1)) (by omega))).trans (h.2.1), (World.cell?_of_block (hb.block w2.heap.size (World.block_lt_of_cell? W _ (h.2.2.1)) (by omega))).trans (h.2.2.1), (World.cell?_of_block (hb.block w2.heap.size (World.block_lt_of_cell? W _ (h.2.2.2.1)) (by omega))).trans (h.2.2.2.1), (World.cell?_of_block (hb.block w2.heap.size (World.block_lt_of_cell? W _ (h.2.2.2.2.1)) (by omega))).trans (h.2.2.2.2.1), (World.cell?_of_block (hb.block w2.heap.size (World.block_lt_of_cell? W _ (h.2.2.2.2.2.1)) (by omega))).trans (h.2.2.2.2.2.1), (World.cell?_of_block (hb.block w2.heap.size (World.block_lt_of_cell? W _ (h.2.2.2.2.2.2.1)) (by omega))).trans (h.2.2.2.2.2.2.1), (World.cell?_of_block (hb.block w2.heap.size (World.block_lt_of_cell? W _ (h.2.2.2.2.2.2.2)) (by omega))).trans (h.2.2.2.2.2.2.2)⟩⟩
  apply join.out
  case rg =>
    intro HKK
    refine wp_region_held_drew (S := (fun W => W.cell? ⟨w2.heap.size, 0, none⟩ = some (.string x.f0) ∧ W.cell? ⟨w2.heap.size, 1, none⟩ = some (.string x.f1.f0.f0) ∧ W.cell? ⟨w2.heap.size, 2, none⟩ = some (.string x.f1.f0.f1) ∧ W.cell? ⟨w2.heap.size, 3, none⟩ = some (.slice A0 x.f1.f1.length c0) ∧ W.cell? ⟨w2.heap.size, 4, none⟩ = some (.slice A1 x.f1.f2.length c1) ∧ W.cell? ⟨w2.heap.size, 5, none⟩ = some (.int .i64 x.f2) ∧ W.cell? ⟨w2.heap.size, 6, none⟩ = some (.int .i64 x.f3) ∧ W.cell? ⟨w2.heap.size, 7, none⟩ = some (.slice A2 x.f4.length c2))) (by kernel_rfl) ?s1 (fun hHeld => ?t1)
    case s1 => exact HST.out
    generalize hV0 : World.drew _ = V0 at hHeld ⊢
    have F0 := Aside0.mk (show V0.heap[w.heap.size]? = some (.cells #[.string ⟨#[]⟩, .string ⟨#[]⟩, .string ⟨#[]⟩, .slice none 0 0, .slice none 0 0, .int .i64 0, .int .i64 0, .slice none 0 0] 31 (0, 0)) from by rw [← hV0]; exact blk_drew F0.out)
    have FC := Aside0.mk (show V0.heap[w2.heap.size]? = some (.cells #[.string x.f0, .string x.f1.f0.f0, .string x.f1.f0.f1, .slice A0 x.f1.f1.length c0, .slice A1 x.f1.f2.length c1, .int .i64 x.f2, .int .i64 x.f3, .slice A2 x.f4.length c2] 31 (0, 0)) from by rw [← hV0]; exact blk_drew FC.out)
    have U0 := Aside0.mk (show Kd.R kAddr 24 V0 w1.heap.size (fun _ => True) (.slice A0 x.f1.f1.length c0) x.f1.f1 from by rw [← hV0]; exact Kd.R_drew U0.out)
    have U1 := Aside0.mk (show Kd.R Kd.string 9 V0 w1.heap.size (fun _ => True) (.slice A1 x.f1.f2.length c1) x.f1.f2 from by rw [← hV0]; exact Kd.R_drew U1.out)
    have U2 := Aside0.mk (show Kd.R (Kd.int .i64) 3 V0 w1.heap.size (fun _ => True) (.slice A2 x.f4.length c2) x.f4 from by rw [← hV0]; exact Kd.R_drew U2.out)
    have HR := Aside0.mk (show Rd g _ V0 from by rw [← hV0]; exact HR.out.drew)
    have HB := Aside0.mk (show Below w.heap.size w V0 from by rw [← hV0]; exact HB.out.drew)
    clear hV0
    refine wpAnyH_take (i := 0) (oi := { dst := some 10, op := Op.load 31 (Operand.tmp 5), type := 31, pos := "l20_draw.go:432", after := #[], guard := none }) (v := ?v2) rfl (by kernel_rfl) (by kernel_rfl) (by kernel_rfl) (fun _ _ _ h => h) (Or.inl ⟨by rfl, ?y2⟩) (by assumption) ?r2
    case y2 => intro w_ hSw; (try dsimp only at hSw); go_simp; (try (with_reducible rfl))
    try simp only [Act.put, List.setIfInBounds_toArray, List.set_cons_zero, List.set_cons_succ]
    refine wpAnyH_take (i := 1) (oi := { dst := some 11, op := Op.move (Operand.tmp 4), type := 67, pos := "l20_draw.go:432", after := #[], guard := none }) (v := ?v3) rfl (by kernel_rfl) (by kernel_rfl) (by kernel_rfl) (fun _ _ _ h => h) (Or.inl ⟨by rfl, ?y3⟩) (by assumption) ?r3
    case y3 => intro w_ hSw; (try dsimp only at hSw); go_simp; (try (with_reducible rfl))
    try simp only [Act.put, List.setIfInBounds_toArray, List.set_cons_zero, List.set_cons_succ]
    refine wpAnyH_ready (rs := [2]) (by kernel_rfl) (by simp) ?_
    refine AllReadyH.cons (o := { dst := some 12, op := Op.call { callee := Callee.value (Operand.func 59), args := #[Operand.tmp 11], argTypes := #[67] }, type := 9, pos := "l20_draw.go:432", after := #[{ on := 1, ground := Ground.data }], guard := none }) rfl (fun K hK => ?k4) AllReadyH.nil
    case k4 =>
      go_simp
      refine Calls.mono (drAnswer_any g _ _ HR.out (by omega)) ?_
      rintro e V2 ⟨an, rfl, han, hr_, bd⟩
      refine hK.out _ _ ?h5 (fun hHeld => ?j5)
      case h5 => exact HKd.out _ _ bd hHeld
      clear hK K
      try simp only [Act.put, List.setIfInBounds_toArray, List.set_cons_zero, List.set_cons_succ]
      replace F0 := Aside0.mk (bd.blk F0.out (by omega))
      replace FC := Aside0.mk (bd.blk FC.out (by omega))
      replace U0 := Aside0.mk (bd.R U0.out hgl)
      replace U1 := Aside0.mk (bd.R U1.out hgl)
      replace U2 := Aside0.mk (bd.R U2.out hgl)
      replace HR := Aside0.mk hr_
      replace HB := Aside0.mk (HB.out.trans (bd.bel (by omega) HB.out.size))
      clear hr_ bd
      refine wpAnyH_ready (rs := [3]) (by kernel_rfl) (by simp) ?_
      refine AllReadyH.cons (o := { dst := none, op := Op.store 31 (Operand.tmp 2) (Operand.tmp 10), type := 0, pos := "l20_draw.go:432", after := #[{ on := 0, ground := Ground.data }, { on := 2, ground := Ground.chain }, { on := 0, ground := Ground.phase }, { on := 1, ground := Ground.textOnly Departure.lateStores }, { on := 2, ground := Ground.textOnly Departure.lateStoresUnsure }], guard := none }) rfl (fun K hK => ?k6) AllReadyH.nil
      case k6 =>
        obtain ⟨v0_, v1_, v2_, v3_, v4_, v5_, v6_, v7_⟩ := cells8 F0.out
        obtain ⟨u0_, u1_, u2_, u3_, u4_, u5_, u6_, u7_⟩ := froz8 F0.out
        go_simp
        generalize hV3 : World.setCell (World.setCell (World.setCell (World.setCell (World.setCell (World.setCell (World.setCell (World.setCell V2 ⟨w.heap.size, 0, none⟩ _) ⟨w.heap.size, 1, none⟩ _) ⟨w.heap.size, 2, none⟩ _) ⟨w.heap.size, 3, none⟩ _) ⟨w.heap.size, 4, none⟩ _) ⟨w.heap.size, 5, none⟩ _) ⟨w.heap.size, 6, none⟩ _) ⟨w.heap.size, 7, none⟩ _ = V3
        have G3 : V2.grownBy V3 (some w.heap.size) := by rw [← hV3]; exact (((((((grown_set1 _ _ _ _).trans (grown_set1 _ _ _ _)).trans (grown_set1 _ _ _ _)).trans (grown_set1 _ _ _ _)).trans (grown_set1 _ _ _ _)).trans (grown_set1 _ _ _ _)).trans (grown_set1 _ _ _ _)).trans (grown_set1 _ _ _ _)
        have F0N : V3.heap[w.heap.size]? = some (.cells #[.string x.f0, .string x.f1.f0.f0, .string x.f1.f0.f1, .slice A0 x.f1.f1.length c0, .slice A1 x.f1.f2.length c1, .int .i64 x.f2, .int .i64 x.f3, .slice A2 x.f4.length c2] 31 (0, 0)) := by rw [← hV3, blk_set1 (blk_set1 (blk_set1 (blk_set1 (blk_set1 (blk_set1 (blk_set1 (blk_set1 (F0.out) 0 _) 1 _) 2 _) 3 _) 4 _) 5 _) 6 _) 7 _]; simp
        have HBN : Below w.heap.size w V3 := by rw [← hV3]; exact (bel_set (bel_set (bel_set (bel_set (bel_set (bel_set (bel_set (bel_set HB.out _ (Nat.le_refl _)) _ (Nat.le_refl _)) _ (Nat.le_refl _)) _ (Nat.le_refl _)) _ (Nat.le_refl _)) _ (Nat.le_refl _)) _ (Nat.le_refl _)) _ (Nat.le_refl _))
        clear hV3
        have FCN := (G3.block _ (blk_lt FC.out) (fun e => by have e := Option.some.inj e; omega)).trans FC.out
        refine hK.out _ _ ?h7 (fun hHeld => ?j7)
        case h7 => exact cells8 FCN
        clear hK K
        try simp only [Act.put, List.setIfInBounds_toArray, List.set_cons_zero, List.set_cons_succ]
        replace U0 := Aside0.mk (R_else U0.out rfl G3 (Kd.R_ne U0.out F0.out (by decide)))
        replace U1 := Aside0.mk (R_else U1.out rfl G3 (Kd.R_ne U1.out F0.out (by decide)))
        replace U2 := Aside0.mk (R_else U2.out rfl G3 (Kd.R_ne U2.out F0.out (by decide)))
        replace HR := Aside0.mk (Rd.other HR.out F0.out (by omega) (by decide) (fun k hk hn => G3.block k (by have := HR.out.lt; omega) (fun e => hn (Option.some.inj e))))
        replace HB := Aside0.mk HBN
        replace F0 := Aside0.mk F0N
        replace FC := Aside0.mk FCN
        clear F0N FCN HBN
        refine wpAnyH_take (i := 4) (oi := { dst := some 3, op := Op.assign (Operand.tmp 12), type := 9, pos := "l20_draw.go:432", after := #[{ on := 2, ground := Ground.data }, { on := 3, ground := Ground.chain }, { on := 0, ground := Ground.phase }, { on := 1, ground := Ground.phase }, { on := 2, ground := Ground.phase }, { on := 3, ground := Ground.phase }], guard := none }) (v := ?v8) rfl (by kernel_rfl) (by kernel_rfl) (by kernel_rfl) (fun _ _ _ h => h) (Or.inl ⟨by rfl, ?y8⟩) (by assumption) ?r8
        case y8 => intro w_ hSw; (try dsimp only at hSw); go_simp; (try (with_reducible rfl))
        try simp only [Act.put, List.setIfInBounds_toArray, List.set_cons_zero, List.set_cons_succ]
        refine wpAnyH_done (by kernel_rfl) ?_ _
        exact HKK.out an V3 ⟨F0.out, U0.out, U1.out, U2.out, HB.out, han⟩
  case hk =>
    intro an V ⟨f0, u0, u1, u2, bV, han⟩
    have Z := Lib.hid (⟨u0, u1, u2, bV, han⟩ : _ ∧ _ ∧ _ ∧ _ ∧ _)
    obtain ⟨cF0_0, cF0_1, cF0_2, cF0_3, cF0_4, cF0_5, cF0_6, cF0_7⟩ := cells8 f0
    clear HST HK HKd join F0 FC U0 U1 U2 HR HB f0 u0 u1 u2 bV han
    go_wp2
    obtain ⟨u0, u1, u2, bV, han⟩ := Z.out
    refine bodyPost_ret (v := .tuple #[.agg #[.string x.f0, .string x.f1.f0.f0, .string x.f1.f0.f1, .slice A0 x.f1.f1.length c0, .slice A1 x.f1.f2.length c1, .int .i64 x.f2, .int .i64 x.f3, .slice A2 x.f4.length c2], .string an]) ?hr rfl ?hp
    case hr => simp [results, Tryz.results21, go_sem, cF0_0, cF0_1, cF0_2, cF0_3, cF0_4, cF0_5, cF0_6, cF0_7]
    case hp => exact ⟨x, A0, c0, A1, c1, A2, c2, an, rfl, HF.out, han, (Kd.R_lower (base' := w.heap.size) u0 SZ1.out), (Kd.R_lower (base' := w.heap.size) u1 SZ1.out), (Kd.R_lower (base' := w.heap.size) u2 SZ1.out), bV⟩

end Go.Proofs.YtoppgnmnbbhghaaGreatDoor
