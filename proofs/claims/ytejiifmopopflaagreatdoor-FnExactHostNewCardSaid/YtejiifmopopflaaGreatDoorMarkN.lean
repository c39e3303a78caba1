/- The laws' marks of rows whose elements lead to rows, and of structs: contracts. -/
import Derived.Test.YtejiifmopopflaaGreatDoorMark
namespace Go.Proofs.YtejiifmopopflaaGreatDoor
open Go.RowKit Go.Proofs.YtejiifmopopflaaGreatDoorW.PrintWords
set_option linter.unusedVariables false
set_option linter.unusedSimpArgs false

structure Tch (ok : Nat → Prop) (w w1 : World) : Prop where
  os : w1.os = w.os
  tape : w1.tape = w.tape
  output : w1.output = w.output
  size : w.heap.size ≤ w1.heap.size
  block : ∀ k, k < w.heap.size → ¬ ok k → w1.heap[k]? = w.heap[k]?
theorem Tch.refl (ok : Nat → Prop) (w : World) : Tch ok w w := ⟨rfl, rfl, rfl, Nat.le_refl _, fun _ _ _ => rfl⟩
theorem Tch.trans {ok : Nat → Prop} {w w1 w2 : World} (h : Tch ok w w1) (g : Tch ok w1 w2) : Tch ok w w2 :=
  ⟨g.os.trans h.os, g.tape.trans h.tape, g.output.trans h.output, Nat.le_trans h.size g.size, fun k hk hn => (g.block k (Nat.lt_of_lt_of_le hk h.size) hn).trans (h.block k hk hn)⟩
theorem Tch.row {ok : Nat → Prop} {w w1 w2 : World} {row : Option Nat} (h : Tch ok w w1) (g : w1.grownBy w2 row) (hr : ∀ q, row = some q → ok q) : Tch ok w w2 :=
  h.trans ⟨g.os, g.tape, g.output, g.size, fun k hk hn => g.block k hk (fun e => hn (hr k e.symm))⟩
theorem Tch.below {ok : Nat → Prop} {w w1 w2 : World} (h : Tch ok w w1) (g : Below w1.heap.size w1 w2) : Tch ok w w2 :=
  h.trans ⟨g.os, g.tape, g.output, g.size, fun k hk _ => g.block k hk⟩
theorem Tch.mono {ok ok' : Nat → Prop} {w w1 : World} (h : Tch ok w w1) (hm : ∀ k, ok k → k < w.heap.size → ok' k) : Tch ok' w w1 :=
  ⟨h.os, h.tape, h.output, h.size, fun k hk hn => h.block k hk (fun ho => hn (hm k ho hk))⟩
theorem bel_tch {ok : Nat → Prop} {B : Nat} {a w w1 : World} (h : Below B a w) (t : Tch ok w w1) (hB : B ≤ w.heap.size) (ho : ∀ q, ok q → B ≤ q) : Below B a w1 :=
  ⟨t.os.trans h.os, t.tape.trans h.tape, t.output.trans h.output, Nat.le_trans h.size t.size, fun k hk => (t.block k (by omega) (fun hq => by have := ho k hq; omega)).trans (h.block k hk)⟩
theorem R_tch {α : Type} {d : Kd α} {e base : Nat} {ok okt : Nat → Prop} {w w1 : World} {v : Value} {xs : List α} (h : d.R e w base ok v xs) (t : Tch okt w w1) (hd : ∀ q, ok q → ¬ okt q) : d.R e w1 base ok v xs :=
  Kd.R_step h (fun k hk hlt => t.block k hlt (hd k hk))
theorem S_tch {α : Type} {d : Kd α} {e base : Nat} {ok okt : Nat → Prop} {w w1 : World} {v : Value} {xs : List α} (h : Kd.S d e w base ok v xs) (t : Tch okt w w1) (hd : ∀ q, ok q → ¬ okt q) : Kd.S d e w1 base ok v xs :=
  Kd.S_step h (fun k hk hlt => t.block k hlt (hd k hk))
theorem tch_cell {ok : Nat → Prop} {w w1 : World} (t : Tch ok w w1) {b : Nat} (hb : b < w.heap.size) (hn : ¬ ok b) (o : Nat) : w1.cell? ⟨b, o, none⟩ = w.cell? ⟨b, o, none⟩ :=
  World.cell?_of_block (t.block b hb hn)
theorem calls_at {P : Program} {f : Nat} {v : Value} {z : Int} {a : Nat} {w : World} {Q : Ending → World → Prop} (hz : z = a) (h : Calls P f #[v, .int .i64 (a : Int)] w Q) : Calls P f #[v, .int .i64 z] w Q := by subst hz; exact h
theorem H_at {α : Type} {d : Kd α} {e base g n cap k : Nat} {ok oki : Nat → Prop} {W : World} {xs : List α} {c : List Value} (h : Kd.H d e W base ok (.slice (some ⟨g, 0, none⟩) n cap) xs (k : Int) oki c) (hk : (k : Int) < (n : Int)) :
    (∀ j u, c[j]? = some u → W.cell? ⟨g, k * d.sz + j, none⟩ = some u) ∧ ∀ j, W.frozen? ⟨g, k * d.sz + j, none⟩ = false := by
  obtain ⟨rows, hl, hraw, _, _, hcc, _⟩ := Kd.H_raw h (by omega) hk
  obtain ⟨_, _, _, _, hf⟩ := Kd.R_elem hraw [] (k : Int) (by omega) hk
  rw [Int.toNat_natCast] at hcc hf
  exact ⟨hcc, hf⟩
theorem H_put {α : Type} {d : Kd α} {e base g n cap k : Nat} {ok oki : Nat → Prop} {W : World} {xs : List α} {c : List Value} (h : Kd.H d e W base ok (.slice (some ⟨g, 0, none⟩) n cap) xs (k : Int) oki c) (hk : k < n) (j : Nat) (u : Value) (hj : j < d.sz) (hu : u.oneCell' = true) :
    Kd.H d e (W.setCell ⟨g, k * d.sz + j, none⟩ u) base ok (.slice (some ⟨g, 0, none⟩) n cap) xs (k : Int) oki (c.take j ++ [u] ++ c.drop (j + 1)) ∧ W.grownBy (W.setCell ⟨g, k * d.sz + j, none⟩ u) (some g) := by
  have := Kd.H_seg h (by omega) (by omega) (seg := [u]) (j := j) (by simp; omega) (by simpa using hu)
  rw [Int.toNat_natCast] at this
  exact this
theorem Item_lens {x : SItem} (h : fitItem x) : x.f2.length ≤ 1048576 ∧ x.f3.length ≤ 1048576 := ⟨h.2.2.1.1, h.2.2.2.1⟩
theorem Got_lens {x : SGot} (h : fitGot x) : x.f1.length ≤ 1048576 := h.2.1
def cntItem (x : SItem) : Nat := 3 + 4 * x.f2.length + x.f3.length
def mkItem (b : Nat) (x : SItem) : SItem := ⟨((b : Nat) : Int), ⟨(markS (b + 1)), (markS (b + 2))⟩, (mksRcpt (b + 3) x.f2.length), (mksString (b + 3 + 4 * x.f2.length) x.f3.length)⟩
def offItem (xs : List SItem) (k : Nat) : Nat := ((xs.take k).map cntItem).sum
def mksItem (a : Nat) (xs : List SItem) : List SItem := (List.range xs.length).map fun i => mkItem (a + offItem xs i) (xs.getD i zItem)
theorem mksItem_length (a : Nat) (xs : List SItem) : (mksItem a xs).length = xs.length := by simp [mksItem]
theorem offItem_step (xs : List SItem) (k : Nat) (h : k < xs.length) : offItem xs (k + 1) = offItem xs k + cntItem (xs.getD k zItem) := by
  unfold offItem
  rw [List.take_succ_eq_append_getElem h, List.map_append, List.sum_append, List.getD, List.getElem?_eq_getElem h]
  simp
set_option maxRecDepth 100000 in
set_option maxHeartbeats 8000000 in
theorem markItemS_any (A : Option Addr) (c cap n : Nat) (xs : List SItem) (a : Nat) (base : Nat) (ok : Nat → Prop) (w : World) (hr : Kd.S kItem 202 w base ok (.slice A n cap) xs) (hlen : n ≤ 1048576) (hx : ∀ x ∈ xs, x.f2.length ≤ 1048576 ∧ x.f3.length ≤ 1048576) (ha : a ≤ 1152921504606846976) :
    Calls Tryz.prog 140 #[.slice A n c, .int .i64 (a : Int)] w fun e w' => e = .returned (.int .i64 ((a + offItem xs n : Nat) : Int)) ∧ a + offItem xs n ≤ a + 8388608 * n ∧ Kd.S kItem 202 w' base ok (.slice A n cap) (mksItem a xs) ∧ Tch ok w w' := by
  have hn0 : n = xs.length := (Kd.S_reads' hr).1
  have HN := Lib.hid hn0
  have HX := Lib.hid hx
  clear hn0 hx
  go_enter Tryz.func140, Tryz.ntmps140
  go_wp2
  go_loopg [1, 5] n (fun gq v1 v5 wr => ∃ (k b : Nat) (zs : List SItem), k ≤ n ∧ n - k ≤ gq ∧ v1 = .int .i64 (b : Int) ∧ b ≤ a + 8388608 * k ∧ Aside0 (b = a + offItem xs k) ∧ v5 = .int .i64 (k : Int) ∧ Aside0 (zs.length = n) ∧ Aside0 (∀ j, j < k → zs.getD j zItem = mkItem (a + offItem xs j) (xs.getD j zItem)) ∧ Aside0 (∀ j, k ≤ j → zs.getD j zItem = xs.getD j zItem) ∧ Aside0 (Kd.S kItem 202 wr base ok (.slice A n cap) zs) ∧ Aside0 (Tch ok w wr))
  case atStart => exact ⟨0, a, xs, Nat.zero_le _, by omega, rfl, by omega, ⟨by simp [offItem]⟩, rfl, ⟨HN.out.symm⟩, ⟨fun j hj => absurd hj (Nat.not_lt_zero _)⟩, ⟨fun _ _ => rfl⟩, ⟨hr⟩, ⟨Tch.refl _ _⟩⟩
  case round =>
    clear hr
    obtain ⟨k, b, zs, hk, hg, rfl, hb, HB, rfl, HL, HM, HO, HR, HT⟩ := hrel
    by_cases hlt : k < n
    · have hlt' : (k : Int) < (n : Int) := by omega
      have hst := offItem_step xs k (by rw [← HN.out]; exact hlt)
      have hxk := HX.out (xs.getD k zItem) (getD_mem xs _ (by rw [← HN.out]; exact hlt))
      obtain ⟨gb, rfl, hgb, hgs⟩ := own_form2 (Kd.S_R HR.out) (by rw [HL.out]; omega)
      have hokg : ok gb := (Kd.S_R HR.out).1 gb (by simp [Value.ownBlock])
      obtain ⟨oki, cs, hcl, hM, _, _, hoki, hH⟩ := Kd.S_elem HR.out zItem (k : Int) (by omega) (by omega)
      rw [Int.toNat_natCast, HO.out k (Nat.le_refl _)] at hM
      generalize hyy : xs.getD k zItem = y at hM hst hxk
      have HY := Lib.hid hyy
      obtain ⟨v0, v1, rfl, r0, r1⟩ := kItem_openM hM
      obtain ⟨B0, d0, hv0⟩ := Kd.R_slice r0
      subst hv0
      have R0 := Aside0.mk r0
      obtain ⟨B1, d1, hv1⟩ := Kd.R_slice r1
      subst hv1
      have R1 := Aside0.mk r1
      have HH := Aside0.mk hH
      have HK := Lib.hid hoki
      have HS := Lib.hid hst
      have HG := Lib.hid hokg
      clear hM hcl hH hoki hyy hst hokg HR r0 r1
      obtain ⟨hc, hf⟩ := H_at HH.out hlt'
      have x0_0 : wr.cell? ⟨gb, k * 5, none⟩ = some (.int .i64 y.f0) := hc 0 _ rfl
      have f0_0 : wr.frozen? ⟨gb, k * 5, none⟩ = false := hf 0
      have x0_1 : wr.cell? ⟨gb, k * 5 + 1, none⟩ = some (.string y.f1.f0) := hc 1 _ rfl
      have f0_1 : wr.frozen? ⟨gb, k * 5 + 1, none⟩ = false := hf 1
      have x0_2 : wr.cell? ⟨gb, k * 5 + 2, none⟩ = some (.string y.f1.f1) := hc 2 _ rfl
      have f0_2 : wr.frozen? ⟨gb, k * 5 + 2, none⟩ = false := hf 2
      have x0_3 : wr.cell? ⟨gb, k * 5 + 3, none⟩ = some (.slice B0 y.f2.length d0) := hc 3 _ rfl
      have f0_3 : wr.frozen? ⟨gb, k * 5 + 3, none⟩ = false := hf 3
      have x0_4 : wr.cell? ⟨gb, k * 5 + 4, none⟩ = some (.slice B1 y.f3.length d1) := hc 4 _ rfl
      have f0_4 : wr.frozen? ⟨gb, k * 5 + 4, none⟩ = false := hf 4
      clear hc hf
      go_wp2_with fail
      have PP := H_put HH.out hlt 0 (.int .i64 ((b : Int))) (by decide) rfl
      replace HH := Aside0.mk PP.1
      replace R0 := Aside0.mk (Kd.R_grown R0.out PP.2 (fun q hq e => (HK.out q hq).2 (by injection e)))
      replace R1 := Aside0.mk (Kd.R_grown R1.out PP.2 (fun q hq e => (HK.out q hq).2 (by injection e)))
      replace HT := Aside0.mk (HT.out.row PP.2 (fun q hq => by injection hq with hq; rw [← hq]; exact HG.out))
      clear PP
      refine (markText_at (b + 1) _ (by omega) (by omega) _).mono ?_
      rintro e u1 ⟨rfl, b1⟩
      replace HH := Aside0.mk (Kd.H_below HH.out b1)
      replace HT := Aside0.mk (HT.out.below b1)
      replace R0 := Aside0.mk (Kd.R_below R0.out b1)
      replace R1 := Aside0.mk (Kd.R_below R1.out b1)
      clear x0_0 f0_0 x0_1 f0_1 x0_2 f0_2 x0_3 f0_3 x0_4 f0_4
      obtain ⟨hc, hf⟩ := H_at HH.out hlt'
      have x1_0 : u1.cell? ⟨gb, k * 5, none⟩ = some (.int .i64 ((b : Int))) := hc 0 _ rfl
      have f1_0 : u1.frozen? ⟨gb, k * 5, none⟩ = false := hf 0
      have x1_1 : u1.cell? ⟨gb, k * 5 + 1, none⟩ = some (.string y.f1.f0) := hc 1 _ rfl
      have f1_1 : u1.frozen? ⟨gb, k * 5 + 1, none⟩ = false := hf 1
      have x1_2 : u1.cell? ⟨gb, k * 5 + 2, none⟩ = some (.string y.f1.f1) := hc 2 _ rfl
      have f1_2 : u1.frozen? ⟨gb, k * 5 + 2, none⟩ = false := hf 2
      have x1_3 : u1.cell? ⟨gb, k * 5 + 3, none⟩ = some (.slice B0 y.f2.length d0) := hc 3 _ rfl
      have f1_3 : u1.frozen? ⟨gb, k * 5 + 3, none⟩ = false := hf 3
      have x1_4 : u1.cell? ⟨gb, k * 5 + 4, none⟩ = some (.slice B1 y.f3.length d1) := hc 4 _ rfl
      have f1_4 : u1.frozen? ⟨gb, k * 5 + 4, none⟩ = false := hf 4
      clear hc hf
      clear b1
      go_wp2_with fail
      have PP := H_put HH.out hlt 1 (.string (markS (b + 1))) (by decide) rfl
      replace HH := Aside0.mk PP.1
      replace R0 := Aside0.mk (Kd.R_grown R0.out PP.2 (fun q hq e => (HK.out q hq).2 (by injection e)))
      replace R1 := Aside0.mk (Kd.R_grown R1.out PP.2 (fun q hq e => (HK.out q hq).2 (by injection e)))
      replace HT := Aside0.mk (HT.out.row PP.2 (fun q hq => by injection hq with hq; rw [← hq]; exact HG.out))
      clear PP
      refine (markText_at (b + 2) _ (by omega) (by omega) _).mono ?_
      rintro e u2 ⟨rfl, b2⟩
      replace HH := Aside0.mk (Kd.H_below HH.out b2)
      replace HT := Aside0.mk (HT.out.below b2)
      replace R0 := Aside0.mk (Kd.R_below R0.out b2)
      replace R1 := Aside0.mk (Kd.R_below R1.out b2)
      clear x1_0 f1_0 x1_1 f1_1 x1_2 f1_2 x1_3 f1_3 x1_4 f1_4
      obtain ⟨hc, hf⟩ := H_at HH.out hlt'
      have x2_0 : u2.cell? ⟨gb, k * 5, none⟩ = some (.int .i64 ((b : Int))) := hc 0 _ rfl
      have f2_0 : u2.frozen? ⟨gb, k * 5, none⟩ = false := hf 0
      have x2_1 : u2.cell? ⟨gb, k * 5 + 1, none⟩ = some (.string (markS (b + 1))) := hc 1 _ rfl
      have f2_1 : u2.frozen? ⟨gb, k * 5 + 1, none⟩ = false := hf 1
      have x2_2 : u2.cell? ⟨gb, k * 5 + 2, none⟩ = some (.string y.f1.f1) := hc 2 _ rfl
      have f2_2 : u2.frozen? ⟨gb, k * 5 + 2, none⟩ = false := hf 2
      have x2_3 : u2.cell? ⟨gb, k * 5 + 3, none⟩ = some (.slice B0 y.f2.length d0) := hc 3 _ rfl
      have f2_3 : u2.frozen? ⟨gb, k * 5 + 3, none⟩ = false := hf 3
      have x2_4 : u2.cell? ⟨gb, k * 5 + 4, none⟩ = some (.slice B1 y.f3.length d1) := hc 4 _ rfl
      have f2_4 : u2.frozen? ⟨gb, k * 5 + 4, none⟩ = false := hf 4
      clear hc hf
      clear b2
      go_wp2_with fail
      have PP := H_put HH.out hlt 2 (.string (markS (b + 2))) (by decide) rfl
      replace HH := Aside0.mk PP.1
      replace R0 := Aside0.mk (Kd.R_grown R0.out PP.2 (fun q hq e => (HK.out q hq).2 (by injection e)))
      replace R1 := Aside0.mk (Kd.R_grown R1.out PP.2 (fun q hq e => (HK.out q hq).2 (by injection e)))
      replace HT := Aside0.mk (HT.out.row PP.2 (fun q hq => by injection hq with hq; rw [← hq]; exact HG.out))
      clear PP
      refine (calls_at (a := b + 3) (by omega) (markRcptS_any B0 d0 d0 y.f2.length y.f2 (b + 3) base oki _ R0.out (by omega) (by omega))).mono ?_
      rintro e u3 ⟨rfl, m0, g0⟩
      replace R1 := Aside0.mk (Kd.R_over' R1.out (Kd.R_typed R0.out) (by decide) g0)
      replace HT := Aside0.mk (HT.out.row g0 (fun q hq => (HK.out q (R0.out.1 q hq)).1))
      replace HH := Aside0.mk (Kd.H_grown HH.out g0 (fun q hq => R0.out.1 q hq))
      replace R0 := Aside0.mk m0
      clear x2_0 f2_0 x2_1 f2_1 x2_2 f2_2 x2_3 f2_3 x2_4 f2_4
      obtain ⟨hc, hf⟩ := H_at HH.out hlt'
      have x3_0 : u3.cell? ⟨gb, k * 5, none⟩ = some (.int .i64 ((b : Int))) := hc 0 _ rfl
      have f3_0 : u3.frozen? ⟨gb, k * 5, none⟩ = false := hf 0
      have x3_1 : u3.cell? ⟨gb, k * 5 + 1, none⟩ = some (.string (markS (b + 1))) := hc 1 _ rfl
      have f3_1 : u3.frozen? ⟨gb, k * 5 + 1, none⟩ = false := hf 1
      have x3_2 : u3.cell? ⟨gb, k * 5 + 2, none⟩ = some (.string (markS (b + 2))) := hc 2 _ rfl
      have f3_2 : u3.frozen? ⟨gb, k * 5 + 2, none⟩ = false := hf 2
      have x3_3 : u3.cell? ⟨gb, k * 5 + 3, none⟩ = some (.slice B0 y.f2.length d0) := hc 3 _ rfl
      have f3_3 : u3.frozen? ⟨gb, k * 5 + 3, none⟩ = false := hf 3
      have x3_4 : u3.cell? ⟨gb, k * 5 + 4, none⟩ = some (.slice B1 y.f3.length d1) := hc 4 _ rfl
      have f3_4 : u3.frozen? ⟨gb, k * 5 + 4, none⟩ = false := hf 4
      clear hc hf
      clear m0 g0
      go_wp2_with fail
      refine (calls_at (a := b + 3 + 4 * y.f2.length) (by omega) (markStringS_any B1 d1 d1 y.f3.length y.f3 (b + 3 + 4 * y.f2.length) base oki _ R1.out (by omega) (by omega))).mono ?_
      rintro e u4 ⟨rfl, m1, g1⟩
      replace R0 := Aside0.mk (Kd.R_over' R0.out (Kd.R_typed R1.out) (by decide) g1)
      replace HT := Aside0.mk (HT.out.row g1 (fun q hq => (HK.out q (R1.out.1 q hq)).1))
      replace HH := Aside0.mk (Kd.H_grown HH.out g1 (fun q hq => R1.out.1 q hq))
      replace R1 := Aside0.mk m1
      clear x3_0 f3_0 x3_1 f3_1 x3_2 f3_2 x3_3 f3_3 x3_4 f3_4
      obtain ⟨hc, hf⟩ := H_at HH.out hlt'
      have x4_0 : u4.cell? ⟨gb, k * 5, none⟩ = some (.int .i64 ((b : Int))) := hc 0 _ rfl
      have f4_0 : u4.frozen? ⟨gb, k * 5, none⟩ = false := hf 0
      have x4_1 : u4.cell? ⟨gb, k * 5 + 1, none⟩ = some (.string (markS (b + 1))) := hc 1 _ rfl
      have f4_1 : u4.frozen? ⟨gb, k * 5 + 1, none⟩ = false := hf 1
      have x4_2 : u4.cell? ⟨gb, k * 5 + 2, none⟩ = some (.string (markS (b + 2))) := hc 2 _ rfl
      have f4_2 : u4.frozen? ⟨gb, k * 5 + 2, none⟩ = false := hf 2
      have x4_3 : u4.cell? ⟨gb, k * 5 + 3, none⟩ = some (.slice B0 y.f2.length d0) := hc 3 _ rfl
      have f4_3 : u4.frozen? ⟨gb, k * 5 + 3, none⟩ = false := hf 3
      have x4_4 : u4.cell? ⟨gb, k * 5 + 4, none⟩ = some (.slice B1 y.f3.length d1) := hc 4 _ rfl
      have f4_4 : u4.frozen? ⟨gb, k * 5 + 4, none⟩ = false := hf 4
      clear hc hf
      clear m1 g1
      go_wp2
      go_roundg (n - (k + 1))
      case measure => omega
      case rel =>
        have hcn : b + cntItem y = b + 3 + 4 * y.f2.length + 1 * y.f3.length := by unfold cntItem; omega
        have hmk : mkItem b y = ⟨((b + 0 : Nat) : Int), ⟨(markS (b + 1)), (markS (b + 2))⟩, (mksRcpt (b + 3) y.f2.length), (mksString (b + 3 + 4 * y.f2.length) y.f3.length)⟩ := by unfold mkItem; first | rfl | (congr 1; done)
        have hBk := Kd.H_back HH.out (x' := mkItem b y) (kItem_mkM _ _ _ (mkItem b y) (hr0 := R0.out) (hr1 := R1.out)) (fun _ h => h)
        rw [Int.toNat_natCast] at hBk
        refine ⟨k + 1, b + cntItem y, _, by omega, Nat.le_refl _, by rw [hcn]; first | rfl | (congr 1; done) | (congr 1; omega) | (congr 2; omega), by unfold cntItem; omega, ⟨by rw [HS.out, HB.out]; omega⟩, by go_num, ⟨?_⟩, ⟨?_⟩, ⟨?_⟩, ⟨hBk⟩, HT⟩
        · rw [List.length_set]; exact HL.out
        · intro j hj
          rw [set_getD zs k _ _ (by rw [HL.out]; exact hlt)]
          by_cases e : j = k
          · subst e; rw [if_pos rfl, HY.out, HB.out]
          · rw [if_neg e]; exact HM.out j (by omega)
        · intro j hj
          rw [set_getD zs k _ _ (by rw [HL.out]; exact hlt), if_neg (by omega)]
          exact HO.out j (by omega)
    · have hlt' : ¬ (k : Int) < (n : Int) := by omega
      have hkn : k = n := by omega
      have he : zs = mksItem a xs := ext_getD zItem (by rw [HL.out, mksItem_length]; exact HN.out) (fun j hj => by
        rw [HL.out] at hj
        rw [HM.out j (by omega)]
        have hj2 : j < xs.length := by rw [← HN.out]; exact hj
        simp [mksItem, hj2])
      rw [he] at HR
      have hbb := HB.out
      rw [hkn] at hbb
      have hbn : a + offItem xs n ≤ a + 8388608 * n := by rw [← hbb]; rw [hkn] at hb; exact hb
      have HBB := Lib.hid hbb
      have HBN := Lib.hid hbn
      clear hbb hbn HB he HM HL HO
      go_wp2
      go_ret
      exact ⟨reti (by have := HBB.out; omega), by have := HBN.out; omega, HR.out, HT.out⟩
def cntGot (x : SGot) : Nat := 2 + x.f1.length
def mkGot (b : Nat) (x : SGot) : SGot := ⟨⟨(markS b), (markS (b + 1))⟩, (mksString (b + 2) x.f1.length)⟩
def offGot (xs : List SGot) (k : Nat) : Nat := ((xs.take k).map cntGot).sum
def mksGot (a : Nat) (xs : List SGot) : List SGot := (List.range xs.length).map fun i => mkGot (a + offGot xs i) (xs.getD i zGot)
theorem mksGot_length (a : Nat) (xs : List SGot) : (mksGot a xs).length = xs.length := by simp [mksGot]
theorem offGot_step (xs : List SGot) (k : Nat) (h : k < xs.length) : offGot xs (k + 1) = offGot xs k + cntGot (xs.getD k zGot) := by
  unfold offGot
  rw [List.take_succ_eq_append_getElem h, List.map_append, List.sum_append, List.getD, List.getElem?_eq_getElem h]
  simp
set_option maxRecDepth 100000 in
set_option maxHeartbeats 8000000 in
theorem markGotS_any (A : Option Addr) (c cap n : Nat) (xs : List SGot) (a : Nat) (base : Nat) (ok : Nat → Prop) (w : World) (hr : Kd.S kGot 206 w base ok (.slice A n cap) xs) (hlen : n ≤ 1048576) (hx : ∀ x ∈ xs, x.f1.length ≤ 1048576) (ha : a ≤ 1152921504606846976) :
    Calls Tryz.prog 141 #[.slice A n c, .int .i64 (a : Int)] w fun e w' => e = .returned (.int .i64 ((a + offGot xs n : Nat) : Int)) ∧ a + offGot xs n ≤ a + 4194304 * n ∧ Kd.S kGot 206 w' base ok (.slice A n cap) (mksGot a xs) ∧ Tch ok w w' := by
  have hn0 : n = xs.length := (Kd.S_reads' hr).1
  have HN := Lib.hid hn0
  have HX := Lib.hid hx
  clear hn0 hx
  go_enter Tryz.func141, Tryz.ntmps141
  go_wp2
  go_loopg [1, 5] n (fun gq v1 v5 wr => ∃ (k b : Nat) (zs : List SGot), k ≤ n ∧ n - k ≤ gq ∧ v1 = .int .i64 (b : Int) ∧ b ≤ a + 4194304 * k ∧ Aside0 (b = a + offGot xs k) ∧ v5 = .int .i64 (k : Int) ∧ Aside0 (zs.length = n) ∧ Aside0 (∀ j, j < k → zs.getD j zGot = mkGot (a + offGot xs j) (xs.getD j zGot)) ∧ Aside0 (∀ j, k ≤ j → zs.getD j zGot = xs.getD j zGot) ∧ Aside0 (Kd.S kGot 206 wr base ok (.slice A n cap) zs) ∧ Aside0 (Tch ok w wr))
  case atStart => exact ⟨0, a, xs, Nat.zero_le _, by omega, rfl, by omega, ⟨by simp [offGot]⟩, rfl, ⟨HN.out.symm⟩, ⟨fun j hj => absurd hj (Nat.not_lt_zero _)⟩, ⟨fun _ _ => rfl⟩, ⟨hr⟩, ⟨Tch.refl _ _⟩⟩
  case round =>
    clear hr
    obtain ⟨k, b, zs, hk, hg, rfl, hb, HB, rfl, HL, HM, HO, HR, HT⟩ := hrel
    by_cases hlt : k < n
    · have hlt' : (k : Int) < (n : Int) := by omega
      have hst := offGot_step xs k (by rw [← HN.out]; exact hlt)
      have hxk := HX.out (xs.getD k zGot) (getD_mem xs _ (by rw [← HN.out]; exact hlt))
      obtain ⟨gb, rfl, hgb, hgs⟩ := own_form2 (Kd.S_R HR.out) (by rw [HL.out]; omega)
      have hokg : ok gb := (Kd.S_R HR.out).1 gb (by simp [Value.ownBlock])
      obtain ⟨oki, cs, hcl, hM, _, _, hoki, hH⟩ := Kd.S_elem HR.out zGot (k : Int) (by omega) (by omega)
      rw [Int.toNat_natCast, HO.out k (Nat.le_refl _)] at hM
      generalize hyy : xs.getD k zGot = y at hM hst hxk
      have HY := Lib.hid hyy
      obtain ⟨v0, rfl, r0⟩ := kGot_openM hM
      obtain ⟨B0, d0, hv0⟩ := Kd.R_slice r0
      subst hv0
      have R0 := Aside0.mk r0
      have HH := Aside0.mk hH
      have HK := Lib.hid hoki
      have HS := Lib.hid hst
      have HG := Lib.hid hokg
      clear hM hcl hH hoki hyy hst hokg HR r0
      obtain ⟨hc, hf⟩ := H_at HH.out hlt'
      have x0_0 : wr.cell? ⟨gb, k * 3, none⟩ = some (.string y.f0.f0) := hc 0 _ rfl
      have f0_0 : wr.frozen? ⟨gb, k * 3, none⟩ = false := hf 0
      have x0_1 : wr.cell? ⟨gb, k * 3 + 1, none⟩ = some (.string y.f0.f1) := hc 1 _ rfl
      have f0_1 : wr.frozen? ⟨gb, k * 3 + 1, none⟩ = false := hf 1
      have x0_2 : wr.cell? ⟨gb, k * 3 + 2, none⟩ = some (.slice B0 y.f1.length d0) := hc 2 _ rfl
      have f0_2 : wr.frozen? ⟨gb, k * 3 + 2, none⟩ = false := hf 2
      clear hc hf
      go_wp2_with fail
      refine (markText_at (b) _ (by omega) (by omega) _).mono ?_
      rintro e u0 ⟨rfl, b0⟩
      replace HH := Aside0.mk (Kd.H_below HH.out b0)
      replace HT := Aside0.mk (HT.out.below b0)
      replace R0 := Aside0.mk (Kd.R_below R0.out b0)
      clear x0_0 f0_0 x0_1 f0_1 x0_2 f0_2
      obtain ⟨hc, hf⟩ := H_at HH.out hlt'
      have x1_0 : u0.cell? ⟨gb, k * 3, none⟩ = some (.string y.f0.f0) := hc 0 _ rfl
      have f1_0 : u0.frozen? ⟨gb, k * 3, none⟩ = false := hf 0
      have x1_1 : u0.cell? ⟨gb, k * 3 + 1, none⟩ = some (.string y.f0.f1) := hc 1 _ rfl
      have f1_1 : u0.frozen? ⟨gb, k * 3 + 1, none⟩ = false := hf 1
      have x1_2 : u0.cell? ⟨gb, k * 3 + 2, none⟩ = some (.slice B0 y.f1.length d0) := hc 2 _ rfl
      have f1_2 : u0.frozen? ⟨gb, k * 3 + 2, none⟩ = false := hf 2
      clear hc hf
      clear b0
      go_wp2_with fail
      have PP := H_put HH.out hlt 0 (.string (markS (b))) (by decide) rfl
      replace HH := Aside0.mk PP.1
      replace R0 := Aside0.mk (Kd.R_grown R0.out PP.2 (fun q hq e => (HK.out q hq).2 (by injection e)))
      replace HT := Aside0.mk (HT.out.row PP.2 (fun q hq => by injection hq with hq; rw [← hq]; exact HG.out))
      clear PP
      refine (markText_at (b + 1) _ (by omega) (by omega) _).mono ?_
      rintro e u1 ⟨rfl, b1⟩
      replace HH := Aside0.mk (Kd.H_below HH.out b1)
      replace HT := Aside0.mk (HT.out.below b1)
      replace R0 := Aside0.mk (Kd.R_below R0.out b1)
      clear x1_0 f1_0 x1_1 f1_1 x1_2 f1_2
      obtain ⟨hc, hf⟩ := H_at HH.out hlt'
      have x2_0 : u1.cell? ⟨gb, k * 3, none⟩ = some (.string (markS (b))) := hc 0 _ rfl
      have f2_0 : u1.frozen? ⟨gb, k * 3, none⟩ = false := hf 0
      have x2_1 : u1.cell? ⟨gb, k * 3 + 1, none⟩ = some (.string y.f0.f1) := hc 1 _ rfl
      have f2_1 : u1.frozen? ⟨gb, k * 3 + 1, none⟩ = false := hf 1
      have x2_2 : u1.cell? ⟨gb, k * 3 + 2, none⟩ = some (.slice B0 y.f1.length d0) := hc 2 _ rfl
      have f2_2 : u1.frozen? ⟨gb, k * 3 + 2, none⟩ = false := hf 2
      clear hc hf
      clear b1
      go_wp2_with fail
      have PP := H_put HH.out hlt 1 (.string (markS (b + 1))) (by decide) rfl
      replace HH := Aside0.mk PP.1
      replace R0 := Aside0.mk (Kd.R_grown R0.out PP.2 (fun q hq e => (HK.out q hq).2 (by injection e)))
      replace HT := Aside0.mk (HT.out.row PP.2 (fun q hq => by injection hq with hq; rw [← hq]; exact HG.out))
      clear PP
      refine (calls_at (a := b + 2) (by omega) (markStringS_any B0 d0 d0 y.f1.length y.f1 (b + 2) base oki _ R0.out (by omega) (by omega))).mono ?_
      rintro e u2 ⟨rfl, m0, g0⟩
      replace HT := Aside0.mk (HT.out.row g0 (fun q hq => (HK.out q (R0.out.1 q hq)).1))
      replace HH := Aside0.mk (Kd.H_grown HH.out g0 (fun q hq => R0.out.1 q hq))
      replace R0 := Aside0.mk m0
      clear x2_0 f2_0 x2_1 f2_1 x2_2 f2_2
      obtain ⟨hc, hf⟩ := H_at HH.out hlt'
      have x3_0 : u2.cell? ⟨gb, k * 3, none⟩ = some (.string (markS (b))) := hc 0 _ rfl
      have f3_0 : u2.frozen? ⟨gb, k * 3, none⟩ = false := hf 0
      have x3_1 : u2.cell? ⟨gb, k * 3 + 1, none⟩ = some (.string (markS (b + 1))) := hc 1 _ rfl
      have f3_1 : u2.frozen? ⟨gb, k * 3 + 1, none⟩ = false := hf 1
      have x3_2 : u2.cell? ⟨gb, k * 3 + 2, none⟩ = some (.slice B0 y.f1.length d0) := hc 2 _ rfl
      have f3_2 : u2.frozen? ⟨gb, k * 3 + 2, none⟩ = false := hf 2
      clear hc hf
      clear m0 g0
      go_wp2
      go_roundg (n - (k + 1))
      case measure => omega
      case rel =>
        have hcn : b + cntGot y = b + 2 + 1 * y.f1.length := by unfold cntGot; omega
        have hmk : mkGot b y = ⟨⟨(markS (b)), (markS (b + 1))⟩, (mksString (b + 2) y.f1.length)⟩ := by unfold mkGot; first | rfl | (congr 1; done)
        have hBk := Kd.H_back HH.out (x' := mkGot b y) (kGot_mkM _ _ _ (mkGot b y) (hr0 := R0.out)) (fun _ h => h)
        rw [Int.toNat_natCast] at hBk
        refine ⟨k + 1, b + cntGot y, _, by omega, Nat.le_refl _, by rw [hcn]; first | rfl | (congr 1; done) | (congr 1; omega) | (congr 2; omega), by unfold cntGot; omega, ⟨by rw [HS.out, HB.out]; omega⟩, by go_num, ⟨?_⟩, ⟨?_⟩, ⟨?_⟩, ⟨hBk⟩, HT⟩
        · rw [List.length_set]; exact HL.out
        · intro j hj
          rw [set_getD zs k _ _ (by rw [HL.out]; exact hlt)]
          by_cases e : j = k
          · subst e; rw [if_pos rfl, HY.out, HB.out]
          · rw [if_neg e]; exact HM.out j (by omega)
        · intro j hj
          rw [set_getD zs k _ _ (by rw [HL.out]; exact hlt), if_neg (by omega)]
          exact HO.out j (by omega)
    · have hlt' : ¬ (k : Int) < (n : Int) := by omega
      have hkn : k = n := by omega
      have he : zs = mksGot a xs := ext_getD zGot (by rw [HL.out, mksGot_length]; exact HN.out) (fun j hj => by
        rw [HL.out] at hj
        rw [HM.out j (by omega)]
        have hj2 : j < xs.length := by rw [← HN.out]; exact hj
        simp [mksGot, hj2])
      rw [he] at HR
      have hbb := HB.out
      rw [hkn] at hbb
      have hbn : a + offGot xs n ≤ a + 4194304 * n := by rw [← hbb]; rw [hkn] at hb; exact hb
      have HBB := Lib.hid hbb
      have HBN := Lib.hid hbn
      clear hbb hbn HB he HM HL HO
      go_wp2
      go_ret
      exact ⟨reti (by have := HBB.out; omega), by have := HBN.out; omega, HR.out, HT.out⟩
set_option maxRecDepth 100000 in
set_option maxHeartbeats 4000000 in
theorem markMail_any (x : SMail) (A0 : Option Addr) (c0 : Nat) (A1 : Option Addr) (c1 : Nat) (a : Nat) (base : Nat) (ok : Nat → Prop) (w : World) (hw : fitMail x) (hr0 : Kd.R kAddr 32 w base ok (.slice A0 x.f1.length c0) x.f1) (hr1 : Kd.R Kd.string 9 w base ok (.slice A1 x.f2.length c1) x.f2) (ha : a ≤ 1099511627776) :
    Calls Tryz.prog 44 #[.agg #[.string x.f0.f0, .string x.f0.f1, .slice A0 x.f1.length c0, .slice A1 x.f2.length c1], .int .i64 (a : Int)] w fun e w' => e = .returned (.int .i64 ((a + 2 * x.f1.length + 1 * x.f2.length : Nat) : Int)) ∧ a + 2 * x.f1.length + 1 * x.f2.length ≤ a + 35184372088832 ∧ Kd.R kAddr 32 w' base ok (.slice A0 x.f1.length c0) (mksAddr (a) x.f1.length) ∧ Kd.R Kd.string 9 w' base ok (.slice A1 x.f2.length c1) (mksString (a + 2 * x.f1.length) x.f2.length) ∧ Tch ok w w' := by
  unfold fitMail at hw
  obtain ⟨hw_0, hw_1, hw_2⟩ := hw
  have G0 := Aside0.mk (Kd.R_alloc (Kd.R_mono (Kd.R_bound hr0) (ok' := (fun q => ok q ∧ q < w.heap.size)) (fun q hq => ⟨hq.1, hq.2.2.1⟩)) (.cells #[.string x.f0.f0, .string x.f0.f1, .slice A0 x.f1.length c0, .slice A1 x.f2.length c1] 35))
  clear hr0
  have G1 := Aside0.mk (Kd.R_alloc (Kd.R_mono (Kd.R_bound hr1) (ok' := (fun q => ok q ∧ q < w.heap.size)) (fun q hq => ⟨hq.1, hq.2.2.1⟩)) (.cells #[.string x.f0.f0, .string x.f0.f1, .slice A0 x.f1.length c0, .slice A1 x.f2.length c1] 35))
  clear hr1
  have T0 : Aside0 (Tch (fun q => ok q ∧ q < w.heap.size) w (w.alloc (.cells #[.string x.f0.f0, .string x.f0.f1, .slice A0 x.f1.length c0, .slice A1 x.f2.length c1] 35))) := ⟨(Tch.refl _ _).below ((Below.refl _ _).alloc (Nat.le_refl _) _)⟩
  have hz0 : w.heap.size < (w.alloc (.cells #[.string x.f0.f0, .string x.f0.f1, .slice A0 x.f1.length c0, .slice A1 x.f2.length c1] 35)).heap.size := by simp
  have x0_0 : (w.alloc (.cells #[.string x.f0.f0, .string x.f0.f1, .slice A0 x.f1.length c0, .slice A1 x.f2.length c1] 35)).cell? ⟨w.heap.size, 0, none⟩ = some (.string x.f0.f0) := by simp
  have x0_1 : (w.alloc (.cells #[.string x.f0.f0, .string x.f0.f1, .slice A0 x.f1.length c0, .slice A1 x.f2.length c1] 35)).cell? ⟨w.heap.size, 1, none⟩ = some (.string x.f0.f1) := by simp
  have x0_2 : (w.alloc (.cells #[.string x.f0.f0, .string x.f0.f1, .slice A0 x.f1.length c0, .slice A1 x.f2.length c1] 35)).cell? ⟨w.heap.size, 2, none⟩ = some (.slice A0 x.f1.length c0) := by simp
  have x0_3 : (w.alloc (.cells #[.string x.f0.f0, .string x.f0.f1, .slice A0 x.f1.length c0, .slice A1 x.f2.length c1] 35)).cell? ⟨w.heap.size, 3, none⟩ = some (.slice A1 x.f2.length c1) := by simp
  go_enter Tryz.func44, Tryz.ntmps44
  go_wp2_with fail
  refine (calls_at (a := a) (by omega) (markAddrS_any A0 c0 c0 x.f1.length x.f1 (a) base (fun q => ok q ∧ q < w.heap.size) _ G0.out hw_1.1 (by omega))).mono ?_
  rintro e u0 ⟨rfl, m0, g0⟩
  have t0 : Tch (fun q => ok q ∧ q < w.heap.size) _ u0 := (Tch.refl _ _).row g0 (fun q hq => G0.out.1 q hq)
  replace G1 := Aside0.mk (Kd.R_over' G1.out (Kd.R_typed G0.out) (by decide) g0)
  clear g0
  have T1 := Aside0.mk (T0.out.trans t0)
  replace G0 := Aside0.mk m0
  have x1_0 := (tch_cell t0 hz0 (fun h => Nat.lt_irrefl _ h.2) 0).trans x0_0
  have x1_1 := (tch_cell t0 hz0 (fun h => Nat.lt_irrefl _ h.2) 1).trans x0_1
  have x1_2 := (tch_cell t0 hz0 (fun h => Nat.lt_irrefl _ h.2) 2).trans x0_2
  have x1_3 := (tch_cell t0 hz0 (fun h => Nat.lt_irrefl _ h.2) 3).trans x0_3
  have hz1 : w.heap.size < u0.heap.size := Nat.lt_of_lt_of_le hz0 t0.size
  clear m0 t0 x0_0 x0_1 x0_2 x0_3
  go_wp2_with fail
  refine (calls_at (a := a + 2 * x.f1.length) (by omega) (markStringS_any A1 c1 c1 x.f2.length x.f2 (a + 2 * x.f1.length) base (fun q => ok q ∧ q < w.heap.size) _ G1.out hw_2.1 (by omega))).mono ?_
  rintro e u1 ⟨rfl, m1, g1⟩
  have t1 : Tch (fun q => ok q ∧ q < w.heap.size) _ u1 := (Tch.refl _ _).row g1 (fun q hq => G1.out.1 q hq)
  replace G0 := Aside0.mk (Kd.R_over' G0.out (Kd.R_typed G1.out) (by decide) g1)
  clear g1
  have T2 := Aside0.mk (T1.out.trans t1)
  replace G1 := Aside0.mk m1
  have x2_0 := (tch_cell t1 hz1 (fun h => Nat.lt_irrefl _ h.2) 0).trans x1_0
  have x2_1 := (tch_cell t1 hz1 (fun h => Nat.lt_irrefl _ h.2) 1).trans x1_1
  have x2_2 := (tch_cell t1 hz1 (fun h => Nat.lt_irrefl _ h.2) 2).trans x1_2
  have x2_3 := (tch_cell t1 hz1 (fun h => Nat.lt_irrefl _ h.2) 3).trans x1_3
  have hz2 : w.heap.size < u1.heap.size := Nat.lt_of_lt_of_le hz1 t1.size
  clear m1 t1 x1_0 x1_1 x1_2 x1_3
  go_wp2
  go_ret
  exact ⟨reti (by omega), by omega, Kd.R_mono G0.out (fun q hq => hq.1), Kd.R_mono G1.out (fun q hq => hq.1), T2.out.mono (fun q hq _ => hq.1)⟩
set_option maxRecDepth 100000 in
set_option maxHeartbeats 4000000 in
theorem markConf_any (x : SConf) (A0 : Option Addr) (c0 : Nat) (A1 : Option Addr) (c1 : Nat) (a : Nat) (base : Nat) (ok : Nat → Prop) (w : World) (hw : fitConf x) (hr0 : Kd.R Kd.string 9 w base ok (.slice A0 x.f1.length c0) x.f1) (hr1 : Kd.R kWay 136 w base ok (.slice A1 x.f2.length c1) x.f2) (ha : a ≤ 1099511627776) :
    Calls Tryz.prog 30 #[.agg #[.string x.f0, .slice A0 x.f1.length c0, .slice A1 x.f2.length c1], .int .i64 (a : Int)] w fun e w' => e = .returned (.int .i64 ((a + 1 * x.f1.length + 2 * x.f2.length : Nat) : Int)) ∧ a + 1 * x.f1.length + 2 * x.f2.length ≤ a + 35184372088832 ∧ Kd.R Kd.string 9 w' base ok (.slice A0 x.f1.length c0) (mksString (a) x.f1.length) ∧ Kd.R kWay 136 w' base ok (.slice A1 x.f2.length c1) (mksWay (a + 1 * x.f1.length) x.f2.length) ∧ Tch ok w w' := by
  unfold fitConf at hw
  obtain ⟨hw_0, hw_1, hw_2⟩ := hw
  have G0 := Aside0.mk (Kd.R_alloc (Kd.R_mono (Kd.R_bound hr0) (ok' := (fun q => ok q ∧ q < w.heap.size)) (fun q hq => ⟨hq.1, hq.2.2.1⟩)) (.cells #[.string x.f0, .slice A0 x.f1.length c0, .slice A1 x.f2.length c1] 47))
  clear hr0
  have G1 := Aside0.mk (Kd.R_alloc (Kd.R_mono (Kd.R_bound hr1) (ok' := (fun q => ok q ∧ q < w.heap.size)) (fun q hq => ⟨hq.1, hq.2.2.1⟩)) (.cells #[.string x.f0, .slice A0 x.f1.length c0, .slice A1 x.f2.length c1] 47))
  clear hr1
  have T0 : Aside0 (Tch (fun q => ok q ∧ q < w.heap.size) w (w.alloc (.cells #[.string x.f0, .slice A0 x.f1.length c0, .slice A1 x.f2.length c1] 47))) := ⟨(Tch.refl _ _).below ((Below.refl _ _).alloc (Nat.le_refl _) _)⟩
  have hz0 : w.heap.size < (w.alloc (.cells #[.string x.f0, .slice A0 x.f1.length c0, .slice A1 x.f2.length c1] 47)).heap.size := by simp
  have x0_0 : (w.alloc (.cells #[.string x.f0, .slice A0 x.f1.length c0, .slice A1 x.f2.length c1] 47)).cell? ⟨w.heap.size, 0, none⟩ = some (.string x.f0) := by simp
  have x0_1 : (w.alloc (.cells #[.string x.f0, .slice A0 x.f1.length c0, .slice A1 x.f2.length c1] 47)).cell? ⟨w.heap.size, 1, none⟩ = some (.slice A0 x.f1.length c0) := by simp
  have x0_2 : (w.alloc (.cells #[.string x.f0, .slice A0 x.f1.length c0, .slice A1 x.f2.length c1] 47)).cell? ⟨w.heap.size, 2, none⟩ = some (.slice A1 x.f2.length c1) := by simp
  go_enter Tryz.func30, Tryz.ntmps30
  go_wp2_with fail
  refine (calls_at (a := a) (by omega) (markStringS_any A0 c0 c0 x.f1.length x.f1 (a) base (fun q => ok q ∧ q < w.heap.size) _ G0.out hw_1.1 (by omega))).mono ?_
  rintro e u0 ⟨rfl, m0, g0⟩
  have t0 : Tch (fun q => ok q ∧ q < w.heap.size) _ u0 := (Tch.refl _ _).row g0 (fun q hq => G0.out.1 q hq)
  replace G1 := Aside0.mk (Kd.R_over' G1.out (Kd.R_typed G0.out) (by decide) g0)
  clear g0
  have T1 := Aside0.mk (T0.out.trans t0)
  replace G0 := Aside0.mk m0
  have x1_0 := (tch_cell t0 hz0 (fun h => Nat.lt_irrefl _ h.2) 0).trans x0_0
  have x1_1 := (tch_cell t0 hz0 (fun h => Nat.lt_irrefl _ h.2) 1).trans x0_1
  have x1_2 := (tch_cell t0 hz0 (fun h => Nat.lt_irrefl _ h.2) 2).trans x0_2
  have hz1 : w.heap.size < u0.heap.size := Nat.lt_of_lt_of_le hz0 t0.size
  clear m0 t0 x0_0 x0_1 x0_2
  go_wp2_with fail
  refine (calls_at (a := a + 1 * x.f1.length) (by omega) (markWayS_any A1 c1 c1 x.f2.length x.f2 (a + 1 * x.f1.length) base (fun q => ok q ∧ q < w.heap.size) _ G1.out hw_2.1 (by omega))).mono ?_
  rintro e u1 ⟨rfl, m1, g1⟩
  have t1 : Tch (fun q => ok q ∧ q < w.heap.size) _ u1 := (Tch.refl _ _).row g1 (fun q hq => G1.out.1 q hq)
  replace G0 := Aside0.mk (Kd.R_over' G0.out (Kd.R_typed G1.out) (by decide) g1)
  clear g1
  have T2 := Aside0.mk (T1.out.trans t1)
  replace G1 := Aside0.mk m1
  have x2_0 := (tch_cell t1 hz1 (fun h => Nat.lt_irrefl _ h.2) 0).trans x1_0
  have x2_1 := (tch_cell t1 hz1 (fun h => Nat.lt_irrefl _ h.2) 1).trans x1_1
  have x2_2 := (tch_cell t1 hz1 (fun h => Nat.lt_irrefl _ h.2) 2).trans x1_2
  have hz2 : w.heap.size < u1.heap.size := Nat.lt_of_lt_of_le hz1 t1.size
  clear m1 t1 x1_0 x1_1 x1_2
  go_wp2
  go_ret
  exact ⟨reti (by omega), by omega, Kd.R_mono G0.out (fun q hq => hq.1), Kd.R_mono G1.out (fun q hq => hq.1), T2.out.mono (fun q hq _ => hq.1)⟩
set_option maxRecDepth 100000 in
set_option maxHeartbeats 4000000 in
theorem markSpool_any (x : SSpool) (A0 : Option Addr) (c0 : Nat) (a : Nat) (base : Nat) (ok : Nat → Prop) (w : World) (hw : fitSpool x) (hr0 : Kd.S kItem 202 w base ok (.slice A0 x.f1.length c0) x.f1) (ha : a ≤ 1099511627776) :
    Calls Tryz.prog 76 #[.agg #[.int .i64 x.f0, .slice A0 x.f1.length c0], .int .i64 (a : Int)] w fun e w' => e = .returned (.int .i64 ((a + offItem x.f1 x.f1.length : Nat) : Int)) ∧ a + offItem x.f1 x.f1.length ≤ a + 35184372088832 ∧ Kd.S kItem 202 w' base ok (.slice A0 x.f1.length c0) (mksItem (a) x.f1) ∧ Tch ok w w' := by
  unfold fitSpool at hw
  obtain ⟨hw_0, hw_1⟩ := hw
  have G0 := Aside0.mk (Kd.S_alloc (Kd.S_mono (Kd.S_bound hr0) (ok' := (fun q => ok q ∧ q < w.heap.size)) (fun q hq => ⟨hq.1, hq.2.2.1⟩)) (.cells #[.int .i64 x.f0, .slice A0 x.f1.length c0] 67))
  clear hr0
  have T0 : Aside0 (Tch (fun q => ok q ∧ q < w.heap.size) w (w.alloc (.cells #[.int .i64 x.f0, .slice A0 x.f1.length c0] 67))) := ⟨(Tch.refl _ _).below ((Below.refl _ _).alloc (Nat.le_refl _) _)⟩
  have hz0 : w.heap.size < (w.alloc (.cells #[.int .i64 x.f0, .slice A0 x.f1.length c0] 67)).heap.size := by simp
  have x0_0 : (w.alloc (.cells #[.int .i64 x.f0, .slice A0 x.f1.length c0] 67)).cell? ⟨w.heap.size, 0, none⟩ = some (.int .i64 x.f0) := by simp
  have x0_1 : (w.alloc (.cells #[.int .i64 x.f0, .slice A0 x.f1.length c0] 67)).cell? ⟨w.heap.size, 1, none⟩ = some (.slice A0 x.f1.length c0) := by simp
  go_enter Tryz.func76, Tryz.ntmps76
  go_wp2_with fail
  refine (calls_at (a := a) (by omega) (markItemS_any A0 c0 c0 x.f1.length x.f1 (a) base (fun q => ok q ∧ q < w.heap.size) _ G0.out hw_1.1 (fun y hy => Item_lens (hw_1.2 y hy)) (by omega))).mono ?_
  rintro e u0 ⟨rfl, le0, m0, t0⟩
  have T1 := Aside0.mk (T0.out.trans t0)
  replace G0 := Aside0.mk m0
  have x1_0 := (tch_cell t0 hz0 (fun h => Nat.lt_irrefl _ h.2) 0).trans x0_0
  have x1_1 := (tch_cell t0 hz0 (fun h => Nat.lt_irrefl _ h.2) 1).trans x0_1
  have hz1 : w.heap.size < u0.heap.size := Nat.lt_of_lt_of_le hz0 t0.size
  clear m0 t0 x0_0 x0_1
  go_wp2
  go_ret
  exact ⟨reti (by omega), by omega, Kd.S_mono G0.out (fun q hq => hq.1), T1.out.mono (fun q hq _ => hq.1)⟩
set_option maxRecDepth 100000 in
set_option maxHeartbeats 4000000 in
theorem markCli_any (x : SCli) (A0 : Option Addr) (c0 : Nat) (A1 : Option Addr) (c1 : Nat) (A2 : Option Addr) (c2 : Nat) (a : Nat) (base : Nat) (ok : Nat → Prop) (w : World) (hw : fitCli x) (hr0 : Kd.R kAddr 32 w base ok (.slice A0 x.f1.f1.length c0) x.f1.f1) (hr1 : Kd.R Kd.string 9 w base ok (.slice A1 x.f1.f2.length c1) x.f1.f2) (hr2 : Kd.R (Kd.int .i64) 3 w base ok (.slice A2 x.f4.length c2) x.f4) (ha : a ≤ 1099511627776) :
    Calls Tryz.prog 12 #[.agg #[.string x.f0, .string x.f1.f0.f0, .string x.f1.f0.f1, .slice A0 x.f1.f1.length c0, .slice A1 x.f1.f2.length c1, .int .i64 x.f2, .int .i64 x.f3, .slice A2 x.f4.length c2], .int .i64 (a : Int)] w fun e w' => e = .returned (.int .i64 ((a + 2 * x.f1.f1.length + 1 * x.f1.f2.length + 1 * x.f4.length : Nat) : Int)) ∧ a + 2 * x.f1.f1.length + 1 * x.f1.f2.length + 1 * x.f4.length ≤ a + 35184372088832 ∧ Kd.R kAddr 32 w' base ok (.slice A0 x.f1.f1.length c0) (mksAddr (a) x.f1.f1.length) ∧ Kd.R Kd.string 9 w' base ok (.slice A1 x.f1.f2.length c1) (mksString (a + 2 * x.f1.f1.length) x.f1.f2.length) ∧ Kd.R (Kd.int .i64) 3 w' base ok (.slice A2 x.f4.length c2) (mksInt (a + 2 * x.f1.f1.length + 1 * x.f1.f2.length) x.f4.length) ∧ Tch ok w w' := by
  unfold fitCli at hw
  obtain ⟨hw_0, hw_1, hw_2, hw_3, hw_4⟩ := hw
  have G0 := Aside0.mk (Kd.R_alloc (Kd.R_mono (Kd.R_bound hr0) (ok' := (fun q => ok q ∧ q < w.heap.size)) (fun q hq => ⟨hq.1, hq.2.2.1⟩)) (.cells #[.string x.f0, .string x.f1.f0.f0, .string x.f1.f0.f1, .slice A0 x.f1.f1.length c0, .slice A1 x.f1.f2.length c1, .int .i64 x.f2, .int .i64 x.f3, .slice A2 x.f4.length c2] 37))
  clear hr0
  have G1 := Aside0.mk (Kd.R_alloc (Kd.R_mono (Kd.R_bound hr1) (ok' := (fun q => ok q ∧ q < w.heap.size)) (fun q hq => ⟨hq.1, hq.2.2.1⟩)) (.cells #[.string x.f0, .string x.f1.f0.f0, .string x.f1.f0.f1, .slice A0 x.f1.f1.length c0, .slice A1 x.f1.f2.length c1, .int .i64 x.f2, .int .i64 x.f3, .slice A2 x.f4.length c2] 37))
  clear hr1
  have G2 := Aside0.mk (Kd.R_alloc (Kd.R_mono (Kd.R_bound hr2) (ok' := (fun q => ok q ∧ q < w.heap.size)) (fun q hq => ⟨hq.1, hq.2.2.1⟩)) (.cells #[.string x.f0, .string x.f1.f0.f0, .string x.f1.f0.f1, .slice A0 x.f1.f1.length c0, .slice A1 x.f1.f2.length c1, .int .i64 x.f2, .int .i64 x.f3, .slice A2 x.f4.length c2] 37))
  clear hr2
  have T0 : Aside0 (Tch (fun q => ok q ∧ q < w.heap.size) w (w.alloc (.cells #[.string x.f0, .string x.f1.f0.f0, .string x.f1.f0.f1, .slice A0 x.f1.f1.length c0, .slice A1 x.f1.f2.length c1, .int .i64 x.f2, .int .i64 x.f3, .slice A2 x.f4.length c2] 37))) := ⟨(Tch.refl _ _).below ((Below.refl _ _).alloc (Nat.le_refl _) _)⟩
  have hz0 : w.heap.size < (w.alloc (.cells #[.string x.f0, .string x.f1.f0.f0, .string x.f1.f0.f1, .slice A0 x.f1.f1.length c0, .slice A1 x.f1.f2.length c1, .int .i64 x.f2, .int .i64 x.f3, .slice A2 x.f4.length c2] 37)).heap.size := by simp
  have x0_0 : (w.alloc (.cells #[.string x.f0, .string x.f1.f0.f0, .string x.f1.f0.f1, .slice A0 x.f1.f1.length c0, .slice A1 x.f1.f2.length c1, .int .i64 x.f2, .int .i64 x.f3, .slice A2 x.f4.length c2] 37)).cell? ⟨w.heap.size, 0, none⟩ = some (.string x.f0) := by simp
  have x0_1 : (w.alloc (.cells #[.string x.f0, .string x.f1.f0.f0, .string x.f1.f0.f1, .slice A0 x.f1.f1.length c0, .slice A1 x.f1.f2.length c1, .int .i64 x.f2, .int .i64 x.f3, .slice A2 x.f4.length c2] 37)).cell? ⟨w.heap.size, 1, none⟩ = some (.string x.f1.f0.f0) := by simp
  have x0_2 : (w.alloc (.cells #[.string x.f0, .string x.f1.f0.f0, .string x.f1.f0.f1, .slice A0 x.f1.f1.length c0, .slice A1 x.f1.f2.length c1, .int .i64 x.f2, .int .i64 x.f3, .slice A2 x.f4.length c2] 37)).cell? ⟨w.heap.size, 2, none⟩ = some (.string x.f1.f0.f1) := by simp
  have x0_3 : (w.alloc (.cells #[.string x.f0, .string x.f1.f0.f0, .string x.f1.f0.f1, .slice A0 x.f1.f1.length c0, .slice A1 x.f1.f2.length c1, .int .i64 x.f2, .int .i64 x.f3, .slice A2 x.f4.length c2] 37)).cell? ⟨w.heap.size, 3, none⟩ = some (.slice A0 x.f1.f1.length c0) := by simp
  have x0_4 : (w.alloc (.cells #[.string x.f0, .string x.f1.f0.f0, .string x.f1.f0.f1, .slice A0 x.f1.f1.length c0, .slice A1 x.f1.f2.length c1, .int .i64 x.f2, .int .i64 x.f3, .slice A2 x.f4.length c2] 37)).cell? ⟨w.heap.size, 4, none⟩ = some (.slice A1 x.f1.f2.length c1) := by simp
  have x0_5 : (w.alloc (.cells #[.string x.f0, .string x.f1.f0.f0, .string x.f1.f0.f1, .slice A0 x.f1.f1.length c0, .slice A1 x.f1.f2.length c1, .int .i64 x.f2, .int .i64 x.f3, .slice A2 x.f4.length c2] 37)).cell? ⟨w.heap.size, 5, none⟩ = some (.int .i64 x.f2) := by simp
  have x0_6 : (w.alloc (.cells #[.string x.f0, .string x.f1.f0.f0, .string x.f1.f0.f1, .slice A0 x.f1.f1.length c0, .slice A1 x.f1.f2.length c1, .int .i64 x.f2, .int .i64 x.f3, .slice A2 x.f4.length c2] 37)).cell? ⟨w.heap.size, 6, none⟩ = some (.int .i64 x.f3) := by simp
  have x0_7 : (w.alloc (.cells #[.string x.f0, .string x.f1.f0.f0, .string x.f1.f0.f1, .slice A0 x.f1.f1.length c0, .slice A1 x.f1.f2.length c1, .int .i64 x.f2, .int .i64 x.f3, .slice A2 x.f4.length c2] 37)).cell? ⟨w.heap.size, 7, none⟩ = some (.slice A2 x.f4.length c2) := by simp
  go_enter Tryz.func12, Tryz.ntmps12
  have K0 := Kd.R_mono (Kd.R_apart' (G0.out) (Kd.R_typed G2.out) (by decide)) (ok' := (fun q => (fun q => ok q ∧ q < w.heap.size) q ∧ some q ≠ (Value.slice A2 x.f4.length c2).ownBlock)) (fun q hq => hq)
  have K1 := Kd.R_mono (Kd.R_apart' (G1.out) (Kd.R_typed G2.out) (by decide)) (ok' := (fun q => (fun q => ok q ∧ q < w.heap.size) q ∧ some q ≠ (Value.slice A2 x.f4.length c2).ownBlock)) (fun q hq => hq)
  go_wp2_with fail
  refine (calls_at (a := a) (by omega) (markMail_any x.f1 A0 c0 A1 c1 (a) base (fun q => (fun q => ok q ∧ q < w.heap.size) q ∧ some q ≠ (Value.slice A2 x.f4.length c2).ownBlock) _ hw_1 K0 K1 (by omega))).mono ?_
  rintro e u0 ⟨rfl, le0, m0, m1, t0⟩
  replace G2 := Aside0.mk (Kd.R_mono (R_tch (Kd.R_tight rfl G2.out) t0 (fun q hq h => h.2 hq)) (fun q hq => G2.out.1 q hq.symm))
  replace G0 := Aside0.mk (Kd.R_mono m0 (fun q hq => hq.1))
  clear m0 K0
  replace G1 := Aside0.mk (Kd.R_mono m1 (fun q hq => hq.1))
  clear m1 K1
  replace t0 : Tch (fun q => ok q ∧ q < w.heap.size) _ u0 := t0.mono (fun q hq _ => hq.1)
  have hs1 := hw_1
  unfold fitMail at hs1
  have T1 := Aside0.mk (T0.out.trans t0)
  have x1_0 := (tch_cell t0 hz0 (fun h => Nat.lt_irrefl _ h.2) 0).trans x0_0
  have x1_1 := (tch_cell t0 hz0 (fun h => Nat.lt_irrefl _ h.2) 1).trans x0_1
  have x1_2 := (tch_cell t0 hz0 (fun h => Nat.lt_irrefl _ h.2) 2).trans x0_2
  have x1_3 := (tch_cell t0 hz0 (fun h => Nat.lt_irrefl _ h.2) 3).trans x0_3
  have x1_4 := (tch_cell t0 hz0 (fun h => Nat.lt_irrefl _ h.2) 4).trans x0_4
  have x1_5 := (tch_cell t0 hz0 (fun h => Nat.lt_irrefl _ h.2) 5).trans x0_5
  have x1_6 := (tch_cell t0 hz0 (fun h => Nat.lt_irrefl _ h.2) 6).trans x0_6
  have x1_7 := (tch_cell t0 hz0 (fun h => Nat.lt_irrefl _ h.2) 7).trans x0_7
  have hz1 : w.heap.size < u0.heap.size := Nat.lt_of_lt_of_le hz0 t0.size
  clear t0 x0_0 x0_1 x0_2 x0_3 x0_4 x0_5 x0_6 x0_7
  go_wp2_with fail
  refine (calls_at (a := a + 2 * x.f1.f1.length + 1 * x.f1.f2.length) (by omega) (markIntS_any A2 c2 c2 x.f4.length x.f4 (a + 2 * x.f1.f1.length + 1 * x.f1.f2.length) base (fun q => ok q ∧ q < w.heap.size) _ G2.out hw_4.1 (by omega))).mono ?_
  rintro e u2 ⟨rfl, m2, g2⟩
  have t2 : Tch (fun q => ok q ∧ q < w.heap.size) _ u2 := (Tch.refl _ _).row g2 (fun q hq => G2.out.1 q hq)
  replace G0 := Aside0.mk (Kd.R_over' G0.out (Kd.R_typed G2.out) (by decide) g2)
  replace G1 := Aside0.mk (Kd.R_over' G1.out (Kd.R_typed G2.out) (by decide) g2)
  clear g2
  have T2 := Aside0.mk (T1.out.trans t2)
  replace G2 := Aside0.mk m2
  have x2_0 := (tch_cell t2 hz1 (fun h => Nat.lt_irrefl _ h.2) 0).trans x1_0
  have x2_1 := (tch_cell t2 hz1 (fun h => Nat.lt_irrefl _ h.2) 1).trans x1_1
  have x2_2 := (tch_cell t2 hz1 (fun h => Nat.lt_irrefl _ h.2) 2).trans x1_2
  have x2_3 := (tch_cell t2 hz1 (fun h => Nat.lt_irrefl _ h.2) 3).trans x1_3
  have x2_4 := (tch_cell t2 hz1 (fun h => Nat.lt_irrefl _ h.2) 4).trans x1_4
  have x2_5 := (tch_cell t2 hz1 (fun h => Nat.lt_irrefl _ h.2) 5).trans x1_5
  have x2_6 := (tch_cell t2 hz1 (fun h => Nat.lt_irrefl _ h.2) 6).trans x1_6
  have x2_7 := (tch_cell t2 hz1 (fun h => Nat.lt_irrefl _ h.2) 7).trans x1_7
  have hz2 : w.heap.size < u2.heap.size := Nat.lt_of_lt_of_le hz1 t2.size
  clear m2 t2 x1_0 x1_1 x1_2 x1_3 x1_4 x1_5 x1_6 x1_7
  go_wp2
  go_ret
  exact ⟨reti (by omega), by omega, Kd.R_mono G0.out (fun q hq => hq.1), Kd.R_mono G1.out (fun q hq => hq.1), Kd.R_mono G2.out (fun q hq => hq.1), T2.out.mono (fun q hq _ => hq.1)⟩
end Go.Proofs.YtejiifmopopflaaGreatDoor
