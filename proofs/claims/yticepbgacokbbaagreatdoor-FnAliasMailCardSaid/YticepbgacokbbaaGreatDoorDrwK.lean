/- A reader's block, and what a draw changes of the world. -/
import Derived.Test.YticepbgacokbbaaGreatDoorBlk
namespace Go.Proofs.YticepbgacokbbaaGreatDoor
open Go.RowKit Go.Proofs.YticepbgacokbbaaGreatDoorW.PrintWords
set_option linter.unusedVariables false
set_option linter.unusedSimpArgs false

/-- Behind a draw from the reader at block g all elder blocks are as they were, but g. -/
def Dr (g : Nat) (w w1 : World) : Prop := Tch (fun q => q = g) w w1
theorem Dr.refl (g : Nat) (w : World) : Dr g w w := Tch.refl _ _
theorem Dr.size {g : Nat} {a w : World} (h : Dr g a w) : a.heap.size ≤ w.heap.size := Tch.size h
theorem Dr.then_ {g : Nat} {a w w1 : World} (h : Dr g a w) (k : Dr g w w1) : Dr g a w1 := Tch.trans h k
theorem Dr.below {g : Nat} {a w w1 : World} (h : Dr g a w) (k : Below w.heap.size w w1) : Dr g a w1 := Tch.below h k
theorem Dr.alloc {g : Nat} {a w : World} (h : Dr g a w) (o : Obj) : Dr g a (w.alloc o) := h.below (bel_alloc (Below.refl _ _) o)
theorem Dr.drew {g : Nat} {a w : World} (h : Dr g a w) : Dr g a w.drew := ⟨h.os, h.tape, h.output, h.size, h.block⟩
theorem Dr.drewN {g : Nat} {a w : World} (h : Dr g a w) (n : Nat) : Dr g a (w.drewN n) := ⟨h.os, h.tape, h.output, h.size, h.block⟩
theorem Dr.set {g : Nat} {a w : World} (h : Dr g a w) {p : Addr} (u : Value) (hp : a.heap.size ≤ p.block ∨ p.block = g) : Dr g a (w.setCell p u) :=
 ⟨h.os, h.tape, h.output, by have := h.size; simpa using this, fun k hk hn => (Below.heap_setCell w p u k (fun e => by rcases hp with hp | hp; omega; exact hn (e.trans hp))).trans (h.block k hk hn)⟩
theorem Dr.grown {g : Nat} {a w w1 : World} {row : Option Nat} (h : Dr g a w) (k : w.grownBy w1 row) (hr : ∀ q, row = some q → a.heap.size ≤ q ∨ q = g) : Dr g a w1 :=
 ⟨k.os.trans h.os, k.tape.trans h.tape, k.output.trans h.output, Nat.le_trans h.size k.size, fun q hq hn => (k.block q (Nat.lt_of_lt_of_le hq h.size) (fun e => by rcases hr q e.symm with h1 | h1; omega; exact hn h1)).trans (h.block q hq hn)⟩
theorem Dr.belowB {g : Nat} {a w w1 : World} (h : Dr g a w) (k : Below a.heap.size w w1) : Dr g a w1 :=
 ⟨k.os.trans h.os, k.tape.trans h.tape, k.output.trans h.output, Nat.le_trans h.size k.size, fun q hq hn => (k.block q hq).trans (h.block q hq hn)⟩
theorem Dr.bel {g B : Nat} {a w : World} (h : Dr g a w) (hg : B ≤ g) (hB : B ≤ a.heap.size) : Below B a w := bel_tch (Below.refl B a) h hB (fun q hq => by have : q = g := hq; omega)
theorem Dr.blk {g q : Nat} {a w : World} {o : Obj} (t : Dr g a w) (h : a.heap[q]? = some o) (hn : q ≠ g) : w.heap[q]? = some o := (t.block q (blk_lt h) hn).trans h
theorem Dr.R {α : Type} {d : Kd α} {e g base : Nat} {ok : Nat → Prop} {w w1 : World} {v : Value} {xs : List α} (t : Dr g w w1) (h : d.R e w base ok v xs) (hb : g < base) : d.R e w1 base ok v xs :=
 Kd.R_mono (R_tch (Kd.R_bound h) t (fun q hq e => by have := hq.2.1; have : q = g := e; omega)) (fun _ h => h.1)
theorem Dr.R2 {α : Type} {d : Kd α} {e g base : Nat} {ok : Nat → Prop} {V w w1 : World} {v : Value} {xs : List α} (t : Dr g w w1) (h : d.R e V base ok v xs) (b : Below V.heap.size V w) (hb : g < base) : d.R e w1 base ok v xs := t.R (Kd.R_below h b) hb
theorem Dr.S {α : Type} {d : Kd α} {e g base : Nat} {ok : Nat → Prop} {w w1 : World} {v : Value} {xs : List α} (t : Dr g w w1) (h : Kd.S d e w base ok v xs) (hb : g < base) : Kd.S d e w1 base ok v xs :=
 Kd.S_mono (S_tch (Kd.S_bound h) t (fun q hq e => by have := hq.2.1; have : q = g := e; omega)) (fun _ h => h.1)
theorem Dr.S2 {α : Type} {d : Kd α} {e g base : Nat} {ok : Nat → Prop} {V w w1 : World} {v : Value} {xs : List α} (t : Dr g w w1) (h : Kd.S d e V base ok v xs) (b : Below V.heap.size V w) (hb : g < base) : Kd.S d e w1 base ok v xs := t.S (Kd.S_below h b) hb
/-- The reader at block g: bytes that came in, a place that is at most m. -/
def Rd (g m : Nat) (w : World) : Prop := ∃ (A : Option Addr) (n c p : Nat), n ≤ 2000 ∧ p ≤ m ∧ w.heap[g]? = some (.cells #[.slice A n c, .int .i64 (p : Int)] 89 (0, 0)) ∧ ∀ k : Nat, k < n → ∃ (ad : Addr) (b : Int), A = some ad ∧ ad.block < g ∧ 0 ≤ b ∧ b ≤ 255 ∧ w.cell? (ad.add k) = some (.int .u8 b)
theorem blk_at {b : Nat} (w : World) (o : Obj) (hb : b = w.heap.size) : (w.alloc o).heap[b]? = some o := by subst hb; exact blk_new w o
theorem addr_block (ad : Addr) (k : Nat) : (ad.add k).block = ad.block := by unfold Addr.add; split <;> rfl
theorem Rd.keep {g m : Nat} {w W : World} (h : Rd g m w) (hk : ∀ q, q ≤ g → W.heap[q]? = w.heap[q]?) : Rd g m W := by
 obtain ⟨A, n, c, p, hn, hp, hb, hs⟩ := h
 refine ⟨A, n, c, p, hn, hp, (hk g (Nat.le_refl _)).trans hb, fun k hlt => ?_⟩
 obtain ⟨ad, b, e, hg, h0, h1, hc⟩ := hs k hlt
 exact ⟨ad, b, e, hg, h0, h1, (World.cell?_of_block (hk _ (by rw [addr_block]; omega))).trans hc⟩
theorem Rd.up {g m m' : Nat} {w : World} (h : Rd g m w) (hm : m ≤ m') : Rd g m' w := by
 obtain ⟨A, n, c, p, hn, hp, hb, hs⟩ := h
 exact ⟨A, n, c, p, hn, by omega, hb, hs⟩
theorem Rd.lt {g m : Nat} {w : World} (h : Rd g m w) : g < w.heap.size := by
 obtain ⟨A, n, c, p, hn, hp, hb, hs⟩ := h
 exact blk_lt hb
theorem Rd.below {g m : Nat} {w w1 : World} (h : Rd g m w) (k : Below w.heap.size w w1) : Rd g m w1 := h.keep (fun q hq => k.block q (by have := h.lt; omega))
theorem Rd.alloc {g m : Nat} {w : World} (h : Rd g m w) (o : Obj) : Rd g m (w.alloc o) := h.below (bel_alloc (Below.refl _ _) o)
theorem Rd.drew {g m : Nat} {w : World} (h : Rd g m w) : Rd g m w.drew := h.keep (fun _ _ => rfl)
theorem Rd.drewN {g m : Nat} {w : World} (h : Rd g m w) (n : Nat) : Rd g m (w.drewN n) := h.keep (fun _ _ => rfl)
theorem Rd.set {g m : Nat} {w : World} (h : Rd g m w) {p : Addr} (u : Value) (hp : g < p.block) : Rd g m (w.setCell p u) := h.keep (fun q hq => Below.heap_setCell w p u q (by omega))
theorem Rd.grown {g m : Nat} {w w1 : World} {row : Option Nat} (h : Rd g m w) (k : w.grownBy w1 row) (hr : ∀ q, row = some q → g < q) : Rd g m w1 := h.keep (fun q hq => k.block q (by have := h.lt; omega) (fun e => by have := hr q e.symm; omega))
theorem R_by2 {α β : Type} {d : Kd α} {d2 : Kd β} {e e2 base b2 : Nat} {ok ok2 : Nat → Prop} {W w1 : World} {v v2 : Value} {xs : List α} {ys : List β} (h : d.R e W base ok v xs) (hE : d.E = []) (h2 : d2.R e2 W b2 ok2 v2 ys) (he : e ≠ e2) (hg : W.grownBy w1 v2.ownBlock) : d.R e w1 base ok v xs := by
 obtain ⟨inner, ho⟩ := Kd.R_own h2
 exact Kd.R_mono (Kd.R_step (Kd.R_tight hE h) (fun k hk hlt => hg.block k hlt (fun e => by obtain ⟨cs, hc⟩ := own_typed ho k e.symm; exact Kd.R_ne h hc he hk))) (fun k hk => h.1 k hk.symm)
theorem R_put1 {α : Type} {d : Kd α} {e base : Nat} {ok : Nat → Prop} {W : World} {v : Value} {xs : List α} {g j : Nat} {u : Value} (h : d.R e W base ok v xs) (hE : d.E = []) (hne : some g ≠ v.ownBlock) : d.R e (W.setCell ⟨g, j, none⟩ u) base ok v xs := R_else h hE (grown_set1 _ _ _ _) hne
theorem R_dN {α : Type} {d : Kd α} {e base : Nat} {ok : Nat → Prop} {W : World} {v : Value} {xs : List α} (h : d.R e W base ok v xs) (n : Nat) : d.R e (W.drewN n) base ok v xs := Kd.R_below h (blw_drewN (Below.refl _ _) n)
structure Keep (g : Nat) (V W : World) : Prop where
 lt : g < W.heap.size
 same : ∀ q, q ≤ g → W.heap[q]? = V.heap[q]?
theorem Keep.refl {g : Nat} {V : World} (h : g < V.heap.size) : Keep g V V := ⟨h, fun _ _ => rfl⟩
theorem Keep.alloc {g : Nat} {V W : World} (h : Keep g V W) (o : Obj) : Keep g V (W.alloc o) := ⟨by have := h.lt; simp; omega, fun q hq => (Below.heap_alloc W o q (by have := h.lt; omega)).trans (h.same q hq)⟩
theorem Keep.drew {g : Nat} {V W : World} (h : Keep g V W) : Keep g V W.drew := ⟨h.lt, h.same⟩
theorem Keep.drewN {g : Nat} {V W : World} (h : Keep g V W) (n : Nat) : Keep g V (W.drewN n) := ⟨h.lt, h.same⟩
theorem Keep.set {g : Nat} {V W : World} (h : Keep g V W) {p : Addr} (u : Value) (hp : g < p.block) : Keep g V (W.setCell p u) := ⟨by have := h.lt; simpa using this, fun q hq => (Below.heap_setCell W p u q (by omega)).trans (h.same q hq)⟩
theorem Rd.at {g m : Nat} {V W : World} (h : Rd g m V) (k : Keep g V W) : Rd g m W := h.keep k.same
theorem Rd.ne {g m q : Nat} {w : World} {cs : Array Value} {t : TypeId} (h : Rd g m w) (hb : w.heap[q]? = some (.cells cs t (0, 0))) (ht : t ≠ 89) : q ≠ g := by
 obtain ⟨A, n, c, p, hn, hp, hg, hs⟩ := h
 rintro rfl
 rw [hg] at hb
 injection hb with hb
 injection hb with _ hb
 exact ht hb.symm
end Go.Proofs.YticepbgacokbbaaGreatDoor
