/- BounceOf of the program: a contract. -/
import Derived.Test.YtejiifmopopflaaDoorBounceD
import Derived.Test.YtejiifmopopflaaDoorHeld
namespace Go.Proofs.YtejiifmopopflaaDoor
open Go.RowKit Go.Proofs.YtejiifmopopflaaDoorW.PrintWords
set_option linter.unusedVariables false
set_option linter.unusedSimpArgs false

theorem cell_new (w : World) (cs : Array Value) (t j : Nat) (v : Value) (h : cs[j]? = some v) : (w.alloc (.cells cs t)).cell? ⟨w.heap.size, j, none⟩ = some v := by simp [h]
theorem frozen_new (w : World) (cs : Array Value) (t j : Nat) : (w.alloc (.cells cs t)).frozen? ⟨w.heap.size, j, none⟩ = false := by simp
theorem blk_new (w : World) (o : Obj) : (w.alloc o).heap[w.heap.size]? = some o := by
  show (w.heap.push o)[w.heap.size]? = some o
  simp
theorem grown_set1 (W : World) (g j : Nat) (u : Value) : W.grownBy (W.setCell ⟨g, j, none⟩ u) (some g) := ⟨rfl, rfl, rfl, by simp, fun k _ hk => Below.heap_setCell W ⟨g, j, none⟩ u k (fun e => hk (by rw [e]))⟩
theorem grown_set4 (W : World) (g : Nat) (a b c d : Value) : W.grownBy ((((W.setCell ⟨g, 0, none⟩ a).setCell ⟨g, 1, none⟩ b).setCell ⟨g, 2, none⟩ c).setCell ⟨g, 3, none⟩ d) (some g) :=
  (((grown_set1 _ _ _ _).trans (grown_set1 _ _ _ _)).trans (grown_set1 _ _ _ _)).trans (grown_set1 _ _ _ _)
theorem blk_set1 {W : World} {g : Nat} {cs : Array Value} {t : Nat} {fr : Nat × Nat} (h : W.heap[g]? = some (.cells cs t fr)) (j : Nat) (u : Value) : (W.setCell ⟨g, j, none⟩ u).heap[g]? = some (.cells (cs.setIfInBounds j u) t fr) := by
  show (W.heap.modify g _)[g]? = _
  rw [Array.getElem?_modify]
  simp [h]
theorem blk_set4 {W : World} {g : Nat} {p q r s : Value} {t : Nat} {fr : Nat × Nat} (h : W.heap[g]? = some (.cells #[p, q, r, s] t fr)) (a b c d : Value) : ((((W.setCell ⟨g, 0, none⟩ a).setCell ⟨g, 1, none⟩ b).setCell ⟨g, 2, none⟩ c).setCell ⟨g, 3, none⟩ d).heap[g]? = some (.cells #[a, b, c, d] t fr) := by
  rw [blk_set1 (blk_set1 (blk_set1 (blk_set1 h 0 a) 1 b) 2 c) 3 d]
  simp
/-- Another row's block has been written: a row whose elements lead nowhere stays. -/
theorem R_else {α : Type} {d : Kd α} {e base : Nat} {ok : Nat → Prop} {W w1 : World} {v : Value} {xs : List α} {g : Nat} (h : d.R e W base ok v xs) (hE : d.E = []) (hg : W.grownBy w1 (some g)) (hne : some g ≠ v.ownBlock) : d.R e w1 base ok v xs :=
  Kd.R_mono (Kd.R_step (Kd.R_tight hE h) (fun k hk hlt => hg.block k hlt (fun e => hne (e.symm.trans hk)))) (fun k hk => h.1 k hk.symm)
theorem R_one {α : Type} (d : Kd α) (e : Nat) (W : World) (base : Nat) (x : α) (cs : List Value) (hM : d.M (W.alloc (.cells cs.toArray e)) base (fun _ => False) x cs) (hb : base ≤ W.heap.size) :
    d.R e (W.alloc (.cells cs.toArray e)) base (fun _ => True) (.slice (some ⟨W.heap.size, 0, none⟩) 1 1) [x] := by
  have hl := d.K_len (d.K_of_M hM)
  refine R_lit0 d e W base (xs := [x]) (inner := cs) ⟨by simp [hl], fun j p hj => ?_⟩ (by simp) hb trivial
  cases j with
  | zero =>
    obtain rfl : x = p := by simpa using hj
    rw [Nat.zero_mul, List.drop_zero, List.take_of_length_le (by omega)]
    exact d.M_mono (fun _ h => h.elim) hM
  | succ j => simp at hj
theorem R_two {α : Type} (d : Kd α) (e : Nat) (W : World) (base : Nat) (x y : α) (cs ds : List Value) (hM : d.M (W.alloc (.cells (cs ++ ds).toArray e)) base (fun _ => False) x cs) (hN : d.M (W.alloc (.cells (cs ++ ds).toArray e)) base (fun _ => False) y ds) (hb : base ≤ W.heap.size) :
    d.R e (W.alloc (.cells (cs ++ ds).toArray e)) base (fun _ => True) (.slice (some ⟨W.heap.size, 0, none⟩) 2 2) [x, y] := by
  have hl := d.K_len (d.K_of_M hM)
  have hk := d.K_len (d.K_of_M hN)
  refine R_lit0 d e W base (xs := [x, y]) (inner := cs ++ ds) ⟨by simp [hl, hk]; omega, fun j p hj => ?_⟩ (by simp) hb trivial
  cases j with
  | zero =>
    obtain rfl : x = p := by simpa using hj
    rw [Nat.zero_mul, List.drop_zero, List.take_left' hl]
    exact d.M_mono (fun _ h => h.elim) hM
  | succ j =>
    cases j with
    | zero =>
      obtain rfl : y = p := by simpa using hj
      rw [Nat.zero_add, Nat.one_mul, List.drop_left' hl, List.take_of_length_le (by omega)]
      exact d.M_mono (fun _ h => h.elim) hN
    | succ j => simp at hj
theorem below_blk {V V1 : World} {g : Nat} {o : Obj} (h : V.heap[g]? = some o) (b : Below V.heap.size V V1) : V1.heap[g]? = some o := (b.block g (by rcases Nat.lt_or_ge g V.heap.size with h1 | h1; exact h1; rw [Array.getElem?_eq_none h1] at h; cases h)).trans h
def zMailS : SMail := ⟨⟨⟨#[]⟩, ⟨#[]⟩⟩, [], []⟩
def bounceOk (x : SItem) (a : SAddr) : Bool := !(nul x.f1.f0.data.toList x.f1.f1.data.toList) && (addrS a && itemOk x)
def bounce (x : SItem) (a : SAddr) : SMail := if bounceOk x a then ⟨⟨⟨#[]⟩, ⟨#[]⟩⟩, [x.f1], [⟨#[110, 111, 116, 32, 100, 101, 108, 105, 118, 101, 114, 101, 100, 58]⟩, textS a.f0 a.f1] ++ if markOf x.f3 = ⟨#[]⟩ then [] else [markOf x.f3]⟩ else zMailS
set_option maxRecDepth 100000 in
set_option maxHeartbeats 8000000 in
theorem bounceOf_any (x : SItem) (A0 : Option Addr) (c0 : Nat) (A1 : Option Addr) (c1 : Nat) (a : SAddr) (w : World) (hw : fitItem x) (ha : fitAddr a) (hr0 : Kd.C kRcpt w A0 x.f2.length x.f2) (hr1 : Kd.C Kd.string w A1 x.f3.length x.f3) (hG : Glob w) :
    Calls Tryd.prog 12 #[.agg #[.int .i64 x.f0, .string x.f1.f0, .string x.f1.f1, .slice A0 x.f2.length c0, .slice A1 x.f3.length c1], .agg #[.string a.f0, .string a.f1]] w fun e w' => ∃ B d C f, e = .returned (.tuple #[.agg #[.string (bounce x a).f0.f0, .string (bounce x a).f0.f1, .slice B (bounce x a).f1.length d, .slice C (bounce x a).f2.length f], .bool (bounceOk x a)]) ∧ Kd.R kAddr 30 w' w.heap.size (fun _ => True) (.slice B (bounce x a).f1.length d) (bounce x a).f1 ∧ Kd.R Kd.string 9 w' w.heap.size (fun _ => True) (.slice C (bounce x a).f2.length f) (bounce x a).f2 ∧ Below w.heap.size w w' := by
  have h1 := fun W => null_any x.f1.f0 x.f1.f1 W
  have h2 := fun W (hW : Below w.heap.size w W) => AddrOk_any a.f0 a.f1 W (by have := ha.1; omega) (by have := ha.2; omega) (hG.below hW)
  have h3 := fun W (hW : Below w.heap.size w W) => itemRight_any x A0 c0 A1 c1 W hw (Kd.C_below hr0 hW) (Kd.C_below hr1 hW) (hG.below hW)
  have htext := fun W => text_any a.f0 a.f1 W ha.1 ha.2
  have hmark := fun W (hW : Below w.heap.size w W) => mark_any A1 c1 x.f3 W (Kd.C_below hr1 hW) hw.2.2.2.1
  clear hr0 hr1
  have HO := Lib.hid (show bounceOk x a = (!(nul x.f1.f0.data.toList x.f1.f1.data.toList) && (addr a.f0.data.toList a.f1.data.toList && itemOk x)) from rfl)
  have HM := Lib.hid (show bounce x a = if bounceOk x a then ⟨⟨⟨#[]⟩, ⟨#[]⟩⟩, [x.f1], [⟨#[110, 111, 116, 32, 100, 101, 108, 105, 118, 101, 114, 101, 100, 58]⟩, textS a.f0 a.f1] ++ if markOf x.f3 = ⟨#[]⟩ then [] else [markOf x.f3]⟩ else zMailS from rfl)
  generalize bounce x a = M at HM
  generalize bounceOk x a = q at HM HO
  generalize nul x.f1.f0.data.toList x.f1.f1.data.toList = q1 at h1 HO
  generalize addr a.f0.data.toList a.f1.data.toList = q2 at h2 HO
  generalize itemOk x = q3 at h3 HO
  go_enter Tryd.func12, Tryd.ntmps12
  go_wp2_with fail
  obtain ⟨W0, hW0⟩ : ∃ W0, W0 = (((w.alloc (.cells #[.int .i64 x.f0, .string x.f1.f0, .string x.f1.f1, .slice A0 x.f2.length c0, .slice A1 x.f3.length c1] 38)).alloc (.cells #[.string a.f0, .string a.f1] 30)).alloc (.cells #[.string ⟨#[]⟩, .string ⟨#[]⟩, .slice none 0 0, .slice none 0 0] 33)) := ⟨_, rfl⟩
  rw [← hW0]
  have B0 : Below w.heap.size w W0 := by rw [hW0]; exact (bel_alloc (bel_alloc (bel_alloc (Below.refl _ _) _) _) _)
  have Z0 : w.heap.size < W0.heap.size := by rw [hW0]; simp; try omega
  have c0_ : W0.cell? ⟨w.heap.size, 0, none⟩ = some (.int .i64 x.f0) := by rw [hW0]; first | (simp; done) | (rw [World.cell?_alloc_lt _ _ _ (by first | (simp; done) | (simp; omega))]; first | (simp; done) | (rw [World.cell?_alloc_lt _ _ _ (by first | (simp; done) | (simp; omega))]; simp))
  have c1_ : W0.cell? ⟨w.heap.size, 1, none⟩ = some (.string x.f1.f0) := by rw [hW0]; first | (simp; done) | (rw [World.cell?_alloc_lt _ _ _ (by first | (simp; done) | (simp; omega))]; first | (simp; done) | (rw [World.cell?_alloc_lt _ _ _ (by first | (simp; done) | (simp; omega))]; simp))
  have c2_ : W0.cell? ⟨w.heap.size, 2, none⟩ = some (.string x.f1.f1) := by rw [hW0]; first | (simp; done) | (rw [World.cell?_alloc_lt _ _ _ (by first | (simp; done) | (simp; omega))]; first | (simp; done) | (rw [World.cell?_alloc_lt _ _ _ (by first | (simp; done) | (simp; omega))]; simp))
  have c3_ : W0.cell? ⟨w.heap.size, 3, none⟩ = some (.slice A0 x.f2.length c0) := by rw [hW0]; first | (simp; done) | (rw [World.cell?_alloc_lt _ _ _ (by first | (simp; done) | (simp; omega))]; first | (simp; done) | (rw [World.cell?_alloc_lt _ _ _ (by first | (simp; done) | (simp; omega))]; simp))
  have c4_ : W0.cell? ⟨w.heap.size, 4, none⟩ = some (.slice A1 x.f3.length c1) := by rw [hW0]; first | (simp; done) | (rw [World.cell?_alloc_lt _ _ _ (by first | (simp; done) | (simp; omega))]; first | (simp; done) | (rw [World.cell?_alloc_lt _ _ _ (by first | (simp; done) | (simp; omega))]; simp))
  have Z1 : w.heap.size + 1 < W0.heap.size := by rw [hW0]; simp; try omega
  have c5_ : W0.cell? ⟨w.heap.size + 1, 0, none⟩ = some (.string a.f0) := by rw [hW0]; first | (simp; done) | (rw [World.cell?_alloc_lt _ _ _ (by first | (simp; done) | (simp; omega))]; first | (simp; done) | (rw [World.cell?_alloc_lt _ _ _ (by first | (simp; done) | (simp; omega))]; simp))
  have c6_ : W0.cell? ⟨w.heap.size + 1, 1, none⟩ = some (.string a.f1) := by rw [hW0]; first | (simp; done) | (rw [World.cell?_alloc_lt _ _ _ (by first | (simp; done) | (simp; omega))]; first | (simp; done) | (rw [World.cell?_alloc_lt _ _ _ (by first | (simp; done) | (simp; omega))]; simp))
  have Z2 : w.heap.size + 1 + 1 < W0.heap.size := by rw [hW0]; simp; try omega
  have c7_ : W0.cell? ⟨w.heap.size + 1 + 1, 0, none⟩ = some (.string ⟨#[]⟩) := by rw [hW0, show w.heap.size + 1 + 1 = ((w.alloc (.cells #[.int .i64 x.f0, .string x.f1.f0, .string x.f1.f1, .slice A0 x.f2.length c0, .slice A1 x.f3.length c1] 38)).alloc (.cells #[.string a.f0, .string a.f1] 30)).heap.size by simp]; exact cell_new _ _ _ 0 _ rfl
  have c8_ : W0.cell? ⟨w.heap.size + 1 + 1, 1, none⟩ = some (.string ⟨#[]⟩) := by rw [hW0, show w.heap.size + 1 + 1 = ((w.alloc (.cells #[.int .i64 x.f0, .string x.f1.f0, .string x.f1.f1, .slice A0 x.f2.length c0, .slice A1 x.f3.length c1] 38)).alloc (.cells #[.string a.f0, .string a.f1] 30)).heap.size by simp]; exact cell_new _ _ _ 1 _ rfl
  have c9_ : W0.cell? ⟨w.heap.size + 1 + 1, 2, none⟩ = some (.slice none 0 0) := by rw [hW0, show w.heap.size + 1 + 1 = ((w.alloc (.cells #[.int .i64 x.f0, .string x.f1.f0, .string x.f1.f1, .slice A0 x.f2.length c0, .slice A1 x.f3.length c1] 38)).alloc (.cells #[.string a.f0, .string a.f1] 30)).heap.size by simp]; exact cell_new _ _ _ 2 _ rfl
  have c10_ : W0.cell? ⟨w.heap.size + 1 + 1, 3, none⟩ = some (.slice none 0 0) := by rw [hW0, show w.heap.size + 1 + 1 = ((w.alloc (.cells #[.int .i64 x.f0, .string x.f1.f0, .string x.f1.f1, .slice A0 x.f2.length c0, .slice A1 x.f3.length c1] 38)).alloc (.cells #[.string a.f0, .string a.f1] 30)).heap.size by simp]; exact cell_new _ _ _ 3 _ rfl
  have c11_ : W0.frozen? ⟨w.heap.size + 1 + 1, 0, none⟩ = false := by rw [hW0, show w.heap.size + 1 + 1 = ((w.alloc (.cells #[.int .i64 x.f0, .string x.f1.f0, .string x.f1.f1, .slice A0 x.f2.length c0, .slice A1 x.f3.length c1] 38)).alloc (.cells #[.string a.f0, .string a.f1] 30)).heap.size by simp]; exact frozen_new _ _ _ _
  have c12_ : W0.frozen? ⟨w.heap.size + 1 + 1, 1, none⟩ = false := by rw [hW0, show w.heap.size + 1 + 1 = ((w.alloc (.cells #[.int .i64 x.f0, .string x.f1.f0, .string x.f1.f1, .slice A0 x.f2.length c0, .slice A1 x.f3.length c1] 38)).alloc (.cells #[.string a.f0, .string a.f1] 30)).heap.size by simp]; exact frozen_new _ _ _ _
  have c13_ : W0.frozen? ⟨w.heap.size + 1 + 1, 2, none⟩ = false := by rw [hW0, show w.heap.size + 1 + 1 = ((w.alloc (.cells #[.int .i64 x.f0, .string x.f1.f0, .string x.f1.f1, .slice A0 x.f2.length c0, .slice A1 x.f3.length c1] 38)).alloc (.cells #[.string a.f0, .string a.f1] 30)).heap.size by simp]; exact frozen_new _ _ _ _
  have c14_ : W0.frozen? ⟨w.heap.size + 1 + 1, 3, none⟩ = false := by rw [hW0, show w.heap.size + 1 + 1 = ((w.alloc (.cells #[.int .i64 x.f0, .string x.f1.f0, .string x.f1.f1, .slice A0 x.f2.length c0, .slice A1 x.f3.length c1] 38)).alloc (.cells #[.string a.f0, .string a.f1] 30)).heap.size by simp]; exact frozen_new _ _ _ _
  have HC : Aside0 (∀ W, Below W0.heap.size W0 W → W.cell? ⟨w.heap.size, 0, none⟩ = some (.int .i64 x.f0) ∧ W.cell? ⟨w.heap.size, 1, none⟩ = some (.string x.f1.f0) ∧ W.cell? ⟨w.heap.size, 2, none⟩ = some (.string x.f1.f1) ∧ W.cell? ⟨w.heap.size, 3, none⟩ = some (.slice A0 x.f2.length c0) ∧ W.cell? ⟨w.heap.size, 4, none⟩ = some (.slice A1 x.f3.length c1) ∧ W.cell? ⟨w.heap.size + 1, 0, none⟩ = some (.string a.f0) ∧ W.cell? ⟨w.heap.size + 1, 1, none⟩ = some (.string a.f1) ∧ W.cell? ⟨w.heap.size + 1 + 1, 0, none⟩ = some (.string ⟨#[]⟩) ∧ W.cell? ⟨w.heap.size + 1 + 1, 1, none⟩ = some (.string ⟨#[]⟩) ∧ W.cell? ⟨w.heap.size + 1 + 1, 2, none⟩ = some (.slice none 0 0) ∧ W.cell? ⟨w.heap.size + 1 + 1, 3, none⟩ = some (.slice none 0 0) ∧ W.frozen? ⟨w.heap.size + 1 + 1, 0, none⟩ = false ∧ W.frozen? ⟨w.heap.size + 1 + 1, 1, none⟩ = false ∧ W.frozen? ⟨w.heap.size + 1 + 1, 2, none⟩ = false ∧ W.frozen? ⟨w.heap.size + 1 + 1, 3, none⟩ = false) := ⟨fun W h => ⟨(h.cell (p := ⟨w.heap.size, 0, none⟩) Z0).trans c0_, (h.cell (p := ⟨w.heap.size, 1, none⟩) Z0).trans c1_, (h.cell (p := ⟨w.heap.size, 2, none⟩) Z0).trans c2_, (h.cell (p := ⟨w.heap.size, 3, none⟩) Z0).trans c3_, (h.cell (p := ⟨w.heap.size, 4, none⟩) Z0).trans c4_, (h.cell (p := ⟨w.heap.size + 1, 0, none⟩) Z1).trans c5_, (h.cell (p := ⟨w.heap.size + 1, 1, none⟩) Z1).trans c6_, (h.cell (p := ⟨w.heap.size + 1 + 1, 0, none⟩) Z2).trans c7_, (h.cell (p := ⟨w.heap.size + 1 + 1, 1, none⟩) Z2).trans c8_, (h.cell (p := ⟨w.heap.size + 1 + 1, 2, none⟩) Z2).trans c9_, (h.cell (p := ⟨w.heap.size + 1 + 1, 3, none⟩) Z2).trans c10_, (h.frozen (p := ⟨w.heap.size + 1 + 1, 0, none⟩) Z2).trans c11_, (h.frozen (p := ⟨w.heap.size + 1 + 1, 1, none⟩) Z2).trans c12_, (h.frozen (p := ⟨w.heap.size + 1 + 1, 2, none⟩) Z2).trans c13_, (h.frozen (p := ⟨w.heap.size + 1 + 1, 3, none⟩) Z2).trans c14_⟩⟩
  clear hW0 c0_ c1_ c2_ c3_ c4_ c5_ c6_ c7_ c8_ c9_ c10_ c11_ c12_ c13_ c14_
  have HB0 := Aside0.mk B0
  have hsz := B0.size
  clear B0
  cases q1
  · cases q2
    · obtain rfl : q = false := HO.out
      obtain rfl : M = zMailS := HM.out
      go_wp2_with (first | (go_at_call 48; refine (h1 _).mono ?_; rintro e w1 ⟨rfl, b1⟩; have B1 : Below W0.heap.size W0 w1 := bel_then (by (with_reducible repeat (first | exact (Below.refl _ _) | refine bel_alloc ?_ _ | refine bel_set ?_ _ ?_ | refine blw_drewN ?_ _ | refine Below.drew ?_)); all_goals (first | (simp; done) | (simp; omega) | omega)) b1; obtain ⟨c0_, c1_, c2_, c3_, c4_, c5_, c6_, c7_, c8_, c9_, c10_, c11_, c12_, c13_, c14_⟩ := HC.out _ B1; clear b1) | (go_at_call 49; refine (h2 _ (bel_then HB0.out (by (with_reducible repeat (first | exact B1 | refine bel_alloc ?_ _ | refine bel_set ?_ _ ?_ | refine blw_drewN ?_ _ | refine Below.drew ?_)); all_goals (first | (simp; done) | (simp; omega) | omega)))).mono ?_; rintro e w2 ⟨rfl, b2⟩; have B2 : Below W0.heap.size W0 w2 := bel_then (by (with_reducible repeat (first | exact B1 | refine bel_alloc ?_ _ | refine bel_set ?_ _ ?_ | refine blw_drewN ?_ _ | refine Below.drew ?_)); all_goals (first | (simp; done) | (simp; omega) | omega)) b2; obtain ⟨d0_, d1_, d2_, d3_, d4_, d5_, d6_, d7_, d8_, d9_, d10_, d11_, d12_, d13_, d14_⟩ := HC.out _ B2; clear b2))
      refine bodyPost_ret (v := .tuple #[.agg #[.string ⟨#[]⟩, .string ⟨#[]⟩, .slice none 0 0, .slice none 0 0], .bool false]) ?hr rfl ?hp
      case hr => simp [results, Tryd.results12, go_sem, d7_, d8_, d9_, d10_, d11_, d12_, d13_, d14_]
      case hp => exact ⟨none, 0, none, 0, rfl, Kd.R_nil _ _ _ _ _, Kd.R_nil _ _ _ _ _, by (with_reducible repeat (first | exact (bel_then HB0.out B2) | refine bel_alloc ?_ _ | refine bel_set ?_ _ ?_ | refine blw_drewN ?_ _ | refine Below.drew ?_)); all_goals (first | (simp; done) | (simp; omega) | omega)⟩
    · cases q3
      · obtain rfl : q = false := HO.out
        obtain rfl : M = zMailS := HM.out
        go_wp2_with (first | (go_at_call 48; refine (h1 _).mono ?_; rintro e w1 ⟨rfl, b1⟩; have B1 : Below W0.heap.size W0 w1 := bel_then (by (with_reducible repeat (first | exact (Below.refl _ _) | refine bel_alloc ?_ _ | refine bel_set ?_ _ ?_ | refine blw_drewN ?_ _ | refine Below.drew ?_)); all_goals (first | (simp; done) | (simp; omega) | omega)) b1; obtain ⟨c0_, c1_, c2_, c3_, c4_, c5_, c6_, c7_, c8_, c9_, c10_, c11_, c12_, c13_, c14_⟩ := HC.out _ B1; clear b1) | (go_at_call 49; refine (h2 _ (bel_then HB0.out (by (with_reducible repeat (first | exact B1 | refine bel_alloc ?_ _ | refine bel_set ?_ _ ?_ | refine blw_drewN ?_ _ | refine Below.drew ?_)); all_goals (first | (simp; done) | (simp; omega) | omega)))).mono ?_; rintro e w2 ⟨rfl, b2⟩; have B2 : Below W0.heap.size W0 w2 := bel_then (by (with_reducible repeat (first | exact B1 | refine bel_alloc ?_ _ | refine bel_set ?_ _ ?_ | refine blw_drewN ?_ _ | refine Below.drew ?_)); all_goals (first | (simp; done) | (simp; omega) | omega)) b2; obtain ⟨d0_, d1_, d2_, d3_, d4_, d5_, d6_, d7_, d8_, d9_, d10_, d11_, d12_, d13_, d14_⟩ := HC.out _ B2; clear b2) | (go_at_call 50; refine (h3 _ (bel_then HB0.out (by (with_reducible repeat (first | exact B2 | refine bel_alloc ?_ _ | refine bel_set ?_ _ ?_ | refine blw_drewN ?_ _ | refine Below.drew ?_)); all_goals (first | (simp; done) | (simp; omega) | omega)))).mono ?_; rintro e w3 ⟨rfl, b3⟩; have B3 : Below W0.heap.size W0 w3 := bel_then (by (with_reducible repeat (first | exact B2 | refine bel_alloc ?_ _ | refine bel_set ?_ _ ?_ | refine blw_drewN ?_ _ | refine Below.drew ?_)); all_goals (first | (simp; done) | (simp; omega) | omega)) b3; obtain ⟨e0_, e1_, e2_, e3_, e4_, e5_, e6_, e7_, e8_, e9_, e10_, e11_, e12_, e13_, e14_⟩ := HC.out _ B3; clear b3))
        refine bodyPost_ret (v := .tuple #[.agg #[.string ⟨#[]⟩, .string ⟨#[]⟩, .slice none 0 0, .slice none 0 0], .bool false]) ?hr rfl ?hp
        case hr => simp [results, Tryd.results12, go_sem, e7_, e8_, e9_, e10_, e11_, e12_, e13_, e14_]
        case hp => exact ⟨none, 0, none, 0, rfl, Kd.R_nil _ _ _ _ _, Kd.R_nil _ _ _ _ _, by (with_reducible repeat (first | exact (bel_then HB0.out B3) | refine bel_alloc ?_ _ | refine bel_set ?_ _ ?_ | refine blw_drewN ?_ _ | refine Below.drew ?_)); all_goals (first | (simp; done) | (simp; omega) | omega)⟩
      · obtain rfl : q = true := HO.out
        go_wp2_with (first | (go_at_call 48; refine (h1 _).mono ?_; rintro e w1 ⟨rfl, b1⟩; have B1 : Below W0.heap.size W0 w1 := bel_then (by (with_reducible repeat (first | exact (Below.refl _ _) | refine bel_alloc ?_ _ | refine bel_set ?_ _ ?_ | refine blw_drewN ?_ _ | refine Below.drew ?_)); all_goals (first | (simp; done) | (simp; omega) | omega)) b1; obtain ⟨c0_, c1_, c2_, c3_, c4_, c5_, c6_, c7_, c8_, c9_, c10_, c11_, c12_, c13_, c14_⟩ := HC.out _ B1; clear b1) | (go_at_call 49; refine (h2 _ (bel_then HB0.out (by (with_reducible repeat (first | exact B1 | refine bel_alloc ?_ _ | refine bel_set ?_ _ ?_ | refine blw_drewN ?_ _ | refine Below.drew ?_)); all_goals (first | (simp; done) | (simp; omega) | omega)))).mono ?_; rintro e w2 ⟨rfl, b2⟩; have B2 : Below W0.heap.size W0 w2 := bel_then (by (with_reducible repeat (first | exact B1 | refine bel_alloc ?_ _ | refine bel_set ?_ _ ?_ | refine blw_drewN ?_ _ | refine Below.drew ?_)); all_goals (first | (simp; done) | (simp; omega) | omega)) b2; obtain ⟨d0_, d1_, d2_, d3_, d4_, d5_, d6_, d7_, d8_, d9_, d10_, d11_, d12_, d13_, d14_⟩ := HC.out _ B2; clear b2) | (go_at_call 50; refine (h3 _ (bel_then HB0.out (by (with_reducible repeat (first | exact B2 | refine bel_alloc ?_ _ | refine bel_set ?_ _ ?_ | refine blw_drewN ?_ _ | refine Below.drew ?_)); all_goals (first | (simp; done) | (simp; omega) | omega)))).mono ?_; rintro e w3 ⟨rfl, b3⟩; have B3 : Below W0.heap.size W0 w3 := bel_then (by (with_reducible repeat (first | exact B2 | refine bel_alloc ?_ _ | refine bel_set ?_ _ ?_ | refine blw_drewN ?_ _ | refine Below.drew ?_)); all_goals (first | (simp; done) | (simp; omega) | omega)) b3; obtain ⟨e0_, e1_, e2_, e3_, e4_, e5_, e6_, e7_, e8_, e9_, e10_, e11_, e12_, e13_, e14_⟩ := HC.out _ B3; clear b3))
        have HK : Aside0 (∀ W W1, Below W.heap.size W W1 → (W.cell? ⟨w.heap.size, 1, none⟩ = some (.string x.f1.f0) ∧ W.cell? ⟨w.heap.size, 2, none⟩ = some (.string x.f1.f1) ∧ W.cell? ⟨w.heap.size + 1, 0, none⟩ = some (.string a.f0) ∧ W.cell? ⟨w.heap.size + 1, 1, none⟩ = some (.string a.f1) ∧ Below W0.heap.size W0 W) → (W1.cell? ⟨w.heap.size, 1, none⟩ = some (.string x.f1.f0) ∧ W1.cell? ⟨w.heap.size, 2, none⟩ = some (.string x.f1.f1) ∧ W1.cell? ⟨w.heap.size + 1, 0, none⟩ = some (.string a.f0) ∧ W1.cell? ⟨w.heap.size + 1, 1, none⟩ = some (.string a.f1) ∧ Below W0.heap.size W0 W1)) := ⟨fun W W1 hb h => ⟨(hb.cell (World.block_lt_of_cell? W _ (h.1))).trans (h.1), (hb.cell (World.block_lt_of_cell? W _ (h.2.1))).trans (h.2.1), (hb.cell (World.block_lt_of_cell? W _ (h.2.2.1))).trans (h.2.2.1), (hb.cell (World.block_lt_of_cell? W _ (h.2.2.2.1))).trans (h.2.2.2.1), bel_then (h.2.2.2.2) hb⟩⟩
        have join : Hid (∀ {goal : Prop} {G : Nat → Nat → Nat → World → Prop} (rg : Hid (∀ g2 g5 g7 V, Below W0.heap.size W0 V ∧ W0.heap.size ≤ g7 ∧ g7 < V.heap.size ∧ Kd.R kAddr 30 V W0.heap.size (fun _ => True) (.slice (some ⟨g2, 0, none⟩) 1 1) [x.f1] ∧ Kd.R Kd.string 9 V W0.heap.size (fun _ => True) (.slice (some ⟨g5, 0, none⟩) 2 2) [⟨#[110, 111, 116, 32, 100, 101, 108, 105, 118, 101, 114, 101, 100, 58]⟩, textS a.f0 a.f1] ∧ V.heap[g7]? = some (.cells #[.string ⟨#[]⟩, .string ⟨#[]⟩, .slice (some ⟨g2, 0, none⟩) 1 1, .slice (some ⟨g5, 0, none⟩) 2 2] 33 (0, 0)) → G g2 g5 g7 V) → goal) (hk : ∀ g2 g5 g7 V, Below W0.heap.size W0 V ∧ W0.heap.size ≤ g7 ∧ g7 < V.heap.size ∧ Kd.R kAddr 30 V W0.heap.size (fun _ => True) (.slice (some ⟨g2, 0, none⟩) 1 1) [x.f1] ∧ Kd.R Kd.string 9 V W0.heap.size (fun _ => True) (.slice (some ⟨g5, 0, none⟩) 2 2) [⟨#[110, 111, 116, 32, 100, 101, 108, 105, 118, 101, 114, 101, 100, 58]⟩, textS a.f0 a.f1] ∧ V.heap[g7]? = some (.cells #[.string ⟨#[]⟩, .string ⟨#[]⟩, .slice (some ⟨g2, 0, none⟩) 1 1, .slice (some ⟨g5, 0, none⟩) 2 2] 33 (0, 0)) → G g2 g5 g7 V), goal) := Lib.hid (fun f h => f (Lib.hid h))
        have HST : Aside0 ((fun W => W.cell? ⟨w.heap.size, 1, none⟩ = some (.string x.f1.f0) ∧ W.cell? ⟨w.heap.size, 2, none⟩ = some (.string x.f1.f1) ∧ W.cell? ⟨w.heap.size + 1, 0, none⟩ = some (.string a.f0) ∧ W.cell? ⟨w.heap.size + 1, 1, none⟩ = some (.string a.f1) ∧ Below W0.heap.size W0 W) w3.drew) := ⟨⟨e1_, e2_, e5_, e6_, bel_then B3 (drew_below0 w3)⟩⟩
        clear c0_ c1_ c2_ c3_ c4_ c5_ c6_ c7_ c8_ c9_ c10_ c11_ c12_ c13_ c14_ d0_ d1_ d2_ d3_ d4_ d5_ d6_ d7_ d8_ d9_ d10_ d11_ d12_ d13_ d14_ e0_ e1_ e2_ e3_ e4_ e5_ e6_ e7_ e8_ e9_ e10_ e11_ e12_ e13_ e14_
        apply join.out
        case rg =>
          intro HKK
          refine wp_region_held_drew (S := (fun W => W.cell? ⟨w.heap.size, 1, none⟩ = some (.string x.f1.f0) ∧ W.cell? ⟨w.heap.size, 2, none⟩ = some (.string x.f1.f1) ∧ W.cell? ⟨w.heap.size + 1, 0, none⟩ = some (.string a.f0) ∧ W.cell? ⟨w.heap.size + 1, 1, none⟩ = some (.string a.f1) ∧ Below W0.heap.size W0 W)) (by kernel_rfl) ?s1 (fun hHeld => ?t1)
          case s1 => exact HST.out
          generalize World.drew _ = V0 at hHeld ⊢
          have s0_ : W0.heap.size ≤ V0.heap.size := hHeld.2.2.2.2.size
          refine wpAnyH_take (i := 0) (oi := { dst := some 22, op := Op.fieldAddr 38 (Operand.tmp 2) 1, type := 0, pos := "l7_host.go:63", after := #[], guard := none }) (v := ?v2) rfl (by kernel_rfl) (by kernel_rfl) (by kernel_rfl) (fun _ _ _ h => h) (Or.inl ⟨by rfl, ?y2⟩) (by assumption) ?r2
          case y2 => intro w_ hSw; (try dsimp only at hSw); go_simp; (try (with_reducible rfl))
          try simp only [Act.put, List.setIfInBounds_toArray, List.set_cons_zero, List.set_cons_succ]
          refine wpAnyH_take (i := 1) (oi := { dst := some 23, op := Op.load 30 (Operand.tmp 22), type := 30, pos := "l7_host.go:63", after := #[{ on := 0, ground := Ground.data }], guard := none }) (v := ?v3) rfl (by kernel_rfl) (by kernel_rfl) (by kernel_rfl) (fun _ _ _ h => h) (Or.inl ⟨by rfl, ?y3⟩) (by assumption) ?r3
          case y3 => intro w_ hSw; (try dsimp only at hSw); go_simp; (try (with_reducible rfl))
          try simp only [Act.put, List.setIfInBounds_toArray, List.set_cons_zero, List.set_cons_succ]
          refine wpAnyH_take (i := 3) (oi := { dst := some 25, op := Op.load 30 (Operand.tmp 3), type := 30, pos := "l7_host.go:63", after := #[], guard := none }) (v := ?v4) rfl (by kernel_rfl) (by kernel_rfl) (by kernel_rfl) (fun _ _ _ h => h) (Or.inl ⟨by rfl, ?y4⟩) (by assumption) ?r4
          case y4 => intro w_ hSw; (try dsimp only at hSw); go_simp; (try (with_reducible rfl))
          try simp only [Act.put, List.setIfInBounds_toArray, List.set_cons_zero, List.set_cons_succ]
          refine wpAnyH_ready (rs := [2, 4, 7]) (by kernel_rfl) (by simp) ?_
          refine AllReadyH.cons (o := { dst := some 24, op := Op.buildSlice 31 1 #[(0, Operand.tmp 23)], type := 31, pos := "l7_host.go:63", after := #[{ on := 1, ground := Ground.data }], guard := none }) rfl (fun K hK => ?k5) (AllReadyH.cons (o := { dst := some 26, op := Op.call { callee := Callee.value (Operand.func 51), args := #[Operand.tmp 25], argTypes := #[30] }, type := 9, pos := "l7_host.go:63", after := #[{ on := 3, ground := Ground.data }], guard := none }) rfl (fun K hK => ?k6) (AllReadyH.cons (o := { dst := some 6, op := Op.alloc 33, type := 0, pos := "l7_host.go:63", after := #[], guard := none }) rfl (fun K hK => ?k7) AllReadyH.nil))
          case k5 =>
            go_simp
            refine hK.out _ _ ?h8 (fun hHeld => ?j8)
            case h8 => exact HK.out _ _ (bel_alloc (Below.refl _ _) _) hHeld
            clear hK K
            try simp only [Act.put, List.setIfInBounds_toArray, List.set_cons_zero, List.set_cons_succ]
            generalize hV2 : World.alloc V0 _ = V2 at hHeld ⊢
            have b2 : Below V0.heap.size V0 V2 := by rw [← hV2]; exact bel_alloc (Below.refl _ _) _
            have z2 : V0.heap.size < V2.heap.size := by rw [← hV2]; simp
            have F2 := Aside0.mk (hV2 ▸ R_one kAddr 30 V0 W0.heap.size x.f1 [.string x.f1.f0, .string x.f1.f1] (kAddr_mkM _ _ _ x.f1) (by omega))
            have a2 : W0.heap.size ≤ V0.heap.size := by omega
            obtain ⟨g2, hg2⟩ : ∃ g, g = V0.heap.size := ⟨_, rfl⟩
            rw [← hg2] at F2 z2 a2 ⊢
            clear hV2 hg2
            have s2_ : W0.heap.size ≤ V2.heap.size := hHeld.2.2.2.2.size
            refine wpAnyH_ready (rs := [4, 7]) (by kernel_rfl) (by simp) ?_
            refine AllReadyH.cons (o := { dst := some 26, op := Op.call { callee := Callee.value (Operand.func 51), args := #[Operand.tmp 25], argTypes := #[30] }, type := 9, pos := "l7_host.go:63", after := #[{ on := 3, ground := Ground.data }], guard := none }) rfl (fun K hK => ?k9) (AllReadyH.cons (o := { dst := some 6, op := Op.alloc 33, type := 0, pos := "l7_host.go:63", after := #[], guard := none }) rfl (fun K hK => ?k10) AllReadyH.nil)
            case k9 =>
              go_simp
              refine ((htext V2)).mono ?_
              rintro e V4 ⟨rfl, b4⟩
              refine hK.out _ _ ?h11 (fun hHeld => ?j11)
              case h11 => exact HK.out _ _ b4 hHeld
              clear hK K
              try simp only [Act.put, List.setIfInBounds_toArray, List.set_cons_zero, List.set_cons_succ]
              have s4_ : W0.heap.size ≤ V4.heap.size := hHeld.2.2.2.2.size
              replace F2 := Aside0.mk (Kd.R_below F2.out b4)
              refine wpAnyH_ready (rs := [5, 7]) (by kernel_rfl) (by simp) ?_
              refine AllReadyH.cons (o := { dst := some 27, op := Op.buildSlice 25 2 #[(0, Operand.const (Value.string { data := #[110, 111, 116, 32, 100, 101, 108, 105, 118, 101, 114, 101, 100, 58] })), (1, Operand.tmp 26)], type := 25, pos := "l7_host.go:63", after := #[{ on := 4, ground := Ground.data }], guard := none }) rfl (fun K hK => ?k12) (AllReadyH.cons (o := { dst := some 6, op := Op.alloc 33, type := 0, pos := "l7_host.go:63", after := #[], guard := none }) rfl (fun K hK => ?k13) AllReadyH.nil)
              case k12 =>
                go_simp
                refine hK.out _ _ ?h14 (fun hHeld => ?j14)
                case h14 => exact HK.out _ _ (bel_alloc (Below.refl _ _) _) hHeld
                clear hK K
                try simp only [Act.put, List.setIfInBounds_toArray, List.set_cons_zero, List.set_cons_succ]
                generalize hV5 : World.alloc V4 _ = V5 at hHeld ⊢
                have b5 : Below V4.heap.size V4 V5 := by rw [← hV5]; exact bel_alloc (Below.refl _ _) _
                have z5 : V4.heap.size < V5.heap.size := by rw [← hV5]; simp
                have F5 := Aside0.mk (hV5 ▸ R_two Kd.string 9 V4 W0.heap.size ⟨#[110, 111, 116, 32, 100, 101, 108, 105, 118, 101, 114, 101, 100, 58]⟩ (textS a.f0 a.f1) [.string ⟨#[110, 111, 116, 32, 100, 101, 108, 105, 118, 101, 114, 101, 100, 58]⟩] [.string (textS a.f0 a.f1)] rfl rfl (by omega))
                have a5 : W0.heap.size ≤ V4.heap.size := by omega
                obtain ⟨g5, hg5⟩ : ∃ g, g = V4.heap.size := ⟨_, rfl⟩
                rw [← hg5] at F5 z5 a5 ⊢
                clear hV5 hg5
                have s5_ : W0.heap.size ≤ V5.heap.size := hHeld.2.2.2.2.size
                replace F2 := Aside0.mk (Kd.R_below F2.out b5)
                refine wpAnyH_take (i := 6) (oi := { dst := some 28, op := Op.build 33 #[(1, Operand.tmp 24), (2, Operand.tmp 27)], type := 33, pos := "l7_host.go:63", after := #[{ on := 2, ground := Ground.data }, { on := 5, ground := Ground.data }], guard := none }) (v := ?v15) rfl (by kernel_rfl) (by kernel_rfl) (by kernel_rfl) (fun _ _ _ h => h) (Or.inl ⟨by rfl, ?y15⟩) (by assumption) ?r15
                case y15 => intro w_ hSw; (try dsimp only at hSw); go_simp; (try (with_reducible rfl))
                try simp only [Act.put, List.setIfInBounds_toArray, List.set_cons_zero, List.set_cons_succ]
                refine wpAnyH_ready (rs := [7]) (by kernel_rfl) (by simp) ?_
                refine AllReadyH.cons (o := { dst := some 6, op := Op.alloc 33, type := 0, pos := "l7_host.go:63", after := #[], guard := none }) rfl (fun K hK => ?k16) AllReadyH.nil
                case k16 =>
                  go_simp
                  refine hK.out _ _ ?h17 (fun hHeld => ?j17)
                  case h17 => exact HK.out _ _ (bel_alloc (Below.refl _ _) _) hHeld
                  clear hK K
                  try simp only [Act.put, List.setIfInBounds_toArray, List.set_cons_zero, List.set_cons_succ]
                  generalize hV7 : World.alloc V5 _ = V7 at hHeld ⊢
                  have b7 : Below V5.heap.size V5 V7 := by rw [← hV7]; exact bel_alloc (Below.refl _ _) _
                  have z7 : V5.heap.size < V7.heap.size := by rw [← hV7]; simp
                  have F7 := Aside0.mk ((by rw [← hV7]; exact blk_new _ _ : V7.heap[V5.heap.size]? = some (.cells #[.string ⟨#[]⟩, .string ⟨#[]⟩, .slice none 0 0, .slice none 0 0] 33 (0, 0))))
                  have a7 : W0.heap.size ≤ V5.heap.size := by omega
                  obtain ⟨g7, hg7⟩ : ∃ g, g = V5.heap.size := ⟨_, rfl⟩
                  rw [← hg7] at F7 z7 a7 ⊢
                  clear hV7 hg7
                  have s7_ : W0.heap.size ≤ V7.heap.size := hHeld.2.2.2.2.size
                  replace F2 := Aside0.mk (Kd.R_below F2.out b7)
                  replace F5 := Aside0.mk (Kd.R_below F5.out b7)
                  refine wpAnyH_ready (rs := [8]) (by kernel_rfl) (by simp) ?_
                  refine AllReadyH.cons (o := { dst := none, op := Op.store 33 (Operand.tmp 6) (Operand.tmp 28), type := 0, pos := "l7_host.go:63", after := #[{ on := 7, ground := Ground.data }, { on := 6, ground := Ground.data }, { on := 4, ground := Ground.chain }, { on := 0, ground := Ground.phase }, { on := 1, ground := Ground.phase }, { on := 2, ground := Ground.phase }, { on := 3, ground := Ground.phase }, { on := 4, ground := Ground.phase }, { on := 5, ground := Ground.phase }, { on := 6, ground := Ground.phase }, { on := 7, ground := Ground.phase }], guard := none }) rfl (fun K hK => ?k18) AllReadyH.nil
                  case k18 =>
                    have hb7 := F7.out
                    have y0_ : V7.cell? ⟨g7, 0, none⟩ = some (.string ⟨#[]⟩) := by simp [World.cell?, hb7]
                    have y1_ : V7.cell? ⟨g7, 1, none⟩ = some (.string ⟨#[]⟩) := by simp [World.cell?, hb7]
                    have y2_ : V7.cell? ⟨g7, 2, none⟩ = some (.slice none 0 0) := by simp [World.cell?, hb7]
                    have y3_ : V7.cell? ⟨g7, 3, none⟩ = some (.slice none 0 0) := by simp [World.cell?, hb7]
                    have u0_ : V7.frozen? ⟨g7, 0, none⟩ = false := by simp [World.frozen?, hb7]
                    have u1_ : V7.frozen? ⟨g7, 1, none⟩ = false := by simp [World.frozen?, hb7]
                    have u2_ : V7.frozen? ⟨g7, 2, none⟩ = false := by simp [World.frozen?, hb7]
                    have u3_ : V7.frozen? ⟨g7, 3, none⟩ = false := by simp [World.frozen?, hb7]
                    go_simp
                    generalize hV8 : World.setCell (World.setCell (World.setCell (World.setCell V7 ⟨g7, 0, none⟩ _) ⟨g7, 1, none⟩ _) ⟨g7, 2, none⟩ _) ⟨g7, 3, none⟩ _ = V8
                    have G8 : V7.grownBy V8 (some g7) := by rw [← hV8]; exact grown_set4 _ _ _ _ _ _
                    have F8 : V8.heap[g7]? = some (.cells #[.string ⟨#[]⟩, .string ⟨#[]⟩, .slice (some ⟨g2, 0, none⟩) 1 1, .slice (some ⟨g5, 0, none⟩) 2 2] 33 (0, 0)) := by rw [← hV8]; exact blk_set4 F7.out _ _ _ _
                    have BB : Below W0.heap.size W0 V8 := by rw [← hV8]; exact bel_set (bel_set (bel_set (bel_set hHeld.2.2.2.2 _ a7) _ a7) _ a7) _ a7
                    clear hV8
                    refine hK.out _ _ ?h19 (fun hHeld => ?j19)
                    case h19 => (obtain ⟨k0, k1, k2, k3, k4, k5, k6, _⟩ := HC.out _ BB; exact ⟨k1, k2, k5, k6, BB⟩)
                    clear hK K
                    try simp only [Act.put, List.setIfInBounds_toArray, List.set_cons_zero, List.set_cons_succ]
                    replace F2 := Aside0.mk (R_else F2.out rfl G8 (Kd.R_ne F2.out F7.out (by decide)))
                    replace F5 := Aside0.mk (R_else F5.out rfl G8 (Kd.R_ne F5.out F7.out (by decide)))
                    replace F7 := Aside0.mk F8
                    have s8_ : W0.heap.size ≤ V8.heap.size := hHeld.2.2.2.2.size
                    refine wpAnyH_done (by kernel_rfl) ?_ _
                    exact HKK.out g2 g5 g7 V8 ⟨BB, a7, blk_lt F7.out, F2.out, F5.out, F7.out⟩
              case k13 =>
                go_simp
                refine hK.out _ _ ?h20 (fun hHeld => ?j20)
                case h20 => exact HK.out _ _ (bel_alloc (Below.refl _ _) _) hHeld
                clear hK K
                try simp only [Act.put, List.setIfInBounds_toArray, List.set_cons_zero, List.set_cons_succ]
                generalize hV7 : World.alloc V4 _ = V7 at hHeld ⊢
                have b7 : Below V4.heap.size V4 V7 := by rw [← hV7]; exact bel_alloc (Below.refl _ _) _
                have z7 : V4.heap.size < V7.heap.size := by rw [← hV7]; simp
                have F7 := Aside0.mk ((by rw [← hV7]; exact blk_new _ _ : V7.heap[V4.heap.size]? = some (.cells #[.string ⟨#[]⟩, .string ⟨#[]⟩, .slice none 0 0, .slice none 0 0] 33 (0, 0))))
                have a7 : W0.heap.size ≤ V4.heap.size := by omega
                obtain ⟨g7, hg7⟩ : ∃ g, g = V4.heap.size := ⟨_, rfl⟩
                rw [← hg7] at F7 z7 a7 ⊢
                clear hV7 hg7
                have s7_ : W0.heap.size ≤ V7.heap.size := hHeld.2.2.2.2.size
                replace F2 := Aside0.mk (Kd.R_below F2.out b7)
                refine wpAnyH_ready (rs := [5]) (by kernel_rfl) (by simp) ?_
                refine AllReadyH.cons (o := { dst := some 27, op := Op.buildSlice 25 2 #[(0, Operand.const (Value.string { data := #[110, 111, 116, 32, 100, 101, 108, 105, 118, 101, 114, 101, 100, 58] })), (1, Operand.tmp 26)], type := 25, pos := "l7_host.go:63", after := #[{ on := 4, ground := Ground.data }], guard := none }) rfl (fun K hK => ?k21) AllReadyH.nil
                case k21 =>
                  go_simp
                  refine hK.out _ _ ?h22 (fun hHeld => ?j22)
                  case h22 => exact HK.out _ _ (bel_alloc (Below.refl _ _) _) hHeld
                  clear hK K
                  try simp only [Act.put, List.setIfInBounds_toArray, List.set_cons_zero, List.set_cons_succ]
                  generalize hV5 : World.alloc V7 _ = V5 at hHeld ⊢
                  have b5 : Below V7.heap.size V7 V5 := by rw [← hV5]; exact bel_alloc (Below.refl _ _) _
                  have z5 : V7.heap.size < V5.heap.size := by rw [← hV5]; simp
                  have F5 := Aside0.mk (hV5 ▸ R_two Kd.string 9 V7 W0.heap.size ⟨#[110, 111, 116, 32, 100, 101, 108, 105, 118, 101, 114, 101, 100, 58]⟩ (textS a.f0 a.f1) [.string ⟨#[110, 111, 116, 32, 100, 101, 108, 105, 118, 101, 114, 101, 100, 58]⟩] [.string (textS a.f0 a.f1)] rfl rfl (by omega))
                  have a5 : W0.heap.size ≤ V7.heap.size := by omega
                  obtain ⟨g5, hg5⟩ : ∃ g, g = V7.heap.size := ⟨_, rfl⟩
                  rw [← hg5] at F5 z5 a5 ⊢
                  clear hV5 hg5
                  have s5_ : W0.heap.size ≤ V5.heap.size := hHeld.2.2.2.2.size
                  replace F2 := Aside0.mk (Kd.R_below F2.out b5)
                  replace F7 := Aside0.mk (below_blk F7.out b5)
                  refine wpAnyH_take (i := 6) (oi := { dst := some 28, op := Op.build 33 #[(1, Operand.tmp 24), (2, Operand.tmp 27)], type := 33, pos := "l7_host.go:63", after := #[{ on := 2, ground := Ground.data }, { on := 5, ground := Ground.data }], guard := none }) (v := ?v23) rfl (by kernel_rfl) (by kernel_rfl) (by kernel_rfl) (fun _ _ _ h => h) (Or.inl ⟨by rfl, ?y23⟩) (by assumption) ?r23
                  case y23 => intro w_ hSw; (try dsimp only at hSw); go_simp; (try (with_reducible rfl))
                  try simp only [Act.put, List.setIfInBounds_toArray, List.set_cons_zero, List.set_cons_succ]
                  refine wpAnyH_ready (rs := [8]) (by kernel_rfl) (by simp) ?_
                  refine AllReadyH.cons (o := { dst := none, op := Op.store 33 (Operand.tmp 6) (Operand.tmp 28), type := 0, pos := "l7_host.go:63", after := #[{ on := 7, ground := Ground.data }, { on := 6, ground := Ground.data }, { on := 4, ground := Ground.chain }, { on := 0, ground := Ground.phase }, { on := 1, ground := Ground.phase }, { on := 2, ground := Ground.phase }, { on := 3, ground := Ground.phase }, { on := 4, ground := Ground.phase }, { on := 5, ground := Ground.phase }, { on := 6, ground := Ground.phase }, { on := 7, ground := Ground.phase }], guard := none }) rfl (fun K hK => ?k24) AllReadyH.nil
                  case k24 =>
                    have hb7 := F7.out
                    have y0_ : V5.cell? ⟨g7, 0, none⟩ = some (.string ⟨#[]⟩) := by simp [World.cell?, hb7]
                    have y1_ : V5.cell? ⟨g7, 1, none⟩ = some (.string ⟨#[]⟩) := by simp [World.cell?, hb7]
                    have y2_ : V5.cell? ⟨g7, 2, none⟩ = some (.slice none 0 0) := by simp [World.cell?, hb7]
                    have y3_ : V5.cell? ⟨g7, 3, none⟩ = some (.slice none 0 0) := by simp [World.cell?, hb7]
                    have u0_ : V5.frozen? ⟨g7, 0, none⟩ = false := by simp [World.frozen?, hb7]
                    have u1_ : V5.frozen? ⟨g7, 1, none⟩ = false := by simp [World.frozen?, hb7]
                    have u2_ : V5.frozen? ⟨g7, 2, none⟩ = false := by simp [World.frozen?, hb7]
                    have u3_ : V5.frozen? ⟨g7, 3, none⟩ = false := by simp [World.frozen?, hb7]
                    go_simp
                    generalize hV8 : World.setCell (World.setCell (World.setCell (World.setCell V5 ⟨g7, 0, none⟩ _) ⟨g7, 1, none⟩ _) ⟨g7, 2, none⟩ _) ⟨g7, 3, none⟩ _ = V8
                    have G8 : V5.grownBy V8 (some g7) := by rw [← hV8]; exact grown_set4 _ _ _ _ _ _
                    have F8 : V8.heap[g7]? = some (.cells #[.string ⟨#[]⟩, .string ⟨#[]⟩, .slice (some ⟨g2, 0, none⟩) 1 1, .slice (some ⟨g5, 0, none⟩) 2 2] 33 (0, 0)) := by rw [← hV8]; exact blk_set4 F7.out _ _ _ _
                    have BB : Below W0.heap.size W0 V8 := by rw [← hV8]; exact bel_set (bel_set (bel_set (bel_set hHeld.2.2.2.2 _ a7) _ a7) _ a7) _ a7
                    clear hV8
                    refine hK.out _ _ ?h25 (fun hHeld => ?j25)
                    case h25 => (obtain ⟨k0, k1, k2, k3, k4, k5, k6, _⟩ := HC.out _ BB; exact ⟨k1, k2, k5, k6, BB⟩)
                    clear hK K
                    try simp only [Act.put, List.setIfInBounds_toArray, List.set_cons_zero, List.set_cons_succ]
                    replace F2 := Aside0.mk (R_else F2.out rfl G8 (Kd.R_ne F2.out F7.out (by decide)))
                    replace F5 := Aside0.mk (R_else F5.out rfl G8 (Kd.R_ne F5.out F7.out (by decide)))
                    replace F7 := Aside0.mk F8
                    have s8_ : W0.heap.size ≤ V8.heap.size := hHeld.2.2.2.2.size
                    refine wpAnyH_done (by kernel_rfl) ?_ _
                    exact HKK.out g2 g5 g7 V8 ⟨BB, a7, blk_lt F7.out, F2.out, F5.out, F7.out⟩
            case k10 =>
              go_simp
              refine hK.out _ _ ?h26 (fun hHeld => ?j26)
              case h26 => exact HK.out _ _ (bel_alloc (Below.refl _ _) _) hHeld
              clear hK K
              try simp only [Act.put, List.setIfInBounds_toArray, List.set_cons_zero, List.set_cons_succ]
              generalize hV7 : World.alloc V2 _ = V7 at hHeld ⊢
              have b7 : Below V2.heap.size V2 V7 := by rw [← hV7]; exact bel_alloc (Below.refl _ _) _
              have z7 : V2.heap.size < V7.heap.size := by rw [← hV7]; simp
              have F7 := Aside0.mk ((by rw [← hV7]; exact blk_new _ _ : V7.heap[V2.heap.size]? = some (.cells #[.string ⟨#[]⟩, .string ⟨#[]⟩, .slice none 0 0, .slice none 0 0] 33 (0, 0))))
              have a7 : W0.heap.size ≤ V2.heap.size := by omega
              obtain ⟨g7, hg7⟩ : ∃ g, g = V2.heap.size := ⟨_, rfl⟩
              rw [← hg7] at F7 z7 a7 ⊢
              clear hV7 hg7
              have s7_ : W0.heap.size ≤ V7.heap.size := hHeld.2.2.2.2.size
              replace F2 := Aside0.mk (Kd.R_below F2.out b7)
              refine wpAnyH_ready (rs := [4]) (by kernel_rfl) (by simp) ?_
              refine AllReadyH.cons (o := { dst := some 26, op := Op.call { callee := Callee.value (Operand.func 51), args := #[Operand.tmp 25], argTypes := #[30] }, type := 9, pos := "l7_host.go:63", after := #[{ on := 3, ground := Ground.data }], guard := none }) rfl (fun K hK => ?k27) AllReadyH.nil
              case k27 =>
                go_simp
                refine ((htext V7)).mono ?_
                rintro e V4 ⟨rfl, b4⟩
                refine hK.out _ _ ?h28 (fun hHeld => ?j28)
                case h28 => exact HK.out _ _ b4 hHeld
                clear hK K
                try simp only [Act.put, List.setIfInBounds_toArray, List.set_cons_zero, List.set_cons_succ]
                have s4_ : W0.heap.size ≤ V4.heap.size := hHeld.2.2.2.2.size
                replace F2 := Aside0.mk (Kd.R_below F2.out b4)
                replace F7 := Aside0.mk (below_blk F7.out b4)
                refine wpAnyH_ready (rs := [5]) (by kernel_rfl) (by simp) ?_
                refine AllReadyH.cons (o := { dst := some 27, op := Op.buildSlice 25 2 #[(0, Operand.const (Value.string { data := #[110, 111, 116, 32, 100, 101, 108, 105, 118, 101, 114, 101, 100, 58] })), (1, Operand.tmp 26)], type := 25, pos := "l7_host.go:63", after := #[{ on := 4, ground := Ground.data }], guard := none }) rfl (fun K hK => ?k29) AllReadyH.nil
                case k29 =>
                  go_simp
                  refine hK.out _ _ ?h30 (fun hHeld => ?j30)
                  case h30 => exact HK.out _ _ (bel_alloc (Below.refl _ _) _) hHeld
                  clear hK K
                  try simp only [Act.put, List.setIfInBounds_toArray, List.set_cons_zero, List.set_cons_succ]
                  generalize hV5 : World.alloc V4 _ = V5 at hHeld ⊢
                  have b5 : Below V4.heap.size V4 V5 := by rw [← hV5]; exact bel_alloc (Below.refl _ _) _
                  have z5 : V4.heap.size < V5.heap.size := by rw [← hV5]; simp
                  have F5 := Aside0.mk (hV5 ▸ R_two Kd.string 9 V4 W0.heap.size ⟨#[110, 111, 116, 32, 100, 101, 108, 105, 118, 101, 114, 101, 100, 58]⟩ (textS a.f0 a.f1) [.string ⟨#[110, 111, 116, 32, 100, 101, 108, 105, 118, 101, 114, 101, 100, 58]⟩] [.string (textS a.f0 a.f1)] rfl rfl (by omega))
                  have a5 : W0.heap.size ≤ V4.heap.size := by omega
                  obtain ⟨g5, hg5⟩ : ∃ g, g = V4.heap.size := ⟨_, rfl⟩
                  rw [← hg5] at F5 z5 a5 ⊢
                  clear hV5 hg5
                  have s5_ : W0.heap.size ≤ V5.heap.size := hHeld.2.2.2.2.size
                  replace F2 := Aside0.mk (Kd.R_below F2.out b5)
                  replace F7 := Aside0.mk (below_blk F7.out b5)
                  refine wpAnyH_take (i := 6) (oi := { dst := some 28, op := Op.build 33 #[(1, Operand.tmp 24), (2, Operand.tmp 27)], type := 33, pos := "l7_host.go:63", after := #[{ on := 2, ground := Ground.data }, { on := 5, ground := Ground.data }], guard := none }) (v := ?v31) rfl (by kernel_rfl) (by kernel_rfl) (by kernel_rfl) (fun _ _ _ h => h) (Or.inl ⟨by rfl, ?y31⟩) (by assumption) ?r31
                  case y31 => intro w_ hSw; (try dsimp only at hSw); go_simp; (try (with_reducible rfl))
                  try simp only [Act.put, List.setIfInBounds_toArray, List.set_cons_zero, List.set_cons_succ]
                  refine wpAnyH_ready (rs := [8]) (by kernel_rfl) (by simp) ?_
                  refine AllReadyH.cons (o := { dst := none, op := Op.store 33 (Operand.tmp 6) (Operand.tmp 28), type := 0, pos := "l7_host.go:63", after := #[{ on := 7, ground := Ground.data }, { on := 6, ground := Ground.data }, { on := 4, ground := Ground.chain }, { on := 0, ground := Ground.phase }, { on := 1, ground := Ground.phase }, { on := 2, ground := Ground.phase }, { on := 3, ground := Ground.phase }, { on := 4, ground := Ground.phase }, { on := 5, ground := Ground.phase }, { on := 6, ground := Ground.phase }, { on := 7, ground := Ground.phase }], guard := none }) rfl (fun K hK => ?k32) AllReadyH.nil
                  case k32 =>
                    have hb7 := F7.out
                    have y0_ : V5.cell? ⟨g7, 0, none⟩ = some (.string ⟨#[]⟩) := by simp [World.cell?, hb7]
                    have y1_ : V5.cell? ⟨g7, 1, none⟩ = some (.string ⟨#[]⟩) := by simp [World.cell?, hb7]
                    have y2_ : V5.cell? ⟨g7, 2, none⟩ = some (.slice none 0 0) := by simp [World.cell?, hb7]
                    have y3_ : V5.cell? ⟨g7, 3, none⟩ = some (.slice none 0 0) := by simp [World.cell?, hb7]
                    have u0_ : V5.frozen? ⟨g7, 0, none⟩ = false := by simp [World.frozen?, hb7]
                    have u1_ : V5.frozen? ⟨g7, 1, none⟩ = false := by simp [World.frozen?, hb7]
                    have u2_ : V5.frozen? ⟨g7, 2, none⟩ = false := by simp [World.frozen?, hb7]
                    have u3_ : V5.frozen? ⟨g7, 3, none⟩ = false := by simp [World.frozen?, hb7]
                    go_simp
                    generalize hV8 : World.setCell (World.setCell (World.setCell (World.setCell V5 ⟨g7, 0, none⟩ _) ⟨g7, 1, none⟩ _) ⟨g7, 2, none⟩ _) ⟨g7, 3, none⟩ _ = V8
                    have G8 : V5.grownBy V8 (some g7) := by rw [← hV8]; exact grown_set4 _ _ _ _ _ _
                    have F8 : V8.heap[g7]? = some (.cells #[.string ⟨#[]⟩, .string ⟨#[]⟩, .slice (some ⟨g2, 0, none⟩) 1 1, .slice (some ⟨g5, 0, none⟩) 2 2] 33 (0, 0)) := by rw [← hV8]; exact blk_set4 F7.out _ _ _ _
                    have BB : Below W0.heap.size W0 V8 := by rw [← hV8]; exact bel_set (bel_set (bel_set (bel_set hHeld.2.2.2.2 _ a7) _ a7) _ a7) _ a7
                    clear hV8
                    refine hK.out _ _ ?h33 (fun hHeld => ?j33)
                    case h33 => (obtain ⟨k0, k1, k2, k3, k4, k5, k6, _⟩ := HC.out _ BB; exact ⟨k1, k2, k5, k6, BB⟩)
                    clear hK K
                    try simp only [Act.put, List.setIfInBounds_toArray, List.set_cons_zero, List.set_cons_succ]
                    replace F2 := Aside0.mk (R_else F2.out rfl G8 (Kd.R_ne F2.out F7.out (by decide)))
                    replace F5 := Aside0.mk (R_else F5.out rfl G8 (Kd.R_ne F5.out F7.out (by decide)))
                    replace F7 := Aside0.mk F8
                    have s8_ : W0.heap.size ≤ V8.heap.size := hHeld.2.2.2.2.size
                    refine wpAnyH_done (by kernel_rfl) ?_ _
                    exact HKK.out g2 g5 g7 V8 ⟨BB, a7, blk_lt F7.out, F2.out, F5.out, F7.out⟩
          case k6 =>
            go_simp
            refine ((htext V0)).mono ?_
            rintro e V4 ⟨rfl, b4⟩
            refine hK.out _ _ ?h34 (fun hHeld => ?j34)
            case h34 => exact HK.out _ _ b4 hHeld
            clear hK K
            try simp only [Act.put, List.setIfInBounds_toArray, List.set_cons_zero, List.set_cons_succ]
            have s4_ : W0.heap.size ≤ V4.heap.size := hHeld.2.2.2.2.size
            refine wpAnyH_ready (rs := [2, 5, 7]) (by kernel_rfl) (by simp) ?_
            refine AllReadyH.cons (o := { dst := some 24, op := Op.buildSlice 31 1 #[(0, Operand.tmp 23)], type := 31, pos := "l7_host.go:63", after := #[{ on := 1, ground := Ground.data }], guard := none }) rfl (fun K hK => ?k35) (AllReadyH.cons (o := { dst := some 27, op := Op.buildSlice 25 2 #[(0, Operand.const (Value.string { data := #[110, 111, 116, 32, 100, 101, 108, 105, 118, 101, 114, 101, 100, 58] })), (1, Operand.tmp 26)], type := 25, pos := "l7_host.go:63", after := #[{ on := 4, ground := Ground.data }], guard := none }) rfl (fun K hK => ?k36) (AllReadyH.cons (o := { dst := some 6, op := Op.alloc 33, type := 0, pos := "l7_host.go:63", after := #[], guard := none }) rfl (fun K hK => ?k37) AllReadyH.nil))
            case k35 =>
              go_simp
              refine hK.out _ _ ?h38 (fun hHeld => ?j38)
              case h38 => exact HK.out _ _ (bel_alloc (Below.refl _ _) _) hHeld
              clear hK K
              try simp only [Act.put, List.setIfInBounds_toArray, List.set_cons_zero, List.set_cons_succ]
              generalize hV2 : World.alloc V4 _ = V2 at hHeld ⊢
              have b2 : Below V4.heap.size V4 V2 := by rw [← hV2]; exact bel_alloc (Below.refl _ _) _
              have z2 : V4.heap.size < V2.heap.size := by rw [← hV2]; simp
              have F2 := Aside0.mk (hV2 ▸ R_one kAddr 30 V4 W0.heap.size x.f1 [.string x.f1.f0, .string x.f1.f1] (kAddr_mkM _ _ _ x.f1) (by omega))
              have a2 : W0.heap.size ≤ V4.heap.size := by omega
              obtain ⟨g2, hg2⟩ : ∃ g, g = V4.heap.size := ⟨_, rfl⟩
              rw [← hg2] at F2 z2 a2 ⊢
              clear hV2 hg2
              have s2_ : W0.heap.size ≤ V2.heap.size := hHeld.2.2.2.2.size
              refine wpAnyH_ready (rs := [5, 7]) (by kernel_rfl) (by simp) ?_
              refine AllReadyH.cons (o := { dst := some 27, op := Op.buildSlice 25 2 #[(0, Operand.const (Value.string { data := #[110, 111, 116, 32, 100, 101, 108, 105, 118, 101, 114, 101, 100, 58] })), (1, Operand.tmp 26)], type := 25, pos := "l7_host.go:63", after := #[{ on := 4, ground := Ground.data }], guard := none }) rfl (fun K hK => ?k39) (AllReadyH.cons (o := { dst := some 6, op := Op.alloc 33, type := 0, pos := "l7_host.go:63", after := #[], guard := none }) rfl (fun K hK => ?k40) AllReadyH.nil)
              case k39 =>
                go_simp
                refine hK.out _ _ ?h41 (fun hHeld => ?j41)
                case h41 => exact HK.out _ _ (bel_alloc (Below.refl _ _) _) hHeld
                clear hK K
                try simp only [Act.put, List.setIfInBounds_toArray, List.set_cons_zero, List.set_cons_succ]
                generalize hV5 : World.alloc V2 _ = V5 at hHeld ⊢
                have b5 : Below V2.heap.size V2 V5 := by rw [← hV5]; exact bel_alloc (Below.refl _ _) _
                have z5 : V2.heap.size < V5.heap.size := by rw [← hV5]; simp
                have F5 := Aside0.mk (hV5 ▸ R_two Kd.string 9 V2 W0.heap.size ⟨#[110, 111, 116, 32, 100, 101, 108, 105, 118, 101, 114, 101, 100, 58]⟩ (textS a.f0 a.f1) [.string ⟨#[110, 111, 116, 32, 100, 101, 108, 105, 118, 101, 114, 101, 100, 58]⟩] [.string (textS a.f0 a.f1)] rfl rfl (by omega))
                have a5 : W0.heap.size ≤ V2.heap.size := by omega
                obtain ⟨g5, hg5⟩ : ∃ g, g = V2.heap.size := ⟨_, rfl⟩
                rw [← hg5] at F5 z5 a5 ⊢
                clear hV5 hg5
                have s5_ : W0.heap.size ≤ V5.heap.size := hHeld.2.2.2.2.size
                replace F2 := Aside0.mk (Kd.R_below F2.out b5)
                refine wpAnyH_take (i := 6) (oi := { dst := some 28, op := Op.build 33 #[(1, Operand.tmp 24), (2, Operand.tmp 27)], type := 33, pos := "l7_host.go:63", after := #[{ on := 2, ground := Ground.data }, { on := 5, ground := Ground.data }], guard := none }) (v := ?v42) rfl (by kernel_rfl) (by kernel_rfl) (by kernel_rfl) (fun _ _ _ h => h) (Or.inl ⟨by rfl, ?y42⟩) (by assumption) ?r42
                case y42 => intro w_ hSw; (try dsimp only at hSw); go_simp; (try (with_reducible rfl))
                try simp only [Act.put, List.setIfInBounds_toArray, List.set_cons_zero, List.set_cons_succ]
                refine wpAnyH_ready (rs := [7]) (by kernel_rfl) (by simp) ?_
                refine AllReadyH.cons (o := { dst := some 6, op := Op.alloc 33, type := 0, pos := "l7_host.go:63", after := #[], guard := none }) rfl (fun K hK => ?k43) AllReadyH.nil
                case k43 =>
                  go_simp
                  refine hK.out _ _ ?h44 (fun hHeld => ?j44)
                  case h44 => exact HK.out _ _ (bel_alloc (Below.refl _ _) _) hHeld
                  clear hK K
                  try simp only [Act.put, List.setIfInBounds_toArray, List.set_cons_zero, List.set_cons_succ]
                  generalize hV7 : World.alloc V5 _ = V7 at hHeld ⊢
                  have b7 : Below V5.heap.size V5 V7 := by rw [← hV7]; exact bel_alloc (Below.refl _ _) _
                  have z7 : V5.heap.size < V7.heap.size := by rw [← hV7]; simp
                  have F7 := Aside0.mk ((by rw [← hV7]; exact blk_new _ _ : V7.heap[V5.heap.size]? = some (.cells #[.string ⟨#[]⟩, .string ⟨#[]⟩, .slice none 0 0, .slice none 0 0] 33 (0, 0))))
                  have a7 : W0.heap.size ≤ V5.heap.size := by omega
                  obtain ⟨g7, hg7⟩ : ∃ g, g = V5.heap.size := ⟨_, rfl⟩
                  rw [← hg7] at F7 z7 a7 ⊢
                  clear hV7 hg7
                  have s7_ : W0.heap.size ≤ V7.heap.size := hHeld.2.2.2.2.size
                  replace F2 := Aside0.mk (Kd.R_below F2.out b7)
                  replace F5 := Aside0.mk (Kd.R_below F5.out b7)
                  refine wpAnyH_ready (rs := [8]) (by kernel_rfl) (by simp) ?_
                  refine AllReadyH.cons (o := { dst := none, op := Op.store 33 (Operand.tmp 6) (Operand.tmp 28), type := 0, pos := "l7_host.go:63", after := #[{ on := 7, ground := Ground.data }, { on := 6, ground := Ground.data }, { on := 4, ground := Ground.chain }, { on := 0, ground := Ground.phase }, { on := 1, ground := Ground.phase }, { on := 2, ground := Ground.phase }, { on := 3, ground := Ground.phase }, { on := 4, ground := Ground.phase }, { on := 5, ground := Ground.phase }, { on := 6, ground := Ground.phase }, { on := 7, ground := Ground.phase }], guard := none }) rfl (fun K hK => ?k45) AllReadyH.nil
                  case k45 =>
                    have hb7 := F7.out
                    have y0_ : V7.cell? ⟨g7, 0, none⟩ = some (.string ⟨#[]⟩) := by simp [World.cell?, hb7]
                    have y1_ : V7.cell? ⟨g7, 1, none⟩ = some (.string ⟨#[]⟩) := by simp [World.cell?, hb7]
                    have y2_ : V7.cell? ⟨g7, 2, none⟩ = some (.slice none 0 0) := by simp [World.cell?, hb7]
                    have y3_ : V7.cell? ⟨g7, 3, none⟩ = some (.slice none 0 0) := by simp [World.cell?, hb7]
                    have u0_ : V7.frozen? ⟨g7, 0, none⟩ = false := by simp [World.frozen?, hb7]
                    have u1_ : V7.frozen? ⟨g7, 1, none⟩ = false := by simp [World.frozen?, hb7]
                    have u2_ : V7.frozen? ⟨g7, 2, none⟩ = false := by simp [World.frozen?, hb7]
                    have u3_ : V7.frozen? ⟨g7, 3, none⟩ = false := by simp [World.frozen?, hb7]
                    go_simp
                    generalize hV8 : World.setCell (World.setCell (World.setCell (World.setCell V7 ⟨g7, 0, none⟩ _) ⟨g7, 1, none⟩ _) ⟨g7, 2, none⟩ _) ⟨g7, 3, none⟩ _ = V8
                    have G8 : V7.grownBy V8 (some g7) := by rw [← hV8]; exact grown_set4 _ _ _ _ _ _
                    have F8 : V8.heap[g7]? = some (.cells #[.string ⟨#[]⟩, .string ⟨#[]⟩, .slice (some ⟨g2, 0, none⟩) 1 1, .slice (some ⟨g5, 0, none⟩) 2 2] 33 (0, 0)) := by rw [← hV8]; exact blk_set4 F7.out _ _ _ _
                    have BB : Below W0.heap.size W0 V8 := by rw [← hV8]; exact bel_set (bel_set (bel_set (bel_set hHeld.2.2.2.2 _ a7) _ a7) _ a7) _ a7
                    clear hV8
                    refine hK.out _ _ ?h46 (fun hHeld => ?j46)
                    case h46 => (obtain ⟨k0, k1, k2, k3, k4, k5, k6, _⟩ := HC.out _ BB; exact ⟨k1, k2, k5, k6, BB⟩)
                    clear hK K
                    try simp only [Act.put, List.setIfInBounds_toArray, List.set_cons_zero, List.set_cons_succ]
                    replace F2 := Aside0.mk (R_else F2.out rfl G8 (Kd.R_ne F2.out F7.out (by decide)))
                    replace F5 := Aside0.mk (R_else F5.out rfl G8 (Kd.R_ne F5.out F7.out (by decide)))
                    replace F7 := Aside0.mk F8
                    have s8_ : W0.heap.size ≤ V8.heap.size := hHeld.2.2.2.2.size
                    refine wpAnyH_done (by kernel_rfl) ?_ _
                    exact HKK.out g2 g5 g7 V8 ⟨BB, a7, blk_lt F7.out, F2.out, F5.out, F7.out⟩
              case k40 =>
                go_simp
                refine hK.out _ _ ?h47 (fun hHeld => ?j47)
                case h47 => exact HK.out _ _ (bel_alloc (Below.refl _ _) _) hHeld
                clear hK K
                try simp only [Act.put, List.setIfInBounds_toArray, List.set_cons_zero, List.set_cons_succ]
                generalize hV7 : World.alloc V2 _ = V7 at hHeld ⊢
                have b7 : Below V2.heap.size V2 V7 := by rw [← hV7]; exact bel_alloc (Below.refl _ _) _
                have z7 : V2.heap.size < V7.heap.size := by rw [← hV7]; simp
                have F7 := Aside0.mk ((by rw [← hV7]; exact blk_new _ _ : V7.heap[V2.heap.size]? = some (.cells #[.string ⟨#[]⟩, .string ⟨#[]⟩, .slice none 0 0, .slice none 0 0] 33 (0, 0))))
                have a7 : W0.heap.size ≤ V2.heap.size := by omega
                obtain ⟨g7, hg7⟩ : ∃ g, g = V2.heap.size := ⟨_, rfl⟩
                rw [← hg7] at F7 z7 a7 ⊢
                clear hV7 hg7
                have s7_ : W0.heap.size ≤ V7.heap.size := hHeld.2.2.2.2.size
                replace F2 := Aside0.mk (Kd.R_below F2.out b7)
                refine wpAnyH_ready (rs := [5]) (by kernel_rfl) (by simp) ?_
                refine AllReadyH.cons (o := { dst := some 27, op := Op.buildSlice 25 2 #[(0, Operand.const (Value.string { data := #[110, 111, 116, 32, 100, 101, 108, 105, 118, 101, 114, 101, 100, 58] })), (1, Operand.tmp 26)], type := 25, pos := "l7_host.go:63", after := #[{ on := 4, ground := Ground.data }], guard := none }) rfl (fun K hK => ?k48) AllReadyH.nil
                case k48 =>
                  go_simp
                  refine hK.out _ _ ?h49 (fun hHeld => ?j49)
                  case h49 => exact HK.out _ _ (bel_alloc (Below.refl _ _) _) hHeld
                  clear hK K
                  try simp only [Act.put, List.setIfInBounds_toArray, List.set_cons_zero, List.set_cons_succ]
                  generalize hV5 : World.alloc V7 _ = V5 at hHeld ⊢
                  have b5 : Below V7.heap.size V7 V5 := by rw [← hV5]; exact bel_alloc (Below.refl _ _) _
                  have z5 : V7.heap.size < V5.heap.size := by rw [← hV5]; simp
                  have F5 := Aside0.mk (hV5 ▸ R_two Kd.string 9 V7 W0.heap.size ⟨#[110, 111, 116, 32, 100, 101, 108, 105, 118, 101, 114, 101, 100, 58]⟩ (textS a.f0 a.f1) [.string ⟨#[110, 111, 116, 32, 100, 101, 108, 105, 118, 101, 114, 101, 100, 58]⟩] [.string (textS a.f0 a.f1)] rfl rfl (by omega))
                  have a5 : W0.heap.size ≤ V7.heap.size := by omega
                  obtain ⟨g5, hg5⟩ : ∃ g, g = V7.heap.size := ⟨_, rfl⟩
                  rw [← hg5] at F5 z5 a5 ⊢
                  clear hV5 hg5
                  have s5_ : W0.heap.size ≤ V5.heap.size := hHeld.2.2.2.2.size
                  replace F2 := Aside0.mk (Kd.R_below F2.out b5)
                  replace F7 := Aside0.mk (below_blk F7.out b5)
                  refine wpAnyH_take (i := 6) (oi := { dst := some 28, op := Op.build 33 #[(1, Operand.tmp 24), (2, Operand.tmp 27)], type := 33, pos := "l7_host.go:63", after := #[{ on := 2, ground := Ground.data }, { on := 5, ground := Ground.data }], guard := none }) (v := ?v50) rfl (by kernel_rfl) (by kernel_rfl) (by kernel_rfl) (fun _ _ _ h => h) (Or.inl ⟨by rfl, ?y50⟩) (by assumption) ?r50
                  case y50 => intro w_ hSw; (try dsimp only at hSw); go_simp; (try (with_reducible rfl))
                  try simp only [Act.put, List.setIfInBounds_toArray, List.set_cons_zero, List.set_cons_succ]
                  refine wpAnyH_ready (rs := [8]) (by kernel_rfl) (by simp) ?_
                  refine AllReadyH.cons (o := { dst := none, op := Op.store 33 (Operand.tmp 6) (Operand.tmp 28), type := 0, pos := "l7_host.go:63", after := #[{ on := 7, ground := Ground.data }, { on := 6, ground := Ground.data }, { on := 4, ground := Ground.chain }, { on := 0, ground := Ground.phase }, { on := 1, ground := Ground.phase }, { on := 2, ground := Ground.phase }, { on := 3, ground := Ground.phase }, { on := 4, ground := Ground.phase }, { on := 5, ground := Ground.phase }, { on := 6, ground := Ground.phase }, { on := 7, ground := Ground.phase }], guard := none }) rfl (fun K hK => ?k51) AllReadyH.nil
                  case k51 =>
                    have hb7 := F7.out
                    have y0_ : V5.cell? ⟨g7, 0, none⟩ = some (.string ⟨#[]⟩) := by simp [World.cell?, hb7]
                    have y1_ : V5.cell? ⟨g7, 1, none⟩ = some (.string ⟨#[]⟩) := by simp [World.cell?, hb7]
                    have y2_ : V5.cell? ⟨g7, 2, none⟩ = some (.slice none 0 0) := by simp [World.cell?, hb7]
                    have y3_ : V5.cell? ⟨g7, 3, none⟩ = some (.slice none 0 0) := by simp [World.cell?, hb7]
                    have u0_ : V5.frozen? ⟨g7, 0, none⟩ = false := by simp [World.frozen?, hb7]
                    have u1_ : V5.frozen? ⟨g7, 1, none⟩ = false := by simp [World.frozen?, hb7]
                    have u2_ : V5.frozen? ⟨g7, 2, none⟩ = false := by simp [World.frozen?, hb7]
                    have u3_ : V5.frozen? ⟨g7, 3, none⟩ = false := by simp [World.frozen?, hb7]
                    go_simp
                    generalize hV8 : World.setCell (World.setCell (World.setCell (World.setCell V5 ⟨g7, 0, none⟩ _) ⟨g7, 1, none⟩ _) ⟨g7, 2, none⟩ _) ⟨g7, 3, none⟩ _ = V8
                    have G8 : V5.grownBy V8 (some g7) := by rw [← hV8]; exact grown_set4 _ _ _ _ _ _
                    have F8 : V8.heap[g7]? = some (.cells #[.string ⟨#[]⟩, .string ⟨#[]⟩, .slice (some ⟨g2, 0, none⟩) 1 1, .slice (some ⟨g5, 0, none⟩) 2 2] 33 (0, 0)) := by rw [← hV8]; exact blk_set4 F7.out _ _ _ _
                    have BB : Below W0.heap.size W0 V8 := by rw [← hV8]; exact bel_set (bel_set (bel_set (bel_set hHeld.2.2.2.2 _ a7) _ a7) _ a7) _ a7
                    clear hV8
                    refine hK.out _ _ ?h52 (fun hHeld => ?j52)
                    case h52 => (obtain ⟨k0, k1, k2, k3, k4, k5, k6, _⟩ := HC.out _ BB; exact ⟨k1, k2, k5, k6, BB⟩)
                    clear hK K
                    try simp only [Act.put, List.setIfInBounds_toArray, List.set_cons_zero, List.set_cons_succ]
                    replace F2 := Aside0.mk (R_else F2.out rfl G8 (Kd.R_ne F2.out F7.out (by decide)))
                    replace F5 := Aside0.mk (R_else F5.out rfl G8 (Kd.R_ne F5.out F7.out (by decide)))
                    replace F7 := Aside0.mk F8
                    have s8_ : W0.heap.size ≤ V8.heap.size := hHeld.2.2.2.2.size
                    refine wpAnyH_done (by kernel_rfl) ?_ _
                    exact HKK.out g2 g5 g7 V8 ⟨BB, a7, blk_lt F7.out, F2.out, F5.out, F7.out⟩
            case k36 =>
              go_simp
              refine hK.out _ _ ?h53 (fun hHeld => ?j53)
              case h53 => exact HK.out _ _ (bel_alloc (Below.refl _ _) _) hHeld
              clear hK K
              try simp only [Act.put, List.setIfInBounds_toArray, List.set_cons_zero, List.set_cons_succ]
              generalize hV5 : World.alloc V4 _ = V5 at hHeld ⊢
              have b5 : Below V4.heap.size V4 V5 := by rw [← hV5]; exact bel_alloc (Below.refl _ _) _
              have z5 : V4.heap.size < V5.heap.size := by rw [← hV5]; simp
              have F5 := Aside0.mk (hV5 ▸ R_two Kd.string 9 V4 W0.heap.size ⟨#[110, 111, 116, 32, 100, 101, 108, 105, 118, 101, 114, 101, 100, 58]⟩ (textS a.f0 a.f1) [.string ⟨#[110, 111, 116, 32, 100, 101, 108, 105, 118, 101, 114, 101, 100, 58]⟩] [.string (textS a.f0 a.f1)] rfl rfl (by omega))
              have a5 : W0.heap.size ≤ V4.heap.size := by omega
              obtain ⟨g5, hg5⟩ : ∃ g, g = V4.heap.size := ⟨_, rfl⟩
              rw [← hg5] at F5 z5 a5 ⊢
              clear hV5 hg5
              have s5_ : W0.heap.size ≤ V5.heap.size := hHeld.2.2.2.2.size
              refine wpAnyH_ready (rs := [2, 7]) (by kernel_rfl) (by simp) ?_
              refine AllReadyH.cons (o := { dst := some 24, op := Op.buildSlice 31 1 #[(0, Operand.tmp 23)], type := 31, pos := "l7_host.go:63", after := #[{ on := 1, ground := Ground.data }], guard := none }) rfl (fun K hK => ?k54) (AllReadyH.cons (o := { dst := some 6, op := Op.alloc 33, type := 0, pos := "l7_host.go:63", after := #[], guard := none }) rfl (fun K hK => ?k55) AllReadyH.nil)
              case k54 =>
                go_simp
                refine hK.out _ _ ?h56 (fun hHeld => ?j56)
                case h56 => exact HK.out _ _ (bel_alloc (Below.refl _ _) _) hHeld
                clear hK K
                try simp only [Act.put, List.setIfInBounds_toArray, List.set_cons_zero, List.set_cons_succ]
                generalize hV2 : World.alloc V5 _ = V2 at hHeld ⊢
                have b2 : Below V5.heap.size V5 V2 := by rw [← hV2]; exact bel_alloc (Below.refl _ _) _
                have z2 : V5.heap.size < V2.heap.size := by rw [← hV2]; simp
                have F2 := Aside0.mk (hV2 ▸ R_one kAddr 30 V5 W0.heap.size x.f1 [.string x.f1.f0, .string x.f1.f1] (kAddr_mkM _ _ _ x.f1) (by omega))
                have a2 : W0.heap.size ≤ V5.heap.size := by omega
                obtain ⟨g2, hg2⟩ : ∃ g, g = V5.heap.size := ⟨_, rfl⟩
                rw [← hg2] at F2 z2 a2 ⊢
                clear hV2 hg2
                have s2_ : W0.heap.size ≤ V2.heap.size := hHeld.2.2.2.2.size
                replace F5 := Aside0.mk (Kd.R_below F5.out b2)
                refine wpAnyH_take (i := 6) (oi := { dst := some 28, op := Op.build 33 #[(1, Operand.tmp 24), (2, Operand.tmp 27)], type := 33, pos := "l7_host.go:63", after := #[{ on := 2, ground := Ground.data }, { on := 5, ground := Ground.data }], guard := none }) (v := ?v57) rfl (by kernel_rfl) (by kernel_rfl) (by kernel_rfl) (fun _ _ _ h => h) (Or.inl ⟨by rfl, ?y57⟩) (by assumption) ?r57
                case y57 => intro w_ hSw; (try dsimp only at hSw); go_simp; (try (with_reducible rfl))
                try simp only [Act.put, List.setIfInBounds_toArray, List.set_cons_zero, List.set_cons_succ]
                refine wpAnyH_ready (rs := [7]) (by kernel_rfl) (by simp) ?_
                refine AllReadyH.cons (o := { dst := some 6, op := Op.alloc 33, type := 0, pos := "l7_host.go:63", after := #[], guard := none }) rfl (fun K hK => ?k58) AllReadyH.nil
                case k58 =>
                  go_simp
                  refine hK.out _ _ ?h59 (fun hHeld => ?j59)
                  case h59 => exact HK.out _ _ (bel_alloc (Below.refl _ _) _) hHeld
                  clear hK K
                  try simp only [Act.put, List.setIfInBounds_toArray, List.set_cons_zero, List.set_cons_succ]
                  generalize hV7 : World.alloc V2 _ = V7 at hHeld ⊢
                  have b7 : Below V2.heap.size V2 V7 := by rw [← hV7]; exact bel_alloc (Below.refl _ _) _
                  have z7 : V2.heap.size < V7.heap.size := by rw [← hV7]; simp
                  have F7 := Aside0.mk ((by rw [← hV7]; exact blk_new _ _ : V7.heap[V2.heap.size]? = some (.cells #[.string ⟨#[]⟩, .string ⟨#[]⟩, .slice none 0 0, .slice none 0 0] 33 (0, 0))))
                  have a7 : W0.heap.size ≤ V2.heap.size := by omega
                  obtain ⟨g7, hg7⟩ : ∃ g, g = V2.heap.size := ⟨_, rfl⟩
                  rw [← hg7] at F7 z7 a7 ⊢
                  clear hV7 hg7
                  have s7_ : W0.heap.size ≤ V7.heap.size := hHeld.2.2.2.2.size
                  replace F5 := Aside0.mk (Kd.R_below F5.out b7)
                  replace F2 := Aside0.mk (Kd.R_below F2.out b7)
                  refine wpAnyH_ready (rs := [8]) (by kernel_rfl) (by simp) ?_
                  refine AllReadyH.cons (o := { dst := none, op := Op.store 33 (Operand.tmp 6) (Operand.tmp 28), type := 0, pos := "l7_host.go:63", after := #[{ on := 7, ground := Ground.data }, { on := 6, ground := Ground.data }, { on := 4, ground := Ground.chain }, { on := 0, ground := Ground.phase }, { on := 1, ground := Ground.phase }, { on := 2, ground := Ground.phase }, { on := 3, ground := Ground.phase }, { on := 4, ground := Ground.phase }, { on := 5, ground := Ground.phase }, { on := 6, ground := Ground.phase }, { on := 7, ground := Ground.phase }], guard := none }) rfl (fun K hK => ?k60) AllReadyH.nil
                  case k60 =>
                    have hb7 := F7.out
                    have y0_ : V7.cell? ⟨g7, 0, none⟩ = some (.string ⟨#[]⟩) := by simp [World.cell?, hb7]
                    have y1_ : V7.cell? ⟨g7, 1, none⟩ = some (.string ⟨#[]⟩) := by simp [World.cell?, hb7]
                    have y2_ : V7.cell? ⟨g7, 2, none⟩ = some (.slice none 0 0) := by simp [World.cell?, hb7]
                    have y3_ : V7.cell? ⟨g7, 3, none⟩ = some (.slice none 0 0) := by simp [World.cell?, hb7]
                    have u0_ : V7.frozen? ⟨g7, 0, none⟩ = false := by simp [World.frozen?, hb7]
                    have u1_ : V7.frozen? ⟨g7, 1, none⟩ = false := by simp [World.frozen?, hb7]
                    have u2_ : V7.frozen? ⟨g7, 2, none⟩ = false := by simp [World.frozen?, hb7]
                    have u3_ : V7.frozen? ⟨g7, 3, none⟩ = false := by simp [World.frozen?, hb7]
                    go_simp
                    generalize hV8 : World.setCell (World.setCell (World.setCell (World.setCell V7 ⟨g7, 0, none⟩ _) ⟨g7, 1, none⟩ _) ⟨g7, 2, none⟩ _) ⟨g7, 3, none⟩ _ = V8
                    have G8 : V7.grownBy V8 (some g7) := by rw [← hV8]; exact grown_set4 _ _ _ _ _ _
                    have F8 : V8.heap[g7]? = some (.cells #[.string ⟨#[]⟩, .string ⟨#[]⟩, .slice (some ⟨g2, 0, none⟩) 1 1, .slice (some ⟨g5, 0, none⟩) 2 2] 33 (0, 0)) := by rw [← hV8]; exact blk_set4 F7.out _ _ _ _
                    have BB : Below W0.heap.size W0 V8 := by rw [← hV8]; exact bel_set (bel_set (bel_set (bel_set hHeld.2.2.2.2 _ a7) _ a7) _ a7) _ a7
                    clear hV8
                    refine hK.out _ _ ?h61 (fun hHeld => ?j61)
                    case h61 => (obtain ⟨k0, k1, k2, k3, k4, k5, k6, _⟩ := HC.out _ BB; exact ⟨k1, k2, k5, k6, BB⟩)
                    clear hK K
                    try simp only [Act.put, List.setIfInBounds_toArray, List.set_cons_zero, List.set_cons_succ]
                    replace F2 := Aside0.mk (R_else F2.out rfl G8 (Kd.R_ne F2.out F7.out (by decide)))
                    replace F5 := Aside0.mk (R_else F5.out rfl G8 (Kd.R_ne F5.out F7.out (by decide)))
                    replace F7 := Aside0.mk F8
                    have s8_ : W0.heap.size ≤ V8.heap.size := hHeld.2.2.2.2.size
                    refine wpAnyH_done (by kernel_rfl) ?_ _
                    exact HKK.out g2 g5 g7 V8 ⟨BB, a7, blk_lt F7.out, F2.out, F5.out, F7.out⟩
              case k55 =>
                go_simp
                refine hK.out _ _ ?h62 (fun hHeld => ?j62)
                case h62 => exact HK.out _ _ (bel_alloc (Below.refl _ _) _) hHeld
                clear hK K
                try simp only [Act.put, List.setIfInBounds_toArray, List.set_cons_zero, List.set_cons_succ]
                generalize hV7 : World.alloc V5 _ = V7 at hHeld ⊢
                have b7 : Below V5.heap.size V5 V7 := by rw [← hV7]; exact bel_alloc (Below.refl _ _) _
                have z7 : V5.heap.size < V7.heap.size := by rw [← hV7]; simp
                have F7 := Aside0.mk ((by rw [← hV7]; exact blk_new _ _ : V7.heap[V5.heap.size]? = some (.cells #[.string ⟨#[]⟩, .string ⟨#[]⟩, .slice none 0 0, .slice none 0 0] 33 (0, 0))))
                have a7 : W0.heap.size ≤ V5.heap.size := by omega
                obtain ⟨g7, hg7⟩ : ∃ g, g = V5.heap.size := ⟨_, rfl⟩
                rw [← hg7] at F7 z7 a7 ⊢
                clear hV7 hg7
                have s7_ : W0.heap.size ≤ V7.heap.size := hHeld.2.2.2.2.size
                replace F5 := Aside0.mk (Kd.R_below F5.out b7)
                refine wpAnyH_ready (rs := [2]) (by kernel_rfl) (by simp) ?_
                refine AllReadyH.cons (o := { dst := some 24, op := Op.buildSlice 31 1 #[(0, Operand.tmp 23)], type := 31, pos := "l7_host.go:63", after := #[{ on := 1, ground := Ground.data }], guard := none }) rfl (fun K hK => ?k63) AllReadyH.nil
                case k63 =>
                  go_simp
                  refine hK.out _ _ ?h64 (fun hHeld => ?j64)
                  case h64 => exact HK.out _ _ (bel_alloc (Below.refl _ _) _) hHeld
                  clear hK K
                  try simp only [Act.put, List.setIfInBounds_toArray, List.set_cons_zero, List.set_cons_succ]
                  generalize hV2 : World.alloc V7 _ = V2 at hHeld ⊢
                  have b2 : Below V7.heap.size V7 V2 := by rw [← hV2]; exact bel_alloc (Below.refl _ _) _
                  have z2 : V7.heap.size < V2.heap.size := by rw [← hV2]; simp
                  have F2 := Aside0.mk (hV2 ▸ R_one kAddr 30 V7 W0.heap.size x.f1 [.string x.f1.f0, .string x.f1.f1] (kAddr_mkM _ _ _ x.f1) (by omega))
                  have a2 : W0.heap.size ≤ V7.heap.size := by omega
                  obtain ⟨g2, hg2⟩ : ∃ g, g = V7.heap.size := ⟨_, rfl⟩
                  rw [← hg2] at F2 z2 a2 ⊢
                  clear hV2 hg2
                  have s2_ : W0.heap.size ≤ V2.heap.size := hHeld.2.2.2.2.size
                  replace F5 := Aside0.mk (Kd.R_below F5.out b2)
                  replace F7 := Aside0.mk (below_blk F7.out b2)
                  refine wpAnyH_take (i := 6) (oi := { dst := some 28, op := Op.build 33 #[(1, Operand.tmp 24), (2, Operand.tmp 27)], type := 33, pos := "l7_host.go:63", after := #[{ on := 2, ground := Ground.data }, { on := 5, ground := Ground.data }], guard := none }) (v := ?v65) rfl (by kernel_rfl) (by kernel_rfl) (by kernel_rfl) (fun _ _ _ h => h) (Or.inl ⟨by rfl, ?y65⟩) (by assumption) ?r65
                  case y65 => intro w_ hSw; (try dsimp only at hSw); go_simp; (try (with_reducible rfl))
                  try simp only [Act.put, List.setIfInBounds_toArray, List.set_cons_zero, List.set_cons_succ]
                  refine wpAnyH_ready (rs := [8]) (by kernel_rfl) (by simp) ?_
                  refine AllReadyH.cons (o := { dst := none, op := Op.store 33 (Operand.tmp 6) (Operand.tmp 28), type := 0, pos := "l7_host.go:63", after := #[{ on := 7, ground := Ground.data }, { on := 6, ground := Ground.data }, { on := 4, ground := Ground.chain }, { on := 0, ground := Ground.phase }, { on := 1, ground := Ground.phase }, { on := 2, ground := Ground.phase }, { on := 3, ground := Ground.phase }, { on := 4, ground := Ground.phase }, { on := 5, ground := Ground.phase }, { on := 6, ground := Ground.phase }, { on := 7, ground := Ground.phase }], guard := none }) rfl (fun K hK => ?k66) AllReadyH.nil
                  case k66 =>
                    have hb7 := F7.out
                    have y0_ : V2.cell? ⟨g7, 0, none⟩ = some (.string ⟨#[]⟩) := by simp [World.cell?, hb7]
                    have y1_ : V2.cell? ⟨g7, 1, none⟩ = some (.string ⟨#[]⟩) := by simp [World.cell?, hb7]
                    have y2_ : V2.cell? ⟨g7, 2, none⟩ = some (.slice none 0 0) := by simp [World.cell?, hb7]
                    have y3_ : V2.cell? ⟨g7, 3, none⟩ = some (.slice none 0 0) := by simp [World.cell?, hb7]
                    have u0_ : V2.frozen? ⟨g7, 0, none⟩ = false := by simp [World.frozen?, hb7]
                    have u1_ : V2.frozen? ⟨g7, 1, none⟩ = false := by simp [World.frozen?, hb7]
                    have u2_ : V2.frozen? ⟨g7, 2, none⟩ = false := by simp [World.frozen?, hb7]
                    have u3_ : V2.frozen? ⟨g7, 3, none⟩ = false := by simp [World.frozen?, hb7]
                    go_simp
                    generalize hV8 : World.setCell (World.setCell (World.setCell (World.setCell V2 ⟨g7, 0, none⟩ _) ⟨g7, 1, none⟩ _) ⟨g7, 2, none⟩ _) ⟨g7, 3, none⟩ _ = V8
                    have G8 : V2.grownBy V8 (some g7) := by rw [← hV8]; exact grown_set4 _ _ _ _ _ _
                    have F8 : V8.heap[g7]? = some (.cells #[.string ⟨#[]⟩, .string ⟨#[]⟩, .slice (some ⟨g2, 0, none⟩) 1 1, .slice (some ⟨g5, 0, none⟩) 2 2] 33 (0, 0)) := by rw [← hV8]; exact blk_set4 F7.out _ _ _ _
                    have BB : Below W0.heap.size W0 V8 := by rw [← hV8]; exact bel_set (bel_set (bel_set (bel_set hHeld.2.2.2.2 _ a7) _ a7) _ a7) _ a7
                    clear hV8
                    refine hK.out _ _ ?h67 (fun hHeld => ?j67)
                    case h67 => (obtain ⟨k0, k1, k2, k3, k4, k5, k6, _⟩ := HC.out _ BB; exact ⟨k1, k2, k5, k6, BB⟩)
                    clear hK K
                    try simp only [Act.put, List.setIfInBounds_toArray, List.set_cons_zero, List.set_cons_succ]
                    replace F2 := Aside0.mk (R_else F2.out rfl G8 (Kd.R_ne F2.out F7.out (by decide)))
                    replace F5 := Aside0.mk (R_else F5.out rfl G8 (Kd.R_ne F5.out F7.out (by decide)))
                    replace F7 := Aside0.mk F8
                    have s8_ : W0.heap.size ≤ V8.heap.size := hHeld.2.2.2.2.size
                    refine wpAnyH_done (by kernel_rfl) ?_ _
                    exact HKK.out g2 g5 g7 V8 ⟨BB, a7, blk_lt F7.out, F2.out, F5.out, F7.out⟩
            case k37 =>
              go_simp
              refine hK.out _ _ ?h68 (fun hHeld => ?j68)
              case h68 => exact HK.out _ _ (bel_alloc (Below.refl _ _) _) hHeld
              clear hK K
              try simp only [Act.put, List.setIfInBounds_toArray, List.set_cons_zero, List.set_cons_succ]
              generalize hV7 : World.alloc V4 _ = V7 at hHeld ⊢
              have b7 : Below V4.heap.size V4 V7 := by rw [← hV7]; exact bel_alloc (Below.refl _ _) _
              have z7 : V4.heap.size < V7.heap.size := by rw [← hV7]; simp
              have F7 := Aside0.mk ((by rw [← hV7]; exact blk_new _ _ : V7.heap[V4.heap.size]? = some (.cells #[.string ⟨#[]⟩, .string ⟨#[]⟩, .slice none 0 0, .slice none 0 0] 33 (0, 0))))
              have a7 : W0.heap.size ≤ V4.heap.size := by omega
              obtain ⟨g7, hg7⟩ : ∃ g, g = V4.heap.size := ⟨_, rfl⟩
              rw [← hg7] at F7 z7 a7 ⊢
              clear hV7 hg7
              have s7_ : W0.heap.size ≤ V7.heap.size := hHeld.2.2.2.2.size
              refine wpAnyH_ready (rs := [2, 5]) (by kernel_rfl) (by simp) ?_
              refine AllReadyH.cons (o := { dst := some 24, op := Op.buildSlice 31 1 #[(0, Operand.tmp 23)], type := 31, pos := "l7_host.go:63", after := #[{ on := 1, ground := Ground.data }], guard := none }) rfl (fun K hK => ?k69) (AllReadyH.cons (o := { dst := some 27, op := Op.buildSlice 25 2 #[(0, Operand.const (Value.string { data := #[110, 111, 116, 32, 100, 101, 108, 105, 118, 101, 114, 101, 100, 58] })), (1, Operand.tmp 26)], type := 25, pos := "l7_host.go:63", after := #[{ on := 4, ground := Ground.data }], guard := none }) rfl (fun K hK => ?k70) AllReadyH.nil)
              case k69 =>
                go_simp
                refine hK.out _ _ ?h71 (fun hHeld => ?j71)
                case h71 => exact HK.out _ _ (bel_alloc (Below.refl _ _) _) hHeld
                clear hK K
                try simp only [Act.put, List.setIfInBounds_toArray, List.set_cons_zero, List.set_cons_succ]
                generalize hV2 : World.alloc V7 _ = V2 at hHeld ⊢
                have b2 : Below V7.heap.size V7 V2 := by rw [← hV2]; exact bel_alloc (Below.refl _ _) _
                have z2 : V7.heap.size < V2.heap.size := by rw [← hV2]; simp
                have F2 := Aside0.mk (hV2 ▸ R_one kAddr 30 V7 W0.heap.size x.f1 [.string x.f1.f0, .string x.f1.f1] (kAddr_mkM _ _ _ x.f1) (by omega))
                have a2 : W0.heap.size ≤ V7.heap.size := by omega
                obtain ⟨g2, hg2⟩ : ∃ g, g = V7.heap.size := ⟨_, rfl⟩
                rw [← hg2] at F2 z2 a2 ⊢
                clear hV2 hg2
                have s2_ : W0.heap.size ≤ V2.heap.size := hHeld.2.2.2.2.size
                replace F7 := Aside0.mk (below_blk F7.out b2)
                refine wpAnyH_ready (rs := [5]) (by kernel_rfl) (by simp) ?_
                refine AllReadyH.cons (o := { dst := some 27, op := Op.buildSlice 25 2 #[(0, Operand.const (Value.string { data := #[110, 111, 116, 32, 100, 101, 108, 105, 118, 101, 114, 101, 100, 58] })), (1, Operand.tmp 26)], type := 25, pos := "l7_host.go:63", after := #[{ on := 4, ground := Ground.data }], guard := none }) rfl (fun K hK => ?k72) AllReadyH.nil
                case k72 =>
                  go_simp
                  refine hK.out _ _ ?h73 (fun hHeld => ?j73)
                  case h73 => exact HK.out _ _ (bel_alloc (Below.refl _ _) _) hHeld
                  clear hK K
                  try simp only [Act.put, List.setIfInBounds_toArray, List.set_cons_zero, List.set_cons_succ]
                  generalize hV5 : World.alloc V2 _ = V5 at hHeld ⊢
                  have b5 : Below V2.heap.size V2 V5 := by rw [← hV5]; exact bel_alloc (Below.refl _ _) _
                  have z5 : V2.heap.size < V5.heap.size := by rw [← hV5]; simp
                  have F5 := Aside0.mk (hV5 ▸ R_two Kd.string 9 V2 W0.heap.size ⟨#[110, 111, 116, 32, 100, 101, 108, 105, 118, 101, 114, 101, 100, 58]⟩ (textS a.f0 a.f1) [.string ⟨#[110, 111, 116, 32, 100, 101, 108, 105, 118, 101, 114, 101, 100, 58]⟩] [.string (textS a.f0 a.f1)] rfl rfl (by omega))
                  have a5 : W0.heap.size ≤ V2.heap.size := by omega
                  obtain ⟨g5, hg5⟩ : ∃ g, g = V2.heap.size := ⟨_, rfl⟩
                  rw [← hg5] at F5 z5 a5 ⊢
                  clear hV5 hg5
                  have s5_ : W0.heap.size ≤ V5.heap.size := hHeld.2.2.2.2.size
                  replace F7 := Aside0.mk (below_blk F7.out b5)
                  replace F2 := Aside0.mk (Kd.R_below F2.out b5)
                  refine wpAnyH_take (i := 6) (oi := { dst := some 28, op := Op.build 33 #[(1, Operand.tmp 24), (2, Operand.tmp 27)], type := 33, pos := "l7_host.go:63", after := #[{ on := 2, ground := Ground.data }, { on := 5, ground := Ground.data }], guard := none }) (v := ?v74) rfl (by kernel_rfl) (by kernel_rfl) (by kernel_rfl) (fun _ _ _ h => h) (Or.inl ⟨by rfl, ?y74⟩) (by assumption) ?r74
                  case y74 => intro w_ hSw; (try dsimp only at hSw); go_simp; (try (with_reducible rfl))
                  try simp only [Act.put, List.setIfInBounds_toArray, List.set_cons_zero, List.set_cons_succ]
                  refine wpAnyH_ready (rs := [8]) (by kernel_rfl) (by simp) ?_
                  refine AllReadyH.cons (o := { dst := none, op := Op.store 33 (Operand.tmp 6) (Operand.tmp 28), type := 0, pos := "l7_host.go:63", after := #[{ on := 7, ground := Ground.data }, { on := 6, ground := Ground.data }, { on := 4, ground := Ground.chain }, { on := 0, ground := Ground.phase }, { on := 1, ground := Ground.phase }, { on := 2, ground := Ground.phase }, { on := 3, ground := Ground.phase }, { on := 4, ground := Ground.phase }, { on := 5, ground := Ground.phase }, { on := 6, ground := Ground.phase }, { on := 7, ground := Ground.phase }], guard := none }) rfl (fun K hK => ?k75) AllReadyH.nil
                  case k75 =>
                    have hb7 := F7.out
                    have y0_ : V5.cell? ⟨g7, 0, none⟩ = some (.string ⟨#[]⟩) := by simp [World.cell?, hb7]
                    have y1_ : V5.cell? ⟨g7, 1, none⟩ = some (.string ⟨#[]⟩) := by simp [World.cell?, hb7]
                    have y2_ : V5.cell? ⟨g7, 2, none⟩ = some (.slice none 0 0) := by simp [World.cell?, hb7]
                    have y3_ : V5.cell? ⟨g7, 3, none⟩ = some (.slice none 0 0) := by simp [World.cell?, hb7]
                    have u0_ : V5.frozen? ⟨g7, 0, none⟩ = false := by simp [World.frozen?, hb7]
                    have u1_ : V5.frozen? ⟨g7, 1, none⟩ = false := by simp [World.frozen?, hb7]
                    have u2_ : V5.frozen? ⟨g7, 2, none⟩ = false := by simp [World.frozen?, hb7]
                    have u3_ : V5.frozen? ⟨g7, 3, none⟩ = false := by simp [World.frozen?, hb7]
                    go_simp
                    generalize hV8 : World.setCell (World.setCell (World.setCell (World.setCell V5 ⟨g7, 0, none⟩ _) ⟨g7, 1, none⟩ _) ⟨g7, 2, none⟩ _) ⟨g7, 3, none⟩ _ = V8
                    have G8 : V5.grownBy V8 (some g7) := by rw [← hV8]; exact grown_set4 _ _ _ _ _ _
                    have F8 : V8.heap[g7]? = some (.cells #[.string ⟨#[]⟩, .string ⟨#[]⟩, .slice (some ⟨g2, 0, none⟩) 1 1, .slice (some ⟨g5, 0, none⟩) 2 2] 33 (0, 0)) := by rw [← hV8]; exact blk_set4 F7.out _ _ _ _
                    have BB : Below W0.heap.size W0 V8 := by rw [← hV8]; exact bel_set (bel_set (bel_set (bel_set hHeld.2.2.2.2 _ a7) _ a7) _ a7) _ a7
                    clear hV8
                    refine hK.out _ _ ?h76 (fun hHeld => ?j76)
                    case h76 => (obtain ⟨k0, k1, k2, k3, k4, k5, k6, _⟩ := HC.out _ BB; exact ⟨k1, k2, k5, k6, BB⟩)
                    clear hK K
                    try simp only [Act.put, List.setIfInBounds_toArray, List.set_cons_zero, List.set_cons_succ]
                    replace F2 := Aside0.mk (R_else F2.out rfl G8 (Kd.R_ne F2.out F7.out (by decide)))
                    replace F5 := Aside0.mk (R_else F5.out rfl G8 (Kd.R_ne F5.out F7.out (by decide)))
                    replace F7 := Aside0.mk F8
                    have s8_ : W0.heap.size ≤ V8.heap.size := hHeld.2.2.2.2.size
                    refine wpAnyH_done (by kernel_rfl) ?_ _
                    exact HKK.out g2 g5 g7 V8 ⟨BB, a7, blk_lt F7.out, F2.out, F5.out, F7.out⟩
              case k70 =>
                go_simp
                refine hK.out _ _ ?h77 (fun hHeld => ?j77)
                case h77 => exact HK.out _ _ (bel_alloc (Below.refl _ _) _) hHeld
                clear hK K
                try simp only [Act.put, List.setIfInBounds_toArray, List.set_cons_zero, List.set_cons_succ]
                generalize hV5 : World.alloc V7 _ = V5 at hHeld ⊢
                have b5 : Below V7.heap.size V7 V5 := by rw [← hV5]; exact bel_alloc (Below.refl _ _) _
                have z5 : V7.heap.size < V5.heap.size := by rw [← hV5]; simp
                have F5 := Aside0.mk (hV5 ▸ R_two Kd.string 9 V7 W0.heap.size ⟨#[110, 111, 116, 32, 100, 101, 108, 105, 118, 101, 114, 101, 100, 58]⟩ (textS a.f0 a.f1) [.string ⟨#[110, 111, 116, 32, 100, 101, 108, 105, 118, 101, 114, 101, 100, 58]⟩] [.string (textS a.f0 a.f1)] rfl rfl (by omega))
                have a5 : W0.heap.size ≤ V7.heap.size := by omega
                obtain ⟨g5, hg5⟩ : ∃ g, g = V7.heap.size := ⟨_, rfl⟩
                rw [← hg5] at F5 z5 a5 ⊢
                clear hV5 hg5
                have s5_ : W0.heap.size ≤ V5.heap.size := hHeld.2.2.2.2.size
                replace F7 := Aside0.mk (below_blk F7.out b5)
                refine wpAnyH_ready (rs := [2]) (by kernel_rfl) (by simp) ?_
                refine AllReadyH.cons (o := { dst := some 24, op := Op.buildSlice 31 1 #[(0, Operand.tmp 23)], type := 31, pos := "l7_host.go:63", after := #[{ on := 1, ground := Ground.data }], guard := none }) rfl (fun K hK => ?k78) AllReadyH.nil
                case k78 =>
                  go_simp
                  refine hK.out _ _ ?h79 (fun hHeld => ?j79)
                  case h79 => exact HK.out _ _ (bel_alloc (Below.refl _ _) _) hHeld
                  clear hK K
                  try simp only [Act.put, List.setIfInBounds_toArray, List.set_cons_zero, List.set_cons_succ]
                  generalize hV2 : World.alloc V5 _ = V2 at hHeld ⊢
                  have b2 : Below V5.heap.size V5 V2 := by rw [← hV2]; exact bel_alloc (Below.refl _ _) _
                  have z2 : V5.heap.size < V2.heap.size := by rw [← hV2]; simp
                  have F2 := Aside0.mk (hV2 ▸ R_one kAddr 30 V5 W0.heap.size x.f1 [.string x.f1.f0, .string x.f1.f1] (kAddr_mkM _ _ _ x.f1) (by omega))
                  have a2 : W0.heap.size ≤ V5.heap.size := by omega
                  obtain ⟨g2, hg2⟩ : ∃ g, g = V5.heap.size := ⟨_, rfl⟩
                  rw [← hg2] at F2 z2 a2 ⊢
                  clear hV2 hg2
                  have s2_ : W0.heap.size ≤ V2.heap.size := hHeld.2.2.2.2.size
                  replace F7 := Aside0.mk (below_blk F7.out b2)
                  replace F5 := Aside0.mk (Kd.R_below F5.out b2)
                  refine wpAnyH_take (i := 6) (oi := { dst := some 28, op := Op.build 33 #[(1, Operand.tmp 24), (2, Operand.tmp 27)], type := 33, pos := "l7_host.go:63", after := #[{ on := 2, ground := Ground.data }, { on := 5, ground := Ground.data }], guard := none }) (v := ?v80) rfl (by kernel_rfl) (by kernel_rfl) (by kernel_rfl) (fun _ _ _ h => h) (Or.inl ⟨by rfl, ?y80⟩) (by assumption) ?r80
                  case y80 => intro w_ hSw; (try dsimp only at hSw); go_simp; (try (with_reducible rfl))
                  try simp only [Act.put, List.setIfInBounds_toArray, List.set_cons_zero, List.set_cons_succ]
                  refine wpAnyH_ready (rs := [8]) (by kernel_rfl) (by simp) ?_
                  refine AllReadyH.cons (o := { dst := none, op := Op.store 33 (Operand.tmp 6) (Operand.tmp 28), type := 0, pos := "l7_host.go:63", after := #[{ on := 7, ground := Ground.data }, { on := 6, ground := Ground.data }, { on := 4, ground := Ground.chain }, { on := 0, ground := Ground.phase }, { on := 1, ground := Ground.phase }, { on := 2, ground := Ground.phase }, { on := 3, ground := Ground.phase }, { on := 4, ground := Ground.phase }, { on := 5, ground := Ground.phase }, { on := 6, ground := Ground.phase }, { on := 7, ground := Ground.phase }], guard := none }) rfl (fun K hK => ?k81) AllReadyH.nil
                  case k81 =>
                    have hb7 := F7.out
                    have y0_ : V2.cell? ⟨g7, 0, none⟩ = some (.string ⟨#[]⟩) := by simp [World.cell?, hb7]
                    have y1_ : V2.cell? ⟨g7, 1, none⟩ = some (.string ⟨#[]⟩) := by simp [World.cell?, hb7]
                    have y2_ : V2.cell? ⟨g7, 2, none⟩ = some (.slice none 0 0) := by simp [World.cell?, hb7]
                    have y3_ : V2.cell? ⟨g7, 3, none⟩ = some (.slice none 0 0) := by simp [World.cell?, hb7]
                    have u0_ : V2.frozen? ⟨g7, 0, none⟩ = false := by simp [World.frozen?, hb7]
                    have u1_ : V2.frozen? ⟨g7, 1, none⟩ = false := by simp [World.frozen?, hb7]
                    have u2_ : V2.frozen? ⟨g7, 2, none⟩ = false := by simp [World.frozen?, hb7]
                    have u3_ : V2.frozen? ⟨g7, 3, none⟩ = false := by simp [World.frozen?, hb7]
                    go_simp
                    generalize hV8 : World.setCell (World.setCell (World.setCell (World.setCell V2 ⟨g7, 0, none⟩ _) ⟨g7, 1, none⟩ _) ⟨g7, 2, none⟩ _) ⟨g7, 3, none⟩ _ = V8
                    have G8 : V2.grownBy V8 (some g7) := by rw [← hV8]; exact grown_set4 _ _ _ _ _ _
                    have F8 : V8.heap[g7]? = some (.cells #[.string ⟨#[]⟩, .string ⟨#[]⟩, .slice (some ⟨g2, 0, none⟩) 1 1, .slice (some ⟨g5, 0, none⟩) 2 2] 33 (0, 0)) := by rw [← hV8]; exact blk_set4 F7.out _ _ _ _
                    have BB : Below W0.heap.size W0 V8 := by rw [← hV8]; exact bel_set (bel_set (bel_set (bel_set hHeld.2.2.2.2 _ a7) _ a7) _ a7) _ a7
                    clear hV8
                    refine hK.out _ _ ?h82 (fun hHeld => ?j82)
                    case h82 => (obtain ⟨k0, k1, k2, k3, k4, k5, k6, _⟩ := HC.out _ BB; exact ⟨k1, k2, k5, k6, BB⟩)
                    clear hK K
                    try simp only [Act.put, List.setIfInBounds_toArray, List.set_cons_zero, List.set_cons_succ]
                    replace F2 := Aside0.mk (R_else F2.out rfl G8 (Kd.R_ne F2.out F7.out (by decide)))
                    replace F5 := Aside0.mk (R_else F5.out rfl G8 (Kd.R_ne F5.out F7.out (by decide)))
                    replace F7 := Aside0.mk F8
                    have s8_ : W0.heap.size ≤ V8.heap.size := hHeld.2.2.2.2.size
                    refine wpAnyH_done (by kernel_rfl) ?_ _
                    exact HKK.out g2 g5 g7 V8 ⟨BB, a7, blk_lt F7.out, F2.out, F5.out, F7.out⟩
          case k7 =>
            go_simp
            refine hK.out _ _ ?h83 (fun hHeld => ?j83)
            case h83 => exact HK.out _ _ (bel_alloc (Below.refl _ _) _) hHeld
            clear hK K
            try simp only [Act.put, List.setIfInBounds_toArray, List.set_cons_zero, List.set_cons_succ]
            generalize hV7 : World.alloc V0 _ = V7 at hHeld ⊢
            have b7 : Below V0.heap.size V0 V7 := by rw [← hV7]; exact bel_alloc (Below.refl _ _) _
            have z7 : V0.heap.size < V7.heap.size := by rw [← hV7]; simp
            have F7 := Aside0.mk ((by rw [← hV7]; exact blk_new _ _ : V7.heap[V0.heap.size]? = some (.cells #[.string ⟨#[]⟩, .string ⟨#[]⟩, .slice none 0 0, .slice none 0 0] 33 (0, 0))))
            have a7 : W0.heap.size ≤ V0.heap.size := by omega
            obtain ⟨g7, hg7⟩ : ∃ g, g = V0.heap.size := ⟨_, rfl⟩
            rw [← hg7] at F7 z7 a7 ⊢
            clear hV7 hg7
            have s7_ : W0.heap.size ≤ V7.heap.size := hHeld.2.2.2.2.size
            refine wpAnyH_ready (rs := [2, 4]) (by kernel_rfl) (by simp) ?_
            refine AllReadyH.cons (o := { dst := some 24, op := Op.buildSlice 31 1 #[(0, Operand.tmp 23)], type := 31, pos := "l7_host.go:63", after := #[{ on := 1, ground := Ground.data }], guard := none }) rfl (fun K hK => ?k84) (AllReadyH.cons (o := { dst := some 26, op := Op.call { callee := Callee.value (Operand.func 51), args := #[Operand.tmp 25], argTypes := #[30] }, type := 9, pos := "l7_host.go:63", after := #[{ on := 3, ground := Ground.data }], guard := none }) rfl (fun K hK => ?k85) AllReadyH.nil)
            case k84 =>
              go_simp
              refine hK.out _ _ ?h86 (fun hHeld => ?j86)
              case h86 => exact HK.out _ _ (bel_alloc (Below.refl _ _) _) hHeld
              clear hK K
              try simp only [Act.put, List.setIfInBounds_toArray, List.set_cons_zero, List.set_cons_succ]
              generalize hV2 : World.alloc V7 _ = V2 at hHeld ⊢
              have b2 : Below V7.heap.size V7 V2 := by rw [← hV2]; exact bel_alloc (Below.refl _ _) _
              have z2 : V7.heap.size < V2.heap.size := by rw [← hV2]; simp
              have F2 := Aside0.mk (hV2 ▸ R_one kAddr 30 V7 W0.heap.size x.f1 [.string x.f1.f0, .string x.f1.f1] (kAddr_mkM _ _ _ x.f1) (by omega))
              have a2 : W0.heap.size ≤ V7.heap.size := by omega
              obtain ⟨g2, hg2⟩ : ∃ g, g = V7.heap.size := ⟨_, rfl⟩
              rw [← hg2] at F2 z2 a2 ⊢
              clear hV2 hg2
              have s2_ : W0.heap.size ≤ V2.heap.size := hHeld.2.2.2.2.size
              replace F7 := Aside0.mk (below_blk F7.out b2)
              refine wpAnyH_ready (rs := [4]) (by kernel_rfl) (by simp) ?_
              refine AllReadyH.cons (o := { dst := some 26, op := Op.call { callee := Callee.value (Operand.func 51), args := #[Operand.tmp 25], argTypes := #[30] }, type := 9, pos := "l7_host.go:63", after := #[{ on := 3, ground := Ground.data }], guard := none }) rfl (fun K hK => ?k87) AllReadyH.nil
              case k87 =>
                go_simp
                refine ((htext V2)).mono ?_
                rintro e V4 ⟨rfl, b4⟩
                refine hK.out _ _ ?h88 (fun hHeld => ?j88)
                case h88 => exact HK.out _ _ b4 hHeld
                clear hK K
                try simp only [Act.put, List.setIfInBounds_toArray, List.set_cons_zero, List.set_cons_succ]
                have s4_ : W0.heap.size ≤ V4.heap.size := hHeld.2.2.2.2.size
                replace F7 := Aside0.mk (below_blk F7.out b4)
                replace F2 := Aside0.mk (Kd.R_below F2.out b4)
                refine wpAnyH_ready (rs := [5]) (by kernel_rfl) (by simp) ?_
                refine AllReadyH.cons (o := { dst := some 27, op := Op.buildSlice 25 2 #[(0, Operand.const (Value.string { data := #[110, 111, 116, 32, 100, 101, 108, 105, 118, 101, 114, 101, 100, 58] })), (1, Operand.tmp 26)], type := 25, pos := "l7_host.go:63", after := #[{ on := 4, ground := Ground.data }], guard := none }) rfl (fun K hK => ?k89) AllReadyH.nil
                case k89 =>
                  go_simp
                  refine hK.out _ _ ?h90 (fun hHeld => ?j90)
                  case h90 => exact HK.out _ _ (bel_alloc (Below.refl _ _) _) hHeld
                  clear hK K
                  try simp only [Act.put, List.setIfInBounds_toArray, List.set_cons_zero, List.set_cons_succ]
                  generalize hV5 : World.alloc V4 _ = V5 at hHeld ⊢
                  have b5 : Below V4.heap.size V4 V5 := by rw [← hV5]; exact bel_alloc (Below.refl _ _) _
                  have z5 : V4.heap.size < V5.heap.size := by rw [← hV5]; simp
                  have F5 := Aside0.mk (hV5 ▸ R_two Kd.string 9 V4 W0.heap.size ⟨#[110, 111, 116, 32, 100, 101, 108, 105, 118, 101, 114, 101, 100, 58]⟩ (textS a.f0 a.f1) [.string ⟨#[110, 111, 116, 32, 100, 101, 108, 105, 118, 101, 114, 101, 100, 58]⟩] [.string (textS a.f0 a.f1)] rfl rfl (by omega))
                  have a5 : W0.heap.size ≤ V4.heap.size := by omega
                  obtain ⟨g5, hg5⟩ : ∃ g, g = V4.heap.size := ⟨_, rfl⟩
                  rw [← hg5] at F5 z5 a5 ⊢
                  clear hV5 hg5
                  have s5_ : W0.heap.size ≤ V5.heap.size := hHeld.2.2.2.2.size
                  replace F7 := Aside0.mk (below_blk F7.out b5)
                  replace F2 := Aside0.mk (Kd.R_below F2.out b5)
                  refine wpAnyH_take (i := 6) (oi := { dst := some 28, op := Op.build 33 #[(1, Operand.tmp 24), (2, Operand.tmp 27)], type := 33, pos := "l7_host.go:63", after := #[{ on := 2, ground := Ground.data }, { on := 5, ground := Ground.data }], guard := none }) (v := ?v91) rfl (by kernel_rfl) (by kernel_rfl) (by kernel_rfl) (fun _ _ _ h => h) (Or.inl ⟨by rfl, ?y91⟩) (by assumption) ?r91
                  case y91 => intro w_ hSw; (try dsimp only at hSw); go_simp; (try (with_reducible rfl))
                  try simp only [Act.put, List.setIfInBounds_toArray, List.set_cons_zero, List.set_cons_succ]
                  refine wpAnyH_ready (rs := [8]) (by kernel_rfl) (by simp) ?_
                  refine AllReadyH.cons (o := { dst := none, op := Op.store 33 (Operand.tmp 6) (Operand.tmp 28), type := 0, pos := "l7_host.go:63", after := #[{ on := 7, ground := Ground.data }, { on := 6, ground := Ground.data }, { on := 4, ground := Ground.chain }, { on := 0, ground := Ground.phase }, { on := 1, ground := Ground.phase }, { on := 2, ground := Ground.phase }, { on := 3, ground := Ground.phase }, { on := 4, ground := Ground.phase }, { on := 5, ground := Ground.phase }, { on := 6, ground := Ground.phase }, { on := 7, ground := Ground.phase }], guard := none }) rfl (fun K hK => ?k92) AllReadyH.nil
                  case k92 =>
                    have hb7 := F7.out
                    have y0_ : V5.cell? ⟨g7, 0, none⟩ = some (.string ⟨#[]⟩) := by simp [World.cell?, hb7]
                    have y1_ : V5.cell? ⟨g7, 1, none⟩ = some (.string ⟨#[]⟩) := by simp [World.cell?, hb7]
                    have y2_ : V5.cell? ⟨g7, 2, none⟩ = some (.slice none 0 0) := by simp [World.cell?, hb7]
                    have y3_ : V5.cell? ⟨g7, 3, none⟩ = some (.slice none 0 0) := by simp [World.cell?, hb7]
                    have u0_ : V5.frozen? ⟨g7, 0, none⟩ = false := by simp [World.frozen?, hb7]
                    have u1_ : V5.frozen? ⟨g7, 1, none⟩ = false := by simp [World.frozen?, hb7]
                    have u2_ : V5.frozen? ⟨g7, 2, none⟩ = false := by simp [World.frozen?, hb7]
                    have u3_ : V5.frozen? ⟨g7, 3, none⟩ = false := by simp [World.frozen?, hb7]
                    go_simp
                    generalize hV8 : World.setCell (World.setCell (World.setCell (World.setCell V5 ⟨g7, 0, none⟩ _) ⟨g7, 1, none⟩ _) ⟨g7, 2, none⟩ _) ⟨g7, 3, none⟩ _ = V8
                    have G8 : V5.grownBy V8 (some g7) := by rw [← hV8]; exact grown_set4 _ _ _ _ _ _
                    have F8 : V8.heap[g7]? = some (.cells #[.string ⟨#[]⟩, .string ⟨#[]⟩, .slice (some ⟨g2, 0, none⟩) 1 1, .slice (some ⟨g5, 0, none⟩) 2 2] 33 (0, 0)) := by rw [← hV8]; exact blk_set4 F7.out _ _ _ _
                    have BB : Below W0.heap.size W0 V8 := by rw [← hV8]; exact bel_set (bel_set (bel_set (bel_set hHeld.2.2.2.2 _ a7) _ a7) _ a7) _ a7
                    clear hV8
                    refine hK.out _ _ ?h93 (fun hHeld => ?j93)
                    case h93 => (obtain ⟨k0, k1, k2, k3, k4, k5, k6, _⟩ := HC.out _ BB; exact ⟨k1, k2, k5, k6, BB⟩)
                    clear hK K
                    try simp only [Act.put, List.setIfInBounds_toArray, List.set_cons_zero, List.set_cons_succ]
                    replace F2 := Aside0.mk (R_else F2.out rfl G8 (Kd.R_ne F2.out F7.out (by decide)))
                    replace F5 := Aside0.mk (R_else F5.out rfl G8 (Kd.R_ne F5.out F7.out (by decide)))
                    replace F7 := Aside0.mk F8
                    have s8_ : W0.heap.size ≤ V8.heap.size := hHeld.2.2.2.2.size
                    refine wpAnyH_done (by kernel_rfl) ?_ _
                    exact HKK.out g2 g5 g7 V8 ⟨BB, a7, blk_lt F7.out, F2.out, F5.out, F7.out⟩
            case k85 =>
              go_simp
              refine ((htext V7)).mono ?_
              rintro e V4 ⟨rfl, b4⟩
              refine hK.out _ _ ?h94 (fun hHeld => ?j94)
              case h94 => exact HK.out _ _ b4 hHeld
              clear hK K
              try simp only [Act.put, List.setIfInBounds_toArray, List.set_cons_zero, List.set_cons_succ]
              have s4_ : W0.heap.size ≤ V4.heap.size := hHeld.2.2.2.2.size
              replace F7 := Aside0.mk (below_blk F7.out b4)
              refine wpAnyH_ready (rs := [2, 5]) (by kernel_rfl) (by simp) ?_
              refine AllReadyH.cons (o := { dst := some 24, op := Op.buildSlice 31 1 #[(0, Operand.tmp 23)], type := 31, pos := "l7_host.go:63", after := #[{ on := 1, ground := Ground.data }], guard := none }) rfl (fun K hK => ?k95) (AllReadyH.cons (o := { dst := some 27, op := Op.buildSlice 25 2 #[(0, Operand.const (Value.string { data := #[110, 111, 116, 32, 100, 101, 108, 105, 118, 101, 114, 101, 100, 58] })), (1, Operand.tmp 26)], type := 25, pos := "l7_host.go:63", after := #[{ on := 4, ground := Ground.data }], guard := none }) rfl (fun K hK => ?k96) AllReadyH.nil)
              case k95 =>
                go_simp
                refine hK.out _ _ ?h97 (fun hHeld => ?j97)
                case h97 => exact HK.out _ _ (bel_alloc (Below.refl _ _) _) hHeld
                clear hK K
                try simp only [Act.put, List.setIfInBounds_toArray, List.set_cons_zero, List.set_cons_succ]
                generalize hV2 : World.alloc V4 _ = V2 at hHeld ⊢
                have b2 : Below V4.heap.size V4 V2 := by rw [← hV2]; exact bel_alloc (Below.refl _ _) _
                have z2 : V4.heap.size < V2.heap.size := by rw [← hV2]; simp
                have F2 := Aside0.mk (hV2 ▸ R_one kAddr 30 V4 W0.heap.size x.f1 [.string x.f1.f0, .string x.f1.f1] (kAddr_mkM _ _ _ x.f1) (by omega))
                have a2 : W0.heap.size ≤ V4.heap.size := by omega
                obtain ⟨g2, hg2⟩ : ∃ g, g = V4.heap.size := ⟨_, rfl⟩
                rw [← hg2] at F2 z2 a2 ⊢
                clear hV2 hg2
                have s2_ : W0.heap.size ≤ V2.heap.size := hHeld.2.2.2.2.size
                replace F7 := Aside0.mk (below_blk F7.out b2)
                refine wpAnyH_ready (rs := [5]) (by kernel_rfl) (by simp) ?_
                refine AllReadyH.cons (o := { dst := some 27, op := Op.buildSlice 25 2 #[(0, Operand.const (Value.string { data := #[110, 111, 116, 32, 100, 101, 108, 105, 118, 101, 114, 101, 100, 58] })), (1, Operand.tmp 26)], type := 25, pos := "l7_host.go:63", after := #[{ on := 4, ground := Ground.data }], guard := none }) rfl (fun K hK => ?k98) AllReadyH.nil
                case k98 =>
                  go_simp
                  refine hK.out _ _ ?h99 (fun hHeld => ?j99)
                  case h99 => exact HK.out _ _ (bel_alloc (Below.refl _ _) _) hHeld
                  clear hK K
                  try simp only [Act.put, List.setIfInBounds_toArray, List.set_cons_zero, List.set_cons_succ]
                  generalize hV5 : World.alloc V2 _ = V5 at hHeld ⊢
                  have b5 : Below V2.heap.size V2 V5 := by rw [← hV5]; exact bel_alloc (Below.refl _ _) _
                  have z5 : V2.heap.size < V5.heap.size := by rw [← hV5]; simp
                  have F5 := Aside0.mk (hV5 ▸ R_two Kd.string 9 V2 W0.heap.size ⟨#[110, 111, 116, 32, 100, 101, 108, 105, 118, 101, 114, 101, 100, 58]⟩ (textS a.f0 a.f1) [.string ⟨#[110, 111, 116, 32, 100, 101, 108, 105, 118, 101, 114, 101, 100, 58]⟩] [.string (textS a.f0 a.f1)] rfl rfl (by omega))
                  have a5 : W0.heap.size ≤ V2.heap.size := by omega
                  obtain ⟨g5, hg5⟩ : ∃ g, g = V2.heap.size := ⟨_, rfl⟩
                  rw [← hg5] at F5 z5 a5 ⊢
                  clear hV5 hg5
                  have s5_ : W0.heap.size ≤ V5.heap.size := hHeld.2.2.2.2.size
                  replace F7 := Aside0.mk (below_blk F7.out b5)
                  replace F2 := Aside0.mk (Kd.R_below F2.out b5)
                  refine wpAnyH_take (i := 6) (oi := { dst := some 28, op := Op.build 33 #[(1, Operand.tmp 24), (2, Operand.tmp 27)], type := 33, pos := "l7_host.go:63", after := #[{ on := 2, ground := Ground.data }, { on := 5, ground := Ground.data }], guard := none }) (v := ?v100) rfl (by kernel_rfl) (by kernel_rfl) (by kernel_rfl) (fun _ _ _ h => h) (Or.inl ⟨by rfl, ?y100⟩) (by assumption) ?r100
                  case y100 => intro w_ hSw; (try dsimp only at hSw); go_simp; (try (with_reducible rfl))
                  try simp only [Act.put, List.setIfInBounds_toArray, List.set_cons_zero, List.set_cons_succ]
                  refine wpAnyH_ready (rs := [8]) (by kernel_rfl) (by simp) ?_
                  refine AllReadyH.cons (o := { dst := none, op := Op.store 33 (Operand.tmp 6) (Operand.tmp 28), type := 0, pos := "l7_host.go:63", after := #[{ on := 7, ground := Ground.data }, { on := 6, ground := Ground.data }, { on := 4, ground := Ground.chain }, { on := 0, ground := Ground.phase }, { on := 1, ground := Ground.phase }, { on := 2, ground := Ground.phase }, { on := 3, ground := Ground.phase }, { on := 4, ground := Ground.phase }, { on := 5, ground := Ground.phase }, { on := 6, ground := Ground.phase }, { on := 7, ground := Ground.phase }], guard := none }) rfl (fun K hK => ?k101) AllReadyH.nil
                  case k101 =>
                    have hb7 := F7.out
                    have y0_ : V5.cell? ⟨g7, 0, none⟩ = some (.string ⟨#[]⟩) := by simp [World.cell?, hb7]
                    have y1_ : V5.cell? ⟨g7, 1, none⟩ = some (.string ⟨#[]⟩) := by simp [World.cell?, hb7]
                    have y2_ : V5.cell? ⟨g7, 2, none⟩ = some (.slice none 0 0) := by simp [World.cell?, hb7]
                    have y3_ : V5.cell? ⟨g7, 3, none⟩ = some (.slice none 0 0) := by simp [World.cell?, hb7]
                    have u0_ : V5.frozen? ⟨g7, 0, none⟩ = false := by simp [World.frozen?, hb7]
                    have u1_ : V5.frozen? ⟨g7, 1, none⟩ = false := by simp [World.frozen?, hb7]
                    have u2_ : V5.frozen? ⟨g7, 2, none⟩ = false := by simp [World.frozen?, hb7]
                    have u3_ : V5.frozen? ⟨g7, 3, none⟩ = false := by simp [World.frozen?, hb7]
                    go_simp
                    generalize hV8 : World.setCell (World.setCell (World.setCell (World.setCell V5 ⟨g7, 0, none⟩ _) ⟨g7, 1, none⟩ _) ⟨g7, 2, none⟩ _) ⟨g7, 3, none⟩ _ = V8
                    have G8 : V5.grownBy V8 (some g7) := by rw [← hV8]; exact grown_set4 _ _ _ _ _ _
                    have F8 : V8.heap[g7]? = some (.cells #[.string ⟨#[]⟩, .string ⟨#[]⟩, .slice (some ⟨g2, 0, none⟩) 1 1, .slice (some ⟨g5, 0, none⟩) 2 2] 33 (0, 0)) := by rw [← hV8]; exact blk_set4 F7.out _ _ _ _
                    have BB : Below W0.heap.size W0 V8 := by rw [← hV8]; exact bel_set (bel_set (bel_set (bel_set hHeld.2.2.2.2 _ a7) _ a7) _ a7) _ a7
                    clear hV8
                    refine hK.out _ _ ?h102 (fun hHeld => ?j102)
                    case h102 => (obtain ⟨k0, k1, k2, k3, k4, k5, k6, _⟩ := HC.out _ BB; exact ⟨k1, k2, k5, k6, BB⟩)
                    clear hK K
                    try simp only [Act.put, List.setIfInBounds_toArray, List.set_cons_zero, List.set_cons_succ]
                    replace F2 := Aside0.mk (R_else F2.out rfl G8 (Kd.R_ne F2.out F7.out (by decide)))
                    replace F5 := Aside0.mk (R_else F5.out rfl G8 (Kd.R_ne F5.out F7.out (by decide)))
                    replace F7 := Aside0.mk F8
                    have s8_ : W0.heap.size ≤ V8.heap.size := hHeld.2.2.2.2.size
                    refine wpAnyH_done (by kernel_rfl) ?_ _
                    exact HKK.out g2 g5 g7 V8 ⟨BB, a7, blk_lt F7.out, F2.out, F5.out, F7.out⟩
              case k96 =>
                go_simp
                refine hK.out _ _ ?h103 (fun hHeld => ?j103)
                case h103 => exact HK.out _ _ (bel_alloc (Below.refl _ _) _) hHeld
                clear hK K
                try simp only [Act.put, List.setIfInBounds_toArray, List.set_cons_zero, List.set_cons_succ]
                generalize hV5 : World.alloc V4 _ = V5 at hHeld ⊢
                have b5 : Below V4.heap.size V4 V5 := by rw [← hV5]; exact bel_alloc (Below.refl _ _) _
                have z5 : V4.heap.size < V5.heap.size := by rw [← hV5]; simp
                have F5 := Aside0.mk (hV5 ▸ R_two Kd.string 9 V4 W0.heap.size ⟨#[110, 111, 116, 32, 100, 101, 108, 105, 118, 101, 114, 101, 100, 58]⟩ (textS a.f0 a.f1) [.string ⟨#[110, 111, 116, 32, 100, 101, 108, 105, 118, 101, 114, 101, 100, 58]⟩] [.string (textS a.f0 a.f1)] rfl rfl (by omega))
                have a5 : W0.heap.size ≤ V4.heap.size := by omega
                obtain ⟨g5, hg5⟩ : ∃ g, g = V4.heap.size := ⟨_, rfl⟩
                rw [← hg5] at F5 z5 a5 ⊢
                clear hV5 hg5
                have s5_ : W0.heap.size ≤ V5.heap.size := hHeld.2.2.2.2.size
                replace F7 := Aside0.mk (below_blk F7.out b5)
                refine wpAnyH_ready (rs := [2]) (by kernel_rfl) (by simp) ?_
                refine AllReadyH.cons (o := { dst := some 24, op := Op.buildSlice 31 1 #[(0, Operand.tmp 23)], type := 31, pos := "l7_host.go:63", after := #[{ on := 1, ground := Ground.data }], guard := none }) rfl (fun K hK => ?k104) AllReadyH.nil
                case k104 =>
                  go_simp
                  refine hK.out _ _ ?h105 (fun hHeld => ?j105)
                  case h105 => exact HK.out _ _ (bel_alloc (Below.refl _ _) _) hHeld
                  clear hK K
                  try simp only [Act.put, List.setIfInBounds_toArray, List.set_cons_zero, List.set_cons_succ]
                  generalize hV2 : World.alloc V5 _ = V2 at hHeld ⊢
                  have b2 : Below V5.heap.size V5 V2 := by rw [← hV2]; exact bel_alloc (Below.refl _ _) _
                  have z2 : V5.heap.size < V2.heap.size := by rw [← hV2]; simp
                  have F2 := Aside0.mk (hV2 ▸ R_one kAddr 30 V5 W0.heap.size x.f1 [.string x.f1.f0, .string x.f1.f1] (kAddr_mkM _ _ _ x.f1) (by omega))
                  have a2 : W0.heap.size ≤ V5.heap.size := by omega
                  obtain ⟨g2, hg2⟩ : ∃ g, g = V5.heap.size := ⟨_, rfl⟩
                  rw [← hg2] at F2 z2 a2 ⊢
                  clear hV2 hg2
                  have s2_ : W0.heap.size ≤ V2.heap.size := hHeld.2.2.2.2.size
                  replace F7 := Aside0.mk (below_blk F7.out b2)
                  replace F5 := Aside0.mk (Kd.R_below F5.out b2)
                  refine wpAnyH_take (i := 6) (oi := { dst := some 28, op := Op.build 33 #[(1, Operand.tmp 24), (2, Operand.tmp 27)], type := 33, pos := "l7_host.go:63", after := #[{ on := 2, ground := Ground.data }, { on := 5, ground := Ground.data }], guard := none }) (v := ?v106) rfl (by kernel_rfl) (by kernel_rfl) (by kernel_rfl) (fun _ _ _ h => h) (Or.inl ⟨by rfl, ?y106⟩) (by assumption) ?r106
                  case y106 => intro w_ hSw; (try dsimp only at hSw); go_simp; (try (with_reducible rfl))
                  try simp only [Act.put, List.setIfInBounds_toArray, List.set_cons_zero, List.set_cons_succ]
                  refine wpAnyH_ready (rs := [8]) (by kernel_rfl) (by simp) ?_
                  refine AllReadyH.cons (o := { dst := none, op := Op.store 33 (Operand.tmp 6) (Operand.tmp 28), type := 0, pos := "l7_host.go:63", after := #[{ on := 7, ground := Ground.data }, { on := 6, ground := Ground.data }, { on := 4, ground := Ground.chain }, { on := 0, ground := Ground.phase }, { on := 1, ground := Ground.phase }, { on := 2, ground := Ground.phase }, { on := 3, ground := Ground.phase }, { on := 4, ground := Ground.phase }, { on := 5, ground := Ground.phase }, { on := 6, ground := Ground.phase }, { on := 7, ground := Ground.phase }], guard := none }) rfl (fun K hK => ?k107) AllReadyH.nil
                  case k107 =>
                    have hb7 := F7.out
                    have y0_ : V2.cell? ⟨g7, 0, none⟩ = some (.string ⟨#[]⟩) := by simp [World.cell?, hb7]
                    have y1_ : V2.cell? ⟨g7, 1, none⟩ = some (.string ⟨#[]⟩) := by simp [World.cell?, hb7]
                    have y2_ : V2.cell? ⟨g7, 2, none⟩ = some (.slice none 0 0) := by simp [World.cell?, hb7]
                    have y3_ : V2.cell? ⟨g7, 3, none⟩ = some (.slice none 0 0) := by simp [World.cell?, hb7]
                    have u0_ : V2.frozen? ⟨g7, 0, none⟩ = false := by simp [World.frozen?, hb7]
                    have u1_ : V2.frozen? ⟨g7, 1, none⟩ = false := by simp [World.frozen?, hb7]
                    have u2_ : V2.frozen? ⟨g7, 2, none⟩ = false := by simp [World.frozen?, hb7]
                    have u3_ : V2.frozen? ⟨g7, 3, none⟩ = false := by simp [World.frozen?, hb7]
                    go_simp
                    generalize hV8 : World.setCell (World.setCell (World.setCell (World.setCell V2 ⟨g7, 0, none⟩ _) ⟨g7, 1, none⟩ _) ⟨g7, 2, none⟩ _) ⟨g7, 3, none⟩ _ = V8
                    have G8 : V2.grownBy V8 (some g7) := by rw [← hV8]; exact grown_set4 _ _ _ _ _ _
                    have F8 : V8.heap[g7]? = some (.cells #[.string ⟨#[]⟩, .string ⟨#[]⟩, .slice (some ⟨g2, 0, none⟩) 1 1, .slice (some ⟨g5, 0, none⟩) 2 2] 33 (0, 0)) := by rw [← hV8]; exact blk_set4 F7.out _ _ _ _
                    have BB : Below W0.heap.size W0 V8 := by rw [← hV8]; exact bel_set (bel_set (bel_set (bel_set hHeld.2.2.2.2 _ a7) _ a7) _ a7) _ a7
                    clear hV8
                    refine hK.out _ _ ?h108 (fun hHeld => ?j108)
                    case h108 => (obtain ⟨k0, k1, k2, k3, k4, k5, k6, _⟩ := HC.out _ BB; exact ⟨k1, k2, k5, k6, BB⟩)
                    clear hK K
                    try simp only [Act.put, List.setIfInBounds_toArray, List.set_cons_zero, List.set_cons_succ]
                    replace F2 := Aside0.mk (R_else F2.out rfl G8 (Kd.R_ne F2.out F7.out (by decide)))
                    replace F5 := Aside0.mk (R_else F5.out rfl G8 (Kd.R_ne F5.out F7.out (by decide)))
                    replace F7 := Aside0.mk F8
                    have s8_ : W0.heap.size ≤ V8.heap.size := hHeld.2.2.2.2.size
                    refine wpAnyH_done (by kernel_rfl) ?_ _
                    exact HKK.out g2 g5 g7 V8 ⟨BB, a7, blk_lt F7.out, F2.out, F5.out, F7.out⟩
        case hk =>
          intro g2 g5 g7 V ⟨BV, a7, l7, f2, f5, f7⟩
          have F2 := Aside0.mk f2
          have F5 := Aside0.mk f5
          have F7 := Aside0.mk f7
          clear f2 f5 f7 HST HK join
          obtain ⟨m0_, m1_, m2_, m3_, m4_, m5_, m6_, m7_, m8_, m9_, m10_, m11_, m12_, m13_, m14_⟩ := HC.out _ BV
          have y0_ : V.cell? ⟨g7, 0, none⟩ = some (.string ⟨#[]⟩) := (by simp [World.cell?, F7.out]); have y1_ : V.cell? ⟨g7, 1, none⟩ = some (.string ⟨#[]⟩) := (by simp [World.cell?, F7.out]); have y2_ : V.cell? ⟨g7, 2, none⟩ = some (.slice (some ⟨g2, 0, none⟩) 1 1) := (by simp [World.cell?, F7.out]); have y3_ : V.cell? ⟨g7, 3, none⟩ = some (.slice (some ⟨g5, 0, none⟩) 2 2) := (by simp [World.cell?, F7.out]); have u0_ : V.frozen? ⟨g7, 0, none⟩ = false := (by simp [World.frozen?, F7.out]); have u1_ : V.frozen? ⟨g7, 1, none⟩ = false := (by simp [World.frozen?, F7.out]); have u2_ : V.frozen? ⟨g7, 2, none⟩ = false := (by simp [World.frozen?, F7.out]); have u3_ : V.frozen? ⟨g7, 3, none⟩ = false := (by simp [World.frozen?, F7.out])
          have ne1 : ¬ g7 = w.heap.size + 1 + 1 := by omega
          have ne2 : ¬ w.heap.size + 1 + 1 = g7 := by omega
          generalize markOf x.f3 = k at hmark HM
          by_cases hk : k = ⟨#[]⟩
          · subst hk
            obtain rfl : M = ⟨⟨⟨#[]⟩, ⟨#[]⟩⟩, [x.f1], [⟨#[110, 111, 116, 32, 100, 101, 108, 105, 118, 101, 114, 101, 100, 58]⟩, textS a.f0 a.f1]⟩ := by rw [HM.out]; rfl
            go_wp2_with (go_at_call 52; refine (hmark _ (bel_then HB0.out BV)).mono ?_; rintro e w4 ⟨rfl, b4⟩; have B4 : Below W0.heap.size W0 w4 := bel_then BV b4; obtain ⟨n0_, n1_, n2_, n3_, n4_, n5_, n6_, n7_, n8_, n9_, n10_, n11_, n12_, n13_, n14_⟩ := HC.out _ B4; replace F2 := Aside0.mk (Kd.R_below F2.out b4); replace F5 := Aside0.mk (Kd.R_below F5.out b4); replace F7 := Aside0.mk (below_blk F7.out b4); clear y0_ y1_ y2_ y3_ u0_ u1_ u2_ u3_; have y0_ : w4.cell? ⟨g7, 0, none⟩ = some (.string ⟨#[]⟩) := (by simp [World.cell?, F7.out]); have y1_ : w4.cell? ⟨g7, 1, none⟩ = some (.string ⟨#[]⟩) := (by simp [World.cell?, F7.out]); have y2_ : w4.cell? ⟨g7, 2, none⟩ = some (.slice (some ⟨g2, 0, none⟩) 1 1) := (by simp [World.cell?, F7.out]); have y3_ : w4.cell? ⟨g7, 3, none⟩ = some (.slice (some ⟨g5, 0, none⟩) 2 2) := (by simp [World.cell?, F7.out]); have u0_ : w4.frozen? ⟨g7, 0, none⟩ = false := (by simp [World.frozen?, F7.out]); have u1_ : w4.frozen? ⟨g7, 1, none⟩ = false := (by simp [World.frozen?, F7.out]); have u2_ : w4.frozen? ⟨g7, 2, none⟩ = false := (by simp [World.frozen?, F7.out]); have u3_ : w4.frozen? ⟨g7, 3, none⟩ = false := (by simp [World.frozen?, F7.out]); have l4 := blk_lt F7.out; clear b4)
            refine bodyPost_ret (v := .tuple #[.agg #[.string ⟨#[]⟩, .string ⟨#[]⟩, .slice (some ⟨g2, 0, none⟩) 1 1, .slice (some ⟨g5, 0, none⟩) 2 2], .bool true]) ?hrA rfl ?hpA
            case hrA => simp [results, Tryd.results12, go_sem, n7_, n8_, n9_, n10_, n11_, n12_, n13_, n14_]
            case hpA => exact ⟨_, _, _, _, rfl, Kd.R_lower (base := W0.heap.size) (by (with_reducible repeat (first | exact F2.out | refine R_setLow ?_ _ ?_)); all_goals omega) (by omega), Kd.R_lower (base := W0.heap.size) (by (with_reducible repeat (first | exact F5.out | refine R_setLow ?_ _ ?_)); all_goals omega) (by omega), by (with_reducible repeat (first | exact (bel_then HB0.out B4) | refine bel_alloc ?_ _ | refine bel_set ?_ _ ?_ | refine blw_drewN ?_ _ | refine Below.drew ?_)); all_goals (first | (simp; done) | (simp; omega) | omega)⟩
          · have hk2 : (k.toList == ([] : List UInt8)) = false := by
              rw [beq_eq_false_iff_ne, bl]
              intro h
              apply hk
              cases k
              simp at h
              simp [h]
            obtain rfl : M = ⟨⟨⟨#[]⟩, ⟨#[]⟩⟩, [x.f1], [⟨#[110, 111, 116, 32, 100, 101, 108, 105, 118, 101, 114, 101, 100, 58]⟩, textS a.f0 a.f1] ++ [k]⟩ := by rw [HM.out, if_neg hk]; rfl
            have HKN := Lib.hid hk
            clear hk
            go_wp2_with (first | (go_at_call 52; refine (hmark _ (bel_then HB0.out BV)).mono ?_; rintro e w4 ⟨rfl, b4⟩; have B4 : Below W0.heap.size W0 w4 := bel_then BV b4; obtain ⟨n0_, n1_, n2_, n3_, n4_, n5_, n6_, n7_, n8_, n9_, n10_, n11_, n12_, n13_, n14_⟩ := HC.out _ B4; replace F2 := Aside0.mk (Kd.R_below F2.out b4); replace F5 := Aside0.mk (Kd.R_below F5.out b4); replace F7 := Aside0.mk (below_blk F7.out b4); clear y0_ y1_ y2_ y3_ u0_ u1_ u2_ u3_; have y0_ : w4.cell? ⟨g7, 0, none⟩ = some (.string ⟨#[]⟩) := (by simp [World.cell?, F7.out]); have y1_ : w4.cell? ⟨g7, 1, none⟩ = some (.string ⟨#[]⟩) := (by simp [World.cell?, F7.out]); have y2_ : w4.cell? ⟨g7, 2, none⟩ = some (.slice (some ⟨g2, 0, none⟩) 1 1) := (by simp [World.cell?, F7.out]); have y3_ : w4.cell? ⟨g7, 3, none⟩ = some (.slice (some ⟨g5, 0, none⟩) 2 2) := (by simp [World.cell?, F7.out]); have u0_ : w4.frozen? ⟨g7, 0, none⟩ = false := (by simp [World.frozen?, F7.out]); have u1_ : w4.frozen? ⟨g7, 1, none⟩ = false := (by simp [World.frozen?, F7.out]); have u2_ : w4.frozen? ⟨g7, 2, none⟩ = false := (by simp [World.frozen?, F7.out]); have u3_ : w4.frozen? ⟨g7, 3, none⟩ = false := (by simp [World.frozen?, F7.out]); have l4 := blk_lt F7.out; clear b4) | ((with_reducible refine gate_builtin (b := .append) (xs := #[.tmp 35, .tmp 37]) rfl ?_); (try (refine gate_guard (by rfl) ?_; dsimp only)); at_builtin; (refine Kd.R_append Kd.string (w0 := W0) (W0.heap.size) rfl (.tmp 35) (.tmp 37) 25 9 (.string ⟨#[]⟩) 16 rfl Tryd.underlying25 info9 rfl (by decide) (by omega) (.slice (some ⟨g5, 0, none⟩) 2 2) ([⟨#[110, 111, 116, 32, 100, 101, 108, 105, 118, 101, 114, 101, 100, 58]⟩, textS a.f0 a.f1]) (k) [.string k] (fun _ => True) (fun _ => False) rfl rfl rfl (fun _ hk => hk.elim) (fun _ _ => trivial) ?aO9 ?aB9 ?aS9 ?aL9 ?_); (case aB9 => exact (by (with_reducible repeat (first | exact B4 | refine bel_alloc ?_ _ | refine bel_set ?_ _ ?_ | refine blw_drewN ?_ _ | refine Below.drew ?_)); all_goals (first | (simp; done) | (simp; omega) | omega))); (case aO9 => exact F5.out); (case aS9 => (refine Below.size (B := (W0.heap.size)) (w := W0) ?_; exact (by (with_reducible repeat (first | exact B4 | refine bel_alloc ?_ _ | refine bel_set ?_ _ ?_ | refine blw_drewN ?_ _ | refine Below.drew ?_)); all_goals (first | (simp; done) | (simp; omega) | omega)))); (case aL9 => exact (by simp)); intro v9 w9 ho hb hg hat; have HO9 := Aside0.mk ho; have B9 := hb; replace F7 := Aside0.mk ((hg.block g7 l4 (Kd.R_ne F5.out F7.out (by decide))).trans F7.out); replace F2 := Aside0.mk (Kd.R_over' F2.out (Kd.R_typed F5.out) (by decide) hg); obtain ⟨vB, vd, hv9⟩ := Kd.R_slice ho; subst hv9; clear y0_ y1_ y2_ y3_ u0_ u1_ u2_ u3_; have y0_ : w9.cell? ⟨g7, 0, none⟩ = some (.string ⟨#[]⟩) := (by simp [World.cell?, F7.out]); have y1_ : w9.cell? ⟨g7, 1, none⟩ = some (.string ⟨#[]⟩) := (by simp [World.cell?, F7.out]); have y2_ : w9.cell? ⟨g7, 2, none⟩ = some (.slice (some ⟨g2, 0, none⟩) 1 1) := (by simp [World.cell?, F7.out]); have y3_ : w9.cell? ⟨g7, 3, none⟩ = some (.slice (some ⟨g5, 0, none⟩) 2 2) := (by simp [World.cell?, F7.out]); have u0_ : w9.frozen? ⟨g7, 0, none⟩ = false := (by simp [World.frozen?, F7.out]); have u1_ : w9.frozen? ⟨g7, 1, none⟩ = false := (by simp [World.frozen?, F7.out]); have u2_ : w9.frozen? ⟨g7, 2, none⟩ = false := (by simp [World.frozen?, F7.out]); have u3_ : w9.frozen? ⟨g7, 3, none⟩ = false := (by simp [World.frozen?, F7.out]); obtain ⟨q0_, q1_, q2_, q3_, q4_, q5_, q6_, q7_, q8_, q9_, q10_, q11_, q12_, q13_, q14_⟩ := HC.out _ B9; clear ho hb hg hat))
            have ho9 : Kd.R Kd.string 9 w9 W0.heap.size (fun _ => True) (.slice vB 3 vd) [⟨#[110, 111, 116, 32, 100, 101, 108, 105, 118, 101, 114, 101, 100, 58]⟩, textS a.f0 a.f1, k] := HO9.out
            have F2b := Aside0.mk (R_else F2.out rfl (grown_set1 w9 g7 3 (.slice vB 3 vd)) (Kd.R_ne F2.out F7.out (by decide)))
            have F5b := Aside0.mk (R_else ho9 rfl (grown_set1 w9 g7 3 (.slice vB 3 vd)) (Kd.R_ne ho9 F7.out (by decide)))
            refine bodyPost_ret (v := .tuple #[.agg #[.string ⟨#[]⟩, .string ⟨#[]⟩, .slice (some ⟨g2, 0, none⟩) 1 1, .slice vB 3 vd], .bool true]) ?hrB rfl ?hpB
            case hrB => simp [results, Tryd.results12, go_sem, q7_, q8_, q9_, q10_, q11_, q12_, q13_, q14_, ne1, ne2]
            case hpB => exact ⟨_, _, _, _, rfl, Kd.R_lower (base := W0.heap.size) (by (with_reducible repeat (first | exact F2b.out | refine R_setLow ?_ _ ?_)); all_goals omega) (by omega), Kd.R_lower (base := W0.heap.size) (by (with_reducible repeat (first | exact F5b.out | refine R_setLow ?_ _ ?_)); all_goals omega) (by omega), by (with_reducible repeat (first | exact (bel_then HB0.out B9) | refine bel_alloc ?_ _ | refine bel_set ?_ _ ?_ | refine blw_drewN ?_ _ | refine Below.drew ?_)); all_goals (first | (simp; done) | (simp; omega) | omega)⟩
  · obtain rfl : q = false := HO.out
    obtain rfl : M = zMailS := HM.out
    go_wp2_with (go_at_call 48; refine (h1 _).mono ?_; rintro e w1 ⟨rfl, b1⟩; have B1 : Below W0.heap.size W0 w1 := bel_then (by (with_reducible repeat (first | exact (Below.refl _ _) | refine bel_alloc ?_ _ | refine bel_set ?_ _ ?_ | refine blw_drewN ?_ _ | refine Below.drew ?_)); all_goals (first | (simp; done) | (simp; omega) | omega)) b1; obtain ⟨c0_, c1_, c2_, c3_, c4_, c5_, c6_, c7_, c8_, c9_, c10_, c11_, c12_, c13_, c14_⟩ := HC.out _ B1; clear b1)
    refine bodyPost_ret (v := .tuple #[.agg #[.string ⟨#[]⟩, .string ⟨#[]⟩, .slice none 0 0, .slice none 0 0], .bool false]) ?hr rfl ?hp
    case hr => simp [results, Tryd.results12, go_sem, c7_, c8_, c9_, c10_, c11_, c12_, c13_, c14_]
    case hp => exact ⟨none, 0, none, 0, rfl, Kd.R_nil _ _ _ _ _, Kd.R_nil _ _ _ _ _, by (with_reducible repeat (first | exact (bel_then HB0.out B1) | refine bel_alloc ?_ _ | refine bel_set ?_ _ ?_ | refine blw_drewN ?_ _ | refine Below.drew ?_)); all_goals (first | (simp; done) | (simp; omega) | omega)⟩

end Go.Proofs.YtejiifmopopflaaDoor
