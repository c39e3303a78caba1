/- One whom a mail is for is tried later, of the reference: a contract. -/
import Derived.Test.YtiaibgkpohmihaaDoorReg
import Derived.Test.YtiaibgkpohmihaaDoorCpDone
namespace Go.Proofs.YtiaibgkpohmihaaDoor
open Go.RowKit Go.Proofs.YtiaibgkpohmihaaDoorW.PrintWords
set_option linter.unusedVariables false
set_option linter.unusedSimpArgs false

theorem pow_le (t : Int) (h1 : 1 ≤ t) (h4 : t ≤ 4) : ((2 ^ t.toNat : Nat) : Int) ≤ 16 ∧ 0 ≤ ((2 ^ t.toNat : Nat) : Int) := by
 rcases (by omega : t = 1 ∨ t = 2 ∨ t = 3 ∨ t = 4) with rfl | rfl | rfl | rfl <;> decide
set_option maxRecDepth 100000 in
theorem specPause_any (t : Int) (h1 : 1 ≤ t) (h4 : t ≤ 4) (w : World) :
  Calls Tryd.prog 85 #[.int .i64 t] w fun e w' => e = .returned (.int .i64 ((2 ^ t.toNat : Nat) : Int)) ∧ w' = w := by
 go_enter Tryd.func85, Tryd.ntmps85
 go_wp2
 go_loopg [3, 4] 4 (fun g v3 v4 wr => ∃ i : Nat, 1 ≤ i ∧ (i : Int) ≤ t ∧ 4 - i ≤ g ∧ v3 = .int .i64 ((2 ^ i : Nat) : Int) ∧ v4 = .int .i64 i ∧ wr = w)
 case atStart => exact ⟨1, by omega, by omega, by omega, rfl, rfl, rfl⟩
 case round =>
  obtain ⟨i, hi1, hit, hg, rfl, rfl, rfl⟩ := hrel
  by_cases hlt : (i : Int) < t
  ·rcases (by omega : i = 1 ∨ i = 2 ∨ i = 3) with rfl | rfl | rfl
   ·go_wp2
    go_roundg 2
    case measure => omega
    case rel => exact ⟨2, by omega, by omega, by omega, rfl, rfl, rfl⟩
   ·go_wp2
    go_roundg 1
    case measure => omega
    case rel => exact ⟨3, by omega, by omega, by omega, rfl, rfl, rfl⟩
   ·go_wp2
    go_roundg 0
    case measure => omega
    case rel => exact ⟨4, by omega, by omega, by omega, rfl, rfl, rfl⟩
  ·have ht : t.toNat = i := by omega
   go_wp2
   go_ret
   exact ⟨rfl, rfl⟩
def laterNo (z : SRcpt) (now : Int) : Prop := 4 ≤ z.f1 + 1 ∨ 9999 < now + ((2 ^ (z.f1 + 1).toNat : Nat) : Int)
instance (z : SRcpt) (now : Int) : Decidable (laterNo z now) := by unfold laterNo; infer_instance
def laterR (z : SRcpt) (now : Int) : SRcpt := ⟨z.f0, z.f1 + 1, now + ((2 ^ (z.f1 + 1).toNat : Nat) : Int)⟩
def laterL (xs : List SItem) (a k : Nat) (now : Int) : List SItem := xs.set a ⟨(xs.getD a zItem).f0, (xs.getD a zItem).f1, (xs.getD a zItem).f2.set k (laterR ((xs.getD a zItem).f2.getD k zRcpt) now), (xs.getD a zItem).f3⟩
def LaterPost (b : Nat) (last : Int) (A0 : Option Addr) (n c0 : Nat) (LL : List SItem) (no : Prop) (w : World) (e : Ending) (w' : World) : Prop :=
 (no → e = .returned (.tuple #[.agg #[.int .i64 last, .slice A0 n c0], .bool false]) ∧ Below w.heap.size w w') ∧
 (¬ no → ∃ B d, e = .returned (.tuple #[.agg #[.int .i64 last, .slice B LL.length d], .bool true]) ∧ Kd.R kItem 28 w' b (fun _ => True) (.slice B LL.length d) LL ∧ Below w.heap.size w w')
set_option maxRecDepth 100000 in
set_option maxHeartbeats 4000000 in
theorem specLater_any (b : Nat) (s : SSpool) (a k : Nat) (now : Int) (A0 : Option Addr) (c0 : Nat) (w : World) (hb : b ≤ w.heap.size) (hw : fitSpool s) (ha : a < s.f1.length) (hk : k < (s.f1.getD a zItem).f2.length) (ht0 : 0 ≤ ((s.f1.getD a zItem).f2.getD k zRcpt).f1) (ht3 : ((s.f1.getD a zItem).f2.getD k zRcpt).f1 ≤ 3) (hn : -1000000000 ≤ now ∧ now ≤ 1000000000)
  (hS0 : Kd.R kItem 28 w b (fun _ => True) (.slice A0 s.f1.length c0) s.f1) :
  Calls Tryd.prog 60 #[.agg #[.int .i64 s.f0, .slice A0 s.f1.length c0], .int .i64 (a : Int), .int .i64 (k : Int), .int .i64 now] w (LaterPost b s.f0 A0 s.f1.length c0 (laterL s.f1 a k now) (laterNo ((s.f1.getD a zItem).f2.getD k zRcpt) now) w) := by
 have hm0 := hw.2.2 (s.f1.getD a zItem) (getD_mem _ _ ha)
 have hl1 := hw.2.1
 have hS := Aside0.mk hS0
 obtain ⟨ad, Q0, qc0, Q1, qc1, e1, p0, p1, p2, p3, p4, l0, k0, l1, k1⟩ := at_Item (Kd.R_reads' hS0).2.2 a ha
 subst e1
 clear hS0 hw
 have hLL : laterL s.f1 a k now = s.f1.set a ⟨(s.f1.getD a zItem).f0, (s.f1.getD a zItem).f1, (s.f1.getD a zItem).f2.set k (laterR ((s.f1.getD a zItem).f2.getD k zRcpt) now), (s.f1.getD a zItem).f3⟩ := rfl
 generalize laterL s.f1 a k now = LL at hLL ⊢
 generalize hy : s.f1.getD a zItem = y at p0 p1 p2 p3 p4 l0 k0 l1 k1 hm0 hk ht0 ht3 hLL ⊢
 generalize hz : y.f2.getD k zRcpt = z at ht0 ht3 hLL ⊢
 obtain ⟨pz, hpz0⟩ : ∃ q : Int, q = ((2 ^ (z.f1 + 1).toNat : Nat) : Int) := ⟨_, rfl⟩
 have HPZ := Lib.hid hpz0.symm
 clear hpz0
 have hl2 := hm0.2.2.1.1
 have HM := Lib.hid hm0
 have HY := Lib.hid hy
 have HYK := Lib.hid hz
 have HLL := Lib.hid hLL
 have K0 := Aside0.mk k0
 have K1 := Aside0.mk k1
 have lta := World.block_lt_of_cell? _ _ p0
 have ha' : (a : Int) < (s.f1.length : Int) := by omega
 have hk' : (k : Int) < (y.f2.length : Int) := by omega
 clear hy hz hLL k0 k1 l0 l1 hm0
 go_enter Tryd.func60, Tryd.ntmps60
 go_wp2_with fail
 obtain ⟨W0, hW0⟩ : ∃ W, W = ((w.alloc (.cells #[.int .i64 s.f0, .slice (some ad) s.f1.length c0] 43)).alloc (.cells #[.int .i64 0, .slice none 0 0] 43)) := ⟨_, rfl⟩
 rw [← hW0]
 have HB : Aside0 (Below w.heap.size w W0) := ⟨by rw [hW0]; exact (bel_alloc (bel_alloc (Below.refl _ _) _) _)⟩
 have F0 : Aside0 (W0.heap[w.heap.size]? = some (.cells #[.int .i64 s.f0, .slice (some ad) s.f1.length c0] 43 (0, 0))) := ⟨by rw [hW0]; exact blk_alloc (blk_at _ _ (by first | rfl | (simp; done))) _⟩
 have F2 : Aside0 (W0.heap[w.heap.size + 1]? = some (.cells #[.int .i64 0, .slice none 0 0] 43 (0, 0))) := ⟨by rw [hW0]; exact blk_at _ _ (by simp)⟩
 have HL : Aside0 (w.heap.size + 2 ≤ W0.heap.size) := ⟨by rw [hW0]; simp⟩
 clear hW0
 have HS : Aside0 (Kd.R kItem 28 W0 b (fun k => k < w.heap.size) (.slice (some ad) s.f1.length c0) s.f1) := ⟨Kd.R_below (Kd.R_mono (Kd.R_bound hS.out) (fun k hk => hk.2.2.1)) HB.out⟩
 refine Calls.mono (specCopyItem_any y Q0 qc0 Q1 qc1 _ HM.out (Kd.C_below K0.out HB.out) (Kd.C_below K1.out HB.out)) ?_
 rintro e w1 ⟨B0, d0, B1, d1, rfl, rU0, rU1, bw1⟩
 replace F0 := Aside0.mk (below_blk F0.out bw1)
 replace F2 := Aside0.mk (below_blk F2.out bw1)
 replace HS := Aside0.mk (Kd.R_below HS.out bw1)
 have U0 : Aside0 (Kd.R kRcpt 55 w1 w.heap.size (fun _ => True) (.slice B0 y.f2.length d0) y.f2) := ⟨Kd.R_lower (base' := w.heap.size) rU0 HB.out.size⟩
 clear rU0
 have U1 : Aside0 (Kd.R Kd.string 9 w1 w.heap.size (fun _ => True) (.slice B1 y.f3.length d1) y.f3) := ⟨Kd.R_lower (base' := w.heap.size) rU1 HB.out.size⟩
 clear rU1
 replace HB := Aside0.mk (bel_then HB.out bw1)
 replace HL := Aside0.mk (Nat.le_trans HL.out bw1.size)
 clear bw1
 clear p0 p1 p2 p3 p4
 obtain ⟨gu, hgu, hgu1, hgu2⟩ := own_form2 U0.out (by omega)
 subst hgu
 obtain ⟨ce, hcl, hM_, hcc, hfr⟩ := Kd.R_elem U0.out zRcpt (k : Int) (by omega) (by omega)
 rw [Int.toNat_natCast] at hM_ hcc hfr
 rw [HYK.out] at hM_
 obtain rfl := kRcpt_openM hM_
 have r0_ : w1.cell? ⟨gu, k * 4, none⟩ = some (.string z.f0.f0) := hcc 0 _ rfl
 have r1_ : w1.cell? ⟨gu, k * 4 + 1, none⟩ = some (.string z.f0.f1) := hcc 1 _ rfl
 have r2_ : w1.cell? ⟨gu, k * 4 + 2, none⟩ = some (.int .i64 z.f1) := hcc 2 _ rfl
 have r3_ : w1.cell? ⟨gu, k * 4 + 3, none⟩ = some (.int .i64 z.f2) := hcc 3 _ rfl
 have f0_ : w1.frozen? ⟨gu, k * 4, none⟩ = false := hfr 0
 have f1_ : w1.frozen? ⟨gu, k * 4 + 1, none⟩ = false := hfr 1
 have f2_ : w1.frozen? ⟨gu, k * 4 + 2, none⟩ = false := hfr 2
 have f3_ : w1.frozen? ⟨gu, k * 4 + 3, none⟩ = false := hfr 3
 have HCC := Lib.hid hcc
 clear hcc hfr hM_ hcl
 have hwt : IntKind.i64.wrap (z.f1 + 1) = z.f1 + 1 := IntWalk.i64_in _ (by omega)
 have hwn : IntKind.i64.wrap (now + ((2 ^ (z.f1 + 1).toNat : Nat) : Int)) = now + ((2 ^ (z.f1 + 1).toNat : Nat) : Int) := IntWalk.i64_in _ (by have := pow_le (z.f1 + 1) (by omega) (by omega); omega)
 have hpz := specPause_any (z.f1 + 1) (by omega) (by omega)
 rw [HPZ.out] at hwn hpz
 go_wp2_with fail
 generalize hWw2 : World.alloc (w1) _ = w2
 have ltF0 := blk_lt F0.out
 have ltF2 := blk_lt F2.out
 have ltb := HB.out.size
 have ltl := HL.out
 have TT : ∀ k, k < w1.heap.size → w2.heap[k]? = w1.heap[k]? := fun k hk => by rw [← hWw2]; (with_reducible repeat (first | rfl | refine hp_set ?_ ?_ | refine hp_alloc ?_ ?_ | refine hp_drew ?_)); all_goals (first | (with_reducible rfl) | omega | (dsimp only; omega) | (simp; omega))
 have TS : w1.heap.size + 1 ≤ w2.heap.size := by rw [← hWw2]; simp
 have nF0 : w2.heap[w.heap.size]? = some (.cells #[.int .i64 s.f0, .slice (some ad) s.f1.length c0] 43 (0, 0)) := (TT _ ltF0).trans F0.out
 have nF2 : w2.heap[w.heap.size + 1]? = some (.cells #[.int .i64 0, .slice none 0 0] 43 (0, 0)) := (TT _ ltF2).trans F2.out
 have nFX : w2.heap[w1.heap.size]? = some (.cells #[.int .i64 y.f0, .string y.f1.f0, .string y.f1.f1, .slice (some ⟨gu, 0, none⟩) y.f2.length d0, .slice B1 y.f3.length d1] 28 (0, 0)) := by rw [← hWw2]; exact blk_new w1 (.cells #[.int .i64 y.f0, .string y.f1.f0, .string y.f1.f1, .slice (some ⟨gu, 0, none⟩) y.f2.length d0, .slice B1 y.f3.length d1] 28)
 have nHS : Kd.R kItem 28 w2 b (fun k => k < w.heap.size) (.slice (some ad) s.f1.length c0) s.f1 := Kd.R_step HS.out (fun k hk hlt => TT k hlt)
 have nU0 : Kd.R kRcpt 55 w2 w.heap.size (fun _ => True) (.slice (some ⟨gu, 0, none⟩) y.f2.length d0) y.f2 := R_keepT U0.out rfl (fun k hk ho => TT k hk)
 have nU1 : Kd.R Kd.string 9 w2 w.heap.size (fun _ => True) (.slice B1 y.f3.length d1) y.f3 := R_keepT U1.out rfl (fun k hk ho => TT k hk)
 have nHB : Below w.heap.size w w2 := by rw [← hWw2]; exact bel_alloc (HB.out) _
 have hgx_ : ∀ j v, w1.cell? ⟨gu, j, none⟩ = some v → w2.cell? ⟨gu, j, none⟩ = some v := fun j v h => by rw [← hWw2, World.cell?_alloc_lt _ _ _ (by show gu < _; omega)]; exact h
 clear hWw2 F0 F2 HB HS U0 U1
 have F0 := Aside0.mk nF0
 clear nF0
 have F2 := Aside0.mk nF2
 clear nF2
 have FX := Aside0.mk nFX
 clear nFX
 have HS := Aside0.mk nHS
 clear nHS
 have U0 := Aside0.mk nU0
 clear nU0
 have U1 := Aside0.mk nU1
 clear nU1
 have HB := Aside0.mk nHB
 clear nHB
 have oFX_ltF0 := ltF0
 have oFX_ltF2 := ltF2
 have oFX_ltl := ltl
 have oFX_ts := TS
 replace HL := Aside0.mk (Nat.le_trans HL.out (by omega : w1.heap.size ≤ w2.heap.size))
 clear TT TS ltF0 ltF2 ltb ltl
 clear r0_ r1_ r2_ r3_ f0_ f1_ f2_ f3_ hgx_ HCC
 refine Calls.mono (hpz _) ?_
 rintro e w3 ⟨rfl, hw3⟩
 have hw4 := hw3.symm
 subst hw4
 clear hpz
 obtain ⟨ce, hcl, hM_, hcc, hfr⟩ := Kd.R_elem U0.out zRcpt (k : Int) (by omega) (by omega)
 rw [Int.toNat_natCast] at hM_ hcc hfr
 rw [HYK.out] at hM_
 obtain rfl := kRcpt_openM hM_
 have r0_ : w2.cell? ⟨gu, k * 4, none⟩ = some (.string z.f0.f0) := hcc 0 _ rfl
 have r1_ : w2.cell? ⟨gu, k * 4 + 1, none⟩ = some (.string z.f0.f1) := hcc 1 _ rfl
 have r2_ : w2.cell? ⟨gu, k * 4 + 2, none⟩ = some (.int .i64 z.f1) := hcc 2 _ rfl
 have r3_ : w2.cell? ⟨gu, k * 4 + 3, none⟩ = some (.int .i64 z.f2) := hcc 3 _ rfl
 have f0_ : w2.frozen? ⟨gu, k * 4, none⟩ = false := hfr 0
 have f1_ : w2.frozen? ⟨gu, k * 4 + 1, none⟩ = false := hfr 1
 have f2_ : w2.frozen? ⟨gu, k * 4 + 2, none⟩ = false := hfr 2
 have f3_ : w2.frozen? ⟨gu, k * 4 + 3, none⟩ = false := hfr 3
 have HCC := Lib.hid hcc
 have hgu3 : gu < w2.heap.size := (own_form2 U0.out (by omega)).elim (fun q hq => by have h1 := Option.some.inj hq.1; have h2 : gu = q := congrArg Addr.block h1; omega)
 clear hcc hfr hM_ hcl
 have zF0 := blk_lt F0.out
 have cF0_0 : w2.cell? ⟨w.heap.size, 0, none⟩ = some (.int .i64 s.f0) := clq F0.out 0 rfl
 have dF0_0 := fzq F0.out 0
 have cF0_1 : w2.cell? ⟨w.heap.size, 1, none⟩ = some (.slice (some ad) s.f1.length c0) := clq F0.out 1 rfl
 have dF0_1 := fzq F0.out 1
 have zF2 := blk_lt F2.out
 have cF2_0 : w2.cell? ⟨w.heap.size + 1, 0, none⟩ = some (.int .i64 0) := clq F2.out 0 rfl
 have dF2_0 := fzq F2.out 0
 have cF2_1 : w2.cell? ⟨w.heap.size + 1, 1, none⟩ = some (.slice none 0 0) := clq F2.out 1 rfl
 have dF2_1 := fzq F2.out 1
 have zFX := blk_lt FX.out
 have cFX_0 : w2.cell? ⟨w1.heap.size, 0, none⟩ = some (.int .i64 y.f0) := clq FX.out 0 rfl
 have cFX_1 : w2.cell? ⟨w1.heap.size, 1, none⟩ = some (.string y.f1.f0) := clq FX.out 1 rfl
 have cFX_2 : w2.cell? ⟨w1.heap.size, 2, none⟩ = some (.string y.f1.f1) := clq FX.out 2 rfl
 have cFX_3 : w2.cell? ⟨w1.heap.size, 3, none⟩ = some (.slice (some ⟨gu, 0, none⟩) y.f2.length d0) := clq FX.out 3 rfl
 have cFX_4 : w2.cell? ⟨w1.heap.size, 4, none⟩ = some (.slice B1 y.f3.length d1) := clq FX.out 4 rfl
 by_cases hno : 4 ≤ z.f1 + 1 ∨ 9999 < now + pz
 ·have HNO := Lib.hid (show laterNo z now by unfold laterNo; rw [HPZ.out]; exact hno)
  by_cases h4 : 4 ≤ z.f1 + 1
  ·clear hno
   go_wp2
   refine bodyPost_ret (v := .tuple #[.agg #[.int .i64 s.f0, .slice (some ad) s.f1.length c0], .bool false]) ?hrA rfl ?hpA
   case hrA => simp [results, Tryd.results60, go_sem, zF0, cF0_0, dF0_0, cF0_1, dF0_1, zF2, cF2_0, dF2_0, cF2_1, dF2_1, zFX, cFX_0, cFX_1, cFX_2, cFX_3, cFX_4]
   case hpA =>
    exact ⟨fun _ => ⟨rfl, by (with_reducible repeat (first | exact HB.out | refine bel_set ?_ _ ?_)); all_goals ((try dsimp only); omega)⟩, fun h => absurd HNO.out h⟩
  ·have hn2 : 9999 < now + pz := by omega
   clear hno
   go_wp2
   refine bodyPost_ret (v := .tuple #[.agg #[.int .i64 s.f0, .slice (some ad) s.f1.length c0], .bool false]) ?hrB rfl ?hpB
   case hrB => simp [results, Tryd.results60, go_sem, zF0, cF0_0, dF0_0, cF0_1, dF0_1, zF2, cF2_0, dF2_0, cF2_1, dF2_1, zFX, cFX_0, cFX_1, cFX_2, cFX_3, cFX_4]
   case hpB =>
    exact ⟨fun _ => ⟨rfl, by (with_reducible repeat (first | exact HB.out | refine bel_set ?_ _ ?_)); all_goals ((try dsimp only); omega)⟩, fun h => absurd HNO.out h⟩
 ·have HYES := Lib.hid (show ¬ laterNo z now by unfold laterNo; rw [HPZ.out]; exact hno)
  have h4 : ¬ 4 ≤ z.f1 + 1 := by omega
  have hn2 : ¬ 9999 < now + pz := by omega
  clear hno
  go_wp2_with (((with_reducible refine gate_builtin (b := .append) (xs := #[.tmp 49, .tmp 51]) rfl ?_); (try (refine gate_guard (by rfl) ?_; dsimp only)); at_builtin); (generalize hW5 : World.setCell (World.setCell w2 _ _) _ _ = w5); (have e5 : w5.heap.size = w2.heap.size := by rw [← hW5]; simp); (have hu1 := own_put2 U0.out k (by omega) (⟨z.f0, z.f1 + 1, z.f2⟩ : SRcpt) [.string z.f0.f0, .string z.f0.f1, .int .i64 z.f1, .int .i64 z.f2] rfl 2 (.int .i64 (z.f1 + 1)) (by decide) (kRcpt_mkM _ _ _ (⟨z.f0, z.f1 + 1, z.f2⟩ : SRcpt)) HCC.out); (obtain ⟨c2_, _, hM2, hcc2, _⟩ := Kd.R_elem hu1.1 zRcpt (k : Int) (by omega) (by omega)); (rw [Int.toNat_natCast, set_getD y.f2 k zRcpt _ (by omega), if_pos rfl] at hM2); (rw [Int.toNat_natCast] at hcc2); (obtain rfl := kRcpt_openM hM2); (have hu2 := own_put2 hu1.1 k (by omega) (⟨z.f0, z.f1 + 1, now + pz⟩ : SRcpt) [.string z.f0.f0, .string z.f0.f1, .int .i64 (z.f1 + 1), .int .i64 z.f2] rfl 3 (.int .i64 (now + pz)) (by decide) (kRcpt_mkM _ _ _ (⟨z.f0, z.f1 + 1, now + pz⟩ : SRcpt)) hcc2); (have hg5 := hu1.2.trans hu2.2); (have hu5 := hu2.1); (rw [List.set_set] at hu5); (simp only [show k * kRcpt.sz = k * 4 from rfl] at hu5 hg5); (rw [hW5] at hu5 hg5); (clear hu1 hu2 hW5 hcc2 hM2); (have nF0 : w5.heap[w.heap.size]? = some (.cells #[.int .i64 s.f0, .slice (some ad) s.f1.length c0] 43 (0, 0)) := (hg5.block _ (blk_lt F0.out) (Kd.R_ne U0.out F0.out (by decide))).trans F0.out); (have nF2 : w5.heap[w.heap.size + 1]? = some (.cells #[.int .i64 0, .slice none 0 0] 43 (0, 0)) := (hg5.block _ (blk_lt F2.out) (Kd.R_ne U0.out F2.out (by decide))).trans F2.out); (have nFX : w5.heap[w1.heap.size]? = some (.cells #[.int .i64 y.f0, .string y.f1.f0, .string y.f1.f1, .slice (some ⟨gu, 0, none⟩) y.f2.length d0, .slice B1 y.f3.length d1] 28 (0, 0)) := (hg5.block _ (blk_lt FX.out) (Kd.R_ne U0.out FX.out (by decide))).trans FX.out); (have nHS : Kd.R kItem 28 w5 b (fun k => k < w.heap.size) (.slice (some ad) s.f1.length c0) s.f1 := Kd.R_step HS.out (fun q_ hk hlt => hg5.block q_ hlt (fun e => by have h1_ : q_ < w.heap.size := hk; have h2_ : q_ = gu := Option.some.inj e; omega))); (have nU1 : Kd.R Kd.string 9 w5 w.heap.size (fun _ => True) (.slice B1 y.f3.length d1) y.f3 := Kd.R_over' U1.out (Kd.R_typed U0.out) (by decide) hg5); (have nHB : Below w.heap.size w w5 := bel_grown HB.out hg5 HB.out.size (fun q_ hk => by have h2_ : q_ = gu := (Option.some.inj hk).symm; omega)); (have nHL := Aside0.mk (Nat.le_trans HL.out hg5.size)); (obtain ⟨yy, eyy⟩ : ∃ l, l = (y.f2.set k (⟨z.f0, z.f1 + 1, now + pz⟩ : SRcpt)) := ⟨_, rfl⟩); (have hyl : yy.length = y.f2.length := by rw [eyy, List.length_set]); (rw [← eyy] at hu5); (have HYY := Lib.hid eyy); (have HYL := Lib.hid hyl); (clear eyy hyl); (clear zF0 cF0_0 dF0_0 cF0_1 dF0_1 zF2 cF2_0 dF2_0 cF2_1 dF2_1 zFX cFX_0 cFX_1 cFX_2 cFX_3 cFX_4 HCC r0_ r1_ r2_ r3_ f0_ f1_ f2_ f3_); (clear F0 F2 FX HS U1 HB HL U0); (have F0 := Aside0.mk nF0); (clear nF0); (have F2 := Aside0.mk nF2); (clear nF2); (have FX := Aside0.mk nFX); (clear nFX); (have HS := Aside0.mk nHS); (clear nHS); (have U1 := Aside0.mk nU1); (clear nU1); (have HB := Aside0.mk nHB); (clear nHB); (have HL := nHL); (have U0 := Aside0.mk hu5); (clear nHL hu5 hg5); (generalize hWWE : World.alloc (w5) _ = WE); (have ltF0 := blk_lt F0.out); (have ltF2 := blk_lt F2.out); (have ltFX := blk_lt FX.out); (have ltb := HB.out.size); (have ltl := HL.out); (have TT : ∀ k, k < w5.heap.size → WE.heap[k]? = w5.heap[k]? := fun k hk => by rw [← hWWE]; (with_reducible repeat (first | rfl | refine hp_set ?_ ?_ | refine hp_alloc ?_ ?_ | refine hp_drew ?_)); all_goals (first | (with_reducible rfl) | omega | (dsimp only; omega) | (simp; omega))); (have TS : w5.heap.size + 1 ≤ WE.heap.size := by rw [← hWWE]; simp); (have nF0 : WE.heap[w.heap.size]? = some (.cells #[.int .i64 s.f0, .slice (some ad) s.f1.length c0] 43 (0, 0)) := (TT _ ltF0).trans F0.out); (have nF2 : WE.heap[w.heap.size + 1]? = some (.cells #[.int .i64 0, .slice none 0 0] 43 (0, 0)) := (TT _ ltF2).trans F2.out); (have nFX : WE.heap[w1.heap.size]? = some (.cells #[.int .i64 y.f0, .string y.f1.f0, .string y.f1.f1, .slice (some ⟨gu, 0, none⟩) y.f2.length d0, .slice B1 y.f3.length d1] 28 (0, 0)) := (TT _ ltFX).trans FX.out); (have nBG : WE.heap[w5.heap.size]? = some (.cells #[] 28 (0, 0)) := by rw [← hWWE]; exact blk_new w5 (.cells #[] 28)); (have nHS : Kd.R kItem 28 WE b (fun k => k < w.heap.size) (.slice (some ad) s.f1.length c0) s.f1 := Kd.R_step HS.out (fun k hk hlt => TT k hlt)); (have nU0 : Kd.R kRcpt 55 WE w.heap.size (fun _ => True) (.slice (some ⟨gu, 0, none⟩) y.f2.length d0) yy := R_keepT U0.out rfl (fun k hk ho => TT k hk)); (have nU1 : Kd.R Kd.string 9 WE w.heap.size (fun _ => True) (.slice B1 y.f3.length d1) y.f3 := R_keepT U1.out rfl (fun k hk ho => TT k hk)); (have nHB : Below w.heap.size w WE := by rw [← hWWE]; exact bel_alloc (HB.out) _); (have nG : Kd.R kItem 28 WE b (fun _ => True) (.slice (some ⟨w2.heap.size, 0, none⟩) 0 0) [] := by rw [← hWWE, ← e5]; exact R_empty kItem 28 w5 b (by have := ltb; omega) trivial); (clear hWWE F0 F2 FX HB HS U0 U1); (have F0 := Aside0.mk nF0); (clear nF0); (have F2 := Aside0.mk nF2); (clear nF2); (have FX := Aside0.mk nFX); (clear nFX); (have BG := Aside0.mk nBG); (clear nBG); (have HS := Aside0.mk nHS); (clear nHS); (have U0 := Aside0.mk nU0); (clear nU0); (have U1 := Aside0.mk nU1); (clear nU1); (have G := Aside0.mk nG); (clear nG); (have HB := Aside0.mk nHB); (clear nHB); (have oBG_ltF0 := ltF0); (have oBG_ltF2 := ltF2); (have oBG_ltFX := ltFX); (have oBG_ltl := ltl); (have oBG_ts := TS); (replace HL := Aside0.mk (Nat.le_trans HL.out (by omega : w5.heap.size ≤ WE.heap.size))); (clear TT TS ltF0 ltF2 ltFX ltb ltl); (have hVb := HB.out.size); (refine Kd.R_append_rows kItem (w0 := w) (b) rfl (.tmp 49) (.tmp 51) 41 28 (.agg #[(.int .i64 0), (.string ⟨#[]⟩), (.string ⟨#[]⟩), (.slice none 0 0), (.slice none 0 0)]) 88 rfl Tryd.underlying41 info28 rfl (by decide) (by omega) (.slice (some ⟨w2.heap.size, 0, none⟩) 0 0) [] s.f1 ((some ad)) (s.f1.length) (c0) (fun _ => True) (fun k => k < w.heap.size) rfl rfl G.out (R_readsM HS.out) (fun _ _ h => h) (fun k hk => ⟨trivial, fun e => by have h_ : k < w.heap.size := hk; have e2 : k = w2.heap.size := Option.some.inj e; omega⟩) (fun _ _ => trivial) ((HB.out.mono hb)) (by have := HB.out.size; omega) (by simp; omega) ?_); (intro vv wa ho hb hg hat); (rw [List.nil_append] at ho); (obtain ⟨GB, Gd, hv⟩ := Kd.R_slice ho); (subst hv); (have nHB : Below w.heap.size w wa := bel_grown HB.out hg HB.out.size (fun k hk => by (simp [Value.ownBlock] at hk; omega))); (have nF0 : wa.heap[w.heap.size]? = some (.cells #[.int .i64 s.f0, .slice (some ad) s.f1.length c0] 43 (0, 0)) := (hg.block _ (blk_lt F0.out) (Kd.R_ne G.out F0.out (by decide))).trans F0.out); (have nF2 : wa.heap[w.heap.size + 1]? = some (.cells #[.int .i64 0, .slice none 0 0] 43 (0, 0)) := (hg.block _ (blk_lt F2.out) (Kd.R_ne G.out F2.out (by decide))).trans F2.out); (have nFX : wa.heap[w1.heap.size]? = some (.cells #[.int .i64 y.f0, .string y.f1.f0, .string y.f1.f1, .slice (some ⟨gu, 0, none⟩) y.f2.length d0, .slice B1 y.f3.length d1] 28 (0, 0)) := (hg.block _ (blk_lt FX.out) (fun e => by have e := Option.some.inj e; (try dsimp only at e); omega)).trans FX.out); (have nU0 : Kd.R kRcpt 55 wa w.heap.size (fun _ => True) (.slice (some ⟨gu, 0, none⟩) y.f2.length d0) yy := Kd.R_over' U0.out (Kd.R_typed G.out) (by decide) hg); (have nU1 : Kd.R Kd.string 9 wa w.heap.size (fun _ => True) (.slice B1 y.f3.length d1) y.f3 := Kd.R_over' U1.out (Kd.R_typed G.out) (by decide) hg); (have nHL := Aside0.mk (Nat.le_trans HL.out hg.size)); (clear HB HL F0 F2 FX BG HS U0 U1 G); (have F0 := Aside0.mk nF0); (clear nF0); (have F2 := Aside0.mk nF2); (clear nF2); (have FX := Aside0.mk nFX); (clear nFX); (have U0 := Aside0.mk nU0); (clear nU0); (have U1 := Aside0.mk nU1); (clear nU1); (have HL := nHL); (clear nHL); (have HB := Aside0.mk nHB); (clear nHB); (have HOW : Aside0 (∀ q_, (Value.slice GB s.f1.length Gd).ownBlock = some q_ → w.heap.size ≤ q_) := ⟨fun q_ hk => by (rcases hat with h1 | ⟨b1, h1, h2⟩; (rw [h1] at hk; simp [Value.ownBlock] at hk; omega); (rw [h1] at hk; have h3 := Option.some.inj hk; omega))⟩); (have G : Aside0 (Kd.R kItem 28 wa b (fun _ => True) (.slice GB (s.f1).length Gd) s.f1) := ⟨ho⟩); (clear ho hb hg hat hVb); (obtain ⟨gg, hgg, hgg1, hgg2⟩ := own_form2 G.out (by omega)); (subst hgg); (have hgw : w.heap.size ≤ gg := HOW.out gg rfl); (obtain ⟨ci, hil, hiM, hic, hif⟩ := Kd.R_elem G.out zItem (a : Int) (by omega) (by omega)); (rw [Int.toNat_natCast, HY.out] at hiM); (rw [Int.toNat_natCast] at hic hif); (obtain ⟨vv0, vv1, rfl, hv0, hv1⟩ := kItem_openM hiM); (have i0_ : wa.cell? ⟨gg, a * 5, none⟩ = some (.int .i64 y.f0) := hic 0 _ rfl); (have i1_ : wa.cell? ⟨gg, a * 5 + 1, none⟩ = some (.string y.f1.f0) := hic 1 _ rfl); (have i2_ : wa.cell? ⟨gg, a * 5 + 2, none⟩ = some (.string y.f1.f1) := hic 2 _ rfl); (have i3_ : wa.cell? ⟨gg, a * 5 + 3, none⟩ = some (vv0) := hic 3 _ rfl); (have i4_ : wa.cell? ⟨gg, a * 5 + 4, none⟩ = some (vv1) := hic 4 _ rfl); (have j0_ : wa.frozen? ⟨gg, a * 5, none⟩ = false := hif 0); (have j1_ : wa.frozen? ⟨gg, a * 5 + 1, none⟩ = false := hif 1); (have j2_ : wa.frozen? ⟨gg, a * 5 + 2, none⟩ = false := hif 2); (have j3_ : wa.frozen? ⟨gg, a * 5 + 3, none⟩ = false := hif 3); (have j4_ : wa.frozen? ⟨gg, a * 5 + 4, none⟩ = false := hif 4); (have HIC := Lib.hid hic); (clear hic hif hiM hv0 hv1 hil); (have nef0 : ¬ gg = w.heap.size := fun e => Kd.R_ne G.out F0.out (by decide) (by rw [e]; rfl)); (have nef2 : ¬ gg = w.heap.size + 1 := fun e => Kd.R_ne G.out F2.out (by decide) (by rw [e]; rfl)); (have zF0 := blk_lt F0.out); (have cF0_0 : wa.cell? ⟨w.heap.size, 0, none⟩ = some (.int .i64 s.f0) := clq F0.out 0 rfl); (have dF0_0 := fzq F0.out 0); (have cF0_1 : wa.cell? ⟨w.heap.size, 1, none⟩ = some (.slice (some ad) s.f1.length c0) := clq F0.out 1 rfl); (have dF0_1 := fzq F0.out 1); (have zF2 := blk_lt F2.out); (have cF2_0 : wa.cell? ⟨w.heap.size + 1, 0, none⟩ = some (.int .i64 0) := clq F2.out 0 rfl); (have dF2_0 := fzq F2.out 0); (have cF2_1 : wa.cell? ⟨w.heap.size + 1, 1, none⟩ = some (.slice none 0 0) := clq F2.out 1 rfl); (have dF2_1 := fzq F2.out 1); (have zFX := blk_lt FX.out); (have cFX_0 : wa.cell? ⟨w1.heap.size, 0, none⟩ = some (.int .i64 y.f0) := clq FX.out 0 rfl); (have cFX_1 : wa.cell? ⟨w1.heap.size, 1, none⟩ = some (.string y.f1.f0) := clq FX.out 1 rfl); (have cFX_2 : wa.cell? ⟨w1.heap.size, 2, none⟩ = some (.string y.f1.f1) := clq FX.out 2 rfl); (have cFX_3 : wa.cell? ⟨w1.heap.size, 3, none⟩ = some (.slice (some ⟨gu, 0, none⟩) y.f2.length d0) := clq FX.out 3 rfl); (have cFX_4 : wa.cell? ⟨w1.heap.size, 4, none⟩ = some (.slice B1 y.f3.length d1) := clq FX.out 4 rfl))
  refine bodyPost_ret (v := .tuple #[.agg #[.int .i64 s.f0, .slice (some ⟨gg, 0, none⟩) s.f1.length Gd], .bool true]) ?hrC rfl ?hpC
  case hrC => simp [results, Tryd.results60, go_sem, zF0, cF0_0, dF0_0, cF0_1, dF0_1, zF2, cF2_0, dF2_0, cF2_1, dF2_1, zFX, cFX_0, cFX_1, cFX_2, cFX_3, cFX_4]
  case hpC =>
   have hLL : LL = s.f1.set a (⟨y.f0, y.f1, yy, y.f3⟩ : SItem) := by rw [HLL.out, HYY.out]; unfold laterR; rw [HPZ.out]
   have hlen : LL.length = s.f1.length := by rw [hLL, List.length_set]
   have gb := R_other G.out F0.out (by decide) (grown_set1 wa w.heap.size 1 (.slice (some ⟨gg, 0, none⟩) s.f1.length Gd))
   have u0b := R_put1 (u := .slice (some ⟨gg, 0, none⟩) s.f1.length Gd) (j := 1) U0.out rfl (Kd.R_ne U0.out F0.out (by decide))
   have u1b := R_put1 (u := .slice (some ⟨gg, 0, none⟩) s.f1.length Gd) (j := 1) U1.out rfl (Kd.R_ne U1.out F0.out (by decide))
   have f2b := blk_far F2.out (p := ⟨w.heap.size, 1, none⟩) (by show w.heap.size + 1 ≠ w.heap.size; omega) (.slice (some ⟨gg, 0, none⟩) s.f1.length Gd)
   have HBz : Below w.heap.size w (wa.setCell ⟨w.heap.size, 1, none⟩ (.slice (some ⟨gg, 0, none⟩) s.f1.length Gd)) := bel_set HB.out _ (by show w.heap.size ≤ w.heap.size; omega)
   generalize (wa.setCell ⟨w.heap.size, 1, none⟩ (.slice (some ⟨gg, 0, none⟩) s.f1.length Gd)) = wb at gb u0b u1b f2b HBz ⊢
   obtain ⟨ci, hil, hiM, hic, _⟩ := Kd.R_elem gb zItem (a : Int) (by omega) (by omega)
   rw [Int.toNat_natCast, HY.out] at hiM
   obtain ⟨q0, q1, rfl, _, _⟩ := kItem_openM hiM
   have hs := Kd.R_seg gb (a : Int) (by omega) (by omega) (seg := [.int .i64 y.f0, .string y.f1.f0, .string y.f1.f1, .slice (some ⟨gu, 0, none⟩) y.f2.length d0, .slice B1 y.f3.length d1]) (j := 0) hil hic (by show 0 + 5 ≤ 5; omega) (x' := (⟨y.f0, y.f1, yy, y.f3⟩ : SItem)) (okp := NotT wb 28) (kItem_mkM wb b (NotT wb 28) (⟨y.f0, y.f1, yy, y.f3⟩ : SItem) (Kd.R_lower (R_notT (show Kd.R kRcpt 55 wb w.heap.size (fun _ => True) (.slice (some ⟨gu, 0, none⟩) y.f2.length d0) yy from u0b) (by decide)) hb) (Kd.R_lower (R_notT u1b (by decide)) hb)) (fun k hk => ⟨trivial, fun e => (ok_notT gb k hk).2 (by rw [e]; rfl)⟩)
   have hs1 := hs.1
   rw [Int.toNat_natCast] at hs1
   simp only [World.setCells, show kItem.sz = 5 from rfl, Nat.add_zero, Nat.add_assoc, Nat.reduceAdd] at hs1
   rw [← hLL] at hs1
   have fz := blk_far (blk_far (blk_far (blk_far (blk_far f2b (p := ⟨gg, a * 5, none⟩) (by show w.heap.size + 1 ≠ gg; omega) (.int .i64 y.f0)) (p := ⟨gg, a * 5 + 1, none⟩) (by show w.heap.size + 1 ≠ gg; omega) (.string y.f1.f0)) (p := ⟨gg, a * 5 + 2, none⟩) (by show w.heap.size + 1 ≠ gg; omega) (.string y.f1.f1)) (p := ⟨gg, a * 5 + 3, none⟩) (by show w.heap.size + 1 ≠ gg; omega) (.slice (some ⟨gu, 0, none⟩) y.f2.length d0)) (p := ⟨gg, a * 5 + 4, none⟩) (by show w.heap.size + 1 ≠ gg; omega) (.slice B1 y.f3.length d1)
   have hs2 := R_other hs1 fz (by decide) ((grown_set1 _ (w.heap.size + 1) 0 (.int .i64 s.f0)).trans (grown_set1 _ (w.heap.size + 1) 1 (.slice (some ⟨gg, 0, none⟩) s.f1.length Gd)))
   exact ⟨fun h => absurd h HYES.out, fun _ => ⟨some ⟨gg, 0, none⟩, Gd, by rw [hlen], (by rw [hlen]; with_reducible exact hs2), (by (with_reducible repeat (first | exact HBz | refine bel_set ?_ _ ?_)); all_goals ((try dsimp only); omega))⟩⟩

end Go.Proofs.YtiaibgkpohmihaaDoor
