/- One of those a mail is for has it, of the reference: a contract. -/
import Derived.Test.YtiaibgkpohmihaaDoorReg
import Derived.Test.YtiaibgkpohmihaaDoorCpAdd
namespace Go.Proofs.YtiaibgkpohmihaaDoor
open Go.RowKit Go.Proofs.YtiaibgkpohmihaaDoorW.PrintWords
set_option linter.unusedVariables false
set_option linter.unusedSimpArgs false

def dropK (x : SItem) (k : Nat) : SItem := ⟨x.f0, x.f1, x.f2.take k ++ x.f2.drop (k + 1), x.f3⟩
def doneL (xs : List SItem) (a k : Nat) : List SItem := xs.take a ++ (if 0 < (dropK (xs.getD a zItem) k).f2.length then [dropK (xs.getD a zItem) k] else []) ++ xs.drop (a + 1)
theorem doneL_is {xs : List SItem} {a k : Nat} {y : SItem} {rs : List SRcpt} (hy : xs.getD a zItem = y) (hr : rs = y.f2.take k ++ y.f2.drop (k + 1)) : doneL xs a k = xs.take a ++ (if 0 < rs.length then [⟨y.f0, y.f1, rs, y.f3⟩] else []) ++ xs.drop (a + 1) := by subst hr; subst hy; rfl
set_option maxRecDepth 100000 in
set_option maxHeartbeats 4000000 in
theorem specDone_any (b : Nat) (s : SSpool) (a k : Nat) (A0 : Option Addr) (c0 : Nat) (w : World) (hb : b ≤ w.heap.size) (hw : fitSpool s) (ha : a < s.f1.length) (hk : k < (s.f1.getD a zItem).f2.length)
  (hS0 : Kd.R kItem 28 w b (fun _ => True) (.slice A0 s.f1.length c0) s.f1) :
  Calls Tryd.prog 55 #[.agg #[.int .i64 s.f0, .slice A0 s.f1.length c0], .int .i64 (a : Int), .int .i64 (k : Int)] w fun e w' => ∃ B d, e = .returned (.agg #[.int .i64 s.f0, .slice B (doneL s.f1 a k).length d]) ∧ Kd.R kItem 28 w' b (fun _ => True) (.slice B (doneL s.f1 a k).length d) (doneL s.f1 a k) ∧ Below w.heap.size w w' := by
 have hm0 := hw.2.2 (s.f1.getD a zItem) (getD_mem _ _ ha)
 have hl1 := hw.2.1
 have hS := Aside0.mk hS0
 obtain ⟨ad, Q0, qc0, Q1, qc1, e1, p0, p1, p2, p3, p4, l0, k0, l1, k1⟩ := at_Item (Kd.R_reads' hS0).2.2 a ha
 subst e1
 clear hS0 hw
 generalize hy : s.f1.getD a zItem = y at p0 p1 p2 p3 p4 l0 k0 l1 k1 hm0 hk
 have hl2 := hm0.2.2.1.1
 have HM := Lib.hid hm0
 have HY := Lib.hid hy
 have K0 := Aside0.mk k0
 have K1 := Aside0.mk k1
 have lta := World.block_lt_of_cell? _ _ p0
 have ha' : (a : Int) < (s.f1.length : Int) := by omega
 clear hy k0 k1 l0 l1 hm0
 go_enter Tryd.func55, Tryd.ntmps55
 go_wp2_with fail
 obtain ⟨W0, hW0⟩ : ∃ W, W = ((w.alloc (.cells #[.int .i64 s.f0, .slice (some ad) s.f1.length c0] 43)).alloc (.cells #[.int .i64 0, .slice none 0 0] 43)) := ⟨_, rfl⟩
 rw [← hW0]
 have HB : Aside0 (Below w.heap.size w W0) := ⟨by rw [hW0]; exact (bel_alloc (bel_alloc (Below.refl _ _) _) _)⟩
 have F0 : Aside0 (W0.heap[w.heap.size]? = some (.cells #[.int .i64 s.f0, .slice (some ad) s.f1.length c0] 43 (0, 0))) := ⟨by rw [hW0]; exact blk_alloc (blk_at _ _ (by first | rfl | (simp; done))) _⟩
 have F2 : Aside0 (W0.heap[w.heap.size + 1]? = some (.cells #[.int .i64 0, .slice none 0 0] 43 (0, 0))) := ⟨by rw [hW0]; exact blk_at _ _ (by simp)⟩
 have HL : Aside0 (w.heap.size + 2 ≤ W0.heap.size) := ⟨by rw [hW0]; simp⟩
 clear hW0
 have HS : Aside0 (Kd.R kItem 28 W0 b (fun k => k < w.heap.size) (.slice (some ad) s.f1.length c0) s.f1) := ⟨Kd.R_below (Kd.R_mono (Kd.R_bound hS.out) (fun k hk => hk.2.2.1)) HB.out⟩
 refine Calls.mono (specCopyItem_any y Q0 qc0 Q1 qc1 _ HM.out (Kd.C_below K0.out HB.out) (Kd.C_below K1.out HB.out)) ?_
 rintro e w1 ⟨B0, d0, B1, d1, rfl, rU0, rU1, bw1⟩
 replace F0 := Aside0.mk (below_blk F0.out bw1)
 replace F2 := Aside0.mk (below_blk F2.out bw1)
 replace HS := Aside0.mk (Kd.R_below HS.out bw1)
 have U0 : Aside0 (Kd.R kRcpt 55 w1 w.heap.size (fun _ => True) (.slice B0 y.f2.length d0) y.f2) := ⟨Kd.R_lower (base' := w.heap.size) rU0 HB.out.size⟩
 clear rU0
 have U1 : Aside0 (Kd.R Kd.string 9 w1 w.heap.size (fun _ => True) (.slice B1 y.f3.length d1) y.f3) := ⟨Kd.R_lower (base' := w.heap.size) rU1 HB.out.size⟩
 clear rU1
 replace HB := Aside0.mk (bel_then HB.out bw1)
 replace HL := Aside0.mk (Nat.le_trans HL.out bw1.size)
 clear bw1
 clear p0 p1 p2 p3 p4
 go_wp2
 generalize hWw2 : World.alloc (w1) _ = w2
 have ltF0 := blk_lt F0.out
 have ltF2 := blk_lt F2.out
 have ltb := HB.out.size
 have ltl := HL.out
 have TT : ∀ k, k < w1.heap.size → w2.heap[k]? = w1.heap[k]? := fun k hk => by rw [← hWw2]; (with_reducible repeat (first | rfl | refine hp_set ?_ ?_ | refine hp_alloc ?_ ?_ | refine hp_drew ?_)); all_goals (first | (with_reducible rfl) | omega | (dsimp only; omega) | (simp; omega))
 have TS : w1.heap.size + 1 ≤ w2.heap.size := by rw [← hWw2]; simp
 have nF0 : w2.heap[w.heap.size]? = some (.cells #[.int .i64 s.f0, .slice (some ad) s.f1.length c0] 43 (0, 0)) := (TT _ ltF0).trans F0.out
 have nF2 : w2.heap[w.heap.size + 1]? = some (.cells #[.int .i64 0, .slice none 0 0] 43 (0, 0)) := (TT _ ltF2).trans F2.out
 have nFX : w2.heap[w1.heap.size]? = some (.cells #[.int .i64 y.f0, .string y.f1.f0, .string y.f1.f1, .slice B0 y.f2.length d0, .slice B1 y.f3.length d1] 28 (0, 0)) := by rw [← hWw2]; exact blk_new w1 (.cells #[.int .i64 y.f0, .string y.f1.f0, .string y.f1.f1, .slice B0 y.f2.length d0, .slice B1 y.f3.length d1] 28)
 have nHS : Kd.R kItem 28 w2 b (fun k => k < w.heap.size) (.slice (some ad) s.f1.length c0) s.f1 := Kd.R_step HS.out (fun k hk hlt => TT k hlt)
 have nU0 : Kd.R kRcpt 55 w2 w.heap.size (fun _ => True) (.slice B0 y.f2.length d0) y.f2 := R_keepT U0.out rfl (fun k hk ho => TT k hk)
 have nU1 : Kd.R Kd.string 9 w2 w.heap.size (fun _ => True) (.slice B1 y.f3.length d1) y.f3 := R_keepT U1.out rfl (fun k hk ho => TT k hk)
 have nHB : Below w.heap.size w w2 := by rw [← hWw2]; exact bel_alloc (HB.out) _
 clear hWw2 F0 F2 HB HS U0 U1
 have F0 := Aside0.mk nF0
 clear nF0
 have F2 := Aside0.mk nF2
 clear nF2
 have FX := Aside0.mk nFX
 clear nFX
 have HS := Aside0.mk nHS
 clear nHS
 have U0 := Aside0.mk nU0
 clear nU0
 have U1 := Aside0.mk nU1
 clear nU1
 have HB := Aside0.mk nHB
 clear nHB
 have oFX_ltF0 := ltF0
 have oFX_ltF2 := ltF2
 have oFX_ltl := ltl
 have oFX_ts := TS
 replace HL := Aside0.mk (Nat.le_trans HL.out (by omega : w1.heap.size ≤ w2.heap.size))
 clear TT TS ltF0 ltF2 ltb ltl
 have hd0 : y.f2.length ≤ d0 := (Kd.R_reads' U0.out).2.1
 have hkk : k ≤ y.f2.length := by omega
 have hwk : IntKind.i64.wrap ((k : Int) + 1) = (k : Int) + 1 := IntWalk.i64_in _ (by omega)
 have hwa : IntKind.i64.wrap ((a : Int) + 1) = (a : Int) + 1 := IntWalk.i64_in _ (by omega)
 have hcT := cut_to (P := Tryd.prog) 25 55 .i64 (by rfl) (by rfl) B0 y.f2.length d0 (k : Int) (by omega) (by omega) hd0
 rw [Int.toNat_natCast] at hcT
 have hcF := cut_from (P := Tryd.prog) 25 55 .i64 (by rfl) (by rfl) 4 (by rfl) B0 y.f2.length d0 ((k : Int) + 1) (by omega) (by omega)
 rw [show ((k : Int) + 1).toNat = k + 1 by omega] at hcF
 have hrT : ∀ W, Below w2.heap.size w2 W → ReadsRow (kRcpt.K W) kRcpt.sz W B0 k (y.f2.take k) := fun W hW => by
  have h := Kd.C_take (m := k) (Kd.C_below (Kd.R_reads' U0.out).2.2 hW) (by omega)
  rwa [show (y.f2.take k).length = k by rw [List.length_take]; omega] at h
 have hrF : ∀ W, Below w2.heap.size w2 W → ReadsRow (kRcpt.K W) kRcpt.sz W (if d0 = k + 1 then B0 else B0.map (·.add ((k + 1) * 4))) (y.f2.length - (k + 1)) (y.f2.drop (k + 1)) := fun W hW => by
  have h := Kd.C_drop (m := k + 1) (Kd.C_below (Kd.R_reads' U0.out).2.2 hW) (by omega) hd0
  rwa [List.length_drop] at h
 generalize (if d0 = k + 1 then B0 else B0.map (·.add ((k + 1) * 4))) = D0 at hcF hrF
 have hl1_ : (y.f2.take k).length = k := by rw [List.length_take]; omega
 have hl2_ : (y.f2.drop (k + 1)).length = y.f2.length - (k + 1) := List.length_drop
 obtain ⟨ys1, e1⟩ : ∃ l, l = y.f2.take k := ⟨_, rfl⟩
 obtain ⟨ys2, e2⟩ : ∃ l, l = y.f2.drop (k + 1) := ⟨_, rfl⟩
 rw [← e1] at hrT hl1_
 rw [← e2] at hrF hl2_
 have HE1 := Lib.hid e1
 have HE2 := Lib.hid e2
 have HL1 := Lib.hid hl1_
 have HL2 := Lib.hid hl2_
 have HrT := Lib.hid hrT
 have HrF := Lib.hid hrF
 clear hrT hrF e1 e2 hl1_ hl2_
 refine wp_region_held_drew (S := fun (W : World) => True) (by kernel_rfl) ?s140 (fun hHeld => ?t140)
 case s140 => exact (show (fun (W : World) => True) (World.drew w2) from trivial)
 generalize hWVs : World.drew (w2) = Vs at hHeld ⊢
 have ltF0 := blk_lt F0.out
 have ltF2 := blk_lt F2.out
 have ltFX := blk_lt FX.out
 have ltb := HB.out.size
 have ltl := HL.out
 have TT : ∀ k, k < w2.heap.size → Vs.heap[k]? = w2.heap[k]? := fun k hk => by rw [← hWVs]; (with_reducible repeat (first | rfl | refine hp_set ?_ ?_ | refine hp_alloc ?_ ?_ | refine hp_drew ?_)); all_goals (first | (with_reducible rfl) | omega | (dsimp only; omega) | (simp; omega))
 have TS : w2.heap.size + 0 ≤ Vs.heap.size := by rw [← hWVs]; simp
 have nF0 : Vs.heap[w.heap.size]? = some (.cells #[.int .i64 s.f0, .slice (some ad) s.f1.length c0] 43 (0, 0)) := (TT _ ltF0).trans F0.out
 have nF2 : Vs.heap[w.heap.size + 1]? = some (.cells #[.int .i64 0, .slice none 0 0] 43 (0, 0)) := (TT _ ltF2).trans F2.out
 have nFX : Vs.heap[w1.heap.size]? = some (.cells #[.int .i64 y.f0, .string y.f1.f0, .string y.f1.f1, .slice B0 y.f2.length d0, .slice B1 y.f3.length d1] 28 (0, 0)) := (TT _ ltFX).trans FX.out
 have nHS : Kd.R kItem 28 Vs b (fun k => k < w.heap.size) (.slice (some ad) s.f1.length c0) s.f1 := Kd.R_step HS.out (fun k hk hlt => TT k hlt)
 have nU0 : Kd.R kRcpt 55 Vs w.heap.size (fun _ => True) (.slice B0 y.f2.length d0) y.f2 := R_keepT U0.out rfl (fun k hk ho => TT k hk)
 have nU1 : Kd.R Kd.string 9 Vs w.heap.size (fun _ => True) (.slice B1 y.f3.length d1) y.f3 := R_keepT U1.out rfl (fun k hk ho => TT k hk)
 have nHB : Below w.heap.size w Vs := by rw [← hWVs]; exact bel_then (HB.out) (drew_below0 _)
 have bds_ : Below w2.heap.size w2 Vs := by rw [← hWVs]; exact drew_below0 w2
 clear hWVs F0 F2 FX HB HS U0 U1
 have F0 := Aside0.mk nF0
 clear nF0
 have F2 := Aside0.mk nF2
 clear nF2
 have FX := Aside0.mk nFX
 clear nFX
 have HS := Aside0.mk nHS
 clear nHS
 have U0 := Aside0.mk nU0
 clear nU0
 have U1 := Aside0.mk nU1
 clear nU1
 have HB := Aside0.mk nHB
 clear nHB
 replace HL := Aside0.mk (Nat.le_trans HL.out (by omega : w2.heap.size ≤ Vs.heap.size))
 clear TT TS ltF0 ltF2 ltFX ltb ltl
 have BDs := Aside0.mk bds_
 clear bds_
 have HBo := HB
 have HLo := HL
 have hws : w.heap.size ≤ Vs.heap.size := HB.out.size
 clear HB HL
 have HBj : Aside0 (Below Vs.heap.size Vs Vs) := ⟨Below.refl _ _⟩
 have join : Hid (∀ {goal : Prop} {G : Nat → Option Addr → Nat → List SRcpt → Option Addr → Nat → World → Prop} (rg : Hid (∀ (g0 : Nat) (E1B : Option Addr) (E1d : Nat) (rs : List SRcpt) (E2B : Option Addr) (E2d : Nat) (V : World), Below Vs.heap.size Vs V ∧ Kd.R kRcpt 55 V w.heap.size (fun _ => True) (.slice E2B rs.length E2d) rs ∧ Hid (rs = ys1 ++ ys2) ∧ (True) → G g0 E1B E1d rs E2B E2d V) → goal) (hk : ∀ (g0 : Nat) (E1B : Option Addr) (E1d : Nat) (rs : List SRcpt) (E2B : Option Addr) (E2d : Nat) (V : World), Below Vs.heap.size Vs V ∧ Kd.R kRcpt 55 V w.heap.size (fun _ => True) (.slice E2B rs.length E2d) rs ∧ Hid (rs = ys1 ++ ys2) ∧ (True) → G g0 E1B E1d rs E2B E2d V), goal) := Lib.hid (fun f h => f (Lib.hid h))
 apply join.out
 case rg =>
  intro HKK
  have HB := HBj
  have HL : Aside0 (Vs.heap.size + 0 ≤ Vs.heap.size) := ⟨Nat.le_refl _⟩
  refine tk 1 ?v141 ?y141 ?r141
  case y141 => intro w_ hSw; (try dsimp only at hSw); clear hSw; go_simp; (try (with_reducible rfl))
  try simp only [Act.put, List.setIfInBounds_toArray, List.set_cons_zero, List.set_cons_succ]
  refine tk 3 ?v142 ?y142 ?r142
  case y142 => intro w_ hSw; (try dsimp only at hSw); clear hSw; go_simp; (try (with_reducible rfl))
  try simp only [Act.put, List.setIfInBounds_toArray, List.set_cons_zero, List.set_cons_succ]
  refine tk 6 ?v143 ?y143 ?r143
  case y143 => intro w_ hSw; (try dsimp only at hSw); clear hSw; go_simp; (try (with_reducible rfl))
  try simp only [Act.put, List.setIfInBounds_toArray, List.set_cons_zero, List.set_cons_succ]
  refine tk 8 ?v144 ?y144 ?r144
  case y144 => intro w_ hSw; (try dsimp only at hSw); clear hSw; go_simp; (try (with_reducible rfl))
  try simp only [Act.put, List.setIfInBounds_toArray, List.set_cons_zero, List.set_cons_succ]
  refine tk 9 ?v145 ?y145 ?r145
  case y145 => intro w_ hSw; (try dsimp only at hSw); clear hSw; go_simp; (try (with_reducible rfl))
  try simp only [Act.put, List.setIfInBounds_toArray, List.set_cons_zero, List.set_cons_succ]
  refine rdy (rs := [0, 2, 7]) ?_
  refine rc (fun K hK => ?k146) (rc (fun K hK => ?k147) (rc (fun K hK => ?k148) AllReadyH.nil))
  case k146 =>
   go_simp
   generalize hWV0 : World.alloc (Vs) _ = V0
   have ltb := HB.out.size
   have ltl := HL.out
   have TT : ∀ k, k < Vs.heap.size → V0.heap[k]? = Vs.heap[k]? := fun k hk => by rw [← hWV0]; (with_reducible repeat (first | rfl | refine hp_set ?_ ?_ | refine hp_alloc ?_ ?_ | refine hp_drew ?_)); all_goals (first | (with_reducible rfl) | omega | (dsimp only; omega) | (simp; omega))
   have TS : Vs.heap.size + 1 ≤ V0.heap.size := by rw [← hWV0]; simp
   have nBE : V0.heap[Vs.heap.size]? = some (.cells #[] 55 (0, 0)) := by rw [← hWV0]; exact blk_new Vs (.cells #[] 55)
   have nHB : Below Vs.heap.size Vs V0 := by rw [← hWV0]; exact bel_alloc (HB.out) _
   have nE : Kd.R kRcpt 55 V0 w.heap.size (fun _ => True) (.slice (some ⟨Vs.heap.size, 0, none⟩) 0 0) [] := by rw [← hWV0]; exact R_empty kRcpt 55 Vs w.heap.size (by have := ltb; omega) trivial
   clear hWV0  HB 
   have BE := Aside0.mk nBE
   clear nBE
   have E := Aside0.mk nE
   clear nE
   have HB := Aside0.mk nHB
   clear nHB
   have oBE_ltl := ltl
   have oBE_ts := TS
   replace HL := Aside0.mk (Nat.le_trans HL.out (by omega : Vs.heap.size ≤ V0.heap.size))
   clear TT TS ltb ltl
   refine hK.out _ _ ?h149 (fun hHeld => ?j149)
   case h149 => exact trivial
   clear hK K
   try simp only [Act.put, List.setIfInBounds_toArray, List.set_cons_zero, List.set_cons_succ]
   refine rdy (rs := [2, 7]) ?_
   refine rc (fun K hK => ?k150) (rc (fun K hK => ?k151) AllReadyH.nil)
   case k150 =>
    have cFX_0 : V0.cell? ⟨w1.heap.size, 0, none⟩ = some (.int .i64 y.f0) := by have h_ := below_blk FX.out HB.out; simp [World.cell?, h_]
    have cFX_1 : V0.cell? ⟨w1.heap.size, 1, none⟩ = some (.string y.f1.f0) := by have h_ := below_blk FX.out HB.out; simp [World.cell?, h_]
    have cFX_2 : V0.cell? ⟨w1.heap.size, 2, none⟩ = some (.string y.f1.f1) := by have h_ := below_blk FX.out HB.out; simp [World.cell?, h_]
    have cFX_3 : V0.cell? ⟨w1.heap.size, 3, none⟩ = some (.slice B0 y.f2.length d0) := by have h_ := below_blk FX.out HB.out; simp [World.cell?, h_]
    have cFX_4 : V0.cell? ⟨w1.heap.size, 4, none⟩ = some (.slice B1 y.f3.length d1) := by have h_ := below_blk FX.out HB.out; simp [World.cell?, h_]
    go_simp
    refine hK.out _ _ ?h152 (fun hHeld => ?j152)
    case h152 => exact hHeld
    clear hK K
    try simp only [Act.put, List.setIfInBounds_toArray, List.set_cons_zero, List.set_cons_succ]
    refine tk 4 ?v153 ?y153 ?r153
    case y153 => intro w_ hSw; (try dsimp only at hSw); clear hSw; go_simp; (try (with_reducible rfl))
    try simp only [Act.put, List.setIfInBounds_toArray, List.set_cons_zero, List.set_cons_succ]
    refine rdy (rs := [5, 7]) ?_
    refine rc (fun K hK => ?k154) (rc (fun K hK => ?k155) AllReadyH.nil)
    case k154 =>
     have hVb := HB.out.size
     refine Kd.R_append_rows_step kRcpt (w0 := Vs) (w.heap.size) (by rfl) (.tmp 15) (.tmp 19) 25 55 (.agg #[(.string ⟨#[]⟩), (.string ⟨#[]⟩), (.int .i64 0), (.int .i64 0)]) 48 rfl Tryd.underlying25 info55 rfl (by decide) (by omega) (.slice (some ⟨Vs.heap.size, 0, none⟩) 0 0) [] ys1 (B0) (k) (d0) (fun _ => True) (fun _ => False) rfl rfl E.out (HrT.out _ (bel_then BDs.out HB.out)) (fun _ _ h => h) (fun _ h => h.elim) (fun _ _ => trivial) ((HB.out.mono (by omega : w.heap.size ≤ Vs.heap.size))) (by have := HB.out.size; omega) (by simp; omega) ?_
     intro v5 V5 ho hb hg hat
     rw [List.nil_append] at ho
     obtain ⟨E1B, E1d, hv⟩ := Kd.R_slice ho
     subst hv
     have nHB : Below Vs.heap.size Vs V5 := bel_grown HB.out hg HB.out.size (fun k hk => by simp [Value.ownBlock] at hk; omega)
     have nHL := Aside0.mk (Nat.le_trans HL.out hg.size)
     clear cFX_0 cFX_1 cFX_2 cFX_3 cFX_4
     clear HB HL BE E
     have HL := nHL
     clear nHL
     have HB := Aside0.mk nHB
     clear nHB
     have HOW : Aside0 (∀ q_, (Value.slice E1B ys1.length E1d).ownBlock = some q_ → Vs.heap.size ≤ q_) := ⟨fun q_ hk => by (rcases hat with h1 | ⟨b1, h1, h2⟩; (rw [h1] at hk; simp [Value.ownBlock] at hk; omega); (rw [h1] at hk; have h3 := Option.some.inj hk; omega))⟩
     have E : Aside0 (Kd.R kRcpt 55 V5 w.heap.size (fun _ => True) (.slice E1B (ys1).length E1d) ys1) := ⟨ho⟩
     clear ho hb hg hat hVb
     refine hK.out _ _ ?h156 (fun hHeld => ?j156)
     case h156 => exact trivial
     clear hK K
     try simp only [Act.put, List.setIfInBounds_toArray, List.set_cons_zero, List.set_cons_succ]
     refine rdy (rs := [7]) ?_
     refine rc (fun K hK => ?k157) AllReadyH.nil
     case k157 =>
      have cFX_0 : V5.cell? ⟨w1.heap.size, 0, none⟩ = some (.int .i64 y.f0) := by have h_ := below_blk FX.out HB.out; simp [World.cell?, h_]
      have cFX_1 : V5.cell? ⟨w1.heap.size, 1, none⟩ = some (.string y.f1.f0) := by have h_ := below_blk FX.out HB.out; simp [World.cell?, h_]
      have cFX_2 : V5.cell? ⟨w1.heap.size, 2, none⟩ = some (.string y.f1.f1) := by have h_ := below_blk FX.out HB.out; simp [World.cell?, h_]
      have cFX_3 : V5.cell? ⟨w1.heap.size, 3, none⟩ = some (.slice B0 y.f2.length d0) := by have h_ := below_blk FX.out HB.out; simp [World.cell?, h_]
      have cFX_4 : V5.cell? ⟨w1.heap.size, 4, none⟩ = some (.slice B1 y.f3.length d1) := by have h_ := below_blk FX.out HB.out; simp [World.cell?, h_]
      go_simp
      refine hK.out _ _ ?h158 (fun hHeld => ?j158)
      case h158 => exact hHeld
      clear hK K
      try simp only [Act.put, List.setIfInBounds_toArray, List.set_cons_zero, List.set_cons_succ]
      refine tk 10 ?v159 ?y159 ?r159
      case y159 => intro w_ hSw; (try dsimp only at hSw); clear hSw; go_simp; (try (with_reducible rfl))
      try simp only [Act.put, List.setIfInBounds_toArray, List.set_cons_zero, List.set_cons_succ]
      refine rdy (rs := [11]) ?_
      refine rc (fun K hK => ?k160) AllReadyH.nil
      case k160 =>
       have hVb := HB.out.size
       refine Kd.R_append_rows_step kRcpt (w0 := Vs) (w.heap.size) (by rfl) (.tmp 20) (.tmp 25) 25 55 (.agg #[(.string ⟨#[]⟩), (.string ⟨#[]⟩), (.int .i64 0), (.int .i64 0)]) 48 rfl Tryd.underlying25 info55 rfl (by decide) (by omega) (.slice E1B (ys1).length E1d) ys1 ys2 (D0) ((y.f2.length - (k + 1))) ((d0 - (k + 1))) (fun _ => True) (fun _ => False) rfl rfl E.out (HrF.out _ (bel_then BDs.out HB.out)) (fun _ _ h => h) (fun _ h => h.elim) (fun _ _ => trivial) ((HB.out.mono (by omega : w.heap.size ≤ Vs.heap.size))) (by have := HB.out.size; omega) (by have := HL1.out; omega) ?_
       intro v11 V11 ho hb hg hat
       obtain ⟨rs, e_rs⟩ : ∃ l, l = (ys1 ++ ys2) := ⟨_, rfl⟩
       rw [← e_rs] at ho
       have H_rs := Lib.hid e_rs
       clear e_rs
       obtain ⟨E2B, E2d, hv⟩ := Kd.R_slice ho
       subst hv
       have nHB : Below Vs.heap.size Vs V11 := bel_grown HB.out hg HB.out.size (fun k hk => by exact HOW.out k hk)
       have nHL := Aside0.mk (Nat.le_trans HL.out hg.size)
       clear cFX_0 cFX_1 cFX_2 cFX_3 cFX_4
       clear HB HL E
       have HL := nHL
       clear nHL
       have HB := Aside0.mk nHB
       clear nHB
       have E : Aside0 (Kd.R kRcpt 55 V11 w.heap.size (fun _ => True) (.slice E2B (rs).length E2d) rs) := ⟨ho⟩
       clear ho hb hg hat hVb
       refine hK.out _ _ ?h161 (fun hHeld => ?j161)
       case h161 => exact trivial
       clear hK K
       try simp only [Act.put, List.setIfInBounds_toArray, List.set_cons_zero, List.set_cons_succ]
       refine tk 12 ?v162 ?y162 ?r162
       case y162 => intro w_ hSw; (try dsimp only at hSw); clear hSw; go_simp; (try (with_reducible rfl))
       try simp only [Act.put, List.setIfInBounds_toArray, List.set_cons_zero, List.set_cons_succ]
       generalize hg0 : Vs.heap.size = g0
       exact HKK.out g0 E1B E1d rs E2B E2d V11 ⟨HB.out, E.out, H_rs, hHeld⟩
    case k155 =>
     clear cFX_0 cFX_1 cFX_2 cFX_3 cFX_4
     have cFX_0 : V0.cell? ⟨w1.heap.size, 0, none⟩ = some (.int .i64 y.f0) := by have h_ := below_blk FX.out HB.out; simp [World.cell?, h_]
     have cFX_1 : V0.cell? ⟨w1.heap.size, 1, none⟩ = some (.string y.f1.f0) := by have h_ := below_blk FX.out HB.out; simp [World.cell?, h_]
     have cFX_2 : V0.cell? ⟨w1.heap.size, 2, none⟩ = some (.string y.f1.f1) := by have h_ := below_blk FX.out HB.out; simp [World.cell?, h_]
     have cFX_3 : V0.cell? ⟨w1.heap.size, 3, none⟩ = some (.slice B0 y.f2.length d0) := by have h_ := below_blk FX.out HB.out; simp [World.cell?, h_]
     have cFX_4 : V0.cell? ⟨w1.heap.size, 4, none⟩ = some (.slice B1 y.f3.length d1) := by have h_ := below_blk FX.out HB.out; simp [World.cell?, h_]
     go_simp
     refine hK.out _ _ ?h163 (fun hHeld => ?j163)
     case h163 => exact hHeld
     clear hK K
     try simp only [Act.put, List.setIfInBounds_toArray, List.set_cons_zero, List.set_cons_succ]
     refine tk 10 ?v164 ?y164 ?r164
     case y164 => intro w_ hSw; (try dsimp only at hSw); clear hSw; go_simp; (try (with_reducible rfl))
     try simp only [Act.put, List.setIfInBounds_toArray, List.set_cons_zero, List.set_cons_succ]
     refine rdy (rs := [5]) ?_
     refine rc (fun K hK => ?k165) AllReadyH.nil
     case k165 =>
      have hVb := HB.out.size
      refine Kd.R_append_rows_step kRcpt (w0 := Vs) (w.heap.size) (by rfl) (.tmp 15) (.tmp 19) 25 55 (.agg #[(.string ⟨#[]⟩), (.string ⟨#[]⟩), (.int .i64 0), (.int .i64 0)]) 48 rfl Tryd.underlying25 info55 rfl (by decide) (by omega) (.slice (some ⟨Vs.heap.size, 0, none⟩) 0 0) [] ys1 (B0) (k) (d0) (fun _ => True) (fun _ => False) rfl rfl E.out (HrT.out _ (bel_then BDs.out HB.out)) (fun _ _ h => h) (fun _ h => h.elim) (fun _ _ => trivial) ((HB.out.mono (by omega : w.heap.size ≤ Vs.heap.size))) (by have := HB.out.size; omega) (by simp; omega) ?_
      intro v5 V5 ho hb hg hat
      rw [List.nil_append] at ho
      obtain ⟨E1B, E1d, hv⟩ := Kd.R_slice ho
      subst hv
      have nHB : Below Vs.heap.size Vs V5 := bel_grown HB.out hg HB.out.size (fun k hk => by simp [Value.ownBlock] at hk; omega)
      have nHL := Aside0.mk (Nat.le_trans HL.out hg.size)
      clear cFX_0 cFX_1 cFX_2 cFX_3 cFX_4
      clear HB HL BE E
      have HL := nHL
      clear nHL
      have HB := Aside0.mk nHB
      clear nHB
      have HOW : Aside0 (∀ q_, (Value.slice E1B ys1.length E1d).ownBlock = some q_ → Vs.heap.size ≤ q_) := ⟨fun q_ hk => by (rcases hat with h1 | ⟨b1, h1, h2⟩; (rw [h1] at hk; simp [Value.ownBlock] at hk; omega); (rw [h1] at hk; have h3 := Option.some.inj hk; omega))⟩
      have E : Aside0 (Kd.R kRcpt 55 V5 w.heap.size (fun _ => True) (.slice E1B (ys1).length E1d) ys1) := ⟨ho⟩
      clear ho hb hg hat hVb
      refine hK.out _ _ ?h166 (fun hHeld => ?j166)
      case h166 => exact trivial
      clear hK K
      try simp only [Act.put, List.setIfInBounds_toArray, List.set_cons_zero, List.set_cons_succ]
      refine rdy (rs := [11]) ?_
      refine rc (fun K hK => ?k167) AllReadyH.nil
      case k167 =>
       have hVb := HB.out.size
       refine Kd.R_append_rows_step kRcpt (w0 := Vs) (w.heap.size) (by rfl) (.tmp 20) (.tmp 25) 25 55 (.agg #[(.string ⟨#[]⟩), (.string ⟨#[]⟩), (.int .i64 0), (.int .i64 0)]) 48 rfl Tryd.underlying25 info55 rfl (by decide) (by omega) (.slice E1B (ys1).length E1d) ys1 ys2 (D0) ((y.f2.length - (k + 1))) ((d0 - (k + 1))) (fun _ => True) (fun _ => False) rfl rfl E.out (HrF.out _ (bel_then BDs.out HB.out)) (fun _ _ h => h) (fun _ h => h.elim) (fun _ _ => trivial) ((HB.out.mono (by omega : w.heap.size ≤ Vs.heap.size))) (by have := HB.out.size; omega) (by have := HL1.out; omega) ?_
       intro v11 V11 ho hb hg hat
       obtain ⟨rs, e_rs⟩ : ∃ l, l = (ys1 ++ ys2) := ⟨_, rfl⟩
       rw [← e_rs] at ho
       have H_rs := Lib.hid e_rs
       clear e_rs
       obtain ⟨E2B, E2d, hv⟩ := Kd.R_slice ho
       subst hv
       have nHB : Below Vs.heap.size Vs V11 := bel_grown HB.out hg HB.out.size (fun k hk => by exact HOW.out k hk)
       have nHL := Aside0.mk (Nat.le_trans HL.out hg.size)
       clear HB HL E
       have HL := nHL
       clear nHL
       have HB := Aside0.mk nHB
       clear nHB
       have E : Aside0 (Kd.R kRcpt 55 V11 w.heap.size (fun _ => True) (.slice E2B (rs).length E2d) rs) := ⟨ho⟩
       clear ho hb hg hat hVb
       refine hK.out _ _ ?h168 (fun hHeld => ?j168)
       case h168 => exact trivial
       clear hK K
       try simp only [Act.put, List.setIfInBounds_toArray, List.set_cons_zero, List.set_cons_succ]
       refine tk 12 ?v169 ?y169 ?r169
       case y169 => intro w_ hSw; (try dsimp only at hSw); clear hSw; go_simp; (try (with_reducible rfl))
       try simp only [Act.put, List.setIfInBounds_toArray, List.set_cons_zero, List.set_cons_succ]
       generalize hg0 : Vs.heap.size = g0
       exact HKK.out g0 E1B E1d rs E2B E2d V11 ⟨HB.out, E.out, H_rs, hHeld⟩
   case k151 =>
    have cFX_0 : V0.cell? ⟨w1.heap.size, 0, none⟩ = some (.int .i64 y.f0) := by have h_ := below_blk FX.out HB.out; simp [World.cell?, h_]
    have cFX_1 : V0.cell? ⟨w1.heap.size, 1, none⟩ = some (.string y.f1.f0) := by have h_ := below_blk FX.out HB.out; simp [World.cell?, h_]
    have cFX_2 : V0.cell? ⟨w1.heap.size, 2, none⟩ = some (.string y.f1.f1) := by have h_ := below_blk FX.out HB.out; simp [World.cell?, h_]
    have cFX_3 : V0.cell? ⟨w1.heap.size, 3, none⟩ = some (.slice B0 y.f2.length d0) := by have h_ := below_blk FX.out HB.out; simp [World.cell?, h_]
    have cFX_4 : V0.cell? ⟨w1.heap.size, 4, none⟩ = some (.slice B1 y.f3.length d1) := by have h_ := below_blk FX.out HB.out; simp [World.cell?, h_]
    go_simp
    refine hK.out _ _ ?h170 (fun hHeld => ?j170)
    case h170 => exact hHeld
    clear hK K
    try simp only [Act.put, List.setIfInBounds_toArray, List.set_cons_zero, List.set_cons_succ]
    refine tk 10 ?v171 ?y171 ?r171
    case y171 => intro w_ hSw; (try dsimp only at hSw); clear hSw; go_simp; (try (with_reducible rfl))
    try simp only [Act.put, List.setIfInBounds_toArray, List.set_cons_zero, List.set_cons_succ]
    refine rdy (rs := [2]) ?_
    refine rc (fun K hK => ?k172) AllReadyH.nil
    case k172 =>
     clear cFX_0 cFX_1 cFX_2 cFX_3 cFX_4
     have cFX_0 : V0.cell? ⟨w1.heap.size, 0, none⟩ = some (.int .i64 y.f0) := by have h_ := below_blk FX.out HB.out; simp [World.cell?, h_]
     have cFX_1 : V0.cell? ⟨w1.heap.size, 1, none⟩ = some (.string y.f1.f0) := by have h_ := below_blk FX.out HB.out; simp [World.cell?, h_]
     have cFX_2 : V0.cell? ⟨w1.heap.size, 2, none⟩ = some (.string y.f1.f1) := by have h_ := below_blk FX.out HB.out; simp [World.cell?, h_]
     have cFX_3 : V0.cell? ⟨w1.heap.size, 3, none⟩ = some (.slice B0 y.f2.length d0) := by have h_ := below_blk FX.out HB.out; simp [World.cell?, h_]
     have cFX_4 : V0.cell? ⟨w1.heap.size, 4, none⟩ = some (.slice B1 y.f3.length d1) := by have h_ := below_blk FX.out HB.out; simp [World.cell?, h_]
     go_simp
     refine hK.out _ _ ?h173 (fun hHeld => ?j173)
     case h173 => exact hHeld
     clear hK K
     try simp only [Act.put, List.setIfInBounds_toArray, List.set_cons_zero, List.set_cons_succ]
     refine tk 4 ?v174 ?y174 ?r174
     case y174 => intro w_ hSw; (try dsimp only at hSw); clear hSw; go_simp; (try (with_reducible rfl))
     try simp only [Act.put, List.setIfInBounds_toArray, List.set_cons_zero, List.set_cons_succ]
     refine rdy (rs := [5]) ?_
     refine rc (fun K hK => ?k175) AllReadyH.nil
     case k175 =>
      have hVb := HB.out.size
      refine Kd.R_append_rows_step kRcpt (w0 := Vs) (w.heap.size) (by rfl) (.tmp 15) (.tmp 19) 25 55 (.agg #[(.string ⟨#[]⟩), (.string ⟨#[]⟩), (.int .i64 0), (.int .i64 0)]) 48 rfl Tryd.underlying25 info55 rfl (by decide) (by omega) (.slice (some ⟨Vs.heap.size, 0, none⟩) 0 0) [] ys1 (B0) (k) (d0) (fun _ => True) (fun _ => False) rfl rfl E.out (HrT.out _ (bel_then BDs.out HB.out)) (fun _ _ h => h) (fun _ h => h.elim) (fun _ _ => trivial) ((HB.out.mono (by omega : w.heap.size ≤ Vs.heap.size))) (by have := HB.out.size; omega) (by simp; omega) ?_
      intro v5 V5 ho hb hg hat
      rw [List.nil_append] at ho
      obtain ⟨E1B, E1d, hv⟩ := Kd.R_slice ho
      subst hv
      have nHB : Below Vs.heap.size Vs V5 := bel_grown HB.out hg HB.out.size (fun k hk => by simp [Value.ownBlock] at hk; omega)
      have nHL := Aside0.mk (Nat.le_trans HL.out hg.size)
      clear cFX_0 cFX_1 cFX_2 cFX_3 cFX_4
      clear HB HL BE E
      have HL := nHL
      clear nHL
      have HB := Aside0.mk nHB
      clear nHB
      have HOW : Aside0 (∀ q_, (Value.slice E1B ys1.length E1d).ownBlock = some q_ → Vs.heap.size ≤ q_) := ⟨fun q_ hk => by (rcases hat with h1 | ⟨b1, h1, h2⟩; (rw [h1] at hk; simp [Value.ownBlock] at hk; omega); (rw [h1] at hk; have h3 := Option.some.inj hk; omega))⟩
      have E : Aside0 (Kd.R kRcpt 55 V5 w.heap.size (fun _ => True) (.slice E1B (ys1).length E1d) ys1) := ⟨ho⟩
      clear ho hb hg hat hVb
      refine hK.out _ _ ?h176 (fun hHeld => ?j176)
      case h176 => exact trivial
      clear hK K
      try simp only [Act.put, List.setIfInBounds_toArray, List.set_cons_zero, List.set_cons_succ]
      refine rdy (rs := [11]) ?_
      refine rc (fun K hK => ?k177) AllReadyH.nil
      case k177 =>
       have hVb := HB.out.size
       refine Kd.R_append_rows_step kRcpt (w0 := Vs) (w.heap.size) (by rfl) (.tmp 20) (.tmp 25) 25 55 (.agg #[(.string ⟨#[]⟩), (.string ⟨#[]⟩), (.int .i64 0), (.int .i64 0)]) 48 rfl Tryd.underlying25 info55 rfl (by decide) (by omega) (.slice E1B (ys1).length E1d) ys1 ys2 (D0) ((y.f2.length - (k + 1))) ((d0 - (k + 1))) (fun _ => True) (fun _ => False) rfl rfl E.out (HrF.out _ (bel_then BDs.out HB.out)) (fun _ _ h => h) (fun _ h => h.elim) (fun _ _ => trivial) ((HB.out.mono (by omega : w.heap.size ≤ Vs.heap.size))) (by have := HB.out.size; omega) (by have := HL1.out; omega) ?_
       intro v11 V11 ho hb hg hat
       obtain ⟨rs, e_rs⟩ : ∃ l, l = (ys1 ++ ys2) := ⟨_, rfl⟩
       rw [← e_rs] at ho
       have H_rs := Lib.hid e_rs
       clear e_rs
       obtain ⟨E2B, E2d, hv⟩ := Kd.R_slice ho
       subst hv
       have nHB : Below Vs.heap.size Vs V11 := bel_grown HB.out hg HB.out.size (fun k hk => by exact HOW.out k hk)
       have nHL := Aside0.mk (Nat.le_trans HL.out hg.size)
       clear HB HL E
       have HL := nHL
       clear nHL
       have HB := Aside0.mk nHB
       clear nHB
       have E : Aside0 (Kd.R kRcpt 55 V11 w.heap.size (fun _ => True) (.slice E2B (rs).length E2d) rs) := ⟨ho⟩
       clear ho hb hg hat hVb
       refine hK.out _ _ ?h178 (fun hHeld => ?j178)
       case h178 => exact trivial
       clear hK K
       try simp only [Act.put, List.setIfInBounds_toArray, List.set_cons_zero, List.set_cons_succ]
       refine tk 12 ?v179 ?y179 ?r179
       case y179 => intro w_ hSw; (try dsimp only at hSw); clear hSw; go_simp; (try (with_reducible rfl))
       try simp only [Act.put, List.setIfInBounds_toArray, List.set_cons_zero, List.set_cons_succ]
       generalize hg0 : Vs.heap.size = g0
       exact HKK.out g0 E1B E1d rs E2B E2d V11 ⟨HB.out, E.out, H_rs, hHeld⟩
  case k147 =>
   have cFX_0 : Vs.cell? ⟨w1.heap.size, 0, none⟩ = some (.int .i64 y.f0) := by have h_ := below_blk FX.out HB.out; simp [World.cell?, h_]
   have cFX_1 : Vs.cell? ⟨w1.heap.size, 1, none⟩ = some (.string y.f1.f0) := by have h_ := below_blk FX.out HB.out; simp [World.cell?, h_]
   have cFX_2 : Vs.cell? ⟨w1.heap.size, 2, none⟩ = some (.string y.f1.f1) := by have h_ := below_blk FX.out HB.out; simp [World.cell?, h_]
   have cFX_3 : Vs.cell? ⟨w1.heap.size, 3, none⟩ = some (.slice B0 y.f2.length d0) := by have h_ := below_blk FX.out HB.out; simp [World.cell?, h_]
   have cFX_4 : Vs.cell? ⟨w1.heap.size, 4, none⟩ = some (.slice B1 y.f3.length d1) := by have h_ := below_blk FX.out HB.out; simp [World.cell?, h_]
   go_simp
   refine hK.out _ _ ?h180 (fun hHeld => ?j180)
   case h180 => exact hHeld
   clear hK K
   try simp only [Act.put, List.setIfInBounds_toArray, List.set_cons_zero, List.set_cons_succ]
   refine tk 4 ?v181 ?y181 ?r181
   case y181 => intro w_ hSw; (try dsimp only at hSw); clear hSw; go_simp; (try (with_reducible rfl))
   try simp only [Act.put, List.setIfInBounds_toArray, List.set_cons_zero, List.set_cons_succ]
   refine rdy (rs := [0, 7]) ?_
   refine rc (fun K hK => ?k182) (rc (fun K hK => ?k183) AllReadyH.nil)
   case k182 =>
    go_simp
    clear cFX_0 cFX_1 cFX_2 cFX_3 cFX_4
    generalize hWV0 : World.alloc (Vs) _ = V0
    have ltb := HB.out.size
    have ltl := HL.out
    have TT : ∀ k, k < Vs.heap.size → V0.heap[k]? = Vs.heap[k]? := fun k hk => by rw [← hWV0]; (with_reducible repeat (first | rfl | refine hp_set ?_ ?_ | refine hp_alloc ?_ ?_ | refine hp_drew ?_)); all_goals (first | (with_reducible rfl) | omega | (dsimp only; omega) | (simp; omega))
    have TS : Vs.heap.size + 1 ≤ V0.heap.size := by rw [← hWV0]; simp
    have nBE : V0.heap[Vs.heap.size]? = some (.cells #[] 55 (0, 0)) := by rw [← hWV0]; exact blk_new Vs (.cells #[] 55)
    have nHB : Below Vs.heap.size Vs V0 := by rw [← hWV0]; exact bel_alloc (HB.out) _
    have nE : Kd.R kRcpt 55 V0 w.heap.size (fun _ => True) (.slice (some ⟨Vs.heap.size, 0, none⟩) 0 0) [] := by rw [← hWV0]; exact R_empty kRcpt 55 Vs w.heap.size (by have := ltb; omega) trivial
    clear hWV0  HB 
    have BE := Aside0.mk nBE
    clear nBE
    have E := Aside0.mk nE
    clear nE
    have HB := Aside0.mk nHB
    clear nHB
    have oBE_ltl := ltl
    have oBE_ts := TS
    replace HL := Aside0.mk (Nat.le_trans HL.out (by omega : Vs.heap.size ≤ V0.heap.size))
    clear TT TS ltb ltl
    refine hK.out _ _ ?h184 (fun hHeld => ?j184)
    case h184 => exact trivial
    clear hK K
    try simp only [Act.put, List.setIfInBounds_toArray, List.set_cons_zero, List.set_cons_succ]
    refine rdy (rs := [5, 7]) ?_
    refine rc (fun K hK => ?k185) (rc (fun K hK => ?k186) AllReadyH.nil)
    case k185 =>
     have hVb := HB.out.size
     refine Kd.R_append_rows_step kRcpt (w0 := Vs) (w.heap.size) (by rfl) (.tmp 15) (.tmp 19) 25 55 (.agg #[(.string ⟨#[]⟩), (.string ⟨#[]⟩), (.int .i64 0), (.int .i64 0)]) 48 rfl Tryd.underlying25 info55 rfl (by decide) (by omega) (.slice (some ⟨Vs.heap.size, 0, none⟩) 0 0) [] ys1 (B0) (k) (d0) (fun _ => True) (fun _ => False) rfl rfl E.out (HrT.out _ (bel_then BDs.out HB.out)) (fun _ _ h => h) (fun _ h => h.elim) (fun _ _ => trivial) ((HB.out.mono (by omega : w.heap.size ≤ Vs.heap.size))) (by have := HB.out.size; omega) (by simp; omega) ?_
     intro v5 V5 ho hb hg hat
     rw [List.nil_append] at ho
     obtain ⟨E1B, E1d, hv⟩ := Kd.R_slice ho
     subst hv
     have nHB : Below Vs.heap.size Vs V5 := bel_grown HB.out hg HB.out.size (fun k hk => by simp [Value.ownBlock] at hk; omega)
     have nHL := Aside0.mk (Nat.le_trans HL.out hg.size)
     clear HB HL BE E
     have HL := nHL
     clear nHL
     have HB := Aside0.mk nHB
     clear nHB
     have HOW : Aside0 (∀ q_, (Value.slice E1B ys1.length E1d).ownBlock = some q_ → Vs.heap.size ≤ q_) := ⟨fun q_ hk => by (rcases hat with h1 | ⟨b1, h1, h2⟩; (rw [h1] at hk; simp [Value.ownBlock] at hk; omega); (rw [h1] at hk; have h3 := Option.some.inj hk; omega))⟩
     have E : Aside0 (Kd.R kRcpt 55 V5 w.heap.size (fun _ => True) (.slice E1B (ys1).length E1d) ys1) := ⟨ho⟩
     clear ho hb hg hat hVb
     refine hK.out _ _ ?h187 (fun hHeld => ?j187)
     case h187 => exact trivial
     clear hK K
     try simp only [Act.put, List.setIfInBounds_toArray, List.set_cons_zero, List.set_cons_succ]
     refine rdy (rs := [7]) ?_
     refine rc (fun K hK => ?k188) AllReadyH.nil
     case k188 =>
      have cFX_0 : V5.cell? ⟨w1.heap.size, 0, none⟩ = some (.int .i64 y.f0) := by have h_ := below_blk FX.out HB.out; simp [World.cell?, h_]
      have cFX_1 : V5.cell? ⟨w1.heap.size, 1, none⟩ = some (.string y.f1.f0) := by have h_ := below_blk FX.out HB.out; simp [World.cell?, h_]
      have cFX_2 : V5.cell? ⟨w1.heap.size, 2, none⟩ = some (.string y.f1.f1) := by have h_ := below_blk FX.out HB.out; simp [World.cell?, h_]
      have cFX_3 : V5.cell? ⟨w1.heap.size, 3, none⟩ = some (.slice B0 y.f2.length d0) := by have h_ := below_blk FX.out HB.out; simp [World.cell?, h_]
      have cFX_4 : V5.cell? ⟨w1.heap.size, 4, none⟩ = some (.slice B1 y.f3.length d1) := by have h_ := below_blk FX.out HB.out; simp [World.cell?, h_]
      go_simp
      refine hK.out _ _ ?h189 (fun hHeld => ?j189)
      case h189 => exact hHeld
      clear hK K
      try simp only [Act.put, List.setIfInBounds_toArray, List.set_cons_zero, List.set_cons_succ]
      refine tk 10 ?v190 ?y190 ?r190
      case y190 => intro w_ hSw; (try dsimp only at hSw); clear hSw; go_simp; (try (with_reducible rfl))
      try simp only [Act.put, List.setIfInBounds_toArray, List.set_cons_zero, List.set_cons_succ]
      refine rdy (rs := [11]) ?_
      refine rc (fun K hK => ?k191) AllReadyH.nil
      case k191 =>
       have hVb := HB.out.size
       refine Kd.R_append_rows_step kRcpt (w0 := Vs) (w.heap.size) (by rfl) (.tmp 20) (.tmp 25) 25 55 (.agg #[(.string ⟨#[]⟩), (.string ⟨#[]⟩), (.int .i64 0), (.int .i64 0)]) 48 rfl Tryd.underlying25 info55 rfl (by decide) (by omega) (.slice E1B (ys1).length E1d) ys1 ys2 (D0) ((y.f2.length - (k + 1))) ((d0 - (k + 1))) (fun _ => True) (fun _ => False) rfl rfl E.out (HrF.out _ (bel_then BDs.out HB.out)) (fun _ _ h => h) (fun _ h => h.elim) (fun _ _ => trivial) ((HB.out.mono (by omega : w.heap.size ≤ Vs.heap.size))) (by have := HB.out.size; omega) (by have := HL1.out; omega) ?_
       intro v11 V11 ho hb hg hat
       obtain ⟨rs, e_rs⟩ : ∃ l, l = (ys1 ++ ys2) := ⟨_, rfl⟩
       rw [← e_rs] at ho
       have H_rs := Lib.hid e_rs
       clear e_rs
       obtain ⟨E2B, E2d, hv⟩ := Kd.R_slice ho
       subst hv
       have nHB : Below Vs.heap.size Vs V11 := bel_grown HB.out hg HB.out.size (fun k hk => by exact HOW.out k hk)
       have nHL := Aside0.mk (Nat.le_trans HL.out hg.size)
       clear cFX_0 cFX_1 cFX_2 cFX_3 cFX_4
       clear HB HL E
       have HL := nHL
       clear nHL
       have HB := Aside0.mk nHB
       clear nHB
       have E : Aside0 (Kd.R kRcpt 55 V11 w.heap.size (fun _ => True) (.slice E2B (rs).length E2d) rs) := ⟨ho⟩
       clear ho hb hg hat hVb
       refine hK.out _ _ ?h192 (fun hHeld => ?j192)
       case h192 => exact trivial
       clear hK K
       try simp only [Act.put, List.setIfInBounds_toArray, List.set_cons_zero, List.set_cons_succ]
       refine tk 12 ?v193 ?y193 ?r193
       case y193 => intro w_ hSw; (try dsimp only at hSw); clear hSw; go_simp; (try (with_reducible rfl))
       try simp only [Act.put, List.setIfInBounds_toArray, List.set_cons_zero, List.set_cons_succ]
       generalize hg0 : Vs.heap.size = g0
       exact HKK.out g0 E1B E1d rs E2B E2d V11 ⟨HB.out, E.out, H_rs, hHeld⟩
    case k186 =>
     have cFX_0 : V0.cell? ⟨w1.heap.size, 0, none⟩ = some (.int .i64 y.f0) := by have h_ := below_blk FX.out HB.out; simp [World.cell?, h_]
     have cFX_1 : V0.cell? ⟨w1.heap.size, 1, none⟩ = some (.string y.f1.f0) := by have h_ := below_blk FX.out HB.out; simp [World.cell?, h_]
     have cFX_2 : V0.cell? ⟨w1.heap.size, 2, none⟩ = some (.string y.f1.f1) := by have h_ := below_blk FX.out HB.out; simp [World.cell?, h_]
     have cFX_3 : V0.cell? ⟨w1.heap.size, 3, none⟩ = some (.slice B0 y.f2.length d0) := by have h_ := below_blk FX.out HB.out; simp [World.cell?, h_]
     have cFX_4 : V0.cell? ⟨w1.heap.size, 4, none⟩ = some (.slice B1 y.f3.length d1) := by have h_ := below_blk FX.out HB.out; simp [World.cell?, h_]
     go_simp
     refine hK.out _ _ ?h194 (fun hHeld => ?j194)
     case h194 => exact hHeld
     clear hK K
     try simp only [Act.put, List.setIfInBounds_toArray, List.set_cons_zero, List.set_cons_succ]
     refine tk 10 ?v195 ?y195 ?r195
     case y195 => intro w_ hSw; (try dsimp only at hSw); clear hSw; go_simp; (try (with_reducible rfl))
     try simp only [Act.put, List.setIfInBounds_toArray, List.set_cons_zero, List.set_cons_succ]
     refine rdy (rs := [5]) ?_
     refine rc (fun K hK => ?k196) AllReadyH.nil
     case k196 =>
      have hVb := HB.out.size
      refine Kd.R_append_rows_step kRcpt (w0 := Vs) (w.heap.size) (by rfl) (.tmp 15) (.tmp 19) 25 55 (.agg #[(.string ⟨#[]⟩), (.string ⟨#[]⟩), (.int .i64 0), (.int .i64 0)]) 48 rfl Tryd.underlying25 info55 rfl (by decide) (by omega) (.slice (some ⟨Vs.heap.size, 0, none⟩) 0 0) [] ys1 (B0) (k) (d0) (fun _ => True) (fun _ => False) rfl rfl E.out (HrT.out _ (bel_then BDs.out HB.out)) (fun _ _ h => h) (fun _ h => h.elim) (fun _ _ => trivial) ((HB.out.mono (by omega : w.heap.size ≤ Vs.heap.size))) (by have := HB.out.size; omega) (by simp; omega) ?_
      intro v5 V5 ho hb hg hat
      rw [List.nil_append] at ho
      obtain ⟨E1B, E1d, hv⟩ := Kd.R_slice ho
      subst hv
      have nHB : Below Vs.heap.size Vs V5 := bel_grown HB.out hg HB.out.size (fun k hk => by simp [Value.ownBlock] at hk; omega)
      have nHL := Aside0.mk (Nat.le_trans HL.out hg.size)
      clear cFX_0 cFX_1 cFX_2 cFX_3 cFX_4
      clear HB HL BE E
      have HL := nHL
      clear nHL
      have HB := Aside0.mk nHB
      clear nHB
      have HOW : Aside0 (∀ q_, (Value.slice E1B ys1.length E1d).ownBlock = some q_ → Vs.heap.size ≤ q_) := ⟨fun q_ hk => by (rcases hat with h1 | ⟨b1, h1, h2⟩; (rw [h1] at hk; simp [Value.ownBlock] at hk; omega); (rw [h1] at hk; have h3 := Option.some.inj hk; omega))⟩
      have E : Aside0 (Kd.R kRcpt 55 V5 w.heap.size (fun _ => True) (.slice E1B (ys1).length E1d) ys1) := ⟨ho⟩
      clear ho hb hg hat hVb
      refine hK.out _ _ ?h197 (fun hHeld => ?j197)
      case h197 => exact trivial
      clear hK K
      try simp only [Act.put, List.setIfInBounds_toArray, List.set_cons_zero, List.set_cons_succ]
      refine rdy (rs := [11]) ?_
      refine rc (fun K hK => ?k198) AllReadyH.nil
      case k198 =>
       have hVb := HB.out.size
       refine Kd.R_append_rows_step kRcpt (w0 := Vs) (w.heap.size) (by rfl) (.tmp 20) (.tmp 25) 25 55 (.agg #[(.string ⟨#[]⟩), (.string ⟨#[]⟩), (.int .i64 0), (.int .i64 0)]) 48 rfl Tryd.underlying25 info55 rfl (by decide) (by omega) (.slice E1B (ys1).length E1d) ys1 ys2 (D0) ((y.f2.length - (k + 1))) ((d0 - (k + 1))) (fun _ => True) (fun _ => False) rfl rfl E.out (HrF.out _ (bel_then BDs.out HB.out)) (fun _ _ h => h) (fun _ h => h.elim) (fun _ _ => trivial) ((HB.out.mono (by omega : w.heap.size ≤ Vs.heap.size))) (by have := HB.out.size; omega) (by have := HL1.out; omega) ?_
       intro v11 V11 ho hb hg hat
       obtain ⟨rs, e_rs⟩ : ∃ l, l = (ys1 ++ ys2) := ⟨_, rfl⟩
       rw [← e_rs] at ho
       have H_rs := Lib.hid e_rs
       clear e_rs
       obtain ⟨E2B, E2d, hv⟩ := Kd.R_slice ho
       subst hv
       have nHB : Below Vs.heap.size Vs V11 := bel_grown HB.out hg HB.out.size (fun k hk => by exact HOW.out k hk)
       have nHL := Aside0.mk (Nat.le_trans HL.out hg.size)
       clear HB HL E
       have HL := nHL
       clear nHL
       have HB := Aside0.mk nHB
       clear nHB
       have E : Aside0 (Kd.R kRcpt 55 V11 w.heap.size (fun _ => True) (.slice E2B (rs).length E2d) rs) := ⟨ho⟩
       clear ho hb hg hat hVb
       refine hK.out _ _ ?h199 (fun hHeld => ?j199)
       case h199 => exact trivial
       clear hK K
       try simp only [Act.put, List.setIfInBounds_toArray, List.set_cons_zero, List.set_cons_succ]
       refine tk 12 ?v200 ?y200 ?r200
       case y200 => intro w_ hSw; (try dsimp only at hSw); clear hSw; go_simp; (try (with_reducible rfl))
       try simp only [Act.put, List.setIfInBounds_toArray, List.set_cons_zero, List.set_cons_succ]
       generalize hg0 : Vs.heap.size = g0
       exact HKK.out g0 E1B E1d rs E2B E2d V11 ⟨HB.out, E.out, H_rs, hHeld⟩
   case k183 =>
    clear cFX_0 cFX_1 cFX_2 cFX_3 cFX_4
    have cFX_0 : Vs.cell? ⟨w1.heap.size, 0, none⟩ = some (.int .i64 y.f0) := by have h_ := below_blk FX.out HB.out; simp [World.cell?, h_]
    have cFX_1 : Vs.cell? ⟨w1.heap.size, 1, none⟩ = some (.string y.f1.f0) := by have h_ := below_blk FX.out HB.out; simp [World.cell?, h_]
    have cFX_2 : Vs.cell? ⟨w1.heap.size, 2, none⟩ = some (.string y.f1.f1) := by have h_ := below_blk FX.out HB.out; simp [World.cell?, h_]
    have cFX_3 : Vs.cell? ⟨w1.heap.size, 3, none⟩ = some (.slice B0 y.f2.length d0) := by have h_ := below_blk FX.out HB.out; simp [World.cell?, h_]
    have cFX_4 : Vs.cell? ⟨w1.heap.size, 4, none⟩ = some (.slice B1 y.f3.length d1) := by have h_ := below_blk FX.out HB.out; simp [World.cell?, h_]
    go_simp
    refine hK.out _ _ ?h201 (fun hHeld => ?j201)
    case h201 => exact hHeld
    clear hK K
    try simp only [Act.put, List.setIfInBounds_toArray, List.set_cons_zero, List.set_cons_succ]
    refine tk 10 ?v202 ?y202 ?r202
    case y202 => intro w_ hSw; (try dsimp only at hSw); clear hSw; go_simp; (try (with_reducible rfl))
    try simp only [Act.put, List.setIfInBounds_toArray, List.set_cons_zero, List.set_cons_succ]
    refine rdy (rs := [0]) ?_
    refine rc (fun K hK => ?k203) AllReadyH.nil
    case k203 =>
     go_simp
     clear cFX_0 cFX_1 cFX_2 cFX_3 cFX_4
     generalize hWV0 : World.alloc (Vs) _ = V0
     have ltb := HB.out.size
     have ltl := HL.out
     have TT : ∀ k, k < Vs.heap.size → V0.heap[k]? = Vs.heap[k]? := fun k hk => by rw [← hWV0]; (with_reducible repeat (first | rfl | refine hp_set ?_ ?_ | refine hp_alloc ?_ ?_ | refine hp_drew ?_)); all_goals (first | (with_reducible rfl) | omega | (dsimp only; omega) | (simp; omega))
     have TS : Vs.heap.size + 1 ≤ V0.heap.size := by rw [← hWV0]; simp
     have nBE : V0.heap[Vs.heap.size]? = some (.cells #[] 55 (0, 0)) := by rw [← hWV0]; exact blk_new Vs (.cells #[] 55)
     have nHB : Below Vs.heap.size Vs V0 := by rw [← hWV0]; exact bel_alloc (HB.out) _
     have nE : Kd.R kRcpt 55 V0 w.heap.size (fun _ => True) (.slice (some ⟨Vs.heap.size, 0, none⟩) 0 0) [] := by rw [← hWV0]; exact R_empty kRcpt 55 Vs w.heap.size (by have := ltb; omega) trivial
     clear hWV0  HB 
     have BE := Aside0.mk nBE
     clear nBE
     have E := Aside0.mk nE
     clear nE
     have HB := Aside0.mk nHB
     clear nHB
     have oBE_ltl := ltl
     have oBE_ts := TS
     replace HL := Aside0.mk (Nat.le_trans HL.out (by omega : Vs.heap.size ≤ V0.heap.size))
     clear TT TS ltb ltl
     refine hK.out _ _ ?h204 (fun hHeld => ?j204)
     case h204 => exact trivial
     clear hK K
     try simp only [Act.put, List.setIfInBounds_toArray, List.set_cons_zero, List.set_cons_succ]
     refine rdy (rs := [5]) ?_
     refine rc (fun K hK => ?k205) AllReadyH.nil
     case k205 =>
      have hVb := HB.out.size
      refine Kd.R_append_rows_step kRcpt (w0 := Vs) (w.heap.size) (by rfl) (.tmp 15) (.tmp 19) 25 55 (.agg #[(.string ⟨#[]⟩), (.string ⟨#[]⟩), (.int .i64 0), (.int .i64 0)]) 48 rfl Tryd.underlying25 info55 rfl (by decide) (by omega) (.slice (some ⟨Vs.heap.size, 0, none⟩) 0 0) [] ys1 (B0) (k) (d0) (fun _ => True) (fun _ => False) rfl rfl E.out (HrT.out _ (bel_then BDs.out HB.out)) (fun _ _ h => h) (fun _ h => h.elim) (fun _ _ => trivial) ((HB.out.mono (by omega : w.heap.size ≤ Vs.heap.size))) (by have := HB.out.size; omega) (by simp; omega) ?_
      intro v5 V5 ho hb hg hat
      rw [List.nil_append] at ho
      obtain ⟨E1B, E1d, hv⟩ := Kd.R_slice ho
      subst hv
      have nHB : Below Vs.heap.size Vs V5 := bel_grown HB.out hg HB.out.size (fun k hk => by simp [Value.ownBlock] at hk; omega)
      have nHL := Aside0.mk (Nat.le_trans HL.out hg.size)
      clear HB HL BE E
      have HL := nHL
      clear nHL
      have HB := Aside0.mk nHB
      clear nHB
      have HOW : Aside0 (∀ q_, (Value.slice E1B ys1.length E1d).ownBlock = some q_ → Vs.heap.size ≤ q_) := ⟨fun q_ hk => by (rcases hat with h1 | ⟨b1, h1, h2⟩; (rw [h1] at hk; simp [Value.ownBlock] at hk; omega); (rw [h1] at hk; have h3 := Option.some.inj hk; omega))⟩
      have E : Aside0 (Kd.R kRcpt 55 V5 w.heap.size (fun _ => True) (.slice E1B (ys1).length E1d) ys1) := ⟨ho⟩
      clear ho hb hg hat hVb
      refine hK.out _ _ ?h206 (fun hHeld => ?j206)
      case h206 => exact trivial
      clear hK K
      try simp only [Act.put, List.setIfInBounds_toArray, List.set_cons_zero, List.set_cons_succ]
      refine rdy (rs := [11]) ?_
      refine rc (fun K hK => ?k207) AllReadyH.nil
      case k207 =>
       have hVb := HB.out.size
       refine Kd.R_append_rows_step kRcpt (w0 := Vs) (w.heap.size) (by rfl) (.tmp 20) (.tmp 25) 25 55 (.agg #[(.string ⟨#[]⟩), (.string ⟨#[]⟩), (.int .i64 0), (.int .i64 0)]) 48 rfl Tryd.underlying25 info55 rfl (by decide) (by omega) (.slice E1B (ys1).length E1d) ys1 ys2 (D0) ((y.f2.length - (k + 1))) ((d0 - (k + 1))) (fun _ => True) (fun _ => False) rfl rfl E.out (HrF.out _ (bel_then BDs.out HB.out)) (fun _ _ h => h) (fun _ h => h.elim) (fun _ _ => trivial) ((HB.out.mono (by omega : w.heap.size ≤ Vs.heap.size))) (by have := HB.out.size; omega) (by have := HL1.out; omega) ?_
       intro v11 V11 ho hb hg hat
       obtain ⟨rs, e_rs⟩ : ∃ l, l = (ys1 ++ ys2) := ⟨_, rfl⟩
       rw [← e_rs] at ho
       have H_rs := Lib.hid e_rs
       clear e_rs
       obtain ⟨E2B, E2d, hv⟩ := Kd.R_slice ho
       subst hv
       have nHB : Below Vs.heap.size Vs V11 := bel_grown HB.out hg HB.out.size (fun k hk => by exact HOW.out k hk)
       have nHL := Aside0.mk (Nat.le_trans HL.out hg.size)
       clear HB HL E
       have HL := nHL
       clear nHL
       have HB := Aside0.mk nHB
       clear nHB
       have E : Aside0 (Kd.R kRcpt 55 V11 w.heap.size (fun _ => True) (.slice E2B (rs).length E2d) rs) := ⟨ho⟩
       clear ho hb hg hat hVb
       refine hK.out _ _ ?h208 (fun hHeld => ?j208)
       case h208 => exact trivial
       clear hK K
       try simp only [Act.put, List.setIfInBounds_toArray, List.set_cons_zero, List.set_cons_succ]
       refine tk 12 ?v209 ?y209 ?r209
       case y209 => intro w_ hSw; (try dsimp only at hSw); clear hSw; go_simp; (try (with_reducible rfl))
       try simp only [Act.put, List.setIfInBounds_toArray, List.set_cons_zero, List.set_cons_succ]
       generalize hg0 : Vs.heap.size = g0
       exact HKK.out g0 E1B E1d rs E2B E2d V11 ⟨HB.out, E.out, H_rs, hHeld⟩
  case k148 =>
   have cFX_0 : Vs.cell? ⟨w1.heap.size, 0, none⟩ = some (.int .i64 y.f0) := by have h_ := below_blk FX.out HB.out; simp [World.cell?, h_]
   have cFX_1 : Vs.cell? ⟨w1.heap.size, 1, none⟩ = some (.string y.f1.f0) := by have h_ := below_blk FX.out HB.out; simp [World.cell?, h_]
   have cFX_2 : Vs.cell? ⟨w1.heap.size, 2, none⟩ = some (.string y.f1.f1) := by have h_ := below_blk FX.out HB.out; simp [World.cell?, h_]
   have cFX_3 : Vs.cell? ⟨w1.heap.size, 3, none⟩ = some (.slice B0 y.f2.length d0) := by have h_ := below_blk FX.out HB.out; simp [World.cell?, h_]
   have cFX_4 : Vs.cell? ⟨w1.heap.size, 4, none⟩ = some (.slice B1 y.f3.length d1) := by have h_ := below_blk FX.out HB.out; simp [World.cell?, h_]
   go_simp
   refine hK.out _ _ ?h210 (fun hHeld => ?j210)
   case h210 => exact hHeld
   clear hK K
   try simp only [Act.put, List.setIfInBounds_toArray, List.set_cons_zero, List.set_cons_succ]
   refine tk 10 ?v211 ?y211 ?r211
   case y211 => intro w_ hSw; (try dsimp only at hSw); clear hSw; go_simp; (try (with_reducible rfl))
   try simp only [Act.put, List.setIfInBounds_toArray, List.set_cons_zero, List.set_cons_succ]
   refine rdy (rs := [0, 2]) ?_
   refine rc (fun K hK => ?k212) (rc (fun K hK => ?k213) AllReadyH.nil)
   case k212 =>
    go_simp
    clear cFX_0 cFX_1 cFX_2 cFX_3 cFX_4
    generalize hWV0 : World.alloc (Vs) _ = V0
    have ltb := HB.out.size
    have ltl := HL.out
    have TT : ∀ k, k < Vs.heap.size → V0.heap[k]? = Vs.heap[k]? := fun k hk => by rw [← hWV0]; (with_reducible repeat (first | rfl | refine hp_set ?_ ?_ | refine hp_alloc ?_ ?_ | refine hp_drew ?_)); all_goals (first | (with_reducible rfl) | omega | (dsimp only; omega) | (simp; omega))
    have TS : Vs.heap.size + 1 ≤ V0.heap.size := by rw [← hWV0]; simp
    have nBE : V0.heap[Vs.heap.size]? = some (.cells #[] 55 (0, 0)) := by rw [← hWV0]; exact blk_new Vs (.cells #[] 55)
    have nHB : Below Vs.heap.size Vs V0 := by rw [← hWV0]; exact bel_alloc (HB.out) _
    have nE : Kd.R kRcpt 55 V0 w.heap.size (fun _ => True) (.slice (some ⟨Vs.heap.size, 0, none⟩) 0 0) [] := by rw [← hWV0]; exact R_empty kRcpt 55 Vs w.heap.size (by have := ltb; omega) trivial
    clear hWV0  HB 
    have BE := Aside0.mk nBE
    clear nBE
    have E := Aside0.mk nE
    clear nE
    have HB := Aside0.mk nHB
    clear nHB
    have oBE_ltl := ltl
    have oBE_ts := TS
    replace HL := Aside0.mk (Nat.le_trans HL.out (by omega : Vs.heap.size ≤ V0.heap.size))
    clear TT TS ltb ltl
    refine hK.out _ _ ?h214 (fun hHeld => ?j214)
    case h214 => exact trivial
    clear hK K
    try simp only [Act.put, List.setIfInBounds_toArray, List.set_cons_zero, List.set_cons_succ]
    refine rdy (rs := [2]) ?_
    refine rc (fun K hK => ?k215) AllReadyH.nil
    case k215 =>
     have cFX_0 : V0.cell? ⟨w1.heap.size, 0, none⟩ = some (.int .i64 y.f0) := by have h_ := below_blk FX.out HB.out; simp [World.cell?, h_]
     have cFX_1 : V0.cell? ⟨w1.heap.size, 1, none⟩ = some (.string y.f1.f0) := by have h_ := below_blk FX.out HB.out; simp [World.cell?, h_]
     have cFX_2 : V0.cell? ⟨w1.heap.size, 2, none⟩ = some (.string y.f1.f1) := by have h_ := below_blk FX.out HB.out; simp [World.cell?, h_]
     have cFX_3 : V0.cell? ⟨w1.heap.size, 3, none⟩ = some (.slice B0 y.f2.length d0) := by have h_ := below_blk FX.out HB.out; simp [World.cell?, h_]
     have cFX_4 : V0.cell? ⟨w1.heap.size, 4, none⟩ = some (.slice B1 y.f3.length d1) := by have h_ := below_blk FX.out HB.out; simp [World.cell?, h_]
     go_simp
     refine hK.out _ _ ?h216 (fun hHeld => ?j216)
     case h216 => exact hHeld
     clear hK K
     try simp only [Act.put, List.setIfInBounds_toArray, List.set_cons_zero, List.set_cons_succ]
     refine tk 4 ?v217 ?y217 ?r217
     case y217 => intro w_ hSw; (try dsimp only at hSw); clear hSw; go_simp; (try (with_reducible rfl))
     try simp only [Act.put, List.setIfInBounds_toArray, List.set_cons_zero, List.set_cons_succ]
     refine rdy (rs := [5]) ?_
     refine rc (fun K hK => ?k218) AllReadyH.nil
     case k218 =>
      have hVb := HB.out.size
      refine Kd.R_append_rows_step kRcpt (w0 := Vs) (w.heap.size) (by rfl) (.tmp 15) (.tmp 19) 25 55 (.agg #[(.string ⟨#[]⟩), (.string ⟨#[]⟩), (.int .i64 0), (.int .i64 0)]) 48 rfl Tryd.underlying25 info55 rfl (by decide) (by omega) (.slice (some ⟨Vs.heap.size, 0, none⟩) 0 0) [] ys1 (B0) (k) (d0) (fun _ => True) (fun _ => False) rfl rfl E.out (HrT.out _ (bel_then BDs.out HB.out)) (fun _ _ h => h) (fun _ h => h.elim) (fun _ _ => trivial) ((HB.out.mono (by omega : w.heap.size ≤ Vs.heap.size))) (by have := HB.out.size; omega) (by simp; omega) ?_
      intro v5 V5 ho hb hg hat
      rw [List.nil_append] at ho
      obtain ⟨E1B, E1d, hv⟩ := Kd.R_slice ho
      subst hv
      have nHB : Below Vs.heap.size Vs V5 := bel_grown HB.out hg HB.out.size (fun k hk => by simp [Value.ownBlock] at hk; omega)
      have nHL := Aside0.mk (Nat.le_trans HL.out hg.size)
      clear cFX_0 cFX_1 cFX_2 cFX_3 cFX_4
      clear HB HL BE E
      have HL := nHL
      clear nHL
      have HB := Aside0.mk nHB
      clear nHB
      have HOW : Aside0 (∀ q_, (Value.slice E1B ys1.length E1d).ownBlock = some q_ → Vs.heap.size ≤ q_) := ⟨fun q_ hk => by (rcases hat with h1 | ⟨b1, h1, h2⟩; (rw [h1] at hk; simp [Value.ownBlock] at hk; omega); (rw [h1] at hk; have h3 := Option.some.inj hk; omega))⟩
      have E : Aside0 (Kd.R kRcpt 55 V5 w.heap.size (fun _ => True) (.slice E1B (ys1).length E1d) ys1) := ⟨ho⟩
      clear ho hb hg hat hVb
      refine hK.out _ _ ?h219 (fun hHeld => ?j219)
      case h219 => exact trivial
      clear hK K
      try simp only [Act.put, List.setIfInBounds_toArray, List.set_cons_zero, List.set_cons_succ]
      refine rdy (rs := [11]) ?_
      refine rc (fun K hK => ?k220) AllReadyH.nil
      case k220 =>
       have hVb := HB.out.size
       refine Kd.R_append_rows_step kRcpt (w0 := Vs) (w.heap.size) (by rfl) (.tmp 20) (.tmp 25) 25 55 (.agg #[(.string ⟨#[]⟩), (.string ⟨#[]⟩), (.int .i64 0), (.int .i64 0)]) 48 rfl Tryd.underlying25 info55 rfl (by decide) (by omega) (.slice E1B (ys1).length E1d) ys1 ys2 (D0) ((y.f2.length - (k + 1))) ((d0 - (k + 1))) (fun _ => True) (fun _ => False) rfl rfl E.out (HrF.out _ (bel_then BDs.out HB.out)) (fun _ _ h => h) (fun _ h => h.elim) (fun _ _ => trivial) ((HB.out.mono (by omega : w.heap.size ≤ Vs.heap.size))) (by have := HB.out.size; omega) (by have := HL1.out; omega) ?_
       intro v11 V11 ho hb hg hat
       obtain ⟨rs, e_rs⟩ : ∃ l, l = (ys1 ++ ys2) := ⟨_, rfl⟩
       rw [← e_rs] at ho
       have H_rs := Lib.hid e_rs
       clear e_rs
       obtain ⟨E2B, E2d, hv⟩ := Kd.R_slice ho
       subst hv
       have nHB : Below Vs.heap.size Vs V11 := bel_grown HB.out hg HB.out.size (fun k hk => by exact HOW.out k hk)
       have nHL := Aside0.mk (Nat.le_trans HL.out hg.size)
       clear HB HL E
       have HL := nHL
       clear nHL
       have HB := Aside0.mk nHB
       clear nHB
       have E : Aside0 (Kd.R kRcpt 55 V11 w.heap.size (fun _ => True) (.slice E2B (rs).length E2d) rs) := ⟨ho⟩
       clear ho hb hg hat hVb
       refine hK.out _ _ ?h221 (fun hHeld => ?j221)
       case h221 => exact trivial
       clear hK K
       try simp only [Act.put, List.setIfInBounds_toArray, List.set_cons_zero, List.set_cons_succ]
       refine tk 12 ?v222 ?y222 ?r222
       case y222 => intro w_ hSw; (try dsimp only at hSw); clear hSw; go_simp; (try (with_reducible rfl))
       try simp only [Act.put, List.setIfInBounds_toArray, List.set_cons_zero, List.set_cons_succ]
       generalize hg0 : Vs.heap.size = g0
       exact HKK.out g0 E1B E1d rs E2B E2d V11 ⟨HB.out, E.out, H_rs, hHeld⟩
   case k213 =>
    clear cFX_0 cFX_1 cFX_2 cFX_3 cFX_4
    have cFX_0 : Vs.cell? ⟨w1.heap.size, 0, none⟩ = some (.int .i64 y.f0) := by have h_ := below_blk FX.out HB.out; simp [World.cell?, h_]
    have cFX_1 : Vs.cell? ⟨w1.heap.size, 1, none⟩ = some (.string y.f1.f0) := by have h_ := below_blk FX.out HB.out; simp [World.cell?, h_]
    have cFX_2 : Vs.cell? ⟨w1.heap.size, 2, none⟩ = some (.string y.f1.f1) := by have h_ := below_blk FX.out HB.out; simp [World.cell?, h_]
    have cFX_3 : Vs.cell? ⟨w1.heap.size, 3, none⟩ = some (.slice B0 y.f2.length d0) := by have h_ := below_blk FX.out HB.out; simp [World.cell?, h_]
    have cFX_4 : Vs.cell? ⟨w1.heap.size, 4, none⟩ = some (.slice B1 y.f3.length d1) := by have h_ := below_blk FX.out HB.out; simp [World.cell?, h_]
    go_simp
    refine hK.out _ _ ?h223 (fun hHeld => ?j223)
    case h223 => exact hHeld
    clear hK K
    try simp only [Act.put, List.setIfInBounds_toArray, List.set_cons_zero, List.set_cons_succ]
    refine tk 4 ?v224 ?y224 ?r224
    case y224 => intro w_ hSw; (try dsimp only at hSw); clear hSw; go_simp; (try (with_reducible rfl))
    try simp only [Act.put, List.setIfInBounds_toArray, List.set_cons_zero, List.set_cons_succ]
    refine rdy (rs := [0]) ?_
    refine rc (fun K hK => ?k225) AllReadyH.nil
    case k225 =>
     go_simp
     clear cFX_0 cFX_1 cFX_2 cFX_3 cFX_4
     generalize hWV0 : World.alloc (Vs) _ = V0
     have ltb := HB.out.size
     have ltl := HL.out
     have TT : ∀ k, k < Vs.heap.size → V0.heap[k]? = Vs.heap[k]? := fun k hk => by rw [← hWV0]; (with_reducible repeat (first | rfl | refine hp_set ?_ ?_ | refine hp_alloc ?_ ?_ | refine hp_drew ?_)); all_goals (first | (with_reducible rfl) | omega | (dsimp only; omega) | (simp; omega))
     have TS : Vs.heap.size + 1 ≤ V0.heap.size := by rw [← hWV0]; simp
     have nBE : V0.heap[Vs.heap.size]? = some (.cells #[] 55 (0, 0)) := by rw [← hWV0]; exact blk_new Vs (.cells #[] 55)
     have nHB : Below Vs.heap.size Vs V0 := by rw [← hWV0]; exact bel_alloc (HB.out) _
     have nE : Kd.R kRcpt 55 V0 w.heap.size (fun _ => True) (.slice (some ⟨Vs.heap.size, 0, none⟩) 0 0) [] := by rw [← hWV0]; exact R_empty kRcpt 55 Vs w.heap.size (by have := ltb; omega) trivial
     clear hWV0  HB 
     have BE := Aside0.mk nBE
     clear nBE
     have E := Aside0.mk nE
     clear nE
     have HB := Aside0.mk nHB
     clear nHB
     have oBE_ltl := ltl
     have oBE_ts := TS
     replace HL := Aside0.mk (Nat.le_trans HL.out (by omega : Vs.heap.size ≤ V0.heap.size))
     clear TT TS ltb ltl
     refine hK.out _ _ ?h226 (fun hHeld => ?j226)
     case h226 => exact trivial
     clear hK K
     try simp only [Act.put, List.setIfInBounds_toArray, List.set_cons_zero, List.set_cons_succ]
     refine rdy (rs := [5]) ?_
     refine rc (fun K hK => ?k227) AllReadyH.nil
     case k227 =>
      have hVb := HB.out.size
      refine Kd.R_append_rows_step kRcpt (w0 := Vs) (w.heap.size) (by rfl) (.tmp 15) (.tmp 19) 25 55 (.agg #[(.string ⟨#[]⟩), (.string ⟨#[]⟩), (.int .i64 0), (.int .i64 0)]) 48 rfl Tryd.underlying25 info55 rfl (by decide) (by omega) (.slice (some ⟨Vs.heap.size, 0, none⟩) 0 0) [] ys1 (B0) (k) (d0) (fun _ => True) (fun _ => False) rfl rfl E.out (HrT.out _ (bel_then BDs.out HB.out)) (fun _ _ h => h) (fun _ h => h.elim) (fun _ _ => trivial) ((HB.out.mono (by omega : w.heap.size ≤ Vs.heap.size))) (by have := HB.out.size; omega) (by simp; omega) ?_
      intro v5 V5 ho hb hg hat
      rw [List.nil_append] at ho
      obtain ⟨E1B, E1d, hv⟩ := Kd.R_slice ho
      subst hv
      have nHB : Below Vs.heap.size Vs V5 := bel_grown HB.out hg HB.out.size (fun k hk => by simp [Value.ownBlock] at hk; omega)
      have nHL := Aside0.mk (Nat.le_trans HL.out hg.size)
      clear HB HL BE E
      have HL := nHL
      clear nHL
      have HB := Aside0.mk nHB
      clear nHB
      have HOW : Aside0 (∀ q_, (Value.slice E1B ys1.length E1d).ownBlock = some q_ → Vs.heap.size ≤ q_) := ⟨fun q_ hk => by (rcases hat with h1 | ⟨b1, h1, h2⟩; (rw [h1] at hk; simp [Value.ownBlock] at hk; omega); (rw [h1] at hk; have h3 := Option.some.inj hk; omega))⟩
      have E : Aside0 (Kd.R kRcpt 55 V5 w.heap.size (fun _ => True) (.slice E1B (ys1).length E1d) ys1) := ⟨ho⟩
      clear ho hb hg hat hVb
      refine hK.out _ _ ?h228 (fun hHeld => ?j228)
      case h228 => exact trivial
      clear hK K
      try simp only [Act.put, List.setIfInBounds_toArray, List.set_cons_zero, List.set_cons_succ]
      refine rdy (rs := [11]) ?_
      refine rc (fun K hK => ?k229) AllReadyH.nil
      case k229 =>
       have hVb := HB.out.size
       refine Kd.R_append_rows_step kRcpt (w0 := Vs) (w.heap.size) (by rfl) (.tmp 20) (.tmp 25) 25 55 (.agg #[(.string ⟨#[]⟩), (.string ⟨#[]⟩), (.int .i64 0), (.int .i64 0)]) 48 rfl Tryd.underlying25 info55 rfl (by decide) (by omega) (.slice E1B (ys1).length E1d) ys1 ys2 (D0) ((y.f2.length - (k + 1))) ((d0 - (k + 1))) (fun _ => True) (fun _ => False) rfl rfl E.out (HrF.out _ (bel_then BDs.out HB.out)) (fun _ _ h => h) (fun _ h => h.elim) (fun _ _ => trivial) ((HB.out.mono (by omega : w.heap.size ≤ Vs.heap.size))) (by have := HB.out.size; omega) (by have := HL1.out; omega) ?_
       intro v11 V11 ho hb hg hat
       obtain ⟨rs, e_rs⟩ : ∃ l, l = (ys1 ++ ys2) := ⟨_, rfl⟩
       rw [← e_rs] at ho
       have H_rs := Lib.hid e_rs
       clear e_rs
       obtain ⟨E2B, E2d, hv⟩ := Kd.R_slice ho
       subst hv
       have nHB : Below Vs.heap.size Vs V11 := bel_grown HB.out hg HB.out.size (fun k hk => by exact HOW.out k hk)
       have nHL := Aside0.mk (Nat.le_trans HL.out hg.size)
       clear HB HL E
       have HL := nHL
       clear nHL
       have HB := Aside0.mk nHB
       clear nHB
       have E : Aside0 (Kd.R kRcpt 55 V11 w.heap.size (fun _ => True) (.slice E2B (rs).length E2d) rs) := ⟨ho⟩
       clear ho hb hg hat hVb
       refine hK.out _ _ ?h230 (fun hHeld => ?j230)
       case h230 => exact trivial
       clear hK K
       try simp only [Act.put, List.setIfInBounds_toArray, List.set_cons_zero, List.set_cons_succ]
       refine tk 12 ?v231 ?y231 ?r231
       case y231 => intro w_ hSw; (try dsimp only at hSw); clear hSw; go_simp; (try (with_reducible rfl))
       try simp only [Act.put, List.setIfInBounds_toArray, List.set_cons_zero, List.set_cons_succ]
       generalize hg0 : Vs.heap.size = g0
       exact HKK.out g0 E1B E1d rs E2B E2d V11 ⟨HB.out, E.out, H_rs, hHeld⟩
 case hk =>
  clear hHeld HBj
  intro g0 E1B E1d rs E2B E2d V ⟨hB, hE, hx0, hHeld⟩
  clear join
  replace F0 := Aside0.mk (below_blk F0.out hB)
  replace F2 := Aside0.mk (below_blk F2.out hB)
  replace FX := Aside0.mk (below_blk FX.out hB)
  replace HS := Aside0.mk (Kd.R_below HS.out hB)
  replace U0 := Aside0.mk (Kd.R_below U0.out hB)
  replace U1 := Aside0.mk (Kd.R_below U1.out hB)
  have E := Aside0.mk hE
  clear hE
  have HB := Aside0.mk (bel_then HBo.out hB)
  have HL := Aside0.mk (Nat.le_trans HLo.out hB.size)
  clear HBo HLo hB
  refine rdy (rs := [13]) ?_
  refine rc (fun K hK => ?k232) AllReadyH.nil
  case k232 =>
   have zFX := blk_lt FX.out
   have cFX_0 : V.cell? ⟨w1.heap.size, 0, none⟩ = some (.int .i64 y.f0) := clq FX.out 0 rfl
   have dFX_0 := fzq FX.out 0
   have cFX_1 : V.cell? ⟨w1.heap.size, 1, none⟩ = some (.string y.f1.f0) := clq FX.out 1 rfl
   have dFX_1 := fzq FX.out 1
   have cFX_2 : V.cell? ⟨w1.heap.size, 2, none⟩ = some (.string y.f1.f1) := clq FX.out 2 rfl
   have dFX_2 := fzq FX.out 2
   have cFX_3 : V.cell? ⟨w1.heap.size, 3, none⟩ = some (.slice B0 y.f2.length d0) := clq FX.out 3 rfl
   have dFX_3 := fzq FX.out 3
   have cFX_4 : V.cell? ⟨w1.heap.size, 4, none⟩ = some (.slice B1 y.f3.length d1) := clq FX.out 4 rfl
   have dFX_4 := fzq FX.out 4
   go_simp
   generalize hWV13 : World.setCell (V) _ _ = V13
   have ltF0 := blk_lt F0.out
   have ltF2 := blk_lt F2.out
   have ltFX := blk_lt FX.out
   have ltb := HB.out.size
   have ltl := HL.out
   have TT : ∀ k, k < V.heap.size → k ≠ w1.heap.size → V13.heap[k]? = V.heap[k]? := fun k hk n_FX => by rw [← hWV13]; (with_reducible repeat (first | rfl | refine hp_set ?_ ?_ | refine hp_alloc ?_ ?_ | refine hp_drew ?_)); all_goals (first | (with_reducible rfl) | omega | (dsimp only; omega) | (simp; omega))
   have TS : V.heap.size + 0 ≤ V13.heap.size := by rw [← hWV13]; simp
   have nF0 : V13.heap[w.heap.size]? = some (.cells #[.int .i64 s.f0, .slice (some ad) s.f1.length c0] 43 (0, 0)) := (TT _ ltF0 (by omega)).trans F0.out
   have nF2 : V13.heap[w.heap.size + 1]? = some (.cells #[.int .i64 0, .slice none 0 0] 43 (0, 0)) := (TT _ ltF2 (by omega)).trans F2.out
   have nFX : V13.heap[w1.heap.size]? = some (.cells #[.int .i64 y.f0, .string y.f1.f0, .string y.f1.f1, .slice E2B rs.length E2d, .slice B1 y.f3.length d1] 28 (0, 0)) := by rw [← hWV13]; have h := blk_set1 (FX.out) 3 (.slice E2B rs.length E2d); simpa using h
   have nHS : Kd.R kItem 28 V13 b (fun k => k < w.heap.size) (.slice (some ad) s.f1.length c0) s.f1 := Kd.R_step HS.out (fun k hk hlt => TT k hlt (by have h_ : k < w.heap.size := hk; omega))
   have nU0 : Kd.R kRcpt 55 V13 w.heap.size (fun _ => True) (.slice B0 y.f2.length d0) y.f2 := R_keepT U0.out rfl (fun k hk ho => TT k hk (fun e => Kd.R_ne U0.out FX.out (by decide) (e ▸ ho)))
   have nU1 : Kd.R Kd.string 9 V13 w.heap.size (fun _ => True) (.slice B1 y.f3.length d1) y.f3 := R_keepT U1.out rfl (fun k hk ho => TT k hk (fun e => Kd.R_ne U1.out FX.out (by decide) (e ▸ ho)))
   have nE : Kd.R kRcpt 55 V13 w.heap.size (fun _ => True) (.slice E2B rs.length E2d) rs := R_keepT E.out rfl (fun k hk ho => TT k hk (fun e => Kd.R_ne E.out FX.out (by decide) (e ▸ ho)))
   have nHB : Below w.heap.size w V13 := by rw [← hWV13]; exact bel_set (HB.out) _ (by show w.heap.size ≤ w1.heap.size; first | omega | (simp; omega))
   clear zFX cFX_0 dFX_0 cFX_1 dFX_1 cFX_2 dFX_2 cFX_3 dFX_3 cFX_4 dFX_4
   clear hWV13 F0 F2 FX HB HS U0 U1 E
   have F0 := Aside0.mk nF0
   clear nF0
   have F2 := Aside0.mk nF2
   clear nF2
   have FX := Aside0.mk nFX
   clear nFX
   have HS := Aside0.mk nHS
   clear nHS
   have U0 := Aside0.mk nU0
   clear nU0
   have U1 := Aside0.mk nU1
   clear nU1
   have E := Aside0.mk nE
   clear nE
   have HB := Aside0.mk nHB
   clear nHB
   replace HL := Aside0.mk (Nat.le_trans HL.out (by omega : V.heap.size ≤ V13.heap.size))
   clear TT TS ltF0 ltF2 ltFX ltb ltl
   refine hK.out _ _ ?h233 (fun hHeld => ?j233)
   case h233 => exact trivial
   clear hK K hHeld
   try simp only [Act.put, List.setIfInBounds_toArray, List.set_cons_zero, List.set_cons_succ]
   refine wpAnyH_done (by kernel_rfl) ?_ _
   skip
   have HRS : Hid (rs = y.f2.take k ++ y.f2.drop (k + 1)) := Lib.hid (by rw [hx0.out, HE1.out, HE2.out])
   have hrl : rs.length ≤ 1048576 := by have h1 := HL1.out; have h2 := HL2.out; rw [hx0.out, List.length_append]; omega
   clear U0 HrT HrF hcT hcF hwk hx0 HE1 HE2 HL1 HL2
   have hc0 : s.f1.length ≤ c0 := (Kd.R_reads' HS.out).2.1
   have hcT := cut_to (P := Tryd.prog) 41 28 .i64 (by rfl) (by rfl) (some ad) s.f1.length c0 (a : Int) (by omega) (by omega) hc0
   rw [Int.toNat_natCast] at hcT
   have hcF := cut_from (P := Tryd.prog) 41 28 .i64 (by rfl) (by rfl) 5 (by rfl) (some ad) s.f1.length c0 ((a : Int) + 1) (by omega) (by omega)
   rw [show ((a : Int) + 1).toNat = a + 1 by omega] at hcF
   have hrT : ∀ W, Kd.R kItem 28 W b (fun k => k < w.heap.size) (.slice (some ad) s.f1.length c0) s.f1 → ReadsRow (kItem.M W b (fun k => k < w.heap.size)) kItem.sz W (some ad) a (s.f1.take a) := fun W h0 => by
    have h := rr_take (m := a) (R_readsM h0) (by omega)
    rwa [show (s.f1.take a).length = a by rw [List.length_take]; omega] at h
   have hrF : ∀ W, Kd.R kItem 28 W b (fun k => k < w.heap.size) (.slice (some ad) s.f1.length c0) s.f1 → ReadsRow (kItem.M W b (fun k => k < w.heap.size)) kItem.sz W (if c0 = a + 1 then (some ad : Option Addr) else (some ad : Option Addr).map (·.add ((a + 1) * 5))) (s.f1.length - (a + 1)) (s.f1.drop (a + 1)) := fun W h0 => by
    have h := rr_drop (m := a + 1) (R_readsM h0) (by omega) hc0
    rwa [List.length_drop] at h
   generalize (if c0 = a + 1 then (some ad : Option Addr) else (some ad : Option Addr).map (·.add ((a + 1) * 5))) = D1 at hcF hrF
   have hl1_ : (s.f1.take a).length = a := by rw [List.length_take]; omega
   have hl2_ : (s.f1.drop (a + 1)).length = s.f1.length - (a + 1) := List.length_drop
   obtain ⟨tk, e1⟩ : ∃ l, l = s.f1.take a := ⟨_, rfl⟩
   obtain ⟨dr, e2⟩ : ∃ l, l = s.f1.drop (a + 1) := ⟨_, rfl⟩
   rw [← e1] at hrT hl1_
   rw [← e2] at hrF hl2_
   have HE1 := Lib.hid e1
   have HE2 := Lib.hid e2
   have HL1 := Lib.hid hl1_
   have HL2 := Lib.hid hl2_
   have HrT := Lib.hid hrT
   have HrF := Lib.hid hrF
   clear hrT hrF e1 e2 hl1_ hl2_
   have zF0 := blk_lt F0.out
   have cF0_0 : V13.cell? ⟨w.heap.size, 0, none⟩ = some (.int .i64 s.f0) := clq F0.out 0 rfl
   have cF0_1 : V13.cell? ⟨w.heap.size, 1, none⟩ = some (.slice (some ad) s.f1.length c0) := clq F0.out 1 rfl
   have zFX := blk_lt FX.out
   have cFX_0 : V13.cell? ⟨w1.heap.size, 0, none⟩ = some (.int .i64 y.f0) := clq FX.out 0 rfl
   have cFX_1 : V13.cell? ⟨w1.heap.size, 1, none⟩ = some (.string y.f1.f0) := clq FX.out 1 rfl
   have cFX_2 : V13.cell? ⟨w1.heap.size, 2, none⟩ = some (.string y.f1.f1) := clq FX.out 2 rfl
   have cFX_3 : V13.cell? ⟨w1.heap.size, 3, none⟩ = some (.slice E2B rs.length E2d) := clq FX.out 3 rfl
   have cFX_4 : V13.cell? ⟨w1.heap.size, 4, none⟩ = some (.slice B1 y.f3.length d1) := clq FX.out 4 rfl
   by_cases hrs : 0 < rs.length
   ·have hrs' : (0 : Int) < (rs.length : Int) := by omega
    go_wp2_with (first | (((with_reducible refine gate_builtin (b := .append) (xs := #[.tmp 28, .tmp 32]) rfl ?_); (try (refine gate_guard (by rfl) ?_; dsimp only)); at_builtin); (generalize hWWE : World.alloc (V13) _ = WE); (have ltF0 := blk_lt F0.out); (have ltF2 := blk_lt F2.out); (have ltFX := blk_lt FX.out); (have ltb := HB.out.size); (have ltl := HL.out); (have TT : ∀ k, k < V13.heap.size → WE.heap[k]? = V13.heap[k]? := fun k hk => by rw [← hWWE]; (with_reducible repeat (first | rfl | refine hp_set ?_ ?_ | refine hp_alloc ?_ ?_ | refine hp_drew ?_)); all_goals (first | (with_reducible rfl) | omega | (dsimp only; omega) | (simp; omega))); (have TS : V13.heap.size + 1 ≤ WE.heap.size := by rw [← hWWE]; simp); (have nF0 : WE.heap[w.heap.size]? = some (.cells #[.int .i64 s.f0, .slice (some ad) s.f1.length c0] 43 (0, 0)) := (TT _ ltF0).trans F0.out); (have nF2 : WE.heap[w.heap.size + 1]? = some (.cells #[.int .i64 0, .slice none 0 0] 43 (0, 0)) := (TT _ ltF2).trans F2.out); (have nFX : WE.heap[w1.heap.size]? = some (.cells #[.int .i64 y.f0, .string y.f1.f0, .string y.f1.f1, .slice E2B rs.length E2d, .slice B1 y.f3.length d1] 28 (0, 0)) := (TT _ ltFX).trans FX.out); (have nBG : WE.heap[V13.heap.size]? = some (.cells #[] 28 (0, 0)) := by rw [← hWWE]; exact blk_new V13 (.cells #[] 28)); (have nHS : Kd.R kItem 28 WE b (fun k => k < w.heap.size) (.slice (some ad) s.f1.length c0) s.f1 := Kd.R_step HS.out (fun k hk hlt => TT k hlt)); (have nU1 : Kd.R Kd.string 9 WE w.heap.size (fun _ => True) (.slice B1 y.f3.length d1) y.f3 := R_keepT U1.out rfl (fun k hk ho => TT k hk)); (have nE : Kd.R kRcpt 55 WE w.heap.size (fun _ => True) (.slice E2B rs.length E2d) rs := R_keepT E.out rfl (fun k hk ho => TT k hk)); (have nHB : Below w.heap.size w WE := by rw [← hWWE]; exact bel_alloc (HB.out) _); (have nG : Kd.R kItem 28 WE b (fun _ => True) (.slice (some ⟨V13.heap.size, 0, none⟩) 0 0) [] := by rw [← hWWE]; exact R_empty kItem 28 V13 b (by have := ltb; omega) trivial); (clear zF0 cF0_0 cF0_1 zFX cFX_0 cFX_1 cFX_2 cFX_3 cFX_4); (clear hWWE F0 F2 FX HB HS U1 E); (have F0 := Aside0.mk nF0); (clear nF0); (have F2 := Aside0.mk nF2); (clear nF2); (have FX := Aside0.mk nFX); (clear nFX); (have BG := Aside0.mk nBG); (clear nBG); (have HS := Aside0.mk nHS); (clear nHS); (have U1 := Aside0.mk nU1); (clear nU1); (have E := Aside0.mk nE); (clear nE); (have G := Aside0.mk nG); (clear nG); (have HB := Aside0.mk nHB); (clear nHB); (have oBG_ltF0 := ltF0); (have oBG_ltF2 := ltF2); (have oBG_ltFX := ltFX); (have oBG_ltl := ltl); (have oBG_ts := TS); (replace HL := Aside0.mk (Nat.le_trans HL.out (by omega : V13.heap.size ≤ WE.heap.size))); (clear TT TS ltF0 ltF2 ltFX ltb ltl); (have hVb := HB.out.size); (refine Kd.R_append_rows kItem (w0 := w) (b) rfl (.tmp 28) (.tmp 32) 41 28 (.agg #[(.int .i64 0), (.string ⟨#[]⟩), (.string ⟨#[]⟩), (.slice none 0 0), (.slice none 0 0)]) 88 rfl Tryd.underlying41 info28 rfl (by decide) (by omega) (.slice (some ⟨V13.heap.size, 0, none⟩) 0 0) [] tk ((some ad)) (a) (c0) (fun _ => True) (fun k => k < w.heap.size) rfl rfl G.out (HrT.out _ HS.out) (fun _ _ h => h) (fun k hk => ⟨trivial, fun e => by have h_ : k < w.heap.size := hk; have e2 : k = V13.heap.size := Option.some.inj e; omega⟩) (fun _ _ => trivial) ((HB.out.mono hb)) (by have := HB.out.size; omega) (by simp; omega) ?_); (intro vv wa ho hb hg hat); (rw [List.nil_append] at ho); (obtain ⟨GB, Gd, hv⟩ := Kd.R_slice ho); (subst hv); (have nHB : Below w.heap.size w wa := bel_grown HB.out hg HB.out.size (fun k hk => by (simp [Value.ownBlock] at hk; omega))); (have nF0 : wa.heap[w.heap.size]? = some (.cells #[.int .i64 s.f0, .slice (some ad) s.f1.length c0] 43 (0, 0)) := (hg.block _ (blk_lt F0.out) (Kd.R_ne G.out F0.out (by decide))).trans F0.out); (have nF2 : wa.heap[w.heap.size + 1]? = some (.cells #[.int .i64 0, .slice none 0 0] 43 (0, 0)) := (hg.block _ (blk_lt F2.out) (Kd.R_ne G.out F2.out (by decide))).trans F2.out); (have nFX : wa.heap[w1.heap.size]? = some (.cells #[.int .i64 y.f0, .string y.f1.f0, .string y.f1.f1, .slice E2B rs.length E2d, .slice B1 y.f3.length d1] 28 (0, 0)) := (hg.block _ (blk_lt FX.out) (fun e => by have e := Option.some.inj e; (try dsimp only at e); omega)).trans FX.out); (have nHS : Kd.R kItem 28 wa b (fun k => k < w.heap.size) (.slice (some ad) s.f1.length c0) s.f1 := Kd.R_step HS.out (fun k hk hlt => hg.block k hlt (fun e => by have h1_ : k < w.heap.size := hk; (simp [Value.ownBlock] at e); omega))); (have nU1 : Kd.R Kd.string 9 wa w.heap.size (fun _ => True) (.slice B1 y.f3.length d1) y.f3 := Kd.R_over' U1.out (Kd.R_typed G.out) (by decide) hg); (have nE : Kd.R kRcpt 55 wa w.heap.size (fun _ => True) (.slice E2B rs.length E2d) rs := Kd.R_over' E.out (Kd.R_typed G.out) (by decide) hg); (have nHL := Aside0.mk (Nat.le_trans HL.out hg.size)); (clear HB HL F0 F2 FX BG HS U1 E G); (have F0 := Aside0.mk nF0); (clear nF0); (have F2 := Aside0.mk nF2); (clear nF2); (have FX := Aside0.mk nFX); (clear nFX); (have HS := Aside0.mk nHS); (clear nHS); (have U1 := Aside0.mk nU1); (clear nU1); (have E := Aside0.mk nE); (clear nE); (have HL := nHL); (clear nHL); (have HB := Aside0.mk nHB); (clear nHB); (have HOW : Aside0 (∀ q_, (Value.slice GB tk.length Gd).ownBlock = some q_ → w.heap.size ≤ q_) := ⟨fun q_ hk => by (rcases hat with h1 | ⟨b1, h1, h2⟩; (rw [h1] at hk; simp [Value.ownBlock] at hk; omega); (rw [h1] at hk; have h3 := Option.some.inj hk; omega))⟩); (have G : Aside0 (Kd.R kItem 28 wa b (fun _ => True) (.slice GB (tk).length Gd) tk) := ⟨ho⟩); (clear ho hb hg hat hVb); (have zF0 := blk_lt F0.out); (have cF0_0 : wa.cell? ⟨w.heap.size, 0, none⟩ = some (.int .i64 s.f0) := clq F0.out 0 rfl); (have cF0_1 : wa.cell? ⟨w.heap.size, 1, none⟩ = some (.slice (some ad) s.f1.length c0) := clq F0.out 1 rfl); (have zFX := blk_lt FX.out); (have cFX_0 : wa.cell? ⟨w1.heap.size, 0, none⟩ = some (.int .i64 y.f0) := clq FX.out 0 rfl); (have cFX_1 : wa.cell? ⟨w1.heap.size, 1, none⟩ = some (.string y.f1.f0) := clq FX.out 1 rfl); (have cFX_2 : wa.cell? ⟨w1.heap.size, 2, none⟩ = some (.string y.f1.f1) := clq FX.out 2 rfl); (have cFX_3 : wa.cell? ⟨w1.heap.size, 3, none⟩ = some (.slice E2B rs.length E2d) := clq FX.out 3 rfl); (have cFX_4 : wa.cell? ⟨w1.heap.size, 4, none⟩ = some (.slice B1 y.f3.length d1) := clq FX.out 4 rfl)) | (((with_reducible refine gate_builtin (b := .append) (xs := #[.tmp 38, .tmp 40]) rfl ?_); (try (refine gate_guard (by rfl) ?_; dsimp only)); at_builtin); (generalize hWwb : World.alloc (wa) _ = wb); (have ltF0 := blk_lt F0.out); (have ltF2 := blk_lt F2.out); (have ltFX := blk_lt FX.out); (have ltb := HB.out.size); (have ltl := HL.out); (have TT : ∀ k, k < wa.heap.size → wb.heap[k]? = wa.heap[k]? := fun k hk => by rw [← hWwb]; (with_reducible repeat (first | rfl | refine hp_set ?_ ?_ | refine hp_alloc ?_ ?_ | refine hp_drew ?_)); all_goals (first | (with_reducible rfl) | omega | (dsimp only; omega) | (simp; omega))); (have TS : wa.heap.size + 1 ≤ wb.heap.size := by rw [← hWwb]; simp); (have nF0 : wb.heap[w.heap.size]? = some (.cells #[.int .i64 s.f0, .slice (some ad) s.f1.length c0] 43 (0, 0)) := (TT _ ltF0).trans F0.out); (have nF2 : wb.heap[w.heap.size + 1]? = some (.cells #[.int .i64 0, .slice none 0 0] 43 (0, 0)) := (TT _ ltF2).trans F2.out); (have nFX : wb.heap[w1.heap.size]? = some (.cells #[.int .i64 y.f0, .string y.f1.f0, .string y.f1.f1, .slice E2B rs.length E2d, .slice B1 y.f3.length d1] 28 (0, 0)) := (TT _ ltFX).trans FX.out); (have nFB : wb.heap[wa.heap.size]? = some (.cells #[.int .i64 y.f0, .string y.f1.f0, .string y.f1.f1, .slice E2B rs.length E2d, .slice B1 y.f3.length d1] 28 (0, 0)) := by rw [← hWwb]; exact blk_new wa (.cells #[.int .i64 y.f0, .string y.f1.f0, .string y.f1.f1, .slice E2B rs.length E2d, .slice B1 y.f3.length d1] 28)); (have nHS : Kd.R kItem 28 wb b (fun k => k < w.heap.size) (.slice (some ad) s.f1.length c0) s.f1 := Kd.R_step HS.out (fun k hk hlt => TT k hlt)); (have nU1 : Kd.R Kd.string 9 wb w.heap.size (fun _ => True) (.slice B1 y.f3.length d1) y.f3 := R_keepT U1.out rfl (fun k hk ho => TT k hk)); (have nE : Kd.R kRcpt 55 wb w.heap.size (fun _ => True) (.slice E2B rs.length E2d) rs := R_keepT E.out rfl (fun k hk ho => TT k hk)); (have nG : Kd.R kItem 28 wb b (fun _ => True) (.slice GB (tk).length Gd) tk := Kd.R_mono (Kd.R_step (G.out) (fun k hk hlt => TT k hlt)) (fun _ hk => hk)); (have nHB : Below w.heap.size w wb := by rw [← hWwb]; exact bel_alloc (HB.out) _); (clear zF0 cF0_0 cF0_1 zFX cFX_0 cFX_1 cFX_2 cFX_3 cFX_4); (clear hWwb F0 F2 FX HB HS U1 E G); (have F0 := Aside0.mk nF0); (clear nF0); (have F2 := Aside0.mk nF2); (clear nF2); (have FX := Aside0.mk nFX); (clear nFX); (have FB := Aside0.mk nFB); (clear nFB); (have HS := Aside0.mk nHS); (clear nHS); (have U1 := Aside0.mk nU1); (clear nU1); (have E := Aside0.mk nE); (clear nE); (have G := Aside0.mk nG); (clear nG); (have HB := Aside0.mk nHB); (clear nHB); (have oFB_ltF0 := ltF0); (have oFB_ltF2 := ltF2); (have oFB_ltFX := ltFX); (have oFB_ltl := ltl); (have oFB_ts := TS); (replace HL := Aside0.mk (Nat.le_trans HL.out (by omega : wa.heap.size ≤ wb.heap.size))); (clear TT TS ltF0 ltF2 ltFX ltb ltl); (have hVb := HB.out.size); (refine Kd.R_append_rows kItem (w0 := w) (b) rfl (.tmp 38) (.tmp 40) 41 28 (.agg #[(.int .i64 0), (.string ⟨#[]⟩), (.string ⟨#[]⟩), (.slice none 0 0), (.slice none 0 0)]) 88 rfl Tryd.underlying41 info28 rfl (by decide) (by omega) (.slice GB (tk).length Gd) tk [(⟨y.f0, y.f1, rs, y.f3⟩ : SItem)] ((some ⟨wa.heap.size, 0, none⟩)) (1) (1) (fun _ => True) (NotT wb 28) rfl rfl G.out (rr_one FB.out (kItem_mkM wb b (NotT wb 28) (⟨y.f0, y.f1, rs, y.f3⟩ : SItem) (Kd.R_lower (R_notT E.out (by decide)) hb) (Kd.R_lower (R_notT U1.out (by decide)) hb)) rfl) (fun _ _ h => h) (ok_notT G.out) (fun _ _ => trivial) ((HB.out.mono hb)) (by have := HB.out.size; omega) (by have := HL1.out; omega) ?_); (intro vv wc ho hb hg hat); (obtain ⟨tx, e_tx⟩ : ∃ l, l = (tk ++ [(⟨y.f0, y.f1, rs, y.f3⟩ : SItem)]) := ⟨_, rfl⟩); (rw [← e_tx] at ho); (have H_tx := Lib.hid e_tx); (clear e_tx); (obtain ⟨G2B, G2d, hv⟩ := Kd.R_slice ho); (subst hv); (have nHB : Below w.heap.size w wc := bel_grown HB.out hg HB.out.size (fun k hk => by exact HOW.out k hk)); (have nF0 : wc.heap[w.heap.size]? = some (.cells #[.int .i64 s.f0, .slice (some ad) s.f1.length c0] 43 (0, 0)) := (hg.block _ (blk_lt F0.out) (Kd.R_ne G.out F0.out (by decide))).trans F0.out); (have nF2 : wc.heap[w.heap.size + 1]? = some (.cells #[.int .i64 0, .slice none 0 0] 43 (0, 0)) := (hg.block _ (blk_lt F2.out) (Kd.R_ne G.out F2.out (by decide))).trans F2.out); (have nHS : Kd.R kItem 28 wc b (fun k => k < w.heap.size) (.slice (some ad) s.f1.length c0) s.f1 := Kd.R_step HS.out (fun k hk hlt => hg.block k hlt (fun e => by have h1_ : k < w.heap.size := hk; have h2_ := HOW.out k e.symm; omega))); (have nU1 : Kd.R Kd.string 9 wc w.heap.size (fun _ => True) (.slice B1 y.f3.length d1) y.f3 := Kd.R_over' U1.out (Kd.R_typed G.out) (by decide) hg); (have nE : Kd.R kRcpt 55 wc w.heap.size (fun _ => True) (.slice E2B rs.length E2d) rs := Kd.R_over' E.out (Kd.R_typed G.out) (by decide) hg); (have nHL := Aside0.mk (Nat.le_trans HL.out hg.size)); (clear HB HL F0 F2 FX FB HS U1 E G); (have F0 := Aside0.mk nF0); (clear nF0); (have F2 := Aside0.mk nF2); (clear nF2); (have HS := Aside0.mk nHS); (clear nHS); (have U1 := Aside0.mk nU1); (clear nU1); (have E := Aside0.mk nE); (clear nE); (have HL := nHL); (clear nHL); (have HB := Aside0.mk nHB); (clear nHB); (have HOW := (⟨fun q_ hk => by (rcases hat with h1 | ⟨b1, h1, h2⟩; (rw [h1] at hk; exact HOW.out q_ hk); (rw [h1] at hk; have h3 := Option.some.inj hk; omega))⟩ : Aside0 (∀ q_, (Value.slice G2B tx.length G2d).ownBlock = some q_ → w.heap.size ≤ q_))); (have G : Aside0 (Kd.R kItem 28 wc b (fun _ => True) (.slice G2B (tx).length G2d) tx) := ⟨ho⟩); (clear ho hb hg hat hVb); (have zF0 := blk_lt F0.out); (have cF0_0 : wc.cell? ⟨w.heap.size, 0, none⟩ = some (.int .i64 s.f0) := clq F0.out 0 rfl); (have cF0_1 : wc.cell? ⟨w.heap.size, 1, none⟩ = some (.slice (some ad) s.f1.length c0) := clq F0.out 1 rfl)) | (((with_reducible refine gate_builtin (b := .append) (xs := #[.tmp 42, .tmp 47]) rfl ?_); (try (refine gate_guard (by rfl) ?_; dsimp only)); at_builtin); (have hVb := HB.out.size); (refine Kd.R_append_rows kItem (w0 := w) (b) rfl (.tmp 42) (.tmp 47) 41 28 (.agg #[(.int .i64 0), (.string ⟨#[]⟩), (.string ⟨#[]⟩), (.slice none 0 0), (.slice none 0 0)]) 88 rfl Tryd.underlying41 info28 rfl (by decide) (by omega) (.slice G2B (tx).length G2d) tx dr (D1) ((s.f1.length - (a + 1))) ((c0 - (a + 1))) (fun _ => True) (fun k => k < w.heap.size) rfl rfl G.out (HrF.out _ HS.out) (fun _ _ h => h) (fun k hk => ⟨trivial, fun e => by have h_ : k < w.heap.size := hk; have := HOW.out k e.symm; omega⟩) (fun _ _ => trivial) ((HB.out.mono hb)) (by have := HB.out.size; omega) (by have := HL1.out; rw [H_tx.out, List.length_append]; simp; omega) ?_); (intro vv wd ho hb hg hat); (obtain ⟨fl, e_fl⟩ : ∃ l, l = (tx ++ dr) := ⟨_, rfl⟩); (rw [← e_fl] at ho); (have H_fl := Lib.hid e_fl); (clear e_fl); (obtain ⟨G3B, G3d, hv⟩ := Kd.R_slice ho); (subst hv); (have nHB : Below w.heap.size w wd := bel_grown HB.out hg HB.out.size (fun k hk => by exact HOW.out k hk)); (have nF0 : wd.heap[w.heap.size]? = some (.cells #[.int .i64 s.f0, .slice (some ad) s.f1.length c0] 43 (0, 0)) := (hg.block _ (blk_lt F0.out) (Kd.R_ne G.out F0.out (by decide))).trans F0.out); (have nF2 : wd.heap[w.heap.size + 1]? = some (.cells #[.int .i64 0, .slice none 0 0] 43 (0, 0)) := (hg.block _ (blk_lt F2.out) (Kd.R_ne G.out F2.out (by decide))).trans F2.out); (have nU1 : Kd.R Kd.string 9 wd w.heap.size (fun _ => True) (.slice B1 y.f3.length d1) y.f3 := Kd.R_over' U1.out (Kd.R_typed G.out) (by decide) hg); (have nE : Kd.R kRcpt 55 wd w.heap.size (fun _ => True) (.slice E2B rs.length E2d) rs := Kd.R_over' E.out (Kd.R_typed G.out) (by decide) hg); (have nHL := Aside0.mk (Nat.le_trans HL.out hg.size)); (clear zF0 cF0_0 cF0_1); (clear HB HL F0 F2 HS U1 E G); (have F0 := Aside0.mk nF0); (clear nF0); (have F2 := Aside0.mk nF2); (clear nF2); (have U1 := Aside0.mk nU1); (clear nU1); (have E := Aside0.mk nE); (clear nE); (have HL := nHL); (clear nHL); (have HB := Aside0.mk nHB); (clear nHB); (have G : Aside0 (Kd.R kItem 28 wd b (fun _ => True) (.slice G3B (fl).length G3d) fl) := ⟨ho⟩); (clear ho hb hg hat hVb); (have zF0 := blk_lt F0.out); (have cF0_0 : wd.cell? ⟨w.heap.size, 0, none⟩ = some (.int .i64 s.f0) := clq F0.out 0 rfl); (have dF0_0 := fzq F0.out 0); (have cF0_1 : wd.cell? ⟨w.heap.size, 1, none⟩ = some (.slice (some ad) s.f1.length c0) := clq F0.out 1 rfl); (have dF0_1 := fzq F0.out 1); (have zF2 := blk_lt F2.out); (have cF2_0 : wd.cell? ⟨w.heap.size + 1, 0, none⟩ = some (.int .i64 0) := clq F2.out 0 rfl); (have dF2_0 := fzq F2.out 0); (have cF2_1 : wd.cell? ⟨w.heap.size + 1, 1, none⟩ = some (.slice none 0 0) := clq F2.out 1 rfl); (have dF2_1 := fzq F2.out 1)))
    refine bodyPost_ret (v := .agg #[.int .i64 s.f0, .slice G3B fl.length G3d]) ?hr1 rfl ?hp1
    case hr1 => simp [results, Tryd.results55, go_sem, zF0, cF0_0, dF0_0, cF0_1, dF0_1, zF2, cF2_0, dF2_0, cF2_1, dF2_1]
    case hp1 =>
     have hN : doneL s.f1 a k = fl := by rw [doneL_is HY.out HRS.out, ← HE1.out, ← HE2.out, if_pos hrs, H_fl.out, H_tx.out]
     rw [hN]
     have f0 := F0.out
     have f2 := F2.out
     exact ⟨G3B, G3d, rfl, R_other (R_other G.out f0 (by decide) (grown_set1 _ _ _ _)) (blk_far f2 (by show w.heap.size + 1 ≠ w.heap.size; omega) _) (by decide) ((grown_set1 _ _ _ _).trans (grown_set1 _ _ _ _)), by (with_reducible repeat (first | exact HB.out | refine bel_set ?_ _ ?_)); all_goals ((try dsimp only); omega)⟩
   ·have hrs' : ¬ (0 : Int) < (rs.length : Int) := by omega
    go_wp2_with (first | (((with_reducible refine gate_builtin (b := .append) (xs := #[.tmp 28, .tmp 32]) rfl ?_); (try (refine gate_guard (by rfl) ?_; dsimp only)); at_builtin); (generalize hWWE : World.alloc (V13) _ = WE); (have ltF0 := blk_lt F0.out); (have ltF2 := blk_lt F2.out); (have ltFX := blk_lt FX.out); (have ltb := HB.out.size); (have ltl := HL.out); (have TT : ∀ k, k < V13.heap.size → WE.heap[k]? = V13.heap[k]? := fun k hk => by rw [← hWWE]; (with_reducible repeat (first | rfl | refine hp_set ?_ ?_ | refine hp_alloc ?_ ?_ | refine hp_drew ?_)); all_goals (first | (with_reducible rfl) | omega | (dsimp only; omega) | (simp; omega))); (have TS : V13.heap.size + 1 ≤ WE.heap.size := by rw [← hWWE]; simp); (have nF0 : WE.heap[w.heap.size]? = some (.cells #[.int .i64 s.f0, .slice (some ad) s.f1.length c0] 43 (0, 0)) := (TT _ ltF0).trans F0.out); (have nF2 : WE.heap[w.heap.size + 1]? = some (.cells #[.int .i64 0, .slice none 0 0] 43 (0, 0)) := (TT _ ltF2).trans F2.out); (have nFX : WE.heap[w1.heap.size]? = some (.cells #[.int .i64 y.f0, .string y.f1.f0, .string y.f1.f1, .slice E2B rs.length E2d, .slice B1 y.f3.length d1] 28 (0, 0)) := (TT _ ltFX).trans FX.out); (have nBG : WE.heap[V13.heap.size]? = some (.cells #[] 28 (0, 0)) := by rw [← hWWE]; exact blk_new V13 (.cells #[] 28)); (have nHS : Kd.R kItem 28 WE b (fun k => k < w.heap.size) (.slice (some ad) s.f1.length c0) s.f1 := Kd.R_step HS.out (fun k hk hlt => TT k hlt)); (have nU1 : Kd.R Kd.string 9 WE w.heap.size (fun _ => True) (.slice B1 y.f3.length d1) y.f3 := R_keepT U1.out rfl (fun k hk ho => TT k hk)); (have nE : Kd.R kRcpt 55 WE w.heap.size (fun _ => True) (.slice E2B rs.length E2d) rs := R_keepT E.out rfl (fun k hk ho => TT k hk)); (have nHB : Below w.heap.size w WE := by rw [← hWWE]; exact bel_alloc (HB.out) _); (have nG : Kd.R kItem 28 WE b (fun _ => True) (.slice (some ⟨V13.heap.size, 0, none⟩) 0 0) [] := by rw [← hWWE]; exact R_empty kItem 28 V13 b (by have := ltb; omega) trivial); (clear zF0 cF0_0 cF0_1 zFX cFX_0 cFX_1 cFX_2 cFX_3 cFX_4); (clear hWWE F0 F2 FX HB HS U1 E); (have F0 := Aside0.mk nF0); (clear nF0); (have F2 := Aside0.mk nF2); (clear nF2); (have FX := Aside0.mk nFX); (clear nFX); (have BG := Aside0.mk nBG); (clear nBG); (have HS := Aside0.mk nHS); (clear nHS); (have U1 := Aside0.mk nU1); (clear nU1); (have E := Aside0.mk nE); (clear nE); (have G := Aside0.mk nG); (clear nG); (have HB := Aside0.mk nHB); (clear nHB); (have oBG_ltF0 := ltF0); (have oBG_ltF2 := ltF2); (have oBG_ltFX := ltFX); (have oBG_ltl := ltl); (have oBG_ts := TS); (replace HL := Aside0.mk (Nat.le_trans HL.out (by omega : V13.heap.size ≤ WE.heap.size))); (clear TT TS ltF0 ltF2 ltFX ltb ltl); (have hVb := HB.out.size); (refine Kd.R_append_rows kItem (w0 := w) (b) rfl (.tmp 28) (.tmp 32) 41 28 (.agg #[(.int .i64 0), (.string ⟨#[]⟩), (.string ⟨#[]⟩), (.slice none 0 0), (.slice none 0 0)]) 88 rfl Tryd.underlying41 info28 rfl (by decide) (by omega) (.slice (some ⟨V13.heap.size, 0, none⟩) 0 0) [] tk ((some ad)) (a) (c0) (fun _ => True) (fun k => k < w.heap.size) rfl rfl G.out (HrT.out _ HS.out) (fun _ _ h => h) (fun k hk => ⟨trivial, fun e => by have h_ : k < w.heap.size := hk; have e2 : k = V13.heap.size := Option.some.inj e; omega⟩) (fun _ _ => trivial) ((HB.out.mono hb)) (by have := HB.out.size; omega) (by simp; omega) ?_); (intro vv wa ho hb hg hat); (rw [List.nil_append] at ho); (obtain ⟨GB, Gd, hv⟩ := Kd.R_slice ho); (subst hv); (have nHB : Below w.heap.size w wa := bel_grown HB.out hg HB.out.size (fun k hk => by (simp [Value.ownBlock] at hk; omega))); (have nF0 : wa.heap[w.heap.size]? = some (.cells #[.int .i64 s.f0, .slice (some ad) s.f1.length c0] 43 (0, 0)) := (hg.block _ (blk_lt F0.out) (Kd.R_ne G.out F0.out (by decide))).trans F0.out); (have nF2 : wa.heap[w.heap.size + 1]? = some (.cells #[.int .i64 0, .slice none 0 0] 43 (0, 0)) := (hg.block _ (blk_lt F2.out) (Kd.R_ne G.out F2.out (by decide))).trans F2.out); (have nFX : wa.heap[w1.heap.size]? = some (.cells #[.int .i64 y.f0, .string y.f1.f0, .string y.f1.f1, .slice E2B rs.length E2d, .slice B1 y.f3.length d1] 28 (0, 0)) := (hg.block _ (blk_lt FX.out) (fun e => by have e := Option.some.inj e; (try dsimp only at e); omega)).trans FX.out); (have nHS : Kd.R kItem 28 wa b (fun k => k < w.heap.size) (.slice (some ad) s.f1.length c0) s.f1 := Kd.R_step HS.out (fun k hk hlt => hg.block k hlt (fun e => by have h1_ : k < w.heap.size := hk; (simp [Value.ownBlock] at e); omega))); (have nU1 : Kd.R Kd.string 9 wa w.heap.size (fun _ => True) (.slice B1 y.f3.length d1) y.f3 := Kd.R_over' U1.out (Kd.R_typed G.out) (by decide) hg); (have nE : Kd.R kRcpt 55 wa w.heap.size (fun _ => True) (.slice E2B rs.length E2d) rs := Kd.R_over' E.out (Kd.R_typed G.out) (by decide) hg); (have nHL := Aside0.mk (Nat.le_trans HL.out hg.size)); (clear HB HL F0 F2 FX BG HS U1 E G); (have F0 := Aside0.mk nF0); (clear nF0); (have F2 := Aside0.mk nF2); (clear nF2); (have FX := Aside0.mk nFX); (clear nFX); (have HS := Aside0.mk nHS); (clear nHS); (have U1 := Aside0.mk nU1); (clear nU1); (have E := Aside0.mk nE); (clear nE); (have HL := nHL); (clear nHL); (have HB := Aside0.mk nHB); (clear nHB); (have HOW : Aside0 (∀ q_, (Value.slice GB tk.length Gd).ownBlock = some q_ → w.heap.size ≤ q_) := ⟨fun q_ hk => by (rcases hat with h1 | ⟨b1, h1, h2⟩; (rw [h1] at hk; simp [Value.ownBlock] at hk; omega); (rw [h1] at hk; have h3 := Option.some.inj hk; omega))⟩); (have G : Aside0 (Kd.R kItem 28 wa b (fun _ => True) (.slice GB (tk).length Gd) tk) := ⟨ho⟩); (clear ho hb hg hat hVb); (have zF0 := blk_lt F0.out); (have cF0_0 : wa.cell? ⟨w.heap.size, 0, none⟩ = some (.int .i64 s.f0) := clq F0.out 0 rfl); (have cF0_1 : wa.cell? ⟨w.heap.size, 1, none⟩ = some (.slice (some ad) s.f1.length c0) := clq F0.out 1 rfl); (have zFX := blk_lt FX.out); (have cFX_0 : wa.cell? ⟨w1.heap.size, 0, none⟩ = some (.int .i64 y.f0) := clq FX.out 0 rfl); (have cFX_1 : wa.cell? ⟨w1.heap.size, 1, none⟩ = some (.string y.f1.f0) := clq FX.out 1 rfl); (have cFX_2 : wa.cell? ⟨w1.heap.size, 2, none⟩ = some (.string y.f1.f1) := clq FX.out 2 rfl); (have cFX_3 : wa.cell? ⟨w1.heap.size, 3, none⟩ = some (.slice E2B rs.length E2d) := clq FX.out 3 rfl); (have cFX_4 : wa.cell? ⟨w1.heap.size, 4, none⟩ = some (.slice B1 y.f3.length d1) := clq FX.out 4 rfl)) | (((with_reducible refine gate_builtin (b := .append) (xs := #[.tmp 42, .tmp 47]) rfl ?_); (try (refine gate_guard (by rfl) ?_; dsimp only)); at_builtin); (have hVb := HB.out.size); (refine Kd.R_append_rows kItem (w0 := w) (b) rfl (.tmp 42) (.tmp 47) 41 28 (.agg #[(.int .i64 0), (.string ⟨#[]⟩), (.string ⟨#[]⟩), (.slice none 0 0), (.slice none 0 0)]) 88 rfl Tryd.underlying41 info28 rfl (by decide) (by omega) (.slice GB (tk).length Gd) tk dr (D1) ((s.f1.length - (a + 1))) ((c0 - (a + 1))) (fun _ => True) (fun k => k < w.heap.size) rfl rfl G.out (HrF.out _ HS.out) (fun _ _ h => h) (fun k hk => ⟨trivial, fun e => by have h_ : k < w.heap.size := hk; have := HOW.out k e.symm; omega⟩) (fun _ _ => trivial) ((HB.out.mono hb)) (by have := HB.out.size; omega) (by have := HL1.out; omega) ?_); (intro vv wd ho hb hg hat); (obtain ⟨fl, e_fl⟩ : ∃ l, l = (tk ++ dr) := ⟨_, rfl⟩); (rw [← e_fl] at ho); (have H_fl := Lib.hid e_fl); (clear e_fl); (obtain ⟨G3B, G3d, hv⟩ := Kd.R_slice ho); (subst hv); (have nHB : Below w.heap.size w wd := bel_grown HB.out hg HB.out.size (fun k hk => by exact HOW.out k hk)); (have nF0 : wd.heap[w.heap.size]? = some (.cells #[.int .i64 s.f0, .slice (some ad) s.f1.length c0] 43 (0, 0)) := (hg.block _ (blk_lt F0.out) (Kd.R_ne G.out F0.out (by decide))).trans F0.out); (have nF2 : wd.heap[w.heap.size + 1]? = some (.cells #[.int .i64 0, .slice none 0 0] 43 (0, 0)) := (hg.block _ (blk_lt F2.out) (Kd.R_ne G.out F2.out (by decide))).trans F2.out); (have nU1 : Kd.R Kd.string 9 wd w.heap.size (fun _ => True) (.slice B1 y.f3.length d1) y.f3 := Kd.R_over' U1.out (Kd.R_typed G.out) (by decide) hg); (have nE : Kd.R kRcpt 55 wd w.heap.size (fun _ => True) (.slice E2B rs.length E2d) rs := Kd.R_over' E.out (Kd.R_typed G.out) (by decide) hg); (have nHL := Aside0.mk (Nat.le_trans HL.out hg.size)); (clear zF0 cF0_0 cF0_1 zFX cFX_0 cFX_1 cFX_2 cFX_3 cFX_4); (clear HB HL F0 F2 FX HS U1 E G); (have F0 := Aside0.mk nF0); (clear nF0); (have F2 := Aside0.mk nF2); (clear nF2); (have U1 := Aside0.mk nU1); (clear nU1); (have E := Aside0.mk nE); (clear nE); (have HL := nHL); (clear nHL); (have HB := Aside0.mk nHB); (clear nHB); (have G : Aside0 (Kd.R kItem 28 wd b (fun _ => True) (.slice G3B (fl).length G3d) fl) := ⟨ho⟩); (clear ho hb hg hat hVb); (have zF0 := blk_lt F0.out); (have cF0_0 : wd.cell? ⟨w.heap.size, 0, none⟩ = some (.int .i64 s.f0) := clq F0.out 0 rfl); (have dF0_0 := fzq F0.out 0); (have cF0_1 : wd.cell? ⟨w.heap.size, 1, none⟩ = some (.slice (some ad) s.f1.length c0) := clq F0.out 1 rfl); (have dF0_1 := fzq F0.out 1); (have zF2 := blk_lt F2.out); (have cF2_0 : wd.cell? ⟨w.heap.size + 1, 0, none⟩ = some (.int .i64 0) := clq F2.out 0 rfl); (have dF2_0 := fzq F2.out 0); (have cF2_1 : wd.cell? ⟨w.heap.size + 1, 1, none⟩ = some (.slice none 0 0) := clq F2.out 1 rfl); (have dF2_1 := fzq F2.out 1)))
    refine bodyPost_ret (v := .agg #[.int .i64 s.f0, .slice G3B fl.length G3d]) ?hr0 rfl ?hp0
    case hr0 => simp [results, Tryd.results55, go_sem, zF0, cF0_0, dF0_0, cF0_1, dF0_1, zF2, cF2_0, dF2_0, cF2_1, dF2_1]
    case hp0 =>
     have hN : doneL s.f1 a k = fl := by rw [doneL_is HY.out HRS.out, ← HE1.out, ← HE2.out, if_neg hrs, List.append_nil, H_fl.out]
     rw [hN]
     have f0 := F0.out
     have f2 := F2.out
     exact ⟨G3B, G3d, rfl, R_other (R_other G.out f0 (by decide) (grown_set1 _ _ _ _)) (blk_far f2 (by show w.heap.size + 1 ≠ w.heap.size; omega) _) (by decide) ((grown_set1 _ _ _ _).trans (grown_set1 _ _ _ _)), by (with_reducible repeat (first | exact HB.out | refine bel_set ?_ _ ?_)); all_goals ((try dsimp only); omega)⟩

end Go.Proofs.YtiaibgkpohmihaaDoor
