/- A mail added to a spool, of the reference: a contract. -/
import Derived.Test.YtiaibgkpohmihaaDoorReg
import Derived.Test.YtiaibgkpohmihaaDoorCpSpool
import Derived.IntWalk
namespace Go.Proofs.YtiaibgkpohmihaaDoor
open Go.RowKit Go.Proofs.YtiaibgkpohmihaaDoorW.PrintWords
set_option linter.unusedVariables false
set_option linter.unusedSimpArgs false
def NotT (W : World) (t : Nat) (k : Nat) : Prop := ∃ cells q, W.heap[k]? = some (.cells cells q (0, 0)) ∧ q ≠ t
theorem R_notT {α : Type} {d : Kd α} {e base t : Nat} {ok : Nat → Prop} {W : World} {v : Value} {xs : List α} (h : d.R e W base ok v xs) (ht : ∀ q, q ∈ e :: d.E → q ≠ t) : d.R e W base (NotT W t) v xs :=
 Kd.R_mono (Kd.R_bound h) (fun k hk => by obtain ⟨-, -, -, q, hq, cells, hc⟩ := hk; exact ⟨cells, q, hc, ht q hq⟩)
theorem ok_notT {α : Type} {d : Kd α} {t base : Nat} {ok : Nat → Prop} {W : World} {v : Value} {xs : List α} (h : d.R t W base ok v xs) : ∀ k, NotT W t k → True ∧ some k ≠ v.ownBlock :=
 fun k hk => ⟨trivial, fun e => by obtain ⟨cells, q, h1, h2⟩ := hk; obtain ⟨c2, h3⟩ := Kd.R_typed h k e.symm; rw [h1] at h3; injection h3 with h3; injection h3 with _ h3; exact h2 h3⟩
theorem R_readsM {α : Type} {d : Kd α} {e base : Nat} {ok : Nat → Prop} {W : World} {A : Option Addr} {n c : Nat} {xs : List α} (h : d.R e W base ok (.slice A n c) xs) : ReadsRow (d.M W base ok) d.sz W A xs.length xs := by
 obtain ⟨A', c', e1, h1, h2⟩ := h.2.reads
 injection e1 with e1 e2 e3
 subst e1
 exact ReadsRow.imp_ h2 (Below.refl _ _) (fun _ _ hp => d.M_mono (fun k hk => hk.1) hp)
theorem rr_take {α : Type} {Rr : α → List Value → Prop} {sz : Nat} {W : World} {A : Option Addr} {xs : List α} (h : ReadsRow Rr sz W A xs.length xs) {m : Nat} (hm : m ≤ xs.length) : ReadsRow Rr sz W A (xs.take m).length (xs.take m) := by
 refine ⟨rfl, Nat.le_trans (by rw [List.length_take]; omega) h.2.1, fun hp => ?_⟩
 obtain ⟨ad, e, hc⟩ := h.2.2 (by rw [List.length_take] at hp; omega)
 refine ⟨ad, e, fun j p hj => hc j p ?_⟩
 rw [List.getElem?_take] at hj
 split at hj
 ·exact hj
 ·cases hj
theorem rr_drop {α : Type} {Rr : α → List Value → Prop} {sz c : Nat} {W : World} {A : Option Addr} {xs : List α} (h : ReadsRow Rr sz W A xs.length xs) {m : Nat} (hm : m ≤ xs.length) (hc : xs.length ≤ c) : ReadsRow Rr sz W (if c = m then A else A.map (·.add (m * sz))) (xs.drop m).length (xs.drop m) := by
 have hl : (xs.drop m).length = xs.length - m := List.length_drop
 refine ⟨rfl, Nat.le_trans (by rw [hl]; omega) h.2.1, fun hp => ?_⟩
 rw [hl] at hp
 obtain ⟨ad, rfl, hcell⟩ := h.2.2 (by omega)
 rw [if_neg (by omega)]
 refine ⟨ad.add (m * sz), rfl, fun j p hj => ?_⟩
 rw [List.getElem?_drop] at hj
 obtain ⟨cs, h1, h2, h3⟩ := hcell (m + j) p hj
 refine ⟨cs, h1, h2, fun i u hu => ?_⟩
 rw [add_add, show m * sz + (j * sz + i) = (m + j) * sz + i by rw [Nat.add_mul]; omega]
 exact h3 i u hu
theorem rr_one {α : Type} {Rr : α → List Value → Prop} {sz g t : Nat} {W : World} {x : α} {cs : List Value} (hb : W.heap[g]? = some (.cells cs.toArray t (0, 0))) (h : Rr x cs) (hl : cs.length = sz) : ReadsRow Rr sz W (some ⟨g, 0, none⟩) 1 [x] := by
 refine ⟨rfl, by decide, fun _ => ⟨⟨g, 0, none⟩, rfl, fun j p hj => ?_⟩⟩
 cases j with
 | succ j => simp at hj
 | zero =>
  obtain rfl : x = p := by simpa using hj
  refine ⟨cs, hl, h, fun i u hu => ?_⟩
  rw [show Nat.zero * sz + i = i by simp, show (⟨g, 0, none⟩ : Addr).add i = ⟨g, i, none⟩ by unfold Addr.add; split <;> simp_all, blk_cell hb i]
  simpa using hu

def newItem (s : SSpool) (m : SMail) (now : Int) : SItem := ⟨s.f0 + 1, m.f0, m.f1.map (fun a => ⟨a, 0, now⟩), m.f2⟩
set_option maxRecDepth 100000 in
set_option maxHeartbeats 4000000 in
theorem specAdd_any (b : Nat) (s : SSpool) (m : SMail) (now : Int) (A0 : Option Addr) (c0 : Nat) (M0 : Option Addr) (m0 : Nat) (M1 : Option Addr) (m1 : Nat) (w : World) (hb : b ≤ w.heap.size) (hl : s.f1.length ≤ 1048576) (hi : -1000000000 ≤ s.f0 ∧ s.f0 ≤ 1000000000) (hm0 : m.f1.length ≤ 1048576) (hm1 : m.f2.length ≤ 1048576)
  (hS : Kd.R kItem 28 w b (fun _ => True) (.slice A0 s.f1.length c0) s.f1) (hr0 : Kd.C kAddr w M0 m.f1.length m.f1) (hr1 : Kd.C Kd.string w M1 m.f2.length m.f2) :
  Calls Tryd.prog 87 #[.agg #[.int .i64 s.f0, .slice A0 s.f1.length c0], .agg #[.string m.f0.f0, .string m.f0.f1, .slice M0 m.f1.length m0, .slice M1 m.f2.length m1], .int .i64 now] w fun e w' => ∃ B d, e = .returned (.agg #[.int .i64 (s.f0 + 1), .slice B (s.f1 ++ [newItem s m now]).length d]) ∧ Kd.R kItem 28 w' b (fun _ => True) (.slice B (s.f1 ++ [newItem s m now]).length d) (s.f1 ++ [newItem s m now]) ∧ Below w.heap.size w w' := by
 have K0 := Aside0.mk hr0
 have K1 := Aside0.mk hr1
 have hwr : IntKind.i64.wrap (s.f0 + 1) = s.f0 + 1 := IntWalk.i64_in _ (by omega)
 clear hr0 hr1
 go_enter Tryd.func87, Tryd.ntmps87
 go_wp2
 obtain ⟨W0, hW0⟩ : ∃ W, W = (((w.alloc (.cells #[.int .i64 s.f0, .slice A0 s.f1.length c0] 43)).alloc (.cells #[.string m.f0.f0, .string m.f0.f1, .slice M0 m.f1.length m0, .slice M1 m.f2.length m1] 33)).alloc (.cells #[.int .i64 0, .slice none 0 0] 43)) := ⟨_, rfl⟩
 rw [← hW0]
 have HB : Aside0 (Below w.heap.size w W0) := ⟨by rw [hW0]; exact (bel_alloc (bel_alloc (bel_alloc (Below.refl _ _) _) _) _)⟩
 have F0 : Aside0 (W0.heap[w.heap.size]? = some (.cells #[.int .i64 s.f0, .slice A0 s.f1.length c0] 43 (0, 0))) := ⟨by rw [hW0]; exact blk_alloc (blk_alloc (blk_at _ _ (by first | rfl | (simp; done))) _) _⟩
 have F1 : Aside0 (W0.heap[w.heap.size + 1]? = some (.cells #[.string m.f0.f0, .string m.f0.f1, .slice M0 m.f1.length m0, .slice M1 m.f2.length m1] 33 (0, 0))) := ⟨by rw [hW0]; exact blk_alloc (blk_at _ _ (by simp)) _⟩
 have F2 : Aside0 (W0.heap[w.heap.size + 2]? = some (.cells #[.int .i64 0, .slice none 0 0] 43 (0, 0))) := ⟨by rw [hW0]; exact blk_at _ _ (by simp)⟩
 have HL : Aside0 (w.heap.size + 3 ≤ W0.heap.size) := ⟨by rw [hW0]; simp⟩
 clear hW0
 have HS : Aside0 (Kd.R kItem 28 W0 b (fun k => k < w.heap.size) (.slice A0 s.f1.length c0) s.f1) := ⟨Kd.R_below (Kd.R_mono (Kd.R_bound hS) (fun k hk => hk.2.2.1)) HB.out⟩
 have join : Hid (∀ {goal : Prop} {G : Nat → Nat → Option Addr → Nat → World → Prop} (rg : Hid (∀ (gx : Nat) (g0 : Nat) (EB : Option Addr) (Ed : Nat) (V : World), Below w.heap.size w V ∧ V.heap[w.heap.size]? = some (.cells #[.int .i64 s.f0, .slice A0 s.f1.length c0] 43 (0, 0)) ∧ V.heap[w.heap.size + 1]? = some (.cells #[.string m.f0.f0, .string m.f0.f1, .slice M0 m.f1.length m0, .slice M1 m.f2.length m1] 33 (0, 0)) ∧ V.heap[w.heap.size + 2]? = some (.cells #[.int .i64 0, .slice none 0 0] 43 (0, 0)) ∧ V.heap[gx]? = some (.cells #[.int .i64 (s.f0 + 1), .string m.f0.f0, .string m.f0.f1, .slice none 0 0, .slice EB m.f2.length Ed] 28 (0, 0)) ∧ Kd.R kItem 28 V b (fun k => k < w.heap.size) (.slice A0 s.f1.length c0) s.f1 ∧ Kd.R Kd.string 9 V w.heap.size (fun _ => True) (.slice EB m.f2.length Ed) m.f2 ∧ w.heap.size + 3 ≤ gx → G gx g0 EB Ed V) → goal) (hk : ∀ (gx : Nat) (g0 : Nat) (EB : Option Addr) (Ed : Nat) (V : World), Below w.heap.size w V ∧ V.heap[w.heap.size]? = some (.cells #[.int .i64 s.f0, .slice A0 s.f1.length c0] 43 (0, 0)) ∧ V.heap[w.heap.size + 1]? = some (.cells #[.string m.f0.f0, .string m.f0.f1, .slice M0 m.f1.length m0, .slice M1 m.f2.length m1] 33 (0, 0)) ∧ V.heap[w.heap.size + 2]? = some (.cells #[.int .i64 0, .slice none 0 0] 43 (0, 0)) ∧ V.heap[gx]? = some (.cells #[.int .i64 (s.f0 + 1), .string m.f0.f0, .string m.f0.f1, .slice none 0 0, .slice EB m.f2.length Ed] 28 (0, 0)) ∧ Kd.R kItem 28 V b (fun k => k < w.heap.size) (.slice A0 s.f1.length c0) s.f1 ∧ Kd.R Kd.string 9 V w.heap.size (fun _ => True) (.slice EB m.f2.length Ed) m.f2 ∧ w.heap.size + 3 ≤ gx → G gx g0 EB Ed V), goal) := Lib.hid (fun f h => f (Lib.hid h))
 have jF0 := F0
 have jF1 := F1
 have jF2 := F2
 have jHS := HS
 have jHB := HB
 have jHL := HL
 clear F0 F1 F2 HS HB HL
 apply join.out
 case rg =>
  intro HKK
  have F0 := jF0
  have F1 := jF1
  have F2 := jF2
  have HS := jHS
  have HB := jHB
  have HL := jHL
  have HS1 : Aside0 (∀ W : World, (W.heap[w.heap.size]? = some (.cells #[.int .i64 s.f0, .slice A0 s.f1.length c0] 43 (0, 0)) ∧ W.heap[w.heap.size + 1]? = some (.cells #[.string m.f0.f0, .string m.f0.f1, .slice M0 m.f1.length m0, .slice M1 m.f2.length m1] 33 (0, 0))) → W.cell? ⟨w.heap.size, 0, none⟩ = some (.int .i64 s.f0) ∧ W.cell? ⟨w.heap.size, 1, none⟩ = some (.slice A0 s.f1.length c0) ∧ W.cell? ⟨w.heap.size + 1, 0, none⟩ = some (.string m.f0.f0) ∧ W.cell? ⟨w.heap.size + 1, 1, none⟩ = some (.string m.f0.f1) ∧ W.cell? ⟨w.heap.size + 1, 2, none⟩ = some (.slice M0 m.f1.length m0) ∧ W.cell? ⟨w.heap.size + 1, 3, none⟩ = some (.slice M1 m.f2.length m1)) := ⟨fun W h => ⟨(by have h_ := h.1; simp [World.cell?, h_]), (by have h_ := h.1; simp [World.cell?, h_]), (by have h_ := h.2; simp [World.cell?, h_]), (by have h_ := h.2; simp [World.cell?, h_]), (by have h_ := h.2; simp [World.cell?, h_]), (by have h_ := h.2; simp [World.cell?, h_])⟩⟩
  refine wp_region_held_drew (S := fun (W : World) => W.heap[w.heap.size]? = some (.cells #[.int .i64 s.f0, .slice A0 s.f1.length c0] 43 (0, 0)) ∧ W.heap[w.heap.size + 1]? = some (.cells #[.string m.f0.f0, .string m.f0.f1, .slice M0 m.f1.length m0, .slice M1 m.f2.length m1] 33 (0, 0))) (by kernel_rfl) ?s2 (fun hHeld => ?t2)
  case s2 => exact (show (fun (W : World) => W.heap[w.heap.size]? = some (.cells #[.int .i64 s.f0, .slice A0 s.f1.length c0] 43 (0, 0)) ∧ W.heap[w.heap.size + 1]? = some (.cells #[.string m.f0.f0, .string m.f0.f1, .slice M0 m.f1.length m0, .slice M1 m.f2.length m1] 33 (0, 0))) (World.drew W0) from ⟨F0.out, F1.out⟩)
  generalize hWVs : World.drew (W0) = Vs at hHeld ⊢
  have ltF0 := blk_lt F0.out
  have ltF1 := blk_lt F1.out
  have ltF2 := blk_lt F2.out
  have ltb := HB.out.size
  have ltl := HL.out
  have TT : ∀ k, k < W0.heap.size → Vs.heap[k]? = W0.heap[k]? := fun k hk => by rw [← hWVs]; (with_reducible repeat (first | rfl | refine hp_set ?_ ?_ | refine hp_alloc ?_ ?_ | refine hp_drew ?_)); all_goals (first | (with_reducible rfl) | omega | (dsimp only; omega) | (simp; omega))
  have TS : W0.heap.size + 0 ≤ Vs.heap.size := by rw [← hWVs]; simp
  have nF0 : Vs.heap[w.heap.size]? = some (.cells #[.int .i64 s.f0, .slice A0 s.f1.length c0] 43 (0, 0)) := (TT _ ltF0).trans F0.out
  have nF1 : Vs.heap[w.heap.size + 1]? = some (.cells #[.string m.f0.f0, .string m.f0.f1, .slice M0 m.f1.length m0, .slice M1 m.f2.length m1] 33 (0, 0)) := (TT _ ltF1).trans F1.out
  have nF2 : Vs.heap[w.heap.size + 2]? = some (.cells #[.int .i64 0, .slice none 0 0] 43 (0, 0)) := (TT _ ltF2).trans F2.out
  have nHS : Kd.R kItem 28 Vs b (fun k => k < w.heap.size) (.slice A0 s.f1.length c0) s.f1 := Kd.R_step HS.out (fun k hk hlt => TT k hlt)
  have nHB : Below w.heap.size w Vs := by rw [← hWVs]; exact bel_then (HB.out) (drew_below0 _)
  have bds_ : Below W0.heap.size W0 Vs := by rw [← hWVs]; exact drew_below0 W0
  clear hWVs F0 F1 F2 HB HS
  have F0 := Aside0.mk nF0
  clear nF0
  have F1 := Aside0.mk nF1
  clear nF1
  have F2 := Aside0.mk nF2
  clear nF2
  have HS := Aside0.mk nHS
  clear nHS
  have HB := Aside0.mk nHB
  clear nHB
  replace HL := Aside0.mk (Nat.le_trans HL.out (by omega : W0.heap.size ≤ Vs.heap.size))
  clear TT TS ltF0 ltF1 ltF2 ltb ltl
  have BDs := Aside0.mk bds_
  clear bds_
  have HBo := HB
  have HLo := HL
  have hws : w.heap.size ≤ Vs.heap.size := HB.out.size
  clear HB HL
  have HBj : Aside0 (Below Vs.heap.size Vs Vs) := ⟨Below.refl _ _⟩
  have join : Hid (∀ {goal : Prop} {G : Nat → Nat → Option Addr → Nat → World → Prop} (rg : Hid (∀ (gx : Nat) (g0 : Nat) (EB : Option Addr) (Ed : Nat) (V : World), Below Vs.heap.size Vs V ∧ V.heap[gx]? = some (.cells #[.int .i64 0, .string ⟨#[]⟩, .string ⟨#[]⟩, .slice none 0 0, .slice none 0 0] 28 (0, 0)) ∧ Kd.R Kd.string 9 V w.heap.size (fun _ => True) (.slice EB m.f2.length Ed) m.f2 ∧ w.heap.size + 3 ≤ gx ∧ (V.heap[w.heap.size]? = some (.cells #[.int .i64 s.f0, .slice A0 s.f1.length c0] 43 (0, 0)) ∧ V.heap[w.heap.size + 1]? = some (.cells #[.string m.f0.f0, .string m.f0.f1, .slice M0 m.f1.length m0, .slice M1 m.f2.length m1] 33 (0, 0))) → G gx g0 EB Ed V) → goal) (hk : ∀ (gx : Nat) (g0 : Nat) (EB : Option Addr) (Ed : Nat) (V : World), Below Vs.heap.size Vs V ∧ V.heap[gx]? = some (.cells #[.int .i64 0, .string ⟨#[]⟩, .string ⟨#[]⟩, .slice none 0 0, .slice none 0 0] 28 (0, 0)) ∧ Kd.R Kd.string 9 V w.heap.size (fun _ => True) (.slice EB m.f2.length Ed) m.f2 ∧ w.heap.size + 3 ≤ gx ∧ (V.heap[w.heap.size]? = some (.cells #[.int .i64 s.f0, .slice A0 s.f1.length c0] 43 (0, 0)) ∧ V.heap[w.heap.size + 1]? = some (.cells #[.string m.f0.f0, .string m.f0.f1, .slice M0 m.f1.length m0, .slice M1 m.f2.length m1] 33 (0, 0))) → G gx g0 EB Ed V), goal) := Lib.hid (fun f h => f (Lib.hid h))
  apply join.out
  case rg =>
   intro HKK
   have HB := HBj
   have HL : Aside0 (Vs.heap.size + 0 ≤ Vs.heap.size) := ⟨Nat.le_refl _⟩
   refine tk 0 ?v3 ?y3 ?r3
   case y3 => intro w_ hSw; (try dsimp only at hSw); clear hSw; go_simp; (try (with_reducible rfl))
   try simp only [Act.put, List.setIfInBounds_toArray, List.set_cons_zero, List.set_cons_succ]
   refine tk 1 ?v4 ?y4 ?r4
   case y4 => intro w_ hSw; obtain ⟨e_0, e_1, e_2, e_3, e_4, e_5⟩ := HS1.out w_ hSw; clear hSw; go_simp; (try (with_reducible rfl))
   try simp only [Act.put, List.setIfInBounds_toArray, List.set_cons_zero, List.set_cons_succ]
   refine tk 2 ?v5 ?y5 ?r5
   case y5 => intro w_ hSw; (try dsimp only at hSw); clear hSw; go_simp; (try (with_reducible rfl))
   try simp only [Act.put, List.setIfInBounds_toArray, List.set_cons_zero, List.set_cons_succ]
   refine tk 3 ?v6 ?y6 ?r6
   case y6 => intro w_ hSw; (try dsimp only at hSw); clear hSw; go_simp; (try (with_reducible rfl))
   try simp only [Act.put, List.setIfInBounds_toArray, List.set_cons_zero, List.set_cons_succ]
   refine tk 4 ?v7 ?y7 ?r7
   case y7 => intro w_ hSw; obtain ⟨e_0, e_1, e_2, e_3, e_4, e_5⟩ := HS1.out w_ hSw; clear hSw; go_simp; (try (with_reducible rfl))
   try simp only [Act.put, List.setIfInBounds_toArray, List.set_cons_zero, List.set_cons_succ]
   refine tk 6 ?v8 ?y8 ?r8
   case y8 => intro w_ hSw; (try dsimp only at hSw); clear hSw; go_simp; (try (with_reducible rfl))
   try simp only [Act.put, List.setIfInBounds_toArray, List.set_cons_zero, List.set_cons_succ]
   refine tk 7 ?v9 ?y9 ?r9
   case y9 => intro w_ hSw; obtain ⟨e_0, e_1, e_2, e_3, e_4, e_5⟩ := HS1.out w_ hSw; clear hSw; go_simp; (try (with_reducible rfl))
   try simp only [Act.put, List.setIfInBounds_toArray, List.set_cons_zero, List.set_cons_succ]
   refine rdy (rs := [5, 10]) ?_
   refine rc (fun K hK => ?k10) (rc (fun K hK => ?k11) AllReadyH.nil)
   case k10 =>
    go_simp
    generalize hWV5 : World.alloc (Vs) _ = V5
    have ltb := HB.out.size
    have ltl := HL.out
    have TT : ∀ k, k < Vs.heap.size → V5.heap[k]? = Vs.heap[k]? := fun k hk => by rw [← hWV5]; (with_reducible repeat (first | rfl | refine hp_set ?_ ?_ | refine hp_alloc ?_ ?_ | refine hp_drew ?_)); all_goals (first | (with_reducible rfl) | omega | (dsimp only; omega) | (simp; omega))
    have TS : Vs.heap.size + 1 ≤ V5.heap.size := by rw [← hWV5]; simp
    have nBE : V5.heap[Vs.heap.size]? = some (.cells #[] 9 (0, 0)) := by rw [← hWV5]; exact blk_new Vs (.cells #[] 9)
    have nHB : Below Vs.heap.size Vs V5 := by rw [← hWV5]; exact bel_alloc (HB.out) _
    have nE : Kd.R Kd.string 9 V5 w.heap.size (fun _ => True) (.slice (some ⟨Vs.heap.size, 0, none⟩) 0 0) [] := by rw [← hWV5]; exact R_empty Kd.string 9 Vs w.heap.size (by have := ltb; omega) trivial
    clear hWV5  HB 
    have BE := Aside0.mk nBE
    clear nBE
    have E := Aside0.mk nE
    clear nE
    have HB := Aside0.mk nHB
    clear nHB
    have oBE_ltl := ltl
    have oBE_ts := TS
    replace HL := Aside0.mk (Nat.le_trans HL.out (by omega : Vs.heap.size ≤ V5.heap.size))
    clear TT TS ltb ltl
    refine hK.out _ _ ?h12 (fun hHeld => ?j12)
    case h12 => exact ⟨(below_blk F0.out HB.out), (below_blk F1.out HB.out)⟩
    clear hK K
    try simp only [Act.put, List.setIfInBounds_toArray, List.set_cons_zero, List.set_cons_succ]
    refine rdy (rs := [8, 10]) ?_
    refine rc (fun K hK => ?k13) (rc (fun K hK => ?k14) AllReadyH.nil)
    case k13 =>
     have hVb := HB.out.size
     refine Kd.R_append_rows_step Kd.string (w0 := Vs) (w.heap.size) (by rfl) (.tmp 14) (.tmp 16) 26 9 (.string ⟨#[]⟩) 16 rfl Tryd.underlying26 info9 rfl (by decide) (by omega) (.slice (some ⟨Vs.heap.size, 0, none⟩) 0 0) [] m.f2 (M1) (m.f2.length) (m1) (fun _ => True) (fun _ => False) rfl rfl E.out (Kd.C_below K1.out (bel_then HBo.out HB.out)) (fun _ _ h => h) (fun _ h => h.elim) (fun _ _ => trivial) ((HB.out.mono (by omega : w.heap.size ≤ Vs.heap.size))) (by have := HB.out.size; omega) (by simp; omega) ?_
     intro v8 V8 ho hb hg hat
     rw [List.nil_append] at ho
     obtain ⟨EB, Ed, hv⟩ := Kd.R_slice ho
     subst hv
     have nHB : Below Vs.heap.size Vs V8 := bel_grown HB.out hg HB.out.size (fun k hk => by simp [Value.ownBlock] at hk; omega)
     have nHL := Aside0.mk (Nat.le_trans HL.out hg.size)
     clear HB HL BE E
     have HL := nHL
     clear nHL
     have HB := Aside0.mk nHB
     clear nHB
     have E : Aside0 (Kd.R Kd.string 9 V8 w.heap.size (fun _ => True) (.slice EB (m.f2).length Ed) m.f2) := ⟨ho⟩
     clear ho hb hg hat hVb
     refine hK.out _ _ ?h15 (fun hHeld => ?j15)
     case h15 => exact ⟨(below_blk F0.out HB.out), (below_blk F1.out HB.out)⟩
     clear hK K
     try simp only [Act.put, List.setIfInBounds_toArray, List.set_cons_zero, List.set_cons_succ]
     refine tk 9 ?v16 ?y16 ?r16
     case y16 => intro w_ hSw; (try dsimp only at hSw); clear hSw; go_simp; (try (with_reducible rfl))
     try simp only [Act.put, List.setIfInBounds_toArray, List.set_cons_zero, List.set_cons_succ]
     refine rdy (rs := [10]) ?_
     refine rc (fun K hK => ?k17) AllReadyH.nil
     case k17 =>
      go_simp
      generalize hWV10 : World.alloc (V8) _ = V10
      have ltb := HB.out.size
      have ltl := HL.out
      have TT : ∀ k, k < V8.heap.size → V10.heap[k]? = V8.heap[k]? := fun k hk => by rw [← hWV10]; (with_reducible repeat (first | rfl | refine hp_set ?_ ?_ | refine hp_alloc ?_ ?_ | refine hp_drew ?_)); all_goals (first | (with_reducible rfl) | omega | (dsimp only; omega) | (simp; omega))
      have TS : V8.heap.size + 1 ≤ V10.heap.size := by rw [← hWV10]; simp
      have nFX : V10.heap[V8.heap.size]? = some (.cells #[.int .i64 0, .string ⟨#[]⟩, .string ⟨#[]⟩, .slice none 0 0, .slice none 0 0] 28 (0, 0)) := by rw [← hWV10]; exact blk_new V8 (.cells #[.int .i64 0, .string ⟨#[]⟩, .string ⟨#[]⟩, .slice none 0 0, .slice none 0 0] 28)
      have nE : Kd.R Kd.string 9 V10 w.heap.size (fun _ => True) (.slice EB (m.f2).length Ed) m.f2 := R_keepT E.out rfl (fun k hk ho => TT k hk)
      have nHB : Below Vs.heap.size Vs V10 := by rw [← hWV10]; exact bel_alloc (HB.out) _
      clear hWV10  HB E
      have FX := Aside0.mk nFX
      clear nFX
      have E := Aside0.mk nE
      clear nE
      have HB := Aside0.mk nHB
      clear nHB
      have oFX_ltl := ltl
      have oFX_ts := TS
      replace HL := Aside0.mk (Nat.le_trans HL.out (by omega : V8.heap.size ≤ V10.heap.size))
      clear TT TS ltb ltl
      refine hK.out _ _ ?h18 (fun hHeld => ?j18)
      case h18 => exact ⟨(below_blk F0.out HB.out), (below_blk F1.out HB.out)⟩
      clear hK K
      try simp only [Act.put, List.setIfInBounds_toArray, List.set_cons_zero, List.set_cons_succ]
      generalize hgx : V8.heap.size = gx at FX ⊢
      generalize hg0 : Vs.heap.size = g0
      exact HKK.out gx g0 EB Ed V10 ⟨HB.out, FX.out, E.out, (by have := oFX_ltl; have := HLo.out; omega), hHeld⟩
    case k14 =>
     go_simp
     generalize hWV10 : World.alloc (V5) _ = V10
     have ltBE := blk_lt BE.out
     have ltb := HB.out.size
     have ltl := HL.out
     have TT : ∀ k, k < V5.heap.size → V10.heap[k]? = V5.heap[k]? := fun k hk => by rw [← hWV10]; (with_reducible repeat (first | rfl | refine hp_set ?_ ?_ | refine hp_alloc ?_ ?_ | refine hp_drew ?_)); all_goals (first | (with_reducible rfl) | omega | (dsimp only; omega) | (simp; omega))
     have TS : V5.heap.size + 1 ≤ V10.heap.size := by rw [← hWV10]; simp
     have nBE : V10.heap[Vs.heap.size]? = some (.cells #[] 9 (0, 0)) := (TT _ ltBE).trans BE.out
     have nFX : V10.heap[V5.heap.size]? = some (.cells #[.int .i64 0, .string ⟨#[]⟩, .string ⟨#[]⟩, .slice none 0 0, .slice none 0 0] 28 (0, 0)) := by rw [← hWV10]; exact blk_new V5 (.cells #[.int .i64 0, .string ⟨#[]⟩, .string ⟨#[]⟩, .slice none 0 0, .slice none 0 0] 28)
     have nE : Kd.R Kd.string 9 V10 w.heap.size (fun _ => True) (.slice (some ⟨Vs.heap.size, 0, none⟩) 0 0) [] := R_keepT E.out rfl (fun k hk ho => TT k hk)
     have nHB : Below Vs.heap.size Vs V10 := by rw [← hWV10]; exact bel_alloc (HB.out) _
     clear hWV10 BE HB E
     have BE := Aside0.mk nBE
     clear nBE
     have FX := Aside0.mk nFX
     clear nFX
     have E := Aside0.mk nE
     clear nE
     have HB := Aside0.mk nHB
     clear nHB
     have oFX_ltBE := ltBE
     have oFX_ltl := ltl
     have oFX_ts := TS
     replace HL := Aside0.mk (Nat.le_trans HL.out (by omega : V5.heap.size ≤ V10.heap.size))
     clear TT TS ltBE ltb ltl
     refine hK.out _ _ ?h19 (fun hHeld => ?j19)
     case h19 => exact ⟨(below_blk F0.out HB.out), (below_blk F1.out HB.out)⟩
     clear hK K
     try simp only [Act.put, List.setIfInBounds_toArray, List.set_cons_zero, List.set_cons_succ]
     refine rdy (rs := [8]) ?_
     refine rc (fun K hK => ?k20) AllReadyH.nil
     case k20 =>
      have hVb := HB.out.size
      refine Kd.R_append_rows_step Kd.string (w0 := Vs) (w.heap.size) (by rfl) (.tmp 14) (.tmp 16) 26 9 (.string ⟨#[]⟩) 16 rfl Tryd.underlying26 info9 rfl (by decide) (by omega) (.slice (some ⟨Vs.heap.size, 0, none⟩) 0 0) [] m.f2 (M1) (m.f2.length) (m1) (fun _ => True) (fun _ => False) rfl rfl E.out (Kd.C_below K1.out (bel_then HBo.out HB.out)) (fun _ _ h => h) (fun _ h => h.elim) (fun _ _ => trivial) ((HB.out.mono (by omega : w.heap.size ≤ Vs.heap.size))) (by have := HB.out.size; omega) (by simp; omega) ?_
      intro v8 V8 ho hb hg hat
      rw [List.nil_append] at ho
      obtain ⟨EB, Ed, hv⟩ := Kd.R_slice ho
      subst hv
      have nHB : Below Vs.heap.size Vs V8 := bel_grown HB.out hg HB.out.size (fun k hk => by simp [Value.ownBlock] at hk; omega)
      have nFX : V8.heap[V5.heap.size]? = some (.cells #[.int .i64 0, .string ⟨#[]⟩, .string ⟨#[]⟩, .slice none 0 0, .slice none 0 0] 28 (0, 0)) := (hg.block _ (blk_lt FX.out) (Kd.R_ne E.out FX.out (by decide))).trans FX.out
      have nHL := Aside0.mk (Nat.le_trans HL.out hg.size)
      clear HB HL BE FX E
      have FX := Aside0.mk nFX
      clear nFX
      have HL := nHL
      clear nHL
      have HB := Aside0.mk nHB
      clear nHB
      have E : Aside0 (Kd.R Kd.string 9 V8 w.heap.size (fun _ => True) (.slice EB (m.f2).length Ed) m.f2) := ⟨ho⟩
      clear ho hb hg hat hVb
      refine hK.out _ _ ?h21 (fun hHeld => ?j21)
      case h21 => exact ⟨(below_blk F0.out HB.out), (below_blk F1.out HB.out)⟩
      clear hK K
      try simp only [Act.put, List.setIfInBounds_toArray, List.set_cons_zero, List.set_cons_succ]
      refine tk 9 ?v22 ?y22 ?r22
      case y22 => intro w_ hSw; (try dsimp only at hSw); clear hSw; go_simp; (try (with_reducible rfl))
      try simp only [Act.put, List.setIfInBounds_toArray, List.set_cons_zero, List.set_cons_succ]
      generalize hgx : V5.heap.size = gx at FX ⊢
      generalize hg0 : Vs.heap.size = g0
      exact HKK.out gx g0 EB Ed V8 ⟨HB.out, FX.out, E.out, (by have := oFX_ltl; have := HLo.out; omega), hHeld⟩
   case k11 =>
    go_simp
    generalize hWV10 : World.alloc (Vs) _ = V10
    have ltb := HB.out.size
    have ltl := HL.out
    have TT : ∀ k, k < Vs.heap.size → V10.heap[k]? = Vs.heap[k]? := fun k hk => by rw [← hWV10]; (with_reducible repeat (first | rfl | refine hp_set ?_ ?_ | refine hp_alloc ?_ ?_ | refine hp_drew ?_)); all_goals (first | (with_reducible rfl) | omega | (dsimp only; omega) | (simp; omega))
    have TS : Vs.heap.size + 1 ≤ V10.heap.size := by rw [← hWV10]; simp
    have nFX : V10.heap[Vs.heap.size]? = some (.cells #[.int .i64 0, .string ⟨#[]⟩, .string ⟨#[]⟩, .slice none 0 0, .slice none 0 0] 28 (0, 0)) := by rw [← hWV10]; exact blk_new Vs (.cells #[.int .i64 0, .string ⟨#[]⟩, .string ⟨#[]⟩, .slice none 0 0, .slice none 0 0] 28)
    have nHB : Below Vs.heap.size Vs V10 := by rw [← hWV10]; exact bel_alloc (HB.out) _
    clear hWV10  HB 
    have FX := Aside0.mk nFX
    clear nFX
    have HB := Aside0.mk nHB
    clear nHB
    have oFX_ltl := ltl
    have oFX_ts := TS
    replace HL := Aside0.mk (Nat.le_trans HL.out (by omega : Vs.heap.size ≤ V10.heap.size))
    clear TT TS ltb ltl
    refine hK.out _ _ ?h23 (fun hHeld => ?j23)
    case h23 => exact ⟨(below_blk F0.out HB.out), (below_blk F1.out HB.out)⟩
    clear hK K
    try simp only [Act.put, List.setIfInBounds_toArray, List.set_cons_zero, List.set_cons_succ]
    refine rdy (rs := [5]) ?_
    refine rc (fun K hK => ?k24) AllReadyH.nil
    case k24 =>
     go_simp
     generalize hWV5 : World.alloc (V10) _ = V5
     have ltFX := blk_lt FX.out
     have ltb := HB.out.size
     have ltl := HL.out
     have TT : ∀ k, k < V10.heap.size → V5.heap[k]? = V10.heap[k]? := fun k hk => by rw [← hWV5]; (with_reducible repeat (first | rfl | refine hp_set ?_ ?_ | refine hp_alloc ?_ ?_ | refine hp_drew ?_)); all_goals (first | (with_reducible rfl) | omega | (dsimp only; omega) | (simp; omega))
     have TS : V10.heap.size + 1 ≤ V5.heap.size := by rw [← hWV5]; simp
     have nFX : V5.heap[Vs.heap.size]? = some (.cells #[.int .i64 0, .string ⟨#[]⟩, .string ⟨#[]⟩, .slice none 0 0, .slice none 0 0] 28 (0, 0)) := (TT _ ltFX).trans FX.out
     have nBE : V5.heap[V10.heap.size]? = some (.cells #[] 9 (0, 0)) := by rw [← hWV5]; exact blk_new V10 (.cells #[] 9)
     have nHB : Below Vs.heap.size Vs V5 := by rw [← hWV5]; exact bel_alloc (HB.out) _
     have nE : Kd.R Kd.string 9 V5 w.heap.size (fun _ => True) (.slice (some ⟨V10.heap.size, 0, none⟩) 0 0) [] := by rw [← hWV5]; exact R_empty Kd.string 9 V10 w.heap.size (by have := ltb; omega) trivial
     clear hWV5 FX HB 
     have FX := Aside0.mk nFX
     clear nFX
     have BE := Aside0.mk nBE
     clear nBE
     have E := Aside0.mk nE
     clear nE
     have HB := Aside0.mk nHB
     clear nHB
     have oBE_ltFX := ltFX
     have oBE_ltl := ltl
     have oBE_ts := TS
     replace HL := Aside0.mk (Nat.le_trans HL.out (by omega : V10.heap.size ≤ V5.heap.size))
     clear TT TS ltFX ltb ltl
     refine hK.out _ _ ?h25 (fun hHeld => ?j25)
     case h25 => exact ⟨(below_blk F0.out HB.out), (below_blk F1.out HB.out)⟩
     clear hK K
     try simp only [Act.put, List.setIfInBounds_toArray, List.set_cons_zero, List.set_cons_succ]
     refine rdy (rs := [8]) ?_
     refine rc (fun K hK => ?k26) AllReadyH.nil
     case k26 =>
      have hVb := HB.out.size
      refine Kd.R_append_rows_step Kd.string (w0 := Vs) (w.heap.size) (by rfl) (.tmp 14) (.tmp 16) 26 9 (.string ⟨#[]⟩) 16 rfl Tryd.underlying26 info9 rfl (by decide) (by omega) (.slice (some ⟨V10.heap.size, 0, none⟩) 0 0) [] m.f2 (M1) (m.f2.length) (m1) (fun _ => True) (fun _ => False) rfl rfl E.out (Kd.C_below K1.out (bel_then HBo.out HB.out)) (fun _ _ h => h) (fun _ h => h.elim) (fun _ _ => trivial) ((HB.out.mono (by omega : w.heap.size ≤ Vs.heap.size))) (by have := HB.out.size; omega) (by simp; omega) ?_
      intro v8 V8 ho hb hg hat
      rw [List.nil_append] at ho
      obtain ⟨EB, Ed, hv⟩ := Kd.R_slice ho
      subst hv
      have nHB : Below Vs.heap.size Vs V8 := bel_grown HB.out hg HB.out.size (fun k hk => by simp [Value.ownBlock] at hk; omega)
      have nFX : V8.heap[Vs.heap.size]? = some (.cells #[.int .i64 0, .string ⟨#[]⟩, .string ⟨#[]⟩, .slice none 0 0, .slice none 0 0] 28 (0, 0)) := (hg.block _ (blk_lt FX.out) (Kd.R_ne E.out FX.out (by decide))).trans FX.out
      have nHL := Aside0.mk (Nat.le_trans HL.out hg.size)
      clear HB HL FX BE E
      have FX := Aside0.mk nFX
      clear nFX
      have HL := nHL
      clear nHL
      have HB := Aside0.mk nHB
      clear nHB
      have E : Aside0 (Kd.R Kd.string 9 V8 w.heap.size (fun _ => True) (.slice EB (m.f2).length Ed) m.f2) := ⟨ho⟩
      clear ho hb hg hat hVb
      refine hK.out _ _ ?h27 (fun hHeld => ?j27)
      case h27 => exact ⟨(below_blk F0.out HB.out), (below_blk F1.out HB.out)⟩
      clear hK K
      try simp only [Act.put, List.setIfInBounds_toArray, List.set_cons_zero, List.set_cons_succ]
      refine tk 9 ?v28 ?y28 ?r28
      case y28 => intro w_ hSw; (try dsimp only at hSw); clear hSw; go_simp; (try (with_reducible rfl))
      try simp only [Act.put, List.setIfInBounds_toArray, List.set_cons_zero, List.set_cons_succ]
      generalize hgx : Vs.heap.size = gx at FX ⊢
      generalize hg0 : V10.heap.size = g0
      exact HKK.out gx g0 EB Ed V8 ⟨HB.out, FX.out, E.out, (by have := oFX_ltl; have := HLo.out; omega), hHeld⟩
  case hk =>
   clear hHeld HBj
   intro gx g0 EB Ed V ⟨hB, hFX, hE, hx0, hHeld⟩
   clear join
   replace F0 := Aside0.mk (below_blk F0.out hB)
   replace F1 := Aside0.mk (below_blk F1.out hB)
   replace F2 := Aside0.mk (below_blk F2.out hB)
   replace HS := Aside0.mk (Kd.R_below HS.out hB)
   have FX := Aside0.mk hFX
   clear hFX
   have E := Aside0.mk hE
   clear hE
   have HB := Aside0.mk (bel_then HBo.out hB)
   have HL := Aside0.mk (Nat.le_trans HLo.out hB.size)
   clear HBo HLo hB
   refine rdy (rs := [11]) ?_
   refine rc (fun K hK => ?k29) AllReadyH.nil
   case k29 =>
    have zFX := blk_lt FX.out
    have cFX_0 : V.cell? ⟨gx, 0, none⟩ = some (.int .i64 0) := clq FX.out 0 rfl
    have dFX_0 := fzq FX.out 0
    have cFX_1 : V.cell? ⟨gx, 1, none⟩ = some (.string ⟨#[]⟩) := clq FX.out 1 rfl
    have dFX_1 := fzq FX.out 1
    have cFX_2 : V.cell? ⟨gx, 2, none⟩ = some (.string ⟨#[]⟩) := clq FX.out 2 rfl
    have dFX_2 := fzq FX.out 2
    have cFX_3 : V.cell? ⟨gx, 3, none⟩ = some (.slice none 0 0) := clq FX.out 3 rfl
    have dFX_3 := fzq FX.out 3
    have cFX_4 : V.cell? ⟨gx, 4, none⟩ = some (.slice none 0 0) := clq FX.out 4 rfl
    have dFX_4 := fzq FX.out 4
    go_simp
    generalize hWV11 : World.setCell (World.setCell (World.setCell (World.setCell (World.setCell (V) _ _) _ _) _ _) _ _) _ _ = V11
    have ltF0 := blk_lt F0.out
    have ltF1 := blk_lt F1.out
    have ltF2 := blk_lt F2.out
    have ltFX := blk_lt FX.out
    have ltb := HB.out.size
    have ltl := HL.out
    have TT : ∀ k, k < V.heap.size → k ≠ gx → V11.heap[k]? = V.heap[k]? := fun k hk n_FX => by rw [← hWV11]; (with_reducible repeat (first | rfl | refine hp_set ?_ ?_ | refine hp_alloc ?_ ?_ | refine hp_drew ?_)); all_goals (first | (with_reducible rfl) | omega | (dsimp only; omega) | (simp; omega))
    have TS : V.heap.size + 0 ≤ V11.heap.size := by rw [← hWV11]; simp
    have nF0 : V11.heap[w.heap.size]? = some (.cells #[.int .i64 s.f0, .slice A0 s.f1.length c0] 43 (0, 0)) := (TT _ ltF0 (by omega)).trans F0.out
    have nF1 : V11.heap[w.heap.size + 1]? = some (.cells #[.string m.f0.f0, .string m.f0.f1, .slice M0 m.f1.length m0, .slice M1 m.f2.length m1] 33 (0, 0)) := (TT _ ltF1 (by omega)).trans F1.out
    have nF2 : V11.heap[w.heap.size + 2]? = some (.cells #[.int .i64 0, .slice none 0 0] 43 (0, 0)) := (TT _ ltF2 (by omega)).trans F2.out
    have nFX : V11.heap[gx]? = some (.cells #[.int .i64 (s.f0 + 1), .string m.f0.f0, .string m.f0.f1, .slice none 0 0, .slice EB m.f2.length Ed] 28 (0, 0)) := by rw [← hWV11]; have h := blk_set1 (blk_set1 (blk_set1 (blk_set1 (blk_set1 (FX.out) 0 (.int .i64 (s.f0 + 1))) 1 (.string m.f0.f0)) 2 (.string m.f0.f1)) 3 (.slice none 0 0)) 4 (.slice EB m.f2.length Ed); simpa using h
    have nHS : Kd.R kItem 28 V11 b (fun k => k < w.heap.size) (.slice A0 s.f1.length c0) s.f1 := Kd.R_step HS.out (fun k hk hlt => TT k hlt (by have h_ : k < w.heap.size := hk; omega))
    have nE : Kd.R Kd.string 9 V11 w.heap.size (fun _ => True) (.slice EB m.f2.length Ed) m.f2 := R_keepT E.out rfl (fun k hk ho => TT k hk (fun e => Kd.R_ne E.out FX.out (by decide) (e ▸ ho)))
    have nHB : Below w.heap.size w V11 := by rw [← hWV11]; exact bel_set (bel_set (bel_set (bel_set (bel_set (HB.out) _ (by show w.heap.size ≤ gx; first | omega | (simp; omega))) _ (by show w.heap.size ≤ gx; first | omega | (simp; omega))) _ (by show w.heap.size ≤ gx; first | omega | (simp; omega))) _ (by show w.heap.size ≤ gx; first | omega | (simp; omega))) _ (by show w.heap.size ≤ gx; first | omega | (simp; omega))
    clear zFX cFX_0 dFX_0 cFX_1 dFX_1 cFX_2 dFX_2 cFX_3 dFX_3 cFX_4 dFX_4
    clear hWV11 F0 F1 F2 FX HB HS E
    have F0 := Aside0.mk nF0
    clear nF0
    have F1 := Aside0.mk nF1
    clear nF1
    have F2 := Aside0.mk nF2
    clear nF2
    have FX := Aside0.mk nFX
    clear nFX
    have HS := Aside0.mk nHS
    clear nHS
    have E := Aside0.mk nE
    clear nE
    have HB := Aside0.mk nHB
    clear nHB
    replace HL := Aside0.mk (Nat.le_trans HL.out (by omega : V.heap.size ≤ V11.heap.size))
    clear TT TS ltF0 ltF1 ltF2 ltFX ltb ltl
    refine hK.out _ _ ?h30 (fun hHeld => ?j30)
    case h30 => exact ⟨F0.out, F1.out⟩
    clear hK K hHeld
    try simp only [Act.put, List.setIfInBounds_toArray, List.set_cons_zero, List.set_cons_succ]
    refine wpAnyH_done (by kernel_rfl) ?_ _
    exact HKK.out gx g0 EB Ed V11 ⟨HB.out, F0.out, F1.out, F2.out, FX.out, HS.out, E.out, hx0⟩
 case hk =>
  intro gx g0 EB Ed V ⟨hB, hF0, hF1, hF2, hFX, hHS, hE, hx0⟩
  clear join jF0 jF1 jF2 jHS jHB jHL
  have F0 := Aside0.mk hF0
  clear hF0
  have F1 := Aside0.mk hF1
  clear hF1
  have F2 := Aside0.mk hF2
  clear hF2
  have FX := Aside0.mk hFX
  clear hFX
  have HS := Aside0.mk hHS
  clear hHS
  have E := Aside0.mk hE
  clear hE
  have HB := Aside0.mk hB
  clear hB
  have hgx := hx0
  clear hx0
  go_wp2
  go_loopg [8] (m.f1.length) (fun g v8 wr => ∃ (i : Nat) (TB : Option Addr) (Td : Nat), i ≤ m.f1.length ∧ m.f1.length - i ≤ g ∧ v8 = .int .i64 i ∧ Aside0 (Below w.heap.size w wr) ∧ Aside0 (wr.heap[w.heap.size]? = some (.cells #[.int .i64 s.f0, .slice A0 s.f1.length c0] 43 (0, 0))) ∧ Aside0 (wr.heap[w.heap.size + 1]? = some (.cells #[.string m.f0.f0, .string m.f0.f1, .slice M0 m.f1.length m0, .slice M1 m.f2.length m1] 33 (0, 0))) ∧ Aside0 (wr.heap[w.heap.size + 2]? = some (.cells #[.int .i64 0, .slice none 0 0] 43 (0, 0))) ∧ Aside0 (wr.heap[gx]? = some (.cells #[.int .i64 (s.f0 + 1), .string m.f0.f0, .string m.f0.f1, .slice TB ((m.f1.take i).map (fun a => (⟨a, 0, now⟩ : SRcpt))).length Td, .slice EB m.f2.length Ed] 28 (0, 0))) ∧ Aside0 (Kd.R kItem 28 wr b (fun k => k < w.heap.size) (.slice A0 s.f1.length c0) s.f1) ∧ Aside0 (Kd.R Kd.string 9 wr w.heap.size (fun _ => True) (.slice EB m.f2.length Ed) m.f2) ∧ Aside0 (Kd.R kRcpt 55 wr w.heap.size (fun _ => True) (.slice TB ((m.f1.take i).map (fun a => (⟨a, 0, now⟩ : SRcpt))).length Td) ((m.f1.take i).map (fun a => (⟨a, 0, now⟩ : SRcpt)))))
  case atStart => exact ⟨0, none, 0, Nat.zero_le _, by omega, rfl, HB, F0, F1, F2, FX, HS, E, ⟨Kd.R_nil _ _ _ _ _⟩⟩
  case round =>
   clear HB F0 F1 F2 FX HS E
   obtain ⟨i, TB, Td, hi, hg, rfl, HB, F0, F1, F2, FX, HS, E, T⟩ := hrel
   have HL : Aside0 (w.heap.size + 3 ≤ wr.heap.size) := ⟨by have := blk_lt F2.out; have := blk_lt FX.out; omega⟩
   by_cases hlt : i < m.f1.length
   ·have hlt' : (i : Int) < (m.f1.length : Int) := by omega
    obtain ⟨ad, e1, p0, p1⟩ := at_Addr K0.out i hlt
    subst e1
    have hnx : (m.f1.take (i + 1)).map (fun a => (⟨a, 0, now⟩ : SRcpt)) = (m.f1.take i).map (fun a => (⟨a, 0, now⟩ : SRcpt)) ++ [⟨m.f1.getD i zAddr, 0, now⟩] := by rw [List.take_succ_eq_append_getElem hlt, List.map_append, List.getD, List.getElem?_eq_getElem hlt]; rfl
    have hln : ((m.f1.take i).map (fun a => (⟨a, 0, now⟩ : SRcpt))).length = i := by rw [List.length_map, List.length_take]; omega
    generalize m.f1.getD i zAddr = y at p0 p1 hnx
    generalize ((m.f1.take i).map (fun a => (⟨a, 0, now⟩ : SRcpt))) = rs at FX T hnx hln
    have HN := Lib.hid hnx
    have HLN := Lib.hid hln
    have lta := World.block_lt_of_cell? _ _ p0
    clear hnx hln
    have zF1 := blk_lt F1.out
    have cF1_0 : wr.cell? ⟨w.heap.size + 1, 0, none⟩ = some (.string m.f0.f0) := clq F1.out 0 rfl
    have cF1_1 : wr.cell? ⟨w.heap.size + 1, 1, none⟩ = some (.string m.f0.f1) := clq F1.out 1 rfl
    have cF1_2 : wr.cell? ⟨w.heap.size + 1, 2, none⟩ = some (.slice (some ad) m.f1.length m0) := clq F1.out 2 rfl
    have cF1_3 : wr.cell? ⟨w.heap.size + 1, 3, none⟩ = some (.slice M1 m.f2.length m1) := clq F1.out 3 rfl
    have zFX := blk_lt FX.out
    have cFX_0 : wr.cell? ⟨gx, 0, none⟩ = some (.int .i64 (s.f0 + 1)) := clq FX.out 0 rfl
    have cFX_1 : wr.cell? ⟨gx, 1, none⟩ = some (.string m.f0.f0) := clq FX.out 1 rfl
    have cFX_2 : wr.cell? ⟨gx, 2, none⟩ = some (.string m.f0.f1) := clq FX.out 2 rfl
    have cFX_3 : wr.cell? ⟨gx, 3, none⟩ = some (.slice TB rs.length Td) := clq FX.out 3 rfl
    have cFX_4 : wr.cell? ⟨gx, 4, none⟩ = some (.slice EB m.f2.length Ed) := clq FX.out 4 rfl
    go_wp2
    have HS31 : Aside0 (∀ W : World, (W.heap[w.heap.size + 1]? = some (.cells #[.string m.f0.f0, .string m.f0.f1, .slice (some ad) m.f1.length m0, .slice M1 m.f2.length m1] 33 (0, 0)) ∧ W.heap[(ad.add (i * 2)).block]? = w.heap[(ad.add (i * 2)).block]?) → W.cell? ⟨w.heap.size + 1, 0, none⟩ = some (.string m.f0.f0) ∧ W.cell? ⟨w.heap.size + 1, 1, none⟩ = some (.string m.f0.f1) ∧ W.cell? ⟨w.heap.size + 1, 2, none⟩ = some (.slice (some ad) m.f1.length m0) ∧ W.cell? ⟨w.heap.size + 1, 3, none⟩ = some (.slice M1 m.f2.length m1) ∧ W.cell? (ad.add (i * 2)) = some (.string y.f0) ∧ W.cell? ⟨(ad.add (i * 2)).block, (ad.add (i * 2)).off + 1, none⟩ = some (.string y.f1)) := ⟨fun W h => ⟨(by have h_ := h.1; simp [World.cell?, h_]), (by have h_ := h.1; simp [World.cell?, h_]), (by have h_ := h.1; simp [World.cell?, h_]), (by have h_ := h.1; simp [World.cell?, h_]), ((World.cell?_of_block h.2).trans p0), ((World.cell?_of_block (by exact h.2)).trans p1)⟩⟩
    refine wp_region_held_drew (S := fun (W : World) => W.heap[w.heap.size + 1]? = some (.cells #[.string m.f0.f0, .string m.f0.f1, .slice (some ad) m.f1.length m0, .slice M1 m.f2.length m1] 33 (0, 0)) ∧ W.heap[(ad.add (i * 2)).block]? = w.heap[(ad.add (i * 2)).block]?) (by kernel_rfl) ?s32 (fun hHeld => ?t32)
    case s32 => exact (show (fun (W : World) => W.heap[w.heap.size + 1]? = some (.cells #[.string m.f0.f0, .string m.f0.f1, .slice (some ad) m.f1.length m0, .slice M1 m.f2.length m1] 33 (0, 0)) ∧ W.heap[(ad.add (i * 2)).block]? = w.heap[(ad.add (i * 2)).block]?) (World.drew wr) from ⟨F1.out, HB.out.block _ lta⟩)
    generalize hWVs : World.drew (wr) = Vs at hHeld ⊢
    have ltF0 := blk_lt F0.out
    have ltF1 := blk_lt F1.out
    have ltF2 := blk_lt F2.out
    have ltFX := blk_lt FX.out
    have ltb := HB.out.size
    have ltl := HL.out
    have TT : ∀ k, k < wr.heap.size → Vs.heap[k]? = wr.heap[k]? := fun k hk => by rw [← hWVs]; (with_reducible repeat (first | rfl | refine hp_set ?_ ?_ | refine hp_alloc ?_ ?_ | refine hp_drew ?_)); all_goals (first | (with_reducible rfl) | omega | (dsimp only; omega) | (simp; omega))
    have TS : wr.heap.size + 0 ≤ Vs.heap.size := by rw [← hWVs]; simp
    have nF0 : Vs.heap[w.heap.size]? = some (.cells #[.int .i64 s.f0, .slice A0 s.f1.length c0] 43 (0, 0)) := (TT _ ltF0).trans F0.out
    have nF1 : Vs.heap[w.heap.size + 1]? = some (.cells #[.string m.f0.f0, .string m.f0.f1, .slice (some ad) m.f1.length m0, .slice M1 m.f2.length m1] 33 (0, 0)) := (TT _ ltF1).trans F1.out
    have nF2 : Vs.heap[w.heap.size + 2]? = some (.cells #[.int .i64 0, .slice none 0 0] 43 (0, 0)) := (TT _ ltF2).trans F2.out
    have nFX : Vs.heap[gx]? = some (.cells #[.int .i64 (s.f0 + 1), .string m.f0.f0, .string m.f0.f1, .slice TB rs.length Td, .slice EB m.f2.length Ed] 28 (0, 0)) := (TT _ ltFX).trans FX.out
    have nHS : Kd.R kItem 28 Vs b (fun k => k < w.heap.size) (.slice A0 s.f1.length c0) s.f1 := Kd.R_step HS.out (fun k hk hlt => TT k hlt)
    have nE : Kd.R Kd.string 9 Vs w.heap.size (fun _ => True) (.slice EB m.f2.length Ed) m.f2 := R_keepT E.out rfl (fun k hk ho => TT k hk)
    have nT : Kd.R kRcpt 55 Vs w.heap.size (fun _ => True) (.slice TB rs.length Td) rs := R_keepT T.out rfl (fun k hk ho => TT k hk)
    have nHB : Below w.heap.size w Vs := by rw [← hWVs]; exact bel_then (HB.out) (drew_below0 _)
    clear zF1 cF1_0 cF1_1 cF1_2 cF1_3 zFX cFX_0 cFX_1 cFX_2 cFX_3 cFX_4
    clear hWVs F0 F1 F2 FX HB HS E T
    have F0 := Aside0.mk nF0
    clear nF0
    have F1 := Aside0.mk nF1
    clear nF1
    have F2 := Aside0.mk nF2
    clear nF2
    have FX := Aside0.mk nFX
    clear nFX
    have HS := Aside0.mk nHS
    clear nHS
    have E := Aside0.mk nE
    clear nE
    have T := Aside0.mk nT
    clear nT
    have HB := Aside0.mk nHB
    clear nHB
    replace HL := Aside0.mk (Nat.le_trans HL.out (by omega : wr.heap.size ≤ Vs.heap.size))
    clear TT TS ltF0 ltF1 ltF2 ltFX ltb ltl
    refine tk 0 ?v33 ?y33 ?r33
    case y33 => intro w_ hSw; (try dsimp only at hSw); clear hSw; go_simp; (try (with_reducible rfl))
    try simp only [Act.put, List.setIfInBounds_toArray, List.set_cons_zero, List.set_cons_succ]
    refine tk 2 ?v34 ?y34 ?r34
    case y34 => intro w_ hSw; (try dsimp only at hSw); clear hSw; go_simp; (try (with_reducible rfl))
    try simp only [Act.put, List.setIfInBounds_toArray, List.set_cons_zero, List.set_cons_succ]
    refine tk 3 ?v35 ?y35 ?r35
    case y35 => intro w_ hSw; obtain ⟨e_0, e_1, e_2, e_3, e_4, e_5⟩ := HS31.out w_ hSw; clear hSw; go_simp; (try (with_reducible rfl))
    try simp only [Act.put, List.setIfInBounds_toArray, List.set_cons_zero, List.set_cons_succ]
    refine tk 4 ?v36 ?y36 ?r36
    case y36 => intro w_ hSw; (try dsimp only at hSw); clear hSw; go_simp; (try (with_reducible rfl))
    try simp only [Act.put, List.setIfInBounds_toArray, List.set_cons_zero, List.set_cons_succ]
    refine tk 5 ?v37 ?y37 ?r37
    case y37 => intro w_ hSw; (try dsimp only at hSw); clear hSw; go_simp; (try (with_reducible rfl))
    try simp only [Act.put, List.setIfInBounds_toArray, List.set_cons_zero, List.set_cons_succ]
    refine tk 6 ?v38 ?y38 ?r38
    case y38 => intro w_ hSw; obtain ⟨e_0, e_1, e_2, e_3, e_4, e_5⟩ := HS31.out w_ hSw; clear hSw; go_simp; (try (with_reducible rfl))
    try simp only [Act.put, List.setIfInBounds_toArray, List.set_cons_zero, List.set_cons_succ]
    refine tk 7 ?v39 ?y39 ?r39
    case y39 => intro w_ hSw; (try dsimp only at hSw); clear hSw; go_simp; (try (with_reducible rfl))
    try simp only [Act.put, List.setIfInBounds_toArray, List.set_cons_zero, List.set_cons_succ]
    refine tk 8 ?v40 ?y40 ?r40
    case y40 => intro w_ hSw; (try dsimp only at hSw); clear hSw; go_simp; (try (with_reducible rfl))
    try simp only [Act.put, List.setIfInBounds_toArray, List.set_cons_zero, List.set_cons_succ]
    refine rdy (rs := [1, 9]) ?_
    refine rc (fun K hK => ?k41) (rc (fun K hK => ?k42) AllReadyH.nil)
    case k41 =>
     have zFX := blk_lt FX.out
     have cFX_0 : Vs.cell? ⟨gx, 0, none⟩ = some (.int .i64 (s.f0 + 1)) := clq FX.out 0 rfl
     have cFX_1 : Vs.cell? ⟨gx, 1, none⟩ = some (.string m.f0.f0) := clq FX.out 1 rfl
     have cFX_2 : Vs.cell? ⟨gx, 2, none⟩ = some (.string m.f0.f1) := clq FX.out 2 rfl
     have cFX_3 : Vs.cell? ⟨gx, 3, none⟩ = some (.slice TB rs.length Td) := clq FX.out 3 rfl
     have cFX_4 : Vs.cell? ⟨gx, 4, none⟩ = some (.slice EB m.f2.length Ed) := clq FX.out 4 rfl
     go_simp
     refine hK.out _ _ ?h43 (fun hHeld => ?j43)
     case h43 => exact hHeld
     clear hK K
     try simp only [Act.put, List.setIfInBounds_toArray, List.set_cons_zero, List.set_cons_succ]
     refine rdy (rs := [9]) ?_
     refine rc (fun K hK => ?k44) AllReadyH.nil
     case k44 =>
      go_simp
      clear zFX cFX_0 cFX_1 cFX_2 cFX_3 cFX_4
      generalize hWV9 : World.alloc (Vs) _ = V9
      have ltF0 := blk_lt F0.out
      have ltF1 := blk_lt F1.out
      have ltF2 := blk_lt F2.out
      have ltFX := blk_lt FX.out
      have ltb := HB.out.size
      have ltl := HL.out
      have TT : ∀ k, k < Vs.heap.size → V9.heap[k]? = Vs.heap[k]? := fun k hk => by rw [← hWV9]; (with_reducible repeat (first | rfl | refine hp_set ?_ ?_ | refine hp_alloc ?_ ?_ | refine hp_drew ?_)); all_goals (first | (with_reducible rfl) | omega | (dsimp only; omega) | (simp; omega))
      have TS : Vs.heap.size + 1 ≤ V9.heap.size := by rw [← hWV9]; simp
      have nF0 : V9.heap[w.heap.size]? = some (.cells #[.int .i64 s.f0, .slice A0 s.f1.length c0] 43 (0, 0)) := (TT _ ltF0).trans F0.out
      have nF1 : V9.heap[w.heap.size + 1]? = some (.cells #[.string m.f0.f0, .string m.f0.f1, .slice (some ad) m.f1.length m0, .slice M1 m.f2.length m1] 33 (0, 0)) := (TT _ ltF1).trans F1.out
      have nF2 : V9.heap[w.heap.size + 2]? = some (.cells #[.int .i64 0, .slice none 0 0] 43 (0, 0)) := (TT _ ltF2).trans F2.out
      have nFX : V9.heap[gx]? = some (.cells #[.int .i64 (s.f0 + 1), .string m.f0.f0, .string m.f0.f1, .slice TB rs.length Td, .slice EB m.f2.length Ed] 28 (0, 0)) := (TT _ ltFX).trans FX.out
      have nFB : V9.heap[Vs.heap.size]? = some (.cells #[.string y.f0, .string y.f1, .int .i64 0, .int .i64 now] 55 (0, 0)) := by rw [← hWV9]; exact blk_new Vs (.cells #[.string y.f0, .string y.f1, .int .i64 0, .int .i64 now] 55)
      have nHS : Kd.R kItem 28 V9 b (fun k => k < w.heap.size) (.slice A0 s.f1.length c0) s.f1 := Kd.R_step HS.out (fun k hk hlt => TT k hlt)
      have nE : Kd.R Kd.string 9 V9 w.heap.size (fun _ => True) (.slice EB m.f2.length Ed) m.f2 := R_keepT E.out rfl (fun k hk ho => TT k hk)
      have nT : Kd.R kRcpt 55 V9 w.heap.size (fun _ => True) (.slice TB rs.length Td) rs := R_keepT T.out rfl (fun k hk ho => TT k hk)
      have nHB : Below w.heap.size w V9 := by rw [← hWV9]; exact bel_alloc (HB.out) _
      clear hWV9 F0 F1 F2 FX HB HS E T
      have F0 := Aside0.mk nF0
      clear nF0
      have F1 := Aside0.mk nF1
      clear nF1
      have F2 := Aside0.mk nF2
      clear nF2
      have FX := Aside0.mk nFX
      clear nFX
      have FB := Aside0.mk nFB
      clear nFB
      have HS := Aside0.mk nHS
      clear nHS
      have E := Aside0.mk nE
      clear nE
      have T := Aside0.mk nT
      clear nT
      have HB := Aside0.mk nHB
      clear nHB
      have oFB_ltF0 := ltF0
      have oFB_ltF1 := ltF1
      have oFB_ltF2 := ltF2
      have oFB_ltFX := ltFX
      have oFB_ltl := ltl
      have oFB_ts := TS
      replace HL := Aside0.mk (Nat.le_trans HL.out (by omega : Vs.heap.size ≤ V9.heap.size))
      clear TT TS ltF0 ltF1 ltF2 ltFX ltb ltl
      refine hK.out _ _ ?h45 (fun hHeld => ?j45)
      case h45 => exact ⟨F1.out, HB.out.block _ lta⟩
      clear hK K
      try simp only [Act.put, List.setIfInBounds_toArray, List.set_cons_zero, List.set_cons_succ]
      refine rdy (rs := [10]) ?_
      refine rc (fun K hK => ?k46) AllReadyH.nil
      case k46 =>
       have hVb := HB.out.size
       refine Kd.R_append_rows_step kRcpt (w0 := w) (w.heap.size) (by rfl) (.tmp 27) (.tmp 35) 25 55 (.agg #[(.string ⟨#[]⟩), (.string ⟨#[]⟩), (.int .i64 0), (.int .i64 0)]) 48 rfl Tryd.underlying25 info55 rfl (by decide) (by omega) (.slice TB rs.length Td) rs [(⟨y, 0, now⟩ : SRcpt)] ((some ⟨Vs.heap.size, 0, none⟩)) (1) (1) (fun _ => True) (fun _ => False) rfl rfl T.out (rr_one FB.out (kRcpt_mkM V9 w.heap.size (fun _ => False) (⟨y, 0, now⟩ : SRcpt)) rfl) (fun _ _ h => h) (fun _ h => h.elim) (fun _ _ => trivial) (HB.out) (by have := HB.out.size; omega) (by have := HLN.out; omega) ?_
       intro v10 V10 ho hb hg hat
       obtain ⟨vB, vd, hv⟩ := Kd.R_slice ho
       subst hv
       have nHB : Below w.heap.size w V10 := bel_grown HB.out hg HB.out.size (fun k hk => by exact Kd.R_base T.out k hk)
       have nF0 : V10.heap[w.heap.size]? = some (.cells #[.int .i64 s.f0, .slice A0 s.f1.length c0] 43 (0, 0)) := (hg.block _ (blk_lt F0.out) (Kd.R_ne T.out F0.out (by decide))).trans F0.out
       have nF1 : V10.heap[w.heap.size + 1]? = some (.cells #[.string m.f0.f0, .string m.f0.f1, .slice (some ad) m.f1.length m0, .slice M1 m.f2.length m1] 33 (0, 0)) := (hg.block _ (blk_lt F1.out) (Kd.R_ne T.out F1.out (by decide))).trans F1.out
       have nF2 : V10.heap[w.heap.size + 2]? = some (.cells #[.int .i64 0, .slice none 0 0] 43 (0, 0)) := (hg.block _ (blk_lt F2.out) (Kd.R_ne T.out F2.out (by decide))).trans F2.out
       have nFX : V10.heap[gx]? = some (.cells #[.int .i64 (s.f0 + 1), .string m.f0.f0, .string m.f0.f1, .slice TB rs.length Td, .slice EB m.f2.length Ed] 28 (0, 0)) := (hg.block _ (blk_lt FX.out) (Kd.R_ne T.out FX.out (by decide))).trans FX.out
       have nHS : Kd.R kItem 28 V10 b (fun k => k < w.heap.size) (.slice A0 s.f1.length c0) s.f1 := Kd.R_step HS.out (fun k hk hlt => hg.block k hlt (fun e => by have h1_ : k < w.heap.size := hk; have h2_ := Kd.R_base T.out k e.symm; omega))
       have nE : Kd.R Kd.string 9 V10 w.heap.size (fun _ => True) (.slice EB m.f2.length Ed) m.f2 := Kd.R_over' E.out (Kd.R_typed T.out) (by decide) hg
       have nHL := Aside0.mk (Nat.le_trans HL.out hg.size)
       clear HB HL F0 F1 F2 FX FB HS E T
       have F0 := Aside0.mk nF0
       clear nF0
       have F1 := Aside0.mk nF1
       clear nF1
       have F2 := Aside0.mk nF2
       clear nF2
       have FX := Aside0.mk nFX
       clear nFX
       have HS := Aside0.mk nHS
       clear nHS
       have E := Aside0.mk nE
       clear nE
       have HL := nHL
       clear nHL
       have HB := Aside0.mk nHB
       clear nHB
       have T : Aside0 (Kd.R kRcpt 55 V10 w.heap.size (fun _ => True) (.slice vB ((rs ++ [(⟨y, 0, now⟩ : SRcpt)])).length vd) (rs ++ [(⟨y, 0, now⟩ : SRcpt)])) := ⟨ho⟩
       clear ho hb hg hat hVb
       refine hK.out _ _ ?h47 (fun hHeld => ?j47)
       case h47 => exact ⟨F1.out, HB.out.block _ lta⟩
       clear hK K
       try simp only [Act.put, List.setIfInBounds_toArray, List.set_cons_zero, List.set_cons_succ]
       refine tk 11 ?v48 ?y48 ?r48
       case y48 => intro w_ hSw; (try dsimp only at hSw); clear hSw; go_simp; (try (with_reducible rfl))
       try simp only [Act.put, List.setIfInBounds_toArray, List.set_cons_zero, List.set_cons_succ]
       refine rdy (rs := [12]) ?_
       refine rc (fun K hK => ?k49) AllReadyH.nil
       case k49 =>
        have zFX := blk_lt FX.out
        have cFX_0 : V10.cell? ⟨gx, 0, none⟩ = some (.int .i64 (s.f0 + 1)) := clq FX.out 0 rfl
        have dFX_0 := fzq FX.out 0
        have cFX_1 : V10.cell? ⟨gx, 1, none⟩ = some (.string m.f0.f0) := clq FX.out 1 rfl
        have dFX_1 := fzq FX.out 1
        have cFX_2 : V10.cell? ⟨gx, 2, none⟩ = some (.string m.f0.f1) := clq FX.out 2 rfl
        have dFX_2 := fzq FX.out 2
        have cFX_3 : V10.cell? ⟨gx, 3, none⟩ = some (.slice TB rs.length Td) := clq FX.out 3 rfl
        have dFX_3 := fzq FX.out 3
        have cFX_4 : V10.cell? ⟨gx, 4, none⟩ = some (.slice EB m.f2.length Ed) := clq FX.out 4 rfl
        have dFX_4 := fzq FX.out 4
        go_simp
        generalize hWV12 : World.setCell (V10) _ _ = V12
        have ltF0 := blk_lt F0.out
        have ltF1 := blk_lt F1.out
        have ltF2 := blk_lt F2.out
        have ltFX := blk_lt FX.out
        have ltb := HB.out.size
        have ltl := HL.out
        have TT : ∀ k, k < V10.heap.size → k ≠ gx → V12.heap[k]? = V10.heap[k]? := fun k hk n_FX => by rw [← hWV12]; (with_reducible repeat (first | rfl | refine hp_set ?_ ?_ | refine hp_alloc ?_ ?_ | refine hp_drew ?_)); all_goals (first | (with_reducible rfl) | omega | (dsimp only; omega) | (simp; omega))
        have TS : V10.heap.size + 0 ≤ V12.heap.size := by rw [← hWV12]; simp
        have nF0 : V12.heap[w.heap.size]? = some (.cells #[.int .i64 s.f0, .slice A0 s.f1.length c0] 43 (0, 0)) := (TT _ ltF0 (by omega)).trans F0.out
        have nF1 : V12.heap[w.heap.size + 1]? = some (.cells #[.string m.f0.f0, .string m.f0.f1, .slice (some ad) m.f1.length m0, .slice M1 m.f2.length m1] 33 (0, 0)) := (TT _ ltF1 (by omega)).trans F1.out
        have nF2 : V12.heap[w.heap.size + 2]? = some (.cells #[.int .i64 0, .slice none 0 0] 43 (0, 0)) := (TT _ ltF2 (by omega)).trans F2.out
        have nFX : V12.heap[gx]? = some (.cells #[.int .i64 (s.f0 + 1), .string m.f0.f0, .string m.f0.f1, .slice vB (rs ++ [(⟨y, 0, now⟩ : SRcpt)]).length vd, .slice EB m.f2.length Ed] 28 (0, 0)) := by rw [← hWV12]; have h := blk_set1 (FX.out) 3 (.slice vB (rs ++ [(⟨y, 0, now⟩ : SRcpt)]).length vd); simpa using h
        have nHS : Kd.R kItem 28 V12 b (fun k => k < w.heap.size) (.slice A0 s.f1.length c0) s.f1 := Kd.R_step HS.out (fun k hk hlt => TT k hlt (by have h_ : k < w.heap.size := hk; omega))
        have nE : Kd.R Kd.string 9 V12 w.heap.size (fun _ => True) (.slice EB m.f2.length Ed) m.f2 := R_keepT E.out rfl (fun k hk ho => TT k hk (fun e => Kd.R_ne E.out FX.out (by decide) (e ▸ ho)))
        have nT : Kd.R kRcpt 55 V12 w.heap.size (fun _ => True) (.slice vB ((rs ++ [(⟨y, 0, now⟩ : SRcpt)])).length vd) (rs ++ [(⟨y, 0, now⟩ : SRcpt)]) := R_keepT T.out rfl (fun k hk ho => TT k hk (fun e => Kd.R_ne T.out FX.out (by decide) (e ▸ ho)))
        have nHB : Below w.heap.size w V12 := by rw [← hWV12]; exact bel_set (HB.out) _ (by show w.heap.size ≤ gx; first | omega | (simp; omega))
        clear zFX cFX_0 dFX_0 cFX_1 dFX_1 cFX_2 dFX_2 cFX_3 dFX_3 cFX_4 dFX_4
        clear hWV12 F0 F1 F2 FX HB HS E T
        have F0 := Aside0.mk nF0
        clear nF0
        have F1 := Aside0.mk nF1
        clear nF1
        have F2 := Aside0.mk nF2
        clear nF2
        have FX := Aside0.mk nFX
        clear nFX
        have HS := Aside0.mk nHS
        clear nHS
        have E := Aside0.mk nE
        clear nE
        have T := Aside0.mk nT
        clear nT
        have HB := Aside0.mk nHB
        clear nHB
        replace HL := Aside0.mk (Nat.le_trans HL.out (by omega : V10.heap.size ≤ V12.heap.size))
        clear TT TS ltF0 ltF1 ltF2 ltFX ltb ltl
        refine hK.out _ _ ?h50 (fun hHeld => ?j50)
        case h50 => exact ⟨F1.out, HB.out.block _ lta⟩
        clear hK K
        try simp only [Act.put, List.setIfInBounds_toArray, List.set_cons_zero, List.set_cons_succ]
        refine wpAnyH_done (by kernel_rfl) ?_ _
        go_wp2
        go_roundg (m.f1.length - (i + 1))
        case measure => omega
        case rel => exact ⟨i + 1, vB, vd, by omega, Nat.le_refl _, by go_num, HB, F0, F1, F2, ⟨by rw [HN.out]; exact FX.out⟩, HS, E, ⟨by rw [HN.out]; exact T.out⟩⟩
    case k42 =>
     go_simp
     generalize hWV9 : World.alloc (Vs) _ = V9
     have ltF0 := blk_lt F0.out
     have ltF1 := blk_lt F1.out
     have ltF2 := blk_lt F2.out
     have ltFX := blk_lt FX.out
     have ltb := HB.out.size
     have ltl := HL.out
     have TT : ∀ k, k < Vs.heap.size → V9.heap[k]? = Vs.heap[k]? := fun k hk => by rw [← hWV9]; (with_reducible repeat (first | rfl | refine hp_set ?_ ?_ | refine hp_alloc ?_ ?_ | refine hp_drew ?_)); all_goals (first | (with_reducible rfl) | omega | (dsimp only; omega) | (simp; omega))
     have TS : Vs.heap.size + 1 ≤ V9.heap.size := by rw [← hWV9]; simp
     have nF0 : V9.heap[w.heap.size]? = some (.cells #[.int .i64 s.f0, .slice A0 s.f1.length c0] 43 (0, 0)) := (TT _ ltF0).trans F0.out
     have nF1 : V9.heap[w.heap.size + 1]? = some (.cells #[.string m.f0.f0, .string m.f0.f1, .slice (some ad) m.f1.length m0, .slice M1 m.f2.length m1] 33 (0, 0)) := (TT _ ltF1).trans F1.out
     have nF2 : V9.heap[w.heap.size + 2]? = some (.cells #[.int .i64 0, .slice none 0 0] 43 (0, 0)) := (TT _ ltF2).trans F2.out
     have nFX : V9.heap[gx]? = some (.cells #[.int .i64 (s.f0 + 1), .string m.f0.f0, .string m.f0.f1, .slice TB rs.length Td, .slice EB m.f2.length Ed] 28 (0, 0)) := (TT _ ltFX).trans FX.out
     have nFB : V9.heap[Vs.heap.size]? = some (.cells #[.string y.f0, .string y.f1, .int .i64 0, .int .i64 now] 55 (0, 0)) := by rw [← hWV9]; exact blk_new Vs (.cells #[.string y.f0, .string y.f1, .int .i64 0, .int .i64 now] 55)
     have nHS : Kd.R kItem 28 V9 b (fun k => k < w.heap.size) (.slice A0 s.f1.length c0) s.f1 := Kd.R_step HS.out (fun k hk hlt => TT k hlt)
     have nE : Kd.R Kd.string 9 V9 w.heap.size (fun _ => True) (.slice EB m.f2.length Ed) m.f2 := R_keepT E.out rfl (fun k hk ho => TT k hk)
     have nT : Kd.R kRcpt 55 V9 w.heap.size (fun _ => True) (.slice TB rs.length Td) rs := R_keepT T.out rfl (fun k hk ho => TT k hk)
     have nHB : Below w.heap.size w V9 := by rw [← hWV9]; exact bel_alloc (HB.out) _
     clear hWV9 F0 F1 F2 FX HB HS E T
     have F0 := Aside0.mk nF0
     clear nF0
     have F1 := Aside0.mk nF1
     clear nF1
     have F2 := Aside0.mk nF2
     clear nF2
     have FX := Aside0.mk nFX
     clear nFX
     have FB := Aside0.mk nFB
     clear nFB
     have HS := Aside0.mk nHS
     clear nHS
     have E := Aside0.mk nE
     clear nE
     have T := Aside0.mk nT
     clear nT
     have HB := Aside0.mk nHB
     clear nHB
     have oFB_ltF0 := ltF0
     have oFB_ltF1 := ltF1
     have oFB_ltF2 := ltF2
     have oFB_ltFX := ltFX
     have oFB_ltl := ltl
     have oFB_ts := TS
     replace HL := Aside0.mk (Nat.le_trans HL.out (by omega : Vs.heap.size ≤ V9.heap.size))
     clear TT TS ltF0 ltF1 ltF2 ltFX ltb ltl
     refine hK.out _ _ ?h51 (fun hHeld => ?j51)
     case h51 => exact ⟨F1.out, HB.out.block _ lta⟩
     clear hK K
     try simp only [Act.put, List.setIfInBounds_toArray, List.set_cons_zero, List.set_cons_succ]
     refine rdy (rs := [1]) ?_
     refine rc (fun K hK => ?k52) AllReadyH.nil
     case k52 =>
      have zFX := blk_lt FX.out
      have cFX_0 : V9.cell? ⟨gx, 0, none⟩ = some (.int .i64 (s.f0 + 1)) := clq FX.out 0 rfl
      have cFX_1 : V9.cell? ⟨gx, 1, none⟩ = some (.string m.f0.f0) := clq FX.out 1 rfl
      have cFX_2 : V9.cell? ⟨gx, 2, none⟩ = some (.string m.f0.f1) := clq FX.out 2 rfl
      have cFX_3 : V9.cell? ⟨gx, 3, none⟩ = some (.slice TB rs.length Td) := clq FX.out 3 rfl
      have cFX_4 : V9.cell? ⟨gx, 4, none⟩ = some (.slice EB m.f2.length Ed) := clq FX.out 4 rfl
      go_simp
      refine hK.out _ _ ?h53 (fun hHeld => ?j53)
      case h53 => exact hHeld
      clear hK K
      try simp only [Act.put, List.setIfInBounds_toArray, List.set_cons_zero, List.set_cons_succ]
      refine rdy (rs := [10]) ?_
      refine rc (fun K hK => ?k54) AllReadyH.nil
      case k54 =>
       have hVb := HB.out.size
       refine Kd.R_append_rows_step kRcpt (w0 := w) (w.heap.size) (by rfl) (.tmp 27) (.tmp 35) 25 55 (.agg #[(.string ⟨#[]⟩), (.string ⟨#[]⟩), (.int .i64 0), (.int .i64 0)]) 48 rfl Tryd.underlying25 info55 rfl (by decide) (by omega) (.slice TB rs.length Td) rs [(⟨y, 0, now⟩ : SRcpt)] ((some ⟨Vs.heap.size, 0, none⟩)) (1) (1) (fun _ => True) (fun _ => False) rfl rfl T.out (rr_one FB.out (kRcpt_mkM V9 w.heap.size (fun _ => False) (⟨y, 0, now⟩ : SRcpt)) rfl) (fun _ _ h => h) (fun _ h => h.elim) (fun _ _ => trivial) (HB.out) (by have := HB.out.size; omega) (by have := HLN.out; omega) ?_
       intro v10 V10 ho hb hg hat
       obtain ⟨vB, vd, hv⟩ := Kd.R_slice ho
       subst hv
       have nHB : Below w.heap.size w V10 := bel_grown HB.out hg HB.out.size (fun k hk => by exact Kd.R_base T.out k hk)
       have nF0 : V10.heap[w.heap.size]? = some (.cells #[.int .i64 s.f0, .slice A0 s.f1.length c0] 43 (0, 0)) := (hg.block _ (blk_lt F0.out) (Kd.R_ne T.out F0.out (by decide))).trans F0.out
       have nF1 : V10.heap[w.heap.size + 1]? = some (.cells #[.string m.f0.f0, .string m.f0.f1, .slice (some ad) m.f1.length m0, .slice M1 m.f2.length m1] 33 (0, 0)) := (hg.block _ (blk_lt F1.out) (Kd.R_ne T.out F1.out (by decide))).trans F1.out
       have nF2 : V10.heap[w.heap.size + 2]? = some (.cells #[.int .i64 0, .slice none 0 0] 43 (0, 0)) := (hg.block _ (blk_lt F2.out) (Kd.R_ne T.out F2.out (by decide))).trans F2.out
       have nFX : V10.heap[gx]? = some (.cells #[.int .i64 (s.f0 + 1), .string m.f0.f0, .string m.f0.f1, .slice TB rs.length Td, .slice EB m.f2.length Ed] 28 (0, 0)) := (hg.block _ (blk_lt FX.out) (Kd.R_ne T.out FX.out (by decide))).trans FX.out
       have nHS : Kd.R kItem 28 V10 b (fun k => k < w.heap.size) (.slice A0 s.f1.length c0) s.f1 := Kd.R_step HS.out (fun k hk hlt => hg.block k hlt (fun e => by have h1_ : k < w.heap.size := hk; have h2_ := Kd.R_base T.out k e.symm; omega))
       have nE : Kd.R Kd.string 9 V10 w.heap.size (fun _ => True) (.slice EB m.f2.length Ed) m.f2 := Kd.R_over' E.out (Kd.R_typed T.out) (by decide) hg
       have nHL := Aside0.mk (Nat.le_trans HL.out hg.size)
       clear zFX cFX_0 cFX_1 cFX_2 cFX_3 cFX_4
       clear HB HL F0 F1 F2 FX FB HS E T
       have F0 := Aside0.mk nF0
       clear nF0
       have F1 := Aside0.mk nF1
       clear nF1
       have F2 := Aside0.mk nF2
       clear nF2
       have FX := Aside0.mk nFX
       clear nFX
       have HS := Aside0.mk nHS
       clear nHS
       have E := Aside0.mk nE
       clear nE
       have HL := nHL
       clear nHL
       have HB := Aside0.mk nHB
       clear nHB
       have T : Aside0 (Kd.R kRcpt 55 V10 w.heap.size (fun _ => True) (.slice vB ((rs ++ [(⟨y, 0, now⟩ : SRcpt)])).length vd) (rs ++ [(⟨y, 0, now⟩ : SRcpt)])) := ⟨ho⟩
       clear ho hb hg hat hVb
       refine hK.out _ _ ?h55 (fun hHeld => ?j55)
       case h55 => exact ⟨F1.out, HB.out.block _ lta⟩
       clear hK K
       try simp only [Act.put, List.setIfInBounds_toArray, List.set_cons_zero, List.set_cons_succ]
       refine tk 11 ?v56 ?y56 ?r56
       case y56 => intro w_ hSw; (try dsimp only at hSw); clear hSw; go_simp; (try (with_reducible rfl))
       try simp only [Act.put, List.setIfInBounds_toArray, List.set_cons_zero, List.set_cons_succ]
       refine rdy (rs := [12]) ?_
       refine rc (fun K hK => ?k57) AllReadyH.nil
       case k57 =>
        have zFX := blk_lt FX.out
        have cFX_0 : V10.cell? ⟨gx, 0, none⟩ = some (.int .i64 (s.f0 + 1)) := clq FX.out 0 rfl
        have dFX_0 := fzq FX.out 0
        have cFX_1 : V10.cell? ⟨gx, 1, none⟩ = some (.string m.f0.f0) := clq FX.out 1 rfl
        have dFX_1 := fzq FX.out 1
        have cFX_2 : V10.cell? ⟨gx, 2, none⟩ = some (.string m.f0.f1) := clq FX.out 2 rfl
        have dFX_2 := fzq FX.out 2
        have cFX_3 : V10.cell? ⟨gx, 3, none⟩ = some (.slice TB rs.length Td) := clq FX.out 3 rfl
        have dFX_3 := fzq FX.out 3
        have cFX_4 : V10.cell? ⟨gx, 4, none⟩ = some (.slice EB m.f2.length Ed) := clq FX.out 4 rfl
        have dFX_4 := fzq FX.out 4
        go_simp
        generalize hWV12 : World.setCell (V10) _ _ = V12
        have ltF0 := blk_lt F0.out
        have ltF1 := blk_lt F1.out
        have ltF2 := blk_lt F2.out
        have ltFX := blk_lt FX.out
        have ltb := HB.out.size
        have ltl := HL.out
        have TT : ∀ k, k < V10.heap.size → k ≠ gx → V12.heap[k]? = V10.heap[k]? := fun k hk n_FX => by rw [← hWV12]; (with_reducible repeat (first | rfl | refine hp_set ?_ ?_ | refine hp_alloc ?_ ?_ | refine hp_drew ?_)); all_goals (first | (with_reducible rfl) | omega | (dsimp only; omega) | (simp; omega))
        have TS : V10.heap.size + 0 ≤ V12.heap.size := by rw [← hWV12]; simp
        have nF0 : V12.heap[w.heap.size]? = some (.cells #[.int .i64 s.f0, .slice A0 s.f1.length c0] 43 (0, 0)) := (TT _ ltF0 (by omega)).trans F0.out
        have nF1 : V12.heap[w.heap.size + 1]? = some (.cells #[.string m.f0.f0, .string m.f0.f1, .slice (some ad) m.f1.length m0, .slice M1 m.f2.length m1] 33 (0, 0)) := (TT _ ltF1 (by omega)).trans F1.out
        have nF2 : V12.heap[w.heap.size + 2]? = some (.cells #[.int .i64 0, .slice none 0 0] 43 (0, 0)) := (TT _ ltF2 (by omega)).trans F2.out
        have nFX : V12.heap[gx]? = some (.cells #[.int .i64 (s.f0 + 1), .string m.f0.f0, .string m.f0.f1, .slice vB (rs ++ [(⟨y, 0, now⟩ : SRcpt)]).length vd, .slice EB m.f2.length Ed] 28 (0, 0)) := by rw [← hWV12]; have h := blk_set1 (FX.out) 3 (.slice vB (rs ++ [(⟨y, 0, now⟩ : SRcpt)]).length vd); simpa using h
        have nHS : Kd.R kItem 28 V12 b (fun k => k < w.heap.size) (.slice A0 s.f1.length c0) s.f1 := Kd.R_step HS.out (fun k hk hlt => TT k hlt (by have h_ : k < w.heap.size := hk; omega))
        have nE : Kd.R Kd.string 9 V12 w.heap.size (fun _ => True) (.slice EB m.f2.length Ed) m.f2 := R_keepT E.out rfl (fun k hk ho => TT k hk (fun e => Kd.R_ne E.out FX.out (by decide) (e ▸ ho)))
        have nT : Kd.R kRcpt 55 V12 w.heap.size (fun _ => True) (.slice vB ((rs ++ [(⟨y, 0, now⟩ : SRcpt)])).length vd) (rs ++ [(⟨y, 0, now⟩ : SRcpt)]) := R_keepT T.out rfl (fun k hk ho => TT k hk (fun e => Kd.R_ne T.out FX.out (by decide) (e ▸ ho)))
        have nHB : Below w.heap.size w V12 := by rw [← hWV12]; exact bel_set (HB.out) _ (by show w.heap.size ≤ gx; first | omega | (simp; omega))
        clear zFX cFX_0 dFX_0 cFX_1 dFX_1 cFX_2 dFX_2 cFX_3 dFX_3 cFX_4 dFX_4
        clear hWV12 F0 F1 F2 FX HB HS E T
        have F0 := Aside0.mk nF0
        clear nF0
        have F1 := Aside0.mk nF1
        clear nF1
        have F2 := Aside0.mk nF2
        clear nF2
        have FX := Aside0.mk nFX
        clear nFX
        have HS := Aside0.mk nHS
        clear nHS
        have E := Aside0.mk nE
        clear nE
        have T := Aside0.mk nT
        clear nT
        have HB := Aside0.mk nHB
        clear nHB
        replace HL := Aside0.mk (Nat.le_trans HL.out (by omega : V10.heap.size ≤ V12.heap.size))
        clear TT TS ltF0 ltF1 ltF2 ltFX ltb ltl
        refine hK.out _ _ ?h58 (fun hHeld => ?j58)
        case h58 => exact ⟨F1.out, HB.out.block _ lta⟩
        clear hK K
        try simp only [Act.put, List.setIfInBounds_toArray, List.set_cons_zero, List.set_cons_succ]
        refine wpAnyH_done (by kernel_rfl) ?_ _
        go_wp2
        go_roundg (m.f1.length - (i + 1))
        case measure => omega
        case rel => exact ⟨i + 1, vB, vd, by omega, Nat.le_refl _, by go_num, HB, F0, F1, F2, ⟨by rw [HN.out]; exact FX.out⟩, HS, E, ⟨by rw [HN.out]; exact T.out⟩⟩
   ·have hlt' : ¬ (i : Int) < (m.f1.length : Int) := by omega
    have hall : ((m.f1.take i).map (fun a => (⟨a, 0, now⟩ : SRcpt))) = m.f1.map (fun a => (⟨a, 0, now⟩ : SRcpt)) := by rw [List.take_of_length_le (by omega)]
    generalize hrs : ((m.f1.take i).map (fun a => (⟨a, 0, now⟩ : SRcpt))) = rs at FX T hall
    have HRS := Lib.hid hall
    clear hrs hall
    have zF0 := blk_lt F0.out
    have cF0_0 : wr.cell? ⟨w.heap.size, 0, none⟩ = some (.int .i64 s.f0) := clq F0.out 0 rfl
    have dF0_0 := fzq F0.out 0
    have cF0_1 : wr.cell? ⟨w.heap.size, 1, none⟩ = some (.slice A0 s.f1.length c0) := clq F0.out 1 rfl
    have dF0_1 := fzq F0.out 1
    have zF1 := blk_lt F1.out
    have cF1_0 : wr.cell? ⟨w.heap.size + 1, 0, none⟩ = some (.string m.f0.f0) := clq F1.out 0 rfl
    have cF1_1 : wr.cell? ⟨w.heap.size + 1, 1, none⟩ = some (.string m.f0.f1) := clq F1.out 1 rfl
    have cF1_2 : wr.cell? ⟨w.heap.size + 1, 2, none⟩ = some (.slice M0 m.f1.length m0) := clq F1.out 2 rfl
    have cF1_3 : wr.cell? ⟨w.heap.size + 1, 3, none⟩ = some (.slice M1 m.f2.length m1) := clq F1.out 3 rfl
    go_wp2
    generalize hWW7 : World.setCell (wr) _ _ = W7
    have ltF0 := blk_lt F0.out
    have ltF1 := blk_lt F1.out
    have ltF2 := blk_lt F2.out
    have ltFX := blk_lt FX.out
    have ltb := HB.out.size
    have ltl := HL.out
    have TT : ∀ k, k < wr.heap.size → k ≠ w.heap.size → W7.heap[k]? = wr.heap[k]? := fun k hk n_F0 => by rw [← hWW7]; (with_reducible repeat (first | rfl | refine hp_set ?_ ?_ | refine hp_alloc ?_ ?_ | refine hp_drew ?_)); all_goals (first | (with_reducible rfl) | omega | (dsimp only; omega) | (simp; omega))
    have TS : wr.heap.size + 0 ≤ W7.heap.size := by rw [← hWW7]; simp
    have nF0 : W7.heap[w.heap.size]? = some (.cells #[.int .i64 (s.f0 + 1), .slice A0 s.f1.length c0] 43 (0, 0)) := by rw [← hWW7]; have h := blk_set1 (F0.out) 0 (.int .i64 (s.f0 + 1)); simpa using h
    have nF1 : W7.heap[w.heap.size + 1]? = some (.cells #[.string m.f0.f0, .string m.f0.f1, .slice M0 m.f1.length m0, .slice M1 m.f2.length m1] 33 (0, 0)) := (TT _ ltF1 (by omega)).trans F1.out
    have nF2 : W7.heap[w.heap.size + 2]? = some (.cells #[.int .i64 0, .slice none 0 0] 43 (0, 0)) := (TT _ ltF2 (by omega)).trans F2.out
    have nFX : W7.heap[gx]? = some (.cells #[.int .i64 (s.f0 + 1), .string m.f0.f0, .string m.f0.f1, .slice TB rs.length Td, .slice EB m.f2.length Ed] 28 (0, 0)) := (TT _ ltFX (by omega)).trans FX.out
    have nHS : Kd.R kItem 28 W7 b (fun k => k < w.heap.size) (.slice A0 s.f1.length c0) s.f1 := Kd.R_step HS.out (fun k hk hlt => TT k hlt (by have h_ : k < w.heap.size := hk; omega))
    have nE : Kd.R Kd.string 9 W7 w.heap.size (fun _ => True) (.slice EB m.f2.length Ed) m.f2 := R_keepT E.out rfl (fun k hk ho => TT k hk (fun e => Kd.R_ne E.out F0.out (by decide) (e ▸ ho)))
    have nT : Kd.R kRcpt 55 W7 w.heap.size (fun _ => True) (.slice TB rs.length Td) rs := R_keepT T.out rfl (fun k hk ho => TT k hk (fun e => Kd.R_ne T.out F0.out (by decide) (e ▸ ho)))
    have nHB : Below w.heap.size w W7 := by rw [← hWW7]; exact bel_set (HB.out) _ (by show w.heap.size ≤ w.heap.size; first | omega | (simp; omega))
    clear zF0 cF0_0 dF0_0 cF0_1 dF0_1 zF1 cF1_0 cF1_1 cF1_2 cF1_3
    clear hWW7 F0 F1 F2 FX HB HS E T
    have F0 := Aside0.mk nF0
    clear nF0
    have F1 := Aside0.mk nF1
    clear nF1
    have F2 := Aside0.mk nF2
    clear nF2
    have FX := Aside0.mk nFX
    clear nFX
    have HS := Aside0.mk nHS
    clear nHS
    have E := Aside0.mk nE
    clear nE
    have T := Aside0.mk nT
    clear nT
    have HB := Aside0.mk nHB
    clear nHB
    replace HL := Aside0.mk (Nat.le_trans HL.out (by omega : wr.heap.size ≤ W7.heap.size))
    clear TT TS ltF0 ltF1 ltF2 ltFX ltb ltl
    clear F1
    have HS59 : Aside0 (∀ W : World, (W.heap[gx]? = some (.cells #[.int .i64 (s.f0 + 1), .string m.f0.f0, .string m.f0.f1, .slice TB rs.length Td, .slice EB m.f2.length Ed] 28 (0, 0))) → W.cell? ⟨gx, 0, none⟩ = some (.int .i64 (s.f0 + 1)) ∧ W.cell? ⟨gx, 1, none⟩ = some (.string m.f0.f0) ∧ W.cell? ⟨gx, 2, none⟩ = some (.string m.f0.f1) ∧ W.cell? ⟨gx, 3, none⟩ = some (.slice TB rs.length Td) ∧ W.cell? ⟨gx, 4, none⟩ = some (.slice EB m.f2.length Ed)) := ⟨fun W h => ⟨(by have h_ := h; simp [World.cell?, h_]), (by have h_ := h; simp [World.cell?, h_]), (by have h_ := h; simp [World.cell?, h_]), (by have h_ := h; simp [World.cell?, h_]), (by have h_ := h; simp [World.cell?, h_])⟩⟩
    refine wp_region_held_drew (S := fun (W : World) => W.heap[gx]? = some (.cells #[.int .i64 (s.f0 + 1), .string m.f0.f0, .string m.f0.f1, .slice TB rs.length Td, .slice EB m.f2.length Ed] 28 (0, 0))) (by kernel_rfl) ?s60 (fun hHeld => ?t60)
    case s60 => exact (show (fun (W : World) => W.heap[gx]? = some (.cells #[.int .i64 (s.f0 + 1), .string m.f0.f0, .string m.f0.f1, .slice TB rs.length Td, .slice EB m.f2.length Ed] 28 (0, 0))) (World.drew W7) from FX.out)
    generalize hWVs : World.drew (W7) = Vs at hHeld ⊢
    have ltF0 := blk_lt F0.out
    have ltF2 := blk_lt F2.out
    have ltFX := blk_lt FX.out
    have ltb := HB.out.size
    have ltl := HL.out
    have TT : ∀ k, k < W7.heap.size → Vs.heap[k]? = W7.heap[k]? := fun k hk => by rw [← hWVs]; (with_reducible repeat (first | rfl | refine hp_set ?_ ?_ | refine hp_alloc ?_ ?_ | refine hp_drew ?_)); all_goals (first | (with_reducible rfl) | omega | (dsimp only; omega) | (simp; omega))
    have TS : W7.heap.size + 0 ≤ Vs.heap.size := by rw [← hWVs]; simp
    have nF0 : Vs.heap[w.heap.size]? = some (.cells #[.int .i64 (s.f0 + 1), .slice A0 s.f1.length c0] 43 (0, 0)) := (TT _ ltF0).trans F0.out
    have nF2 : Vs.heap[w.heap.size + 2]? = some (.cells #[.int .i64 0, .slice none 0 0] 43 (0, 0)) := (TT _ ltF2).trans F2.out
    have nFX : Vs.heap[gx]? = some (.cells #[.int .i64 (s.f0 + 1), .string m.f0.f0, .string m.f0.f1, .slice TB rs.length Td, .slice EB m.f2.length Ed] 28 (0, 0)) := (TT _ ltFX).trans FX.out
    have nHS : Kd.R kItem 28 Vs b (fun k => k < w.heap.size) (.slice A0 s.f1.length c0) s.f1 := Kd.R_step HS.out (fun k hk hlt => TT k hlt)
    have nE : Kd.R Kd.string 9 Vs w.heap.size (fun _ => True) (.slice EB m.f2.length Ed) m.f2 := R_keepT E.out rfl (fun k hk ho => TT k hk)
    have nT : Kd.R kRcpt 55 Vs w.heap.size (fun _ => True) (.slice TB rs.length Td) rs := R_keepT T.out rfl (fun k hk ho => TT k hk)
    have nHB : Below w.heap.size w Vs := by rw [← hWVs]; exact bel_then (HB.out) (drew_below0 _)
    have bds_ : Below W7.heap.size W7 Vs := by rw [← hWVs]; exact drew_below0 W7
    clear hWVs F0 F2 FX HB HS E T
    have F0 := Aside0.mk nF0
    clear nF0
    have F2 := Aside0.mk nF2
    clear nF2
    have FX := Aside0.mk nFX
    clear nFX
    have HS := Aside0.mk nHS
    clear nHS
    have E := Aside0.mk nE
    clear nE
    have T := Aside0.mk nT
    clear nT
    have HB := Aside0.mk nHB
    clear nHB
    replace HL := Aside0.mk (Nat.le_trans HL.out (by omega : W7.heap.size ≤ Vs.heap.size))
    clear TT TS ltF0 ltF2 ltFX ltb ltl
    have BDs := Aside0.mk bds_
    clear bds_
    have HBo := HB
    have HLo := HL
    have hws : w.heap.size ≤ Vs.heap.size := HB.out.size
    clear HB HL
    have HBj : Aside0 (Below Vs.heap.size Vs Vs) := ⟨Below.refl _ _⟩
    have join : Hid (∀ {goal : Prop} {G : Nat → Option Addr → Nat → Nat → Option Addr → Nat → World → Prop} (rg : Hid (∀ (gG : Nat) (GB : Option Addr) (Gd : Nat) (gF : Nat) (B2 : Option Addr) (d2 : Nat) (V : World), Below Vs.heap.size Vs V ∧ Kd.R kItem 28 V b (fun _ => True) (.slice B2 (s.f1 ++ [(⟨s.f0 + 1, m.f0, rs, m.f2⟩ : SItem)]).length d2) (s.f1 ++ [(⟨s.f0 + 1, m.f0, rs, m.f2⟩ : SItem)]) ∧ (V.heap[gx]? = some (.cells #[.int .i64 (s.f0 + 1), .string m.f0.f0, .string m.f0.f1, .slice TB rs.length Td, .slice EB m.f2.length Ed] 28 (0, 0))) → G gG GB Gd gF B2 d2 V) → goal) (hk : ∀ (gG : Nat) (GB : Option Addr) (Gd : Nat) (gF : Nat) (B2 : Option Addr) (d2 : Nat) (V : World), Below Vs.heap.size Vs V ∧ Kd.R kItem 28 V b (fun _ => True) (.slice B2 (s.f1 ++ [(⟨s.f0 + 1, m.f0, rs, m.f2⟩ : SItem)]).length d2) (s.f1 ++ [(⟨s.f0 + 1, m.f0, rs, m.f2⟩ : SItem)]) ∧ (V.heap[gx]? = some (.cells #[.int .i64 (s.f0 + 1), .string m.f0.f0, .string m.f0.f1, .slice TB rs.length Td, .slice EB m.f2.length Ed] 28 (0, 0))) → G gG GB Gd gF B2 d2 V), goal) := Lib.hid (fun f h => f (Lib.hid h))
    apply join.out
    case rg =>
     intro HKK
     have HB := HBj
     have HL : Aside0 (Vs.heap.size + 0 ≤ Vs.heap.size) := ⟨Nat.le_refl _⟩
     refine tk 1 ?v61 ?y61 ?r61
     case y61 => intro w_ hSw; (try dsimp only at hSw); clear hSw; go_simp; (try (with_reducible rfl))
     try simp only [Act.put, List.setIfInBounds_toArray, List.set_cons_zero, List.set_cons_succ]
     refine tk 4 ?v62 ?y62 ?r62
     case y62 => intro w_ hSw; obtain ⟨e_0, e_1, e_2, e_3, e_4⟩ := HS59.out w_ hSw; clear hSw; go_simp; (try (with_reducible rfl))
     try simp only [Act.put, List.setIfInBounds_toArray, List.set_cons_zero, List.set_cons_succ]
     refine rdy (rs := [0, 2, 5]) ?_
     refine rc (fun K hK => ?k63) (rc (fun K hK => ?k64) (rc (fun K hK => ?k65) AllReadyH.nil))
     case k63 =>
      go_simp
      generalize hWV0 : World.alloc (Vs) _ = V0
      have ltb := HB.out.size
      have ltl := HL.out
      have TT : ∀ k, k < Vs.heap.size → V0.heap[k]? = Vs.heap[k]? := fun k hk => by rw [← hWV0]; (with_reducible repeat (first | rfl | refine hp_set ?_ ?_ | refine hp_alloc ?_ ?_ | refine hp_drew ?_)); all_goals (first | (with_reducible rfl) | omega | (dsimp only; omega) | (simp; omega))
      have TS : Vs.heap.size + 1 ≤ V0.heap.size := by rw [← hWV0]; simp
      have nBG : V0.heap[Vs.heap.size]? = some (.cells #[] 28 (0, 0)) := by rw [← hWV0]; exact blk_new Vs (.cells #[] 28)
      have nHB : Below Vs.heap.size Vs V0 := by rw [← hWV0]; exact bel_alloc (HB.out) _
      have nG : Kd.R kItem 28 V0 b (fun _ => True) (.slice (some ⟨Vs.heap.size, 0, none⟩) 0 0) [] := by rw [← hWV0]; exact R_empty kItem 28 Vs b (by have := ltb; omega) trivial
      clear hWV0  HB 
      have BG := Aside0.mk nBG
      clear nBG
      have G := Aside0.mk nG
      clear nG
      have HB := Aside0.mk nHB
      clear nHB
      have oBG_ltl := ltl
      have oBG_ts := TS
      replace HL := Aside0.mk (Nat.le_trans HL.out (by omega : Vs.heap.size ≤ V0.heap.size))
      clear TT TS ltb ltl
      refine hK.out _ _ ?h66 (fun hHeld => ?j66)
      case h66 => exact (below_blk FX.out HB.out)
      clear hK K
      try simp only [Act.put, List.setIfInBounds_toArray, List.set_cons_zero, List.set_cons_succ]
      refine rdy (rs := [2, 5]) ?_
      refine rc (fun K hK => ?k67) (rc (fun K hK => ?k68) AllReadyH.nil)
      case k67 =>
       have cF0_0 : V0.cell? ⟨w.heap.size, 0, none⟩ = some (.int .i64 (s.f0 + 1)) := by have h_ := below_blk F0.out HB.out; simp [World.cell?, h_]
       have cF0_1 : V0.cell? ⟨w.heap.size, 1, none⟩ = some (.slice A0 s.f1.length c0) := by have h_ := below_blk F0.out HB.out; simp [World.cell?, h_]
       go_simp
       refine hK.out _ _ ?h69 (fun hHeld => ?j69)
       case h69 => exact hHeld
       clear hK K
       try simp only [Act.put, List.setIfInBounds_toArray, List.set_cons_zero, List.set_cons_succ]
       refine rdy (rs := [3, 5]) ?_
       refine rc (fun K hK => ?k70) (rc (fun K hK => ?k71) AllReadyH.nil)
       case k70 =>
        have hVb := HB.out.size
        refine Kd.R_append_rows_step kItem (w0 := Vs) (b) (by rfl) (.tmp 42) (.tmp 44) 41 28 (.agg #[(.int .i64 0), (.string ⟨#[]⟩), (.string ⟨#[]⟩), (.slice none 0 0), (.slice none 0 0)]) 88 rfl Tryd.underlying41 info28 rfl (by decide) (by omega) (.slice (some ⟨Vs.heap.size, 0, none⟩) 0 0) [] s.f1 (A0) (s.f1.length) (c0) (fun _ => True) (fun k => k < w.heap.size) rfl rfl G.out (R_readsM (Kd.R_below HS.out HB.out)) (fun _ _ h => h) (fun k hk => ⟨trivial, fun e => by have h_ : k < w.heap.size := hk; have e2 : k = Vs.heap.size := Option.some.inj e; omega⟩) (fun _ _ => trivial) ((HB.out.mono (by omega : b ≤ Vs.heap.size))) (by have := HB.out.size; omega) (by simp; omega) ?_
        intro v3 V3 ho hb hg hat
        rw [List.nil_append] at ho
        obtain ⟨GB, Gd, hv⟩ := Kd.R_slice ho
        subst hv
        have nHB : Below Vs.heap.size Vs V3 := bel_grown HB.out hg HB.out.size (fun k hk => by simp [Value.ownBlock] at hk; omega)
        have nHL := Aside0.mk (Nat.le_trans HL.out hg.size)
        clear cF0_0 cF0_1
        clear HB HL BG G
        have HL := nHL
        clear nHL
        have HB := Aside0.mk nHB
        clear nHB
        have HOW : Aside0 (∀ q_, (Value.slice GB s.f1.length Gd).ownBlock = some q_ → Vs.heap.size ≤ q_) := ⟨fun q_ hk => by (rcases hat with h1 | ⟨b1, h1, h2⟩; (rw [h1] at hk; simp [Value.ownBlock] at hk; omega); (rw [h1] at hk; have h3 := Option.some.inj hk; omega))⟩
        have G : Aside0 (Kd.R kItem 28 V3 b (fun _ => True) (.slice GB (s.f1).length Gd) s.f1) := ⟨ho⟩
        clear ho hb hg hat hVb
        refine hK.out _ _ ?h72 (fun hHeld => ?j72)
        case h72 => exact (below_blk FX.out HB.out)
        clear hK K
        try simp only [Act.put, List.setIfInBounds_toArray, List.set_cons_zero, List.set_cons_succ]
        refine rdy (rs := [5]) ?_
        refine rc (fun K hK => ?k73) AllReadyH.nil
        case k73 =>
         go_simp
         generalize hWV5 : World.alloc (V3) _ = V5
         have ltb := HB.out.size
         have ltl := HL.out
         have TT : ∀ k, k < V3.heap.size → V5.heap[k]? = V3.heap[k]? := fun k hk => by rw [← hWV5]; (with_reducible repeat (first | rfl | refine hp_set ?_ ?_ | refine hp_alloc ?_ ?_ | refine hp_drew ?_)); all_goals (first | (with_reducible rfl) | omega | (dsimp only; omega) | (simp; omega))
         have TS : V3.heap.size + 1 ≤ V5.heap.size := by rw [← hWV5]; simp
         have nFB : V5.heap[V3.heap.size]? = some (.cells #[.int .i64 (s.f0 + 1), .string m.f0.f0, .string m.f0.f1, .slice TB rs.length Td, .slice EB m.f2.length Ed] 28 (0, 0)) := by rw [← hWV5]; exact blk_new V3 (.cells #[.int .i64 (s.f0 + 1), .string m.f0.f0, .string m.f0.f1, .slice TB rs.length Td, .slice EB m.f2.length Ed] 28)
         have nG : Kd.R kItem 28 V5 b (fun _ => True) (.slice GB (s.f1).length Gd) s.f1 := Kd.R_mono (Kd.R_step (G.out) (fun k hk hlt => TT k hlt)) (fun _ hk => hk)
         have nHB : Below Vs.heap.size Vs V5 := by rw [← hWV5]; exact bel_alloc (HB.out) _
         clear hWV5  HB G
         have FB := Aside0.mk nFB
         clear nFB
         have G := Aside0.mk nG
         clear nG
         have HB := Aside0.mk nHB
         clear nHB
         have oFB_ltl := ltl
         have oFB_ts := TS
         replace HL := Aside0.mk (Nat.le_trans HL.out (by omega : V3.heap.size ≤ V5.heap.size))
         clear TT TS ltb ltl
         refine hK.out _ _ ?h74 (fun hHeld => ?j74)
         case h74 => exact (below_blk FX.out HB.out)
         clear hK K
         try simp only [Act.put, List.setIfInBounds_toArray, List.set_cons_zero, List.set_cons_succ]
         refine rdy (rs := [6]) ?_
         refine rc (fun K hK => ?k75) AllReadyH.nil
         case k75 =>
          have hVb := HB.out.size
          refine Kd.R_append_rows_step kItem (w0 := Vs) (b) (by rfl) (.tmp 45) (.tmp 47) 41 28 (.agg #[(.int .i64 0), (.string ⟨#[]⟩), (.string ⟨#[]⟩), (.slice none 0 0), (.slice none 0 0)]) 88 rfl Tryd.underlying41 info28 rfl (by decide) (by omega) (.slice GB (s.f1).length Gd) s.f1 [(⟨s.f0 + 1, m.f0, rs, m.f2⟩ : SItem)] ((some ⟨V3.heap.size, 0, none⟩)) (1) (1) (fun _ => True) (NotT V5 28) rfl rfl G.out (rr_one FB.out (kItem_mkM V5 b (NotT V5 28) (⟨s.f0 + 1, m.f0, rs, m.f2⟩ : SItem) (Kd.R_lower (R_notT (Kd.R_below T.out HB.out) (by decide)) hb) (Kd.R_lower (R_notT (Kd.R_below E.out HB.out) (by decide)) hb)) rfl) (fun _ _ h => h) (ok_notT G.out) (fun _ _ => trivial) ((HB.out.mono (by omega : b ≤ Vs.heap.size))) (by have := HB.out.size; omega) (by omega) ?_
          intro v6 V6 ho hb hg hat
          obtain ⟨B2, d2, hv⟩ := Kd.R_slice ho
          subst hv
          have nHB : Below Vs.heap.size Vs V6 := bel_grown HB.out hg HB.out.size (fun k hk => by exact HOW.out k hk)
          have nHL := Aside0.mk (Nat.le_trans HL.out hg.size)
          clear HB HL FB G
          have HL := nHL
          clear nHL
          have HB := Aside0.mk nHB
          clear nHB
          have G : Aside0 (Kd.R kItem 28 V6 b (fun _ => True) (.slice B2 ((s.f1 ++ [(⟨s.f0 + 1, m.f0, rs, m.f2⟩ : SItem)])).length d2) (s.f1 ++ [(⟨s.f0 + 1, m.f0, rs, m.f2⟩ : SItem)])) := ⟨ho⟩
          clear ho hb hg hat hVb
          refine hK.out _ _ ?h76 (fun hHeld => ?j76)
          case h76 => exact (below_blk FX.out HB.out)
          clear hK K
          try simp only [Act.put, List.setIfInBounds_toArray, List.set_cons_zero, List.set_cons_succ]
          refine tk 7 ?v77 ?y77 ?r77
          case y77 => intro w_ hSw; (try dsimp only at hSw); clear hSw; go_simp; (try (with_reducible rfl))
          try simp only [Act.put, List.setIfInBounds_toArray, List.set_cons_zero, List.set_cons_succ]
          generalize hgG : Vs.heap.size = gG
          generalize hgF : V3.heap.size = gF
          exact HKK.out gG GB Gd gF B2 d2 V6 ⟨HB.out, G.out, hHeld⟩
       case k71 =>
        go_simp
        clear cF0_0 cF0_1
        generalize hWV5 : World.alloc (V0) _ = V5
        have ltBG := blk_lt BG.out
        have ltb := HB.out.size
        have ltl := HL.out
        have TT : ∀ k, k < V0.heap.size → V5.heap[k]? = V0.heap[k]? := fun k hk => by rw [← hWV5]; (with_reducible repeat (first | rfl | refine hp_set ?_ ?_ | refine hp_alloc ?_ ?_ | refine hp_drew ?_)); all_goals (first | (with_reducible rfl) | omega | (dsimp only; omega) | (simp; omega))
        have TS : V0.heap.size + 1 ≤ V5.heap.size := by rw [← hWV5]; simp
        have nBG : V5.heap[Vs.heap.size]? = some (.cells #[] 28 (0, 0)) := (TT _ ltBG).trans BG.out
        have nFB : V5.heap[V0.heap.size]? = some (.cells #[.int .i64 (s.f0 + 1), .string m.f0.f0, .string m.f0.f1, .slice TB rs.length Td, .slice EB m.f2.length Ed] 28 (0, 0)) := by rw [← hWV5]; exact blk_new V0 (.cells #[.int .i64 (s.f0 + 1), .string m.f0.f0, .string m.f0.f1, .slice TB rs.length Td, .slice EB m.f2.length Ed] 28)
        have nG : Kd.R kItem 28 V5 b (fun _ => True) (.slice (some ⟨Vs.heap.size, 0, none⟩) 0 0) [] := Kd.R_mono (Kd.R_step (G.out) (fun k hk hlt => TT k hlt)) (fun _ hk => hk)
        have nHB : Below Vs.heap.size Vs V5 := by rw [← hWV5]; exact bel_alloc (HB.out) _
        clear hWV5 BG HB G
        have BG := Aside0.mk nBG
        clear nBG
        have FB := Aside0.mk nFB
        clear nFB
        have G := Aside0.mk nG
        clear nG
        have HB := Aside0.mk nHB
        clear nHB
        have oFB_ltBG := ltBG
        have oFB_ltl := ltl
        have oFB_ts := TS
        replace HL := Aside0.mk (Nat.le_trans HL.out (by omega : V0.heap.size ≤ V5.heap.size))
        clear TT TS ltBG ltb ltl
        refine hK.out _ _ ?h78 (fun hHeld => ?j78)
        case h78 => exact (below_blk FX.out HB.out)
        clear hK K
        try simp only [Act.put, List.setIfInBounds_toArray, List.set_cons_zero, List.set_cons_succ]
        refine rdy (rs := [3]) ?_
        refine rc (fun K hK => ?k79) AllReadyH.nil
        case k79 =>
         have hVb := HB.out.size
         refine Kd.R_append_rows_step kItem (w0 := Vs) (b) (by rfl) (.tmp 42) (.tmp 44) 41 28 (.agg #[(.int .i64 0), (.string ⟨#[]⟩), (.string ⟨#[]⟩), (.slice none 0 0), (.slice none 0 0)]) 88 rfl Tryd.underlying41 info28 rfl (by decide) (by omega) (.slice (some ⟨Vs.heap.size, 0, none⟩) 0 0) [] s.f1 (A0) (s.f1.length) (c0) (fun _ => True) (fun k => k < w.heap.size) rfl rfl G.out (R_readsM (Kd.R_below HS.out HB.out)) (fun _ _ h => h) (fun k hk => ⟨trivial, fun e => by have h_ : k < w.heap.size := hk; have e2 : k = Vs.heap.size := Option.some.inj e; omega⟩) (fun _ _ => trivial) ((HB.out.mono (by omega : b ≤ Vs.heap.size))) (by have := HB.out.size; omega) (by simp; omega) ?_
         intro v3 V3 ho hb hg hat
         rw [List.nil_append] at ho
         obtain ⟨GB, Gd, hv⟩ := Kd.R_slice ho
         subst hv
         have nHB : Below Vs.heap.size Vs V3 := bel_grown HB.out hg HB.out.size (fun k hk => by simp [Value.ownBlock] at hk; omega)
         have nFB : V3.heap[V0.heap.size]? = some (.cells #[.int .i64 (s.f0 + 1), .string m.f0.f0, .string m.f0.f1, .slice TB rs.length Td, .slice EB m.f2.length Ed] 28 (0, 0)) := (hg.block _ (blk_lt FB.out) (fun e => by have e := Option.some.inj e; (try dsimp only at e); omega)).trans FB.out
         have nHL := Aside0.mk (Nat.le_trans HL.out hg.size)
         clear HB HL BG FB G
         have FB := Aside0.mk nFB
         clear nFB
         have HL := nHL
         clear nHL
         have HB := Aside0.mk nHB
         clear nHB
         have HOW : Aside0 (∀ q_, (Value.slice GB s.f1.length Gd).ownBlock = some q_ → Vs.heap.size ≤ q_) := ⟨fun q_ hk => by (rcases hat with h1 | ⟨b1, h1, h2⟩; (rw [h1] at hk; simp [Value.ownBlock] at hk; omega); (rw [h1] at hk; have h3 := Option.some.inj hk; omega))⟩
         have G : Aside0 (Kd.R kItem 28 V3 b (fun _ => True) (.slice GB (s.f1).length Gd) s.f1) := ⟨ho⟩
         clear ho hb hg hat hVb
         refine hK.out _ _ ?h80 (fun hHeld => ?j80)
         case h80 => exact (below_blk FX.out HB.out)
         clear hK K
         try simp only [Act.put, List.setIfInBounds_toArray, List.set_cons_zero, List.set_cons_succ]
         refine rdy (rs := [6]) ?_
         refine rc (fun K hK => ?k81) AllReadyH.nil
         case k81 =>
          have hVb := HB.out.size
          refine Kd.R_append_rows_step kItem (w0 := Vs) (b) (by rfl) (.tmp 45) (.tmp 47) 41 28 (.agg #[(.int .i64 0), (.string ⟨#[]⟩), (.string ⟨#[]⟩), (.slice none 0 0), (.slice none 0 0)]) 88 rfl Tryd.underlying41 info28 rfl (by decide) (by omega) (.slice GB (s.f1).length Gd) s.f1 [(⟨s.f0 + 1, m.f0, rs, m.f2⟩ : SItem)] ((some ⟨V0.heap.size, 0, none⟩)) (1) (1) (fun _ => True) (NotT V3 28) rfl rfl G.out (rr_one FB.out (kItem_mkM V3 b (NotT V3 28) (⟨s.f0 + 1, m.f0, rs, m.f2⟩ : SItem) (Kd.R_lower (R_notT (Kd.R_below T.out HB.out) (by decide)) hb) (Kd.R_lower (R_notT (Kd.R_below E.out HB.out) (by decide)) hb)) rfl) (fun _ _ h => h) (ok_notT G.out) (fun _ _ => trivial) ((HB.out.mono (by omega : b ≤ Vs.heap.size))) (by have := HB.out.size; omega) (by omega) ?_
          intro v6 V6 ho hb hg hat
          obtain ⟨B2, d2, hv⟩ := Kd.R_slice ho
          subst hv
          have nHB : Below Vs.heap.size Vs V6 := bel_grown HB.out hg HB.out.size (fun k hk => by exact HOW.out k hk)
          have nHL := Aside0.mk (Nat.le_trans HL.out hg.size)
          clear HB HL FB G
          have HL := nHL
          clear nHL
          have HB := Aside0.mk nHB
          clear nHB
          have G : Aside0 (Kd.R kItem 28 V6 b (fun _ => True) (.slice B2 ((s.f1 ++ [(⟨s.f0 + 1, m.f0, rs, m.f2⟩ : SItem)])).length d2) (s.f1 ++ [(⟨s.f0 + 1, m.f0, rs, m.f2⟩ : SItem)])) := ⟨ho⟩
          clear ho hb hg hat hVb
          refine hK.out _ _ ?h82 (fun hHeld => ?j82)
          case h82 => exact (below_blk FX.out HB.out)
          clear hK K
          try simp only [Act.put, List.setIfInBounds_toArray, List.set_cons_zero, List.set_cons_succ]
          refine tk 7 ?v83 ?y83 ?r83
          case y83 => intro w_ hSw; (try dsimp only at hSw); clear hSw; go_simp; (try (with_reducible rfl))
          try simp only [Act.put, List.setIfInBounds_toArray, List.set_cons_zero, List.set_cons_succ]
          generalize hgG : Vs.heap.size = gG
          generalize hgF : V0.heap.size = gF
          exact HKK.out gG GB Gd gF B2 d2 V6 ⟨HB.out, G.out, hHeld⟩
      case k68 =>
       go_simp
       generalize hWV5 : World.alloc (V0) _ = V5
       have ltBG := blk_lt BG.out
       have ltb := HB.out.size
       have ltl := HL.out
       have TT : ∀ k, k < V0.heap.size → V5.heap[k]? = V0.heap[k]? := fun k hk => by rw [← hWV5]; (with_reducible repeat (first | rfl | refine hp_set ?_ ?_ | refine hp_alloc ?_ ?_ | refine hp_drew ?_)); all_goals (first | (with_reducible rfl) | omega | (dsimp only; omega) | (simp; omega))
       have TS : V0.heap.size + 1 ≤ V5.heap.size := by rw [← hWV5]; simp
       have nBG : V5.heap[Vs.heap.size]? = some (.cells #[] 28 (0, 0)) := (TT _ ltBG).trans BG.out
       have nFB : V5.heap[V0.heap.size]? = some (.cells #[.int .i64 (s.f0 + 1), .string m.f0.f0, .string m.f0.f1, .slice TB rs.length Td, .slice EB m.f2.length Ed] 28 (0, 0)) := by rw [← hWV5]; exact blk_new V0 (.cells #[.int .i64 (s.f0 + 1), .string m.f0.f0, .string m.f0.f1, .slice TB rs.length Td, .slice EB m.f2.length Ed] 28)
       have nG : Kd.R kItem 28 V5 b (fun _ => True) (.slice (some ⟨Vs.heap.size, 0, none⟩) 0 0) [] := Kd.R_mono (Kd.R_step (G.out) (fun k hk hlt => TT k hlt)) (fun _ hk => hk)
       have nHB : Below Vs.heap.size Vs V5 := by rw [← hWV5]; exact bel_alloc (HB.out) _
       clear hWV5 BG HB G
       have BG := Aside0.mk nBG
       clear nBG
       have FB := Aside0.mk nFB
       clear nFB
       have G := Aside0.mk nG
       clear nG
       have HB := Aside0.mk nHB
       clear nHB
       have oFB_ltBG := ltBG
       have oFB_ltl := ltl
       have oFB_ts := TS
       replace HL := Aside0.mk (Nat.le_trans HL.out (by omega : V0.heap.size ≤ V5.heap.size))
       clear TT TS ltBG ltb ltl
       refine hK.out _ _ ?h84 (fun hHeld => ?j84)
       case h84 => exact (below_blk FX.out HB.out)
       clear hK K
       try simp only [Act.put, List.setIfInBounds_toArray, List.set_cons_zero, List.set_cons_succ]
       refine rdy (rs := [2]) ?_
       refine rc (fun K hK => ?k85) AllReadyH.nil
       case k85 =>
        have cF0_0 : V5.cell? ⟨w.heap.size, 0, none⟩ = some (.int .i64 (s.f0 + 1)) := by have h_ := below_blk F0.out HB.out; simp [World.cell?, h_]
        have cF0_1 : V5.cell? ⟨w.heap.size, 1, none⟩ = some (.slice A0 s.f1.length c0) := by have h_ := below_blk F0.out HB.out; simp [World.cell?, h_]
        go_simp
        refine hK.out _ _ ?h86 (fun hHeld => ?j86)
        case h86 => exact hHeld
        clear hK K
        try simp only [Act.put, List.setIfInBounds_toArray, List.set_cons_zero, List.set_cons_succ]
        refine rdy (rs := [3]) ?_
        refine rc (fun K hK => ?k87) AllReadyH.nil
        case k87 =>
         have hVb := HB.out.size
         refine Kd.R_append_rows_step kItem (w0 := Vs) (b) (by rfl) (.tmp 42) (.tmp 44) 41 28 (.agg #[(.int .i64 0), (.string ⟨#[]⟩), (.string ⟨#[]⟩), (.slice none 0 0), (.slice none 0 0)]) 88 rfl Tryd.underlying41 info28 rfl (by decide) (by omega) (.slice (some ⟨Vs.heap.size, 0, none⟩) 0 0) [] s.f1 (A0) (s.f1.length) (c0) (fun _ => True) (fun k => k < w.heap.size) rfl rfl G.out (R_readsM (Kd.R_below HS.out HB.out)) (fun _ _ h => h) (fun k hk => ⟨trivial, fun e => by have h_ : k < w.heap.size := hk; have e2 : k = Vs.heap.size := Option.some.inj e; omega⟩) (fun _ _ => trivial) ((HB.out.mono (by omega : b ≤ Vs.heap.size))) (by have := HB.out.size; omega) (by simp; omega) ?_
         intro v3 V3 ho hb hg hat
         rw [List.nil_append] at ho
         obtain ⟨GB, Gd, hv⟩ := Kd.R_slice ho
         subst hv
         have nHB : Below Vs.heap.size Vs V3 := bel_grown HB.out hg HB.out.size (fun k hk => by simp [Value.ownBlock] at hk; omega)
         have nFB : V3.heap[V0.heap.size]? = some (.cells #[.int .i64 (s.f0 + 1), .string m.f0.f0, .string m.f0.f1, .slice TB rs.length Td, .slice EB m.f2.length Ed] 28 (0, 0)) := (hg.block _ (blk_lt FB.out) (fun e => by have e := Option.some.inj e; (try dsimp only at e); omega)).trans FB.out
         have nHL := Aside0.mk (Nat.le_trans HL.out hg.size)
         clear cF0_0 cF0_1
         clear HB HL BG FB G
         have FB := Aside0.mk nFB
         clear nFB
         have HL := nHL
         clear nHL
         have HB := Aside0.mk nHB
         clear nHB
         have HOW : Aside0 (∀ q_, (Value.slice GB s.f1.length Gd).ownBlock = some q_ → Vs.heap.size ≤ q_) := ⟨fun q_ hk => by (rcases hat with h1 | ⟨b1, h1, h2⟩; (rw [h1] at hk; simp [Value.ownBlock] at hk; omega); (rw [h1] at hk; have h3 := Option.some.inj hk; omega))⟩
         have G : Aside0 (Kd.R kItem 28 V3 b (fun _ => True) (.slice GB (s.f1).length Gd) s.f1) := ⟨ho⟩
         clear ho hb hg hat hVb
         refine hK.out _ _ ?h88 (fun hHeld => ?j88)
         case h88 => exact (below_blk FX.out HB.out)
         clear hK K
         try simp only [Act.put, List.setIfInBounds_toArray, List.set_cons_zero, List.set_cons_succ]
         refine rdy (rs := [6]) ?_
         refine rc (fun K hK => ?k89) AllReadyH.nil
         case k89 =>
          have hVb := HB.out.size
          refine Kd.R_append_rows_step kItem (w0 := Vs) (b) (by rfl) (.tmp 45) (.tmp 47) 41 28 (.agg #[(.int .i64 0), (.string ⟨#[]⟩), (.string ⟨#[]⟩), (.slice none 0 0), (.slice none 0 0)]) 88 rfl Tryd.underlying41 info28 rfl (by decide) (by omega) (.slice GB (s.f1).length Gd) s.f1 [(⟨s.f0 + 1, m.f0, rs, m.f2⟩ : SItem)] ((some ⟨V0.heap.size, 0, none⟩)) (1) (1) (fun _ => True) (NotT V3 28) rfl rfl G.out (rr_one FB.out (kItem_mkM V3 b (NotT V3 28) (⟨s.f0 + 1, m.f0, rs, m.f2⟩ : SItem) (Kd.R_lower (R_notT (Kd.R_below T.out HB.out) (by decide)) hb) (Kd.R_lower (R_notT (Kd.R_below E.out HB.out) (by decide)) hb)) rfl) (fun _ _ h => h) (ok_notT G.out) (fun _ _ => trivial) ((HB.out.mono (by omega : b ≤ Vs.heap.size))) (by have := HB.out.size; omega) (by omega) ?_
          intro v6 V6 ho hb hg hat
          obtain ⟨B2, d2, hv⟩ := Kd.R_slice ho
          subst hv
          have nHB : Below Vs.heap.size Vs V6 := bel_grown HB.out hg HB.out.size (fun k hk => by exact HOW.out k hk)
          have nHL := Aside0.mk (Nat.le_trans HL.out hg.size)
          clear HB HL FB G
          have HL := nHL
          clear nHL
          have HB := Aside0.mk nHB
          clear nHB
          have G : Aside0 (Kd.R kItem 28 V6 b (fun _ => True) (.slice B2 ((s.f1 ++ [(⟨s.f0 + 1, m.f0, rs, m.f2⟩ : SItem)])).length d2) (s.f1 ++ [(⟨s.f0 + 1, m.f0, rs, m.f2⟩ : SItem)])) := ⟨ho⟩
          clear ho hb hg hat hVb
          refine hK.out _ _ ?h90 (fun hHeld => ?j90)
          case h90 => exact (below_blk FX.out HB.out)
          clear hK K
          try simp only [Act.put, List.setIfInBounds_toArray, List.set_cons_zero, List.set_cons_succ]
          refine tk 7 ?v91 ?y91 ?r91
          case y91 => intro w_ hSw; (try dsimp only at hSw); clear hSw; go_simp; (try (with_reducible rfl))
          try simp only [Act.put, List.setIfInBounds_toArray, List.set_cons_zero, List.set_cons_succ]
          generalize hgG : Vs.heap.size = gG
          generalize hgF : V0.heap.size = gF
          exact HKK.out gG GB Gd gF B2 d2 V6 ⟨HB.out, G.out, hHeld⟩
     case k64 =>
      have cF0_0 : Vs.cell? ⟨w.heap.size, 0, none⟩ = some (.int .i64 (s.f0 + 1)) := by have h_ := below_blk F0.out HB.out; simp [World.cell?, h_]
      have cF0_1 : Vs.cell? ⟨w.heap.size, 1, none⟩ = some (.slice A0 s.f1.length c0) := by have h_ := below_blk F0.out HB.out; simp [World.cell?, h_]
      go_simp
      refine hK.out _ _ ?h92 (fun hHeld => ?j92)
      case h92 => exact hHeld
      clear hK K
      try simp only [Act.put, List.setIfInBounds_toArray, List.set_cons_zero, List.set_cons_succ]
      refine rdy (rs := [0, 5]) ?_
      refine rc (fun K hK => ?k93) (rc (fun K hK => ?k94) AllReadyH.nil)
      case k93 =>
       go_simp
       clear cF0_0 cF0_1
       generalize hWV0 : World.alloc (Vs) _ = V0
       have ltb := HB.out.size
       have ltl := HL.out
       have TT : ∀ k, k < Vs.heap.size → V0.heap[k]? = Vs.heap[k]? := fun k hk => by rw [← hWV0]; (with_reducible repeat (first | rfl | refine hp_set ?_ ?_ | refine hp_alloc ?_ ?_ | refine hp_drew ?_)); all_goals (first | (with_reducible rfl) | omega | (dsimp only; omega) | (simp; omega))
       have TS : Vs.heap.size + 1 ≤ V0.heap.size := by rw [← hWV0]; simp
       have nBG : V0.heap[Vs.heap.size]? = some (.cells #[] 28 (0, 0)) := by rw [← hWV0]; exact blk_new Vs (.cells #[] 28)
       have nHB : Below Vs.heap.size Vs V0 := by rw [← hWV0]; exact bel_alloc (HB.out) _
       have nG : Kd.R kItem 28 V0 b (fun _ => True) (.slice (some ⟨Vs.heap.size, 0, none⟩) 0 0) [] := by rw [← hWV0]; exact R_empty kItem 28 Vs b (by have := ltb; omega) trivial
       clear hWV0  HB 
       have BG := Aside0.mk nBG
       clear nBG
       have G := Aside0.mk nG
       clear nG
       have HB := Aside0.mk nHB
       clear nHB
       have oBG_ltl := ltl
       have oBG_ts := TS
       replace HL := Aside0.mk (Nat.le_trans HL.out (by omega : Vs.heap.size ≤ V0.heap.size))
       clear TT TS ltb ltl
       refine hK.out _ _ ?h95 (fun hHeld => ?j95)
       case h95 => exact (below_blk FX.out HB.out)
       clear hK K
       try simp only [Act.put, List.setIfInBounds_toArray, List.set_cons_zero, List.set_cons_succ]
       refine rdy (rs := [3, 5]) ?_
       refine rc (fun K hK => ?k96) (rc (fun K hK => ?k97) AllReadyH.nil)
       case k96 =>
        have hVb := HB.out.size
        refine Kd.R_append_rows_step kItem (w0 := Vs) (b) (by rfl) (.tmp 42) (.tmp 44) 41 28 (.agg #[(.int .i64 0), (.string ⟨#[]⟩), (.string ⟨#[]⟩), (.slice none 0 0), (.slice none 0 0)]) 88 rfl Tryd.underlying41 info28 rfl (by decide) (by omega) (.slice (some ⟨Vs.heap.size, 0, none⟩) 0 0) [] s.f1 (A0) (s.f1.length) (c0) (fun _ => True) (fun k => k < w.heap.size) rfl rfl G.out (R_readsM (Kd.R_below HS.out HB.out)) (fun _ _ h => h) (fun k hk => ⟨trivial, fun e => by have h_ : k < w.heap.size := hk; have e2 : k = Vs.heap.size := Option.some.inj e; omega⟩) (fun _ _ => trivial) ((HB.out.mono (by omega : b ≤ Vs.heap.size))) (by have := HB.out.size; omega) (by simp; omega) ?_
        intro v3 V3 ho hb hg hat
        rw [List.nil_append] at ho
        obtain ⟨GB, Gd, hv⟩ := Kd.R_slice ho
        subst hv
        have nHB : Below Vs.heap.size Vs V3 := bel_grown HB.out hg HB.out.size (fun k hk => by simp [Value.ownBlock] at hk; omega)
        have nHL := Aside0.mk (Nat.le_trans HL.out hg.size)
        clear HB HL BG G
        have HL := nHL
        clear nHL
        have HB := Aside0.mk nHB
        clear nHB
        have HOW : Aside0 (∀ q_, (Value.slice GB s.f1.length Gd).ownBlock = some q_ → Vs.heap.size ≤ q_) := ⟨fun q_ hk => by (rcases hat with h1 | ⟨b1, h1, h2⟩; (rw [h1] at hk; simp [Value.ownBlock] at hk; omega); (rw [h1] at hk; have h3 := Option.some.inj hk; omega))⟩
        have G : Aside0 (Kd.R kItem 28 V3 b (fun _ => True) (.slice GB (s.f1).length Gd) s.f1) := ⟨ho⟩
        clear ho hb hg hat hVb
        refine hK.out _ _ ?h98 (fun hHeld => ?j98)
        case h98 => exact (below_blk FX.out HB.out)
        clear hK K
        try simp only [Act.put, List.setIfInBounds_toArray, List.set_cons_zero, List.set_cons_succ]
        refine rdy (rs := [5]) ?_
        refine rc (fun K hK => ?k99) AllReadyH.nil
        case k99 =>
         go_simp
         generalize hWV5 : World.alloc (V3) _ = V5
         have ltb := HB.out.size
         have ltl := HL.out
         have TT : ∀ k, k < V3.heap.size → V5.heap[k]? = V3.heap[k]? := fun k hk => by rw [← hWV5]; (with_reducible repeat (first | rfl | refine hp_set ?_ ?_ | refine hp_alloc ?_ ?_ | refine hp_drew ?_)); all_goals (first | (with_reducible rfl) | omega | (dsimp only; omega) | (simp; omega))
         have TS : V3.heap.size + 1 ≤ V5.heap.size := by rw [← hWV5]; simp
         have nFB : V5.heap[V3.heap.size]? = some (.cells #[.int .i64 (s.f0 + 1), .string m.f0.f0, .string m.f0.f1, .slice TB rs.length Td, .slice EB m.f2.length Ed] 28 (0, 0)) := by rw [← hWV5]; exact blk_new V3 (.cells #[.int .i64 (s.f0 + 1), .string m.f0.f0, .string m.f0.f1, .slice TB rs.length Td, .slice EB m.f2.length Ed] 28)
         have nG : Kd.R kItem 28 V5 b (fun _ => True) (.slice GB (s.f1).length Gd) s.f1 := Kd.R_mono (Kd.R_step (G.out) (fun k hk hlt => TT k hlt)) (fun _ hk => hk)
         have nHB : Below Vs.heap.size Vs V5 := by rw [← hWV5]; exact bel_alloc (HB.out) _
         clear hWV5  HB G
         have FB := Aside0.mk nFB
         clear nFB
         have G := Aside0.mk nG
         clear nG
         have HB := Aside0.mk nHB
         clear nHB
         have oFB_ltl := ltl
         have oFB_ts := TS
         replace HL := Aside0.mk (Nat.le_trans HL.out (by omega : V3.heap.size ≤ V5.heap.size))
         clear TT TS ltb ltl
         refine hK.out _ _ ?h100 (fun hHeld => ?j100)
         case h100 => exact (below_blk FX.out HB.out)
         clear hK K
         try simp only [Act.put, List.setIfInBounds_toArray, List.set_cons_zero, List.set_cons_succ]
         refine rdy (rs := [6]) ?_
         refine rc (fun K hK => ?k101) AllReadyH.nil
         case k101 =>
          have hVb := HB.out.size
          refine Kd.R_append_rows_step kItem (w0 := Vs) (b) (by rfl) (.tmp 45) (.tmp 47) 41 28 (.agg #[(.int .i64 0), (.string ⟨#[]⟩), (.string ⟨#[]⟩), (.slice none 0 0), (.slice none 0 0)]) 88 rfl Tryd.underlying41 info28 rfl (by decide) (by omega) (.slice GB (s.f1).length Gd) s.f1 [(⟨s.f0 + 1, m.f0, rs, m.f2⟩ : SItem)] ((some ⟨V3.heap.size, 0, none⟩)) (1) (1) (fun _ => True) (NotT V5 28) rfl rfl G.out (rr_one FB.out (kItem_mkM V5 b (NotT V5 28) (⟨s.f0 + 1, m.f0, rs, m.f2⟩ : SItem) (Kd.R_lower (R_notT (Kd.R_below T.out HB.out) (by decide)) hb) (Kd.R_lower (R_notT (Kd.R_below E.out HB.out) (by decide)) hb)) rfl) (fun _ _ h => h) (ok_notT G.out) (fun _ _ => trivial) ((HB.out.mono (by omega : b ≤ Vs.heap.size))) (by have := HB.out.size; omega) (by omega) ?_
          intro v6 V6 ho hb hg hat
          obtain ⟨B2, d2, hv⟩ := Kd.R_slice ho
          subst hv
          have nHB : Below Vs.heap.size Vs V6 := bel_grown HB.out hg HB.out.size (fun k hk => by exact HOW.out k hk)
          have nHL := Aside0.mk (Nat.le_trans HL.out hg.size)
          clear HB HL FB G
          have HL := nHL
          clear nHL
          have HB := Aside0.mk nHB
          clear nHB
          have G : Aside0 (Kd.R kItem 28 V6 b (fun _ => True) (.slice B2 ((s.f1 ++ [(⟨s.f0 + 1, m.f0, rs, m.f2⟩ : SItem)])).length d2) (s.f1 ++ [(⟨s.f0 + 1, m.f0, rs, m.f2⟩ : SItem)])) := ⟨ho⟩
          clear ho hb hg hat hVb
          refine hK.out _ _ ?h102 (fun hHeld => ?j102)
          case h102 => exact (below_blk FX.out HB.out)
          clear hK K
          try simp only [Act.put, List.setIfInBounds_toArray, List.set_cons_zero, List.set_cons_succ]
          refine tk 7 ?v103 ?y103 ?r103
          case y103 => intro w_ hSw; (try dsimp only at hSw); clear hSw; go_simp; (try (with_reducible rfl))
          try simp only [Act.put, List.setIfInBounds_toArray, List.set_cons_zero, List.set_cons_succ]
          generalize hgG : Vs.heap.size = gG
          generalize hgF : V3.heap.size = gF
          exact HKK.out gG GB Gd gF B2 d2 V6 ⟨HB.out, G.out, hHeld⟩
       case k97 =>
        go_simp
        generalize hWV5 : World.alloc (V0) _ = V5
        have ltBG := blk_lt BG.out
        have ltb := HB.out.size
        have ltl := HL.out
        have TT : ∀ k, k < V0.heap.size → V5.heap[k]? = V0.heap[k]? := fun k hk => by rw [← hWV5]; (with_reducible repeat (first | rfl | refine hp_set ?_ ?_ | refine hp_alloc ?_ ?_ | refine hp_drew ?_)); all_goals (first | (with_reducible rfl) | omega | (dsimp only; omega) | (simp; omega))
        have TS : V0.heap.size + 1 ≤ V5.heap.size := by rw [← hWV5]; simp
        have nBG : V5.heap[Vs.heap.size]? = some (.cells #[] 28 (0, 0)) := (TT _ ltBG).trans BG.out
        have nFB : V5.heap[V0.heap.size]? = some (.cells #[.int .i64 (s.f0 + 1), .string m.f0.f0, .string m.f0.f1, .slice TB rs.length Td, .slice EB m.f2.length Ed] 28 (0, 0)) := by rw [← hWV5]; exact blk_new V0 (.cells #[.int .i64 (s.f0 + 1), .string m.f0.f0, .string m.f0.f1, .slice TB rs.length Td, .slice EB m.f2.length Ed] 28)
        have nG : Kd.R kItem 28 V5 b (fun _ => True) (.slice (some ⟨Vs.heap.size, 0, none⟩) 0 0) [] := Kd.R_mono (Kd.R_step (G.out) (fun k hk hlt => TT k hlt)) (fun _ hk => hk)
        have nHB : Below Vs.heap.size Vs V5 := by rw [← hWV5]; exact bel_alloc (HB.out) _
        clear hWV5 BG HB G
        have BG := Aside0.mk nBG
        clear nBG
        have FB := Aside0.mk nFB
        clear nFB
        have G := Aside0.mk nG
        clear nG
        have HB := Aside0.mk nHB
        clear nHB
        have oFB_ltBG := ltBG
        have oFB_ltl := ltl
        have oFB_ts := TS
        replace HL := Aside0.mk (Nat.le_trans HL.out (by omega : V0.heap.size ≤ V5.heap.size))
        clear TT TS ltBG ltb ltl
        refine hK.out _ _ ?h104 (fun hHeld => ?j104)
        case h104 => exact (below_blk FX.out HB.out)
        clear hK K
        try simp only [Act.put, List.setIfInBounds_toArray, List.set_cons_zero, List.set_cons_succ]
        refine rdy (rs := [3]) ?_
        refine rc (fun K hK => ?k105) AllReadyH.nil
        case k105 =>
         have hVb := HB.out.size
         refine Kd.R_append_rows_step kItem (w0 := Vs) (b) (by rfl) (.tmp 42) (.tmp 44) 41 28 (.agg #[(.int .i64 0), (.string ⟨#[]⟩), (.string ⟨#[]⟩), (.slice none 0 0), (.slice none 0 0)]) 88 rfl Tryd.underlying41 info28 rfl (by decide) (by omega) (.slice (some ⟨Vs.heap.size, 0, none⟩) 0 0) [] s.f1 (A0) (s.f1.length) (c0) (fun _ => True) (fun k => k < w.heap.size) rfl rfl G.out (R_readsM (Kd.R_below HS.out HB.out)) (fun _ _ h => h) (fun k hk => ⟨trivial, fun e => by have h_ : k < w.heap.size := hk; have e2 : k = Vs.heap.size := Option.some.inj e; omega⟩) (fun _ _ => trivial) ((HB.out.mono (by omega : b ≤ Vs.heap.size))) (by have := HB.out.size; omega) (by simp; omega) ?_
         intro v3 V3 ho hb hg hat
         rw [List.nil_append] at ho
         obtain ⟨GB, Gd, hv⟩ := Kd.R_slice ho
         subst hv
         have nHB : Below Vs.heap.size Vs V3 := bel_grown HB.out hg HB.out.size (fun k hk => by simp [Value.ownBlock] at hk; omega)
         have nFB : V3.heap[V0.heap.size]? = some (.cells #[.int .i64 (s.f0 + 1), .string m.f0.f0, .string m.f0.f1, .slice TB rs.length Td, .slice EB m.f2.length Ed] 28 (0, 0)) := (hg.block _ (blk_lt FB.out) (fun e => by have e := Option.some.inj e; (try dsimp only at e); omega)).trans FB.out
         have nHL := Aside0.mk (Nat.le_trans HL.out hg.size)
         clear HB HL BG FB G
         have FB := Aside0.mk nFB
         clear nFB
         have HL := nHL
         clear nHL
         have HB := Aside0.mk nHB
         clear nHB
         have HOW : Aside0 (∀ q_, (Value.slice GB s.f1.length Gd).ownBlock = some q_ → Vs.heap.size ≤ q_) := ⟨fun q_ hk => by (rcases hat with h1 | ⟨b1, h1, h2⟩; (rw [h1] at hk; simp [Value.ownBlock] at hk; omega); (rw [h1] at hk; have h3 := Option.some.inj hk; omega))⟩
         have G : Aside0 (Kd.R kItem 28 V3 b (fun _ => True) (.slice GB (s.f1).length Gd) s.f1) := ⟨ho⟩
         clear ho hb hg hat hVb
         refine hK.out _ _ ?h106 (fun hHeld => ?j106)
         case h106 => exact (below_blk FX.out HB.out)
         clear hK K
         try simp only [Act.put, List.setIfInBounds_toArray, List.set_cons_zero, List.set_cons_succ]
         refine rdy (rs := [6]) ?_
         refine rc (fun K hK => ?k107) AllReadyH.nil
         case k107 =>
          have hVb := HB.out.size
          refine Kd.R_append_rows_step kItem (w0 := Vs) (b) (by rfl) (.tmp 45) (.tmp 47) 41 28 (.agg #[(.int .i64 0), (.string ⟨#[]⟩), (.string ⟨#[]⟩), (.slice none 0 0), (.slice none 0 0)]) 88 rfl Tryd.underlying41 info28 rfl (by decide) (by omega) (.slice GB (s.f1).length Gd) s.f1 [(⟨s.f0 + 1, m.f0, rs, m.f2⟩ : SItem)] ((some ⟨V0.heap.size, 0, none⟩)) (1) (1) (fun _ => True) (NotT V3 28) rfl rfl G.out (rr_one FB.out (kItem_mkM V3 b (NotT V3 28) (⟨s.f0 + 1, m.f0, rs, m.f2⟩ : SItem) (Kd.R_lower (R_notT (Kd.R_below T.out HB.out) (by decide)) hb) (Kd.R_lower (R_notT (Kd.R_below E.out HB.out) (by decide)) hb)) rfl) (fun _ _ h => h) (ok_notT G.out) (fun _ _ => trivial) ((HB.out.mono (by omega : b ≤ Vs.heap.size))) (by have := HB.out.size; omega) (by omega) ?_
          intro v6 V6 ho hb hg hat
          obtain ⟨B2, d2, hv⟩ := Kd.R_slice ho
          subst hv
          have nHB : Below Vs.heap.size Vs V6 := bel_grown HB.out hg HB.out.size (fun k hk => by exact HOW.out k hk)
          have nHL := Aside0.mk (Nat.le_trans HL.out hg.size)
          clear HB HL FB G
          have HL := nHL
          clear nHL
          have HB := Aside0.mk nHB
          clear nHB
          have G : Aside0 (Kd.R kItem 28 V6 b (fun _ => True) (.slice B2 ((s.f1 ++ [(⟨s.f0 + 1, m.f0, rs, m.f2⟩ : SItem)])).length d2) (s.f1 ++ [(⟨s.f0 + 1, m.f0, rs, m.f2⟩ : SItem)])) := ⟨ho⟩
          clear ho hb hg hat hVb
          refine hK.out _ _ ?h108 (fun hHeld => ?j108)
          case h108 => exact (below_blk FX.out HB.out)
          clear hK K
          try simp only [Act.put, List.setIfInBounds_toArray, List.set_cons_zero, List.set_cons_succ]
          refine tk 7 ?v109 ?y109 ?r109
          case y109 => intro w_ hSw; (try dsimp only at hSw); clear hSw; go_simp; (try (with_reducible rfl))
          try simp only [Act.put, List.setIfInBounds_toArray, List.set_cons_zero, List.set_cons_succ]
          generalize hgG : Vs.heap.size = gG
          generalize hgF : V0.heap.size = gF
          exact HKK.out gG GB Gd gF B2 d2 V6 ⟨HB.out, G.out, hHeld⟩
      case k94 =>
       go_simp
       clear cF0_0 cF0_1
       generalize hWV5 : World.alloc (Vs) _ = V5
       have ltb := HB.out.size
       have ltl := HL.out
       have TT : ∀ k, k < Vs.heap.size → V5.heap[k]? = Vs.heap[k]? := fun k hk => by rw [← hWV5]; (with_reducible repeat (first | rfl | refine hp_set ?_ ?_ | refine hp_alloc ?_ ?_ | refine hp_drew ?_)); all_goals (first | (with_reducible rfl) | omega | (dsimp only; omega) | (simp; omega))
       have TS : Vs.heap.size + 1 ≤ V5.heap.size := by rw [← hWV5]; simp
       have nFB : V5.heap[Vs.heap.size]? = some (.cells #[.int .i64 (s.f0 + 1), .string m.f0.f0, .string m.f0.f1, .slice TB rs.length Td, .slice EB m.f2.length Ed] 28 (0, 0)) := by rw [← hWV5]; exact blk_new Vs (.cells #[.int .i64 (s.f0 + 1), .string m.f0.f0, .string m.f0.f1, .slice TB rs.length Td, .slice EB m.f2.length Ed] 28)
       have nHB : Below Vs.heap.size Vs V5 := by rw [← hWV5]; exact bel_alloc (HB.out) _
       clear hWV5  HB 
       have FB := Aside0.mk nFB
       clear nFB
       have HB := Aside0.mk nHB
       clear nHB
       have oFB_ltl := ltl
       have oFB_ts := TS
       replace HL := Aside0.mk (Nat.le_trans HL.out (by omega : Vs.heap.size ≤ V5.heap.size))
       clear TT TS ltb ltl
       refine hK.out _ _ ?h110 (fun hHeld => ?j110)
       case h110 => exact (below_blk FX.out HB.out)
       clear hK K
       try simp only [Act.put, List.setIfInBounds_toArray, List.set_cons_zero, List.set_cons_succ]
       refine rdy (rs := [0]) ?_
       refine rc (fun K hK => ?k111) AllReadyH.nil
       case k111 =>
        go_simp
        generalize hWV0 : World.alloc (V5) _ = V0
        have ltFB := blk_lt FB.out
        have ltb := HB.out.size
        have ltl := HL.out
        have TT : ∀ k, k < V5.heap.size → V0.heap[k]? = V5.heap[k]? := fun k hk => by rw [← hWV0]; (with_reducible repeat (first | rfl | refine hp_set ?_ ?_ | refine hp_alloc ?_ ?_ | refine hp_drew ?_)); all_goals (first | (with_reducible rfl) | omega | (dsimp only; omega) | (simp; omega))
        have TS : V5.heap.size + 1 ≤ V0.heap.size := by rw [← hWV0]; simp
        have nFB : V0.heap[Vs.heap.size]? = some (.cells #[.int .i64 (s.f0 + 1), .string m.f0.f0, .string m.f0.f1, .slice TB rs.length Td, .slice EB m.f2.length Ed] 28 (0, 0)) := (TT _ ltFB).trans FB.out
        have nBG : V0.heap[V5.heap.size]? = some (.cells #[] 28 (0, 0)) := by rw [← hWV0]; exact blk_new V5 (.cells #[] 28)
        have nHB : Below Vs.heap.size Vs V0 := by rw [← hWV0]; exact bel_alloc (HB.out) _
        have nG : Kd.R kItem 28 V0 b (fun _ => True) (.slice (some ⟨V5.heap.size, 0, none⟩) 0 0) [] := by rw [← hWV0]; exact R_empty kItem 28 V5 b (by have := ltb; omega) trivial
        clear hWV0 FB HB 
        have FB := Aside0.mk nFB
        clear nFB
        have BG := Aside0.mk nBG
        clear nBG
        have G := Aside0.mk nG
        clear nG
        have HB := Aside0.mk nHB
        clear nHB
        have oBG_ltFB := ltFB
        have oBG_ltl := ltl
        have oBG_ts := TS
        replace HL := Aside0.mk (Nat.le_trans HL.out (by omega : V5.heap.size ≤ V0.heap.size))
        clear TT TS ltFB ltb ltl
        refine hK.out _ _ ?h112 (fun hHeld => ?j112)
        case h112 => exact (below_blk FX.out HB.out)
        clear hK K
        try simp only [Act.put, List.setIfInBounds_toArray, List.set_cons_zero, List.set_cons_succ]
        refine rdy (rs := [3]) ?_
        refine rc (fun K hK => ?k113) AllReadyH.nil
        case k113 =>
         have hVb := HB.out.size
         refine Kd.R_append_rows_step kItem (w0 := Vs) (b) (by rfl) (.tmp 42) (.tmp 44) 41 28 (.agg #[(.int .i64 0), (.string ⟨#[]⟩), (.string ⟨#[]⟩), (.slice none 0 0), (.slice none 0 0)]) 88 rfl Tryd.underlying41 info28 rfl (by decide) (by omega) (.slice (some ⟨V5.heap.size, 0, none⟩) 0 0) [] s.f1 (A0) (s.f1.length) (c0) (fun _ => True) (fun k => k < w.heap.size) rfl rfl G.out (R_readsM (Kd.R_below HS.out HB.out)) (fun _ _ h => h) (fun k hk => ⟨trivial, fun e => by have h_ : k < w.heap.size := hk; have e2 : k = V5.heap.size := Option.some.inj e; omega⟩) (fun _ _ => trivial) ((HB.out.mono (by omega : b ≤ Vs.heap.size))) (by have := HB.out.size; omega) (by simp; omega) ?_
         intro v3 V3 ho hb hg hat
         rw [List.nil_append] at ho
         obtain ⟨GB, Gd, hv⟩ := Kd.R_slice ho
         subst hv
         have nHB : Below Vs.heap.size Vs V3 := bel_grown HB.out hg HB.out.size (fun k hk => by simp [Value.ownBlock] at hk; omega)
         have nFB : V3.heap[Vs.heap.size]? = some (.cells #[.int .i64 (s.f0 + 1), .string m.f0.f0, .string m.f0.f1, .slice TB rs.length Td, .slice EB m.f2.length Ed] 28 (0, 0)) := (hg.block _ (blk_lt FB.out) (fun e => by have e := Option.some.inj e; (try dsimp only at e); omega)).trans FB.out
         have nHL := Aside0.mk (Nat.le_trans HL.out hg.size)
         clear HB HL FB BG G
         have FB := Aside0.mk nFB
         clear nFB
         have HL := nHL
         clear nHL
         have HB := Aside0.mk nHB
         clear nHB
         have HOW : Aside0 (∀ q_, (Value.slice GB s.f1.length Gd).ownBlock = some q_ → Vs.heap.size ≤ q_) := ⟨fun q_ hk => by (rcases hat with h1 | ⟨b1, h1, h2⟩; (rw [h1] at hk; simp [Value.ownBlock] at hk; omega); (rw [h1] at hk; have h3 := Option.some.inj hk; omega))⟩
         have G : Aside0 (Kd.R kItem 28 V3 b (fun _ => True) (.slice GB (s.f1).length Gd) s.f1) := ⟨ho⟩
         clear ho hb hg hat hVb
         refine hK.out _ _ ?h114 (fun hHeld => ?j114)
         case h114 => exact (below_blk FX.out HB.out)
         clear hK K
         try simp only [Act.put, List.setIfInBounds_toArray, List.set_cons_zero, List.set_cons_succ]
         refine rdy (rs := [6]) ?_
         refine rc (fun K hK => ?k115) AllReadyH.nil
         case k115 =>
          have hVb := HB.out.size
          refine Kd.R_append_rows_step kItem (w0 := Vs) (b) (by rfl) (.tmp 45) (.tmp 47) 41 28 (.agg #[(.int .i64 0), (.string ⟨#[]⟩), (.string ⟨#[]⟩), (.slice none 0 0), (.slice none 0 0)]) 88 rfl Tryd.underlying41 info28 rfl (by decide) (by omega) (.slice GB (s.f1).length Gd) s.f1 [(⟨s.f0 + 1, m.f0, rs, m.f2⟩ : SItem)] ((some ⟨Vs.heap.size, 0, none⟩)) (1) (1) (fun _ => True) (NotT V3 28) rfl rfl G.out (rr_one FB.out (kItem_mkM V3 b (NotT V3 28) (⟨s.f0 + 1, m.f0, rs, m.f2⟩ : SItem) (Kd.R_lower (R_notT (Kd.R_below T.out HB.out) (by decide)) hb) (Kd.R_lower (R_notT (Kd.R_below E.out HB.out) (by decide)) hb)) rfl) (fun _ _ h => h) (ok_notT G.out) (fun _ _ => trivial) ((HB.out.mono (by omega : b ≤ Vs.heap.size))) (by have := HB.out.size; omega) (by omega) ?_
          intro v6 V6 ho hb hg hat
          obtain ⟨B2, d2, hv⟩ := Kd.R_slice ho
          subst hv
          have nHB : Below Vs.heap.size Vs V6 := bel_grown HB.out hg HB.out.size (fun k hk => by exact HOW.out k hk)
          have nHL := Aside0.mk (Nat.le_trans HL.out hg.size)
          clear HB HL FB G
          have HL := nHL
          clear nHL
          have HB := Aside0.mk nHB
          clear nHB
          have G : Aside0 (Kd.R kItem 28 V6 b (fun _ => True) (.slice B2 ((s.f1 ++ [(⟨s.f0 + 1, m.f0, rs, m.f2⟩ : SItem)])).length d2) (s.f1 ++ [(⟨s.f0 + 1, m.f0, rs, m.f2⟩ : SItem)])) := ⟨ho⟩
          clear ho hb hg hat hVb
          refine hK.out _ _ ?h116 (fun hHeld => ?j116)
          case h116 => exact (below_blk FX.out HB.out)
          clear hK K
          try simp only [Act.put, List.setIfInBounds_toArray, List.set_cons_zero, List.set_cons_succ]
          refine tk 7 ?v117 ?y117 ?r117
          case y117 => intro w_ hSw; (try dsimp only at hSw); clear hSw; go_simp; (try (with_reducible rfl))
          try simp only [Act.put, List.setIfInBounds_toArray, List.set_cons_zero, List.set_cons_succ]
          generalize hgG : V5.heap.size = gG
          generalize hgF : Vs.heap.size = gF
          exact HKK.out gG GB Gd gF B2 d2 V6 ⟨HB.out, G.out, hHeld⟩
     case k65 =>
      go_simp
      generalize hWV5 : World.alloc (Vs) _ = V5
      have ltb := HB.out.size
      have ltl := HL.out
      have TT : ∀ k, k < Vs.heap.size → V5.heap[k]? = Vs.heap[k]? := fun k hk => by rw [← hWV5]; (with_reducible repeat (first | rfl | refine hp_set ?_ ?_ | refine hp_alloc ?_ ?_ | refine hp_drew ?_)); all_goals (first | (with_reducible rfl) | omega | (dsimp only; omega) | (simp; omega))
      have TS : Vs.heap.size + 1 ≤ V5.heap.size := by rw [← hWV5]; simp
      have nFB : V5.heap[Vs.heap.size]? = some (.cells #[.int .i64 (s.f0 + 1), .string m.f0.f0, .string m.f0.f1, .slice TB rs.length Td, .slice EB m.f2.length Ed] 28 (0, 0)) := by rw [← hWV5]; exact blk_new Vs (.cells #[.int .i64 (s.f0 + 1), .string m.f0.f0, .string m.f0.f1, .slice TB rs.length Td, .slice EB m.f2.length Ed] 28)
      have nHB : Below Vs.heap.size Vs V5 := by rw [← hWV5]; exact bel_alloc (HB.out) _
      clear hWV5  HB 
      have FB := Aside0.mk nFB
      clear nFB
      have HB := Aside0.mk nHB
      clear nHB
      have oFB_ltl := ltl
      have oFB_ts := TS
      replace HL := Aside0.mk (Nat.le_trans HL.out (by omega : Vs.heap.size ≤ V5.heap.size))
      clear TT TS ltb ltl
      refine hK.out _ _ ?h118 (fun hHeld => ?j118)
      case h118 => exact (below_blk FX.out HB.out)
      clear hK K
      try simp only [Act.put, List.setIfInBounds_toArray, List.set_cons_zero, List.set_cons_succ]
      refine rdy (rs := [0, 2]) ?_
      refine rc (fun K hK => ?k119) (rc (fun K hK => ?k120) AllReadyH.nil)
      case k119 =>
       go_simp
       generalize hWV0 : World.alloc (V5) _ = V0
       have ltFB := blk_lt FB.out
       have ltb := HB.out.size
       have ltl := HL.out
       have TT : ∀ k, k < V5.heap.size → V0.heap[k]? = V5.heap[k]? := fun k hk => by rw [← hWV0]; (with_reducible repeat (first | rfl | refine hp_set ?_ ?_ | refine hp_alloc ?_ ?_ | refine hp_drew ?_)); all_goals (first | (with_reducible rfl) | omega | (dsimp only; omega) | (simp; omega))
       have TS : V5.heap.size + 1 ≤ V0.heap.size := by rw [← hWV0]; simp
       have nFB : V0.heap[Vs.heap.size]? = some (.cells #[.int .i64 (s.f0 + 1), .string m.f0.f0, .string m.f0.f1, .slice TB rs.length Td, .slice EB m.f2.length Ed] 28 (0, 0)) := (TT _ ltFB).trans FB.out
       have nBG : V0.heap[V5.heap.size]? = some (.cells #[] 28 (0, 0)) := by rw [← hWV0]; exact blk_new V5 (.cells #[] 28)
       have nHB : Below Vs.heap.size Vs V0 := by rw [← hWV0]; exact bel_alloc (HB.out) _
       have nG : Kd.R kItem 28 V0 b (fun _ => True) (.slice (some ⟨V5.heap.size, 0, none⟩) 0 0) [] := by rw [← hWV0]; exact R_empty kItem 28 V5 b (by have := ltb; omega) trivial
       clear hWV0 FB HB 
       have FB := Aside0.mk nFB
       clear nFB
       have BG := Aside0.mk nBG
       clear nBG
       have G := Aside0.mk nG
       clear nG
       have HB := Aside0.mk nHB
       clear nHB
       have oBG_ltFB := ltFB
       have oBG_ltl := ltl
       have oBG_ts := TS
       replace HL := Aside0.mk (Nat.le_trans HL.out (by omega : V5.heap.size ≤ V0.heap.size))
       clear TT TS ltFB ltb ltl
       refine hK.out _ _ ?h121 (fun hHeld => ?j121)
       case h121 => exact (below_blk FX.out HB.out)
       clear hK K
       try simp only [Act.put, List.setIfInBounds_toArray, List.set_cons_zero, List.set_cons_succ]
       refine rdy (rs := [2]) ?_
       refine rc (fun K hK => ?k122) AllReadyH.nil
       case k122 =>
        have cF0_0 : V0.cell? ⟨w.heap.size, 0, none⟩ = some (.int .i64 (s.f0 + 1)) := by have h_ := below_blk F0.out HB.out; simp [World.cell?, h_]
        have cF0_1 : V0.cell? ⟨w.heap.size, 1, none⟩ = some (.slice A0 s.f1.length c0) := by have h_ := below_blk F0.out HB.out; simp [World.cell?, h_]
        go_simp
        refine hK.out _ _ ?h123 (fun hHeld => ?j123)
        case h123 => exact hHeld
        clear hK K
        try simp only [Act.put, List.setIfInBounds_toArray, List.set_cons_zero, List.set_cons_succ]
        refine rdy (rs := [3]) ?_
        refine rc (fun K hK => ?k124) AllReadyH.nil
        case k124 =>
         have hVb := HB.out.size
         refine Kd.R_append_rows_step kItem (w0 := Vs) (b) (by rfl) (.tmp 42) (.tmp 44) 41 28 (.agg #[(.int .i64 0), (.string ⟨#[]⟩), (.string ⟨#[]⟩), (.slice none 0 0), (.slice none 0 0)]) 88 rfl Tryd.underlying41 info28 rfl (by decide) (by omega) (.slice (some ⟨V5.heap.size, 0, none⟩) 0 0) [] s.f1 (A0) (s.f1.length) (c0) (fun _ => True) (fun k => k < w.heap.size) rfl rfl G.out (R_readsM (Kd.R_below HS.out HB.out)) (fun _ _ h => h) (fun k hk => ⟨trivial, fun e => by have h_ : k < w.heap.size := hk; have e2 : k = V5.heap.size := Option.some.inj e; omega⟩) (fun _ _ => trivial) ((HB.out.mono (by omega : b ≤ Vs.heap.size))) (by have := HB.out.size; omega) (by simp; omega) ?_
         intro v3 V3 ho hb hg hat
         rw [List.nil_append] at ho
         obtain ⟨GB, Gd, hv⟩ := Kd.R_slice ho
         subst hv
         have nHB : Below Vs.heap.size Vs V3 := bel_grown HB.out hg HB.out.size (fun k hk => by simp [Value.ownBlock] at hk; omega)
         have nFB : V3.heap[Vs.heap.size]? = some (.cells #[.int .i64 (s.f0 + 1), .string m.f0.f0, .string m.f0.f1, .slice TB rs.length Td, .slice EB m.f2.length Ed] 28 (0, 0)) := (hg.block _ (blk_lt FB.out) (fun e => by have e := Option.some.inj e; (try dsimp only at e); omega)).trans FB.out
         have nHL := Aside0.mk (Nat.le_trans HL.out hg.size)
         clear cF0_0 cF0_1
         clear HB HL FB BG G
         have FB := Aside0.mk nFB
         clear nFB
         have HL := nHL
         clear nHL
         have HB := Aside0.mk nHB
         clear nHB
         have HOW : Aside0 (∀ q_, (Value.slice GB s.f1.length Gd).ownBlock = some q_ → Vs.heap.size ≤ q_) := ⟨fun q_ hk => by (rcases hat with h1 | ⟨b1, h1, h2⟩; (rw [h1] at hk; simp [Value.ownBlock] at hk; omega); (rw [h1] at hk; have h3 := Option.some.inj hk; omega))⟩
         have G : Aside0 (Kd.R kItem 28 V3 b (fun _ => True) (.slice GB (s.f1).length Gd) s.f1) := ⟨ho⟩
         clear ho hb hg hat hVb
         refine hK.out _ _ ?h125 (fun hHeld => ?j125)
         case h125 => exact (below_blk FX.out HB.out)
         clear hK K
         try simp only [Act.put, List.setIfInBounds_toArray, List.set_cons_zero, List.set_cons_succ]
         refine rdy (rs := [6]) ?_
         refine rc (fun K hK => ?k126) AllReadyH.nil
         case k126 =>
          have hVb := HB.out.size
          refine Kd.R_append_rows_step kItem (w0 := Vs) (b) (by rfl) (.tmp 45) (.tmp 47) 41 28 (.agg #[(.int .i64 0), (.string ⟨#[]⟩), (.string ⟨#[]⟩), (.slice none 0 0), (.slice none 0 0)]) 88 rfl Tryd.underlying41 info28 rfl (by decide) (by omega) (.slice GB (s.f1).length Gd) s.f1 [(⟨s.f0 + 1, m.f0, rs, m.f2⟩ : SItem)] ((some ⟨Vs.heap.size, 0, none⟩)) (1) (1) (fun _ => True) (NotT V3 28) rfl rfl G.out (rr_one FB.out (kItem_mkM V3 b (NotT V3 28) (⟨s.f0 + 1, m.f0, rs, m.f2⟩ : SItem) (Kd.R_lower (R_notT (Kd.R_below T.out HB.out) (by decide)) hb) (Kd.R_lower (R_notT (Kd.R_below E.out HB.out) (by decide)) hb)) rfl) (fun _ _ h => h) (ok_notT G.out) (fun _ _ => trivial) ((HB.out.mono (by omega : b ≤ Vs.heap.size))) (by have := HB.out.size; omega) (by omega) ?_
          intro v6 V6 ho hb hg hat
          obtain ⟨B2, d2, hv⟩ := Kd.R_slice ho
          subst hv
          have nHB : Below Vs.heap.size Vs V6 := bel_grown HB.out hg HB.out.size (fun k hk => by exact HOW.out k hk)
          have nHL := Aside0.mk (Nat.le_trans HL.out hg.size)
          clear HB HL FB G
          have HL := nHL
          clear nHL
          have HB := Aside0.mk nHB
          clear nHB
          have G : Aside0 (Kd.R kItem 28 V6 b (fun _ => True) (.slice B2 ((s.f1 ++ [(⟨s.f0 + 1, m.f0, rs, m.f2⟩ : SItem)])).length d2) (s.f1 ++ [(⟨s.f0 + 1, m.f0, rs, m.f2⟩ : SItem)])) := ⟨ho⟩
          clear ho hb hg hat hVb
          refine hK.out _ _ ?h127 (fun hHeld => ?j127)
          case h127 => exact (below_blk FX.out HB.out)
          clear hK K
          try simp only [Act.put, List.setIfInBounds_toArray, List.set_cons_zero, List.set_cons_succ]
          refine tk 7 ?v128 ?y128 ?r128
          case y128 => intro w_ hSw; (try dsimp only at hSw); clear hSw; go_simp; (try (with_reducible rfl))
          try simp only [Act.put, List.setIfInBounds_toArray, List.set_cons_zero, List.set_cons_succ]
          generalize hgG : V5.heap.size = gG
          generalize hgF : Vs.heap.size = gF
          exact HKK.out gG GB Gd gF B2 d2 V6 ⟨HB.out, G.out, hHeld⟩
      case k120 =>
       have cF0_0 : V5.cell? ⟨w.heap.size, 0, none⟩ = some (.int .i64 (s.f0 + 1)) := by have h_ := below_blk F0.out HB.out; simp [World.cell?, h_]
       have cF0_1 : V5.cell? ⟨w.heap.size, 1, none⟩ = some (.slice A0 s.f1.length c0) := by have h_ := below_blk F0.out HB.out; simp [World.cell?, h_]
       go_simp
       refine hK.out _ _ ?h129 (fun hHeld => ?j129)
       case h129 => exact hHeld
       clear hK K
       try simp only [Act.put, List.setIfInBounds_toArray, List.set_cons_zero, List.set_cons_succ]
       refine rdy (rs := [0]) ?_
       refine rc (fun K hK => ?k130) AllReadyH.nil
       case k130 =>
        go_simp
        clear cF0_0 cF0_1
        generalize hWV0 : World.alloc (V5) _ = V0
        have ltFB := blk_lt FB.out
        have ltb := HB.out.size
        have ltl := HL.out
        have TT : ∀ k, k < V5.heap.size → V0.heap[k]? = V5.heap[k]? := fun k hk => by rw [← hWV0]; (with_reducible repeat (first | rfl | refine hp_set ?_ ?_ | refine hp_alloc ?_ ?_ | refine hp_drew ?_)); all_goals (first | (with_reducible rfl) | omega | (dsimp only; omega) | (simp; omega))
        have TS : V5.heap.size + 1 ≤ V0.heap.size := by rw [← hWV0]; simp
        have nFB : V0.heap[Vs.heap.size]? = some (.cells #[.int .i64 (s.f0 + 1), .string m.f0.f0, .string m.f0.f1, .slice TB rs.length Td, .slice EB m.f2.length Ed] 28 (0, 0)) := (TT _ ltFB).trans FB.out
        have nBG : V0.heap[V5.heap.size]? = some (.cells #[] 28 (0, 0)) := by rw [← hWV0]; exact blk_new V5 (.cells #[] 28)
        have nHB : Below Vs.heap.size Vs V0 := by rw [← hWV0]; exact bel_alloc (HB.out) _
        have nG : Kd.R kItem 28 V0 b (fun _ => True) (.slice (some ⟨V5.heap.size, 0, none⟩) 0 0) [] := by rw [← hWV0]; exact R_empty kItem 28 V5 b (by have := ltb; omega) trivial
        clear hWV0 FB HB 
        have FB := Aside0.mk nFB
        clear nFB
        have BG := Aside0.mk nBG
        clear nBG
        have G := Aside0.mk nG
        clear nG
        have HB := Aside0.mk nHB
        clear nHB
        have oBG_ltFB := ltFB
        have oBG_ltl := ltl
        have oBG_ts := TS
        replace HL := Aside0.mk (Nat.le_trans HL.out (by omega : V5.heap.size ≤ V0.heap.size))
        clear TT TS ltFB ltb ltl
        refine hK.out _ _ ?h131 (fun hHeld => ?j131)
        case h131 => exact (below_blk FX.out HB.out)
        clear hK K
        try simp only [Act.put, List.setIfInBounds_toArray, List.set_cons_zero, List.set_cons_succ]
        refine rdy (rs := [3]) ?_
        refine rc (fun K hK => ?k132) AllReadyH.nil
        case k132 =>
         have hVb := HB.out.size
         refine Kd.R_append_rows_step kItem (w0 := Vs) (b) (by rfl) (.tmp 42) (.tmp 44) 41 28 (.agg #[(.int .i64 0), (.string ⟨#[]⟩), (.string ⟨#[]⟩), (.slice none 0 0), (.slice none 0 0)]) 88 rfl Tryd.underlying41 info28 rfl (by decide) (by omega) (.slice (some ⟨V5.heap.size, 0, none⟩) 0 0) [] s.f1 (A0) (s.f1.length) (c0) (fun _ => True) (fun k => k < w.heap.size) rfl rfl G.out (R_readsM (Kd.R_below HS.out HB.out)) (fun _ _ h => h) (fun k hk => ⟨trivial, fun e => by have h_ : k < w.heap.size := hk; have e2 : k = V5.heap.size := Option.some.inj e; omega⟩) (fun _ _ => trivial) ((HB.out.mono (by omega : b ≤ Vs.heap.size))) (by have := HB.out.size; omega) (by simp; omega) ?_
         intro v3 V3 ho hb hg hat
         rw [List.nil_append] at ho
         obtain ⟨GB, Gd, hv⟩ := Kd.R_slice ho
         subst hv
         have nHB : Below Vs.heap.size Vs V3 := bel_grown HB.out hg HB.out.size (fun k hk => by simp [Value.ownBlock] at hk; omega)
         have nFB : V3.heap[Vs.heap.size]? = some (.cells #[.int .i64 (s.f0 + 1), .string m.f0.f0, .string m.f0.f1, .slice TB rs.length Td, .slice EB m.f2.length Ed] 28 (0, 0)) := (hg.block _ (blk_lt FB.out) (fun e => by have e := Option.some.inj e; (try dsimp only at e); omega)).trans FB.out
         have nHL := Aside0.mk (Nat.le_trans HL.out hg.size)
         clear HB HL FB BG G
         have FB := Aside0.mk nFB
         clear nFB
         have HL := nHL
         clear nHL
         have HB := Aside0.mk nHB
         clear nHB
         have HOW : Aside0 (∀ q_, (Value.slice GB s.f1.length Gd).ownBlock = some q_ → Vs.heap.size ≤ q_) := ⟨fun q_ hk => by (rcases hat with h1 | ⟨b1, h1, h2⟩; (rw [h1] at hk; simp [Value.ownBlock] at hk; omega); (rw [h1] at hk; have h3 := Option.some.inj hk; omega))⟩
         have G : Aside0 (Kd.R kItem 28 V3 b (fun _ => True) (.slice GB (s.f1).length Gd) s.f1) := ⟨ho⟩
         clear ho hb hg hat hVb
         refine hK.out _ _ ?h133 (fun hHeld => ?j133)
         case h133 => exact (below_blk FX.out HB.out)
         clear hK K
         try simp only [Act.put, List.setIfInBounds_toArray, List.set_cons_zero, List.set_cons_succ]
         refine rdy (rs := [6]) ?_
         refine rc (fun K hK => ?k134) AllReadyH.nil
         case k134 =>
          have hVb := HB.out.size
          refine Kd.R_append_rows_step kItem (w0 := Vs) (b) (by rfl) (.tmp 45) (.tmp 47) 41 28 (.agg #[(.int .i64 0), (.string ⟨#[]⟩), (.string ⟨#[]⟩), (.slice none 0 0), (.slice none 0 0)]) 88 rfl Tryd.underlying41 info28 rfl (by decide) (by omega) (.slice GB (s.f1).length Gd) s.f1 [(⟨s.f0 + 1, m.f0, rs, m.f2⟩ : SItem)] ((some ⟨Vs.heap.size, 0, none⟩)) (1) (1) (fun _ => True) (NotT V3 28) rfl rfl G.out (rr_one FB.out (kItem_mkM V3 b (NotT V3 28) (⟨s.f0 + 1, m.f0, rs, m.f2⟩ : SItem) (Kd.R_lower (R_notT (Kd.R_below T.out HB.out) (by decide)) hb) (Kd.R_lower (R_notT (Kd.R_below E.out HB.out) (by decide)) hb)) rfl) (fun _ _ h => h) (ok_notT G.out) (fun _ _ => trivial) ((HB.out.mono (by omega : b ≤ Vs.heap.size))) (by have := HB.out.size; omega) (by omega) ?_
          intro v6 V6 ho hb hg hat
          obtain ⟨B2, d2, hv⟩ := Kd.R_slice ho
          subst hv
          have nHB : Below Vs.heap.size Vs V6 := bel_grown HB.out hg HB.out.size (fun k hk => by exact HOW.out k hk)
          have nHL := Aside0.mk (Nat.le_trans HL.out hg.size)
          clear HB HL FB G
          have HL := nHL
          clear nHL
          have HB := Aside0.mk nHB
          clear nHB
          have G : Aside0 (Kd.R kItem 28 V6 b (fun _ => True) (.slice B2 ((s.f1 ++ [(⟨s.f0 + 1, m.f0, rs, m.f2⟩ : SItem)])).length d2) (s.f1 ++ [(⟨s.f0 + 1, m.f0, rs, m.f2⟩ : SItem)])) := ⟨ho⟩
          clear ho hb hg hat hVb
          refine hK.out _ _ ?h135 (fun hHeld => ?j135)
          case h135 => exact (below_blk FX.out HB.out)
          clear hK K
          try simp only [Act.put, List.setIfInBounds_toArray, List.set_cons_zero, List.set_cons_succ]
          refine tk 7 ?v136 ?y136 ?r136
          case y136 => intro w_ hSw; (try dsimp only at hSw); clear hSw; go_simp; (try (with_reducible rfl))
          try simp only [Act.put, List.setIfInBounds_toArray, List.set_cons_zero, List.set_cons_succ]
          generalize hgG : V5.heap.size = gG
          generalize hgF : Vs.heap.size = gF
          exact HKK.out gG GB Gd gF B2 d2 V6 ⟨HB.out, G.out, hHeld⟩
    case hk =>
     clear hHeld HBj
     intro gG GB Gd gF B2 d2 V ⟨hB, hG, hHeld⟩
     clear join
     replace F0 := Aside0.mk (below_blk F0.out hB)
     replace F2 := Aside0.mk (below_blk F2.out hB)
     replace FX := Aside0.mk (below_blk FX.out hB)
     replace HS := Aside0.mk (Kd.R_below HS.out hB)
     replace E := Aside0.mk (Kd.R_below E.out hB)
     replace T := Aside0.mk (Kd.R_below T.out hB)
     have G := Aside0.mk hG
     clear hG
     have HB := Aside0.mk (bel_then HBo.out hB)
     have HL := Aside0.mk (Nat.le_trans HLo.out hB.size)
     clear HBo HLo hB
     refine rdy (rs := [8]) ?_
     refine rc (fun K hK => ?k137) AllReadyH.nil
     case k137 =>
      have zF0 := blk_lt F0.out
      have cF0_0 : V.cell? ⟨w.heap.size, 0, none⟩ = some (.int .i64 (s.f0 + 1)) := clq F0.out 0 rfl
      have dF0_0 := fzq F0.out 0
      have cF0_1 : V.cell? ⟨w.heap.size, 1, none⟩ = some (.slice A0 s.f1.length c0) := clq F0.out 1 rfl
      have dF0_1 := fzq F0.out 1
      go_simp
      generalize hWV8 : World.setCell (V) _ _ = V8
      have ltF0 := blk_lt F0.out
      have ltF2 := blk_lt F2.out
      have ltFX := blk_lt FX.out
      have ltb := HB.out.size
      have ltl := HL.out
      have TT : ∀ k, k < V.heap.size → k ≠ w.heap.size → V8.heap[k]? = V.heap[k]? := fun k hk n_F0 => by rw [← hWV8]; (with_reducible repeat (first | rfl | refine hp_set ?_ ?_ | refine hp_alloc ?_ ?_ | refine hp_drew ?_)); all_goals (first | (with_reducible rfl) | omega | (dsimp only; omega) | (simp; omega))
      have TS : V.heap.size + 0 ≤ V8.heap.size := by rw [← hWV8]; simp
      have nF0 : V8.heap[w.heap.size]? = some (.cells #[.int .i64 (s.f0 + 1), .slice B2 (s.f1 ++ [(⟨s.f0 + 1, m.f0, rs, m.f2⟩ : SItem)]).length d2] 43 (0, 0)) := by rw [← hWV8]; have h := blk_set1 (F0.out) 1 (.slice B2 (s.f1 ++ [(⟨s.f0 + 1, m.f0, rs, m.f2⟩ : SItem)]).length d2); simpa using h
      have nF2 : V8.heap[w.heap.size + 2]? = some (.cells #[.int .i64 0, .slice none 0 0] 43 (0, 0)) := (TT _ ltF2 (by omega)).trans F2.out
      have nFX : V8.heap[gx]? = some (.cells #[.int .i64 (s.f0 + 1), .string m.f0.f0, .string m.f0.f1, .slice TB rs.length Td, .slice EB m.f2.length Ed] 28 (0, 0)) := (TT _ ltFX (by omega)).trans FX.out
      have nHS : Kd.R kItem 28 V8 b (fun k => k < w.heap.size) (.slice A0 s.f1.length c0) s.f1 := Kd.R_step HS.out (fun k hk hlt => TT k hlt (by have h_ : k < w.heap.size := hk; omega))
      have nE : Kd.R Kd.string 9 V8 w.heap.size (fun _ => True) (.slice EB m.f2.length Ed) m.f2 := R_keepT E.out rfl (fun k hk ho => TT k hk (fun e => Kd.R_ne E.out F0.out (by decide) (e ▸ ho)))
      have nT : Kd.R kRcpt 55 V8 w.heap.size (fun _ => True) (.slice TB rs.length Td) rs := R_keepT T.out rfl (fun k hk ho => TT k hk (fun e => Kd.R_ne T.out F0.out (by decide) (e ▸ ho)))
      have nG : Kd.R kItem 28 V8 b (fun _ => True) (.slice B2 (s.f1 ++ [(⟨s.f0 + 1, m.f0, rs, m.f2⟩ : SItem)]).length d2) (s.f1 ++ [(⟨s.f0 + 1, m.f0, rs, m.f2⟩ : SItem)]) := Kd.R_mono (Kd.R_step (Kd.R_types (G.out) F0.out (by decide)) (fun k hk hlt => TT k hlt (hk.2))) (fun _ hk => hk.1)
      have nHB : Below w.heap.size w V8 := by rw [← hWV8]; exact bel_set (HB.out) _ (by show w.heap.size ≤ w.heap.size; first | omega | (simp; omega))
      clear zF0 cF0_0 dF0_0 cF0_1 dF0_1
      clear hWV8 F0 F2 FX HB HS E T G
      have F0 := Aside0.mk nF0
      clear nF0
      have F2 := Aside0.mk nF2
      clear nF2
      have FX := Aside0.mk nFX
      clear nFX
      have HS := Aside0.mk nHS
      clear nHS
      have E := Aside0.mk nE
      clear nE
      have T := Aside0.mk nT
      clear nT
      have G := Aside0.mk nG
      clear nG
      have HB := Aside0.mk nHB
      clear nHB
      replace HL := Aside0.mk (Nat.le_trans HL.out (by omega : V.heap.size ≤ V8.heap.size))
      clear TT TS ltF0 ltF2 ltFX ltb ltl
      refine hK.out _ _ ?h138 (fun hHeld => ?j138)
      case h138 => exact FX.out
      clear hK K hHeld
      try simp only [Act.put, List.setIfInBounds_toArray, List.set_cons_zero, List.set_cons_succ]
      refine wpAnyH_done (by kernel_rfl) ?_ _
      have zF0 := blk_lt F0.out
      have cF0_0 : V8.cell? ⟨w.heap.size, 0, none⟩ = some (.int .i64 (s.f0 + 1)) := clq F0.out 0 rfl
      have cF0_1 : V8.cell? ⟨w.heap.size, 1, none⟩ = some (.slice B2 (s.f1 ++ [(⟨s.f0 + 1, m.f0, rs, m.f2⟩ : SItem)]).length d2) := clq F0.out 1 rfl
      have zF2 := blk_lt F2.out
      have cF2_0 : V8.cell? ⟨w.heap.size + 2, 0, none⟩ = some (.int .i64 0) := clq F2.out 0 rfl
      have dF2_0 := fzq F2.out 0
      have cF2_1 : V8.cell? ⟨w.heap.size + 2, 1, none⟩ = some (.slice none 0 0) := clq F2.out 1 rfl
      have dF2_1 := fzq F2.out 1
      go_wp2
      refine bodyPost_ret (v := .agg #[.int .i64 (s.f0 + 1), .slice B2 (s.f1 ++ [(⟨s.f0 + 1, m.f0, rs, m.f2⟩ : SItem)]).length d2]) ?hr rfl ?hp
      case hr => simp [results, Tryd.results87, go_sem, zF0, cF0_0, cF0_1, zF2, cF2_0, dF2_0, cF2_1, dF2_1]
      case hp =>
       have hN : newItem s m now = (⟨s.f0 + 1, m.f0, rs, m.f2⟩ : SItem) := by unfold newItem; rw [HRS.out]
       rw [hN]
       exact ⟨B2, d2, rfl, R_other G.out F2.out (by decide) ((grown_set1 _ _ _ _).trans (grown_set1 _ _ _ _)), by (with_reducible repeat (first | exact HB.out | refine bel_set ?_ _ ?_)); all_goals ((try dsimp only); omega)⟩

end Go.Proofs.YtiaibgkpohmihaaDoor
