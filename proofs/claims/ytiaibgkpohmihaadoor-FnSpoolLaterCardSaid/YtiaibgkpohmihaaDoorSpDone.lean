/- SpoolDone of the program: a contract. -/
import Derived.Test.YtiaibgkpohmihaaDoorReg
import Derived.Test.YtiaibgkpohmihaaDoorSpA
import Derived.Test.YtiaibgkpohmihaaDoorCpDone
import Derived.Test.YtiaibgkpohmihaaDoorSpoolM
import Derived.IntWalk
namespace Go.Proofs.YtiaibgkpohmihaaDoor
open Go.RowKit Go.Proofs.YtiaibgkpohmihaaDoorW.PrintWords
set_option linter.unusedVariables false
set_option linter.unusedSimpArgs false

theorem lent_at {α : Type} {d : Kd α} {e base g n cap : Nat} {ok oki : Nat → Prop} {W : World} {xs : List α} {i : Int} {c : List Value} (h : Kd.H d e W base ok (.slice (some ⟨g, 0, none⟩) n cap) xs i oki c) (h0 : 0 ≤ i) (h1 : i < n) :
  (∀ j u, c[j]? = some u → W.cell? ⟨g, i.toNat * d.sz + j, none⟩ = some u) ∧ ∀ j, W.frozen? ⟨g, i.toNat * d.sz + j, none⟩ = false := by
 obtain ⟨_, _, hr, _, _, hc, _⟩ := Kd.H_raw h h0 h1
 obtain ⟨_, _, _, _, hf⟩ := Kd.R_elem hr [] i h0 h1
 exact ⟨hc, hf⟩
theorem lent_seg {α : Type} {d : Kd α} {e base g n cap : Nat} {ok oki okp : Nat → Prop} {W : World} {xs : List α} {i : Int} {c : List Value} (h : Kd.H d e W base ok (.slice (some ⟨g, 0, none⟩) n cap) xs i oki c) (h0 : 0 ≤ i) (h1 : i < n) {seg : List Value} {j : Nat} (hj : j + seg.length ≤ d.sz)
  {x' : α} (hM : d.M W base okp x' (c.take j ++ seg ++ c.drop (j + seg.length))) (hk : ∀ k, okp k → oki k) :
  Kd.S d e (W.setCells g (i.toNat * d.sz + j) seg) base ok (.slice (some ⟨g, 0, none⟩) n cap) (xs.set i.toNat x') ∧ W.grownBy (W.setCells g (i.toNat * d.sz + j) seg) (some g) :=
 Kd.S_seg (okg := fun _ => False) (Kd.H_mono h (fun _ hq => ⟨hq, fun q => q⟩)) h0 h1 hj hM (fun k hq => .inl (hk k hq)) (fun _ q => q.elim)
def spPost (b : Nat) (x : SSpool) (q : Bool) (w : World) (e : Ending) (w' : World) : Prop := ∃ B d, e = .returned (.tuple #[.agg #[.int .i64 x.f0, .slice B x.f1.length d], .bool q]) ∧ Kd.R kItem 28 w' b (fun _ => True) (.slice B x.f1.length d) x.f1 ∧ Below w.heap.size w w'
def DoneR (s : SSpool) (id : Int) (a : SAddr) (x : SSpool) (q : Bool) : Prop :=
 (spoolOk s = false ∧ x = ⟨0, []⟩ ∧ q = false) ∨ (spoolOk s = true ∧ ∃ i k, FindPost id a s.f1 i k q ∧ (q = false → x = s) ∧ (q = true → x = ⟨s.f0, doneL s.f1 i.toNat k.toNat⟩))
theorem done_ex (s : SSpool) (id : Int) (a : SAddr) : ∃ x q, DoneR s id a x q := by
 cases h : spoolOk s with
 | false => exact ⟨_, _, .inl ⟨h, rfl, rfl⟩⟩
 | true =>
  obtain ⟨i, k, q, hf⟩ := find_ex id a s.f1
  cases q with
  | false => exact ⟨s, false, .inr ⟨h, i, k, hf, fun _ => rfl, fun h => (by cases h)⟩⟩
  | true => exact ⟨_, true, .inr ⟨h, i, k, hf, fun h => (by cases h), fun _ => rfl⟩⟩
theorem find_true {id : Int} {a : SAddr} {xs : List SItem} {i k : Int} (h : FindPost id a xs i k true) : ∃ n m : Nat, i = (n : Int) ∧ n < xs.length ∧ k = (m : Int) ∧ m < (xs.getD n zItem).f2.length ∧ itemAt id xs = (n : Int) ∧ rcptAt a (xs.getD n zItem).f2 = (m : Int) := by
 rcases h with ⟨_, _, _, h⟩ | ⟨n, h1, h2, h3, h4, h5⟩
 ·cases h
 ·have h6 : k ≥ 0 := of_decide_eq_true h5.symm
  rcases idx_nat (fun r : SRcpt => sameA r.f0 a) (xs.getD n zItem).f2 with h7 | ⟨m, h7, h8⟩
  ·have : k = -1 := h4.trans h7
   omega
  ·exact ⟨n, m, h3, h2, h4.trans h7, h8, h1, h7⟩
theorem done_set {xs : List SItem} {n m : Nat} {y : SItem} (hy : xs.getD n zItem = y) (hn : n < xs.length) (hm : m < y.f2.length) (h2 : 0 < y.f2.length - 1) : doneL xs n m = xs.set n ⟨y.f0, y.f1, y.f2.eraseIdx m, y.f3⟩ := by
 unfold doneL
 rw [hy]
 have e : dropK y m = ⟨y.f0, y.f1, y.f2.eraseIdx m, y.f3⟩ := by unfold dropK; rw [List.eraseIdx_eq_take_drop_succ]
 rw [e, if_pos (by show 0 < (y.f2.eraseIdx m).length; rw [List.length_eraseIdx_of_lt hm]; exact h2), List.set_eq_take_append_cons_drop, if_pos hn, List.append_assoc]
 rfl
theorem done_erase {xs : List SItem} {n m : Nat} {y z : SItem} (hy : xs.getD n zItem = y) (hn : n < xs.length) (hm : m < y.f2.length) (h2 : 0 = y.f2.length - 1) : doneL xs n m = (xs.set n z).eraseIdx n := by
 unfold doneL
 rw [hy]
 have e : dropK y m = ⟨y.f0, y.f1, y.f2.eraseIdx m, y.f3⟩ := by unfold dropK; rw [List.eraseIdx_eq_take_drop_succ]
 rw [e, if_neg (by show ¬ 0 < (y.f2.eraseIdx m).length; rw [List.length_eraseIdx_of_lt hm]; omega), List.append_nil, List.eraseIdx_eq_take_drop_succ, List.take_set_of_le (Nat.le_refl _), List.drop_set_of_lt (Nat.lt_succ_self _)]

set_option maxRecDepth 100000 in
set_option maxHeartbeats 4000000 in
theorem spoolDone_any (s : SSpool) (id : Int) (a : SAddr) (x : SSpool) (q : Bool) (A0 : Option Addr) (c0 : Nat) (w : World) (hw : fitSpool s) (hr0 : Kd.C kItem w A0 s.f1.length s.f1) (hG : Glob w) (hd : DoneR s id a x q) :
  Calls Tryd.prog 14 #[.agg #[.int .i64 s.f0, .slice A0 s.f1.length c0], .int .i64 id, .agg #[.string a.f0, .string a.f1]] w (spPost w.heap.size x q w) := by
 have hok := fun W (hW : Below w.heap.size w W) => spoolOk_any s A0 c0 W hw (Kd.C_below hr0 hW) (hG.below hW)
 have hcp := fun W (hW : Below w.heap.size w W) => spoolCopied_any s A0 c0 W hw (Kd.C_below hr0 hW)
 obtain ⟨hw0, hlen, hx⟩ := hw
 have HX := Lib.hid hx
 unfold DoneR at hd
 generalize spoolOk s = q1 at hok hd
 have HD := Lib.hid hd
 clear hx hd hG hr0
 go_enter Tryd.func14, Tryd.ntmps14
 go_wp2_with fail
 obtain ⟨W0, hW0⟩ : ∃ W, W = (((w.alloc (.cells #[.int .i64 s.f0, .slice A0 s.f1.length c0] 43)).alloc (.cells #[.string a.f0, .string a.f1] 24)).alloc (.cells #[.int .i64 0, .slice none 0 0] 43)) := ⟨_, rfl⟩
 rw [← hW0]
 have HB : Aside0 (Below w.heap.size w W0) := ⟨by rw [hW0]; exact (bel_alloc (bel_alloc (bel_alloc (Below.refl _ _) _) _) _)⟩
 have F0 : Aside0 (W0.heap[w.heap.size]? = some (.cells #[.int .i64 s.f0, .slice A0 s.f1.length c0] 43 (0, 0))) := ⟨by rw [hW0]; exact blk_alloc (blk_alloc (blk_at _ _ (by first | rfl | (simp; done))) _) _⟩
 have FA : Aside0 (W0.heap[w.heap.size + 1]? = some (.cells #[.string a.f0, .string a.f1] 24 (0, 0))) := ⟨by rw [hW0]; exact blk_alloc (blk_at _ _ (by simp)) _⟩
 have FR : Aside0 (W0.heap[w.heap.size + 2]? = some (.cells #[.int .i64 0, .slice none 0 0] 43 (0, 0))) := ⟨by rw [hW0]; exact blk_at _ _ (by simp)⟩
 have HL : Aside0 (w.heap.size + 3 ≤ W0.heap.size) := ⟨by rw [hW0]; simp⟩
 clear hW0
 refine Calls.mono (hok _ HB.out) ?_
 rintro e w1 ⟨rfl, bw1⟩
 replace F0 := Aside0.mk (below_blk F0.out bw1)
 replace FA := Aside0.mk (below_blk FA.out bw1)
 replace FR := Aside0.mk (below_blk FR.out bw1)
 replace HB := Aside0.mk (bel_then HB.out bw1)
 replace HL := Aside0.mk (Nat.le_trans HL.out bw1.size)
 clear bw1
 clear hok
 rcases HD.out with ⟨hq, hx0, hq2⟩ | ⟨hq, i, k, hf, h0, h1⟩
 ·subst hq
  subst hx0
  subst hq2
  clear hcp HX HD
  have zF0 := blk_lt F0.out
  have cF0_0 : w1.cell? ⟨w.heap.size, 0, none⟩ = some (.int .i64 s.f0) := clq F0.out 0 rfl
  have cF0_1 : w1.cell? ⟨w.heap.size, 1, none⟩ = some (.slice A0 s.f1.length c0) := clq F0.out 1 rfl
  have zFR := blk_lt FR.out
  have cFR_0 : w1.cell? ⟨w.heap.size + 2, 0, none⟩ = some (.int .i64 0) := clq FR.out 0 rfl
  have dFR_0 := fzq FR.out 0
  have cFR_1 : w1.cell? ⟨w.heap.size + 2, 1, none⟩ = some (.slice none 0 0) := clq FR.out 1 rfl
  have dFR_1 := fzq FR.out 1
  go_wp2
  refine bodyPost_ret (v := .tuple #[.agg #[.int .i64 0, .slice none 0 0], .bool false]) ?hrA rfl ?hpA
  case hrA => simp [results, Tryd.results14, go_sem, zF0, cF0_0, cF0_1, zFR, cFR_0, dFR_0, cFR_1, dFR_1]
  case hpA =>
   exact ⟨none, 0, rfl, Kd.R_nil _ _ _ _ _, by (with_reducible repeat (first | exact HB.out | refine bel_set ?_ _ ?_)); all_goals ((try dsimp only); omega)⟩
 ·subst hq
  have HF := Lib.hid hf
  have H0 := Lib.hid h0
  have H1 := Lib.hid h1
  clear hf h0 h1 HD
  have zF0 := blk_lt F0.out
  have cF0_0 : w1.cell? ⟨w.heap.size, 0, none⟩ = some (.int .i64 s.f0) := clq F0.out 0 rfl
  have cF0_1 : w1.cell? ⟨w.heap.size, 1, none⟩ = some (.slice A0 s.f1.length c0) := clq F0.out 1 rfl
  go_wp2_with fail
  refine Calls.mono (hcp _ HB.out) ?_
  rintro e w2 ⟨B, d, rfl, rHO, bw2⟩
  clear zF0 cF0_0 cF0_1
  replace F0 := Aside0.mk (below_blk F0.out bw2)
  replace FA := Aside0.mk (below_blk FA.out bw2)
  replace FR := Aside0.mk (below_blk FR.out bw2)
  have HO : Aside0 (Kd.S kItem 28 w2 w.heap.size (fun _ => True) (.slice B s.f1.length d) s.f1) := ⟨Kd.S_lower (base' := w.heap.size) rHO HB.out.size⟩
  clear rHO
  replace HB := Aside0.mk (bel_then HB.out bw2)
  replace HL := Aside0.mk (Nat.le_trans HL.out bw2.size)
  clear bw2
  clear hcp
  have zFA := blk_lt FA.out
  have cFA_0 : w2.cell? ⟨w.heap.size + 1, 0, none⟩ = some (.string a.f0) := clq FA.out 0 rfl
  have cFA_1 : w2.cell? ⟨w.heap.size + 1, 1, none⟩ = some (.string a.f1) := clq FA.out 1 rfl
  go_wp2_with fail
  generalize hWw3 : World.alloc (w2) _ = w3
  have ltF0 := blk_lt F0.out
  have ltFA := blk_lt FA.out
  have ltFR := blk_lt FR.out
  have ltb := HB.out.size
  have ltl := HL.out
  have TT : ∀ k, k < w2.heap.size → w3.heap[k]? = w2.heap[k]? := fun k hk => by rw [← hWw3]; (with_reducible repeat (first | rfl | refine hp_set ?_ ?_ | refine hp_alloc ?_ ?_ | refine hp_drew ?_)); all_goals (first | (with_reducible rfl) | omega | (dsimp only; omega) | (simp; omega))
  have TS : w2.heap.size + 1 ≤ w3.heap.size := by rw [← hWw3]; simp
  have nF0 : w3.heap[w.heap.size]? = some (.cells #[.int .i64 s.f0, .slice A0 s.f1.length c0] 43 (0, 0)) := (TT _ ltF0).trans F0.out
  have nFA : w3.heap[w.heap.size + 1]? = some (.cells #[.string a.f0, .string a.f1] 24 (0, 0)) := (TT _ ltFA).trans FA.out
  have nFR : w3.heap[w.heap.size + 2]? = some (.cells #[.int .i64 0, .slice none 0 0] 43 (0, 0)) := (TT _ ltFR).trans FR.out
  have nFO : w3.heap[w2.heap.size]? = some (.cells #[.int .i64 s.f0, .slice B s.f1.length d] 43 (0, 0)) := by rw [← hWw3]; exact blk_new w2 (.cells #[.int .i64 s.f0, .slice B s.f1.length d] 43)
  have nHO : Kd.S kItem 28 w3 w.heap.size (fun _ => True) (.slice B s.f1.length d) s.f1 := Kd.S_mono (Kd.S_step (HO.out) (fun k hk hlt => TT k hlt)) (fun _ hk => hk)
  have nHB : Below w.heap.size w w3 := by rw [← hWw3]; exact bel_alloc (HB.out) _
  clear zFA cFA_0 cFA_1
  clear hWw3 F0 FA FR HB HO
  have F0 := Aside0.mk nF0
  clear nF0
  have FA := Aside0.mk nFA
  clear nFA
  have FR := Aside0.mk nFR
  clear nFR
  have FO := Aside0.mk nFO
  clear nFO
  have HO := Aside0.mk nHO
  clear nHO
  have HB := Aside0.mk nHB
  clear nHB
  have oFO_ltF0 := ltF0
  have oFO_ltFA := ltFA
  have oFO_ltFR := ltFR
  have oFO_ltl := ltl
  have oFO_ts := TS
  replace HL := Aside0.mk (Nat.le_trans HL.out (by omega : w2.heap.size ≤ w3.heap.size))
  clear TT TS ltF0 ltFA ltFR ltb ltl
  refine Calls.mono (spoolFind_any s.f0 s.f1 id a i k q B d _ (Kd.R_reads' (Kd.S_R HO.out)).2.2 hlen HX.out HF.out) ?_
  rintro e w4 ⟨rfl, bw4⟩
  replace F0 := Aside0.mk (below_blk F0.out bw4)
  replace FA := Aside0.mk (below_blk FA.out bw4)
  replace FR := Aside0.mk (below_blk FR.out bw4)
  replace FO := Aside0.mk (below_blk FO.out bw4)
  replace HO := Aside0.mk (Kd.S_below HO.out bw4)
  replace HB := Aside0.mk (bel_then HB.out bw4)
  replace HL := Aside0.mk (Nat.le_trans HL.out bw4.size)
  clear bw4
  cases q
  ·have hxs := H0.out rfl
   have HXS := Lib.hid hxs
   clear hxs HF H0 H1 HX
   have zFO := blk_lt FO.out
   have cFO_0 : w4.cell? ⟨w2.heap.size, 0, none⟩ = some (.int .i64 s.f0) := clq FO.out 0 rfl
   have cFO_1 : w4.cell? ⟨w2.heap.size, 1, none⟩ = some (.slice B s.f1.length d) := clq FO.out 1 rfl
   have zFR := blk_lt FR.out
   have cFR_0 : w4.cell? ⟨w.heap.size + 2, 0, none⟩ = some (.int .i64 0) := clq FR.out 0 rfl
   have dFR_0 := fzq FR.out 0
   have cFR_1 : w4.cell? ⟨w.heap.size + 2, 1, none⟩ = some (.slice none 0 0) := clq FR.out 1 rfl
   have dFR_1 := fzq FR.out 1
   go_wp2
   refine bodyPost_ret (v := .tuple #[.agg #[.int .i64 s.f0, .slice B s.f1.length d], .bool false]) ?hrB rfl ?hpB
   case hrB => simp [results, Tryd.results14, go_sem, zFO, cFO_0, cFO_1, zFR, cFR_0, dFR_0, cFR_1, dFR_1]
   case hpB =>
    show spPost _ x false _ _ _
    rw [HXS.out]
    exact ⟨B, d, rfl, R_other (Kd.S_R HO.out) FR.out (by decide) ((grown_set1 _ _ _ _).trans (grown_set1 _ _ _ _)), by (with_reducible repeat (first | exact HB.out | refine bel_set ?_ _ ?_)); all_goals ((try dsimp only); omega)⟩
  ·obtain ⟨n, m, rfl, hn, rfl, hm, -, -⟩ := find_true HF.out
   have hxx := H1.out rfl
   simp only [Int.toNat_natCast] at hxx
   subst hxx
   clear HF H0 H1
   have hfy := HX.out (s.f1.getD n zItem) (getD_mem _ _ hn)
   have hY0 : s.f1.getD n zItem = s.f1.getD n zItem := rfl
   generalize hy : s.f1.getD n zItem = y at hm hfy hY0
   clear hY0
   have HY := Lib.hid hy
   have hyl := hfy.2.2.1.1
   clear hy hfy HX
   have hn' : (n : Int) < (s.f1.length : Int) := by omega
   have hm' : (m : Int) < (y.f2.length : Int) := by omega
   obtain ⟨gb, hgb, hgb1, hgb2⟩ := own_form2 (Kd.S_R HO.out) (by omega)
   subst hgb
   have neF0 : ¬ gb = w.heap.size := fun e => Kd.R_ne (Kd.S_R HO.out) F0.out (by decide) (by rw [e]; rfl)
   have neFA : ¬ gb = w.heap.size + 1 := fun e => Kd.R_ne (Kd.S_R HO.out) FA.out (by decide) (by rw [e]; rfl)
   have neFR : ¬ gb = w.heap.size + 2 := fun e => Kd.R_ne (Kd.S_R HO.out) FR.out (by decide) (by rw [e]; rfl)
   have neFO : ¬ gb = w2.heap.size := fun e => Kd.R_ne (Kd.S_R HO.out) FO.out (by decide) (by rw [e]; rfl)
   have hwm : IntKind.i64.wrap ((m : Int) + 1) = (m : Int) + 1 := IntWalk.i64_in _ (by omega)
   have hwn : IntKind.i64.wrap ((n : Int) + 1) = (n : Int) + 1 := IntWalk.i64_in _ (by omega)
   have zFO := blk_lt FO.out
   have cFO_0 : w4.cell? ⟨w2.heap.size, 0, none⟩ = some (.int .i64 s.f0) := clq FO.out 0 rfl
   have cFO_1 : w4.cell? ⟨w2.heap.size, 1, none⟩ = some (.slice (some ⟨gb, 0, none⟩) s.f1.length d) := clq FO.out 1 rfl
   go_wp2_with fail
   have HS45 : Aside0 (∀ W : World, (W.heap[w2.heap.size]? = some (.cells #[.int .i64 s.f0, .slice (some ⟨gb, 0, none⟩) s.f1.length d] 43 (0, 0))) → W.cell? ⟨w2.heap.size, 0, none⟩ = some (.int .i64 s.f0) ∧ W.cell? ⟨w2.heap.size, 1, none⟩ = some (.slice (some ⟨gb, 0, none⟩) s.f1.length d)) := ⟨fun W h => ⟨(by have h_ := h; simp [World.cell?, h_]), (by have h_ := h; simp [World.cell?, h_])⟩⟩
   refine wp_region_held_drew (S := fun (W : World) => W.heap[w2.heap.size]? = some (.cells #[.int .i64 s.f0, .slice (some ⟨gb, 0, none⟩) s.f1.length d] 43 (0, 0))) (by kernel_rfl) ?s46 (fun hHeld => ?t46)
   case s46 => exact (show (fun (W : World) => W.heap[w2.heap.size]? = some (.cells #[.int .i64 s.f0, .slice (some ⟨gb, 0, none⟩) s.f1.length d] 43 (0, 0))) (World.drew w4) from FO.out)
   generalize hWVs : World.drew (w4) = Vs at hHeld ⊢
   have ltF0 := blk_lt F0.out
   have ltFA := blk_lt FA.out
   have ltFR := blk_lt FR.out
   have ltFO := blk_lt FO.out
   have ltb := HB.out.size
   have ltl := HL.out
   have TT : ∀ k, k < w4.heap.size → Vs.heap[k]? = w4.heap[k]? := fun k hk => by rw [← hWVs]; (with_reducible repeat (first | rfl | refine hp_set ?_ ?_ | refine hp_alloc ?_ ?_ | refine hp_drew ?_)); all_goals (first | (with_reducible rfl) | omega | (dsimp only; omega) | (simp; omega))
   have TS : w4.heap.size + 0 ≤ Vs.heap.size := by rw [← hWVs]; simp
   have nF0 : Vs.heap[w.heap.size]? = some (.cells #[.int .i64 s.f0, .slice A0 s.f1.length c0] 43 (0, 0)) := (TT _ ltF0).trans F0.out
   have nFA : Vs.heap[w.heap.size + 1]? = some (.cells #[.string a.f0, .string a.f1] 24 (0, 0)) := (TT _ ltFA).trans FA.out
   have nFR : Vs.heap[w.heap.size + 2]? = some (.cells #[.int .i64 0, .slice none 0 0] 43 (0, 0)) := (TT _ ltFR).trans FR.out
   have nFO : Vs.heap[w2.heap.size]? = some (.cells #[.int .i64 s.f0, .slice (some ⟨gb, 0, none⟩) s.f1.length d] 43 (0, 0)) := (TT _ ltFO).trans FO.out
   have nHO : Kd.S kItem 28 Vs w.heap.size (fun _ => True) (.slice (some ⟨gb, 0, none⟩) s.f1.length d) s.f1 := Kd.S_mono (Kd.S_step (HO.out) (fun k hk hlt => TT k hlt)) (fun _ hk => hk)
   have nHB : Below w.heap.size w Vs := by rw [← hWVs]; exact bel_then (HB.out) (drew_below0 _)
   clear zFO cFO_0 cFO_1
   clear hWVs F0 FA FR FO HB HO
   have F0 := Aside0.mk nF0
   clear nF0
   have FA := Aside0.mk nFA
   clear nFA
   have FR := Aside0.mk nFR
   clear nFR
   have FO := Aside0.mk nFO
   clear nFO
   have HO := Aside0.mk nHO
   clear nHO
   have HB := Aside0.mk nHB
   clear nHB
   replace HL := Aside0.mk (Nat.le_trans HL.out (by omega : w4.heap.size ≤ Vs.heap.size))
   clear TT TS ltF0 ltFA ltFR ltFO ltb ltl
   refine tk 0 ?v47 ?y47 ?r47
   case y47 => intro w_ hSw; (try dsimp only at hSw); clear hSw; go_simp; (try (with_reducible rfl))
   try simp only [Act.put, List.setIfInBounds_toArray, List.set_cons_zero, List.set_cons_succ]
   refine tk 1 ?v48 ?y48 ?r48
   case y48 => intro w_ hSw; obtain ⟨e_0, e_1⟩ := HS45.out w_ hSw; clear hSw; go_simp; (try (with_reducible rfl))
   try simp only [Act.put, List.setIfInBounds_toArray, List.set_cons_zero, List.set_cons_succ]
   refine tk 2 ?v49 ?y49 ?r49
   case y49 => intro w_ hSw; (try dsimp only at hSw); clear hSw; go_simp; (try (with_reducible rfl))
   try simp only [Act.put, List.setIfInBounds_toArray, List.set_cons_zero, List.set_cons_succ]
   refine tk 3 ?v50 ?y50 ?r50
   case y50 => intro w_ hSw; (try dsimp only at hSw); clear hSw; go_simp; (try (with_reducible rfl))
   try simp only [Act.put, List.setIfInBounds_toArray, List.set_cons_zero, List.set_cons_succ]
   refine tk 4 ?v51 ?y51 ?r51
   case y51 => intro w_ hSw; obtain ⟨e_0, e_1⟩ := HS45.out w_ hSw; clear hSw; go_simp; (try (with_reducible rfl))
   try simp only [Act.put, List.setIfInBounds_toArray, List.set_cons_zero, List.set_cons_succ]
   refine tk 5 ?v52 ?y52 ?r52
   case y52 => intro w_ hSw; (try dsimp only at hSw); clear hSw; go_simp; (try (with_reducible rfl))
   try simp only [Act.put, List.setIfInBounds_toArray, List.set_cons_zero, List.set_cons_succ]
   refine tk 6 ?v53 ?y53 ?r53
   case y53 => intro w_ hSw; (try dsimp only at hSw); clear hSw; go_simp; (try (with_reducible rfl))
   try simp only [Act.put, List.setIfInBounds_toArray, List.set_cons_zero, List.set_cons_succ]
   refine tk 7 ?v54 ?y54 ?r54
   case y54 => intro w_ hSw; (try dsimp only at hSw); clear hSw; go_simp; (try (with_reducible rfl))
   try simp only [Act.put, List.setIfInBounds_toArray, List.set_cons_zero, List.set_cons_succ]
   refine tk 9 ?v55 ?y55 ?r55
   case y55 => intro w_ hSw; (try dsimp only at hSw); clear hSw; go_simp; (try (with_reducible rfl))
   try simp only [Act.put, List.setIfInBounds_toArray, List.set_cons_zero, List.set_cons_succ]
   refine tk 10 ?v56 ?y56 ?r56
   case y56 => intro w_ hSw; (try dsimp only at hSw); clear hSw; go_simp; (try (with_reducible rfl))
   try simp only [Act.put, List.setIfInBounds_toArray, List.set_cons_zero, List.set_cons_succ]
   refine tk 11 ?v57 ?y57 ?r57
   case y57 => intro w_ hSw; (try dsimp only at hSw); clear hSw; go_simp; (try (with_reducible rfl))
   try simp only [Act.put, List.setIfInBounds_toArray, List.set_cons_zero, List.set_cons_succ]
   refine rdy (rs := [8]) ?_
   refine rc (fun K hK => ?k58) AllReadyH.nil
   case k58 =>
    obtain ⟨oki, ci, hcl, hiM, hic, hoki, hH⟩ := Kd.S_lend HO.out zItem (n : Int) (by omega) (by omega)
    rw [Int.toNat_natCast] at hiM hic
    rw [HY.out] at hiM
    obtain ⟨v0, v1, rfl, u0, u1⟩ := kItem_openM hiM
    simp only [show kItem.sz = 5 from rfl] at hic
    obtain ⟨Ua, du, hv⟩ := Kd.R_slice u0
    subst hv
    obtain ⟨gu, hgu, hgu1, hgu2⟩ := own_form2 u0 (by omega)
    subst hgu
    have i3_ : Vs.cell? ⟨gb, n * 5 + 3, none⟩ = some (.slice (some ⟨gu, 0, none⟩) y.f2.length du) := hic 3 _ rfl
    have HH := Aside0.mk hH
    have U0 := Aside0.mk u0
    have U1 := Aside0.mk u1
    clear hH u0 u1 hic hiM hcl HO
    go_simp
    refine hK.out _ _ ?h59 (fun hHeld => ?j59)
    case h59 => exact hHeld
    clear hK K
    try simp only [Act.put, List.setIfInBounds_toArray, List.set_cons_zero, List.set_cons_succ]
    refine rdy (rs := [12]) ?_
    refine rc (fun K hK => ?k60) AllReadyH.nil
    case k60 =>
     go_simp
     refine Calls.mono (deleteRcpt_any w.heap.size gu du m oki y.f2 Vs HB.out.size U0.out hm hyl) ?_
     rintro e V12 ⟨rfl, u0, hg⟩
     clear i3_
     obtain ⟨ln, eln⟩ : ∃ l, l = y.f2.length - 1 := ⟨_, rfl⟩
     rw [← eln] at u0 ⊢
     have HLN := Lib.hid eln
     clear eln
     have nF0 : V12.heap[w.heap.size]? = some (.cells #[.int .i64 s.f0, .slice A0 s.f1.length c0] 43 (0, 0)) := (hg.block _ (blk_lt F0.out) (Kd.R_ne U0.out F0.out (by decide))).trans F0.out
     have nFA : V12.heap[w.heap.size + 1]? = some (.cells #[.string a.f0, .string a.f1] 24 (0, 0)) := (hg.block _ (blk_lt FA.out) (Kd.R_ne U0.out FA.out (by decide))).trans FA.out
     have nFR : V12.heap[w.heap.size + 2]? = some (.cells #[.int .i64 0, .slice none 0 0] 43 (0, 0)) := (hg.block _ (blk_lt FR.out) (Kd.R_ne U0.out FR.out (by decide))).trans FR.out
     have nFO : V12.heap[w2.heap.size]? = some (.cells #[.int .i64 s.f0, .slice (some ⟨gb, 0, none⟩) s.f1.length d] 43 (0, 0)) := (hg.block _ (blk_lt FO.out) (Kd.R_ne U0.out FO.out (by decide))).trans FO.out
     have nHH := Kd.H_grown HH.out hg (fun q_ hq => U0.out.1 q_ hq)
     have nU1 := Kd.R_over' U1.out (Kd.R_typed U0.out) (by decide) hg
     have nHB : Below w.heap.size w V12 := bel_grown HB.out hg HB.out.size (fun q_ hk => by have h2_ : q_ = gu := (Option.some.inj hk).symm; omega)
     have nHL := Aside0.mk (Nat.le_trans HL.out hg.size)
     clear F0 FA FR FO HB HL HH U0 U1
     have F0 := Aside0.mk nF0
     clear nF0
     have FA := Aside0.mk nFA
     clear nFA
     have FR := Aside0.mk nFR
     clear nFR
     have FO := Aside0.mk nFO
     clear nFO
     have HB := Aside0.mk nHB
     clear nHB
     have HH := Aside0.mk nHH
     clear nHH
     have U1 := Aside0.mk nU1
     clear nU1
     have HL := nHL
     have U0 := Aside0.mk u0
     clear nHL u0 hg
     refine hK.out _ _ ?h61 (fun hHeld => ?j61)
     case h61 => exact FO.out
     clear hK K
     try simp only [Act.put, List.setIfInBounds_toArray, List.set_cons_zero, List.set_cons_succ]
     refine tk 13 ?v62 ?y62 ?r62
     case y62 => intro w_ hSw; (try dsimp only at hSw); clear hSw; go_simp; (try (with_reducible rfl))
     try simp only [Act.put, List.setIfInBounds_toArray, List.set_cons_zero, List.set_cons_succ]
     refine tk 14 ?v63 ?y63 ?r63
     case y63 => intro w_ hSw; (try dsimp only at hSw); clear hSw; go_simp; (try (with_reducible rfl))
     try simp only [Act.put, List.setIfInBounds_toArray, List.set_cons_zero, List.set_cons_succ]
     refine rdy (rs := [15]) ?_
     refine rc (fun K hK => ?k64) AllReadyH.nil
     case k64 =>
      obtain ⟨hcc, hfr⟩ := lent_at HH.out (by omega) (by omega)
      rw [Int.toNat_natCast] at hcc hfr
      simp only [show kItem.sz = 5 from rfl] at hcc hfr
      have i3_ : V12.cell? ⟨gb, n * 5 + 3, none⟩ = some (.slice (some ⟨gu, 0, none⟩) y.f2.length du) := hcc 3 _ rfl
      have j3_ : V12.frozen? ⟨gb, n * 5 + 3, none⟩ = false := hfr 3
      clear hcc hfr
      go_simp
      have hs := lent_seg HH.out (by omega) (by omega) (seg := [.slice (some ⟨gu, 0, none⟩) ln du]) (j := 3) (by show 3 + 1 ≤ 5; omega) (x' := (⟨y.f0, y.f1, y.f2.eraseIdx m, y.f3⟩ : SItem)) (okp := oki) (kItem_mkM _ _ _ (⟨y.f0, y.f1, y.f2.eraseIdx m, y.f3⟩ : SItem) U0.out U1.out) (fun _ h => h)
      rw [Int.toNat_natCast] at hs
      simp only [World.setCells, show kItem.sz = 5 from rfl] at hs
      have hc3 := World.cell?_setCell_same V12 ⟨gb, n * 5 + 3, none⟩ (.slice (some ⟨gu, 0, none⟩) ln du) i3_
      generalize hW15 : World.setCell V12 _ _ = V15 at hs hc3 ⊢
      have nF0 : V15.heap[w.heap.size]? = some (.cells #[.int .i64 s.f0, .slice A0 s.f1.length c0] 43 (0, 0)) := by rw [← hW15]; exact blk_far F0.out (p := ⟨gb, n * 5 + 3, none⟩) (by show w.heap.size ≠ gb; omega) _
      have nFA : V15.heap[w.heap.size + 1]? = some (.cells #[.string a.f0, .string a.f1] 24 (0, 0)) := by rw [← hW15]; exact blk_far FA.out (p := ⟨gb, n * 5 + 3, none⟩) (by show w.heap.size + 1 ≠ gb; omega) _
      have nFR : V15.heap[w.heap.size + 2]? = some (.cells #[.int .i64 0, .slice none 0 0] 43 (0, 0)) := by rw [← hW15]; exact blk_far FR.out (p := ⟨gb, n * 5 + 3, none⟩) (by show w.heap.size + 2 ≠ gb; omega) _
      have nFO : V15.heap[w2.heap.size]? = some (.cells #[.int .i64 s.f0, .slice (some ⟨gb, 0, none⟩) s.f1.length d] 43 (0, 0)) := by rw [← hW15]; exact blk_far FO.out (p := ⟨gb, n * 5 + 3, none⟩) (by show w2.heap.size ≠ gb; omega) _
      have nHB : Below w.heap.size w V15 := by rw [← hW15]; exact bel_set HB.out _ (by show w.heap.size ≤ gb; omega)
      have nHL : Aside0 (w.heap.size + 3 ≤ V15.heap.size) := ⟨Nat.le_trans HL.out hs.2.size⟩
      obtain ⟨L, eL⟩ : ∃ L, L = s.f1.set n (⟨y.f0, y.f1, y.f2.eraseIdx m, y.f3⟩ : SItem) := ⟨_, rfl⟩
      rw [← eL] at hs
      have HLL := Lib.hid eL
      have hll : L.length = s.f1.length := by rw [eL, List.length_set]
      have HLE := Lib.hid hll
      have HO := Aside0.mk hs.1
      have HI3 := Aside0.mk hc3
      clear hW15 hs hc3 eL hll i3_ j3_ F0 FA FR FO HB HL HH U0 U1
      have F0 := Aside0.mk nF0
      clear nF0
      have FA := Aside0.mk nFA
      clear nFA
      have FR := Aside0.mk nFR
      clear nFR
      have FO := Aside0.mk nFO
      clear nFO
      have HB := Aside0.mk nHB
      clear nHB
      have HL := nHL
      clear nHL
      refine hK.out _ _ ?h65 (fun hHeld => ?j65)
      case h65 => exact FO.out
      clear hK K
      try simp only [Act.put, List.setIfInBounds_toArray, List.set_cons_zero, List.set_cons_succ]
      refine wpAnyH_done (by kernel_rfl) ?_ _
      have hc3 := HI3.out
      by_cases hz : 0 < ln
      ·have hz1 : ((ln : Int) == 0) = false := by simp; omega
       have hz2 : ¬ (ln : Int) = 0 := by omega
       have zFO := blk_lt FO.out
       have cFO_0 : V15.cell? ⟨w2.heap.size, 0, none⟩ = some (.int .i64 s.f0) := clq FO.out 0 rfl
       have cFO_1 : V15.cell? ⟨w2.heap.size, 1, none⟩ = some (.slice (some ⟨gb, 0, none⟩) s.f1.length d) := clq FO.out 1 rfl
       have zFR := blk_lt FR.out
       have cFR_0 : V15.cell? ⟨w.heap.size + 2, 0, none⟩ = some (.int .i64 0) := clq FR.out 0 rfl
       have dFR_0 := fzq FR.out 0
       have cFR_1 : V15.cell? ⟨w.heap.size + 2, 1, none⟩ = some (.slice none 0 0) := clq FR.out 1 rfl
       have dFR_1 := fzq FR.out 1
       go_wp2
       refine bodyPost_ret (v := .tuple #[.agg #[.int .i64 s.f0, .slice (some ⟨gb, 0, none⟩) s.f1.length d], .bool true]) ?hrC rfl ?hpC
       case hrC => simp [results, Tryd.results14, go_sem, zFO, cFO_0, cFO_1, zFR, cFR_0, dFR_0, cFR_1, dFR_1]
       case hpC =>
        have hN : doneL s.f1 n m = L := by rw [HLL.out]; exact done_set HY.out hn hm (by have := HLN.out; omega)
        have hll := HLE.out
        show spPost _ _ _ _ _ _
        unfold spPost
        dsimp only
        rw [hN, hll]
        exact ⟨some ⟨gb, 0, none⟩, d, rfl, R_other (Kd.S_R HO.out) FR.out (by decide) ((grown_set1 _ _ _ _).trans (grown_set1 _ _ _ _)), by (with_reducible repeat (first | exact HB.out | refine bel_set ?_ _ ?_)); all_goals ((try dsimp only); omega)⟩
      ·obtain rfl : ln = 0 := by omega
       have zFO := blk_lt FO.out
       have cFO_0 : V15.cell? ⟨w2.heap.size, 0, none⟩ = some (.int .i64 s.f0) := clq FO.out 0 rfl
       have cFO_1 : V15.cell? ⟨w2.heap.size, 1, none⟩ = some (.slice (some ⟨gb, 0, none⟩) s.f1.length d) := clq FO.out 1 rfl
       go_wp2_with fail
       have hdi := deleteItem_any w.heap.size gb d n (fun _ => True) L V15 HB.out.size (by have h_ := Kd.S_R HO.out; rw [← HLE.out] at h_; exact h_) (by rw [HLE.out]; exact hn) (by rw [HLE.out]; exact hlen)
       rw [HLE.out] at hdi
       refine Calls.mono hdi ?_
       rintro e w9 ⟨rfl, ho, hg⟩
       clear hdi hc3 HI3
       clear zFO cFO_0 cFO_1
       have nF0 : w9.heap[w.heap.size]? = some (.cells #[.int .i64 s.f0, .slice A0 s.f1.length c0] 43 (0, 0)) := (hg.block _ (blk_lt F0.out) (Kd.R_ne (Kd.S_R HO.out) F0.out (by decide))).trans F0.out
       have nFA : w9.heap[w.heap.size + 1]? = some (.cells #[.string a.f0, .string a.f1] 24 (0, 0)) := (hg.block _ (blk_lt FA.out) (Kd.R_ne (Kd.S_R HO.out) FA.out (by decide))).trans FA.out
       have nFR : w9.heap[w.heap.size + 2]? = some (.cells #[.int .i64 0, .slice none 0 0] 43 (0, 0)) := (hg.block _ (blk_lt FR.out) (Kd.R_ne (Kd.S_R HO.out) FR.out (by decide))).trans FR.out
       have nFO : w9.heap[w2.heap.size]? = some (.cells #[.int .i64 s.f0, .slice (some ⟨gb, 0, none⟩) s.f1.length d] 43 (0, 0)) := (hg.block _ (blk_lt FO.out) (Kd.R_ne (Kd.S_R HO.out) FO.out (by decide))).trans FO.out
       have nHB : Below w.heap.size w w9 := bel_grown HB.out hg HB.out.size (fun q_ hk => by have h2_ : q_ = gb := (Option.some.inj hk).symm; omega)
       clear F0 FA FR FO HB HO
       have F0 := Aside0.mk nF0
       clear nF0
       have FA := Aside0.mk nFA
       clear nFA
       have FR := Aside0.mk nFR
       clear nFR
       have FO := Aside0.mk nFO
       clear nFO
       have HB := Aside0.mk nHB
       clear nHB
       have HO := Aside0.mk ho
       clear ho hg
       have zFO := blk_lt FO.out
       have cFO_0 : w9.cell? ⟨w2.heap.size, 0, none⟩ = some (.int .i64 s.f0) := clq FO.out 0 rfl
       have dFO_0 := fzq FO.out 0
       have cFO_1 : w9.cell? ⟨w2.heap.size, 1, none⟩ = some (.slice (some ⟨gb, 0, none⟩) s.f1.length d) := clq FO.out 1 rfl
       have dFO_1 := fzq FO.out 1
       have zFR := blk_lt FR.out
       have cFR_0 : w9.cell? ⟨w.heap.size + 2, 0, none⟩ = some (.int .i64 0) := clq FR.out 0 rfl
       have dFR_0 := fzq FR.out 0
       have cFR_1 : w9.cell? ⟨w.heap.size + 2, 1, none⟩ = some (.slice none 0 0) := clq FR.out 1 rfl
       have dFR_1 := fzq FR.out 1
       go_wp2
       refine bodyPost_ret (v := .tuple #[.agg #[.int .i64 s.f0, .slice (some ⟨gb, 0, none⟩) (s.f1.length - 1) d], .bool true]) ?hrD rfl ?hpD
       case hrD => simp [results, Tryd.results14, go_sem, zFO, cFO_0, dFO_0, cFO_1, dFO_1, zFR, cFR_0, dFR_0, cFR_1, dFR_1]
       case hpD =>
        have hN : doneL s.f1 n m = L.eraseIdx n := by rw [HLL.out]; exact done_erase HY.out hn hm (by have := HLN.out; omega)
        have hll : (L.eraseIdx n).length = s.f1.length - 1 := by rw [List.length_eraseIdx_of_lt (by rw [HLE.out]; exact hn), HLE.out]
        show spPost _ _ _ _ _ _
        unfold spPost
        dsimp only
        rw [hN, hll]
        exact ⟨some ⟨gb, 0, none⟩, d, rfl, R_other (R_other HO.out FO.out (by decide) (grown_set1 _ _ _ _)) (blk_far FR.out (by show w.heap.size + 2 ≠ w2.heap.size; omega) _) (by decide) ((grown_set1 _ _ _ _).trans (grown_set1 _ _ _ _)), by (with_reducible repeat (first | exact HB.out | refine bel_set ?_ _ ?_)); all_goals ((try dsimp only); omega)⟩

end Go.Proofs.YtiaibgkpohmihaaDoor
