/- SpoolLater of the program: a contract. -/
import Derived.Test.YtiaibgkpohmihaaDoorReg
import Derived.Test.YtiaibgkpohmihaaDoorSpQ
import Derived.Test.YtiaibgkpohmihaaDoorSpDone
import Derived.Test.YtiaibgkpohmihaaDoorCpLater
import Derived.IntWalk
import Derived.Test.YtiaibgkpohmihaaDoorReg2
import Derived.Test.YtiaibgkpohmihaaDoorSpA
import Derived.Test.YtiaibgkpohmihaaDoorCpSpool
import Derived.Test.YtiaibgkpohmihaaDoorSpoolS3
import Derived.Deep.RegionHeld3
namespace Go.Proofs.YtiaibgkpohmihaaDoor
open Go.RowKit Go.Proofs.YtiaibgkpohmihaaDoorW.PrintWords
set_option linter.unusedVariables false
set_option linter.unusedSimpArgs false

def timeOk (now : Int) : Bool := decide (0 ≤ now) && decide (now ≤ 9999)
def LaterR (s : SSpool) (id : Int) (a : SAddr) (now : Int) (x : SSpool) (q : Bool) : Prop :=
 (spoolOk s = false ∧ x = ⟨0, []⟩ ∧ q = false) ∨ (spoolOk s = true ∧ ∃ i k fq, FindPost id a s.f1 i k fq ∧ ((fq && timeOk now) = false → x = s ∧ q = false) ∧
  (fq = true → timeOk now = true → (laterNo ((s.f1.getD i.toNat zItem).f2.getD k.toNat zRcpt) now → x = s ∧ q = false) ∧ (¬ laterNo ((s.f1.getD i.toNat zItem).f2.getD k.toNat zRcpt) now → x = ⟨s.f0, laterL s.f1 i.toNat k.toNat now⟩ ∧ q = true)))
theorem later_ex (s : SSpool) (id : Int) (a : SAddr) (now : Int) : ∃ x q, LaterR s id a now x q := by
 cases h : spoolOk s with
 | false => exact ⟨_, _, .inl ⟨h, rfl, rfl⟩⟩
 | true =>
  obtain ⟨i, k, fq, hf⟩ := find_ex id a s.f1
  cases ht : (fq && timeOk now) with
  | false => exact ⟨s, false, .inr ⟨h, i, k, fq, hf, fun _ => ⟨rfl, rfl⟩, fun h1 h2 => (by rw [h1, h2] at ht; cases ht)⟩⟩
  | true =>
   by_cases hn : laterNo ((s.f1.getD i.toNat zItem).f2.getD k.toNat zRcpt) now
   ·exact ⟨s, false, .inr ⟨h, i, k, fq, hf, fun h1 => (by rw [ht] at h1; cases h1), fun _ _ => ⟨fun _ => ⟨rfl, rfl⟩, fun h1 => absurd hn h1⟩⟩⟩
   ·exact ⟨_, true, .inr ⟨h, i, k, fq, hf, fun h1 => (by rw [ht] at h1; cases h1), fun _ _ => ⟨fun h1 => absurd h1 hn, fun _ => ⟨rfl, rfl⟩⟩⟩⟩
theorem pause_any (t : Int) (h1 : 1 ≤ t) (h4 : t ≤ 4) (w : World) :
  Calls Tryd.prog 22 #[.int .i64 t] w fun e w' => e = .returned (.int .i64 ((2 ^ t.toNat : Nat) : Int)) ∧ w' = w := by
 rcases (by omega : t = 1 ∨ t = 2 ∨ t = 3 ∨ t = 4) with rfl | rfl | rfl | rfl
 all_goals
  have h := fun (t : Int) (W : World) => within_any t 1 4 W
  go_enter Tryd.func22, Tryd.ntmps22
  go_wp2_with fail
  refine Calls.mono (h _ _) ?_
  rintro e w1 ⟨rfl, hw1⟩
  subst hw1
  go_wp2
  go_ret
  exact ⟨rfl, rfl⟩
theorem tries_ok {s : SSpool} (h : spoolOk s = true) {n m : Nat} (hn : n < s.f1.length) (hm : m < (s.f1.getD n zItem).f2.length) : 0 ≤ ((s.f1.getD n zItem).f2.getD m zRcpt).f1 ∧ ((s.f1.getD n zItem).f2.getD m zRcpt).f1 ≤ 3 := by
 have h1 := ((spOk_iff s).1 h).1 _ (getD_mem s.f1 zItem hn)
 have h2 := (item_parts h1.1).1 _ (getD_mem _ zRcpt hm)
 unfold rcptOk at h2
 simp only [Bool.and_eq_true, decide_eq_true_eq] at h2
 exact h2.2.1

set_option maxRecDepth 100000 in
set_option maxHeartbeats 8000000 in
theorem spoolLater_any (s : SSpool) (id : Int) (a : SAddr) (now : Int) (x : SSpool) (q : Bool) (A0 : Option Addr) (c0 : Nat) (w : World) (hw : fitSpool s) (hr0 : Kd.C kItem w A0 s.f1.length s.f1) (hG : Glob w) (hd : LaterR s id a now x q) :
  Calls Tryd.prog 20 #[.agg #[.int .i64 s.f0, .slice A0 s.f1.length c0], .int .i64 id, .agg #[.string a.f0, .string a.f1], .int .i64 now] w (spPost w.heap.size x q w) := by
 have hok := fun W (hW : Below w.heap.size w W) => spoolOk_any s A0 c0 W hw (Kd.C_below hr0 hW) (hG.below hW)
 have hcp := fun W (hW : Below w.heap.size w W) => spoolCopied_any s A0 c0 W hw (Kd.C_below hr0 hW)
 obtain ⟨hw0, hlen, hx⟩ := hw
 have HX := Lib.hid hx
 have HTO := Lib.hid (fun h => @tries_ok s h)
 unfold LaterR at hd
 generalize spoolOk s = q1 at hok hd HTO
 have HD := Lib.hid hd
 clear hx hd hG hr0
 go_enter Tryd.func20, Tryd.ntmps20
 go_wp2_with fail
 obtain ⟨W0, hW0⟩ : ∃ W, W = (((w.alloc (.cells #[.int .i64 s.f0, .slice A0 s.f1.length c0] 43)).alloc (.cells #[.string a.f0, .string a.f1] 24)).alloc (.cells #[.int .i64 0, .slice none 0 0] 43)) := ⟨_, rfl⟩
 rw [← hW0]
 have HB : Aside0 (Below w.heap.size w W0) := ⟨by rw [hW0]; exact (bel_alloc (bel_alloc (bel_alloc (Below.refl _ _) _) _) _)⟩
 have F0 : Aside0 (W0.heap[w.heap.size]? = some (.cells #[.int .i64 s.f0, .slice A0 s.f1.length c0] 43 (0, 0))) := ⟨by rw [hW0]; exact blk_alloc (blk_alloc (blk_at _ _ (by first | rfl | (simp; done))) _) _⟩
 have FA : Aside0 (W0.heap[w.heap.size + 1]? = some (.cells #[.string a.f0, .string a.f1] 24 (0, 0))) := ⟨by rw [hW0]; exact blk_alloc (blk_at _ _ (by simp)) _⟩
 have FR : Aside0 (W0.heap[w.heap.size + 2]? = some (.cells #[.int .i64 0, .slice none 0 0] 43 (0, 0))) := ⟨by rw [hW0]; exact blk_at _ _ (by simp)⟩
 have HL : Aside0 (w.heap.size + 3 ≤ W0.heap.size) := ⟨by rw [hW0]; simp⟩
 clear hW0
 refine Calls.mono (hok _ HB.out) ?_
 rintro e w1 ⟨rfl, bw1⟩
 replace F0 := Aside0.mk (below_blk F0.out bw1)
 replace FA := Aside0.mk (below_blk FA.out bw1)
 replace FR := Aside0.mk (below_blk FR.out bw1)
 replace HB := Aside0.mk (bel_then HB.out bw1)
 replace HL := Aside0.mk (Nat.le_trans HL.out bw1.size)
 clear bw1
 clear hok
 rcases HD.out with ⟨hq, hx0, hq2⟩ | ⟨hq, i, k, fq, hf, h0, h1⟩
 ·subst hq
  subst hx0
  subst hq2
  clear hcp HX HD HTO
  have zF0 := blk_lt F0.out
  have cF0_0 : w1.cell? ⟨w.heap.size, 0, none⟩ = some (.int .i64 s.f0) := clq F0.out 0 rfl
  have cF0_1 : w1.cell? ⟨w.heap.size, 1, none⟩ = some (.slice A0 s.f1.length c0) := clq F0.out 1 rfl
  have zFR := blk_lt FR.out
  have cFR_0 : w1.cell? ⟨w.heap.size + 2, 0, none⟩ = some (.int .i64 0) := clq FR.out 0 rfl
  have dFR_0 := fzq FR.out 0
  have cFR_1 : w1.cell? ⟨w.heap.size + 2, 1, none⟩ = some (.slice none 0 0) := clq FR.out 1 rfl
  have dFR_1 := fzq FR.out 1
  go_wp2
  refine bodyPost_ret (v := .tuple #[.agg #[.int .i64 0, .slice none 0 0], .bool false]) ?hrA rfl ?hpA
  case hrA => simp [results, Tryd.results20, go_sem, zF0, cF0_0, cF0_1, zFR, cFR_0, dFR_0, cFR_1, dFR_1]
  case hpA =>
   exact ⟨none, 0, rfl, Kd.R_nil _ _ _ _ _, by (with_reducible repeat (first | exact HB.out | refine bel_set ?_ _ ?_)); all_goals ((try dsimp only); omega)⟩
 ·have HTR := Lib.hid (fun (n m : Nat) (hn : n < s.f1.length) (hm : m < (s.f1.getD n zItem).f2.length) => HTO.out hq hn hm)
  subst hq
  have HF := Lib.hid hf
  have H0 := Lib.hid h0
  have H1 := Lib.hid h1
  clear hf h0 h1 HD HTO
  have zF0 := blk_lt F0.out
  have cF0_0 : w1.cell? ⟨w.heap.size, 0, none⟩ = some (.int .i64 s.f0) := clq F0.out 0 rfl
  have cF0_1 : w1.cell? ⟨w.heap.size, 1, none⟩ = some (.slice A0 s.f1.length c0) := clq F0.out 1 rfl
  go_wp2_with fail
  refine Calls.mono (hcp _ HB.out) ?_
  rintro e w2 ⟨B, d, rfl, rHO, bw2⟩
  clear zF0 cF0_0 cF0_1
  replace F0 := Aside0.mk (below_blk F0.out bw2)
  replace FA := Aside0.mk (below_blk FA.out bw2)
  replace FR := Aside0.mk (below_blk FR.out bw2)
  have HO : Aside0 (Kd.S kItem 28 w2 w.heap.size (fun _ => True) (.slice B s.f1.length d) s.f1) := ⟨Kd.S_lower (base' := w.heap.size) rHO HB.out.size⟩
  clear rHO
  replace HB := Aside0.mk (bel_then HB.out bw2)
  replace HL := Aside0.mk (Nat.le_trans HL.out bw2.size)
  clear bw2
  clear hcp
  have zFA := blk_lt FA.out
  have cFA_0 : w2.cell? ⟨w.heap.size + 1, 0, none⟩ = some (.string a.f0) := clq FA.out 0 rfl
  have cFA_1 : w2.cell? ⟨w.heap.size + 1, 1, none⟩ = some (.string a.f1) := clq FA.out 1 rfl
  go_wp2_with fail
  generalize hWw3 : World.alloc (w2) _ = w3
  have ltF0 := blk_lt F0.out
  have ltFA := blk_lt FA.out
  have ltFR := blk_lt FR.out
  have ltb := HB.out.size
  have ltl := HL.out
  have TT : ∀ k, k < w2.heap.size → w3.heap[k]? = w2.heap[k]? := fun k hk => by rw [← hWw3]; (with_reducible repeat (first | rfl | refine hp_set ?_ ?_ | refine hp_alloc ?_ ?_ | refine hp_drew ?_)); all_goals (first | (with_reducible rfl) | omega | (dsimp only; omega) | (simp; omega))
  have TS : w2.heap.size + 1 ≤ w3.heap.size := by rw [← hWw3]; simp
  have nF0 : w3.heap[w.heap.size]? = some (.cells #[.int .i64 s.f0, .slice A0 s.f1.length c0] 43 (0, 0)) := (TT _ ltF0).trans F0.out
  have nFA : w3.heap[w.heap.size + 1]? = some (.cells #[.string a.f0, .string a.f1] 24 (0, 0)) := (TT _ ltFA).trans FA.out
  have nFR : w3.heap[w.heap.size + 2]? = some (.cells #[.int .i64 0, .slice none 0 0] 43 (0, 0)) := (TT _ ltFR).trans FR.out
  have nFO : w3.heap[w2.heap.size]? = some (.cells #[.int .i64 s.f0, .slice B s.f1.length d] 43 (0, 0)) := by rw [← hWw3]; exact blk_new w2 (.cells #[.int .i64 s.f0, .slice B s.f1.length d] 43)
  have nHO : Kd.S kItem 28 w3 w.heap.size (fun _ => True) (.slice B s.f1.length d) s.f1 := Kd.S_mono (Kd.S_step (HO.out) (fun k hk hlt => TT k hlt)) (fun _ hk => hk)
  have nHB : Below w.heap.size w w3 := by rw [← hWw3]; exact bel_alloc (HB.out) _
  clear zFA cFA_0 cFA_1
  clear hWw3 F0 FA FR HB HO
  have F0 := Aside0.mk nF0
  clear nF0
  have FA := Aside0.mk nFA
  clear nFA
  have FR := Aside0.mk nFR
  clear nFR
  have FO := Aside0.mk nFO
  clear nFO
  have HO := Aside0.mk nHO
  clear nHO
  have HB := Aside0.mk nHB
  clear nHB
  have oFO_ltF0 := ltF0
  have oFO_ltFA := ltFA
  have oFO_ltFR := ltFR
  have oFO_ltl := ltl
  have oFO_ts := TS
  replace HL := Aside0.mk (Nat.le_trans HL.out (by omega : w2.heap.size ≤ w3.heap.size))
  clear TT TS ltF0 ltFA ltFR ltb ltl
  refine Calls.mono (spoolFind_any s.f0 s.f1 id a i k fq B d _ (Kd.R_reads' (Kd.S_R HO.out)).2.2 hlen HX.out HF.out) ?_
  rintro e w4 ⟨rfl, bw4⟩
  replace F0 := Aside0.mk (below_blk F0.out bw4)
  replace FA := Aside0.mk (below_blk FA.out bw4)
  replace FR := Aside0.mk (below_blk FR.out bw4)
  replace FO := Aside0.mk (below_blk FO.out bw4)
  replace HO := Aside0.mk (Kd.S_below HO.out bw4)
  replace HB := Aside0.mk (bel_then HB.out bw4)
  replace HL := Aside0.mk (Nat.le_trans HL.out bw4.size)
  clear bw4
  cases fq
  ·have HXS := Lib.hid (H0.out (by first | rfl | trivial))
   clear HF H0 H1 HX HTR
   have zFO := blk_lt FO.out
   have cFO_0 : w4.cell? ⟨w2.heap.size, 0, none⟩ = some (.int .i64 s.f0) := clq FO.out 0 rfl
   have cFO_1 : w4.cell? ⟨w2.heap.size, 1, none⟩ = some (.slice B s.f1.length d) := clq FO.out 1 rfl
   have zFR := blk_lt FR.out
   have cFR_0 : w4.cell? ⟨w.heap.size + 2, 0, none⟩ = some (.int .i64 0) := clq FR.out 0 rfl
   have dFR_0 := fzq FR.out 0
   have cFR_1 : w4.cell? ⟨w.heap.size + 2, 1, none⟩ = some (.slice none 0 0) := clq FR.out 1 rfl
   have dFR_1 := fzq FR.out 1
   go_wp2
   refine bodyPost_ret (v := .tuple #[.agg #[.int .i64 s.f0, .slice B s.f1.length d], .bool false]) ?hrB rfl ?hpB
   case hrB => simp [results, Tryd.results20, go_sem, zFO, cFO_0, cFO_1, zFR, cFR_0, dFR_0, cFR_1, dFR_1]
   case hpB =>
    show spPost _ x q _ _ _
    rw [(HXS.out).1, (HXS.out).2]
    exact ⟨B, d, rfl, R_other (Kd.S_R HO.out) FR.out (by decide) ((grown_set1 _ _ _ _).trans (grown_set1 _ _ _ _)), by (with_reducible repeat (first | exact HB.out | refine bel_set ?_ _ ?_)); all_goals ((try dsimp only); omega)⟩
  ·have hti := fun W => isTime_any now W
   have hth : (decide (0 ≤ now) && decide (now ≤ 9999)) = timeOk now := rfl
   rw [hth] at hti
   clear hth
   go_wp2_with fail
   refine Calls.mono (hti _) ?_
   rintro e w5 ⟨rfl, hw5⟩
   subst hw5
   clear hti
   obtain ⟨tq, htq⟩ : ∃ b, b = timeOk now := ⟨_, rfl⟩
   rw [← htq]
   have HTQ := Lib.hid htq
   clear htq
   cases tq
   ·have HXS := Lib.hid (H0.out (by rw [← HTQ.out]; rfl))
    clear HF H0 H1 HX HTR
    have zFO := blk_lt FO.out
    have cFO_0 : w4.cell? ⟨w2.heap.size, 0, none⟩ = some (.int .i64 s.f0) := clq FO.out 0 rfl
    have cFO_1 : w4.cell? ⟨w2.heap.size, 1, none⟩ = some (.slice B s.f1.length d) := clq FO.out 1 rfl
    have zFR := blk_lt FR.out
    have cFR_0 : w4.cell? ⟨w.heap.size + 2, 0, none⟩ = some (.int .i64 0) := clq FR.out 0 rfl
    have dFR_0 := fzq FR.out 0
    have cFR_1 : w4.cell? ⟨w.heap.size + 2, 1, none⟩ = some (.slice none 0 0) := clq FR.out 1 rfl
    have dFR_1 := fzq FR.out 1
    go_wp2
    refine bodyPost_ret (v := .tuple #[.agg #[.int .i64 s.f0, .slice B s.f1.length d], .bool false]) ?hrC rfl ?hpC
    case hrC => simp [results, Tryd.results20, go_sem, zFO, cFO_0, cFO_1, zFR, cFR_0, dFR_0, cFR_1, dFR_1]
    case hpC =>
     show spPost _ x q _ _ _
     rw [(HXS.out).1, (HXS.out).2]
     exact ⟨B, d, rfl, R_other (Kd.S_R HO.out) FR.out (by decide) ((grown_set1 _ _ _ _).trans (grown_set1 _ _ _ _)), by (with_reducible repeat (first | exact HB.out | refine bel_set ?_ _ ?_)); all_goals ((try dsimp only); omega)⟩
   ·obtain ⟨n, m, rfl, hn, rfl, hm, -, -⟩ := find_true HF.out
    have hxx := H1.out (by first | rfl | trivial) HTQ.out.symm
    simp only [Int.toNat_natCast] at hxx
    have hto := HTR.out n m hn hm
    have hnow : 0 ≤ now ∧ now ≤ 9999 := by have h := HTQ.out; unfold timeOk at h; have h2 := h.symm; simp only [Bool.and_eq_true, decide_eq_true_eq] at h2; exact h2
    clear HF H0 H1 HTR
    have hfy := HX.out (s.f1.getD n zItem) (getD_mem _ _ hn)
    have hLL : laterL s.f1 n m now = s.f1.set n ⟨(s.f1.getD n zItem).f0, (s.f1.getD n zItem).f1, (s.f1.getD n zItem).f2.set m (laterR ((s.f1.getD n zItem).f2.getD m zRcpt) now), (s.f1.getD n zItem).f3⟩ := rfl
    generalize laterL s.f1 n m now = LL at hxx hLL
    obtain ⟨y, hy⟩ : ∃ y, s.f1.getD n zItem = y := ⟨_, rfl⟩
    rw [hy] at hm hfy hto hxx hLL
    have HY := Lib.hid hy
    have hyl := hfy.2.2.1.1
    obtain ⟨z, hz⟩ : ∃ z, y.f2.getD m zRcpt = z := ⟨_, rfl⟩
    rw [hz] at hto hxx hLL
    have HZ := Lib.hid hz
    obtain ⟨pz, hpz⟩ : ∃ p : Int, ((2 ^ (z.f1 + 1).toNat : Nat) : Int) = p := ⟨_, rfl⟩
    have hpb := pow_le (z.f1 + 1) (by omega) (by omega)
    have hpa := fun W => pause_any (z.f1 + 1) (by omega) (by omega) W
    rw [hpz] at hpb hpa
    have HPZ := Lib.hid hpz
    have HXX := Lib.hid hxx
    have HLL := Lib.hid hLL
    clear hy hz hpz hfy HX hxx hLL
    have hn' : (n : Int) < (s.f1.length : Int) := by omega
    have hm' : (m : Int) < (y.f2.length : Int) := by omega
    obtain ⟨gb, hgb, hgb1, hgb2⟩ := own_form2 (Kd.S_R HO.out) (by omega)
    subst hgb
    obtain ⟨oki, ci, hcl, hiM, hic, hoki, hH⟩ := Kd.S_lend HO.out zItem (n : Int) (by omega) (by omega)
    rw [Int.toNat_natCast] at hiM hic
    rw [HY.out] at hiM
    obtain ⟨v0, v1, rfl, u0, u1⟩ := kItem_openM hiM
    simp only [show kItem.sz = 5 from rfl] at hic
    obtain ⟨Ua, du, hv⟩ := Kd.R_slice u0
    subst hv
    obtain ⟨gu, hgu, hgu1, hgu2⟩ := own_form2 u0 (by omega)
    subst hgu
    have i3_ : w4.cell? ⟨gb, n * 5 + 3, none⟩ = some (.slice (some ⟨gu, 0, none⟩) y.f2.length du) := hic 3 _ rfl
    obtain ⟨cj, hjl, hjM, hjc, hjf⟩ := Kd.R_elem u0 zRcpt (m : Int) (by omega) (by omega)
    rw [Int.toNat_natCast, HZ.out] at hjM
    rw [Int.toNat_natCast] at hjc hjf
    obtain rfl := kRcpt_openM hjM
    simp only [show kRcpt.sz = 4 from rfl] at hjc hjf
    have r0_ : w4.cell? ⟨gu, m * 4, none⟩ = some (.string z.f0.f0) := hjc 0 _ rfl
    have r1_ : w4.cell? ⟨gu, m * 4 + 1, none⟩ = some (.string z.f0.f1) := hjc 1 _ rfl
    have r2_ : w4.cell? ⟨gu, m * 4 + 2, none⟩ = some (.int .i64 z.f1) := hjc 2 _ rfl
    have r3_ : w4.cell? ⟨gu, m * 4 + 3, none⟩ = some (.int .i64 z.f2) := hjc 3 _ rfl
    have f2_ : w4.frozen? ⟨gu, m * 4 + 2, none⟩ = false := hjf 2
    have f3_ : w4.frozen? ⟨gu, m * 4 + 3, none⟩ = false := hjf 3
    have HH := Aside0.mk hH
    have U0 := Aside0.mk u0
    have U1 := Aside0.mk u1
    have HJC := Lib.hid hjc
    have neFR : ¬ gu = w.heap.size + 2 := fun e => Kd.R_ne U0.out FR.out (by decide) (by rw [e]; rfl)
    have neFO : ¬ gu = w2.heap.size := fun e => Kd.R_ne U0.out FO.out (by decide) (by rw [e]; rfl)
    clear hH u0 u1 hic hiM hcl hjc hjf hjl hjM
    have hwt : IntKind.i64.wrap (z.f1 + 1) = z.f1 + 1 := IntWalk.i64_in _ (by omega)
    have hwn : IntKind.i64.wrap (now + pz) = now + pz := IntWalk.i64_in _ (by omega)
    have zFO := blk_lt FO.out
    have cFO_0 : w4.cell? ⟨w2.heap.size, 0, none⟩ = some (.int .i64 s.f0) := clq FO.out 0 rfl
    have cFO_1 : w4.cell? ⟨w2.heap.size, 1, none⟩ = some (.slice (some ⟨gb, 0, none⟩) s.f1.length d) := clq FO.out 1 rfl
    go_wp2_with fail
    refine Calls.mono (hpa _) ?_
    rintro e w5 ⟨rfl, hw5⟩
    have hw6 := hw5.symm
    subst hw6
    clear hpa
    by_cases h4 : z.f1 + 1 = 4
    ·have HXS := Lib.hid (HXX.out.1 (by unfold laterNo; omega))
     have h41 : ((z.f1 + 1) == 4) = true := by rw [beq_iff_eq]; exact h4
     clear h4 HXX HLL
     clear zFO cFO_0 cFO_1
     have zFO := blk_lt FO.out
     have cFO_0 : w4.cell? ⟨w2.heap.size, 0, none⟩ = some (.int .i64 s.f0) := clq FO.out 0 rfl
     have cFO_1 : w4.cell? ⟨w2.heap.size, 1, none⟩ = some (.slice (some ⟨gb, 0, none⟩) s.f1.length d) := clq FO.out 1 rfl
     have zFR := blk_lt FR.out
     have cFR_0 : w4.cell? ⟨w.heap.size + 2, 0, none⟩ = some (.int .i64 0) := clq FR.out 0 rfl
     have dFR_0 := fzq FR.out 0
     have cFR_1 : w4.cell? ⟨w.heap.size + 2, 1, none⟩ = some (.slice none 0 0) := clq FR.out 1 rfl
     have dFR_1 := fzq FR.out 1
     go_wp2
     refine bodyPost_ret (v := .tuple #[.agg #[.int .i64 s.f0, .slice (some ⟨gb, 0, none⟩) s.f1.length d], .bool false]) ?hrD rfl ?hpD
     case hrD => simp [results, Tryd.results20, go_sem, zFO, cFO_0, cFO_1, zFR, cFR_0, dFR_0, cFR_1, dFR_1]
     case hpD =>
      show spPost _ x q _ _ _
      rw [(HXS.out).1, (HXS.out).2]
      exact ⟨(some ⟨gb, 0, none⟩), d, rfl, R_other (Kd.S_R HO.out) FR.out (by decide) ((grown_set1 _ _ _ _).trans (grown_set1 _ _ _ _)), by (with_reducible repeat (first | exact HB.out | refine bel_set ?_ _ ?_)); all_goals ((try dsimp only); omega)⟩
    ·have h41 : ((z.f1 + 1) == 4) = false := by rw [beq_eq_false_iff_ne]; exact h4
     by_cases h9 : 9999 < now + pz
     ·have HXS := Lib.hid (HXX.out.1 (by unfold laterNo; rw [HPZ.out]; omega))
      clear HXX HLL
      clear zFO cFO_0 cFO_1
      have zFO := blk_lt FO.out
      have cFO_0 : w4.cell? ⟨w2.heap.size, 0, none⟩ = some (.int .i64 s.f0) := clq FO.out 0 rfl
      have cFO_1 : w4.cell? ⟨w2.heap.size, 1, none⟩ = some (.slice (some ⟨gb, 0, none⟩) s.f1.length d) := clq FO.out 1 rfl
      have zFR := blk_lt FR.out
      have cFR_0 : w4.cell? ⟨w.heap.size + 2, 0, none⟩ = some (.int .i64 0) := clq FR.out 0 rfl
      have dFR_0 := fzq FR.out 0
      have cFR_1 : w4.cell? ⟨w.heap.size + 2, 1, none⟩ = some (.slice none 0 0) := clq FR.out 1 rfl
      have dFR_1 := fzq FR.out 1
      go_wp2
      refine bodyPost_ret (v := .tuple #[.agg #[.int .i64 s.f0, .slice (some ⟨gb, 0, none⟩) s.f1.length d], .bool false]) ?hrE rfl ?hpE
      case hrE => simp [results, Tryd.results20, go_sem, zFO, cFO_0, cFO_1, zFR, cFR_0, dFR_0, cFR_1, dFR_1]
      case hpE =>
       show spPost _ x q _ _ _
       rw [(HXS.out).1, (HXS.out).2]
       exact ⟨(some ⟨gb, 0, none⟩), d, rfl, R_other (Kd.S_R HO.out) FR.out (by decide) ((grown_set1 _ _ _ _).trans (grown_set1 _ _ _ _)), by (with_reducible repeat (first | exact HB.out | refine bel_set ?_ _ ?_)); all_goals ((try dsimp only); omega)⟩
     ·have HXS := Lib.hid (HXX.out.2 (by unfold laterNo; rw [HPZ.out]; omega))
      clear HXX
      clear zFO cFO_0 cFO_1
      have zFO := blk_lt FO.out
      have cFO_0 : w4.cell? ⟨w2.heap.size, 0, none⟩ = some (.int .i64 s.f0) := clq FO.out 0 rfl
      have cFO_1 : w4.cell? ⟨w2.heap.size, 1, none⟩ = some (.slice (some ⟨gb, 0, none⟩) s.f1.length d) := clq FO.out 1 rfl
      have zFR := blk_lt FR.out
      have cFR_0 : w4.cell? ⟨w.heap.size + 2, 0, none⟩ = some (.int .i64 0) := clq FR.out 0 rfl
      have dFR_0 := fzq FR.out 0
      have cFR_1 : w4.cell? ⟨w.heap.size + 2, 1, none⟩ = some (.slice none 0 0) := clq FR.out 1 rfl
      have dFR_1 := fzq FR.out 1
      go_wp2
      refine bodyPost_ret (v := .tuple #[.agg #[.int .i64 s.f0, .slice (some ⟨gb, 0, none⟩) s.f1.length d], .bool true]) ?hrF rfl ?hpF
      case hrF => simp [results, Tryd.results20, go_sem, zFO, cFO_0, cFO_1, zFR, cFR_0, dFR_0, cFR_1, dFR_1]
      case hpF =>
       show spPost _ x q _ _ _
       rw [HXS.out.1, HXS.out.2]
       have hN : LL = s.f1.set n (⟨y.f0, y.f1, y.f2.set m (⟨z.f0, z.f1 + 1, now + pz⟩ : SRcpt), y.f3⟩ : SItem) := by rw [HLL.out]; unfold laterR; rw [HPZ.out]
       have hNl : LL.length = s.f1.length := by rw [hN, List.length_set]
       have hu1 := own_put2 U0.out m (by omega) (⟨z.f0, z.f1 + 1, z.f2⟩ : SRcpt) [.string z.f0.f0, .string z.f0.f1, .int .i64 z.f1, .int .i64 z.f2] rfl 2 (.int .i64 (z.f1 + 1)) (by decide) (kRcpt_mkM _ _ _ (⟨z.f0, z.f1 + 1, z.f2⟩ : SRcpt)) HJC.out
       obtain ⟨c2_, _, hM2, hcc2, _⟩ := Kd.R_elem hu1.1 zRcpt (m : Int) (by omega) (by omega)
       rw [Int.toNat_natCast, set_getD y.f2 m zRcpt _ (by omega), if_pos rfl] at hM2
       rw [Int.toNat_natCast] at hcc2
       obtain rfl := kRcpt_openM hM2
       have hu2 := own_put2 hu1.1 m (by omega) (⟨z.f0, z.f1 + 1, now + pz⟩ : SRcpt) [.string z.f0.f0, .string z.f0.f1, .int .i64 (z.f1 + 1), .int .i64 z.f2] rfl 3 (.int .i64 (now + pz)) (by decide) (kRcpt_mkM _ _ _ (⟨z.f0, z.f1 + 1, now + pz⟩ : SRcpt)) hcc2
       have hg5 := hu1.2.trans hu2.2
       have hu5 := hu2.1
       rw [List.set_set] at hu5
       simp only [show m * kRcpt.sz = m * 4 from rfl] at hu5 hg5
       have hs := Kd.S_R (Kd.H_back (Kd.H_grown HH.out hg5 (fun q_ hq => U0.out.1 q_ hq)) (kItem_mkM _ _ _ (⟨y.f0, y.f1, y.f2.set m (⟨z.f0, z.f1 + 1, now + pz⟩ : SRcpt), y.f3⟩ : SItem) hu5 (Kd.R_over' U1.out (Kd.R_typed U0.out) (by decide) hg5)) (fun _ h => h))
       rw [Int.toNat_natCast, ← hN] at hs
       have hB6 : Below w.heap.size w ((w4.setCell ⟨gu, m * 4 + 2, none⟩ (.int .i64 (z.f1 + 1))).setCell ⟨gu, m * 4 + 3, none⟩ (.int .i64 (now + pz))) := bel_set (bel_set HB.out _ (by show w.heap.size ≤ gu; omega)) _ (by show w.heap.size ≤ gu; omega)
       have hFR := blk_far (blk_far FR.out (p := ⟨gu, m * 4 + 2, none⟩) (by show w.heap.size + 2 ≠ gu; omega) (.int .i64 (z.f1 + 1))) (p := ⟨gu, m * 4 + 3, none⟩) (by show w.heap.size + 2 ≠ gu; omega) (.int .i64 (now + pz))
       exact ⟨some ⟨gb, 0, none⟩, d, by rw [hNl], by rw [hNl]; exact R_other hs hFR (by decide) ((grown_set1 _ _ _ _).trans (grown_set1 _ _ _ _)), bel_set (bel_set hB6 _ (by show w.heap.size ≤ w.heap.size + 2; omega)) _ (by show w.heap.size ≤ w.heap.size + 2; omega)⟩

end Go.Proofs.YtiaibgkpohmihaaDoor

/- SpoolLater of the reference: a contract. -/
namespace Go.Proofs.YtiaibgkpohmihaaDoor
open Go.RowKit Go.Proofs.YtiaibgkpohmihaaDoorW.PrintWords
set_option linter.unusedVariables false
set_option linter.unusedSimpArgs false

set_option maxRecDepth 100000 in
set_option maxHeartbeats 8000000 in
theorem specSpoolLater_any (s : SSpool) (id : Int) (a : SAddr) (now : Int) (x : SSpool) (q : Bool) (A0 : Option Addr) (c0 : Nat) (w : World) (hw : fitSpool s) (hr0 : Kd.C kItem w A0 s.f1.length s.f1) (hd : LaterR s id a now x q) :
  Calls Tryd.prog 21 #[.agg #[.int .i64 s.f0, .slice A0 s.f1.length c0], .int .i64 id, .agg #[.string a.f0, .string a.f1], .int .i64 now] w (spPost w.heap.size x q w) := by
 have hok := fun W (hW : Below w.heap.size w W) => specSpool_any s A0 c0 W hw (Kd.C_below hr0 hW)
 have hcp := fun W (hW : Below w.heap.size w W) => specCopySpool_any s A0 c0 W hw (Kd.C_below hr0 hW)
 have hti := fun W => specIn_any now 0 9999 W
 rw [show (decide (0 ≤ now) && decide (now ≤ 9999)) = timeOk now from rfl] at hti
 have HW := Lib.hid hw
 obtain ⟨hw0, hlen, hx⟩ := hw
 have HX := Lib.hid hx
 have HTO := Lib.hid (fun h => @tries_ok s h)
 unfold LaterR at hd
 generalize spoolOk s = q1 at hok hd HTO
 have HD := Lib.hid hd
 have HR := Aside0.mk hr0
 clear hx hd hr0
 go_enter Tryd.func21, Tryd.ntmps21
 go_wp2_with fail
 obtain ⟨W0, hW0⟩ : ∃ W, W = (((w.alloc (.cells #[.int .i64 s.f0, .slice A0 s.f1.length c0] 43)).alloc (.cells #[.string a.f0, .string a.f1] 24)).alloc (.cells #[.int .i64 0, .slice none 0 0] 43)) := ⟨_, rfl⟩
 rw [← hW0]
 have HB : Aside0 (Below w.heap.size w W0) := ⟨by rw [hW0]; exact (bel_alloc (bel_alloc (bel_alloc (Below.refl _ _) _) _) _)⟩
 have F0 : Aside0 (W0.heap[w.heap.size]? = some (.cells #[.int .i64 s.f0, .slice A0 s.f1.length c0] 43 (0, 0))) := ⟨by rw [hW0]; exact blk_alloc (blk_alloc (blk_at _ _ (by first | rfl | (simp; done))) _) _⟩
 have FA : Aside0 (W0.heap[w.heap.size + 1]? = some (.cells #[.string a.f0, .string a.f1] 24 (0, 0))) := ⟨by rw [hW0]; exact blk_alloc (blk_at _ _ (by simp)) _⟩
 have FR : Aside0 (W0.heap[w.heap.size + 2]? = some (.cells #[.int .i64 0, .slice none 0 0] 43 (0, 0))) := ⟨by rw [hW0]; exact blk_at _ _ (by simp)⟩
 have HL : Aside0 (w.heap.size + 3 ≤ W0.heap.size) := ⟨by rw [hW0]; simp⟩
 clear hW0
 refine Calls.mono (hok _ HB.out) ?_
 rintro e w1 ⟨rfl, bw1⟩
 replace F0 := Aside0.mk (below_blk F0.out bw1)
 replace FA := Aside0.mk (below_blk FA.out bw1)
 replace FR := Aside0.mk (below_blk FR.out bw1)
 replace HB := Aside0.mk (bel_then HB.out bw1)
 replace HL := Aside0.mk (Nat.le_trans HL.out bw1.size)
 clear bw1
 clear hok
 rcases HD.out with ⟨hq, hx0, hq2⟩ | ⟨hq, i, k, fq, hf, h0, h1⟩
 ·subst hq
  subst hx0
  subst hq2
  clear hcp HX HD HTO
  have zF0 := blk_lt F0.out
  have cF0_0 : w1.cell? ⟨w.heap.size, 0, none⟩ = some (.int .i64 s.f0) := clq F0.out 0 rfl
  have cF0_1 : w1.cell? ⟨w.heap.size, 1, none⟩ = some (.slice A0 s.f1.length c0) := clq F0.out 1 rfl
  have zFR := blk_lt FR.out
  have cFR_0 : w1.cell? ⟨w.heap.size + 2, 0, none⟩ = some (.int .i64 0) := clq FR.out 0 rfl
  have dFR_0 := fzq FR.out 0
  have cFR_1 : w1.cell? ⟨w.heap.size + 2, 1, none⟩ = some (.slice none 0 0) := clq FR.out 1 rfl
  have dFR_1 := fzq FR.out 1
  go_wp2
  refine bodyPost_ret (v := .tuple #[.agg #[.int .i64 0, .slice none 0 0], .bool false]) ?hrA rfl ?hpA
  case hrA => simp [results, Tryd.results21, go_sem, zF0, cF0_0, cF0_1, zFR, cFR_0, dFR_0, cFR_1, dFR_1]
  case hpA =>
   exact ⟨none, 0, rfl, Kd.R_nil _ _ _ _ _, by (with_reducible repeat (first | exact HB.out | refine bel_set ?_ _ ?_)); all_goals ((try dsimp only); omega)⟩
 ·have HTR := Lib.hid (fun (n m : Nat) (hn : n < s.f1.length) (hm : m < (s.f1.getD n zItem).f2.length) => HTO.out hq hn hm)
  subst hq
  have H0 := Lib.hid h0
  have H1 := Lib.hid h1
  clear h0 h1 HD HTO
  have zF0 := blk_lt F0.out
  have cF0_0 : w1.cell? ⟨w.heap.size, 0, none⟩ = some (.int .i64 s.f0) := clq F0.out 0 rfl
  have cF0_1 : w1.cell? ⟨w.heap.size, 1, none⟩ = some (.slice A0 s.f1.length c0) := clq F0.out 1 rfl
  go_wp2_with fail
  refine Calls.mono (hcp _ HB.out) ?_
  rintro e w2 ⟨B, d, rfl, rHO, bw2⟩
  clear zF0 cF0_0 cF0_1
  replace F0 := Aside0.mk (below_blk F0.out bw2)
  replace FA := Aside0.mk (below_blk FA.out bw2)
  replace FR := Aside0.mk (below_blk FR.out bw2)
  have HO : Aside0 (Kd.S kItem 28 w2 w.heap.size (fun _ => True) (.slice B s.f1.length d) s.f1) := ⟨Kd.S_lower (base' := w.heap.size) rHO HB.out.size⟩
  clear rHO
  replace HB := Aside0.mk (bel_then HB.out bw2)
  replace HL := Aside0.mk (Nat.le_trans HL.out bw2.size)
  clear bw2
  clear hcp
  have zF0 := blk_lt F0.out
  have cF0_0 : w2.cell? ⟨w.heap.size, 0, none⟩ = some (.int .i64 s.f0) := clq F0.out 0 rfl
  have cF0_1 : w2.cell? ⟨w.heap.size, 1, none⟩ = some (.slice A0 s.f1.length c0) := clq F0.out 1 rfl
  go_wp2_with fail
  generalize hWw3 : World.alloc (w2) _ = w3
  have ltF0 := blk_lt F0.out
  have ltFA := blk_lt FA.out
  have ltFR := blk_lt FR.out
  have ltb := HB.out.size
  have ltl := HL.out
  have TT : ∀ k, k < w2.heap.size → w3.heap[k]? = w2.heap[k]? := fun k hk => by rw [← hWw3]; (with_reducible repeat (first | rfl | refine hp_set ?_ ?_ | refine hp_alloc ?_ ?_ | refine hp_drew ?_)); all_goals (first | (with_reducible rfl) | omega | (dsimp only; omega) | (simp; omega))
  have TS : w2.heap.size + 1 ≤ w3.heap.size := by rw [← hWw3]; simp
  have nF0 : w3.heap[w.heap.size]? = some (.cells #[.int .i64 s.f0, .slice A0 s.f1.length c0] 43 (0, 0)) := (TT _ ltF0).trans F0.out
  have nFA : w3.heap[w.heap.size + 1]? = some (.cells #[.string a.f0, .string a.f1] 24 (0, 0)) := (TT _ ltFA).trans FA.out
  have nFR : w3.heap[w.heap.size + 2]? = some (.cells #[.int .i64 0, .slice none 0 0] 43 (0, 0)) := (TT _ ltFR).trans FR.out
  have nFO : w3.heap[w2.heap.size]? = some (.cells #[.int .i64 s.f0, .slice B s.f1.length d] 43 (0, 0)) := by rw [← hWw3]; exact blk_new w2 (.cells #[.int .i64 s.f0, .slice B s.f1.length d] 43)
  have nHO : Kd.S kItem 28 w3 w.heap.size (fun _ => True) (.slice B s.f1.length d) s.f1 := Kd.S_mono (Kd.S_step (HO.out) (fun k hk hlt => TT k hlt)) (fun _ hk => hk)
  have nHB : Below w.heap.size w w3 := by rw [← hWw3]; exact bel_alloc (HB.out) _
  clear zF0 cF0_0 cF0_1
  clear hWw3 F0 FA FR HB HO
  have F0 := Aside0.mk nF0
  clear nF0
  have FA := Aside0.mk nFA
  clear nFA
  have FR := Aside0.mk nFR
  clear nFR
  have FO := Aside0.mk nFO
  clear nFO
  have HO := Aside0.mk nHO
  clear nHO
  have HB := Aside0.mk nHB
  clear nHB
  have oFO_ltF0 := ltF0
  have oFO_ltFA := ltFA
  have oFO_ltFR := ltFR
  have oFO_ltl := ltl
  have oFO_ts := TS
  replace HL := Aside0.mk (Nat.le_trans HL.out (by omega : w2.heap.size ≤ w3.heap.size))
  clear TT TS ltF0 ltFA ltFR ltb ltl
  have hat := fun W (hW : Below w.heap.size w W) => specAt_any s.f0 s.f1 id A0 c0 W (Kd.C_below HR.out hW) hlen
  refine Calls.mono (hat _ HB.out) ?_
  rintro e w4 ⟨rfl, bw4⟩
  replace F0 := Aside0.mk (below_blk F0.out bw4)
  replace FA := Aside0.mk (below_blk FA.out bw4)
  replace FR := Aside0.mk (below_blk FR.out bw4)
  replace FO := Aside0.mk (below_blk FO.out bw4)
  replace HO := Aside0.mk (Kd.S_below HO.out bw4)
  replace HB := Aside0.mk (bel_then HB.out bw4)
  replace HL := Aside0.mk (Nat.le_trans HL.out bw4.size)
  clear bw4
  clear hat
  rcases hf with ⟨hi, rfl, rfl, rfl⟩ | ⟨n, hi, hn, rfl, hk, hq⟩
  ·have HXS := Lib.hid (H0.out (by rfl))
   clear H0 H1 HTR hti
   generalize itemAt id s.f1 = I at hi
   have hil : (I : Int) < 0 := hi
   go_wp2_with fail
   have HS1 : Aside0 (∀ W : World, (W.heap[w.heap.size]? = some (.cells #[.int .i64 s.f0, .slice A0 s.f1.length c0] 43 (0, 0))) → W.cell? ⟨w.heap.size, 0, none⟩ = some (.int .i64 s.f0) ∧ W.cell? ⟨w.heap.size, 1, none⟩ = some (.slice A0 s.f1.length c0)) := ⟨fun W h => ⟨(by have h_ := h; simp [World.cell?, h_]), (by have h_ := h; simp [World.cell?, h_])⟩⟩
   refine wp_region_held_drew (S := fun (W : World) => W.heap[w.heap.size]? = some (.cells #[.int .i64 s.f0, .slice A0 s.f1.length c0] 43 (0, 0))) (by kernel_rfl) ?s2 (fun hHeld => ?t2)
   case s2 => exact (show (fun (W : World) => W.heap[w.heap.size]? = some (.cells #[.int .i64 s.f0, .slice A0 s.f1.length c0] 43 (0, 0))) (World.drew w4) from F0.out)
   generalize hWVs : World.drew (w4) = Vs at hHeld ⊢
   have ltF0 := blk_lt F0.out
   have ltFA := blk_lt FA.out
   have ltFR := blk_lt FR.out
   have ltFO := blk_lt FO.out
   have ltb := HB.out.size
   have ltl := HL.out
   have TT : ∀ k, k < w4.heap.size → Vs.heap[k]? = w4.heap[k]? := fun k hk => by rw [← hWVs]; (with_reducible repeat (first | rfl | refine hp_set ?_ ?_ | refine hp_alloc ?_ ?_ | refine hp_drew ?_)); all_goals (first | (with_reducible rfl) | omega | (dsimp only; omega) | (simp; omega))
   have TS : w4.heap.size + 0 ≤ Vs.heap.size := by rw [← hWVs]; simp
   have nF0 : Vs.heap[w.heap.size]? = some (.cells #[.int .i64 s.f0, .slice A0 s.f1.length c0] 43 (0, 0)) := (TT _ ltF0).trans F0.out
   have nFA : Vs.heap[w.heap.size + 1]? = some (.cells #[.string a.f0, .string a.f1] 24 (0, 0)) := (TT _ ltFA).trans FA.out
   have nFR : Vs.heap[w.heap.size + 2]? = some (.cells #[.int .i64 0, .slice none 0 0] 43 (0, 0)) := (TT _ ltFR).trans FR.out
   have nFO : Vs.heap[w2.heap.size]? = some (.cells #[.int .i64 s.f0, .slice B s.f1.length d] 43 (0, 0)) := (TT _ ltFO).trans FO.out
   have nHO : Kd.S kItem 28 Vs w.heap.size (fun _ => True) (.slice B s.f1.length d) s.f1 := Kd.S_mono (Kd.S_step (HO.out) (fun k hk hlt => TT k hlt)) (fun _ hk => hk)
   have nHB : Below w.heap.size w Vs := by rw [← hWVs]; exact bel_then (HB.out) (drew_below0 _)
   clear hWVs F0 FA FR FO HB HO
   have F0 := Aside0.mk nF0
   clear nF0
   have FA := Aside0.mk nFA
   clear nFA
   have FR := Aside0.mk nFR
   clear nFR
   have FO := Aside0.mk nFO
   clear nFO
   have HO := Aside0.mk nHO
   clear nHO
   have HB := Aside0.mk nHB
   clear nHB
   replace HL := Aside0.mk (Nat.le_trans HL.out (by omega : w4.heap.size ≤ Vs.heap.size))
   clear TT TS ltF0 ltFA ltFR ltFO ltb ltl
   refine ta 0 ?_
   refine ta 1 ?_
   refine ta 2 ?_
   refine tu 3 ?_
   refine tu 4 ?_
   refine tu 5 ?_
   refine ta 6 ?_
   refine ta 7 ?_
   refine tu 8 ?_
   refine tu 9 ?_
   refine tu 10 ?_
   refine tu 11 ?_
   refine tu 12 ?_
   refine tu 13 ?_
   refine tu 14 ?_
   refine tu 15 ?_
   refine ta 16 ?_
   refine wpAnyH_done (by kernel_rfl) ?_ _
   have zFO := blk_lt FO.out
   have cFO_0 : Vs.cell? ⟨w2.heap.size, 0, none⟩ = some (.int .i64 s.f0) := clq FO.out 0 rfl
   have cFO_1 : Vs.cell? ⟨w2.heap.size, 1, none⟩ = some (.slice B s.f1.length d) := clq FO.out 1 rfl
   have zFR := blk_lt FR.out
   have cFR_0 : Vs.cell? ⟨w.heap.size + 2, 0, none⟩ = some (.int .i64 0) := clq FR.out 0 rfl
   have dFR_0 := fzq FR.out 0
   have cFR_1 : Vs.cell? ⟨w.heap.size + 2, 1, none⟩ = some (.slice none 0 0) := clq FR.out 1 rfl
   have dFR_1 := fzq FR.out 1
   go_wp2
   refine bodyPost_ret (v := .tuple #[.agg #[.int .i64 s.f0, .slice B s.f1.length d], .bool false]) ?hrB rfl ?hpB
   case hrB => simp [results, Tryd.results21, go_sem, zFO, cFO_0, cFO_1, zFR, cFR_0, dFR_0, cFR_1, dFR_1]
   case hpB =>
    show spPost _ x q _ _ _
    rw [HXS.out.1, HXS.out.2]
    exact ⟨B, d, rfl, R_other (Kd.S_R HO.out) FR.out (by decide) ((grown_set1 _ _ _ _).trans (grown_set1 _ _ _ _)), by (with_reducible repeat (first | exact HB.out | refine bel_set ?_ _ ?_)); all_goals ((try dsimp only); omega)⟩
  ·obtain ⟨ad, Q0, qc0, Q1, qc1, e1, p0, p1, p2, p3, p4, l0, k0, l1, k1⟩ := at_Item HR.out n hn
   subst e1
   have hfy := HX.out (s.f1.getD n zItem) (getD_mem _ _ hn)
   have htr := fun m hm => HTR.out n m hn hm
   clear HTR
   obtain ⟨y, hy⟩ : ∃ y, s.f1.getD n zItem = y := ⟨_, rfl⟩
   rw [hy] at p0 p1 p2 p3 p4 l0 k0 l1 k1 hfy hk htr
   have HTR := Lib.hid htr
   clear htr
   have HY := Lib.hid hy
   have hyl := hfy.2.2.1.1
   have hn' : (n : Int) < (s.f1.length : Int) := by omega
   have hnn : ¬ (n : Int) < 0 := by omega
   have lta := World.block_lt_of_cell? _ _ p0
   have K0 := Aside0.mk k0
   rw [hi]
   have HK := Lib.hid hk
   have HQ := Lib.hid hq
   have hrc := fun W (hW : Below w.heap.size w W) => specRcptAt_any y a Q0 qc0 Q1 qc1 W (Kd.C_below K0.out hW) hyl
   rw [← hk] at hrc
   clear hy hfy hi k0 k1 l0 l1 hk hq
   obtain ⟨tq, htq⟩ : ∃ b, b = timeOk now := ⟨_, rfl⟩
   rw [← htq] at hti
   have HTQ := Lib.hid htq
   clear htq
   cases tq
   ·have HXS := Lib.hid (H0.out (by rw [← HTQ.out, Bool.and_false]))
    clear H0 H1 HTR
    go_wp2_with fail
    have HS20 : Aside0 (∀ W : World, (W.heap[w.heap.size]? = some (.cells #[.int .i64 s.f0, .slice (some ad) s.f1.length c0] 43 (0, 0)) ∧ W.heap[w.heap.size + 1]? = some (.cells #[.string a.f0, .string a.f1] 24 (0, 0))) → W.cell? ⟨w.heap.size, 0, none⟩ = some (.int .i64 s.f0) ∧ W.cell? ⟨w.heap.size, 1, none⟩ = some (.slice (some ad) s.f1.length c0) ∧ W.cell? ⟨w.heap.size + 1, 0, none⟩ = some (.string a.f0) ∧ W.cell? ⟨w.heap.size + 1, 1, none⟩ = some (.string a.f1)) := ⟨fun W h => ⟨(by have h_ := h.1; simp [World.cell?, h_]), (by have h_ := h.1; simp [World.cell?, h_]), (by have h_ := h.2; simp [World.cell?, h_]), (by have h_ := h.2; simp [World.cell?, h_])⟩⟩
    refine wp_region_held_drew (S := fun (W : World) => W.heap[w.heap.size]? = some (.cells #[.int .i64 s.f0, .slice (some ad) s.f1.length c0] 43 (0, 0)) ∧ W.heap[w.heap.size + 1]? = some (.cells #[.string a.f0, .string a.f1] 24 (0, 0))) (by kernel_rfl) ?s21 (fun hHeld => ?t21)
    case s21 => exact (show (fun (W : World) => W.heap[w.heap.size]? = some (.cells #[.int .i64 s.f0, .slice (some ad) s.f1.length c0] 43 (0, 0)) ∧ W.heap[w.heap.size + 1]? = some (.cells #[.string a.f0, .string a.f1] 24 (0, 0))) (World.drew w4) from ⟨F0.out, FA.out⟩)
    generalize hWVs : World.drew (w4) = Vs at hHeld ⊢
    have ltF0 := blk_lt F0.out
    have ltFA := blk_lt FA.out
    have ltFR := blk_lt FR.out
    have ltFO := blk_lt FO.out
    have ltb := HB.out.size
    have ltl := HL.out
    have TT : ∀ k, k < w4.heap.size → Vs.heap[k]? = w4.heap[k]? := fun k hk => by rw [← hWVs]; (with_reducible repeat (first | rfl | refine hp_set ?_ ?_ | refine hp_alloc ?_ ?_ | refine hp_drew ?_)); all_goals (first | (with_reducible rfl) | omega | (dsimp only; omega) | (simp; omega))
    have TS : w4.heap.size + 0 ≤ Vs.heap.size := by rw [← hWVs]; simp
    have nF0 : Vs.heap[w.heap.size]? = some (.cells #[.int .i64 s.f0, .slice (some ad) s.f1.length c0] 43 (0, 0)) := (TT _ ltF0).trans F0.out
    have nFA : Vs.heap[w.heap.size + 1]? = some (.cells #[.string a.f0, .string a.f1] 24 (0, 0)) := (TT _ ltFA).trans FA.out
    have nFR : Vs.heap[w.heap.size + 2]? = some (.cells #[.int .i64 0, .slice none 0 0] 43 (0, 0)) := (TT _ ltFR).trans FR.out
    have nFO : Vs.heap[w2.heap.size]? = some (.cells #[.int .i64 s.f0, .slice B s.f1.length d] 43 (0, 0)) := (TT _ ltFO).trans FO.out
    have nHO : Kd.S kItem 28 Vs w.heap.size (fun _ => True) (.slice B s.f1.length d) s.f1 := Kd.S_mono (Kd.S_step (HO.out) (fun k hk hlt => TT k hlt)) (fun _ hk => hk)
    have nHB : Below w.heap.size w Vs := by rw [← hWVs]; exact bel_then (HB.out) (drew_below0 _)
    clear hWVs F0 FA FR FO HB HO
    have F0 := Aside0.mk nF0
    clear nF0
    have FA := Aside0.mk nFA
    clear nFA
    have FR := Aside0.mk nFR
    clear nFR
    have FO := Aside0.mk nFO
    clear nFO
    have HO := Aside0.mk nHO
    clear nHO
    have HB := Aside0.mk nHB
    clear nHB
    replace HL := Aside0.mk (Nat.le_trans HL.out (by omega : w4.heap.size ≤ Vs.heap.size))
    clear TT TS ltF0 ltFA ltFR ltFO ltb ltl
    refine ta 0 ?_
    refine ta 1 ?_
    refine ta 2 ?_
    refine ta 3 ?_
    refine rdy (rs := [4]) ?_
    refine rc (fun K hK => ?k26) AllReadyH.nil
    case k26 =>
     go_simp
     refine Calls.mono (hti _) ?_
     rintro e V4 ⟨rfl, hw_⟩
     subst hw_
     refine hK.out _ _ ?h27 (fun hHeld => ?j27)
     case h27 => exact ⟨F0.out, FA.out⟩
     clear hK K
     try simp only [Act.put, List.setIfInBounds_toArray, List.set_cons_zero, List.set_cons_succ]
     refine ta 5 ?_
     refine ta 6 ?_
     refine ta 7 ?_
     refine tu 8 ?_
     refine tu 9 ?_
     refine tu 10 ?_
     refine tu 11 ?_
     refine tu 12 ?_
     refine tu 13 ?_
     refine tu 14 ?_
     refine tu 15 ?_
     refine ta 16 ?_
     refine wpAnyH_done (by kernel_rfl) ?_ _
     clear p0 p1 p2 p3 p4 hrc hti
     have zFO := blk_lt FO.out
     have cFO_0 : Vs.cell? ⟨w2.heap.size, 0, none⟩ = some (.int .i64 s.f0) := clq FO.out 0 rfl
     have cFO_1 : Vs.cell? ⟨w2.heap.size, 1, none⟩ = some (.slice B s.f1.length d) := clq FO.out 1 rfl
     have zFR := blk_lt FR.out
     have cFR_0 : Vs.cell? ⟨w.heap.size + 2, 0, none⟩ = some (.int .i64 0) := clq FR.out 0 rfl
     have dFR_0 := fzq FR.out 0
     have cFR_1 : Vs.cell? ⟨w.heap.size + 2, 1, none⟩ = some (.slice none 0 0) := clq FR.out 1 rfl
     have dFR_1 := fzq FR.out 1
     go_wp2
     refine bodyPost_ret (v := .tuple #[.agg #[.int .i64 s.f0, .slice B s.f1.length d], .bool false]) ?hrC rfl ?hpC
     case hrC => simp [results, Tryd.results21, go_sem, zFO, cFO_0, cFO_1, zFR, cFR_0, dFR_0, cFR_1, dFR_1]
     case hpC =>
      show spPost _ x q _ _ _
      rw [HXS.out.1, HXS.out.2]
      exact ⟨B, d, rfl, R_other (Kd.S_R HO.out) FR.out (by decide) ((grown_set1 _ _ _ _).trans (grown_set1 _ _ _ _)), by (with_reducible repeat (first | exact HB.out | refine bel_set ?_ _ ?_)); all_goals ((try dsimp only); omega)⟩
   ·go_wp2_with fail
    have HS40 : Aside0 (∀ W : World, (W.heap[w.heap.size]? = some (.cells #[.int .i64 s.f0, .slice (some ad) s.f1.length c0] 43 (0, 0)) ∧ W.heap[w.heap.size + 1]? = some (.cells #[.string a.f0, .string a.f1] 24 (0, 0)) ∧ W.heap[(ad.add (n * 5)).block]? = w.heap[(ad.add (n * 5)).block]?) → W.cell? ⟨w.heap.size, 0, none⟩ = some (.int .i64 s.f0) ∧ W.cell? ⟨w.heap.size, 1, none⟩ = some (.slice (some ad) s.f1.length c0) ∧ W.cell? ⟨w.heap.size + 1, 0, none⟩ = some (.string a.f0) ∧ W.cell? ⟨w.heap.size + 1, 1, none⟩ = some (.string a.f1) ∧ W.cell? (ad.add (n * 5)) = some (.int .i64 y.f0) ∧ W.cell? ⟨(ad.add (n * 5)).block, (ad.add (n * 5)).off + 1, none⟩ = some (.string y.f1.f0) ∧ W.cell? ⟨(ad.add (n * 5)).block, (ad.add (n * 5)).off + 2, none⟩ = some (.string y.f1.f1) ∧ W.cell? ⟨(ad.add (n * 5)).block, (ad.add (n * 5)).off + 3, none⟩ = some (.slice Q0 y.f2.length qc0) ∧ W.cell? ⟨(ad.add (n * 5)).block, (ad.add (n * 5)).off + 4, none⟩ = some (.slice Q1 y.f3.length qc1)) := ⟨fun W h => ⟨(by have h_ := h.1; simp [World.cell?, h_]), (by have h_ := h.1; simp [World.cell?, h_]), (by have h_ := h.2.1; simp [World.cell?, h_]), (by have h_ := h.2.1; simp [World.cell?, h_]), ((World.cell?_of_block h.2.2).trans p0), ((World.cell?_of_block (by exact h.2.2)).trans p1), ((World.cell?_of_block (by exact h.2.2)).trans p2), ((World.cell?_of_block (by exact h.2.2)).trans p3), ((World.cell?_of_block (by exact h.2.2)).trans p4)⟩⟩
    refine wp_region_held_drew (S := fun (W : World) => W.heap[w.heap.size]? = some (.cells #[.int .i64 s.f0, .slice (some ad) s.f1.length c0] 43 (0, 0)) ∧ W.heap[w.heap.size + 1]? = some (.cells #[.string a.f0, .string a.f1] 24 (0, 0)) ∧ W.heap[(ad.add (n * 5)).block]? = w.heap[(ad.add (n * 5)).block]?) (by kernel_rfl) ?s41 (fun hHeld => ?t41)
    case s41 => exact (show (fun (W : World) => W.heap[w.heap.size]? = some (.cells #[.int .i64 s.f0, .slice (some ad) s.f1.length c0] 43 (0, 0)) ∧ W.heap[w.heap.size + 1]? = some (.cells #[.string a.f0, .string a.f1] 24 (0, 0)) ∧ W.heap[(ad.add (n * 5)).block]? = w.heap[(ad.add (n * 5)).block]?) (World.drew w4) from ⟨F0.out, FA.out, HB.out.block _ lta⟩)
    generalize hWVs : World.drew (w4) = Vs at hHeld ⊢
    have ltF0 := blk_lt F0.out
    have ltFA := blk_lt FA.out
    have ltFR := blk_lt FR.out
    have ltFO := blk_lt FO.out
    have ltb := HB.out.size
    have ltl := HL.out
    have TT : ∀ k, k < w4.heap.size → Vs.heap[k]? = w4.heap[k]? := fun k hk => by rw [← hWVs]; (with_reducible repeat (first | rfl | refine hp_set ?_ ?_ | refine hp_alloc ?_ ?_ | refine hp_drew ?_)); all_goals (first | (with_reducible rfl) | omega | (dsimp only; omega) | (simp; omega))
    have TS : w4.heap.size + 0 ≤ Vs.heap.size := by rw [← hWVs]; simp
    have nF0 : Vs.heap[w.heap.size]? = some (.cells #[.int .i64 s.f0, .slice (some ad) s.f1.length c0] 43 (0, 0)) := (TT _ ltF0).trans F0.out
    have nFA : Vs.heap[w.heap.size + 1]? = some (.cells #[.string a.f0, .string a.f1] 24 (0, 0)) := (TT _ ltFA).trans FA.out
    have nFR : Vs.heap[w.heap.size + 2]? = some (.cells #[.int .i64 0, .slice none 0 0] 43 (0, 0)) := (TT _ ltFR).trans FR.out
    have nFO : Vs.heap[w2.heap.size]? = some (.cells #[.int .i64 s.f0, .slice B s.f1.length d] 43 (0, 0)) := (TT _ ltFO).trans FO.out
    have nHO : Kd.S kItem 28 Vs w.heap.size (fun _ => True) (.slice B s.f1.length d) s.f1 := Kd.S_mono (Kd.S_step (HO.out) (fun k hk hlt => TT k hlt)) (fun _ hk => hk)
    have nHB : Below w.heap.size w Vs := by rw [← hWVs]; exact bel_then (HB.out) (drew_below0 _)
    clear hWVs F0 FA FR FO HB HO
    have F0 := Aside0.mk nF0
    clear nF0
    have FA := Aside0.mk nFA
    clear nFA
    have FR := Aside0.mk nFR
    clear nFR
    have FO := Aside0.mk nFO
    clear nFO
    have HO := Aside0.mk nHO
    clear nHO
    have HB := Aside0.mk nHB
    clear nHB
    replace HL := Aside0.mk (Nat.le_trans HL.out (by omega : w4.heap.size ≤ Vs.heap.size))
    clear TT TS ltF0 ltFA ltFR ltFO ltb ltl
    refine ta 0 ?_
    refine ta 1 ?_
    refine ta 2 ?_
    refine ta 3 ?_
    refine rdy (rs := [4]) ?_
    refine rc (fun K hK => ?k46) AllReadyH.nil
    case k46 =>
     go_simp
     refine Calls.mono (hti _) ?_
     rintro e V4 ⟨rfl, hw_⟩
     subst hw_
     refine hK.out _ _ ?h47 (fun hHeld => ?j47)
     case h47 => exact ⟨F0.out, FA.out, HB.out.block _ lta⟩
     clear hK K
     try simp only [Act.put, List.setIfInBounds_toArray, List.set_cons_zero, List.set_cons_succ]
     refine ta 5 ?_
     refine ta 6 ?_
     refine ta 7 ?_
     refine ta 8 ?_
     refine tk 9 ?v52 ?y52 ?r52
     case y52 => intro w_ hSw; obtain ⟨e_0, e_1, e_2, e_3, e_4, e_5, e_6, e_7, e_8⟩ := HS40.out w_ hSw; clear hSw; go_simp; (try (with_reducible rfl))
     try simp only [Act.put, List.setIfInBounds_toArray, List.set_cons_zero, List.set_cons_succ]
     refine ta 10 ?_
     refine ta 11 ?_
     refine tk 12 ?v55 ?y55 ?r55
     case y55 => intro w_ hSw; obtain ⟨e_0, e_1, e_2, e_3, e_4, e_5, e_6, e_7, e_8⟩ := HS40.out w_ hSw; clear hSw; go_simp; (try (with_reducible rfl))
     try simp only [Act.put, List.setIfInBounds_toArray, List.set_cons_zero, List.set_cons_succ]
     refine tk 13 ?v56 ?y56 ?r56
     case y56 => intro w_ hSw; obtain ⟨e_0, e_1, e_2, e_3, e_4, e_5, e_6, e_7, e_8⟩ := HS40.out w_ hSw; clear hSw; go_simp; (try (with_reducible rfl))
     try simp only [Act.put, List.setIfInBounds_toArray, List.set_cons_zero, List.set_cons_succ]
     refine rdy (rs := [14]) ?_
     refine rc (fun K hK => ?k57) AllReadyH.nil
     case k57 =>
      go_simp
      refine Calls.mono (hrc _ HB.out) ?_
      rintro e V14 ⟨rfl, bV14⟩
      replace F0 := Aside0.mk (below_blk F0.out bV14)
      replace FA := Aside0.mk (below_blk FA.out bV14)
      replace FR := Aside0.mk (below_blk FR.out bV14)
      replace FO := Aside0.mk (below_blk FO.out bV14)
      replace HO := Aside0.mk (Kd.S_below HO.out bV14)
      replace HB := Aside0.mk (bel_then HB.out bV14)
      replace HL := Aside0.mk (Nat.le_trans HL.out bV14.size)
      clear bV14
      refine hK.out _ _ ?h58 (fun hHeld => ?j58)
      case h58 => exact ⟨F0.out, FA.out, HB.out.block _ lta⟩
      clear hK K
      try simp only [Act.put, List.setIfInBounds_toArray, List.set_cons_zero, List.set_cons_succ]
      refine ta 15 ?_
      refine ta 16 ?_
      refine wpAnyH_done (by kernel_rfl) ?_ _
      clear hti
      by_cases hk0 : k < 0
      ·have hqf : fq = false := by rw [HQ.out]; exact decide_eq_false (by omega)
       have HXS := Lib.hid (H0.out (by rw [hqf, Bool.false_and]))
       clear HQ hqf H0 H1 hrc p0 p1 p2 p3 p4 HTR
       have zFO := blk_lt FO.out
       have cFO_0 : V14.cell? ⟨w2.heap.size, 0, none⟩ = some (.int .i64 s.f0) := clq FO.out 0 rfl
       have cFO_1 : V14.cell? ⟨w2.heap.size, 1, none⟩ = some (.slice B s.f1.length d) := clq FO.out 1 rfl
       have zFR := blk_lt FR.out
       have cFR_0 : V14.cell? ⟨w.heap.size + 2, 0, none⟩ = some (.int .i64 0) := clq FR.out 0 rfl
       have dFR_0 := fzq FR.out 0
       have cFR_1 : V14.cell? ⟨w.heap.size + 2, 1, none⟩ = some (.slice none 0 0) := clq FR.out 1 rfl
       have dFR_1 := fzq FR.out 1
       go_wp2
       refine bodyPost_ret (v := .tuple #[.agg #[.int .i64 s.f0, .slice B s.f1.length d], .bool false]) ?hrD rfl ?hpD
       case hrD => simp [results, Tryd.results21, go_sem, zFO, cFO_0, cFO_1, zFR, cFR_0, dFR_0, cFR_1, dFR_1]
       case hpD =>
        show spPost _ x q _ _ _
        rw [HXS.out.1, HXS.out.2]
        exact ⟨B, d, rfl, R_other (Kd.S_R HO.out) FR.out (by decide) ((grown_set1 _ _ _ _).trans (grown_set1 _ _ _ _)), by (with_reducible repeat (first | exact HB.out | refine bel_set ?_ _ ?_)); all_goals ((try dsimp only); omega)⟩
      ·have hqt : fq = true := by rw [HQ.out]; exact decide_eq_true (by omega)
       have hxx := H1.out hqt HTQ.out.symm
       clear hqt HQ
       obtain ⟨m, rfl⟩ : ∃ m : Nat, k = (m : Int) := ⟨k.toNat, by omega⟩
       simp only [Int.toNat_natCast] at hxx
       rw [HY.out] at hxx
       have hm : m < y.f2.length := by
        rcases idx_nat (fun r : SRcpt => sameA r.f0 a) y.f2 with h7 | ⟨m2, h7, h8⟩
        ·have h9 : (m : Int) = -1 := HK.out.trans h7
         omega
        ·have h9 : (m : Int) = (m2 : Int) := HK.out.trans h7
         omega
       have hto := HTR.out m hm
       have hnow : 0 ≤ now ∧ now ≤ 9999 := by
        have h := HTQ.out.symm
        unfold timeOk at h
        simp only [Bool.and_eq_true, decide_eq_true_eq] at h
        exact h
       have hlp := fun W (hW : Below w.heap.size w W) (hS : Kd.R kItem 28 W w.heap.size (fun _ => True) (.slice B s.f1.length d) s.f1) => specLater_any w.heap.size s n m now B d W hW.size HW.out hn (by rw [HY.out]; exact hm) (by rw [HY.out]; exact hto.1) (by rw [HY.out]; exact hto.2) ⟨by omega, by omega⟩ hS
       unfold LaterPost at hlp
       rw [HY.out] at hlp
       have hll : (laterL s.f1 n m now).length = s.f1.length := by unfold laterL; rw [List.length_set]
       generalize laterL s.f1 n m now = LL at hxx hlp hll
       have HLP := Lib.hid hlp
       have HXX := Lib.hid hxx
       have HLL := Lib.hid hll
       clear hxx H0 H1 HK HTR hlp hll hto hnow
       go_wp2_with fail
       by_cases hno : laterNo (y.f2.getD m zRcpt) now
       ·have hxr := HXX.out.1 hno
        have HXS := Lib.hid hxr
        have HNO := Lib.hid hno
        clear hxr hno HXX
        have HS61 : Aside0 (∀ W : World, (W.heap[w.heap.size]? = some (.cells #[.int .i64 s.f0, .slice (some ad) s.f1.length c0] 43 (0, 0)) ∧ W.heap[w.heap.size + 1]? = some (.cells #[.string a.f0, .string a.f1] 24 (0, 0)) ∧ W.heap[w2.heap.size]? = some (.cells #[.int .i64 s.f0, .slice B s.f1.length d] 43 (0, 0)) ∧ W.heap[(ad.add (n * 5)).block]? = w.heap[(ad.add (n * 5)).block]?) → W.cell? ⟨w.heap.size, 0, none⟩ = some (.int .i64 s.f0) ∧ W.cell? ⟨w.heap.size, 1, none⟩ = some (.slice (some ad) s.f1.length c0) ∧ W.cell? ⟨w.heap.size + 1, 0, none⟩ = some (.string a.f0) ∧ W.cell? ⟨w.heap.size + 1, 1, none⟩ = some (.string a.f1) ∧ W.cell? ⟨w2.heap.size, 0, none⟩ = some (.int .i64 s.f0) ∧ W.cell? ⟨w2.heap.size, 1, none⟩ = some (.slice B s.f1.length d) ∧ W.cell? (ad.add (n * 5)) = some (.int .i64 y.f0) ∧ W.cell? ⟨(ad.add (n * 5)).block, (ad.add (n * 5)).off + 1, none⟩ = some (.string y.f1.f0) ∧ W.cell? ⟨(ad.add (n * 5)).block, (ad.add (n * 5)).off + 2, none⟩ = some (.string y.f1.f1) ∧ W.cell? ⟨(ad.add (n * 5)).block, (ad.add (n * 5)).off + 3, none⟩ = some (.slice Q0 y.f2.length qc0) ∧ W.cell? ⟨(ad.add (n * 5)).block, (ad.add (n * 5)).off + 4, none⟩ = some (.slice Q1 y.f3.length qc1)) := ⟨fun W h => ⟨(by have h_ := h.1; simp [World.cell?, h_]), (by have h_ := h.1; simp [World.cell?, h_]), (by have h_ := h.2.1; simp [World.cell?, h_]), (by have h_ := h.2.1; simp [World.cell?, h_]), (by have h_ := h.2.2.1; simp [World.cell?, h_]), (by have h_ := h.2.2.1; simp [World.cell?, h_]), ((World.cell?_of_block h.2.2.2).trans p0), ((World.cell?_of_block (by exact h.2.2.2)).trans p1), ((World.cell?_of_block (by exact h.2.2.2)).trans p2), ((World.cell?_of_block (by exact h.2.2.2)).trans p3), ((World.cell?_of_block (by exact h.2.2.2)).trans p4)⟩⟩
        refine wp_region_held_drew (S := fun (W : World) => W.heap[w.heap.size]? = some (.cells #[.int .i64 s.f0, .slice (some ad) s.f1.length c0] 43 (0, 0)) ∧ W.heap[w.heap.size + 1]? = some (.cells #[.string a.f0, .string a.f1] 24 (0, 0)) ∧ W.heap[w2.heap.size]? = some (.cells #[.int .i64 s.f0, .slice B s.f1.length d] 43 (0, 0)) ∧ W.heap[(ad.add (n * 5)).block]? = w.heap[(ad.add (n * 5)).block]?) (by kernel_rfl) ?s62 (fun hHeld => ?t62)
        case s62 => exact (show (fun (W : World) => W.heap[w.heap.size]? = some (.cells #[.int .i64 s.f0, .slice (some ad) s.f1.length c0] 43 (0, 0)) ∧ W.heap[w.heap.size + 1]? = some (.cells #[.string a.f0, .string a.f1] 24 (0, 0)) ∧ W.heap[w2.heap.size]? = some (.cells #[.int .i64 s.f0, .slice B s.f1.length d] 43 (0, 0)) ∧ W.heap[(ad.add (n * 5)).block]? = w.heap[(ad.add (n * 5)).block]?) (World.drew V14) from ⟨F0.out, FA.out, FO.out, HB.out.block _ lta⟩)
        generalize hWVt : World.drew (V14) = Vt at hHeld ⊢
        have ltF0 := blk_lt F0.out
        have ltFA := blk_lt FA.out
        have ltFR := blk_lt FR.out
        have ltFO := blk_lt FO.out
        have ltb := HB.out.size
        have ltl := HL.out
        have TT : ∀ k, k < V14.heap.size → Vt.heap[k]? = V14.heap[k]? := fun k hk => by rw [← hWVt]; (with_reducible repeat (first | rfl | refine hp_set ?_ ?_ | refine hp_alloc ?_ ?_ | refine hp_drew ?_)); all_goals (first | (with_reducible rfl) | omega | (dsimp only; omega) | (simp; omega))
        have TS : V14.heap.size + 0 ≤ Vt.heap.size := by rw [← hWVt]; simp
        have nF0 : Vt.heap[w.heap.size]? = some (.cells #[.int .i64 s.f0, .slice (some ad) s.f1.length c0] 43 (0, 0)) := (TT _ ltF0).trans F0.out
        have nFA : Vt.heap[w.heap.size + 1]? = some (.cells #[.string a.f0, .string a.f1] 24 (0, 0)) := (TT _ ltFA).trans FA.out
        have nFR : Vt.heap[w.heap.size + 2]? = some (.cells #[.int .i64 0, .slice none 0 0] 43 (0, 0)) := (TT _ ltFR).trans FR.out
        have nFO : Vt.heap[w2.heap.size]? = some (.cells #[.int .i64 s.f0, .slice B s.f1.length d] 43 (0, 0)) := (TT _ ltFO).trans FO.out
        have nHO : Kd.S kItem 28 Vt w.heap.size (fun _ => True) (.slice B s.f1.length d) s.f1 := Kd.S_mono (Kd.S_step (HO.out) (fun k hk hlt => TT k hlt)) (fun _ hk => hk)
        have nHB : Below w.heap.size w Vt := by rw [← hWVt]; exact bel_then (HB.out) (drew_below0 _)
        clear hWVt F0 FA FR FO HB HO
        have F0 := Aside0.mk nF0
        clear nF0
        have FA := Aside0.mk nFA
        clear nFA
        have FR := Aside0.mk nFR
        clear nFR
        have FO := Aside0.mk nFO
        clear nFO
        have HO := Aside0.mk nHO
        clear nHO
        have HB := Aside0.mk nHB
        clear nHB
        replace HL := Aside0.mk (Nat.le_trans HL.out (by omega : V14.heap.size ≤ Vt.heap.size))
        clear TT TS ltF0 ltFA ltFR ltFO ltb ltl
        refine tk 0 ?v63 ?y63 ?r63
        case y63 => intro w_ hSw; obtain ⟨e_0, e_1, e_2, e_3, e_4, e_5, e_6, e_7, e_8, e_9, e_10⟩ := HS61.out w_ hSw; clear hSw; go_simp; (try (with_reducible rfl))
        try simp only [Act.put, List.setIfInBounds_toArray, List.set_cons_zero, List.set_cons_succ]
        refine ta 1 ?_
        refine ta 2 ?_
        refine tk 3 ?v66 ?y66 ?r66
        case y66 => intro w_ hSw; obtain ⟨e_0, e_1, e_2, e_3, e_4, e_5, e_6, e_7, e_8, e_9, e_10⟩ := HS61.out w_ hSw; clear hSw; go_simp; (try (with_reducible rfl))
        try simp only [Act.put, List.setIfInBounds_toArray, List.set_cons_zero, List.set_cons_succ]
        refine ta 4 ?_
        refine ta 5 ?_
        refine tk 6 ?v69 ?y69 ?r69
        case y69 => intro w_ hSw; obtain ⟨e_0, e_1, e_2, e_3, e_4, e_5, e_6, e_7, e_8, e_9, e_10⟩ := HS61.out w_ hSw; clear hSw; go_simp; (try (with_reducible rfl))
        try simp only [Act.put, List.setIfInBounds_toArray, List.set_cons_zero, List.set_cons_succ]
        refine tk 7 ?v70 ?y70 ?r70
        case y70 => intro w_ hSw; obtain ⟨e_0, e_1, e_2, e_3, e_4, e_5, e_6, e_7, e_8, e_9, e_10⟩ := HS61.out w_ hSw; clear hSw; go_simp; (try (with_reducible rfl))
        try simp only [Act.put, List.setIfInBounds_toArray, List.set_cons_zero, List.set_cons_succ]
        refine ta 9 ?_
        refine rdy (rs := [8, 14]) ?_
        refine rc (fun K hK => ?k72) (rc (fun K hK => ?k73) AllReadyH.nil)
        case k72 =>
         go_simp
         refine Calls.mono (hrc _ HB.out) ?_
         rintro e V8 ⟨rfl, bV8⟩
         replace F0 := Aside0.mk (below_blk F0.out bV8)
         replace FA := Aside0.mk (below_blk FA.out bV8)
         replace FR := Aside0.mk (below_blk FR.out bV8)
         replace FO := Aside0.mk (below_blk FO.out bV8)
         replace HO := Aside0.mk (Kd.S_below HO.out bV8)
         replace HB := Aside0.mk (bel_then HB.out bV8)
         replace HL := Aside0.mk (Nat.le_trans HL.out bV8.size)
         clear bV8
         refine hK.out _ _ ?h74 (fun hHeld => ?j74)
         case h74 => exact ⟨F0.out, FA.out, FO.out, HB.out.block _ lta⟩
         clear hK K
         try simp only [Act.put, List.setIfInBounds_toArray, List.set_cons_zero, List.set_cons_succ]
         refine rdy (rs := [10, 14]) ?_
         refine rc (fun K hK => ?k75) (rc (fun K hK => ?k76) AllReadyH.nil)
         case k75 =>
          go_simp
          refine Calls.mono (Calls.mono (HLP.out V8 HB.out (Kd.S_R HO.out)) (fun e w' h => h.1 HNO.out)) ?_
          rintro e V10 ⟨rfl, bV10⟩
          replace F0 := Aside0.mk (below_blk F0.out bV10)
          replace FA := Aside0.mk (below_blk FA.out bV10)
          replace FR := Aside0.mk (below_blk FR.out bV10)
          replace FO := Aside0.mk (below_blk FO.out bV10)
          replace HO := Aside0.mk (Kd.S_below HO.out bV10)
          replace HB := Aside0.mk (bel_then HB.out bV10)
          replace HL := Aside0.mk (Nat.le_trans HL.out bV10.size)
          clear bV10
          refine hK.out _ _ ?h77 (fun hHeld => ?j77)
          case h77 => exact ⟨F0.out, FA.out, FO.out, HB.out.block _ lta⟩
          clear hK K
          try simp only [Act.put, List.setIfInBounds_toArray, List.set_cons_zero, List.set_cons_succ]
          refine ta 11 ?_
          refine ta 12 ?_
          refine ta 13 ?_
          refine rdy (rs := [14]) ?_
          refine rc (fun K hK => ?k81) AllReadyH.nil
          case k81 =>
           go_simp
           generalize hWV14 : World.alloc (V10) _ = V14
           have ltF0 := blk_lt F0.out
           have ltFA := blk_lt FA.out
           have ltFR := blk_lt FR.out
           have ltFO := blk_lt FO.out
           have ltb := HB.out.size
           have ltl := HL.out
           have TT : ∀ k, k < V10.heap.size → V14.heap[k]? = V10.heap[k]? := fun k hk => by rw [← hWV14]; (with_reducible repeat (first | rfl | refine hp_set ?_ ?_ | refine hp_alloc ?_ ?_ | refine hp_drew ?_)); all_goals (first | (with_reducible rfl) | omega | (dsimp only; omega) | (simp; omega))
           have TS : V10.heap.size + 1 ≤ V14.heap.size := by rw [← hWV14]; simp
           have nF0 : V14.heap[w.heap.size]? = some (.cells #[.int .i64 s.f0, .slice (some ad) s.f1.length c0] 43 (0, 0)) := (TT _ ltF0).trans F0.out
           have nFA : V14.heap[w.heap.size + 1]? = some (.cells #[.string a.f0, .string a.f1] 24 (0, 0)) := (TT _ ltFA).trans FA.out
           have nFR : V14.heap[w.heap.size + 2]? = some (.cells #[.int .i64 0, .slice none 0 0] 43 (0, 0)) := (TT _ ltFR).trans FR.out
           have nFO : V14.heap[w2.heap.size]? = some (.cells #[.int .i64 s.f0, .slice B s.f1.length d] 43 (0, 0)) := (TT _ ltFO).trans FO.out
           have nFX : V14.heap[V10.heap.size]? = some (.cells #[.int .i64 0, .slice none 0 0] 43 (0, 0)) := by rw [← hWV14]; exact blk_new V10 (.cells #[.int .i64 0, .slice none 0 0] 43)
           have nHO : Kd.S kItem 28 V14 w.heap.size (fun _ => True) (.slice B s.f1.length d) s.f1 := Kd.S_mono (Kd.S_step (HO.out) (fun k hk hlt => TT k hlt)) (fun _ hk => hk)
           have nHB : Below w.heap.size w V14 := by rw [← hWV14]; exact bel_alloc (HB.out) _
           clear hWV14 F0 FA FR FO HB HO
           have F0 := Aside0.mk nF0
           clear nF0
           have FA := Aside0.mk nFA
           clear nFA
           have FR := Aside0.mk nFR
           clear nFR
           have FO := Aside0.mk nFO
           clear nFO
           have FX := Aside0.mk nFX
           clear nFX
           have HO := Aside0.mk nHO
           clear nHO
           have HB := Aside0.mk nHB
           clear nHB
           have oFX_ltF0 := ltF0
           have oFX_ltFA := ltFA
           have oFX_ltFR := ltFR
           have oFX_ltFO := ltFO
           have oFX_ltl := ltl
           have oFX_ts := TS
           replace HL := Aside0.mk (Nat.le_trans HL.out (by omega : V10.heap.size ≤ V14.heap.size))
           clear TT TS ltF0 ltFA ltFR ltFO ltb ltl
           refine hK.out _ _ ?h82 (fun hHeld => ?j82)
           case h82 => exact ⟨F0.out, FA.out, FO.out, HB.out.block _ lta⟩
           clear hK K
           try simp only [Act.put, List.setIfInBounds_toArray, List.set_cons_zero, List.set_cons_succ]
           refine rdy (rs := [15]) ?_
           refine rc (fun K hK => ?k83) AllReadyH.nil
           case k83 =>
            have zFX := blk_lt FX.out
            have cFX_0 : V14.cell? ⟨V10.heap.size, 0, none⟩ = some (.int .i64 0) := clq FX.out 0 rfl
            have dFX_0 := fzq FX.out 0
            have cFX_1 : V14.cell? ⟨V10.heap.size, 1, none⟩ = some (.slice none 0 0) := clq FX.out 1 rfl
            have dFX_1 := fzq FX.out 1
            go_simp
            generalize hWV15 : World.setCell (World.setCell (V14) _ _) _ _ = V15
            have ltF0 := blk_lt F0.out
            have ltFA := blk_lt FA.out
            have ltFR := blk_lt FR.out
            have ltFO := blk_lt FO.out
            have ltFX := blk_lt FX.out
            have ltb := HB.out.size
            have ltl := HL.out
            have TT : ∀ k, k < V14.heap.size → k ≠ V10.heap.size → V15.heap[k]? = V14.heap[k]? := fun k hk n_FX => by rw [← hWV15]; (with_reducible repeat (first | rfl | refine hp_set ?_ ?_ | refine hp_alloc ?_ ?_ | refine hp_drew ?_)); all_goals (first | (with_reducible rfl) | omega | (dsimp only; omega) | (simp; omega))
            have TS : V14.heap.size + 0 ≤ V15.heap.size := by rw [← hWV15]; simp
            have nF0 : V15.heap[w.heap.size]? = some (.cells #[.int .i64 s.f0, .slice (some ad) s.f1.length c0] 43 (0, 0)) := (TT _ ltF0 (by omega)).trans F0.out
            have nFA : V15.heap[w.heap.size + 1]? = some (.cells #[.string a.f0, .string a.f1] 24 (0, 0)) := (TT _ ltFA (by omega)).trans FA.out
            have nFR : V15.heap[w.heap.size + 2]? = some (.cells #[.int .i64 0, .slice none 0 0] 43 (0, 0)) := (TT _ ltFR (by omega)).trans FR.out
            have nFO : V15.heap[w2.heap.size]? = some (.cells #[.int .i64 s.f0, .slice B s.f1.length d] 43 (0, 0)) := (TT _ ltFO (by omega)).trans FO.out
            have nFX : V15.heap[V10.heap.size]? = some (.cells #[.int .i64 s.f0, .slice B s.f1.length d] 43 (0, 0)) := by rw [← hWV15]; have h := blk_set1 (blk_set1 (FX.out) 0 (.int .i64 s.f0)) 1 (.slice B s.f1.length d); simpa using h
            have nHO : Kd.S kItem 28 V15 w.heap.size (fun _ => True) (.slice B s.f1.length d) s.f1 := Kd.S_mono (Kd.S_step (Kd.S_types (HO.out) FX.out (by decide)) (fun k hk hlt => TT k hlt (hk.2))) (fun _ hk => hk.1)
            have nHB : Below w.heap.size w V15 := by rw [← hWV15]; exact bel_set (bel_set (HB.out) _ (by show w.heap.size ≤ V10.heap.size; first | omega | (simp; omega))) _ (by show w.heap.size ≤ V10.heap.size; first | omega | (simp; omega))
            clear zFX cFX_0 dFX_0 cFX_1 dFX_1
            clear hWV15 F0 FA FR FO FX HB HO
            have F0 := Aside0.mk nF0
            clear nF0
            have FA := Aside0.mk nFA
            clear nFA
            have FR := Aside0.mk nFR
            clear nFR
            have FO := Aside0.mk nFO
            clear nFO
            have FX := Aside0.mk nFX
            clear nFX
            have HO := Aside0.mk nHO
            clear nHO
            have HB := Aside0.mk nHB
            clear nHB
            replace HL := Aside0.mk (Nat.le_trans HL.out (by omega : V14.heap.size ≤ V15.heap.size))
            clear TT TS ltF0 ltFA ltFR ltFO ltFX ltb ltl
            refine hK.out _ _ ?h84 (fun hHeld => ?j84)
            case h84 => exact ⟨F0.out, FA.out, FO.out, HB.out.block _ lta⟩
            clear hK K
            try simp only [Act.put, List.setIfInBounds_toArray, List.set_cons_zero, List.set_cons_succ]
            refine ta 16 ?_
            refine wpAnyH_done (by kernel_rfl) ?_ _
            clear p0 p1 p2 p3 p4 hrc
            have zFX := blk_lt FX.out
            have cFX_0 : V15.cell? ⟨V10.heap.size, 0, none⟩ = some (.int .i64 s.f0) := clq FX.out 0 rfl
            have cFX_1 : V15.cell? ⟨V10.heap.size, 1, none⟩ = some (.slice B s.f1.length d) := clq FX.out 1 rfl
            have zFR := blk_lt FR.out
            have cFR_0 : V15.cell? ⟨w.heap.size + 2, 0, none⟩ = some (.int .i64 0) := clq FR.out 0 rfl
            have dFR_0 := fzq FR.out 0
            have cFR_1 : V15.cell? ⟨w.heap.size + 2, 1, none⟩ = some (.slice none 0 0) := clq FR.out 1 rfl
            have dFR_1 := fzq FR.out 1
            go_wp2
            refine bodyPost_ret (v := .tuple #[.agg #[.int .i64 s.f0, .slice B s.f1.length d], .bool false]) ?hrE rfl ?hpE
            case hrE => simp [results, Tryd.results21, go_sem, zFX, cFX_0, cFX_1, zFR, cFR_0, dFR_0, cFR_1, dFR_1]
            case hpE =>
             show spPost _ x q _ _ _
             rw [HXS.out.1, HXS.out.2]
             exact ⟨B, d, rfl, R_other (Kd.S_R HO.out) FR.out (by decide) ((grown_set1 _ _ _ _).trans (grown_set1 _ _ _ _)), by (with_reducible repeat (first | exact HB.out | refine bel_set ?_ _ ?_)); all_goals ((try dsimp only); omega)⟩
         case k76 =>
          go_simp
          generalize hWV14 : World.alloc (V8) _ = V14
          have ltF0 := blk_lt F0.out
          have ltFA := blk_lt FA.out
          have ltFR := blk_lt FR.out
          have ltFO := blk_lt FO.out
          have ltb := HB.out.size
          have ltl := HL.out
          have TT : ∀ k, k < V8.heap.size → V14.heap[k]? = V8.heap[k]? := fun k hk => by rw [← hWV14]; (with_reducible repeat (first | rfl | refine hp_set ?_ ?_ | refine hp_alloc ?_ ?_ | refine hp_drew ?_)); all_goals (first | (with_reducible rfl) | omega | (dsimp only; omega) | (simp; omega))
          have TS : V8.heap.size + 1 ≤ V14.heap.size := by rw [← hWV14]; simp
          have nF0 : V14.heap[w.heap.size]? = some (.cells #[.int .i64 s.f0, .slice (some ad) s.f1.length c0] 43 (0, 0)) := (TT _ ltF0).trans F0.out
          have nFA : V14.heap[w.heap.size + 1]? = some (.cells #[.string a.f0, .string a.f1] 24 (0, 0)) := (TT _ ltFA).trans FA.out
          have nFR : V14.heap[w.heap.size + 2]? = some (.cells #[.int .i64 0, .slice none 0 0] 43 (0, 0)) := (TT _ ltFR).trans FR.out
          have nFO : V14.heap[w2.heap.size]? = some (.cells #[.int .i64 s.f0, .slice B s.f1.length d] 43 (0, 0)) := (TT _ ltFO).trans FO.out
          have nFX : V14.heap[V8.heap.size]? = some (.cells #[.int .i64 0, .slice none 0 0] 43 (0, 0)) := by rw [← hWV14]; exact blk_new V8 (.cells #[.int .i64 0, .slice none 0 0] 43)
          have nHO : Kd.S kItem 28 V14 w.heap.size (fun _ => True) (.slice B s.f1.length d) s.f1 := Kd.S_mono (Kd.S_step (HO.out) (fun k hk hlt => TT k hlt)) (fun _ hk => hk)
          have nHB : Below w.heap.size w V14 := by rw [← hWV14]; exact bel_alloc (HB.out) _
          clear hWV14 F0 FA FR FO HB HO
          have F0 := Aside0.mk nF0
          clear nF0
          have FA := Aside0.mk nFA
          clear nFA
          have FR := Aside0.mk nFR
          clear nFR
          have FO := Aside0.mk nFO
          clear nFO
          have FX := Aside0.mk nFX
          clear nFX
          have HO := Aside0.mk nHO
          clear nHO
          have HB := Aside0.mk nHB
          clear nHB
          have oFX_ltF0 := ltF0
          have oFX_ltFA := ltFA
          have oFX_ltFR := ltFR
          have oFX_ltFO := ltFO
          have oFX_ltl := ltl
          have oFX_ts := TS
          replace HL := Aside0.mk (Nat.le_trans HL.out (by omega : V8.heap.size ≤ V14.heap.size))
          clear TT TS ltF0 ltFA ltFR ltFO ltb ltl
          refine hK.out _ _ ?h86 (fun hHeld => ?j86)
          case h86 => exact ⟨F0.out, FA.out, FO.out, HB.out.block _ lta⟩
          clear hK K
          try simp only [Act.put, List.setIfInBounds_toArray, List.set_cons_zero, List.set_cons_succ]
          refine rdy (rs := [10]) ?_
          refine rc (fun K hK => ?k87) AllReadyH.nil
          case k87 =>
           go_simp
           refine Calls.mono (Calls.mono (HLP.out V14 HB.out (Kd.S_R HO.out)) (fun e w' h => h.1 HNO.out)) ?_
           rintro e V10 ⟨rfl, bV10⟩
           replace F0 := Aside0.mk (below_blk F0.out bV10)
           replace FA := Aside0.mk (below_blk FA.out bV10)
           replace FR := Aside0.mk (below_blk FR.out bV10)
           replace FO := Aside0.mk (below_blk FO.out bV10)
           replace FX := Aside0.mk (below_blk FX.out bV10)
           replace HO := Aside0.mk (Kd.S_below HO.out bV10)
           replace HB := Aside0.mk (bel_then HB.out bV10)
           replace HL := Aside0.mk (Nat.le_trans HL.out bV10.size)
           clear bV10
           refine hK.out _ _ ?h88 (fun hHeld => ?j88)
           case h88 => exact ⟨F0.out, FA.out, FO.out, HB.out.block _ lta⟩
           clear hK K
           try simp only [Act.put, List.setIfInBounds_toArray, List.set_cons_zero, List.set_cons_succ]
           refine ta 11 ?_
           refine ta 12 ?_
           refine ta 13 ?_
           refine rdy (rs := [15]) ?_
           refine rc (fun K hK => ?k92) AllReadyH.nil
           case k92 =>
            have zFX := blk_lt FX.out
            have cFX_0 : V10.cell? ⟨V8.heap.size, 0, none⟩ = some (.int .i64 0) := clq FX.out 0 rfl
            have dFX_0 := fzq FX.out 0
            have cFX_1 : V10.cell? ⟨V8.heap.size, 1, none⟩ = some (.slice none 0 0) := clq FX.out 1 rfl
            have dFX_1 := fzq FX.out 1
            go_simp
            generalize hWV15 : World.setCell (World.setCell (V10) _ _) _ _ = V15
            have ltF0 := blk_lt F0.out
            have ltFA := blk_lt FA.out
            have ltFR := blk_lt FR.out
            have ltFO := blk_lt FO.out
            have ltFX := blk_lt FX.out
            have ltb := HB.out.size
            have ltl := HL.out
            have TT : ∀ k, k < V10.heap.size → k ≠ V8.heap.size → V15.heap[k]? = V10.heap[k]? := fun k hk n_FX => by rw [← hWV15]; (with_reducible repeat (first | rfl | refine hp_set ?_ ?_ | refine hp_alloc ?_ ?_ | refine hp_drew ?_)); all_goals (first | (with_reducible rfl) | omega | (dsimp only; omega) | (simp; omega))
            have TS : V10.heap.size + 0 ≤ V15.heap.size := by rw [← hWV15]; simp
            have nF0 : V15.heap[w.heap.size]? = some (.cells #[.int .i64 s.f0, .slice (some ad) s.f1.length c0] 43 (0, 0)) := (TT _ ltF0 (by omega)).trans F0.out
            have nFA : V15.heap[w.heap.size + 1]? = some (.cells #[.string a.f0, .string a.f1] 24 (0, 0)) := (TT _ ltFA (by omega)).trans FA.out
            have nFR : V15.heap[w.heap.size + 2]? = some (.cells #[.int .i64 0, .slice none 0 0] 43 (0, 0)) := (TT _ ltFR (by omega)).trans FR.out
            have nFO : V15.heap[w2.heap.size]? = some (.cells #[.int .i64 s.f0, .slice B s.f1.length d] 43 (0, 0)) := (TT _ ltFO (by omega)).trans FO.out
            have nFX : V15.heap[V8.heap.size]? = some (.cells #[.int .i64 s.f0, .slice B s.f1.length d] 43 (0, 0)) := by rw [← hWV15]; have h := blk_set1 (blk_set1 (FX.out) 0 (.int .i64 s.f0)) 1 (.slice B s.f1.length d); simpa using h
            have nHO : Kd.S kItem 28 V15 w.heap.size (fun _ => True) (.slice B s.f1.length d) s.f1 := Kd.S_mono (Kd.S_step (Kd.S_types (HO.out) FX.out (by decide)) (fun k hk hlt => TT k hlt (hk.2))) (fun _ hk => hk.1)
            have nHB : Below w.heap.size w V15 := by rw [← hWV15]; exact bel_set (bel_set (HB.out) _ (by show w.heap.size ≤ V8.heap.size; first | omega | (simp; omega))) _ (by show w.heap.size ≤ V8.heap.size; first | omega | (simp; omega))
            clear zFX cFX_0 dFX_0 cFX_1 dFX_1
            clear hWV15 F0 FA FR FO FX HB HO
            have F0 := Aside0.mk nF0
            clear nF0
            have FA := Aside0.mk nFA
            clear nFA
            have FR := Aside0.mk nFR
            clear nFR
            have FO := Aside0.mk nFO
            clear nFO
            have FX := Aside0.mk nFX
            clear nFX
            have HO := Aside0.mk nHO
            clear nHO
            have HB := Aside0.mk nHB
            clear nHB
            replace HL := Aside0.mk (Nat.le_trans HL.out (by omega : V10.heap.size ≤ V15.heap.size))
            clear TT TS ltF0 ltFA ltFR ltFO ltFX ltb ltl
            refine hK.out _ _ ?h93 (fun hHeld => ?j93)
            case h93 => exact ⟨F0.out, FA.out, FO.out, HB.out.block _ lta⟩
            clear hK K
            try simp only [Act.put, List.setIfInBounds_toArray, List.set_cons_zero, List.set_cons_succ]
            refine ta 16 ?_
            refine wpAnyH_done (by kernel_rfl) ?_ _
            clear p0 p1 p2 p3 p4 hrc
            have zFX := blk_lt FX.out
            have cFX_0 : V15.cell? ⟨V8.heap.size, 0, none⟩ = some (.int .i64 s.f0) := clq FX.out 0 rfl
            have cFX_1 : V15.cell? ⟨V8.heap.size, 1, none⟩ = some (.slice B s.f1.length d) := clq FX.out 1 rfl
            have zFR := blk_lt FR.out
            have cFR_0 : V15.cell? ⟨w.heap.size + 2, 0, none⟩ = some (.int .i64 0) := clq FR.out 0 rfl
            have dFR_0 := fzq FR.out 0
            have cFR_1 : V15.cell? ⟨w.heap.size + 2, 1, none⟩ = some (.slice none 0 0) := clq FR.out 1 rfl
            have dFR_1 := fzq FR.out 1
            go_wp2
            refine bodyPost_ret (v := .tuple #[.agg #[.int .i64 s.f0, .slice B s.f1.length d], .bool false]) ?hrE rfl ?hpE
            case hrE => simp [results, Tryd.results21, go_sem, zFX, cFX_0, cFX_1, zFR, cFR_0, dFR_0, cFR_1, dFR_1]
            case hpE =>
             show spPost _ x q _ _ _
             rw [HXS.out.1, HXS.out.2]
             exact ⟨B, d, rfl, R_other (Kd.S_R HO.out) FR.out (by decide) ((grown_set1 _ _ _ _).trans (grown_set1 _ _ _ _)), by (with_reducible repeat (first | exact HB.out | refine bel_set ?_ _ ?_)); all_goals ((try dsimp only); omega)⟩
        case k73 =>
         go_simp
         generalize hWV14 : World.alloc (Vt) _ = V14
         have ltF0 := blk_lt F0.out
         have ltFA := blk_lt FA.out
         have ltFR := blk_lt FR.out
         have ltFO := blk_lt FO.out
         have ltb := HB.out.size
         have ltl := HL.out
         have TT : ∀ k, k < Vt.heap.size → V14.heap[k]? = Vt.heap[k]? := fun k hk => by rw [← hWV14]; (with_reducible repeat (first | rfl | refine hp_set ?_ ?_ | refine hp_alloc ?_ ?_ | refine hp_drew ?_)); all_goals (first | (with_reducible rfl) | omega | (dsimp only; omega) | (simp; omega))
         have TS : Vt.heap.size + 1 ≤ V14.heap.size := by rw [← hWV14]; simp
         have nF0 : V14.heap[w.heap.size]? = some (.cells #[.int .i64 s.f0, .slice (some ad) s.f1.length c0] 43 (0, 0)) := (TT _ ltF0).trans F0.out
         have nFA : V14.heap[w.heap.size + 1]? = some (.cells #[.string a.f0, .string a.f1] 24 (0, 0)) := (TT _ ltFA).trans FA.out
         have nFR : V14.heap[w.heap.size + 2]? = some (.cells #[.int .i64 0, .slice none 0 0] 43 (0, 0)) := (TT _ ltFR).trans FR.out
         have nFO : V14.heap[w2.heap.size]? = some (.cells #[.int .i64 s.f0, .slice B s.f1.length d] 43 (0, 0)) := (TT _ ltFO).trans FO.out
         have nFX : V14.heap[Vt.heap.size]? = some (.cells #[.int .i64 0, .slice none 0 0] 43 (0, 0)) := by rw [← hWV14]; exact blk_new Vt (.cells #[.int .i64 0, .slice none 0 0] 43)
         have nHO : Kd.S kItem 28 V14 w.heap.size (fun _ => True) (.slice B s.f1.length d) s.f1 := Kd.S_mono (Kd.S_step (HO.out) (fun k hk hlt => TT k hlt)) (fun _ hk => hk)
         have nHB : Below w.heap.size w V14 := by rw [← hWV14]; exact bel_alloc (HB.out) _
         clear hWV14 F0 FA FR FO HB HO
         have F0 := Aside0.mk nF0
         clear nF0
         have FA := Aside0.mk nFA
         clear nFA
         have FR := Aside0.mk nFR
         clear nFR
         have FO := Aside0.mk nFO
         clear nFO
         have FX := Aside0.mk nFX
         clear nFX
         have HO := Aside0.mk nHO
         clear nHO
         have HB := Aside0.mk nHB
         clear nHB
         have oFX_ltF0 := ltF0
         have oFX_ltFA := ltFA
         have oFX_ltFR := ltFR
         have oFX_ltFO := ltFO
         have oFX_ltl := ltl
         have oFX_ts := TS
         replace HL := Aside0.mk (Nat.le_trans HL.out (by omega : Vt.heap.size ≤ V14.heap.size))
         clear TT TS ltF0 ltFA ltFR ltFO ltb ltl
         refine hK.out _ _ ?h95 (fun hHeld => ?j95)
         case h95 => exact ⟨F0.out, FA.out, FO.out, HB.out.block _ lta⟩
         clear hK K
         try simp only [Act.put, List.setIfInBounds_toArray, List.set_cons_zero, List.set_cons_succ]
         refine rdy (rs := [8]) ?_
         refine rc (fun K hK => ?k96) AllReadyH.nil
         case k96 =>
          go_simp
          refine Calls.mono (hrc _ HB.out) ?_
          rintro e V8 ⟨rfl, bV8⟩
          replace F0 := Aside0.mk (below_blk F0.out bV8)
          replace FA := Aside0.mk (below_blk FA.out bV8)
          replace FR := Aside0.mk (below_blk FR.out bV8)
          replace FO := Aside0.mk (below_blk FO.out bV8)
          replace FX := Aside0.mk (below_blk FX.out bV8)
          replace HO := Aside0.mk (Kd.S_below HO.out bV8)
          replace HB := Aside0.mk (bel_then HB.out bV8)
          replace HL := Aside0.mk (Nat.le_trans HL.out bV8.size)
          clear bV8
          refine hK.out _ _ ?h97 (fun hHeld => ?j97)
          case h97 => exact ⟨F0.out, FA.out, FO.out, HB.out.block _ lta⟩
          clear hK K
          try simp only [Act.put, List.setIfInBounds_toArray, List.set_cons_zero, List.set_cons_succ]
          refine rdy (rs := [10]) ?_
          refine rc (fun K hK => ?k98) AllReadyH.nil
          case k98 =>
           go_simp
           refine Calls.mono (Calls.mono (HLP.out V8 HB.out (Kd.S_R HO.out)) (fun e w' h => h.1 HNO.out)) ?_
           rintro e V10 ⟨rfl, bV10⟩
           replace F0 := Aside0.mk (below_blk F0.out bV10)
           replace FA := Aside0.mk (below_blk FA.out bV10)
           replace FR := Aside0.mk (below_blk FR.out bV10)
           replace FO := Aside0.mk (below_blk FO.out bV10)
           replace FX := Aside0.mk (below_blk FX.out bV10)
           replace HO := Aside0.mk (Kd.S_below HO.out bV10)
           replace HB := Aside0.mk (bel_then HB.out bV10)
           replace HL := Aside0.mk (Nat.le_trans HL.out bV10.size)
           clear bV10
           refine hK.out _ _ ?h99 (fun hHeld => ?j99)
           case h99 => exact ⟨F0.out, FA.out, FO.out, HB.out.block _ lta⟩
           clear hK K
           try simp only [Act.put, List.setIfInBounds_toArray, List.set_cons_zero, List.set_cons_succ]
           refine ta 11 ?_
           refine ta 12 ?_
           refine ta 13 ?_
           refine rdy (rs := [15]) ?_
           refine rc (fun K hK => ?k103) AllReadyH.nil
           case k103 =>
            have zFX := blk_lt FX.out
            have cFX_0 : V10.cell? ⟨Vt.heap.size, 0, none⟩ = some (.int .i64 0) := clq FX.out 0 rfl
            have dFX_0 := fzq FX.out 0
            have cFX_1 : V10.cell? ⟨Vt.heap.size, 1, none⟩ = some (.slice none 0 0) := clq FX.out 1 rfl
            have dFX_1 := fzq FX.out 1
            go_simp
            generalize hWV15 : World.setCell (World.setCell (V10) _ _) _ _ = V15
            have ltF0 := blk_lt F0.out
            have ltFA := blk_lt FA.out
            have ltFR := blk_lt FR.out
            have ltFO := blk_lt FO.out
            have ltFX := blk_lt FX.out
            have ltb := HB.out.size
            have ltl := HL.out
            have TT : ∀ k, k < V10.heap.size → k ≠ Vt.heap.size → V15.heap[k]? = V10.heap[k]? := fun k hk n_FX => by rw [← hWV15]; (with_reducible repeat (first | rfl | refine hp_set ?_ ?_ | refine hp_alloc ?_ ?_ | refine hp_drew ?_)); all_goals (first | (with_reducible rfl) | omega | (dsimp only; omega) | (simp; omega))
            have TS : V10.heap.size + 0 ≤ V15.heap.size := by rw [← hWV15]; simp
            have nF0 : V15.heap[w.heap.size]? = some (.cells #[.int .i64 s.f0, .slice (some ad) s.f1.length c0] 43 (0, 0)) := (TT _ ltF0 (by omega)).trans F0.out
            have nFA : V15.heap[w.heap.size + 1]? = some (.cells #[.string a.f0, .string a.f1] 24 (0, 0)) := (TT _ ltFA (by omega)).trans FA.out
            have nFR : V15.heap[w.heap.size + 2]? = some (.cells #[.int .i64 0, .slice none 0 0] 43 (0, 0)) := (TT _ ltFR (by omega)).trans FR.out
            have nFO : V15.heap[w2.heap.size]? = some (.cells #[.int .i64 s.f0, .slice B s.f1.length d] 43 (0, 0)) := (TT _ ltFO (by omega)).trans FO.out
            have nFX : V15.heap[Vt.heap.size]? = some (.cells #[.int .i64 s.f0, .slice B s.f1.length d] 43 (0, 0)) := by rw [← hWV15]; have h := blk_set1 (blk_set1 (FX.out) 0 (.int .i64 s.f0)) 1 (.slice B s.f1.length d); simpa using h
            have nHO : Kd.S kItem 28 V15 w.heap.size (fun _ => True) (.slice B s.f1.length d) s.f1 := Kd.S_mono (Kd.S_step (Kd.S_types (HO.out) FX.out (by decide)) (fun k hk hlt => TT k hlt (hk.2))) (fun _ hk => hk.1)
            have nHB : Below w.heap.size w V15 := by rw [← hWV15]; exact bel_set (bel_set (HB.out) _ (by show w.heap.size ≤ Vt.heap.size; first | omega | (simp; omega))) _ (by show w.heap.size ≤ Vt.heap.size; first | omega | (simp; omega))
            clear zFX cFX_0 dFX_0 cFX_1 dFX_1
            clear hWV15 F0 FA FR FO FX HB HO
            have F0 := Aside0.mk nF0
            clear nF0
            have FA := Aside0.mk nFA
            clear nFA
            have FR := Aside0.mk nFR
            clear nFR
            have FO := Aside0.mk nFO
            clear nFO
            have FX := Aside0.mk nFX
            clear nFX
            have HO := Aside0.mk nHO
            clear nHO
            have HB := Aside0.mk nHB
            clear nHB
            replace HL := Aside0.mk (Nat.le_trans HL.out (by omega : V10.heap.size ≤ V15.heap.size))
            clear TT TS ltF0 ltFA ltFR ltFO ltFX ltb ltl
            refine hK.out _ _ ?h104 (fun hHeld => ?j104)
            case h104 => exact ⟨F0.out, FA.out, FO.out, HB.out.block _ lta⟩
            clear hK K
            try simp only [Act.put, List.setIfInBounds_toArray, List.set_cons_zero, List.set_cons_succ]
            refine ta 16 ?_
            refine wpAnyH_done (by kernel_rfl) ?_ _
            clear p0 p1 p2 p3 p4 hrc
            have zFX := blk_lt FX.out
            have cFX_0 : V15.cell? ⟨Vt.heap.size, 0, none⟩ = some (.int .i64 s.f0) := clq FX.out 0 rfl
            have cFX_1 : V15.cell? ⟨Vt.heap.size, 1, none⟩ = some (.slice B s.f1.length d) := clq FX.out 1 rfl
            have zFR := blk_lt FR.out
            have cFR_0 : V15.cell? ⟨w.heap.size + 2, 0, none⟩ = some (.int .i64 0) := clq FR.out 0 rfl
            have dFR_0 := fzq FR.out 0
            have cFR_1 : V15.cell? ⟨w.heap.size + 2, 1, none⟩ = some (.slice none 0 0) := clq FR.out 1 rfl
            have dFR_1 := fzq FR.out 1
            go_wp2
            refine bodyPost_ret (v := .tuple #[.agg #[.int .i64 s.f0, .slice B s.f1.length d], .bool false]) ?hrE rfl ?hpE
            case hrE => simp [results, Tryd.results21, go_sem, zFX, cFX_0, cFX_1, zFR, cFR_0, dFR_0, cFR_1, dFR_1]
            case hpE =>
             show spPost _ x q _ _ _
             rw [HXS.out.1, HXS.out.2]
             exact ⟨B, d, rfl, R_other (Kd.S_R HO.out) FR.out (by decide) ((grown_set1 _ _ _ _).trans (grown_set1 _ _ _ _)), by (with_reducible repeat (first | exact HB.out | refine bel_set ?_ _ ?_)); all_goals ((try dsimp only); omega)⟩
       ·have hxr := HXX.out.2 hno
        have HXS := Lib.hid hxr
        have HNO := Lib.hid hno
        clear hxr hno HXX
        have HS106 : Aside0 (∀ W : World, (W.heap[w.heap.size]? = some (.cells #[.int .i64 s.f0, .slice (some ad) s.f1.length c0] 43 (0, 0)) ∧ W.heap[w.heap.size + 1]? = some (.cells #[.string a.f0, .string a.f1] 24 (0, 0)) ∧ W.heap[w2.heap.size]? = some (.cells #[.int .i64 s.f0, .slice B s.f1.length d] 43 (0, 0)) ∧ W.heap[(ad.add (n * 5)).block]? = w.heap[(ad.add (n * 5)).block]?) → W.cell? ⟨w.heap.size, 0, none⟩ = some (.int .i64 s.f0) ∧ W.cell? ⟨w.heap.size, 1, none⟩ = some (.slice (some ad) s.f1.length c0) ∧ W.cell? ⟨w.heap.size + 1, 0, none⟩ = some (.string a.f0) ∧ W.cell? ⟨w.heap.size + 1, 1, none⟩ = some (.string a.f1) ∧ W.cell? ⟨w2.heap.size, 0, none⟩ = some (.int .i64 s.f0) ∧ W.cell? ⟨w2.heap.size, 1, none⟩ = some (.slice B s.f1.length d) ∧ W.cell? (ad.add (n * 5)) = some (.int .i64 y.f0) ∧ W.cell? ⟨(ad.add (n * 5)).block, (ad.add (n * 5)).off + 1, none⟩ = some (.string y.f1.f0) ∧ W.cell? ⟨(ad.add (n * 5)).block, (ad.add (n * 5)).off + 2, none⟩ = some (.string y.f1.f1) ∧ W.cell? ⟨(ad.add (n * 5)).block, (ad.add (n * 5)).off + 3, none⟩ = some (.slice Q0 y.f2.length qc0) ∧ W.cell? ⟨(ad.add (n * 5)).block, (ad.add (n * 5)).off + 4, none⟩ = some (.slice Q1 y.f3.length qc1)) := ⟨fun W h => ⟨(by have h_ := h.1; simp [World.cell?, h_]), (by have h_ := h.1; simp [World.cell?, h_]), (by have h_ := h.2.1; simp [World.cell?, h_]), (by have h_ := h.2.1; simp [World.cell?, h_]), (by have h_ := h.2.2.1; simp [World.cell?, h_]), (by have h_ := h.2.2.1; simp [World.cell?, h_]), ((World.cell?_of_block h.2.2.2).trans p0), ((World.cell?_of_block (by exact h.2.2.2)).trans p1), ((World.cell?_of_block (by exact h.2.2.2)).trans p2), ((World.cell?_of_block (by exact h.2.2.2)).trans p3), ((World.cell?_of_block (by exact h.2.2.2)).trans p4)⟩⟩
        refine wp_region_held_drew (S := fun (W : World) => W.heap[w.heap.size]? = some (.cells #[.int .i64 s.f0, .slice (some ad) s.f1.length c0] 43 (0, 0)) ∧ W.heap[w.heap.size + 1]? = some (.cells #[.string a.f0, .string a.f1] 24 (0, 0)) ∧ W.heap[w2.heap.size]? = some (.cells #[.int .i64 s.f0, .slice B s.f1.length d] 43 (0, 0)) ∧ W.heap[(ad.add (n * 5)).block]? = w.heap[(ad.add (n * 5)).block]?) (by kernel_rfl) ?s107 (fun hHeld => ?t107)
        case s107 => exact (show (fun (W : World) => W.heap[w.heap.size]? = some (.cells #[.int .i64 s.f0, .slice (some ad) s.f1.length c0] 43 (0, 0)) ∧ W.heap[w.heap.size + 1]? = some (.cells #[.string a.f0, .string a.f1] 24 (0, 0)) ∧ W.heap[w2.heap.size]? = some (.cells #[.int .i64 s.f0, .slice B s.f1.length d] 43 (0, 0)) ∧ W.heap[(ad.add (n * 5)).block]? = w.heap[(ad.add (n * 5)).block]?) (World.drew V14) from ⟨F0.out, FA.out, FO.out, HB.out.block _ lta⟩)
        generalize hWVt : World.drew (V14) = Vt at hHeld ⊢
        have ltF0 := blk_lt F0.out
        have ltFA := blk_lt FA.out
        have ltFR := blk_lt FR.out
        have ltFO := blk_lt FO.out
        have ltb := HB.out.size
        have ltl := HL.out
        have TT : ∀ k, k < V14.heap.size → Vt.heap[k]? = V14.heap[k]? := fun k hk => by rw [← hWVt]; (with_reducible repeat (first | rfl | refine hp_set ?_ ?_ | refine hp_alloc ?_ ?_ | refine hp_drew ?_)); all_goals (first | (with_reducible rfl) | omega | (dsimp only; omega) | (simp; omega))
        have TS : V14.heap.size + 0 ≤ Vt.heap.size := by rw [← hWVt]; simp
        have nF0 : Vt.heap[w.heap.size]? = some (.cells #[.int .i64 s.f0, .slice (some ad) s.f1.length c0] 43 (0, 0)) := (TT _ ltF0).trans F0.out
        have nFA : Vt.heap[w.heap.size + 1]? = some (.cells #[.string a.f0, .string a.f1] 24 (0, 0)) := (TT _ ltFA).trans FA.out
        have nFR : Vt.heap[w.heap.size + 2]? = some (.cells #[.int .i64 0, .slice none 0 0] 43 (0, 0)) := (TT _ ltFR).trans FR.out
        have nFO : Vt.heap[w2.heap.size]? = some (.cells #[.int .i64 s.f0, .slice B s.f1.length d] 43 (0, 0)) := (TT _ ltFO).trans FO.out
        have nHO : Kd.S kItem 28 Vt w.heap.size (fun _ => True) (.slice B s.f1.length d) s.f1 := Kd.S_mono (Kd.S_step (HO.out) (fun k hk hlt => TT k hlt)) (fun _ hk => hk)
        have nHB : Below w.heap.size w Vt := by rw [← hWVt]; exact bel_then (HB.out) (drew_below0 _)
        clear hWVt F0 FA FR FO HB HO
        have F0 := Aside0.mk nF0
        clear nF0
        have FA := Aside0.mk nFA
        clear nFA
        have FR := Aside0.mk nFR
        clear nFR
        have FO := Aside0.mk nFO
        clear nFO
        have HO := Aside0.mk nHO
        clear nHO
        have HB := Aside0.mk nHB
        clear nHB
        replace HL := Aside0.mk (Nat.le_trans HL.out (by omega : V14.heap.size ≤ Vt.heap.size))
        clear TT TS ltF0 ltFA ltFR ltFO ltb ltl
        refine tk 0 ?v108 ?y108 ?r108
        case y108 => intro w_ hSw; obtain ⟨e_0, e_1, e_2, e_3, e_4, e_5, e_6, e_7, e_8, e_9, e_10⟩ := HS106.out w_ hSw; clear hSw; go_simp; (try (with_reducible rfl))
        try simp only [Act.put, List.setIfInBounds_toArray, List.set_cons_zero, List.set_cons_succ]
        refine ta 1 ?_
        refine ta 2 ?_
        refine tk 3 ?v111 ?y111 ?r111
        case y111 => intro w_ hSw; obtain ⟨e_0, e_1, e_2, e_3, e_4, e_5, e_6, e_7, e_8, e_9, e_10⟩ := HS106.out w_ hSw; clear hSw; go_simp; (try (with_reducible rfl))
        try simp only [Act.put, List.setIfInBounds_toArray, List.set_cons_zero, List.set_cons_succ]
        refine ta 4 ?_
        refine ta 5 ?_
        refine tk 6 ?v114 ?y114 ?r114
        case y114 => intro w_ hSw; obtain ⟨e_0, e_1, e_2, e_3, e_4, e_5, e_6, e_7, e_8, e_9, e_10⟩ := HS106.out w_ hSw; clear hSw; go_simp; (try (with_reducible rfl))
        try simp only [Act.put, List.setIfInBounds_toArray, List.set_cons_zero, List.set_cons_succ]
        refine tk 7 ?v115 ?y115 ?r115
        case y115 => intro w_ hSw; obtain ⟨e_0, e_1, e_2, e_3, e_4, e_5, e_6, e_7, e_8, e_9, e_10⟩ := HS106.out w_ hSw; clear hSw; go_simp; (try (with_reducible rfl))
        try simp only [Act.put, List.setIfInBounds_toArray, List.set_cons_zero, List.set_cons_succ]
        refine ta 9 ?_
        refine rdy (rs := [8, 14]) ?_
        refine rc (fun K hK => ?k117) (rc (fun K hK => ?k118) AllReadyH.nil)
        case k117 =>
         go_simp
         refine Calls.mono (hrc _ HB.out) ?_
         rintro e V8 ⟨rfl, bV8⟩
         replace F0 := Aside0.mk (below_blk F0.out bV8)
         replace FA := Aside0.mk (below_blk FA.out bV8)
         replace FR := Aside0.mk (below_blk FR.out bV8)
         replace FO := Aside0.mk (below_blk FO.out bV8)
         replace HO := Aside0.mk (Kd.S_below HO.out bV8)
         replace HB := Aside0.mk (bel_then HB.out bV8)
         replace HL := Aside0.mk (Nat.le_trans HL.out bV8.size)
         clear bV8
         refine hK.out _ _ ?h119 (fun hHeld => ?j119)
         case h119 => exact ⟨F0.out, FA.out, FO.out, HB.out.block _ lta⟩
         clear hK K
         try simp only [Act.put, List.setIfInBounds_toArray, List.set_cons_zero, List.set_cons_succ]
         refine rdy (rs := [10, 14]) ?_
         refine rc (fun K hK => ?k120) (rc (fun K hK => ?k121) AllReadyH.nil)
         case k120 =>
          go_simp
          refine Calls.mono (Calls.mono (HLP.out V8 HB.out (Kd.S_R HO.out)) (fun e w' h => h.2 HNO.out)) ?_
          rintro e V10 ⟨GB, Gd, rfl, hG1, bV10⟩
          replace F0 := Aside0.mk (below_blk F0.out bV10)
          replace FA := Aside0.mk (below_blk FA.out bV10)
          replace FR := Aside0.mk (below_blk FR.out bV10)
          replace FO := Aside0.mk (below_blk FO.out bV10)
          replace HO := Aside0.mk (Kd.S_below HO.out bV10)
          replace HB := Aside0.mk (bel_then HB.out bV10)
          replace HL := Aside0.mk (Nat.le_trans HL.out bV10.size)
          clear bV10
          have G := Aside0.mk hG1
          clear hG1 HO
          refine hK.out _ _ ?h122 (fun hHeld => ?j122)
          case h122 => exact ⟨F0.out, FA.out, FO.out, HB.out.block _ lta⟩
          clear hK K
          try simp only [Act.put, List.setIfInBounds_toArray, List.set_cons_zero, List.set_cons_succ]
          refine ta 11 ?_
          refine ta 12 ?_
          refine ta 13 ?_
          refine rdy (rs := [14]) ?_
          refine rc (fun K hK => ?k126) AllReadyH.nil
          case k126 =>
           go_simp
           generalize hWV14 : World.alloc (V10) _ = V14
           have ltF0 := blk_lt F0.out
           have ltFA := blk_lt FA.out
           have ltFR := blk_lt FR.out
           have ltFO := blk_lt FO.out
           have ltb := HB.out.size
           have ltl := HL.out
           have TT : ∀ k, k < V10.heap.size → V14.heap[k]? = V10.heap[k]? := fun k hk => by rw [← hWV14]; (with_reducible repeat (first | rfl | refine hp_set ?_ ?_ | refine hp_alloc ?_ ?_ | refine hp_drew ?_)); all_goals (first | (with_reducible rfl) | omega | (dsimp only; omega) | (simp; omega))
           have TS : V10.heap.size + 1 ≤ V14.heap.size := by rw [← hWV14]; simp
           have nF0 : V14.heap[w.heap.size]? = some (.cells #[.int .i64 s.f0, .slice (some ad) s.f1.length c0] 43 (0, 0)) := (TT _ ltF0).trans F0.out
           have nFA : V14.heap[w.heap.size + 1]? = some (.cells #[.string a.f0, .string a.f1] 24 (0, 0)) := (TT _ ltFA).trans FA.out
           have nFR : V14.heap[w.heap.size + 2]? = some (.cells #[.int .i64 0, .slice none 0 0] 43 (0, 0)) := (TT _ ltFR).trans FR.out
           have nFO : V14.heap[w2.heap.size]? = some (.cells #[.int .i64 s.f0, .slice B s.f1.length d] 43 (0, 0)) := (TT _ ltFO).trans FO.out
           have nFX : V14.heap[V10.heap.size]? = some (.cells #[.int .i64 0, .slice none 0 0] 43 (0, 0)) := by rw [← hWV14]; exact blk_new V10 (.cells #[.int .i64 0, .slice none 0 0] 43)
           have nG : Kd.R kItem 28 V14 w.heap.size (fun _ => True) (.slice GB LL.length Gd) LL := Kd.R_mono (Kd.R_step (G.out) (fun k hk hlt => TT k hlt)) (fun _ hk => hk)
           have nHB : Below w.heap.size w V14 := by rw [← hWV14]; exact bel_alloc (HB.out) _
           clear hWV14 F0 FA FR FO HB G
           have F0 := Aside0.mk nF0
           clear nF0
           have FA := Aside0.mk nFA
           clear nFA
           have FR := Aside0.mk nFR
           clear nFR
           have FO := Aside0.mk nFO
           clear nFO
           have FX := Aside0.mk nFX
           clear nFX
           have G := Aside0.mk nG
           clear nG
           have HB := Aside0.mk nHB
           clear nHB
           have oFX_ltF0 := ltF0
           have oFX_ltFA := ltFA
           have oFX_ltFR := ltFR
           have oFX_ltFO := ltFO
           have oFX_ltl := ltl
           have oFX_ts := TS
           replace HL := Aside0.mk (Nat.le_trans HL.out (by omega : V10.heap.size ≤ V14.heap.size))
           clear TT TS ltF0 ltFA ltFR ltFO ltb ltl
           refine hK.out _ _ ?h127 (fun hHeld => ?j127)
           case h127 => exact ⟨F0.out, FA.out, FO.out, HB.out.block _ lta⟩
           clear hK K
           try simp only [Act.put, List.setIfInBounds_toArray, List.set_cons_zero, List.set_cons_succ]
           refine rdy (rs := [15]) ?_
           refine rc (fun K hK => ?k128) AllReadyH.nil
           case k128 =>
            have zFX := blk_lt FX.out
            have cFX_0 : V14.cell? ⟨V10.heap.size, 0, none⟩ = some (.int .i64 0) := clq FX.out 0 rfl
            have dFX_0 := fzq FX.out 0
            have cFX_1 : V14.cell? ⟨V10.heap.size, 1, none⟩ = some (.slice none 0 0) := clq FX.out 1 rfl
            have dFX_1 := fzq FX.out 1
            go_simp
            generalize hWV15 : World.setCell (World.setCell (V14) _ _) _ _ = V15
            have ltF0 := blk_lt F0.out
            have ltFA := blk_lt FA.out
            have ltFR := blk_lt FR.out
            have ltFO := blk_lt FO.out
            have ltFX := blk_lt FX.out
            have ltb := HB.out.size
            have ltl := HL.out
            have TT : ∀ k, k < V14.heap.size → k ≠ V10.heap.size → V15.heap[k]? = V14.heap[k]? := fun k hk n_FX => by rw [← hWV15]; (with_reducible repeat (first | rfl | refine hp_set ?_ ?_ | refine hp_alloc ?_ ?_ | refine hp_drew ?_)); all_goals (first | (with_reducible rfl) | omega | (dsimp only; omega) | (simp; omega))
            have TS : V14.heap.size + 0 ≤ V15.heap.size := by rw [← hWV15]; simp
            have nF0 : V15.heap[w.heap.size]? = some (.cells #[.int .i64 s.f0, .slice (some ad) s.f1.length c0] 43 (0, 0)) := (TT _ ltF0 (by omega)).trans F0.out
            have nFA : V15.heap[w.heap.size + 1]? = some (.cells #[.string a.f0, .string a.f1] 24 (0, 0)) := (TT _ ltFA (by omega)).trans FA.out
            have nFR : V15.heap[w.heap.size + 2]? = some (.cells #[.int .i64 0, .slice none 0 0] 43 (0, 0)) := (TT _ ltFR (by omega)).trans FR.out
            have nFO : V15.heap[w2.heap.size]? = some (.cells #[.int .i64 s.f0, .slice B s.f1.length d] 43 (0, 0)) := (TT _ ltFO (by omega)).trans FO.out
            have nFX : V15.heap[V10.heap.size]? = some (.cells #[.int .i64 s.f0, .slice GB LL.length Gd] 43 (0, 0)) := by rw [← hWV15]; have h := blk_set1 (blk_set1 (FX.out) 0 (.int .i64 s.f0)) 1 (.slice GB LL.length Gd); simpa using h
            have nG : Kd.R kItem 28 V15 w.heap.size (fun _ => True) (.slice GB LL.length Gd) LL := Kd.R_mono (Kd.R_step (Kd.R_types (G.out) FX.out (by decide)) (fun k hk hlt => TT k hlt (hk.2))) (fun _ hk => hk.1)
            have nHB : Below w.heap.size w V15 := by rw [← hWV15]; exact bel_set (bel_set (HB.out) _ (by show w.heap.size ≤ V10.heap.size; first | omega | (simp; omega))) _ (by show w.heap.size ≤ V10.heap.size; first | omega | (simp; omega))
            clear zFX cFX_0 dFX_0 cFX_1 dFX_1
            clear hWV15 F0 FA FR FO FX HB G
            have F0 := Aside0.mk nF0
            clear nF0
            have FA := Aside0.mk nFA
            clear nFA
            have FR := Aside0.mk nFR
            clear nFR
            have FO := Aside0.mk nFO
            clear nFO
            have FX := Aside0.mk nFX
            clear nFX
            have G := Aside0.mk nG
            clear nG
            have HB := Aside0.mk nHB
            clear nHB
            replace HL := Aside0.mk (Nat.le_trans HL.out (by omega : V14.heap.size ≤ V15.heap.size))
            clear TT TS ltF0 ltFA ltFR ltFO ltFX ltb ltl
            refine hK.out _ _ ?h129 (fun hHeld => ?j129)
            case h129 => exact ⟨F0.out, FA.out, FO.out, HB.out.block _ lta⟩
            clear hK K
            try simp only [Act.put, List.setIfInBounds_toArray, List.set_cons_zero, List.set_cons_succ]
            refine ta 16 ?_
            refine wpAnyH_done (by kernel_rfl) ?_ _
            clear p0 p1 p2 p3 p4 hrc
            have zFX := blk_lt FX.out
            have cFX_0 : V15.cell? ⟨V10.heap.size, 0, none⟩ = some (.int .i64 s.f0) := clq FX.out 0 rfl
            have cFX_1 : V15.cell? ⟨V10.heap.size, 1, none⟩ = some (.slice GB LL.length Gd) := clq FX.out 1 rfl
            have zFR := blk_lt FR.out
            have cFR_0 : V15.cell? ⟨w.heap.size + 2, 0, none⟩ = some (.int .i64 0) := clq FR.out 0 rfl
            have dFR_0 := fzq FR.out 0
            have cFR_1 : V15.cell? ⟨w.heap.size + 2, 1, none⟩ = some (.slice none 0 0) := clq FR.out 1 rfl
            have dFR_1 := fzq FR.out 1
            go_wp2
            refine bodyPost_ret (v := .tuple #[.agg #[.int .i64 s.f0, .slice GB LL.length Gd], .bool true]) ?hrF rfl ?hpF
            case hrF => simp [results, Tryd.results21, go_sem, zFX, cFX_0, cFX_1, zFR, cFR_0, dFR_0, cFR_1, dFR_1]
            case hpF =>
             show spPost _ x q _ _ _
             rw [HXS.out.1, HXS.out.2]
             exact ⟨GB, Gd, rfl, R_other G.out FR.out (by decide) ((grown_set1 _ _ _ _).trans (grown_set1 _ _ _ _)), by (with_reducible repeat (first | exact HB.out | refine bel_set ?_ _ ?_)); all_goals ((try dsimp only); omega)⟩
         case k121 =>
          go_simp
          generalize hWV14 : World.alloc (V8) _ = V14
          have ltF0 := blk_lt F0.out
          have ltFA := blk_lt FA.out
          have ltFR := blk_lt FR.out
          have ltFO := blk_lt FO.out
          have ltb := HB.out.size
          have ltl := HL.out
          have TT : ∀ k, k < V8.heap.size → V14.heap[k]? = V8.heap[k]? := fun k hk => by rw [← hWV14]; (with_reducible repeat (first | rfl | refine hp_set ?_ ?_ | refine hp_alloc ?_ ?_ | refine hp_drew ?_)); all_goals (first | (with_reducible rfl) | omega | (dsimp only; omega) | (simp; omega))
          have TS : V8.heap.size + 1 ≤ V14.heap.size := by rw [← hWV14]; simp
          have nF0 : V14.heap[w.heap.size]? = some (.cells #[.int .i64 s.f0, .slice (some ad) s.f1.length c0] 43 (0, 0)) := (TT _ ltF0).trans F0.out
          have nFA : V14.heap[w.heap.size + 1]? = some (.cells #[.string a.f0, .string a.f1] 24 (0, 0)) := (TT _ ltFA).trans FA.out
          have nFR : V14.heap[w.heap.size + 2]? = some (.cells #[.int .i64 0, .slice none 0 0] 43 (0, 0)) := (TT _ ltFR).trans FR.out
          have nFO : V14.heap[w2.heap.size]? = some (.cells #[.int .i64 s.f0, .slice B s.f1.length d] 43 (0, 0)) := (TT _ ltFO).trans FO.out
          have nFX : V14.heap[V8.heap.size]? = some (.cells #[.int .i64 0, .slice none 0 0] 43 (0, 0)) := by rw [← hWV14]; exact blk_new V8 (.cells #[.int .i64 0, .slice none 0 0] 43)
          have nHO : Kd.S kItem 28 V14 w.heap.size (fun _ => True) (.slice B s.f1.length d) s.f1 := Kd.S_mono (Kd.S_step (HO.out) (fun k hk hlt => TT k hlt)) (fun _ hk => hk)
          have nHB : Below w.heap.size w V14 := by rw [← hWV14]; exact bel_alloc (HB.out) _
          clear hWV14 F0 FA FR FO HB HO
          have F0 := Aside0.mk nF0
          clear nF0
          have FA := Aside0.mk nFA
          clear nFA
          have FR := Aside0.mk nFR
          clear nFR
          have FO := Aside0.mk nFO
          clear nFO
          have FX := Aside0.mk nFX
          clear nFX
          have HO := Aside0.mk nHO
          clear nHO
          have HB := Aside0.mk nHB
          clear nHB
          have oFX_ltF0 := ltF0
          have oFX_ltFA := ltFA
          have oFX_ltFR := ltFR
          have oFX_ltFO := ltFO
          have oFX_ltl := ltl
          have oFX_ts := TS
          replace HL := Aside0.mk (Nat.le_trans HL.out (by omega : V8.heap.size ≤ V14.heap.size))
          clear TT TS ltF0 ltFA ltFR ltFO ltb ltl
          refine hK.out _ _ ?h131 (fun hHeld => ?j131)
          case h131 => exact ⟨F0.out, FA.out, FO.out, HB.out.block _ lta⟩
          clear hK K
          try simp only [Act.put, List.setIfInBounds_toArray, List.set_cons_zero, List.set_cons_succ]
          refine rdy (rs := [10]) ?_
          refine rc (fun K hK => ?k132) AllReadyH.nil
          case k132 =>
           go_simp
           refine Calls.mono (Calls.mono (HLP.out V14 HB.out (Kd.S_R HO.out)) (fun e w' h => h.2 HNO.out)) ?_
           rintro e V10 ⟨GB, Gd, rfl, hG1, bV10⟩
           replace F0 := Aside0.mk (below_blk F0.out bV10)
           replace FA := Aside0.mk (below_blk FA.out bV10)
           replace FR := Aside0.mk (below_blk FR.out bV10)
           replace FO := Aside0.mk (below_blk FO.out bV10)
           replace FX := Aside0.mk (below_blk FX.out bV10)
           replace HO := Aside0.mk (Kd.S_below HO.out bV10)
           replace HB := Aside0.mk (bel_then HB.out bV10)
           replace HL := Aside0.mk (Nat.le_trans HL.out bV10.size)
           clear bV10
           have G := Aside0.mk hG1
           clear hG1 HO
           refine hK.out _ _ ?h133 (fun hHeld => ?j133)
           case h133 => exact ⟨F0.out, FA.out, FO.out, HB.out.block _ lta⟩
           clear hK K
           try simp only [Act.put, List.setIfInBounds_toArray, List.set_cons_zero, List.set_cons_succ]
           refine ta 11 ?_
           refine ta 12 ?_
           refine ta 13 ?_
           refine rdy (rs := [15]) ?_
           refine rc (fun K hK => ?k137) AllReadyH.nil
           case k137 =>
            have zFX := blk_lt FX.out
            have cFX_0 : V10.cell? ⟨V8.heap.size, 0, none⟩ = some (.int .i64 0) := clq FX.out 0 rfl
            have dFX_0 := fzq FX.out 0
            have cFX_1 : V10.cell? ⟨V8.heap.size, 1, none⟩ = some (.slice none 0 0) := clq FX.out 1 rfl
            have dFX_1 := fzq FX.out 1
            go_simp
            generalize hWV15 : World.setCell (World.setCell (V10) _ _) _ _ = V15
            have ltF0 := blk_lt F0.out
            have ltFA := blk_lt FA.out
            have ltFR := blk_lt FR.out
            have ltFO := blk_lt FO.out
            have ltFX := blk_lt FX.out
            have ltb := HB.out.size
            have ltl := HL.out
            have TT : ∀ k, k < V10.heap.size → k ≠ V8.heap.size → V15.heap[k]? = V10.heap[k]? := fun k hk n_FX => by rw [← hWV15]; (with_reducible repeat (first | rfl | refine hp_set ?_ ?_ | refine hp_alloc ?_ ?_ | refine hp_drew ?_)); all_goals (first | (with_reducible rfl) | omega | (dsimp only; omega) | (simp; omega))
            have TS : V10.heap.size + 0 ≤ V15.heap.size := by rw [← hWV15]; simp
            have nF0 : V15.heap[w.heap.size]? = some (.cells #[.int .i64 s.f0, .slice (some ad) s.f1.length c0] 43 (0, 0)) := (TT _ ltF0 (by omega)).trans F0.out
            have nFA : V15.heap[w.heap.size + 1]? = some (.cells #[.string a.f0, .string a.f1] 24 (0, 0)) := (TT _ ltFA (by omega)).trans FA.out
            have nFR : V15.heap[w.heap.size + 2]? = some (.cells #[.int .i64 0, .slice none 0 0] 43 (0, 0)) := (TT _ ltFR (by omega)).trans FR.out
            have nFO : V15.heap[w2.heap.size]? = some (.cells #[.int .i64 s.f0, .slice B s.f1.length d] 43 (0, 0)) := (TT _ ltFO (by omega)).trans FO.out
            have nFX : V15.heap[V8.heap.size]? = some (.cells #[.int .i64 s.f0, .slice GB LL.length Gd] 43 (0, 0)) := by rw [← hWV15]; have h := blk_set1 (blk_set1 (FX.out) 0 (.int .i64 s.f0)) 1 (.slice GB LL.length Gd); simpa using h
            have nG : Kd.R kItem 28 V15 w.heap.size (fun _ => True) (.slice GB LL.length Gd) LL := Kd.R_mono (Kd.R_step (Kd.R_types (G.out) FX.out (by decide)) (fun k hk hlt => TT k hlt (hk.2))) (fun _ hk => hk.1)
            have nHB : Below w.heap.size w V15 := by rw [← hWV15]; exact bel_set (bel_set (HB.out) _ (by show w.heap.size ≤ V8.heap.size; first | omega | (simp; omega))) _ (by show w.heap.size ≤ V8.heap.size; first | omega | (simp; omega))
            clear zFX cFX_0 dFX_0 cFX_1 dFX_1
            clear hWV15 F0 FA FR FO FX HB G
            have F0 := Aside0.mk nF0
            clear nF0
            have FA := Aside0.mk nFA
            clear nFA
            have FR := Aside0.mk nFR
            clear nFR
            have FO := Aside0.mk nFO
            clear nFO
            have FX := Aside0.mk nFX
            clear nFX
            have G := Aside0.mk nG
            clear nG
            have HB := Aside0.mk nHB
            clear nHB
            replace HL := Aside0.mk (Nat.le_trans HL.out (by omega : V10.heap.size ≤ V15.heap.size))
            clear TT TS ltF0 ltFA ltFR ltFO ltFX ltb ltl
            refine hK.out _ _ ?h138 (fun hHeld => ?j138)
            case h138 => exact ⟨F0.out, FA.out, FO.out, HB.out.block _ lta⟩
            clear hK K
            try simp only [Act.put, List.setIfInBounds_toArray, List.set_cons_zero, List.set_cons_succ]
            refine ta 16 ?_
            refine wpAnyH_done (by kernel_rfl) ?_ _
            clear p0 p1 p2 p3 p4 hrc
            have zFX := blk_lt FX.out
            have cFX_0 : V15.cell? ⟨V8.heap.size, 0, none⟩ = some (.int .i64 s.f0) := clq FX.out 0 rfl
            have cFX_1 : V15.cell? ⟨V8.heap.size, 1, none⟩ = some (.slice GB LL.length Gd) := clq FX.out 1 rfl
            have zFR := blk_lt FR.out
            have cFR_0 : V15.cell? ⟨w.heap.size + 2, 0, none⟩ = some (.int .i64 0) := clq FR.out 0 rfl
            have dFR_0 := fzq FR.out 0
            have cFR_1 : V15.cell? ⟨w.heap.size + 2, 1, none⟩ = some (.slice none 0 0) := clq FR.out 1 rfl
            have dFR_1 := fzq FR.out 1
            go_wp2
            refine bodyPost_ret (v := .tuple #[.agg #[.int .i64 s.f0, .slice GB LL.length Gd], .bool true]) ?hrF rfl ?hpF
            case hrF => simp [results, Tryd.results21, go_sem, zFX, cFX_0, cFX_1, zFR, cFR_0, dFR_0, cFR_1, dFR_1]
            case hpF =>
             show spPost _ x q _ _ _
             rw [HXS.out.1, HXS.out.2]
             exact ⟨GB, Gd, rfl, R_other G.out FR.out (by decide) ((grown_set1 _ _ _ _).trans (grown_set1 _ _ _ _)), by (with_reducible repeat (first | exact HB.out | refine bel_set ?_ _ ?_)); all_goals ((try dsimp only); omega)⟩
        case k118 =>
         go_simp
         generalize hWV14 : World.alloc (Vt) _ = V14
         have ltF0 := blk_lt F0.out
         have ltFA := blk_lt FA.out
         have ltFR := blk_lt FR.out
         have ltFO := blk_lt FO.out
         have ltb := HB.out.size
         have ltl := HL.out
         have TT : ∀ k, k < Vt.heap.size → V14.heap[k]? = Vt.heap[k]? := fun k hk => by rw [← hWV14]; (with_reducible repeat (first | rfl | refine hp_set ?_ ?_ | refine hp_alloc ?_ ?_ | refine hp_drew ?_)); all_goals (first | (with_reducible rfl) | omega | (dsimp only; omega) | (simp; omega))
         have TS : Vt.heap.size + 1 ≤ V14.heap.size := by rw [← hWV14]; simp
         have nF0 : V14.heap[w.heap.size]? = some (.cells #[.int .i64 s.f0, .slice (some ad) s.f1.length c0] 43 (0, 0)) := (TT _ ltF0).trans F0.out
         have nFA : V14.heap[w.heap.size + 1]? = some (.cells #[.string a.f0, .string a.f1] 24 (0, 0)) := (TT _ ltFA).trans FA.out
         have nFR : V14.heap[w.heap.size + 2]? = some (.cells #[.int .i64 0, .slice none 0 0] 43 (0, 0)) := (TT _ ltFR).trans FR.out
         have nFO : V14.heap[w2.heap.size]? = some (.cells #[.int .i64 s.f0, .slice B s.f1.length d] 43 (0, 0)) := (TT _ ltFO).trans FO.out
         have nFX : V14.heap[Vt.heap.size]? = some (.cells #[.int .i64 0, .slice none 0 0] 43 (0, 0)) := by rw [← hWV14]; exact blk_new Vt (.cells #[.int .i64 0, .slice none 0 0] 43)
         have nHO : Kd.S kItem 28 V14 w.heap.size (fun _ => True) (.slice B s.f1.length d) s.f1 := Kd.S_mono (Kd.S_step (HO.out) (fun k hk hlt => TT k hlt)) (fun _ hk => hk)
         have nHB : Below w.heap.size w V14 := by rw [← hWV14]; exact bel_alloc (HB.out) _
         clear hWV14 F0 FA FR FO HB HO
         have F0 := Aside0.mk nF0
         clear nF0
         have FA := Aside0.mk nFA
         clear nFA
         have FR := Aside0.mk nFR
         clear nFR
         have FO := Aside0.mk nFO
         clear nFO
         have FX := Aside0.mk nFX
         clear nFX
         have HO := Aside0.mk nHO
         clear nHO
         have HB := Aside0.mk nHB
         clear nHB
         have oFX_ltF0 := ltF0
         have oFX_ltFA := ltFA
         have oFX_ltFR := ltFR
         have oFX_ltFO := ltFO
         have oFX_ltl := ltl
         have oFX_ts := TS
         replace HL := Aside0.mk (Nat.le_trans HL.out (by omega : Vt.heap.size ≤ V14.heap.size))
         clear TT TS ltF0 ltFA ltFR ltFO ltb ltl
         refine hK.out _ _ ?h140 (fun hHeld => ?j140)
         case h140 => exact ⟨F0.out, FA.out, FO.out, HB.out.block _ lta⟩
         clear hK K
         try simp only [Act.put, List.setIfInBounds_toArray, List.set_cons_zero, List.set_cons_succ]
         refine rdy (rs := [8]) ?_
         refine rc (fun K hK => ?k141) AllReadyH.nil
         case k141 =>
          go_simp
          refine Calls.mono (hrc _ HB.out) ?_
          rintro e V8 ⟨rfl, bV8⟩
          replace F0 := Aside0.mk (below_blk F0.out bV8)
          replace FA := Aside0.mk (below_blk FA.out bV8)
          replace FR := Aside0.mk (below_blk FR.out bV8)
          replace FO := Aside0.mk (below_blk FO.out bV8)
          replace FX := Aside0.mk (below_blk FX.out bV8)
          replace HO := Aside0.mk (Kd.S_below HO.out bV8)
          replace HB := Aside0.mk (bel_then HB.out bV8)
          replace HL := Aside0.mk (Nat.le_trans HL.out bV8.size)
          clear bV8
          refine hK.out _ _ ?h142 (fun hHeld => ?j142)
          case h142 => exact ⟨F0.out, FA.out, FO.out, HB.out.block _ lta⟩
          clear hK K
          try simp only [Act.put, List.setIfInBounds_toArray, List.set_cons_zero, List.set_cons_succ]
          refine rdy (rs := [10]) ?_
          refine rc (fun K hK => ?k143) AllReadyH.nil
          case k143 =>
           go_simp
           refine Calls.mono (Calls.mono (HLP.out V8 HB.out (Kd.S_R HO.out)) (fun e w' h => h.2 HNO.out)) ?_
           rintro e V10 ⟨GB, Gd, rfl, hG1, bV10⟩
           replace F0 := Aside0.mk (below_blk F0.out bV10)
           replace FA := Aside0.mk (below_blk FA.out bV10)
           replace FR := Aside0.mk (below_blk FR.out bV10)
           replace FO := Aside0.mk (below_blk FO.out bV10)
           replace FX := Aside0.mk (below_blk FX.out bV10)
           replace HO := Aside0.mk (Kd.S_below HO.out bV10)
           replace HB := Aside0.mk (bel_then HB.out bV10)
           replace HL := Aside0.mk (Nat.le_trans HL.out bV10.size)
           clear bV10
           have G := Aside0.mk hG1
           clear hG1 HO
           refine hK.out _ _ ?h144 (fun hHeld => ?j144)
           case h144 => exact ⟨F0.out, FA.out, FO.out, HB.out.block _ lta⟩
           clear hK K
           try simp only [Act.put, List.setIfInBounds_toArray, List.set_cons_zero, List.set_cons_succ]
           refine ta 11 ?_
           refine ta 12 ?_
           refine ta 13 ?_
           refine rdy (rs := [15]) ?_
           refine rc (fun K hK => ?k148) AllReadyH.nil
           case k148 =>
            have zFX := blk_lt FX.out
            have cFX_0 : V10.cell? ⟨Vt.heap.size, 0, none⟩ = some (.int .i64 0) := clq FX.out 0 rfl
            have dFX_0 := fzq FX.out 0
            have cFX_1 : V10.cell? ⟨Vt.heap.size, 1, none⟩ = some (.slice none 0 0) := clq FX.out 1 rfl
            have dFX_1 := fzq FX.out 1
            go_simp
            generalize hWV15 : World.setCell (World.setCell (V10) _ _) _ _ = V15
            have ltF0 := blk_lt F0.out
            have ltFA := blk_lt FA.out
            have ltFR := blk_lt FR.out
            have ltFO := blk_lt FO.out
            have ltFX := blk_lt FX.out
            have ltb := HB.out.size
            have ltl := HL.out
            have TT : ∀ k, k < V10.heap.size → k ≠ Vt.heap.size → V15.heap[k]? = V10.heap[k]? := fun k hk n_FX => by rw [← hWV15]; (with_reducible repeat (first | rfl | refine hp_set ?_ ?_ | refine hp_alloc ?_ ?_ | refine hp_drew ?_)); all_goals (first | (with_reducible rfl) | omega | (dsimp only; omega) | (simp; omega))
            have TS : V10.heap.size + 0 ≤ V15.heap.size := by rw [← hWV15]; simp
            have nF0 : V15.heap[w.heap.size]? = some (.cells #[.int .i64 s.f0, .slice (some ad) s.f1.length c0] 43 (0, 0)) := (TT _ ltF0 (by omega)).trans F0.out
            have nFA : V15.heap[w.heap.size + 1]? = some (.cells #[.string a.f0, .string a.f1] 24 (0, 0)) := (TT _ ltFA (by omega)).trans FA.out
            have nFR : V15.heap[w.heap.size + 2]? = some (.cells #[.int .i64 0, .slice none 0 0] 43 (0, 0)) := (TT _ ltFR (by omega)).trans FR.out
            have nFO : V15.heap[w2.heap.size]? = some (.cells #[.int .i64 s.f0, .slice B s.f1.length d] 43 (0, 0)) := (TT _ ltFO (by omega)).trans FO.out
            have nFX : V15.heap[Vt.heap.size]? = some (.cells #[.int .i64 s.f0, .slice GB LL.length Gd] 43 (0, 0)) := by rw [← hWV15]; have h := blk_set1 (blk_set1 (FX.out) 0 (.int .i64 s.f0)) 1 (.slice GB LL.length Gd); simpa using h
            have nG : Kd.R kItem 28 V15 w.heap.size (fun _ => True) (.slice GB LL.length Gd) LL := Kd.R_mono (Kd.R_step (Kd.R_types (G.out) FX.out (by decide)) (fun k hk hlt => TT k hlt (hk.2))) (fun _ hk => hk.1)
            have nHB : Below w.heap.size w V15 := by rw [← hWV15]; exact bel_set (bel_set (HB.out) _ (by show w.heap.size ≤ Vt.heap.size; first | omega | (simp; omega))) _ (by show w.heap.size ≤ Vt.heap.size; first | omega | (simp; omega))
            clear zFX cFX_0 dFX_0 cFX_1 dFX_1
            clear hWV15 F0 FA FR FO FX HB G
            have F0 := Aside0.mk nF0
            clear nF0
            have FA := Aside0.mk nFA
            clear nFA
            have FR := Aside0.mk nFR
            clear nFR
            have FO := Aside0.mk nFO
            clear nFO
            have FX := Aside0.mk nFX
            clear nFX
            have G := Aside0.mk nG
            clear nG
            have HB := Aside0.mk nHB
            clear nHB
            replace HL := Aside0.mk (Nat.le_trans HL.out (by omega : V10.heap.size ≤ V15.heap.size))
            clear TT TS ltF0 ltFA ltFR ltFO ltFX ltb ltl
            refine hK.out _ _ ?h149 (fun hHeld => ?j149)
            case h149 => exact ⟨F0.out, FA.out, FO.out, HB.out.block _ lta⟩
            clear hK K
            try simp only [Act.put, List.setIfInBounds_toArray, List.set_cons_zero, List.set_cons_succ]
            refine ta 16 ?_
            refine wpAnyH_done (by kernel_rfl) ?_ _
            clear p0 p1 p2 p3 p4 hrc
            have zFX := blk_lt FX.out
            have cFX_0 : V15.cell? ⟨Vt.heap.size, 0, none⟩ = some (.int .i64 s.f0) := clq FX.out 0 rfl
            have cFX_1 : V15.cell? ⟨Vt.heap.size, 1, none⟩ = some (.slice GB LL.length Gd) := clq FX.out 1 rfl
            have zFR := blk_lt FR.out
            have cFR_0 : V15.cell? ⟨w.heap.size + 2, 0, none⟩ = some (.int .i64 0) := clq FR.out 0 rfl
            have dFR_0 := fzq FR.out 0
            have cFR_1 : V15.cell? ⟨w.heap.size + 2, 1, none⟩ = some (.slice none 0 0) := clq FR.out 1 rfl
            have dFR_1 := fzq FR.out 1
            go_wp2
            refine bodyPost_ret (v := .tuple #[.agg #[.int .i64 s.f0, .slice GB LL.length Gd], .bool true]) ?hrF rfl ?hpF
            case hrF => simp [results, Tryd.results21, go_sem, zFX, cFX_0, cFX_1, zFR, cFR_0, dFR_0, cFR_1, dFR_1]
            case hpF =>
             show spPost _ x q _ _ _
             rw [HXS.out.1, HXS.out.2]
             exact ⟨GB, Gd, rfl, R_other G.out FR.out (by decide) ((grown_set1 _ _ _ _).trans (grown_set1 _ _ _ _)), by (with_reducible repeat (first | exact HB.out | refine bel_set ?_ _ ?_)); all_goals ((try dsimp only); omega)⟩

end Go.Proofs.YtiaibgkpohmihaaDoor

/- A spool where one of those a mail is for is tried later: plain. -/
namespace Go.Proofs.YtiaibgkpohmihaaDoor
open Go.RowKit Go.Proofs.YtiaibgkpohmihaaDoorW.PrintWords
set_option linter.unusedVariables false
set_option linter.unusedSimpArgs false

theorem set_map {α β : Type} {f : α → β} {xs : List α} {n : Nat} {y' : α} (d : α) (h : f y' = f (xs.getD n d)) : (xs.set n y').map f = xs.map f := by
  apply List.ext_getElem (by simp)
  intro j h1 h2
  rw [List.getElem_map, List.getElem_map, List.getElem_set]
  split
  · rename_i e
    subst e
    rw [h, getD_at _ _ (by simpa using h2)]
  · rfl
theorem idx_map {α β : Type} (p : β → Bool) (f : α → β) (xs : List α) : idx p (xs.map f) = idx (fun x => p (f x)) xs := by
  unfold idx
  rw [List.any_map, List.findIdx_map]
  rfl
def newI (xs : List SItem) (n m : Nat) (now : Int) : SItem := ⟨(xs.getD n zItem).f0, (xs.getD n zItem).f1, (xs.getD n zItem).f2.set m (laterR ((xs.getD n zItem).f2.getD m zRcpt) now), (xs.getD n zItem).f3⟩
theorem newI_len (xs : List SItem) (n m : Nat) (now : Int) : (newI xs n m now).f2.length = (xs.getD n zItem).f2.length := by show ((xs.getD n zItem).f2.set m _).length = _; rw [List.length_set]
theorem later_set (xs : List SItem) (n m : Nat) (now : Int) : laterL xs n m now = xs.set n (newI xs n m now) := rfl
theorem later_len (xs : List SItem) (n m : Nat) (now : Int) : (laterL xs n m now).length = xs.length := by rw [later_set, List.length_set]
theorem later_ids (xs : List SItem) (n m : Nat) (now : Int) : (laterL xs n m now).map (·.f0) = xs.map (·.f0) := by rw [later_set]; exact set_map zItem rfl
theorem later_lens (xs : List SItem) (n m : Nat) (now : Int) : ((laterL xs n m now).map fun x => (x.f2.length : Int)) = xs.map fun x => (x.f2.length : Int) := by
  rw [later_set]
  exact set_map zItem (by show (((xs.getD n zItem).f2.set m _).length : Int) = _; rw [List.length_set])
theorem later_item (xs : List SItem) (n m : Nat) (now : Int) (id : Int) : itemAt id (laterL xs n m now) = itemAt id xs := by
  unfold itemAt
  rw [← idx_map (fun v : Int => v == id) (fun x : SItem => x.f0), ← idx_map (fun v : Int => v == id) (fun x : SItem => x.f0), later_ids]
theorem later_get {xs : List SItem} {n : Nat} (m : Nat) (now : Int) (hn : n < xs.length) (j : Nat) : (laterL xs n m now).getD j zItem = if j = n then newI xs n m now else xs.getD j zItem := by rw [later_set, set_getD xs n zItem _ hn]
theorem later_addrs (xs : List SItem) (n m : Nat) (now : Int) : (newI xs n m now).f2.map (·.f0) = (xs.getD n zItem).f2.map (·.f0) := set_map zRcpt rfl
theorem later_rcpt (xs : List SItem) (n m : Nat) (now : Int) (a : SAddr) : rcptAt a (newI xs n m now).f2 = rcptAt a (xs.getD n zItem).f2 := by
  unfold rcptAt
  rw [← idx_map (fun v : SAddr => sameA v a) (fun x : SRcpt => x.f0), ← idx_map (fun v : SAddr => sameA v a) (fun x : SRcpt => x.f0), later_addrs]
theorem time_parts {now : Int} (h : timeOk now = true) : 0 ≤ now ∧ now ≤ 9999 := by
  unfold timeOk at h
  simp only [Bool.and_eq_true, decide_eq_true_eq] at h
  exact h
theorem later_ok {s : SSpool} {n m : Nat} {now : Int} (hs : spoolOk s = true) (hn : n < s.f1.length) (hm : m < (s.f1.getD n zItem).f2.length) (ht : timeOk now = true) (hno : ¬ laterNo ((s.f1.getD n zItem).f2.getD m zRcpt) now) : spoolOk ⟨s.f0, laterL s.f1 n m now⟩ = true := by
  obtain ⟨hx, hp, hb, hl⟩ := (spOk_iff s).1 hs
  have htm := time_parts ht
  refine (spOk_iff _).2 ⟨fun z hz => ?_, by show ((laterL s.f1 n m now).map (·.f0)).Pairwise (· < ·); rw [later_ids]; exact hp, hb, by show (laterL s.f1 n m now).length ≤ 10; rw [later_len]; exact hl⟩
  have h0 := hx _ (getD_mem s.f1 zItem hn)
  have hz2 : z = newI s.f1 n m now ∨ z ∈ s.f1 := by
    have h : z ∈ s.f1.set n (newI s.f1 n m now) := hz
    rcases List.mem_or_eq_of_mem_set h with h | h
    · exact .inr h
    · exact .inl h
  rcases hz2 with rfl | h
  · obtain ⟨g1, g2, g3, g4, g5⟩ := item_parts h0.1
    have hto := tries_ok hs hn hm
    refine ⟨item_of h0.1 rfl rfl rfl (fun r hr => ?_) (by rw [later_addrs]; exact g2) (by rw [newI_len]; exact ⟨g4, g5⟩), h0.2⟩
    rcases List.mem_or_eq_of_mem_set hr with h | h
    · exact g1 r h
    · subst h
      have hr0 := g1 _ (getD_mem _ zRcpt hm)
      unfold laterNo at hno
      have hpw := pow_le (((s.f1.getD n zItem).f2.getD m zRcpt).f1 + 1) (by omega) (by omega)
      unfold rcptOk at hr0 ⊢
      simp only [Bool.and_eq_true, decide_eq_true_eq] at hr0 ⊢
      unfold laterR
      exact ⟨hr0.1, ⟨by dsimp only; omega, by dsimp only; omega⟩, by dsimp only; omega, by dsimp only; omega⟩
  · exact hx z h
theorem later_many {s : SSpool} {n m : Nat} {now : Int} (hs : spoolOk s = true) (h : spoolOk ⟨s.f0, laterL s.f1 n m now⟩ = true) : spoolMany ⟨s.f0, laterL s.f1 n m now⟩ = spoolMany s := by
  unfold spoolMany
  rw [h, hs, if_pos rfl, if_pos rfl]
  show isum ((laterL s.f1 n m now).map _) = _
  rw [later_lens]
theorem later_fit {s : SSpool} {n m : Nat} {now : Int} (hw : fitSpool s) (hn : n < s.f1.length) (hm : m < (s.f1.getD n zItem).f2.length) (ht : timeOk now = true) (hto : 0 ≤ ((s.f1.getD n zItem).f2.getD m zRcpt).f1 ∧ ((s.f1.getD n zItem).f2.getD m zRcpt).f1 ≤ 3) : fitSpool ⟨s.f0, laterL s.f1 n m now⟩ := by
  have htm := time_parts ht
  refine ⟨hw.1, by show (laterL s.f1 n m now).length ≤ _; rw [later_len]; exact hw.2.1, fun z hz => ?_⟩
  have h : z ∈ s.f1.set n (newI s.f1 n m now) := hz
  rcases List.mem_or_eq_of_mem_set h with h | h
  · exact hw.2.2 z h
  · subst h
    obtain ⟨h1, h2, h3, h4⟩ := hw.2.2 _ (getD_mem s.f1 zItem hn)
    refine ⟨h1, h2, ⟨by show ((s.f1.getD n zItem).f2.set m _).length ≤ _; rw [List.length_set]; exact h3.1, fun r hr => ?_⟩, h4⟩
    rcases List.mem_or_eq_of_mem_set hr with h | h
    · exact h3.2 r h
    · subst h
      have hr0 := h3.2 _ (getD_mem _ zRcpt hm)
      have hpw := pow_le (((s.f1.getD n zItem).f2.getD m zRcpt).f1 + 1) (by omega) (by omega)
      exact ⟨hr0.1, WalkArith.wf_i64 (by unfold laterR; constructor <;> (dsimp only; omega)), WalkArith.wf_i64 (by unfold laterR; constructor <;> (dsimp only; omega))⟩
def JJ (id : Int) (a : SAddr) (now : Int) (j : Nat) (y : SSpool) : Prop := spoolOk y = true ∧ fitSpool y ∧ ∃ n m : Nat, itemAt id y.f1 = (n : Int) ∧ n < y.f1.length ∧ rcptAt a (y.f1.getD n zItem).f2 = (m : Int) ∧ m < (y.f1.getD n zItem).f2.length ∧ (laterNo ((y.f1.getD n zItem).f2.getD m zRcpt) now ∨ 1 + (j : Int) ≤ ((y.f1.getD n zItem).f2.getD m zRcpt).f1)
theorem jj_new {s : SSpool} {id : Int} {a : SAddr} {now : Int} {n m j : Nat} (hs : spoolOk s = true) (hw : fitSpool s) (hi : itemAt id s.f1 = (n : Int)) (hn : n < s.f1.length) (hk : rcptAt a (s.f1.getD n zItem).f2 = (m : Int)) (hm : m < (s.f1.getD n zItem).f2.length) (ht : timeOk now = true) (hno : ¬ laterNo ((s.f1.getD n zItem).f2.getD m zRcpt) now) (hj : (j : Int) ≤ ((s.f1.getD n zItem).f2.getD m zRcpt).f1) : JJ id a now j ⟨s.f0, laterL s.f1 n m now⟩ := by
  have e : (laterL s.f1 n m now).getD n zItem = newI s.f1 n m now := by rw [later_get m now hn, if_pos rfl]
  refine ⟨later_ok hs hn hm ht hno, later_fit hw hn hm ht (tries_ok hs hn hm), n, m, (later_item _ _ _ _ _).trans hi, by show n < (laterL s.f1 n m now).length; rw [later_len]; exact hn, ?_, ?_, ?_⟩
  · show rcptAt a ((laterL s.f1 n m now).getD n zItem).f2 = _
    rw [e, later_rcpt]; exact hk
  · show m < ((laterL s.f1 n m now).getD n zItem).f2.length
    rw [e]; show m < ((s.f1.getD n zItem).f2.set m _).length; rw [List.length_set]; exact hm
  · refine .inr ?_
    show 1 + (j : Int) ≤ (((laterL s.f1 n m now).getD n zItem).f2.getD m zRcpt).f1
    rw [e]
    show 1 + (j : Int) ≤ (((s.f1.getD n zItem).f2.set m _).getD m zRcpt).f1
    rw [set_getD _ m zRcpt _ hm, if_pos rfl]
    show 1 + (j : Int) ≤ ((s.f1.getD n zItem).f2.getD m zRcpt).f1 + 1
    omega
theorem jj_step {id : Int} {a : SAddr} {now : Int} {j : Nat} {y y' : SSpool} {q' : Bool} (ht : timeOk now = true) (h : JJ id a now j y) (hr : LaterR y id a now y' q') : JJ id a now (j + 1) y' ∧ (3 ≤ j → q' = false) := by
  obtain ⟨hs, hw, n, m, hi, hn, hk, hm, hz⟩ := h
  rcases hr with ⟨h1, _⟩ | ⟨_, i, k, fq, hf, h0, h1⟩
  · rw [hs] at h1; cases h1
  · have hfq : i = (n : Int) ∧ k = (m : Int) ∧ fq = true := by
      rcases hf with ⟨h2, _⟩ | ⟨n2, h2, h3, h4, h5, h6⟩
      · rw [hi] at h2; omega
      · obtain rfl : n2 = n := by rw [hi] at h2; omega
        rw [hk] at h5
        exact ⟨h4, h5, by rw [h6, h5]; exact decide_eq_true (by omega)⟩
    obtain ⟨rfl, rfl, rfl⟩ := hfq
    have h2 := h1 rfl ht
    simp only [Int.toNat_natCast] at h2
    have hto := tries_ok hs hn hm
    by_cases hno : laterNo ((y.f1.getD n zItem).f2.getD m zRcpt) now
    · obtain ⟨rfl, rfl⟩ := h2.1 hno
      exact ⟨⟨hs, hw, n, m, hi, hn, hk, hm, .inl hno⟩, fun _ => rfl⟩
    · obtain ⟨rfl, rfl⟩ := h2.2 hno
      have hz2 : 1 + (j : Int) ≤ ((y.f1.getD n zItem).f2.getD m zRcpt).f1 := hz.resolve_left hno
      refine ⟨jj_new hs hw hi hn hk hm ht hno (by omega), fun hj => ?_⟩
      exfalso
      omega
def Chk (s x : SSpool) (id : Int) (a : SAddr) (now : Int) : Prop := x.f1.length = s.f1.length ∧ ∀ i, i < s.f1.length → (x.f1.getD i zItem).f0 = (s.f1.getD i zItem).f0 ∧ (x.f1.getD i zItem).f2.length = (s.f1.getD i zItem).f2.length ∧ ∀ k, k < (s.f1.getD i zItem).f2.length →
  ((((x.f1.getD i zItem).f0 == id) = true ∧ sameA ((x.f1.getD i zItem).f2.getD k zRcpt).f0 a = true ∧ (x.f1.getD i zItem).f2.getD k zRcpt = laterR ((s.f1.getD i zItem).f2.getD k zRcpt) now ∧ 0 ≤ ((s.f1.getD i zItem).f2.getD k zRcpt).f1 ∧ ((s.f1.getD i zItem).f2.getD k zRcpt).f1 ≤ 2) ∨
   ((x.f1.getD i zItem).f2.getD k zRcpt = (s.f1.getD i zItem).f2.getD k zRcpt ∧ (((x.f1.getD i zItem).f0 == id) && sameA ((x.f1.getD i zItem).f2.getD k zRcpt).f0 a) = false))
theorem later_chk {s : SSpool} {id : Int} {a : SAddr} {now : Int} {n m : Nat} (hs : spoolOk s = true) (hi : itemAt id s.f1 = (n : Int)) (hn : n < s.f1.length) (hk : rcptAt a (s.f1.getD n zItem).f2 = (m : Int)) (hm : m < (s.f1.getD n zItem).f2.length) (hno : ¬ laterNo ((s.f1.getD n zItem).f2.getD m zRcpt) now) : Chk s ⟨s.f0, laterL s.f1 n m now⟩ id a now := by
  obtain ⟨hx, hp, -, -⟩ := (spOk_iff s).1 hs
  have hid : ((s.f1.getD n zItem).f0 == id) = true := idx_at (p := fun x : SItem => x.f0 == id) zItem hi hn
  have hsa : sameA ((s.f1.getD n zItem).f2.getD m zRcpt).f0 a = true := idx_at (p := fun r : SRcpt => sameA r.f0 a) zRcpt hk hm
  have hto := tries_ok hs hn hm
  unfold laterNo at hno
  refine ⟨later_len _ _ _ _, fun i hil => ?_⟩
  show ((laterL s.f1 n m now).getD i zItem).f0 = _ ∧ ((laterL s.f1 n m now).getD i zItem).f2.length = _ ∧ ∀ k, _ → ((((laterL s.f1 n m now).getD i zItem).f0 == id) = true ∧ sameA (((laterL s.f1 n m now).getD i zItem).f2.getD k zRcpt).f0 a = true ∧ ((laterL s.f1 n m now).getD i zItem).f2.getD k zRcpt = _ ∧ _) ∨ (((laterL s.f1 n m now).getD i zItem).f2.getD k zRcpt = _ ∧ ((((laterL s.f1 n m now).getD i zItem).f0 == id) && sameA (((laterL s.f1 n m now).getD i zItem).f2.getD k zRcpt).f0 a) = false)
  rw [later_get m now hn]
  by_cases hin : i = n
  · subst hin
    rw [if_pos rfl]
    refine ⟨rfl, by show ((s.f1.getD i zItem).f2.set m _).length = _; rw [List.length_set], fun k hkl => ?_⟩
    have hg : (newI s.f1 i m now).f2.getD k zRcpt = if k = m then laterR ((s.f1.getD i zItem).f2.getD m zRcpt) now else (s.f1.getD i zItem).f2.getD k zRcpt := by
      show ((s.f1.getD i zItem).f2.set m _).getD k zRcpt = _
      rw [set_getD _ m zRcpt _ hm]
    rw [hg]
    by_cases hkm : k = m
    · subst hkm
      rw [if_pos rfl]
      exact .inl ⟨hid, hsa, rfl, by omega, by omega⟩
    · rw [if_neg hkm]
      refine .inr ⟨rfl, ?_⟩
      cases hc : sameA ((s.f1.getD i zItem).f2.getD k zRcpt).f0 a with
      | false => rw [Bool.and_false]
      | true =>
        exfalso
        have hnd := (item_parts (hx _ (getD_mem s.f1 zItem hil)).1).2.1
        have he := (same_eq hc).trans (same_eq hsa).symm
        rw [getD_at _ _ hkl, getD_at _ _ hm] at he
        rw [List.nodup_iff_pairwise_ne, List.pairwise_iff_getElem] at hnd
        rcases Nat.lt_or_gt_of_ne hkm with h | h
        · have := hnd k m (by rw [List.length_map]; exact hkl) (by rw [List.length_map]; exact hm) h
          rw [List.getElem_map, List.getElem_map] at this
          exact this he
        · have := hnd m k (by rw [List.length_map]; exact hm) (by rw [List.length_map]; exact hkl) h
          rw [List.getElem_map, List.getElem_map] at this
          exact this he.symm
  · rw [if_neg hin]
    refine ⟨rfl, rfl, fun k hkl => .inr ⟨rfl, ?_⟩⟩
    cases hc : ((s.f1.getD i zItem).f0 == id) with
    | false => rw [Bool.false_and]
    | true =>
      exfalso
      rw [beq_iff_eq] at hc hid
      rw [getD_at _ _ hil] at hc
      rw [getD_at _ _ hn] at hid
      exact hin (id_one hp hil hn (hc.trans hid.symm))
theorem later_law {s x : SSpool} {id : Int} {a : SAddr} {now : Int} (h : LaterR s id a now x true) (hw : fitSpool s) : spoolOk s = true ∧ timeOk now = true ∧ spoolMany x = spoolMany s ∧ JJ id a now 0 x ∧ Chk s x id a now := by
  rcases h with ⟨_, _, h⟩ | ⟨hs, i, k, fq, hf, h0, h1⟩
  · cases h
  · cases ht : (fq && timeOk now) with
    | false => cases (h0 ht).2
    | true =>
      rw [Bool.and_eq_true] at ht
      obtain ⟨rfl, ht⟩ := ht
      obtain ⟨n, m, rfl, hn, rfl, hm, hi, hk⟩ := find_true hf
      have h2 := h1 rfl ht
      simp only [Int.toNat_natCast] at h2
      have hto := tries_ok hs hn hm
      by_cases hno : laterNo ((s.f1.getD n zItem).f2.getD m zRcpt) now
      · cases (h2.1 hno).2
      · obtain ⟨rfl, _⟩ := h2.2 hno
        exact ⟨hs, ht, later_many hs (later_ok hs hn hm ht hno), jj_new hs hw hi hn hk hm ht hno (by omega), later_chk hs hi hn hk hm hno⟩
theorem later_fits {s x : SSpool} {id : Int} {a : SAddr} {now : Int} {q : Bool} (h : LaterR s id a now x q) (hw : fitSpool s) : fitSpool x := by
  cases q with
  | true => exact (later_law h hw).2.2.2.1.2.1
  | false =>
    rcases h with ⟨_, rfl, _⟩ | ⟨hs, i, k, fq, hf, h0, h1⟩
    · exact ⟨by show (Lit.int .i64 0).wf = true; decide, by show (0 : Nat) ≤ _; decide, fun y hy => by cases hy⟩
    · cases ht : (fq && timeOk now) with
      | false => rw [(h0 ht).1]; exact hw
      | true =>
        rw [Bool.and_eq_true] at ht
        have h2 := h1 ht.1 ht.2
        by_cases hno : laterNo ((s.f1.getD i.toNat zItem).f2.getD k.toNat zRcpt) now
        · rw [(h2.1 hno).1]; exact hw
        · cases (h2.2 hno).2

end Go.Proofs.YtiaibgkpohmihaaDoor
