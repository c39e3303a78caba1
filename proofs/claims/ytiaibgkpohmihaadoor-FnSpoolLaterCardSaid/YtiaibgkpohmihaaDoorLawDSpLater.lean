/- The law FnSpoolLater, walked. -/
import Derived.Test.YtiaibgkpohmihaaDoorReg2
import Derived.Test.YtiaibgkpohmihaaDoorDrawSpLater
import Derived.Test.YtiaibgkpohmihaaDoorSpLtr
import Derived.Test.YtiaibgkpohmihaaDoorSpQ
import Derived.Test.YtiaibgkpohmihaaDoorSaSp
import Derived.Deep.RegionHeld3
namespace Go.Proofs.YtiaibgkpohmihaaDoor
open Go.RowKit Go.Proofs.YtiaibgkpohmihaaDoorW.PrintWords
set_option linter.unusedVariables false
set_option linter.unusedSimpArgs false
theorem bounds_u8' {n : Int} (h : (Lit.int .u8 n).wf = true) : 0 ≤ n ∧ n ≤ 255 := by
 simp [Lit.wf, IntKind.min, IntKind.max, IntKind.signed, IntKind.bits] at h
 omega
theorem later_no {s x : SSpool} {id : Int} {a : SAddr} {now : Int} (h : LaterR s id a now x false) (hs : spoolOk s = true) : x = s := by
 rcases h with ⟨h, _⟩ | ⟨_, i, k, fq, hf, h0, h1⟩
 ·rw [hs] at h; cases h
 ·cases ht : (fq && timeOk now) with
  | false => exact (h0 ht).1
  | true =>
   rw [Bool.and_eq_true] at ht
   have h2 := h1 ht.1 ht.2
   by_cases hno : laterNo ((s.f1.getD i.toNat zItem).f2.getD k.toNat zRcpt) now
   ·exact (h2.1 hno).1
   ·cases (h2.2 hno).2
theorem later_cells {r z : SRcpt} {now : Int} (h : r = laterR z now) : r.f0 = z.f0 ∧ r.f1 = z.f1 + 1 ∧ r.f2 = now + ((2 ^ (z.f1 + 1).toNat : Nat) : Int) := by
 subst h
 exact ⟨rfl, rfl, rfl⟩
attribute [local go_sem high] eqA24 eqA55
set_option maxRecDepth 100000 in
set_option maxHeartbeats 16000000 in
theorem walk_FnSpoolLater {w : World} (A : Option Addr) (c : Nat) (xs : List Int) (hr : Kd.C (Kd.int .u8) w A xs.length xs) (hg : xs.length ≤ 9223372036854775807 ∧ ∀ y ∈ xs, (Lit.int .u8 y).wf = true) (hc : xs.length ≤ c) (hG : Glob w) :
  Calls Tryd.prog 5 #[.slice A xs.length c] w fun e w' => e = .returned (.bool true) ∧ Below w.heap.size w w' := by
 by_cases n_code : (1048576 : Int) < (xs.length : Int)
 ·generalize xs.length = L at n_code
  go_enter Tryd.func5, Tryd.ntmps5
  go_wp2
  go_ret
  exact ⟨rfl, Below.refl _ _⟩
 have hd := drawSpoolLater_any A c xs w ⟨by omega, fun y hy => by have := bounds_u8' (hg.2 y hy); omega⟩ hc hr
 clear hr hg hc
 generalize xs.length = L at n_code hd
 go_enter Tryd.func5, Tryd.ntmps5
 go_wp2_with fail
 refine Calls.mono hd ?_
 rintro e w1 ⟨s, B, d, id, a, now, rfl, hws, hid, hsa, hnow, hrow, b1⟩
 have HG := Lib.hid (hG.below b1)
 have BW := Lib.hid b1
 have SZ := Lib.hid b1.size
 clear hd hG b1
 obtain ⟨x, q, hdr⟩ := later_ex s id a now
 have hf := wideS_fit hws
 have hx8 : x.f1.length ≤ 1048576 := (later_fits hdr hf).2.1
 have C0 := Aside0.mk (Kd.R_reads' hrow).2.2
 have HFS := Lib.hid hf
 have HD := Lib.hid hdr
 have himpl := fun W (hW : Below w1.heap.size w1 W) => spoolLater_any s id a now x q B d W hf (Kd.C_below C0.out hW) (HG.out.below hW) hdr
 have hspec := fun W (hW : Below w1.heap.size w1 W) => specSpoolLater_any s id a now x q B d W hf (Kd.C_below C0.out hW) hdr
 have hok := fun W (hW : Below w1.heap.size w1 W) => spoolOk_any s B d W hf (Kd.C_below C0.out hW) (HG.out.below hW)
 have hms := fun W (hW : Below w1.heap.size w1 W) => spoolMany_any s B d W hf (Kd.C_below C0.out hW) (HG.out.below hW)
 have HFX := Lib.hid (later_fits hdr hf)
 clear hws hsa hid hrow hdr hf
 go_wp2_with fail
 obtain ⟨W0, hW0⟩ : ∃ W, W = ((w1.alloc (.cells #[.int .i64 s.f0, .slice B s.f1.length d] 43)).alloc (.cells #[.string a.f0, .string a.f1] 24)) := ⟨_, rfl⟩
 rw [← hW0]
 have HB : Aside0 (Below w1.heap.size w1 W0) := ⟨by rw [hW0]; exact (bel_alloc (bel_alloc (Below.refl _ _) _) _)⟩
 have FS : Aside0 (W0.heap[w1.heap.size]? = some (.cells #[.int .i64 s.f0, .slice B s.f1.length d] 43 (0, 0))) := ⟨by rw [hW0]; exact blk_alloc (blk_at _ _ (by first | rfl | (simp; done))) _⟩
 have FA : Aside0 (W0.heap[w1.heap.size + 1]? = some (.cells #[.string a.f0, .string a.f1] 24 (0, 0))) := ⟨by rw [hW0]; exact blk_at _ _ (by simp)⟩
 have HL : Aside0 (w1.heap.size + 2 ≤ W0.heap.size) := ⟨by rw [hW0]; simp⟩
 clear hW0
 refine Calls.mono (himpl _ HB.out) ?_
 rintro e w2 ⟨Bx, dx, rfl, rRX, bw2⟩
 replace FS := Aside0.mk (below_blk FS.out bw2)
 replace FA := Aside0.mk (below_blk FA.out bw2)
 have RX : Aside0 (Kd.R kItem 28 w2 w1.heap.size (fun _ => True) (.slice Bx x.f1.length dx) x.f1) := ⟨Kd.R_lower (base' := w1.heap.size) rRX HB.out.size⟩
 clear rRX
 replace HB := Aside0.mk (bel_then HB.out bw2)
 replace HL := Aside0.mk (Nat.le_trans HL.out bw2.size)
 clear bw2
 clear himpl
 have zFS := blk_lt FS.out
 have cFS_0 : w2.cell? ⟨w1.heap.size, 0, none⟩ = some (.int .i64 s.f0) := clq FS.out 0 rfl
 have cFS_1 : w2.cell? ⟨w1.heap.size, 1, none⟩ = some (.slice B s.f1.length d) := clq FS.out 1 rfl
 have zFA := blk_lt FA.out
 have cFA_0 : w2.cell? ⟨w1.heap.size + 1, 0, none⟩ = some (.string a.f0) := clq FA.out 0 rfl
 have cFA_1 : w2.cell? ⟨w1.heap.size + 1, 1, none⟩ = some (.string a.f1) := clq FA.out 1 rfl
 go_wp2_with fail
 generalize hWw3 : World.alloc (w2) _ = w3
 have ltFS := blk_lt FS.out
 have ltFA := blk_lt FA.out
 have ltb := HB.out.size
 have ltl := HL.out
 have TT : ∀ k, k < w2.heap.size → w3.heap[k]? = w2.heap[k]? := fun k hk => by rw [← hWw3]; (with_reducible repeat (first | rfl | refine hp_set ?_ ?_ | refine hp_alloc ?_ ?_ | refine hp_drew ?_)); all_goals (first | (with_reducible rfl) | omega | (dsimp only; omega) | (simp; omega))
 have TS : w2.heap.size + 1 ≤ w3.heap.size := by rw [← hWw3]; simp
 have nFS : w3.heap[w1.heap.size]? = some (.cells #[.int .i64 s.f0, .slice B s.f1.length d] 43 (0, 0)) := (TT _ ltFS).trans FS.out
 have nFA : w3.heap[w1.heap.size + 1]? = some (.cells #[.string a.f0, .string a.f1] 24 (0, 0)) := (TT _ ltFA).trans FA.out
 have nFX : w3.heap[w2.heap.size]? = some (.cells #[.int .i64 x.f0, .slice Bx x.f1.length dx] 43 (0, 0)) := by rw [← hWw3]; exact blk_new w2 (.cells #[.int .i64 x.f0, .slice Bx x.f1.length dx] 43)
 have nRX : Kd.R kItem 28 w3 w1.heap.size (fun _ => True) (.slice Bx x.f1.length dx) x.f1 := Kd.R_mono (Kd.R_step (RX.out) (fun k hk hlt => TT k hlt)) (fun _ hk => hk)
 have nHB : Below w1.heap.size w1 w3 := by rw [← hWw3]; exact bel_alloc (HB.out) _
 clear zFS cFS_0 cFS_1 zFA cFA_0 cFA_1
 clear hWw3 FS FA HB RX
 have FS := Aside0.mk nFS
 clear nFS
 have FA := Aside0.mk nFA
 clear nFA
 have FX := Aside0.mk nFX
 clear nFX
 have RX := Aside0.mk nRX
 clear nRX
 have HB := Aside0.mk nHB
 clear nHB
 have oFX_ltFS := ltFS
 have oFX_ltFA := ltFA
 have oFX_ltl := ltl
 have oFX_ts := TS
 replace HL := Aside0.mk (Nat.le_trans HL.out (by omega : w2.heap.size ≤ w3.heap.size))
 clear TT TS ltFS ltFA ltb ltl
 refine Calls.mono (hspec _ HB.out) ?_
 rintro e w4 ⟨By, dy, rfl, rRY, bw4⟩
 replace FS := Aside0.mk (below_blk FS.out bw4)
 replace FA := Aside0.mk (below_blk FA.out bw4)
 replace FX := Aside0.mk (below_blk FX.out bw4)
 replace RX := Aside0.mk (Kd.R_below RX.out bw4)
 have RY : Aside0 (Kd.R kItem 28 w4 w1.heap.size (fun _ => True) (.slice By x.f1.length dy) x.f1) := ⟨Kd.R_lower (base' := w1.heap.size) rRY HB.out.size⟩
 clear rRY
 replace HB := Aside0.mk (bel_then HB.out bw4)
 replace HL := Aside0.mk (Nat.le_trans HL.out bw4.size)
 clear bw4
 clear hspec
 cases q
 ·have zFX := blk_lt FX.out
  have cFX_0 : w4.cell? ⟨w2.heap.size, 0, none⟩ = some (.int .i64 x.f0) := clq FX.out 0 rfl
  have cFX_1 : w4.cell? ⟨w2.heap.size, 1, none⟩ = some (.slice Bx x.f1.length dx) := clq FX.out 1 rfl
  have zFS := blk_lt FS.out
  have cFS_0 : w4.cell? ⟨w1.heap.size, 0, none⟩ = some (.int .i64 s.f0) := clq FS.out 0 rfl
  have cFS_1 : w4.cell? ⟨w1.heap.size, 1, none⟩ = some (.slice B s.f1.length d) := clq FS.out 1 rfl
  go_wp2_with fail
  generalize hWw5 : World.alloc (w4) _ = w5
  have ltFS := blk_lt FS.out
  have ltFA := blk_lt FA.out
  have ltFX := blk_lt FX.out
  have ltb := HB.out.size
  have ltl := HL.out
  have TT : ∀ k, k < w4.heap.size → w5.heap[k]? = w4.heap[k]? := fun k hk => by rw [← hWw5]; (with_reducible repeat (first | rfl | refine hp_set ?_ ?_ | refine hp_alloc ?_ ?_ | refine hp_drew ?_)); all_goals (first | (with_reducible rfl) | omega | (dsimp only; omega) | (simp; omega))
  have TS : w4.heap.size + 1 ≤ w5.heap.size := by rw [← hWw5]; simp
  have nFS : w5.heap[w1.heap.size]? = some (.cells #[.int .i64 s.f0, .slice B s.f1.length d] 43 (0, 0)) := (TT _ ltFS).trans FS.out
  have nFA : w5.heap[w1.heap.size + 1]? = some (.cells #[.string a.f0, .string a.f1] 24 (0, 0)) := (TT _ ltFA).trans FA.out
  have nFX : w5.heap[w2.heap.size]? = some (.cells #[.int .i64 x.f0, .slice Bx x.f1.length dx] 43 (0, 0)) := (TT _ ltFX).trans FX.out
  have nFW : w5.heap[w4.heap.size]? = some (.cells #[.int .i64 x.f0, .slice By x.f1.length dy] 43 (0, 0)) := by rw [← hWw5]; exact blk_new w4 (.cells #[.int .i64 x.f0, .slice By x.f1.length dy] 43)
  have nRX : Kd.R kItem 28 w5 w1.heap.size (fun _ => True) (.slice Bx x.f1.length dx) x.f1 := Kd.R_mono (Kd.R_step (RX.out) (fun k hk hlt => TT k hlt)) (fun _ hk => hk)
  have nRY : Kd.R kItem 28 w5 w1.heap.size (fun _ => True) (.slice By x.f1.length dy) x.f1 := Kd.R_mono (Kd.R_step (RY.out) (fun k hk hlt => TT k hlt)) (fun _ hk => hk)
  have nHB : Below w1.heap.size w1 w5 := by rw [← hWw5]; exact bel_alloc (HB.out) _
  clear zFX cFX_0 cFX_1 zFS cFS_0 cFS_1
  clear hWw5 FS FA FX HB RX RY
  have FS := Aside0.mk nFS
  clear nFS
  have FA := Aside0.mk nFA
  clear nFA
  have FX := Aside0.mk nFX
  clear nFX
  have FW := Aside0.mk nFW
  clear nFW
  have RX := Aside0.mk nRX
  clear nRX
  have RY := Aside0.mk nRY
  clear nRY
  have HB := Aside0.mk nHB
  clear nHB
  have oFW_ltFS := ltFS
  have oFW_ltFA := ltFA
  have oFW_ltFX := ltFX
  have oFW_ltl := ltl
  have oFW_ts := TS
  replace HL := Aside0.mk (Nat.le_trans HL.out (by omega : w4.heap.size ≤ w5.heap.size))
  clear TT TS ltFS ltFA ltFX ltb ltl
  refine Calls.mono (saSpool_any x Bx dx By dy _ HFX.out (Kd.R_reads' RX.out).2.2 (Kd.R_reads' RY.out).2.2) ?_
  rintro e w6 ⟨rfl, bw6⟩
  replace FS := Aside0.mk (below_blk FS.out bw6)
  replace FA := Aside0.mk (below_blk FA.out bw6)
  replace FX := Aside0.mk (below_blk FX.out bw6)
  replace FW := Aside0.mk (below_blk FW.out bw6)
  replace RX := Aside0.mk (Kd.R_below RX.out bw6)
  replace RY := Aside0.mk (Kd.R_below RY.out bw6)
  replace HB := Aside0.mk (bel_then HB.out bw6)
  replace HL := Aside0.mk (Nat.le_trans HL.out bw6.size)
  clear bw6
  have zFS := blk_lt FS.out
  have cFS_0 : w6.cell? ⟨w1.heap.size, 0, none⟩ = some (.int .i64 s.f0) := clq FS.out 0 rfl
  have cFS_1 : w6.cell? ⟨w1.heap.size, 1, none⟩ = some (.slice B s.f1.length d) := clq FS.out 1 rfl
  have zFX := blk_lt FX.out
  have cFX_0 : w6.cell? ⟨w2.heap.size, 0, none⟩ = some (.int .i64 x.f0) := clq FX.out 0 rfl
  have cFX_1 : w6.cell? ⟨w2.heap.size, 1, none⟩ = some (.slice Bx x.f1.length dx) := clq FX.out 1 rfl
  have zFW := blk_lt FW.out
  have cFW_0 : w6.cell? ⟨w4.heap.size, 0, none⟩ = some (.int .i64 x.f0) := clq FW.out 0 rfl
  have cFW_1 : w6.cell? ⟨w4.heap.size, 1, none⟩ = some (.slice By x.f1.length dy) := clq FW.out 1 rfl
  go_wp2_with fail
  refine Calls.mono (hok _ HB.out) ?_
  rintro e w7 ⟨rfl, bw7⟩
  clear zFS cFS_0 cFS_1 zFX cFX_0 cFX_1 zFW cFW_0 cFW_1
  replace FS := Aside0.mk (below_blk FS.out bw7)
  replace FA := Aside0.mk (below_blk FA.out bw7)
  replace FX := Aside0.mk (below_blk FX.out bw7)
  replace FW := Aside0.mk (below_blk FW.out bw7)
  replace RX := Aside0.mk (Kd.R_below RX.out bw7)
  replace RY := Aside0.mk (Kd.R_below RY.out bw7)
  replace HB := Aside0.mk (bel_then HB.out bw7)
  replace HL := Aside0.mk (Nat.le_trans HL.out bw7.size)
  clear bw7
  cases hq1 : spoolOk s
  ·have zFX := blk_lt FX.out
   have cFX_0 : w7.cell? ⟨w2.heap.size, 0, none⟩ = some (.int .i64 x.f0) := clq FX.out 0 rfl
   have cFX_1 : w7.cell? ⟨w2.heap.size, 1, none⟩ = some (.slice Bx x.f1.length dx) := clq FX.out 1 rfl
   have zFW := blk_lt FW.out
   have cFW_0 : w7.cell? ⟨w4.heap.size, 0, none⟩ = some (.int .i64 x.f0) := clq FW.out 0 rfl
   have cFW_1 : w7.cell? ⟨w4.heap.size, 1, none⟩ = some (.slice By x.f1.length dy) := clq FW.out 1 rfl
   go_wp2_with fail
   refine Calls.mono (saSpool_any x Bx dx By dy _ HFX.out (Kd.R_reads' RX.out).2.2 (Kd.R_reads' RY.out).2.2) ?_
   rintro e w8 ⟨rfl, bw8⟩
   clear zFX cFX_0 cFX_1 zFW cFW_0 cFW_1
   replace FS := Aside0.mk (below_blk FS.out bw8)
   replace FA := Aside0.mk (below_blk FA.out bw8)
   replace FX := Aside0.mk (below_blk FX.out bw8)
   replace FW := Aside0.mk (below_blk FW.out bw8)
   replace RX := Aside0.mk (Kd.R_below RX.out bw8)
   replace RY := Aside0.mk (Kd.R_below RY.out bw8)
   replace HB := Aside0.mk (bel_then HB.out bw8)
   replace HL := Aside0.mk (Nat.le_trans HL.out bw8.size)
   clear bw8
   go_wp2
   go_ret
   exact ⟨rfl, BW.out.trans (HB.out.mono SZ.out)⟩
  ·have hxs : s = x := (later_no HD.out hq1).symm
   clear HD hok
   subst hxs
   have zFX := blk_lt FX.out
   have cFX_0 : w7.cell? ⟨w2.heap.size, 0, none⟩ = some (.int .i64 s.f0) := clq FX.out 0 rfl
   have cFX_1 : w7.cell? ⟨w2.heap.size, 1, none⟩ = some (.slice Bx s.f1.length dx) := clq FX.out 1 rfl
   have zFS := blk_lt FS.out
   have cFS_0 : w7.cell? ⟨w1.heap.size, 0, none⟩ = some (.int .i64 s.f0) := clq FS.out 0 rfl
   have cFS_1 : w7.cell? ⟨w1.heap.size, 1, none⟩ = some (.slice B s.f1.length d) := clq FS.out 1 rfl
   go_wp2_with fail
   refine Calls.mono (saSpool_any s Bx dx B d _ HFX.out (Kd.R_reads' RX.out).2.2 (Kd.C_below C0.out HB.out)) ?_
   rintro e w8 ⟨rfl, bw8⟩
   clear zFX cFX_0 cFX_1 zFS cFS_0 cFS_1
   replace FS := Aside0.mk (below_blk FS.out bw8)
   replace FA := Aside0.mk (below_blk FA.out bw8)
   replace FX := Aside0.mk (below_blk FX.out bw8)
   replace FW := Aside0.mk (below_blk FW.out bw8)
   replace RX := Aside0.mk (Kd.R_below RX.out bw8)
   replace RY := Aside0.mk (Kd.R_below RY.out bw8)
   replace HB := Aside0.mk (bel_then HB.out bw8)
   replace HL := Aside0.mk (Nat.le_trans HL.out bw8.size)
   clear bw8
   go_wp2
   go_ret
   exact ⟨rfl, BW.out.trans (HB.out.mono SZ.out)⟩
 ·obtain ⟨h1, htm, hmany, hjj, hchk⟩ := later_law HD.out HFS.out
  have hokX := hjj.1
  have HJJ := Lib.hid hjj
  have HTM := Lib.hid htm
  have HCHK := Lib.hid hchk
  have hnw := time_parts htm
  have hmx := fun W (hW : Below w1.heap.size w1 W) (hr : Kd.C kItem W Bx x.f1.length x.f1) => spoolMany_any x Bx dx W HFX.out hr (HG.out.below hW)
  have hokx := fun W (hW : Below w1.heap.size w1 W) (hr : Kd.C kItem W Bx x.f1.length x.f1) => spoolOk_any x Bx dx W HFX.out hr (HG.out.below hW)
  rw [hmany] at hmx
  rw [hokX] at hokx
  rw [h1] at hok
  generalize spoolMany s = Ms at hmx hms
  have HMX := Lib.hid hmx
  have HOX := Lib.hid hokx
  have HMS := Lib.hid hms
  clear h1 htm hmany hjj hchk hokX hmx hokx hms HD
  have zFX := blk_lt FX.out
  have cFX_0 : w4.cell? ⟨w2.heap.size, 0, none⟩ = some (.int .i64 x.f0) := clq FX.out 0 rfl
  have cFX_1 : w4.cell? ⟨w2.heap.size, 1, none⟩ = some (.slice Bx x.f1.length dx) := clq FX.out 1 rfl
  have zFS := blk_lt FS.out
  have cFS_0 : w4.cell? ⟨w1.heap.size, 0, none⟩ = some (.int .i64 s.f0) := clq FS.out 0 rfl
  have cFS_1 : w4.cell? ⟨w1.heap.size, 1, none⟩ = some (.slice B s.f1.length d) := clq FS.out 1 rfl
  go_wp2_with fail
  generalize hWw5 : World.alloc (w4) _ = w5
  have ltFS := blk_lt FS.out
  have ltFA := blk_lt FA.out
  have ltFX := blk_lt FX.out
  have ltb := HB.out.size
  have ltl := HL.out
  have TT : ∀ k, k < w4.heap.size → w5.heap[k]? = w4.heap[k]? := fun k hk => by rw [← hWw5]; (with_reducible repeat (first | rfl | refine hp_set ?_ ?_ | refine hp_alloc ?_ ?_ | refine hp_drew ?_)); all_goals (first | (with_reducible rfl) | omega | (dsimp only; omega) | (simp; omega))
  have TS : w4.heap.size + 1 ≤ w5.heap.size := by rw [← hWw5]; simp
  have nFS : w5.heap[w1.heap.size]? = some (.cells #[.int .i64 s.f0, .slice B s.f1.length d] 43 (0, 0)) := (TT _ ltFS).trans FS.out
  have nFA : w5.heap[w1.heap.size + 1]? = some (.cells #[.string a.f0, .string a.f1] 24 (0, 0)) := (TT _ ltFA).trans FA.out
  have nFX : w5.heap[w2.heap.size]? = some (.cells #[.int .i64 x.f0, .slice Bx x.f1.length dx] 43 (0, 0)) := (TT _ ltFX).trans FX.out
  have nFW : w5.heap[w4.heap.size]? = some (.cells #[.int .i64 x.f0, .slice By x.f1.length dy] 43 (0, 0)) := by rw [← hWw5]; exact blk_new w4 (.cells #[.int .i64 x.f0, .slice By x.f1.length dy] 43)
  have nRX : Kd.R kItem 28 w5 w1.heap.size (fun _ => True) (.slice Bx x.f1.length dx) x.f1 := Kd.R_mono (Kd.R_step (RX.out) (fun k hk hlt => TT k hlt)) (fun _ hk => hk)
  have nRY : Kd.R kItem 28 w5 w1.heap.size (fun _ => True) (.slice By x.f1.length dy) x.f1 := Kd.R_mono (Kd.R_step (RY.out) (fun k hk hlt => TT k hlt)) (fun _ hk => hk)
  have nHB : Below w1.heap.size w1 w5 := by rw [← hWw5]; exact bel_alloc (HB.out) _
  clear zFX cFX_0 cFX_1 zFS cFS_0 cFS_1
  clear hWw5 FS FA FX HB RX RY
  have FS := Aside0.mk nFS
  clear nFS
  have FA := Aside0.mk nFA
  clear nFA
  have FX := Aside0.mk nFX
  clear nFX
  have FW := Aside0.mk nFW
  clear nFW
  have RX := Aside0.mk nRX
  clear nRX
  have RY := Aside0.mk nRY
  clear nRY
  have HB := Aside0.mk nHB
  clear nHB
  have oFW_ltFS := ltFS
  have oFW_ltFA := ltFA
  have oFW_ltFX := ltFX
  have oFW_ltl := ltl
  have oFW_ts := TS
  replace HL := Aside0.mk (Nat.le_trans HL.out (by omega : w4.heap.size ≤ w5.heap.size))
  clear TT TS ltFS ltFA ltFX ltb ltl
  refine Calls.mono (saSpool_any x Bx dx By dy _ HFX.out (Kd.R_reads' RX.out).2.2 (Kd.R_reads' RY.out).2.2) ?_
  rintro e w6 ⟨rfl, bw6⟩
  replace FS := Aside0.mk (below_blk FS.out bw6)
  replace FA := Aside0.mk (below_blk FA.out bw6)
  replace FX := Aside0.mk (below_blk FX.out bw6)
  replace FW := Aside0.mk (below_blk FW.out bw6)
  replace RX := Aside0.mk (Kd.R_below RX.out bw6)
  replace RY := Aside0.mk (Kd.R_below RY.out bw6)
  replace HB := Aside0.mk (bel_then HB.out bw6)
  replace HL := Aside0.mk (Nat.le_trans HL.out bw6.size)
  clear bw6
  have zFS := blk_lt FS.out
  have cFS_0 : w6.cell? ⟨w1.heap.size, 0, none⟩ = some (.int .i64 s.f0) := clq FS.out 0 rfl
  have cFS_1 : w6.cell? ⟨w1.heap.size, 1, none⟩ = some (.slice B s.f1.length d) := clq FS.out 1 rfl
  go_wp2_with fail
  refine Calls.mono (hok _ HB.out) ?_
  rintro e w7 ⟨rfl, bw7⟩
  clear zFS cFS_0 cFS_1
  replace FS := Aside0.mk (below_blk FS.out bw7)
  replace FA := Aside0.mk (below_blk FA.out bw7)
  replace FX := Aside0.mk (below_blk FX.out bw7)
  replace FW := Aside0.mk (below_blk FW.out bw7)
  replace RX := Aside0.mk (Kd.R_below RX.out bw7)
  replace RY := Aside0.mk (Kd.R_below RY.out bw7)
  replace HB := Aside0.mk (bel_then HB.out bw7)
  replace HL := Aside0.mk (Nat.le_trans HL.out bw7.size)
  clear bw7
  clear hok
  have zFX := blk_lt FX.out
  have cFX_0 : w7.cell? ⟨w2.heap.size, 0, none⟩ = some (.int .i64 x.f0) := clq FX.out 0 rfl
  have cFX_1 : w7.cell? ⟨w2.heap.size, 1, none⟩ = some (.slice Bx x.f1.length dx) := clq FX.out 1 rfl
  have zFS := blk_lt FS.out
  have cFS_0 : w7.cell? ⟨w1.heap.size, 0, none⟩ = some (.int .i64 s.f0) := clq FS.out 0 rfl
  have cFS_1 : w7.cell? ⟨w1.heap.size, 1, none⟩ = some (.slice B s.f1.length d) := clq FS.out 1 rfl
  have zFA := blk_lt FA.out
  have cFA_0 : w7.cell? ⟨w1.heap.size + 1, 0, none⟩ = some (.string a.f0) := clq FA.out 0 rfl
  have cFA_1 : w7.cell? ⟨w1.heap.size + 1, 1, none⟩ = some (.string a.f1) := clq FA.out 1 rfl
  go_wp2
  clear zFX cFX_0 cFX_1 zFS cFS_0 cFS_1 zFA cFA_0 cFA_1
  clear FW RY
  go_loopg [11] (x.f1.length) (fun g v wr => ∃ i : Nat, i ≤ x.f1.length ∧ x.f1.length - i ≤ g ∧ v = .int .i64 i ∧ Aside0 (Below w1.heap.size w1 wr) ∧ Aside0 (wr.heap[w2.heap.size]? = some (.cells #[.int .i64 x.f0, .slice Bx x.f1.length dx] 43 (0, 0))) ∧ Aside0 (wr.heap[w1.heap.size]? = some (.cells #[.int .i64 s.f0, .slice B s.f1.length d] 43 (0, 0))) ∧ Aside0 (wr.heap[w1.heap.size + 1]? = some (.cells #[.string a.f0, .string a.f1] 24 (0, 0))) ∧ Aside0 (Kd.R kItem 28 wr w1.heap.size (fun _ => True) (.slice Bx x.f1.length dx) x.f1))
  case atStart => exact ⟨0, Nat.zero_le _, by omega, rfl, HB, FX, FS, FA, RX⟩
  case round =>
   clear HB HL FX FS FA RX
   obtain ⟨i, hi, hg, rfl, HB, FX, FS, FA, RX⟩ := hrel
   obtain ⟨wo, hwo⟩ : ∃ W, W = wr := ⟨_, rfl⟩
   subst hwo
   have HL : Aside0 (w1.heap.size + 2 ≤ wo.heap.size) := ⟨by have := blk_lt FA.out; omega⟩
   by_cases hlt : i < x.f1.length
   ·have hlt' : (i : Int) < (x.f1.length : Int) := by omega
    have hls : i < s.f1.length := by have := HCHK.out.1; omega
    have hls' : (i : Int) < (s.f1.length : Int) := by omega
    obtain ⟨ad, Q0, q0, Q1, q1, e1, p0, p1, p2, p3, p4, l0, k0, l1, k1⟩ := at_Item (Kd.R_reads' RX.out).2.2 i hlt
    obtain ⟨ae, R0, t0, R1, t1, e2, r0, r1, r2, r3, r4, n0, j0, n1, j1⟩ := at_Item (Kd.C_below C0.out HB.out) i hls
    subst e1
    subst e2
    have hck := HCHK.out.2 i hls
    have hfy := (HFS.out.2.2 (s.f1.getD i zItem) (getD_mem _ _ hls)).2.2.1
    generalize x.f1.getD i zItem = X at p0 p1 p2 p3 p4 l0 k0 l1 k1 hck
    generalize s.f1.getD i zItem = Y at r0 r1 r2 r3 r4 n0 j0 n1 j1 hck hfy
    rw [hck.2.1] at p3 l0
    have hyl := hfy.1
    have ltp := World.block_lt_of_cell? _ _ p0
    have ltr := World.block_lt_of_cell? _ _ r3
    have HCK := Lib.hid hck
    have HFY := Lib.hid hfy
    have K0 := Aside0.mk k0
    have J0 := Aside0.mk j0
    clear hck hfy p1 p2 p4 r0 r1 r2 r4 l0 l1 n0 n1 k0 k1 j0 j1
    have zFX := blk_lt FX.out
    have cFX_0 : wo.cell? ⟨w2.heap.size, 0, none⟩ = some (.int .i64 x.f0) := clq FX.out 0 rfl
    have cFX_1 : wo.cell? ⟨w2.heap.size, 1, none⟩ = some (.slice (some ad) x.f1.length dx) := clq FX.out 1 rfl
    have zFS := blk_lt FS.out
    have cFS_0 : wo.cell? ⟨w1.heap.size, 0, none⟩ = some (.int .i64 s.f0) := clq FS.out 0 rfl
    have cFS_1 : wo.cell? ⟨w1.heap.size, 1, none⟩ = some (.slice (some ae) s.f1.length d) := clq FS.out 1 rfl
    go_wp2
    clear zFX cFX_0 cFX_1 zFS cFS_0 cFS_1
    go_loopg [12] (Y.f2.length) (fun g v wr => ∃ k : Nat, k ≤ Y.f2.length ∧ Y.f2.length - k ≤ g ∧ v = .int .i64 k ∧ Aside0 (Below wo.heap.size wo wr))
    case atStart => exact ⟨0, Nat.zero_le _, by omega, rfl, ⟨Below.refl _ _⟩⟩
    case round =>
     obtain ⟨k, hk, hg2, rfl, BI⟩ := hrel
     replace FX := Aside0.mk (below_blk FX.out BI.out)
     replace FS := Aside0.mk (below_blk FS.out BI.out)
     replace FA := Aside0.mk (below_blk FA.out BI.out)
     by_cases hlk : k < Y.f2.length
     ·have hlk' : (k : Int) < (Y.f2.length : Int) := by omega
      have hck := HCK.out.2.2 k hlk
      obtain ⟨au, e1, s0, s1, s2, s3⟩ := at_Rcpt (Kd.C_below K0.out BI.out) k (by have := HCK.out.2.1; omega)
      obtain ⟨av, e2, u0, u1, u2, u3⟩ := at_Rcpt (Kd.C_below J0.out BI.out) k hlk
      subst e1
      subst e2
      have hwf := HFY.out.2 _ (getD_mem Y.f2 zRcpt hlk)
      generalize X.f2.getD k zRcpt = rx at s0 s1 s2 s3 hck
      generalize Y.f2.getD k zRcpt = z at u0 u1 u2 u3 hck hwf
      have g0 : wr.cell? (ad.add (i * 5)) = some (.int .i64 X.f0) := (BI.out.cell ltp).trans p0
      have g3 : wr.cell? ⟨(ad.add (i * 5)).block, (ad.add (i * 5)).off + 3, none⟩ = some (.slice (some au) Y.f2.length q0) := (BI.out.cell (p := ⟨(ad.add (i * 5)).block, (ad.add (i * 5)).off + 3, none⟩) ltp).trans p3
      have d3 : wr.cell? ⟨(ae.add (i * 5)).block, (ae.add (i * 5)).off + 3, none⟩ = some (.slice (some av) Y.f2.length t0) := (BI.out.cell (p := ⟨(ae.add (i * 5)).block, (ae.add (i * 5)).off + 3, none⟩) ltr).trans r3
      have lt0 := World.block_lt_of_cell? _ _ g0
      have lt3 := Nat.lt_of_lt_of_le ltr BI.out.size
      have ltu := World.block_lt_of_cell? _ _ u0
      have lts := World.block_lt_of_cell? _ _ s0
      have HB2 : Aside0 (Below wr.heap.size wr wr) := ⟨Below.refl _ _⟩
      rcases hck with ⟨c1, c2, c3, c4, c5⟩ | ⟨c3, c1⟩
      ·obtain ⟨e0, e1, e2⟩ := later_cells c3
       clear c3
       rw [e0] at s0 s1 c2
       rw [e1] at s2
       rw [e2] at s3
       clear e0 e1 e2
       have hne : (X.f0 != id) = false := by rw [bne, c1]; rfl
       skip
       have hsa : ((z.f0.f0.toList == a.f0.toList) && (z.f0.f1.toList == a.f1.toList)) = true := c2
       have hpb := pow_le (z.f1 + 1) (by omega) (by omega)
       have hpa := fun W => pause_any (z.f1 + 1) (by omega) (by omega) W
       obtain ⟨pz, hpz⟩ : ∃ p : Int, ((2 ^ (z.f1 + 1).toNat : Nat) : Int) = p := ⟨_, rfl⟩
       rw [hpz] at s3 hpb hpa
       clear hpz
       have hwt : IntKind.i64.wrap (z.f1 + 1) = z.f1 + 1 := IntWalk.i64_in _ (by omega)
       have hwn : IntKind.i64.wrap (now + pz) = now + pz := IntWalk.i64_in _ (by omega)
       have hb1 : ((z.f1 + 1) == (z.f1 + 1)) = true := beq_self_eq_true _
       have hb2 : ((now + pz) == (now + pz)) = true := beq_self_eq_true _
       clear c2 hwf
       have HBk := HB
       have HLk := HL
       clear HB HL
       have HB := HB2
       have HL : Aside0 (wr.heap.size + 0 ≤ wr.heap.size) := ⟨Nat.le_refl _⟩
       have zFX := blk_lt FX.out
       have cFX_0 : wr.cell? ⟨w2.heap.size, 0, none⟩ = some (.int .i64 x.f0) := clq FX.out 0 rfl
       have cFX_1 : wr.cell? ⟨w2.heap.size, 1, none⟩ = some (.slice (some ad) x.f1.length dx) := clq FX.out 1 rfl
       have zFS := blk_lt FS.out
       have cFS_0 : wr.cell? ⟨w1.heap.size, 0, none⟩ = some (.int .i64 s.f0) := clq FS.out 0 rfl
       have cFS_1 : wr.cell? ⟨w1.heap.size, 1, none⟩ = some (.slice (some ae) s.f1.length d) := clq FS.out 1 rfl
       go_wp2_with fail
       clear s0 s1 s2 s3 u0 u1 u2 u3 g3 d3
       generalize hWwp : World.alloc (World.alloc (wr) _) _ = wp
       have ltFX := blk_lt FX.out
       have ltFS := blk_lt FS.out
       have ltFA := blk_lt FA.out
       have ltb := HB.out.size
       have ltl := HL.out
       have TT : ∀ k, k < wr.heap.size → wp.heap[k]? = wr.heap[k]? := fun k hk => by rw [← hWwp]; (with_reducible repeat (first | rfl | refine hp_set ?_ ?_ | refine hp_alloc ?_ ?_ | refine hp_drew ?_)); all_goals (first | (with_reducible rfl) | omega | (dsimp only; omega) | (simp; omega))
       have TS : wr.heap.size + 2 ≤ wp.heap.size := by rw [← hWwp]; simp
       have nFX : wp.heap[w2.heap.size]? = some (.cells #[.int .i64 x.f0, .slice (some ad) x.f1.length dx] 43 (0, 0)) := (TT _ ltFX).trans FX.out
       have nFS : wp.heap[w1.heap.size]? = some (.cells #[.int .i64 s.f0, .slice (some ae) s.f1.length d] 43 (0, 0)) := (TT _ ltFS).trans FS.out
       have nFA : wp.heap[w1.heap.size + 1]? = some (.cells #[.string a.f0, .string a.f1] 24 (0, 0)) := (TT _ ltFA).trans FA.out
       have nFQ : wp.heap[wr.heap.size]? = some (.cells #[.string z.f0.f0, .string z.f0.f1, .int .i64 z.f1, .int .i64 z.f2] 55 (0, 0)) := by rw [← hWwp]; exact blk_alloc (blk_new wr (.cells #[.string z.f0.f0, .string z.f0.f1, .int .i64 z.f1, .int .i64 z.f2] 55)) (.cells #[.string z.f0.f0, .string z.f0.f1, .int .i64 (z.f1 + 1), .int .i64 (now + pz)] 55)
       have nFP : wp.heap[wr.heap.size + 1]? = some (.cells #[.string z.f0.f0, .string z.f0.f1, .int .i64 (z.f1 + 1), .int .i64 (now + pz)] 55 (0, 0)) := by rw [← hWwp]; exact blk_at _ _ (by first | rfl | (simp; done) | (simp; omega))
       have nHB : Below wr.heap.size wr wp := by rw [← hWwp]; exact bel_alloc (bel_alloc (HB.out) _) _
       clear zFX cFX_0 cFX_1 zFS cFS_0 cFS_1
       clear hWwp FX FS FA HB 
       have FX := Aside0.mk nFX
       clear nFX
       have FS := Aside0.mk nFS
       clear nFS
       have FA := Aside0.mk nFA
       clear nFA
       have FQ := Aside0.mk nFQ
       clear nFQ
       have FP := Aside0.mk nFP
       clear nFP
       have HB := Aside0.mk nHB
       clear nHB
       have oFQ_ltFX := ltFX
       have oFQ_ltFS := ltFS
       have oFQ_ltFA := ltFA
       have oFQ_ltl := ltl
       have oFQ_ts := TS
       replace HL := Aside0.mk (Nat.le_trans HL.out (by omega : wr.heap.size ≤ wp.heap.size))
       clear TT TS ltFX ltFS ltFA ltb ltl
       have HS1 : Aside0 (∀ W : World, (W.heap[w2.heap.size]? = some (.cells #[.int .i64 x.f0, .slice (some ad) x.f1.length dx] 43 (0, 0)) ∧ W.heap[w1.heap.size + 1]? = some (.cells #[.string a.f0, .string a.f1] 24 (0, 0)) ∧ W.heap[wr.heap.size + 1]? = some (.cells #[.string z.f0.f0, .string z.f0.f1, .int .i64 (z.f1 + 1), .int .i64 (now + pz)] 55 (0, 0)) ∧ W.heap[wr.heap.size]? = some (.cells #[.string z.f0.f0, .string z.f0.f1, .int .i64 z.f1, .int .i64 z.f2] 55 (0, 0)) ∧ W.heap[(ad.add (i * 5)).block]? = wr.heap[(ad.add (i * 5)).block]?) → W.cell? ⟨w2.heap.size, 0, none⟩ = some (.int .i64 x.f0) ∧ W.cell? ⟨w2.heap.size, 1, none⟩ = some (.slice (some ad) x.f1.length dx) ∧ W.cell? ⟨w1.heap.size + 1, 0, none⟩ = some (.string a.f0) ∧ W.cell? ⟨w1.heap.size + 1, 1, none⟩ = some (.string a.f1) ∧ W.cell? ⟨wr.heap.size + 1, 0, none⟩ = some (.string z.f0.f0) ∧ W.cell? ⟨wr.heap.size + 1, 1, none⟩ = some (.string z.f0.f1) ∧ W.cell? ⟨wr.heap.size + 1, 2, none⟩ = some (.int .i64 (z.f1 + 1)) ∧ W.cell? ⟨wr.heap.size + 1, 3, none⟩ = some (.int .i64 (now + pz)) ∧ W.cell? ⟨wr.heap.size, 0, none⟩ = some (.string z.f0.f0) ∧ W.cell? ⟨wr.heap.size, 1, none⟩ = some (.string z.f0.f1) ∧ W.cell? ⟨wr.heap.size, 2, none⟩ = some (.int .i64 z.f1) ∧ W.cell? ⟨wr.heap.size, 3, none⟩ = some (.int .i64 z.f2) ∧ W.cell? (ad.add (i * 5)) = some (.int .i64 X.f0)) := ⟨fun W h => ⟨(by have h_ := h.1; simp [World.cell?, h_]), (by have h_ := h.1; simp [World.cell?, h_]), (by have h_ := h.2.1; simp [World.cell?, h_]), (by have h_ := h.2.1; simp [World.cell?, h_]), (by have h_ := h.2.2.1; simp [World.cell?, h_]), (by have h_ := h.2.2.1; simp [World.cell?, h_]), (by have h_ := h.2.2.1; simp [World.cell?, h_]), (by have h_ := h.2.2.1; simp [World.cell?, h_]), (by have h_ := h.2.2.2.1; simp [World.cell?, h_]), (by have h_ := h.2.2.2.1; simp [World.cell?, h_]), (by have h_ := h.2.2.2.1; simp [World.cell?, h_]), (by have h_ := h.2.2.2.1; simp [World.cell?, h_]), ((World.cell?_of_block h.2.2.2.2).trans g0)⟩⟩
       refine wp_region_held_drew (S := fun (W : World) => W.heap[w2.heap.size]? = some (.cells #[.int .i64 x.f0, .slice (some ad) x.f1.length dx] 43 (0, 0)) ∧ W.heap[w1.heap.size + 1]? = some (.cells #[.string a.f0, .string a.f1] 24 (0, 0)) ∧ W.heap[wr.heap.size + 1]? = some (.cells #[.string z.f0.f0, .string z.f0.f1, .int .i64 (z.f1 + 1), .int .i64 (now + pz)] 55 (0, 0)) ∧ W.heap[wr.heap.size]? = some (.cells #[.string z.f0.f0, .string z.f0.f1, .int .i64 z.f1, .int .i64 z.f2] 55 (0, 0)) ∧ W.heap[(ad.add (i * 5)).block]? = wr.heap[(ad.add (i * 5)).block]?) (by kernel_rfl) ?s2 (fun hHeld => ?t2)
       case s2 => exact (show (fun (W : World) => W.heap[w2.heap.size]? = some (.cells #[.int .i64 x.f0, .slice (some ad) x.f1.length dx] 43 (0, 0)) ∧ W.heap[w1.heap.size + 1]? = some (.cells #[.string a.f0, .string a.f1] 24 (0, 0)) ∧ W.heap[wr.heap.size + 1]? = some (.cells #[.string z.f0.f0, .string z.f0.f1, .int .i64 (z.f1 + 1), .int .i64 (now + pz)] 55 (0, 0)) ∧ W.heap[wr.heap.size]? = some (.cells #[.string z.f0.f0, .string z.f0.f1, .int .i64 z.f1, .int .i64 z.f2] 55 (0, 0)) ∧ W.heap[(ad.add (i * 5)).block]? = wr.heap[(ad.add (i * 5)).block]?) (World.drew wp) from ⟨FX.out, FA.out, FP.out, FQ.out, HB.out.block _ lt0⟩)
       generalize hWVs : World.drew (wp) = Vs at hHeld ⊢
       have ltFX := blk_lt FX.out
       have ltFS := blk_lt FS.out
       have ltFA := blk_lt FA.out
       have ltFQ := blk_lt FQ.out
       have ltFP := blk_lt FP.out
       have ltb := HB.out.size
       have ltl := HL.out
       have TT : ∀ k, k < wp.heap.size → Vs.heap[k]? = wp.heap[k]? := fun k hk => by rw [← hWVs]; (with_reducible repeat (first | rfl | refine hp_set ?_ ?_ | refine hp_alloc ?_ ?_ | refine hp_drew ?_)); all_goals (first | (with_reducible rfl) | omega | (dsimp only; omega) | (simp; omega))
       have TS : wp.heap.size + 0 ≤ Vs.heap.size := by rw [← hWVs]; simp
       have nFX : Vs.heap[w2.heap.size]? = some (.cells #[.int .i64 x.f0, .slice (some ad) x.f1.length dx] 43 (0, 0)) := (TT _ ltFX).trans FX.out
       have nFS : Vs.heap[w1.heap.size]? = some (.cells #[.int .i64 s.f0, .slice (some ae) s.f1.length d] 43 (0, 0)) := (TT _ ltFS).trans FS.out
       have nFA : Vs.heap[w1.heap.size + 1]? = some (.cells #[.string a.f0, .string a.f1] 24 (0, 0)) := (TT _ ltFA).trans FA.out
       have nFQ : Vs.heap[wr.heap.size]? = some (.cells #[.string z.f0.f0, .string z.f0.f1, .int .i64 z.f1, .int .i64 z.f2] 55 (0, 0)) := (TT _ ltFQ).trans FQ.out
       have nFP : Vs.heap[wr.heap.size + 1]? = some (.cells #[.string z.f0.f0, .string z.f0.f1, .int .i64 (z.f1 + 1), .int .i64 (now + pz)] 55 (0, 0)) := (TT _ ltFP).trans FP.out
       have nHB : Below wr.heap.size wr Vs := by rw [← hWVs]; exact bel_then (HB.out) (drew_below0 _)
       clear hWVs FX FS FA FQ FP HB 
       have FX := Aside0.mk nFX
       clear nFX
       have FS := Aside0.mk nFS
       clear nFS
       have FA := Aside0.mk nFA
       clear nFA
       have FQ := Aside0.mk nFQ
       clear nFQ
       have FP := Aside0.mk nFP
       clear nFP
       have HB := Aside0.mk nHB
       clear nHB
       replace HL := Aside0.mk (Nat.le_trans HL.out (by omega : wp.heap.size ≤ Vs.heap.size))
       clear TT TS ltFX ltFS ltFA ltFQ ltFP ltb ltl
       refine ta 0 ?_
       refine tk 1 ?v4 ?y4 ?r4
       case y4 => intro w_ hSw; obtain ⟨e_0, e_1, e_2, e_3, e_4, e_5, e_6, e_7, e_8, e_9, e_10, e_11, e_12⟩ := HS1.out w_ hSw; clear hSw; go_simp; (try (with_reducible rfl))
       try simp only [Act.put, List.setIfInBounds_toArray, List.set_cons_zero, List.set_cons_succ]
       refine ta 2 ?_
       refine ta 3 ?_
       refine ta 4 ?_
       refine tk 5 ?v8 ?y8 ?r8
       case y8 => intro w_ hSw; obtain ⟨e_0, e_1, e_2, e_3, e_4, e_5, e_6, e_7, e_8, e_9, e_10, e_11, e_12⟩ := HS1.out w_ hSw; clear hSw; go_simp; (try (with_reducible rfl))
       try simp only [Act.put, List.setIfInBounds_toArray, List.set_cons_zero, List.set_cons_succ]
       refine ta 6 ?_
       refine ta 7 ?_
       refine ta 8 ?_
       refine ta 9 ?_
       refine tk 10 ?v13 ?y13 ?r13
       case y13 => intro w_ hSw; obtain ⟨e_0, e_1, e_2, e_3, e_4, e_5, e_6, e_7, e_8, e_9, e_10, e_11, e_12⟩ := HS1.out w_ hSw; clear hSw; go_simp; (try (with_reducible rfl))
       try simp only [Act.put, List.setIfInBounds_toArray, List.set_cons_zero, List.set_cons_succ]
       refine tk 11 ?v14 ?y14 ?r14
       case y14 => intro w_ hSw; obtain ⟨e_0, e_1, e_2, e_3, e_4, e_5, e_6, e_7, e_8, e_9, e_10, e_11, e_12⟩ := HS1.out w_ hSw; clear hSw; go_simp; (try (with_reducible rfl))
       try simp only [Act.put, List.setIfInBounds_toArray, List.set_cons_zero, List.set_cons_succ]
       refine ta 12 ?_
       refine ta 13 ?_
       refine ta 14 ?_
       refine ta 15 ?_
       refine tk 16 ?v19 ?y19 ?r19
       case y19 => intro w_ hSw; obtain ⟨e_0, e_1, e_2, e_3, e_4, e_5, e_6, e_7, e_8, e_9, e_10, e_11, e_12⟩ := HS1.out w_ hSw; clear hSw; go_simp; (try (with_reducible rfl))
       try simp only [Act.put, List.setIfInBounds_toArray, List.set_cons_zero, List.set_cons_succ]
       refine ta 17 ?_
       refine tk 18 ?v21 ?y21 ?r21
       case y21 => intro w_ hSw; obtain ⟨e_0, e_1, e_2, e_3, e_4, e_5, e_6, e_7, e_8, e_9, e_10, e_11, e_12⟩ := HS1.out w_ hSw; clear hSw; go_simp; (try (with_reducible rfl))
       try simp only [Act.put, List.setIfInBounds_toArray, List.set_cons_zero, List.set_cons_succ]
       refine ta 19 ?_
       refine ta 20 ?_
       refine ta 21 ?_
       refine ta 22 ?_
       refine tk 23 ?v26 ?y26 ?r26
       case y26 => intro w_ hSw; obtain ⟨e_0, e_1, e_2, e_3, e_4, e_5, e_6, e_7, e_8, e_9, e_10, e_11, e_12⟩ := HS1.out w_ hSw; clear hSw; go_simp; (try (with_reducible rfl))
       try simp only [Act.put, List.setIfInBounds_toArray, List.set_cons_zero, List.set_cons_succ]
       refine ta 24 ?_
       refine ta 25 ?_
       refine tk 26 ?v29 ?y29 ?r29
       case y29 => intro w_ hSw; obtain ⟨e_0, e_1, e_2, e_3, e_4, e_5, e_6, e_7, e_8, e_9, e_10, e_11, e_12⟩ := HS1.out w_ hSw; clear hSw; go_simp; (try (with_reducible rfl))
       try simp only [Act.put, List.setIfInBounds_toArray, List.set_cons_zero, List.set_cons_succ]
       refine rdy (rs := [27]) ?_
       refine rc (fun K hK => ?k30) AllReadyH.nil
       case k30 =>
        go_simp
        refine Calls.mono (hpa _) ?_
        rintro e V27 ⟨rfl, hw_⟩
        have hw9 := hw_.symm
        subst hw9
        skip
        refine hK.out _ _ ?h31 (fun hHeld => ?j31)
        case h31 => exact ⟨FX.out, FA.out, FP.out, FQ.out, HB.out.block _ lt0⟩
        clear hK K
        try simp only [Act.put, List.setIfInBounds_toArray, List.set_cons_zero, List.set_cons_succ]
        refine ta 28 ?_
        refine ta 29 ?_
        refine ta 30 ?_
        refine ta 31 ?_
        refine ta 32 ?_
        refine ta 33 ?_
        refine tk 34 ?v38 ?y38 ?r38
        case y38 => intro w_ hSw; obtain ⟨e_0, e_1, e_2, e_3, e_4, e_5, e_6, e_7, e_8, e_9, e_10, e_11, e_12⟩ := HS1.out w_ hSw; clear hSw; go_simp; (try (with_reducible rfl))
        try simp only [Act.put, List.setIfInBounds_toArray, List.set_cons_zero, List.set_cons_succ]
        refine ta 35 ?_
        refine ta 36 ?_
        refine ta 37 ?_
        refine tk 38 ?v42 ?y42 ?r42
        case y42 => intro w_ hSw; obtain ⟨e_0, e_1, e_2, e_3, e_4, e_5, e_6, e_7, e_8, e_9, e_10, e_11, e_12⟩ := HS1.out w_ hSw; clear hSw; go_simp; (try (with_reducible rfl))
        try simp only [Act.put, List.setIfInBounds_toArray, List.set_cons_zero, List.set_cons_succ]
        refine ta 39 ?_
        refine ta 40 ?_
        refine ta 41 ?_
        refine ta 42 ?_
        refine tk 43 ?v47 ?y47 ?r47
        case y47 => intro w_ hSw; obtain ⟨e_0, e_1, e_2, e_3, e_4, e_5, e_6, e_7, e_8, e_9, e_10, e_11, e_12⟩ := HS1.out w_ hSw; clear hSw; go_simp; (try (with_reducible rfl))
        try simp only [Act.put, List.setIfInBounds_toArray, List.set_cons_zero, List.set_cons_succ]
        refine tk 44 ?v48 ?y48 ?r48
        case y48 => intro w_ hSw; obtain ⟨e_0, e_1, e_2, e_3, e_4, e_5, e_6, e_7, e_8, e_9, e_10, e_11, e_12⟩ := HS1.out w_ hSw; clear hSw; go_simp; (try (with_reducible rfl))
        try simp only [Act.put, List.setIfInBounds_toArray, List.set_cons_zero, List.set_cons_succ]
        refine ta 45 ?_
        refine ta 46 ?_
        refine ta 47 ?_
        refine tu 48 ?_
        refine tu 49 ?_
        refine tu 50 ?_
        refine ta 51 ?_
        refine ta 52 ?_
        refine wpAnyH_done (by kernel_rfl) ?_ _
        clear g0
        go_wp2
        go_roundg (Y.f2.length - (k + 1))
        case measure => omega
        case rel => exact ⟨k + 1, by omega, Nat.le_refl _, by go_num, ⟨bel_then BI.out HB.out⟩⟩
      ·rw [c3] at s0 s1 s2 s3 c1
       clear c3 hwf
       have he0 : (z.f0.f0.toList == z.f0.f0.toList) = true := beq_self_eq_true _
       have he1 : (z.f0.f1.toList == z.f0.f1.toList) = true := beq_self_eq_true _
       have he2 : (z.f1 == z.f1) = true := beq_self_eq_true _
       have he3 : (z.f2 == z.f2) = true := beq_self_eq_true _
       cases hq1 : (X.f0 == id)
       ·have hne : (X.f0 != id) = true := by rw [bne, hq1]; rfl
        clear c1
        have HBk := HB
        have HLk := HL
        clear HB HL
        have HB := HB2
        have HL : Aside0 (wr.heap.size + 0 ≤ wr.heap.size) := ⟨Nat.le_refl _⟩
        have zFX := blk_lt FX.out
        have cFX_0 : wr.cell? ⟨w2.heap.size, 0, none⟩ = some (.int .i64 x.f0) := clq FX.out 0 rfl
        have cFX_1 : wr.cell? ⟨w2.heap.size, 1, none⟩ = some (.slice (some ad) x.f1.length dx) := clq FX.out 1 rfl
        have zFS := blk_lt FS.out
        have cFS_0 : wr.cell? ⟨w1.heap.size, 0, none⟩ = some (.int .i64 s.f0) := clq FS.out 0 rfl
        have cFS_1 : wr.cell? ⟨w1.heap.size, 1, none⟩ = some (.slice (some ae) s.f1.length d) := clq FS.out 1 rfl
        go_wp2_with fail
        clear s0 s1 s2 s3 u0 u1 u2 u3 g3 d3
        generalize hWwp : World.alloc (World.alloc (wr) _) _ = wp
        have ltFX := blk_lt FX.out
        have ltFS := blk_lt FS.out
        have ltFA := blk_lt FA.out
        have ltb := HB.out.size
        have ltl := HL.out
        have TT : ∀ k, k < wr.heap.size → wp.heap[k]? = wr.heap[k]? := fun k hk => by rw [← hWwp]; (with_reducible repeat (first | rfl | refine hp_set ?_ ?_ | refine hp_alloc ?_ ?_ | refine hp_drew ?_)); all_goals (first | (with_reducible rfl) | omega | (dsimp only; omega) | (simp; omega))
        have TS : wr.heap.size + 2 ≤ wp.heap.size := by rw [← hWwp]; simp
        have nFX : wp.heap[w2.heap.size]? = some (.cells #[.int .i64 x.f0, .slice (some ad) x.f1.length dx] 43 (0, 0)) := (TT _ ltFX).trans FX.out
        have nFS : wp.heap[w1.heap.size]? = some (.cells #[.int .i64 s.f0, .slice (some ae) s.f1.length d] 43 (0, 0)) := (TT _ ltFS).trans FS.out
        have nFA : wp.heap[w1.heap.size + 1]? = some (.cells #[.string a.f0, .string a.f1] 24 (0, 0)) := (TT _ ltFA).trans FA.out
        have nFQ : wp.heap[wr.heap.size]? = some (.cells #[.string z.f0.f0, .string z.f0.f1, .int .i64 z.f1, .int .i64 z.f2] 55 (0, 0)) := by rw [← hWwp]; exact blk_alloc (blk_new wr (.cells #[.string z.f0.f0, .string z.f0.f1, .int .i64 z.f1, .int .i64 z.f2] 55)) (.cells #[.string z.f0.f0, .string z.f0.f1, .int .i64 z.f1, .int .i64 z.f2] 55)
        have nFP : wp.heap[wr.heap.size + 1]? = some (.cells #[.string z.f0.f0, .string z.f0.f1, .int .i64 z.f1, .int .i64 z.f2] 55 (0, 0)) := by rw [← hWwp]; exact blk_at _ _ (by first | rfl | (simp; done) | (simp; omega))
        have nHB : Below wr.heap.size wr wp := by rw [← hWwp]; exact bel_alloc (bel_alloc (HB.out) _) _
        clear zFX cFX_0 cFX_1 zFS cFS_0 cFS_1
        clear hWwp FX FS FA HB 
        have FX := Aside0.mk nFX
        clear nFX
        have FS := Aside0.mk nFS
        clear nFS
        have FA := Aside0.mk nFA
        clear nFA
        have FQ := Aside0.mk nFQ
        clear nFQ
        have FP := Aside0.mk nFP
        clear nFP
        have HB := Aside0.mk nHB
        clear nHB
        have oFQ_ltFX := ltFX
        have oFQ_ltFS := ltFS
        have oFQ_ltFA := ltFA
        have oFQ_ltl := ltl
        have oFQ_ts := TS
        replace HL := Aside0.mk (Nat.le_trans HL.out (by omega : wr.heap.size ≤ wp.heap.size))
        clear TT TS ltFX ltFS ltFA ltb ltl
        have HS112 : Aside0 (∀ W : World, (W.heap[w2.heap.size]? = some (.cells #[.int .i64 x.f0, .slice (some ad) x.f1.length dx] 43 (0, 0)) ∧ W.heap[w1.heap.size + 1]? = some (.cells #[.string a.f0, .string a.f1] 24 (0, 0)) ∧ W.heap[wr.heap.size + 1]? = some (.cells #[.string z.f0.f0, .string z.f0.f1, .int .i64 z.f1, .int .i64 z.f2] 55 (0, 0)) ∧ W.heap[wr.heap.size]? = some (.cells #[.string z.f0.f0, .string z.f0.f1, .int .i64 z.f1, .int .i64 z.f2] 55 (0, 0)) ∧ W.heap[(ad.add (i * 5)).block]? = wr.heap[(ad.add (i * 5)).block]?) → W.cell? ⟨w2.heap.size, 0, none⟩ = some (.int .i64 x.f0) ∧ W.cell? ⟨w2.heap.size, 1, none⟩ = some (.slice (some ad) x.f1.length dx) ∧ W.cell? ⟨w1.heap.size + 1, 0, none⟩ = some (.string a.f0) ∧ W.cell? ⟨w1.heap.size + 1, 1, none⟩ = some (.string a.f1) ∧ W.cell? ⟨wr.heap.size + 1, 0, none⟩ = some (.string z.f0.f0) ∧ W.cell? ⟨wr.heap.size + 1, 1, none⟩ = some (.string z.f0.f1) ∧ W.cell? ⟨wr.heap.size + 1, 2, none⟩ = some (.int .i64 z.f1) ∧ W.cell? ⟨wr.heap.size + 1, 3, none⟩ = some (.int .i64 z.f2) ∧ W.cell? ⟨wr.heap.size, 0, none⟩ = some (.string z.f0.f0) ∧ W.cell? ⟨wr.heap.size, 1, none⟩ = some (.string z.f0.f1) ∧ W.cell? ⟨wr.heap.size, 2, none⟩ = some (.int .i64 z.f1) ∧ W.cell? ⟨wr.heap.size, 3, none⟩ = some (.int .i64 z.f2) ∧ W.cell? (ad.add (i * 5)) = some (.int .i64 X.f0)) := ⟨fun W h => ⟨(by have h_ := h.1; simp [World.cell?, h_]), (by have h_ := h.1; simp [World.cell?, h_]), (by have h_ := h.2.1; simp [World.cell?, h_]), (by have h_ := h.2.1; simp [World.cell?, h_]), (by have h_ := h.2.2.1; simp [World.cell?, h_]), (by have h_ := h.2.2.1; simp [World.cell?, h_]), (by have h_ := h.2.2.1; simp [World.cell?, h_]), (by have h_ := h.2.2.1; simp [World.cell?, h_]), (by have h_ := h.2.2.2.1; simp [World.cell?, h_]), (by have h_ := h.2.2.2.1; simp [World.cell?, h_]), (by have h_ := h.2.2.2.1; simp [World.cell?, h_]), (by have h_ := h.2.2.2.1; simp [World.cell?, h_]), ((World.cell?_of_block h.2.2.2.2).trans g0)⟩⟩
        refine wp_region_held_drew (S := fun (W : World) => W.heap[w2.heap.size]? = some (.cells #[.int .i64 x.f0, .slice (some ad) x.f1.length dx] 43 (0, 0)) ∧ W.heap[w1.heap.size + 1]? = some (.cells #[.string a.f0, .string a.f1] 24 (0, 0)) ∧ W.heap[wr.heap.size + 1]? = some (.cells #[.string z.f0.f0, .string z.f0.f1, .int .i64 z.f1, .int .i64 z.f2] 55 (0, 0)) ∧ W.heap[wr.heap.size]? = some (.cells #[.string z.f0.f0, .string z.f0.f1, .int .i64 z.f1, .int .i64 z.f2] 55 (0, 0)) ∧ W.heap[(ad.add (i * 5)).block]? = wr.heap[(ad.add (i * 5)).block]?) (by kernel_rfl) ?s113 (fun hHeld => ?t113)
        case s113 => exact (show (fun (W : World) => W.heap[w2.heap.size]? = some (.cells #[.int .i64 x.f0, .slice (some ad) x.f1.length dx] 43 (0, 0)) ∧ W.heap[w1.heap.size + 1]? = some (.cells #[.string a.f0, .string a.f1] 24 (0, 0)) ∧ W.heap[wr.heap.size + 1]? = some (.cells #[.string z.f0.f0, .string z.f0.f1, .int .i64 z.f1, .int .i64 z.f2] 55 (0, 0)) ∧ W.heap[wr.heap.size]? = some (.cells #[.string z.f0.f0, .string z.f0.f1, .int .i64 z.f1, .int .i64 z.f2] 55 (0, 0)) ∧ W.heap[(ad.add (i * 5)).block]? = wr.heap[(ad.add (i * 5)).block]?) (World.drew wp) from ⟨FX.out, FA.out, FP.out, FQ.out, HB.out.block _ lt0⟩)
        generalize hWVs : World.drew (wp) = Vs at hHeld ⊢
        have ltFX := blk_lt FX.out
        have ltFS := blk_lt FS.out
        have ltFA := blk_lt FA.out
        have ltFQ := blk_lt FQ.out
        have ltFP := blk_lt FP.out
        have ltb := HB.out.size
        have ltl := HL.out
        have TT : ∀ k, k < wp.heap.size → Vs.heap[k]? = wp.heap[k]? := fun k hk => by rw [← hWVs]; (with_reducible repeat (first | rfl | refine hp_set ?_ ?_ | refine hp_alloc ?_ ?_ | refine hp_drew ?_)); all_goals (first | (with_reducible rfl) | omega | (dsimp only; omega) | (simp; omega))
        have TS : wp.heap.size + 0 ≤ Vs.heap.size := by rw [← hWVs]; simp
        have nFX : Vs.heap[w2.heap.size]? = some (.cells #[.int .i64 x.f0, .slice (some ad) x.f1.length dx] 43 (0, 0)) := (TT _ ltFX).trans FX.out
        have nFS : Vs.heap[w1.heap.size]? = some (.cells #[.int .i64 s.f0, .slice (some ae) s.f1.length d] 43 (0, 0)) := (TT _ ltFS).trans FS.out
        have nFA : Vs.heap[w1.heap.size + 1]? = some (.cells #[.string a.f0, .string a.f1] 24 (0, 0)) := (TT _ ltFA).trans FA.out
        have nFQ : Vs.heap[wr.heap.size]? = some (.cells #[.string z.f0.f0, .string z.f0.f1, .int .i64 z.f1, .int .i64 z.f2] 55 (0, 0)) := (TT _ ltFQ).trans FQ.out
        have nFP : Vs.heap[wr.heap.size + 1]? = some (.cells #[.string z.f0.f0, .string z.f0.f1, .int .i64 z.f1, .int .i64 z.f2] 55 (0, 0)) := (TT _ ltFP).trans FP.out
        have nHB : Below wr.heap.size wr Vs := by rw [← hWVs]; exact bel_then (HB.out) (drew_below0 _)
        clear hWVs FX FS FA FQ FP HB 
        have FX := Aside0.mk nFX
        clear nFX
        have FS := Aside0.mk nFS
        clear nFS
        have FA := Aside0.mk nFA
        clear nFA
        have FQ := Aside0.mk nFQ
        clear nFQ
        have FP := Aside0.mk nFP
        clear nFP
        have HB := Aside0.mk nHB
        clear nHB
        replace HL := Aside0.mk (Nat.le_trans HL.out (by omega : wp.heap.size ≤ Vs.heap.size))
        clear TT TS ltFX ltFS ltFA ltFQ ltFP ltb ltl
        refine ta 0 ?_
        refine tk 1 ?v115 ?y115 ?r115
        case y115 => intro w_ hSw; obtain ⟨e_0, e_1, e_2, e_3, e_4, e_5, e_6, e_7, e_8, e_9, e_10, e_11, e_12⟩ := HS112.out w_ hSw; clear hSw; go_simp; (try (with_reducible rfl))
        try simp only [Act.put, List.setIfInBounds_toArray, List.set_cons_zero, List.set_cons_succ]
        refine ta 2 ?_
        refine ta 3 ?_
        refine ta 4 ?_
        refine tk 5 ?v119 ?y119 ?r119
        case y119 => intro w_ hSw; obtain ⟨e_0, e_1, e_2, e_3, e_4, e_5, e_6, e_7, e_8, e_9, e_10, e_11, e_12⟩ := HS112.out w_ hSw; clear hSw; go_simp; (try (with_reducible rfl))
        try simp only [Act.put, List.setIfInBounds_toArray, List.set_cons_zero, List.set_cons_succ]
        refine ta 6 ?_
        refine ta 7 ?_
        refine ta 8 ?_
        refine tu 9 ?_
        refine tu 10 ?_
        refine tu 11 ?_
        refine tu 12 ?_
        refine ta 13 ?_
        refine ta 14 ?_
        refine tu 15 ?_
        refine tu 16 ?_
        refine tu 17 ?_
        refine tu 18 ?_
        refine tu 19 ?_
        refine tu 20 ?_
        refine tu 21 ?_
        refine tu 22 ?_
        refine tu 23 ?_
        refine tu 24 ?_
        refine tu 25 ?_
        refine tu 26 ?_
        refine tu 27 ?_
        refine tu 28 ?_
        refine tu 29 ?_
        refine tu 30 ?_
        refine ta 31 ?_
        refine ta 32 ?_
        refine ta 33 ?_
        refine tk 34 ?v148 ?y148 ?r148
        case y148 => intro w_ hSw; obtain ⟨e_0, e_1, e_2, e_3, e_4, e_5, e_6, e_7, e_8, e_9, e_10, e_11, e_12⟩ := HS112.out w_ hSw; clear hSw; go_simp; (try (with_reducible rfl))
        try simp only [Act.put, List.setIfInBounds_toArray, List.set_cons_zero, List.set_cons_succ]
        refine ta 35 ?_
        refine ta 36 ?_
        refine ta 37 ?_
        refine tk 38 ?v152 ?y152 ?r152
        case y152 => intro w_ hSw; obtain ⟨e_0, e_1, e_2, e_3, e_4, e_5, e_6, e_7, e_8, e_9, e_10, e_11, e_12⟩ := HS112.out w_ hSw; clear hSw; go_simp; (try (with_reducible rfl))
        try simp only [Act.put, List.setIfInBounds_toArray, List.set_cons_zero, List.set_cons_succ]
        refine ta 39 ?_
        refine ta 40 ?_
        refine ta 41 ?_
        refine tu 42 ?_
        refine tu 43 ?_
        refine tu 44 ?_
        refine tu 45 ?_
        refine ta 46 ?_
        refine ta 47 ?_
        refine tk 48 ?v162 ?y162 ?r162
        case y162 => intro w_ hSw; obtain ⟨e_0, e_1, e_2, e_3, e_4, e_5, e_6, e_7, e_8, e_9, e_10, e_11, e_12⟩ := HS112.out w_ hSw; clear hSw; go_simp; (try (with_reducible rfl))
        try simp only [Act.put, List.setIfInBounds_toArray, List.set_cons_zero, List.set_cons_succ]
        refine tk 49 ?v163 ?y163 ?r163
        case y163 => intro w_ hSw; obtain ⟨e_0, e_1, e_2, e_3, e_4, e_5, e_6, e_7, e_8, e_9, e_10, e_11, e_12⟩ := HS112.out w_ hSw; clear hSw; go_simp; (try (with_reducible rfl))
        try simp only [Act.put, List.setIfInBounds_toArray, List.set_cons_zero, List.set_cons_succ]
        refine ta 50 ?_
        refine ta 51 ?_
        refine ta 52 ?_
        refine wpAnyH_done (by kernel_rfl) ?_ _
        clear g0
        go_wp2
        go_roundg (Y.f2.length - (k + 1))
        case measure => omega
        case rel => exact ⟨k + 1, by omega, Nat.le_refl _, by go_num, ⟨bel_then BI.out HB.out⟩⟩
       ·have hne : (X.f0 != id) = false := by rw [bne, hq1]; rfl
        have hsa : ((z.f0.f0.toList == a.f0.toList) && (z.f0.f1.toList == a.f1.toList)) = false := by rw [hq1, Bool.true_and] at c1; exact c1
        clear c1
        have HBk := HB
        have HLk := HL
        clear HB HL
        have HB := HB2
        have HL : Aside0 (wr.heap.size + 0 ≤ wr.heap.size) := ⟨Nat.le_refl _⟩
        have zFX := blk_lt FX.out
        have cFX_0 : wr.cell? ⟨w2.heap.size, 0, none⟩ = some (.int .i64 x.f0) := clq FX.out 0 rfl
        have cFX_1 : wr.cell? ⟨w2.heap.size, 1, none⟩ = some (.slice (some ad) x.f1.length dx) := clq FX.out 1 rfl
        have zFS := blk_lt FS.out
        have cFS_0 : wr.cell? ⟨w1.heap.size, 0, none⟩ = some (.int .i64 s.f0) := clq FS.out 0 rfl
        have cFS_1 : wr.cell? ⟨w1.heap.size, 1, none⟩ = some (.slice (some ae) s.f1.length d) := clq FS.out 1 rfl
        go_wp2_with fail
        clear s0 s1 s2 s3 u0 u1 u2 u3 g3 d3
        generalize hWwp : World.alloc (World.alloc (wr) _) _ = wp
        have ltFX := blk_lt FX.out
        have ltFS := blk_lt FS.out
        have ltFA := blk_lt FA.out
        have ltb := HB.out.size
        have ltl := HL.out
        have TT : ∀ k, k < wr.heap.size → wp.heap[k]? = wr.heap[k]? := fun k hk => by rw [← hWwp]; (with_reducible repeat (first | rfl | refine hp_set ?_ ?_ | refine hp_alloc ?_ ?_ | refine hp_drew ?_)); all_goals (first | (with_reducible rfl) | omega | (dsimp only; omega) | (simp; omega))
        have TS : wr.heap.size + 2 ≤ wp.heap.size := by rw [← hWwp]; simp
        have nFX : wp.heap[w2.heap.size]? = some (.cells #[.int .i64 x.f0, .slice (some ad) x.f1.length dx] 43 (0, 0)) := (TT _ ltFX).trans FX.out
        have nFS : wp.heap[w1.heap.size]? = some (.cells #[.int .i64 s.f0, .slice (some ae) s.f1.length d] 43 (0, 0)) := (TT _ ltFS).trans FS.out
        have nFA : wp.heap[w1.heap.size + 1]? = some (.cells #[.string a.f0, .string a.f1] 24 (0, 0)) := (TT _ ltFA).trans FA.out
        have nFQ : wp.heap[wr.heap.size]? = some (.cells #[.string z.f0.f0, .string z.f0.f1, .int .i64 z.f1, .int .i64 z.f2] 55 (0, 0)) := by rw [← hWwp]; exact blk_alloc (blk_new wr (.cells #[.string z.f0.f0, .string z.f0.f1, .int .i64 z.f1, .int .i64 z.f2] 55)) (.cells #[.string z.f0.f0, .string z.f0.f1, .int .i64 z.f1, .int .i64 z.f2] 55)
        have nFP : wp.heap[wr.heap.size + 1]? = some (.cells #[.string z.f0.f0, .string z.f0.f1, .int .i64 z.f1, .int .i64 z.f2] 55 (0, 0)) := by rw [← hWwp]; exact blk_at _ _ (by first | rfl | (simp; done) | (simp; omega))
        have nHB : Below wr.heap.size wr wp := by rw [← hWwp]; exact bel_alloc (bel_alloc (HB.out) _) _
        clear zFX cFX_0 cFX_1 zFS cFS_0 cFS_1
        clear hWwp FX FS FA HB 
        have FX := Aside0.mk nFX
        clear nFX
        have FS := Aside0.mk nFS
        clear nFS
        have FA := Aside0.mk nFA
        clear nFA
        have FQ := Aside0.mk nFQ
        clear nFQ
        have FP := Aside0.mk nFP
        clear nFP
        have HB := Aside0.mk nHB
        clear nHB
        have oFQ_ltFX := ltFX
        have oFQ_ltFS := ltFS
        have oFQ_ltFA := ltFA
        have oFQ_ltl := ltl
        have oFQ_ts := TS
        replace HL := Aside0.mk (Nat.le_trans HL.out (by omega : wr.heap.size ≤ wp.heap.size))
        clear TT TS ltFX ltFS ltFA ltb ltl
        have HS57 : Aside0 (∀ W : World, (W.heap[w2.heap.size]? = some (.cells #[.int .i64 x.f0, .slice (some ad) x.f1.length dx] 43 (0, 0)) ∧ W.heap[w1.heap.size + 1]? = some (.cells #[.string a.f0, .string a.f1] 24 (0, 0)) ∧ W.heap[wr.heap.size + 1]? = some (.cells #[.string z.f0.f0, .string z.f0.f1, .int .i64 z.f1, .int .i64 z.f2] 55 (0, 0)) ∧ W.heap[wr.heap.size]? = some (.cells #[.string z.f0.f0, .string z.f0.f1, .int .i64 z.f1, .int .i64 z.f2] 55 (0, 0)) ∧ W.heap[(ad.add (i * 5)).block]? = wr.heap[(ad.add (i * 5)).block]?) → W.cell? ⟨w2.heap.size, 0, none⟩ = some (.int .i64 x.f0) ∧ W.cell? ⟨w2.heap.size, 1, none⟩ = some (.slice (some ad) x.f1.length dx) ∧ W.cell? ⟨w1.heap.size + 1, 0, none⟩ = some (.string a.f0) ∧ W.cell? ⟨w1.heap.size + 1, 1, none⟩ = some (.string a.f1) ∧ W.cell? ⟨wr.heap.size + 1, 0, none⟩ = some (.string z.f0.f0) ∧ W.cell? ⟨wr.heap.size + 1, 1, none⟩ = some (.string z.f0.f1) ∧ W.cell? ⟨wr.heap.size + 1, 2, none⟩ = some (.int .i64 z.f1) ∧ W.cell? ⟨wr.heap.size + 1, 3, none⟩ = some (.int .i64 z.f2) ∧ W.cell? ⟨wr.heap.size, 0, none⟩ = some (.string z.f0.f0) ∧ W.cell? ⟨wr.heap.size, 1, none⟩ = some (.string z.f0.f1) ∧ W.cell? ⟨wr.heap.size, 2, none⟩ = some (.int .i64 z.f1) ∧ W.cell? ⟨wr.heap.size, 3, none⟩ = some (.int .i64 z.f2) ∧ W.cell? (ad.add (i * 5)) = some (.int .i64 X.f0)) := ⟨fun W h => ⟨(by have h_ := h.1; simp [World.cell?, h_]), (by have h_ := h.1; simp [World.cell?, h_]), (by have h_ := h.2.1; simp [World.cell?, h_]), (by have h_ := h.2.1; simp [World.cell?, h_]), (by have h_ := h.2.2.1; simp [World.cell?, h_]), (by have h_ := h.2.2.1; simp [World.cell?, h_]), (by have h_ := h.2.2.1; simp [World.cell?, h_]), (by have h_ := h.2.2.1; simp [World.cell?, h_]), (by have h_ := h.2.2.2.1; simp [World.cell?, h_]), (by have h_ := h.2.2.2.1; simp [World.cell?, h_]), (by have h_ := h.2.2.2.1; simp [World.cell?, h_]), (by have h_ := h.2.2.2.1; simp [World.cell?, h_]), ((World.cell?_of_block h.2.2.2.2).trans g0)⟩⟩
        refine wp_region_held_drew (S := fun (W : World) => W.heap[w2.heap.size]? = some (.cells #[.int .i64 x.f0, .slice (some ad) x.f1.length dx] 43 (0, 0)) ∧ W.heap[w1.heap.size + 1]? = some (.cells #[.string a.f0, .string a.f1] 24 (0, 0)) ∧ W.heap[wr.heap.size + 1]? = some (.cells #[.string z.f0.f0, .string z.f0.f1, .int .i64 z.f1, .int .i64 z.f2] 55 (0, 0)) ∧ W.heap[wr.heap.size]? = some (.cells #[.string z.f0.f0, .string z.f0.f1, .int .i64 z.f1, .int .i64 z.f2] 55 (0, 0)) ∧ W.heap[(ad.add (i * 5)).block]? = wr.heap[(ad.add (i * 5)).block]?) (by kernel_rfl) ?s58 (fun hHeld => ?t58)
        case s58 => exact (show (fun (W : World) => W.heap[w2.heap.size]? = some (.cells #[.int .i64 x.f0, .slice (some ad) x.f1.length dx] 43 (0, 0)) ∧ W.heap[w1.heap.size + 1]? = some (.cells #[.string a.f0, .string a.f1] 24 (0, 0)) ∧ W.heap[wr.heap.size + 1]? = some (.cells #[.string z.f0.f0, .string z.f0.f1, .int .i64 z.f1, .int .i64 z.f2] 55 (0, 0)) ∧ W.heap[wr.heap.size]? = some (.cells #[.string z.f0.f0, .string z.f0.f1, .int .i64 z.f1, .int .i64 z.f2] 55 (0, 0)) ∧ W.heap[(ad.add (i * 5)).block]? = wr.heap[(ad.add (i * 5)).block]?) (World.drew wp) from ⟨FX.out, FA.out, FP.out, FQ.out, HB.out.block _ lt0⟩)
        generalize hWVs : World.drew (wp) = Vs at hHeld ⊢
        have ltFX := blk_lt FX.out
        have ltFS := blk_lt FS.out
        have ltFA := blk_lt FA.out
        have ltFQ := blk_lt FQ.out
        have ltFP := blk_lt FP.out
        have ltb := HB.out.size
        have ltl := HL.out
        have TT : ∀ k, k < wp.heap.size → Vs.heap[k]? = wp.heap[k]? := fun k hk => by rw [← hWVs]; (with_reducible repeat (first | rfl | refine hp_set ?_ ?_ | refine hp_alloc ?_ ?_ | refine hp_drew ?_)); all_goals (first | (with_reducible rfl) | omega | (dsimp only; omega) | (simp; omega))
        have TS : wp.heap.size + 0 ≤ Vs.heap.size := by rw [← hWVs]; simp
        have nFX : Vs.heap[w2.heap.size]? = some (.cells #[.int .i64 x.f0, .slice (some ad) x.f1.length dx] 43 (0, 0)) := (TT _ ltFX).trans FX.out
        have nFS : Vs.heap[w1.heap.size]? = some (.cells #[.int .i64 s.f0, .slice (some ae) s.f1.length d] 43 (0, 0)) := (TT _ ltFS).trans FS.out
        have nFA : Vs.heap[w1.heap.size + 1]? = some (.cells #[.string a.f0, .string a.f1] 24 (0, 0)) := (TT _ ltFA).trans FA.out
        have nFQ : Vs.heap[wr.heap.size]? = some (.cells #[.string z.f0.f0, .string z.f0.f1, .int .i64 z.f1, .int .i64 z.f2] 55 (0, 0)) := (TT _ ltFQ).trans FQ.out
        have nFP : Vs.heap[wr.heap.size + 1]? = some (.cells #[.string z.f0.f0, .string z.f0.f1, .int .i64 z.f1, .int .i64 z.f2] 55 (0, 0)) := (TT _ ltFP).trans FP.out
        have nHB : Below wr.heap.size wr Vs := by rw [← hWVs]; exact bel_then (HB.out) (drew_below0 _)
        clear hWVs FX FS FA FQ FP HB 
        have FX := Aside0.mk nFX
        clear nFX
        have FS := Aside0.mk nFS
        clear nFS
        have FA := Aside0.mk nFA
        clear nFA
        have FQ := Aside0.mk nFQ
        clear nFQ
        have FP := Aside0.mk nFP
        clear nFP
        have HB := Aside0.mk nHB
        clear nHB
        replace HL := Aside0.mk (Nat.le_trans HL.out (by omega : wp.heap.size ≤ Vs.heap.size))
        clear TT TS ltFX ltFS ltFA ltFQ ltFP ltb ltl
        refine ta 0 ?_
        refine tk 1 ?v60 ?y60 ?r60
        case y60 => intro w_ hSw; obtain ⟨e_0, e_1, e_2, e_3, e_4, e_5, e_6, e_7, e_8, e_9, e_10, e_11, e_12⟩ := HS57.out w_ hSw; clear hSw; go_simp; (try (with_reducible rfl))
        try simp only [Act.put, List.setIfInBounds_toArray, List.set_cons_zero, List.set_cons_succ]
        refine ta 2 ?_
        refine ta 3 ?_
        refine ta 4 ?_
        refine tk 5 ?v64 ?y64 ?r64
        case y64 => intro w_ hSw; obtain ⟨e_0, e_1, e_2, e_3, e_4, e_5, e_6, e_7, e_8, e_9, e_10, e_11, e_12⟩ := HS57.out w_ hSw; clear hSw; go_simp; (try (with_reducible rfl))
        try simp only [Act.put, List.setIfInBounds_toArray, List.set_cons_zero, List.set_cons_succ]
        refine ta 6 ?_
        refine ta 7 ?_
        refine ta 8 ?_
        refine ta 9 ?_
        refine tk 10 ?v69 ?y69 ?r69
        case y69 => intro w_ hSw; obtain ⟨e_0, e_1, e_2, e_3, e_4, e_5, e_6, e_7, e_8, e_9, e_10, e_11, e_12⟩ := HS57.out w_ hSw; clear hSw; go_simp; (try (with_reducible rfl))
        try simp only [Act.put, List.setIfInBounds_toArray, List.set_cons_zero, List.set_cons_succ]
        refine tk 11 ?v70 ?y70 ?r70
        case y70 => intro w_ hSw; obtain ⟨e_0, e_1, e_2, e_3, e_4, e_5, e_6, e_7, e_8, e_9, e_10, e_11, e_12⟩ := HS57.out w_ hSw; clear hSw; go_simp; (try (with_reducible rfl))
        try simp only [Act.put, List.setIfInBounds_toArray, List.set_cons_zero, List.set_cons_succ]
        refine ta 12 ?_
        refine ta 13 ?_
        refine ta 14 ?_
        refine tu 15 ?_
        refine tu 16 ?_
        refine tu 17 ?_
        refine tu 18 ?_
        refine tu 19 ?_
        refine tu 20 ?_
        refine tu 21 ?_
        refine tu 22 ?_
        refine tu 23 ?_
        refine tu 24 ?_
        refine tu 25 ?_
        refine tu 26 ?_
        refine tu 27 ?_
        refine tu 28 ?_
        refine tu 29 ?_
        refine tu 30 ?_
        refine ta 31 ?_
        refine ta 32 ?_
        refine ta 33 ?_
        refine tk 34 ?v93 ?y93 ?r93
        case y93 => intro w_ hSw; obtain ⟨e_0, e_1, e_2, e_3, e_4, e_5, e_6, e_7, e_8, e_9, e_10, e_11, e_12⟩ := HS57.out w_ hSw; clear hSw; go_simp; (try (with_reducible rfl))
        try simp only [Act.put, List.setIfInBounds_toArray, List.set_cons_zero, List.set_cons_succ]
        refine ta 35 ?_
        refine ta 36 ?_
        refine ta 37 ?_
        refine tk 38 ?v97 ?y97 ?r97
        case y97 => intro w_ hSw; obtain ⟨e_0, e_1, e_2, e_3, e_4, e_5, e_6, e_7, e_8, e_9, e_10, e_11, e_12⟩ := HS57.out w_ hSw; clear hSw; go_simp; (try (with_reducible rfl))
        try simp only [Act.put, List.setIfInBounds_toArray, List.set_cons_zero, List.set_cons_succ]
        refine ta 39 ?_
        refine ta 40 ?_
        refine ta 41 ?_
        refine ta 42 ?_
        refine tk 43 ?v102 ?y102 ?r102
        case y102 => intro w_ hSw; obtain ⟨e_0, e_1, e_2, e_3, e_4, e_5, e_6, e_7, e_8, e_9, e_10, e_11, e_12⟩ := HS57.out w_ hSw; clear hSw; go_simp; (try (with_reducible rfl))
        try simp only [Act.put, List.setIfInBounds_toArray, List.set_cons_zero, List.set_cons_succ]
        refine tk 44 ?v103 ?y103 ?r103
        case y103 => intro w_ hSw; obtain ⟨e_0, e_1, e_2, e_3, e_4, e_5, e_6, e_7, e_8, e_9, e_10, e_11, e_12⟩ := HS57.out w_ hSw; clear hSw; go_simp; (try (with_reducible rfl))
        try simp only [Act.put, List.setIfInBounds_toArray, List.set_cons_zero, List.set_cons_succ]
        refine ta 45 ?_
        refine ta 46 ?_
        refine ta 47 ?_
        refine tk 48 ?v107 ?y107 ?r107
        case y107 => intro w_ hSw; obtain ⟨e_0, e_1, e_2, e_3, e_4, e_5, e_6, e_7, e_8, e_9, e_10, e_11, e_12⟩ := HS57.out w_ hSw; clear hSw; go_simp; (try (with_reducible rfl))
        try simp only [Act.put, List.setIfInBounds_toArray, List.set_cons_zero, List.set_cons_succ]
        refine tk 49 ?v108 ?y108 ?r108
        case y108 => intro w_ hSw; obtain ⟨e_0, e_1, e_2, e_3, e_4, e_5, e_6, e_7, e_8, e_9, e_10, e_11, e_12⟩ := HS57.out w_ hSw; clear hSw; go_simp; (try (with_reducible rfl))
        try simp only [Act.put, List.setIfInBounds_toArray, List.set_cons_zero, List.set_cons_succ]
        refine ta 50 ?_
        refine ta 51 ?_
        refine ta 52 ?_
        refine wpAnyH_done (by kernel_rfl) ?_ _
        clear g0
        go_wp2
        go_roundg (Y.f2.length - (k + 1))
        case measure => omega
        case rel => exact ⟨k + 1, by omega, Nat.le_refl _, by go_num, ⟨bel_then BI.out HB.out⟩⟩
     ·have hlk' : ¬ (k : Int) < (Y.f2.length : Int) := by omega
      have g3 : wr.cell? ⟨(ad.add (i * 5)).block, (ad.add (i * 5)).off + 3, none⟩ = some (.slice Q0 Y.f2.length q0) := (BI.out.cell (p := ⟨(ad.add (i * 5)).block, (ad.add (i * 5)).off + 3, none⟩) ltp).trans p3
      have zFX := blk_lt FX.out
      have cFX_0 : wr.cell? ⟨w2.heap.size, 0, none⟩ = some (.int .i64 x.f0) := clq FX.out 0 rfl
      have cFX_1 : wr.cell? ⟨w2.heap.size, 1, none⟩ = some (.slice (some ad) x.f1.length dx) := clq FX.out 1 rfl
      go_wp2
      go_roundg (x.f1.length - (i + 1))
      case measure => omega
      case rel => exact ⟨i + 1, by omega, Nat.le_refl _, by go_num, ⟨bel_then HB.out BI.out⟩, FX, FS, FA, ⟨Kd.R_below RX.out BI.out⟩⟩
   ·have hlt' : ¬ (i : Int) < (x.f1.length : Int) := by omega
    have zFX := blk_lt FX.out
    have cFX_0 : wo.cell? ⟨w2.heap.size, 0, none⟩ = some (.int .i64 x.f0) := clq FX.out 0 rfl
    have cFX_1 : wo.cell? ⟨w2.heap.size, 1, none⟩ = some (.slice Bx x.f1.length dx) := clq FX.out 1 rfl
    go_wp2
    generalize hWwy : World.alloc (wo) _ = wy
    have ltFX := blk_lt FX.out
    have ltFS := blk_lt FS.out
    have ltFA := blk_lt FA.out
    have ltb := HB.out.size
    have ltl := HL.out
    have TT : ∀ k, k < wo.heap.size → wy.heap[k]? = wo.heap[k]? := fun k hk => by rw [← hWwy]; (with_reducible repeat (first | rfl | refine hp_set ?_ ?_ | refine hp_alloc ?_ ?_ | refine hp_drew ?_)); all_goals (first | (with_reducible rfl) | omega | (dsimp only; omega) | (simp; omega))
    have TS : wo.heap.size + 1 ≤ wy.heap.size := by rw [← hWwy]; simp
    have nFX : wy.heap[w2.heap.size]? = some (.cells #[.int .i64 x.f0, .slice Bx x.f1.length dx] 43 (0, 0)) := (TT _ ltFX).trans FX.out
    have nFS : wy.heap[w1.heap.size]? = some (.cells #[.int .i64 s.f0, .slice B s.f1.length d] 43 (0, 0)) := (TT _ ltFS).trans FS.out
    have nFA : wy.heap[w1.heap.size + 1]? = some (.cells #[.string a.f0, .string a.f1] 24 (0, 0)) := (TT _ ltFA).trans FA.out
    have nFY : wy.heap[wo.heap.size]? = some (.cells #[.int .i64 x.f0, .slice Bx x.f1.length dx] 43 (0, 0)) := by rw [← hWwy]; exact blk_new wo (.cells #[.int .i64 x.f0, .slice Bx x.f1.length dx] 43)
    have nRX : Kd.R kItem 28 wy w1.heap.size (fun _ => True) (.slice Bx x.f1.length dx) x.f1 := Kd.R_mono (Kd.R_step (RX.out) (fun k hk hlt => TT k hlt)) (fun _ hk => hk)
    have nHB : Below w1.heap.size w1 wy := by rw [← hWwy]; exact bel_alloc (HB.out) _
    clear zFX cFX_0 cFX_1
    clear hWwy FX FS FA HB RX
    have FX := Aside0.mk nFX
    clear nFX
    have FS := Aside0.mk nFS
    clear nFS
    have FA := Aside0.mk nFA
    clear nFA
    have FY := Aside0.mk nFY
    clear nFY
    have RX := Aside0.mk nRX
    clear nRX
    have HB := Aside0.mk nHB
    clear nHB
    have oFY_ltFX := ltFX
    have oFY_ltFS := ltFS
    have oFY_ltFA := ltFA
    have oFY_ltl := ltl
    have oFY_ts := TS
    replace HL := Aside0.mk (Nat.le_trans HL.out (by omega : wo.heap.size ≤ wy.heap.size))
    clear TT TS ltFX ltFS ltFA ltb ltl
    go_loopg [8, 16] 4 (fun g v8 v16 wr => ∃ (j : Nat) (y : SSpool) (By2 : Option Addr) (dy2 : Nat) (q2 : Bool), j ≤ 4 ∧ 4 - j ≤ g ∧ v16 = .int .i64 j ∧ v8 = .bool q2 ∧ Aside0 (Below w1.heap.size w1 wr) ∧ Aside0 (wr.heap[w2.heap.size]? = some (.cells #[.int .i64 x.f0, .slice Bx x.f1.length dx] 43 (0, 0))) ∧ Aside0 (wr.heap[w1.heap.size]? = some (.cells #[.int .i64 s.f0, .slice B s.f1.length d] 43 (0, 0))) ∧ Aside0 (wr.heap[w1.heap.size + 1]? = some (.cells #[.string a.f0, .string a.f1] 24 (0, 0))) ∧ Aside0 (wr.heap[wo.heap.size]? = some (.cells #[.int .i64 y.f0, .slice By2 y.f1.length dy2] 43 (0, 0))) ∧ Aside0 (Kd.R kItem 28 wr w1.heap.size (fun _ => True) (.slice Bx x.f1.length dx) x.f1) ∧ Aside0 (Kd.R kItem 28 wr w1.heap.size (fun _ => True) (.slice By2 y.f1.length dy2) y.f1) ∧ Aside0 (JJ id a now j y ∧ (j = 4 → q2 = false)))
    case atStart => exact ⟨0, x, Bx, dx, true, by omega, by omega, rfl, rfl, HB, FX, FS, FA, FY, RX, RX, ⟨HJJ.out, fun h => by omega⟩⟩
    case round =>
     clear HB HL FX FS FA FY RX
     obtain ⟨j, y, By2, dy2, q2, hj, hgj, rfl, rfl, HB, FX, FS, FA, FY, RX, RY2, HJ⟩ := hrel
     have HL : Aside0 (w1.heap.size + 2 ≤ wr.heap.size) := ⟨by have := blk_lt FA.out; omega⟩
     by_cases hj4 : j < 4
     ·have hj4' : (j : Int) < 4 := by omega
      have hjj := HJ.out.1
      obtain ⟨y2, q3, hlr⟩ := later_ex y id a now
      have hst := jj_step HTM.out hjj hlr
      have HST := Lib.hid hst
      have hla := fun W (hW : Below w1.heap.size w1 W) (hr : Kd.C kItem W By2 y.f1.length y.f1) => spoolLater_any y id a now y2 q3 By2 dy2 W hjj.2.1 hr (HG.out.below hW) hlr
      clear hst hlr hjj
      have zFY := blk_lt FY.out
      have cFY_0 : wr.cell? ⟨wo.heap.size, 0, none⟩ = some (.int .i64 y.f0) := clq FY.out 0 rfl
      have cFY_1 : wr.cell? ⟨wo.heap.size, 1, none⟩ = some (.slice By2 y.f1.length dy2) := clq FY.out 1 rfl
      have zFA := blk_lt FA.out
      have cFA_0 : wr.cell? ⟨w1.heap.size + 1, 0, none⟩ = some (.string a.f0) := clq FA.out 0 rfl
      have cFA_1 : wr.cell? ⟨w1.heap.size + 1, 1, none⟩ = some (.string a.f1) := clq FA.out 1 rfl
      go_wp2_with fail
      refine Calls.mono (hla _ HB.out (Kd.R_reads' RY2.out).2.2) ?_
      rintro e w9 ⟨B3, d3, rfl, rRZ, bw9⟩
      clear zFY cFY_0 cFY_1 zFA cFA_0 cFA_1
      replace FX := Aside0.mk (below_blk FX.out bw9)
      replace FS := Aside0.mk (below_blk FS.out bw9)
      replace FA := Aside0.mk (below_blk FA.out bw9)
      replace FY := Aside0.mk (below_blk FY.out bw9)
      replace RX := Aside0.mk (Kd.R_below RX.out bw9)
      replace RY2 := Aside0.mk (Kd.R_below RY2.out bw9)
      have RZ : Aside0 (Kd.R kItem 28 w9 w1.heap.size (fun _ => True) (.slice B3 y2.f1.length d3) y2.f1) := ⟨Kd.R_lower (base' := w1.heap.size) rRZ HB.out.size⟩
      clear rRZ
      replace HB := Aside0.mk (bel_then HB.out bw9)
      replace HL := Aside0.mk (Nat.le_trans HL.out bw9.size)
      clear bw9
      clear hla
      have zFY := blk_lt FY.out
      have cFY_0 : w9.cell? ⟨wo.heap.size, 0, none⟩ = some (.int .i64 y.f0) := clq FY.out 0 rfl
      have dFY_0 := fzq FY.out 0
      have cFY_1 : w9.cell? ⟨wo.heap.size, 1, none⟩ = some (.slice By2 y.f1.length dy2) := clq FY.out 1 rfl
      have dFY_1 := fzq FY.out 1
      go_wp2
      generalize hWwz : World.setCell (World.setCell (w9) _ _) _ _ = wz
      have ltFX := blk_lt FX.out
      have ltFS := blk_lt FS.out
      have ltFA := blk_lt FA.out
      have ltFY := blk_lt FY.out
      have ltb := HB.out.size
      have ltl := HL.out
      have TT : ∀ k, k < w9.heap.size → k ≠ wo.heap.size → wz.heap[k]? = w9.heap[k]? := fun k hk n_FY => by rw [← hWwz]; (with_reducible repeat (first | rfl | refine hp_set ?_ ?_ | refine hp_alloc ?_ ?_ | refine hp_drew ?_)); all_goals (first | (with_reducible rfl) | omega | (dsimp only; omega) | (simp; omega))
      have TS : w9.heap.size + 0 ≤ wz.heap.size := by rw [← hWwz]; simp
      have nFX : wz.heap[w2.heap.size]? = some (.cells #[.int .i64 x.f0, .slice Bx x.f1.length dx] 43 (0, 0)) := (TT _ ltFX (by omega)).trans FX.out
      have nFS : wz.heap[w1.heap.size]? = some (.cells #[.int .i64 s.f0, .slice B s.f1.length d] 43 (0, 0)) := (TT _ ltFS (by omega)).trans FS.out
      have nFA : wz.heap[w1.heap.size + 1]? = some (.cells #[.string a.f0, .string a.f1] 24 (0, 0)) := (TT _ ltFA (by omega)).trans FA.out
      have nFY : wz.heap[wo.heap.size]? = some (.cells #[.int .i64 y2.f0, .slice B3 y2.f1.length d3] 43 (0, 0)) := by rw [← hWwz]; have h := blk_set1 (blk_set1 (FY.out) 0 (.int .i64 y2.f0)) 1 (.slice B3 y2.f1.length d3); simpa using h
      have nRX : Kd.R kItem 28 wz w1.heap.size (fun _ => True) (.slice Bx x.f1.length dx) x.f1 := Kd.R_mono (Kd.R_step (Kd.R_types (RX.out) FY.out (by decide)) (fun k hk hlt => TT k hlt (hk.2))) (fun _ hk => hk.1)
      have nRY2 : Kd.R kItem 28 wz w1.heap.size (fun _ => True) (.slice By2 y.f1.length dy2) y.f1 := Kd.R_mono (Kd.R_step (Kd.R_types (RY2.out) FY.out (by decide)) (fun k hk hlt => TT k hlt (hk.2))) (fun _ hk => hk.1)
      have nRZ : Kd.R kItem 28 wz w1.heap.size (fun _ => True) (.slice B3 y2.f1.length d3) y2.f1 := Kd.R_mono (Kd.R_step (Kd.R_types (RZ.out) FY.out (by decide)) (fun k hk hlt => TT k hlt (hk.2))) (fun _ hk => hk.1)
      have nHB : Below w1.heap.size w1 wz := by rw [← hWwz]; exact bel_set (bel_set (HB.out) _ (by show w1.heap.size ≤ wo.heap.size; first | omega | (simp; omega))) _ (by show w1.heap.size ≤ wo.heap.size; first | omega | (simp; omega))
      clear zFY cFY_0 dFY_0 cFY_1 dFY_1
      clear hWwz FX FS FA FY HB RX RY2 RZ
      have FX := Aside0.mk nFX
      clear nFX
      have FS := Aside0.mk nFS
      clear nFS
      have FA := Aside0.mk nFA
      clear nFA
      have FY := Aside0.mk nFY
      clear nFY
      have RX := Aside0.mk nRX
      clear nRX
      have RY2 := Aside0.mk nRY2
      clear nRY2
      have RZ := Aside0.mk nRZ
      clear nRZ
      have HB := Aside0.mk nHB
      clear nHB
      replace HL := Aside0.mk (Nat.le_trans HL.out (by omega : w9.heap.size ≤ wz.heap.size))
      clear TT TS ltFX ltFS ltFA ltFY ltb ltl
      go_roundg (4 - (j + 1))
      case measure => omega
      case rel => exact ⟨j + 1, y2, B3, d3, q3, by omega, Nat.le_refl _, by go_num, rfl, HB, FX, FS, FA, FY, RX, RZ, ⟨HST.out.1, fun h => HST.out.2 (by omega)⟩⟩
     ·have hj4' : ¬ (j : Int) < 4 := by omega
      have hqf := HJ.out.2 (by omega)
      subst hqf
      clear RY2 HJ
      go_wp2_with fail
      have HS167 : Aside0 (∀ W : World, (W.heap[w2.heap.size]? = some (.cells #[.int .i64 x.f0, .slice Bx x.f1.length dx] 43 (0, 0)) ∧ W.heap[w1.heap.size]? = some (.cells #[.int .i64 s.f0, .slice B s.f1.length d] 43 (0, 0))) → W.cell? ⟨w2.heap.size, 0, none⟩ = some (.int .i64 x.f0) ∧ W.cell? ⟨w2.heap.size, 1, none⟩ = some (.slice Bx x.f1.length dx) ∧ W.cell? ⟨w1.heap.size, 0, none⟩ = some (.int .i64 s.f0) ∧ W.cell? ⟨w1.heap.size, 1, none⟩ = some (.slice B s.f1.length d)) := ⟨fun W h => ⟨(by have h_ := h.1; simp [World.cell?, h_]), (by have h_ := h.1; simp [World.cell?, h_]), (by have h_ := h.2; simp [World.cell?, h_]), (by have h_ := h.2; simp [World.cell?, h_])⟩⟩
      refine wp_region_held_drew (S := fun (W : World) => W.heap[w2.heap.size]? = some (.cells #[.int .i64 x.f0, .slice Bx x.f1.length dx] 43 (0, 0)) ∧ W.heap[w1.heap.size]? = some (.cells #[.int .i64 s.f0, .slice B s.f1.length d] 43 (0, 0))) (by kernel_rfl) ?s168 (fun hHeld => ?t168)
      case s168 => exact (show (fun (W : World) => W.heap[w2.heap.size]? = some (.cells #[.int .i64 x.f0, .slice Bx x.f1.length dx] 43 (0, 0)) ∧ W.heap[w1.heap.size]? = some (.cells #[.int .i64 s.f0, .slice B s.f1.length d] 43 (0, 0))) (World.drew wr) from ⟨FX.out, FS.out⟩)
      generalize hWVs : World.drew (wr) = Vs at hHeld ⊢
      have ltFX := blk_lt FX.out
      have ltFS := blk_lt FS.out
      have ltFA := blk_lt FA.out
      have ltFY := blk_lt FY.out
      have ltb := HB.out.size
      have ltl := HL.out
      have TT : ∀ k, k < wr.heap.size → Vs.heap[k]? = wr.heap[k]? := fun k hk => by rw [← hWVs]; (with_reducible repeat (first | rfl | refine hp_set ?_ ?_ | refine hp_alloc ?_ ?_ | refine hp_drew ?_)); all_goals (first | (with_reducible rfl) | omega | (dsimp only; omega) | (simp; omega))
      have TS : wr.heap.size + 0 ≤ Vs.heap.size := by rw [← hWVs]; simp
      have nFX : Vs.heap[w2.heap.size]? = some (.cells #[.int .i64 x.f0, .slice Bx x.f1.length dx] 43 (0, 0)) := (TT _ ltFX).trans FX.out
      have nFS : Vs.heap[w1.heap.size]? = some (.cells #[.int .i64 s.f0, .slice B s.f1.length d] 43 (0, 0)) := (TT _ ltFS).trans FS.out
      have nFA : Vs.heap[w1.heap.size + 1]? = some (.cells #[.string a.f0, .string a.f1] 24 (0, 0)) := (TT _ ltFA).trans FA.out
      have nFY : Vs.heap[wo.heap.size]? = some (.cells #[.int .i64 y.f0, .slice By2 y.f1.length dy2] 43 (0, 0)) := (TT _ ltFY).trans FY.out
      have nRX : Kd.R kItem 28 Vs w1.heap.size (fun _ => True) (.slice Bx x.f1.length dx) x.f1 := Kd.R_mono (Kd.R_step (RX.out) (fun k hk hlt => TT k hlt)) (fun _ hk => hk)
      have nHB : Below w1.heap.size w1 Vs := by rw [← hWVs]; exact bel_then (HB.out) (drew_below0 _)
      clear hWVs FX FS FA FY HB RX
      have FX := Aside0.mk nFX
      clear nFX
      have FS := Aside0.mk nFS
      clear nFS
      have FA := Aside0.mk nFA
      clear nFA
      have FY := Aside0.mk nFY
      clear nFY
      have RX := Aside0.mk nRX
      clear nRX
      have HB := Aside0.mk nHB
      clear nHB
      replace HL := Aside0.mk (Nat.le_trans HL.out (by omega : wr.heap.size ≤ Vs.heap.size))
      clear TT TS ltFX ltFS ltFA ltFY ltb ltl
      refine tk 0 ?v169 ?y169 ?r169
      case y169 => intro w_ hSw; obtain ⟨e_0, e_1, e_2, e_3⟩ := HS167.out w_ hSw; clear hSw; go_simp; (try (with_reducible rfl))
      try simp only [Act.put, List.setIfInBounds_toArray, List.set_cons_zero, List.set_cons_succ]
      refine rdy (rs := [1]) ?_
      refine rc (fun K hK => ?k170) AllReadyH.nil
      case k170 =>
       go_simp
       refine Calls.mono (HOX.out _ HB.out (Kd.R_reads' RX.out).2.2) ?_
       rintro e V1 ⟨rfl, bV1⟩
       replace FX := Aside0.mk (below_blk FX.out bV1)
       replace FS := Aside0.mk (below_blk FS.out bV1)
       replace FA := Aside0.mk (below_blk FA.out bV1)
       replace FY := Aside0.mk (below_blk FY.out bV1)
       replace RX := Aside0.mk (Kd.R_below RX.out bV1)
       replace HB := Aside0.mk (bel_then HB.out bV1)
       replace HL := Aside0.mk (Nat.le_trans HL.out bV1.size)
       clear bV1
       refine hK.out _ _ ?h171 (fun hHeld => ?j171)
       case h171 => exact ⟨FX.out, FS.out⟩
       clear hK K
       try simp only [Act.put, List.setIfInBounds_toArray, List.set_cons_zero, List.set_cons_succ]
       refine ta 2 ?_
       refine tk 3 ?v173 ?y173 ?r173
       case y173 => intro w_ hSw; obtain ⟨e_0, e_1, e_2, e_3⟩ := HS167.out w_ hSw; clear hSw; go_simp; (try (with_reducible rfl))
       try simp only [Act.put, List.setIfInBounds_toArray, List.set_cons_zero, List.set_cons_succ]
       refine tk 5 ?v174 ?y174 ?r174
       case y174 => intro w_ hSw; obtain ⟨e_0, e_1, e_2, e_3⟩ := HS167.out w_ hSw; clear hSw; go_simp; (try (with_reducible rfl))
       try simp only [Act.put, List.setIfInBounds_toArray, List.set_cons_zero, List.set_cons_succ]
       refine rdy (rs := [4]) ?_
       refine rc (fun K hK => ?k175) AllReadyH.nil
       case k175 =>
        go_simp
        refine Calls.mono (HMX.out _ HB.out (Kd.R_reads' RX.out).2.2) ?_
        rintro e V4 ⟨rfl, bV4⟩
        replace FX := Aside0.mk (below_blk FX.out bV4)
        replace FS := Aside0.mk (below_blk FS.out bV4)
        replace FA := Aside0.mk (below_blk FA.out bV4)
        replace FY := Aside0.mk (below_blk FY.out bV4)
        replace RX := Aside0.mk (Kd.R_below RX.out bV4)
        replace HB := Aside0.mk (bel_then HB.out bV4)
        replace HL := Aside0.mk (Nat.le_trans HL.out bV4.size)
        clear bV4
        refine hK.out _ _ ?h176 (fun hHeld => ?j176)
        case h176 => exact ⟨FX.out, FS.out⟩
        clear hK K
        try simp only [Act.put, List.setIfInBounds_toArray, List.set_cons_zero, List.set_cons_succ]
        refine rdy (rs := [6]) ?_
        refine rc (fun K hK => ?k177) AllReadyH.nil
        case k177 =>
         go_simp
         refine Calls.mono (HMS.out _ HB.out) ?_
         rintro e V6 ⟨rfl, bV6⟩
         replace FX := Aside0.mk (below_blk FX.out bV6)
         replace FS := Aside0.mk (below_blk FS.out bV6)
         replace FA := Aside0.mk (below_blk FA.out bV6)
         replace FY := Aside0.mk (below_blk FY.out bV6)
         replace RX := Aside0.mk (Kd.R_below RX.out bV6)
         replace HB := Aside0.mk (bel_then HB.out bV6)
         replace HL := Aside0.mk (Nat.le_trans HL.out bV6.size)
         clear bV6
         refine hK.out _ _ ?h178 (fun hHeld => ?j178)
         case h178 => exact ⟨FX.out, FS.out⟩
         clear hK K
         try simp only [Act.put, List.setIfInBounds_toArray, List.set_cons_zero, List.set_cons_succ]
         refine ta 7 ?_
         refine ta 8 ?_
         refine ta 9 ?_
         refine ta 10 ?_
         refine ta 11 ?_
         refine ta 12 ?_
         refine ta 13 ?_
         refine wpAnyH_done (by kernel_rfl) ?_ _
         go_wp2
         go_ret
         exact ⟨rfl, BW.out.trans (HB.out.mono SZ.out)⟩

end Go.Proofs.YtiaibgkpohmihaaDoor
