/- The law FnSpoolDone, walked. -/
import Derived.Test.YtiaibgkpohmihaaDoorReg
import Derived.Test.YtiaibgkpohmihaaDoorDrawSpDone
import Derived.Test.YtiaibgkpohmihaaDoorSpQ
import Derived.Test.YtiaibgkpohmihaaDoorSpDoneS
import Derived.Test.YtiaibgkpohmihaaDoorSaSp
import Derived.Deep.RegionHeld3
namespace Go.Proofs.YtiaibgkpohmihaaDoor
open Go.RowKit Go.Proofs.YtiaibgkpohmihaaDoorW.PrintWords
set_option linter.unusedVariables false
set_option linter.unusedSimpArgs false
theorem bounds_u8' {n : Int} (h : (Lit.int .u8 n).wf = true) : 0 ≤ n ∧ n ≤ 255 := by
 simp [Lit.wf, IntKind.min, IntKind.max, IntKind.signed, IntKind.bits] at h
 omega
theorem done_fits {s x : SSpool} {id : Int} {a : SAddr} {q : Bool} (h : DoneR s id a x q) (hw : fitSpool s) : fitSpool x := by
 cases q with
 | true => exact (done_law h hw).2.2.2.2.1
 | false =>
  rcases h with ⟨_, rfl, _⟩ | ⟨_, i, k, _, h, _⟩
  ·exact ⟨by show (Lit.int .i64 0).wf = true; decide, by show (0 : Nat) ≤ _; decide, fun y hy => by cases hy⟩
  ·rw [h rfl]; exact hw
set_option maxRecDepth 100000 in
set_option maxHeartbeats 8000000 in
theorem walk_FnSpoolDone {w : World} (A : Option Addr) (c : Nat) (xs : List Int) (hr : Kd.C (Kd.int .u8) w A xs.length xs) (hg : xs.length ≤ 9223372036854775807 ∧ ∀ y ∈ xs, (Lit.int .u8 y).wf = true) (hc : xs.length ≤ c) (hG : Glob w) :
  Calls Tryd.prog 4 #[.slice A xs.length c] w fun e w' => e = .returned (.bool true) ∧ Below w.heap.size w w' := by
 by_cases n_code : (1048576 : Int) < (xs.length : Int)
 ·generalize xs.length = L at n_code
  go_enter Tryd.func4, Tryd.ntmps4
  go_wp2
  go_ret
  exact ⟨rfl, Below.refl _ _⟩
 have hd := drawSpoolDone_any A c xs w ⟨by omega, fun y hy => by have := bounds_u8' (hg.2 y hy); omega⟩ hc hr
 clear hr hg hc
 generalize xs.length = L at n_code hd
 go_enter Tryd.func4, Tryd.ntmps4
 go_wp2_with fail
 refine Calls.mono hd ?_
 rintro e w1 ⟨s, B, d, id, a, rfl, hws, hid, hsa, hrow, b1⟩
 have HG := Lib.hid (hG.below b1)
 have BW := Lib.hid b1
 have SZ := Lib.hid b1.size
 clear hd hG b1
 obtain ⟨x, q, hdr⟩ := done_ex s id a
 have hf := wideS_fit hws
 have C0 := Aside0.mk (Kd.R_reads' hrow).2.2
 have HFS := Lib.hid hf
 have HD := Lib.hid hdr
 have himpl := fun W (hW : Below w1.heap.size w1 W) => spoolDone_any s id a x q B d W hf (Kd.C_below C0.out hW) (HG.out.below hW) hdr
 have hspec := fun W (hW : Below w1.heap.size w1 W) => specSpoolDone_any s id a x q B d W hf (Kd.C_below C0.out hW) hdr
 have hok := fun W (hW : Below w1.heap.size w1 W) => spoolOk_any s B d W hf (Kd.C_below C0.out hW) (HG.out.below hW)
 have hms := fun W (hW : Below w1.heap.size w1 W) => spoolMany_any s B d W hf (Kd.C_below C0.out hW) (HG.out.below hW)
 have HFX := Lib.hid (done_fits hdr hf)
 clear hws hsa hid hrow hdr hf
 go_wp2_with fail
 obtain ⟨W0, hW0⟩ : ∃ W, W = ((w1.alloc (.cells #[.int .i64 s.f0, .slice B s.f1.length d] 43)).alloc (.cells #[.string a.f0, .string a.f1] 24)) := ⟨_, rfl⟩
 rw [← hW0]
 have HB : Aside0 (Below w1.heap.size w1 W0) := ⟨by rw [hW0]; exact (bel_alloc (bel_alloc (Below.refl _ _) _) _)⟩
 have FS : Aside0 (W0.heap[w1.heap.size]? = some (.cells #[.int .i64 s.f0, .slice B s.f1.length d] 43 (0, 0))) := ⟨by rw [hW0]; exact blk_alloc (blk_at _ _ (by first | rfl | (simp; done))) _⟩
 have FA : Aside0 (W0.heap[w1.heap.size + 1]? = some (.cells #[.string a.f0, .string a.f1] 24 (0, 0))) := ⟨by rw [hW0]; exact blk_at _ _ (by simp)⟩
 have HL : Aside0 (w1.heap.size + 2 ≤ W0.heap.size) := ⟨by rw [hW0]; simp⟩
 clear hW0
 refine Calls.mono (himpl _ HB.out) ?_
 rintro e w2 ⟨Bx, dx, rfl, rRX, bw2⟩
 replace FS := Aside0.mk (below_blk FS.out bw2)
 replace FA := Aside0.mk (below_blk FA.out bw2)
 have RX : Aside0 (Kd.R kItem 28 w2 w1.heap.size (fun _ => True) (.slice Bx x.f1.length dx) x.f1) := ⟨Kd.R_lower (base' := w1.heap.size) rRX HB.out.size⟩
 clear rRX
 replace HB := Aside0.mk (bel_then HB.out bw2)
 replace HL := Aside0.mk (Nat.le_trans HL.out bw2.size)
 clear bw2
 have zFS := blk_lt FS.out
 have cFS_0 : w2.cell? ⟨w1.heap.size, 0, none⟩ = some (.int .i64 s.f0) := clq FS.out 0 rfl
 have cFS_1 : w2.cell? ⟨w1.heap.size, 1, none⟩ = some (.slice B s.f1.length d) := clq FS.out 1 rfl
 have zFA := blk_lt FA.out
 have cFA_0 : w2.cell? ⟨w1.heap.size + 1, 0, none⟩ = some (.string a.f0) := clq FA.out 0 rfl
 have cFA_1 : w2.cell? ⟨w1.heap.size + 1, 1, none⟩ = some (.string a.f1) := clq FA.out 1 rfl
 go_wp2_with fail
 generalize hWw3 : World.alloc (w2) _ = w3
 have ltFS := blk_lt FS.out
 have ltFA := blk_lt FA.out
 have ltb := HB.out.size
 have ltl := HL.out
 have TT : ∀ k, k < w2.heap.size → w3.heap[k]? = w2.heap[k]? := fun k hk => by rw [← hWw3]; (with_reducible repeat (first | rfl | refine hp_set ?_ ?_ | refine hp_alloc ?_ ?_ | refine hp_drew ?_)); all_goals (first | (with_reducible rfl) | omega | (dsimp only; omega) | (simp; omega))
 have TS : w2.heap.size + 1 ≤ w3.heap.size := by rw [← hWw3]; simp
 have nFS : w3.heap[w1.heap.size]? = some (.cells #[.int .i64 s.f0, .slice B s.f1.length d] 43 (0, 0)) := (TT _ ltFS).trans FS.out
 have nFA : w3.heap[w1.heap.size + 1]? = some (.cells #[.string a.f0, .string a.f1] 24 (0, 0)) := (TT _ ltFA).trans FA.out
 have nFX : w3.heap[w2.heap.size]? = some (.cells #[.int .i64 x.f0, .slice Bx x.f1.length dx] 43 (0, 0)) := by rw [← hWw3]; exact blk_new w2 (.cells #[.int .i64 x.f0, .slice Bx x.f1.length dx] 43)
 have nRX : Kd.R kItem 28 w3 w1.heap.size (fun _ => True) (.slice Bx x.f1.length dx) x.f1 := Kd.R_mono (Kd.R_step (RX.out) (fun k hk hlt => TT k hlt)) (fun _ hk => hk)
 have nHB : Below w1.heap.size w1 w3 := by rw [← hWw3]; exact bel_alloc (HB.out) _
 clear zFS cFS_0 cFS_1 zFA cFA_0 cFA_1
 clear hWw3 FS FA HB RX
 have FS := Aside0.mk nFS
 clear nFS
 have FA := Aside0.mk nFA
 clear nFA
 have FX := Aside0.mk nFX
 clear nFX
 have RX := Aside0.mk nRX
 clear nRX
 have HB := Aside0.mk nHB
 clear nHB
 have oFX_ltFS := ltFS
 have oFX_ltFA := ltFA
 have oFX_ltl := ltl
 have oFX_ts := TS
 replace HL := Aside0.mk (Nat.le_trans HL.out (by omega : w2.heap.size ≤ w3.heap.size))
 clear TT TS ltFS ltFA ltb ltl
 refine Calls.mono (hspec _ HB.out) ?_
 rintro e w4 ⟨By, dy, rfl, rRY, bw4⟩
 replace FS := Aside0.mk (below_blk FS.out bw4)
 replace FA := Aside0.mk (below_blk FA.out bw4)
 replace FX := Aside0.mk (below_blk FX.out bw4)
 replace RX := Aside0.mk (Kd.R_below RX.out bw4)
 have RY : Aside0 (Kd.R kItem 28 w4 w1.heap.size (fun _ => True) (.slice By x.f1.length dy) x.f1) := ⟨Kd.R_lower (base' := w1.heap.size) rRY HB.out.size⟩
 clear rRY
 replace HB := Aside0.mk (bel_then HB.out bw4)
 replace HL := Aside0.mk (Nat.le_trans HL.out bw4.size)
 clear bw4
 have zFX := blk_lt FX.out
 have cFX_0 : w4.cell? ⟨w2.heap.size, 0, none⟩ = some (.int .i64 x.f0) := clq FX.out 0 rfl
 have cFX_1 : w4.cell? ⟨w2.heap.size, 1, none⟩ = some (.slice Bx x.f1.length dx) := clq FX.out 1 rfl
 skip
 clear zFX cFX_0 cFX_1
 clear hspec
 cases q
 ·have zFX := blk_lt FX.out
  have cFX_0 : w4.cell? ⟨w2.heap.size, 0, none⟩ = some (.int .i64 x.f0) := clq FX.out 0 rfl
  have cFX_1 : w4.cell? ⟨w2.heap.size, 1, none⟩ = some (.slice Bx x.f1.length dx) := clq FX.out 1 rfl
  have zFS := blk_lt FS.out
  have cFS_0 : w4.cell? ⟨w1.heap.size, 0, none⟩ = some (.int .i64 s.f0) := clq FS.out 0 rfl
  have cFS_1 : w4.cell? ⟨w1.heap.size, 1, none⟩ = some (.slice B s.f1.length d) := clq FS.out 1 rfl
  go_wp2_with fail
  generalize hWw5 : World.alloc (w4) _ = w5
  have ltFS := blk_lt FS.out
  have ltFA := blk_lt FA.out
  have ltFX := blk_lt FX.out
  have ltb := HB.out.size
  have ltl := HL.out
  have TT : ∀ k, k < w4.heap.size → w5.heap[k]? = w4.heap[k]? := fun k hk => by rw [← hWw5]; (with_reducible repeat (first | rfl | refine hp_set ?_ ?_ | refine hp_alloc ?_ ?_ | refine hp_drew ?_)); all_goals (first | (with_reducible rfl) | omega | (dsimp only; omega) | (simp; omega))
  have TS : w4.heap.size + 1 ≤ w5.heap.size := by rw [← hWw5]; simp
  have nFS : w5.heap[w1.heap.size]? = some (.cells #[.int .i64 s.f0, .slice B s.f1.length d] 43 (0, 0)) := (TT _ ltFS).trans FS.out
  have nFA : w5.heap[w1.heap.size + 1]? = some (.cells #[.string a.f0, .string a.f1] 24 (0, 0)) := (TT _ ltFA).trans FA.out
  have nFX : w5.heap[w2.heap.size]? = some (.cells #[.int .i64 x.f0, .slice Bx x.f1.length dx] 43 (0, 0)) := (TT _ ltFX).trans FX.out
  have nFW : w5.heap[w4.heap.size]? = some (.cells #[.int .i64 x.f0, .slice By x.f1.length dy] 43 (0, 0)) := by rw [← hWw5]; exact blk_new w4 (.cells #[.int .i64 x.f0, .slice By x.f1.length dy] 43)
  have nRX : Kd.R kItem 28 w5 w1.heap.size (fun _ => True) (.slice Bx x.f1.length dx) x.f1 := Kd.R_mono (Kd.R_step (RX.out) (fun k hk hlt => TT k hlt)) (fun _ hk => hk)
  have nRY : Kd.R kItem 28 w5 w1.heap.size (fun _ => True) (.slice By x.f1.length dy) x.f1 := Kd.R_mono (Kd.R_step (RY.out) (fun k hk hlt => TT k hlt)) (fun _ hk => hk)
  have nHB : Below w1.heap.size w1 w5 := by rw [← hWw5]; exact bel_alloc (HB.out) _
  clear zFX cFX_0 cFX_1 zFS cFS_0 cFS_1
  clear hWw5 FS FA FX HB RX RY
  have FS := Aside0.mk nFS
  clear nFS
  have FA := Aside0.mk nFA
  clear nFA
  have FX := Aside0.mk nFX
  clear nFX
  have FW := Aside0.mk nFW
  clear nFW
  have RX := Aside0.mk nRX
  clear nRX
  have RY := Aside0.mk nRY
  clear nRY
  have HB := Aside0.mk nHB
  clear nHB
  have oFW_ltFS := ltFS
  have oFW_ltFA := ltFA
  have oFW_ltFX := ltFX
  have oFW_ltl := ltl
  have oFW_ts := TS
  replace HL := Aside0.mk (Nat.le_trans HL.out (by omega : w4.heap.size ≤ w5.heap.size))
  clear TT TS ltFS ltFA ltFX ltb ltl
  refine Calls.mono (saSpool_any x Bx dx By dy _ HFX.out (Kd.R_reads' RX.out).2.2 (Kd.R_reads' RY.out).2.2) ?_
  rintro e w6 ⟨rfl, bw6⟩
  replace FS := Aside0.mk (below_blk FS.out bw6)
  replace FA := Aside0.mk (below_blk FA.out bw6)
  replace FX := Aside0.mk (below_blk FX.out bw6)
  replace FW := Aside0.mk (below_blk FW.out bw6)
  replace RX := Aside0.mk (Kd.R_below RX.out bw6)
  replace RY := Aside0.mk (Kd.R_below RY.out bw6)
  replace HB := Aside0.mk (bel_then HB.out bw6)
  replace HL := Aside0.mk (Nat.le_trans HL.out bw6.size)
  clear bw6
  have zFS := blk_lt FS.out
  have cFS_0 : w6.cell? ⟨w1.heap.size, 0, none⟩ = some (.int .i64 s.f0) := clq FS.out 0 rfl
  have cFS_1 : w6.cell? ⟨w1.heap.size, 1, none⟩ = some (.slice B s.f1.length d) := clq FS.out 1 rfl
  have zFX := blk_lt FX.out
  have cFX_0 : w6.cell? ⟨w2.heap.size, 0, none⟩ = some (.int .i64 x.f0) := clq FX.out 0 rfl
  have cFX_1 : w6.cell? ⟨w2.heap.size, 1, none⟩ = some (.slice Bx x.f1.length dx) := clq FX.out 1 rfl
  have zFW := blk_lt FW.out
  have cFW_0 : w6.cell? ⟨w4.heap.size, 0, none⟩ = some (.int .i64 x.f0) := clq FW.out 0 rfl
  have cFW_1 : w6.cell? ⟨w4.heap.size, 1, none⟩ = some (.slice By x.f1.length dy) := clq FW.out 1 rfl
  go_wp2_with fail
  refine Calls.mono (hok _ HB.out) ?_
  rintro e w7 ⟨rfl, bw7⟩
  clear zFS cFS_0 cFS_1 zFX cFX_0 cFX_1 zFW cFW_0 cFW_1
  replace FS := Aside0.mk (below_blk FS.out bw7)
  replace FA := Aside0.mk (below_blk FA.out bw7)
  replace FX := Aside0.mk (below_blk FX.out bw7)
  replace FW := Aside0.mk (below_blk FW.out bw7)
  replace RX := Aside0.mk (Kd.R_below RX.out bw7)
  replace RY := Aside0.mk (Kd.R_below RY.out bw7)
  replace HB := Aside0.mk (bel_then HB.out bw7)
  replace HL := Aside0.mk (Nat.le_trans HL.out bw7.size)
  clear bw7
  cases hq1 : spoolOk s
  ·skip
   have zFX := blk_lt FX.out
   have cFX_0 : w7.cell? ⟨w2.heap.size, 0, none⟩ = some (.int .i64 x.f0) := clq FX.out 0 rfl
   have cFX_1 : w7.cell? ⟨w2.heap.size, 1, none⟩ = some (.slice Bx x.f1.length dx) := clq FX.out 1 rfl
   have zFW := blk_lt FW.out
   have cFW_0 : w7.cell? ⟨w4.heap.size, 0, none⟩ = some (.int .i64 x.f0) := clq FW.out 0 rfl
   have cFW_1 : w7.cell? ⟨w4.heap.size, 1, none⟩ = some (.slice By x.f1.length dy) := clq FW.out 1 rfl
   go_wp2_with fail
   refine Calls.mono (saSpool_any x Bx dx By dy _ HFX.out (Kd.R_reads' RX.out).2.2 (Kd.R_reads' RY.out).2.2) ?_
   rintro e w8 ⟨rfl, bw8⟩
   clear zFX cFX_0 cFX_1 zFW cFW_0 cFW_1
   replace FS := Aside0.mk (below_blk FS.out bw8)
   replace FA := Aside0.mk (below_blk FA.out bw8)
   replace FX := Aside0.mk (below_blk FX.out bw8)
   replace FW := Aside0.mk (below_blk FW.out bw8)
   replace RX := Aside0.mk (Kd.R_below RX.out bw8)
   replace RY := Aside0.mk (Kd.R_below RY.out bw8)
   replace HB := Aside0.mk (bel_then HB.out bw8)
   replace HL := Aside0.mk (Nat.le_trans HL.out bw8.size)
   clear bw8
   go_wp2
   go_ret
   exact ⟨rfl, BW.out.trans (HB.out.mono SZ.out)⟩
  ·have hxs : s = x := by
    rcases HD.out with ⟨h, _, _⟩ | ⟨_, i, k, _, h, _⟩
    ·rw [hq1] at h; cases h
    ·exact (h rfl).symm
   clear HD himpl hok
   subst hxs
   have zFX := blk_lt FX.out
   have cFX_0 : w7.cell? ⟨w2.heap.size, 0, none⟩ = some (.int .i64 s.f0) := clq FX.out 0 rfl
   have cFX_1 : w7.cell? ⟨w2.heap.size, 1, none⟩ = some (.slice Bx s.f1.length dx) := clq FX.out 1 rfl
   have zFS := blk_lt FS.out
   have cFS_0 : w7.cell? ⟨w1.heap.size, 0, none⟩ = some (.int .i64 s.f0) := clq FS.out 0 rfl
   have cFS_1 : w7.cell? ⟨w1.heap.size, 1, none⟩ = some (.slice B s.f1.length d) := clq FS.out 1 rfl
   go_wp2_with fail
   refine Calls.mono (saSpool_any s Bx dx B d _ HFX.out (Kd.R_reads' RX.out).2.2 (Kd.C_below C0.out HB.out)) ?_
   rintro e w8 ⟨rfl, bw8⟩
   clear zFX cFX_0 cFX_1 zFS cFS_0 cFS_1
   replace FS := Aside0.mk (below_blk FS.out bw8)
   replace FA := Aside0.mk (below_blk FA.out bw8)
   replace FX := Aside0.mk (below_blk FX.out bw8)
   replace FW := Aside0.mk (below_blk FW.out bw8)
   replace RX := Aside0.mk (Kd.R_below RX.out bw8)
   replace RY := Aside0.mk (Kd.R_below RY.out bw8)
   replace HB := Aside0.mk (bel_then HB.out bw8)
   replace HL := Aside0.mk (Nat.le_trans HL.out bw8.size)
   clear bw8
   go_wp2
   go_ret
   exact ⟨rfl, BW.out.trans (HB.out.mono SZ.out)⟩
 ·obtain ⟨h1, h2, h3, h4, h5, x2, h6⟩ := done_law HD.out HFS.out
  have HFX := Lib.hid h5
  have hmb := many_bd h1
  have hwm : IntKind.i64.wrap (spoolMany s - 1) = spoolMany s - 1 := IntWalk.i64_in _ (by omega)
  have hagain := fun W (hW : Below w1.heap.size w1 W) (hr : Kd.C kItem W Bx x.f1.length x.f1) => spoolDone_any x id a x2 false Bx dx W h5 hr (HG.out.below hW) h6
  have hokx := fun W (hW : Below w1.heap.size w1 W) (hr : Kd.C kItem W Bx x.f1.length x.f1) => spoolOk_any x Bx dx W h5 hr (HG.out.below hW)
  have hmx := fun W (hW : Below w1.heap.size w1 W) (hr : Kd.C kItem W Bx x.f1.length x.f1) => spoolMany_any x Bx dx W h5 hr (HG.out.below hW)
  rw [h1] at hok
  rw [h2] at hokx
  rw [h3] at hmx
  rw [h4] at FX hagain hokx hmx ⊢
  have HX0 := Lib.hid h4
  generalize spoolMany s = Ms at hmb hwm hmx hms
  clear h1 h2 h3 h4 h5 h6 HD himpl
  have zFX := blk_lt FX.out
  have cFX_0 : w4.cell? ⟨w2.heap.size, 0, none⟩ = some (.int .i64 s.f0) := clq FX.out 0 rfl
  have cFX_1 : w4.cell? ⟨w2.heap.size, 1, none⟩ = some (.slice Bx x.f1.length dx) := clq FX.out 1 rfl
  have zFS := blk_lt FS.out
  have cFS_0 : w4.cell? ⟨w1.heap.size, 0, none⟩ = some (.int .i64 s.f0) := clq FS.out 0 rfl
  have cFS_1 : w4.cell? ⟨w1.heap.size, 1, none⟩ = some (.slice B s.f1.length d) := clq FS.out 1 rfl
  go_wp2_with fail
  generalize hWw5 : World.alloc (w4) _ = w5
  have ltFS := blk_lt FS.out
  have ltFA := blk_lt FA.out
  have ltFX := blk_lt FX.out
  have ltb := HB.out.size
  have ltl := HL.out
  have TT : ∀ k, k < w4.heap.size → w5.heap[k]? = w4.heap[k]? := fun k hk => by rw [← hWw5]; (with_reducible repeat (first | rfl | refine hp_set ?_ ?_ | refine hp_alloc ?_ ?_ | refine hp_drew ?_)); all_goals (first | (with_reducible rfl) | omega | (dsimp only; omega) | (simp; omega))
  have TS : w4.heap.size + 1 ≤ w5.heap.size := by rw [← hWw5]; simp
  have nFS : w5.heap[w1.heap.size]? = some (.cells #[.int .i64 s.f0, .slice B s.f1.length d] 43 (0, 0)) := (TT _ ltFS).trans FS.out
  have nFA : w5.heap[w1.heap.size + 1]? = some (.cells #[.string a.f0, .string a.f1] 24 (0, 0)) := (TT _ ltFA).trans FA.out
  have nFX : w5.heap[w2.heap.size]? = some (.cells #[.int .i64 s.f0, .slice Bx x.f1.length dx] 43 (0, 0)) := (TT _ ltFX).trans FX.out
  have nFW : w5.heap[w4.heap.size]? = some (.cells #[.int .i64 s.f0, .slice By x.f1.length dy] 43 (0, 0)) := by rw [← hWw5]; exact blk_new w4 (.cells #[.int .i64 s.f0, .slice By x.f1.length dy] 43)
  have nRX : Kd.R kItem 28 w5 w1.heap.size (fun _ => True) (.slice Bx x.f1.length dx) x.f1 := Kd.R_mono (Kd.R_step (RX.out) (fun k hk hlt => TT k hlt)) (fun _ hk => hk)
  have nRY : Kd.R kItem 28 w5 w1.heap.size (fun _ => True) (.slice By x.f1.length dy) x.f1 := Kd.R_mono (Kd.R_step (RY.out) (fun k hk hlt => TT k hlt)) (fun _ hk => hk)
  have nHB : Below w1.heap.size w1 w5 := by rw [← hWw5]; exact bel_alloc (HB.out) _
  clear zFX cFX_0 cFX_1 zFS cFS_0 cFS_1
  clear hWw5 FS FA FX HB RX RY
  have FS := Aside0.mk nFS
  clear nFS
  have FA := Aside0.mk nFA
  clear nFA
  have FX := Aside0.mk nFX
  clear nFX
  have FW := Aside0.mk nFW
  clear nFW
  have RX := Aside0.mk nRX
  clear nRX
  have RY := Aside0.mk nRY
  clear nRY
  have HB := Aside0.mk nHB
  clear nHB
  have oFW_ltFS := ltFS
  have oFW_ltFA := ltFA
  have oFW_ltFX := ltFX
  have oFW_ltl := ltl
  have oFW_ts := TS
  replace HL := Aside0.mk (Nat.le_trans HL.out (by omega : w4.heap.size ≤ w5.heap.size))
  clear TT TS ltFS ltFA ltFX ltb ltl
  have hsa := saSpool_any x Bx dx By dy w5 HFX.out (Kd.R_reads' RX.out).2.2 (Kd.R_reads' RY.out).2.2
  rw [HX0.out] at hsa
  refine Calls.mono (hsa) ?_
  rintro e w6 ⟨rfl, bw6⟩
  replace FS := Aside0.mk (below_blk FS.out bw6)
  replace FA := Aside0.mk (below_blk FA.out bw6)
  replace FX := Aside0.mk (below_blk FX.out bw6)
  replace FW := Aside0.mk (below_blk FW.out bw6)
  replace RX := Aside0.mk (Kd.R_below RX.out bw6)
  replace RY := Aside0.mk (Kd.R_below RY.out bw6)
  replace HB := Aside0.mk (bel_then HB.out bw6)
  replace HL := Aside0.mk (Nat.le_trans HL.out bw6.size)
  clear bw6
  clear hsa
  have zFS := blk_lt FS.out
  have cFS_0 : w6.cell? ⟨w1.heap.size, 0, none⟩ = some (.int .i64 s.f0) := clq FS.out 0 rfl
  have cFS_1 : w6.cell? ⟨w1.heap.size, 1, none⟩ = some (.slice B s.f1.length d) := clq FS.out 1 rfl
  have zFX := blk_lt FX.out
  have cFX_0 : w6.cell? ⟨w2.heap.size, 0, none⟩ = some (.int .i64 s.f0) := clq FX.out 0 rfl
  have cFX_1 : w6.cell? ⟨w2.heap.size, 1, none⟩ = some (.slice Bx x.f1.length dx) := clq FX.out 1 rfl
  go_wp2_with fail
  refine Calls.mono (hok _ HB.out) ?_
  rintro e w7 ⟨rfl, bw7⟩
  clear zFS cFS_0 cFS_1 zFX cFX_0 cFX_1
  replace FS := Aside0.mk (below_blk FS.out bw7)
  replace FA := Aside0.mk (below_blk FA.out bw7)
  replace FX := Aside0.mk (below_blk FX.out bw7)
  replace FW := Aside0.mk (below_blk FW.out bw7)
  replace RX := Aside0.mk (Kd.R_below RX.out bw7)
  replace RY := Aside0.mk (Kd.R_below RY.out bw7)
  replace HB := Aside0.mk (bel_then HB.out bw7)
  replace HL := Aside0.mk (Nat.le_trans HL.out bw7.size)
  clear bw7
  have zFX := blk_lt FX.out
  have cFX_0 : w7.cell? ⟨w2.heap.size, 0, none⟩ = some (.int .i64 s.f0) := clq FX.out 0 rfl
  have cFX_1 : w7.cell? ⟨w2.heap.size, 1, none⟩ = some (.slice Bx x.f1.length dx) := clq FX.out 1 rfl
  have zFA := blk_lt FA.out
  have cFA_0 : w7.cell? ⟨w1.heap.size + 1, 0, none⟩ = some (.string a.f0) := clq FA.out 0 rfl
  have cFA_1 : w7.cell? ⟨w1.heap.size + 1, 1, none⟩ = some (.string a.f1) := clq FA.out 1 rfl
  go_wp2_with fail
  refine Calls.mono (hagain _ HB.out (Kd.R_reads' RX.out).2.2) ?_
  rintro e w8 ⟨Bz, dz, rfl, rRZ, bw8⟩
  clear zFX cFX_0 cFX_1 zFA cFA_0 cFA_1
  replace FS := Aside0.mk (below_blk FS.out bw8)
  replace FA := Aside0.mk (below_blk FA.out bw8)
  replace FX := Aside0.mk (below_blk FX.out bw8)
  replace FW := Aside0.mk (below_blk FW.out bw8)
  replace RX := Aside0.mk (Kd.R_below RX.out bw8)
  replace RY := Aside0.mk (Kd.R_below RY.out bw8)
  have RZ : Aside0 (Kd.R kItem 28 w8 w1.heap.size (fun _ => True) (.slice Bz x2.f1.length dz) x2.f1) := ⟨Kd.R_lower (base' := w1.heap.size) rRZ HB.out.size⟩
  clear rRZ
  replace HB := Aside0.mk (bel_then HB.out bw8)
  replace HL := Aside0.mk (Nat.le_trans HL.out bw8.size)
  clear bw8
  clear hagain
  go_wp2_with fail
  generalize hWw9 : World.alloc (w8) _ = w9
  have ltFS := blk_lt FS.out
  have ltFA := blk_lt FA.out
  have ltFX := blk_lt FX.out
  have ltFW := blk_lt FW.out
  have ltb := HB.out.size
  have ltl := HL.out
  have TT : ∀ k, k < w8.heap.size → w9.heap[k]? = w8.heap[k]? := fun k hk => by rw [← hWw9]; (with_reducible repeat (first | rfl | refine hp_set ?_ ?_ | refine hp_alloc ?_ ?_ | refine hp_drew ?_)); all_goals (first | (with_reducible rfl) | omega | (dsimp only; omega) | (simp; omega))
  have TS : w8.heap.size + 1 ≤ w9.heap.size := by rw [← hWw9]; simp
  have nFS : w9.heap[w1.heap.size]? = some (.cells #[.int .i64 s.f0, .slice B s.f1.length d] 43 (0, 0)) := (TT _ ltFS).trans FS.out
  have nFA : w9.heap[w1.heap.size + 1]? = some (.cells #[.string a.f0, .string a.f1] 24 (0, 0)) := (TT _ ltFA).trans FA.out
  have nFX : w9.heap[w2.heap.size]? = some (.cells #[.int .i64 s.f0, .slice Bx x.f1.length dx] 43 (0, 0)) := (TT _ ltFX).trans FX.out
  have nFW : w9.heap[w4.heap.size]? = some (.cells #[.int .i64 s.f0, .slice By x.f1.length dy] 43 (0, 0)) := (TT _ ltFW).trans FW.out
  have nFZ : w9.heap[w8.heap.size]? = some (.cells #[.int .i64 x2.f0, .slice Bz x2.f1.length dz] 43 (0, 0)) := by rw [← hWw9]; exact blk_new w8 (.cells #[.int .i64 x2.f0, .slice Bz x2.f1.length dz] 43)
  have nRX : Kd.R kItem 28 w9 w1.heap.size (fun _ => True) (.slice Bx x.f1.length dx) x.f1 := Kd.R_mono (Kd.R_step (RX.out) (fun k hk hlt => TT k hlt)) (fun _ hk => hk)
  have nRY : Kd.R kItem 28 w9 w1.heap.size (fun _ => True) (.slice By x.f1.length dy) x.f1 := Kd.R_mono (Kd.R_step (RY.out) (fun k hk hlt => TT k hlt)) (fun _ hk => hk)
  have nRZ : Kd.R kItem 28 w9 w1.heap.size (fun _ => True) (.slice Bz x2.f1.length dz) x2.f1 := Kd.R_mono (Kd.R_step (RZ.out) (fun k hk hlt => TT k hlt)) (fun _ hk => hk)
  have nHB : Below w1.heap.size w1 w9 := by rw [← hWw9]; exact bel_alloc (HB.out) _
  clear hWw9 FS FA FX FW HB RX RY RZ
  have FS := Aside0.mk nFS
  clear nFS
  have FA := Aside0.mk nFA
  clear nFA
  have FX := Aside0.mk nFX
  clear nFX
  have FW := Aside0.mk nFW
  clear nFW
  have FZ := Aside0.mk nFZ
  clear nFZ
  have RX := Aside0.mk nRX
  clear nRX
  have RY := Aside0.mk nRY
  clear nRY
  have RZ := Aside0.mk nRZ
  clear nRZ
  have HB := Aside0.mk nHB
  clear nHB
  have oFZ_ltFS := ltFS
  have oFZ_ltFA := ltFA
  have oFZ_ltFX := ltFX
  have oFZ_ltFW := ltFW
  have oFZ_ltl := ltl
  have oFZ_ts := TS
  replace HL := Aside0.mk (Nat.le_trans HL.out (by omega : w8.heap.size ≤ w9.heap.size))
  clear TT TS ltFS ltFA ltFX ltFW ltb ltl
  clear FZ RZ
  have HS112 : Aside0 (∀ W : World, (W.heap[w2.heap.size]? = some (.cells #[.int .i64 s.f0, .slice Bx x.f1.length dx] 43 (0, 0)) ∧ W.heap[w1.heap.size]? = some (.cells #[.int .i64 s.f0, .slice B s.f1.length d] 43 (0, 0))) → W.cell? ⟨w2.heap.size, 0, none⟩ = some (.int .i64 s.f0) ∧ W.cell? ⟨w2.heap.size, 1, none⟩ = some (.slice Bx x.f1.length dx) ∧ W.cell? ⟨w1.heap.size, 0, none⟩ = some (.int .i64 s.f0) ∧ W.cell? ⟨w1.heap.size, 1, none⟩ = some (.slice B s.f1.length d)) := ⟨fun W h => ⟨(by have h_ := h.1; simp [World.cell?, h_]), (by have h_ := h.1; simp [World.cell?, h_]), (by have h_ := h.2; simp [World.cell?, h_]), (by have h_ := h.2; simp [World.cell?, h_])⟩⟩
  refine wp_region_held_drew (S := fun (W : World) => W.heap[w2.heap.size]? = some (.cells #[.int .i64 s.f0, .slice Bx x.f1.length dx] 43 (0, 0)) ∧ W.heap[w1.heap.size]? = some (.cells #[.int .i64 s.f0, .slice B s.f1.length d] 43 (0, 0))) (by kernel_rfl) ?s113 (fun hHeld => ?t113)
  case s113 => exact (show (fun (W : World) => W.heap[w2.heap.size]? = some (.cells #[.int .i64 s.f0, .slice Bx x.f1.length dx] 43 (0, 0)) ∧ W.heap[w1.heap.size]? = some (.cells #[.int .i64 s.f0, .slice B s.f1.length d] 43 (0, 0))) (World.drew w9) from ⟨FX.out, FS.out⟩)
  generalize hWVs : World.drew (w9) = Vs at hHeld ⊢
  have ltFS := blk_lt FS.out
  have ltFA := blk_lt FA.out
  have ltFX := blk_lt FX.out
  have ltFW := blk_lt FW.out
  have ltb := HB.out.size
  have ltl := HL.out
  have TT : ∀ k, k < w9.heap.size → Vs.heap[k]? = w9.heap[k]? := fun k hk => by rw [← hWVs]; (with_reducible repeat (first | rfl | refine hp_set ?_ ?_ | refine hp_alloc ?_ ?_ | refine hp_drew ?_)); all_goals (first | (with_reducible rfl) | omega | (dsimp only; omega) | (simp; omega))
  have TS : w9.heap.size + 0 ≤ Vs.heap.size := by rw [← hWVs]; simp
  have nFS : Vs.heap[w1.heap.size]? = some (.cells #[.int .i64 s.f0, .slice B s.f1.length d] 43 (0, 0)) := (TT _ ltFS).trans FS.out
  have nFA : Vs.heap[w1.heap.size + 1]? = some (.cells #[.string a.f0, .string a.f1] 24 (0, 0)) := (TT _ ltFA).trans FA.out
  have nFX : Vs.heap[w2.heap.size]? = some (.cells #[.int .i64 s.f0, .slice Bx x.f1.length dx] 43 (0, 0)) := (TT _ ltFX).trans FX.out
  have nFW : Vs.heap[w4.heap.size]? = some (.cells #[.int .i64 s.f0, .slice By x.f1.length dy] 43 (0, 0)) := (TT _ ltFW).trans FW.out
  have nRX : Kd.R kItem 28 Vs w1.heap.size (fun _ => True) (.slice Bx x.f1.length dx) x.f1 := Kd.R_mono (Kd.R_step (RX.out) (fun k hk hlt => TT k hlt)) (fun _ hk => hk)
  have nRY : Kd.R kItem 28 Vs w1.heap.size (fun _ => True) (.slice By x.f1.length dy) x.f1 := Kd.R_mono (Kd.R_step (RY.out) (fun k hk hlt => TT k hlt)) (fun _ hk => hk)
  have nHB : Below w1.heap.size w1 Vs := by rw [← hWVs]; exact bel_then (HB.out) (drew_below0 _)
  clear hWVs FS FA FX FW HB RX RY
  have FS := Aside0.mk nFS
  clear nFS
  have FA := Aside0.mk nFA
  clear nFA
  have FX := Aside0.mk nFX
  clear nFX
  have FW := Aside0.mk nFW
  clear nFW
  have RX := Aside0.mk nRX
  clear nRX
  have RY := Aside0.mk nRY
  clear nRY
  have HB := Aside0.mk nHB
  clear nHB
  replace HL := Aside0.mk (Nat.le_trans HL.out (by omega : w9.heap.size ≤ Vs.heap.size))
  clear TT TS ltFS ltFA ltFX ltFW ltb ltl
  refine tk 0 ?v114 ?y114 ?r114
  case y114 => intro w_ hSw; obtain ⟨e_0, e_1, e_2, e_3⟩ := HS112.out w_ hSw; clear hSw; go_simp; (try (with_reducible rfl))
  try simp only [Act.put, List.setIfInBounds_toArray, List.set_cons_zero, List.set_cons_succ]
  refine rdy (rs := [1]) ?_
  refine rc (fun K hK => ?k115) AllReadyH.nil
  case k115 =>
   go_simp
   refine Calls.mono (hokx _ HB.out (Kd.R_reads' RX.out).2.2) ?_
   rintro e V1 ⟨rfl, bV1⟩
   replace FS := Aside0.mk (below_blk FS.out bV1)
   replace FA := Aside0.mk (below_blk FA.out bV1)
   replace FX := Aside0.mk (below_blk FX.out bV1)
   replace FW := Aside0.mk (below_blk FW.out bV1)
   replace RX := Aside0.mk (Kd.R_below RX.out bV1)
   replace RY := Aside0.mk (Kd.R_below RY.out bV1)
   replace HB := Aside0.mk (bel_then HB.out bV1)
   replace HL := Aside0.mk (Nat.le_trans HL.out bV1.size)
   clear bV1
   refine hK.out _ _ ?h116 (fun hHeld => ?j116)
   case h116 => exact ⟨FX.out, FS.out⟩
   clear hK K
   try simp only [Act.put, List.setIfInBounds_toArray, List.set_cons_zero, List.set_cons_succ]
   refine tk 2 ?v117 ?y117 ?r117
   case y117 => intro w_ hSw; (try dsimp only at hSw); clear hSw; go_simp; (try (with_reducible rfl))
   try simp only [Act.put, List.setIfInBounds_toArray, List.set_cons_zero, List.set_cons_succ]
   refine tk 3 ?v118 ?y118 ?r118
   case y118 => intro w_ hSw; obtain ⟨e_0, e_1, e_2, e_3⟩ := HS112.out w_ hSw; clear hSw; go_simp; (try (with_reducible rfl))
   try simp only [Act.put, List.setIfInBounds_toArray, List.set_cons_zero, List.set_cons_succ]
   refine tk 5 ?v119 ?y119 ?r119
   case y119 => intro w_ hSw; obtain ⟨e_0, e_1, e_2, e_3⟩ := HS112.out w_ hSw; clear hSw; go_simp; (try (with_reducible rfl))
   try simp only [Act.put, List.setIfInBounds_toArray, List.set_cons_zero, List.set_cons_succ]
   refine rdy (rs := [4]) ?_
   refine rc (fun K hK => ?k120) AllReadyH.nil
   case k120 =>
    go_simp
    refine Calls.mono (hmx _ HB.out (Kd.R_reads' RX.out).2.2) ?_
    rintro e V4 ⟨rfl, bV4⟩
    replace FS := Aside0.mk (below_blk FS.out bV4)
    replace FA := Aside0.mk (below_blk FA.out bV4)
    replace FX := Aside0.mk (below_blk FX.out bV4)
    replace FW := Aside0.mk (below_blk FW.out bV4)
    replace RX := Aside0.mk (Kd.R_below RX.out bV4)
    replace RY := Aside0.mk (Kd.R_below RY.out bV4)
    replace HB := Aside0.mk (bel_then HB.out bV4)
    replace HL := Aside0.mk (Nat.le_trans HL.out bV4.size)
    clear bV4
    refine hK.out _ _ ?h121 (fun hHeld => ?j121)
    case h121 => exact ⟨FX.out, FS.out⟩
    clear hK K
    try simp only [Act.put, List.setIfInBounds_toArray, List.set_cons_zero, List.set_cons_succ]
    refine rdy (rs := [6]) ?_
    refine rc (fun K hK => ?k122) AllReadyH.nil
    case k122 =>
     go_simp
     refine Calls.mono (hms _ HB.out) ?_
     rintro e V6 ⟨rfl, bV6⟩
     replace FS := Aside0.mk (below_blk FS.out bV6)
     replace FA := Aside0.mk (below_blk FA.out bV6)
     replace FX := Aside0.mk (below_blk FX.out bV6)
     replace FW := Aside0.mk (below_blk FW.out bV6)
     replace RX := Aside0.mk (Kd.R_below RX.out bV6)
     replace RY := Aside0.mk (Kd.R_below RY.out bV6)
     replace HB := Aside0.mk (bel_then HB.out bV6)
     replace HL := Aside0.mk (Nat.le_trans HL.out bV6.size)
     clear bV6
     refine hK.out _ _ ?h123 (fun hHeld => ?j123)
     case h123 => exact ⟨FX.out, FS.out⟩
     clear hK K
     try simp only [Act.put, List.setIfInBounds_toArray, List.set_cons_zero, List.set_cons_succ]
     refine tk 7 ?v124 ?y124 ?r124
     case y124 => intro w_ hSw; (try dsimp only at hSw); clear hSw; go_simp; (try (with_reducible rfl))
     try simp only [Act.put, List.setIfInBounds_toArray, List.set_cons_zero, List.set_cons_succ]
     refine tk 8 ?v125 ?y125 ?r125
     case y125 => intro w_ hSw; (try dsimp only at hSw); clear hSw; go_simp; (try (with_reducible rfl))
     try simp only [Act.put, List.setIfInBounds_toArray, List.set_cons_zero, List.set_cons_succ]
     refine tk 9 ?v126 ?y126 ?r126
     case y126 => intro w_ hSw; (try dsimp only at hSw); clear hSw; go_simp; (try (with_reducible rfl))
     try simp only [Act.put, List.setIfInBounds_toArray, List.set_cons_zero, List.set_cons_succ]
     refine tk 10 ?v127 ?y127 ?r127
     case y127 => intro w_ hSw; (try dsimp only at hSw); clear hSw; go_simp; (try (with_reducible rfl))
     try simp only [Act.put, List.setIfInBounds_toArray, List.set_cons_zero, List.set_cons_succ]
     refine tk 11 ?v128 ?y128 ?r128
     case y128 => intro w_ hSw; (try dsimp only at hSw); clear hSw; go_simp; (try (with_reducible rfl))
     try simp only [Act.put, List.setIfInBounds_toArray, List.set_cons_zero, List.set_cons_succ]
     refine tk 12 ?v129 ?y129 ?r129
     case y129 => intro w_ hSw; (try dsimp only at hSw); clear hSw; go_simp; (try (with_reducible rfl))
     try simp only [Act.put, List.setIfInBounds_toArray, List.set_cons_zero, List.set_cons_succ]
     refine tk 13 ?v130 ?y130 ?r130
     case y130 => intro w_ hSw; (try dsimp only at hSw); clear hSw; go_simp; (try (with_reducible rfl))
     try simp only [Act.put, List.setIfInBounds_toArray, List.set_cons_zero, List.set_cons_succ]
     refine tk 14 ?v131 ?y131 ?r131
     case y131 => intro w_ hSw; (try dsimp only at hSw); clear hSw; go_simp; (try (with_reducible rfl))
     try simp only [Act.put, List.setIfInBounds_toArray, List.set_cons_zero, List.set_cons_succ]
     refine tk 15 ?v132 ?y132 ?r132
     case y132 => intro w_ hSw; (try dsimp only at hSw); clear hSw; go_simp; (try (with_reducible rfl))
     try simp only [Act.put, List.setIfInBounds_toArray, List.set_cons_zero, List.set_cons_succ]
     refine tk 16 ?v133 ?y133 ?r133
     case y133 => intro w_ hSw; obtain ⟨e_0, e_1, e_2, e_3⟩ := HS112.out w_ hSw; clear hSw; go_simp; (try (with_reducible rfl))
     try simp only [Act.put, List.setIfInBounds_toArray, List.set_cons_zero, List.set_cons_succ]
     refine tk 17 ?v134 ?y134 ?r134
     case y134 => intro w_ hSw; (try dsimp only at hSw); clear hSw; go_simp; (try (with_reducible rfl))
     try simp only [Act.put, List.setIfInBounds_toArray, List.set_cons_zero, List.set_cons_succ]
     refine tk 18 ?v135 ?y135 ?r135
     case y135 => intro w_ hSw; obtain ⟨e_0, e_1, e_2, e_3⟩ := HS112.out w_ hSw; clear hSw; go_simp; (try (with_reducible rfl))
     try simp only [Act.put, List.setIfInBounds_toArray, List.set_cons_zero, List.set_cons_succ]
     refine tk 19 ?v136 ?y136 ?r136
     case y136 => intro w_ hSw; (try dsimp only at hSw); clear hSw; go_simp; (try (with_reducible rfl))
     try simp only [Act.put, List.setIfInBounds_toArray, List.set_cons_zero, List.set_cons_succ]
     refine tk 20 ?v137 ?y137 ?r137
     case y137 => intro w_ hSw; (try dsimp only at hSw); clear hSw; go_simp; (try (with_reducible rfl))
     try simp only [Act.put, List.setIfInBounds_toArray, List.set_cons_zero, List.set_cons_succ]
     refine tk 21 ?v138 ?y138 ?r138
     case y138 => intro w_ hSw; (try dsimp only at hSw); clear hSw; go_simp; (try (with_reducible rfl))
     try simp only [Act.put, List.setIfInBounds_toArray, List.set_cons_zero, List.set_cons_succ]
     refine wpAnyH_done (by kernel_rfl) ?_ _
     go_wp2
     go_ret
     exact ⟨rfl, BW.out.trans (HB.out.mono SZ.out)⟩

end Go.Proofs.YtiaibgkpohmihaaDoor
