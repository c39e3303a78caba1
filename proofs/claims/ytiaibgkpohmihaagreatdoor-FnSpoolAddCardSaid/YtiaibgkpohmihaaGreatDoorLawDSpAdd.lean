/- The law FnSpoolAdd, walked. -/
import Derived.Test.YtiaibgkpohmihaaGreatDoorReg
import Derived.Test.YtiaibgkpohmihaaGreatDoorSpAddP
import Derived.Test.YtiaibgkpohmihaaGreatDoorSpAddX
import Derived.Test.YtiaibgkpohmihaaGreatDoorSaSp
import Derived.Deep.RegionHeld3
namespace Go.Proofs.YtiaibgkpohmihaaGreatDoor
open Go.RowKit Go.Proofs.YtiaibgkpohmihaaGreatDoorW.PrintWords
set_option linter.unusedVariables false
set_option linter.unusedSimpArgs false
theorem bounds_u8' {n : Int} (h : (Lit.int .u8 n).wf = true) : 0 ≤ n ∧ n ≤ 255 := by
 simp [Lit.wf, IntKind.min, IntKind.max, IntKind.signed, IntKind.bits] at h
 omega
theorem specSpoolOk_any (s : SSpool) (A0 : Option Addr) (c0 : Nat) (w : World) (hw : fitSpool s) (hr0 : Kd.C kItem w A0 s.f1.length s.f1) :
  Calls Tryz.prog 15 #[.agg #[.int .i64 s.f0, .slice A0 s.f1.length c0]] w fun e w' => e = .returned (.bool (spoolOk s)) ∧ Below w.heap.size w w' := by
 have h1 := fun W (hW : Below w.heap.size w W) => specSpool_any s A0 c0 W hw (Kd.C_below hr0 hW)
 clear hr0 hw
 generalize spoolOk s = q at h1
 go_enter Tryz.func15, Tryz.ntmps15
 go_wp2_with fail
 refine Calls.mono (h1 _ (bel_alloc (Below.refl _ _) _)) ?_
 rintro e w1 ⟨rfl, b1⟩
 go_wp2
 go_ret
 exact ⟨rfl, bel_then (bel_alloc (Below.refl _ _) _) b1⟩
set_option maxRecDepth 100000 in
set_option maxHeartbeats 8000000 in
theorem walk_FnSpoolAdd {w : World} (A : Option Addr) (c : Nat) (xs : List Int) (hr : Kd.C (Kd.int .u8) w A xs.length xs) (hg : xs.length ≤ 9223372036854775807 ∧ ∀ y ∈ xs, (Lit.int .u8 y).wf = true) (hc : xs.length ≤ c) (hG : Glob w) :
  Calls Tryz.prog 4 #[.slice A xs.length c] w fun e w' => e = .returned (.bool true) ∧ Below w.heap.size w w' := by
 by_cases n_code : (1048576 : Int) < (xs.length : Int)
 ·generalize xs.length = L at n_code
  go_enter Tryz.func4, Tryz.ntmps4
  go_wp2
  go_ret
  exact ⟨rfl, Below.refl _ _⟩
 have hd := drawSpoolAdd_any A c xs w ⟨by omega, fun y hy => by have := bounds_u8' (hg.2 y hy); omega⟩ hc hr
 clear hr hg hc
 generalize xs.length = L at n_code hd
 go_enter Tryz.func4, Tryz.ntmps4
 go_wp2_with fail
 refine Calls.mono hd ?_
 rintro e w1 ⟨s, B, d, m, M0, m0, M1, m1, now, rfl, hws, hmx, hnow, hrow, hr1, hr2, b1⟩
 have HG := Lib.hid (hG.below b1)
 have BW := Lib.hid b1
 have SZ := Lib.hid b1.size
 clear hd hG b1
 have hdr := add_r s m now
 have hf := wideS_fit hws
 have hm := mid_fit hmx
 have hs8 := hws.2.1
 have hml : m.f1.length ≤ 5 := hmx.2.1.1
 have C0 := Aside0.mk (Kd.R_reads' hrow).2.2
 have C1 := Aside0.mk (Kd.R_reads' hr1).2.2
 have C2 := Aside0.mk (Kd.R_reads' hr2).2.2
 have hfx : fitSpool (spAdd s m now) := by
  rcases hdr with ⟨_, h, _⟩ | ⟨_, h, _⟩ | ⟨_, _, h, _⟩
  ·rw [h]; exact ⟨by show (Lit.int .i64 0).wf = true; decide, by show (0 : Nat) ≤ _; decide, fun y hy => by cases hy⟩
  ·rw [h]; exact hf
  ·rw [h]; exact add_fit hf hm (by have := hws.1; omega) (by omega) (by omega)
 have himpl := fun W (hW : Below w1.heap.size w1 W) => spoolAdd_any s m now B d M0 m0 M1 m1 W hf hm (Kd.C_below C0.out hW) (Kd.C_below C1.out hW) (Kd.C_below C2.out hW) (HG.out.below hW)
 have hspec := fun W (hW : Below w1.heap.size w1 W) => specSpoolAdd_any s m now B d M0 m0 M1 m1 W hf hm (Kd.C_below C0.out hW) (Kd.C_below C1.out hW) (Kd.C_below C2.out hW)
 have hok := fun W (hW : Below w1.heap.size w1 W) => spoolOk_any s B d W hf (Kd.C_below C0.out hW) (HG.out.below hW)
 have hks := fun W (hW : Below w1.heap.size w1 W) => specSpoolOk_any s B d W hf (Kd.C_below C0.out hW)
 have hms := fun W (hW : Below w1.heap.size w1 W) => spoolMany_any s B d W hf (Kd.C_below C0.out hW) (HG.out.below hW)
 have HFS := Lib.hid hf
 generalize spAdd s m now = x at hdr hfx himpl hspec
 generalize spAddOk s m now = q at hdr himpl hspec
 have HD := Lib.hid hdr
 have HFX := Lib.hid hfx
 clear hws hmx hrow hr1 hr2 hdr hf hm hfx
 go_wp2_with fail
 obtain ⟨W0, hW0⟩ : ∃ W, W = ((w1.alloc (.cells #[.int .i64 s.f0, .slice B s.f1.length d] 43)).alloc (.cells #[.string m.f0.f0, .string m.f0.f1, .slice M0 m.f1.length m0, .slice M1 m.f2.length m1] 33)) := ⟨_, rfl⟩
 rw [← hW0]
 have HB : Aside0 (Below w1.heap.size w1 W0) := ⟨by rw [hW0]; exact (bel_alloc (bel_alloc (Below.refl _ _) _) _)⟩
 have FS : Aside0 (W0.heap[w1.heap.size]? = some (.cells #[.int .i64 s.f0, .slice B s.f1.length d] 43 (0, 0))) := ⟨by rw [hW0]; exact blk_alloc (blk_at _ _ (by first | rfl | (simp; done))) _⟩
 have FM : Aside0 (W0.heap[w1.heap.size + 1]? = some (.cells #[.string m.f0.f0, .string m.f0.f1, .slice M0 m.f1.length m0, .slice M1 m.f2.length m1] 33 (0, 0))) := ⟨by rw [hW0]; exact blk_at _ _ (by simp)⟩
 have HL : Aside0 (w1.heap.size + 2 ≤ W0.heap.size) := ⟨by rw [hW0]; simp⟩
 clear hW0
 refine Calls.mono (himpl _ HB.out) ?_
 rintro e w2 ⟨Bx, dx, rfl, rRX, bw2⟩
 replace FS := Aside0.mk (below_blk FS.out bw2)
 replace FM := Aside0.mk (below_blk FM.out bw2)
 have RX : Aside0 (Kd.R kItem 55 w2 w1.heap.size (fun _ => True) (.slice Bx x.f1.length dx) x.f1) := ⟨Kd.R_lower (base' := w1.heap.size) rRX HB.out.size⟩
 clear rRX
 replace HB := Aside0.mk (bel_then HB.out bw2)
 replace HL := Aside0.mk (Nat.le_trans HL.out bw2.size)
 clear bw2
 have zFS := blk_lt FS.out
 have cFS_0 : w2.cell? ⟨w1.heap.size, 0, none⟩ = some (.int .i64 s.f0) := clq FS.out 0 rfl
 have cFS_1 : w2.cell? ⟨w1.heap.size, 1, none⟩ = some (.slice B s.f1.length d) := clq FS.out 1 rfl
 have zFM := blk_lt FM.out
 have cFM_0 : w2.cell? ⟨w1.heap.size + 1, 0, none⟩ = some (.string m.f0.f0) := clq FM.out 0 rfl
 have cFM_1 : w2.cell? ⟨w1.heap.size + 1, 1, none⟩ = some (.string m.f0.f1) := clq FM.out 1 rfl
 have cFM_2 : w2.cell? ⟨w1.heap.size + 1, 2, none⟩ = some (.slice M0 m.f1.length m0) := clq FM.out 2 rfl
 have cFM_3 : w2.cell? ⟨w1.heap.size + 1, 3, none⟩ = some (.slice M1 m.f2.length m1) := clq FM.out 3 rfl
 clear himpl
 go_wp2_with fail
 generalize hWw3 : World.alloc (w2) _ = w3
 have ltFS := blk_lt FS.out
 have ltFM := blk_lt FM.out
 have ltb := HB.out.size
 have ltl := HL.out
 have TT : ∀ k, k < w2.heap.size → w3.heap[k]? = w2.heap[k]? := fun k hk => by rw [← hWw3]; (with_reducible repeat (first | rfl | refine hp_set ?_ ?_ | refine hp_alloc ?_ ?_ | refine hp_drew ?_)); all_goals (first | (with_reducible rfl) | omega | (dsimp only; omega) | (simp; omega))
 have TS : w2.heap.size + 1 ≤ w3.heap.size := by rw [← hWw3]; simp
 have nFS : w3.heap[w1.heap.size]? = some (.cells #[.int .i64 s.f0, .slice B s.f1.length d] 43 (0, 0)) := (TT _ ltFS).trans FS.out
 have nFM : w3.heap[w1.heap.size + 1]? = some (.cells #[.string m.f0.f0, .string m.f0.f1, .slice M0 m.f1.length m0, .slice M1 m.f2.length m1] 33 (0, 0)) := (TT _ ltFM).trans FM.out
 have nFX : w3.heap[w2.heap.size]? = some (.cells #[.int .i64 x.f0, .slice Bx x.f1.length dx] 43 (0, 0)) := by rw [← hWw3]; exact blk_new w2 (.cells #[.int .i64 x.f0, .slice Bx x.f1.length dx] 43)
 have nRX : Kd.R kItem 55 w3 w1.heap.size (fun _ => True) (.slice Bx x.f1.length dx) x.f1 := Kd.R_mono (Kd.R_step (RX.out) (fun k hk hlt => TT k hlt)) (fun _ hk => hk)
 have nHB : Below w1.heap.size w1 w3 := by rw [← hWw3]; exact bel_alloc (HB.out) _
 clear zFS cFS_0 cFS_1 zFM cFM_0 cFM_1 cFM_2 cFM_3
 clear hWw3 FS FM HB RX
 have FS := Aside0.mk nFS
 clear nFS
 have FM := Aside0.mk nFM
 clear nFM
 have FX := Aside0.mk nFX
 clear nFX
 have RX := Aside0.mk nRX
 clear nRX
 have HB := Aside0.mk nHB
 clear nHB
 have oFX_ltFS := ltFS
 have oFX_ltFM := ltFM
 have oFX_ltl := ltl
 have oFX_ts := TS
 replace HL := Aside0.mk (Nat.le_trans HL.out (by omega : w2.heap.size ≤ w3.heap.size))
 clear TT TS ltFS ltFM ltb ltl
 refine Calls.mono (hspec _ HB.out) ?_
 rintro e w4 ⟨By, dy, rfl, rRY, bw4⟩
 replace FS := Aside0.mk (below_blk FS.out bw4)
 replace FM := Aside0.mk (below_blk FM.out bw4)
 replace FX := Aside0.mk (below_blk FX.out bw4)
 replace RX := Aside0.mk (Kd.R_below RX.out bw4)
 have RY : Aside0 (Kd.R kItem 55 w4 w1.heap.size (fun _ => True) (.slice By x.f1.length dy) x.f1) := ⟨Kd.R_lower (base' := w1.heap.size) rRY HB.out.size⟩
 clear rRY
 replace HB := Aside0.mk (bel_then HB.out bw4)
 replace HL := Aside0.mk (Nat.le_trans HL.out bw4.size)
 clear bw4
 clear hspec
 unfold AddR at HD
 rcases HD.out with ⟨hs0, hx, rfl⟩ | ⟨hs1, hxs, rfl⟩ | ⟨hs1, hg, hx, rfl⟩
 ·rw [hs0] at hok hks
  clear HD hs0 hms hx
  have zFX := blk_lt FX.out
  have cFX_0 : w4.cell? ⟨w2.heap.size, 0, none⟩ = some (.int .i64 x.f0) := clq FX.out 0 rfl
  have cFX_1 : w4.cell? ⟨w2.heap.size, 1, none⟩ = some (.slice Bx x.f1.length dx) := clq FX.out 1 rfl
  go_wp2_with fail
  generalize hWw5 : World.alloc (w4) _ = w5
  have ltFS := blk_lt FS.out
  have ltFM := blk_lt FM.out
  have ltFX := blk_lt FX.out
  have ltb := HB.out.size
  have ltl := HL.out
  have TT : ∀ k, k < w4.heap.size → w5.heap[k]? = w4.heap[k]? := fun k hk => by rw [← hWw5]; (with_reducible repeat (first | rfl | refine hp_set ?_ ?_ | refine hp_alloc ?_ ?_ | refine hp_drew ?_)); all_goals (first | (with_reducible rfl) | omega | (dsimp only; omega) | (simp; omega))
  have TS : w4.heap.size + 1 ≤ w5.heap.size := by rw [← hWw5]; simp
  have nFS : w5.heap[w1.heap.size]? = some (.cells #[.int .i64 s.f0, .slice B s.f1.length d] 43 (0, 0)) := (TT _ ltFS).trans FS.out
  have nFM : w5.heap[w1.heap.size + 1]? = some (.cells #[.string m.f0.f0, .string m.f0.f1, .slice M0 m.f1.length m0, .slice M1 m.f2.length m1] 33 (0, 0)) := (TT _ ltFM).trans FM.out
  have nFX : w5.heap[w2.heap.size]? = some (.cells #[.int .i64 x.f0, .slice Bx x.f1.length dx] 43 (0, 0)) := (TT _ ltFX).trans FX.out
  have nFW : w5.heap[w4.heap.size]? = some (.cells #[.int .i64 x.f0, .slice By x.f1.length dy] 43 (0, 0)) := by rw [← hWw5]; exact blk_new w4 (.cells #[.int .i64 x.f0, .slice By x.f1.length dy] 43)
  have nRX : Kd.R kItem 55 w5 w1.heap.size (fun _ => True) (.slice Bx x.f1.length dx) x.f1 := Kd.R_mono (Kd.R_step (RX.out) (fun k hk hlt => TT k hlt)) (fun _ hk => hk)
  have nRY : Kd.R kItem 55 w5 w1.heap.size (fun _ => True) (.slice By x.f1.length dy) x.f1 := Kd.R_mono (Kd.R_step (RY.out) (fun k hk hlt => TT k hlt)) (fun _ hk => hk)
  have nHB : Below w1.heap.size w1 w5 := by rw [← hWw5]; exact bel_alloc (HB.out) _
  clear zFX cFX_0 cFX_1
  clear hWw5 FS FM FX HB RX RY
  have FS := Aside0.mk nFS
  clear nFS
  have FM := Aside0.mk nFM
  clear nFM
  have FX := Aside0.mk nFX
  clear nFX
  have FW := Aside0.mk nFW
  clear nFW
  have RX := Aside0.mk nRX
  clear nRX
  have RY := Aside0.mk nRY
  clear nRY
  have HB := Aside0.mk nHB
  clear nHB
  have oFW_ltFS := ltFS
  have oFW_ltFM := ltFM
  have oFW_ltFX := ltFX
  have oFW_ltl := ltl
  have oFW_ts := TS
  replace HL := Aside0.mk (Nat.le_trans HL.out (by omega : w4.heap.size ≤ w5.heap.size))
  clear TT TS ltFS ltFM ltFX ltb ltl
  have HS121 : Aside0 (∀ W : World, (W.heap[w2.heap.size]? = some (.cells #[.int .i64 x.f0, .slice Bx x.f1.length dx] 43 (0, 0)) ∧ W.heap[w4.heap.size]? = some (.cells #[.int .i64 x.f0, .slice By x.f1.length dy] 43 (0, 0)) ∧ W.heap[w1.heap.size]? = some (.cells #[.int .i64 s.f0, .slice B s.f1.length d] 43 (0, 0))) → W.cell? ⟨w2.heap.size, 0, none⟩ = some (.int .i64 x.f0) ∧ W.cell? ⟨w2.heap.size, 1, none⟩ = some (.slice Bx x.f1.length dx) ∧ W.cell? ⟨w4.heap.size, 0, none⟩ = some (.int .i64 x.f0) ∧ W.cell? ⟨w4.heap.size, 1, none⟩ = some (.slice By x.f1.length dy) ∧ W.cell? ⟨w1.heap.size, 0, none⟩ = some (.int .i64 s.f0) ∧ W.cell? ⟨w1.heap.size, 1, none⟩ = some (.slice B s.f1.length d)) := ⟨fun W h => ⟨(by have h_ := h.1; simp [World.cell?, h_]), (by have h_ := h.1; simp [World.cell?, h_]), (by have h_ := h.2.1; simp [World.cell?, h_]), (by have h_ := h.2.1; simp [World.cell?, h_]), (by have h_ := h.2.2; simp [World.cell?, h_]), (by have h_ := h.2.2; simp [World.cell?, h_])⟩⟩
  refine wp_region_held_drew (S := fun (W : World) => W.heap[w2.heap.size]? = some (.cells #[.int .i64 x.f0, .slice Bx x.f1.length dx] 43 (0, 0)) ∧ W.heap[w4.heap.size]? = some (.cells #[.int .i64 x.f0, .slice By x.f1.length dy] 43 (0, 0)) ∧ W.heap[w1.heap.size]? = some (.cells #[.int .i64 s.f0, .slice B s.f1.length d] 43 (0, 0))) (by kernel_rfl) ?s122 (fun hHeld => ?t122)
  case s122 => exact (show (fun (W : World) => W.heap[w2.heap.size]? = some (.cells #[.int .i64 x.f0, .slice Bx x.f1.length dx] 43 (0, 0)) ∧ W.heap[w4.heap.size]? = some (.cells #[.int .i64 x.f0, .slice By x.f1.length dy] 43 (0, 0)) ∧ W.heap[w1.heap.size]? = some (.cells #[.int .i64 s.f0, .slice B s.f1.length d] 43 (0, 0))) (World.drew w5) from ⟨FX.out, FW.out, FS.out⟩)
  generalize hWVs : World.drew (w5) = Vs at hHeld ⊢
  have ltFS := blk_lt FS.out
  have ltFM := blk_lt FM.out
  have ltFX := blk_lt FX.out
  have ltFW := blk_lt FW.out
  have ltb := HB.out.size
  have ltl := HL.out
  have TT : ∀ k, k < w5.heap.size → Vs.heap[k]? = w5.heap[k]? := fun k hk => by rw [← hWVs]; (with_reducible repeat (first | rfl | refine hp_set ?_ ?_ | refine hp_alloc ?_ ?_ | refine hp_drew ?_)); all_goals (first | (with_reducible rfl) | omega | (dsimp only; omega) | (simp; omega))
  have TS : w5.heap.size + 0 ≤ Vs.heap.size := by rw [← hWVs]; simp
  have nFS : Vs.heap[w1.heap.size]? = some (.cells #[.int .i64 s.f0, .slice B s.f1.length d] 43 (0, 0)) := (TT _ ltFS).trans FS.out
  have nFM : Vs.heap[w1.heap.size + 1]? = some (.cells #[.string m.f0.f0, .string m.f0.f1, .slice M0 m.f1.length m0, .slice M1 m.f2.length m1] 33 (0, 0)) := (TT _ ltFM).trans FM.out
  have nFX : Vs.heap[w2.heap.size]? = some (.cells #[.int .i64 x.f0, .slice Bx x.f1.length dx] 43 (0, 0)) := (TT _ ltFX).trans FX.out
  have nFW : Vs.heap[w4.heap.size]? = some (.cells #[.int .i64 x.f0, .slice By x.f1.length dy] 43 (0, 0)) := (TT _ ltFW).trans FW.out
  have nRX : Kd.R kItem 55 Vs w1.heap.size (fun _ => True) (.slice Bx x.f1.length dx) x.f1 := Kd.R_mono (Kd.R_step (RX.out) (fun k hk hlt => TT k hlt)) (fun _ hk => hk)
  have nRY : Kd.R kItem 55 Vs w1.heap.size (fun _ => True) (.slice By x.f1.length dy) x.f1 := Kd.R_mono (Kd.R_step (RY.out) (fun k hk hlt => TT k hlt)) (fun _ hk => hk)
  have nHB : Below w1.heap.size w1 Vs := by rw [← hWVs]; exact bel_then (HB.out) (drew_below0 _)
  clear hWVs FS FM FX FW HB RX RY
  have FS := Aside0.mk nFS
  clear nFS
  have FM := Aside0.mk nFM
  clear nFM
  have FX := Aside0.mk nFX
  clear nFX
  have FW := Aside0.mk nFW
  clear nFW
  have RX := Aside0.mk nRX
  clear nRX
  have RY := Aside0.mk nRY
  clear nRY
  have HB := Aside0.mk nHB
  clear nHB
  replace HL := Aside0.mk (Nat.le_trans HL.out (by omega : w5.heap.size ≤ Vs.heap.size))
  clear TT TS ltFS ltFM ltFX ltFW ltb ltl
  refine tk 0 ?v123 ?y123 ?r123
  case y123 => intro w_ hSw; (try dsimp only at hSw); clear hSw; go_simp; (try (with_reducible rfl))
  try simp only [Act.put, List.setIfInBounds_toArray, List.set_cons_zero, List.set_cons_succ]
  refine tk 1 ?v124 ?y124 ?r124
  case y124 => intro w_ hSw; (try dsimp only at hSw); clear hSw; go_simp; (try (with_reducible rfl))
  try simp only [Act.put, List.setIfInBounds_toArray, List.set_cons_zero, List.set_cons_succ]
  refine tk 2 ?v125 ?y125 ?r125
  case y125 => intro w_ hSw; (try dsimp only at hSw); clear hSw; go_simp; (try (with_reducible rfl))
  try simp only [Act.put, List.setIfInBounds_toArray, List.set_cons_zero, List.set_cons_succ]
  refine tk 3 ?v126 ?y126 ?r126
  case y126 => intro w_ hSw; (try dsimp only at hSw); clear hSw; go_simp; (try (with_reducible rfl))
  try simp only [Act.put, List.setIfInBounds_toArray, List.set_cons_zero, List.set_cons_succ]
  refine tk 4 ?v127 ?y127 ?r127
  case y127 => intro w_ hSw; obtain ⟨e_0, e_1, e_2, e_3, e_4, e_5⟩ := HS121.out w_ hSw; clear hSw; go_simp; (try (with_reducible rfl))
  try simp only [Act.put, List.setIfInBounds_toArray, List.set_cons_zero, List.set_cons_succ]
  refine tk 5 ?v128 ?y128 ?r128
  case y128 => intro w_ hSw; obtain ⟨e_0, e_1, e_2, e_3, e_4, e_5⟩ := HS121.out w_ hSw; clear hSw; go_simp; (try (with_reducible rfl))
  try simp only [Act.put, List.setIfInBounds_toArray, List.set_cons_zero, List.set_cons_succ]
  refine rdy (rs := [6]) ?_
  refine rc (fun K hK => ?k129) AllReadyH.nil
  case k129 =>
   go_simp
   refine Calls.mono (saSpool_any x Bx dx By dy _ HFX.out (Kd.R_reads' RX.out).2.2 (Kd.R_reads' RY.out).2.2) ?_
   rintro e V6 ⟨rfl, bV6⟩
   replace FS := Aside0.mk (below_blk FS.out bV6)
   replace FM := Aside0.mk (below_blk FM.out bV6)
   replace FX := Aside0.mk (below_blk FX.out bV6)
   replace FW := Aside0.mk (below_blk FW.out bV6)
   replace RX := Aside0.mk (Kd.R_below RX.out bV6)
   replace RY := Aside0.mk (Kd.R_below RY.out bV6)
   replace HB := Aside0.mk (bel_then HB.out bV6)
   replace HL := Aside0.mk (Nat.le_trans HL.out bV6.size)
   clear bV6
   refine hK.out _ _ ?h130 (fun hHeld => ?j130)
   case h130 => exact ⟨FX.out, FW.out, FS.out⟩
   clear hK K
   try simp only [Act.put, List.setIfInBounds_toArray, List.set_cons_zero, List.set_cons_succ]
   refine tk 7 ?v131 ?y131 ?r131
   case y131 => intro w_ hSw; (try dsimp only at hSw); clear hSw; go_simp; (try (with_reducible rfl))
   try simp only [Act.put, List.setIfInBounds_toArray, List.set_cons_zero, List.set_cons_succ]
   refine tk 8 ?v132 ?y132 ?r132
   case y132 => intro w_ hSw; (try dsimp only at hSw); clear hSw; go_simp; (try (with_reducible rfl))
   try simp only [Act.put, List.setIfInBounds_toArray, List.set_cons_zero, List.set_cons_succ]
   refine tk 9 ?v133 ?y133 ?r133
   case y133 => intro w_ hSw; (try dsimp only at hSw); clear hSw; go_simp; (try (with_reducible rfl))
   try simp only [Act.put, List.setIfInBounds_toArray, List.set_cons_zero, List.set_cons_succ]
   refine tk 10 ?v134 ?y134 ?r134
   case y134 => intro w_ hSw; obtain ⟨e_0, e_1, e_2, e_3, e_4, e_5⟩ := HS121.out w_ hSw; clear hSw; go_simp; (try (with_reducible rfl))
   try simp only [Act.put, List.setIfInBounds_toArray, List.set_cons_zero, List.set_cons_succ]
   refine tk 12 ?v135 ?y135 ?r135
   case y135 => intro w_ hSw; obtain ⟨e_0, e_1, e_2, e_3, e_4, e_5⟩ := HS121.out w_ hSw; clear hSw; go_simp; (try (with_reducible rfl))
   try simp only [Act.put, List.setIfInBounds_toArray, List.set_cons_zero, List.set_cons_succ]
   refine rdy (rs := [11]) ?_
   refine rc (fun K hK => ?k136) AllReadyH.nil
   case k136 =>
    go_simp
    refine Calls.mono (hok _ HB.out) ?_
    rintro e V11 ⟨rfl, bV11⟩
    replace FS := Aside0.mk (below_blk FS.out bV11)
    replace FM := Aside0.mk (below_blk FM.out bV11)
    replace FX := Aside0.mk (below_blk FX.out bV11)
    replace FW := Aside0.mk (below_blk FW.out bV11)
    replace RX := Aside0.mk (Kd.R_below RX.out bV11)
    replace RY := Aside0.mk (Kd.R_below RY.out bV11)
    replace HB := Aside0.mk (bel_then HB.out bV11)
    replace HL := Aside0.mk (Nat.le_trans HL.out bV11.size)
    clear bV11
    refine hK.out _ _ ?h137 (fun hHeld => ?j137)
    case h137 => exact ⟨FX.out, FW.out, FS.out⟩
    clear hK K
    try simp only [Act.put, List.setIfInBounds_toArray, List.set_cons_zero, List.set_cons_succ]
    refine rdy (rs := [13]) ?_
    refine rc (fun K hK => ?k138) AllReadyH.nil
    case k138 =>
     go_simp
     refine Calls.mono (hks _ HB.out) ?_
     rintro e V13 ⟨rfl, bV13⟩
     replace FS := Aside0.mk (below_blk FS.out bV13)
     replace FM := Aside0.mk (below_blk FM.out bV13)
     replace FX := Aside0.mk (below_blk FX.out bV13)
     replace FW := Aside0.mk (below_blk FW.out bV13)
     replace RX := Aside0.mk (Kd.R_below RX.out bV13)
     replace RY := Aside0.mk (Kd.R_below RY.out bV13)
     replace HB := Aside0.mk (bel_then HB.out bV13)
     replace HL := Aside0.mk (Nat.le_trans HL.out bV13.size)
     clear bV13
     refine hK.out _ _ ?h139 (fun hHeld => ?j139)
     case h139 => exact ⟨FX.out, FW.out, FS.out⟩
     clear hK K
     try simp only [Act.put, List.setIfInBounds_toArray, List.set_cons_zero, List.set_cons_succ]
     refine tk 14 ?v140 ?y140 ?r140
     case y140 => intro w_ hSw; (try dsimp only at hSw); clear hSw; go_simp; (try (with_reducible rfl))
     try simp only [Act.put, List.setIfInBounds_toArray, List.set_cons_zero, List.set_cons_succ]
     refine tk 15 ?v141 ?y141 ?r141
     case y141 => intro w_ hSw; (try dsimp only at hSw); clear hSw; go_simp; (try (with_reducible rfl))
     try simp only [Act.put, List.setIfInBounds_toArray, List.set_cons_zero, List.set_cons_succ]
     refine tk 16 ?v142 ?y142 ?r142
     case y142 => intro w_ hSw; (try dsimp only at hSw); clear hSw; go_simp; (try (with_reducible rfl))
     try simp only [Act.put, List.setIfInBounds_toArray, List.set_cons_zero, List.set_cons_succ]
     refine tk 17 ?v143 ?y143 ?r143
     case y143 => intro w_ hSw; obtain ⟨e_0, e_1, e_2, e_3, e_4, e_5⟩ := HS121.out w_ hSw; clear hSw; go_simp; (try (with_reducible rfl))
     try simp only [Act.put, List.setIfInBounds_toArray, List.set_cons_zero, List.set_cons_succ]
     refine rdy (rs := [18]) ?_
     refine rc (fun K hK => ?k144) AllReadyH.nil
     case k144 =>
      go_simp
      refine Calls.mono (hok _ HB.out) ?_
      rintro e V18 ⟨rfl, bV18⟩
      replace FS := Aside0.mk (below_blk FS.out bV18)
      replace FM := Aside0.mk (below_blk FM.out bV18)
      replace FX := Aside0.mk (below_blk FX.out bV18)
      replace FW := Aside0.mk (below_blk FW.out bV18)
      replace RX := Aside0.mk (Kd.R_below RX.out bV18)
      replace RY := Aside0.mk (Kd.R_below RY.out bV18)
      replace HB := Aside0.mk (bel_then HB.out bV18)
      replace HL := Aside0.mk (Nat.le_trans HL.out bV18.size)
      clear bV18
      refine hK.out _ _ ?h145 (fun hHeld => ?j145)
      case h145 => exact ⟨FX.out, FW.out, FS.out⟩
      clear hK K
      try simp only [Act.put, List.setIfInBounds_toArray, List.set_cons_zero, List.set_cons_succ]
      refine tk 19 ?v146 ?y146 ?r146
      case y146 => intro w_ hSw; (try dsimp only at hSw); clear hSw; go_simp; (try (with_reducible rfl))
      try simp only [Act.put, List.setIfInBounds_toArray, List.set_cons_zero, List.set_cons_succ]
      refine tk 20 ?v147 ?y147 ?r147
      case y147 => intro w_ hSw; (try dsimp only at hSw); clear hSw; go_simp; (try (with_reducible rfl))
      try simp only [Act.put, List.setIfInBounds_toArray, List.set_cons_zero, List.set_cons_succ]
      refine wpAnyH_done (by kernel_rfl) ?_ _
      go_wp2_with fail
      have HS148 : Aside0 (∀ W : World, (W.heap[w2.heap.size]? = some (.cells #[.int .i64 x.f0, .slice Bx x.f1.length dx] 43 (0, 0)) ∧ W.heap[w4.heap.size]? = some (.cells #[.int .i64 x.f0, .slice By x.f1.length dy] 43 (0, 0)) ∧ W.heap[w1.heap.size]? = some (.cells #[.int .i64 s.f0, .slice B s.f1.length d] 43 (0, 0))) → W.cell? ⟨w2.heap.size, 0, none⟩ = some (.int .i64 x.f0) ∧ W.cell? ⟨w2.heap.size, 1, none⟩ = some (.slice Bx x.f1.length dx) ∧ W.cell? ⟨w4.heap.size, 0, none⟩ = some (.int .i64 x.f0) ∧ W.cell? ⟨w4.heap.size, 1, none⟩ = some (.slice By x.f1.length dy) ∧ W.cell? ⟨w1.heap.size, 0, none⟩ = some (.int .i64 s.f0) ∧ W.cell? ⟨w1.heap.size, 1, none⟩ = some (.slice B s.f1.length d)) := ⟨fun W h => ⟨(by have h_ := h.1; simp [World.cell?, h_]), (by have h_ := h.1; simp [World.cell?, h_]), (by have h_ := h.2.1; simp [World.cell?, h_]), (by have h_ := h.2.1; simp [World.cell?, h_]), (by have h_ := h.2.2; simp [World.cell?, h_]), (by have h_ := h.2.2; simp [World.cell?, h_])⟩⟩
      refine wp_region_held_drew (S := fun (W : World) => W.heap[w2.heap.size]? = some (.cells #[.int .i64 x.f0, .slice Bx x.f1.length dx] 43 (0, 0)) ∧ W.heap[w4.heap.size]? = some (.cells #[.int .i64 x.f0, .slice By x.f1.length dy] 43 (0, 0)) ∧ W.heap[w1.heap.size]? = some (.cells #[.int .i64 s.f0, .slice B s.f1.length d] 43 (0, 0))) (by kernel_rfl) ?s149 (fun hHeld => ?t149)
      case s149 => exact (show (fun (W : World) => W.heap[w2.heap.size]? = some (.cells #[.int .i64 x.f0, .slice Bx x.f1.length dx] 43 (0, 0)) ∧ W.heap[w4.heap.size]? = some (.cells #[.int .i64 x.f0, .slice By x.f1.length dy] 43 (0, 0)) ∧ W.heap[w1.heap.size]? = some (.cells #[.int .i64 s.f0, .slice B s.f1.length d] 43 (0, 0))) (World.drew V18) from ⟨FX.out, FW.out, FS.out⟩)
      generalize hWVt : World.drew (V18) = Vt at hHeld ⊢
      have ltFS := blk_lt FS.out
      have ltFM := blk_lt FM.out
      have ltFX := blk_lt FX.out
      have ltFW := blk_lt FW.out
      have ltb := HB.out.size
      have ltl := HL.out
      have TT : ∀ k, k < V18.heap.size → Vt.heap[k]? = V18.heap[k]? := fun k hk => by rw [← hWVt]; (with_reducible repeat (first | rfl | refine hp_set ?_ ?_ | refine hp_alloc ?_ ?_ | refine hp_drew ?_)); all_goals (first | (with_reducible rfl) | omega | (dsimp only; omega) | (simp; omega))
      have TS : V18.heap.size + 0 ≤ Vt.heap.size := by rw [← hWVt]; simp
      have nFS : Vt.heap[w1.heap.size]? = some (.cells #[.int .i64 s.f0, .slice B s.f1.length d] 43 (0, 0)) := (TT _ ltFS).trans FS.out
      have nFM : Vt.heap[w1.heap.size + 1]? = some (.cells #[.string m.f0.f0, .string m.f0.f1, .slice M0 m.f1.length m0, .slice M1 m.f2.length m1] 33 (0, 0)) := (TT _ ltFM).trans FM.out
      have nFX : Vt.heap[w2.heap.size]? = some (.cells #[.int .i64 x.f0, .slice Bx x.f1.length dx] 43 (0, 0)) := (TT _ ltFX).trans FX.out
      have nFW : Vt.heap[w4.heap.size]? = some (.cells #[.int .i64 x.f0, .slice By x.f1.length dy] 43 (0, 0)) := (TT _ ltFW).trans FW.out
      have nRX : Kd.R kItem 55 Vt w1.heap.size (fun _ => True) (.slice Bx x.f1.length dx) x.f1 := Kd.R_mono (Kd.R_step (RX.out) (fun k hk hlt => TT k hlt)) (fun _ hk => hk)
      have nRY : Kd.R kItem 55 Vt w1.heap.size (fun _ => True) (.slice By x.f1.length dy) x.f1 := Kd.R_mono (Kd.R_step (RY.out) (fun k hk hlt => TT k hlt)) (fun _ hk => hk)
      have nHB : Below w1.heap.size w1 Vt := by rw [← hWVt]; exact bel_then (HB.out) (drew_below0 _)
      clear hWVt FS FM FX FW HB RX RY
      have FS := Aside0.mk nFS
      clear nFS
      have FM := Aside0.mk nFM
      clear nFM
      have FX := Aside0.mk nFX
      clear nFX
      have FW := Aside0.mk nFW
      clear nFW
      have RX := Aside0.mk nRX
      clear nRX
      have RY := Aside0.mk nRY
      clear nRY
      have HB := Aside0.mk nHB
      clear nHB
      replace HL := Aside0.mk (Nat.le_trans HL.out (by omega : V18.heap.size ≤ Vt.heap.size))
      clear TT TS ltFS ltFM ltFX ltFW ltb ltl
      refine tk 0 ?v150 ?y150 ?r150
      case y150 => intro w_ hSw; (try dsimp only at hSw); clear hSw; go_simp; (try (with_reducible rfl))
      try simp only [Act.put, List.setIfInBounds_toArray, List.set_cons_zero, List.set_cons_succ]
      refine tk 1 ?v151 ?y151 ?r151
      case y151 => intro w_ hSw; (try dsimp only at hSw); clear hSw; go_simp; (try (with_reducible rfl))
      try simp only [Act.put, List.setIfInBounds_toArray, List.set_cons_zero, List.set_cons_succ]
      refine tk 2 ?v152 ?y152 ?r152
      case y152 => intro w_ hSw; (try dsimp only at hSw); clear hSw; go_simp; (try (with_reducible rfl))
      try simp only [Act.put, List.setIfInBounds_toArray, List.set_cons_zero, List.set_cons_succ]
      refine tk 3 ?v153 ?y153 ?r153
      case y153 => intro w_ hSw; (try dsimp only at hSw); clear hSw; go_simp; (try (with_reducible rfl))
      try simp only [Act.put, List.setIfInBounds_toArray, List.set_cons_zero, List.set_cons_succ]
      refine tk 4 ?v154 ?y154 ?r154
      case y154 => intro w_ hSw; obtain ⟨e_0, e_1, e_2, e_3, e_4, e_5⟩ := HS148.out w_ hSw; clear hSw; go_simp; (try (with_reducible rfl))
      try simp only [Act.put, List.setIfInBounds_toArray, List.set_cons_zero, List.set_cons_succ]
      refine tk 5 ?v155 ?y155 ?r155
      case y155 => intro w_ hSw; obtain ⟨e_0, e_1, e_2, e_3, e_4, e_5⟩ := HS148.out w_ hSw; clear hSw; go_simp; (try (with_reducible rfl))
      try simp only [Act.put, List.setIfInBounds_toArray, List.set_cons_zero, List.set_cons_succ]
      refine rdy (rs := [6]) ?_
      refine rc (fun K hK => ?k156) AllReadyH.nil
      case k156 =>
       go_simp
       refine Calls.mono (saSpool_any x Bx dx By dy _ HFX.out (Kd.R_reads' RX.out).2.2 (Kd.R_reads' RY.out).2.2) ?_
       rintro e V6 ⟨rfl, bV6⟩
       replace FS := Aside0.mk (below_blk FS.out bV6)
       replace FM := Aside0.mk (below_blk FM.out bV6)
       replace FX := Aside0.mk (below_blk FX.out bV6)
       replace FW := Aside0.mk (below_blk FW.out bV6)
       replace RX := Aside0.mk (Kd.R_below RX.out bV6)
       replace RY := Aside0.mk (Kd.R_below RY.out bV6)
       replace HB := Aside0.mk (bel_then HB.out bV6)
       replace HL := Aside0.mk (Nat.le_trans HL.out bV6.size)
       clear bV6
       refine hK.out _ _ ?h157 (fun hHeld => ?j157)
       case h157 => exact ⟨FX.out, FW.out, FS.out⟩
       clear hK K
       try simp only [Act.put, List.setIfInBounds_toArray, List.set_cons_zero, List.set_cons_succ]
       refine tk 7 ?v158 ?y158 ?r158
       case y158 => intro w_ hSw; (try dsimp only at hSw); clear hSw; go_simp; (try (with_reducible rfl))
       try simp only [Act.put, List.setIfInBounds_toArray, List.set_cons_zero, List.set_cons_succ]
       refine tk 8 ?v159 ?y159 ?r159
       case y159 => intro w_ hSw; (try dsimp only at hSw); clear hSw; go_simp; (try (with_reducible rfl))
       try simp only [Act.put, List.setIfInBounds_toArray, List.set_cons_zero, List.set_cons_succ]
       refine tk 9 ?v160 ?y160 ?r160
       case y160 => intro w_ hSw; obtain ⟨e_0, e_1, e_2, e_3, e_4, e_5⟩ := HS148.out w_ hSw; clear hSw; go_simp; (try (with_reducible rfl))
       try simp only [Act.put, List.setIfInBounds_toArray, List.set_cons_zero, List.set_cons_succ]
       refine tk 11 ?v161 ?y161 ?r161
       case y161 => intro w_ hSw; obtain ⟨e_0, e_1, e_2, e_3, e_4, e_5⟩ := HS148.out w_ hSw; clear hSw; go_simp; (try (with_reducible rfl))
       try simp only [Act.put, List.setIfInBounds_toArray, List.set_cons_zero, List.set_cons_succ]
       refine rdy (rs := [10]) ?_
       refine rc (fun K hK => ?k162) AllReadyH.nil
       case k162 =>
        go_simp
        refine Calls.mono (hok _ HB.out) ?_
        rintro e V10 ⟨rfl, bV10⟩
        replace FS := Aside0.mk (below_blk FS.out bV10)
        replace FM := Aside0.mk (below_blk FM.out bV10)
        replace FX := Aside0.mk (below_blk FX.out bV10)
        replace FW := Aside0.mk (below_blk FW.out bV10)
        replace RX := Aside0.mk (Kd.R_below RX.out bV10)
        replace RY := Aside0.mk (Kd.R_below RY.out bV10)
        replace HB := Aside0.mk (bel_then HB.out bV10)
        replace HL := Aside0.mk (Nat.le_trans HL.out bV10.size)
        clear bV10
        refine hK.out _ _ ?h163 (fun hHeld => ?j163)
        case h163 => exact ⟨FX.out, FW.out, FS.out⟩
        clear hK K
        try simp only [Act.put, List.setIfInBounds_toArray, List.set_cons_zero, List.set_cons_succ]
        refine rdy (rs := [12]) ?_
        refine rc (fun K hK => ?k164) AllReadyH.nil
        case k164 =>
         go_simp
         refine Calls.mono (hks _ HB.out) ?_
         rintro e V12 ⟨rfl, bV12⟩
         replace FS := Aside0.mk (below_blk FS.out bV12)
         replace FM := Aside0.mk (below_blk FM.out bV12)
         replace FX := Aside0.mk (below_blk FX.out bV12)
         replace FW := Aside0.mk (below_blk FW.out bV12)
         replace RX := Aside0.mk (Kd.R_below RX.out bV12)
         replace RY := Aside0.mk (Kd.R_below RY.out bV12)
         replace HB := Aside0.mk (bel_then HB.out bV12)
         replace HL := Aside0.mk (Nat.le_trans HL.out bV12.size)
         clear bV12
         refine hK.out _ _ ?h165 (fun hHeld => ?j165)
         case h165 => exact ⟨FX.out, FW.out, FS.out⟩
         clear hK K
         try simp only [Act.put, List.setIfInBounds_toArray, List.set_cons_zero, List.set_cons_succ]
         refine tk 13 ?v166 ?y166 ?r166
         case y166 => intro w_ hSw; (try dsimp only at hSw); clear hSw; go_simp; (try (with_reducible rfl))
         try simp only [Act.put, List.setIfInBounds_toArray, List.set_cons_zero, List.set_cons_succ]
         refine tk 14 ?v167 ?y167 ?r167
         case y167 => intro w_ hSw; (try dsimp only at hSw); clear hSw; go_simp; (try (with_reducible rfl))
         try simp only [Act.put, List.setIfInBounds_toArray, List.set_cons_zero, List.set_cons_succ]
         refine tk 15 ?v168 ?y168 ?r168
         case y168 => intro w_ hSw; (try dsimp only at hSw); clear hSw; go_simp; (try (with_reducible rfl))
         try simp only [Act.put, List.setIfInBounds_toArray, List.set_cons_zero, List.set_cons_succ]
         refine wpAnyH_done (by kernel_rfl) ?_ _
         go_wp2
         go_ret
         exact ⟨rfl, BW.out.trans (HB.out.mono SZ.out)⟩
 ·have HXS := Lib.hid hxs
  rw [hs1] at hok hks
  clear hxs hs1 hms
  have zFX := blk_lt FX.out
  have cFX_0 : w4.cell? ⟨w2.heap.size, 0, none⟩ = some (.int .i64 x.f0) := clq FX.out 0 rfl
  have cFX_1 : w4.cell? ⟨w2.heap.size, 1, none⟩ = some (.slice Bx x.f1.length dx) := clq FX.out 1 rfl
  go_wp2_with fail
  generalize hWw5 : World.alloc (w4) _ = w5
  have ltFS := blk_lt FS.out
  have ltFM := blk_lt FM.out
  have ltFX := blk_lt FX.out
  have ltb := HB.out.size
  have ltl := HL.out
  have TT : ∀ k, k < w4.heap.size → w5.heap[k]? = w4.heap[k]? := fun k hk => by rw [← hWw5]; (with_reducible repeat (first | rfl | refine hp_set ?_ ?_ | refine hp_alloc ?_ ?_ | refine hp_drew ?_)); all_goals (first | (with_reducible rfl) | omega | (dsimp only; omega) | (simp; omega))
  have TS : w4.heap.size + 1 ≤ w5.heap.size := by rw [← hWw5]; simp
  have nFS : w5.heap[w1.heap.size]? = some (.cells #[.int .i64 s.f0, .slice B s.f1.length d] 43 (0, 0)) := (TT _ ltFS).trans FS.out
  have nFM : w5.heap[w1.heap.size + 1]? = some (.cells #[.string m.f0.f0, .string m.f0.f1, .slice M0 m.f1.length m0, .slice M1 m.f2.length m1] 33 (0, 0)) := (TT _ ltFM).trans FM.out
  have nFX : w5.heap[w2.heap.size]? = some (.cells #[.int .i64 x.f0, .slice Bx x.f1.length dx] 43 (0, 0)) := (TT _ ltFX).trans FX.out
  have nFW : w5.heap[w4.heap.size]? = some (.cells #[.int .i64 x.f0, .slice By x.f1.length dy] 43 (0, 0)) := by rw [← hWw5]; exact blk_new w4 (.cells #[.int .i64 x.f0, .slice By x.f1.length dy] 43)
  have nRX : Kd.R kItem 55 w5 w1.heap.size (fun _ => True) (.slice Bx x.f1.length dx) x.f1 := Kd.R_mono (Kd.R_step (RX.out) (fun k hk hlt => TT k hlt)) (fun _ hk => hk)
  have nRY : Kd.R kItem 55 w5 w1.heap.size (fun _ => True) (.slice By x.f1.length dy) x.f1 := Kd.R_mono (Kd.R_step (RY.out) (fun k hk hlt => TT k hlt)) (fun _ hk => hk)
  have nHB : Below w1.heap.size w1 w5 := by rw [← hWw5]; exact bel_alloc (HB.out) _
  clear zFX cFX_0 cFX_1
  clear hWw5 FS FM FX HB RX RY
  have FS := Aside0.mk nFS
  clear nFS
  have FM := Aside0.mk nFM
  clear nFM
  have FX := Aside0.mk nFX
  clear nFX
  have FW := Aside0.mk nFW
  clear nFW
  have RX := Aside0.mk nRX
  clear nRX
  have RY := Aside0.mk nRY
  clear nRY
  have HB := Aside0.mk nHB
  clear nHB
  have oFW_ltFS := ltFS
  have oFW_ltFM := ltFM
  have oFW_ltFX := ltFX
  have oFW_ltl := ltl
  have oFW_ts := TS
  replace HL := Aside0.mk (Nat.le_trans HL.out (by omega : w4.heap.size ≤ w5.heap.size))
  clear TT TS ltFS ltFM ltFX ltb ltl
  have HS169 : Aside0 (∀ W : World, (W.heap[w2.heap.size]? = some (.cells #[.int .i64 x.f0, .slice Bx x.f1.length dx] 43 (0, 0)) ∧ W.heap[w4.heap.size]? = some (.cells #[.int .i64 x.f0, .slice By x.f1.length dy] 43 (0, 0)) ∧ W.heap[w1.heap.size]? = some (.cells #[.int .i64 s.f0, .slice B s.f1.length d] 43 (0, 0))) → W.cell? ⟨w2.heap.size, 0, none⟩ = some (.int .i64 x.f0) ∧ W.cell? ⟨w2.heap.size, 1, none⟩ = some (.slice Bx x.f1.length dx) ∧ W.cell? ⟨w4.heap.size, 0, none⟩ = some (.int .i64 x.f0) ∧ W.cell? ⟨w4.heap.size, 1, none⟩ = some (.slice By x.f1.length dy) ∧ W.cell? ⟨w1.heap.size, 0, none⟩ = some (.int .i64 s.f0) ∧ W.cell? ⟨w1.heap.size, 1, none⟩ = some (.slice B s.f1.length d)) := ⟨fun W h => ⟨(by have h_ := h.1; simp [World.cell?, h_]), (by have h_ := h.1; simp [World.cell?, h_]), (by have h_ := h.2.1; simp [World.cell?, h_]), (by have h_ := h.2.1; simp [World.cell?, h_]), (by have h_ := h.2.2; simp [World.cell?, h_]), (by have h_ := h.2.2; simp [World.cell?, h_])⟩⟩
  refine wp_region_held_drew (S := fun (W : World) => W.heap[w2.heap.size]? = some (.cells #[.int .i64 x.f0, .slice Bx x.f1.length dx] 43 (0, 0)) ∧ W.heap[w4.heap.size]? = some (.cells #[.int .i64 x.f0, .slice By x.f1.length dy] 43 (0, 0)) ∧ W.heap[w1.heap.size]? = some (.cells #[.int .i64 s.f0, .slice B s.f1.length d] 43 (0, 0))) (by kernel_rfl) ?s170 (fun hHeld => ?t170)
  case s170 => exact (show (fun (W : World) => W.heap[w2.heap.size]? = some (.cells #[.int .i64 x.f0, .slice Bx x.f1.length dx] 43 (0, 0)) ∧ W.heap[w4.heap.size]? = some (.cells #[.int .i64 x.f0, .slice By x.f1.length dy] 43 (0, 0)) ∧ W.heap[w1.heap.size]? = some (.cells #[.int .i64 s.f0, .slice B s.f1.length d] 43 (0, 0))) (World.drew w5) from ⟨FX.out, FW.out, FS.out⟩)
  generalize hWVs : World.drew (w5) = Vs at hHeld ⊢
  have ltFS := blk_lt FS.out
  have ltFM := blk_lt FM.out
  have ltFX := blk_lt FX.out
  have ltFW := blk_lt FW.out
  have ltb := HB.out.size
  have ltl := HL.out
  have TT : ∀ k, k < w5.heap.size → Vs.heap[k]? = w5.heap[k]? := fun k hk => by rw [← hWVs]; (with_reducible repeat (first | rfl | refine hp_set ?_ ?_ | refine hp_alloc ?_ ?_ | refine hp_drew ?_)); all_goals (first | (with_reducible rfl) | omega | (dsimp only; omega) | (simp; omega))
  have TS : w5.heap.size + 0 ≤ Vs.heap.size := by rw [← hWVs]; simp
  have nFS : Vs.heap[w1.heap.size]? = some (.cells #[.int .i64 s.f0, .slice B s.f1.length d] 43 (0, 0)) := (TT _ ltFS).trans FS.out
  have nFM : Vs.heap[w1.heap.size + 1]? = some (.cells #[.string m.f0.f0, .string m.f0.f1, .slice M0 m.f1.length m0, .slice M1 m.f2.length m1] 33 (0, 0)) := (TT _ ltFM).trans FM.out
  have nFX : Vs.heap[w2.heap.size]? = some (.cells #[.int .i64 x.f0, .slice Bx x.f1.length dx] 43 (0, 0)) := (TT _ ltFX).trans FX.out
  have nFW : Vs.heap[w4.heap.size]? = some (.cells #[.int .i64 x.f0, .slice By x.f1.length dy] 43 (0, 0)) := (TT _ ltFW).trans FW.out
  have nRX : Kd.R kItem 55 Vs w1.heap.size (fun _ => True) (.slice Bx x.f1.length dx) x.f1 := Kd.R_mono (Kd.R_step (RX.out) (fun k hk hlt => TT k hlt)) (fun _ hk => hk)
  have nRY : Kd.R kItem 55 Vs w1.heap.size (fun _ => True) (.slice By x.f1.length dy) x.f1 := Kd.R_mono (Kd.R_step (RY.out) (fun k hk hlt => TT k hlt)) (fun _ hk => hk)
  have nHB : Below w1.heap.size w1 Vs := by rw [← hWVs]; exact bel_then (HB.out) (drew_below0 _)
  clear hWVs FS FM FX FW HB RX RY
  have FS := Aside0.mk nFS
  clear nFS
  have FM := Aside0.mk nFM
  clear nFM
  have FX := Aside0.mk nFX
  clear nFX
  have FW := Aside0.mk nFW
  clear nFW
  have RX := Aside0.mk nRX
  clear nRX
  have RY := Aside0.mk nRY
  clear nRY
  have HB := Aside0.mk nHB
  clear nHB
  replace HL := Aside0.mk (Nat.le_trans HL.out (by omega : w5.heap.size ≤ Vs.heap.size))
  clear TT TS ltFS ltFM ltFX ltFW ltb ltl
  refine tk 0 ?v171 ?y171 ?r171
  case y171 => intro w_ hSw; (try dsimp only at hSw); clear hSw; go_simp; (try (with_reducible rfl))
  try simp only [Act.put, List.setIfInBounds_toArray, List.set_cons_zero, List.set_cons_succ]
  refine tk 1 ?v172 ?y172 ?r172
  case y172 => intro w_ hSw; (try dsimp only at hSw); clear hSw; go_simp; (try (with_reducible rfl))
  try simp only [Act.put, List.setIfInBounds_toArray, List.set_cons_zero, List.set_cons_succ]
  refine tk 2 ?v173 ?y173 ?r173
  case y173 => intro w_ hSw; (try dsimp only at hSw); clear hSw; go_simp; (try (with_reducible rfl))
  try simp only [Act.put, List.setIfInBounds_toArray, List.set_cons_zero, List.set_cons_succ]
  refine tk 3 ?v174 ?y174 ?r174
  case y174 => intro w_ hSw; (try dsimp only at hSw); clear hSw; go_simp; (try (with_reducible rfl))
  try simp only [Act.put, List.setIfInBounds_toArray, List.set_cons_zero, List.set_cons_succ]
  refine tk 4 ?v175 ?y175 ?r175
  case y175 => intro w_ hSw; obtain ⟨e_0, e_1, e_2, e_3, e_4, e_5⟩ := HS169.out w_ hSw; clear hSw; go_simp; (try (with_reducible rfl))
  try simp only [Act.put, List.setIfInBounds_toArray, List.set_cons_zero, List.set_cons_succ]
  refine tk 5 ?v176 ?y176 ?r176
  case y176 => intro w_ hSw; obtain ⟨e_0, e_1, e_2, e_3, e_4, e_5⟩ := HS169.out w_ hSw; clear hSw; go_simp; (try (with_reducible rfl))
  try simp only [Act.put, List.setIfInBounds_toArray, List.set_cons_zero, List.set_cons_succ]
  refine rdy (rs := [6]) ?_
  refine rc (fun K hK => ?k177) AllReadyH.nil
  case k177 =>
   go_simp
   refine Calls.mono (saSpool_any x Bx dx By dy _ HFX.out (Kd.R_reads' RX.out).2.2 (Kd.R_reads' RY.out).2.2) ?_
   rintro e V6 ⟨rfl, bV6⟩
   replace FS := Aside0.mk (below_blk FS.out bV6)
   replace FM := Aside0.mk (below_blk FM.out bV6)
   replace FX := Aside0.mk (below_blk FX.out bV6)
   replace FW := Aside0.mk (below_blk FW.out bV6)
   replace RX := Aside0.mk (Kd.R_below RX.out bV6)
   replace RY := Aside0.mk (Kd.R_below RY.out bV6)
   replace HB := Aside0.mk (bel_then HB.out bV6)
   replace HL := Aside0.mk (Nat.le_trans HL.out bV6.size)
   clear bV6
   refine hK.out _ _ ?h178 (fun hHeld => ?j178)
   case h178 => exact ⟨FX.out, FW.out, FS.out⟩
   clear hK K
   try simp only [Act.put, List.setIfInBounds_toArray, List.set_cons_zero, List.set_cons_succ]
   refine tk 7 ?v179 ?y179 ?r179
   case y179 => intro w_ hSw; (try dsimp only at hSw); clear hSw; go_simp; (try (with_reducible rfl))
   try simp only [Act.put, List.setIfInBounds_toArray, List.set_cons_zero, List.set_cons_succ]
   refine tk 8 ?v180 ?y180 ?r180
   case y180 => intro w_ hSw; (try dsimp only at hSw); clear hSw; go_simp; (try (with_reducible rfl))
   try simp only [Act.put, List.setIfInBounds_toArray, List.set_cons_zero, List.set_cons_succ]
   refine tk 9 ?v181 ?y181 ?r181
   case y181 => intro w_ hSw; (try dsimp only at hSw); clear hSw; go_simp; (try (with_reducible rfl))
   try simp only [Act.put, List.setIfInBounds_toArray, List.set_cons_zero, List.set_cons_succ]
   refine tk 10 ?v182 ?y182 ?r182
   case y182 => intro w_ hSw; obtain ⟨e_0, e_1, e_2, e_3, e_4, e_5⟩ := HS169.out w_ hSw; clear hSw; go_simp; (try (with_reducible rfl))
   try simp only [Act.put, List.setIfInBounds_toArray, List.set_cons_zero, List.set_cons_succ]
   refine tk 12 ?v183 ?y183 ?r183
   case y183 => intro w_ hSw; obtain ⟨e_0, e_1, e_2, e_3, e_4, e_5⟩ := HS169.out w_ hSw; clear hSw; go_simp; (try (with_reducible rfl))
   try simp only [Act.put, List.setIfInBounds_toArray, List.set_cons_zero, List.set_cons_succ]
   refine rdy (rs := [11]) ?_
   refine rc (fun K hK => ?k184) AllReadyH.nil
   case k184 =>
    go_simp
    refine Calls.mono (hok _ HB.out) ?_
    rintro e V11 ⟨rfl, bV11⟩
    replace FS := Aside0.mk (below_blk FS.out bV11)
    replace FM := Aside0.mk (below_blk FM.out bV11)
    replace FX := Aside0.mk (below_blk FX.out bV11)
    replace FW := Aside0.mk (below_blk FW.out bV11)
    replace RX := Aside0.mk (Kd.R_below RX.out bV11)
    replace RY := Aside0.mk (Kd.R_below RY.out bV11)
    replace HB := Aside0.mk (bel_then HB.out bV11)
    replace HL := Aside0.mk (Nat.le_trans HL.out bV11.size)
    clear bV11
    refine hK.out _ _ ?h185 (fun hHeld => ?j185)
    case h185 => exact ⟨FX.out, FW.out, FS.out⟩
    clear hK K
    try simp only [Act.put, List.setIfInBounds_toArray, List.set_cons_zero, List.set_cons_succ]
    refine rdy (rs := [13]) ?_
    refine rc (fun K hK => ?k186) AllReadyH.nil
    case k186 =>
     go_simp
     refine Calls.mono (hks _ HB.out) ?_
     rintro e V13 ⟨rfl, bV13⟩
     replace FS := Aside0.mk (below_blk FS.out bV13)
     replace FM := Aside0.mk (below_blk FM.out bV13)
     replace FX := Aside0.mk (below_blk FX.out bV13)
     replace FW := Aside0.mk (below_blk FW.out bV13)
     replace RX := Aside0.mk (Kd.R_below RX.out bV13)
     replace RY := Aside0.mk (Kd.R_below RY.out bV13)
     replace HB := Aside0.mk (bel_then HB.out bV13)
     replace HL := Aside0.mk (Nat.le_trans HL.out bV13.size)
     clear bV13
     refine hK.out _ _ ?h187 (fun hHeld => ?j187)
     case h187 => exact ⟨FX.out, FW.out, FS.out⟩
     clear hK K
     try simp only [Act.put, List.setIfInBounds_toArray, List.set_cons_zero, List.set_cons_succ]
     refine tk 14 ?v188 ?y188 ?r188
     case y188 => intro w_ hSw; (try dsimp only at hSw); clear hSw; go_simp; (try (with_reducible rfl))
     try simp only [Act.put, List.setIfInBounds_toArray, List.set_cons_zero, List.set_cons_succ]
     refine tk 15 ?v189 ?y189 ?r189
     case y189 => intro w_ hSw; (try dsimp only at hSw); clear hSw; go_simp; (try (with_reducible rfl))
     try simp only [Act.put, List.setIfInBounds_toArray, List.set_cons_zero, List.set_cons_succ]
     refine tk 16 ?v190 ?y190 ?r190
     case y190 => intro w_ hSw; (try dsimp only at hSw); clear hSw; go_simp; (try (with_reducible rfl))
     try simp only [Act.put, List.setIfInBounds_toArray, List.set_cons_zero, List.set_cons_succ]
     refine tk 17 ?v191 ?y191 ?r191
     case y191 => intro w_ hSw; obtain ⟨e_0, e_1, e_2, e_3, e_4, e_5⟩ := HS169.out w_ hSw; clear hSw; go_simp; (try (with_reducible rfl))
     try simp only [Act.put, List.setIfInBounds_toArray, List.set_cons_zero, List.set_cons_succ]
     refine rdy (rs := [18]) ?_
     refine rc (fun K hK => ?k192) AllReadyH.nil
     case k192 =>
      go_simp
      refine Calls.mono (hok _ HB.out) ?_
      rintro e V18 ⟨rfl, bV18⟩
      replace FS := Aside0.mk (below_blk FS.out bV18)
      replace FM := Aside0.mk (below_blk FM.out bV18)
      replace FX := Aside0.mk (below_blk FX.out bV18)
      replace FW := Aside0.mk (below_blk FW.out bV18)
      replace RX := Aside0.mk (Kd.R_below RX.out bV18)
      replace RY := Aside0.mk (Kd.R_below RY.out bV18)
      replace HB := Aside0.mk (bel_then HB.out bV18)
      replace HL := Aside0.mk (Nat.le_trans HL.out bV18.size)
      clear bV18
      refine hK.out _ _ ?h193 (fun hHeld => ?j193)
      case h193 => exact ⟨FX.out, FW.out, FS.out⟩
      clear hK K
      try simp only [Act.put, List.setIfInBounds_toArray, List.set_cons_zero, List.set_cons_succ]
      refine tk 19 ?v194 ?y194 ?r194
      case y194 => intro w_ hSw; (try dsimp only at hSw); clear hSw; go_simp; (try (with_reducible rfl))
      try simp only [Act.put, List.setIfInBounds_toArray, List.set_cons_zero, List.set_cons_succ]
      refine tk 20 ?v195 ?y195 ?r195
      case y195 => intro w_ hSw; (try dsimp only at hSw); clear hSw; go_simp; (try (with_reducible rfl))
      try simp only [Act.put, List.setIfInBounds_toArray, List.set_cons_zero, List.set_cons_succ]
      refine wpAnyH_done (by kernel_rfl) ?_ _
      have hxs : s = x := HXS.out.symm
      clear HXS hok hks HD
      subst hxs
      have zFX := blk_lt FX.out
      have cFX_0 : V18.cell? ⟨w2.heap.size, 0, none⟩ = some (.int .i64 s.f0) := clq FX.out 0 rfl
      have cFX_1 : V18.cell? ⟨w2.heap.size, 1, none⟩ = some (.slice Bx s.f1.length dx) := clq FX.out 1 rfl
      have zFS := blk_lt FS.out
      have cFS_0 : V18.cell? ⟨w1.heap.size, 0, none⟩ = some (.int .i64 s.f0) := clq FS.out 0 rfl
      have cFS_1 : V18.cell? ⟨w1.heap.size, 1, none⟩ = some (.slice B s.f1.length d) := clq FS.out 1 rfl
      go_wp2_with fail
      refine Calls.mono (saSpool_any s Bx dx B d _ HFX.out (Kd.R_reads' RX.out).2.2 (Kd.C_below C0.out HB.out)) ?_
      rintro e w8 ⟨rfl, bw8⟩
      clear zFX cFX_0 cFX_1 zFS cFS_0 cFS_1
      replace FS := Aside0.mk (below_blk FS.out bw8)
      replace FM := Aside0.mk (below_blk FM.out bw8)
      replace FX := Aside0.mk (below_blk FX.out bw8)
      replace FW := Aside0.mk (below_blk FW.out bw8)
      replace RX := Aside0.mk (Kd.R_below RX.out bw8)
      replace RY := Aside0.mk (Kd.R_below RY.out bw8)
      replace HB := Aside0.mk (bel_then HB.out bw8)
      replace HL := Aside0.mk (Nat.le_trans HL.out bw8.size)
      clear bw8
      go_wp2
      go_ret
      exact ⟨rfl, BW.out.trans (HB.out.mono SZ.out)⟩
 ·have hx0 : x.f0 = s.f0 + 1 := by rw [hx]
  have hx1 : x.f1.length = s.f1.length + 1 := by rw [hx]; simp
  have hokX : spoolOk x = true := by rw [hx]; exact add_ok hs1 hg
  have hmX : spoolMany x = spoolMany s + (m.f1.length : Int) := by rw [hx]; exact add_many hs1 hg
  obtain ⟨D, hD, hDl⟩ : ∃ D : List Int, spoolDue x now = D ++ [s.f0 + 1] ∧ D.length ≤ 10 := by rw [hx]; exact add_due hs1 hg
  have hat : ∀ k, k < s.f1.length → x.f1.getD k zItem = s.f1.getD k zItem := fun k hk => by rw [hx]; exact add_at hk
  have hgp := good_parts hg
  have hmb := many_bd hs1
  have hsb := ((spOk_iff s).1 hs1).2.2.1
  have hokx := fun W (hW : Below w1.heap.size w1 W) (hr : Kd.C kItem W Bx x.f1.length x.f1) => spoolOk_any x Bx dx W HFX.out hr (HG.out.below hW)
  have hmx := fun W (hW : Below w1.heap.size w1 W) (hr : Kd.C kItem W Bx x.f1.length x.f1) => spoolMany_any x Bx dx W HFX.out hr (HG.out.below hW)
  have hdue := fun W (hW : Below w1.heap.size w1 W) (hr : Kd.C kItem W Bx x.f1.length x.f1) => spoolDue_any x now Bx dx W HFX.out hr (HG.out.below hW)
  have hdl : (spoolDue x now).length = D.length + 1 := by rw [hD, List.length_append]; rfl
  have hdn : (spoolDue x now).getD D.length 0 = s.f0 + 1 := by rw [hD, List.getD, List.getElem?_append_right (Nat.le_refl _), Nat.sub_self]; rfl
  rw [hdl] at hdue
  generalize spoolDue x now = dl at hdue hdn hdl
  generalize D.length = N at hdue hdn hdl hDl
  have HX1 := Lib.hid hx1
  have HDN := Lib.hid hdn
  have HDL := Lib.hid hdl
  have HAT := Lib.hid hat
  rw [hokX] at hokx
  rw [hs1] at hok hks
  rw [hmX] at hmx
  have hsx : ∀ W, Kd.C kItem W Bx x.f1.length x.f1 → Kd.C kItem W By x.f1.length x.f1 → Calls Tryz.prog 13 #[.agg #[.int .i64 x.f0, .slice Bx x.f1.length dx], .agg #[.int .i64 x.f0, .slice By x.f1.length dy]] W fun e w' => e = .returned (.bool true) ∧ Below W.heap.size W w' := fun W h1 h2 => saSpool_any x Bx dx By dy W HFX.out h1 h2
  rw [hx0] at FX hokx hmx hdue hsx ⊢
  skip
  generalize spoolMany s = Ms at hmb hmx hms
  have hwl : IntKind.i64.wrap (s.f0 + 1) = s.f0 + 1 := IntWalk.i64_in _ (by omega)
  have hwm : IntKind.i64.wrap (Ms + (m.f1.length : Int)) = Ms + (m.f1.length : Int) := IntWalk.i64_in _ (by omega)
  have hwn1 : IntKind.i64.wrap ((N : Int) + 1 - 1) = (N : Int) := by rw [show (N : Int) + 1 - 1 = (N : Int) by omega]; exact IntWalk.i64_in _ (by omega)
  have hwn2 : IntKind.i64.wrap (N : Int) = (N : Int) := IntWalk.i64_in _ (by omega)
  clear hs1 hg hx hokX hmX hD hat hdn hdl hx0 hx1 hgp hsb HD
  have zFX := blk_lt FX.out
  have cFX_0 : w4.cell? ⟨w2.heap.size, 0, none⟩ = some (.int .i64 (s.f0 + 1)) := clq FX.out 0 rfl
  have cFX_1 : w4.cell? ⟨w2.heap.size, 1, none⟩ = some (.slice Bx x.f1.length dx) := clq FX.out 1 rfl
  go_wp2_with fail
  generalize hWw5 : World.alloc (w4) _ = w5
  have ltFS := blk_lt FS.out
  have ltFM := blk_lt FM.out
  have ltFX := blk_lt FX.out
  have ltb := HB.out.size
  have ltl := HL.out
  have TT : ∀ k, k < w4.heap.size → w5.heap[k]? = w4.heap[k]? := fun k hk => by rw [← hWw5]; (with_reducible repeat (first | rfl | refine hp_set ?_ ?_ | refine hp_alloc ?_ ?_ | refine hp_drew ?_)); all_goals (first | (with_reducible rfl) | omega | (dsimp only; omega) | (simp; omega))
  have TS : w4.heap.size + 1 ≤ w5.heap.size := by rw [← hWw5]; simp
  have nFS : w5.heap[w1.heap.size]? = some (.cells #[.int .i64 s.f0, .slice B s.f1.length d] 43 (0, 0)) := (TT _ ltFS).trans FS.out
  have nFM : w5.heap[w1.heap.size + 1]? = some (.cells #[.string m.f0.f0, .string m.f0.f1, .slice M0 m.f1.length m0, .slice M1 m.f2.length m1] 33 (0, 0)) := (TT _ ltFM).trans FM.out
  have nFX : w5.heap[w2.heap.size]? = some (.cells #[.int .i64 (s.f0 + 1), .slice Bx x.f1.length dx] 43 (0, 0)) := (TT _ ltFX).trans FX.out
  have nFW : w5.heap[w4.heap.size]? = some (.cells #[.int .i64 (s.f0 + 1), .slice By x.f1.length dy] 43 (0, 0)) := by rw [← hWw5]; exact blk_new w4 (.cells #[.int .i64 (s.f0 + 1), .slice By x.f1.length dy] 43)
  have nRX : Kd.R kItem 55 w5 w1.heap.size (fun _ => True) (.slice Bx x.f1.length dx) x.f1 := Kd.R_mono (Kd.R_step (RX.out) (fun k hk hlt => TT k hlt)) (fun _ hk => hk)
  have nRY : Kd.R kItem 55 w5 w1.heap.size (fun _ => True) (.slice By x.f1.length dy) x.f1 := Kd.R_mono (Kd.R_step (RY.out) (fun k hk hlt => TT k hlt)) (fun _ hk => hk)
  have nHB : Below w1.heap.size w1 w5 := by rw [← hWw5]; exact bel_alloc (HB.out) _
  clear zFX cFX_0 cFX_1
  clear hWw5 FS FM FX HB RX RY
  have FS := Aside0.mk nFS
  clear nFS
  have FM := Aside0.mk nFM
  clear nFM
  have FX := Aside0.mk nFX
  clear nFX
  have FW := Aside0.mk nFW
  clear nFW
  have RX := Aside0.mk nRX
  clear nRX
  have RY := Aside0.mk nRY
  clear nRY
  have HB := Aside0.mk nHB
  clear nHB
  have oFW_ltFS := ltFS
  have oFW_ltFM := ltFM
  have oFW_ltFX := ltFX
  have oFW_ltl := ltl
  have oFW_ts := TS
  replace HL := Aside0.mk (Nat.le_trans HL.out (by omega : w4.heap.size ≤ w5.heap.size))
  clear TT TS ltFS ltFM ltFX ltb ltl
  have HS36 : Aside0 (∀ W : World, (W.heap[w2.heap.size]? = some (.cells #[.int .i64 (s.f0 + 1), .slice Bx x.f1.length dx] 43 (0, 0)) ∧ W.heap[w4.heap.size]? = some (.cells #[.int .i64 (s.f0 + 1), .slice By x.f1.length dy] 43 (0, 0)) ∧ W.heap[w1.heap.size]? = some (.cells #[.int .i64 s.f0, .slice B s.f1.length d] 43 (0, 0))) → W.cell? ⟨w2.heap.size, 0, none⟩ = some (.int .i64 (s.f0 + 1)) ∧ W.cell? ⟨w2.heap.size, 1, none⟩ = some (.slice Bx x.f1.length dx) ∧ W.cell? ⟨w4.heap.size, 0, none⟩ = some (.int .i64 (s.f0 + 1)) ∧ W.cell? ⟨w4.heap.size, 1, none⟩ = some (.slice By x.f1.length dy) ∧ W.cell? ⟨w1.heap.size, 0, none⟩ = some (.int .i64 s.f0) ∧ W.cell? ⟨w1.heap.size, 1, none⟩ = some (.slice B s.f1.length d)) := ⟨fun W h => ⟨(by have h_ := h.1; simp [World.cell?, h_]), (by have h_ := h.1; simp [World.cell?, h_]), (by have h_ := h.2.1; simp [World.cell?, h_]), (by have h_ := h.2.1; simp [World.cell?, h_]), (by have h_ := h.2.2; simp [World.cell?, h_]), (by have h_ := h.2.2; simp [World.cell?, h_])⟩⟩
  refine wp_region_held_drew (S := fun (W : World) => W.heap[w2.heap.size]? = some (.cells #[.int .i64 (s.f0 + 1), .slice Bx x.f1.length dx] 43 (0, 0)) ∧ W.heap[w4.heap.size]? = some (.cells #[.int .i64 (s.f0 + 1), .slice By x.f1.length dy] 43 (0, 0)) ∧ W.heap[w1.heap.size]? = some (.cells #[.int .i64 s.f0, .slice B s.f1.length d] 43 (0, 0))) (by kernel_rfl) ?s37 (fun hHeld => ?t37)
  case s37 => exact (show (fun (W : World) => W.heap[w2.heap.size]? = some (.cells #[.int .i64 (s.f0 + 1), .slice Bx x.f1.length dx] 43 (0, 0)) ∧ W.heap[w4.heap.size]? = some (.cells #[.int .i64 (s.f0 + 1), .slice By x.f1.length dy] 43 (0, 0)) ∧ W.heap[w1.heap.size]? = some (.cells #[.int .i64 s.f0, .slice B s.f1.length d] 43 (0, 0))) (World.drew w5) from ⟨FX.out, FW.out, FS.out⟩)
  generalize hWVs : World.drew (w5) = Vs at hHeld ⊢
  have ltFS := blk_lt FS.out
  have ltFM := blk_lt FM.out
  have ltFX := blk_lt FX.out
  have ltFW := blk_lt FW.out
  have ltb := HB.out.size
  have ltl := HL.out
  have TT : ∀ k, k < w5.heap.size → Vs.heap[k]? = w5.heap[k]? := fun k hk => by rw [← hWVs]; (with_reducible repeat (first | rfl | refine hp_set ?_ ?_ | refine hp_alloc ?_ ?_ | refine hp_drew ?_)); all_goals (first | (with_reducible rfl) | omega | (dsimp only; omega) | (simp; omega))
  have TS : w5.heap.size + 0 ≤ Vs.heap.size := by rw [← hWVs]; simp
  have nFS : Vs.heap[w1.heap.size]? = some (.cells #[.int .i64 s.f0, .slice B s.f1.length d] 43 (0, 0)) := (TT _ ltFS).trans FS.out
  have nFM : Vs.heap[w1.heap.size + 1]? = some (.cells #[.string m.f0.f0, .string m.f0.f1, .slice M0 m.f1.length m0, .slice M1 m.f2.length m1] 33 (0, 0)) := (TT _ ltFM).trans FM.out
  have nFX : Vs.heap[w2.heap.size]? = some (.cells #[.int .i64 (s.f0 + 1), .slice Bx x.f1.length dx] 43 (0, 0)) := (TT _ ltFX).trans FX.out
  have nFW : Vs.heap[w4.heap.size]? = some (.cells #[.int .i64 (s.f0 + 1), .slice By x.f1.length dy] 43 (0, 0)) := (TT _ ltFW).trans FW.out
  have nRX : Kd.R kItem 55 Vs w1.heap.size (fun _ => True) (.slice Bx x.f1.length dx) x.f1 := Kd.R_mono (Kd.R_step (RX.out) (fun k hk hlt => TT k hlt)) (fun _ hk => hk)
  have nRY : Kd.R kItem 55 Vs w1.heap.size (fun _ => True) (.slice By x.f1.length dy) x.f1 := Kd.R_mono (Kd.R_step (RY.out) (fun k hk hlt => TT k hlt)) (fun _ hk => hk)
  have nHB : Below w1.heap.size w1 Vs := by rw [← hWVs]; exact bel_then (HB.out) (drew_below0 _)
  clear hWVs FS FM FX FW HB RX RY
  have FS := Aside0.mk nFS
  clear nFS
  have FM := Aside0.mk nFM
  clear nFM
  have FX := Aside0.mk nFX
  clear nFX
  have FW := Aside0.mk nFW
  clear nFW
  have RX := Aside0.mk nRX
  clear nRX
  have RY := Aside0.mk nRY
  clear nRY
  have HB := Aside0.mk nHB
  clear nHB
  replace HL := Aside0.mk (Nat.le_trans HL.out (by omega : w5.heap.size ≤ Vs.heap.size))
  clear TT TS ltFS ltFM ltFX ltFW ltb ltl
  refine tk 0 ?v38 ?y38 ?r38
  case y38 => intro w_ hSw; (try dsimp only at hSw); clear hSw; go_simp; (try (with_reducible rfl))
  try simp only [Act.put, List.setIfInBounds_toArray, List.set_cons_zero, List.set_cons_succ]
  refine tk 1 ?v39 ?y39 ?r39
  case y39 => intro w_ hSw; (try dsimp only at hSw); clear hSw; go_simp; (try (with_reducible rfl))
  try simp only [Act.put, List.setIfInBounds_toArray, List.set_cons_zero, List.set_cons_succ]
  refine tk 2 ?v40 ?y40 ?r40
  case y40 => intro w_ hSw; (try dsimp only at hSw); clear hSw; go_simp; (try (with_reducible rfl))
  try simp only [Act.put, List.setIfInBounds_toArray, List.set_cons_zero, List.set_cons_succ]
  refine tk 3 ?v41 ?y41 ?r41
  case y41 => intro w_ hSw; (try dsimp only at hSw); clear hSw; go_simp; (try (with_reducible rfl))
  try simp only [Act.put, List.setIfInBounds_toArray, List.set_cons_zero, List.set_cons_succ]
  refine tk 4 ?v42 ?y42 ?r42
  case y42 => intro w_ hSw; obtain ⟨e_0, e_1, e_2, e_3, e_4, e_5⟩ := HS36.out w_ hSw; clear hSw; go_simp; (try (with_reducible rfl))
  try simp only [Act.put, List.setIfInBounds_toArray, List.set_cons_zero, List.set_cons_succ]
  refine tk 5 ?v43 ?y43 ?r43
  case y43 => intro w_ hSw; obtain ⟨e_0, e_1, e_2, e_3, e_4, e_5⟩ := HS36.out w_ hSw; clear hSw; go_simp; (try (with_reducible rfl))
  try simp only [Act.put, List.setIfInBounds_toArray, List.set_cons_zero, List.set_cons_succ]
  refine rdy (rs := [6]) ?_
  refine rc (fun K hK => ?k44) AllReadyH.nil
  case k44 =>
   go_simp
   refine Calls.mono (hsx _ (Kd.R_reads' RX.out).2.2 (Kd.R_reads' RY.out).2.2) ?_
   rintro e V6 ⟨rfl, bV6⟩
   replace FS := Aside0.mk (below_blk FS.out bV6)
   replace FM := Aside0.mk (below_blk FM.out bV6)
   replace FX := Aside0.mk (below_blk FX.out bV6)
   replace FW := Aside0.mk (below_blk FW.out bV6)
   replace RX := Aside0.mk (Kd.R_below RX.out bV6)
   replace RY := Aside0.mk (Kd.R_below RY.out bV6)
   replace HB := Aside0.mk (bel_then HB.out bV6)
   replace HL := Aside0.mk (Nat.le_trans HL.out bV6.size)
   clear bV6
   refine hK.out _ _ ?h45 (fun hHeld => ?j45)
   case h45 => exact ⟨FX.out, FW.out, FS.out⟩
   clear hK K
   try simp only [Act.put, List.setIfInBounds_toArray, List.set_cons_zero, List.set_cons_succ]
   refine tk 7 ?v46 ?y46 ?r46
   case y46 => intro w_ hSw; (try dsimp only at hSw); clear hSw; go_simp; (try (with_reducible rfl))
   try simp only [Act.put, List.setIfInBounds_toArray, List.set_cons_zero, List.set_cons_succ]
   refine tk 8 ?v47 ?y47 ?r47
   case y47 => intro w_ hSw; (try dsimp only at hSw); clear hSw; go_simp; (try (with_reducible rfl))
   try simp only [Act.put, List.setIfInBounds_toArray, List.set_cons_zero, List.set_cons_succ]
   refine tk 9 ?v48 ?y48 ?r48
   case y48 => intro w_ hSw; (try dsimp only at hSw); clear hSw; go_simp; (try (with_reducible rfl))
   try simp only [Act.put, List.setIfInBounds_toArray, List.set_cons_zero, List.set_cons_succ]
   refine tk 10 ?v49 ?y49 ?r49
   case y49 => intro w_ hSw; obtain ⟨e_0, e_1, e_2, e_3, e_4, e_5⟩ := HS36.out w_ hSw; clear hSw; go_simp; (try (with_reducible rfl))
   try simp only [Act.put, List.setIfInBounds_toArray, List.set_cons_zero, List.set_cons_succ]
   refine tk 12 ?v50 ?y50 ?r50
   case y50 => intro w_ hSw; obtain ⟨e_0, e_1, e_2, e_3, e_4, e_5⟩ := HS36.out w_ hSw; clear hSw; go_simp; (try (with_reducible rfl))
   try simp only [Act.put, List.setIfInBounds_toArray, List.set_cons_zero, List.set_cons_succ]
   refine rdy (rs := [11]) ?_
   refine rc (fun K hK => ?k51) AllReadyH.nil
   case k51 =>
    go_simp
    refine Calls.mono (hok _ HB.out) ?_
    rintro e V11 ⟨rfl, bV11⟩
    replace FS := Aside0.mk (below_blk FS.out bV11)
    replace FM := Aside0.mk (below_blk FM.out bV11)
    replace FX := Aside0.mk (below_blk FX.out bV11)
    replace FW := Aside0.mk (below_blk FW.out bV11)
    replace RX := Aside0.mk (Kd.R_below RX.out bV11)
    replace RY := Aside0.mk (Kd.R_below RY.out bV11)
    replace HB := Aside0.mk (bel_then HB.out bV11)
    replace HL := Aside0.mk (Nat.le_trans HL.out bV11.size)
    clear bV11
    refine hK.out _ _ ?h52 (fun hHeld => ?j52)
    case h52 => exact ⟨FX.out, FW.out, FS.out⟩
    clear hK K
    try simp only [Act.put, List.setIfInBounds_toArray, List.set_cons_zero, List.set_cons_succ]
    refine rdy (rs := [13]) ?_
    refine rc (fun K hK => ?k53) AllReadyH.nil
    case k53 =>
     go_simp
     refine Calls.mono (hks _ HB.out) ?_
     rintro e V13 ⟨rfl, bV13⟩
     replace FS := Aside0.mk (below_blk FS.out bV13)
     replace FM := Aside0.mk (below_blk FM.out bV13)
     replace FX := Aside0.mk (below_blk FX.out bV13)
     replace FW := Aside0.mk (below_blk FW.out bV13)
     replace RX := Aside0.mk (Kd.R_below RX.out bV13)
     replace RY := Aside0.mk (Kd.R_below RY.out bV13)
     replace HB := Aside0.mk (bel_then HB.out bV13)
     replace HL := Aside0.mk (Nat.le_trans HL.out bV13.size)
     clear bV13
     refine hK.out _ _ ?h54 (fun hHeld => ?j54)
     case h54 => exact ⟨FX.out, FW.out, FS.out⟩
     clear hK K
     try simp only [Act.put, List.setIfInBounds_toArray, List.set_cons_zero, List.set_cons_succ]
     refine tk 14 ?v55 ?y55 ?r55
     case y55 => intro w_ hSw; (try dsimp only at hSw); clear hSw; go_simp; (try (with_reducible rfl))
     try simp only [Act.put, List.setIfInBounds_toArray, List.set_cons_zero, List.set_cons_succ]
     refine tk 15 ?v56 ?y56 ?r56
     case y56 => intro w_ hSw; (try dsimp only at hSw); clear hSw; go_simp; (try (with_reducible rfl))
     try simp only [Act.put, List.setIfInBounds_toArray, List.set_cons_zero, List.set_cons_succ]
     refine tk 16 ?v57 ?y57 ?r57
     case y57 => intro w_ hSw; (try dsimp only at hSw); clear hSw; go_simp; (try (with_reducible rfl))
     try simp only [Act.put, List.setIfInBounds_toArray, List.set_cons_zero, List.set_cons_succ]
     refine tk 17 ?v58 ?y58 ?r58
     case y58 => intro w_ hSw; obtain ⟨e_0, e_1, e_2, e_3, e_4, e_5⟩ := HS36.out w_ hSw; clear hSw; go_simp; (try (with_reducible rfl))
     try simp only [Act.put, List.setIfInBounds_toArray, List.set_cons_zero, List.set_cons_succ]
     refine rdy (rs := [18]) ?_
     refine rc (fun K hK => ?k59) AllReadyH.nil
     case k59 =>
      go_simp
      refine Calls.mono (hok _ HB.out) ?_
      rintro e V18 ⟨rfl, bV18⟩
      replace FS := Aside0.mk (below_blk FS.out bV18)
      replace FM := Aside0.mk (below_blk FM.out bV18)
      replace FX := Aside0.mk (below_blk FX.out bV18)
      replace FW := Aside0.mk (below_blk FW.out bV18)
      replace RX := Aside0.mk (Kd.R_below RX.out bV18)
      replace RY := Aside0.mk (Kd.R_below RY.out bV18)
      replace HB := Aside0.mk (bel_then HB.out bV18)
      replace HL := Aside0.mk (Nat.le_trans HL.out bV18.size)
      clear bV18
      refine hK.out _ _ ?h60 (fun hHeld => ?j60)
      case h60 => exact ⟨FX.out, FW.out, FS.out⟩
      clear hK K
      try simp only [Act.put, List.setIfInBounds_toArray, List.set_cons_zero, List.set_cons_succ]
      refine tk 19 ?v61 ?y61 ?r61
      case y61 => intro w_ hSw; (try dsimp only at hSw); clear hSw; go_simp; (try (with_reducible rfl))
      try simp only [Act.put, List.setIfInBounds_toArray, List.set_cons_zero, List.set_cons_succ]
      refine tk 20 ?v62 ?y62 ?r62
      case y62 => intro w_ hSw; (try dsimp only at hSw); clear hSw; go_simp; (try (with_reducible rfl))
      try simp only [Act.put, List.setIfInBounds_toArray, List.set_cons_zero, List.set_cons_succ]
      refine wpAnyH_done (by kernel_rfl) ?_ _
      skip
      have zFX := blk_lt FX.out
      have cFX_0 : V18.cell? ⟨w2.heap.size, 0, none⟩ = some (.int .i64 (s.f0 + 1)) := clq FX.out 0 rfl
      have cFX_1 : V18.cell? ⟨w2.heap.size, 1, none⟩ = some (.slice Bx x.f1.length dx) := clq FX.out 1 rfl
      go_wp2_with fail
      refine Calls.mono (hdue _ HB.out (Kd.R_reads' RX.out).2.2) ?_
      rintro e w8 ⟨Bd, dd, rfl, rRD, bw8⟩
      clear zFX cFX_0 cFX_1
      replace FS := Aside0.mk (below_blk FS.out bw8)
      replace FM := Aside0.mk (below_blk FM.out bw8)
      replace FX := Aside0.mk (below_blk FX.out bw8)
      replace FW := Aside0.mk (below_blk FW.out bw8)
      replace RX := Aside0.mk (Kd.R_below RX.out bw8)
      replace RY := Aside0.mk (Kd.R_below RY.out bw8)
      have RD : Aside0 (Kd.R (Kd.int .i64) 3 w8 w1.heap.size (fun _ => True) (.slice Bd (N + 1) dd) dl) := ⟨Kd.R_lower (base' := w1.heap.size) rRD HB.out.size⟩
      clear rRD
      replace HB := Aside0.mk (bel_then HB.out bw8)
      replace HL := Aside0.mk (Nat.le_trans HL.out bw8.size)
      clear bw8
      clear hdue
      have zFS := blk_lt FS.out
      have cFS_0 : w8.cell? ⟨w1.heap.size, 0, none⟩ = some (.int .i64 s.f0) := clq FS.out 0 rfl
      have cFS_1 : w8.cell? ⟨w1.heap.size, 1, none⟩ = some (.slice B s.f1.length d) := clq FS.out 1 rfl
      have zFX := blk_lt FX.out
      have cFX_0 : w8.cell? ⟨w2.heap.size, 0, none⟩ = some (.int .i64 (s.f0 + 1)) := clq FX.out 0 rfl
      have cFX_1 : w8.cell? ⟨w2.heap.size, 1, none⟩ = some (.slice Bx x.f1.length dx) := clq FX.out 1 rfl
      have zFM := blk_lt FM.out
      have cFM_0 : w8.cell? ⟨w1.heap.size + 1, 0, none⟩ = some (.string m.f0.f0) := clq FM.out 0 rfl
      have cFM_1 : w8.cell? ⟨w1.heap.size + 1, 1, none⟩ = some (.string m.f0.f1) := clq FM.out 1 rfl
      have cFM_2 : w8.cell? ⟨w1.heap.size + 1, 2, none⟩ = some (.slice M0 m.f1.length m0) := clq FM.out 2 rfl
      have cFM_3 : w8.cell? ⟨w1.heap.size + 1, 3, none⟩ = some (.slice M1 m.f2.length m1) := clq FM.out 3 rfl
      go_wp2
      clear zFS cFS_0 cFS_1 zFX cFX_0 cFX_1 zFM cFM_0 cFM_1 cFM_2 cFM_3
      go_loopg [11] (s.f1.length) (fun g v wr => ∃ k : Nat, k ≤ s.f1.length ∧ s.f1.length - k ≤ g ∧ v = .int .i64 k ∧ Aside0 (Below w1.heap.size w1 wr) ∧ Aside0 (wr.heap[w2.heap.size]? = some (.cells #[.int .i64 (s.f0 + 1), .slice Bx x.f1.length dx] 43 (0, 0))) ∧ Aside0 (wr.heap[w1.heap.size]? = some (.cells #[.int .i64 s.f0, .slice B s.f1.length d] 43 (0, 0))) ∧ Aside0 (wr.heap[w1.heap.size + 1]? = some (.cells #[.string m.f0.f0, .string m.f0.f1, .slice M0 m.f1.length m0, .slice M1 m.f2.length m1] 33 (0, 0))) ∧ Aside0 (Kd.R kItem 55 wr w1.heap.size (fun _ => True) (.slice Bx x.f1.length dx) x.f1) ∧ Aside0 (Kd.R (Kd.int .i64) 3 wr w1.heap.size (fun _ => True) (.slice Bd (N + 1) dd) dl))
      case atStart => exact ⟨0, Nat.zero_le _, by omega, rfl, HB, FX, FS, FM, RX, RD⟩
      case round =>
       clear HB HL FS FM FX FW RX RY RD
       obtain ⟨k, hk, hg, rfl, HB, FX, FS, FM, RX, RD⟩ := hrel
       have HL : Aside0 (w1.heap.size + 2 ≤ wr.heap.size) := ⟨blk_lt FM.out⟩
       by_cases hlt : k < s.f1.length
       ·have hlt' : (k : Int) < (s.f1.length : Int) := by omega
        have hltx : k < x.f1.length := by have := HX1.out; omega
        have hltx' : (k : Int) < (x.f1.length : Int) := by omega
        obtain ⟨ad, Q0, q0, Q1, q1, e1, p0, p1, p2, p3, p4, l0, k0, l1, k1⟩ := at_Item (Kd.R_reads' RX.out).2.2 k hltx
        obtain ⟨ae, R0, t0, R1, t1, e2, r0, r1, r2, r3, r4, n0, j0, n1, j1⟩ := at_Item (Kd.C_below C0.out HB.out) k hlt
        subst e1
        subst e2
        have hfy := HFS.out.2.2 (s.f1.getD k zItem) (getD_mem _ _ hlt)
        have hxe := HAT.out k hlt
        rw [hxe] at p0 p1 p2 p3 p4 l0 k0 l1 k1
        clear hxe
        generalize s.f1.getD k zItem = y at p0 p1 p2 p3 p4 l0 k0 l1 k1 r0 r1 r2 r3 r4 n0 j0 n1 j1 hfy
        have ltp := World.block_lt_of_cell? _ _ p0
        have ltr := World.block_lt_of_cell? _ _ r0
        have hci := fun W (hW : Below wr.heap.size wr W) => saItem_any y Q0 q0 Q1 q1 R0 t0 R1 t1 W hfy (Kd.C_below k0 hW) (Kd.C_below k1 hW) (Kd.C_below j0 hW) (Kd.C_below j1 hW)
        clear l0 k0 l1 k1 n0 j0 n1 j1 hfy
        have zFX := blk_lt FX.out
        have cFX_0 : wr.cell? ⟨w2.heap.size, 0, none⟩ = some (.int .i64 (s.f0 + 1)) := clq FX.out 0 rfl
        have cFX_1 : wr.cell? ⟨w2.heap.size, 1, none⟩ = some (.slice (some ad) x.f1.length dx) := clq FX.out 1 rfl
        have zFS := blk_lt FS.out
        have cFS_0 : wr.cell? ⟨w1.heap.size, 0, none⟩ = some (.int .i64 s.f0) := clq FS.out 0 rfl
        have cFS_1 : wr.cell? ⟨w1.heap.size, 1, none⟩ = some (.slice (some ae) s.f1.length d) := clq FS.out 1 rfl
        go_wp2_with fail
        have HBo := HB
        clear HB HL
        have HB : Aside0 (Below wr.heap.size wr wr) := ⟨Below.refl _ _⟩
        have HL : Aside0 (wr.heap.size + 0 ≤ wr.heap.size) := ⟨Nat.le_refl _⟩
        clear zFX cFX_0 cFX_1 zFS cFS_0 cFS_1
        have HS63 : Aside0 (∀ W : World, (W.heap[w2.heap.size]? = some (.cells #[.int .i64 (s.f0 + 1), .slice (some ad) x.f1.length dx] 43 (0, 0)) ∧ W.heap[w1.heap.size]? = some (.cells #[.int .i64 s.f0, .slice (some ae) s.f1.length d] 43 (0, 0)) ∧ W.heap[(ad.add (k * 5)).block]? = wr.heap[(ad.add (k * 5)).block]? ∧ W.heap[(ae.add (k * 5)).block]? = wr.heap[(ae.add (k * 5)).block]?) → W.cell? ⟨w2.heap.size, 0, none⟩ = some (.int .i64 (s.f0 + 1)) ∧ W.cell? ⟨w2.heap.size, 1, none⟩ = some (.slice (some ad) x.f1.length dx) ∧ W.cell? ⟨w1.heap.size, 0, none⟩ = some (.int .i64 s.f0) ∧ W.cell? ⟨w1.heap.size, 1, none⟩ = some (.slice (some ae) s.f1.length d) ∧ W.cell? (ad.add (k * 5)) = some (.int .i64 y.f0) ∧ W.cell? ⟨(ad.add (k * 5)).block, (ad.add (k * 5)).off + 1, none⟩ = some (.string y.f1.f0) ∧ W.cell? ⟨(ad.add (k * 5)).block, (ad.add (k * 5)).off + 2, none⟩ = some (.string y.f1.f1) ∧ W.cell? ⟨(ad.add (k * 5)).block, (ad.add (k * 5)).off + 3, none⟩ = some (.slice Q0 y.f2.length q0) ∧ W.cell? ⟨(ad.add (k * 5)).block, (ad.add (k * 5)).off + 4, none⟩ = some (.slice Q1 y.f3.length q1) ∧ W.cell? (ae.add (k * 5)) = some (.int .i64 y.f0) ∧ W.cell? ⟨(ae.add (k * 5)).block, (ae.add (k * 5)).off + 1, none⟩ = some (.string y.f1.f0) ∧ W.cell? ⟨(ae.add (k * 5)).block, (ae.add (k * 5)).off + 2, none⟩ = some (.string y.f1.f1) ∧ W.cell? ⟨(ae.add (k * 5)).block, (ae.add (k * 5)).off + 3, none⟩ = some (.slice R0 y.f2.length t0) ∧ W.cell? ⟨(ae.add (k * 5)).block, (ae.add (k * 5)).off + 4, none⟩ = some (.slice R1 y.f3.length t1)) := ⟨fun W h => ⟨(by have h_ := h.1; simp [World.cell?, h_]), (by have h_ := h.1; simp [World.cell?, h_]), (by have h_ := h.2.1; simp [World.cell?, h_]), (by have h_ := h.2.1; simp [World.cell?, h_]), ((World.cell?_of_block h.2.2.1).trans p0), ((World.cell?_of_block (by exact h.2.2.1)).trans p1), ((World.cell?_of_block (by exact h.2.2.1)).trans p2), ((World.cell?_of_block (by exact h.2.2.1)).trans p3), ((World.cell?_of_block (by exact h.2.2.1)).trans p4), ((World.cell?_of_block h.2.2.2).trans r0), ((World.cell?_of_block (by exact h.2.2.2)).trans r1), ((World.cell?_of_block (by exact h.2.2.2)).trans r2), ((World.cell?_of_block (by exact h.2.2.2)).trans r3), ((World.cell?_of_block (by exact h.2.2.2)).trans r4)⟩⟩
        refine wp_region_held_drew (S := fun (W : World) => W.heap[w2.heap.size]? = some (.cells #[.int .i64 (s.f0 + 1), .slice (some ad) x.f1.length dx] 43 (0, 0)) ∧ W.heap[w1.heap.size]? = some (.cells #[.int .i64 s.f0, .slice (some ae) s.f1.length d] 43 (0, 0)) ∧ W.heap[(ad.add (k * 5)).block]? = wr.heap[(ad.add (k * 5)).block]? ∧ W.heap[(ae.add (k * 5)).block]? = wr.heap[(ae.add (k * 5)).block]?) (by kernel_rfl) ?s64 (fun hHeld => ?t64)
        case s64 => exact (show (fun (W : World) => W.heap[w2.heap.size]? = some (.cells #[.int .i64 (s.f0 + 1), .slice (some ad) x.f1.length dx] 43 (0, 0)) ∧ W.heap[w1.heap.size]? = some (.cells #[.int .i64 s.f0, .slice (some ae) s.f1.length d] 43 (0, 0)) ∧ W.heap[(ad.add (k * 5)).block]? = wr.heap[(ad.add (k * 5)).block]? ∧ W.heap[(ae.add (k * 5)).block]? = wr.heap[(ae.add (k * 5)).block]?) (World.drew wr) from ⟨FX.out, FS.out, HB.out.block _ ltp, HB.out.block _ ltr⟩)
        generalize hWVs : World.drew (wr) = Vs at hHeld ⊢
        have ltFX := blk_lt FX.out
        have ltFS := blk_lt FS.out
        have ltFM := blk_lt FM.out
        have ltb := HB.out.size
        have ltl := HL.out
        have TT : ∀ k, k < wr.heap.size → Vs.heap[k]? = wr.heap[k]? := fun k hk => by rw [← hWVs]; (with_reducible repeat (first | rfl | refine hp_set ?_ ?_ | refine hp_alloc ?_ ?_ | refine hp_drew ?_)); all_goals (first | (with_reducible rfl) | omega | (dsimp only; omega) | (simp; omega))
        have TS : wr.heap.size + 0 ≤ Vs.heap.size := by rw [← hWVs]; simp
        have nFX : Vs.heap[w2.heap.size]? = some (.cells #[.int .i64 (s.f0 + 1), .slice (some ad) x.f1.length dx] 43 (0, 0)) := (TT _ ltFX).trans FX.out
        have nFS : Vs.heap[w1.heap.size]? = some (.cells #[.int .i64 s.f0, .slice (some ae) s.f1.length d] 43 (0, 0)) := (TT _ ltFS).trans FS.out
        have nFM : Vs.heap[w1.heap.size + 1]? = some (.cells #[.string m.f0.f0, .string m.f0.f1, .slice M0 m.f1.length m0, .slice M1 m.f2.length m1] 33 (0, 0)) := (TT _ ltFM).trans FM.out
        have nRX : Kd.R kItem 55 Vs w1.heap.size (fun _ => True) (.slice (some ad) x.f1.length dx) x.f1 := Kd.R_mono (Kd.R_step (RX.out) (fun k hk hlt => TT k hlt)) (fun _ hk => hk)
        have nRD : Kd.R (Kd.int .i64) 3 Vs w1.heap.size (fun _ => True) (.slice Bd (N + 1) dd) dl := R_keepT RD.out rfl (fun k hk ho => TT k hk)
        have nHB : Below wr.heap.size wr Vs := by rw [← hWVs]; exact bel_then (HB.out) (drew_below0 _)
        clear hWVs FX FS FM HB RX RD
        have FX := Aside0.mk nFX
        clear nFX
        have FS := Aside0.mk nFS
        clear nFS
        have FM := Aside0.mk nFM
        clear nFM
        have RX := Aside0.mk nRX
        clear nRX
        have RD := Aside0.mk nRD
        clear nRD
        have HB := Aside0.mk nHB
        clear nHB
        replace HL := Aside0.mk (Nat.le_trans HL.out (by omega : wr.heap.size ≤ Vs.heap.size))
        clear TT TS ltFX ltFS ltFM ltb ltl
        refine tk 0 ?v65 ?y65 ?r65
        case y65 => intro w_ hSw; (try dsimp only at hSw); clear hSw; go_simp; (try (with_reducible rfl))
        try simp only [Act.put, List.setIfInBounds_toArray, List.set_cons_zero, List.set_cons_succ]
        refine tk 1 ?v66 ?y66 ?r66
        case y66 => intro w_ hSw; obtain ⟨e_0, e_1, e_2, e_3, e_4, e_5, e_6, e_7, e_8, e_9, e_10, e_11, e_12, e_13⟩ := HS63.out w_ hSw; clear hSw; go_simp; (try (with_reducible rfl))
        try simp only [Act.put, List.setIfInBounds_toArray, List.set_cons_zero, List.set_cons_succ]
        refine tk 2 ?v67 ?y67 ?r67
        case y67 => intro w_ hSw; (try dsimp only at hSw); clear hSw; go_simp; (try (with_reducible rfl))
        try simp only [Act.put, List.setIfInBounds_toArray, List.set_cons_zero, List.set_cons_succ]
        refine tk 3 ?v68 ?y68 ?r68
        case y68 => intro w_ hSw; (try dsimp only at hSw); clear hSw; go_simp; (try (with_reducible rfl))
        try simp only [Act.put, List.setIfInBounds_toArray, List.set_cons_zero, List.set_cons_succ]
        refine tk 4 ?v69 ?y69 ?r69
        case y69 => intro w_ hSw; obtain ⟨e_0, e_1, e_2, e_3, e_4, e_5, e_6, e_7, e_8, e_9, e_10, e_11, e_12, e_13⟩ := HS63.out w_ hSw; clear hSw; go_simp; (try (with_reducible rfl))
        try simp only [Act.put, List.setIfInBounds_toArray, List.set_cons_zero, List.set_cons_succ]
        refine tk 5 ?v70 ?y70 ?r70
        case y70 => intro w_ hSw; (try dsimp only at hSw); clear hSw; go_simp; (try (with_reducible rfl))
        try simp only [Act.put, List.setIfInBounds_toArray, List.set_cons_zero, List.set_cons_succ]
        refine tk 6 ?v71 ?y71 ?r71
        case y71 => intro w_ hSw; obtain ⟨e_0, e_1, e_2, e_3, e_4, e_5, e_6, e_7, e_8, e_9, e_10, e_11, e_12, e_13⟩ := HS63.out w_ hSw; clear hSw; go_simp; (try (with_reducible rfl))
        try simp only [Act.put, List.setIfInBounds_toArray, List.set_cons_zero, List.set_cons_succ]
        refine tk 7 ?v72 ?y72 ?r72
        case y72 => intro w_ hSw; (try dsimp only at hSw); clear hSw; go_simp; (try (with_reducible rfl))
        try simp only [Act.put, List.setIfInBounds_toArray, List.set_cons_zero, List.set_cons_succ]
        refine tk 8 ?v73 ?y73 ?r73
        case y73 => intro w_ hSw; (try dsimp only at hSw); clear hSw; go_simp; (try (with_reducible rfl))
        try simp only [Act.put, List.setIfInBounds_toArray, List.set_cons_zero, List.set_cons_succ]
        refine tk 9 ?v74 ?y74 ?r74
        case y74 => intro w_ hSw; obtain ⟨e_0, e_1, e_2, e_3, e_4, e_5, e_6, e_7, e_8, e_9, e_10, e_11, e_12, e_13⟩ := HS63.out w_ hSw; clear hSw; go_simp; (try (with_reducible rfl))
        try simp only [Act.put, List.setIfInBounds_toArray, List.set_cons_zero, List.set_cons_succ]
        refine rdy (rs := [10]) ?_
        refine rc (fun K hK => ?k75) AllReadyH.nil
        case k75 =>
         go_simp
         refine Calls.mono (hci _ HB.out) ?_
         rintro e V10 ⟨rfl, bV10⟩
         replace FX := Aside0.mk (below_blk FX.out bV10)
         replace FS := Aside0.mk (below_blk FS.out bV10)
         replace FM := Aside0.mk (below_blk FM.out bV10)
         replace RX := Aside0.mk (Kd.R_below RX.out bV10)
         replace RD := Aside0.mk (Kd.R_below RD.out bV10)
         replace HB := Aside0.mk (bel_then HB.out bV10)
         replace HL := Aside0.mk (Nat.le_trans HL.out bV10.size)
         clear bV10
         refine hK.out _ _ ?h76 (fun hHeld => ?j76)
         case h76 => exact ⟨FX.out, FS.out, HB.out.block _ ltp, HB.out.block _ ltr⟩
         clear hK K
         try simp only [Act.put, List.setIfInBounds_toArray, List.set_cons_zero, List.set_cons_succ]
         refine tk 11 ?v77 ?y77 ?r77
         case y77 => intro w_ hSw; (try dsimp only at hSw); clear hSw; go_simp; (try (with_reducible rfl))
         try simp only [Act.put, List.setIfInBounds_toArray, List.set_cons_zero, List.set_cons_succ]
         refine wpAnyH_done (by kernel_rfl) ?_ _
         clear p0 p1 p2 p3 p4 r0 r1 r2 r3 r4 hci
         go_wp2
         go_roundg (s.f1.length - (k + 1))
         case measure => omega
         case rel => exact ⟨k + 1, by omega, Nat.le_refl _, by go_num, ⟨bel_then HBo.out HB.out⟩, FX, FS, FM, RX, RD⟩
       ·have hlt' : ¬ (k : Int) < (s.f1.length : Int) := by omega
        have zFS := blk_lt FS.out
        have cFS_0 : wr.cell? ⟨w1.heap.size, 0, none⟩ = some (.int .i64 s.f0) := clq FS.out 0 rfl
        have cFS_1 : wr.cell? ⟨w1.heap.size, 1, none⟩ = some (.slice B s.f1.length d) := clq FS.out 1 rfl
        go_wp2_with fail
        clear zFS cFS_0 cFS_1
        obtain ⟨ade, ede, pd⟩ := at_Int (Kd.R_reads' RD.out).2.2 N (by have := HDL.out; omega)
        have hNN : (N : Int) < (N : Int) + 1 := by omega
        have hNN2 : ¬ (N : Int) < 0 := by omega
        subst ede
        rw [HDN.out] at pd
        have ltd := World.block_lt_of_cell? _ _ pd
        have HBo := HB
        clear HB HL
        have HB : Aside0 (Below wr.heap.size wr wr) := ⟨Below.refl _ _⟩
        have HL : Aside0 (wr.heap.size + 0 ≤ wr.heap.size) := ⟨Nat.le_refl _⟩
        have HS78 : Aside0 (∀ W : World, (W.heap[w2.heap.size]? = some (.cells #[.int .i64 (s.f0 + 1), .slice Bx x.f1.length dx] 43 (0, 0)) ∧ W.heap[w1.heap.size]? = some (.cells #[.int .i64 s.f0, .slice B s.f1.length d] 43 (0, 0)) ∧ W.heap[w1.heap.size + 1]? = some (.cells #[.string m.f0.f0, .string m.f0.f1, .slice M0 m.f1.length m0, .slice M1 m.f2.length m1] 33 (0, 0)) ∧ W.heap[(ade.add N).block]? = wr.heap[(ade.add N).block]?) → W.cell? ⟨w2.heap.size, 0, none⟩ = some (.int .i64 (s.f0 + 1)) ∧ W.cell? ⟨w2.heap.size, 1, none⟩ = some (.slice Bx x.f1.length dx) ∧ W.cell? ⟨w1.heap.size, 0, none⟩ = some (.int .i64 s.f0) ∧ W.cell? ⟨w1.heap.size, 1, none⟩ = some (.slice B s.f1.length d) ∧ W.cell? ⟨w1.heap.size + 1, 0, none⟩ = some (.string m.f0.f0) ∧ W.cell? ⟨w1.heap.size + 1, 1, none⟩ = some (.string m.f0.f1) ∧ W.cell? ⟨w1.heap.size + 1, 2, none⟩ = some (.slice M0 m.f1.length m0) ∧ W.cell? ⟨w1.heap.size + 1, 3, none⟩ = some (.slice M1 m.f2.length m1) ∧ W.cell? (ade.add N) = some (.int .i64 (s.f0 + 1))) := ⟨fun W h => ⟨(by have h_ := h.1; simp [World.cell?, h_]), (by have h_ := h.1; simp [World.cell?, h_]), (by have h_ := h.2.1; simp [World.cell?, h_]), (by have h_ := h.2.1; simp [World.cell?, h_]), (by have h_ := h.2.2.1; simp [World.cell?, h_]), (by have h_ := h.2.2.1; simp [World.cell?, h_]), (by have h_ := h.2.2.1; simp [World.cell?, h_]), (by have h_ := h.2.2.1; simp [World.cell?, h_]), ((World.cell?_of_block h.2.2.2).trans pd)⟩⟩
        refine wp_region_held_drew (S := fun (W : World) => W.heap[w2.heap.size]? = some (.cells #[.int .i64 (s.f0 + 1), .slice Bx x.f1.length dx] 43 (0, 0)) ∧ W.heap[w1.heap.size]? = some (.cells #[.int .i64 s.f0, .slice B s.f1.length d] 43 (0, 0)) ∧ W.heap[w1.heap.size + 1]? = some (.cells #[.string m.f0.f0, .string m.f0.f1, .slice M0 m.f1.length m0, .slice M1 m.f2.length m1] 33 (0, 0)) ∧ W.heap[(ade.add N).block]? = wr.heap[(ade.add N).block]?) (by kernel_rfl) ?s79 (fun hHeld => ?t79)
        case s79 => exact (show (fun (W : World) => W.heap[w2.heap.size]? = some (.cells #[.int .i64 (s.f0 + 1), .slice Bx x.f1.length dx] 43 (0, 0)) ∧ W.heap[w1.heap.size]? = some (.cells #[.int .i64 s.f0, .slice B s.f1.length d] 43 (0, 0)) ∧ W.heap[w1.heap.size + 1]? = some (.cells #[.string m.f0.f0, .string m.f0.f1, .slice M0 m.f1.length m0, .slice M1 m.f2.length m1] 33 (0, 0)) ∧ W.heap[(ade.add N).block]? = wr.heap[(ade.add N).block]?) (World.drew wr) from ⟨FX.out, FS.out, FM.out, HB.out.block _ ltd⟩)
        generalize hWVs : World.drew (wr) = Vs at hHeld ⊢
        have ltFX := blk_lt FX.out
        have ltFS := blk_lt FS.out
        have ltFM := blk_lt FM.out
        have ltb := HB.out.size
        have ltl := HL.out
        have TT : ∀ k, k < wr.heap.size → Vs.heap[k]? = wr.heap[k]? := fun k hk => by rw [← hWVs]; (with_reducible repeat (first | rfl | refine hp_set ?_ ?_ | refine hp_alloc ?_ ?_ | refine hp_drew ?_)); all_goals (first | (with_reducible rfl) | omega | (dsimp only; omega) | (simp; omega))
        have TS : wr.heap.size + 0 ≤ Vs.heap.size := by rw [← hWVs]; simp
        have nFX : Vs.heap[w2.heap.size]? = some (.cells #[.int .i64 (s.f0 + 1), .slice Bx x.f1.length dx] 43 (0, 0)) := (TT _ ltFX).trans FX.out
        have nFS : Vs.heap[w1.heap.size]? = some (.cells #[.int .i64 s.f0, .slice B s.f1.length d] 43 (0, 0)) := (TT _ ltFS).trans FS.out
        have nFM : Vs.heap[w1.heap.size + 1]? = some (.cells #[.string m.f0.f0, .string m.f0.f1, .slice M0 m.f1.length m0, .slice M1 m.f2.length m1] 33 (0, 0)) := (TT _ ltFM).trans FM.out
        have nRX : Kd.R kItem 55 Vs w1.heap.size (fun _ => True) (.slice Bx x.f1.length dx) x.f1 := Kd.R_mono (Kd.R_step (RX.out) (fun k hk hlt => TT k hlt)) (fun _ hk => hk)
        have nRD : Kd.R (Kd.int .i64) 3 Vs w1.heap.size (fun _ => True) (.slice (some ade) (N + 1) dd) dl := R_keepT RD.out rfl (fun k hk ho => TT k hk)
        have nHB : Below wr.heap.size wr Vs := by rw [← hWVs]; exact bel_then (HB.out) (drew_below0 _)
        clear hWVs FX FS FM HB RX RD
        have FX := Aside0.mk nFX
        clear nFX
        have FS := Aside0.mk nFS
        clear nFS
        have FM := Aside0.mk nFM
        clear nFM
        have RX := Aside0.mk nRX
        clear nRX
        have RD := Aside0.mk nRD
        clear nRD
        have HB := Aside0.mk nHB
        clear nHB
        replace HL := Aside0.mk (Nat.le_trans HL.out (by omega : wr.heap.size ≤ Vs.heap.size))
        clear TT TS ltFX ltFS ltFM ltb ltl
        refine tk 0 ?v80 ?y80 ?r80
        case y80 => intro w_ hSw; obtain ⟨e_0, e_1, e_2, e_3, e_4, e_5, e_6, e_7, e_8⟩ := HS78.out w_ hSw; clear hSw; go_simp; (try (with_reducible rfl))
        try simp only [Act.put, List.setIfInBounds_toArray, List.set_cons_zero, List.set_cons_succ]
        refine rdy (rs := [1]) ?_
        refine rc (fun K hK => ?k81) AllReadyH.nil
        case k81 =>
         go_simp
         refine Calls.mono (hokx _ (bel_then HBo.out HB.out) (Kd.R_reads' RX.out).2.2) ?_
         rintro e V1 ⟨rfl, bV1⟩
         replace FX := Aside0.mk (below_blk FX.out bV1)
         replace FS := Aside0.mk (below_blk FS.out bV1)
         replace FM := Aside0.mk (below_blk FM.out bV1)
         replace RX := Aside0.mk (Kd.R_below RX.out bV1)
         replace RD := Aside0.mk (Kd.R_below RD.out bV1)
         replace HB := Aside0.mk (bel_then HB.out bV1)
         replace HL := Aside0.mk (Nat.le_trans HL.out bV1.size)
         clear bV1
         refine hK.out _ _ ?h82 (fun hHeld => ?j82)
         case h82 => exact ⟨FX.out, FS.out, FM.out, HB.out.block _ ltd⟩
         clear hK K
         try simp only [Act.put, List.setIfInBounds_toArray, List.set_cons_zero, List.set_cons_succ]
         refine tk 2 ?v83 ?y83 ?r83
         case y83 => intro w_ hSw; (try dsimp only at hSw); clear hSw; go_simp; (try (with_reducible rfl))
         try simp only [Act.put, List.setIfInBounds_toArray, List.set_cons_zero, List.set_cons_succ]
         refine tk 3 ?v84 ?y84 ?r84
         case y84 => intro w_ hSw; (try dsimp only at hSw); clear hSw; go_simp; (try (with_reducible rfl))
         try simp only [Act.put, List.setIfInBounds_toArray, List.set_cons_zero, List.set_cons_succ]
         refine tk 4 ?v85 ?y85 ?r85
         case y85 => intro w_ hSw; (try dsimp only at hSw); clear hSw; go_simp; (try (with_reducible rfl))
         try simp only [Act.put, List.setIfInBounds_toArray, List.set_cons_zero, List.set_cons_succ]
         refine tk 5 ?v86 ?y86 ?r86
         case y86 => intro w_ hSw; (try dsimp only at hSw); clear hSw; go_simp; (try (with_reducible rfl))
         try simp only [Act.put, List.setIfInBounds_toArray, List.set_cons_zero, List.set_cons_succ]
         refine tk 6 ?v87 ?y87 ?r87
         case y87 => intro w_ hSw; (try dsimp only at hSw); clear hSw; go_simp; (try (with_reducible rfl))
         try simp only [Act.put, List.setIfInBounds_toArray, List.set_cons_zero, List.set_cons_succ]
         refine tk 7 ?v88 ?y88 ?r88
         case y88 => intro w_ hSw; (try dsimp only at hSw); clear hSw; go_simp; (try (with_reducible rfl))
         try simp only [Act.put, List.setIfInBounds_toArray, List.set_cons_zero, List.set_cons_succ]
         refine tk 8 ?v89 ?y89 ?r89
         case y89 => intro w_ hSw; (try dsimp only at hSw); clear hSw; go_simp; (try (with_reducible rfl))
         try simp only [Act.put, List.setIfInBounds_toArray, List.set_cons_zero, List.set_cons_succ]
         refine tk 9 ?v90 ?y90 ?r90
         case y90 => intro w_ hSw; (try dsimp only at hSw); clear hSw; go_simp; (try (with_reducible rfl))
         try simp only [Act.put, List.setIfInBounds_toArray, List.set_cons_zero, List.set_cons_succ]
         refine tk 10 ?v91 ?y91 ?r91
         case y91 => intro w_ hSw; (try dsimp only at hSw); clear hSw; go_simp; (try (with_reducible rfl))
         try simp only [Act.put, List.setIfInBounds_toArray, List.set_cons_zero, List.set_cons_succ]
         refine tk 11 ?v92 ?y92 ?r92
         case y92 => intro w_ hSw; (try dsimp only at hSw); clear hSw; go_simp; (try (with_reducible rfl))
         try simp only [Act.put, List.setIfInBounds_toArray, List.set_cons_zero, List.set_cons_succ]
         refine tk 12 ?v93 ?y93 ?r93
         case y93 => intro w_ hSw; (try dsimp only at hSw); clear hSw; go_simp; (try (with_reducible rfl))
         try simp only [Act.put, List.setIfInBounds_toArray, List.set_cons_zero, List.set_cons_succ]
         refine tk 13 ?v94 ?y94 ?r94
         case y94 => intro w_ hSw; obtain ⟨e_0, e_1, e_2, e_3, e_4, e_5, e_6, e_7, e_8⟩ := HS78.out w_ hSw; clear hSw; go_simp; (try (with_reducible rfl))
         try simp only [Act.put, List.setIfInBounds_toArray, List.set_cons_zero, List.set_cons_succ]
         refine tk 14 ?v95 ?y95 ?r95
         case y95 => intro w_ hSw; (try dsimp only at hSw); clear hSw; go_simp; (try (with_reducible rfl))
         try simp only [Act.put, List.setIfInBounds_toArray, List.set_cons_zero, List.set_cons_succ]
         refine tk 15 ?v96 ?y96 ?r96
         case y96 => intro w_ hSw; obtain ⟨e_0, e_1, e_2, e_3, e_4, e_5, e_6, e_7, e_8⟩ := HS78.out w_ hSw; clear hSw; go_simp; (try (with_reducible rfl))
         try simp only [Act.put, List.setIfInBounds_toArray, List.set_cons_zero, List.set_cons_succ]
         refine tk 16 ?v97 ?y97 ?r97
         case y97 => intro w_ hSw; (try dsimp only at hSw); clear hSw; go_simp; (try (with_reducible rfl))
         try simp only [Act.put, List.setIfInBounds_toArray, List.set_cons_zero, List.set_cons_succ]
         refine tk 17 ?v98 ?y98 ?r98
         case y98 => intro w_ hSw; (try dsimp only at hSw); clear hSw; go_simp; (try (with_reducible rfl))
         try simp only [Act.put, List.setIfInBounds_toArray, List.set_cons_zero, List.set_cons_succ]
         refine tk 18 ?v99 ?y99 ?r99
         case y99 => intro w_ hSw; (try dsimp only at hSw); clear hSw; go_simp; (try (with_reducible rfl))
         try simp only [Act.put, List.setIfInBounds_toArray, List.set_cons_zero, List.set_cons_succ]
         refine tk 19 ?v100 ?y100 ?r100
         case y100 => intro w_ hSw; (try dsimp only at hSw); clear hSw; go_simp; (try (with_reducible rfl))
         try simp only [Act.put, List.setIfInBounds_toArray, List.set_cons_zero, List.set_cons_succ]
         refine tk 20 ?v101 ?y101 ?r101
         case y101 => intro w_ hSw; obtain ⟨e_0, e_1, e_2, e_3, e_4, e_5, e_6, e_7, e_8⟩ := HS78.out w_ hSw; clear hSw; go_simp; (try (with_reducible rfl))
         try simp only [Act.put, List.setIfInBounds_toArray, List.set_cons_zero, List.set_cons_succ]
         refine tk 21 ?v102 ?y102 ?r102
         case y102 => intro w_ hSw; (try dsimp only at hSw); clear hSw; go_simp; (try (with_reducible rfl))
         try simp only [Act.put, List.setIfInBounds_toArray, List.set_cons_zero, List.set_cons_succ]
         refine tk 22 ?v103 ?y103 ?r103
         case y103 => intro w_ hSw; obtain ⟨e_0, e_1, e_2, e_3, e_4, e_5, e_6, e_7, e_8⟩ := HS78.out w_ hSw; clear hSw; go_simp; (try (with_reducible rfl))
         try simp only [Act.put, List.setIfInBounds_toArray, List.set_cons_zero, List.set_cons_succ]
         refine tk 23 ?v104 ?y104 ?r104
         case y104 => intro w_ hSw; (try dsimp only at hSw); clear hSw; go_simp; (try (with_reducible rfl))
         try simp only [Act.put, List.setIfInBounds_toArray, List.set_cons_zero, List.set_cons_succ]
         refine tk 24 ?v105 ?y105 ?r105
         case y105 => intro w_ hSw; (try dsimp only at hSw); clear hSw; go_simp; (try (with_reducible rfl))
         try simp only [Act.put, List.setIfInBounds_toArray, List.set_cons_zero, List.set_cons_succ]
         refine tk 25 ?v106 ?y106 ?r106
         case y106 => intro w_ hSw; (try dsimp only at hSw); clear hSw; go_simp; (try (with_reducible rfl))
         try simp only [Act.put, List.setIfInBounds_toArray, List.set_cons_zero, List.set_cons_succ]
         refine tk 26 ?v107 ?y107 ?r107
         case y107 => intro w_ hSw; (try dsimp only at hSw); clear hSw; go_simp; (try (with_reducible rfl))
         try simp only [Act.put, List.setIfInBounds_toArray, List.set_cons_zero, List.set_cons_succ]
         refine tk 27 ?v108 ?y108 ?r108
         case y108 => intro w_ hSw; obtain ⟨e_0, e_1, e_2, e_3, e_4, e_5, e_6, e_7, e_8⟩ := HS78.out w_ hSw; clear hSw; go_simp; (try (with_reducible rfl))
         try simp only [Act.put, List.setIfInBounds_toArray, List.set_cons_zero, List.set_cons_succ]
         refine tk 29 ?v109 ?y109 ?r109
         case y109 => intro w_ hSw; obtain ⟨e_0, e_1, e_2, e_3, e_4, e_5, e_6, e_7, e_8⟩ := HS78.out w_ hSw; clear hSw; go_simp; (try (with_reducible rfl))
         try simp only [Act.put, List.setIfInBounds_toArray, List.set_cons_zero, List.set_cons_succ]
         refine tk 31 ?v110 ?y110 ?r110
         case y110 => intro w_ hSw; (try dsimp only at hSw); clear hSw; go_simp; (try (with_reducible rfl))
         try simp only [Act.put, List.setIfInBounds_toArray, List.set_cons_zero, List.set_cons_succ]
         refine tk 32 ?v111 ?y111 ?r111
         case y111 => intro w_ hSw; obtain ⟨e_0, e_1, e_2, e_3, e_4, e_5, e_6, e_7, e_8⟩ := HS78.out w_ hSw; clear hSw; go_simp; (try (with_reducible rfl))
         try simp only [Act.put, List.setIfInBounds_toArray, List.set_cons_zero, List.set_cons_succ]
         refine tk 33 ?v112 ?y112 ?r112
         case y112 => intro w_ hSw; (try dsimp only at hSw); clear hSw; go_simp; (try (with_reducible rfl))
         try simp only [Act.put, List.setIfInBounds_toArray, List.set_cons_zero, List.set_cons_succ]
         refine rdy (rs := [28]) ?_
         refine rc (fun K hK => ?k113) AllReadyH.nil
         case k113 =>
          go_simp
          refine Calls.mono (hmx _ (bel_then HBo.out HB.out) (Kd.R_reads' RX.out).2.2) ?_
          rintro e V28 ⟨rfl, bV28⟩
          replace FX := Aside0.mk (below_blk FX.out bV28)
          replace FS := Aside0.mk (below_blk FS.out bV28)
          replace FM := Aside0.mk (below_blk FM.out bV28)
          replace RX := Aside0.mk (Kd.R_below RX.out bV28)
          replace RD := Aside0.mk (Kd.R_below RD.out bV28)
          replace HB := Aside0.mk (bel_then HB.out bV28)
          replace HL := Aside0.mk (Nat.le_trans HL.out bV28.size)
          clear bV28
          refine hK.out _ _ ?h114 (fun hHeld => ?j114)
          case h114 => exact ⟨FX.out, FS.out, FM.out, HB.out.block _ ltd⟩
          clear hK K
          try simp only [Act.put, List.setIfInBounds_toArray, List.set_cons_zero, List.set_cons_succ]
          refine rdy (rs := [30]) ?_
          refine rc (fun K hK => ?k115) AllReadyH.nil
          case k115 =>
           go_simp
           refine Calls.mono (hms _ (bel_then HBo.out HB.out)) ?_
           rintro e V30 ⟨rfl, bV30⟩
           replace FX := Aside0.mk (below_blk FX.out bV30)
           replace FS := Aside0.mk (below_blk FS.out bV30)
           replace FM := Aside0.mk (below_blk FM.out bV30)
           replace RX := Aside0.mk (Kd.R_below RX.out bV30)
           replace RD := Aside0.mk (Kd.R_below RD.out bV30)
           replace HB := Aside0.mk (bel_then HB.out bV30)
           replace HL := Aside0.mk (Nat.le_trans HL.out bV30.size)
           clear bV30
           refine hK.out _ _ ?h116 (fun hHeld => ?j116)
           case h116 => exact ⟨FX.out, FS.out, FM.out, HB.out.block _ ltd⟩
           clear hK K
           try simp only [Act.put, List.setIfInBounds_toArray, List.set_cons_zero, List.set_cons_succ]
           refine tk 34 ?v117 ?y117 ?r117
           case y117 => intro w_ hSw; (try dsimp only at hSw); clear hSw; go_simp; (try (with_reducible rfl))
           try simp only [Act.put, List.setIfInBounds_toArray, List.set_cons_zero, List.set_cons_succ]
           refine tk 35 ?v118 ?y118 ?r118
           case y118 => intro w_ hSw; (try dsimp only at hSw); clear hSw; go_simp; (try (with_reducible rfl))
           try simp only [Act.put, List.setIfInBounds_toArray, List.set_cons_zero, List.set_cons_succ]
           refine tk 36 ?v119 ?y119 ?r119
           case y119 => intro w_ hSw; (try dsimp only at hSw); clear hSw; go_simp; (try (with_reducible rfl))
           try simp only [Act.put, List.setIfInBounds_toArray, List.set_cons_zero, List.set_cons_succ]
           refine tk 37 ?v120 ?y120 ?r120
           case y120 => intro w_ hSw; (try dsimp only at hSw); clear hSw; go_simp; (try (with_reducible rfl))
           try simp only [Act.put, List.setIfInBounds_toArray, List.set_cons_zero, List.set_cons_succ]
           refine wpAnyH_done (by kernel_rfl) ?_ _
           clear pd
           go_wp2
           go_ret
           exact ⟨rfl, BW.out.trans ((bel_then HBo.out HB.out).mono SZ.out)⟩

end Go.Proofs.YtiaibgkpohmihaaGreatDoor
