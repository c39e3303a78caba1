/- The laws' copies of their arguments into the program's own types: contracts. -/
import Derived.Test.YtoppgnmnbbhghaaGreatDoorSz
namespace Go.Proofs.YtoppgnmnbbhghaaGreatDoor
open Go.RowKit Go.Proofs.YtoppgnmnbbhghaaGreatDoorW.PrintWords
set_option linter.unusedVariables false
set_option linter.unusedSimpArgs false

set_option maxRecDepth 100000 in
set_option maxHeartbeats 2000000 in
theorem toAddr_any (x : SAddr)  (w : World) (hw : fitAddr x)  :
    Calls Tryz.prog 118 #[.agg #[.string x.f0, .string x.f1]] w fun e w' => e = .returned (.agg #[.string x.f0, .string x.f1]) ∧ Below w.heap.size w w' := by
  unfold fitAddr at hw
  obtain ⟨hw_0, hw_1⟩ := hw
  have L0 : Below w.heap.size w w := Below.refl _ _
  go_enter Tryz.func118, Tryz.ntmps118
  go_wp2
  refine bodyPost_ret (v := .agg #[.string x.f0, .string x.f1]) ?hr rfl ?hp
  case hr => simp [results, Tryz.results118, go_sem]
  case hp => exact ⟨rfl, by (with_reducible repeat (first | exact L0 | refine bel_alloc ?_ _ | refine bel_set ?_ _ ?_)); all_goals (first | (simp; done) | (simp; omega) | omega)⟩
set_option maxRecDepth 100000 in
set_option maxHeartbeats 2000000 in
theorem toStringS_any (A : Option Addr) (c : Nat) (xs : List ByteArray) (w : World) (hw : (xs.length ≤ 1048576 ∧ ∀ y ∈ xs, y.size ≤ 1048576)) (hr : Kd.C Kd.string w A xs.length xs) :
    Calls Tryz.prog 120 #[.slice A xs.length c] w fun e w' => ∃ B d, e = .returned (.slice B xs.length d) ∧ Kd.R Kd.string 9 w' w.heap.size (fun _ => True) (.slice B xs.length d) xs ∧ Below w.heap.size w w' := by
  obtain ⟨hwl, hwx⟩ := hw
  have HX := Lib.hid hwx
  clear hwx
  have B0 := Below.refl w.heap.size w
  go_enter Tryz.func120, Tryz.ntmps120
  go_wp2_with ((with_reducible refine gate_dst (N := 7) rfl ?_); refine Kd.R_make Kd.string _ 9 rfl (N := 7) rfl 26 _ _ rfl (xs.length : Int) rfl rfl Tryz.underlying26 (.string ⟨#[]⟩) 16 info9 rfl (by decide) (by omega) (⟨#[]⟩ : ByteArray) (ok := fun _ => True) (okp := fun _ => True) rfl (fun _ hk => hk) trivial (by omega) (by omega) (Below.refl _ _) (Nat.le_refl _) ?_; intro v w1 ho hb hg hn; have HO := Aside0.mk ho; have HB := Aside0.mk hb; clear ho hb hg hn)
  rw [Int.toNat_natCast, ← filled_zero xs (⟨#[]⟩ : ByteArray)] at HO
  go_loopg [4] (xs.length) (fun g i wr => ∃ k : Nat, k ≤ xs.length ∧ xs.length - k ≤ g ∧ i = .int .i64 k ∧ Aside0 (Kd.R Kd.string 9 wr w.heap.size (fun _ => True) v (filled xs (⟨#[]⟩ : ByteArray) k)) ∧ Aside0 (Below w.heap.size w wr))
  case atStart => exact ⟨0, Nat.zero_le _, by omega, rfl, HO, HB⟩
  case round =>
    clear HO HB
    obtain ⟨k, hk, hg, rfl, HO, BW⟩ := hrel
    by_cases hlt : k < xs.length
    · obtain ⟨ad, e1, p0⟩ := at_Str (Kd.C_below hr BW.out) k hlt
      subst e1
      have hx := HX.out (xs.getD k (⟨#[]⟩ : ByteArray)) (getD_mem xs (⟨#[]⟩ : ByteArray) hlt)
      have hn := filled_length xs (⟨#[]⟩ : ByteArray) k hk
      have hs := filled_step xs (⟨#[]⟩ : ByteArray) k hlt
      generalize xs.getD k (⟨#[]⟩ : ByteArray) = y at hx hs p0
      obtain ⟨gb, co, eo, gb1, gb2, _⟩ := Kd.R_form HO.out (by omega)
      rw [hn] at eo
      subst eo
      clear hn
      generalize filled xs (⟨#[]⟩ : ByteArray) k = ys at HO hs
      have HS := Lib.hid hs
      clear hs
      have HO2 := HO
      have B2 := BW
      clear hx
      obtain ⟨cc, hcl, hM, hcc, hfr⟩ := Kd.R_elem HO2.out (⟨#[]⟩ : ByteArray) (k : Int) (by omega) (by omega)
      have hM' : cc = [.string (ys.getD (Int.toNat (k : Int)) (⟨#[]⟩ : ByteArray))] := hM
      subst hM'
      have cf : wr.cell? ⟨gb, k, none⟩ = some (.string (ys.getD (Int.toNat (k : Int)) (⟨#[]⟩ : ByteArray))) := by have := hcc 0 _ rfl; rwa [show Int.toNat (k : Int) * (Kd.string).sz + 0 = k from by show Int.toNat (k : Int) * 1 + 0 = k; omega] at this
      have ff : wr.frozen? ⟨gb, k, none⟩ = false := by have := hfr 0; rwa [show Int.toNat (k : Int) * (Kd.string).sz + 0 = k from by show Int.toNat (k : Int) * 1 + 0 = k; omega] at this
      have HO3 := Aside0.mk (R_cell Kd.string (Value.string) (fun _ => rfl) HO2.out k hlt y)
      have B3 := Aside0.mk (bel_set B2.out (p := ⟨gb, k, none⟩) (.string y) gb1)
      clear hcl hcc hfr hM
      go_wp2
      go_roundg (xs.length - (k + 1))
      case measure => omega
      case rel => exact ⟨k + 1, by omega, Nat.le_refl _, by go_num, ⟨by rw [← HS.out]; exact HO3.out⟩, B3⟩
    · obtain rfl : k = xs.length := by omega
      rw [filled_all] at HO
      go_wp2
      go_ret
      obtain ⟨B, d, rfl⟩ := Kd.R_slice HO.out
      exact ⟨B, d, rfl, HO.out, BW.out⟩
set_option maxRecDepth 100000 in
set_option maxHeartbeats 2000000 in
theorem toIntS_any (A : Option Addr) (c : Nat) (xs : List Int) (w : World) (hw : (xs.length ≤ 1048576 ∧ ∀ y ∈ xs, (Lit.int .i64 y).wf = true)) (hr : Kd.C (Kd.int .i64) w A xs.length xs) :
    Calls Tryz.prog 68 #[.slice A xs.length c] w fun e w' => ∃ B d, e = .returned (.slice B xs.length d) ∧ Kd.R (Kd.int .i64) 3 w' w.heap.size (fun _ => True) (.slice B xs.length d) xs ∧ Below w.heap.size w w' := by
  obtain ⟨hwl, hwx⟩ := hw
  have HX := Lib.hid hwx
  clear hwx
  have B0 := Below.refl w.heap.size w
  go_enter Tryz.func68, Tryz.ntmps68
  go_wp2_with ((with_reducible refine gate_dst (N := 7) rfl ?_); refine Kd.R_make (Kd.int .i64) _ 3 rfl (N := 7) rfl 29 _ _ rfl (xs.length : Int) rfl rfl Tryz.underlying29 (.int .i64 0) 8 info3 rfl (by decide) (by omega) (0 : Int) (ok := fun _ => True) (okp := fun _ => True) rfl (fun _ hk => hk) trivial (by omega) (by omega) (Below.refl _ _) (Nat.le_refl _) ?_; intro v w1 ho hb hg hn; have HO := Aside0.mk ho; have HB := Aside0.mk hb; clear ho hb hg hn)
  rw [Int.toNat_natCast, ← filled_zero xs (0 : Int)] at HO
  go_loopg [4] (xs.length) (fun g i wr => ∃ k : Nat, k ≤ xs.length ∧ xs.length - k ≤ g ∧ i = .int .i64 k ∧ Aside0 (Kd.R (Kd.int .i64) 3 wr w.heap.size (fun _ => True) v (filled xs (0 : Int) k)) ∧ Aside0 (Below w.heap.size w wr))
  case atStart => exact ⟨0, Nat.zero_le _, by omega, rfl, HO, HB⟩
  case round =>
    clear HO HB
    obtain ⟨k, hk, hg, rfl, HO, BW⟩ := hrel
    by_cases hlt : k < xs.length
    · obtain ⟨ad, e1, p0⟩ := at_Int (Kd.C_below hr BW.out) k hlt
      subst e1
      have hx := HX.out (xs.getD k (0 : Int)) (getD_mem xs (0 : Int) hlt)
      have hn := filled_length xs (0 : Int) k hk
      have hs := filled_step xs (0 : Int) k hlt
      generalize xs.getD k (0 : Int) = y at hx hs p0
      obtain ⟨gb, co, eo, gb1, gb2, _⟩ := Kd.R_form HO.out (by omega)
      rw [hn] at eo
      subst eo
      clear hn
      generalize filled xs (0 : Int) k = ys at HO hs
      have HS := Lib.hid hs
      clear hs
      have HO2 := HO
      have B2 := BW
      clear hx
      obtain ⟨cc, hcl, hM, hcc, hfr⟩ := Kd.R_elem HO2.out (0 : Int) (k : Int) (by omega) (by omega)
      have hM' : cc = [.int .i64 (ys.getD (Int.toNat (k : Int)) (0 : Int))] := hM
      subst hM'
      have cf : wr.cell? ⟨gb, k, none⟩ = some (.int .i64 (ys.getD (Int.toNat (k : Int)) (0 : Int))) := by have := hcc 0 _ rfl; rwa [show Int.toNat (k : Int) * ((Kd.int .i64)).sz + 0 = k from by show Int.toNat (k : Int) * 1 + 0 = k; omega] at this
      have ff : wr.frozen? ⟨gb, k, none⟩ = false := by have := hfr 0; rwa [show Int.toNat (k : Int) * ((Kd.int .i64)).sz + 0 = k from by show Int.toNat (k : Int) * 1 + 0 = k; omega] at this
      have HO3 := Aside0.mk (R_cell (Kd.int .i64) (Value.int .i64) (fun _ => rfl) HO2.out k hlt y)
      have B3 := Aside0.mk (bel_set B2.out (p := ⟨gb, k, none⟩) (.int .i64 y) gb1)
      clear hcl hcc hfr hM
      go_wp2
      go_roundg (xs.length - (k + 1))
      case measure => omega
      case rel => exact ⟨k + 1, by omega, Nat.le_refl _, by go_num, ⟨by rw [← HS.out]; exact HO3.out⟩, B3⟩
    · obtain rfl : k = xs.length := by omega
      rw [filled_all] at HO
      go_wp2
      go_ret
      obtain ⟨B, d, rfl⟩ := Kd.R_slice HO.out
      exact ⟨B, d, rfl, HO.out, BW.out⟩
set_option maxRecDepth 100000 in
set_option maxHeartbeats 2000000 in
theorem toAddrS_any (A : Option Addr) (c : Nat) (xs : List SAddr) (w : World) (hw : (xs.length ≤ 1048576 ∧ ∀ y ∈ xs, fitAddr y)) (hr : Kd.C kAddr w A xs.length xs) :
    Calls Tryz.prog 119 #[.slice A xs.length c] w fun e w' => ∃ B d, e = .returned (.slice B xs.length d) ∧ Kd.R kAddr 24 w' w.heap.size (fun _ => True) (.slice B xs.length d) xs ∧ Below w.heap.size w w' := by
  obtain ⟨hwl, hwx⟩ := hw
  have HX := Lib.hid hwx
  clear hwx
  have B0 := Below.refl w.heap.size w
  go_enter Tryz.func119, Tryz.ntmps119
  go_wp2_with ((with_reducible refine gate_dst (N := 7) rfl ?_); refine Kd.R_make kAddr _ 24 rfl (N := 7) rfl 25 _ _ rfl (xs.length : Int) rfl rfl Tryz.underlying25 (.agg #[(.string ⟨#[]⟩), (.string ⟨#[]⟩)]) 32 info24 rfl (by decide) (by omega) zAddr (ok := fun _ => True) (okp := fun _ => True) (kAddr_mkM _ _ _ zAddr ) (fun _ hk => hk) trivial (by omega) (by omega) (Below.refl _ _) (Nat.le_refl _) ?_; intro v w1 ho hb hg hn; have HO := Aside0.mk ho; have HB := Aside0.mk hb; clear ho hb hg hn)
  rw [Int.toNat_natCast, ← filled_zero xs zAddr] at HO
  go_loopg [4] (xs.length) (fun g i wr => ∃ k : Nat, k ≤ xs.length ∧ xs.length - k ≤ g ∧ i = .int .i64 k ∧ Aside0 (Kd.R kAddr 24 wr w.heap.size (fun _ => True) v (filled xs zAddr k)) ∧ Aside0 (Below w.heap.size w wr))
  case atStart => exact ⟨0, Nat.zero_le _, by omega, rfl, HO, HB⟩
  case round =>
    clear HO HB
    obtain ⟨k, hk, hg, rfl, HO, BW⟩ := hrel
    by_cases hlt : k < xs.length
    · obtain ⟨ad, e1, p0, p1⟩ := at_Addr (Kd.C_below hr BW.out) k hlt
      subst e1
      have hx := HX.out (xs.getD k zAddr) (getD_mem xs zAddr hlt)
      have hn := filled_length xs zAddr k hk
      have hs := filled_step xs zAddr k hlt
      generalize xs.getD k zAddr = y at hx hs p0 p1
      obtain ⟨gb, co, eo, gb1, gb2, _⟩ := Kd.R_form HO.out (by omega)
      rw [hn] at eo
      subst eo
      clear hn
      generalize filled xs zAddr k = ys at HO hs
      have HS := Lib.hid hs
      clear hs
      have hcall := toAddr_any y  wr hx 
      clear hx 
      go_wp2_with fail
      refine hcall.mono ?_
      rintro e w2 ⟨rfl, b2⟩
      have HO2 := Aside0.mk (Kd.R_below HO.out b2)
      have B2 := Aside0.mk (bel_then BW.out b2)
      have gb3 : gb < w2.heap.size := Nat.lt_of_lt_of_le gb2 b2.size
      clear b2 hcall
      go_wp2_with ((with_reducible refine gate_ (.store 24 (.tmp 21) (.tmp 20)) rfl ?_); refine R_put kAddr (w0 := w) w.heap.size zAddr rfl rfl 24 (.tmp 21) (.tmp 20) rfl 24 (g := gb) (n := xs.length) (cap := co) k ys y (.agg #[.string y.f0, .string y.f1]) [.string y.f0, .string y.f1] (fun _ => True) (fun k => True ∧ k ≠ gb) rfl ?hoff rfl rfl (by kernel_rfl) HO2.out (by omega) (kAddr_mkM _ _ _ y ) (fun _ h => h) B2.out ?_; (case hoff => first | rfl | (simp; done) | (simp; omega) | omega); intro w3 h1 h2 h3; have HO3 := Aside0.mk h1; have B3 := Aside0.mk h2; clear h1 h2 h3)
      go_roundg (xs.length - (k + 1))
      case measure => omega
      case rel => exact ⟨k + 1, by omega, Nat.le_refl _, by go_num, ⟨by rw [← HS.out]; exact HO3.out⟩, B3⟩
    · obtain rfl : k = xs.length := by omega
      rw [filled_all] at HO
      go_wp2
      go_ret
      obtain ⟨B, d, rfl⟩ := Kd.R_slice HO.out
      exact ⟨B, d, rfl, HO.out, BW.out⟩
set_option maxRecDepth 100000 in
set_option maxHeartbeats 2000000 in
theorem toMail_any (x : SMail) (A0 : Option Addr) (c0 : Nat) (A1 : Option Addr) (c1 : Nat) (w : World) (hw : fitMail x) (hr0 : Kd.C kAddr w A0 x.f1.length x.f1) (hr1 : Kd.C Kd.string w A1 x.f2.length x.f2) :
    Calls Tryz.prog 67 #[.agg #[.string x.f0.f0, .string x.f0.f1, .slice A0 x.f1.length c0, .slice A1 x.f2.length c1]] w fun e w' => ∃ B0 d0 B1 d1, e = .returned (.agg #[.string x.f0.f0, .string x.f0.f1, .slice B0 x.f1.length d0, .slice B1 x.f2.length d1]) ∧ Kd.R kAddr 24 w' w.heap.size (fun _ => True) (.slice B0 x.f1.length d0) x.f1 ∧ Kd.R Kd.string 9 w' w.heap.size (fun _ => True) (.slice B1 x.f2.length d1) x.f2 ∧ Below w.heap.size w w' := by
  unfold fitMail at hw
  obtain ⟨hw_0, hw_1, hw_2⟩ := hw
  have hc_0 := fun (W : World) (hW : Below w.heap.size w W) => toAddr_any x.f0  W hw_0 
  have hc_1 := fun (W : World) (hW : Below w.heap.size w W) => toAddrS_any A0 c0 x.f1 W hw_1 (Kd.C_below hr0 hW)
  have hc_2 := fun (W : World) (hW : Below w.heap.size w W) => toStringS_any A1 c1 x.f2 W hw_2 (Kd.C_below hr1 hW)
  clear hw_0 hw_1 hw_2 hr0 hr1
  have L0 : Below w.heap.size w w := Below.refl _ _
  go_enter Tryz.func67, Tryz.ntmps67
  go_wp2_with fail
  refine (hc_0 _ (by (with_reducible repeat (first | exact L0 | refine bel_alloc ?_ _ | refine bel_set ?_ _ ?_)); all_goals (first | (simp; done) | (simp; omega) | omega))).mono ?_
  rintro e w0 ⟨rfl, b0⟩
  have L1 : Below w.heap.size w w0 := bel_then (by (with_reducible repeat (first | exact L0 | refine bel_alloc ?_ _ | refine bel_set ?_ _ ?_)); all_goals (first | (simp; done) | (simp; omega) | omega)) b0
  obtain ⟨q0, p0⟩ := bcell b0
  have z0 : w.heap.size + 2 < w0.heap.size := by have := b0.size; (try simp at this); omega
  have y0 : w.heap.size + 1 < w0.heap.size := by omega
  have x0 : w.heap.size < w0.heap.size := by omega
  have H0 := Aside0.mk b0
  clear b0 hc_0
  go_wp2_with fail
  refine (hc_1 _ (by (with_reducible repeat (first | exact L1 | refine bel_alloc ?_ _ | refine bel_set ?_ _ ?_)); all_goals (first | (simp; done) | (simp; omega) | omega))).mono ?_
  rintro e w1 ⟨B0, d0, rfl, g0, b1⟩
  have L2 : Below w.heap.size w w1 := bel_then (by (with_reducible repeat (first | exact L1 | refine bel_alloc ?_ _ | refine bel_set ?_ _ ?_)); all_goals (first | (simp; done) | (simp; omega) | omega)) b1
  obtain ⟨q1, p1⟩ := bcell b1
  have z1 : w.heap.size + 2 < w1.heap.size := by have := b1.size; (try simp at this); omega
  have y1 : w.heap.size + 1 < w1.heap.size := by omega
  have x1 : w.heap.size < w1.heap.size := by omega
  have G0 := Aside0.mk (Kd.R_lower (base' := w.heap.size + 3) g0 (by first | (simp; done) | (simp; omega) | with_reducible exact Nat.le_refl _))
  clear g0
  have H1 := Aside0.mk b1
  clear b1 hc_1
  go_wp2_with fail
  refine (hc_2 _ (by (with_reducible repeat (first | exact L2 | refine bel_alloc ?_ _ | refine bel_set ?_ _ ?_)); all_goals (first | (simp; done) | (simp; omega) | omega))).mono ?_
  rintro e w2 ⟨B1, d1, rfl, g1, b2⟩
  have L3 : Below w.heap.size w w2 := bel_then (by (with_reducible repeat (first | exact L2 | refine bel_alloc ?_ _ | refine bel_set ?_ _ ?_)); all_goals (first | (simp; done) | (simp; omega) | omega)) b2
  obtain ⟨q2, p2⟩ := bcell b2
  have z2 : w.heap.size + 2 < w2.heap.size := by have := b2.size; (try simp at this); omega
  have y2 : w.heap.size + 1 < w2.heap.size := by omega
  have x2 : w.heap.size < w2.heap.size := by omega
  have G1 := Aside0.mk (Kd.R_lower (base' := w.heap.size + 3) g1 (by first | (simp; done) | (simp; omega) | with_reducible exact Nat.le_refl _))
  clear g1
  have H2 := Aside0.mk b2
  clear b2 hc_2
  go_wp2
  refine bodyPost_ret (v := .agg #[.string x.f0.f0, .string x.f0.f1, .slice B0 x.f1.length d0, .slice B1 x.f2.length d1]) ?hr rfl ?hp
  case hr => simp [results, Tryz.results67, go_sem, q0, x0, y0, z0, q1, x1, y1, z1, q2, x2, y2, z2]
  case hp => exact ⟨_, _, _, _, rfl, (Kd.R_lower (base := w.heap.size + 3) (by (with_reducible repeat (first | exact G0.out | refine R_setLow ?_ _ ?_ | refine Kd.R_below ?_ H0.out | refine Kd.R_below ?_ H1.out | refine Kd.R_below ?_ H2.out)); all_goals (first | (simp; done) | (simp; omega) | omega)) (by omega)), (Kd.R_lower (base := w.heap.size + 3) (by (with_reducible repeat (first | exact G1.out | refine R_setLow ?_ _ ?_ | refine Kd.R_below ?_ H0.out | refine Kd.R_below ?_ H1.out | refine Kd.R_below ?_ H2.out)); all_goals (first | (simp; done) | (simp; omega) | omega)) (by omega)), by (with_reducible repeat (first | exact L3 | refine bel_alloc ?_ _ | refine bel_set ?_ _ ?_)); all_goals (first | (simp; done) | (simp; omega) | omega)⟩
set_option maxRecDepth 100000 in
set_option maxHeartbeats 2000000 in
theorem toCli_any (x : SCli) (A0 : Option Addr) (c0 : Nat) (A1 : Option Addr) (c1 : Nat) (A2 : Option Addr) (c2 : Nat) (w : World) (hw : fitCli x) (hr0 : Kd.C kAddr w A0 x.f1.f1.length x.f1.f1) (hr1 : Kd.C Kd.string w A1 x.f1.f2.length x.f1.f2) (hr2 : Kd.C (Kd.int .i64) w A2 x.f4.length x.f4) :
    Calls Tryz.prog 27 #[.agg #[.string x.f0, .string x.f1.f0.f0, .string x.f1.f0.f1, .slice A0 x.f1.f1.length c0, .slice A1 x.f1.f2.length c1, .int .i64 x.f2, .int .i64 x.f3, .slice A2 x.f4.length c2]] w fun e w' => ∃ B0 d0 B1 d1 B2 d2, e = .returned (.agg #[.string x.f0, .string x.f1.f0.f0, .string x.f1.f0.f1, .slice B0 x.f1.f1.length d0, .slice B1 x.f1.f2.length d1, .int .i64 x.f2, .int .i64 x.f3, .slice B2 x.f4.length d2]) ∧ Kd.R kAddr 24 w' w.heap.size (fun _ => True) (.slice B0 x.f1.f1.length d0) x.f1.f1 ∧ Kd.R Kd.string 9 w' w.heap.size (fun _ => True) (.slice B1 x.f1.f2.length d1) x.f1.f2 ∧ Kd.R (Kd.int .i64) 3 w' w.heap.size (fun _ => True) (.slice B2 x.f4.length d2) x.f4 ∧ Below w.heap.size w w' := by
  unfold fitCli at hw
  obtain ⟨hw_0, hw_1, hw_2, hw_3, hw_4⟩ := hw
  have hc_1 := fun (W : World) (hW : Below w.heap.size w W) => toMail_any x.f1 A0 c0 A1 c1 W hw_1 (Kd.C_below hr0 hW) (Kd.C_below hr1 hW)
  have hc_4 := fun (W : World) (hW : Below w.heap.size w W) => toIntS_any A2 c2 x.f4 W hw_4 (Kd.C_below hr2 hW)
  clear hw_1 hw_4 hr0 hr1 hr2
  have L0 : Below w.heap.size w w := Below.refl _ _
  go_enter Tryz.func27, Tryz.ntmps27
  go_wp2_with fail
  refine (hc_1 _ (by (with_reducible repeat (first | exact L0 | refine bel_alloc ?_ _ | refine bel_set ?_ _ ?_)); all_goals (first | (simp; done) | (simp; omega) | omega))).mono ?_
  rintro e w1 ⟨B0, d0, B1, d1, rfl, g0, g1, b1⟩
  have L2 : Below w.heap.size w w1 := bel_then (by (with_reducible repeat (first | exact L0 | refine bel_alloc ?_ _ | refine bel_set ?_ _ ?_)); all_goals (first | (simp; done) | (simp; omega) | omega)) b1
  obtain ⟨q1, p1⟩ := bcell b1
  have z1 : w.heap.size + 2 < w1.heap.size := by have := b1.size; (try simp at this); omega
  have y1 : w.heap.size + 1 < w1.heap.size := by omega
  have x1 : w.heap.size < w1.heap.size := by omega
  have G0 := Aside0.mk (Kd.R_lower (base' := w.heap.size + 3) g0 (by first | (simp; done) | (simp; omega) | with_reducible exact Nat.le_refl _))
  clear g0
  have G1 := Aside0.mk (Kd.R_lower (base' := w.heap.size + 3) g1 (by first | (simp; done) | (simp; omega) | with_reducible exact Nat.le_refl _))
  clear g1
  have H1 := Aside0.mk b1
  clear b1 hc_1
  go_wp2_with fail
  refine (hc_4 _ (by (with_reducible repeat (first | exact L2 | refine bel_alloc ?_ _ | refine bel_set ?_ _ ?_)); all_goals (first | (simp; done) | (simp; omega) | omega))).mono ?_
  rintro e w4 ⟨B2, d2, rfl, g2, b4⟩
  have L5 : Below w.heap.size w w4 := bel_then (by (with_reducible repeat (first | exact L2 | refine bel_alloc ?_ _ | refine bel_set ?_ _ ?_)); all_goals (first | (simp; done) | (simp; omega) | omega)) b4
  obtain ⟨q4, p4⟩ := bcell b4
  have z4 : w.heap.size + 2 < w4.heap.size := by have := b4.size; (try simp at this); omega
  have y4 : w.heap.size + 1 < w4.heap.size := by omega
  have x4 : w.heap.size < w4.heap.size := by omega
  have G2 := Aside0.mk (Kd.R_lower (base' := w.heap.size + 3) g2 (by first | (simp; done) | (simp; omega) | with_reducible exact Nat.le_refl _))
  clear g2
  have H4 := Aside0.mk b4
  clear b4 hc_4
  go_wp2
  refine bodyPost_ret (v := .agg #[.string x.f0, .string x.f1.f0.f0, .string x.f1.f0.f1, .slice B0 x.f1.f1.length d0, .slice B1 x.f1.f2.length d1, .int .i64 x.f2, .int .i64 x.f3, .slice B2 x.f4.length d2]) ?hr rfl ?hp
  case hr => simp [results, Tryz.results27, go_sem, q1, x1, y1, z1, q4, x4, y4, z4]
  case hp => exact ⟨_, _, _, _, _, _, rfl, (Kd.R_lower (base := w.heap.size + 3) (by (with_reducible repeat (first | exact G0.out | refine R_setLow ?_ _ ?_ | refine Kd.R_below ?_ H1.out | refine Kd.R_below ?_ H4.out)); all_goals (first | (simp; done) | (simp; omega) | omega)) (by omega)), (Kd.R_lower (base := w.heap.size + 3) (by (with_reducible repeat (first | exact G1.out | refine R_setLow ?_ _ ?_ | refine Kd.R_below ?_ H1.out | refine Kd.R_below ?_ H4.out)); all_goals (first | (simp; done) | (simp; omega) | omega)) (by omega)), (Kd.R_lower (base := w.heap.size + 3) (by (with_reducible repeat (first | exact G2.out | refine R_setLow ?_ _ ?_ | refine Kd.R_below ?_ H1.out | refine Kd.R_below ?_ H4.out)); all_goals (first | (simp; done) | (simp; omega) | omega)) (by omega)), by (with_reducible repeat (first | exact L5 | refine bel_alloc ?_ _ | refine bel_set ?_ _ ?_)); all_goals (first | (simp; done) | (simp; omega) | omega)⟩
end Go.Proofs.YtoppgnmnbbhghaaGreatDoor
