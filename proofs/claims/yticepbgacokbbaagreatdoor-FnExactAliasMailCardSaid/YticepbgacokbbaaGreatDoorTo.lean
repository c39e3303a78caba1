/- The laws' copies of their arguments into the program's own types: contracts. -/
import Derived.Test.YticepbgacokbbaaGreatDoorSz
namespace Go.Proofs.YticepbgacokbbaaGreatDoor
open Go.RowKit Go.Proofs.YticepbgacokbbaaGreatDoorW.PrintWords
set_option linter.unusedVariables false
set_option linter.unusedSimpArgs false

set_option maxRecDepth 100000 in
set_option maxHeartbeats 2000000 in
theorem toAddr_any (x : SAddr)  (w : World) (hw : fitAddr x)  :
  Calls Tryz.prog 48 #[.agg #[.string x.f0, .string x.f1]] w fun e w' => e = .returned (.agg #[.string x.f0, .string x.f1]) ∧ Below w.heap.size w w' := by
 unfold fitAddr at hw
 obtain ⟨hw_0, hw_1⟩ := hw
 have L0 : Below w.heap.size w w := Below.refl _ _
 go_enter Tryz.func48, Tryz.ntmps48
 go_wp2
 refine bodyPost_ret (v := .agg #[.string x.f0, .string x.f1]) ?hr rfl ?hp
 case hr => simp [results, Tryz.results48, go_sem]
 case hp => exact ⟨rfl, by (with_reducible repeat (first | exact L0 | refine bel_alloc ?_ _ | refine bel_set ?_ _ ?_)); all_goals (first | (simp; done) | (simp; omega) | omega)⟩
set_option maxRecDepth 100000 in
set_option maxHeartbeats 2000000 in
theorem toStringS_any (A : Option Addr) (c : Nat) (xs : List ByteArray) (w : World) (hw : (xs.length ≤ 1048576 ∧ ∀ y ∈ xs, y.size ≤ 1048576)) (hr : Kd.C Kd.string w A xs.length xs) :
  Calls Tryz.prog 50 #[.slice A xs.length c] w fun e w' => ∃ B d, e = .returned (.slice B xs.length d) ∧ Kd.R Kd.string 9 w' w.heap.size (fun _ => True) (.slice B xs.length d) xs ∧ Below w.heap.size w w' := by
 obtain ⟨hwl, hwx⟩ := hw
 have HX := Lib.hid hwx
 clear hwx
 have B0 := Below.refl w.heap.size w
 go_enter Tryz.func50, Tryz.ntmps50
 go_wp2_with ((with_reducible refine gate_dst (N := 7) rfl ?_); refine Kd.R_make Kd.string _ 9 rfl (N := 7) rfl 27 _ _ rfl (xs.length : Int) rfl rfl Tryz.underlying27 (.string ⟨#[]⟩) 16 info9 rfl (by decide) (by omega) (⟨#[]⟩ : ByteArray) (ok := fun _ => True) (okp := fun _ => True) rfl (fun _ hk => hk) trivial (by omega) (by omega) (Below.refl _ _) (Nat.le_refl _) ?_; intro v w1 ho hb hg hn; have HO := Aside0.mk ho; have HB := Aside0.mk hb; clear ho hb hg hn)
 rw [Int.toNat_natCast, ← filled_zero xs (⟨#[]⟩ : ByteArray)] at HO
 go_loopg [4] (xs.length) (fun g i wr => ∃ k : Nat, k ≤ xs.length ∧ xs.length - k ≤ g ∧ i = .int .i64 k ∧ Aside0 (Kd.R Kd.string 9 wr w.heap.size (fun _ => True) v (filled xs (⟨#[]⟩ : ByteArray) k)) ∧ Aside0 (Below w.heap.size w wr))
 case atStart => exact ⟨0, Nat.zero_le _, by omega, rfl, HO, HB⟩
 case round =>
  clear HO HB
  obtain ⟨k, hk, hg, rfl, HO, BW⟩ := hrel
  by_cases hlt : k < xs.length
  ·obtain ⟨ad, e1, p0⟩ := at_Str (Kd.C_below hr BW.out) k hlt
   subst e1
   have hx := HX.out (xs.getD k (⟨#[]⟩ : ByteArray)) (getD_mem xs (⟨#[]⟩ : ByteArray) hlt)
   have hn := filled_length xs (⟨#[]⟩ : ByteArray) k hk
   have hs := filled_step xs (⟨#[]⟩ : ByteArray) k hlt
   generalize xs.getD k (⟨#[]⟩ : ByteArray) = y at hx hs p0
   obtain ⟨gb, co, eo, gb1, gb2, _⟩ := Kd.R_form HO.out (by omega)
   rw [hn] at eo
   subst eo
   clear hn
   generalize filled xs (⟨#[]⟩ : ByteArray) k = ys at HO hs
   have HS := Lib.hid hs
   clear hs
   have HO2 := HO
   have B2 := BW
   clear hx
   obtain ⟨cc, hcl, hM, hcc, hfr⟩ := Kd.R_elem HO2.out (⟨#[]⟩ : ByteArray) (k : Int) (by omega) (by omega)
   have hM' : cc = [.string (ys.getD (Int.toNat (k : Int)) (⟨#[]⟩ : ByteArray))] := hM
   subst hM'
   have cf : wr.cell? ⟨gb, k, none⟩ = some (.string (ys.getD (Int.toNat (k : Int)) (⟨#[]⟩ : ByteArray))) := by have := hcc 0 _ rfl; rwa [show Int.toNat (k : Int) * (Kd.string).sz + 0 = k from by show Int.toNat (k : Int) * 1 + 0 = k; omega] at this
   have ff : wr.frozen? ⟨gb, k, none⟩ = false := by have := hfr 0; rwa [show Int.toNat (k : Int) * (Kd.string).sz + 0 = k from by show Int.toNat (k : Int) * 1 + 0 = k; omega] at this
   have HO3 := Aside0.mk (R_cell Kd.string (Value.string) (fun _ => rfl) HO2.out k hlt y)
   have B3 := Aside0.mk (bel_set B2.out (p := ⟨gb, k, none⟩) (.string y) gb1)
   clear hcl hcc hfr hM
   go_wp2
   go_roundg (xs.length - (k + 1))
   case measure => omega
   case rel => exact ⟨k + 1, by omega, Nat.le_refl _, by go_num, ⟨by rw [← HS.out]; exact HO3.out⟩, B3⟩
  ·obtain rfl : k = xs.length := by omega
   rw [filled_all] at HO
   go_wp2
   go_ret
   obtain ⟨B, d, rfl⟩ := Kd.R_slice HO.out
   exact ⟨B, d, rfl, HO.out, BW.out⟩
set_option maxRecDepth 100000 in
set_option maxHeartbeats 2000000 in
theorem toAddrS_any (A : Option Addr) (c : Nat) (xs : List SAddr) (w : World) (hw : (xs.length ≤ 1048576 ∧ ∀ y ∈ xs, fitAddr y)) (hr : Kd.C kAddr w A xs.length xs) :
  Calls Tryz.prog 49 #[.slice A xs.length c] w fun e w' => ∃ B d, e = .returned (.slice B xs.length d) ∧ Kd.R kAddr 25 w' w.heap.size (fun _ => True) (.slice B xs.length d) xs ∧ Below w.heap.size w w' := by
 obtain ⟨hwl, hwx⟩ := hw
 have HX := Lib.hid hwx
 clear hwx
 have B0 := Below.refl w.heap.size w
 go_enter Tryz.func49, Tryz.ntmps49
 go_wp2_with ((with_reducible refine gate_dst (N := 7) rfl ?_); refine Kd.R_make kAddr _ 25 rfl (N := 7) rfl 26 _ _ rfl (xs.length : Int) rfl rfl Tryz.underlying26 (.agg #[(.string ⟨#[]⟩), (.string ⟨#[]⟩)]) 32 info25 rfl (by decide) (by omega) zAddr (ok := fun _ => True) (okp := fun _ => True) (kAddr_mkM _ _ _ zAddr ) (fun _ hk => hk) trivial (by omega) (by omega) (Below.refl _ _) (Nat.le_refl _) ?_; intro v w1 ho hb hg hn; have HO := Aside0.mk ho; have HB := Aside0.mk hb; clear ho hb hg hn)
 rw [Int.toNat_natCast, ← filled_zero xs zAddr] at HO
 go_loopg [4] (xs.length) (fun g i wr => ∃ k : Nat, k ≤ xs.length ∧ xs.length - k ≤ g ∧ i = .int .i64 k ∧ Aside0 (Kd.R kAddr 25 wr w.heap.size (fun _ => True) v (filled xs zAddr k)) ∧ Aside0 (Below w.heap.size w wr))
 case atStart => exact ⟨0, Nat.zero_le _, by omega, rfl, HO, HB⟩
 case round =>
  clear HO HB
  obtain ⟨k, hk, hg, rfl, HO, BW⟩ := hrel
  by_cases hlt : k < xs.length
  ·obtain ⟨ad, e1, p0, p1⟩ := at_Addr (Kd.C_below hr BW.out) k hlt
   subst e1
   have hx := HX.out (xs.getD k zAddr) (getD_mem xs zAddr hlt)
   have hn := filled_length xs zAddr k hk
   have hs := filled_step xs zAddr k hlt
   generalize xs.getD k zAddr = y at hx hs p0 p1
   obtain ⟨gb, co, eo, gb1, gb2, _⟩ := Kd.R_form HO.out (by omega)
   rw [hn] at eo
   subst eo
   clear hn
   generalize filled xs zAddr k = ys at HO hs
   have HS := Lib.hid hs
   clear hs
   have hcall := toAddr_any y  wr hx 
   clear hx 
   go_wp2_with fail
   refine hcall.mono ?_
   rintro e w2 ⟨rfl, b2⟩
   have HO2 := Aside0.mk (Kd.R_below HO.out b2)
   have B2 := Aside0.mk (bel_then BW.out b2)
   have gb3 : gb < w2.heap.size := Nat.lt_of_lt_of_le gb2 b2.size
   clear b2 hcall
   go_wp2_with ((with_reducible refine gate_ (.store 25 (.tmp 21) (.tmp 20)) rfl ?_); refine R_put kAddr (w0 := w) w.heap.size zAddr rfl rfl 25 (.tmp 21) (.tmp 20) rfl 25 (g := gb) (n := xs.length) (cap := co) k ys y (.agg #[.string y.f0, .string y.f1]) [.string y.f0, .string y.f1] (fun _ => True) (fun k => True ∧ k ≠ gb) rfl ?hoff rfl rfl (by kernel_rfl) HO2.out (by omega) (kAddr_mkM _ _ _ y ) (fun _ h => h) B2.out ?_; (case hoff => first | rfl | (simp; done) | (simp; omega) | omega); intro w3 h1 h2 h3; have HO3 := Aside0.mk h1; have B3 := Aside0.mk h2; clear h1 h2 h3)
   go_roundg (xs.length - (k + 1))
   case measure => omega
   case rel => exact ⟨k + 1, by omega, Nat.le_refl _, by go_num, ⟨by rw [← HS.out]; exact HO3.out⟩, B3⟩
  ·obtain rfl : k = xs.length := by omega
   rw [filled_all] at HO
   go_wp2
   go_ret
   obtain ⟨B, d, rfl⟩ := Kd.R_slice HO.out
   exact ⟨B, d, rfl, HO.out, BW.out⟩
set_option maxRecDepth 100000 in
set_option maxHeartbeats 2000000 in
theorem toAlias_any (x : SAlias) (A0 : Option Addr) (c0 : Nat) (w : World) (hw : fitAlias x) (hr0 : Kd.C kAddr w A0 x.f1.length x.f1) :
  Calls Tryz.prog 47 #[.agg #[.string x.f0.f0, .string x.f0.f1, .slice A0 x.f1.length c0]] w fun e w' => ∃ B0 d0, e = .returned (.agg #[.string x.f0.f0, .string x.f0.f1, .slice B0 x.f1.length d0]) ∧ Kd.R kAddr 25 w' w.heap.size (fun _ => True) (.slice B0 x.f1.length d0) x.f1 ∧ Below w.heap.size w w' := by
 unfold fitAlias at hw
 obtain ⟨hw_0, hw_1⟩ := hw
 have hc_0 := fun (W : World) (hW : Below w.heap.size w W) => toAddr_any x.f0  W hw_0 
 have hc_1 := fun (W : World) (hW : Below w.heap.size w W) => toAddrS_any A0 c0 x.f1 W hw_1 (Kd.C_below hr0 hW)
 clear hw_0 hw_1 hr0
 have L0 : Below w.heap.size w w := Below.refl _ _
 go_enter Tryz.func47, Tryz.ntmps47
 go_wp2_with fail
 refine (hc_0 _ (by (with_reducible repeat (first | exact L0 | refine bel_alloc ?_ _ | refine bel_set ?_ _ ?_)); all_goals (first | (simp; done) | (simp; omega) | omega))).mono ?_
 rintro e w0 ⟨rfl, b0⟩
 have L1 : Below w.heap.size w w0 := bel_then (by (with_reducible repeat (first | exact L0 | refine bel_alloc ?_ _ | refine bel_set ?_ _ ?_)); all_goals (first | (simp; done) | (simp; omega) | omega)) b0
 obtain ⟨q0, p0⟩ := bcell b0
 have z0 : w.heap.size + 2 < w0.heap.size := by have := b0.size; (try simp at this); omega
 have y0 : w.heap.size + 1 < w0.heap.size := by omega
 have x0 : w.heap.size < w0.heap.size := by omega
 have H0 := Aside0.mk b0
 clear b0 hc_0
 go_wp2_with fail
 refine (hc_1 _ (by (with_reducible repeat (first | exact L1 | refine bel_alloc ?_ _ | refine bel_set ?_ _ ?_)); all_goals (first | (simp; done) | (simp; omega) | omega))).mono ?_
 rintro e w1 ⟨B0, d0, rfl, g0, b1⟩
 have L2 : Below w.heap.size w w1 := bel_then (by (with_reducible repeat (first | exact L1 | refine bel_alloc ?_ _ | refine bel_set ?_ _ ?_)); all_goals (first | (simp; done) | (simp; omega) | omega)) b1
 obtain ⟨q1, p1⟩ := bcell b1
 have z1 : w.heap.size + 2 < w1.heap.size := by have := b1.size; (try simp at this); omega
 have y1 : w.heap.size + 1 < w1.heap.size := by omega
 have x1 : w.heap.size < w1.heap.size := by omega
 have G0 := Aside0.mk (Kd.R_lower (base' := w.heap.size + 3) g0 (by first | (simp; done) | (simp; omega) | with_reducible exact Nat.le_refl _))
 clear g0
 have H1 := Aside0.mk b1
 clear b1 hc_1
 go_wp2
 refine bodyPost_ret (v := .agg #[.string x.f0.f0, .string x.f0.f1, .slice B0 x.f1.length d0]) ?hr rfl ?hp
 case hr => simp [results, Tryz.results47, go_sem, q0, x0, y0, z0, q1, x1, y1, z1]
 case hp => exact ⟨_, _, rfl, (Kd.R_lower (base := w.heap.size + 3) (by (with_reducible repeat (first | exact G0.out | refine R_setLow ?_ _ ?_ | refine Kd.R_below ?_ H0.out | refine Kd.R_below ?_ H1.out)); all_goals (first | (simp; done) | (simp; omega) | omega)) (by omega)), by (with_reducible repeat (first | exact L2 | refine bel_alloc ?_ _ | refine bel_set ?_ _ ?_)); all_goals (first | (simp; done) | (simp; omega) | omega)⟩
set_option maxRecDepth 100000 in
set_option maxHeartbeats 2000000 in
theorem toAliasS_any (A : Option Addr) (c : Nat) (xs : List SAlias) (w : World) (hw : (xs.length ≤ 1048576 ∧ ∀ y ∈ xs, fitAlias y)) (hr : Kd.C kAlias w A xs.length xs) :
  Calls Tryz.prog 14 #[.slice A xs.length c] w fun e w' => ∃ B d, e = .returned (.slice B xs.length d) ∧ Kd.S kAlias 58 w' w.heap.size (fun _ => True) (.slice B xs.length d) xs ∧ Below w.heap.size w w' := by
 obtain ⟨hwl, hwx⟩ := hw
 have HX := Lib.hid hwx
 clear hwx
 have B0 := Below.refl w.heap.size w
 go_enter Tryz.func14, Tryz.ntmps14
 go_wp2_with ((with_reducible refine gate_dst (N := 7) rfl ?_); refine Kd.S_make kAlias _ 58 rfl (N := 7) rfl 23 _ _ rfl (xs.length : Int) rfl rfl Tryz.underlying23 (.agg #[(.string ⟨#[]⟩), (.string ⟨#[]⟩), (.slice none 0 0)]) 56 info58 rfl (by decide) (by omega) zAlias (ok := fun _ => True) (okp := fun _ => True) (kAlias_mkM _ _ _ zAlias (hr0 := Kd.R_nil _ _ _ _ _)) (fun _ hk => hk) trivial (by omega) (by omega) (Below.refl _ _) (Nat.le_refl _) ?_; intro v w1 ho hb hg hn; have HO := Aside0.mk ho; have HB := Aside0.mk hb; clear ho hb hg hn)
 rw [Int.toNat_natCast, ← filled_zero xs zAlias] at HO
 go_loopg [4] (xs.length) (fun g i wr => ∃ k : Nat, k ≤ xs.length ∧ xs.length - k ≤ g ∧ i = .int .i64 k ∧ Aside0 (Kd.S kAlias 58 wr w.heap.size (fun _ => True) v (filled xs zAlias k)) ∧ Aside0 (Below w.heap.size w wr))
 case atStart => exact ⟨0, Nat.zero_le _, by omega, rfl, HO, HB⟩
 case round =>
  clear HO HB
  obtain ⟨k, hk, hg, rfl, HO, BW⟩ := hrel
  by_cases hlt : k < xs.length
  ·obtain ⟨ad, A0, c0, e1, p0, p1, p2, l0, q0⟩ := at_Alias (Kd.C_below hr BW.out) k hlt
   subst e1
   have hx := HX.out (xs.getD k zAlias) (getD_mem xs zAlias hlt)
   have hn := filled_length xs zAlias k hk
   have hs := filled_step xs zAlias k hlt
   generalize xs.getD k zAlias = y at hx hs p0 p1 p2 q0 l0
   obtain ⟨gb, co, eo, gb1, gb2, _⟩ := Kd.S_form HO.out (by omega)
   rw [hn] at eo
   subst eo
   clear hn
   generalize filled xs zAlias k = ys at HO hs
   have HS := Lib.hid hs
   clear hs
   have hcall := toAlias_any y A0 c0 wr hx q0
   clear hx q0
   go_wp2_with fail
   refine hcall.mono ?_
   rintro e w2 ⟨B0, d0, rfl, g0, b2⟩
   have HO2 := Aside0.mk (Kd.S_below (Kd.S_mono (ok' := fun k => k < wr.heap.size) (Kd.S_bound HO.out) (fun k hk => hk.2.2.1)) b2)
   have B2 := Aside0.mk (bel_then BW.out b2)
   have gb3 : gb < w2.heap.size := Nat.lt_of_lt_of_le gb2 b2.size
   clear b2 hcall
   have G0 := Aside0.mk (Kd.R_lower (Kd.R_mono (ok' := fun k => wr.heap.size ≤ k) (Kd.R_bound g0) (fun k hk => hk.2.1)) BW.out.size)
   clear g0
   go_wp2_with ((with_reducible refine gate_ (.store 58 (.tmp 21) (.tmp 20)) rfl ?_); refine S_put kAlias (w0 := w) w.heap.size zAlias rfl rfl 58 (.tmp 21) (.tmp 20) rfl 58 (g := gb) (n := xs.length) (cap := co) k ys y (.agg #[.string y.f0.f0, .string y.f0.f1, .slice B0 y.f1.length d0]) [.string y.f0.f0, .string y.f0.f1, .slice B0 y.f1.length d0] (fun k => k < wr.heap.size) (fun k => wr.heap.size ≤ k) rfl ?hoff rfl rfl (by kernel_rfl) HO2.out (by omega) (kAlias_mkM _ _ _ y (hr0 := G0.out)) (fun k h1 h2 => by omega) (fun k h1 => by omega) B2.out ?_; (case hoff => first | rfl | (simp; done) | (simp; omega) | omega); intro w3 h1 h2 h3; have HO3 := Aside0.mk (Kd.S_mono h1 (fun _ _ => trivial)); have B3 := Aside0.mk h2; clear h1 h2 h3)
   go_roundg (xs.length - (k + 1))
   case measure => omega
   case rel => exact ⟨k + 1, by omega, Nat.le_refl _, by go_num, ⟨by rw [← HS.out]; exact HO3.out⟩, B3⟩
  ·obtain rfl : k = xs.length := by omega
   rw [filled_all] at HO
   go_wp2
   go_ret
   obtain ⟨B, d, rfl⟩ := Kd.S_slice HO.out
   exact ⟨B, d, rfl, HO.out, BW.out⟩
set_option maxRecDepth 100000 in
set_option maxHeartbeats 2000000 in
theorem toMail_any (x : SMail) (A0 : Option Addr) (c0 : Nat) (A1 : Option Addr) (c1 : Nat) (w : World) (hw : fitMail x) (hr0 : Kd.C kAddr w A0 x.f1.length x.f1) (hr1 : Kd.C Kd.string w A1 x.f2.length x.f2) :
  Calls Tryz.prog 15 #[.agg #[.string x.f0.f0, .string x.f0.f1, .slice A0 x.f1.length c0, .slice A1 x.f2.length c1]] w fun e w' => ∃ B0 d0 B1 d1, e = .returned (.agg #[.string x.f0.f0, .string x.f0.f1, .slice B0 x.f1.length d0, .slice B1 x.f2.length d1]) ∧ Kd.R kAddr 25 w' w.heap.size (fun _ => True) (.slice B0 x.f1.length d0) x.f1 ∧ Kd.R Kd.string 9 w' w.heap.size (fun _ => True) (.slice B1 x.f2.length d1) x.f2 ∧ Below w.heap.size w w' := by
 unfold fitMail at hw
 obtain ⟨hw_0, hw_1, hw_2⟩ := hw
 have hc_0 := fun (W : World) (hW : Below w.heap.size w W) => toAddr_any x.f0  W hw_0 
 have hc_1 := fun (W : World) (hW : Below w.heap.size w W) => toAddrS_any A0 c0 x.f1 W hw_1 (Kd.C_below hr0 hW)
 have hc_2 := fun (W : World) (hW : Below w.heap.size w W) => toStringS_any A1 c1 x.f2 W hw_2 (Kd.C_below hr1 hW)
 clear hw_0 hw_1 hw_2 hr0 hr1
 have L0 : Below w.heap.size w w := Below.refl _ _
 go_enter Tryz.func15, Tryz.ntmps15
 go_wp2_with fail
 refine (hc_0 _ (by (with_reducible repeat (first | exact L0 | refine bel_alloc ?_ _ | refine bel_set ?_ _ ?_)); all_goals (first | (simp; done) | (simp; omega) | omega))).mono ?_
 rintro e w0 ⟨rfl, b0⟩
 have L1 : Below w.heap.size w w0 := bel_then (by (with_reducible repeat (first | exact L0 | refine bel_alloc ?_ _ | refine bel_set ?_ _ ?_)); all_goals (first | (simp; done) | (simp; omega) | omega)) b0
 obtain ⟨q0, p0⟩ := bcell b0
 have z0 : w.heap.size + 2 < w0.heap.size := by have := b0.size; (try simp at this); omega
 have y0 : w.heap.size + 1 < w0.heap.size := by omega
 have x0 : w.heap.size < w0.heap.size := by omega
 have H0 := Aside0.mk b0
 clear b0 hc_0
 go_wp2_with fail
 refine (hc_1 _ (by (with_reducible repeat (first | exact L1 | refine bel_alloc ?_ _ | refine bel_set ?_ _ ?_)); all_goals (first | (simp; done) | (simp; omega) | omega))).mono ?_
 rintro e w1 ⟨B0, d0, rfl, g0, b1⟩
 have L2 : Below w.heap.size w w1 := bel_then (by (with_reducible repeat (first | exact L1 | refine bel_alloc ?_ _ | refine bel_set ?_ _ ?_)); all_goals (first | (simp; done) | (simp; omega) | omega)) b1
 obtain ⟨q1, p1⟩ := bcell b1
 have z1 : w.heap.size + 2 < w1.heap.size := by have := b1.size; (try simp at this); omega
 have y1 : w.heap.size + 1 < w1.heap.size := by omega
 have x1 : w.heap.size < w1.heap.size := by omega
 have G0 := Aside0.mk (Kd.R_lower (base' := w.heap.size + 3) g0 (by first | (simp; done) | (simp; omega) | with_reducible exact Nat.le_refl _))
 clear g0
 have H1 := Aside0.mk b1
 clear b1 hc_1
 go_wp2_with fail
 refine (hc_2 _ (by (with_reducible repeat (first | exact L2 | refine bel_alloc ?_ _ | refine bel_set ?_ _ ?_)); all_goals (first | (simp; done) | (simp; omega) | omega))).mono ?_
 rintro e w2 ⟨B1, d1, rfl, g1, b2⟩
 have L3 : Below w.heap.size w w2 := bel_then (by (with_reducible repeat (first | exact L2 | refine bel_alloc ?_ _ | refine bel_set ?_ _ ?_)); all_goals (first | (simp; done) | (simp; omega) | omega)) b2
 obtain ⟨q2, p2⟩ := bcell b2
 have z2 : w.heap.size + 2 < w2.heap.size := by have := b2.size; (try simp at this); omega
 have y2 : w.heap.size + 1 < w2.heap.size := by omega
 have x2 : w.heap.size < w2.heap.size := by omega
 have G1 := Aside0.mk (Kd.R_lower (base' := w.heap.size + 3) g1 (by first | (simp; done) | (simp; omega) | with_reducible exact Nat.le_refl _))
 clear g1
 have H2 := Aside0.mk b2
 clear b2 hc_2
 go_wp2
 refine bodyPost_ret (v := .agg #[.string x.f0.f0, .string x.f0.f1, .slice B0 x.f1.length d0, .slice B1 x.f2.length d1]) ?hr rfl ?hp
 case hr => simp [results, Tryz.results15, go_sem, q0, x0, y0, z0, q1, x1, y1, z1, q2, x2, y2, z2]
 case hp => exact ⟨_, _, _, _, rfl, (Kd.R_lower (base := w.heap.size + 3) (by (with_reducible repeat (first | exact G0.out | refine R_setLow ?_ _ ?_ | refine Kd.R_below ?_ H0.out | refine Kd.R_below ?_ H1.out | refine Kd.R_below ?_ H2.out)); all_goals (first | (simp; done) | (simp; omega) | omega)) (by omega)), (Kd.R_lower (base := w.heap.size + 3) (by (with_reducible repeat (first | exact G1.out | refine R_setLow ?_ _ ?_ | refine Kd.R_below ?_ H0.out | refine Kd.R_below ?_ H1.out | refine Kd.R_below ?_ H2.out)); all_goals (first | (simp; done) | (simp; omega) | omega)) (by omega)), by (with_reducible repeat (first | exact L3 | refine bel_alloc ?_ _ | refine bel_set ?_ _ ?_)); all_goals (first | (simp; done) | (simp; omega) | omega)⟩
end Go.Proofs.YticepbgacokbbaaGreatDoor
