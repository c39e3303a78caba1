/- The reference's words on bodies, recipients: contracts. -/
import Derived.Test.YtiaibgkpohmihaaDoorSpecC
import Derived.Test.YtiaibgkpohmihaaDoorSpoolD
namespace Go.Proofs.YtiaibgkpohmihaaDoor
open Go.RowKit Go.Proofs.YtiaibgkpohmihaaDoorW.PrintWords
set_option linter.unusedVariables false
set_option linter.unusedSimpArgs false
set_option maxRecDepth 100000 in
theorem specBody_any (A : Option Addr) (c : Nat) (xs : List ByteArray) (w : World) (hr : Kd.C Kd.string w A xs.length xs) (hb : xs.length ≤ 1048576 ∧ ∀ y ∈ xs, y.size ≤ 1048576) :
  Calls Tryd.prog 69 #[.slice A xs.length c] w fun e w' => e = .returned (.bool (bodyOk xs)) ∧ Below w.heap.size w w' := by
 obtain ⟨hlen, hx⟩ := hb
 have HX := Lib.hid hx
 clear hx
 go_enter Tryd.func69, Tryd.ntmps69
 go_wp2
 go_loopg [3] (xs.length) (fun g v wr => ∃ k : Nat, k ≤ xs.length ∧ xs.length - k ≤ g ∧ v = .int .i64 k ∧ Aside0 (Below w.heap.size w wr) ∧ Aside0 (∀ j, j < k → line (xs.getD j ⟨#[]⟩).data.toList = true))
 case atStart => exact ⟨0, Nat.zero_le _, by omega, rfl, ⟨Below.refl _ _⟩, ⟨fun j hj => absurd hj (Nat.not_lt_zero _)⟩⟩
 case round =>
  obtain ⟨k, hk, hg, rfl, BW, H⟩ := hrel
  by_cases hlt : k < xs.length
  ·have hlt' : (k : Int) < (xs.length : Int) := by omega
   obtain ⟨ad, e1, h0⟩ := at_Str (Kd.C_below hr BW.out) k hlt
   subst e1
   have hm := HX.out (xs.getD k ⟨#[]⟩) (getD_mem xs _ hlt)
   generalize hy : xs.getD k (⟨#[]⟩ : ByteArray) = y at h0 hm
   have hcall := fun W => specLine_any y W (by omega)
   have HY := Lib.hid hy
   clear hy hm hr
   cases hq : line y.data.toList
   all_goals
    rw [hq] at hcall
    have HQ := Lib.hid hq
    clear hq
    go_wp2_with (go_at_call 92; refine (hcall _).mono ?_; rintro e w1 ⟨rfl, b1⟩)
   ·go_ret
    refine ⟨retb ?_, bel_then BW.out b1⟩
    unfold bodyOk
    rw [all_getD_false (fun s : ByteArray => line s.data.toList) xs ⟨#[]⟩ k hlt (by rw [HY.out]; exact HQ.out), Bool.and_false]
   ·go_roundg (xs.length - (k + 1))
    case measure => omega
    case rel => exact ⟨k + 1, by omega, Nat.le_refl _, by go_num, ⟨bel_then BW.out b1⟩, ⟨fun j hj => by
     by_cases e : j = k
     ·subst e; rw [HY.out]; exact HQ.out
     ·exact H.out j (by omega)⟩⟩
  ·have hlt' : ¬ (k : Int) < (xs.length : Int) := by omega
   go_wp2
   go_ret
   refine ⟨retb ?_, BW.out⟩
   unfold bodyOk
   rw [all_upto (fun s : ByteArray => line s.data.toList) xs ⟨#[]⟩ (fun j hj => H.out j (by omega)), Bool.and_true]
   first | rfl | exact decide_eq_decide.2 (by omega)
set_option maxHeartbeats 1000000 in
theorem specRcpt_any (r : SRcpt) (w : World) (hw : fitRcpt r) :
  Calls Tryd.prog 68 #[.agg #[.string r.f0.f0, .string r.f0.f1, .int .i64 r.f1, .int .i64 r.f2]] w fun e w' => e = .returned (.bool (rcptOk r)) ∧ Below w.heap.size w w' := by
 have h1 := fun W (hW : Below w.heap.size w W) => specAddr_any r.f0.f0 r.f0.f1 W (by have := hw.1.1; omega) (by have := hw.1.2; omega)
 have h2 := fun W => specIn_any r.f1 0 3 W
 have h3 := fun W => specIn_any r.f2 0 9999 W
 unfold rcptOk addrS
 generalize addr r.f0.f0.data.toList r.f0.f1.data.toList = q1 at h1
 generalize (decide (0 ≤ r.f1) && decide (r.f1 ≤ 3)) = q2 at h2
 generalize (decide (0 ≤ r.f2) && decide (r.f2 ≤ 9999)) = q3 at h3
 have B0 := Below.refl w.heap.size w
 cases q1
 ·go_enter Tryd.func68, Tryd.ntmps68
  go_wp2_with ((go_at_call 35; refine (h1 _ (by (with_reducible repeat (first | exact B0 | refine bel_alloc ?_ _ | refine bel_set ?_ _ ?_ | refine blw_drewN ?_ _ | refine Below.drew ?_)); all_goals (first | (simp; done) | (simp; omega) | omega))).mono ?_; rintro e w1 ⟨rfl, b1⟩; have B1 : Below w.heap.size w w1 := bel_then (by (with_reducible repeat (first | exact B0 | refine bel_alloc ?_ _ | refine bel_set ?_ _ ?_ | refine blw_drewN ?_ _ | refine Below.drew ?_)); all_goals (first | (simp; done) | (simp; omega) | omega)) b1; obtain ⟨q1, p1⟩ := bcell b1; have z1_0 : w.heap.size < w1.heap.size := (by have hz := b1.size; (try simp at hz); omega); clear b1))
  go_ret
  exact ⟨retb rfl, B1⟩
 ·cases q2
  ·go_enter Tryd.func68, Tryd.ntmps68
   go_wp2_with (first | (go_at_call 35; refine (h1 _ (by (with_reducible repeat (first | exact B0 | refine bel_alloc ?_ _ | refine bel_set ?_ _ ?_ | refine blw_drewN ?_ _ | refine Below.drew ?_)); all_goals (first | (simp; done) | (simp; omega) | omega))).mono ?_; rintro e w1 ⟨rfl, b1⟩; have B1 : Below w.heap.size w w1 := bel_then (by (with_reducible repeat (first | exact B0 | refine bel_alloc ?_ _ | refine bel_set ?_ _ ?_ | refine blw_drewN ?_ _ | refine Below.drew ?_)); all_goals (first | (simp; done) | (simp; omega) | omega)) b1; obtain ⟨q1, p1⟩ := bcell b1; have z1_0 : w.heap.size < w1.heap.size := (by have hz := b1.size; (try simp at hz); omega); clear b1) | (go_at_call 59; refine (h2 _).mono ?_; rintro e w2 ⟨rfl, rfl⟩))
   go_ret
   exact ⟨retb rfl, B1⟩
  ·go_enter Tryd.func68, Tryd.ntmps68
   go_wp2_with (first | (go_at_call 35; refine (h1 _ (by (with_reducible repeat (first | exact B0 | refine bel_alloc ?_ _ | refine bel_set ?_ _ ?_ | refine blw_drewN ?_ _ | refine Below.drew ?_)); all_goals (first | (simp; done) | (simp; omega) | omega))).mono ?_; rintro e w1 ⟨rfl, b1⟩; have B1 : Below w.heap.size w w1 := bel_then (by (with_reducible repeat (first | exact B0 | refine bel_alloc ?_ _ | refine bel_set ?_ _ ?_ | refine blw_drewN ?_ _ | refine Below.drew ?_)); all_goals (first | (simp; done) | (simp; omega) | omega)) b1; obtain ⟨q1, p1⟩ := bcell b1; have z1_0 : w.heap.size < w1.heap.size := (by have hz := b1.size; (try simp at hz); omega); clear b1) | (go_at_call 59; ((with_reducible refine (h2 _).mono ?_); rintro e w2 ⟨rfl, rfl⟩)) | (go_at_call 59; ((with_reducible refine (h3 _).mono ?_); rintro e w2 ⟨rfl, rfl⟩)))
   go_ret
   exact ⟨retb rfl, B1⟩

end Go.Proofs.YtiaibgkpohmihaaDoor
