/- Drawn bodies of any kind: a weak contract. -/
import Derived.Test.YticepbgacokbbaaGreatDoorDrwBeg
import Derived.Test.YticepbgacokbbaaGreatDoorReg
import Derived.Deep.RegionHeld3
namespace Go.Proofs.YticepbgacokbbaaGreatDoor
open Go.RowKit Go.Proofs.YticepbgacokbbaaGreatDoorW.PrintWords
set_option linter.unusedVariables false
set_option linter.unusedSimpArgs false
set_option maxRecDepth 100000 in
set_option maxHeartbeats 8000000 in
theorem drAnyBody_any (g m : Nat) (w : World) (h : Rd g m w) (hm : m + 104 ≤ 1000000000) :
  Calls Tryz.prog 63 #[.pointer (some ⟨g, 0, none⟩)] w fun e w' => ∃ (xs : List ByteArray) (B : Option Addr) (d : Nat), e = .returned (.slice B xs.length d) ∧ (xs.length ≤ 101 ∧ ∀ y ∈ xs, y.size ≤ 64) ∧ Kd.R Kd.string 9 w' w.heap.size (fun _ => True) (.slice B xs.length d) xs ∧ Rd g (m + 104) w' ∧ Dr g w w' := by
 have HR := Aside0.mk h
 have HD := Aside0.mk (Dr.refl g w)
 have hgl := h.lt
 have ng0 : ¬ w.heap.size = g := by omega
 have ng1 : ¬ w.heap.size + 1 = g := by omega
 have ng2 : ¬ w.heap.size + 2 = g := by omega
 clear h
 go_enter Tryz.func63, Tryz.ntmps63
 go_wp2_with (first | (go_at_call 84; (with_reducible refine Calls.mono (one_any 0 12 g _ _ _ _ _ _ _ (Rd.at HR.out (by (with_reducible repeat (first | exact Keep.refl (Rd.lt HR.out) | refine Keep.alloc ?_ _ | refine Keep.drewN ?_ _ | refine Keep.drew ?_ | refine Keep.set ?_ _ ?_)); all_goals (first | (simp; done) | (simp; omega) | omega))) (by omega) (blk_at _ _ (by first | (simp; done) | (simp; omega))) (by decide) (by decide) (by decide) (by decide) (by decide)) ?_); (rintro e w1 ⟨k1, rfl, hk1, hr_, hd_⟩); (have y1 := hd_.size); ((try simp at y1)); (have hd2_ : Dr g w w1 := Dr.then_ (by (with_reducible repeat (first | exact HD.out | refine Dr.alloc ?_ _ | refine Dr.drewN ?_ _ | refine Dr.drew ?_ | refine Dr.set ?_ _ ?_)); all_goals (first | (left; simp; done) | (left; simp; omega) | (left; omega) | (right; rfl))) hd_); (clear HR HD); (have HR := Aside0.mk hr_); (have HD := Aside0.mk hd2_); (clear hr_ hd_ hd2_)) | (go_at_call 83; (with_reducible refine Calls.mono (drBody_any g _ _ _ (Rd.at HR.out (by (with_reducible repeat (first | exact Keep.refl (Rd.lt HR.out) | refine Keep.alloc ?_ _ | refine Keep.drewN ?_ _ | refine Keep.drew ?_ | refine Keep.set ?_ _ ?_)); all_goals (first | (simp; done) | (simp; omega) | omega))) (by omega) (by omega) (by omega)) ?_); (rintro e w2 ⟨xs, B, d, rfl, hs2, hb_, hr_, hd_⟩); (have y2 := hd_.size); ((try simp at y2)); (have hd2_ : Dr g w w2 := Dr.then_ (by (with_reducible repeat (first | exact HD.out | refine Dr.alloc ?_ _ | refine Dr.drewN ?_ _ | refine Dr.drew ?_ | refine Dr.set ?_ _ ?_)); all_goals (first | (left; simp; done) | (left; simp; omega) | (left; omega) | (right; rfl))) hd_); (clear HR HD); (have HR := Aside0.mk hr_); (have HD := Aside0.mk hd2_); (clear hr_ hd_ hd2_); (have HB := Aside0.mk (Kd.R_lower (base' := w.heap.size) hb_ (by first | (simp; done) | (simp; omega) | omega))); clear hb_; have HS := Lib.hid hs2; clear hs2) | (go_at_call 24; (with_reducible refine Calls.mono (pick_any g _ 14 _ (Rd.at HR.out (by (with_reducible repeat (first | exact Keep.refl (Rd.lt HR.out) | refine Keep.alloc ?_ _ | refine Keep.drewN ?_ _ | refine Keep.drew ?_ | refine Keep.set ?_ _ ?_)); all_goals (first | (simp; done) | (simp; omega) | omega))) (by omega) (by omega)) ?_); (rintro e w3 ⟨k3, rfl, hk3, hr_, hd_⟩); (have y3 := hd_.size); ((try simp at y3)); (have nHB := hd_.R2 HB.out (by (with_reducible repeat (first | exact Below.refl _ _ | refine bel_alloc ?_ _ | refine blw_drewN ?_ _ | refine Below.drew ?_))) (by omega)); (clear HB); (have HB := Aside0.mk nHB); (clear nHB); (have hd2_ : Dr g w w3 := Dr.then_ (by (with_reducible repeat (first | exact HD.out | refine Dr.alloc ?_ _ | refine Dr.drewN ?_ _ | refine Dr.drew ?_ | refine Dr.set ?_ _ ?_)); all_goals (first | (left; simp; done) | (left; simp; omega) | (left; omega) | (right; rfl))) hd_); (clear HR HD); (have HR := Aside0.mk hr_); (have HD := Aside0.mk hd2_); (clear hr_ hd_ hd2_)) | (go_at_call 81; (with_reducible refine Calls.mono (of_any g _ _ _ _ _ _ _ (Rd.at HR.out (by (with_reducible repeat (first | exact Keep.refl (Rd.lt HR.out) | refine Keep.alloc ?_ _ | refine Keep.drewN ?_ _ | refine Keep.drew ?_ | refine Keep.set ?_ _ ?_)); all_goals (first | (simp; done) | (simp; omega) | omega))) (by omega) (blk_at _ _ (by first | (simp; done) | (simp; omega))) (by decide) (by decide) (by decide) (by decide) (by decide)) ?_); (rintro e w4 ⟨s4, rfl, hs4, hr_, hd_⟩); (have y4 := hd_.size); ((try simp at y4)); (have nHB := hd_.R2 HB.out (by (with_reducible repeat (first | exact Below.refl _ _ | refine bel_alloc ?_ _ | refine blw_drewN ?_ _ | refine Below.drew ?_))) (by omega)); (clear HB); (have HB := Aside0.mk nHB); (clear nHB); (have hd2_ : Dr g w w4 := Dr.then_ (by (with_reducible repeat (first | exact HD.out | refine Dr.alloc ?_ _ | refine Dr.drewN ?_ _ | refine Dr.drew ?_ | refine Dr.set ?_ _ ?_)); all_goals (first | (left; simp; done) | (left; simp; omega) | (left; omega) | (right; rfl))) hd_); (clear HR HD); (have HR := Aside0.mk hr_); (have HD := Aside0.mk hd2_); (clear hr_ hd_ hd2_)) | ((with_reducible refine gate_builtin (b := .append) (xs := #[.tmp 13, .tmp 17]) rfl ?_); (try (refine gate_guard (by rfl) ?_; dsimp only)); at_builtin; (refine Kd.R_append Kd.string (w.heap.size) rfl (.tmp 13) (.tmp 17) 27 9 (.string ⟨#[]⟩) 16 rfl Tryz.underlying27 info9 rfl (by decide) (by omega) (.slice B xs.length d) (xs) (s4) _ (fun _ => True) (fun _ => False) rfl ?aX5 rfl (fun _ hk => hk.elim) (fun _ _ => trivial) ?aO5 (Below.refl _ _) ?aS5 ?aL5 ?_); (case aX5 => (refine Eq.trans (b := .slice (some ⟨_, 0, none⟩) 1 1) rfl ?_; first | (with_reducible rfl) | (simp; done))); (case aO5 => exact HB.out); (case aS5 => (have := HD.out.size; simp; omega)); (case aL5 => exact (by have := HS.out.1; omega)); (intro v5 w5 ho hb hg hat); (have nHD : Dr g w w5 := Dr.belowB (by (with_reducible repeat (first | exact HD.out | refine Dr.alloc ?_ _ | refine Dr.drewN ?_ _ | refine Dr.drew ?_ | refine Dr.set ?_ _ ?_)); all_goals (first | (left; simp; done) | (left; simp; omega) | (left; omega) | (right; rfl))) hb); (have nHR := Rd.keep (Rd.at HR.out (by (with_reducible repeat (first | exact Keep.refl (Rd.lt HR.out) | refine Keep.alloc ?_ _ | refine Keep.drewN ?_ _ | refine Keep.drew ?_ | refine Keep.set ?_ _ ?_)); all_goals (first | (simp; done) | (simp; omega) | omega))) (fun q hq => hb.block q (by omega))); (have y5 := hb.size); ((try simp at y5)); (clear HB HR HD); (have HB := Aside0.mk ho); (have HR := Aside0.mk nHR); (have HD := Aside0.mk nHD); (clear ho hb hg hat nHR nHD)))
 ·go_ret
  obtain ⟨vB, vd, hv⟩ := Kd.R_slice HB.out
  subst hv
  have ho := HB.out
  refine ⟨xs ++ [s4], vB, vd, rfl, ⟨by have := HS.out.1; simp; omega, fun y hy => ?_⟩, ho, (Rd.at HR.out (by (with_reducible repeat (first | exact Keep.refl (Rd.lt HR.out) | refine Keep.alloc ?_ _ | refine Keep.drewN ?_ _ | refine Keep.drew ?_ | refine Keep.set ?_ _ ?_)); all_goals (first | (simp; done) | (simp; omega) | omega))).up (by omega), by (with_reducible repeat (first | exact HD.out | refine Dr.alloc ?_ _ | refine Dr.drewN ?_ _ | refine Dr.drew ?_ | refine Dr.set ?_ _ ?_)); all_goals (first | (left; simp; done) | (left; simp; omega) | (left; omega) | (right; rfl))⟩
  rcases List.mem_append.1 hy with hy | hy
  ·exact HS.out.2 y hy
  ·obtain rfl := List.mem_singleton.1 hy
   exact hs4
 ·have hl2 := HS.out.1
  rename ((k3 : Int) == 0) = false => q0_
  rename ((k3 : Int) == 1) = true => q1_
  clear q0_ q1_
  go_loopg [3] 14 (fun gq v3 wr => ∃ (ys : List ByteArray), 13 - ys.length ≤ gq ∧ ys.length ≤ 101 ∧ Aside0 (∀ y ∈ ys, y.size ≤ 64) ∧ Aside0 (Kd.R Kd.string 9 wr w.heap.size (fun _ => True) v3 ys) ∧ Aside0 (Rd g (m + 103) wr) ∧ Aside0 (Dr g w wr))
  case atStart => exact ⟨xs, by omega, by omega, ⟨HS.out.2⟩, HB, ⟨HR.out.up (by omega)⟩, HD⟩
  case round =>
   clear HB HR HD
   obtain ⟨ys, hgq, hyl, HY, HB, HR, HD⟩ := hrel
   obtain ⟨A0, c0, rfl⟩ := Kd.R_slice HB.out
   have ywr := HD.out.size
   by_cases hlt : ys.length < 13
   ·have hlt' : (ys.length : Int) < 13 := by omega
    go_wp2_with ((with_reducible refine gate_builtin (b := .append) (xs := #[.tmp 24, .tmp 25]) rfl ?_); (try (refine gate_guard (by rfl) ?_; dsimp only)); at_builtin; (refine Kd.R_append Kd.string (w.heap.size) rfl (.tmp 24) (.tmp 25) 27 9 (.string ⟨#[]⟩) 16 rfl Tryz.underlying27 info9 rfl (by decide) (by omega) (.slice A0 ys.length c0) (ys) (_) _ (fun _ => True) (fun _ => False) rfl ?aX6 rfl (fun _ hk => hk.elim) (fun _ _ => trivial) ?aO6 (Below.refl _ _) ?aS6 ?aL6 ?_); (case aX6 => (refine Eq.trans (b := .slice (some ⟨_, 0, none⟩) 1 1) rfl ?_; first | (with_reducible rfl) | (simp; done))); (case aO6 => exact HB.out); (case aS6 => (have := HD.out.size; simp; omega)); (case aL6 => exact (by omega)); (intro v6 w6 ho hb hg hat); (have nHD : Dr g w w6 := Dr.belowB (by (with_reducible repeat (first | exact HD.out | refine Dr.alloc ?_ _ | refine Dr.drewN ?_ _ | refine Dr.drew ?_ | refine Dr.set ?_ _ ?_)); all_goals (first | (left; simp; done) | (left; simp; omega) | (left; omega) | (right; rfl))) hb); (have nHR := Rd.keep (Rd.at HR.out (by (with_reducible repeat (first | exact Keep.refl (Rd.lt HR.out) | refine Keep.alloc ?_ _ | refine Keep.drewN ?_ _ | refine Keep.drew ?_ | refine Keep.set ?_ _ ?_)); all_goals (first | (simp; done) | (simp; omega) | omega))) (fun q hq => hb.block q (by omega))); (have y6 := hb.size); ((try simp at y6)); (clear HB HR HD); (have HB := Aside0.mk ho); (have HR := Aside0.mk nHR); (have HD := Aside0.mk nHD); (clear ho hb hg hat nHR nHD))
    go_roundg (13 - (ys.length + 1))
    case measure => omega
    case rel => exact ⟨ys ++ [_], by first | (simp; done) | (simp; omega), by first | (simp; done) | (simp; omega), ⟨fun y hy => by
     rcases List.mem_append.1 hy with hy | hy
     ·exact HY.out y hy
     ·obtain rfl := List.mem_singleton.1 hy
      decide⟩, HB, HR, HD⟩
   ·have hlt' : ¬ (ys.length : Int) < 13 := by omega
    go_wp2
    go_ret
    exact ⟨ys, A0, c0, rfl, ⟨hyl, HY.out⟩, HB.out, HR.out.up (by omega), HD.out⟩
 ·go_ret
  exact ⟨xs, B, d, rfl, ⟨by have := HS.out.1; omega, HS.out.2⟩, HB.out, HR.out.up (by omega), HD.out⟩

end Go.Proofs.YticepbgacokbbaaGreatDoor

/- Drawn mails of any kind: a weak contract. -/
namespace Go.Proofs.YticepbgacokbbaaGreatDoor
open Go.RowKit Go.Proofs.YticepbgacokbbaaGreatDoorW.PrintWords
set_option linter.unusedVariables false
set_option linter.unusedSimpArgs false

theorem cells4 {w : World} {b : Nat} {c0 c1 c2 c3 : Value} {t : TypeId} (h : w.heap[b]? = some (.cells #[c0, c1, c2, c3] t (0, 0))) : w.cell? ⟨b, 0, none⟩ = some c0 ∧ w.cell? ⟨b, 1, none⟩ = some c1 ∧ w.cell? ⟨b, 2, none⟩ = some c2 ∧ w.cell? ⟨b, 3, none⟩ = some c3 := by simp [World.cell?, h]
theorem froz4 {w : World} {b : Nat} {cs : Array Value} {t : TypeId} (h : w.heap[b]? = some (.cells cs t (0, 0))) : w.frozen? ⟨b, 0, none⟩ = false ∧ w.frozen? ⟨b, 1, none⟩ = false ∧ w.frozen? ⟨b, 2, none⟩ = false ∧ w.frozen? ⟨b, 3, none⟩ = false := by simp [World.frozen?, h]
def midM (x : SMail) : Prop := smallA x.f0 ∧ (x.f1.length ≤ 5 ∧ ∀ y ∈ x.f1, smallA y) ∧ (x.f2.length ≤ 101 ∧ ∀ y ∈ x.f2, y.size ≤ 64)
theorem mid_f {x : SMail} {a : SAddr} (h : smallM x) (ha : smallA a) : midM ⟨a, x.f1, x.f2⟩ := by
 obtain ⟨h0, ⟨h1, h2, h3⟩, h4, h5⟩ := h
 exact ⟨ha, ⟨by show x.f1.length ≤ 5; omega, h3⟩, by show x.f2.length ≤ 101; omega, h5⟩
theorem mid_t {x : SMail} {zs : List SAddr} (h : smallM x) (hz : zs.length ≤ 5 ∧ ∀ y ∈ zs, smallA y) : midM ⟨x.f0, zs, x.f2⟩ := ⟨h.1, hz, (mid_f h h.1).2.2⟩
theorem mid_b {x : SMail} {ys : List ByteArray} (h : smallM x) (hz : ys.length ≤ 101 ∧ ∀ y ∈ ys, y.size ≤ 64) : midM ⟨x.f0, x.f1, ys⟩ := ⟨h.1, (mid_f h h.1).2.1, hz⟩
theorem more_to {xs : List SAddr} {y : SAddr} (h : 0 < xs.length ∧ xs.length ≤ 4 ∧ ∀ y ∈ xs, smallA y) (hy : smallA y) : (xs ++ [y]).length ≤ 5 ∧ ∀ z ∈ xs ++ [y], smallA z := by
 refine ⟨by have := h.2.1; simp; omega, fun z hz => ?_⟩
 rcases List.mem_append.1 hz with hz | hz
 ·exact h.2.2 z hz
 ·obtain rfl := List.mem_singleton.1 hz
  exact hy
set_option maxRecDepth 100000 in
set_option maxHeartbeats 8000000 in
theorem drAnyMail_any (g m : Nat) (w : World) (h : Rd g m w) (hm : m + 225 ≤ 1000000000) :
  Calls Tryz.prog 23 #[.pointer (some ⟨g, 0, none⟩)] w fun e w' => ∃ (x : SMail) (A0 : Option Addr) (c0 : Nat) (A1 : Option Addr) (c1 : Nat), e = .returned (.agg #[.string x.f0.f0, .string x.f0.f1, .slice A0 x.f1.length c0, .slice A1 x.f2.length c1]) ∧ midM x ∧ Kd.R kAddr 25 w' w.heap.size (fun _ => True) (.slice A0 x.f1.length c0) x.f1 ∧ Kd.R Kd.string 9 w' w.heap.size (fun _ => True) (.slice A1 x.f2.length c1) x.f2 ∧ Rd g (m + 225) w' ∧ Dr g w w' := by
 have HR := Aside0.mk h
 have HD := Aside0.mk (Dr.refl g w)
 have hgl := h.lt
 have ng0 : ¬ w.heap.size = g := by omega
 have ng1 : ¬ w.heap.size + 1 = g := by omega
 have ng2 : ¬ w.heap.size + 2 = g := by omega
 clear h
 go_enter Tryz.func23, Tryz.ntmps23
 go_wp2_with (first | (go_at_call 62; (with_reducible refine Calls.mono (drMail_any g _ _ (Rd.at HR.out (by (with_reducible repeat (first | exact Keep.refl (Rd.lt HR.out) | refine Keep.alloc ?_ _ | refine Keep.drewN ?_ _ | refine Keep.drew ?_ | refine Keep.set ?_ _ ?_)); all_goals (first | (simp; done) | (simp; omega) | omega))) (by omega)) ?_); (rintro e w1 ⟨x, A0, c0, A1, c1, rfl, hm1, r0, r1, hr_, hd_⟩); (have y1 := hd_.size); ((try simp at y1)); (have nF0 : w1.heap[w.heap.size]? = some (.cells #[.string ⟨#[]⟩, .string ⟨#[]⟩, .slice none 0 0, .slice none 0 0] 29 (0, 0)) := hd_.blk (by (with_reducible repeat (first | exact blk_at _ _ (by first | (simp; done) | (simp; omega)) | refine blk_alloc ?_ _ | refine blk_drew ?_ | refine blk_drewN ?_ _ | refine blk_set ?_ _ _ | refine blk_far ?_ ?_ _)); all_goals (first | (simp; done) | (simp; omega) | omega)) (by omega)); (have F0 := Aside0.mk nF0); (have cF0_0 : w1.cell? ⟨w.heap.size, 0, none⟩ = some (.string ⟨#[]⟩) := (by simp [World.cell?, nF0])); (have cF0_1 : w1.cell? ⟨w.heap.size, 1, none⟩ = some (.string ⟨#[]⟩) := (by simp [World.cell?, nF0])); (have cF0_2 : w1.cell? ⟨w.heap.size, 2, none⟩ = some (.slice none 0 0) := (by simp [World.cell?, nF0])); (have cF0_3 : w1.cell? ⟨w.heap.size, 3, none⟩ = some (.slice none 0 0) := (by simp [World.cell?, nF0])); (have dF0_0 : w1.frozen? ⟨w.heap.size, 0, none⟩ = false := (by simp [World.frozen?, nF0])); (have dF0_1 : w1.frozen? ⟨w.heap.size, 1, none⟩ = false := (by simp [World.frozen?, nF0])); (have dF0_2 : w1.frozen? ⟨w.heap.size, 2, none⟩ = false := (by simp [World.frozen?, nF0])); (have dF0_3 : w1.frozen? ⟨w.heap.size, 3, none⟩ = false := (by simp [World.frozen?, nF0])); (clear nF0); (have hd2_ : Dr g w w1 := Dr.then_ (by (with_reducible repeat (first | exact HD.out | refine Dr.alloc ?_ _ | refine Dr.drewN ?_ _ | refine Dr.drew ?_ | refine Dr.set ?_ _ ?_)); all_goals (first | (left; simp; done) | (left; simp; omega) | (left; omega) | (right; rfl))) hd_); (clear HR HD); (have HR := Aside0.mk hr_); (have HD := Aside0.mk hd2_); (clear hr_ hd_ hd2_); (have U0 := Aside0.mk (Kd.R_lower (base' := w.heap.size) r0 (by first | (simp; done) | (simp; omega) | omega))); (have U1 := Aside0.mk (Kd.R_lower (base' := w.heap.size) r1 (by first | (simp; done) | (simp; omega) | omega))); clear r0 r1; have HSM := Lib.hid hm1; clear hm1) | (go_at_call 24; (with_reducible refine Calls.mono (pick_any g _ 12 _ (Rd.at HR.out (by (with_reducible repeat (first | exact Keep.refl (Rd.lt HR.out) | refine Keep.alloc ?_ _ | refine Keep.drewN ?_ _ | refine Keep.drew ?_ | refine Keep.set ?_ _ ?_)); all_goals (first | (simp; done) | (simp; omega) | omega))) (by omega) (by omega)) ?_); (rintro e w2 ⟨k2, rfl, hk2, hr_, hd_⟩); (have y2 := hd_.size); ((try simp at y2)); (have nF0 : w2.heap[w.heap.size]? = some (.cells #[.string ⟨#[]⟩, .string ⟨#[]⟩, .slice none 0 0, .slice none 0 0] 29 (0, 0)) := hd_.blk (by (with_reducible repeat (first | exact blk_at _ _ (by first | (simp; done) | (simp; omega)) | exact F0.out | refine blk_alloc ?_ _ | refine blk_drew ?_ | refine blk_drewN ?_ _ | refine blk_set ?_ _ _ | refine blk_far ?_ ?_ _)); all_goals (first | (simp; done) | (simp; omega) | omega)) (by omega)); (have nF1 : w2.heap[w1.heap.size]? = some (.cells #[.string x.f0.f0, .string x.f0.f1, .slice A0 x.f1.length c0, .slice A1 x.f2.length c1] 29 (0, 0)) := hd_.blk (by (with_reducible repeat (first | exact blk_at _ _ (by first | (simp; done) | (simp; omega)) | refine blk_alloc ?_ _ | refine blk_drew ?_ | refine blk_drewN ?_ _ | refine blk_set ?_ _ _ | refine blk_far ?_ ?_ _)); all_goals (first | (simp; done) | (simp; omega) | omega)) (by omega)); (have nU0 := hd_.R2 U0.out (by (with_reducible repeat (first | exact Below.refl _ _ | refine bel_alloc ?_ _ | refine blw_drewN ?_ _ | refine Below.drew ?_))) (by omega)); (have nU1 := hd_.R2 U1.out (by (with_reducible repeat (first | exact Below.refl _ _ | refine bel_alloc ?_ _ | refine blw_drewN ?_ _ | refine Below.drew ?_))) (by omega)); ((try clear cF0_0 cF0_1 cF0_2 cF0_3)); ((try clear dF0_0 dF0_1 dF0_2 dF0_3)); (clear F0); (have F0 := Aside0.mk nF0); (have cF0_0 : w2.cell? ⟨w.heap.size, 0, none⟩ = some (.string ⟨#[]⟩) := (by simp [World.cell?, nF0])); (have cF0_1 : w2.cell? ⟨w.heap.size, 1, none⟩ = some (.string ⟨#[]⟩) := (by simp [World.cell?, nF0])); (have cF0_2 : w2.cell? ⟨w.heap.size, 2, none⟩ = some (.slice none 0 0) := (by simp [World.cell?, nF0])); (have cF0_3 : w2.cell? ⟨w.heap.size, 3, none⟩ = some (.slice none 0 0) := (by simp [World.cell?, nF0])); (have dF0_0 : w2.frozen? ⟨w.heap.size, 0, none⟩ = false := (by simp [World.frozen?, nF0])); (have dF0_1 : w2.frozen? ⟨w.heap.size, 1, none⟩ = false := (by simp [World.frozen?, nF0])); (have dF0_2 : w2.frozen? ⟨w.heap.size, 2, none⟩ = false := (by simp [World.frozen?, nF0])); (have dF0_3 : w2.frozen? ⟨w.heap.size, 3, none⟩ = false := (by simp [World.frozen?, nF0])); (clear nF0); (have F1 := Aside0.mk nF1); (have cF1_0 : w2.cell? ⟨w1.heap.size, 0, none⟩ = some (.string x.f0.f0) := (by simp [World.cell?, nF1])); (have cF1_1 : w2.cell? ⟨w1.heap.size, 1, none⟩ = some (.string x.f0.f1) := (by simp [World.cell?, nF1])); (have cF1_2 : w2.cell? ⟨w1.heap.size, 2, none⟩ = some (.slice A0 x.f1.length c0) := (by simp [World.cell?, nF1])); (have cF1_3 : w2.cell? ⟨w1.heap.size, 3, none⟩ = some (.slice A1 x.f2.length c1) := (by simp [World.cell?, nF1])); (have dF1_0 : w2.frozen? ⟨w1.heap.size, 0, none⟩ = false := (by simp [World.frozen?, nF1])); (have dF1_1 : w2.frozen? ⟨w1.heap.size, 1, none⟩ = false := (by simp [World.frozen?, nF1])); (have dF1_2 : w2.frozen? ⟨w1.heap.size, 2, none⟩ = false := (by simp [World.frozen?, nF1])); (have dF1_3 : w2.frozen? ⟨w1.heap.size, 3, none⟩ = false := (by simp [World.frozen?, nF1])); (clear nF1); (clear U0); (have U0 := Aside0.mk nU0); (clear nU0); (clear U1); (have U1 := Aside0.mk nU1); (clear nU1); (have hd2_ : Dr g w w2 := Dr.then_ (by (with_reducible repeat (first | exact HD.out | refine Dr.alloc ?_ _ | refine Dr.drewN ?_ _ | refine Dr.drew ?_ | refine Dr.set ?_ _ ?_)); all_goals (first | (left; simp; done) | (left; simp; omega) | (left; omega) | (right; rfl))) hd_); (clear HR HD); (have HR := Aside0.mk hr_); (have HD := Aside0.mk hd2_); (clear hr_ hd_ hd2_); have z2_0 : w.heap.size < w2.heap.size := (by omega); have z2_1 : w1.heap.size < w2.heap.size := (by omega)) | (go_at_call 63; (with_reducible refine Calls.mono (drAnyBody_any g _ _ (Rd.at HR.out (by (with_reducible repeat (first | exact Keep.refl (Rd.lt HR.out) | refine Keep.alloc ?_ _ | refine Keep.drewN ?_ _ | refine Keep.drew ?_ | refine Keep.set ?_ _ ?_)); all_goals (first | (simp; done) | (simp; omega) | omega))) (by omega)) ?_); (rintro e w3 ⟨ys, B, d, rfl, hs3, hb_, hr_, hd_⟩); (have y3 := hd_.size); ((try simp at y3)); (have nF0 : w3.heap[w.heap.size]? = some (.cells #[.string ⟨#[]⟩, .string ⟨#[]⟩, .slice none 0 0, .slice none 0 0] 29 (0, 0)) := hd_.blk (by (with_reducible repeat (first | exact blk_at _ _ (by first | (simp; done) | (simp; omega)) | exact F0.out | refine blk_alloc ?_ _ | refine blk_drew ?_ | refine blk_drewN ?_ _ | refine blk_set ?_ _ _ | refine blk_far ?_ ?_ _)); all_goals (first | (simp; done) | (simp; omega) | omega)) (by omega)); (have nF1 : w3.heap[w1.heap.size]? = some (.cells #[.string x.f0.f0, .string x.f0.f1, .slice A0 x.f1.length c0, .slice A1 x.f2.length c1] 29 (0, 0)) := hd_.blk (by (with_reducible repeat (first | exact blk_at _ _ (by first | (simp; done) | (simp; omega)) | exact F1.out | refine blk_alloc ?_ _ | refine blk_drew ?_ | refine blk_drewN ?_ _ | refine blk_set ?_ _ _ | refine blk_far ?_ ?_ _)); all_goals (first | (simp; done) | (simp; omega) | omega)) (by omega)); (have nU0 := hd_.R2 U0.out (by (with_reducible repeat (first | exact Below.refl _ _ | refine bel_alloc ?_ _ | refine blw_drewN ?_ _ | refine Below.drew ?_))) (by omega)); (have nU1 := hd_.R2 U1.out (by (with_reducible repeat (first | exact Below.refl _ _ | refine bel_alloc ?_ _ | refine blw_drewN ?_ _ | refine Below.drew ?_))) (by omega)); ((try clear cF0_0 cF0_1 cF0_2 cF0_3)); ((try clear dF0_0 dF0_1 dF0_2 dF0_3)); ((try clear cF1_0 cF1_1 cF1_2 cF1_3)); ((try clear dF1_0 dF1_1 dF1_2 dF1_3)); (clear F0 F1); (have F0 := Aside0.mk nF0); (have cF0_0 : w3.cell? ⟨w.heap.size, 0, none⟩ = some (.string ⟨#[]⟩) := (by simp [World.cell?, nF0])); (have cF0_1 : w3.cell? ⟨w.heap.size, 1, none⟩ = some (.string ⟨#[]⟩) := (by simp [World.cell?, nF0])); (have cF0_2 : w3.cell? ⟨w.heap.size, 2, none⟩ = some (.slice none 0 0) := (by simp [World.cell?, nF0])); (have cF0_3 : w3.cell? ⟨w.heap.size, 3, none⟩ = some (.slice none 0 0) := (by simp [World.cell?, nF0])); (have dF0_0 : w3.frozen? ⟨w.heap.size, 0, none⟩ = false := (by simp [World.frozen?, nF0])); (have dF0_1 : w3.frozen? ⟨w.heap.size, 1, none⟩ = false := (by simp [World.frozen?, nF0])); (have dF0_2 : w3.frozen? ⟨w.heap.size, 2, none⟩ = false := (by simp [World.frozen?, nF0])); (have dF0_3 : w3.frozen? ⟨w.heap.size, 3, none⟩ = false := (by simp [World.frozen?, nF0])); (clear nF0); (have F1 := Aside0.mk nF1); (have cF1_0 : w3.cell? ⟨w1.heap.size, 0, none⟩ = some (.string x.f0.f0) := (by simp [World.cell?, nF1])); (have cF1_1 : w3.cell? ⟨w1.heap.size, 1, none⟩ = some (.string x.f0.f1) := (by simp [World.cell?, nF1])); (have cF1_2 : w3.cell? ⟨w1.heap.size, 2, none⟩ = some (.slice A0 x.f1.length c0) := (by simp [World.cell?, nF1])); (have cF1_3 : w3.cell? ⟨w1.heap.size, 3, none⟩ = some (.slice A1 x.f2.length c1) := (by simp [World.cell?, nF1])); (have dF1_0 : w3.frozen? ⟨w1.heap.size, 0, none⟩ = false := (by simp [World.frozen?, nF1])); (have dF1_1 : w3.frozen? ⟨w1.heap.size, 1, none⟩ = false := (by simp [World.frozen?, nF1])); (have dF1_2 : w3.frozen? ⟨w1.heap.size, 2, none⟩ = false := (by simp [World.frozen?, nF1])); (have dF1_3 : w3.frozen? ⟨w1.heap.size, 3, none⟩ = false := (by simp [World.frozen?, nF1])); (clear nF1); (clear U0); (have U0 := Aside0.mk nU0); (clear nU0); (clear U1); (have U1 := Aside0.mk nU1); (clear nU1); (have hd2_ : Dr g w w3 := Dr.then_ (by (with_reducible repeat (first | exact HD.out | refine Dr.alloc ?_ _ | refine Dr.drewN ?_ _ | refine Dr.drew ?_ | refine Dr.set ?_ _ ?_)); all_goals (first | (left; simp; done) | (left; simp; omega) | (left; omega) | (right; rfl))) hd_); (clear HR HD); (have HR := Aside0.mk hr_); (have HD := Aside0.mk hd2_); (clear hr_ hd_ hd2_); (have HB := Aside0.mk (Kd.R_lower (base' := w.heap.size) hb_ (by first | (simp; done) | (simp; omega) | omega))); clear hb_; have z3_0 : w.heap.size < w3.heap.size := (by omega); have z3_1 : w1.heap.size < w3.heap.size := (by omega)) | (go_at_call 61; (with_reducible refine Calls.mono (drAnyAddr_any g _ _ (Rd.at HR.out (by (with_reducible repeat (first | exact Keep.refl (Rd.lt HR.out) | refine Keep.alloc ?_ _ | refine Keep.drewN ?_ _ | refine Keep.drew ?_ | refine Keep.set ?_ _ ?_)); all_goals (first | (simp; done) | (simp; omega) | omega))) (by omega)) ?_); (rintro e w4 ⟨a4, rfl, hs4, hr_, hd_⟩); (have y4 := hd_.size); ((try simp at y4)); (have nF0 : w4.heap[w.heap.size]? = some (.cells #[.string ⟨#[]⟩, .string ⟨#[]⟩, .slice none 0 0, .slice none 0 0] 29 (0, 0)) := hd_.blk (by (with_reducible repeat (first | exact blk_at _ _ (by first | (simp; done) | (simp; omega)) | exact F0.out | refine blk_alloc ?_ _ | refine blk_drew ?_ | refine blk_drewN ?_ _ | refine blk_set ?_ _ _ | refine blk_far ?_ ?_ _)); all_goals (first | (simp; done) | (simp; omega) | omega)) (by omega)); (have nF1 : w4.heap[w1.heap.size]? = some (.cells #[.string x.f0.f0, .string x.f0.f1, .slice A0 x.f1.length c0, .slice A1 x.f2.length c1] 29 (0, 0)) := hd_.blk (by (with_reducible repeat (first | exact blk_at _ _ (by first | (simp; done) | (simp; omega)) | exact F1.out | refine blk_alloc ?_ _ | refine blk_drew ?_ | refine blk_drewN ?_ _ | refine blk_set ?_ _ _ | refine blk_far ?_ ?_ _)); all_goals (first | (simp; done) | (simp; omega) | omega)) (by omega)); (have nU0 := hd_.R2 U0.out (by (with_reducible repeat (first | exact Below.refl _ _ | refine bel_alloc ?_ _ | refine blw_drewN ?_ _ | refine Below.drew ?_))) (by omega)); (have nU1 := hd_.R2 U1.out (by (with_reducible repeat (first | exact Below.refl _ _ | refine bel_alloc ?_ _ | refine blw_drewN ?_ _ | refine Below.drew ?_))) (by omega)); ((try clear cF0_0 cF0_1 cF0_2 cF0_3)); ((try clear dF0_0 dF0_1 dF0_2 dF0_3)); ((try clear cF1_0 cF1_1 cF1_2 cF1_3)); ((try clear dF1_0 dF1_1 dF1_2 dF1_3)); (clear F0 F1); (have F0 := Aside0.mk nF0); (have cF0_0 : w4.cell? ⟨w.heap.size, 0, none⟩ = some (.string ⟨#[]⟩) := (by simp [World.cell?, nF0])); (have cF0_1 : w4.cell? ⟨w.heap.size, 1, none⟩ = some (.string ⟨#[]⟩) := (by simp [World.cell?, nF0])); (have cF0_2 : w4.cell? ⟨w.heap.size, 2, none⟩ = some (.slice none 0 0) := (by simp [World.cell?, nF0])); (have cF0_3 : w4.cell? ⟨w.heap.size, 3, none⟩ = some (.slice none 0 0) := (by simp [World.cell?, nF0])); (have dF0_0 : w4.frozen? ⟨w.heap.size, 0, none⟩ = false := (by simp [World.frozen?, nF0])); (have dF0_1 : w4.frozen? ⟨w.heap.size, 1, none⟩ = false := (by simp [World.frozen?, nF0])); (have dF0_2 : w4.frozen? ⟨w.heap.size, 2, none⟩ = false := (by simp [World.frozen?, nF0])); (have dF0_3 : w4.frozen? ⟨w.heap.size, 3, none⟩ = false := (by simp [World.frozen?, nF0])); (clear nF0); (have F1 := Aside0.mk nF1); (have cF1_0 : w4.cell? ⟨w1.heap.size, 0, none⟩ = some (.string x.f0.f0) := (by simp [World.cell?, nF1])); (have cF1_1 : w4.cell? ⟨w1.heap.size, 1, none⟩ = some (.string x.f0.f1) := (by simp [World.cell?, nF1])); (have cF1_2 : w4.cell? ⟨w1.heap.size, 2, none⟩ = some (.slice A0 x.f1.length c0) := (by simp [World.cell?, nF1])); (have cF1_3 : w4.cell? ⟨w1.heap.size, 3, none⟩ = some (.slice A1 x.f2.length c1) := (by simp [World.cell?, nF1])); (have dF1_0 : w4.frozen? ⟨w1.heap.size, 0, none⟩ = false := (by simp [World.frozen?, nF1])); (have dF1_1 : w4.frozen? ⟨w1.heap.size, 1, none⟩ = false := (by simp [World.frozen?, nF1])); (have dF1_2 : w4.frozen? ⟨w1.heap.size, 2, none⟩ = false := (by simp [World.frozen?, nF1])); (have dF1_3 : w4.frozen? ⟨w1.heap.size, 3, none⟩ = false := (by simp [World.frozen?, nF1])); (clear nF1); (clear U0); (have U0 := Aside0.mk nU0); (clear nU0); (clear U1); (have U1 := Aside0.mk nU1); (clear nU1); (have hd2_ : Dr g w w4 := Dr.then_ (by (with_reducible repeat (first | exact HD.out | refine Dr.alloc ?_ _ | refine Dr.drewN ?_ _ | refine Dr.drew ?_ | refine Dr.set ?_ _ ?_)); all_goals (first | (left; simp; done) | (left; simp; omega) | (left; omega) | (right; rfl))) hd_); (clear HR HD); (have HR := Aside0.mk hr_); (have HD := Aside0.mk hd2_); (clear hr_ hd_ hd2_); have z4_0 : w.heap.size < w4.heap.size := (by omega); have z4_1 : w1.heap.size < w4.heap.size := (by omega)))
 ·refine bodyPost_ret (v := .agg #[.string x.f0.f0, .string x.f0.f1, .slice A0 x.f1.length c0, .slice B ys.length d]) ?hrA rfl ?hpA
  case hrA => simp [results, Tryz.results23, go_sem, cF0_0, cF0_1, cF0_2, cF0_3]
  case hpA => exact ⟨(⟨x.f0, x.f1, ys⟩ : SMail), A0, c0, B, d, rfl, (mid_b HSM.out hs3), (by (with_reducible repeat (first | exact U0.out | refine R_put1 ?_ rfl (Kd.R_ne U0.out F0.out (by decide)) | refine R_put1 ?_ rfl (Kd.R_ne U0.out F1.out (by decide))))), (by (with_reducible repeat (first | exact HB.out | refine R_put1 ?_ rfl (Kd.R_ne HB.out F0.out (by decide)) | refine R_put1 ?_ rfl (Kd.R_ne HB.out F1.out (by decide))))), (Rd.at HR.out (by (with_reducible repeat (first | exact Keep.refl (Rd.lt HR.out) | refine Keep.alloc ?_ _ | refine Keep.drewN ?_ _ | refine Keep.drew ?_ | refine Keep.set ?_ _ ?_)); all_goals (first | (simp; done) | (simp; omega) | omega))).up (by omega), by (with_reducible repeat (first | exact HD.out | refine Dr.alloc ?_ _ | refine Dr.drewN ?_ _ | refine Dr.drew ?_ | refine Dr.set ?_ _ ?_)); all_goals (first | (left; simp; done) | (left; simp; omega) | (left; omega) | (right; rfl))⟩
 ·have hx0 := HSM.out.2.1.1
  obtain ⟨ga, hgA, hga, hga2⟩ := own_form2 U0.out hx0
  subst hgA
  (try clear cF1_0 cF1_1 cF1_2 cF1_3 dF1_0 dF1_1 dF1_2 dF1_3)
  have join : Hid (∀ {goal : Prop} {G : SAddr → Nat → List SAddr → Option Addr → Nat → World → Prop} (rg : Hid (∀ (y : SAddr) (n0 : Nat) (zs : List SAddr) (vB : Option Addr) (vd : Nat) (V : World), (zs.length ≤ 5 ∧ ∀ y ∈ zs, smallA y) ∧ V.heap[w.heap.size]? = some (.cells #[.string ⟨#[]⟩, .string ⟨#[]⟩, .slice none 0 0, .slice none 0 0] 29 (0, 0)) ∧ V.heap[w1.heap.size]? = some (.cells #[.string x.f0.f0, .string x.f0.f1, .slice vB zs.length vd, .slice A1 x.f2.length c1] 29 (0, 0)) ∧ Kd.R kAddr 25 V w.heap.size (fun _ => True) (.slice vB zs.length vd) zs ∧ Kd.R Kd.string 9 V w.heap.size (fun _ => True) (.slice A1 x.f2.length c1) x.f2 ∧ Rd g (m + 121) V ∧ Dr g w V → G y n0 zs vB vd V) → goal) (hk : ∀ (y : SAddr) (n0 : Nat) (zs : List SAddr) (vB : Option Addr) (vd : Nat) (V : World), (zs.length ≤ 5 ∧ ∀ y ∈ zs, smallA y) ∧ V.heap[w.heap.size]? = some (.cells #[.string ⟨#[]⟩, .string ⟨#[]⟩, .slice none 0 0, .slice none 0 0] 29 (0, 0)) ∧ V.heap[w1.heap.size]? = some (.cells #[.string x.f0.f0, .string x.f0.f1, .slice vB zs.length vd, .slice A1 x.f2.length c1] 29 (0, 0)) ∧ Kd.R kAddr 25 V w.heap.size (fun _ => True) (.slice vB zs.length vd) zs ∧ Kd.R Kd.string 9 V w.heap.size (fun _ => True) (.slice A1 x.f2.length c1) x.f2 ∧ Rd g (m + 121) V ∧ Dr g w V → G y n0 zs vB vd V), goal) := Lib.hid (fun f h => f (Lib.hid h))
  apply join.out
  case rg =>
   intro HKK
   refine wp_region_held_drew (S := (fun _ => True)) (by kernel_rfl) ?s1 (fun hHeld => ?t1)
   case s1 => exact trivial
   generalize hV0 : World.drew _ = V0 at hHeld ⊢
   have f0 : V0.heap[w.heap.size]? = some (.cells #[.string ⟨#[]⟩, .string ⟨#[]⟩, .slice none 0 0, .slice none 0 0] 29 (0, 0)) := by rw [← hV0]; exact blk_drew F0.out
   have f1 : V0.heap[w1.heap.size]? = some (.cells #[.string x.f0.f0, .string x.f0.f1, .slice (some ⟨ga, 0, none⟩) x.f1.length c0, .slice A1 x.f2.length c1] 29 (0, 0)) := by rw [← hV0]; exact blk_drew F1.out
   have u0 : Kd.R kAddr 25 V0 w.heap.size (fun _ => True) (.slice (some ⟨ga, 0, none⟩) x.f1.length c0) x.f1 := by rw [← hV0]; exact Kd.R_drew U0.out
   have u1 : Kd.R Kd.string 9 V0 w.heap.size (fun _ => True) (.slice A1 x.f2.length c1) x.f2 := by rw [← hV0]; exact Kd.R_drew U1.out
   have hr : Rd g (m + 121) V0 := by rw [← hV0]; exact HR.out.drew
   have hd : Dr g w V0 := by rw [← hV0]; exact HD.out.drew
   clear hV0
   have F0 := Aside0.mk f0
   have F1 := Aside0.mk f1
   have U0 := Aside0.mk u0
   have U1 := Aside0.mk u1
   have HR := Aside0.mk hr
   have HD := Aside0.mk hd
   clear f0 f1 u0 u1 hr hd
   obtain ⟨d0_, d1_, d2_, d3_⟩ := cells4 F1.out
   obtain ⟨ce, hcl, hM, hcc, hfr⟩ := Kd.R_elem U0.out zAddr 0 (by omega) (by omega)
   rw [show Int.toNat 0 = 0 from rfl] at hM hcc
   generalize hyy : x.f1.getD 0 zAddr = y at hM
   have HY : Hid (smallA y) := Lib.hid (by rw [← hyy]; exact HSM.out.2.1.2.2 _ (getD_mem x.f1 zAddr hx0))
   clear hyy
   obtain rfl := kAddr_openM hM
   have p0_ : V0.cell? ⟨ga, 0, none⟩ = some (.string y.f0) := by have := hcc 0 _ rfl; simpa using this
   have p1_ : V0.cell? ⟨ga, 1, none⟩ = some (.string y.f1) := by have := hcc 1 _ rfl; simpa using this
   clear hcc hfr hM hcl
   refine tk 0 ?v2 ?y2 ?r2
   case y2 => intro w_ hSw; (try dsimp only at hSw); go_simp; (try (with_reducible rfl))
   try simp only [Act.put, List.setIfInBounds_toArray, List.set_cons_zero, List.set_cons_succ]
   refine tk 2 ?v3 ?y3 ?r3
   case y3 => intro w_ hSw; (try dsimp only at hSw); go_simp; (try (with_reducible rfl))
   try simp only [Act.put, List.setIfInBounds_toArray, List.set_cons_zero, List.set_cons_succ]
   refine rdy (rs := [1, 3]) ?_
   refine rc (fun K hK => ?k4) (rc (fun K hK => ?k5) AllReadyH.nil)
   case k4 =>
    go_simp
    refine hK.out _ _ ?h6 (fun hHeld => ?j6)
    case h6 => exact hHeld
    clear hK K
    try simp only [Act.put, List.setIfInBounds_toArray, List.set_cons_zero, List.set_cons_succ]
    refine rdy (rs := [3]) ?_
    refine rc (fun K hK => ?k7) AllReadyH.nil
    case k7 =>
     go_simp
     refine hK.out _ _ ?h8 (fun hHeld => ?j8)
     case h8 => exact hHeld
     clear hK K
     try simp only [Act.put, List.setIfInBounds_toArray, List.set_cons_zero, List.set_cons_succ]
     refine tk 4 ?v9 ?y9 ?r9
     case y9 => intro w_ hSw; (try dsimp only at hSw); go_simp; (try (with_reducible rfl))
     try simp only [Act.put, List.setIfInBounds_toArray, List.set_cons_zero, List.set_cons_succ]
     refine rdy (rs := [5]) ?_
     refine rc (fun K hK => ?k10) AllReadyH.nil
     case k10 =>
      go_simp
      refine hK.out _ _ ?h11 (fun hHeld => ?j11)
      case h11 => exact hHeld
      clear hK K
      try simp only [Act.put, List.setIfInBounds_toArray, List.set_cons_zero, List.set_cons_succ]
      refine rdy (rs := [6]) ?_
      refine rc (fun K hK => ?k12) AllReadyH.nil
      case k12 =>
       go_simp
       refine hK.out _ _ ?h13 (fun hHeld => ?j13)
       case h13 => exact trivial
       clear hK K
       try simp only [Act.put, List.setIfInBounds_toArray, List.set_cons_zero, List.set_cons_succ]
       generalize hV6 : World.alloc V0 _ = V6 at hHeld ⊢
       have G1 : V6.heap[w1.heap.size]? = some (.cells #[.string x.f0.f0, .string x.f0.f1, .slice (some ⟨ga, 0, none⟩) x.f1.length c0, .slice A1 x.f2.length c1] 29 (0, 0)) := by rw [← hV6]; exact blk_alloc F1.out _
       obtain ⟨g0_, g1_, g2_, g3_⟩ := cells4 G1
       refine rdy (rs := [7]) ?_
       refine rc (fun K hK => ?k14) AllReadyH.nil
       case k14 =>
        subst hV6
        refine Kd.R_append_step kAddr (w.heap.size) (by rfl) (.tmp 16) (.tmp 21) 26 25 (.agg #[(.string ⟨#[]⟩), (.string ⟨#[]⟩)]) 32 rfl Tryz.underlying26 info25 rfl (by decide) (by omega) (.slice (some ⟨ga, 0, none⟩) x.f1.length c0) x.f1 y [.string y.f0, .string y.f1] (fun _ => True) (fun _ => False) rfl rfl (kAddr_mkM _ _ _ y) (fun _ hk => hk.elim) (fun _ _ => trivial) U0.out (Below.refl _ _) ?aS7 ?aL7 ?_
        case aS7 => exact HD.out.size
        case aL7 => (have := HSM.out.2.1.2.1; omega)
        intro v7 V7 ho hb hg hat
        refine hK.out _ _ ?h15 (fun hHeld => ?j15)
        case h15 => exact trivial
        clear hK K
        try simp only [Act.put, List.setIfInBounds_toArray, List.set_cons_zero, List.set_cons_succ]
        have HDN : Dr g w V7 := Dr.belowB HD.out hb
        have HRN : Rd g (m + 121) V7 := Rd.keep HR.out (fun q hq => hb.block q (by omega))
        have F0N : V7.heap[w.heap.size]? = some (.cells #[.string ⟨#[]⟩, .string ⟨#[]⟩, .slice none 0 0, .slice none 0 0] 29 (0, 0)) := (hg.block _ (blk_lt F0.out) (Kd.R_ne U0.out F0.out (by decide))).trans F0.out
        have F1N : V7.heap[w1.heap.size]? = some (.cells #[.string x.f0.f0, .string x.f0.f1, .slice (some ⟨ga, 0, none⟩) x.f1.length c0, .slice A1 x.f2.length c1] 29 (0, 0)) := (hg.block _ (blk_lt F1.out) (Kd.R_ne U0.out F1.out (by decide))).trans F1.out
        have U1N := R_by2 U1.out rfl U0.out (by decide) hg
        obtain ⟨zs, hzs, ho⟩ : ∃ zs : List SAddr, (zs.length ≤ 5 ∧ ∀ y ∈ zs, smallA y) ∧ Kd.R kAddr 25 V7 w.heap.size (fun _ => True) v7 zs := ⟨_, more_to HSM.out.2.1 HY.out, ho⟩
        obtain ⟨vB, vd, hv⟩ := Kd.R_slice ho
        subst hv
        have HO := Aside0.mk ho
        have HZ := Lib.hid hzs
        clear F0 F1 U0 U1 HR HD ho hb hg hat hzs p0_ p1_ g0_ g1_ g2_ g3_ G1
        have F0 := Aside0.mk F0N
        have F1 := Aside0.mk F1N
        have U1 := Aside0.mk U1N
        have HR := Aside0.mk HRN
        have HD := Aside0.mk HDN
        clear F0N F1N U1N HRN HDN
        obtain ⟨n0, hn0⟩ : ∃ n, n = V0.heap.size := ⟨_, rfl⟩
        rw [← hn0]
        have HN0 := Lib.hid hn0
        clear hn0
        obtain ⟨q0_, q1_, q2_, q3_⟩ := cells4 F1.out
        obtain ⟨r0_, r1_, r2_, r3_⟩ := froz4 F1.out
        refine tk 8 ?v16 ?y16 ?r16
        case y16 => intro w_ hSw; (try dsimp only at hSw); go_simp; (try (with_reducible rfl))
        try simp only [Act.put, List.setIfInBounds_toArray, List.set_cons_zero, List.set_cons_succ]
        refine rdy (rs := [9]) ?_
        refine rc (fun K hK => ?k17) AllReadyH.nil
        case k17 =>
         go_simp
         generalize hV9 : World.setCell V7 _ _ = V9
         refine hK.out _ _ ?h18 (fun hHeld => ?j18)
         case h18 => exact trivial
         clear hK K
         try simp only [Act.put, List.setIfInBounds_toArray, List.set_cons_zero, List.set_cons_succ]
         refine wpAnyH_done (by kernel_rfl) ?_ _
         exact HKK.out y n0 zs vB vd V9 ⟨HZ.out, (by rw [← hV9]; exact blk_far F0.out (by show w.heap.size ≠ w1.heap.size; omega) _), (by rw [← hV9]; have h := blk_set1 F1.out 2 (.slice vB zs.length vd); simpa using h), (by rw [← hV9]; exact R_put1 HO.out rfl (Kd.R_ne HO.out F1.out (by decide))), (by rw [← hV9]; exact R_put1 U1.out rfl (Kd.R_ne U1.out F1.out (by decide))), (by rw [← hV9]; exact HR.out.set _ (by show g < w1.heap.size; omega)), (by rw [← hV9]; exact HD.out.set _ (.inl (by show w.heap.size ≤ w1.heap.size; omega)))⟩
   case k5 =>
    go_simp
    refine hK.out _ _ ?h19 (fun hHeld => ?j19)
    case h19 => exact hHeld
    clear hK K
    try simp only [Act.put, List.setIfInBounds_toArray, List.set_cons_zero, List.set_cons_succ]
    refine tk 4 ?v20 ?y20 ?r20
    case y20 => intro w_ hSw; (try dsimp only at hSw); go_simp; (try (with_reducible rfl))
    try simp only [Act.put, List.setIfInBounds_toArray, List.set_cons_zero, List.set_cons_succ]
    refine rdy (rs := [1, 5]) ?_
    refine rc (fun K hK => ?k21) (rc (fun K hK => ?k22) AllReadyH.nil)
    case k21 =>
     go_simp
     refine hK.out _ _ ?h23 (fun hHeld => ?j23)
     case h23 => exact hHeld
     clear hK K
     try simp only [Act.put, List.setIfInBounds_toArray, List.set_cons_zero, List.set_cons_succ]
     refine rdy (rs := [5]) ?_
     refine rc (fun K hK => ?k24) AllReadyH.nil
     case k24 =>
      go_simp
      refine hK.out _ _ ?h25 (fun hHeld => ?j25)
      case h25 => exact hHeld
      clear hK K
      try simp only [Act.put, List.setIfInBounds_toArray, List.set_cons_zero, List.set_cons_succ]
      refine rdy (rs := [6]) ?_
      refine rc (fun K hK => ?k26) AllReadyH.nil
      case k26 =>
       go_simp
       refine hK.out _ _ ?h27 (fun hHeld => ?j27)
       case h27 => exact trivial
       clear hK K
       try simp only [Act.put, List.setIfInBounds_toArray, List.set_cons_zero, List.set_cons_succ]
       generalize hV6 : World.alloc V0 _ = V6 at hHeld ⊢
       have G1 : V6.heap[w1.heap.size]? = some (.cells #[.string x.f0.f0, .string x.f0.f1, .slice (some ⟨ga, 0, none⟩) x.f1.length c0, .slice A1 x.f2.length c1] 29 (0, 0)) := by rw [← hV6]; exact blk_alloc F1.out _
       obtain ⟨g0_, g1_, g2_, g3_⟩ := cells4 G1
       refine rdy (rs := [7]) ?_
       refine rc (fun K hK => ?k28) AllReadyH.nil
       case k28 =>
        subst hV6
        refine Kd.R_append_step kAddr (w.heap.size) (by rfl) (.tmp 16) (.tmp 21) 26 25 (.agg #[(.string ⟨#[]⟩), (.string ⟨#[]⟩)]) 32 rfl Tryz.underlying26 info25 rfl (by decide) (by omega) (.slice (some ⟨ga, 0, none⟩) x.f1.length c0) x.f1 y [.string y.f0, .string y.f1] (fun _ => True) (fun _ => False) rfl rfl (kAddr_mkM _ _ _ y) (fun _ hk => hk.elim) (fun _ _ => trivial) U0.out (Below.refl _ _) ?aS7 ?aL7 ?_
        case aS7 => exact HD.out.size
        case aL7 => (have := HSM.out.2.1.2.1; omega)
        intro v7 V7 ho hb hg hat
        refine hK.out _ _ ?h29 (fun hHeld => ?j29)
        case h29 => exact trivial
        clear hK K
        try simp only [Act.put, List.setIfInBounds_toArray, List.set_cons_zero, List.set_cons_succ]
        have HDN : Dr g w V7 := Dr.belowB HD.out hb
        have HRN : Rd g (m + 121) V7 := Rd.keep HR.out (fun q hq => hb.block q (by omega))
        have F0N : V7.heap[w.heap.size]? = some (.cells #[.string ⟨#[]⟩, .string ⟨#[]⟩, .slice none 0 0, .slice none 0 0] 29 (0, 0)) := (hg.block _ (blk_lt F0.out) (Kd.R_ne U0.out F0.out (by decide))).trans F0.out
        have F1N : V7.heap[w1.heap.size]? = some (.cells #[.string x.f0.f0, .string x.f0.f1, .slice (some ⟨ga, 0, none⟩) x.f1.length c0, .slice A1 x.f2.length c1] 29 (0, 0)) := (hg.block _ (blk_lt F1.out) (Kd.R_ne U0.out F1.out (by decide))).trans F1.out
        have U1N := R_by2 U1.out rfl U0.out (by decide) hg
        obtain ⟨zs, hzs, ho⟩ : ∃ zs : List SAddr, (zs.length ≤ 5 ∧ ∀ y ∈ zs, smallA y) ∧ Kd.R kAddr 25 V7 w.heap.size (fun _ => True) v7 zs := ⟨_, more_to HSM.out.2.1 HY.out, ho⟩
        obtain ⟨vB, vd, hv⟩ := Kd.R_slice ho
        subst hv
        have HO := Aside0.mk ho
        have HZ := Lib.hid hzs
        clear F0 F1 U0 U1 HR HD ho hb hg hat hzs p0_ p1_ g0_ g1_ g2_ g3_ G1
        have F0 := Aside0.mk F0N
        have F1 := Aside0.mk F1N
        have U1 := Aside0.mk U1N
        have HR := Aside0.mk HRN
        have HD := Aside0.mk HDN
        clear F0N F1N U1N HRN HDN
        obtain ⟨n0, hn0⟩ : ∃ n, n = V0.heap.size := ⟨_, rfl⟩
        rw [← hn0]
        have HN0 := Lib.hid hn0
        clear hn0
        obtain ⟨q0_, q1_, q2_, q3_⟩ := cells4 F1.out
        obtain ⟨r0_, r1_, r2_, r3_⟩ := froz4 F1.out
        refine tk 8 ?v30 ?y30 ?r30
        case y30 => intro w_ hSw; (try dsimp only at hSw); go_simp; (try (with_reducible rfl))
        try simp only [Act.put, List.setIfInBounds_toArray, List.set_cons_zero, List.set_cons_succ]
        refine rdy (rs := [9]) ?_
        refine rc (fun K hK => ?k31) AllReadyH.nil
        case k31 =>
         go_simp
         generalize hV9 : World.setCell V7 _ _ = V9
         refine hK.out _ _ ?h32 (fun hHeld => ?j32)
         case h32 => exact trivial
         clear hK K
         try simp only [Act.put, List.setIfInBounds_toArray, List.set_cons_zero, List.set_cons_succ]
         refine wpAnyH_done (by kernel_rfl) ?_ _
         exact HKK.out y n0 zs vB vd V9 ⟨HZ.out, (by rw [← hV9]; exact blk_far F0.out (by show w.heap.size ≠ w1.heap.size; omega) _), (by rw [← hV9]; have h := blk_set1 F1.out 2 (.slice vB zs.length vd); simpa using h), (by rw [← hV9]; exact R_put1 HO.out rfl (Kd.R_ne HO.out F1.out (by decide))), (by rw [← hV9]; exact R_put1 U1.out rfl (Kd.R_ne U1.out F1.out (by decide))), (by rw [← hV9]; exact HR.out.set _ (by show g < w1.heap.size; omega)), (by rw [← hV9]; exact HD.out.set _ (.inl (by show w.heap.size ≤ w1.heap.size; omega)))⟩
    case k22 =>
     go_simp
     refine hK.out _ _ ?h33 (fun hHeld => ?j33)
     case h33 => exact hHeld
     clear hK K
     try simp only [Act.put, List.setIfInBounds_toArray, List.set_cons_zero, List.set_cons_succ]
     refine rdy (rs := [1, 6]) ?_
     refine rc (fun K hK => ?k34) (rc (fun K hK => ?k35) AllReadyH.nil)
     case k34 =>
      go_simp
      refine hK.out _ _ ?h36 (fun hHeld => ?j36)
      case h36 => exact hHeld
      clear hK K
      try simp only [Act.put, List.setIfInBounds_toArray, List.set_cons_zero, List.set_cons_succ]
      refine rdy (rs := [6]) ?_
      refine rc (fun K hK => ?k37) AllReadyH.nil
      case k37 =>
       go_simp
       refine hK.out _ _ ?h38 (fun hHeld => ?j38)
       case h38 => exact trivial
       clear hK K
       try simp only [Act.put, List.setIfInBounds_toArray, List.set_cons_zero, List.set_cons_succ]
       generalize hV6 : World.alloc V0 _ = V6 at hHeld ⊢
       have G1 : V6.heap[w1.heap.size]? = some (.cells #[.string x.f0.f0, .string x.f0.f1, .slice (some ⟨ga, 0, none⟩) x.f1.length c0, .slice A1 x.f2.length c1] 29 (0, 0)) := by rw [← hV6]; exact blk_alloc F1.out _
       obtain ⟨g0_, g1_, g2_, g3_⟩ := cells4 G1
       refine rdy (rs := [7]) ?_
       refine rc (fun K hK => ?k39) AllReadyH.nil
       case k39 =>
        subst hV6
        refine Kd.R_append_step kAddr (w.heap.size) (by rfl) (.tmp 16) (.tmp 21) 26 25 (.agg #[(.string ⟨#[]⟩), (.string ⟨#[]⟩)]) 32 rfl Tryz.underlying26 info25 rfl (by decide) (by omega) (.slice (some ⟨ga, 0, none⟩) x.f1.length c0) x.f1 y [.string y.f0, .string y.f1] (fun _ => True) (fun _ => False) rfl rfl (kAddr_mkM _ _ _ y) (fun _ hk => hk.elim) (fun _ _ => trivial) U0.out (Below.refl _ _) ?aS7 ?aL7 ?_
        case aS7 => exact HD.out.size
        case aL7 => (have := HSM.out.2.1.2.1; omega)
        intro v7 V7 ho hb hg hat
        refine hK.out _ _ ?h40 (fun hHeld => ?j40)
        case h40 => exact trivial
        clear hK K
        try simp only [Act.put, List.setIfInBounds_toArray, List.set_cons_zero, List.set_cons_succ]
        have HDN : Dr g w V7 := Dr.belowB HD.out hb
        have HRN : Rd g (m + 121) V7 := Rd.keep HR.out (fun q hq => hb.block q (by omega))
        have F0N : V7.heap[w.heap.size]? = some (.cells #[.string ⟨#[]⟩, .string ⟨#[]⟩, .slice none 0 0, .slice none 0 0] 29 (0, 0)) := (hg.block _ (blk_lt F0.out) (Kd.R_ne U0.out F0.out (by decide))).trans F0.out
        have F1N : V7.heap[w1.heap.size]? = some (.cells #[.string x.f0.f0, .string x.f0.f1, .slice (some ⟨ga, 0, none⟩) x.f1.length c0, .slice A1 x.f2.length c1] 29 (0, 0)) := (hg.block _ (blk_lt F1.out) (Kd.R_ne U0.out F1.out (by decide))).trans F1.out
        have U1N := R_by2 U1.out rfl U0.out (by decide) hg
        obtain ⟨zs, hzs, ho⟩ : ∃ zs : List SAddr, (zs.length ≤ 5 ∧ ∀ y ∈ zs, smallA y) ∧ Kd.R kAddr 25 V7 w.heap.size (fun _ => True) v7 zs := ⟨_, more_to HSM.out.2.1 HY.out, ho⟩
        obtain ⟨vB, vd, hv⟩ := Kd.R_slice ho
        subst hv
        have HO := Aside0.mk ho
        have HZ := Lib.hid hzs
        clear F0 F1 U0 U1 HR HD ho hb hg hat hzs p0_ p1_ g0_ g1_ g2_ g3_ G1
        have F0 := Aside0.mk F0N
        have F1 := Aside0.mk F1N
        have U1 := Aside0.mk U1N
        have HR := Aside0.mk HRN
        have HD := Aside0.mk HDN
        clear F0N F1N U1N HRN HDN
        obtain ⟨n0, hn0⟩ : ∃ n, n = V0.heap.size := ⟨_, rfl⟩
        rw [← hn0]
        have HN0 := Lib.hid hn0
        clear hn0
        obtain ⟨q0_, q1_, q2_, q3_⟩ := cells4 F1.out
        obtain ⟨r0_, r1_, r2_, r3_⟩ := froz4 F1.out
        refine tk 8 ?v41 ?y41 ?r41
        case y41 => intro w_ hSw; (try dsimp only at hSw); go_simp; (try (with_reducible rfl))
        try simp only [Act.put, List.setIfInBounds_toArray, List.set_cons_zero, List.set_cons_succ]
        refine rdy (rs := [9]) ?_
        refine rc (fun K hK => ?k42) AllReadyH.nil
        case k42 =>
         go_simp
         generalize hV9 : World.setCell V7 _ _ = V9
         refine hK.out _ _ ?h43 (fun hHeld => ?j43)
         case h43 => exact trivial
         clear hK K
         try simp only [Act.put, List.setIfInBounds_toArray, List.set_cons_zero, List.set_cons_succ]
         refine wpAnyH_done (by kernel_rfl) ?_ _
         exact HKK.out y n0 zs vB vd V9 ⟨HZ.out, (by rw [← hV9]; exact blk_far F0.out (by show w.heap.size ≠ w1.heap.size; omega) _), (by rw [← hV9]; have h := blk_set1 F1.out 2 (.slice vB zs.length vd); simpa using h), (by rw [← hV9]; exact R_put1 HO.out rfl (Kd.R_ne HO.out F1.out (by decide))), (by rw [← hV9]; exact R_put1 U1.out rfl (Kd.R_ne U1.out F1.out (by decide))), (by rw [← hV9]; exact HR.out.set _ (by show g < w1.heap.size; omega)), (by rw [← hV9]; exact HD.out.set _ (.inl (by show w.heap.size ≤ w1.heap.size; omega)))⟩
     case k35 =>
      go_simp
      refine hK.out _ _ ?h44 (fun hHeld => ?j44)
      case h44 => exact trivial
      clear hK K
      try simp only [Act.put, List.setIfInBounds_toArray, List.set_cons_zero, List.set_cons_succ]
      generalize hV6 : World.alloc V0 _ = V6 at hHeld ⊢
      have G1 : V6.heap[w1.heap.size]? = some (.cells #[.string x.f0.f0, .string x.f0.f1, .slice (some ⟨ga, 0, none⟩) x.f1.length c0, .slice A1 x.f2.length c1] 29 (0, 0)) := by rw [← hV6]; exact blk_alloc F1.out _
      obtain ⟨g0_, g1_, g2_, g3_⟩ := cells4 G1
      refine rdy (rs := [1]) ?_
      refine rc (fun K hK => ?k45) AllReadyH.nil
      case k45 =>
       go_simp
       refine hK.out _ _ ?h46 (fun hHeld => ?j46)
       case h46 => exact hHeld
       clear hK K
       try simp only [Act.put, List.setIfInBounds_toArray, List.set_cons_zero, List.set_cons_succ]
       refine rdy (rs := [7]) ?_
       refine rc (fun K hK => ?k47) AllReadyH.nil
       case k47 =>
        subst hV6
        refine Kd.R_append_step kAddr (w.heap.size) (by rfl) (.tmp 16) (.tmp 21) 26 25 (.agg #[(.string ⟨#[]⟩), (.string ⟨#[]⟩)]) 32 rfl Tryz.underlying26 info25 rfl (by decide) (by omega) (.slice (some ⟨ga, 0, none⟩) x.f1.length c0) x.f1 y [.string y.f0, .string y.f1] (fun _ => True) (fun _ => False) rfl rfl (kAddr_mkM _ _ _ y) (fun _ hk => hk.elim) (fun _ _ => trivial) U0.out (Below.refl _ _) ?aS7 ?aL7 ?_
        case aS7 => exact HD.out.size
        case aL7 => (have := HSM.out.2.1.2.1; omega)
        intro v7 V7 ho hb hg hat
        refine hK.out _ _ ?h48 (fun hHeld => ?j48)
        case h48 => exact trivial
        clear hK K
        try simp only [Act.put, List.setIfInBounds_toArray, List.set_cons_zero, List.set_cons_succ]
        have HDN : Dr g w V7 := Dr.belowB HD.out hb
        have HRN : Rd g (m + 121) V7 := Rd.keep HR.out (fun q hq => hb.block q (by omega))
        have F0N : V7.heap[w.heap.size]? = some (.cells #[.string ⟨#[]⟩, .string ⟨#[]⟩, .slice none 0 0, .slice none 0 0] 29 (0, 0)) := (hg.block _ (blk_lt F0.out) (Kd.R_ne U0.out F0.out (by decide))).trans F0.out
        have F1N : V7.heap[w1.heap.size]? = some (.cells #[.string x.f0.f0, .string x.f0.f1, .slice (some ⟨ga, 0, none⟩) x.f1.length c0, .slice A1 x.f2.length c1] 29 (0, 0)) := (hg.block _ (blk_lt F1.out) (Kd.R_ne U0.out F1.out (by decide))).trans F1.out
        have U1N := R_by2 U1.out rfl U0.out (by decide) hg
        obtain ⟨zs, hzs, ho⟩ : ∃ zs : List SAddr, (zs.length ≤ 5 ∧ ∀ y ∈ zs, smallA y) ∧ Kd.R kAddr 25 V7 w.heap.size (fun _ => True) v7 zs := ⟨_, more_to HSM.out.2.1 HY.out, ho⟩
        obtain ⟨vB, vd, hv⟩ := Kd.R_slice ho
        subst hv
        have HO := Aside0.mk ho
        have HZ := Lib.hid hzs
        clear F0 F1 U0 U1 HR HD ho hb hg hat hzs p0_ p1_ g0_ g1_ g2_ g3_ G1
        have F0 := Aside0.mk F0N
        have F1 := Aside0.mk F1N
        have U1 := Aside0.mk U1N
        have HR := Aside0.mk HRN
        have HD := Aside0.mk HDN
        clear F0N F1N U1N HRN HDN
        obtain ⟨n0, hn0⟩ : ∃ n, n = V0.heap.size := ⟨_, rfl⟩
        rw [← hn0]
        have HN0 := Lib.hid hn0
        clear hn0
        obtain ⟨q0_, q1_, q2_, q3_⟩ := cells4 F1.out
        obtain ⟨r0_, r1_, r2_, r3_⟩ := froz4 F1.out
        refine tk 8 ?v49 ?y49 ?r49
        case y49 => intro w_ hSw; (try dsimp only at hSw); go_simp; (try (with_reducible rfl))
        try simp only [Act.put, List.setIfInBounds_toArray, List.set_cons_zero, List.set_cons_succ]
        refine rdy (rs := [9]) ?_
        refine rc (fun K hK => ?k50) AllReadyH.nil
        case k50 =>
         go_simp
         generalize hV9 : World.setCell V7 _ _ = V9
         refine hK.out _ _ ?h51 (fun hHeld => ?j51)
         case h51 => exact trivial
         clear hK K
         try simp only [Act.put, List.setIfInBounds_toArray, List.set_cons_zero, List.set_cons_succ]
         refine wpAnyH_done (by kernel_rfl) ?_ _
         exact HKK.out y n0 zs vB vd V9 ⟨HZ.out, (by rw [← hV9]; exact blk_far F0.out (by show w.heap.size ≠ w1.heap.size; omega) _), (by rw [← hV9]; have h := blk_set1 F1.out 2 (.slice vB zs.length vd); simpa using h), (by rw [← hV9]; exact R_put1 HO.out rfl (Kd.R_ne HO.out F1.out (by decide))), (by rw [← hV9]; exact R_put1 U1.out rfl (Kd.R_ne U1.out F1.out (by decide))), (by rw [← hV9]; exact HR.out.set _ (by show g < w1.heap.size; omega)), (by rw [← hV9]; exact HD.out.set _ (.inl (by show w.heap.size ≤ w1.heap.size; omega)))⟩
  case hk =>
   intro y n0 zs vB vd V ⟨hzs, f0, f1, ho, u1, hr, hd⟩
   clear join F0 F1 U0 U1 HR HD
   (try clear cF0_0 cF0_1 cF0_2 cF0_3 dF0_0 dF0_1 dF0_2 dF0_3)
   have F0 := Aside0.mk f0
   have F1 := Aside0.mk f1
   have HO := Aside0.mk ho
   have U1 := Aside0.mk u1
   have HR := Aside0.mk hr
   have HD := Aside0.mk hd
   have HZ := Aside0.mk hzs
   clear f0 f1 ho u1 hr hd hzs
   obtain ⟨cF0_0, cF0_1, cF0_2, cF0_3⟩ := cells4 F0.out
   obtain ⟨dF0_0, dF0_1, dF0_2, dF0_3⟩ := froz4 F0.out
   obtain ⟨cF1_0, cF1_1, cF1_2, cF1_3⟩ := cells4 F1.out
   have yV := HD.out.size
   go_wp2
   refine bodyPost_ret (v := .agg #[.string x.f0.f0, .string x.f0.f1, .slice vB zs.length vd, .slice A1 x.f2.length c1]) ?hrB rfl ?hpB
   case hrB => simp [results, Tryz.results23, go_sem, cF0_0, cF0_1, cF0_2, cF0_3]
   case hpB => exact ⟨(⟨x.f0, zs, x.f2⟩ : SMail), vB, vd, A1, c1, rfl, (mid_t HSM.out HZ.out), (by (with_reducible repeat (first | exact HO.out | refine R_put1 ?_ rfl (Kd.R_ne HO.out F0.out (by decide)) | refine R_put1 ?_ rfl (Kd.R_ne HO.out F1.out (by decide))))), (by (with_reducible repeat (first | exact U1.out | refine R_put1 ?_ rfl (Kd.R_ne U1.out F0.out (by decide)) | refine R_put1 ?_ rfl (Kd.R_ne U1.out F1.out (by decide))))), (Rd.at HR.out (by (with_reducible repeat (first | exact Keep.refl (Rd.lt HR.out) | refine Keep.alloc ?_ _ | refine Keep.drewN ?_ _ | refine Keep.drew ?_ | refine Keep.set ?_ _ ?_)); all_goals (first | (simp; done) | (simp; omega) | omega))).up (by omega), by (with_reducible repeat (first | exact HD.out | refine Dr.alloc ?_ _ | refine Dr.drewN ?_ _ | refine Dr.drew ?_ | refine Dr.set ?_ _ ?_)); all_goals (first | (left; simp; done) | (left; simp; omega) | (left; omega) | (right; rfl))⟩
 ·refine bodyPost_ret (v := .agg #[.string x.f0.f0, .string x.f0.f1, .slice none 0 0, .slice A1 x.f2.length c1]) ?hrC rfl ?hpC
  case hrC => simp [results, Tryz.results23, go_sem, cF0_0, cF0_1, cF0_2, cF0_3]
  case hpC => exact ⟨(⟨x.f0, [], x.f2⟩ : SMail), none, 0, A1, c1, rfl, (mid_t HSM.out ⟨by decide, fun y hy => by cases hy⟩), (Kd.R_nil _ _ _ _ _), (by (with_reducible repeat (first | exact U1.out | refine R_put1 ?_ rfl (Kd.R_ne U1.out F0.out (by decide)) | refine R_put1 ?_ rfl (Kd.R_ne U1.out F1.out (by decide))))), (Rd.at HR.out (by (with_reducible repeat (first | exact Keep.refl (Rd.lt HR.out) | refine Keep.alloc ?_ _ | refine Keep.drewN ?_ _ | refine Keep.drew ?_ | refine Keep.set ?_ _ ?_)); all_goals (first | (simp; done) | (simp; omega) | omega))).up (by omega), by (with_reducible repeat (first | exact HD.out | refine Dr.alloc ?_ _ | refine Dr.drewN ?_ _ | refine Dr.drew ?_ | refine Dr.set ?_ _ ?_)); all_goals (first | (left; simp; done) | (left; simp; omega) | (left; omega) | (right; rfl))⟩
 ·refine bodyPost_ret (v := .agg #[.string a4.f0, .string a4.f1, .slice A0 x.f1.length c0, .slice A1 x.f2.length c1]) ?hrD rfl ?hpD
  case hrD => simp [results, Tryz.results23, go_sem, cF0_0, cF0_1, cF0_2, cF0_3]
  case hpD => exact ⟨(⟨a4, x.f1, x.f2⟩ : SMail), A0, c0, A1, c1, rfl, (mid_f HSM.out hs4), (by (with_reducible repeat (first | exact U0.out | refine R_put1 ?_ rfl (Kd.R_ne U0.out F0.out (by decide)) | refine R_put1 ?_ rfl (Kd.R_ne U0.out F1.out (by decide))))), (by (with_reducible repeat (first | exact U1.out | refine R_put1 ?_ rfl (Kd.R_ne U1.out F0.out (by decide)) | refine R_put1 ?_ rfl (Kd.R_ne U1.out F1.out (by decide))))), (Rd.at HR.out (by (with_reducible repeat (first | exact Keep.refl (Rd.lt HR.out) | refine Keep.alloc ?_ _ | refine Keep.drewN ?_ _ | refine Keep.drew ?_ | refine Keep.set ?_ _ ?_)); all_goals (first | (simp; done) | (simp; omega) | omega))).up (by omega), by (with_reducible repeat (first | exact HD.out | refine Dr.alloc ?_ _ | refine Dr.drewN ?_ _ | refine Dr.drew ?_ | refine Dr.set ?_ _ ?_)); all_goals (first | (left; simp; done) | (left; simp; omega) | (left; omega) | (right; rfl))⟩
 ·refine bodyPost_ret (v := .agg #[.string x.f0.f0, .string x.f0.f1, .slice A0 x.f1.length c0, .slice A1 x.f2.length c1]) ?hrE rfl ?hpE
  case hrE => simp [results, Tryz.results23, go_sem, cF0_0, cF0_1, cF0_2, cF0_3]
  case hpE => exact ⟨x, A0, c0, A1, c1, rfl, (mid_f HSM.out HSM.out.1), (by (with_reducible repeat (first | exact U0.out | refine R_put1 ?_ rfl (Kd.R_ne U0.out F0.out (by decide)) | refine R_put1 ?_ rfl (Kd.R_ne U0.out F1.out (by decide))))), (by (with_reducible repeat (first | exact U1.out | refine R_put1 ?_ rfl (Kd.R_ne U1.out F0.out (by decide)) | refine R_put1 ?_ rfl (Kd.R_ne U1.out F1.out (by decide))))), (Rd.at HR.out (by (with_reducible repeat (first | exact Keep.refl (Rd.lt HR.out) | refine Keep.alloc ?_ _ | refine Keep.drewN ?_ _ | refine Keep.drew ?_ | refine Keep.set ?_ _ ?_)); all_goals (first | (simp; done) | (simp; omega) | omega))).up (by omega), by (with_reducible repeat (first | exact HD.out | refine Dr.alloc ?_ _ | refine Dr.drewN ?_ _ | refine Dr.drew ?_ | refine Dr.set ?_ _ ?_)); all_goals (first | (left; simp; done) | (left; simp; omega) | (left; omega) | (right; rfl))⟩

end Go.Proofs.YticepbgacokbbaaGreatDoor
