/- Drawn bodies of any kind: a weak contract. -/
import Derived.Test.YtoppgnmnbbhghaaDoorDrwSieve
import Derived.Test.YtoppgnmnbbhghaaDoorDrwM
namespace Go.Proofs.YtoppgnmnbbhghaaDoor
open Go.RowKit Go.Proofs.YtoppgnmnbbhghaaDoorW.PrintWords
set_option linter.unusedVariables false
set_option linter.unusedSimpArgs false
set_option maxRecDepth 100000 in
set_option maxHeartbeats 8000000 in
theorem drAnyBody_any (g m : Nat) (w : World) (h : Rd g m w) (hm : m + 104 ≤ 1000000000) :
    Calls Tryd.prog 138 #[.pointer (some ⟨g, 0, none⟩)] w fun e w' => ∃ (xs : List ByteArray) (B : Option Addr) (d : Nat), e = .returned (.slice B xs.length d) ∧ (xs.length ≤ 101 ∧ ∀ y ∈ xs, y.size ≤ 64) ∧ Kd.R Kd.string 9 w' w.heap.size (fun _ => True) (.slice B xs.length d) xs ∧ Rd g (m + 104) w' ∧ Dr g w w' := by
  have HR := Aside0.mk h
  have HD := Aside0.mk (Dr.refl g w)
  have hgl := h.lt
  have ng0 : ¬ w.heap.size = g := by omega
  have ng1 : ¬ w.heap.size + 1 = g := by omega
  have ng2 : ¬ w.heap.size + 2 = g := by omega
  clear h
  go_enter Tryd.func138, Tryd.ntmps138
  go_wp2_with (first | (go_at_call 73; go_loud (with_reducible refine Calls.mono (one_any 0 12 g _ _ _ _ _ _ _ (Rd.at HR.out (by (with_reducible repeat (first | exact Keep.refl (Rd.lt HR.out) | refine Keep.alloc ?_ _ | refine Keep.drewN ?_ _ | refine Keep.drew ?_ | refine Keep.set ?_ _ ?_)); all_goals (first | (simp; done) | (simp; omega) | omega))) (by omega) (blk_at _ _ (by first | (simp; done) | (simp; omega))) (by decide) (by decide) (by decide) (by decide) (by decide)) ?_); go_loud (rintro e w1 ⟨k1, rfl, hk1, hr_, hd_⟩); go_loud (have y1 := hd_.size); go_loud ((try simp at y1)); go_loud (have hd2_ : Dr g w w1 := Dr.then_ (by (with_reducible repeat (first | exact HD.out | refine Dr.alloc ?_ _ | refine Dr.drewN ?_ _ | refine Dr.drew ?_ | refine Dr.set ?_ _ ?_)); all_goals (first | (left; simp; done) | (left; simp; omega) | (left; omega) | (right; rfl))) hd_); go_loud (clear HR HD); go_loud (have HR := Aside0.mk hr_); go_loud (have HD := Aside0.mk hd2_); go_loud (clear hr_ hd_ hd2_)) | (go_at_call 96; go_loud (with_reducible refine Calls.mono (drBody_any g _ _ _ (Rd.at HR.out (by (with_reducible repeat (first | exact Keep.refl (Rd.lt HR.out) | refine Keep.alloc ?_ _ | refine Keep.drewN ?_ _ | refine Keep.drew ?_ | refine Keep.set ?_ _ ?_)); all_goals (first | (simp; done) | (simp; omega) | omega))) (by omega) (by omega) (by omega)) ?_); go_loud (rintro e w2 ⟨xs, B, d, rfl, hs2, hb_, hr_, hd_⟩); go_loud (have y2 := hd_.size); go_loud ((try simp at y2)); go_loud (have hd2_ : Dr g w w2 := Dr.then_ (by (with_reducible repeat (first | exact HD.out | refine Dr.alloc ?_ _ | refine Dr.drewN ?_ _ | refine Dr.drew ?_ | refine Dr.set ?_ _ ?_)); all_goals (first | (left; simp; done) | (left; simp; omega) | (left; omega) | (right; rfl))) hd_); go_loud (clear HR HD); go_loud (have HR := Aside0.mk hr_); go_loud (have HD := Aside0.mk hd2_); go_loud (clear hr_ hd_ hd2_); go_loud (have HB := Aside0.mk (Kd.R_lower (base' := w.heap.size) hb_ (by first | (simp; done) | (simp; omega) | omega))); clear hb_; have HS := Lib.hid hs2; clear hs2) | (go_at_call 98; go_loud (with_reducible refine Calls.mono (pick_any g _ 14 _ (Rd.at HR.out (by (with_reducible repeat (first | exact Keep.refl (Rd.lt HR.out) | refine Keep.alloc ?_ _ | refine Keep.drewN ?_ _ | refine Keep.drew ?_ | refine Keep.set ?_ _ ?_)); all_goals (first | (simp; done) | (simp; omega) | omega))) (by omega) (by omega)) ?_); go_loud (rintro e w3 ⟨k3, rfl, hk3, hr_, hd_⟩); go_loud (have y3 := hd_.size); go_loud ((try simp at y3)); go_loud (have nHB := hd_.R2 HB.out (by (with_reducible repeat (first | exact Below.refl _ _ | refine bel_alloc ?_ _ | refine blw_drewN ?_ _ | refine Below.drew ?_))) (by omega)); go_loud (clear HB); go_loud (have HB := Aside0.mk nHB); go_loud (clear nHB); go_loud (have hd2_ : Dr g w w3 := Dr.then_ (by (with_reducible repeat (first | exact HD.out | refine Dr.alloc ?_ _ | refine Dr.drewN ?_ _ | refine Dr.drew ?_ | refine Dr.set ?_ _ ?_)); all_goals (first | (left; simp; done) | (left; simp; omega) | (left; omega) | (right; rfl))) hd_); go_loud (clear HR HD); go_loud (have HR := Aside0.mk hr_); go_loud (have HD := Aside0.mk hd2_); go_loud (clear hr_ hd_ hd2_)) | (go_at_call 121; go_loud (with_reducible refine Calls.mono (of_any g _ _ _ _ _ _ _ (Rd.at HR.out (by (with_reducible repeat (first | exact Keep.refl (Rd.lt HR.out) | refine Keep.alloc ?_ _ | refine Keep.drewN ?_ _ | refine Keep.drew ?_ | refine Keep.set ?_ _ ?_)); all_goals (first | (simp; done) | (simp; omega) | omega))) (by omega) (blk_at _ _ (by first | (simp; done) | (simp; omega))) (by decide) (by decide) (by decide) (by decide) (by decide)) ?_); go_loud (rintro e w4 ⟨s4, rfl, hs4, hr_, hd_⟩); go_loud (have y4 := hd_.size); go_loud ((try simp at y4)); go_loud (have nHB := hd_.R2 HB.out (by (with_reducible repeat (first | exact Below.refl _ _ | refine bel_alloc ?_ _ | refine blw_drewN ?_ _ | refine Below.drew ?_))) (by omega)); go_loud (clear HB); go_loud (have HB := Aside0.mk nHB); go_loud (clear nHB); go_loud (have hd2_ : Dr g w w4 := Dr.then_ (by (with_reducible repeat (first | exact HD.out | refine Dr.alloc ?_ _ | refine Dr.drewN ?_ _ | refine Dr.drew ?_ | refine Dr.set ?_ _ ?_)); all_goals (first | (left; simp; done) | (left; simp; omega) | (left; omega) | (right; rfl))) hd_); go_loud (clear HR HD); go_loud (have HR := Aside0.mk hr_); go_loud (have HD := Aside0.mk hd2_); go_loud (clear hr_ hd_ hd2_)) | ((with_reducible refine gate_builtin (b := .append) (xs := #[.tmp 13, .tmp 17]) rfl ?_); (try (refine gate_guard (by rfl) ?_; dsimp only)); at_builtin; go_loud (refine Kd.R_append Kd.string (w.heap.size) rfl (.tmp 13) (.tmp 17) 23 9 (.string ⟨#[]⟩) 16 rfl Tryd.underlying23 info9 rfl (by decide) (by omega) (.slice B xs.length d) (xs) (s4) _ (fun _ => True) (fun _ => False) rfl ?aX5 rfl (fun _ hk => hk.elim) (fun _ _ => trivial) ?aO5 (Below.refl _ _) ?aS5 ?aL5 ?_); (case aX5 => (refine Eq.trans (b := .slice (some ⟨_, 0, none⟩) 1 1) rfl ?_; first | (with_reducible rfl) | (simp; done))); (case aO5 => exact HB.out); (case aS5 => (have := HD.out.size; simp; omega)); (case aL5 => exact (by have := HS.out.1; omega)); go_loud (intro v5 w5 ho hb hg hat); go_loud (have nHD : Dr g w w5 := Dr.belowB (by (with_reducible repeat (first | exact HD.out | refine Dr.alloc ?_ _ | refine Dr.drewN ?_ _ | refine Dr.drew ?_ | refine Dr.set ?_ _ ?_)); all_goals (first | (left; simp; done) | (left; simp; omega) | (left; omega) | (right; rfl))) hb); go_loud (have nHR := Rd.keep (Rd.at HR.out (by (with_reducible repeat (first | exact Keep.refl (Rd.lt HR.out) | refine Keep.alloc ?_ _ | refine Keep.drewN ?_ _ | refine Keep.drew ?_ | refine Keep.set ?_ _ ?_)); all_goals (first | (simp; done) | (simp; omega) | omega))) (fun q hq => hb.block q (by omega))); go_loud (have y5 := hb.size); go_loud ((try simp at y5)); go_loud (clear HB HR HD); go_loud (have HB := Aside0.mk ho); go_loud (have HR := Aside0.mk nHR); go_loud (have HD := Aside0.mk nHD); go_loud (clear ho hb hg hat nHR nHD)))
  · go_ret
    obtain ⟨vB, vd, hv⟩ := Kd.R_slice HB.out
    subst hv
    have ho := HB.out
    refine ⟨xs ++ [s4], vB, vd, rfl, ⟨by have := HS.out.1; simp; omega, fun y hy => ?_⟩, ho, (Rd.at HR.out (by (with_reducible repeat (first | exact Keep.refl (Rd.lt HR.out) | refine Keep.alloc ?_ _ | refine Keep.drewN ?_ _ | refine Keep.drew ?_ | refine Keep.set ?_ _ ?_)); all_goals (first | (simp; done) | (simp; omega) | omega))).up (by omega), by (with_reducible repeat (first | exact HD.out | refine Dr.alloc ?_ _ | refine Dr.drewN ?_ _ | refine Dr.drew ?_ | refine Dr.set ?_ _ ?_)); all_goals (first | (left; simp; done) | (left; simp; omega) | (left; omega) | (right; rfl))⟩
    rcases List.mem_append.1 hy with hy | hy
    · exact HS.out.2 y hy
    · obtain rfl := List.mem_singleton.1 hy
      exact hs4
  · have hl2 := HS.out.1
    rename ((k3 : Int) == 0) = false => q0_
    rename ((k3 : Int) == 1) = true => q1_
    clear q0_ q1_
    go_loopg [3] 14 (fun gq v3 wr => ∃ (ys : List ByteArray), 13 - ys.length ≤ gq ∧ ys.length ≤ 101 ∧ Aside0 (∀ y ∈ ys, y.size ≤ 64) ∧ Aside0 (Kd.R Kd.string 9 wr w.heap.size (fun _ => True) v3 ys) ∧ Aside0 (Rd g (m + 103) wr) ∧ Aside0 (Dr g w wr))
    case atStart => exact ⟨xs, by omega, by omega, ⟨HS.out.2⟩, HB, ⟨HR.out.up (by omega)⟩, HD⟩
    case round =>
      clear HB HR HD
      obtain ⟨ys, hgq, hyl, HY, HB, HR, HD⟩ := hrel
      obtain ⟨A0, c0, rfl⟩ := Kd.R_slice HB.out
      have ywr := HD.out.size
      by_cases hlt : ys.length < 13
      · have hlt' : (ys.length : Int) < 13 := by omega
        go_wp2_with ((with_reducible refine gate_builtin (b := .append) (xs := #[.tmp 24, .tmp 25]) rfl ?_); (try (refine gate_guard (by rfl) ?_; dsimp only)); at_builtin; go_loud (refine Kd.R_append Kd.string (w.heap.size) rfl (.tmp 24) (.tmp 25) 23 9 (.string ⟨#[]⟩) 16 rfl Tryd.underlying23 info9 rfl (by decide) (by omega) (.slice A0 ys.length c0) (ys) (_) _ (fun _ => True) (fun _ => False) rfl ?aX6 rfl (fun _ hk => hk.elim) (fun _ _ => trivial) ?aO6 (Below.refl _ _) ?aS6 ?aL6 ?_); (case aX6 => (refine Eq.trans (b := .slice (some ⟨_, 0, none⟩) 1 1) rfl ?_; first | (with_reducible rfl) | (simp; done))); (case aO6 => exact HB.out); (case aS6 => (have := HD.out.size; simp; omega)); (case aL6 => exact (by omega)); go_loud (intro v6 w6 ho hb hg hat); go_loud (have nHD : Dr g w w6 := Dr.belowB (by (with_reducible repeat (first | exact HD.out | refine Dr.alloc ?_ _ | refine Dr.drewN ?_ _ | refine Dr.drew ?_ | refine Dr.set ?_ _ ?_)); all_goals (first | (left; simp; done) | (left; simp; omega) | (left; omega) | (right; rfl))) hb); go_loud (have nHR := Rd.keep (Rd.at HR.out (by (with_reducible repeat (first | exact Keep.refl (Rd.lt HR.out) | refine Keep.alloc ?_ _ | refine Keep.drewN ?_ _ | refine Keep.drew ?_ | refine Keep.set ?_ _ ?_)); all_goals (first | (simp; done) | (simp; omega) | omega))) (fun q hq => hb.block q (by omega))); go_loud (have y6 := hb.size); go_loud ((try simp at y6)); go_loud (clear HB HR HD); go_loud (have HB := Aside0.mk ho); go_loud (have HR := Aside0.mk nHR); go_loud (have HD := Aside0.mk nHD); go_loud (clear ho hb hg hat nHR nHD))
        go_roundg (13 - (ys.length + 1))
        case measure => omega
        case rel => exact ⟨ys ++ [_], by first | (simp; done) | (simp; omega), by first | (simp; done) | (simp; omega), ⟨fun y hy => by
          rcases List.mem_append.1 hy with hy | hy
          · exact HY.out y hy
          · obtain rfl := List.mem_singleton.1 hy
            decide⟩, HB, HR, HD⟩
      · have hlt' : ¬ (ys.length : Int) < 13 := by omega
        go_wp2
        go_ret
        exact ⟨ys, A0, c0, rfl, ⟨hyl, HY.out⟩, HB.out, HR.out.up (by omega), HD.out⟩
  · go_ret
    exact ⟨xs, B, d, rfl, ⟨by have := HS.out.1; omega, HS.out.2⟩, HB.out, HR.out.up (by omega), HD.out⟩

end Go.Proofs.YtoppgnmnbbhghaaDoor
