/- Drawn bodies and mails: weak contracts. -/
import Derived.Test.YtoppgnmnbbhghaaDoorDrwA
namespace Go.Proofs.YtoppgnmnbbhghaaDoor
open Go.RowKit Go.Proofs.YtoppgnmnbbhghaaDoorW.PrintWords
set_option linter.unusedVariables false
set_option linter.unusedSimpArgs false

def smallB (xs : List ByteArray) : Prop := xs.length ≤ 100 ∧ ∀ y ∈ xs, y.size ≤ 64
set_option maxRecDepth 100000 in
set_option maxHeartbeats 4000000 in
theorem drBody_any (g m : Nat) (most : Int) (w : World) (h : Rd g m w) (hm : m + 101 ≤ 1000000000) (h0 : 0 ≤ most) (h1 : most ≤ 99) :
    Calls Tryd.prog 96 #[.pointer (some ⟨g, 0, none⟩), .int .i64 most] w fun e w' => ∃ (xs : List ByteArray) (B : Option Addr) (d : Nat), e = .returned (.slice B xs.length d) ∧ smallB xs ∧ Kd.R Kd.string 9 w' w.heap.size (fun _ => True) (.slice B xs.length d) xs ∧ Rd g (m + 101) w' ∧ Dr g w w' := by
  have HR := Aside0.mk h
  have HD := Aside0.mk (Dr.refl g w)
  have hgl := h.lt
  have ng0 : ¬ w.heap.size = g := by omega
  have ng1 : ¬ w.heap.size + 1 = g := by omega
  have ng2 : ¬ w.heap.size + 2 = g := by omega
  clear h
  go_enter Tryd.func96, Tryd.ntmps96
  have HO : Aside0 (Kd.R Kd.string 9 (w.alloc (.cells #[] 9)) w.heap.size (fun _ => True) (.slice (some ⟨w.heap.size, 0, none⟩) 0 0) []) := ⟨R_empty Kd.string 9 w w.heap.size (Nat.le_refl _) trivial⟩
  go_wp2_with (go_at_call 98; (with_reducible refine Calls.mono (pick_any g _ _ _ (Rd.at HR.out (by (with_reducible repeat (first | exact Keep.refl (Rd.lt HR.out) | refine Keep.alloc ?_ _ | refine Keep.drewN ?_ _ | refine Keep.drew ?_ | refine Keep.set ?_ _ ?_)); all_goals (first | (simp; done) | (simp; omega) | omega))) (by omega) (by omega)) ?_); (rintro e w1 ⟨k1, rfl, hk1, hr_, hd_⟩); (have y1 := hd_.size); ((try simp at y1)); (have nHO := hd_.R2 HO.out (by (with_reducible repeat (first | exact Below.refl _ _ | refine bel_alloc ?_ _ | refine blw_drewN ?_ _ | refine Below.drew ?_))) (by omega)); (clear HO); (have HO := Aside0.mk nHO); (clear nHO); (have hd2_ : Dr g w w1 := Dr.then_ (by (with_reducible repeat (first | exact HD.out | refine Dr.alloc ?_ _ | refine Dr.drewN ?_ _ | refine Dr.drew ?_ | refine Dr.set ?_ _ ?_)); all_goals (first | (left; simp; done) | (left; simp; omega) | (left; omega) | (right; rfl))) hd_); (clear HR HD); (have HR := Aside0.mk hr_); (have HD := Aside0.mk hd2_); (clear hr_ hd_ hd2_))
  have hk1 := hk1 (by omega)
  go_loopg [5, 6] 100 (fun gq v5 v6 wr => ∃ (k : Nat) (ys : List ByteArray), k ≤ gq ∧ v6 = .int .i64 (k : Int) ∧ k + ys.length ≤ 99 ∧ Aside0 (∀ y ∈ ys, y.size ≤ 64) ∧ Aside0 (Kd.R Kd.string 9 wr w.heap.size (fun _ => True) v5 ys) ∧ Aside0 (Rd g (m + 1 + ys.length) wr) ∧ Aside0 (Dr g w wr))
  case atStart => exact ⟨k1, [], by omega, rfl, by simp; omega, ⟨fun y hy => by cases hy⟩, HO, HR, HD⟩
  case round =>
    clear HO HR HD
    obtain ⟨k, ys, hk, rfl, hl, HS, HO, HR, HD⟩ := hrel
    obtain ⟨B, d, rfl⟩ := Kd.R_slice HO.out
    have ywr := HD.out.size
    by_cases hlt : 0 < k
    · have hlt' : (0 : Int) < (k : Int) := by omega
      go_wp2_with (first | (go_at_call 148; (with_reducible refine Calls.mono (drLine_any g _ _ (Rd.at HR.out (by (with_reducible repeat (first | exact Keep.refl (Rd.lt HR.out) | refine Keep.alloc ?_ _ | refine Keep.drewN ?_ _ | refine Keep.drew ?_ | refine Keep.set ?_ _ ?_)); all_goals (first | (simp; done) | (simp; omega) | omega))) (by omega)) ?_); (rintro e w2 ⟨s2, rfl, hs2, hr_, hd_⟩); (have y2 := hd_.size); ((try simp at y2)); (have nHO := hd_.R2 HO.out (by (with_reducible repeat (first | exact Below.refl _ _ | refine bel_alloc ?_ _ | refine blw_drewN ?_ _ | refine Below.drew ?_))) (by omega)); (clear HO); (have HO := Aside0.mk nHO); (clear nHO); (have hd2_ : Dr g w w2 := Dr.then_ (by (with_reducible repeat (first | exact HD.out | refine Dr.alloc ?_ _ | refine Dr.drewN ?_ _ | refine Dr.drew ?_ | refine Dr.set ?_ _ ?_)); all_goals (first | (left; simp; done) | (left; simp; omega) | (left; omega) | (right; rfl))) hd_); (clear HR HD); (have HR := Aside0.mk hr_); (have HD := Aside0.mk hd2_); (clear hr_ hd_ hd2_)) | ((with_reducible refine gate_builtin (b := .append) (xs := #[.tmp 16, .tmp 19]) rfl ?_); (try (refine gate_guard (by rfl) ?_; dsimp only)); at_builtin; (refine Kd.R_append Kd.string (w0 := w2) (w.heap.size) rfl (.tmp 16) (.tmp 19) 23 9 (.string ⟨#[]⟩) 16 rfl Tryd.underlying23 info9 rfl (by decide) (by omega) (.slice B ys.length d) (ys) (s2) [.string s2] (fun _ => True) (fun _ => False) rfl rfl rfl (fun _ hk => hk.elim) (fun _ _ => trivial) ?aO3 ?aB3 ?aS3 ?aL3 ?_); (case aO3 => exact HO.out); (case aB3 => exact Below.refl _ _); (case aS3 => (have := HD.out.size; omega)); (case aL3 => exact (by omega)); (intro v3 w3 ho hb hg hat; have nHD := Dr.belowB HD.out hb; have nHR := Rd.keep HR.out (fun q hq => hb.block q (by omega)); have y3 := hb.size; clear HO HR HD ; have HO := Aside0.mk ho; have HR := Aside0.mk nHR; have HD := Aside0.mk nHD; clear ho hb hg hat nHR nHD )))
      go_roundg (k - 1)
      case measure => omega
      case rel => exact ⟨k - 1, ys ++ [s2], Nat.le_refl _, congrArg (Value.int .i64) (by omega), by simp; omega, ⟨fun y hy => by
        rcases List.mem_append.1 hy with hy | hy
        · exact HS.out y hy
        · obtain rfl := List.mem_singleton.1 hy
          exact hs2⟩, HO, ⟨HR.out.up (by simp; omega)⟩, HD⟩
    · have hlt' : ¬ (0 : Int) < (k : Int) := by omega
      go_wp2
      go_ret
      exact ⟨ys, B, d, rfl, ⟨by omega, HS.out⟩, HO.out, HR.out.up (by omega), HD.out⟩

end Go.Proofs.YtoppgnmnbbhghaaDoor
