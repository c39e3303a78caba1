/- Drawn rules: a weak contract. -/
import Derived.Test.YtmfehmbgghfffaaDoorDrw0
import Derived.IntWalk
import Derived.Deep.RegionHeld3
namespace Go.Proofs.YtmfehmbgghfffaaDoor
open Go.RowKit Go.Proofs.YtmfehmbgghfffaaDoorW.PrintWords
set_option linter.unusedVariables false
set_option linter.unusedSimpArgs false

theorem own_lt {α : Type} {d : Kd α} {e base : Nat} {ok : Nat → Prop} {W : World} {v : Value} {xs : List α} (h : d.R e W base ok v xs) {k : Nat} (hk : v.ownBlock = some k) : k < W.heap.size := by
  obtain ⟨inner, ho⟩ := Kd.R_own h
  obtain ⟨cs, hc⟩ := own_typed ho k hk
  exact blk_lt hc
def smallR (x : SRule) : Prop := (0 ≤ x.f0 ∧ x.f0 ≤ 5) ∧ x.f1.size ≤ 64 ∧ (0 ≤ x.f2 ∧ x.f2 ≤ 5) ∧ smallA x.f3
set_option maxRecDepth 100000 in
set_option maxHeartbeats 8000000 in
theorem drSieve_any (g m : Nat) (w : World) (h : Rd g m w) (hm : m + 33 ≤ 1000000000) :
    Calls Tryd.prog 50 #[.pointer (some ⟨g, 0, none⟩)] w fun e w' => ∃ (xs : List SRule) (B : Option Addr) (d : Nat), e = .returned (.slice B xs.length d) ∧ (xs.length ≤ 5 ∧ ∀ y ∈ xs, smallR y) ∧ Kd.R kRule 65 w' w.heap.size (fun _ => True) (.slice B xs.length d) xs ∧ Rd g (m + 33) w' ∧ Dr g w w' := by
  have HR := Aside0.mk h
  have HD := Aside0.mk (Dr.refl g w)
  have hgl := h.lt
  have ng0 : ¬ w.heap.size = g := by omega
  have ng1 : ¬ w.heap.size + 1 = g := by omega
  have ng2 : ¬ w.heap.size + 2 = g := by omega
  clear h
  go_enter Tryd.func50, Tryd.ntmps50
  have HO : Aside0 (Kd.R kRule 65 (w.alloc (.cells #[] 65)) w.heap.size (fun _ => True) (.slice (some ⟨w.heap.size, 0, none⟩) 0 0) []) := ⟨R_empty kRule 65 w w.heap.size (Nat.le_refl _) trivial⟩
  go_wp2_with (go_at_call 61; (with_reducible refine Calls.mono (pick_any g _ 6 _ (Rd.at HR.out (by (with_reducible repeat (first | exact Keep.refl (Rd.lt HR.out) | refine Keep.alloc ?_ _ | refine Keep.drewN ?_ _ | refine Keep.drew ?_ | refine Keep.set ?_ _ ?_)); all_goals (first | (simp; done) | (simp; omega) | omega))) (by omega) (by omega)) ?_); (rintro e w1 ⟨k1, rfl, hk1, hr_, hd_⟩); (have y1 := hd_.size); ((try simp at y1)); (have nHO := hd_.R2 HO.out (by (with_reducible repeat (first | exact Below.refl _ _ | refine bel_alloc ?_ _ | refine blw_drewN ?_ _ | refine Below.drew ?_))) (by omega)); (clear HO); (have HO := Aside0.mk nHO); (clear nHO); (have hd2_ : Dr g w w1 := Dr.then_ (by (with_reducible repeat (first | exact HD.out | refine Dr.alloc ?_ _ | refine Dr.drewN ?_ _ | refine Dr.drew ?_ | refine Dr.set ?_ _ ?_)); all_goals (first | (left; simp; done) | (left; simp; omega) | (left; omega) | (right; rfl))) hd_); (clear HR HD); (have HR := Aside0.mk hr_); (have HD := Aside0.mk hd2_); (clear hr_ hd_ hd2_))
  have hk1 := hk1 (by omega)
  go_loopg [3, 4, 5] 6 (fun gq v3 v4 _ wr => ∃ (k : Nat) (xs : List SRule), k ≤ gq ∧ v4 = .int .i64 (k : Int) ∧ k + xs.length ≤ 5 ∧ Aside0 (∀ y ∈ xs, smallR y) ∧ Aside0 (Kd.R kRule 65 wr w.heap.size (fun _ => True) v3 xs) ∧ Aside0 (Rd g (m + 1 + 5 * xs.length) wr) ∧ Aside0 (Dr g w wr))
  case atStart => exact ⟨k1, [], by omega, rfl, by simp; omega, ⟨fun y hy => by cases hy⟩, HO, HR, HD⟩
  case round =>
    clear HO HR HD
    obtain ⟨k, xs, hkg, rfl, hkx, HX, HO, HR, HD⟩ := hrel
    obtain ⟨A0, c0, rfl⟩ := Kd.R_slice HO.out
    have HL : Aside0 (∀ k, (Value.slice A0 xs.length c0).ownBlock = some k → k < wr.heap.size) := ⟨fun k hk => own_lt HO.out hk⟩
    have ywr := HD.out.size
    by_cases hlt : 0 < k
    · have hlt' : (0 : Int) < (k : Int) := by omega
      go_wp2_with (first | (go_at_call 61; (with_reducible refine Calls.mono (pick_any g _ 4 wr (Rd.at HR.out (by (with_reducible repeat (first | exact Keep.refl (Rd.lt HR.out) | refine Keep.alloc ?_ _ | refine Keep.drewN ?_ _ | refine Keep.drew ?_ | refine Keep.set ?_ _ ?_)); all_goals (first | (simp; done) | (simp; omega) | omega))) (by omega) (by omega)) ?_); (rintro e w2 ⟨k2, rfl, hk2, hr_, hd_⟩); (have y2 := hd_.size); ((try simp at y2)); (have nHO := hd_.R2 HO.out (by (with_reducible repeat (first | exact Below.refl _ _ | refine bel_alloc ?_ _ | refine blw_drewN ?_ _ | refine Below.drew ?_))) (by omega)); (clear HO); (have HO := Aside0.mk nHO); (clear nHO); (have hd2_ : Dr g w w2 := Dr.then_ (by (with_reducible repeat (first | exact HD.out | refine Dr.alloc ?_ _ | refine Dr.drewN ?_ _ | refine Dr.drew ?_ | refine Dr.set ?_ _ ?_)); all_goals (first | (left; simp; done) | (left; simp; omega) | (left; omega) | (right; rfl))) hd_); (clear HR HD); (have HR := Aside0.mk hr_); (have HD := Aside0.mk hd2_); (clear hr_ hd_ hd2_); (have e2 : IntKind.i64.wrap (1 + (k2 : Int)) = 1 + (k2 : Int) := IntWalk.i64_in _ (by have := hk2 (by omega); omega))) | (go_at_call 61; (with_reducible refine Calls.mono (pick_any g _ 3 w2 (Rd.at HR.out (by (with_reducible repeat (first | exact Keep.refl (Rd.lt HR.out) | refine Keep.alloc ?_ _ | refine Keep.drewN ?_ _ | refine Keep.drew ?_ | refine Keep.set ?_ _ ?_)); all_goals (first | (simp; done) | (simp; omega) | omega))) (by omega) (by omega)) ?_); (rintro e w3 ⟨k3, rfl, hk3, hr_, hd_⟩); (have y3 := hd_.size); ((try simp at y3)); (have nHO := hd_.R2 HO.out (by (with_reducible repeat (first | exact Below.refl _ _ | refine bel_alloc ?_ _ | refine blw_drewN ?_ _ | refine Below.drew ?_))) (by omega)); (clear HO); (have HO := Aside0.mk nHO); (clear nHO); (have hd2_ : Dr g w w3 := Dr.then_ (by (with_reducible repeat (first | exact HD.out | refine Dr.alloc ?_ _ | refine Dr.drewN ?_ _ | refine Dr.drew ?_ | refine Dr.set ?_ _ ?_)); all_goals (first | (left; simp; done) | (left; simp; omega) | (left; omega) | (right; rfl))) hd_); (clear HR HD); (have HR := Aside0.mk hr_); (have HD := Aside0.mk hd2_); (clear hr_ hd_ hd2_); (have e3 : IntKind.i64.wrap (1 + (k3 : Int)) = 1 + (k3 : Int) := IntWalk.i64_in _ (by have := hk3 (by omega); omega))) | (go_at_call 96; (with_reducible refine Calls.mono (of_any g _ _ _ _ _ _ _ (Rd.at HR.out (by (with_reducible repeat (first | exact Keep.refl (Rd.lt HR.out) | refine Keep.alloc ?_ _ | refine Keep.drewN ?_ _ | refine Keep.drew ?_ | refine Keep.set ?_ _ ?_)); all_goals (first | (simp; done) | (simp; omega) | omega))) (by omega) (blk_at _ _ (by first | (simp; done) | (simp; omega))) (by decide) (by decide) (by decide) (by decide) (by decide)) ?_); (rintro e w4 ⟨s4, rfl, hs4, hr_, hd_⟩); (have y4 := hd_.size); ((try simp at y4)); (have nFX : w4.heap[w3.heap.size]? = some (.cells #[.int .i64 (1 + (k2 : Int)), .string ⟨#[]⟩, .int .i64 (1 + (k3 : Int)), .string ⟨#[]⟩, .string ⟨#[]⟩] 65 (0, 0)) := hd_.blk (by (with_reducible repeat (first | exact blk_at _ _ (by first | (simp; done) | (simp; omega)) | refine blk_alloc ?_ _ | refine blk_drew ?_ | refine blk_drewN ?_ _ | refine blk_set ?_ _ _ | refine blk_far ?_ ?_ _)); all_goals (first | (simp; done) | (simp; omega) | omega)) (by omega)); (have nHO := hd_.R2 HO.out (by (with_reducible repeat (first | exact Below.refl _ _ | refine bel_alloc ?_ _ | refine blw_drewN ?_ _ | refine Below.drew ?_))) (by omega)); (have FX := Aside0.mk nFX); (have cFX_0 : w4.cell? ⟨w3.heap.size, 0, none⟩ = some (.int .i64 (1 + (k2 : Int))) := (by simp [World.cell?, nFX])); (have cFX_1 : w4.cell? ⟨w3.heap.size, 1, none⟩ = some (.string ⟨#[]⟩) := (by simp [World.cell?, nFX])); (have cFX_2 : w4.cell? ⟨w3.heap.size, 2, none⟩ = some (.int .i64 (1 + (k3 : Int))) := (by simp [World.cell?, nFX])); (have cFX_3 : w4.cell? ⟨w3.heap.size, 3, none⟩ = some (.string ⟨#[]⟩) := (by simp [World.cell?, nFX])); (have cFX_4 : w4.cell? ⟨w3.heap.size, 4, none⟩ = some (.string ⟨#[]⟩) := (by simp [World.cell?, nFX])); (have dFX_0 : w4.frozen? ⟨w3.heap.size, 0, none⟩ = false := (by simp [World.frozen?, nFX])); (have dFX_1 : w4.frozen? ⟨w3.heap.size, 1, none⟩ = false := (by simp [World.frozen?, nFX])); (have dFX_2 : w4.frozen? ⟨w3.heap.size, 2, none⟩ = false := (by simp [World.frozen?, nFX])); (have dFX_3 : w4.frozen? ⟨w3.heap.size, 3, none⟩ = false := (by simp [World.frozen?, nFX])); (have dFX_4 : w4.frozen? ⟨w3.heap.size, 4, none⟩ = false := (by simp [World.frozen?, nFX])); (clear nFX); (clear HO); (have HO := Aside0.mk nHO); (clear nHO); (have hd2_ : Dr g w w4 := Dr.then_ (by (with_reducible repeat (first | exact HD.out | refine Dr.alloc ?_ _ | refine Dr.drewN ?_ _ | refine Dr.drew ?_ | refine Dr.set ?_ _ ?_)); all_goals (first | (left; simp; done) | (left; simp; omega) | (left; omega) | (right; rfl))) hd_); (clear HR HD); (have HR := Aside0.mk hr_); (have HD := Aside0.mk hd2_); (clear hr_ hd_ hd2_)) | (have hx_ := FX.out; clear hx_; go_at_call 58; (with_reducible refine Calls.mono (drAddr_any g _ _ (Rd.at HR.out (by (with_reducible repeat (first | exact Keep.refl (Rd.lt HR.out) | refine Keep.alloc ?_ _ | refine Keep.drewN ?_ _ | refine Keep.drew ?_ | refine Keep.set ?_ _ ?_)); all_goals (first | (simp; done) | (simp; omega) | omega))) (by omega)) ?_); (rintro e w6 ⟨a6, rfl, hs6, hr_, hd_⟩); (have y6 := hd_.size); ((try simp at y6)); (have nFX : w6.heap[w3.heap.size]? = some (.cells #[.int .i64 (1 + (k2 : Int)), .string s4, .int .i64 (1 + (k3 : Int)), .string ⟨#[]⟩, .string ⟨#[]⟩] 65 (0, 0)) := hd_.blk ((by have h := blk_set1 FX.out 1 (.string s4); simpa using h)) (by omega)); (have nHO := hd_.R (R_put1 HO.out rfl (fun e_ => by have := HL.out _ e_.symm; omega)) (by omega)); ((try clear cFX_0 cFX_1 cFX_2 cFX_3 cFX_4)); ((try clear dFX_0 dFX_1 dFX_2 dFX_3 dFX_4)); (clear FX); (have FX := Aside0.mk nFX); (have cFX_0 : w6.cell? ⟨w3.heap.size, 0, none⟩ = some (.int .i64 (1 + (k2 : Int))) := (by simp [World.cell?, nFX])); (have cFX_1 : w6.cell? ⟨w3.heap.size, 1, none⟩ = some (.string s4) := (by simp [World.cell?, nFX])); (have cFX_2 : w6.cell? ⟨w3.heap.size, 2, none⟩ = some (.int .i64 (1 + (k3 : Int))) := (by simp [World.cell?, nFX])); (have cFX_3 : w6.cell? ⟨w3.heap.size, 3, none⟩ = some (.string ⟨#[]⟩) := (by simp [World.cell?, nFX])); (have cFX_4 : w6.cell? ⟨w3.heap.size, 4, none⟩ = some (.string ⟨#[]⟩) := (by simp [World.cell?, nFX])); (have dFX_0 : w6.frozen? ⟨w3.heap.size, 0, none⟩ = false := (by simp [World.frozen?, nFX])); (have dFX_1 : w6.frozen? ⟨w3.heap.size, 1, none⟩ = false := (by simp [World.frozen?, nFX])); (have dFX_2 : w6.frozen? ⟨w3.heap.size, 2, none⟩ = false := (by simp [World.frozen?, nFX])); (have dFX_3 : w6.frozen? ⟨w3.heap.size, 3, none⟩ = false := (by simp [World.frozen?, nFX])); (have dFX_4 : w6.frozen? ⟨w3.heap.size, 4, none⟩ = false := (by simp [World.frozen?, nFX])); (clear nFX); (clear HO); (have HO := Aside0.mk nHO); (clear nHO); (have hd2_ : Dr g w w6 := Dr.then_ (by (with_reducible repeat (first | exact HD.out | refine Dr.alloc ?_ _ | refine Dr.drewN ?_ _ | refine Dr.drew ?_ | refine Dr.set ?_ _ ?_)); all_goals (first | (left; simp; done) | (left; simp; omega) | (left; omega) | (right; rfl))) hd_); (clear HR HD); (have HR := Aside0.mk hr_); (have HD := Aside0.mk hd2_); (clear hr_ hd_ hd2_)) | (go_at_call 58; (with_reducible refine Calls.mono (drAddr_any g _ _ (Rd.at HR.out (by (with_reducible repeat (first | exact Keep.refl (Rd.lt HR.out) | refine Keep.alloc ?_ _ | refine Keep.drewN ?_ _ | refine Keep.drew ?_ | refine Keep.set ?_ _ ?_)); all_goals (first | (simp; done) | (simp; omega) | omega))) (by omega)) ?_); (rintro e w6 ⟨a6, rfl, hs6, hr_, hd_⟩); (have y6 := hd_.size); ((try simp at y6)); (have nFX : w6.heap[w3.heap.size]? = some (.cells #[.int .i64 (1 + (k2 : Int)), .string ⟨#[]⟩, .int .i64 (1 + (k3 : Int)), .string ⟨#[]⟩, .string ⟨#[]⟩] 65 (0, 0)) := hd_.blk (by (with_reducible repeat (first | exact blk_at _ _ (by first | (simp; done) | (simp; omega)) | refine blk_alloc ?_ _ | refine blk_drew ?_ | refine blk_drewN ?_ _ | refine blk_set ?_ _ _ | refine blk_far ?_ ?_ _)); all_goals (first | (simp; done) | (simp; omega) | omega)) (by omega)); (have nHO := hd_.R2 HO.out (by (with_reducible repeat (first | exact Below.refl _ _ | refine bel_alloc ?_ _ | refine blw_drewN ?_ _ | refine Below.drew ?_))) (by omega)); (have FX := Aside0.mk nFX); (have cFX_0 : w6.cell? ⟨w3.heap.size, 0, none⟩ = some (.int .i64 (1 + (k2 : Int))) := (by simp [World.cell?, nFX])); (have cFX_1 : w6.cell? ⟨w3.heap.size, 1, none⟩ = some (.string ⟨#[]⟩) := (by simp [World.cell?, nFX])); (have cFX_2 : w6.cell? ⟨w3.heap.size, 2, none⟩ = some (.int .i64 (1 + (k3 : Int))) := (by simp [World.cell?, nFX])); (have cFX_3 : w6.cell? ⟨w3.heap.size, 3, none⟩ = some (.string ⟨#[]⟩) := (by simp [World.cell?, nFX])); (have cFX_4 : w6.cell? ⟨w3.heap.size, 4, none⟩ = some (.string ⟨#[]⟩) := (by simp [World.cell?, nFX])); (have dFX_0 : w6.frozen? ⟨w3.heap.size, 0, none⟩ = false := (by simp [World.frozen?, nFX])); (have dFX_1 : w6.frozen? ⟨w3.heap.size, 1, none⟩ = false := (by simp [World.frozen?, nFX])); (have dFX_2 : w6.frozen? ⟨w3.heap.size, 2, none⟩ = false := (by simp [World.frozen?, nFX])); (have dFX_3 : w6.frozen? ⟨w3.heap.size, 3, none⟩ = false := (by simp [World.frozen?, nFX])); (have dFX_4 : w6.frozen? ⟨w3.heap.size, 4, none⟩ = false := (by simp [World.frozen?, nFX])); (clear nFX); (clear HO); (have HO := Aside0.mk nHO); (clear nHO); (have hd2_ : Dr g w w6 := Dr.then_ (by (with_reducible repeat (first | exact HD.out | refine Dr.alloc ?_ _ | refine Dr.drewN ?_ _ | refine Dr.drew ?_ | refine Dr.set ?_ _ ?_)); all_goals (first | (left; simp; done) | (left; simp; omega) | (left; omega) | (right; rfl))) hd_); (clear HR HD); (have HR := Aside0.mk hr_); (have HD := Aside0.mk hd2_); (clear hr_ hd_ hd2_)) | ((with_reducible refine gate_builtin (b := .append) (xs := #[.tmp 41, .tmp 43]) rfl ?_); (try (refine gate_guard (by rfl) ?_; dsimp only)); at_builtin; (refine Kd.R_append kRule (w.heap.size) rfl (.tmp 41) (.tmp 43) 41 65 (.agg #[(.int .i64 0), (.string ⟨#[]⟩), (.int .i64 0), (.string ⟨#[]⟩), (.string ⟨#[]⟩)]) 64 rfl Tryd.underlying41 info65 rfl (by decide) (by omega) (.slice A0 xs.length c0) (xs) ((⟨_, _, _, ⟨_, _⟩⟩ : SRule)) _ (fun _ => True) (fun _ => False) rfl ?aX7 (kRule_mkM _ _ _ (⟨_, _, _, ⟨_, _⟩⟩ : SRule)) (fun _ hk => hk.elim) (fun _ _ => trivial) ?aO7 (Below.refl _ _) ?aS7 ?aL7 ?_); (case aX7 => (refine Eq.trans (b := .slice (some ⟨_, 0, none⟩) 1 1) rfl ?_; first | (with_reducible rfl) | (simp; done))); (case aO7 => first | exact HO.out | exact Kd.R_alloc HO.out _ | exact R_put1 HO.out rfl (fun e_ => by have := HL.out _ e_.symm; omega) | exact R_put1 (R_put1 HO.out rfl (fun e_ => by have := HL.out _ e_.symm; omega)) rfl (fun e_ => by have := HL.out _ e_.symm; omega)); (case aS7 => (have := HD.out.size; simp; omega)); (case aL7 => exact (by omega)); (intro v7 w7 ho hb hg hat); (have nHD : Dr g w w7 := Dr.belowB (by (with_reducible repeat (first | exact HD.out | refine Dr.alloc ?_ _ | refine Dr.drewN ?_ _ | refine Dr.drew ?_ | refine Dr.set ?_ _ ?_)); all_goals (first | (left; simp; done) | (left; simp; omega) | (left; omega) | (right; rfl))) hb); (have nHR := Rd.keep (Rd.at HR.out (by (with_reducible repeat (first | exact Keep.refl (Rd.lt HR.out) | refine Keep.alloc ?_ _ | refine Keep.drewN ?_ _ | refine Keep.drew ?_ | refine Keep.set ?_ _ ?_)); all_goals (first | (simp; done) | (simp; omega) | omega))) (fun q hq => hb.block q (by omega))); (have y7 := hb.size); ((try simp at y7)); (clear HO HR HD); (have HO := Aside0.mk ho); (have HR := Aside0.mk nHR); (have HD := Aside0.mk nHD); (clear ho hb hg hat nHR nHD)))
      all_goals
        go_roundg (k - 1)
        case measure => omega
        case rel => exact ⟨k - 1, xs ++ [_], Nat.le_refl _, congrArg (Value.int .i64) (by omega), by simp; omega, ⟨fun y hy => by
          rcases List.mem_append.1 hy with hy | hy
          · exact HX.out y hy
          · obtain rfl := List.mem_singleton.1 hy
            have h2 := hk2 (by omega)
            have h3 := hk3 (by omega)
            exact ⟨⟨by dsimp only; omega, by dsimp only; omega⟩, by first | exact hs4 | (show (⟨#[]⟩ : ByteArray).size ≤ 64; decide), ⟨by dsimp only; omega, by dsimp only; omega⟩, by first | exact hs6 | exact ⟨by show (⟨#[]⟩ : ByteArray).size ≤ 64; decide, by show (⟨#[]⟩ : ByteArray).size ≤ 64; decide⟩⟩⟩, HO, ⟨HR.out.up (by simp; omega)⟩, HD⟩
    · have hlt' : ¬ (0 : Int) < (k : Int) := by omega
      by_cases hx0 : 0 < xs.length
      · have hx0' : (0 : Int) < (xs.length : Int) := by omega
        obtain ⟨gb, rfl, hgb, hgb2⟩ := own_form2 HO.out hx0
        go_wp2_with (first | (go_at_call 61; (with_reducible refine Calls.mono (pick_any g _ 12 wr (Rd.at HR.out (by (with_reducible repeat (first | exact Keep.refl (Rd.lt HR.out) | refine Keep.alloc ?_ _ | refine Keep.drewN ?_ _ | refine Keep.drew ?_ | refine Keep.set ?_ _ ?_)); all_goals (first | (simp; done) | (simp; omega) | omega))) (by omega) (by omega)) ?_); (rintro e w8 ⟨k8, rfl, hk8, hr_, hd_⟩); (have y8 := hd_.size); ((try simp at y8)); (have nHO := hd_.R2 HO.out (by (with_reducible repeat (first | exact Below.refl _ _ | refine bel_alloc ?_ _ | refine blw_drewN ?_ _ | refine Below.drew ?_))) (by omega)); (clear HO); (have HO := Aside0.mk nHO); (clear nHO); (have hd2_ : Dr g w w8 := Dr.then_ (by (with_reducible repeat (first | exact HD.out | refine Dr.alloc ?_ _ | refine Dr.drewN ?_ _ | refine Dr.drew ?_ | refine Dr.set ?_ _ ?_)); all_goals (first | (left; simp; done) | (left; simp; omega) | (left; omega) | (right; rfl))) hd_); (clear HR HD); (have HR := Aside0.mk hr_); (have HD := Aside0.mk hd2_); (clear hr_ hd_ hd2_)) | (go_at_call 61; (with_reducible refine Calls.mono (pick_any g _ (xs.length : Int) w8 (Rd.at HR.out (by (with_reducible repeat (first | exact Keep.refl (Rd.lt HR.out) | refine Keep.alloc ?_ _ | refine Keep.drewN ?_ _ | refine Keep.drew ?_ | refine Keep.set ?_ _ ?_)); all_goals (first | (simp; done) | (simp; omega) | omega))) (by omega) (by omega)) ?_); (rintro e w9 ⟨k9, rfl, hk9, hr_, hd_⟩); (have y9 := hd_.size); ((try simp at y9)); (have nHO := hd_.R2 HO.out (by (with_reducible repeat (first | exact Below.refl _ _ | refine bel_alloc ?_ _ | refine blw_drewN ?_ _ | refine Below.drew ?_))) (by omega)); (clear HO); (have HO := Aside0.mk nHO); (clear nHO); (have hd2_ : Dr g w w9 := Dr.then_ (by (with_reducible repeat (first | exact HD.out | refine Dr.alloc ?_ _ | refine Dr.drewN ?_ _ | refine Dr.drew ?_ | refine Dr.set ?_ _ ?_)); all_goals (first | (left; simp; done) | (left; simp; omega) | (left; omega) | (right; rfl))) hd_); (clear HR HD); (have HR := Aside0.mk hr_); (have HD := Aside0.mk hd2_); (clear hr_ hd_ hd2_)) | (go_at_call 61; (with_reducible refine Calls.mono (pick_any g _ 3 w9 (Rd.at HR.out (by (with_reducible repeat (first | exact Keep.refl (Rd.lt HR.out) | refine Keep.alloc ?_ _ | refine Keep.drewN ?_ _ | refine Keep.drew ?_ | refine Keep.set ?_ _ ?_)); all_goals (first | (simp; done) | (simp; omega) | omega))) (by omega) (by omega)) ?_); (rintro e w10 ⟨k10, rfl, hk10, hr_, hd_⟩); (have y10 := hd_.size); ((try simp at y10)); (have nHO := hd_.R2 HO.out (by (with_reducible repeat (first | exact Below.refl _ _ | refine bel_alloc ?_ _ | refine blw_drewN ?_ _ | refine Below.drew ?_))) (by omega)); (clear HO); (have HO := Aside0.mk nHO); (clear nHO); (have hd2_ : Dr g w w10 := Dr.then_ (by (with_reducible repeat (first | exact HD.out | refine Dr.alloc ?_ _ | refine Dr.drewN ?_ _ | refine Dr.drew ?_ | refine Dr.set ?_ _ ?_)); all_goals (first | (left; simp; done) | (left; simp; omega) | (left; omega) | (right; rfl))) hd_); (clear HR HD); (have HR := Aside0.mk hr_); (have HD := Aside0.mk hd2_); (clear hr_ hd_ hd2_)) | (go_at_call 44; (with_reducible refine Calls.mono (one_any 0 5 g _ _ _ _ _ _ _ (Rd.at HR.out (by (with_reducible repeat (first | exact Keep.refl (Rd.lt HR.out) | refine Keep.alloc ?_ _ | refine Keep.drewN ?_ _ | refine Keep.drew ?_ | refine Keep.set ?_ _ ?_)); all_goals (first | (simp; done) | (simp; omega) | omega))) (by omega) (blk_at _ _ (by first | (simp; done) | (simp; omega))) (by decide) (by decide) (by decide) (by decide) (by decide)) ?_); (rintro e w11 ⟨k11, rfl, hk11, hr_, hd_⟩); (have y11 := hd_.size); ((try simp at y11)); (have nHO := hd_.R2 HO.out (by (with_reducible repeat (first | exact Below.refl _ _ | refine bel_alloc ?_ _ | refine blw_drewN ?_ _ | refine Below.drew ?_))) (by omega)); (clear HO); (have HO := Aside0.mk nHO); (clear nHO); (have hd2_ : Dr g w w11 := Dr.then_ (by (with_reducible repeat (first | exact HD.out | refine Dr.alloc ?_ _ | refine Dr.drewN ?_ _ | refine Dr.drew ?_ | refine Dr.set ?_ _ ?_)); all_goals (first | (left; simp; done) | (left; simp; omega) | (left; omega) | (right; rfl))) hd_); (clear HR HD); (have HR := Aside0.mk hr_); (have HD := Aside0.mk hd2_); (clear hr_ hd_ hd2_); (have hk9 := hk9 (by omega)); (obtain ⟨ce, hcl, hM, hcc, hfr⟩ := Kd.R_elem HO.out zRule (k9 : Int) (by omega) (by omega)); (rw [Int.toNat_natCast] at hM hcc hfr); (generalize hyy : xs.getD k9 zRule = y at hM); (have hsy : Hid (smallR y) := Lib.hid (by rw [← hyy]; exact HX.out _ (getD_mem xs zRule (by omega)))); (clear hyy); (obtain rfl := kRule_openM hM); (have x0 : w11.cell? ⟨gb, k9 * 5, none⟩ = some (.int .i64 y.f0) := hcc 0 _ rfl); (have f0 : w11.frozen? ⟨gb, k9 * 5, none⟩ = false := hfr 0); (have x1 : w11.cell? ⟨gb, k9 * 5 + 1, none⟩ = some (.string y.f1) := hcc 1 _ rfl); (have f1 : w11.frozen? ⟨gb, k9 * 5 + 1, none⟩ = false := hfr 1); (have x2 : w11.cell? ⟨gb, k9 * 5 + 2, none⟩ = some (.int .i64 y.f2) := hcc 2 _ rfl); (have f2 : w11.frozen? ⟨gb, k9 * 5 + 2, none⟩ = false := hfr 2); (have x3 : w11.cell? ⟨gb, k9 * 5 + 3, none⟩ = some (.string y.f3.f0) := hcc 3 _ rfl); (have f3 : w11.frozen? ⟨gb, k9 * 5 + 3, none⟩ = false := hfr 3); (have x4 : w11.cell? ⟨gb, k9 * 5 + 4, none⟩ = some (.string y.f3.f1) := hcc 4 _ rfl); (have f4 : w11.frozen? ⟨gb, k9 * 5 + 4, none⟩ = false := hfr 4); (have HCC := Aside0.mk hcc); (clear hcc hfr hM hcl)) | (go_at_call 96; (with_reducible refine Calls.mono (of_any g _ _ _ _ _ _ _ (Rd.at HR.out (by (with_reducible repeat (first | exact Keep.refl (Rd.lt HR.out) | refine Keep.alloc ?_ _ | refine Keep.drewN ?_ _ | refine Keep.drew ?_ | refine Keep.set ?_ _ ?_)); all_goals (first | (simp; done) | (simp; omega) | omega))) (by omega) (blk_at _ _ (by first | (simp; done) | (simp; omega))) (by decide) (by decide) (by decide) (by decide) (by decide)) ?_); (rintro e w12 ⟨s12, rfl, hs12, hr_, hd_⟩); (have y12 := hd_.size); ((try simp at y12)); (have nHO := hd_.R2 HO.out (by (with_reducible repeat (first | exact Below.refl _ _ | refine bel_alloc ?_ _ | refine blw_drewN ?_ _ | refine Below.drew ?_))) (by omega)); (clear HO); (have HO := Aside0.mk nHO); (clear nHO); (have hd2_ : Dr g w w12 := Dr.then_ (by (with_reducible repeat (first | exact HD.out | refine Dr.alloc ?_ _ | refine Dr.drewN ?_ _ | refine Dr.drew ?_ | refine Dr.set ?_ _ ?_)); all_goals (first | (left; simp; done) | (left; simp; omega) | (left; omega) | (right; rfl))) hd_); (clear HR HD); (have HR := Aside0.mk hr_); (have HD := Aside0.mk hd2_); (clear hr_ hd_ hd2_); (have hk9 := hk9 (by omega)); (obtain ⟨ce, hcl, hM, hcc, hfr⟩ := Kd.R_elem HO.out zRule (k9 : Int) (by omega) (by omega)); (rw [Int.toNat_natCast] at hM hcc hfr); (generalize hyy : xs.getD k9 zRule = y at hM); (have hsy : Hid (smallR y) := Lib.hid (by rw [← hyy]; exact HX.out _ (getD_mem xs zRule (by omega)))); (clear hyy); (obtain rfl := kRule_openM hM); (have x0 : w12.cell? ⟨gb, k9 * 5, none⟩ = some (.int .i64 y.f0) := hcc 0 _ rfl); (have f0 : w12.frozen? ⟨gb, k9 * 5, none⟩ = false := hfr 0); (have x1 : w12.cell? ⟨gb, k9 * 5 + 1, none⟩ = some (.string y.f1) := hcc 1 _ rfl); (have f1 : w12.frozen? ⟨gb, k9 * 5 + 1, none⟩ = false := hfr 1); (have x2 : w12.cell? ⟨gb, k9 * 5 + 2, none⟩ = some (.int .i64 y.f2) := hcc 2 _ rfl); (have f2 : w12.frozen? ⟨gb, k9 * 5 + 2, none⟩ = false := hfr 2); (have x3 : w12.cell? ⟨gb, k9 * 5 + 3, none⟩ = some (.string y.f3.f0) := hcc 3 _ rfl); (have f3 : w12.frozen? ⟨gb, k9 * 5 + 3, none⟩ = false := hfr 3); (have x4 : w12.cell? ⟨gb, k9 * 5 + 4, none⟩ = some (.string y.f3.f1) := hcc 4 _ rfl); (have f4 : w12.frozen? ⟨gb, k9 * 5 + 4, none⟩ = false := hfr 4); (have HCC := Aside0.mk hcc); (clear hcc hfr hM hcl)) | (go_at_call 60; (with_reducible refine Calls.mono (drAnyAddr_any g _ _ (Rd.at HR.out (by (with_reducible repeat (first | exact Keep.refl (Rd.lt HR.out) | refine Keep.alloc ?_ _ | refine Keep.drewN ?_ _ | refine Keep.drew ?_ | refine Keep.set ?_ _ ?_)); all_goals (first | (simp; done) | (simp; omega) | omega))) (by omega)) ?_); (rintro e w13 ⟨a13, rfl, hs13, hr_, hd_⟩); (have y13 := hd_.size); ((try simp at y13)); (have nHO := hd_.R2 HO.out (by (with_reducible repeat (first | exact Below.refl _ _ | refine bel_alloc ?_ _ | refine blw_drewN ?_ _ | refine Below.drew ?_))) (by omega)); (clear HO); (have HO := Aside0.mk nHO); (clear nHO); (have hd2_ : Dr g w w13 := Dr.then_ (by (with_reducible repeat (first | exact HD.out | refine Dr.alloc ?_ _ | refine Dr.drewN ?_ _ | refine Dr.drew ?_ | refine Dr.set ?_ _ ?_)); all_goals (first | (left; simp; done) | (left; simp; omega) | (left; omega) | (right; rfl))) hd_); (clear HR HD); (have HR := Aside0.mk hr_); (have HD := Aside0.mk hd2_); (clear hr_ hd_ hd2_); (have hk9 := hk9 (by omega)); (obtain ⟨ce, hcl, hM, hcc, hfr⟩ := Kd.R_elem HO.out zRule (k9 : Int) (by omega) (by omega)); (rw [Int.toNat_natCast] at hM hcc hfr); (generalize hyy : xs.getD k9 zRule = y at hM); (have hsy : Hid (smallR y) := Lib.hid (by rw [← hyy]; exact HX.out _ (getD_mem xs zRule (by omega)))); (clear hyy); (obtain rfl := kRule_openM hM); (have x0 : w13.cell? ⟨gb, k9 * 5, none⟩ = some (.int .i64 y.f0) := hcc 0 _ rfl); (have f0 : w13.frozen? ⟨gb, k9 * 5, none⟩ = false := hfr 0); (have x1 : w13.cell? ⟨gb, k9 * 5 + 1, none⟩ = some (.string y.f1) := hcc 1 _ rfl); (have f1 : w13.frozen? ⟨gb, k9 * 5 + 1, none⟩ = false := hfr 1); (have x2 : w13.cell? ⟨gb, k9 * 5 + 2, none⟩ = some (.int .i64 y.f2) := hcc 2 _ rfl); (have f2 : w13.frozen? ⟨gb, k9 * 5 + 2, none⟩ = false := hfr 2); (have x3 : w13.cell? ⟨gb, k9 * 5 + 3, none⟩ = some (.string y.f3.f0) := hcc 3 _ rfl); (have f3 : w13.frozen? ⟨gb, k9 * 5 + 3, none⟩ = false := hfr 3); (have x4 : w13.cell? ⟨gb, k9 * 5 + 4, none⟩ = some (.string y.f3.f1) := hcc 4 _ rfl); (have f4 : w13.frozen? ⟨gb, k9 * 5 + 4, none⟩ = false := hfr 4); (have HCC := Aside0.mk hcc); (clear hcc hfr hM hcl)))
        · go_ret
          refine ⟨xs.set k9 ⟨k11, y.f1, y.f2, y.f3⟩, some ⟨gb, 0, none⟩, c0, by rw [List.length_set]; rfl, ⟨by rw [List.length_set]; omega, fun z hz => ?_⟩, by rw [List.length_set]; exact (own_put2 HO.out k9 (by omega) (⟨k11, y.f1, y.f2, y.f3⟩ : SRule) [.int .i64 y.f0, .string y.f1, .int .i64 y.f2, .string y.f3.f0, .string y.f3.f1] rfl 0 (.int .i64 k11) (by decide) (kRule_mkM _ _ _ (⟨k11, y.f1, y.f2, y.f3⟩ : SRule)) HCC.out).1, (Rd.at HR.out (by (with_reducible repeat (first | exact Keep.refl (Rd.lt HR.out) | refine Keep.alloc ?_ _ | refine Keep.drewN ?_ _ | refine Keep.drew ?_ | refine Keep.set ?_ _ ?_)); all_goals (first | (simp; done) | (simp; omega) | omega))).up (by omega), by (with_reducible repeat (first | exact HD.out | refine Dr.alloc ?_ _ | refine Dr.drewN ?_ _ | refine Dr.drew ?_ | refine Dr.set ?_ _ ?_)); all_goals (first | (left; simp; done) | (left; simp; omega) | (left; omega) | (right; rfl))⟩
          rcases List.mem_or_eq_of_mem_set hz with hz | hz
          · exact HX.out z hz
          · subst hz
            exact ⟨hk11, hsy.out.2⟩
        · go_ret
          refine ⟨xs.set k9 ⟨y.f0, s12, y.f2, y.f3⟩, some ⟨gb, 0, none⟩, c0, by rw [List.length_set]; rfl, ⟨by rw [List.length_set]; omega, fun z hz => ?_⟩, by rw [List.length_set]; exact (own_put2 HO.out k9 (by omega) (⟨y.f0, s12, y.f2, y.f3⟩ : SRule) [.int .i64 y.f0, .string y.f1, .int .i64 y.f2, .string y.f3.f0, .string y.f3.f1] rfl 1 (.string s12) (by decide) (kRule_mkM _ _ _ (⟨y.f0, s12, y.f2, y.f3⟩ : SRule)) HCC.out).1, (Rd.at HR.out (by (with_reducible repeat (first | exact Keep.refl (Rd.lt HR.out) | refine Keep.alloc ?_ _ | refine Keep.drewN ?_ _ | refine Keep.drew ?_ | refine Keep.set ?_ _ ?_)); all_goals (first | (simp; done) | (simp; omega) | omega))).up (by omega), by (with_reducible repeat (first | exact HD.out | refine Dr.alloc ?_ _ | refine Dr.drewN ?_ _ | refine Dr.drew ?_ | refine Dr.set ?_ _ ?_)); all_goals (first | (left; simp; done) | (left; simp; omega) | (left; omega) | (right; rfl))⟩
          rcases List.mem_or_eq_of_mem_set hz with hz | hz
          · exact HX.out z hz
          · subst hz
            exact ⟨hsy.out.1, hs12, hsy.out.2.2⟩
        · have hp1 := (own_put2 HO.out k9 (by omega) (⟨y.f0, y.f1, y.f2, ⟨a13.f0, y.f3.f1⟩⟩ : SRule) [.int .i64 y.f0, .string y.f1, .int .i64 y.f2, .string y.f3.f0, .string y.f3.f1] rfl 3 (.string a13.f0) (by decide) (kRule_mkM _ _ _ (⟨y.f0, y.f1, y.f2, ⟨a13.f0, y.f3.f1⟩⟩ : SRule)) HCC.out).1
          obtain ⟨ce, hcl, hM, hcc, hfr⟩ := Kd.R_elem hp1 zRule (k9 : Int) (by omega) (by omega)
          rw [Int.toNat_natCast, set_getD xs k9 zRule _ (by omega), if_pos rfl] at hM
          rw [Int.toNat_natCast] at hcc
          obtain rfl := kRule_openM hM
          have hp2 := (own_put2 hp1 k9 (by omega) (⟨y.f0, y.f1, y.f2, a13⟩ : SRule) [.int .i64 y.f0, .string y.f1, .int .i64 y.f2, .string a13.f0, .string y.f3.f1] rfl 4 (.string a13.f1) (by decide) (kRule_mkM _ _ _ (⟨y.f0, y.f1, y.f2, a13⟩ : SRule)) hcc).1
          rw [List.set_set] at hp2
          go_ret
          refine ⟨xs.set k9 ⟨y.f0, y.f1, y.f2, a13⟩, some ⟨gb, 0, none⟩, c0, by rw [List.length_set]; rfl, ⟨by rw [List.length_set]; omega, fun z hz => ?_⟩, by rw [List.length_set]; exact hp2, (Rd.at HR.out (by (with_reducible repeat (first | exact Keep.refl (Rd.lt HR.out) | refine Keep.alloc ?_ _ | refine Keep.drewN ?_ _ | refine Keep.drew ?_ | refine Keep.set ?_ _ ?_)); all_goals (first | (simp; done) | (simp; omega) | omega))).up (by omega), by (with_reducible repeat (first | exact HD.out | refine Dr.alloc ?_ _ | refine Dr.drewN ?_ _ | refine Dr.drew ?_ | refine Dr.set ?_ _ ?_)); all_goals (first | (left; simp; done) | (left; simp; omega) | (left; omega) | (right; rfl))⟩
          rcases List.mem_or_eq_of_mem_set hz with hz | hz
          · exact HX.out z hz
          · subst hz
            exact ⟨hsy.out.1, hsy.out.2.1, hsy.out.2.2.1, hs13⟩
        · go_ret
          exact ⟨xs, some ⟨gb, 0, none⟩, c0, rfl, ⟨by omega, HX.out⟩, HO.out, HR.out.up (by omega), HD.out⟩
      · have hx0' : ¬ (0 : Int) < (xs.length : Int) := by omega
        go_wp2
        go_ret
        exact ⟨xs, A0, c0, rfl, ⟨by omega, HX.out⟩, HO.out, HR.out.up (by omega), HD.out⟩

end Go.Proofs.YtmfehmbgghfffaaDoor

/- Drawn bodies of any kind: a weak contract. -/
namespace Go.Proofs.YtmfehmbgghfffaaDoor
open Go.RowKit Go.Proofs.YtmfehmbgghfffaaDoorW.PrintWords
set_option linter.unusedVariables false
set_option linter.unusedSimpArgs false
set_option maxRecDepth 100000 in
set_option maxHeartbeats 8000000 in
theorem drAnyBody_any (g m : Nat) (w : World) (h : Rd g m w) (hm : m + 104 ≤ 1000000000) :
    Calls Tryd.prog 98 #[.pointer (some ⟨g, 0, none⟩)] w fun e w' => ∃ (xs : List ByteArray) (B : Option Addr) (d : Nat), e = .returned (.slice B xs.length d) ∧ (xs.length ≤ 101 ∧ ∀ y ∈ xs, y.size ≤ 64) ∧ Kd.R Kd.string 9 w' w.heap.size (fun _ => True) (.slice B xs.length d) xs ∧ Rd g (m + 104) w' ∧ Dr g w w' := by
  have HR := Aside0.mk h
  have HD := Aside0.mk (Dr.refl g w)
  have hgl := h.lt
  have ng0 : ¬ w.heap.size = g := by omega
  have ng1 : ¬ w.heap.size + 1 = g := by omega
  have ng2 : ¬ w.heap.size + 2 = g := by omega
  clear h
  go_enter Tryd.func98, Tryd.ntmps98
  go_wp2_with (first | (go_at_call 44; (with_reducible refine Calls.mono (one_any 0 12 g _ _ _ _ _ _ _ (Rd.at HR.out (by (with_reducible repeat (first | exact Keep.refl (Rd.lt HR.out) | refine Keep.alloc ?_ _ | refine Keep.drewN ?_ _ | refine Keep.drew ?_ | refine Keep.set ?_ _ ?_)); all_goals (first | (simp; done) | (simp; omega) | omega))) (by omega) (blk_at _ _ (by first | (simp; done) | (simp; omega))) (by decide) (by decide) (by decide) (by decide) (by decide)) ?_); (rintro e w1 ⟨k1, rfl, hk1, hr_, hd_⟩); (have y1 := hd_.size); ((try simp at y1)); (have hd2_ : Dr g w w1 := Dr.then_ (by (with_reducible repeat (first | exact HD.out | refine Dr.alloc ?_ _ | refine Dr.drewN ?_ _ | refine Dr.drew ?_ | refine Dr.set ?_ _ ?_)); all_goals (first | (left; simp; done) | (left; simp; omega) | (left; omega) | (right; rfl))) hd_); (clear HR HD); (have HR := Aside0.mk hr_); (have HD := Aside0.mk hd2_); (clear hr_ hd_ hd2_)) | (go_at_call 59; (with_reducible refine Calls.mono (drBody_any g _ _ _ (Rd.at HR.out (by (with_reducible repeat (first | exact Keep.refl (Rd.lt HR.out) | refine Keep.alloc ?_ _ | refine Keep.drewN ?_ _ | refine Keep.drew ?_ | refine Keep.set ?_ _ ?_)); all_goals (first | (simp; done) | (simp; omega) | omega))) (by omega) (by omega) (by omega)) ?_); (rintro e w2 ⟨xs, B, d, rfl, hs2, hb_, hr_, hd_⟩); (have y2 := hd_.size); ((try simp at y2)); (have hd2_ : Dr g w w2 := Dr.then_ (by (with_reducible repeat (first | exact HD.out | refine Dr.alloc ?_ _ | refine Dr.drewN ?_ _ | refine Dr.drew ?_ | refine Dr.set ?_ _ ?_)); all_goals (first | (left; simp; done) | (left; simp; omega) | (left; omega) | (right; rfl))) hd_); (clear HR HD); (have HR := Aside0.mk hr_); (have HD := Aside0.mk hd2_); (clear hr_ hd_ hd2_); (have HB := Aside0.mk (Kd.R_lower (base' := w.heap.size) hb_ (by first | (simp; done) | (simp; omega) | omega))); clear hb_; have HS := Lib.hid hs2; clear hs2) | (go_at_call 61; (with_reducible refine Calls.mono (pick_any g _ 14 _ (Rd.at HR.out (by (with_reducible repeat (first | exact Keep.refl (Rd.lt HR.out) | refine Keep.alloc ?_ _ | refine Keep.drewN ?_ _ | refine Keep.drew ?_ | refine Keep.set ?_ _ ?_)); all_goals (first | (simp; done) | (simp; omega) | omega))) (by omega) (by omega)) ?_); (rintro e w3 ⟨k3, rfl, hk3, hr_, hd_⟩); (have y3 := hd_.size); ((try simp at y3)); (have nHB := hd_.R2 HB.out (by (with_reducible repeat (first | exact Below.refl _ _ | refine bel_alloc ?_ _ | refine blw_drewN ?_ _ | refine Below.drew ?_))) (by omega)); (clear HB); (have HB := Aside0.mk nHB); (clear nHB); (have hd2_ : Dr g w w3 := Dr.then_ (by (with_reducible repeat (first | exact HD.out | refine Dr.alloc ?_ _ | refine Dr.drewN ?_ _ | refine Dr.drew ?_ | refine Dr.set ?_ _ ?_)); all_goals (first | (left; simp; done) | (left; simp; omega) | (left; omega) | (right; rfl))) hd_); (clear HR HD); (have HR := Aside0.mk hr_); (have HD := Aside0.mk hd2_); (clear hr_ hd_ hd2_)) | (go_at_call 96; (with_reducible refine Calls.mono (of_any g _ _ _ _ _ _ _ (Rd.at HR.out (by (with_reducible repeat (first | exact Keep.refl (Rd.lt HR.out) | refine Keep.alloc ?_ _ | refine Keep.drewN ?_ _ | refine Keep.drew ?_ | refine Keep.set ?_ _ ?_)); all_goals (first | (simp; done) | (simp; omega) | omega))) (by omega) (blk_at _ _ (by first | (simp; done) | (simp; omega))) (by decide) (by decide) (by decide) (by decide) (by decide)) ?_); (rintro e w4 ⟨s4, rfl, hs4, hr_, hd_⟩); (have y4 := hd_.size); ((try simp at y4)); (have nHB := hd_.R2 HB.out (by (with_reducible repeat (first | exact Below.refl _ _ | refine bel_alloc ?_ _ | refine blw_drewN ?_ _ | refine Below.drew ?_))) (by omega)); (clear HB); (have HB := Aside0.mk nHB); (clear nHB); (have hd2_ : Dr g w w4 := Dr.then_ (by (with_reducible repeat (first | exact HD.out | refine Dr.alloc ?_ _ | refine Dr.drewN ?_ _ | refine Dr.drew ?_ | refine Dr.set ?_ _ ?_)); all_goals (first | (left; simp; done) | (left; simp; omega) | (left; omega) | (right; rfl))) hd_); (clear HR HD); (have HR := Aside0.mk hr_); (have HD := Aside0.mk hd2_); (clear hr_ hd_ hd2_)) | ((with_reducible refine gate_builtin (b := .append) (xs := #[.tmp 13, .tmp 17]) rfl ?_); (try (refine gate_guard (by rfl) ?_; dsimp only)); at_builtin; (refine Kd.R_append Kd.string (w.heap.size) rfl (.tmp 13) (.tmp 17) 35 9 (.string ⟨#[]⟩) 16 rfl Tryd.underlying35 info9 rfl (by decide) (by omega) (.slice B xs.length d) (xs) (s4) _ (fun _ => True) (fun _ => False) rfl ?aX5 rfl (fun _ hk => hk.elim) (fun _ _ => trivial) ?aO5 (Below.refl _ _) ?aS5 ?aL5 ?_); (case aX5 => (refine Eq.trans (b := .slice (some ⟨_, 0, none⟩) 1 1) rfl ?_; first | (with_reducible rfl) | (simp; done))); (case aO5 => exact HB.out); (case aS5 => (have := HD.out.size; simp; omega)); (case aL5 => exact (by have := HS.out.1; omega)); (intro v5 w5 ho hb hg hat); (have nHD : Dr g w w5 := Dr.belowB (by (with_reducible repeat (first | exact HD.out | refine Dr.alloc ?_ _ | refine Dr.drewN ?_ _ | refine Dr.drew ?_ | refine Dr.set ?_ _ ?_)); all_goals (first | (left; simp; done) | (left; simp; omega) | (left; omega) | (right; rfl))) hb); (have nHR := Rd.keep (Rd.at HR.out (by (with_reducible repeat (first | exact Keep.refl (Rd.lt HR.out) | refine Keep.alloc ?_ _ | refine Keep.drewN ?_ _ | refine Keep.drew ?_ | refine Keep.set ?_ _ ?_)); all_goals (first | (simp; done) | (simp; omega) | omega))) (fun q hq => hb.block q (by omega))); (have y5 := hb.size); ((try simp at y5)); (clear HB HR HD); (have HB := Aside0.mk ho); (have HR := Aside0.mk nHR); (have HD := Aside0.mk nHD); (clear ho hb hg hat nHR nHD)))
  · go_ret
    obtain ⟨vB, vd, hv⟩ := Kd.R_slice HB.out
    subst hv
    have ho := HB.out
    refine ⟨xs ++ [s4], vB, vd, rfl, ⟨by have := HS.out.1; simp; omega, fun y hy => ?_⟩, ho, (Rd.at HR.out (by (with_reducible repeat (first | exact Keep.refl (Rd.lt HR.out) | refine Keep.alloc ?_ _ | refine Keep.drewN ?_ _ | refine Keep.drew ?_ | refine Keep.set ?_ _ ?_)); all_goals (first | (simp; done) | (simp; omega) | omega))).up (by omega), by (with_reducible repeat (first | exact HD.out | refine Dr.alloc ?_ _ | refine Dr.drewN ?_ _ | refine Dr.drew ?_ | refine Dr.set ?_ _ ?_)); all_goals (first | (left; simp; done) | (left; simp; omega) | (left; omega) | (right; rfl))⟩
    rcases List.mem_append.1 hy with hy | hy
    · exact HS.out.2 y hy
    · obtain rfl := List.mem_singleton.1 hy
      exact hs4
  · have hl2 := HS.out.1
    rename ((k3 : Int) == 0) = false => q0_
    rename ((k3 : Int) == 1) = true => q1_
    clear q0_ q1_
    go_loopg [3] 14 (fun gq v3 wr => ∃ (ys : List ByteArray), 13 - ys.length ≤ gq ∧ ys.length ≤ 101 ∧ Aside0 (∀ y ∈ ys, y.size ≤ 64) ∧ Aside0 (Kd.R Kd.string 9 wr w.heap.size (fun _ => True) v3 ys) ∧ Aside0 (Rd g (m + 103) wr) ∧ Aside0 (Dr g w wr))
    case atStart => exact ⟨xs, by omega, by omega, ⟨HS.out.2⟩, HB, ⟨HR.out.up (by omega)⟩, HD⟩
    case round =>
      clear HB HR HD
      obtain ⟨ys, hgq, hyl, HY, HB, HR, HD⟩ := hrel
      obtain ⟨A0, c0, rfl⟩ := Kd.R_slice HB.out
      have ywr := HD.out.size
      by_cases hlt : ys.length < 13
      · have hlt' : (ys.length : Int) < 13 := by omega
        go_wp2_with ((with_reducible refine gate_builtin (b := .append) (xs := #[.tmp 24, .tmp 25]) rfl ?_); (try (refine gate_guard (by rfl) ?_; dsimp only)); at_builtin; (refine Kd.R_append Kd.string (w.heap.size) rfl (.tmp 24) (.tmp 25) 35 9 (.string ⟨#[]⟩) 16 rfl Tryd.underlying35 info9 rfl (by decide) (by omega) (.slice A0 ys.length c0) (ys) (_) _ (fun _ => True) (fun _ => False) rfl ?aX6 rfl (fun _ hk => hk.elim) (fun _ _ => trivial) ?aO6 (Below.refl _ _) ?aS6 ?aL6 ?_); (case aX6 => (refine Eq.trans (b := .slice (some ⟨_, 0, none⟩) 1 1) rfl ?_; first | (with_reducible rfl) | (simp; done))); (case aO6 => exact HB.out); (case aS6 => (have := HD.out.size; simp; omega)); (case aL6 => exact (by omega)); (intro v6 w6 ho hb hg hat); (have nHD : Dr g w w6 := Dr.belowB (by (with_reducible repeat (first | exact HD.out | refine Dr.alloc ?_ _ | refine Dr.drewN ?_ _ | refine Dr.drew ?_ | refine Dr.set ?_ _ ?_)); all_goals (first | (left; simp; done) | (left; simp; omega) | (left; omega) | (right; rfl))) hb); (have nHR := Rd.keep (Rd.at HR.out (by (with_reducible repeat (first | exact Keep.refl (Rd.lt HR.out) | refine Keep.alloc ?_ _ | refine Keep.drewN ?_ _ | refine Keep.drew ?_ | refine Keep.set ?_ _ ?_)); all_goals (first | (simp; done) | (simp; omega) | omega))) (fun q hq => hb.block q (by omega))); (have y6 := hb.size); ((try simp at y6)); (clear HB HR HD); (have HB := Aside0.mk ho); (have HR := Aside0.mk nHR); (have HD := Aside0.mk nHD); (clear ho hb hg hat nHR nHD))
        go_roundg (13 - (ys.length + 1))
        case measure => omega
        case rel => exact ⟨ys ++ [_], by first | (simp; done) | (simp; omega), by first | (simp; done) | (simp; omega), ⟨fun y hy => by
          rcases List.mem_append.1 hy with hy | hy
          · exact HY.out y hy
          · obtain rfl := List.mem_singleton.1 hy
            decide⟩, HB, HR, HD⟩
      · have hlt' : ¬ (ys.length : Int) < 13 := by omega
        go_wp2
        go_ret
        exact ⟨ys, A0, c0, rfl, ⟨hyl, HY.out⟩, HB.out, HR.out.up (by omega), HD.out⟩
  · go_ret
    exact ⟨xs, B, d, rfl, ⟨by have := HS.out.1; omega, HS.out.2⟩, HB.out, HR.out.up (by omega), HD.out⟩

end Go.Proofs.YtmfehmbgghfffaaDoor

/- Drawn mails of any kind: a weak contract. -/
namespace Go.Proofs.YtmfehmbgghfffaaDoor
open Go.RowKit Go.Proofs.YtmfehmbgghfffaaDoorW.PrintWords
set_option linter.unusedVariables false
set_option linter.unusedSimpArgs false

theorem cells4 {w : World} {b : Nat} {c0 c1 c2 c3 : Value} {t : TypeId} (h : w.heap[b]? = some (.cells #[c0, c1, c2, c3] t (0, 0))) : w.cell? ⟨b, 0, none⟩ = some c0 ∧ w.cell? ⟨b, 1, none⟩ = some c1 ∧ w.cell? ⟨b, 2, none⟩ = some c2 ∧ w.cell? ⟨b, 3, none⟩ = some c3 := by simp [World.cell?, h]
theorem froz4 {w : World} {b : Nat} {cs : Array Value} {t : TypeId} (h : w.heap[b]? = some (.cells cs t (0, 0))) : w.frozen? ⟨b, 0, none⟩ = false ∧ w.frozen? ⟨b, 1, none⟩ = false ∧ w.frozen? ⟨b, 2, none⟩ = false ∧ w.frozen? ⟨b, 3, none⟩ = false := by simp [World.frozen?, h]
def midM (x : SMail) : Prop := smallA x.f0 ∧ (x.f1.length ≤ 5 ∧ ∀ y ∈ x.f1, smallA y) ∧ (x.f2.length ≤ 101 ∧ ∀ y ∈ x.f2, y.size ≤ 64)
theorem mid_f {x : SMail} {a : SAddr} (h : smallM x) (ha : smallA a) : midM ⟨a, x.f1, x.f2⟩ := by
  obtain ⟨h0, ⟨h1, h2, h3⟩, h4, h5⟩ := h
  exact ⟨ha, ⟨by show x.f1.length ≤ 5; omega, h3⟩, by show x.f2.length ≤ 101; omega, h5⟩
theorem mid_t {x : SMail} {zs : List SAddr} (h : smallM x) (hz : zs.length ≤ 5 ∧ ∀ y ∈ zs, smallA y) : midM ⟨x.f0, zs, x.f2⟩ := ⟨h.1, hz, (mid_f h h.1).2.2⟩
theorem mid_b {x : SMail} {ys : List ByteArray} (h : smallM x) (hz : ys.length ≤ 101 ∧ ∀ y ∈ ys, y.size ≤ 64) : midM ⟨x.f0, x.f1, ys⟩ := ⟨h.1, (mid_f h h.1).2.1, hz⟩
theorem more_to {xs : List SAddr} {y : SAddr} (h : 0 < xs.length ∧ xs.length ≤ 4 ∧ ∀ y ∈ xs, smallA y) (hy : smallA y) : (xs ++ [y]).length ≤ 5 ∧ ∀ z ∈ xs ++ [y], smallA z := by
  refine ⟨by have := h.2.1; simp; omega, fun z hz => ?_⟩
  rcases List.mem_append.1 hz with hz | hz
  · exact h.2.2 z hz
  · obtain rfl := List.mem_singleton.1 hz
    exact hy
set_option maxRecDepth 100000 in
set_option maxHeartbeats 8000000 in
theorem drAnyMail_any (g m : Nat) (w : World) (h : Rd g m w) (hm : m + 225 ≤ 1000000000) :
    Calls Tryd.prog 53 #[.pointer (some ⟨g, 0, none⟩)] w fun e w' => ∃ (x : SMail) (A0 : Option Addr) (c0 : Nat) (A1 : Option Addr) (c1 : Nat), e = .returned (.agg #[.string x.f0.f0, .string x.f0.f1, .slice A0 x.f1.length c0, .slice A1 x.f2.length c1]) ∧ midM x ∧ Kd.R kAddr 33 w' w.heap.size (fun _ => True) (.slice A0 x.f1.length c0) x.f1 ∧ Kd.R Kd.string 9 w' w.heap.size (fun _ => True) (.slice A1 x.f2.length c1) x.f2 ∧ Rd g (m + 225) w' ∧ Dr g w w' := by
  have HR := Aside0.mk h
  have HD := Aside0.mk (Dr.refl g w)
  have hgl := h.lt
  have ng0 : ¬ w.heap.size = g := by omega
  have ng1 : ¬ w.heap.size + 1 = g := by omega
  have ng2 : ¬ w.heap.size + 2 = g := by omega
  clear h
  go_enter Tryd.func53, Tryd.ntmps53
  go_wp2_with (first | (go_at_call 97; (with_reducible refine Calls.mono (drMail_any g _ _ (Rd.at HR.out (by (with_reducible repeat (first | exact Keep.refl (Rd.lt HR.out) | refine Keep.alloc ?_ _ | refine Keep.drewN ?_ _ | refine Keep.drew ?_ | refine Keep.set ?_ _ ?_)); all_goals (first | (simp; done) | (simp; omega) | omega))) (by omega)) ?_); (rintro e w1 ⟨x, A0, c0, A1, c1, rfl, hm1, r0, r1, hr_, hd_⟩); (have y1 := hd_.size); ((try simp at y1)); (have nF0 : w1.heap[w.heap.size]? = some (.cells #[.string ⟨#[]⟩, .string ⟨#[]⟩, .slice none 0 0, .slice none 0 0] 46 (0, 0)) := hd_.blk (by (with_reducible repeat (first | exact blk_at _ _ (by first | (simp; done) | (simp; omega)) | refine blk_alloc ?_ _ | refine blk_drew ?_ | refine blk_drewN ?_ _ | refine blk_set ?_ _ _ | refine blk_far ?_ ?_ _)); all_goals (first | (simp; done) | (simp; omega) | omega)) (by omega)); (have F0 := Aside0.mk nF0); (have cF0_0 : w1.cell? ⟨w.heap.size, 0, none⟩ = some (.string ⟨#[]⟩) := (by simp [World.cell?, nF0])); (have cF0_1 : w1.cell? ⟨w.heap.size, 1, none⟩ = some (.string ⟨#[]⟩) := (by simp [World.cell?, nF0])); (have cF0_2 : w1.cell? ⟨w.heap.size, 2, none⟩ = some (.slice none 0 0) := (by simp [World.cell?, nF0])); (have cF0_3 : w1.cell? ⟨w.heap.size, 3, none⟩ = some (.slice none 0 0) := (by simp [World.cell?, nF0])); (have dF0_0 : w1.frozen? ⟨w.heap.size, 0, none⟩ = false := (by simp [World.frozen?, nF0])); (have dF0_1 : w1.frozen? ⟨w.heap.size, 1, none⟩ = false := (by simp [World.frozen?, nF0])); (have dF0_2 : w1.frozen? ⟨w.heap.size, 2, none⟩ = false := (by simp [World.frozen?, nF0])); (have dF0_3 : w1.frozen? ⟨w.heap.size, 3, none⟩ = false := (by simp [World.frozen?, nF0])); (clear nF0); (have hd2_ : Dr g w w1 := Dr.then_ (by (with_reducible repeat (first | exact HD.out | refine Dr.alloc ?_ _ | refine Dr.drewN ?_ _ | refine Dr.drew ?_ | refine Dr.set ?_ _ ?_)); all_goals (first | (left; simp; done) | (left; simp; omega) | (left; omega) | (right; rfl))) hd_); (clear HR HD); (have HR := Aside0.mk hr_); (have HD := Aside0.mk hd2_); (clear hr_ hd_ hd2_); (have U0 := Aside0.mk (Kd.R_lower (base' := w.heap.size) r0 (by first | (simp; done) | (simp; omega) | omega))); (have U1 := Aside0.mk (Kd.R_lower (base' := w.heap.size) r1 (by first | (simp; done) | (simp; omega) | omega))); clear r0 r1; have HSM := Lib.hid hm1; clear hm1) | (go_at_call 61; (with_reducible refine Calls.mono (pick_any g _ 12 _ (Rd.at HR.out (by (with_reducible repeat (first | exact Keep.refl (Rd.lt HR.out) | refine Keep.alloc ?_ _ | refine Keep.drewN ?_ _ | refine Keep.drew ?_ | refine Keep.set ?_ _ ?_)); all_goals (first | (simp; done) | (simp; omega) | omega))) (by omega) (by omega)) ?_); (rintro e w2 ⟨k2, rfl, hk2, hr_, hd_⟩); (have y2 := hd_.size); ((try simp at y2)); (have nF0 : w2.heap[w.heap.size]? = some (.cells #[.string ⟨#[]⟩, .string ⟨#[]⟩, .slice none 0 0, .slice none 0 0] 46 (0, 0)) := hd_.blk (by (with_reducible repeat (first | exact blk_at _ _ (by first | (simp; done) | (simp; omega)) | exact F0.out | refine blk_alloc ?_ _ | refine blk_drew ?_ | refine blk_drewN ?_ _ | refine blk_set ?_ _ _ | refine blk_far ?_ ?_ _)); all_goals (first | (simp; done) | (simp; omega) | omega)) (by omega)); (have nF1 : w2.heap[w1.heap.size]? = some (.cells #[.string x.f0.f0, .string x.f0.f1, .slice A0 x.f1.length c0, .slice A1 x.f2.length c1] 46 (0, 0)) := hd_.blk (by (with_reducible repeat (first | exact blk_at _ _ (by first | (simp; done) | (simp; omega)) | refine blk_alloc ?_ _ | refine blk_drew ?_ | refine blk_drewN ?_ _ | refine blk_set ?_ _ _ | refine blk_far ?_ ?_ _)); all_goals (first | (simp; done) | (simp; omega) | omega)) (by omega)); (have nU0 := hd_.R2 U0.out (by (with_reducible repeat (first | exact Below.refl _ _ | refine bel_alloc ?_ _ | refine blw_drewN ?_ _ | refine Below.drew ?_))) (by omega)); (have nU1 := hd_.R2 U1.out (by (with_reducible repeat (first | exact Below.refl _ _ | refine bel_alloc ?_ _ | refine blw_drewN ?_ _ | refine Below.drew ?_))) (by omega)); ((try clear cF0_0 cF0_1 cF0_2 cF0_3)); ((try clear dF0_0 dF0_1 dF0_2 dF0_3)); (clear F0); (have F0 := Aside0.mk nF0); (have cF0_0 : w2.cell? ⟨w.heap.size, 0, none⟩ = some (.string ⟨#[]⟩) := (by simp [World.cell?, nF0])); (have cF0_1 : w2.cell? ⟨w.heap.size, 1, none⟩ = some (.string ⟨#[]⟩) := (by simp [World.cell?, nF0])); (have cF0_2 : w2.cell? ⟨w.heap.size, 2, none⟩ = some (.slice none 0 0) := (by simp [World.cell?, nF0])); (have cF0_3 : w2.cell? ⟨w.heap.size, 3, none⟩ = some (.slice none 0 0) := (by simp [World.cell?, nF0])); (have dF0_0 : w2.frozen? ⟨w.heap.size, 0, none⟩ = false := (by simp [World.frozen?, nF0])); (have dF0_1 : w2.frozen? ⟨w.heap.size, 1, none⟩ = false := (by simp [World.frozen?, nF0])); (have dF0_2 : w2.frozen? ⟨w.heap.size, 2, none⟩ = false := (by simp [World.frozen?, nF0])); (have dF0_3 : w2.frozen? ⟨w.heap.size, 3, none⟩ = false := (by simp [World.frozen?, nF0])); (clear nF0); (have F1 := Aside0.mk nF1); (have cF1_0 : w2.cell? ⟨w1.heap.size, 0, none⟩ = some (.string x.f0.f0) := (by simp [World.cell?, nF1])); (have cF1_1 : w2.cell? ⟨w1.heap.size, 1, none⟩ = some (.string x.f0.f1) := (by simp [World.cell?, nF1])); (have cF1_2 : w2.cell? ⟨w1.heap.size, 2, none⟩ = some (.slice A0 x.f1.length c0) := (by simp [World.cell?, nF1])); (have cF1_3 : w2.cell? ⟨w1.heap.size, 3, none⟩ = some (.slice A1 x.f2.length c1) := (by simp [World.cell?, nF1])); (have dF1_0 : w2.frozen? ⟨w1.heap.size, 0, none⟩ = false := (by simp [World.frozen?, nF1])); (have dF1_1 : w2.frozen? ⟨w1.heap.size, 1, none⟩ = false := (by simp [World.frozen?, nF1])); (have dF1_2 : w2.frozen? ⟨w1.heap.size, 2, none⟩ = false := (by simp [World.frozen?, nF1])); (have dF1_3 : w2.frozen? ⟨w1.heap.size, 3, none⟩ = false := (by simp [World.frozen?, nF1])); (clear nF1); (clear U0); (have U0 := Aside0.mk nU0); (clear nU0); (clear U1); (have U1 := Aside0.mk nU1); (clear nU1); (have hd2_ : Dr g w w2 := Dr.then_ (by (with_reducible repeat (first | exact HD.out | refine Dr.alloc ?_ _ | refine Dr.drewN ?_ _ | refine Dr.drew ?_ | refine Dr.set ?_ _ ?_)); all_goals (first | (left; simp; done) | (left; simp; omega) | (left; omega) | (right; rfl))) hd_); (clear HR HD); (have HR := Aside0.mk hr_); (have HD := Aside0.mk hd2_); (clear hr_ hd_ hd2_); have z2_0 : w.heap.size < w2.heap.size := (by omega); have z2_1 : w1.heap.size < w2.heap.size := (by omega)) | (go_at_call 98; (with_reducible refine Calls.mono (drAnyBody_any g _ _ (Rd.at HR.out (by (with_reducible repeat (first | exact Keep.refl (Rd.lt HR.out) | refine Keep.alloc ?_ _ | refine Keep.drewN ?_ _ | refine Keep.drew ?_ | refine Keep.set ?_ _ ?_)); all_goals (first | (simp; done) | (simp; omega) | omega))) (by omega)) ?_); (rintro e w3 ⟨ys, B, d, rfl, hs3, hb_, hr_, hd_⟩); (have y3 := hd_.size); ((try simp at y3)); (have nF0 : w3.heap[w.heap.size]? = some (.cells #[.string ⟨#[]⟩, .string ⟨#[]⟩, .slice none 0 0, .slice none 0 0] 46 (0, 0)) := hd_.blk (by (with_reducible repeat (first | exact blk_at _ _ (by first | (simp; done) | (simp; omega)) | exact F0.out | refine blk_alloc ?_ _ | refine blk_drew ?_ | refine blk_drewN ?_ _ | refine blk_set ?_ _ _ | refine blk_far ?_ ?_ _)); all_goals (first | (simp; done) | (simp; omega) | omega)) (by omega)); (have nF1 : w3.heap[w1.heap.size]? = some (.cells #[.string x.f0.f0, .string x.f0.f1, .slice A0 x.f1.length c0, .slice A1 x.f2.length c1] 46 (0, 0)) := hd_.blk (by (with_reducible repeat (first | exact blk_at _ _ (by first | (simp; done) | (simp; omega)) | exact F1.out | refine blk_alloc ?_ _ | refine blk_drew ?_ | refine blk_drewN ?_ _ | refine blk_set ?_ _ _ | refine blk_far ?_ ?_ _)); all_goals (first | (simp; done) | (simp; omega) | omega)) (by omega)); (have nU0 := hd_.R2 U0.out (by (with_reducible repeat (first | exact Below.refl _ _ | refine bel_alloc ?_ _ | refine blw_drewN ?_ _ | refine Below.drew ?_))) (by omega)); (have nU1 := hd_.R2 U1.out (by (with_reducible repeat (first | exact Below.refl _ _ | refine bel_alloc ?_ _ | refine blw_drewN ?_ _ | refine Below.drew ?_))) (by omega)); ((try clear cF0_0 cF0_1 cF0_2 cF0_3)); ((try clear dF0_0 dF0_1 dF0_2 dF0_3)); ((try clear cF1_0 cF1_1 cF1_2 cF1_3)); ((try clear dF1_0 dF1_1 dF1_2 dF1_3)); (clear F0 F1); (have F0 := Aside0.mk nF0); (have cF0_0 : w3.cell? ⟨w.heap.size, 0, none⟩ = some (.string ⟨#[]⟩) := (by simp [World.cell?, nF0])); (have cF0_1 : w3.cell? ⟨w.heap.size, 1, none⟩ = some (.string ⟨#[]⟩) := (by simp [World.cell?, nF0])); (have cF0_2 : w3.cell? ⟨w.heap.size, 2, none⟩ = some (.slice none 0 0) := (by simp [World.cell?, nF0])); (have cF0_3 : w3.cell? ⟨w.heap.size, 3, none⟩ = some (.slice none 0 0) := (by simp [World.cell?, nF0])); (have dF0_0 : w3.frozen? ⟨w.heap.size, 0, none⟩ = false := (by simp [World.frozen?, nF0])); (have dF0_1 : w3.frozen? ⟨w.heap.size, 1, none⟩ = false := (by simp [World.frozen?, nF0])); (have dF0_2 : w3.frozen? ⟨w.heap.size, 2, none⟩ = false := (by simp [World.frozen?, nF0])); (have dF0_3 : w3.frozen? ⟨w.heap.size, 3, none⟩ = false := (by simp [World.frozen?, nF0])); (clear nF0); (have F1 := Aside0.mk nF1); (have cF1_0 : w3.cell? ⟨w1.heap.size, 0, none⟩ = some (.string x.f0.f0) := (by simp [World.cell?, nF1])); (have cF1_1 : w3.cell? ⟨w1.heap.size, 1, none⟩ = some (.string x.f0.f1) := (by simp [World.cell?, nF1])); (have cF1_2 : w3.cell? ⟨w1.heap.size, 2, none⟩ = some (.slice A0 x.f1.length c0) := (by simp [World.cell?, nF1])); (have cF1_3 : w3.cell? ⟨w1.heap.size, 3, none⟩ = some (.slice A1 x.f2.length c1) := (by simp [World.cell?, nF1])); (have dF1_0 : w3.frozen? ⟨w1.heap.size, 0, none⟩ = false := (by simp [World.frozen?, nF1])); (have dF1_1 : w3.frozen? ⟨w1.heap.size, 1, none⟩ = false := (by simp [World.frozen?, nF1])); (have dF1_2 : w3.frozen? ⟨w1.heap.size, 2, none⟩ = false := (by simp [World.frozen?, nF1])); (have dF1_3 : w3.frozen? ⟨w1.heap.size, 3, none⟩ = false := (by simp [World.frozen?, nF1])); (clear nF1); (clear U0); (have U0 := Aside0.mk nU0); (clear nU0); (clear U1); (have U1 := Aside0.mk nU1); (clear nU1); (have hd2_ : Dr g w w3 := Dr.then_ (by (with_reducible repeat (first | exact HD.out | refine Dr.alloc ?_ _ | refine Dr.drewN ?_ _ | refine Dr.drew ?_ | refine Dr.set ?_ _ ?_)); all_goals (first | (left; simp; done) | (left; simp; omega) | (left; omega) | (right; rfl))) hd_); (clear HR HD); (have HR := Aside0.mk hr_); (have HD := Aside0.mk hd2_); (clear hr_ hd_ hd2_); (have HB := Aside0.mk (Kd.R_lower (base' := w.heap.size) hb_ (by first | (simp; done) | (simp; omega) | omega))); clear hb_; have z3_0 : w.heap.size < w3.heap.size := (by omega); have z3_1 : w1.heap.size < w3.heap.size := (by omega)) | (go_at_call 60; (with_reducible refine Calls.mono (drAnyAddr_any g _ _ (Rd.at HR.out (by (with_reducible repeat (first | exact Keep.refl (Rd.lt HR.out) | refine Keep.alloc ?_ _ | refine Keep.drewN ?_ _ | refine Keep.drew ?_ | refine Keep.set ?_ _ ?_)); all_goals (first | (simp; done) | (simp; omega) | omega))) (by omega)) ?_); (rintro e w4 ⟨a4, rfl, hs4, hr_, hd_⟩); (have y4 := hd_.size); ((try simp at y4)); (have nF0 : w4.heap[w.heap.size]? = some (.cells #[.string ⟨#[]⟩, .string ⟨#[]⟩, .slice none 0 0, .slice none 0 0] 46 (0, 0)) := hd_.blk (by (with_reducible repeat (first | exact blk_at _ _ (by first | (simp; done) | (simp; omega)) | exact F0.out | refine blk_alloc ?_ _ | refine blk_drew ?_ | refine blk_drewN ?_ _ | refine blk_set ?_ _ _ | refine blk_far ?_ ?_ _)); all_goals (first | (simp; done) | (simp; omega) | omega)) (by omega)); (have nF1 : w4.heap[w1.heap.size]? = some (.cells #[.string x.f0.f0, .string x.f0.f1, .slice A0 x.f1.length c0, .slice A1 x.f2.length c1] 46 (0, 0)) := hd_.blk (by (with_reducible repeat (first | exact blk_at _ _ (by first | (simp; done) | (simp; omega)) | exact F1.out | refine blk_alloc ?_ _ | refine blk_drew ?_ | refine blk_drewN ?_ _ | refine blk_set ?_ _ _ | refine blk_far ?_ ?_ _)); all_goals (first | (simp; done) | (simp; omega) | omega)) (by omega)); (have nU0 := hd_.R2 U0.out (by (with_reducible repeat (first | exact Below.refl _ _ | refine bel_alloc ?_ _ | refine blw_drewN ?_ _ | refine Below.drew ?_))) (by omega)); (have nU1 := hd_.R2 U1.out (by (with_reducible repeat (first | exact Below.refl _ _ | refine bel_alloc ?_ _ | refine blw_drewN ?_ _ | refine Below.drew ?_))) (by omega)); ((try clear cF0_0 cF0_1 cF0_2 cF0_3)); ((try clear dF0_0 dF0_1 dF0_2 dF0_3)); ((try clear cF1_0 cF1_1 cF1_2 cF1_3)); ((try clear dF1_0 dF1_1 dF1_2 dF1_3)); (clear F0 F1); (have F0 := Aside0.mk nF0); (have cF0_0 : w4.cell? ⟨w.heap.size, 0, none⟩ = some (.string ⟨#[]⟩) := (by simp [World.cell?, nF0])); (have cF0_1 : w4.cell? ⟨w.heap.size, 1, none⟩ = some (.string ⟨#[]⟩) := (by simp [World.cell?, nF0])); (have cF0_2 : w4.cell? ⟨w.heap.size, 2, none⟩ = some (.slice none 0 0) := (by simp [World.cell?, nF0])); (have cF0_3 : w4.cell? ⟨w.heap.size, 3, none⟩ = some (.slice none 0 0) := (by simp [World.cell?, nF0])); (have dF0_0 : w4.frozen? ⟨w.heap.size, 0, none⟩ = false := (by simp [World.frozen?, nF0])); (have dF0_1 : w4.frozen? ⟨w.heap.size, 1, none⟩ = false := (by simp [World.frozen?, nF0])); (have dF0_2 : w4.frozen? ⟨w.heap.size, 2, none⟩ = false := (by simp [World.frozen?, nF0])); (have dF0_3 : w4.frozen? ⟨w.heap.size, 3, none⟩ = false := (by simp [World.frozen?, nF0])); (clear nF0); (have F1 := Aside0.mk nF1); (have cF1_0 : w4.cell? ⟨w1.heap.size, 0, none⟩ = some (.string x.f0.f0) := (by simp [World.cell?, nF1])); (have cF1_1 : w4.cell? ⟨w1.heap.size, 1, none⟩ = some (.string x.f0.f1) := (by simp [World.cell?, nF1])); (have cF1_2 : w4.cell? ⟨w1.heap.size, 2, none⟩ = some (.slice A0 x.f1.length c0) := (by simp [World.cell?, nF1])); (have cF1_3 : w4.cell? ⟨w1.heap.size, 3, none⟩ = some (.slice A1 x.f2.length c1) := (by simp [World.cell?, nF1])); (have dF1_0 : w4.frozen? ⟨w1.heap.size, 0, none⟩ = false := (by simp [World.frozen?, nF1])); (have dF1_1 : w4.frozen? ⟨w1.heap.size, 1, none⟩ = false := (by simp [World.frozen?, nF1])); (have dF1_2 : w4.frozen? ⟨w1.heap.size, 2, none⟩ = false := (by simp [World.frozen?, nF1])); (have dF1_3 : w4.frozen? ⟨w1.heap.size, 3, none⟩ = false := (by simp [World.frozen?, nF1])); (clear nF1); (clear U0); (have U0 := Aside0.mk nU0); (clear nU0); (clear U1); (have U1 := Aside0.mk nU1); (clear nU1); (have hd2_ : Dr g w w4 := Dr.then_ (by (with_reducible repeat (first | exact HD.out | refine Dr.alloc ?_ _ | refine Dr.drewN ?_ _ | refine Dr.drew ?_ | refine Dr.set ?_ _ ?_)); all_goals (first | (left; simp; done) | (left; simp; omega) | (left; omega) | (right; rfl))) hd_); (clear HR HD); (have HR := Aside0.mk hr_); (have HD := Aside0.mk hd2_); (clear hr_ hd_ hd2_); have z4_0 : w.heap.size < w4.heap.size := (by omega); have z4_1 : w1.heap.size < w4.heap.size := (by omega)))
  · refine bodyPost_ret (v := .agg #[.string x.f0.f0, .string x.f0.f1, .slice A0 x.f1.length c0, .slice B ys.length d]) ?hrA rfl ?hpA
    case hrA => simp [results, Tryd.results53, go_sem, cF0_0, cF0_1, cF0_2, cF0_3]
    case hpA => exact ⟨(⟨x.f0, x.f1, ys⟩ : SMail), A0, c0, B, d, rfl, (mid_b HSM.out hs3), (by (with_reducible repeat (first | exact U0.out | refine R_put1 ?_ rfl (Kd.R_ne U0.out F0.out (by decide)) | refine R_put1 ?_ rfl (Kd.R_ne U0.out F1.out (by decide))))), (by (with_reducible repeat (first | exact HB.out | refine R_put1 ?_ rfl (Kd.R_ne HB.out F0.out (by decide)) | refine R_put1 ?_ rfl (Kd.R_ne HB.out F1.out (by decide))))), (Rd.at HR.out (by (with_reducible repeat (first | exact Keep.refl (Rd.lt HR.out) | refine Keep.alloc ?_ _ | refine Keep.drewN ?_ _ | refine Keep.drew ?_ | refine Keep.set ?_ _ ?_)); all_goals (first | (simp; done) | (simp; omega) | omega))).up (by omega), by (with_reducible repeat (first | exact HD.out | refine Dr.alloc ?_ _ | refine Dr.drewN ?_ _ | refine Dr.drew ?_ | refine Dr.set ?_ _ ?_)); all_goals (first | (left; simp; done) | (left; simp; omega) | (left; omega) | (right; rfl))⟩
  · have hx0 := HSM.out.2.1.1
    obtain ⟨ga, hgA, hga, hga2⟩ := own_form2 U0.out hx0
    subst hgA
    (try clear cF1_0 cF1_1 cF1_2 cF1_3 dF1_0 dF1_1 dF1_2 dF1_3)
    have join : Hid (∀ {goal : Prop} {G : SAddr → Nat → List SAddr → Option Addr → Nat → World → Prop} (rg : Hid (∀ (y : SAddr) (n0 : Nat) (zs : List SAddr) (vB : Option Addr) (vd : Nat) (V : World), (zs.length ≤ 5 ∧ ∀ y ∈ zs, smallA y) ∧ V.heap[w.heap.size]? = some (.cells #[.string ⟨#[]⟩, .string ⟨#[]⟩, .slice none 0 0, .slice none 0 0] 46 (0, 0)) ∧ V.heap[w1.heap.size]? = some (.cells #[.string x.f0.f0, .string x.f0.f1, .slice vB zs.length vd, .slice A1 x.f2.length c1] 46 (0, 0)) ∧ Kd.R kAddr 33 V w.heap.size (fun _ => True) (.slice vB zs.length vd) zs ∧ Kd.R Kd.string 9 V w.heap.size (fun _ => True) (.slice A1 x.f2.length c1) x.f2 ∧ Rd g (m + 121) V ∧ Dr g w V → G y n0 zs vB vd V) → goal) (hk : ∀ (y : SAddr) (n0 : Nat) (zs : List SAddr) (vB : Option Addr) (vd : Nat) (V : World), (zs.length ≤ 5 ∧ ∀ y ∈ zs, smallA y) ∧ V.heap[w.heap.size]? = some (.cells #[.string ⟨#[]⟩, .string ⟨#[]⟩, .slice none 0 0, .slice none 0 0] 46 (0, 0)) ∧ V.heap[w1.heap.size]? = some (.cells #[.string x.f0.f0, .string x.f0.f1, .slice vB zs.length vd, .slice A1 x.f2.length c1] 46 (0, 0)) ∧ Kd.R kAddr 33 V w.heap.size (fun _ => True) (.slice vB zs.length vd) zs ∧ Kd.R Kd.string 9 V w.heap.size (fun _ => True) (.slice A1 x.f2.length c1) x.f2 ∧ Rd g (m + 121) V ∧ Dr g w V → G y n0 zs vB vd V), goal) := Lib.hid (fun f h => f (Lib.hid h))
    apply join.out
    case rg =>
      intro HKK
      refine wp_region_held_drew (S := (fun _ => True)) (by kernel_rfl) ?s31 (fun hHeld => ?t31)
      case s31 => exact trivial
      generalize hV0 : World.drew _ = V0 at hHeld ⊢
      have f0 : V0.heap[w.heap.size]? = some (.cells #[.string ⟨#[]⟩, .string ⟨#[]⟩, .slice none 0 0, .slice none 0 0] 46 (0, 0)) := by rw [← hV0]; exact blk_drew F0.out
      have f1 : V0.heap[w1.heap.size]? = some (.cells #[.string x.f0.f0, .string x.f0.f1, .slice (some ⟨ga, 0, none⟩) x.f1.length c0, .slice A1 x.f2.length c1] 46 (0, 0)) := by rw [← hV0]; exact blk_drew F1.out
      have u0 : Kd.R kAddr 33 V0 w.heap.size (fun _ => True) (.slice (some ⟨ga, 0, none⟩) x.f1.length c0) x.f1 := by rw [← hV0]; exact Kd.R_drew U0.out
      have u1 : Kd.R Kd.string 9 V0 w.heap.size (fun _ => True) (.slice A1 x.f2.length c1) x.f2 := by rw [← hV0]; exact Kd.R_drew U1.out
      have hr : Rd g (m + 121) V0 := by rw [← hV0]; exact HR.out.drew
      have hd : Dr g w V0 := by rw [← hV0]; exact HD.out.drew
      clear hV0
      have F0 := Aside0.mk f0
      have F1 := Aside0.mk f1
      have U0 := Aside0.mk u0
      have U1 := Aside0.mk u1
      have HR := Aside0.mk hr
      have HD := Aside0.mk hd
      clear f0 f1 u0 u1 hr hd
      obtain ⟨d0_, d1_, d2_, d3_⟩ := cells4 F1.out
      obtain ⟨ce, hcl, hM, hcc, hfr⟩ := Kd.R_elem U0.out zAddr 0 (by omega) (by omega)
      rw [show Int.toNat 0 = 0 from rfl] at hM hcc
      generalize hyy : x.f1.getD 0 zAddr = y at hM
      have HY : Hid (smallA y) := Lib.hid (by rw [← hyy]; exact HSM.out.2.1.2.2 _ (getD_mem x.f1 zAddr hx0))
      clear hyy
      obtain rfl := kAddr_openM hM
      have p0_ : V0.cell? ⟨ga, 0, none⟩ = some (.string y.f0) := by have := hcc 0 _ rfl; simpa using this
      have p1_ : V0.cell? ⟨ga, 1, none⟩ = some (.string y.f1) := by have := hcc 1 _ rfl; simpa using this
      clear hcc hfr hM hcl
      refine wpAnyH_take (i := 0) (oi := { dst := some 15, op := Op.fieldAddr 46 (Operand.tmp 3) 1, type := 0, pos := "l20_draw.go:157", after := #[], guard := none }) (v := ?v32) rfl (by kernel_rfl) (by kernel_rfl) (by kernel_rfl) (fun _ _ _ h => h) (Or.inl ⟨by rfl, ?y32⟩) (by assumption) ?r32
      case y32 => intro w_ hSw; (try dsimp only at hSw); go_simp; (try (with_reducible rfl))
      try simp only [Act.put, List.setIfInBounds_toArray, List.set_cons_zero, List.set_cons_succ]
      refine wpAnyH_take (i := 2) (oi := { dst := some 17, op := Op.fieldAddr 46 (Operand.tmp 3) 1, type := 0, pos := "l20_draw.go:157", after := #[], guard := none }) (v := ?v33) rfl (by kernel_rfl) (by kernel_rfl) (by kernel_rfl) (fun _ _ _ h => h) (Or.inl ⟨by rfl, ?y33⟩) (by assumption) ?r33
      case y33 => intro w_ hSw; (try dsimp only at hSw); go_simp; (try (with_reducible rfl))
      try simp only [Act.put, List.setIfInBounds_toArray, List.set_cons_zero, List.set_cons_succ]
      refine wpAnyH_ready (rs := [1, 3]) (by kernel_rfl) (by simp) ?_
      refine AllReadyH.cons (o := { dst := some 16, op := Op.load 44 (Operand.tmp 15), type := 44, pos := "l20_draw.go:157", after := #[{ on := 0, ground := Ground.data }], guard := none }) rfl (fun K hK => ?k34) (AllReadyH.cons (o := { dst := some 18, op := Op.load 44 (Operand.tmp 17), type := 44, pos := "l20_draw.go:157", after := #[{ on := 2, ground := Ground.data }], guard := none }) rfl (fun K hK => ?k35) AllReadyH.nil)
      case k34 =>
        go_simp
        refine hK.out _ _ ?h36 (fun hHeld => ?j36)
        case h36 => exact hHeld
        clear hK K
        try simp only [Act.put, List.setIfInBounds_toArray, List.set_cons_zero, List.set_cons_succ]
        refine wpAnyH_ready (rs := [3]) (by kernel_rfl) (by simp) ?_
        refine AllReadyH.cons (o := { dst := some 18, op := Op.load 44 (Operand.tmp 17), type := 44, pos := "l20_draw.go:157", after := #[{ on := 2, ground := Ground.data }], guard := none }) rfl (fun K hK => ?k37) AllReadyH.nil
        case k37 =>
          go_simp
          refine hK.out _ _ ?h38 (fun hHeld => ?j38)
          case h38 => exact hHeld
          clear hK K
          try simp only [Act.put, List.setIfInBounds_toArray, List.set_cons_zero, List.set_cons_succ]
          refine wpAnyH_take (i := 4) (oi := { dst := some 19, op := Op.indexAddr 44 (Operand.tmp 18) (Operand.const (Value.int IntKind.i64 0)), type := 0, pos := "l20_draw.go:157", after := #[{ on := 3, ground := Ground.data }], guard := none }) (v := ?v39) rfl (by kernel_rfl) (by kernel_rfl) (by kernel_rfl) (fun _ _ _ h => h) (Or.inl ⟨by rfl, ?y39⟩) (by assumption) ?r39
          case y39 => intro w_ hSw; (try dsimp only at hSw); go_simp; (try (with_reducible rfl))
          try simp only [Act.put, List.setIfInBounds_toArray, List.set_cons_zero, List.set_cons_succ]
          refine wpAnyH_ready (rs := [5]) (by kernel_rfl) (by simp) ?_
          refine AllReadyH.cons (o := { dst := some 20, op := Op.load 33 (Operand.tmp 19), type := 33, pos := "l20_draw.go:157", after := #[{ on := 4, ground := Ground.data }], guard := none }) rfl (fun K hK => ?k40) AllReadyH.nil
          case k40 =>
            go_simp
            refine hK.out _ _ ?h41 (fun hHeld => ?j41)
            case h41 => exact hHeld
            clear hK K
            try simp only [Act.put, List.setIfInBounds_toArray, List.set_cons_zero, List.set_cons_succ]
            refine wpAnyH_ready (rs := [6]) (by kernel_rfl) (by simp) ?_
            refine AllReadyH.cons (o := { dst := some 21, op := Op.buildSlice 44 1 #[(0, Operand.tmp 20)], type := 44, pos := "l20_draw.go:157", after := #[{ on := 5, ground := Ground.data }], guard := none }) rfl (fun K hK => ?k42) AllReadyH.nil
            case k42 =>
              go_simp
              refine hK.out _ _ ?h43 (fun hHeld => ?j43)
              case h43 => exact trivial
              clear hK K
              try simp only [Act.put, List.setIfInBounds_toArray, List.set_cons_zero, List.set_cons_succ]
              generalize hV6 : World.alloc V0 _ = V6 at hHeld ⊢
              have G1 : V6.heap[w1.heap.size]? = some (.cells #[.string x.f0.f0, .string x.f0.f1, .slice (some ⟨ga, 0, none⟩) x.f1.length c0, .slice A1 x.f2.length c1] 46 (0, 0)) := by rw [← hV6]; exact blk_alloc F1.out _
              obtain ⟨g0_, g1_, g2_, g3_⟩ := cells4 G1
              refine wpAnyH_ready (rs := [7]) (by kernel_rfl) (by simp) ?_
              refine AllReadyH.cons (o := { dst := some 22, op := Op.call { callee := Callee.builtin Builtin.append, args := #[Operand.tmp 16, Operand.tmp 21], argTypes := #[44, 44] }, type := 44, pos := "l20_draw.go:157", after := #[{ on := 1, ground := Ground.data }, { on := 6, ground := Ground.data }], guard := none }) rfl (fun K hK => ?k44) AllReadyH.nil
              case k44 =>
                subst hV6
                refine Kd.R_append_step kAddr (w.heap.size) (by rfl) (.tmp 16) (.tmp 21) 44 33 (.agg #[(.string ⟨#[]⟩), (.string ⟨#[]⟩)]) 32 rfl Tryd.underlying44 info33 rfl (by decide) (by omega) (.slice (some ⟨ga, 0, none⟩) x.f1.length c0) x.f1 y [.string y.f0, .string y.f1] (fun _ => True) (fun _ => False) rfl rfl (kAddr_mkM _ _ _ y) (fun _ hk => hk.elim) (fun _ _ => trivial) U0.out (Below.refl _ _) ?aS7 ?aL7 ?_
                case aS7 => exact HD.out.size
                case aL7 => (have := HSM.out.2.1.2.1; omega)
                intro v7 V7 ho hb hg hat
                refine hK.out _ _ ?h45 (fun hHeld => ?j45)
                case h45 => exact trivial
                clear hK K
                try simp only [Act.put, List.setIfInBounds_toArray, List.set_cons_zero, List.set_cons_succ]
                have HDN : Dr g w V7 := Dr.belowB HD.out hb
                have HRN : Rd g (m + 121) V7 := Rd.keep HR.out (fun q hq => hb.block q (by omega))
                have F0N : V7.heap[w.heap.size]? = some (.cells #[.string ⟨#[]⟩, .string ⟨#[]⟩, .slice none 0 0, .slice none 0 0] 46 (0, 0)) := (hg.block _ (blk_lt F0.out) (Kd.R_ne U0.out F0.out (by decide))).trans F0.out
                have F1N : V7.heap[w1.heap.size]? = some (.cells #[.string x.f0.f0, .string x.f0.f1, .slice (some ⟨ga, 0, none⟩) x.f1.length c0, .slice A1 x.f2.length c1] 46 (0, 0)) := (hg.block _ (blk_lt F1.out) (Kd.R_ne U0.out F1.out (by decide))).trans F1.out
                have U1N := R_by2 U1.out rfl U0.out (by decide) hg
                obtain ⟨zs, hzs, ho⟩ : ∃ zs : List SAddr, (zs.length ≤ 5 ∧ ∀ y ∈ zs, smallA y) ∧ Kd.R kAddr 33 V7 w.heap.size (fun _ => True) v7 zs := ⟨_, more_to HSM.out.2.1 HY.out, ho⟩
                obtain ⟨vB, vd, hv⟩ := Kd.R_slice ho
                subst hv
                have HO := Aside0.mk ho
                have HZ := Lib.hid hzs
                clear F0 F1 U0 U1 HR HD ho hb hg hat hzs p0_ p1_ g0_ g1_ g2_ g3_ G1
                have F0 := Aside0.mk F0N
                have F1 := Aside0.mk F1N
                have U1 := Aside0.mk U1N
                have HR := Aside0.mk HRN
                have HD := Aside0.mk HDN
                clear F0N F1N U1N HRN HDN
                obtain ⟨n0, hn0⟩ : ∃ n, n = V0.heap.size := ⟨_, rfl⟩
                rw [← hn0]
                have HN0 := Lib.hid hn0
                clear hn0
                obtain ⟨q0_, q1_, q2_, q3_⟩ := cells4 F1.out
                obtain ⟨r0_, r1_, r2_, r3_⟩ := froz4 F1.out
                refine wpAnyH_take (i := 8) (oi := { dst := some 23, op := Op.fieldAddr 46 (Operand.tmp 3) 1, type := 0, pos := "l20_draw.go:157", after := #[{ on := 0, ground := Ground.phase }, { on := 1, ground := Ground.phase }, { on := 2, ground := Ground.phase }, { on := 3, ground := Ground.phase }, { on := 4, ground := Ground.phase }, { on := 5, ground := Ground.phase }, { on := 6, ground := Ground.phase }, { on := 7, ground := Ground.phase }], guard := none }) (v := ?v46) rfl (by kernel_rfl) (by kernel_rfl) (by kernel_rfl) (fun _ _ _ h => h) (Or.inl ⟨by rfl, ?y46⟩) (by assumption) ?r46
                case y46 => intro w_ hSw; (try dsimp only at hSw); go_simp; (try (with_reducible rfl))
                try simp only [Act.put, List.setIfInBounds_toArray, List.set_cons_zero, List.set_cons_succ]
                refine wpAnyH_ready (rs := [9]) (by kernel_rfl) (by simp) ?_
                refine AllReadyH.cons (o := { dst := none, op := Op.store 44 (Operand.tmp 23) (Operand.tmp 22), type := 0, pos := "l20_draw.go:157", after := #[{ on := 8, ground := Ground.data }, { on := 7, ground := Ground.data }, { on := 7, ground := Ground.chain }, { on := 0, ground := Ground.phase }, { on := 1, ground := Ground.phase }, { on := 2, ground := Ground.phase }, { on := 3, ground := Ground.phase }, { on := 4, ground := Ground.phase }, { on := 5, ground := Ground.phase }, { on := 6, ground := Ground.phase }, { on := 7, ground := Ground.phase }], guard := none }) rfl (fun K hK => ?k47) AllReadyH.nil
                case k47 =>
                  go_simp
                  generalize hV9 : World.setCell V7 _ _ = V9
                  refine hK.out _ _ ?h48 (fun hHeld => ?j48)
                  case h48 => exact trivial
                  clear hK K
                  try simp only [Act.put, List.setIfInBounds_toArray, List.set_cons_zero, List.set_cons_succ]
                  refine wpAnyH_done (by kernel_rfl) ?_ _
                  exact HKK.out y n0 zs vB vd V9 ⟨HZ.out, (by rw [← hV9]; exact blk_far F0.out (by show w.heap.size ≠ w1.heap.size; omega) _), (by rw [← hV9]; have h := blk_set1 F1.out 2 (.slice vB zs.length vd); simpa using h), (by rw [← hV9]; exact R_put1 HO.out rfl (Kd.R_ne HO.out F1.out (by decide))), (by rw [← hV9]; exact R_put1 U1.out rfl (Kd.R_ne U1.out F1.out (by decide))), (by rw [← hV9]; exact HR.out.set _ (by show g < w1.heap.size; omega)), (by rw [← hV9]; exact HD.out.set _ (.inl (by show w.heap.size ≤ w1.heap.size; omega)))⟩
      case k35 =>
        go_simp
        refine hK.out _ _ ?h49 (fun hHeld => ?j49)
        case h49 => exact hHeld
        clear hK K
        try simp only [Act.put, List.setIfInBounds_toArray, List.set_cons_zero, List.set_cons_succ]
        refine wpAnyH_take (i := 4) (oi := { dst := some 19, op := Op.indexAddr 44 (Operand.tmp 18) (Operand.const (Value.int IntKind.i64 0)), type := 0, pos := "l20_draw.go:157", after := #[{ on := 3, ground := Ground.data }], guard := none }) (v := ?v50) rfl (by kernel_rfl) (by kernel_rfl) (by kernel_rfl) (fun _ _ _ h => h) (Or.inl ⟨by rfl, ?y50⟩) (by assumption) ?r50
        case y50 => intro w_ hSw; (try dsimp only at hSw); go_simp; (try (with_reducible rfl))
        try simp only [Act.put, List.setIfInBounds_toArray, List.set_cons_zero, List.set_cons_succ]
        refine wpAnyH_ready (rs := [1, 5]) (by kernel_rfl) (by simp) ?_
        refine AllReadyH.cons (o := { dst := some 16, op := Op.load 44 (Operand.tmp 15), type := 44, pos := "l20_draw.go:157", after := #[{ on := 0, ground := Ground.data }], guard := none }) rfl (fun K hK => ?k51) (AllReadyH.cons (o := { dst := some 20, op := Op.load 33 (Operand.tmp 19), type := 33, pos := "l20_draw.go:157", after := #[{ on := 4, ground := Ground.data }], guard := none }) rfl (fun K hK => ?k52) AllReadyH.nil)
        case k51 =>
          go_simp
          refine hK.out _ _ ?h53 (fun hHeld => ?j53)
          case h53 => exact hHeld
          clear hK K
          try simp only [Act.put, List.setIfInBounds_toArray, List.set_cons_zero, List.set_cons_succ]
          refine wpAnyH_ready (rs := [5]) (by kernel_rfl) (by simp) ?_
          refine AllReadyH.cons (o := { dst := some 20, op := Op.load 33 (Operand.tmp 19), type := 33, pos := "l20_draw.go:157", after := #[{ on := 4, ground := Ground.data }], guard := none }) rfl (fun K hK => ?k54) AllReadyH.nil
          case k54 =>
            go_simp
            refine hK.out _ _ ?h55 (fun hHeld => ?j55)
            case h55 => exact hHeld
            clear hK K
            try simp only [Act.put, List.setIfInBounds_toArray, List.set_cons_zero, List.set_cons_succ]
            refine wpAnyH_ready (rs := [6]) (by kernel_rfl) (by simp) ?_
            refine AllReadyH.cons (o := { dst := some 21, op := Op.buildSlice 44 1 #[(0, Operand.tmp 20)], type := 44, pos := "l20_draw.go:157", after := #[{ on := 5, ground := Ground.data }], guard := none }) rfl (fun K hK => ?k56) AllReadyH.nil
            case k56 =>
              go_simp
              refine hK.out _ _ ?h57 (fun hHeld => ?j57)
              case h57 => exact trivial
              clear hK K
              try simp only [Act.put, List.setIfInBounds_toArray, List.set_cons_zero, List.set_cons_succ]
              generalize hV6 : World.alloc V0 _ = V6 at hHeld ⊢
              have G1 : V6.heap[w1.heap.size]? = some (.cells #[.string x.f0.f0, .string x.f0.f1, .slice (some ⟨ga, 0, none⟩) x.f1.length c0, .slice A1 x.f2.length c1] 46 (0, 0)) := by rw [← hV6]; exact blk_alloc F1.out _
              obtain ⟨g0_, g1_, g2_, g3_⟩ := cells4 G1
              refine wpAnyH_ready (rs := [7]) (by kernel_rfl) (by simp) ?_
              refine AllReadyH.cons (o := { dst := some 22, op := Op.call { callee := Callee.builtin Builtin.append, args := #[Operand.tmp 16, Operand.tmp 21], argTypes := #[44, 44] }, type := 44, pos := "l20_draw.go:157", after := #[{ on := 1, ground := Ground.data }, { on := 6, ground := Ground.data }], guard := none }) rfl (fun K hK => ?k58) AllReadyH.nil
              case k58 =>
                subst hV6
                refine Kd.R_append_step kAddr (w.heap.size) (by rfl) (.tmp 16) (.tmp 21) 44 33 (.agg #[(.string ⟨#[]⟩), (.string ⟨#[]⟩)]) 32 rfl Tryd.underlying44 info33 rfl (by decide) (by omega) (.slice (some ⟨ga, 0, none⟩) x.f1.length c0) x.f1 y [.string y.f0, .string y.f1] (fun _ => True) (fun _ => False) rfl rfl (kAddr_mkM _ _ _ y) (fun _ hk => hk.elim) (fun _ _ => trivial) U0.out (Below.refl _ _) ?aS7 ?aL7 ?_
                case aS7 => exact HD.out.size
                case aL7 => (have := HSM.out.2.1.2.1; omega)
                intro v7 V7 ho hb hg hat
                refine hK.out _ _ ?h59 (fun hHeld => ?j59)
                case h59 => exact trivial
                clear hK K
                try simp only [Act.put, List.setIfInBounds_toArray, List.set_cons_zero, List.set_cons_succ]
                have HDN : Dr g w V7 := Dr.belowB HD.out hb
                have HRN : Rd g (m + 121) V7 := Rd.keep HR.out (fun q hq => hb.block q (by omega))
                have F0N : V7.heap[w.heap.size]? = some (.cells #[.string ⟨#[]⟩, .string ⟨#[]⟩, .slice none 0 0, .slice none 0 0] 46 (0, 0)) := (hg.block _ (blk_lt F0.out) (Kd.R_ne U0.out F0.out (by decide))).trans F0.out
                have F1N : V7.heap[w1.heap.size]? = some (.cells #[.string x.f0.f0, .string x.f0.f1, .slice (some ⟨ga, 0, none⟩) x.f1.length c0, .slice A1 x.f2.length c1] 46 (0, 0)) := (hg.block _ (blk_lt F1.out) (Kd.R_ne U0.out F1.out (by decide))).trans F1.out
                have U1N := R_by2 U1.out rfl U0.out (by decide) hg
                obtain ⟨zs, hzs, ho⟩ : ∃ zs : List SAddr, (zs.length ≤ 5 ∧ ∀ y ∈ zs, smallA y) ∧ Kd.R kAddr 33 V7 w.heap.size (fun _ => True) v7 zs := ⟨_, more_to HSM.out.2.1 HY.out, ho⟩
                obtain ⟨vB, vd, hv⟩ := Kd.R_slice ho
                subst hv
                have HO := Aside0.mk ho
                have HZ := Lib.hid hzs
                clear F0 F1 U0 U1 HR HD ho hb hg hat hzs p0_ p1_ g0_ g1_ g2_ g3_ G1
                have F0 := Aside0.mk F0N
                have F1 := Aside0.mk F1N
                have U1 := Aside0.mk U1N
                have HR := Aside0.mk HRN
                have HD := Aside0.mk HDN
                clear F0N F1N U1N HRN HDN
                obtain ⟨n0, hn0⟩ : ∃ n, n = V0.heap.size := ⟨_, rfl⟩
                rw [← hn0]
                have HN0 := Lib.hid hn0
                clear hn0
                obtain ⟨q0_, q1_, q2_, q3_⟩ := cells4 F1.out
                obtain ⟨r0_, r1_, r2_, r3_⟩ := froz4 F1.out
                refine wpAnyH_take (i := 8) (oi := { dst := some 23, op := Op.fieldAddr 46 (Operand.tmp 3) 1, type := 0, pos := "l20_draw.go:157", after := #[{ on := 0, ground := Ground.phase }, { on := 1, ground := Ground.phase }, { on := 2, ground := Ground.phase }, { on := 3, ground := Ground.phase }, { on := 4, ground := Ground.phase }, { on := 5, ground := Ground.phase }, { on := 6, ground := Ground.phase }, { on := 7, ground := Ground.phase }], guard := none }) (v := ?v60) rfl (by kernel_rfl) (by kernel_rfl) (by kernel_rfl) (fun _ _ _ h => h) (Or.inl ⟨by rfl, ?y60⟩) (by assumption) ?r60
                case y60 => intro w_ hSw; (try dsimp only at hSw); go_simp; (try (with_reducible rfl))
                try simp only [Act.put, List.setIfInBounds_toArray, List.set_cons_zero, List.set_cons_succ]
                refine wpAnyH_ready (rs := [9]) (by kernel_rfl) (by simp) ?_
                refine AllReadyH.cons (o := { dst := none, op := Op.store 44 (Operand.tmp 23) (Operand.tmp 22), type := 0, pos := "l20_draw.go:157", after := #[{ on := 8, ground := Ground.data }, { on := 7, ground := Ground.data }, { on := 7, ground := Ground.chain }, { on := 0, ground := Ground.phase }, { on := 1, ground := Ground.phase }, { on := 2, ground := Ground.phase }, { on := 3, ground := Ground.phase }, { on := 4, ground := Ground.phase }, { on := 5, ground := Ground.phase }, { on := 6, ground := Ground.phase }, { on := 7, ground := Ground.phase }], guard := none }) rfl (fun K hK => ?k61) AllReadyH.nil
                case k61 =>
                  go_simp
                  generalize hV9 : World.setCell V7 _ _ = V9
                  refine hK.out _ _ ?h62 (fun hHeld => ?j62)
                  case h62 => exact trivial
                  clear hK K
                  try simp only [Act.put, List.setIfInBounds_toArray, List.set_cons_zero, List.set_cons_succ]
                  refine wpAnyH_done (by kernel_rfl) ?_ _
                  exact HKK.out y n0 zs vB vd V9 ⟨HZ.out, (by rw [← hV9]; exact blk_far F0.out (by show w.heap.size ≠ w1.heap.size; omega) _), (by rw [← hV9]; have h := blk_set1 F1.out 2 (.slice vB zs.length vd); simpa using h), (by rw [← hV9]; exact R_put1 HO.out rfl (Kd.R_ne HO.out F1.out (by decide))), (by rw [← hV9]; exact R_put1 U1.out rfl (Kd.R_ne U1.out F1.out (by decide))), (by rw [← hV9]; exact HR.out.set _ (by show g < w1.heap.size; omega)), (by rw [← hV9]; exact HD.out.set _ (.inl (by show w.heap.size ≤ w1.heap.size; omega)))⟩
        case k52 =>
          go_simp
          refine hK.out _ _ ?h63 (fun hHeld => ?j63)
          case h63 => exact hHeld
          clear hK K
          try simp only [Act.put, List.setIfInBounds_toArray, List.set_cons_zero, List.set_cons_succ]
          refine wpAnyH_ready (rs := [1, 6]) (by kernel_rfl) (by simp) ?_
          refine AllReadyH.cons (o := { dst := some 16, op := Op.load 44 (Operand.tmp 15), type := 44, pos := "l20_draw.go:157", after := #[{ on := 0, ground := Ground.data }], guard := none }) rfl (fun K hK => ?k64) (AllReadyH.cons (o := { dst := some 21, op := Op.buildSlice 44 1 #[(0, Operand.tmp 20)], type := 44, pos := "l20_draw.go:157", after := #[{ on := 5, ground := Ground.data }], guard := none }) rfl (fun K hK => ?k65) AllReadyH.nil)
          case k64 =>
            go_simp
            refine hK.out _ _ ?h66 (fun hHeld => ?j66)
            case h66 => exact hHeld
            clear hK K
            try simp only [Act.put, List.setIfInBounds_toArray, List.set_cons_zero, List.set_cons_succ]
            refine wpAnyH_ready (rs := [6]) (by kernel_rfl) (by simp) ?_
            refine AllReadyH.cons (o := { dst := some 21, op := Op.buildSlice 44 1 #[(0, Operand.tmp 20)], type := 44, pos := "l20_draw.go:157", after := #[{ on := 5, ground := Ground.data }], guard := none }) rfl (fun K hK => ?k67) AllReadyH.nil
            case k67 =>
              go_simp
              refine hK.out _ _ ?h68 (fun hHeld => ?j68)
              case h68 => exact trivial
              clear hK K
              try simp only [Act.put, List.setIfInBounds_toArray, List.set_cons_zero, List.set_cons_succ]
              generalize hV6 : World.alloc V0 _ = V6 at hHeld ⊢
              have G1 : V6.heap[w1.heap.size]? = some (.cells #[.string x.f0.f0, .string x.f0.f1, .slice (some ⟨ga, 0, none⟩) x.f1.length c0, .slice A1 x.f2.length c1] 46 (0, 0)) := by rw [← hV6]; exact blk_alloc F1.out _
              obtain ⟨g0_, g1_, g2_, g3_⟩ := cells4 G1
              refine wpAnyH_ready (rs := [7]) (by kernel_rfl) (by simp) ?_
              refine AllReadyH.cons (o := { dst := some 22, op := Op.call { callee := Callee.builtin Builtin.append, args := #[Operand.tmp 16, Operand.tmp 21], argTypes := #[44, 44] }, type := 44, pos := "l20_draw.go:157", after := #[{ on := 1, ground := Ground.data }, { on := 6, ground := Ground.data }], guard := none }) rfl (fun K hK => ?k69) AllReadyH.nil
              case k69 =>
                subst hV6
                refine Kd.R_append_step kAddr (w.heap.size) (by rfl) (.tmp 16) (.tmp 21) 44 33 (.agg #[(.string ⟨#[]⟩), (.string ⟨#[]⟩)]) 32 rfl Tryd.underlying44 info33 rfl (by decide) (by omega) (.slice (some ⟨ga, 0, none⟩) x.f1.length c0) x.f1 y [.string y.f0, .string y.f1] (fun _ => True) (fun _ => False) rfl rfl (kAddr_mkM _ _ _ y) (fun _ hk => hk.elim) (fun _ _ => trivial) U0.out (Below.refl _ _) ?aS7 ?aL7 ?_
                case aS7 => exact HD.out.size
                case aL7 => (have := HSM.out.2.1.2.1; omega)
                intro v7 V7 ho hb hg hat
                refine hK.out _ _ ?h70 (fun hHeld => ?j70)
                case h70 => exact trivial
                clear hK K
                try simp only [Act.put, List.setIfInBounds_toArray, List.set_cons_zero, List.set_cons_succ]
                have HDN : Dr g w V7 := Dr.belowB HD.out hb
                have HRN : Rd g (m + 121) V7 := Rd.keep HR.out (fun q hq => hb.block q (by omega))
                have F0N : V7.heap[w.heap.size]? = some (.cells #[.string ⟨#[]⟩, .string ⟨#[]⟩, .slice none 0 0, .slice none 0 0] 46 (0, 0)) := (hg.block _ (blk_lt F0.out) (Kd.R_ne U0.out F0.out (by decide))).trans F0.out
                have F1N : V7.heap[w1.heap.size]? = some (.cells #[.string x.f0.f0, .string x.f0.f1, .slice (some ⟨ga, 0, none⟩) x.f1.length c0, .slice A1 x.f2.length c1] 46 (0, 0)) := (hg.block _ (blk_lt F1.out) (Kd.R_ne U0.out F1.out (by decide))).trans F1.out
                have U1N := R_by2 U1.out rfl U0.out (by decide) hg
                obtain ⟨zs, hzs, ho⟩ : ∃ zs : List SAddr, (zs.length ≤ 5 ∧ ∀ y ∈ zs, smallA y) ∧ Kd.R kAddr 33 V7 w.heap.size (fun _ => True) v7 zs := ⟨_, more_to HSM.out.2.1 HY.out, ho⟩
                obtain ⟨vB, vd, hv⟩ := Kd.R_slice ho
                subst hv
                have HO := Aside0.mk ho
                have HZ := Lib.hid hzs
                clear F0 F1 U0 U1 HR HD ho hb hg hat hzs p0_ p1_ g0_ g1_ g2_ g3_ G1
                have F0 := Aside0.mk F0N
                have F1 := Aside0.mk F1N
                have U1 := Aside0.mk U1N
                have HR := Aside0.mk HRN
                have HD := Aside0.mk HDN
                clear F0N F1N U1N HRN HDN
                obtain ⟨n0, hn0⟩ : ∃ n, n = V0.heap.size := ⟨_, rfl⟩
                rw [← hn0]
                have HN0 := Lib.hid hn0
                clear hn0
                obtain ⟨q0_, q1_, q2_, q3_⟩ := cells4 F1.out
                obtain ⟨r0_, r1_, r2_, r3_⟩ := froz4 F1.out
                refine wpAnyH_take (i := 8) (oi := { dst := some 23, op := Op.fieldAddr 46 (Operand.tmp 3) 1, type := 0, pos := "l20_draw.go:157", after := #[{ on := 0, ground := Ground.phase }, { on := 1, ground := Ground.phase }, { on := 2, ground := Ground.phase }, { on := 3, ground := Ground.phase }, { on := 4, ground := Ground.phase }, { on := 5, ground := Ground.phase }, { on := 6, ground := Ground.phase }, { on := 7, ground := Ground.phase }], guard := none }) (v := ?v71) rfl (by kernel_rfl) (by kernel_rfl) (by kernel_rfl) (fun _ _ _ h => h) (Or.inl ⟨by rfl, ?y71⟩) (by assumption) ?r71
                case y71 => intro w_ hSw; (try dsimp only at hSw); go_simp; (try (with_reducible rfl))
                try simp only [Act.put, List.setIfInBounds_toArray, List.set_cons_zero, List.set_cons_succ]
                refine wpAnyH_ready (rs := [9]) (by kernel_rfl) (by simp) ?_
                refine AllReadyH.cons (o := { dst := none, op := Op.store 44 (Operand.tmp 23) (Operand.tmp 22), type := 0, pos := "l20_draw.go:157", after := #[{ on := 8, ground := Ground.data }, { on := 7, ground := Ground.data }, { on := 7, ground := Ground.chain }, { on := 0, ground := Ground.phase }, { on := 1, ground := Ground.phase }, { on := 2, ground := Ground.phase }, { on := 3, ground := Ground.phase }, { on := 4, ground := Ground.phase }, { on := 5, ground := Ground.phase }, { on := 6, ground := Ground.phase }, { on := 7, ground := Ground.phase }], guard := none }) rfl (fun K hK => ?k72) AllReadyH.nil
                case k72 =>
                  go_simp
                  generalize hV9 : World.setCell V7 _ _ = V9
                  refine hK.out _ _ ?h73 (fun hHeld => ?j73)
                  case h73 => exact trivial
                  clear hK K
                  try simp only [Act.put, List.setIfInBounds_toArray, List.set_cons_zero, List.set_cons_succ]
                  refine wpAnyH_done (by kernel_rfl) ?_ _
                  exact HKK.out y n0 zs vB vd V9 ⟨HZ.out, (by rw [← hV9]; exact blk_far F0.out (by show w.heap.size ≠ w1.heap.size; omega) _), (by rw [← hV9]; have h := blk_set1 F1.out 2 (.slice vB zs.length vd); simpa using h), (by rw [← hV9]; exact R_put1 HO.out rfl (Kd.R_ne HO.out F1.out (by decide))), (by rw [← hV9]; exact R_put1 U1.out rfl (Kd.R_ne U1.out F1.out (by decide))), (by rw [← hV9]; exact HR.out.set _ (by show g < w1.heap.size; omega)), (by rw [← hV9]; exact HD.out.set _ (.inl (by show w.heap.size ≤ w1.heap.size; omega)))⟩
          case k65 =>
            go_simp
            refine hK.out _ _ ?h74 (fun hHeld => ?j74)
            case h74 => exact trivial
            clear hK K
            try simp only [Act.put, List.setIfInBounds_toArray, List.set_cons_zero, List.set_cons_succ]
            generalize hV6 : World.alloc V0 _ = V6 at hHeld ⊢
            have G1 : V6.heap[w1.heap.size]? = some (.cells #[.string x.f0.f0, .string x.f0.f1, .slice (some ⟨ga, 0, none⟩) x.f1.length c0, .slice A1 x.f2.length c1] 46 (0, 0)) := by rw [← hV6]; exact blk_alloc F1.out _
            obtain ⟨g0_, g1_, g2_, g3_⟩ := cells4 G1
            refine wpAnyH_ready (rs := [1]) (by kernel_rfl) (by simp) ?_
            refine AllReadyH.cons (o := { dst := some 16, op := Op.load 44 (Operand.tmp 15), type := 44, pos := "l20_draw.go:157", after := #[{ on := 0, ground := Ground.data }], guard := none }) rfl (fun K hK => ?k75) AllReadyH.nil
            case k75 =>
              go_simp
              refine hK.out _ _ ?h76 (fun hHeld => ?j76)
              case h76 => exact hHeld
              clear hK K
              try simp only [Act.put, List.setIfInBounds_toArray, List.set_cons_zero, List.set_cons_succ]
              refine wpAnyH_ready (rs := [7]) (by kernel_rfl) (by simp) ?_
              refine AllReadyH.cons (o := { dst := some 22, op := Op.call { callee := Callee.builtin Builtin.append, args := #[Operand.tmp 16, Operand.tmp 21], argTypes := #[44, 44] }, type := 44, pos := "l20_draw.go:157", after := #[{ on := 1, ground := Ground.data }, { on := 6, ground := Ground.data }], guard := none }) rfl (fun K hK => ?k77) AllReadyH.nil
              case k77 =>
                subst hV6
                refine Kd.R_append_step kAddr (w.heap.size) (by rfl) (.tmp 16) (.tmp 21) 44 33 (.agg #[(.string ⟨#[]⟩), (.string ⟨#[]⟩)]) 32 rfl Tryd.underlying44 info33 rfl (by decide) (by omega) (.slice (some ⟨ga, 0, none⟩) x.f1.length c0) x.f1 y [.string y.f0, .string y.f1] (fun _ => True) (fun _ => False) rfl rfl (kAddr_mkM _ _ _ y) (fun _ hk => hk.elim) (fun _ _ => trivial) U0.out (Below.refl _ _) ?aS7 ?aL7 ?_
                case aS7 => exact HD.out.size
                case aL7 => (have := HSM.out.2.1.2.1; omega)
                intro v7 V7 ho hb hg hat
                refine hK.out _ _ ?h78 (fun hHeld => ?j78)
                case h78 => exact trivial
                clear hK K
                try simp only [Act.put, List.setIfInBounds_toArray, List.set_cons_zero, List.set_cons_succ]
                have HDN : Dr g w V7 := Dr.belowB HD.out hb
                have HRN : Rd g (m + 121) V7 := Rd.keep HR.out (fun q hq => hb.block q (by omega))
                have F0N : V7.heap[w.heap.size]? = some (.cells #[.string ⟨#[]⟩, .string ⟨#[]⟩, .slice none 0 0, .slice none 0 0] 46 (0, 0)) := (hg.block _ (blk_lt F0.out) (Kd.R_ne U0.out F0.out (by decide))).trans F0.out
                have F1N : V7.heap[w1.heap.size]? = some (.cells #[.string x.f0.f0, .string x.f0.f1, .slice (some ⟨ga, 0, none⟩) x.f1.length c0, .slice A1 x.f2.length c1] 46 (0, 0)) := (hg.block _ (blk_lt F1.out) (Kd.R_ne U0.out F1.out (by decide))).trans F1.out
                have U1N := R_by2 U1.out rfl U0.out (by decide) hg
                obtain ⟨zs, hzs, ho⟩ : ∃ zs : List SAddr, (zs.length ≤ 5 ∧ ∀ y ∈ zs, smallA y) ∧ Kd.R kAddr 33 V7 w.heap.size (fun _ => True) v7 zs := ⟨_, more_to HSM.out.2.1 HY.out, ho⟩
                obtain ⟨vB, vd, hv⟩ := Kd.R_slice ho
                subst hv
                have HO := Aside0.mk ho
                have HZ := Lib.hid hzs
                clear F0 F1 U0 U1 HR HD ho hb hg hat hzs p0_ p1_ g0_ g1_ g2_ g3_ G1
                have F0 := Aside0.mk F0N
                have F1 := Aside0.mk F1N
                have U1 := Aside0.mk U1N
                have HR := Aside0.mk HRN
                have HD := Aside0.mk HDN
                clear F0N F1N U1N HRN HDN
                obtain ⟨n0, hn0⟩ : ∃ n, n = V0.heap.size := ⟨_, rfl⟩
                rw [← hn0]
                have HN0 := Lib.hid hn0
                clear hn0
                obtain ⟨q0_, q1_, q2_, q3_⟩ := cells4 F1.out
                obtain ⟨r0_, r1_, r2_, r3_⟩ := froz4 F1.out
                refine wpAnyH_take (i := 8) (oi := { dst := some 23, op := Op.fieldAddr 46 (Operand.tmp 3) 1, type := 0, pos := "l20_draw.go:157", after := #[{ on := 0, ground := Ground.phase }, { on := 1, ground := Ground.phase }, { on := 2, ground := Ground.phase }, { on := 3, ground := Ground.phase }, { on := 4, ground := Ground.phase }, { on := 5, ground := Ground.phase }, { on := 6, ground := Ground.phase }, { on := 7, ground := Ground.phase }], guard := none }) (v := ?v79) rfl (by kernel_rfl) (by kernel_rfl) (by kernel_rfl) (fun _ _ _ h => h) (Or.inl ⟨by rfl, ?y79⟩) (by assumption) ?r79
                case y79 => intro w_ hSw; (try dsimp only at hSw); go_simp; (try (with_reducible rfl))
                try simp only [Act.put, List.setIfInBounds_toArray, List.set_cons_zero, List.set_cons_succ]
                refine wpAnyH_ready (rs := [9]) (by kernel_rfl) (by simp) ?_
                refine AllReadyH.cons (o := { dst := none, op := Op.store 44 (Operand.tmp 23) (Operand.tmp 22), type := 0, pos := "l20_draw.go:157", after := #[{ on := 8, ground := Ground.data }, { on := 7, ground := Ground.data }, { on := 7, ground := Ground.chain }, { on := 0, ground := Ground.phase }, { on := 1, ground := Ground.phase }, { on := 2, ground := Ground.phase }, { on := 3, ground := Ground.phase }, { on := 4, ground := Ground.phase }, { on := 5, ground := Ground.phase }, { on := 6, ground := Ground.phase }, { on := 7, ground := Ground.phase }], guard := none }) rfl (fun K hK => ?k80) AllReadyH.nil
                case k80 =>
                  go_simp
                  generalize hV9 : World.setCell V7 _ _ = V9
                  refine hK.out _ _ ?h81 (fun hHeld => ?j81)
                  case h81 => exact trivial
                  clear hK K
                  try simp only [Act.put, List.setIfInBounds_toArray, List.set_cons_zero, List.set_cons_succ]
                  refine wpAnyH_done (by kernel_rfl) ?_ _
                  exact HKK.out y n0 zs vB vd V9 ⟨HZ.out, (by rw [← hV9]; exact blk_far F0.out (by show w.heap.size ≠ w1.heap.size; omega) _), (by rw [← hV9]; have h := blk_set1 F1.out 2 (.slice vB zs.length vd); simpa using h), (by rw [← hV9]; exact R_put1 HO.out rfl (Kd.R_ne HO.out F1.out (by decide))), (by rw [← hV9]; exact R_put1 U1.out rfl (Kd.R_ne U1.out F1.out (by decide))), (by rw [← hV9]; exact HR.out.set _ (by show g < w1.heap.size; omega)), (by rw [← hV9]; exact HD.out.set _ (.inl (by show w.heap.size ≤ w1.heap.size; omega)))⟩
    case hk =>
      intro y n0 zs vB vd V ⟨hzs, f0, f1, ho, u1, hr, hd⟩
      clear join F0 F1 U0 U1 HR HD
      (try clear cF0_0 cF0_1 cF0_2 cF0_3 dF0_0 dF0_1 dF0_2 dF0_3)
      have F0 := Aside0.mk f0
      have F1 := Aside0.mk f1
      have HO := Aside0.mk ho
      have U1 := Aside0.mk u1
      have HR := Aside0.mk hr
      have HD := Aside0.mk hd
      have HZ := Aside0.mk hzs
      clear f0 f1 ho u1 hr hd hzs
      obtain ⟨cF0_0, cF0_1, cF0_2, cF0_3⟩ := cells4 F0.out
      obtain ⟨dF0_0, dF0_1, dF0_2, dF0_3⟩ := froz4 F0.out
      obtain ⟨cF1_0, cF1_1, cF1_2, cF1_3⟩ := cells4 F1.out
      have yV := HD.out.size
      go_wp2
      refine bodyPost_ret (v := .agg #[.string x.f0.f0, .string x.f0.f1, .slice vB zs.length vd, .slice A1 x.f2.length c1]) ?hrB rfl ?hpB
      case hrB => simp [results, Tryd.results53, go_sem, cF0_0, cF0_1, cF0_2, cF0_3]
      case hpB => exact ⟨(⟨x.f0, zs, x.f2⟩ : SMail), vB, vd, A1, c1, rfl, (mid_t HSM.out HZ.out), (by (with_reducible repeat (first | exact HO.out | refine R_put1 ?_ rfl (Kd.R_ne HO.out F0.out (by decide)) | refine R_put1 ?_ rfl (Kd.R_ne HO.out F1.out (by decide))))), (by (with_reducible repeat (first | exact U1.out | refine R_put1 ?_ rfl (Kd.R_ne U1.out F0.out (by decide)) | refine R_put1 ?_ rfl (Kd.R_ne U1.out F1.out (by decide))))), (Rd.at HR.out (by (with_reducible repeat (first | exact Keep.refl (Rd.lt HR.out) | refine Keep.alloc ?_ _ | refine Keep.drewN ?_ _ | refine Keep.drew ?_ | refine Keep.set ?_ _ ?_)); all_goals (first | (simp; done) | (simp; omega) | omega))).up (by omega), by (with_reducible repeat (first | exact HD.out | refine Dr.alloc ?_ _ | refine Dr.drewN ?_ _ | refine Dr.drew ?_ | refine Dr.set ?_ _ ?_)); all_goals (first | (left; simp; done) | (left; simp; omega) | (left; omega) | (right; rfl))⟩
  · refine bodyPost_ret (v := .agg #[.string x.f0.f0, .string x.f0.f1, .slice none 0 0, .slice A1 x.f2.length c1]) ?hrC rfl ?hpC
    case hrC => simp [results, Tryd.results53, go_sem, cF0_0, cF0_1, cF0_2, cF0_3]
    case hpC => exact ⟨(⟨x.f0, [], x.f2⟩ : SMail), none, 0, A1, c1, rfl, (mid_t HSM.out ⟨by decide, fun y hy => by cases hy⟩), (Kd.R_nil _ _ _ _ _), (by (with_reducible repeat (first | exact U1.out | refine R_put1 ?_ rfl (Kd.R_ne U1.out F0.out (by decide)) | refine R_put1 ?_ rfl (Kd.R_ne U1.out F1.out (by decide))))), (Rd.at HR.out (by (with_reducible repeat (first | exact Keep.refl (Rd.lt HR.out) | refine Keep.alloc ?_ _ | refine Keep.drewN ?_ _ | refine Keep.drew ?_ | refine Keep.set ?_ _ ?_)); all_goals (first | (simp; done) | (simp; omega) | omega))).up (by omega), by (with_reducible repeat (first | exact HD.out | refine Dr.alloc ?_ _ | refine Dr.drewN ?_ _ | refine Dr.drew ?_ | refine Dr.set ?_ _ ?_)); all_goals (first | (left; simp; done) | (left; simp; omega) | (left; omega) | (right; rfl))⟩
  · refine bodyPost_ret (v := .agg #[.string a4.f0, .string a4.f1, .slice A0 x.f1.length c0, .slice A1 x.f2.length c1]) ?hrD rfl ?hpD
    case hrD => simp [results, Tryd.results53, go_sem, cF0_0, cF0_1, cF0_2, cF0_3]
    case hpD => exact ⟨(⟨a4, x.f1, x.f2⟩ : SMail), A0, c0, A1, c1, rfl, (mid_f HSM.out hs4), (by (with_reducible repeat (first | exact U0.out | refine R_put1 ?_ rfl (Kd.R_ne U0.out F0.out (by decide)) | refine R_put1 ?_ rfl (Kd.R_ne U0.out F1.out (by decide))))), (by (with_reducible repeat (first | exact U1.out | refine R_put1 ?_ rfl (Kd.R_ne U1.out F0.out (by decide)) | refine R_put1 ?_ rfl (Kd.R_ne U1.out F1.out (by decide))))), (Rd.at HR.out (by (with_reducible repeat (first | exact Keep.refl (Rd.lt HR.out) | refine Keep.alloc ?_ _ | refine Keep.drewN ?_ _ | refine Keep.drew ?_ | refine Keep.set ?_ _ ?_)); all_goals (first | (simp; done) | (simp; omega) | omega))).up (by omega), by (with_reducible repeat (first | exact HD.out | refine Dr.alloc ?_ _ | refine Dr.drewN ?_ _ | refine Dr.drew ?_ | refine Dr.set ?_ _ ?_)); all_goals (first | (left; simp; done) | (left; simp; omega) | (left; omega) | (right; rfl))⟩
  · refine bodyPost_ret (v := .agg #[.string x.f0.f0, .string x.f0.f1, .slice A0 x.f1.length c0, .slice A1 x.f2.length c1]) ?hrE rfl ?hpE
    case hrE => simp [results, Tryd.results53, go_sem, cF0_0, cF0_1, cF0_2, cF0_3]
    case hpE => exact ⟨x, A0, c0, A1, c1, rfl, (mid_f HSM.out HSM.out.1), (by (with_reducible repeat (first | exact U0.out | refine R_put1 ?_ rfl (Kd.R_ne U0.out F0.out (by decide)) | refine R_put1 ?_ rfl (Kd.R_ne U0.out F1.out (by decide))))), (by (with_reducible repeat (first | exact U1.out | refine R_put1 ?_ rfl (Kd.R_ne U1.out F0.out (by decide)) | refine R_put1 ?_ rfl (Kd.R_ne U1.out F1.out (by decide))))), (Rd.at HR.out (by (with_reducible repeat (first | exact Keep.refl (Rd.lt HR.out) | refine Keep.alloc ?_ _ | refine Keep.drewN ?_ _ | refine Keep.drew ?_ | refine Keep.set ?_ _ ?_)); all_goals (first | (simp; done) | (simp; omega) | omega))).up (by omega), by (with_reducible repeat (first | exact HD.out | refine Dr.alloc ?_ _ | refine Dr.drewN ?_ _ | refine Dr.drew ?_ | refine Dr.set ?_ _ ?_)); all_goals (first | (left; simp; done) | (left; simp; omega) | (left; omega) | (right; rfl))⟩

end Go.Proofs.YtmfehmbgghfffaaDoor

/- Drawn rules, drawn rules and a mail, of bytes: contracts. -/
namespace Go.Proofs.YtmfehmbgghfffaaDoor
open Go.RowKit Go.Proofs.YtmfehmbgghfffaaDoorW.PrintWords
set_option linter.unusedVariables false
set_option linter.unusedSimpArgs false
set_option maxRecDepth 100000 in
set_option maxHeartbeats 2000000 in
theorem drawSieveTidy_any (A : Option Addr) (c : Nat) (xs : List Int) (w : World) (hw : fitBytes xs) (hc : xs.length ≤ c) (hr : Kd.C (Kd.int .u8) w A xs.length xs) :
    Calls Tryd.prog 14 #[.slice A xs.length c] w fun e w' => ∃ (ys : List SRule) (B : Option Addr) (d : Nat), e = .returned (.slice B ys.length d) ∧ (ys.length ≤ 5 ∧ ∀ y ∈ ys, smallR y) ∧ Kd.R kRule 65 w' w.heap.size (fun _ => True) (.slice B ys.length d) ys ∧ Below w.heap.size w w' := by
  have ho := fun W (hW : Below w.heap.size w W) => drOpen_any A c xs W hw hc (Kd.C_below hr hW)
  clear hw hc hr
  generalize xs.length = L at ho
  go_enter Tryd.func14, Tryd.ntmps14
  go_wp2_with fail
  refine Calls.mono (ho _ (Below.refl _ _)) ?_
  rintro e w1 ⟨g, rfl, hg, hR, b1⟩
  clear ho
  go_wp2_with fail
  refine Calls.mono (drSieve_any g 0 w1 hR (by omega)) ?_
  rintro e w2 ⟨ys, B, d, rfl, hs, hr, hr2, hd⟩
  go_wp2
  go_ret
  exact ⟨ys, B, d, rfl, hs, Kd.R_lower (base' := w.heap.size) hr b1.size, b1.trans (hd.bel hg b1.size)⟩

set_option maxRecDepth 100000 in
set_option maxHeartbeats 2000000 in
theorem drawSieveFor_any (A : Option Addr) (c : Nat) (xs : List Int) (w : World) (hw : fitBytes xs) (hc : xs.length ≤ c) (hr : Kd.C (Kd.int .u8) w A xs.length xs) :
    Calls Tryd.prog 16 #[.slice A xs.length c] w fun e w' => ∃ (ys : List SRule) (B : Option Addr) (d : Nat) (x : SMail) (A0 : Option Addr) (c0 : Nat) (A1 : Option Addr) (c1 : Nat), e = .returned (.tuple #[.slice B ys.length d, .agg #[.string x.f0.f0, .string x.f0.f1, .slice A0 x.f1.length c0, .slice A1 x.f2.length c1]]) ∧ (ys.length ≤ 5 ∧ ∀ y ∈ ys, smallR y) ∧ Kd.R kRule 65 w' w.heap.size (fun _ => True) (.slice B ys.length d) ys ∧ midM x ∧ Kd.R kAddr 33 w' w.heap.size (fun _ => True) (.slice A0 x.f1.length c0) x.f1 ∧ Kd.R Kd.string 9 w' w.heap.size (fun _ => True) (.slice A1 x.f2.length c1) x.f2 ∧ Below w.heap.size w w' := by
  have ho := fun W (hW : Below w.heap.size w W) => drOpen_any A c xs W hw hc (Kd.C_below hr hW)
  clear hw hc hr
  generalize xs.length = L at ho
  go_enter Tryd.func16, Tryd.ntmps16
  go_wp2_with fail
  refine Calls.mono (ho _ (bel_alloc (Below.refl _ _) _)) ?_
  rintro e w1 ⟨g, rfl, hg, hR, b1⟩
  have hg1 : w.heap.size < g := by simp at hg; omega
  have f0 := below_blk (blk_new w (.cells #[.string ⟨#[]⟩, .string ⟨#[]⟩, .slice none 0 0, .slice none 0 0] 46)) b1
  have B1 : Below w.heap.size w w1 := bel_then (bel_alloc (Below.refl _ _) _) b1
  have hgl : g < w1.heap.size := hR.lt
  clear ho b1 hg
  go_wp2_with fail
  refine Calls.mono (drSieve_any g 0 w1 hR (by omega)) ?_
  rintro e w2 ⟨ys, B, d, rfl, hs, hq, hR2, hd⟩
  have f0 := hd.blk f0 (by omega)
  have B2 : Below w.heap.size w w2 := B1.trans (hd.bel (by omega) B1.size)
  have hw12 := hd.size
  clear hd hR
  go_wp2_with fail
  refine Calls.mono (drAnyMail_any g _ w2 hR2 (by omega)) ?_
  rintro e w3 ⟨x, A0, c0, A1, c1, rfl, hm1, r0, r1, hR3, hd⟩
  have f0 := hd.blk f0 (by omega)
  have hq := hd.R hq hgl
  have B3 : Below w.heap.size w w3 := B2.trans (hd.bel (by omega) B2.size)
  have SZ1 := B1.size
  have SZ2 := B2.size
  have Z := Lib.hid (⟨f0, hq, r0, r1, hs, hm1, B3⟩ : _ ∧ _ ∧ _ ∧ _ ∧ _ ∧ _ ∧ _)
  obtain ⟨cF0_0, cF0_1, cF0_2, cF0_3⟩ := cells4 f0
  obtain ⟨dF0_0, dF0_1, dF0_2, dF0_3⟩ := froz4 f0
  clear hd hR2 hR3 f0 hq r0 r1 hs hm1 B1 B2 B3
  go_wp2
  obtain ⟨f0, hq, r0, r1, hs, hm1, B3⟩ := Z.out
  refine bodyPost_ret (v := .tuple #[.slice B ys.length d, .agg #[.string x.f0.f0, .string x.f0.f1, .slice A0 x.f1.length c0, .slice A1 x.f2.length c1]]) ?hr rfl ?hp
  case hr => simp [results, Tryd.results16, go_sem, cF0_0, cF0_1, cF0_2, cF0_3]
  case hp => exact ⟨ys, B, d, x, A0, c0, A1, c1, rfl, hs, (by have r_ := Kd.R_lower (base' := w.heap.size) hq SZ1; have ne_ := Kd.R_ne r_ f0 (by decide); (with_reducible repeat (first | exact r_ | refine R_put1 ?_ rfl ne_))), hm1, (by have r_ := Kd.R_lower (base' := w.heap.size) r0 SZ2; have ne_ := Kd.R_ne r_ f0 (by decide); (with_reducible repeat (first | exact r_ | refine R_put1 ?_ rfl ne_))), (by have r_ := Kd.R_lower (base' := w.heap.size) r1 SZ2; have ne_ := Kd.R_ne r_ f0 (by decide); (with_reducible repeat (first | exact r_ | refine R_put1 ?_ rfl ne_))), (by (with_reducible repeat (first | exact B3 | refine bel_set ?_ _ (Nat.le_refl _))))⟩

end Go.Proofs.YtmfehmbgghfffaaDoor

/- Drawn rules and a mail, for SieveDo: a contract. -/
namespace Go.Proofs.YtmfehmbgghfffaaDoor
open Go.RowKit Go.Proofs.YtmfehmbgghfffaaDoorW.PrintWords
set_option linter.unusedVariables false
set_option linter.unusedSimpArgs false

set_option maxRecDepth 100000 in
set_option maxHeartbeats 2000000 in
theorem drawSieveDo_any (A : Option Addr) (c : Nat) (xs : List Int) (w : World) (hw : fitBytes xs) (hc : xs.length ≤ c) (hr : Kd.C (Kd.int .u8) w A xs.length xs) :
    Calls Tryd.prog 28 #[.slice A xs.length c] w fun e w' => ∃ (ys : List SRule) (B : Option Addr) (d : Nat) (x : SMail) (A0 : Option Addr) (c0 : Nat) (A1 : Option Addr) (c1 : Nat), e = .returned (.tuple #[.slice B ys.length d, .agg #[.string x.f0.f0, .string x.f0.f1, .slice A0 x.f1.length c0, .slice A1 x.f2.length c1]]) ∧ (ys.length ≤ 5 ∧ ∀ y ∈ ys, smallR y) ∧ Kd.R kRule 65 w' w.heap.size (fun _ => True) (.slice B ys.length d) ys ∧ midM x ∧ Kd.R kAddr 33 w' w.heap.size (fun _ => True) (.slice A0 x.f1.length c0) x.f1 ∧ Kd.R Kd.string 9 w' w.heap.size (fun _ => True) (.slice A1 x.f2.length c1) x.f2 ∧ Below w.heap.size w w' := by
  have ho := fun W (hW : Below w.heap.size w W) => drawSieveFor_any A c xs W hw hc (Kd.C_below hr hW)
  clear hw hc hr
  generalize xs.length = L at ho
  go_enter Tryd.func28, Tryd.ntmps28
  go_wp2_with fail
  refine Calls.mono (ho _ (bel_alloc (Below.refl _ _) _)) ?_
  rintro e w1 ⟨ys, B, d, x, A0, c0, A1, c1, rfl, hs, hq, hm1, r0, r1, b1⟩
  have f0 := below_blk (blk_new w (.cells #[.string ⟨#[]⟩, .string ⟨#[]⟩, .slice none 0 0, .slice none 0 0] 46)) b1
  have B1 : Below w.heap.size w w1 := bel_then (bel_alloc (Below.refl _ _) _) b1
  have Z := Lib.hid (⟨f0, hq, r0, r1, hs, hm1, B1⟩ : _ ∧ _ ∧ _ ∧ _ ∧ _ ∧ _ ∧ _)
  obtain ⟨cF0_0, cF0_1, cF0_2, cF0_3⟩ := cells4 f0
  obtain ⟨dF0_0, dF0_1, dF0_2, dF0_3⟩ := froz4 f0
  clear ho b1 f0 hq r0 r1 hs hm1 B1
  go_wp2
  obtain ⟨f0, hq, r0, r1, hs, hm1, B1⟩ := Z.out
  refine bodyPost_ret (v := .tuple #[.slice B ys.length d, .agg #[.string x.f0.f0, .string x.f0.f1, .slice A0 x.f1.length c0, .slice A1 x.f2.length c1]]) ?hr rfl ?hp
  case hr => simp [results, Tryd.results28, go_sem, cF0_0, cF0_1, cF0_2, cF0_3]
  case hp => exact ⟨ys, B, d, x, A0, c0, A1, c1, rfl, hs, (by have r_ := Kd.R_lower (base' := w.heap.size) hq (by simp); have ne_ := Kd.R_ne r_ f0 (by decide); (with_reducible repeat (first | exact r_ | refine R_put1 ?_ rfl ne_))), hm1, (by have r_ := Kd.R_lower (base' := w.heap.size) r0 (by simp); have ne_ := Kd.R_ne r_ f0 (by decide); (with_reducible repeat (first | exact r_ | refine R_put1 ?_ rfl ne_))), (by have r_ := Kd.R_lower (base' := w.heap.size) r1 (by simp); have ne_ := Kd.R_ne r_ f0 (by decide); (with_reducible repeat (first | exact r_ | refine R_put1 ?_ rfl ne_))), (by (with_reducible repeat (first | exact B1 | refine bel_set ?_ _ (Nat.le_refl _))))⟩

end Go.Proofs.YtmfehmbgghfffaaDoor
