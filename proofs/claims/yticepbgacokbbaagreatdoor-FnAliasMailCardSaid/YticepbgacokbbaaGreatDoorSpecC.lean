/- The reference's cut of a text at a byte, and its domains and addresses: contracts, walked by hand. -/
import Derived.Test.YticepbgacokbbaaGreatDoorSpecB
import Derived.Test.YticepbgacokbbaaGreatDoorCut
namespace Go.Proofs.YticepbgacokbbaaGreatDoor
open Go.RowKit Go.Proofs.YticepbgacokbbaaGreatDoorW.PrintWords
set_option linter.unusedVariables false
set_option linter.unusedSimpArgs false

set_option maxHeartbeats 4000000 in
set_option maxRecDepth 100000 in
theorem specCut_any (s : ByteArray) (b : UInt8) (most : Nat) (w : World) (hs : s.size ≤ 140737488351232) (hm : most < 1000) :
  Calls Tryz.prog 109 #[.string s, .int .u8 b.toNat, .int .i64 most] w fun e w' => ∃ (ps : List ByteArray) (B : Option Addr) (d : Nat), ps.map (·.data.toList) = cutN b most s.data.toList ∧ e = .returned (.slice B ps.length d) ∧ Kd.R Kd.string 9 w' w.heap.size (fun _ => True) (.slice B ps.length d) ps ∧ Below w.heap.size w w' := by
 have hb256 : b.toNat < 256 := b.toNat_lt
 have B0 := Below.refl w.heap.size w
 go_enter Tryz.func109, Tryz.ntmps109
 go_wp2
 go_loopg [7, 8, 9] (s.size) (fun g v f i wr => ∃ (k fr : Nat) (ps : List ByteArray), k ≤ s.size ∧ s.size - k ≤ g ∧ i = .int .i64 k ∧ f = .int .i64 fr ∧ fr ≤ k ∧ ps.length ≤ most ∧ Aside0 (((s.data.toList.drop fr).take (k - fr)).count b = 0) ∧ Aside0 (ps.map (·.data.toList) ++ cutN b (most - ps.length) (s.data.toList.drop fr) = cutN b most s.data.toList) ∧ Aside0 (Kd.R Kd.string 9 wr w.heap.size (fun _ => True) v ps) ∧ Aside0 (Below w.heap.size w wr))
 case atStart => exact ⟨0, 0, [], Nat.zero_le _, by omega, rfl, rfl, Nat.le_refl _, Nat.zero_le _, ⟨by simp⟩, ⟨by simp⟩, ⟨R_empty _ _ _ _ (Nat.le_refl _) trivial⟩, ⟨bel_alloc B0 _⟩⟩
 case round =>
  clear B0
  obtain ⟨k, fr, ps, hk, hg, rfl, rfl, hfr, hpm, HC, HT, HO, BW⟩ := hrel
  obtain ⟨B, d, rfl⟩ := Kd.R_slice HO.out
  have hlen : s.data.toList.length = s.size := size_data s
  by_cases hlt : k < s.size ∧ ps.length < most
  ·obtain ⟨hk1, hp1⟩ := hlt
   have hk1' : decide ((k : Int) < (s.size : Int)) = true := decide_eq_true (by omega)
   have hp1' : decide ((ps.length : Int) < (most : Int)) = true := decide_eq_true (by omega)
   have hy := byte_at s k hk1
   by_cases hb : s[k] = b
   ·have hb' : ((s[k].toNat : Int) == (b.toNat : Int)) = true := by rw [hb]; exact beq_self_eq_true _
    have e := drop_byte s.data.toList fr k hfr (by omega)
    rw [hy, hb] at e
    have HT' : Aside0 ((ps ++ [s.extract fr k]).map (·.data.toList) ++ cutN b (most - (ps ++ [s.extract fr k]).length) (s.data.toList.drop (k + 1)) = cutN b most s.data.toList) := ⟨by
     rw [← HT.out, e, show most - ps.length = (most - (ps.length + 1)) + 1 by omega, cutN_at b _ _ _ HC.out]
     simp [ext_data]⟩
    clear e hb hy HC HT hlen
    go_wp2_with ((with_reducible refine gate_builtin (b := .append) (xs := #[.tmp 28, .tmp 33]) rfl ?_); (try (refine gate_guard (by rfl) ?_; dsimp only)); at_builtin; (refine Kd.R_append Kd.string (w0 := w) (w.heap.size) rfl (.tmp 28) (.tmp 33) 27 9 (.string ⟨#[]⟩) 16 rfl Tryz.underlying27 info9 rfl (by decide) (by omega) (.slice B ps.length d) (ps) (s.extract fr k) [.string (s.extract fr k)] (fun _ => True) (fun _ => False) rfl rfl rfl (fun _ hk => hk.elim) (fun _ _ => trivial) ?aO1 ?aB1 ?aS1 ?aL1 ?_); (case aB1 => exact (by (with_reducible repeat (first | exact BW.out | refine bel_alloc ?_ _ | refine bel_set ?_ _ ?_ | refine blw_drewN ?_ _ | refine Below.drew ?_)); all_goals (first | (simp; done) | (simp; omega) | omega))); (case aO1 => exact HO.out); (case aS1 => (refine Below.size (B := (w.heap.size)) (w := w) ?_; exact (by (with_reducible repeat (first | exact BW.out | refine bel_alloc ?_ _ | refine bel_set ?_ _ ?_ | refine blw_drewN ?_ _ | refine Below.drew ?_)); all_goals (first | (simp; done) | (simp; omega) | omega)))); (case aL1 => exact (by omega)); intro v1 w1 ho hb hg hat; have HO1 := Aside0.mk ho; have B1 := hb;  clear ho hb hg hat)
    go_roundg (s.size - (k + 1))
    case measure => omega
    case rel => exact ⟨k + 1, k + 1, ps ++ [s.extract fr k], by omega, Nat.le_refl _, rfl, rfl, Nat.le_refl _, by simp; omega, ⟨by simp⟩, HT', HO1, ⟨B1⟩⟩
   ·have hb' : ((s[k].toNat : Int) == (b.toNat : Int)) = false := beq_eq_false_iff_ne.2 (fun e => hb (UInt8.toNat_inj.1 (by omega)))
    have HC' : Aside0 (((s.data.toList.drop fr).take (k + 1 - fr)).count b = 0) := ⟨by
     rw [take_next _ fr k hfr (by omega), List.count_append, HC.out, List.count_singleton, hy, if_neg (by rw [beq_iff_eq]; exact hb)]⟩
    clear hb hy HC hlen
    go_wp2
    go_roundg (s.size - (k + 1))
    case measure => omega
    case rel => exact ⟨k + 1, fr, ps, by omega, Nat.le_refl _, by go_num, rfl, by omega, hpm, HC', HT, HO, BW⟩
  ·have hc : cutN b (most - ps.length) (s.data.toList.drop fr) = [s.data.toList.drop fr] := by
    by_cases h1 : ps.length < most
    ·have h2 : k = s.size := by omega
     have h3 := HC.out
     rw [h2, List.take_of_length_le (by rw [List.length_drop, hlen]; omega)] at h3
     exact cutN_none b _ _ h3
    ·rw [show most - ps.length = 0 by omega, cutN_zero]
   have HE : Aside0 ((ps ++ [s.extract fr s.size]).map (·.data.toList) = cutN b most s.data.toList) := ⟨by
    rw [← HT.out, hc, List.map_append, List.map_cons, List.map_nil, ext_data s fr s.size (Nat.le_refl _), ← hlen, List.take_of_length_le (by simp)]⟩
   clear hc HC HT hlen
   by_cases hk1 : k < s.size
   ·have hk1' : decide ((k : Int) < (s.size : Int)) = true := decide_eq_true (by omega)
    have hp1' : decide ((ps.length : Int) < (most : Int)) = false := decide_eq_false (by omega)
    have hp2' : decide (ps.length < most) = false := decide_eq_false (by omega)
    clear hlt
    go_wp2_with ((with_reducible refine gate_builtin (b := .append) (xs := #[.tmp 37, .tmp 41]) rfl ?_); (try (refine gate_guard (by rfl) ?_; dsimp only)); at_builtin; (refine Kd.R_append Kd.string (w0 := w) (w.heap.size) rfl (.tmp 37) (.tmp 41) 27 9 (.string ⟨#[]⟩) 16 rfl Tryz.underlying27 info9 rfl (by decide) (by omega) (.slice B ps.length d) (ps) (s.extract fr s.size) [.string (s.extract fr s.size)] (fun _ => True) (fun _ => False) rfl rfl rfl (fun _ hk => hk.elim) (fun _ _ => trivial) ?aO2 ?aB2 ?aS2 ?aL2 ?_); (case aB2 => exact (by (with_reducible repeat (first | exact BW.out | refine bel_alloc ?_ _ | refine bel_set ?_ _ ?_ | refine blw_drewN ?_ _ | refine Below.drew ?_)); all_goals (first | (simp; done) | (simp; omega) | omega))); (case aO2 => exact HO.out); (case aS2 => (refine Below.size (B := (w.heap.size)) (w := w) ?_; exact (by (with_reducible repeat (first | exact BW.out | refine bel_alloc ?_ _ | refine bel_set ?_ _ ?_ | refine blw_drewN ?_ _ | refine Below.drew ?_)); all_goals (first | (simp; done) | (simp; omega) | omega)))); (case aL2 => exact (by omega)); intro v2 w2 ho hb hg hat; have HO2 := Aside0.mk ho; have B2 := hb;  clear ho hb hg hat)
    obtain ⟨B', d', rfl⟩ := Kd.R_slice HO2.out
    go_ret
    exact ⟨_, B', d', HE.out, rfl, HO2.out, B2⟩
   ·have hk1' : decide ((k : Int) < (s.size : Int)) = false := decide_eq_false (by omega)
    clear hlt
    go_wp2_with ((with_reducible refine gate_builtin (b := .append) (xs := #[.tmp 37, .tmp 41]) rfl ?_); (try (refine gate_guard (by rfl) ?_; dsimp only)); at_builtin; (refine Kd.R_append Kd.string (w0 := w) (w.heap.size) rfl (.tmp 37) (.tmp 41) 27 9 (.string ⟨#[]⟩) 16 rfl Tryz.underlying27 info9 rfl (by decide) (by omega) (.slice B ps.length d) (ps) (s.extract fr s.size) [.string (s.extract fr s.size)] (fun _ => True) (fun _ => False) rfl rfl rfl (fun _ hk => hk.elim) (fun _ _ => trivial) ?aO2 ?aB2 ?aS2 ?aL2 ?_); (case aB2 => exact (by (with_reducible repeat (first | exact BW.out | refine bel_alloc ?_ _ | refine bel_set ?_ _ ?_ | refine blw_drewN ?_ _ | refine Below.drew ?_)); all_goals (first | (simp; done) | (simp; omega) | omega))); (case aO2 => exact HO.out); (case aS2 => (refine Below.size (B := (w.heap.size)) (w := w) ?_; exact (by (with_reducible repeat (first | exact BW.out | refine bel_alloc ?_ _ | refine bel_set ?_ _ ?_ | refine blw_drewN ?_ _ | refine Below.drew ?_)); all_goals (first | (simp; done) | (simp; omega) | omega)))); (case aL2 => exact (by omega)); intro v2 w2 ho hb hg hat; have HO2 := Aside0.mk ho; have B2 := hb;  clear ho hb hg hat)
    obtain ⟨B', d', rfl⟩ := Kd.R_slice HO2.out
    go_ret
    exact ⟨_, B', d', HE.out, rfl, HO2.out, B2⟩

set_option maxHeartbeats 1000000 in
set_option maxRecDepth 100000 in
theorem specDomain_any (s : ByteArray) (w : World) (hs : s.size ≤ 140737488351232) :
  Calls Tryz.prog 90 #[.string s] w fun e w' => e = .returned (.bool (dom s.data.toList)) ∧ Below w.heap.size w w' := by
 have hcut := specCut_any s 46 3 w hs (by omega)
 go_enter Tryz.func90, Tryz.ntmps90
 go_wp2_with fail
 refine hcut.mono ?_
 rintro e w1 ⟨ps, B, d, hp, rfl, HO, b1⟩
 clear hcut
 have hlen : ps.length ≤ 4 := by
  have := congrArg List.length hp
  rw [List.length_map] at this
  rw [this]
  by_cases h : s.data.toList.count 46 ≤ 3
  ·rw [cutN_all 46 3 _ h, cutAll_length]; omega
  ·rw [cutN_many 46 3 _ (by omega)]; omega
 have hd : Aside0 (dom s.data.toList = (ps.all (fun p => lab p.data.toList) && decide (ps.length ≤ 3))) := ⟨by rw [← dom_cut, ← hp, List.all_map, List.length_map]; rfl⟩
 have hsz : Aside0 (∀ k, (ps.getD k ByteArray.empty).size ≤ s.size) := ⟨fun k => by
  have := getD_size hp (fun x hx => cutN_le 46 3 _ x hx) k
  rw [size_data] at this
  exact this⟩
 have hC := Kd.R_reads' HO
 have HC := Aside0.mk hC.2.2
 have B1 := Aside0.mk b1
 clear hp HO hC b1
 go_wp2
 go_loopg [4] (ps.length) (fun g v wr => ∃ k : Nat, k ≤ ps.length ∧ ps.length - k ≤ g ∧ v = .int .i64 k ∧ Aside0 (Below w1.heap.size w1 wr) ∧ Aside0 (∀ j, j < k → lab (ps.getD j ByteArray.empty).data.toList = true))
 case atStart => exact ⟨0, Nat.zero_le _, by omega, rfl, ⟨Below.refl _ _⟩, ⟨fun j hj => absurd hj (Nat.not_lt_zero _)⟩⟩
 case round =>
  obtain ⟨k, hk, hg, rfl, BW, H⟩ := hrel
  by_cases hlt : k < ps.length
  ·have hlt' : (k : Int) < (ps.length : Int) := by omega
   obtain ⟨ad, e1, h0⟩ := at_Str (Kd.C_below HC.out BW.out) k hlt
   replace h0 : wr.cell? (ad.add k) = some (.string (ps.getD k ByteArray.empty)) := h0
   subst e1
   have hz := hsz.out k
   generalize hy : ps.getD k ByteArray.empty = y at h0 hz
   have hcall := fun W => specWord_any y W (by omega)
   have HY := Lib.hid hy
   clear hy hz
   cases hq : lab y.data.toList
   all_goals
    rw [hq] at hcall
    have HQ := Lib.hid hq
    clear hq
    go_wp2_with (go_at_call 89; refine (hcall _).mono ?_; rintro e w2 ⟨rfl, b2⟩)
   ·go_ret
    refine ⟨retb ?_, bel_then B1.out (bel_then BW.out b2)⟩
    rw [hd.out, all_getD_false (fun p => lab p.data.toList) ps ByteArray.empty k hlt (by rw [HY.out]; exact HQ.out), Bool.false_and]
   ·go_roundg (ps.length - (k + 1))
    case measure => omega
    case rel => exact ⟨k + 1, by omega, Nat.le_refl _, by go_num, ⟨bel_then BW.out b2⟩, ⟨fun j hj => by
     by_cases e : j = k
     ·subst e; rw [HY.out]; exact HQ.out
     ·exact H.out j (by omega)⟩⟩
  ·have hlt' : ¬ (k : Int) < (ps.length : Int) := by omega
   go_wp2
   go_ret
   refine ⟨retb ?_, bel_then B1.out BW.out⟩
   rw [hd.out, all_getD (fun p => lab p.data.toList) ps ByteArray.empty (fun j hj => H.out j (by omega)), Bool.true_and]
   first | rfl | exact decide_eq_decide.2 (by omega)
set_option maxHeartbeats 1000000 in
theorem specAddr_any (u d : ByteArray) (w : World) (hu : u.size ≤ 140737488351232) (hd : d.size ≤ 140737488351232) :
  Calls Tryz.prog 68 #[.agg #[.string u, .string d]] w fun e w' => e = .returned (.bool (addr u.data.toList d.data.toList)) ∧ Below w.heap.size w w' := by
 have h1 := fun W (hW : Below w.heap.size w W) => specWord_any u W (by omega)
 have h2 := fun W (hW : Below w.heap.size w W) => specDomain_any d W hd
 unfold addr
 generalize lab u.data.toList = q1 at h1
 generalize dom d.data.toList = q2 at h2
 have B0 := Below.refl w.heap.size w
 cases q1
 all_goals
  go_enter Tryz.func68, Tryz.ntmps68
  go_wp2_with (first | (go_at_call 89; refine (h1 _ (by (with_reducible repeat (first | exact B0 | refine bel_alloc ?_ _ | refine bel_set ?_ _ ?_ | refine blw_drewN ?_ _ | refine Below.drew ?_)); all_goals (first | (simp; done) | (simp; omega) | omega))).mono ?_; rintro e w1 ⟨rfl, b1⟩; have B1 : Below w.heap.size w w1 := bel_then (by (with_reducible repeat (first | exact B0 | refine bel_alloc ?_ _ | refine bel_set ?_ _ ?_ | refine blw_drewN ?_ _ | refine Below.drew ?_)); all_goals (first | (simp; done) | (simp; omega) | omega)) b1; obtain ⟨q1, p1⟩ := bcell b1; have z1_0 : w.heap.size < w1.heap.size := (by have hz := b1.size; (try simp at hz); omega); clear b1) | (go_at_call 90; refine (h2 _ (by (with_reducible repeat (first | exact B1 | refine bel_alloc ?_ _ | refine bel_set ?_ _ ?_ | refine blw_drewN ?_ _ | refine Below.drew ?_)); all_goals (first | (simp; done) | (simp; omega) | omega))).mono ?_; rintro e w2 ⟨rfl, b2⟩; have B2 : Below w.heap.size w w2 := bel_then (by (with_reducible repeat (first | exact B1 | refine bel_alloc ?_ _ | refine bel_set ?_ _ ?_ | refine blw_drewN ?_ _ | refine Below.drew ?_)); all_goals (first | (simp; done) | (simp; omega) | omega)) b2; clear b2))
  go_ret
 ·exact ⟨retb rfl, B1⟩
 ·exact ⟨retb rfl, B2⟩
theorem specNull_any (u d : ByteArray) (w : World) :
  Calls Tryz.prog 69 #[.agg #[.string u, .string d]] w fun e w' => e = .returned (.bool (nul u.data.toList d.data.toList)) ∧ Below w.heap.size w w' := by
 go_enter Tryz.func69, Tryz.ntmps69
 go_wp2
 all_goals
  go_ret
  refine ⟨retb ?_, (Below.refl _ _).alloc (Nat.le_refl _) _⟩
  simp_all [nul, bl]
end Go.Proofs.YticepbgacokbbaaGreatDoor
