/- SpoolDue of the reference: a contract. -/
import Derived.Test.YtmfehmbgghfffaaDoorDueI
namespace Go.Proofs.YtmfehmbgghfffaaDoor
open Go.RowKit Go.Proofs.YtmfehmbgghfffaaDoorW.PrintWords
set_option linter.unusedVariables false
set_option linter.unusedSimpArgs false

theorem any_step (now : Int) (xs : List SRcpt) (k : Nat) (h : k < xs.length) : ((xs.take (k + 1)).any fun r => decide (r.f2 ≤ now)) = (((xs.take k).any fun r => decide (r.f2 ≤ now)) || decide ((xs.getD k zRcpt).f2 ≤ now)) := by
  rw [List.take_succ_eq_append_getElem h, List.any_append, List.getD, List.getElem?_eq_getElem h]
  simp
set_option maxRecDepth 100000 in
set_option maxHeartbeats 4000000 in
theorem specDue_any (s : SSpool) (now : Int) (A0 : Option Addr) (c0 : Nat) (w : World) (hw : fitSpool s) (hr0 : Kd.C kItem w A0 s.f1.length s.f1) :
    Calls Tryd.prog 12 #[.agg #[.int .i64 s.f0, .slice A0 s.f1.length c0], .int .i64 now] w fun e w' => ∃ B d, e = .returned (.slice B (spoolDue s now).length d) ∧ Kd.R (Kd.int .i64) 3 w' w.heap.size (fun _ => True) (.slice B (spoolDue s now).length d) (spoolDue s now) ∧ Below w.heap.size w w' := by
  have hok := fun W (hW : Below w.heap.size w W) => specSpool_any s A0 c0 W hw (Kd.C_below hr0 hW)
  obtain ⟨hw0, hlen, hx⟩ := hw
  have HX := Lib.hid hx
  have HM := Lib.hid (show spoolDue s now = if spoolOk s then duesOf now s.f1 else [] from rfl)
  clear hx
  generalize spoolDue s now = M at HM
  generalize spoolOk s = q at HM hok
  cases q
  · obtain rfl : M = [] := HM.out
    go_enter Tryd.func12, Tryd.ntmps12
    go_wp2_with fail
    obtain ⟨W0, hW0⟩ : ∃ W0, W0 = w.alloc (.cells #[.int .i64 s.f0, .slice A0 s.f1.length c0] 25) := ⟨_, rfl⟩
    rw [← hW0]
    have B0 : Below w.heap.size w W0 := by rw [hW0]; exact (Below.refl _ _).alloc (Nat.le_refl _) _
    have Z0 : w.heap.size < W0.heap.size := by rw [hW0]; simp
    have c0_ : W0.cell? ⟨w.heap.size, 0, none⟩ = some (.int .i64 s.f0) := by rw [hW0]; simp
    have c1_ : W0.cell? ⟨w.heap.size, 1, none⟩ = some (.slice A0 s.f1.length c0) := by rw [hW0]; simp
    have HC : Aside0 (∀ W, Below W0.heap.size W0 W → W.cell? ⟨w.heap.size, 0, none⟩ = some (.int .i64 s.f0) ∧ W.cell? ⟨w.heap.size, 1, none⟩ = some (.slice A0 s.f1.length c0)) := ⟨fun W h => ⟨(h.cell (p := ⟨w.heap.size, 0, none⟩) Z0).trans c0_, (h.cell (p := ⟨w.heap.size, 1, none⟩) Z0).trans c1_⟩⟩
    have HZE := Lib.hid (show W0.heap.size = w.heap.size + 1 by rw [hW0]; simp)
    clear hW0 c0_ c1_
    have HB0 := Aside0.mk B0
    have hsz := B0.size
    clear B0
    have BE : Below W0.heap.size W0 (W0.alloc (.cells #[] 3)) := bel_alloc (Below.refl _ _) _
    have HE : Aside0 (Kd.R (Kd.int .i64) 3 (W0.alloc (.cells #[] 3)) W0.heap.size (fun _ => True) (.slice (some ⟨w.heap.size + 1, 0, none⟩) 0 0) []) := ⟨by rw [← HZE.out]; exact R_empty (Kd.int .i64) 3 W0 W0.heap.size (Nat.le_refl _) trivial⟩
    go_wp2_with (go_at_call 47; refine (hok _ (bel_then HB0.out (BE))).mono ?_; rintro e w1 ⟨rfl, b1⟩; have B1 : Below W0.heap.size W0 w1 := bel_then (BE) b1; have HO1 := Aside0.mk (Kd.R_below HE.out b1); obtain ⟨c0_, c1_⟩ := HC.out _ B1)
    go_ret
    exact ⟨_, _, rfl, Kd.R_lower HO1.out (by omega), bel_then HB0.out B1⟩
  · obtain rfl : M = duesOf now s.f1 := HM.out
    clear HM
    go_enter Tryd.func12, Tryd.ntmps12
    go_wp2_with fail
    obtain ⟨W0, hW0⟩ : ∃ W0, W0 = w.alloc (.cells #[.int .i64 s.f0, .slice A0 s.f1.length c0] 25) := ⟨_, rfl⟩
    rw [← hW0]
    have B0 : Below w.heap.size w W0 := by rw [hW0]; exact (Below.refl _ _).alloc (Nat.le_refl _) _
    have Z0 : w.heap.size < W0.heap.size := by rw [hW0]; simp
    have c0_ : W0.cell? ⟨w.heap.size, 0, none⟩ = some (.int .i64 s.f0) := by rw [hW0]; simp
    have c1_ : W0.cell? ⟨w.heap.size, 1, none⟩ = some (.slice A0 s.f1.length c0) := by rw [hW0]; simp
    have HC : Aside0 (∀ W, Below W0.heap.size W0 W → W.cell? ⟨w.heap.size, 0, none⟩ = some (.int .i64 s.f0) ∧ W.cell? ⟨w.heap.size, 1, none⟩ = some (.slice A0 s.f1.length c0)) := ⟨fun W h => ⟨(h.cell (p := ⟨w.heap.size, 0, none⟩) Z0).trans c0_, (h.cell (p := ⟨w.heap.size, 1, none⟩) Z0).trans c1_⟩⟩
    have HZE := Lib.hid (show W0.heap.size = w.heap.size + 1 by rw [hW0]; simp)
    clear hW0 c0_ c1_
    have HB0 := Aside0.mk B0
    have hsz := B0.size
    clear B0
    have BE : Below W0.heap.size W0 (W0.alloc (.cells #[] 3)) := bel_alloc (Below.refl _ _) _
    have HE : Aside0 (Kd.R (Kd.int .i64) 3 (W0.alloc (.cells #[] 3)) W0.heap.size (fun _ => True) (.slice (some ⟨w.heap.size + 1, 0, none⟩) 0 0) []) := ⟨by rw [← HZE.out]; exact R_empty (Kd.int .i64) 3 W0 W0.heap.size (Nat.le_refl _) trivial⟩
    go_wp2_with (go_at_call 47; refine (hok _ (bel_then HB0.out (BE))).mono ?_; rintro e w1 ⟨rfl, b1⟩; have B1 : Below W0.heap.size W0 w1 := bel_then (BE) b1; have HO1 := Aside0.mk (Kd.R_below HE.out b1); obtain ⟨c0_, c1_⟩ := HC.out _ B1)
    go_loopg [5, 6, 7, 8] (s.f1.length) (fun g v5 v6 _ _ wr => ∃ i : Nat, i ≤ s.f1.length ∧ s.f1.length - i ≤ g ∧ v6 = .int .i64 i ∧ Aside0 (Below W0.heap.size W0 wr) ∧ Aside0 (Kd.R (Kd.int .i64) 3 wr W0.heap.size (fun _ => True) v5 (duesOf now (s.f1.take i))))
    case atStart => exact ⟨0, Nat.zero_le _, by omega, rfl, ⟨B1⟩, HO1⟩
    case round =>
      clear B1 b1 HO1 HE BE
      obtain ⟨i, hi, hg, rfl, BW, HO⟩ := hrel
      obtain ⟨c0_, c1_⟩ := HC.out _ BW.out
      by_cases hlt : i < s.f1.length
      · have hlt' : (i : Int) < (s.f1.length : Int) := by omega
        have hnx := dues_step now s.f1 i hlt
        have hm := (HX.out (s.f1.getD i zItem) (getD_mem _ _ hlt)).2.2.1.1
        have hln : (duesOf now (s.f1.take i)).length ≤ 1048576 := by have := dues_len now (s.f1.take i); rw [List.length_take] at this; omega
        generalize hy : s.f1.getD i zItem = y at hnx hm
        generalize duesOf now (s.f1.take i) = ys at HO hnx hln
        have HN := Lib.hid hnx
        have HY := Lib.hid hy
        obtain ⟨vB, vd, hv⟩ := Kd.R_slice HO.out
        subst hv
        clear hnx hy
        go_wp2
        go_loopg [7, 8] (y.f2.length) (fun g v7 v8 wv => ∃ (k : Nat) (d : Bool), k ≤ y.f2.length ∧ y.f2.length - k ≤ g ∧ v7 = .bool d ∧ v8 = .int .i64 k ∧ Aside0 (d = (y.f2.take k).any fun r => decide (r.f2 ≤ now)) ∧ Aside0 (Below W0.heap.size W0 wv) ∧ Aside0 (Kd.R (Kd.int .i64) 3 wv W0.heap.size (fun _ => True) (.slice vB ys.length vd) ys))
        case atStart => exact ⟨0, false, Nat.zero_le _, by omega, rfl, rfl, ⟨rfl⟩, BW, HO⟩
        case round =>
          clear BW HO c0_ c1_
          obtain ⟨k, d, hk, hgk, rfl, rfl, HD, BV, HO3⟩ := hrel
          obtain ⟨c0_, c1_⟩ := HC.out _ BV.out
          have hr2 := Kd.C_below hr0 (bel_then HB0.out BV.out)
          obtain ⟨ad, Q0, qc0, Q1, qc1, e1, p0, p1, p2, p3, p4, l0, k0, l1, k1⟩ := at_Item hr2 i hlt
          rw [HY.out] at p0 p1 p2 p3 p4 l0 k0 l1 k1
          obtain rfl := e1
          by_cases hlk : k < y.f2.length
          · have hlk' : (k : Int) < (y.f2.length : Int) := by omega
            obtain ⟨ae, e2, t0, t1, t2, t3⟩ := at_Rcpt k0 k hlk
            subst e2
            have hst := any_step now y.f2 k hlk
            generalize y.f2.getD k zRcpt = z at t0 t1 t2 t3 hst
            rw [← HD.out] at hst
            have HS := Lib.hid hst
            clear hst hr2 k0 k1 l0 l1
            cases d
            · go_wp2
              go_roundg (y.f2.length - (k + 1))
              case measure => omega
              case rel => exact ⟨k + 1, _, by omega, Nat.le_refl _, rfl, by go_num, ⟨by rw [HS.out]; rfl⟩, BV, HO3⟩
            · go_wp2
              go_roundg (y.f2.length - (k + 1))
              case measure => omega
              case rel => exact ⟨k + 1, true, by omega, Nat.le_refl _, rfl, by go_num, ⟨by rw [HS.out]; rfl⟩, BV, HO3⟩
          · have hlk' : ¬ (k : Int) < (y.f2.length : Int) := by omega
            have hd := HD.out
            rw [show y.f2.take k = y.f2 from List.take_of_length_le (by omega)] at hd
            rw [show dueAt now y = d from hd.symm] at HN
            clear hd HD k0 k1 l0 l1 hr2
            cases d
            · go_wp2
              go_roundg (s.f1.length - (i + 1))
              case measure => omega
              case rel => exact ⟨i + 1, by omega, Nat.le_refl _, by go_num, BV, ⟨by have hn := HN.out; rw [if_neg (by decide), List.append_nil] at hn; rw [hn]; exact HO3.out⟩⟩
            · go_wp2_with ((with_reducible refine gate_builtin (b := .append) (xs := #[.tmp 48, .tmp 55]) rfl ?_); (try (refine gate_guard (by rfl) ?_; dsimp only)); at_builtin; (refine Kd.R_append (Kd.int .i64) (w0 := W0) (W0.heap.size) rfl (.tmp 48) (.tmp 55) 28 3 (.int .i64 0) 8 rfl Tryd.underlying28 info3 rfl (by decide) (by omega) (.slice vB ys.length vd) (ys) (y.f0) [.int .i64 y.f0] (fun _ => True) (fun _ => False) rfl rfl rfl (fun _ hk => hk.elim) (fun _ _ => trivial) ?aO9 ?aB9 ?aS9 ?aL9 ?_); (case aB9 => exact (by (with_reducible repeat (first | exact BV.out | refine bel_alloc ?_ _ | refine bel_set ?_ _ ?_ | refine blw_drewN ?_ _ | refine Below.drew ?_)); all_goals (first | (simp; done) | (simp; omega) | omega))); (case aO9 => exact HO3.out); (case aS9 => (refine Below.size (B := (W0.heap.size)) (w := W0) ?_; exact (by (with_reducible repeat (first | exact BV.out | refine bel_alloc ?_ _ | refine bel_set ?_ _ ?_ | refine blw_drewN ?_ _ | refine Below.drew ?_)); all_goals (first | (simp; done) | (simp; omega) | omega)))); (case aL9 => exact (by omega)); intro v9 w9 ho hb hg hat; have HO9 := Aside0.mk ho; have B9 := hb;  clear ho hb hg hat)
              go_roundg (s.f1.length - (i + 1))
              case measure => omega
              case rel => exact ⟨i + 1, by omega, Nat.le_refl _, by go_num, ⟨B9⟩, ⟨by have hn := HN.out; (first | rw [if_true] at hn | rw [if_pos rfl] at hn); rw [hn]; exact HO9.out⟩⟩
      · have hlt' : ¬ (i : Int) < (s.f1.length : Int) := by omega
        rw [show s.f1.take i = s.f1 from List.take_of_length_le (by omega)] at HO
        obtain ⟨vB, vd, hv⟩ := Kd.R_slice HO.out
        subst hv
        go_wp2
        go_ret
        exact ⟨vB, vd, rfl, Kd.R_lower HO.out (by omega), bel_then HB0.out BW.out⟩

end Go.Proofs.YtmfehmbgghfffaaDoor
