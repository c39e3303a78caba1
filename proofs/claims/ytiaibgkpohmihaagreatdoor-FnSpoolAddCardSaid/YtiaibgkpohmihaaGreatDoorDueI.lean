/- SpoolDue of the program: a contract. -/
import Derived.Test.YtiaibgkpohmihaaGreatDoorSpoolM
namespace Go.Proofs.YtiaibgkpohmihaaGreatDoor
open Go.RowKit Go.Proofs.YtiaibgkpohmihaaGreatDoorW.PrintWords
set_option linter.unusedVariables false
set_option linter.unusedSimpArgs false

def dueAt (now : Int) (x : SItem) : Bool := x.f2.any fun r => decide (r.f2 ≤ now)
def duesOf (now : Int) (xs : List SItem) : List Int := (xs.filter (dueAt now)).map (·.f0)
def spoolDue (s : SSpool) (now : Int) : List Int := if spoolOk s then duesOf now s.f1 else []
theorem dues_step (now : Int) (xs : List SItem) (i : Nat) (h : i < xs.length) : duesOf now (xs.take (i + 1)) = duesOf now (xs.take i) ++ if dueAt now (xs.getD i zItem) then [(xs.getD i zItem).f0] else [] := by
 unfold duesOf
 rw [List.take_succ_eq_append_getElem h, List.filter_append, List.map_append, List.getD, List.getElem?_eq_getElem h]
 cases hq : dueAt now xs[i] <;> simp [hq]
theorem dues_len (now : Int) (xs : List SItem) : (duesOf now xs).length ≤ xs.length := by
 unfold duesOf
 rw [List.length_map]
 exact List.length_filter_le _ _
theorem dues_mem {now : Int} {xs : List SItem} {a : Int} (h : a ∈ duesOf now xs) : ∃ x ∈ xs, x.f0 = a := by
 unfold duesOf at h
 obtain ⟨x, hx, rfl⟩ := List.mem_map.1 h
 exact ⟨x, (List.mem_filter.1 hx).1, rfl⟩
theorem due_fit {s : SSpool} (hw : fitSpool s) (now : Int) : (spoolDue s now).length ≤ 1048576 ∧ ∀ y ∈ spoolDue s now, (Lit.int .i64 y).wf = true := by
 obtain ⟨hw0, hlen, hx⟩ := hw
 unfold spoolDue
 split
 ·refine ⟨by have := dues_len now s.f1; omega, fun y hy => ?_⟩
  obtain ⟨x, hx1, rfl⟩ := dues_mem hy
  exact (hx x hx1).1
 ·exact ⟨by simp, fun y hy => by simp at hy⟩

theorem due1_any (x : SRcpt) (now : Int) (b : Nat) (w : World) (h0 : w.cell? ⟨b, 0, none⟩ = some (.int .i64 now)) (hb : b < w.heap.size) :
  Calls Tryz.prog 43 (#[.agg #[.string x.f0.f0, .string x.f0.f1, .int .i64 x.f1, .int .i64 x.f2]] ++ #[.pointer (some ⟨b, 0, none⟩)]) w fun e w' => e = .returned (.bool (decide (x.f2 ≤ now))) ∧ Below w.heap.size w w' := by
 have hne : ¬ b = w.heap.size := by omega
 go_enter Tryz.func43, Tryz.ntmps43
 go_wp2
 go_ret
 exact ⟨rfl, (Below.refl _ _).alloc (Nat.le_refl _) _⟩
set_option maxRecDepth 100000 in
set_option maxHeartbeats 4000000 in
theorem spoolDue_any (s : SSpool) (now : Int) (A0 : Option Addr) (c0 : Nat) (w : World) (hw : fitSpool s) (hr0 : Kd.C kItem w A0 s.f1.length s.f1) (hG : Glob w) :
  Calls Tryz.prog 16 #[.agg #[.int .i64 s.f0, .slice A0 s.f1.length c0], .int .i64 now] w fun e w' => ∃ B d, e = .returned (.slice B (spoolDue s now).length d) ∧ Kd.R (Kd.int .i64) 3 w' w.heap.size (fun _ => True) (.slice B (spoolDue s now).length d) (spoolDue s now) ∧ Below w.heap.size w w' := by
 have hok := fun W (hW : Below w.heap.size w W) => spoolOk_any s A0 c0 W hw (Kd.C_below hr0 hW) (hG.below hW)
 obtain ⟨hw0, hlen, hx⟩ := hw
 have HX := Lib.hid hx
 have HM := Lib.hid (show spoolDue s now = if spoolOk s then duesOf now s.f1 else [] from rfl)
 clear hx hG
 generalize spoolDue s now = M at HM
 generalize spoolOk s = q at HM hok
 cases q
 ·obtain rfl : M = [] := HM.out
  go_enter Tryz.func16, Tryz.ntmps16
  go_wp2_with fail
  obtain ⟨W0, hW0⟩ : ∃ W0, W0 = ((w.alloc (.cells #[.int .i64 s.f0, .slice A0 s.f1.length c0] 43)).alloc (.cells #[.int .i64 now] 3)) := ⟨_, rfl⟩
  rw [← hW0]
  have B0 : Below w.heap.size w W0 := by rw [hW0]; exact (bel_alloc (bel_alloc (Below.refl _ _) _) _)
  have Z0 : w.heap.size < W0.heap.size := by rw [hW0]; simp; try omega
  have c0_ : W0.cell? ⟨w.heap.size, 0, none⟩ = some (.int .i64 s.f0) := by rw [hW0]; first | (simp; done) | (rw [World.cell?_alloc_lt _ _ _ (by first | (simp; done) | (simp; omega))]; first | (simp; done) | (rw [World.cell?_alloc_lt _ _ _ (by first | (simp; done) | (simp; omega))]; simp))
  have c1_ : W0.cell? ⟨w.heap.size, 1, none⟩ = some (.slice A0 s.f1.length c0) := by rw [hW0]; first | (simp; done) | (rw [World.cell?_alloc_lt _ _ _ (by first | (simp; done) | (simp; omega))]; first | (simp; done) | (rw [World.cell?_alloc_lt _ _ _ (by first | (simp; done) | (simp; omega))]; simp))
  have Z1 : w.heap.size + 1 < W0.heap.size := by rw [hW0]; simp; try omega
  have c2_ : W0.cell? ⟨w.heap.size + 1, 0, none⟩ = some (.int .i64 now) := by rw [hW0]; first | (simp; done) | (rw [World.cell?_alloc_lt _ _ _ (by first | (simp; done) | (simp; omega))]; first | (simp; done) | (rw [World.cell?_alloc_lt _ _ _ (by first | (simp; done) | (simp; omega))]; simp))
  have HC : Aside0 (∀ W, Below W0.heap.size W0 W → W.cell? ⟨w.heap.size, 0, none⟩ = some (.int .i64 s.f0) ∧ W.cell? ⟨w.heap.size, 1, none⟩ = some (.slice A0 s.f1.length c0) ∧ W.cell? ⟨w.heap.size + 1, 0, none⟩ = some (.int .i64 now)) := ⟨fun W h => ⟨(h.cell (p := ⟨w.heap.size, 0, none⟩) Z0).trans c0_, (h.cell (p := ⟨w.heap.size, 1, none⟩) Z0).trans c1_, (h.cell (p := ⟨w.heap.size + 1, 0, none⟩) Z1).trans c2_⟩⟩
  clear hW0 c0_ c1_ c2_
  have HB0 := Aside0.mk B0
  have hsz := B0.size
  clear B0
  go_wp2_with (go_at_call 14; refine (hok _ HB0.out).mono ?_; rintro e w1 ⟨rfl, b1⟩; have B1 : Below W0.heap.size W0 w1 := b1; obtain ⟨c0_, c1_, c2_⟩ := HC.out _ B1)
  go_ret
  exact ⟨none, 0, rfl, Kd.R_nil _ _ _ _ _, bel_then HB0.out B1⟩
 ·obtain rfl : M = duesOf now s.f1 := HM.out
  clear HM
  go_enter Tryz.func16, Tryz.ntmps16
  go_wp2_with fail
  obtain ⟨W0, hW0⟩ : ∃ W0, W0 = ((w.alloc (.cells #[.int .i64 s.f0, .slice A0 s.f1.length c0] 43)).alloc (.cells #[.int .i64 now] 3)) := ⟨_, rfl⟩
  rw [← hW0]
  have B0 : Below w.heap.size w W0 := by rw [hW0]; exact (bel_alloc (bel_alloc (Below.refl _ _) _) _)
  have Z0 : w.heap.size < W0.heap.size := by rw [hW0]; simp; try omega
  have c0_ : W0.cell? ⟨w.heap.size, 0, none⟩ = some (.int .i64 s.f0) := by rw [hW0]; first | (simp; done) | (rw [World.cell?_alloc_lt _ _ _ (by first | (simp; done) | (simp; omega))]; first | (simp; done) | (rw [World.cell?_alloc_lt _ _ _ (by first | (simp; done) | (simp; omega))]; simp))
  have c1_ : W0.cell? ⟨w.heap.size, 1, none⟩ = some (.slice A0 s.f1.length c0) := by rw [hW0]; first | (simp; done) | (rw [World.cell?_alloc_lt _ _ _ (by first | (simp; done) | (simp; omega))]; first | (simp; done) | (rw [World.cell?_alloc_lt _ _ _ (by first | (simp; done) | (simp; omega))]; simp))
  have Z1 : w.heap.size + 1 < W0.heap.size := by rw [hW0]; simp; try omega
  have c2_ : W0.cell? ⟨w.heap.size + 1, 0, none⟩ = some (.int .i64 now) := by rw [hW0]; first | (simp; done) | (rw [World.cell?_alloc_lt _ _ _ (by first | (simp; done) | (simp; omega))]; first | (simp; done) | (rw [World.cell?_alloc_lt _ _ _ (by first | (simp; done) | (simp; omega))]; simp))
  have HC : Aside0 (∀ W, Below W0.heap.size W0 W → W.cell? ⟨w.heap.size, 0, none⟩ = some (.int .i64 s.f0) ∧ W.cell? ⟨w.heap.size, 1, none⟩ = some (.slice A0 s.f1.length c0) ∧ W.cell? ⟨w.heap.size + 1, 0, none⟩ = some (.int .i64 now)) := ⟨fun W h => ⟨(h.cell (p := ⟨w.heap.size, 0, none⟩) Z0).trans c0_, (h.cell (p := ⟨w.heap.size, 1, none⟩) Z0).trans c1_, (h.cell (p := ⟨w.heap.size + 1, 0, none⟩) Z1).trans c2_⟩⟩
  clear hW0 c0_ c1_ c2_
  have HB0 := Aside0.mk B0
  have hsz := B0.size
  clear B0
  go_wp2_with (go_at_call 14; refine (hok _ HB0.out).mono ?_; rintro e w1 ⟨rfl, b1⟩; have B1 : Below W0.heap.size W0 w1 := b1; obtain ⟨c0_, c1_, c2_⟩ := HC.out _ B1)
  go_loopg [5, 14] (s.f1.length) (fun g v5 v14 wr => ∃ i : Nat, i ≤ s.f1.length ∧ s.f1.length - i ≤ g ∧ v14 = .int .i64 i ∧ Aside0 (Below W0.heap.size W0 wr) ∧ Aside0 (Kd.R (Kd.int .i64) 3 wr W0.heap.size (fun _ => True) v5 (duesOf now (s.f1.take i))))
  case atStart => exact ⟨0, Nat.zero_le _, by omega, rfl, ⟨B1⟩, ⟨Kd.R_nil _ _ _ _ _⟩⟩
  case round =>
   clear B1 b1
   obtain ⟨i, hi, hg, rfl, BW, HO⟩ := hrel
   obtain ⟨c0_, c1_, c2_⟩ := HC.out _ BW.out
   by_cases hlt : i < s.f1.length
   ·have hlt' : (i : Int) < (s.f1.length : Int) := by omega
    have hr2 := Kd.C_below hr0 (bel_then HB0.out BW.out)
    obtain ⟨ad, Q0, qc0, Q1, qc1, e1, p0, p1, p2, p3, p4, l0, k0, l1, k1⟩ := at_Item hr2 i hlt
    subst e1
    have hm := (HX.out (s.f1.getD i zItem) (getD_mem _ _ hlt)).2.2.1.1
    have hnx := dues_step now s.f1 i hlt
    have hln : (duesOf now (s.f1.take i)).length ≤ 1048576 := by have := dues_len now (s.f1.take i); rw [List.length_take] at this; omega
    generalize s.f1.getD i zItem = y at p0 p1 p2 p3 p4 l0 k0 l1 k1 hm hnx
    generalize duesOf now (s.f1.take i) = ys at HO hnx hln
    have HN := Lib.hid hnx
    have hcall := fun (W : World) (hW : Below wr.heap.size wr W) => ContainsFunc_Rcpt 43 #[.pointer (some ⟨w.heap.size + 1, 0, none⟩)] (fun r => decide (r.f2 ≤ now)) (enters_of Tryz.func43 (by kernel_rfl) rfl) Q0 qc0 y.f2 W (Kd.C_below k0 hW) (by omega)
     (fun V x _ hb => due1_any x now (w.heap.size + 1) V (HC.out _ (bel_then BW.out (bel_then hW hb))).2.2 (by have h1 := (bel_then BW.out (bel_then hW hb)).size; omega))
    obtain ⟨vB, vd, hv⟩ := Kd.R_slice HO.out
    subst hv
    clear hnx k0 k1 l0 l1 hr2
    cases hq : y.f2.any (fun r => decide (r.f2 ≤ now))
    ·rw [hq] at hcall
     rw [show dueAt now y = false from hq] at HN
     clear hq
     go_wp2_with (go_at_call 42; refine (hcall _ (by (with_reducible repeat (first | exact (Below.refl wr.heap.size wr) | refine bel_alloc ?_ _ | refine bel_set ?_ _ ?_ | refine blw_drewN ?_ _ | refine Below.drew ?_)); all_goals (first | (simp; done) | (simp; omega) | omega))).mono ?_; rintro e w2 ⟨rfl, b2⟩; have B2 : Below W0.heap.size W0 w2 := bel_then (by (with_reducible repeat (first | exact BW.out | refine bel_alloc ?_ _ | refine bel_set ?_ _ ?_ | refine blw_drewN ?_ _ | refine Below.drew ?_)); all_goals (first | (simp; done) | (simp; omega) | omega)) b2; obtain ⟨d0_, d1_, d2_⟩ := HC.out _ B2; have u0 := (b2.cell (p := ⟨wr.heap.size, 0, none⟩) (by simp)).trans (by simp : _ = some (.int .i64 y.f0)); have HO2 := Aside0.mk (Kd.R_below (Kd.R_alloc HO.out _) b2); clear b2)
     go_roundg (s.f1.length - (i + 1))
     case measure => omega
     case rel => exact ⟨i + 1, by omega, Nat.le_refl _, by go_num, ⟨B2⟩, ⟨by have hn := HN.out; rw [if_neg (by decide), List.append_nil] at hn; rw [hn]; exact HO2.out⟩⟩
    ·rw [hq] at hcall
     rw [show dueAt now y = true from hq] at HN
     clear hq
     go_wp2_with (first | (go_at_call 42; refine (hcall _ (by (with_reducible repeat (first | exact (Below.refl wr.heap.size wr) | refine bel_alloc ?_ _ | refine bel_set ?_ _ ?_ | refine blw_drewN ?_ _ | refine Below.drew ?_)); all_goals (first | (simp; done) | (simp; omega) | omega))).mono ?_; rintro e w2 ⟨rfl, b2⟩; have B2 : Below W0.heap.size W0 w2 := bel_then (by (with_reducible repeat (first | exact BW.out | refine bel_alloc ?_ _ | refine bel_set ?_ _ ?_ | refine blw_drewN ?_ _ | refine Below.drew ?_)); all_goals (first | (simp; done) | (simp; omega) | omega)) b2; obtain ⟨d0_, d1_, d2_⟩ := HC.out _ B2; have u0 := (b2.cell (p := ⟨wr.heap.size, 0, none⟩) (by simp)).trans (by simp : _ = some (.int .i64 y.f0)); have HO2 := Aside0.mk (Kd.R_below (Kd.R_alloc HO.out _) b2); clear b2) | ((with_reducible refine gate_builtin (b := .append) (xs := #[.tmp 22, .tmp 25]) rfl ?_); (try (refine gate_guard (by rfl) ?_; dsimp only)); at_builtin; (refine Kd.R_append (Kd.int .i64) (w0 := W0) (W0.heap.size) rfl (.tmp 22) (.tmp 25) 50 3 (.int .i64 0) 8 rfl Tryz.underlying50 info3 rfl (by decide) (by omega) (.slice vB ys.length vd) (ys) (y.f0) [.int .i64 y.f0] (fun _ => True) (fun _ => False) rfl rfl rfl (fun _ hk => hk.elim) (fun _ _ => trivial) ?aO9 ?aB9 ?aS9 ?aL9 ?_); (case aB9 => exact (by (with_reducible repeat (first | exact B2 | refine bel_alloc ?_ _ | refine bel_set ?_ _ ?_ | refine blw_drewN ?_ _ | refine Below.drew ?_)); all_goals (first | (simp; done) | (simp; omega) | omega))); (case aO9 => exact HO2.out); (case aS9 => (refine Below.size (B := (W0.heap.size)) (w := W0) ?_; exact (by (with_reducible repeat (first | exact B2 | refine bel_alloc ?_ _ | refine bel_set ?_ _ ?_ | refine blw_drewN ?_ _ | refine Below.drew ?_)); all_goals (first | (simp; done) | (simp; omega) | omega)))); (case aL9 => exact (by omega)); intro v9 w9 ho hb hg hat; have HO9 := Aside0.mk ho; have B9 := hb;  clear ho hb hg hat))
     go_roundg (s.f1.length - (i + 1))
     case measure => omega
     case rel => exact ⟨i + 1, by omega, Nat.le_refl _, by go_num, ⟨B9⟩, ⟨by have hn := HN.out; (first | rw [if_true] at hn | rw [if_pos rfl] at hn); rw [hn]; exact HO9.out⟩⟩
   ·have hlt' : ¬ (i : Int) < (s.f1.length : Int) := by omega
    rw [show s.f1.take i = s.f1 from List.take_of_length_le (by omega)] at HO
    obtain ⟨vB, vd, hv⟩ := Kd.R_slice HO.out
    subst hv
    go_wp2
    go_ret
    exact ⟨vB, vd, rfl, Kd.R_lower HO.out (by omega), bel_then HB0.out BW.out⟩

end Go.Proofs.YtiaibgkpohmihaaGreatDoor
