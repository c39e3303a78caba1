-- The functions of the reference and of the laws' helpers as plain Lean functions, and that their calls come to just these: laid by wip/tools/pall.py.
import Derived.Test.YtomcaichidepnaaDoorPx0
import Derived.Test.YtomcaichidepnaaDoorPx3
import Derived.Test.YtomcaichidepnaaDoorPx4
namespace Go.Proofs.YtomcaichidepnaaDoor.P
open Go.RowKit Go.Proofs.YtomcaichidepnaaDoorW.PrintWords Go.Proofs.YtomcaichidepnaaDoorW.PrintLast Go.Proofs.YtomcaichidepnaaDoorW.PrintMore
attribute [local go_sem] max2_int min2_int max_two min_two max_three min_three max_four min_four   -- for this text's walks alone
set_option linter.unusedVariables false
set_option linter.unusedSimpArgs false

attribute [local simp] ie1
/-! ### spec_l13Ok: function 34 -/
mutual
def spec_l13Ok.l0 : Nat → List (S57) → Int → Option (Bool)
  | 0, _, _ => none
  | k + 1, x0, x3 => if x3 < (x0.length : Int) then (if 0 ≤ x3 then ((spec_l1In.f ((rd_T57 x0 x3).f0) 1 4).bind fun t127 => (if t127 = true then ((spec_l1In.f ((rd_T57 x0 x3).f2) 1 3).bind fun t128 => (if t128 = true then ((spec_l2LineOk.f k ((rd_T57 x0 x3).f1)).bind fun t129 => (if t129 = true then (if ((rd_T57 x0 x3).f0) ≥ 3 then (spec_l13Ok.j1 k x0 x3 (((rd_T57 x0 x3).f1).toList != ([] : List UInt8)) ((rd_T57 x0 x3).f0) ((rd_T57 x0 x3).f1) ((rd_T57 x0 x3).f2) ((rd_T57 x0 x3).f3.f0) ((rd_T57 x0 x3).f3.f1)) else (spec_l13Ok.j1 k x0 x3 false ((rd_T57 x0 x3).f0) ((rd_T57 x0 x3).f1) ((rd_T57 x0 x3).f2) ((rd_T57 x0 x3).f3.f0) ((rd_T57 x0 x3).f3.f1))) else (spec_l13Ok.j1 k x0 x3 true ((rd_T57 x0 x3).f0) ((rd_T57 x0 x3).f1) ((rd_T57 x0 x3).f2) ((rd_T57 x0 x3).f3.f0) ((rd_T57 x0 x3).f3.f1)))) else (spec_l13Ok.j1 k x0 x3 true ((rd_T57 x0 x3).f0) ((rd_T57 x0 x3).f1) ((rd_T57 x0 x3).f2) ((rd_T57 x0 x3).f3.f0) ((rd_T57 x0 x3).f3.f1)))) else (spec_l13Ok.j1 k x0 x3 true ((rd_T57 x0 x3).f0) ((rd_T57 x0 x3).f1) ((rd_T57 x0 x3).f2) ((rd_T57 x0 x3).f3.f0) ((rd_T57 x0 x3).f3.f1)))) else (none)) else (some (decide ((x0.length : Int) ≤ 5)))
def spec_l13Ok.j1 : Nat → List (S57) → Int → Bool → Int → ByteArray → Int → ByteArray → ByteArray → Option (Bool)
  | 0, _, _, _, _, _, _, _, _ => none
  | k + 1, x0, x3, x40, x127000, x127001, x127002, x127003, x127004 => if x40 = true then (some false) else (if x127000 = 1 then ((spec_l1Domain.f k x127001).bind fun t130 => (if t130 = true then (if x127002 = 3 then ((spec_l1AddrOk.f k x127003 x127004).bind fun t131 => (if t131 = true then (spec_l13Ok.l0 k x0 (wrap64 (x3 + 1))) else (some false))) else ((spec_l1Null.f x127003 x127004).bind fun t132 => (if t132 = true then (spec_l13Ok.l0 k x0 (wrap64 (x3 + 1))) else (some false)))) else (some false))) else (if x127002 = 3 then ((spec_l1AddrOk.f k x127003 x127004).bind fun t133 => (if t133 = true then (spec_l13Ok.l0 k x0 (wrap64 (x3 + 1))) else (some false))) else ((spec_l1Null.f x127003 x127004).bind fun t134 => (if t134 = true then (spec_l13Ok.l0 k x0 (wrap64 (x3 + 1))) else (some false)))))
end
def spec_l13Ok.f (k : Nat) (l0 : List (S57)) : Option (Bool) := spec_l13Ok.l0 k l0 0
theorem spec_l13Ok.mono_l : ∀ k, (∀ y0 y1, LeO (spec_l13Ok.l0 k y0 y1) (spec_l13Ok.l0 (k + 1) y0 y1)) ∧ (∀ y0 y1 y2 y3 y4 y5 y6 y7, LeO (spec_l13Ok.j1 k y0 y1 y2 y3 y4 y5 y6 y7) (spec_l13Ok.j1 (k + 1) y0 y1 y2 y3 y4 y5 y6 y7))
  | 0 => ⟨fun _ _ r h => by simp [spec_l13Ok.l0] at h, fun _ _ _ _ _ _ _ _ r h => by simp [spec_l13Ok.j1] at h⟩
  | k + 1 => by
    obtain ⟨ih0, ih1⟩ := spec_l13Ok.mono_l k
    refine ⟨?_, ?_⟩
    · intro y0 y1
      unfold spec_l13Ok.l0
      repeat' first
      | (with_reducible exact ih0 _ _)
      | (with_reducible exact ih1 _ _ _ _ _ _ _ _)
      | (with_reducible exact spec_l1AddrOk.mono _ _ _)
      | (with_reducible exact spec_l1Domain.mono _ _)
      | (with_reducible exact spec_l2LineOk.mono _ _)
      | (with_reducible exact LeO.refl _)
      | (with_reducible exact LeO.none _)
      | (with_reducible refine LeO.ite ?_ ?_)
      | (with_reducible refine LeO.bind ?_ (fun _ => ?_))
      | exact ih0 _ _
      | exact ih1 _ _ _ _ _ _ _ _
      | exact spec_l1AddrOk.mono _ _ _
      | exact spec_l1Domain.mono _ _
      | exact spec_l2LineOk.mono _ _
      | exact LeO.none _
      | refine LeO.ite ?_ ?_
      | refine LeO.bind ?_ (fun _ => ?_)
    · intro y0 y1 y2 y3 y4 y5 y6 y7
      unfold spec_l13Ok.j1
      repeat' first
      | (with_reducible exact ih0 _ _)
      | (with_reducible exact ih1 _ _ _ _ _ _ _ _)
      | (with_reducible exact spec_l1AddrOk.mono _ _ _)
      | (with_reducible exact spec_l1Domain.mono _ _)
      | (with_reducible exact spec_l2LineOk.mono _ _)
      | (with_reducible exact LeO.refl _)
      | (with_reducible exact LeO.none _)
      | (with_reducible refine LeO.ite ?_ ?_)
      | (with_reducible refine LeO.bind ?_ (fun _ => ?_))
      | exact ih0 _ _
      | exact ih1 _ _ _ _ _ _ _ _
      | exact spec_l1AddrOk.mono _ _ _
      | exact spec_l1Domain.mono _ _
      | exact spec_l2LineOk.mono _ _
      | exact LeO.none _
      | refine LeO.ite ?_ ?_
      | refine LeO.bind ?_ (fun _ => ?_)
theorem spec_l13Ok.mono : ∀ a0 k, LeO (spec_l13Ok.f k a0) (spec_l13Ok.f (k + 1) a0) := by
  intro a0 k
  obtain ⟨ih0, ih1⟩ := spec_l13Ok.mono_l k
  unfold spec_l13Ok.f
  repeat' first
      | (with_reducible exact ih0 _ _)
      | (with_reducible exact ih1 _ _ _ _ _ _ _ _)
      | (with_reducible exact spec_l1AddrOk.mono _ _ _)
      | (with_reducible exact spec_l1Domain.mono _ _)
      | (with_reducible exact spec_l2LineOk.mono _ _)
      | (with_reducible exact LeO.refl _)
      | (with_reducible exact LeO.none _)
      | (with_reducible refine LeO.ite ?_ ?_)
      | (with_reducible refine LeO.bind ?_ (fun _ => ?_))
      | exact ih0 _ _
      | exact ih1 _ _ _ _ _ _ _ _
      | exact spec_l1AddrOk.mono _ _ _
      | exact spec_l1Domain.mono _ _
      | exact spec_l2LineOk.mono _ _
      | exact LeO.none _
      | refine LeO.ite ?_ ?_
      | refine LeO.bind ?_ (fun _ => ?_)
set_option maxHeartbeats 8000000 in
set_option maxRecDepth 100000 in
theorem spec_l13Ok.calls (k : Nat) (A0 : Option Addr) (c0 : Nat) (l0 : List (S57)) (r : Bool) (w : World) (hr0 : Kd.C k57 w A0 l0.length l0) (hc0 : l0.length ≤ c0) (h : spec_l13Ok.f k l0 = some r) :
    Calls Tryd.prog 34 #[.slice A0 l0.length c0] w fun e w' => e = .returned (.bool r) ∧ Below w.heap.size w w' := by
  have hu57 := Tryd.underlying57
  have hu33 := Tryd.underlying33
  have HR0 := Aside0.mk hr0
  have HC0 := Aside0.mk hc0
  clear hr0 hc0
  have HB := Aside0.mk (Below.refl w.heap.size w)
  have H : (spec_l13Ok.l0 k l0 0) = some r := h
  clear h
  have H' := Aside0.mk H
  clear H
  go_enter Tryd.func34, Tryd.ntmps34
  go_wp2
  go_loopg [3] k (fun kq v3 w' => ∃ (x3_1 : Int), v3 = .int .i64 x3_1 ∧ Aside0 (spec_l13Ok.l0 kq l0 x3_1 = some r) ∧ Aside0 (kq ≤ k) ∧ Aside0 (Below w.heap.size w w'))
  case atStart => exact ⟨(0), (by first | rfl | (simp; done) | (simp [*]; done)), H', ⟨Nat.le_refl _⟩, ⟨by repeat (first | (with_reducible first | exact HB.out | apply below_alloc | apply pw_below_drewN | apply below_drew1) | exact HB.out)⟩⟩
  case round =>
    clear H'
    obtain ⟨x3_1, rfl, HA, HK1, HB⟩ := hrel
    cases gk with
    | zero => exact absurd HA.out (by simp [spec_l13Ok.l0])
    | succ k1 =>
      have H := HA.out
      clear HA
      simp only [spec_l13Ok.l0] at H
      by_cases c2 : x3_1 < (l0.length : Int)
      · rw [if_pos c2] at H
        have c2b0 : decide (x3_1 < (l0.length : Int)) = true := decide_eq_true c2
        clear c2
        by_cases c3 : 0 ≤ x3_1
        · rw [if_pos c3] at H
          have c3b0 : decide (0 ≤ x3_1) = true := decide_eq_true c3
          clear c3
          have HC4 := Aside0.mk H
          clear H
          have p125 : 0 ≤ (x3_1 : Int) := of_decide_eq_true (by first | (with_reducible assumption) | assumption)
          have q125 : x3_1 < (l0.length : Int) := of_decide_eq_true (by first | (with_reducible assumption) | assumption)
          obtain ⟨ad125, e125, hx125_0, hx125_1, hx125_2, hx125_3, hx125_4⟩ := at_T57 HR0.out x3_1 p125 q125
          cases e125
          replace hx125_0 := (HB.out.cell (World.block_lt_of_cell? w _ hx125_0)).trans hx125_0
          replace hx125_1 := (HB.out.cell (World.block_lt_of_cell? w _ hx125_1)).trans hx125_1
          replace hx125_2 := (HB.out.cell (World.block_lt_of_cell? w _ hx125_2)).trans hx125_2
          replace hx125_3 := (HB.out.cell (World.block_lt_of_cell? w _ hx125_3)).trans hx125_3
          replace hx125_4 := (HB.out.cell (World.block_lt_of_cell? w _ hx125_4)).trans hx125_4
          replace p125 := eq_true p125
          replace q125 := eq_true q125
          go_upto_region 5 with (first | ((with_reducible refine gate_dst (N := 4) rfl ?_); refine box_event ?hg (N := 4) ?hd (cs := #[.int .i64 0, .string (⟨#[]⟩ : ByteArray), .int .i64 0, .string (⟨#[]⟩ : ByteArray), .string (⟨#[]⟩ : ByteArray)]) (t := 57) ?hr ?_; (case hd => rfl); (case hg => rfl); (case hr => first | (go_simp; done) | (go_simp; rfl)); intro gb126 hg w5 hbox hb; have n0_ := Aside0.mk (below_step (by repeat (first | (with_reducible first | exact HB.out | apply below_alloc | apply pw_below_drewN | apply below_drew1) | exact HB.out)) hb); have n1_ := Aside0.mk (hbox); have n2_ := Aside0.mk ((by rw [hg]; exact (below_size (by repeat (first | (with_reducible first | exact HB.out | apply below_alloc | apply pw_below_drewN | apply below_drew1) | exact HB.out))) : w.heap.size ≤ gb126)); have n3_ := Aside0.mk ((by rw [hg]; exact (below_size (by repeat (first | (with_reducible first | exact HB.out | apply below_alloc | apply pw_below_drewN | apply below_drew1) | exact HB.out))) : w.heap.size ≤ gb126)); clear HB; have HB := n0_; have BK126 := n1_; have GW126 := n2_; have GE126 := n3_; clear n0_ n1_ n2_ n3_; clear hb hbox hg; have hcz6_0 : w5.cell? ⟨gb126, 0, none⟩ = some (.int .i64 0) := (blk_cell BK126.out 0).trans rfl; have hcz6_1 : w5.cell? ⟨gb126, 1, none⟩ = some (.string (⟨#[]⟩ : ByteArray)) := (blk_cell BK126.out 1).trans rfl; have hcz6_2 : w5.cell? ⟨gb126, 2, none⟩ = some (.int .i64 0) := (blk_cell BK126.out 2).trans rfl; have hcz6_3 : w5.cell? ⟨gb126, 3, none⟩ = some (.string (⟨#[]⟩ : ByteArray)) := (blk_cell BK126.out 3).trans rfl; have hcz6_4 : w5.cell? ⟨gb126, 4, none⟩ = some (.string (⟨#[]⟩ : ByteArray)) := (blk_cell BK126.out 4).trans rfl; have hfz6_0 := blk_frozen BK126.out 0; have hfz6_1 := blk_frozen BK126.out 1; have hfz6_2 := blk_frozen BK126.out 2; have hfz6_3 := blk_frozen BK126.out 3; have hfz6_4 := blk_frozen BK126.out 4))
          (try simp only [Act.put, List.setIfInBounds_toArray, List.set_cons_zero, List.set_cons_succ])
          go_cut [40] (fun v40 wc => ∃ (kq : Nat) (x40_3 : Bool), v40 = .bool x40_3 ∧ Aside0 (spec_l13Ok.j1 kq l0 x3_1 x40_3 ((rd_T57 l0 x3_1).f0) ((rd_T57 l0 x3_1).f1) ((rd_T57 l0 x3_1).f2) ((rd_T57 l0 x3_1).f3.f0) ((rd_T57 l0 x3_1).f3.f1) = some r) ∧ Aside0 (kq ≤ k1) ∧ Aside0 (wc.heap[gb126]? = some (.cells #[.int .i64 ((rd_T57 l0 x3_1).f0), .string ((rd_T57 l0 x3_1).f1), .int .i64 ((rd_T57 l0 x3_1).f2), .string ((rd_T57 l0 x3_1).f3.f0), .string ((rd_T57 l0 x3_1).f3.f1)] 57 (0, 0))) ∧ Aside0 (Below w.heap.size w wc))
          case first =>
            have H := HC4.out
            clear HC4
            replace H := Option.bind_eq_some_iff.mp H
            obtain ⟨t127, A70, H⟩ := H
            replace H : (if t127 = true then ((spec_l1In.f ((rd_T57 l0 x3_1).f2) 1 3).bind fun t128 => (if t128 = true then ((spec_l2LineOk.f k1 ((rd_T57 l0 x3_1).f1)).bind fun t129 => (if t129 = true then (if ((rd_T57 l0 x3_1).f0) ≥ 3 then (spec_l13Ok.j1 k1 l0 x3_1 (((rd_T57 l0 x3_1).f1).toList != ([] : List UInt8)) ((rd_T57 l0 x3_1).f0) ((rd_T57 l0 x3_1).f1) ((rd_T57 l0 x3_1).f2) ((rd_T57 l0 x3_1).f3.f0) ((rd_T57 l0 x3_1).f3.f1)) else (spec_l13Ok.j1 k1 l0 x3_1 false ((rd_T57 l0 x3_1).f0) ((rd_T57 l0 x3_1).f1) ((rd_T57 l0 x3_1).f2) ((rd_T57 l0 x3_1).f3.f0) ((rd_T57 l0 x3_1).f3.f1))) else (spec_l13Ok.j1 k1 l0 x3_1 true ((rd_T57 l0 x3_1).f0) ((rd_T57 l0 x3_1).f1) ((rd_T57 l0 x3_1).f2) ((rd_T57 l0 x3_1).f3.f0) ((rd_T57 l0 x3_1).f3.f1)))) else (spec_l13Ok.j1 k1 l0 x3_1 true ((rd_T57 l0 x3_1).f0) ((rd_T57 l0 x3_1).f1) ((rd_T57 l0 x3_1).f2) ((rd_T57 l0 x3_1).f3.f0) ((rd_T57 l0 x3_1).f3.f1)))) else (spec_l13Ok.j1 k1 l0 x3_1 true ((rd_T57 l0 x3_1).f0) ((rd_T57 l0 x3_1).f1) ((rd_T57 l0 x3_1).f2) ((rd_T57 l0 x3_1).f3.f0) ((rd_T57 l0 x3_1).f3.f1))) = some r := H
            have A7 := Aside0.mk A70
            clear A70
            by_cases c8 : t127 = true
            · subst c8
              have H1 : ((spec_l1In.f ((rd_T57 l0 x3_1).f2) 1 3).bind fun t128 => (if t128 = true then ((spec_l2LineOk.f k1 ((rd_T57 l0 x3_1).f1)).bind fun t129 => (if t129 = true then (if ((rd_T57 l0 x3_1).f0) ≥ 3 then (spec_l13Ok.j1 k1 l0 x3_1 (((rd_T57 l0 x3_1).f1).toList != ([] : List UInt8)) ((rd_T57 l0 x3_1).f0) ((rd_T57 l0 x3_1).f1) ((rd_T57 l0 x3_1).f2) ((rd_T57 l0 x3_1).f3.f0) ((rd_T57 l0 x3_1).f3.f1)) else (spec_l13Ok.j1 k1 l0 x3_1 false ((rd_T57 l0 x3_1).f0) ((rd_T57 l0 x3_1).f1) ((rd_T57 l0 x3_1).f2) ((rd_T57 l0 x3_1).f3.f0) ((rd_T57 l0 x3_1).f3.f1))) else (spec_l13Ok.j1 k1 l0 x3_1 true ((rd_T57 l0 x3_1).f0) ((rd_T57 l0 x3_1).f1) ((rd_T57 l0 x3_1).f2) ((rd_T57 l0 x3_1).f3.f0) ((rd_T57 l0 x3_1).f3.f1)))) else (spec_l13Ok.j1 k1 l0 x3_1 true ((rd_T57 l0 x3_1).f0) ((rd_T57 l0 x3_1).f1) ((rd_T57 l0 x3_1).f2) ((rd_T57 l0 x3_1).f3.f0) ((rd_T57 l0 x3_1).f3.f1)))) = some r := by rw [if_pos rfl] at H; exact H
              clear H
              have H := H1
              clear H1
              replace H := Option.bind_eq_some_iff.mp H
              obtain ⟨t128, A90, H⟩ := H
              replace H : (if t128 = true then ((spec_l2LineOk.f k1 ((rd_T57 l0 x3_1).f1)).bind fun t129 => (if t129 = true then (if ((rd_T57 l0 x3_1).f0) ≥ 3 then (spec_l13Ok.j1 k1 l0 x3_1 (((rd_T57 l0 x3_1).f1).toList != ([] : List UInt8)) ((rd_T57 l0 x3_1).f0) ((rd_T57 l0 x3_1).f1) ((rd_T57 l0 x3_1).f2) ((rd_T57 l0 x3_1).f3.f0) ((rd_T57 l0 x3_1).f3.f1)) else (spec_l13Ok.j1 k1 l0 x3_1 false ((rd_T57 l0 x3_1).f0) ((rd_T57 l0 x3_1).f1) ((rd_T57 l0 x3_1).f2) ((rd_T57 l0 x3_1).f3.f0) ((rd_T57 l0 x3_1).f3.f1))) else (spec_l13Ok.j1 k1 l0 x3_1 true ((rd_T57 l0 x3_1).f0) ((rd_T57 l0 x3_1).f1) ((rd_T57 l0 x3_1).f2) ((rd_T57 l0 x3_1).f3.f0) ((rd_T57 l0 x3_1).f3.f1)))) else (spec_l13Ok.j1 k1 l0 x3_1 true ((rd_T57 l0 x3_1).f0) ((rd_T57 l0 x3_1).f1) ((rd_T57 l0 x3_1).f2) ((rd_T57 l0 x3_1).f3.f0) ((rd_T57 l0 x3_1).f3.f1))) = some r := H
              have A9 := Aside0.mk A90
              clear A90
              by_cases c10 : t128 = true
              · subst c10
                have H1 : ((spec_l2LineOk.f k1 ((rd_T57 l0 x3_1).f1)).bind fun t129 => (if t129 = true then (if ((rd_T57 l0 x3_1).f0) ≥ 3 then (spec_l13Ok.j1 k1 l0 x3_1 (((rd_T57 l0 x3_1).f1).toList != ([] : List UInt8)) ((rd_T57 l0 x3_1).f0) ((rd_T57 l0 x3_1).f1) ((rd_T57 l0 x3_1).f2) ((rd_T57 l0 x3_1).f3.f0) ((rd_T57 l0 x3_1).f3.f1)) else (spec_l13Ok.j1 k1 l0 x3_1 false ((rd_T57 l0 x3_1).f0) ((rd_T57 l0 x3_1).f1) ((rd_T57 l0 x3_1).f2) ((rd_T57 l0 x3_1).f3.f0) ((rd_T57 l0 x3_1).f3.f1))) else (spec_l13Ok.j1 k1 l0 x3_1 true ((rd_T57 l0 x3_1).f0) ((rd_T57 l0 x3_1).f1) ((rd_T57 l0 x3_1).f2) ((rd_T57 l0 x3_1).f3.f0) ((rd_T57 l0 x3_1).f3.f1)))) = some r := by rw [if_pos rfl] at H; exact H
                clear H
                have H := H1
                clear H1
                replace H := Option.bind_eq_some_iff.mp H
                obtain ⟨t129, A110, H⟩ := H
                replace H : (if t129 = true then (if ((rd_T57 l0 x3_1).f0) ≥ 3 then (spec_l13Ok.j1 k1 l0 x3_1 (((rd_T57 l0 x3_1).f1).toList != ([] : List UInt8)) ((rd_T57 l0 x3_1).f0) ((rd_T57 l0 x3_1).f1) ((rd_T57 l0 x3_1).f2) ((rd_T57 l0 x3_1).f3.f0) ((rd_T57 l0 x3_1).f3.f1)) else (spec_l13Ok.j1 k1 l0 x3_1 false ((rd_T57 l0 x3_1).f0) ((rd_T57 l0 x3_1).f1) ((rd_T57 l0 x3_1).f2) ((rd_T57 l0 x3_1).f3.f0) ((rd_T57 l0 x3_1).f3.f1))) else (spec_l13Ok.j1 k1 l0 x3_1 true ((rd_T57 l0 x3_1).f0) ((rd_T57 l0 x3_1).f1) ((rd_T57 l0 x3_1).f2) ((rd_T57 l0 x3_1).f3.f0) ((rd_T57 l0 x3_1).f3.f1))) = some r := H
                have A11 := Aside0.mk A110
                clear A110
                by_cases c12 : t129 = true
                · subst c12
                  have H1 : (if ((rd_T57 l0 x3_1).f0) ≥ 3 then (spec_l13Ok.j1 k1 l0 x3_1 (((rd_T57 l0 x3_1).f1).toList != ([] : List UInt8)) ((rd_T57 l0 x3_1).f0) ((rd_T57 l0 x3_1).f1) ((rd_T57 l0 x3_1).f2) ((rd_T57 l0 x3_1).f3.f0) ((rd_T57 l0 x3_1).f3.f1)) else (spec_l13Ok.j1 k1 l0 x3_1 false ((rd_T57 l0 x3_1).f0) ((rd_T57 l0 x3_1).f1) ((rd_T57 l0 x3_1).f2) ((rd_T57 l0 x3_1).f3.f0) ((rd_T57 l0 x3_1).f3.f1))) = some r := by rw [if_pos rfl] at H; exact H
                  clear H
                  have H := H1
                  clear H1
                  by_cases c13 : ((rd_T57 l0 x3_1).f0) ≥ 3
                  · rw [if_pos c13] at H
                    have c13b0 : decide (3 ≤ ((rd_T57 l0 x3_1).f0)) = true := decide_eq_true c13
                    clear c13
                    (first | rw [c13b0] | (simp only [i64_w, i32_w]; rw [c13b0]) | skip)
                    have H' := Aside0.mk H
                    clear H
                    have hcz14_0 : w5.cell? ⟨gb126, 0, none⟩ = some (.int .i64 0) := (blk_cell BK126.out 0).trans rfl
                    have hcz14_1 : w5.cell? ⟨gb126, 1, none⟩ = some (.string (⟨#[]⟩ : ByteArray)) := (blk_cell BK126.out 1).trans rfl
                    have hcz14_2 : w5.cell? ⟨gb126, 2, none⟩ = some (.int .i64 0) := (blk_cell BK126.out 2).trans rfl
                    have hcz14_3 : w5.cell? ⟨gb126, 3, none⟩ = some (.string (⟨#[]⟩ : ByteArray)) := (blk_cell BK126.out 3).trans rfl
                    have hcz14_4 : w5.cell? ⟨gb126, 4, none⟩ = some (.string (⟨#[]⟩ : ByteArray)) := (blk_cell BK126.out 4).trans rfl
                    have hfz14_0 := blk_frozen BK126.out 0
                    have hfz14_1 := blk_frozen BK126.out 1
                    have hfz14_2 := blk_frozen BK126.out 2
                    have hfz14_3 := blk_frozen BK126.out 3
                    have hfz14_4 := blk_frozen BK126.out 4
                    go_wp2_with (first | ((with_reducible refine gate_callee (f := 68) rfl ?_); refine goesL_ (some 17) rfl rfl Tryd.func68 (by kernel_rfl) rfl #[.int .i64 ((rd_T57 l0 x3_1).f0), .int .i64 1, .int .i64 4] rfl (by (try simp only [List.map_toArray, List.map_cons, List.map_nil]); first | done | rfl | (simp only [List.length_drop, List.length_take]; rfl)) ?_; (with_reducible refine (spec_l1In.calls ((rd_T57 l0 x3_1).f0) 1 4 true _ A7.out).mono ?_); rintro e w' ⟨rfl, ⟨nd, rfl⟩⟩; refine ⟨_, rfl, ?_⟩) | (go_at_call 68; (with_reducible refine (spec_l1In.calls ((rd_T57 l0 x3_1).f2) 1 3 true _ A9.out).mono ?_); rintro e w' ⟨rfl, ⟨nd, rfl⟩⟩) | (go_at_call 69; (with_reducible refine (spec_l2LineOk.calls k1 ((rd_T57 l0 x3_1).f1) true _ A11.out).mono ?_); rintro e w' ⟨rfl, ⟨nd, rfl⟩⟩))
                    go_meet
                    case rel => exact ⟨_, ((((rd_T57 l0 x3_1).f1).toList != ([] : List UInt8))), (by first | rfl | (simp; done) | (simp [*]; done)), H', ⟨by have := HK1.out; first | omega | exact Nat.le_refl _⟩, ⟨by (with_reducible repeat (first | refine blk_drewN ?_ _ | refine blk_drew ?_ | refine blk_alloc ?_ _)); refine blk_put (cs := #[.int .i64 ((rd_T57 l0 x3_1).f0), .string ((rd_T57 l0 x3_1).f1), .int .i64 ((rd_T57 l0 x3_1).f2), .string ((rd_T57 l0 x3_1).f3.f0), .string (⟨#[]⟩ : ByteArray)]) ?_ 4 _ rfl; (with_reducible repeat (first | refine blk_drewN ?_ _ | refine blk_drew ?_ | refine blk_alloc ?_ _)); refine blk_put (cs := #[.int .i64 ((rd_T57 l0 x3_1).f0), .string ((rd_T57 l0 x3_1).f1), .int .i64 ((rd_T57 l0 x3_1).f2), .string (⟨#[]⟩ : ByteArray), .string (⟨#[]⟩ : ByteArray)]) ?_ 3 _ rfl; (with_reducible repeat (first | refine blk_drewN ?_ _ | refine blk_drew ?_ | refine blk_alloc ?_ _)); refine blk_put (cs := #[.int .i64 ((rd_T57 l0 x3_1).f0), .string ((rd_T57 l0 x3_1).f1), .int .i64 0, .string (⟨#[]⟩ : ByteArray), .string (⟨#[]⟩ : ByteArray)]) ?_ 2 _ rfl; (with_reducible repeat (first | refine blk_drewN ?_ _ | refine blk_drew ?_ | refine blk_alloc ?_ _)); refine blk_put (cs := #[.int .i64 ((rd_T57 l0 x3_1).f0), .string (⟨#[]⟩ : ByteArray), .int .i64 0, .string (⟨#[]⟩ : ByteArray), .string (⟨#[]⟩ : ByteArray)]) ?_ 1 _ rfl; (with_reducible repeat (first | refine blk_drewN ?_ _ | refine blk_drew ?_ | refine blk_alloc ?_ _)); refine blk_put (cs := #[.int .i64 0, .string (⟨#[]⟩ : ByteArray), .int .i64 0, .string (⟨#[]⟩ : ByteArray), .string (⟨#[]⟩ : ByteArray)]) ?_ 0 _ rfl; (with_reducible repeat (first | refine blk_drewN ?_ _ | refine blk_drew ?_ | refine blk_alloc ?_ _)); exact BK126.out⟩, ⟨by repeat (first | (with_reducible first | exact HB.out | apply below_alloc | apply pw_below_drewN | apply below_drew1 | refine below_set ?_ GE126.out) | exact HB.out)⟩⟩
                  · rw [if_neg c13] at H
                    have c13b0 : decide (3 ≤ ((rd_T57 l0 x3_1).f0)) = false := decide_eq_false c13
                    clear c13
                    (first | rw [c13b0] | (simp only [i64_w, i32_w]; rw [c13b0]) | skip)
                    have H' := Aside0.mk H
                    clear H
                    have hcz15_0 : w5.cell? ⟨gb126, 0, none⟩ = some (.int .i64 0) := (blk_cell BK126.out 0).trans rfl
                    have hcz15_1 : w5.cell? ⟨gb126, 1, none⟩ = some (.string (⟨#[]⟩ : ByteArray)) := (blk_cell BK126.out 1).trans rfl
                    have hcz15_2 : w5.cell? ⟨gb126, 2, none⟩ = some (.int .i64 0) := (blk_cell BK126.out 2).trans rfl
                    have hcz15_3 : w5.cell? ⟨gb126, 3, none⟩ = some (.string (⟨#[]⟩ : ByteArray)) := (blk_cell BK126.out 3).trans rfl
                    have hcz15_4 : w5.cell? ⟨gb126, 4, none⟩ = some (.string (⟨#[]⟩ : ByteArray)) := (blk_cell BK126.out 4).trans rfl
                    have hfz15_0 := blk_frozen BK126.out 0
                    have hfz15_1 := blk_frozen BK126.out 1
                    have hfz15_2 := blk_frozen BK126.out 2
                    have hfz15_3 := blk_frozen BK126.out 3
                    have hfz15_4 := blk_frozen BK126.out 4
                    go_wp2_with (first | ((with_reducible refine gate_callee (f := 68) rfl ?_); refine goesL_ (some 17) rfl rfl Tryd.func68 (by kernel_rfl) rfl #[.int .i64 ((rd_T57 l0 x3_1).f0), .int .i64 1, .int .i64 4] rfl (by (try simp only [List.map_toArray, List.map_cons, List.map_nil]); first | done | rfl | (simp only [List.length_drop, List.length_take]; rfl)) ?_; (with_reducible refine (spec_l1In.calls ((rd_T57 l0 x3_1).f0) 1 4 true _ A7.out).mono ?_); rintro e w' ⟨rfl, ⟨nd, rfl⟩⟩; refine ⟨_, rfl, ?_⟩) | (go_at_call 68; (with_reducible refine (spec_l1In.calls ((rd_T57 l0 x3_1).f2) 1 3 true _ A9.out).mono ?_); rintro e w' ⟨rfl, ⟨nd, rfl⟩⟩) | (go_at_call 69; (with_reducible refine (spec_l2LineOk.calls k1 ((rd_T57 l0 x3_1).f1) true _ A11.out).mono ?_); rintro e w' ⟨rfl, ⟨nd, rfl⟩⟩))
                    go_meet
                    case rel => exact ⟨_, (false), (by first | rfl | (simp; done) | (simp [*]; done)), H', ⟨by have := HK1.out; first | omega | exact Nat.le_refl _⟩, ⟨by (with_reducible repeat (first | refine blk_drewN ?_ _ | refine blk_drew ?_ | refine blk_alloc ?_ _)); refine blk_put (cs := #[.int .i64 ((rd_T57 l0 x3_1).f0), .string ((rd_T57 l0 x3_1).f1), .int .i64 ((rd_T57 l0 x3_1).f2), .string ((rd_T57 l0 x3_1).f3.f0), .string (⟨#[]⟩ : ByteArray)]) ?_ 4 _ rfl; (with_reducible repeat (first | refine blk_drewN ?_ _ | refine blk_drew ?_ | refine blk_alloc ?_ _)); refine blk_put (cs := #[.int .i64 ((rd_T57 l0 x3_1).f0), .string ((rd_T57 l0 x3_1).f1), .int .i64 ((rd_T57 l0 x3_1).f2), .string (⟨#[]⟩ : ByteArray), .string (⟨#[]⟩ : ByteArray)]) ?_ 3 _ rfl; (with_reducible repeat (first | refine blk_drewN ?_ _ | refine blk_drew ?_ | refine blk_alloc ?_ _)); refine blk_put (cs := #[.int .i64 ((rd_T57 l0 x3_1).f0), .string ((rd_T57 l0 x3_1).f1), .int .i64 0, .string (⟨#[]⟩ : ByteArray), .string (⟨#[]⟩ : ByteArray)]) ?_ 2 _ rfl; (with_reducible repeat (first | refine blk_drewN ?_ _ | refine blk_drew ?_ | refine blk_alloc ?_ _)); refine blk_put (cs := #[.int .i64 ((rd_T57 l0 x3_1).f0), .string (⟨#[]⟩ : ByteArray), .int .i64 0, .string (⟨#[]⟩ : ByteArray), .string (⟨#[]⟩ : ByteArray)]) ?_ 1 _ rfl; (with_reducible repeat (first | refine blk_drewN ?_ _ | refine blk_drew ?_ | refine blk_alloc ?_ _)); refine blk_put (cs := #[.int .i64 0, .string (⟨#[]⟩ : ByteArray), .int .i64 0, .string (⟨#[]⟩ : ByteArray), .string (⟨#[]⟩ : ByteArray)]) ?_ 0 _ rfl; (with_reducible repeat (first | refine blk_drewN ?_ _ | refine blk_drew ?_ | refine blk_alloc ?_ _)); exact BK126.out⟩, ⟨by repeat (first | (with_reducible first | exact HB.out | apply below_alloc | apply pw_below_drewN | apply below_drew1 | refine below_set ?_ GE126.out) | exact HB.out)⟩⟩
                · replace c12 := Bool.eq_false_iff.mpr c12
                  subst c12
                  have H1 : (spec_l13Ok.j1 k1 l0 x3_1 true ((rd_T57 l0 x3_1).f0) ((rd_T57 l0 x3_1).f1) ((rd_T57 l0 x3_1).f2) ((rd_T57 l0 x3_1).f3.f0) ((rd_T57 l0 x3_1).f3.f1)) = some r := by rw [if_neg (show ¬ (false = true) by decide)] at H; exact H
                  clear H
                  have H := H1
                  clear H1
                  have H' := Aside0.mk H
                  clear H
                  have hcz16_0 : w5.cell? ⟨gb126, 0, none⟩ = some (.int .i64 0) := (blk_cell BK126.out 0).trans rfl
                  have hcz16_1 : w5.cell? ⟨gb126, 1, none⟩ = some (.string (⟨#[]⟩ : ByteArray)) := (blk_cell BK126.out 1).trans rfl
                  have hcz16_2 : w5.cell? ⟨gb126, 2, none⟩ = some (.int .i64 0) := (blk_cell BK126.out 2).trans rfl
                  have hcz16_3 : w5.cell? ⟨gb126, 3, none⟩ = some (.string (⟨#[]⟩ : ByteArray)) := (blk_cell BK126.out 3).trans rfl
                  have hcz16_4 : w5.cell? ⟨gb126, 4, none⟩ = some (.string (⟨#[]⟩ : ByteArray)) := (blk_cell BK126.out 4).trans rfl
                  have hfz16_0 := blk_frozen BK126.out 0
                  have hfz16_1 := blk_frozen BK126.out 1
                  have hfz16_2 := blk_frozen BK126.out 2
                  have hfz16_3 := blk_frozen BK126.out 3
                  have hfz16_4 := blk_frozen BK126.out 4
                  go_wp2_with (first | ((with_reducible refine gate_callee (f := 68) rfl ?_); refine goesL_ (some 17) rfl rfl Tryd.func68 (by kernel_rfl) rfl #[.int .i64 ((rd_T57 l0 x3_1).f0), .int .i64 1, .int .i64 4] rfl (by (try simp only [List.map_toArray, List.map_cons, List.map_nil]); first | done | rfl | (simp only [List.length_drop, List.length_take]; rfl)) ?_; (with_reducible refine (spec_l1In.calls ((rd_T57 l0 x3_1).f0) 1 4 true _ A7.out).mono ?_); rintro e w' ⟨rfl, ⟨nd, rfl⟩⟩; refine ⟨_, rfl, ?_⟩) | (go_at_call 68; (with_reducible refine (spec_l1In.calls ((rd_T57 l0 x3_1).f2) 1 3 true _ A9.out).mono ?_); rintro e w' ⟨rfl, ⟨nd, rfl⟩⟩) | (go_at_call 69; (with_reducible refine (spec_l2LineOk.calls k1 ((rd_T57 l0 x3_1).f1) false _ A11.out).mono ?_); rintro e w' ⟨rfl, ⟨nd, rfl⟩⟩))
                  go_meet
                  case rel => exact ⟨_, (true), (by first | rfl | (simp; done) | (simp [*]; done)), H', ⟨by have := HK1.out; first | omega | exact Nat.le_refl _⟩, ⟨by (with_reducible repeat (first | refine blk_drewN ?_ _ | refine blk_drew ?_ | refine blk_alloc ?_ _)); refine blk_put (cs := #[.int .i64 ((rd_T57 l0 x3_1).f0), .string ((rd_T57 l0 x3_1).f1), .int .i64 ((rd_T57 l0 x3_1).f2), .string ((rd_T57 l0 x3_1).f3.f0), .string (⟨#[]⟩ : ByteArray)]) ?_ 4 _ rfl; (with_reducible repeat (first | refine blk_drewN ?_ _ | refine blk_drew ?_ | refine blk_alloc ?_ _)); refine blk_put (cs := #[.int .i64 ((rd_T57 l0 x3_1).f0), .string ((rd_T57 l0 x3_1).f1), .int .i64 ((rd_T57 l0 x3_1).f2), .string (⟨#[]⟩ : ByteArray), .string (⟨#[]⟩ : ByteArray)]) ?_ 3 _ rfl; (with_reducible repeat (first | refine blk_drewN ?_ _ | refine blk_drew ?_ | refine blk_alloc ?_ _)); refine blk_put (cs := #[.int .i64 ((rd_T57 l0 x3_1).f0), .string ((rd_T57 l0 x3_1).f1), .int .i64 0, .string (⟨#[]⟩ : ByteArray), .string (⟨#[]⟩ : ByteArray)]) ?_ 2 _ rfl; (with_reducible repeat (first | refine blk_drewN ?_ _ | refine blk_drew ?_ | refine blk_alloc ?_ _)); refine blk_put (cs := #[.int .i64 ((rd_T57 l0 x3_1).f0), .string (⟨#[]⟩ : ByteArray), .int .i64 0, .string (⟨#[]⟩ : ByteArray), .string (⟨#[]⟩ : ByteArray)]) ?_ 1 _ rfl; (with_reducible repeat (first | refine blk_drewN ?_ _ | refine blk_drew ?_ | refine blk_alloc ?_ _)); refine blk_put (cs := #[.int .i64 0, .string (⟨#[]⟩ : ByteArray), .int .i64 0, .string (⟨#[]⟩ : ByteArray), .string (⟨#[]⟩ : ByteArray)]) ?_ 0 _ rfl; (with_reducible repeat (first | refine blk_drewN ?_ _ | refine blk_drew ?_ | refine blk_alloc ?_ _)); exact BK126.out⟩, ⟨by repeat (first | (with_reducible first | exact HB.out | apply below_alloc | apply pw_below_drewN | apply below_drew1 | refine below_set ?_ GE126.out) | exact HB.out)⟩⟩
              · replace c10 := Bool.eq_false_iff.mpr c10
                subst c10
                have H1 : (spec_l13Ok.j1 k1 l0 x3_1 true ((rd_T57 l0 x3_1).f0) ((rd_T57 l0 x3_1).f1) ((rd_T57 l0 x3_1).f2) ((rd_T57 l0 x3_1).f3.f0) ((rd_T57 l0 x3_1).f3.f1)) = some r := by rw [if_neg (show ¬ (false = true) by decide)] at H; exact H
                clear H
                have H := H1
                clear H1
                have H' := Aside0.mk H
                clear H
                have hcz17_0 : w5.cell? ⟨gb126, 0, none⟩ = some (.int .i64 0) := (blk_cell BK126.out 0).trans rfl
                have hcz17_1 : w5.cell? ⟨gb126, 1, none⟩ = some (.string (⟨#[]⟩ : ByteArray)) := (blk_cell BK126.out 1).trans rfl
                have hcz17_2 : w5.cell? ⟨gb126, 2, none⟩ = some (.int .i64 0) := (blk_cell BK126.out 2).trans rfl
                have hcz17_3 : w5.cell? ⟨gb126, 3, none⟩ = some (.string (⟨#[]⟩ : ByteArray)) := (blk_cell BK126.out 3).trans rfl
                have hcz17_4 : w5.cell? ⟨gb126, 4, none⟩ = some (.string (⟨#[]⟩ : ByteArray)) := (blk_cell BK126.out 4).trans rfl
                have hfz17_0 := blk_frozen BK126.out 0
                have hfz17_1 := blk_frozen BK126.out 1
                have hfz17_2 := blk_frozen BK126.out 2
                have hfz17_3 := blk_frozen BK126.out 3
                have hfz17_4 := blk_frozen BK126.out 4
                go_wp2_with (first | ((with_reducible refine gate_callee (f := 68) rfl ?_); refine goesL_ (some 17) rfl rfl Tryd.func68 (by kernel_rfl) rfl #[.int .i64 ((rd_T57 l0 x3_1).f0), .int .i64 1, .int .i64 4] rfl (by (try simp only [List.map_toArray, List.map_cons, List.map_nil]); first | done | rfl | (simp only [List.length_drop, List.length_take]; rfl)) ?_; (with_reducible refine (spec_l1In.calls ((rd_T57 l0 x3_1).f0) 1 4 true _ A7.out).mono ?_); rintro e w' ⟨rfl, ⟨nd, rfl⟩⟩; refine ⟨_, rfl, ?_⟩) | (go_at_call 68; (with_reducible refine (spec_l1In.calls ((rd_T57 l0 x3_1).f2) 1 3 false _ A9.out).mono ?_); rintro e w' ⟨rfl, ⟨nd, rfl⟩⟩))
                go_meet
                case rel => exact ⟨_, (true), (by first | rfl | (simp; done) | (simp [*]; done)), H', ⟨by have := HK1.out; first | omega | exact Nat.le_refl _⟩, ⟨by (with_reducible repeat (first | refine blk_drewN ?_ _ | refine blk_drew ?_ | refine blk_alloc ?_ _)); refine blk_put (cs := #[.int .i64 ((rd_T57 l0 x3_1).f0), .string ((rd_T57 l0 x3_1).f1), .int .i64 ((rd_T57 l0 x3_1).f2), .string ((rd_T57 l0 x3_1).f3.f0), .string (⟨#[]⟩ : ByteArray)]) ?_ 4 _ rfl; (with_reducible repeat (first | refine blk_drewN ?_ _ | refine blk_drew ?_ | refine blk_alloc ?_ _)); refine blk_put (cs := #[.int .i64 ((rd_T57 l0 x3_1).f0), .string ((rd_T57 l0 x3_1).f1), .int .i64 ((rd_T57 l0 x3_1).f2), .string (⟨#[]⟩ : ByteArray), .string (⟨#[]⟩ : ByteArray)]) ?_ 3 _ rfl; (with_reducible repeat (first | refine blk_drewN ?_ _ | refine blk_drew ?_ | refine blk_alloc ?_ _)); refine blk_put (cs := #[.int .i64 ((rd_T57 l0 x3_1).f0), .string ((rd_T57 l0 x3_1).f1), .int .i64 0, .string (⟨#[]⟩ : ByteArray), .string (⟨#[]⟩ : ByteArray)]) ?_ 2 _ rfl; (with_reducible repeat (first | refine blk_drewN ?_ _ | refine blk_drew ?_ | refine blk_alloc ?_ _)); refine blk_put (cs := #[.int .i64 ((rd_T57 l0 x3_1).f0), .string (⟨#[]⟩ : ByteArray), .int .i64 0, .string (⟨#[]⟩ : ByteArray), .string (⟨#[]⟩ : ByteArray)]) ?_ 1 _ rfl; (with_reducible repeat (first | refine blk_drewN ?_ _ | refine blk_drew ?_ | refine blk_alloc ?_ _)); refine blk_put (cs := #[.int .i64 0, .string (⟨#[]⟩ : ByteArray), .int .i64 0, .string (⟨#[]⟩ : ByteArray), .string (⟨#[]⟩ : ByteArray)]) ?_ 0 _ rfl; (with_reducible repeat (first | refine blk_drewN ?_ _ | refine blk_drew ?_ | refine blk_alloc ?_ _)); exact BK126.out⟩, ⟨by repeat (first | (with_reducible first | exact HB.out | apply below_alloc | apply pw_below_drewN | apply below_drew1 | refine below_set ?_ GE126.out) | exact HB.out)⟩⟩
            · replace c8 := Bool.eq_false_iff.mpr c8
              subst c8
              have H1 : (spec_l13Ok.j1 k1 l0 x3_1 true ((rd_T57 l0 x3_1).f0) ((rd_T57 l0 x3_1).f1) ((rd_T57 l0 x3_1).f2) ((rd_T57 l0 x3_1).f3.f0) ((rd_T57 l0 x3_1).f3.f1)) = some r := by rw [if_neg (show ¬ (false = true) by decide)] at H; exact H
              clear H
              have H := H1
              clear H1
              have H' := Aside0.mk H
              clear H
              have hcz18_0 : w5.cell? ⟨gb126, 0, none⟩ = some (.int .i64 0) := (blk_cell BK126.out 0).trans rfl
              have hcz18_1 : w5.cell? ⟨gb126, 1, none⟩ = some (.string (⟨#[]⟩ : ByteArray)) := (blk_cell BK126.out 1).trans rfl
              have hcz18_2 : w5.cell? ⟨gb126, 2, none⟩ = some (.int .i64 0) := (blk_cell BK126.out 2).trans rfl
              have hcz18_3 : w5.cell? ⟨gb126, 3, none⟩ = some (.string (⟨#[]⟩ : ByteArray)) := (blk_cell BK126.out 3).trans rfl
              have hcz18_4 : w5.cell? ⟨gb126, 4, none⟩ = some (.string (⟨#[]⟩ : ByteArray)) := (blk_cell BK126.out 4).trans rfl
              have hfz18_0 := blk_frozen BK126.out 0
              have hfz18_1 := blk_frozen BK126.out 1
              have hfz18_2 := blk_frozen BK126.out 2
              have hfz18_3 := blk_frozen BK126.out 3
              have hfz18_4 := blk_frozen BK126.out 4
              go_wp2_with (first | ((with_reducible refine gate_callee (f := 68) rfl ?_); refine goesL_ (some 17) rfl rfl Tryd.func68 (by kernel_rfl) rfl #[.int .i64 ((rd_T57 l0 x3_1).f0), .int .i64 1, .int .i64 4] rfl (by (try simp only [List.map_toArray, List.map_cons, List.map_nil]); first | done | rfl | (simp only [List.length_drop, List.length_take]; rfl)) ?_; (with_reducible refine (spec_l1In.calls ((rd_T57 l0 x3_1).f0) 1 4 false _ A7.out).mono ?_); rintro e w' ⟨rfl, ⟨nd, rfl⟩⟩; refine ⟨_, rfl, ?_⟩))
              go_meet
              case rel => exact ⟨_, (true), (by first | rfl | (simp; done) | (simp [*]; done)), H', ⟨by have := HK1.out; first | omega | exact Nat.le_refl _⟩, ⟨by (with_reducible repeat (first | refine blk_drewN ?_ _ | refine blk_drew ?_ | refine blk_alloc ?_ _)); refine blk_put (cs := #[.int .i64 ((rd_T57 l0 x3_1).f0), .string ((rd_T57 l0 x3_1).f1), .int .i64 ((rd_T57 l0 x3_1).f2), .string ((rd_T57 l0 x3_1).f3.f0), .string (⟨#[]⟩ : ByteArray)]) ?_ 4 _ rfl; (with_reducible repeat (first | refine blk_drewN ?_ _ | refine blk_drew ?_ | refine blk_alloc ?_ _)); refine blk_put (cs := #[.int .i64 ((rd_T57 l0 x3_1).f0), .string ((rd_T57 l0 x3_1).f1), .int .i64 ((rd_T57 l0 x3_1).f2), .string (⟨#[]⟩ : ByteArray), .string (⟨#[]⟩ : ByteArray)]) ?_ 3 _ rfl; (with_reducible repeat (first | refine blk_drewN ?_ _ | refine blk_drew ?_ | refine blk_alloc ?_ _)); refine blk_put (cs := #[.int .i64 ((rd_T57 l0 x3_1).f0), .string ((rd_T57 l0 x3_1).f1), .int .i64 0, .string (⟨#[]⟩ : ByteArray), .string (⟨#[]⟩ : ByteArray)]) ?_ 2 _ rfl; (with_reducible repeat (first | refine blk_drewN ?_ _ | refine blk_drew ?_ | refine blk_alloc ?_ _)); refine blk_put (cs := #[.int .i64 ((rd_T57 l0 x3_1).f0), .string (⟨#[]⟩ : ByteArray), .int .i64 0, .string (⟨#[]⟩ : ByteArray), .string (⟨#[]⟩ : ByteArray)]) ?_ 1 _ rfl; (with_reducible repeat (first | refine blk_drewN ?_ _ | refine blk_drew ?_ | refine blk_alloc ?_ _)); refine blk_put (cs := #[.int .i64 0, .string (⟨#[]⟩ : ByteArray), .int .i64 0, .string (⟨#[]⟩ : ByteArray), .string (⟨#[]⟩ : ByteArray)]) ?_ 0 _ rfl; (with_reducible repeat (first | refine blk_drewN ?_ _ | refine blk_drew ?_ | refine blk_alloc ?_ _)); exact BK126.out⟩, ⟨by repeat (first | (with_reducible first | exact HB.out | apply below_alloc | apply pw_below_drewN | apply below_drew1 | refine below_set ?_ GE126.out) | exact HB.out)⟩⟩
          case rest =>
            clear HC4
            try clear c1
            try clear p1
            try clear q1
            try clear hx1
            try clear c2
            try clear c2b0
            try clear p2
            try clear c3
            try clear c3b0
            try clear c6
            try clear c8
            try clear c10
            try clear c12
            try clear p12
            try clear q12
            try clear hx12
            try clear c13
            try clear c13b0
            try clear hcz14_0
            try clear hcz14_1
            try clear hcz14_2
            try clear hcz14_3
            try clear hcz14_4
            try clear hcz15_0
            try clear hcz15_1
            try clear hcz15_2
            try clear hcz15_3
            try clear hcz15_4
            try clear hcz16_0
            try clear hcz16_1
            try clear hcz16_2
            try clear hcz16_3
            try clear hcz16_4
            try clear hcz17_0
            try clear hcz17_1
            try clear hcz17_2
            try clear hcz17_3
            try clear hcz17_4
            try clear hcz18_0
            try clear hcz18_1
            try clear hcz18_2
            try clear hcz18_3
            try clear hcz18_4
            try clear hcz6_0
            try clear hcz6_1
            try clear hcz6_2
            try clear hcz6_3
            try clear hcz6_4
            try clear hfz14_0
            try clear hfz14_1
            try clear hfz14_2
            try clear hfz14_3
            try clear hfz14_4
            try clear hfz15_0
            try clear hfz15_1
            try clear hfz15_2
            try clear hfz15_3
            try clear hfz15_4
            try clear hfz16_0
            try clear hfz16_1
            try clear hfz16_2
            try clear hfz16_3
            try clear hfz16_4
            try clear hfz17_0
            try clear hfz17_1
            try clear hfz17_2
            try clear hfz17_3
            try clear hfz17_4
            try clear hfz18_0
            try clear hfz18_1
            try clear hfz18_2
            try clear hfz18_3
            try clear hfz18_4
            try clear hfz6_0
            try clear hfz6_1
            try clear hfz6_2
            try clear hfz6_3
            try clear hfz6_4
            try clear hx125_0
            try clear hx125_1
            try clear hx125_2
            try clear hx125_3
            try clear hx125_4
            try clear p125
            try clear q125
            obtain ⟨kq, x40_3, rfl, HA, HJ3, BK126, HB⟩ := hcut
            cases kq with
            | zero => exact absurd HA.out (by simp [spec_l13Ok.j1])
            | succ kj3 =>
              have H := HA.out
              clear HA
              simp only [spec_l13Ok.j1] at H
              by_cases c19 : x40_3 = true
              · subst c19
                have H1 : (some false) = some r := by rw [if_pos rfl] at H; exact H
                clear H
                have H := H1
                clear H1
                obtain rfl := Option.some.inj H
                go_wp2
                go_ret
                exact ⟨by first | rfl | (simp [errW_none, errW_some] <;> rfl) | (simp [*, errW_none, errW_some] <;> rfl), by repeat (first | (with_reducible first | exact HB.out | apply below_alloc | apply pw_below_drewN | apply below_drew1 | refine below_set ?_ GE126.out) | exact HB.out)⟩
              · replace c19 := Bool.eq_false_iff.mpr c19
                subst c19
                have H1 : (if ((rd_T57 l0 x3_1).f0) = 1 then ((spec_l1Domain.f kj3 ((rd_T57 l0 x3_1).f1)).bind fun t130 => (if t130 = true then (if ((rd_T57 l0 x3_1).f2) = 3 then ((spec_l1AddrOk.f kj3 ((rd_T57 l0 x3_1).f3.f0) ((rd_T57 l0 x3_1).f3.f1)).bind fun t131 => (if t131 = true then (spec_l13Ok.l0 kj3 l0 (wrap64 (x3_1 + 1))) else (some false))) else ((spec_l1Null.f ((rd_T57 l0 x3_1).f3.f0) ((rd_T57 l0 x3_1).f3.f1)).bind fun t132 => (if t132 = true then (spec_l13Ok.l0 kj3 l0 (wrap64 (x3_1 + 1))) else (some false)))) else (some false))) else (if ((rd_T57 l0 x3_1).f2) = 3 then ((spec_l1AddrOk.f kj3 ((rd_T57 l0 x3_1).f3.f0) ((rd_T57 l0 x3_1).f3.f1)).bind fun t133 => (if t133 = true then (spec_l13Ok.l0 kj3 l0 (wrap64 (x3_1 + 1))) else (some false))) else ((spec_l1Null.f ((rd_T57 l0 x3_1).f3.f0) ((rd_T57 l0 x3_1).f3.f1)).bind fun t134 => (if t134 = true then (spec_l13Ok.l0 kj3 l0 (wrap64 (x3_1 + 1))) else (some false))))) = some r := by rw [if_neg (show ¬ (false = true) by decide)] at H; exact H
                clear H
                have H := H1
                clear H1
                by_cases c20 : ((rd_T57 l0 x3_1).f0) = 1
                · rw [if_pos c20] at H
                  have c20b0 : (((rd_T57 l0 x3_1).f0) == 1) = true := beq_iff_eq.mpr c20
                  have c20b1 : (((rd_T57 l0 x3_1).f0) != 1) = false := bne_eq_false_iff_eq.mpr c20
                  clear c20
                  replace H := Option.bind_eq_some_iff.mp H
                  obtain ⟨t130, A210, H⟩ := H
                  replace H : (if t130 = true then (if ((rd_T57 l0 x3_1).f2) = 3 then ((spec_l1AddrOk.f kj3 ((rd_T57 l0 x3_1).f3.f0) ((rd_T57 l0 x3_1).f3.f1)).bind fun t131 => (if t131 = true then (spec_l13Ok.l0 kj3 l0 (wrap64 (x3_1 + 1))) else (some false))) else ((spec_l1Null.f ((rd_T57 l0 x3_1).f3.f0) ((rd_T57 l0 x3_1).f3.f1)).bind fun t132 => (if t132 = true then (spec_l13Ok.l0 kj3 l0 (wrap64 (x3_1 + 1))) else (some false)))) else (some false)) = some r := H
                  have A21 := Aside0.mk A210
                  clear A210
                  by_cases c22 : t130 = true
                  · subst c22
                    have H1 : (if ((rd_T57 l0 x3_1).f2) = 3 then ((spec_l1AddrOk.f kj3 ((rd_T57 l0 x3_1).f3.f0) ((rd_T57 l0 x3_1).f3.f1)).bind fun t131 => (if t131 = true then (spec_l13Ok.l0 kj3 l0 (wrap64 (x3_1 + 1))) else (some false))) else ((spec_l1Null.f ((rd_T57 l0 x3_1).f3.f0) ((rd_T57 l0 x3_1).f3.f1)).bind fun t132 => (if t132 = true then (spec_l13Ok.l0 kj3 l0 (wrap64 (x3_1 + 1))) else (some false)))) = some r := by rw [if_pos rfl] at H; exact H
                    clear H
                    have H := H1
                    clear H1
                    by_cases c23 : ((rd_T57 l0 x3_1).f2) = 3
                    · rw [if_pos c23] at H
                      have c23b0 : (((rd_T57 l0 x3_1).f2) == 3) = true := beq_iff_eq.mpr c23
                      have c23b1 : (((rd_T57 l0 x3_1).f2) != 3) = false := bne_eq_false_iff_eq.mpr c23
                      clear c23
                      replace H := Option.bind_eq_some_iff.mp H
                      obtain ⟨t131, A240, H⟩ := H
                      replace H : (if t131 = true then (spec_l13Ok.l0 kj3 l0 (wrap64 (x3_1 + 1))) else (some false)) = some r := H
                      have A24 := Aside0.mk A240
                      clear A240
                      by_cases c25 : t131 = true
                      · subst c25
                        have H1 : (spec_l13Ok.l0 kj3 l0 (wrap64 (x3_1 + 1))) = some r := by rw [if_pos rfl] at H; exact H
                        clear H
                        have H := H1
                        clear H1
                        have H' := Aside0.mk H
                        clear H
                        have hcz26_0 : wc.cell? ⟨gb126, 0, none⟩ = some (.int .i64 ((rd_T57 l0 x3_1).f0)) := (blk_cell BK126.out 0).trans rfl
                        have hcz26_1 : wc.cell? ⟨gb126, 1, none⟩ = some (.string ((rd_T57 l0 x3_1).f1)) := (blk_cell BK126.out 1).trans rfl
                        have hcz26_2 : wc.cell? ⟨gb126, 2, none⟩ = some (.int .i64 ((rd_T57 l0 x3_1).f2)) := (blk_cell BK126.out 2).trans rfl
                        have hcz26_3 : wc.cell? ⟨gb126, 3, none⟩ = some (.string ((rd_T57 l0 x3_1).f3.f0)) := (blk_cell BK126.out 3).trans rfl
                        have hcz26_4 : wc.cell? ⟨gb126, 4, none⟩ = some (.string ((rd_T57 l0 x3_1).f3.f1)) := (blk_cell BK126.out 4).trans rfl
                        have hfz26_0 := blk_frozen BK126.out 0
                        have hfz26_1 := blk_frozen BK126.out 1
                        have hfz26_2 := blk_frozen BK126.out 2
                        have hfz26_3 := blk_frozen BK126.out 3
                        have hfz26_4 := blk_frozen BK126.out 4
                        go_wp2_with (first | (go_at_call 70; (with_reducible refine (spec_l1Domain.calls kj3 ((rd_T57 l0 x3_1).f1) true _ A21.out).mono ?_); rintro e w27 ⟨rfl, hb⟩; have n0_ := Aside0.mk (blk_below (g := gb126) (o := .cells #[.int .i64 ((rd_T57 l0 x3_1).f0), .string ((rd_T57 l0 x3_1).f1), .int .i64 ((rd_T57 l0 x3_1).f2), .string ((rd_T57 l0 x3_1).f3.f0), .string ((rd_T57 l0 x3_1).f3.f1)] 57 (0, 0)) (by (with_reducible repeat (first | refine blk_drewN ?_ _ | refine blk_drew ?_ | refine blk_alloc ?_ _)); exact BK126.out) hb); have n1_ := Aside0.mk (below_step (by repeat (first | (with_reducible first | exact HB.out | apply below_alloc | apply pw_below_drewN | apply below_drew1 | refine below_set ?_ GE126.out) | exact HB.out)) hb); clear BK126; clear HB; have BK126 := n0_; have HB := n1_; clear n0_ n1_; (try clear hb); (try clear hb2); (try clear hk); (try clear hi); have hcz28_0 : w27.cell? ⟨gb126, 0, none⟩ = some (.int .i64 ((rd_T57 l0 x3_1).f0)) := (blk_cell BK126.out 0).trans rfl; have hcz28_1 : w27.cell? ⟨gb126, 1, none⟩ = some (.string ((rd_T57 l0 x3_1).f1)) := (blk_cell BK126.out 1).trans rfl; have hcz28_2 : w27.cell? ⟨gb126, 2, none⟩ = some (.int .i64 ((rd_T57 l0 x3_1).f2)) := (blk_cell BK126.out 2).trans rfl; have hcz28_3 : w27.cell? ⟨gb126, 3, none⟩ = some (.string ((rd_T57 l0 x3_1).f3.f0)) := (blk_cell BK126.out 3).trans rfl; have hcz28_4 : w27.cell? ⟨gb126, 4, none⟩ = some (.string ((rd_T57 l0 x3_1).f3.f1)) := (blk_cell BK126.out 4).trans rfl; have hfz28_0 := blk_frozen BK126.out 0; have hfz28_1 := blk_frozen BK126.out 1; have hfz28_2 := blk_frozen BK126.out 2; have hfz28_3 := blk_frozen BK126.out 3; have hfz28_4 := blk_frozen BK126.out 4) | (go_at_call 71; (with_reducible refine (spec_l1AddrOk.calls kj3 ((rd_T57 l0 x3_1).f3.f0) ((rd_T57 l0 x3_1).f3.f1) true _ A24.out).mono ?_); rintro e w29 ⟨rfl, hb⟩; have n0_ := Aside0.mk (blk_below (g := gb126) (o := .cells #[.int .i64 ((rd_T57 l0 x3_1).f0), .string ((rd_T57 l0 x3_1).f1), .int .i64 ((rd_T57 l0 x3_1).f2), .string ((rd_T57 l0 x3_1).f3.f0), .string ((rd_T57 l0 x3_1).f3.f1)] 57 (0, 0)) (by (with_reducible repeat (first | refine blk_drewN ?_ _ | refine blk_drew ?_ | refine blk_alloc ?_ _)); exact BK126.out) hb); have n1_ := Aside0.mk (below_step (by repeat (first | (with_reducible first | exact HB.out | apply below_alloc | apply pw_below_drewN | apply below_drew1 | refine below_set ?_ GE126.out) | exact HB.out)) hb); clear BK126; clear HB; have BK126 := n0_; have HB := n1_; clear n0_ n1_; (try clear hb); (try clear hb2); (try clear hk); (try clear hi); have hcz30_0 : w29.cell? ⟨gb126, 0, none⟩ = some (.int .i64 ((rd_T57 l0 x3_1).f0)) := (blk_cell BK126.out 0).trans rfl; have hcz30_1 : w29.cell? ⟨gb126, 1, none⟩ = some (.string ((rd_T57 l0 x3_1).f1)) := (blk_cell BK126.out 1).trans rfl; have hcz30_2 : w29.cell? ⟨gb126, 2, none⟩ = some (.int .i64 ((rd_T57 l0 x3_1).f2)) := (blk_cell BK126.out 2).trans rfl; have hcz30_3 : w29.cell? ⟨gb126, 3, none⟩ = some (.string ((rd_T57 l0 x3_1).f3.f0)) := (blk_cell BK126.out 3).trans rfl; have hcz30_4 : w29.cell? ⟨gb126, 4, none⟩ = some (.string ((rd_T57 l0 x3_1).f3.f1)) := (blk_cell BK126.out 4).trans rfl; have hfz30_0 := blk_frozen BK126.out 0; have hfz30_1 := blk_frozen BK126.out 1; have hfz30_2 := blk_frozen BK126.out 2; have hfz30_3 := blk_frozen BK126.out 3; have hfz30_4 := blk_frozen BK126.out 4))
                        go_roundg kj3
                        case measure => have := HK1.out; have := HJ3.out; omega
                        case rel => exact ⟨(wrap64 (x3_1 + 1)), (by first | rfl | (simp; done) | (simp [*]; done)), H', ⟨by have := HK1.out; have := HJ3.out; omega⟩, ⟨by repeat (first | (with_reducible first | exact HB.out | apply below_alloc | apply pw_below_drewN | apply below_drew1 | refine below_set ?_ GE126.out) | exact HB.out)⟩⟩
                      · replace c25 := Bool.eq_false_iff.mpr c25
                        subst c25
                        have H1 : (some false) = some r := by rw [if_neg (show ¬ (false = true) by decide)] at H; exact H
                        clear H
                        have H := H1
                        clear H1
                        obtain rfl := Option.some.inj H
                        have hcz31_0 : wc.cell? ⟨gb126, 0, none⟩ = some (.int .i64 ((rd_T57 l0 x3_1).f0)) := (blk_cell BK126.out 0).trans rfl
                        have hcz31_1 : wc.cell? ⟨gb126, 1, none⟩ = some (.string ((rd_T57 l0 x3_1).f1)) := (blk_cell BK126.out 1).trans rfl
                        have hcz31_2 : wc.cell? ⟨gb126, 2, none⟩ = some (.int .i64 ((rd_T57 l0 x3_1).f2)) := (blk_cell BK126.out 2).trans rfl
                        have hcz31_3 : wc.cell? ⟨gb126, 3, none⟩ = some (.string ((rd_T57 l0 x3_1).f3.f0)) := (blk_cell BK126.out 3).trans rfl
                        have hcz31_4 : wc.cell? ⟨gb126, 4, none⟩ = some (.string ((rd_T57 l0 x3_1).f3.f1)) := (blk_cell BK126.out 4).trans rfl
                        have hfz31_0 := blk_frozen BK126.out 0
                        have hfz31_1 := blk_frozen BK126.out 1
                        have hfz31_2 := blk_frozen BK126.out 2
                        have hfz31_3 := blk_frozen BK126.out 3
                        have hfz31_4 := blk_frozen BK126.out 4
                        go_wp2_with (first | (go_at_call 70; (with_reducible refine (spec_l1Domain.calls kj3 ((rd_T57 l0 x3_1).f1) true _ A21.out).mono ?_); rintro e w32 ⟨rfl, hb⟩; have n0_ := Aside0.mk (blk_below (g := gb126) (o := .cells #[.int .i64 ((rd_T57 l0 x3_1).f0), .string ((rd_T57 l0 x3_1).f1), .int .i64 ((rd_T57 l0 x3_1).f2), .string ((rd_T57 l0 x3_1).f3.f0), .string ((rd_T57 l0 x3_1).f3.f1)] 57 (0, 0)) (by (with_reducible repeat (first | refine blk_drewN ?_ _ | refine blk_drew ?_ | refine blk_alloc ?_ _)); exact BK126.out) hb); have n1_ := Aside0.mk (below_step (by repeat (first | (with_reducible first | exact HB.out | apply below_alloc | apply pw_below_drewN | apply below_drew1 | refine below_set ?_ GE126.out) | exact HB.out)) hb); clear BK126; clear HB; have BK126 := n0_; have HB := n1_; clear n0_ n1_; (try clear hb); (try clear hb2); (try clear hk); (try clear hi); have hcz33_0 : w32.cell? ⟨gb126, 0, none⟩ = some (.int .i64 ((rd_T57 l0 x3_1).f0)) := (blk_cell BK126.out 0).trans rfl; have hcz33_1 : w32.cell? ⟨gb126, 1, none⟩ = some (.string ((rd_T57 l0 x3_1).f1)) := (blk_cell BK126.out 1).trans rfl; have hcz33_2 : w32.cell? ⟨gb126, 2, none⟩ = some (.int .i64 ((rd_T57 l0 x3_1).f2)) := (blk_cell BK126.out 2).trans rfl; have hcz33_3 : w32.cell? ⟨gb126, 3, none⟩ = some (.string ((rd_T57 l0 x3_1).f3.f0)) := (blk_cell BK126.out 3).trans rfl; have hcz33_4 : w32.cell? ⟨gb126, 4, none⟩ = some (.string ((rd_T57 l0 x3_1).f3.f1)) := (blk_cell BK126.out 4).trans rfl; have hfz33_0 := blk_frozen BK126.out 0; have hfz33_1 := blk_frozen BK126.out 1; have hfz33_2 := blk_frozen BK126.out 2; have hfz33_3 := blk_frozen BK126.out 3; have hfz33_4 := blk_frozen BK126.out 4) | (go_at_call 71; (with_reducible refine (spec_l1AddrOk.calls kj3 ((rd_T57 l0 x3_1).f3.f0) ((rd_T57 l0 x3_1).f3.f1) false _ A24.out).mono ?_); rintro e w34 ⟨rfl, hb⟩; have n0_ := Aside0.mk (blk_below (g := gb126) (o := .cells #[.int .i64 ((rd_T57 l0 x3_1).f0), .string ((rd_T57 l0 x3_1).f1), .int .i64 ((rd_T57 l0 x3_1).f2), .string ((rd_T57 l0 x3_1).f3.f0), .string ((rd_T57 l0 x3_1).f3.f1)] 57 (0, 0)) (by (with_reducible repeat (first | refine blk_drewN ?_ _ | refine blk_drew ?_ | refine blk_alloc ?_ _)); exact BK126.out) hb); have n1_ := Aside0.mk (below_step (by repeat (first | (with_reducible first | exact HB.out | apply below_alloc | apply pw_below_drewN | apply below_drew1 | refine below_set ?_ GE126.out) | exact HB.out)) hb); clear BK126; clear HB; have BK126 := n0_; have HB := n1_; clear n0_ n1_; (try clear hb); (try clear hb2); (try clear hk); (try clear hi)))
                        go_ret
                        exact ⟨by first | rfl | (simp [errW_none, errW_some] <;> rfl) | (simp [*, errW_none, errW_some] <;> rfl), by repeat (first | (with_reducible first | exact HB.out | apply below_alloc | apply pw_below_drewN | apply below_drew1 | refine below_set ?_ GE126.out) | exact HB.out)⟩
                    · rw [if_neg c23] at H
                      have c23b0 : (((rd_T57 l0 x3_1).f2) == 3) = false := beq_eq_false_iff_ne.mpr c23
                      have c23b1 : (((rd_T57 l0 x3_1).f2) != 3) = true := bne_iff_ne.mpr c23
                      replace H := Option.bind_eq_some_iff.mp H
                      obtain ⟨t132, A350, H⟩ := H
                      replace H : (if t132 = true then (spec_l13Ok.l0 kj3 l0 (wrap64 (x3_1 + 1))) else (some false)) = some r := H
                      have A35 := Aside0.mk A350
                      clear A350
                      by_cases c36 : t132 = true
                      · subst c36
                        have H1 : (spec_l13Ok.l0 kj3 l0 (wrap64 (x3_1 + 1))) = some r := by rw [if_pos rfl] at H; exact H
                        clear H
                        have H := H1
                        clear H1
                        have H' := Aside0.mk H
                        clear H
                        have hcz37_0 : wc.cell? ⟨gb126, 0, none⟩ = some (.int .i64 ((rd_T57 l0 x3_1).f0)) := (blk_cell BK126.out 0).trans rfl
                        have hcz37_1 : wc.cell? ⟨gb126, 1, none⟩ = some (.string ((rd_T57 l0 x3_1).f1)) := (blk_cell BK126.out 1).trans rfl
                        have hcz37_2 : wc.cell? ⟨gb126, 2, none⟩ = some (.int .i64 ((rd_T57 l0 x3_1).f2)) := (blk_cell BK126.out 2).trans rfl
                        have hcz37_3 : wc.cell? ⟨gb126, 3, none⟩ = some (.string ((rd_T57 l0 x3_1).f3.f0)) := (blk_cell BK126.out 3).trans rfl
                        have hcz37_4 : wc.cell? ⟨gb126, 4, none⟩ = some (.string ((rd_T57 l0 x3_1).f3.f1)) := (blk_cell BK126.out 4).trans rfl
                        have hfz37_0 := blk_frozen BK126.out 0
                        have hfz37_1 := blk_frozen BK126.out 1
                        have hfz37_2 := blk_frozen BK126.out 2
                        have hfz37_3 := blk_frozen BK126.out 3
                        have hfz37_4 := blk_frozen BK126.out 4
                        go_wp2_with (first | (go_at_call 70; (with_reducible refine (spec_l1Domain.calls kj3 ((rd_T57 l0 x3_1).f1) true _ A21.out).mono ?_); rintro e w38 ⟨rfl, hb⟩; have n0_ := Aside0.mk (blk_below (g := gb126) (o := .cells #[.int .i64 ((rd_T57 l0 x3_1).f0), .string ((rd_T57 l0 x3_1).f1), .int .i64 ((rd_T57 l0 x3_1).f2), .string ((rd_T57 l0 x3_1).f3.f0), .string ((rd_T57 l0 x3_1).f3.f1)] 57 (0, 0)) (by (with_reducible repeat (first | refine blk_drewN ?_ _ | refine blk_drew ?_ | refine blk_alloc ?_ _)); exact BK126.out) hb); have n1_ := Aside0.mk (below_step (by repeat (first | (with_reducible first | exact HB.out | apply below_alloc | apply pw_below_drewN | apply below_drew1 | refine below_set ?_ GE126.out) | exact HB.out)) hb); clear BK126; clear HB; have BK126 := n0_; have HB := n1_; clear n0_ n1_; (try clear hb); (try clear hb2); (try clear hk); (try clear hi); have hcz39_0 : w38.cell? ⟨gb126, 0, none⟩ = some (.int .i64 ((rd_T57 l0 x3_1).f0)) := (blk_cell BK126.out 0).trans rfl; have hcz39_1 : w38.cell? ⟨gb126, 1, none⟩ = some (.string ((rd_T57 l0 x3_1).f1)) := (blk_cell BK126.out 1).trans rfl; have hcz39_2 : w38.cell? ⟨gb126, 2, none⟩ = some (.int .i64 ((rd_T57 l0 x3_1).f2)) := (blk_cell BK126.out 2).trans rfl; have hcz39_3 : w38.cell? ⟨gb126, 3, none⟩ = some (.string ((rd_T57 l0 x3_1).f3.f0)) := (blk_cell BK126.out 3).trans rfl; have hcz39_4 : w38.cell? ⟨gb126, 4, none⟩ = some (.string ((rd_T57 l0 x3_1).f3.f1)) := (blk_cell BK126.out 4).trans rfl; have hfz39_0 := blk_frozen BK126.out 0; have hfz39_1 := blk_frozen BK126.out 1; have hfz39_2 := blk_frozen BK126.out 2; have hfz39_3 := blk_frozen BK126.out 3; have hfz39_4 := blk_frozen BK126.out 4) | (go_at_call 72; (with_reducible refine (spec_l1Null.calls ((rd_T57 l0 x3_1).f3.f0) ((rd_T57 l0 x3_1).f3.f1) true _ A35.out).mono ?_); rintro e w40 ⟨rfl, hb⟩; have n0_ := Aside0.mk (blk_below (g := gb126) (o := .cells #[.int .i64 ((rd_T57 l0 x3_1).f0), .string ((rd_T57 l0 x3_1).f1), .int .i64 ((rd_T57 l0 x3_1).f2), .string ((rd_T57 l0 x3_1).f3.f0), .string ((rd_T57 l0 x3_1).f3.f1)] 57 (0, 0)) (by (with_reducible repeat (first | refine blk_drewN ?_ _ | refine blk_drew ?_ | refine blk_alloc ?_ _)); exact BK126.out) hb); have n1_ := Aside0.mk (below_step (by repeat (first | (with_reducible first | exact HB.out | apply below_alloc | apply pw_below_drewN | apply below_drew1 | refine below_set ?_ GE126.out) | exact HB.out)) hb); clear BK126; clear HB; have BK126 := n0_; have HB := n1_; clear n0_ n1_; (try clear hb); (try clear hb2); (try clear hk); (try clear hi)))
                        go_roundg kj3
                        case measure => have := HK1.out; have := HJ3.out; omega
                        case rel => exact ⟨(wrap64 (x3_1 + 1)), (by first | rfl | (simp; done) | (simp [*]; done)), H', ⟨by have := HK1.out; have := HJ3.out; omega⟩, ⟨by repeat (first | (with_reducible first | exact HB.out | apply below_alloc | apply pw_below_drewN | apply below_drew1 | refine below_set ?_ GE126.out) | exact HB.out)⟩⟩
                      · replace c36 := Bool.eq_false_iff.mpr c36
                        subst c36
                        have H1 : (some false) = some r := by rw [if_neg (show ¬ (false = true) by decide)] at H; exact H
                        clear H
                        have H := H1
                        clear H1
                        obtain rfl := Option.some.inj H
                        have hcz41_0 : wc.cell? ⟨gb126, 0, none⟩ = some (.int .i64 ((rd_T57 l0 x3_1).f0)) := (blk_cell BK126.out 0).trans rfl
                        have hcz41_1 : wc.cell? ⟨gb126, 1, none⟩ = some (.string ((rd_T57 l0 x3_1).f1)) := (blk_cell BK126.out 1).trans rfl
                        have hcz41_2 : wc.cell? ⟨gb126, 2, none⟩ = some (.int .i64 ((rd_T57 l0 x3_1).f2)) := (blk_cell BK126.out 2).trans rfl
                        have hcz41_3 : wc.cell? ⟨gb126, 3, none⟩ = some (.string ((rd_T57 l0 x3_1).f3.f0)) := (blk_cell BK126.out 3).trans rfl
                        have hcz41_4 : wc.cell? ⟨gb126, 4, none⟩ = some (.string ((rd_T57 l0 x3_1).f3.f1)) := (blk_cell BK126.out 4).trans rfl
                        have hfz41_0 := blk_frozen BK126.out 0
                        have hfz41_1 := blk_frozen BK126.out 1
                        have hfz41_2 := blk_frozen BK126.out 2
                        have hfz41_3 := blk_frozen BK126.out 3
                        have hfz41_4 := blk_frozen BK126.out 4
                        go_wp2_with (first | (go_at_call 70; (with_reducible refine (spec_l1Domain.calls kj3 ((rd_T57 l0 x3_1).f1) true _ A21.out).mono ?_); rintro e w42 ⟨rfl, hb⟩; have n0_ := Aside0.mk (blk_below (g := gb126) (o := .cells #[.int .i64 ((rd_T57 l0 x3_1).f0), .string ((rd_T57 l0 x3_1).f1), .int .i64 ((rd_T57 l0 x3_1).f2), .string ((rd_T57 l0 x3_1).f3.f0), .string ((rd_T57 l0 x3_1).f3.f1)] 57 (0, 0)) (by (with_reducible repeat (first | refine blk_drewN ?_ _ | refine blk_drew ?_ | refine blk_alloc ?_ _)); exact BK126.out) hb); have n1_ := Aside0.mk (below_step (by repeat (first | (with_reducible first | exact HB.out | apply below_alloc | apply pw_below_drewN | apply below_drew1 | refine below_set ?_ GE126.out) | exact HB.out)) hb); clear BK126; clear HB; have BK126 := n0_; have HB := n1_; clear n0_ n1_; (try clear hb); (try clear hb2); (try clear hk); (try clear hi); have hcz43_0 : w42.cell? ⟨gb126, 0, none⟩ = some (.int .i64 ((rd_T57 l0 x3_1).f0)) := (blk_cell BK126.out 0).trans rfl; have hcz43_1 : w42.cell? ⟨gb126, 1, none⟩ = some (.string ((rd_T57 l0 x3_1).f1)) := (blk_cell BK126.out 1).trans rfl; have hcz43_2 : w42.cell? ⟨gb126, 2, none⟩ = some (.int .i64 ((rd_T57 l0 x3_1).f2)) := (blk_cell BK126.out 2).trans rfl; have hcz43_3 : w42.cell? ⟨gb126, 3, none⟩ = some (.string ((rd_T57 l0 x3_1).f3.f0)) := (blk_cell BK126.out 3).trans rfl; have hcz43_4 : w42.cell? ⟨gb126, 4, none⟩ = some (.string ((rd_T57 l0 x3_1).f3.f1)) := (blk_cell BK126.out 4).trans rfl; have hfz43_0 := blk_frozen BK126.out 0; have hfz43_1 := blk_frozen BK126.out 1; have hfz43_2 := blk_frozen BK126.out 2; have hfz43_3 := blk_frozen BK126.out 3; have hfz43_4 := blk_frozen BK126.out 4) | (go_at_call 72; (with_reducible refine (spec_l1Null.calls ((rd_T57 l0 x3_1).f3.f0) ((rd_T57 l0 x3_1).f3.f1) false _ A35.out).mono ?_); rintro e w44 ⟨rfl, hb⟩; have n0_ := Aside0.mk (blk_below (g := gb126) (o := .cells #[.int .i64 ((rd_T57 l0 x3_1).f0), .string ((rd_T57 l0 x3_1).f1), .int .i64 ((rd_T57 l0 x3_1).f2), .string ((rd_T57 l0 x3_1).f3.f0), .string ((rd_T57 l0 x3_1).f3.f1)] 57 (0, 0)) (by (with_reducible repeat (first | refine blk_drewN ?_ _ | refine blk_drew ?_ | refine blk_alloc ?_ _)); exact BK126.out) hb); have n1_ := Aside0.mk (below_step (by repeat (first | (with_reducible first | exact HB.out | apply below_alloc | apply pw_below_drewN | apply below_drew1 | refine below_set ?_ GE126.out) | exact HB.out)) hb); clear BK126; clear HB; have BK126 := n0_; have HB := n1_; clear n0_ n1_; (try clear hb); (try clear hb2); (try clear hk); (try clear hi)))
                        go_ret
                        exact ⟨by first | rfl | (simp [errW_none, errW_some] <;> rfl) | (simp [*, errW_none, errW_some] <;> rfl), by repeat (first | (with_reducible first | exact HB.out | apply below_alloc | apply pw_below_drewN | apply below_drew1 | refine below_set ?_ GE126.out) | exact HB.out)⟩
                  · replace c22 := Bool.eq_false_iff.mpr c22
                    subst c22
                    have H1 : (some false) = some r := by rw [if_neg (show ¬ (false = true) by decide)] at H; exact H
                    clear H
                    have H := H1
                    clear H1
                    obtain rfl := Option.some.inj H
                    have hcz45_0 : wc.cell? ⟨gb126, 0, none⟩ = some (.int .i64 ((rd_T57 l0 x3_1).f0)) := (blk_cell BK126.out 0).trans rfl
                    have hcz45_1 : wc.cell? ⟨gb126, 1, none⟩ = some (.string ((rd_T57 l0 x3_1).f1)) := (blk_cell BK126.out 1).trans rfl
                    have hcz45_2 : wc.cell? ⟨gb126, 2, none⟩ = some (.int .i64 ((rd_T57 l0 x3_1).f2)) := (blk_cell BK126.out 2).trans rfl
                    have hcz45_3 : wc.cell? ⟨gb126, 3, none⟩ = some (.string ((rd_T57 l0 x3_1).f3.f0)) := (blk_cell BK126.out 3).trans rfl
                    have hcz45_4 : wc.cell? ⟨gb126, 4, none⟩ = some (.string ((rd_T57 l0 x3_1).f3.f1)) := (blk_cell BK126.out 4).trans rfl
                    have hfz45_0 := blk_frozen BK126.out 0
                    have hfz45_1 := blk_frozen BK126.out 1
                    have hfz45_2 := blk_frozen BK126.out 2
                    have hfz45_3 := blk_frozen BK126.out 3
                    have hfz45_4 := blk_frozen BK126.out 4
                    go_wp2_with (first | (go_at_call 70; (with_reducible refine (spec_l1Domain.calls kj3 ((rd_T57 l0 x3_1).f1) false _ A21.out).mono ?_); rintro e w46 ⟨rfl, hb⟩; have n0_ := Aside0.mk (blk_below (g := gb126) (o := .cells #[.int .i64 ((rd_T57 l0 x3_1).f0), .string ((rd_T57 l0 x3_1).f1), .int .i64 ((rd_T57 l0 x3_1).f2), .string ((rd_T57 l0 x3_1).f3.f0), .string ((rd_T57 l0 x3_1).f3.f1)] 57 (0, 0)) (by (with_reducible repeat (first | refine blk_drewN ?_ _ | refine blk_drew ?_ | refine blk_alloc ?_ _)); exact BK126.out) hb); have n1_ := Aside0.mk (below_step (by repeat (first | (with_reducible first | exact HB.out | apply below_alloc | apply pw_below_drewN | apply below_drew1 | refine below_set ?_ GE126.out) | exact HB.out)) hb); clear BK126; clear HB; have BK126 := n0_; have HB := n1_; clear n0_ n1_; (try clear hb); (try clear hb2); (try clear hk); (try clear hi)))
                    go_ret
                    exact ⟨by first | rfl | (simp [errW_none, errW_some] <;> rfl) | (simp [*, errW_none, errW_some] <;> rfl), by repeat (first | (with_reducible first | exact HB.out | apply below_alloc | apply pw_below_drewN | apply below_drew1 | refine below_set ?_ GE126.out) | exact HB.out)⟩
                · rw [if_neg c20] at H
                  have c20b0 : (((rd_T57 l0 x3_1).f0) == 1) = false := beq_eq_false_iff_ne.mpr c20
                  have c20b1 : (((rd_T57 l0 x3_1).f0) != 1) = true := bne_iff_ne.mpr c20
                  by_cases c47 : ((rd_T57 l0 x3_1).f2) = 3
                  · rw [if_pos c47] at H
                    have c47b0 : (((rd_T57 l0 x3_1).f2) == 3) = true := beq_iff_eq.mpr c47
                    have c47b1 : (((rd_T57 l0 x3_1).f2) != 3) = false := bne_eq_false_iff_eq.mpr c47
                    clear c47
                    replace H := Option.bind_eq_some_iff.mp H
                    obtain ⟨t133, A480, H⟩ := H
                    replace H : (if t133 = true then (spec_l13Ok.l0 kj3 l0 (wrap64 (x3_1 + 1))) else (some false)) = some r := H
                    have A48 := Aside0.mk A480
                    clear A480
                    by_cases c49 : t133 = true
                    · subst c49
                      have H1 : (spec_l13Ok.l0 kj3 l0 (wrap64 (x3_1 + 1))) = some r := by rw [if_pos rfl] at H; exact H
                      clear H
                      have H := H1
                      clear H1
                      have H' := Aside0.mk H
                      clear H
                      have hcz50_0 : wc.cell? ⟨gb126, 0, none⟩ = some (.int .i64 ((rd_T57 l0 x3_1).f0)) := (blk_cell BK126.out 0).trans rfl
                      have hcz50_1 : wc.cell? ⟨gb126, 1, none⟩ = some (.string ((rd_T57 l0 x3_1).f1)) := (blk_cell BK126.out 1).trans rfl
                      have hcz50_2 : wc.cell? ⟨gb126, 2, none⟩ = some (.int .i64 ((rd_T57 l0 x3_1).f2)) := (blk_cell BK126.out 2).trans rfl
                      have hcz50_3 : wc.cell? ⟨gb126, 3, none⟩ = some (.string ((rd_T57 l0 x3_1).f3.f0)) := (blk_cell BK126.out 3).trans rfl
                      have hcz50_4 : wc.cell? ⟨gb126, 4, none⟩ = some (.string ((rd_T57 l0 x3_1).f3.f1)) := (blk_cell BK126.out 4).trans rfl
                      have hfz50_0 := blk_frozen BK126.out 0
                      have hfz50_1 := blk_frozen BK126.out 1
                      have hfz50_2 := blk_frozen BK126.out 2
                      have hfz50_3 := blk_frozen BK126.out 3
                      have hfz50_4 := blk_frozen BK126.out 4
                      go_wp2_with (first | (go_at_call 71; (with_reducible refine (spec_l1AddrOk.calls kj3 ((rd_T57 l0 x3_1).f3.f0) ((rd_T57 l0 x3_1).f3.f1) true _ A48.out).mono ?_); rintro e w51 ⟨rfl, hb⟩; have n0_ := Aside0.mk (blk_below (g := gb126) (o := .cells #[.int .i64 ((rd_T57 l0 x3_1).f0), .string ((rd_T57 l0 x3_1).f1), .int .i64 ((rd_T57 l0 x3_1).f2), .string ((rd_T57 l0 x3_1).f3.f0), .string ((rd_T57 l0 x3_1).f3.f1)] 57 (0, 0)) (by (with_reducible repeat (first | refine blk_drewN ?_ _ | refine blk_drew ?_ | refine blk_alloc ?_ _)); exact BK126.out) hb); have n1_ := Aside0.mk (below_step (by repeat (first | (with_reducible first | exact HB.out | apply below_alloc | apply pw_below_drewN | apply below_drew1 | refine below_set ?_ GE126.out) | exact HB.out)) hb); clear BK126; clear HB; have BK126 := n0_; have HB := n1_; clear n0_ n1_; (try clear hb); (try clear hb2); (try clear hk); (try clear hi); have hcz52_0 : w51.cell? ⟨gb126, 0, none⟩ = some (.int .i64 ((rd_T57 l0 x3_1).f0)) := (blk_cell BK126.out 0).trans rfl; have hcz52_1 : w51.cell? ⟨gb126, 1, none⟩ = some (.string ((rd_T57 l0 x3_1).f1)) := (blk_cell BK126.out 1).trans rfl; have hcz52_2 : w51.cell? ⟨gb126, 2, none⟩ = some (.int .i64 ((rd_T57 l0 x3_1).f2)) := (blk_cell BK126.out 2).trans rfl; have hcz52_3 : w51.cell? ⟨gb126, 3, none⟩ = some (.string ((rd_T57 l0 x3_1).f3.f0)) := (blk_cell BK126.out 3).trans rfl; have hcz52_4 : w51.cell? ⟨gb126, 4, none⟩ = some (.string ((rd_T57 l0 x3_1).f3.f1)) := (blk_cell BK126.out 4).trans rfl; have hfz52_0 := blk_frozen BK126.out 0; have hfz52_1 := blk_frozen BK126.out 1; have hfz52_2 := blk_frozen BK126.out 2; have hfz52_3 := blk_frozen BK126.out 3; have hfz52_4 := blk_frozen BK126.out 4))
                      go_roundg kj3
                      case measure => have := HK1.out; have := HJ3.out; omega
                      case rel => exact ⟨(wrap64 (x3_1 + 1)), (by first | rfl | (simp; done) | (simp [*]; done)), H', ⟨by have := HK1.out; have := HJ3.out; omega⟩, ⟨by repeat (first | (with_reducible first | exact HB.out | apply below_alloc | apply pw_below_drewN | apply below_drew1 | refine below_set ?_ GE126.out) | exact HB.out)⟩⟩
                    · replace c49 := Bool.eq_false_iff.mpr c49
                      subst c49
                      have H1 : (some false) = some r := by rw [if_neg (show ¬ (false = true) by decide)] at H; exact H
                      clear H
                      have H := H1
                      clear H1
                      obtain rfl := Option.some.inj H
                      have hcz53_0 : wc.cell? ⟨gb126, 0, none⟩ = some (.int .i64 ((rd_T57 l0 x3_1).f0)) := (blk_cell BK126.out 0).trans rfl
                      have hcz53_1 : wc.cell? ⟨gb126, 1, none⟩ = some (.string ((rd_T57 l0 x3_1).f1)) := (blk_cell BK126.out 1).trans rfl
                      have hcz53_2 : wc.cell? ⟨gb126, 2, none⟩ = some (.int .i64 ((rd_T57 l0 x3_1).f2)) := (blk_cell BK126.out 2).trans rfl
                      have hcz53_3 : wc.cell? ⟨gb126, 3, none⟩ = some (.string ((rd_T57 l0 x3_1).f3.f0)) := (blk_cell BK126.out 3).trans rfl
                      have hcz53_4 : wc.cell? ⟨gb126, 4, none⟩ = some (.string ((rd_T57 l0 x3_1).f3.f1)) := (blk_cell BK126.out 4).trans rfl
                      have hfz53_0 := blk_frozen BK126.out 0
                      have hfz53_1 := blk_frozen BK126.out 1
                      have hfz53_2 := blk_frozen BK126.out 2
                      have hfz53_3 := blk_frozen BK126.out 3
                      have hfz53_4 := blk_frozen BK126.out 4
                      go_wp2_with (first | (go_at_call 71; (with_reducible refine (spec_l1AddrOk.calls kj3 ((rd_T57 l0 x3_1).f3.f0) ((rd_T57 l0 x3_1).f3.f1) false _ A48.out).mono ?_); rintro e w54 ⟨rfl, hb⟩; have n0_ := Aside0.mk (blk_below (g := gb126) (o := .cells #[.int .i64 ((rd_T57 l0 x3_1).f0), .string ((rd_T57 l0 x3_1).f1), .int .i64 ((rd_T57 l0 x3_1).f2), .string ((rd_T57 l0 x3_1).f3.f0), .string ((rd_T57 l0 x3_1).f3.f1)] 57 (0, 0)) (by (with_reducible repeat (first | refine blk_drewN ?_ _ | refine blk_drew ?_ | refine blk_alloc ?_ _)); exact BK126.out) hb); have n1_ := Aside0.mk (below_step (by repeat (first | (with_reducible first | exact HB.out | apply below_alloc | apply pw_below_drewN | apply below_drew1 | refine below_set ?_ GE126.out) | exact HB.out)) hb); clear BK126; clear HB; have BK126 := n0_; have HB := n1_; clear n0_ n1_; (try clear hb); (try clear hb2); (try clear hk); (try clear hi)))
                      go_ret
                      exact ⟨by first | rfl | (simp [errW_none, errW_some] <;> rfl) | (simp [*, errW_none, errW_some] <;> rfl), by repeat (first | (with_reducible first | exact HB.out | apply below_alloc | apply pw_below_drewN | apply below_drew1 | refine below_set ?_ GE126.out) | exact HB.out)⟩
                  · rw [if_neg c47] at H
                    have c47b0 : (((rd_T57 l0 x3_1).f2) == 3) = false := beq_eq_false_iff_ne.mpr c47
                    have c47b1 : (((rd_T57 l0 x3_1).f2) != 3) = true := bne_iff_ne.mpr c47
                    replace H := Option.bind_eq_some_iff.mp H
                    obtain ⟨t134, A550, H⟩ := H
                    replace H : (if t134 = true then (spec_l13Ok.l0 kj3 l0 (wrap64 (x3_1 + 1))) else (some false)) = some r := H
                    have A55 := Aside0.mk A550
                    clear A550
                    by_cases c56 : t134 = true
                    · subst c56
                      have H1 : (spec_l13Ok.l0 kj3 l0 (wrap64 (x3_1 + 1))) = some r := by rw [if_pos rfl] at H; exact H
                      clear H
                      have H := H1
                      clear H1
                      have H' := Aside0.mk H
                      clear H
                      have hcz57_0 : wc.cell? ⟨gb126, 0, none⟩ = some (.int .i64 ((rd_T57 l0 x3_1).f0)) := (blk_cell BK126.out 0).trans rfl
                      have hcz57_1 : wc.cell? ⟨gb126, 1, none⟩ = some (.string ((rd_T57 l0 x3_1).f1)) := (blk_cell BK126.out 1).trans rfl
                      have hcz57_2 : wc.cell? ⟨gb126, 2, none⟩ = some (.int .i64 ((rd_T57 l0 x3_1).f2)) := (blk_cell BK126.out 2).trans rfl
                      have hcz57_3 : wc.cell? ⟨gb126, 3, none⟩ = some (.string ((rd_T57 l0 x3_1).f3.f0)) := (blk_cell BK126.out 3).trans rfl
                      have hcz57_4 : wc.cell? ⟨gb126, 4, none⟩ = some (.string ((rd_T57 l0 x3_1).f3.f1)) := (blk_cell BK126.out 4).trans rfl
                      have hfz57_0 := blk_frozen BK126.out 0
                      have hfz57_1 := blk_frozen BK126.out 1
                      have hfz57_2 := blk_frozen BK126.out 2
                      have hfz57_3 := blk_frozen BK126.out 3
                      have hfz57_4 := blk_frozen BK126.out 4
                      go_wp2_with (first | (go_at_call 72; (with_reducible refine (spec_l1Null.calls ((rd_T57 l0 x3_1).f3.f0) ((rd_T57 l0 x3_1).f3.f1) true _ A55.out).mono ?_); rintro e w58 ⟨rfl, hb⟩; have n0_ := Aside0.mk (blk_below (g := gb126) (o := .cells #[.int .i64 ((rd_T57 l0 x3_1).f0), .string ((rd_T57 l0 x3_1).f1), .int .i64 ((rd_T57 l0 x3_1).f2), .string ((rd_T57 l0 x3_1).f3.f0), .string ((rd_T57 l0 x3_1).f3.f1)] 57 (0, 0)) (by (with_reducible repeat (first | refine blk_drewN ?_ _ | refine blk_drew ?_ | refine blk_alloc ?_ _)); exact BK126.out) hb); have n1_ := Aside0.mk (below_step (by repeat (first | (with_reducible first | exact HB.out | apply below_alloc | apply pw_below_drewN | apply below_drew1 | refine below_set ?_ GE126.out) | exact HB.out)) hb); clear BK126; clear HB; have BK126 := n0_; have HB := n1_; clear n0_ n1_; (try clear hb); (try clear hb2); (try clear hk); (try clear hi)))
                      go_roundg kj3
                      case measure => have := HK1.out; have := HJ3.out; omega
                      case rel => exact ⟨(wrap64 (x3_1 + 1)), (by first | rfl | (simp; done) | (simp [*]; done)), H', ⟨by have := HK1.out; have := HJ3.out; omega⟩, ⟨by repeat (first | (with_reducible first | exact HB.out | apply below_alloc | apply pw_below_drewN | apply below_drew1 | refine below_set ?_ GE126.out) | exact HB.out)⟩⟩
                    · replace c56 := Bool.eq_false_iff.mpr c56
                      subst c56
                      have H1 : (some false) = some r := by rw [if_neg (show ¬ (false = true) by decide)] at H; exact H
                      clear H
                      have H := H1
                      clear H1
                      obtain rfl := Option.some.inj H
                      have hcz59_0 : wc.cell? ⟨gb126, 0, none⟩ = some (.int .i64 ((rd_T57 l0 x3_1).f0)) := (blk_cell BK126.out 0).trans rfl
                      have hcz59_1 : wc.cell? ⟨gb126, 1, none⟩ = some (.string ((rd_T57 l0 x3_1).f1)) := (blk_cell BK126.out 1).trans rfl
                      have hcz59_2 : wc.cell? ⟨gb126, 2, none⟩ = some (.int .i64 ((rd_T57 l0 x3_1).f2)) := (blk_cell BK126.out 2).trans rfl
                      have hcz59_3 : wc.cell? ⟨gb126, 3, none⟩ = some (.string ((rd_T57 l0 x3_1).f3.f0)) := (blk_cell BK126.out 3).trans rfl
                      have hcz59_4 : wc.cell? ⟨gb126, 4, none⟩ = some (.string ((rd_T57 l0 x3_1).f3.f1)) := (blk_cell BK126.out 4).trans rfl
                      have hfz59_0 := blk_frozen BK126.out 0
                      have hfz59_1 := blk_frozen BK126.out 1
                      have hfz59_2 := blk_frozen BK126.out 2
                      have hfz59_3 := blk_frozen BK126.out 3
                      have hfz59_4 := blk_frozen BK126.out 4
                      go_wp2_with (first | (go_at_call 72; (with_reducible refine (spec_l1Null.calls ((rd_T57 l0 x3_1).f3.f0) ((rd_T57 l0 x3_1).f3.f1) false _ A55.out).mono ?_); rintro e w60 ⟨rfl, hb⟩; have n0_ := Aside0.mk (blk_below (g := gb126) (o := .cells #[.int .i64 ((rd_T57 l0 x3_1).f0), .string ((rd_T57 l0 x3_1).f1), .int .i64 ((rd_T57 l0 x3_1).f2), .string ((rd_T57 l0 x3_1).f3.f0), .string ((rd_T57 l0 x3_1).f3.f1)] 57 (0, 0)) (by (with_reducible repeat (first | refine blk_drewN ?_ _ | refine blk_drew ?_ | refine blk_alloc ?_ _)); exact BK126.out) hb); have n1_ := Aside0.mk (below_step (by repeat (first | (with_reducible first | exact HB.out | apply below_alloc | apply pw_below_drewN | apply below_drew1 | refine below_set ?_ GE126.out) | exact HB.out)) hb); clear BK126; clear HB; have BK126 := n0_; have HB := n1_; clear n0_ n1_; (try clear hb); (try clear hb2); (try clear hk); (try clear hi)))
                      go_ret
                      exact ⟨by first | rfl | (simp [errW_none, errW_some] <;> rfl) | (simp [*, errW_none, errW_some] <;> rfl), by repeat (first | (with_reducible first | exact HB.out | apply below_alloc | apply pw_below_drewN | apply below_drew1 | refine below_set ?_ GE126.out) | exact HB.out)⟩
        · rw [if_neg c3] at H
          exact absurd H (by simp)
      · rw [if_neg c2] at H
        have c2b0 : decide (x3_1 < (l0.length : Int)) = false := decide_eq_false c2
        clear c2
        obtain rfl := Option.some.inj H
        go_wp2
        go_ret
        exact ⟨by first | rfl | (simp [errW_none, errW_some] <;> rfl) | (simp [*, errW_none, errW_some] <;> rfl), by repeat (first | (with_reducible first | exact HB.out | apply below_alloc | apply pw_below_drewN | apply below_drew1) | exact HB.out)⟩

/-! ### spec_SieveOk: function 10 -/
def spec_SieveOk.f (k : Nat) (l0 : List (S57)) : Option (Bool) := (spec_l13Ok.f k l0).bind fun t135 => (some t135)
theorem spec_SieveOk.mono : ∀ a0 k, LeO (spec_SieveOk.f k a0) (spec_SieveOk.f (k + 1) a0) := by
  intro a0 k
  unfold spec_SieveOk.f
  repeat' first
      | (with_reducible exact spec_l13Ok.mono _ _)
      | (with_reducible exact LeO.refl _)
      | (with_reducible exact LeO.none _)
      | (with_reducible refine LeO.ite ?_ ?_)
      | (with_reducible refine LeO.bind ?_ (fun _ => ?_))
      | exact spec_l13Ok.mono _ _
      | exact LeO.none _
      | refine LeO.ite ?_ ?_
      | refine LeO.bind ?_ (fun _ => ?_)
set_option maxHeartbeats 8000000 in
set_option maxRecDepth 100000 in
theorem spec_SieveOk.calls (k : Nat) (A0 : Option Addr) (c0 : Nat) (l0 : List (S57)) (r : Bool) (w : World) (hr0 : Kd.C k57 w A0 l0.length l0) (hc0 : l0.length ≤ c0) (h : spec_SieveOk.f k l0 = some r) :
    Calls Tryd.prog 10 #[.slice A0 l0.length c0] w fun e w' => e = .returned (.bool r) ∧ Below w.heap.size w w' := by
  have HR0 := Aside0.mk hr0
  have HC0 := Aside0.mk hc0
  clear hr0 hc0
  have HB := Aside0.mk (Below.refl w.heap.size w)
  have H : ((spec_l13Ok.f k l0).bind fun t135 => (some t135)) = some r := h
  clear h
  replace H := Option.bind_eq_some_iff.mp H
  obtain ⟨t135, A20, H⟩ := H
  replace H : (some t135) = some r := H
  have A2 := Aside0.mk A20
  clear A20
  obtain rfl := Option.some.inj H
  go_enter Tryd.func10, Tryd.ntmps10
  go_wp2_with (first | ((with_reducible refine gate_callee (f := 34) rfl ?_); refine goesL_ (some 4) rfl rfl Tryd.func34 (by kernel_rfl) rfl #[.slice A0 l0.length c0] rfl (by (try simp only [List.map_toArray, List.map_cons, List.map_nil]); first | done | rfl | (simp only [List.length_drop, List.length_take]; rfl)) ?_; (with_reducible refine (spec_l13Ok.calls k _ _ l0 t135 _ ?side1 ?side2 A2.out).mono ?_); (case side1 => repeat (first | exact HR0.out | (with_reducible refine Kd.C_alloc ?_ _) | (with_reducible refine Kd.C_drewN ?_ _) | (with_reducible refine Kd.C_drew ?_))); (case side2 => exact HC0.out); rintro e w3 ⟨rfl, hb⟩; refine ⟨_, rfl, ?_⟩; have n0_ := Aside0.mk (below_step (by repeat (first | (with_reducible first | exact HB.out | apply below_alloc | apply pw_below_drewN | apply below_drew1) | exact HB.out)) hb); clear HB; have HB := n0_; clear n0_; (try clear hb); (try clear hb2); (try clear hk); (try clear hi)))
  go_ret
  exact ⟨by first | rfl | (simp [errW_none, errW_some] <;> rfl) | (simp [*, errW_none, errW_some] <;> rfl), by repeat (first | (with_reducible first | exact HB.out | apply below_alloc | apply pw_below_drewN | apply below_drew1) | exact HB.out)⟩

/-! ### laws_toAddr: function 61 -/
def laws_toAddr.f (a0_0 : ByteArray) (a0_1 : ByteArray) : Option (ByteArray × ByteArray) := some (a0_0, a0_1)
set_option maxHeartbeats 8000000 in
set_option maxRecDepth 100000 in
theorem laws_toAddr.calls (a0_0 : ByteArray) (a0_1 : ByteArray) (r1 : ByteArray) (r2 : ByteArray) (w : World) (h : laws_toAddr.f a0_0 a0_1 = some (r1, r2)) :
    Calls Tryd.prog 61 #[.agg #[.string a0_0, .string a0_1]] w fun e w' => e = .returned (.agg #[.string r1, .string r2]) ∧ Below w.heap.size w w' := by
  have hu48 := Tryd.underlying48
  have hu33 := Tryd.underlying33
  have HB := Aside0.mk (Below.refl w.heap.size w)
  have H : (some (a0_0, a0_1)) = some (r1, r2) := h
  clear h
  simp only [Option.some.injEq, Prod.mk.injEq] at H
  obtain ⟨rfl, rfl⟩ := H
  go_enter Tryd.func61, Tryd.ntmps61
  go_wp2_with (first | ((with_reducible refine gate_dst (N := 1) rfl ?_); refine box_event ?hg (N := 1) ?hd (cs := #[.string a0_0, .string a0_1]) (t := 48) ?hr ?_; (case hd => rfl); (case hg => rfl); (case hr => first | (go_simp; done) | (go_simp; rfl)); intro gb136 hg w2 hbox hb; have n0_ := Aside0.mk (below_step (by repeat (first | (with_reducible first | exact HB.out | apply below_alloc | apply pw_below_drewN | apply below_drew1) | exact HB.out)) hb); have n1_ := Aside0.mk (hbox); have n2_ := Aside0.mk ((by rw [hg]; exact (below_size (by repeat (first | (with_reducible first | exact HB.out | apply below_alloc | apply pw_below_drewN | apply below_drew1) | exact HB.out))) : w.heap.size ≤ gb136)); have n3_ := Aside0.mk ((by rw [hg]; exact (below_size (by repeat (first | (with_reducible first | exact HB.out | apply below_alloc | apply pw_below_drewN | apply below_drew1) | exact HB.out))) : w.heap.size ≤ gb136)); clear HB; have HB := n0_; have BK136 := n1_; have GW136 := n2_; have GE136 := n3_; clear n0_ n1_ n2_ n3_; clear hb hbox hg) | ((with_reducible refine gate_dst (N := 2) rfl ?_); refine box_event ?hg (N := 2) ?hd (cs := #[.string (⟨#[]⟩ : ByteArray), .string (⟨#[]⟩ : ByteArray)]) (t := 33) ?hr ?_; (case hd => rfl); (case hg => rfl); (case hr => first | (go_simp; done) | (go_simp; rfl)); intro gb137 hg w3 hbox hb; have n0_ := Aside0.mk (blk_below (g := gb136) (o := .cells #[.string a0_0, .string a0_1] 48 (0, 0)) (by (with_reducible repeat (first | refine blk_drewN ?_ _ | refine blk_drew ?_ | refine blk_alloc ?_ _)); exact BK136.out) hb); have n1_ := Aside0.mk (below_step (by repeat (first | (with_reducible first | exact HB.out | apply below_alloc | apply pw_below_drewN | apply below_drew1 | refine below_set ?_ GE136.out) | exact HB.out)) hb); have n2_ := Aside0.mk (hbox); have n3_ := Aside0.mk ((by rw [hg]; exact (below_size (by repeat (first | (with_reducible first | exact HB.out | apply below_alloc | apply pw_below_drewN | apply below_drew1 | refine below_set ?_ GE136.out) | exact HB.out))) : w.heap.size ≤ gb137)); have n4_ := Aside0.mk ((by rw [hg]; exact (below_size (by repeat (first | (with_reducible first | exact HB.out | apply below_alloc | apply pw_below_drewN | apply below_drew1 | refine below_set ?_ GE136.out) | exact HB.out))) : w.heap.size ≤ gb137)); have n5_ := Aside0.mk ((by rw [hg]; exact Nat.ne_of_lt (blk_lt (g := gb136) (o := .cells #[.string a0_0, .string a0_1] 48 (0, 0)) (by (with_reducible repeat (first | refine blk_drewN ?_ _ | refine blk_drew ?_ | refine blk_alloc ?_ _)); exact BK136.out)) : gb136 ≠ gb137)); have n6_ := Aside0.mk ((by rw [hg]; exact Nat.ne_of_gt (blk_lt (g := gb136) (o := .cells #[.string a0_0, .string a0_1] 48 (0, 0)) (by (with_reducible repeat (first | refine blk_drewN ?_ _ | refine blk_drew ?_ | refine blk_alloc ?_ _)); exact BK136.out)) : gb137 ≠ gb136)); clear BK136; clear HB; have BK136 := n0_; have HB := n1_; have BK137 := n2_; have GW137 := n3_; have GE137 := n4_; have NB136_137 := n5_; have NB137_136 := n6_; clear n0_ n1_ n2_ n3_ n4_ n5_ n6_; clear hb hbox hg) | ((with_reducible refine gate_dst (N := 3) rfl ?_); refine box_event ?hg (N := 3) ?hd (cs := #[.string (⟨#[]⟩ : ByteArray), .string (⟨#[]⟩ : ByteArray)]) (t := 33) ?hr ?_; (case hd => rfl); (case hg => rfl); (case hr => first | (go_simp; done) | (go_simp; rfl)); intro gb138 hg w4 hbox hb; have n0_ := Aside0.mk (blk_below (g := gb136) (o := .cells #[.string a0_0, .string a0_1] 48 (0, 0)) (by (with_reducible repeat (first | refine blk_drewN ?_ _ | refine blk_drew ?_ | refine blk_alloc ?_ _)); exact BK136.out) hb); have n1_ := Aside0.mk (blk_below (g := gb137) (o := .cells #[.string (⟨#[]⟩ : ByteArray), .string (⟨#[]⟩ : ByteArray)] 33 (0, 0)) (by (with_reducible repeat (first | refine blk_drewN ?_ _ | refine blk_drew ?_ | refine blk_alloc ?_ _)); exact BK137.out) hb); have n2_ := Aside0.mk (below_step (by repeat (first | (with_reducible first | exact HB.out | apply below_alloc | apply pw_below_drewN | apply below_drew1 | refine below_set ?_ GE136.out | refine below_set ?_ GE137.out) | exact HB.out)) hb); have n3_ := Aside0.mk (hbox); have n4_ := Aside0.mk ((by rw [hg]; exact (below_size (by repeat (first | (with_reducible first | exact HB.out | apply below_alloc | apply pw_below_drewN | apply below_drew1 | refine below_set ?_ GE136.out | refine below_set ?_ GE137.out) | exact HB.out))) : w.heap.size ≤ gb138)); have n5_ := Aside0.mk ((by rw [hg]; exact (below_size (by repeat (first | (with_reducible first | exact HB.out | apply below_alloc | apply pw_below_drewN | apply below_drew1 | refine below_set ?_ GE136.out | refine below_set ?_ GE137.out) | exact HB.out))) : w.heap.size ≤ gb138)); have n6_ := Aside0.mk ((by rw [hg]; exact Nat.ne_of_lt (blk_lt (g := gb136) (o := .cells #[.string a0_0, .string a0_1] 48 (0, 0)) (by (with_reducible repeat (first | refine blk_drewN ?_ _ | refine blk_drew ?_ | refine blk_alloc ?_ _)); exact BK136.out)) : gb136 ≠ gb138)); have n7_ := Aside0.mk ((by rw [hg]; exact Nat.ne_of_gt (blk_lt (g := gb136) (o := .cells #[.string a0_0, .string a0_1] 48 (0, 0)) (by (with_reducible repeat (first | refine blk_drewN ?_ _ | refine blk_drew ?_ | refine blk_alloc ?_ _)); exact BK136.out)) : gb138 ≠ gb136)); have n8_ := Aside0.mk ((by rw [hg]; exact Nat.ne_of_lt (blk_lt (g := gb137) (o := .cells #[.string (⟨#[]⟩ : ByteArray), .string (⟨#[]⟩ : ByteArray)] 33 (0, 0)) (by (with_reducible repeat (first | refine blk_drewN ?_ _ | refine blk_drew ?_ | refine blk_alloc ?_ _)); exact BK137.out)) : gb137 ≠ gb138)); have n9_ := Aside0.mk ((by rw [hg]; exact Nat.ne_of_gt (blk_lt (g := gb137) (o := .cells #[.string (⟨#[]⟩ : ByteArray), .string (⟨#[]⟩ : ByteArray)] 33 (0, 0)) (by (with_reducible repeat (first | refine blk_drewN ?_ _ | refine blk_drew ?_ | refine blk_alloc ?_ _)); exact BK137.out)) : gb138 ≠ gb137)); clear BK136; clear BK137; clear HB; have BK136 := n0_; have BK137 := n1_; have HB := n2_; have BK138 := n3_; have GW138 := n4_; have GE138 := n5_; have NB136_138 := n6_; have NB138_136 := n7_; have NB137_138 := n8_; have NB138_137 := n9_; clear n0_ n1_ n2_ n3_ n4_ n5_ n6_ n7_ n8_ n9_; clear hb hbox hg; have hnb5 := NB136_137.out; have hnc5 := NB137_136.out; have hnb6 := NB136_138.out; have hnc6 := NB138_136.out; have hcz7_0 : w4.cell? ⟨gb136, 0, none⟩ = some (.string a0_0) := (blk_cell BK136.out 0).trans rfl; have hcz7_1 : w4.cell? ⟨gb136, 1, none⟩ = some (.string a0_1) := (blk_cell BK136.out 1).trans rfl; have hfz7_0 := blk_frozen BK136.out 0; have hfz7_1 := blk_frozen BK136.out 1; have hnb8 := NB138_137.out; have hnc8 := NB137_138.out; have hcz9_0 : w4.cell? ⟨gb138, 0, none⟩ = some (.string (⟨#[]⟩ : ByteArray)) := (blk_cell BK138.out 0).trans rfl; have hcz9_1 : w4.cell? ⟨gb138, 1, none⟩ = some (.string (⟨#[]⟩ : ByteArray)) := (blk_cell BK138.out 1).trans rfl; have hfz9_0 := blk_frozen BK138.out 0; have hfz9_1 := blk_frozen BK138.out 1; have hcz10_0 : w4.cell? ⟨gb137, 0, none⟩ = some (.string (⟨#[]⟩ : ByteArray)) := (blk_cell BK137.out 0).trans rfl; have hcz10_1 : w4.cell? ⟨gb137, 1, none⟩ = some (.string (⟨#[]⟩ : ByteArray)) := (blk_cell BK137.out 1).trans rfl; have hfz10_0 := blk_frozen BK137.out 0; have hfz10_1 := blk_frozen BK137.out 1))
  refine bodyPost_ret (results_cell_row rfl _ _ gb137 33 #[.string a0_0, .string a0_1] (0, 0) _ rfl (by (with_reducible repeat (first | refine blk_drewN ?_ _ | refine blk_drew ?_ | refine blk_alloc ?_ _)); refine blk_put (cs := #[.string a0_0, .string (⟨#[]⟩ : ByteArray)]) ?_ 1 _ rfl; (with_reducible repeat (first | refine blk_drewN ?_ _ | refine blk_drew ?_ | refine blk_alloc ?_ _)); refine blk_put (cs := #[.string (⟨#[]⟩ : ByteArray), .string (⟨#[]⟩ : ByteArray)]) ?_ 0 _ rfl; (with_reducible repeat (first | refine blk_drewN ?_ _ | refine blk_drew ?_ | refine blk_alloc ?_ _)); refine blk_far ?_ NB137_138.out _; (with_reducible repeat (first | refine blk_drewN ?_ _ | refine blk_drew ?_ | refine blk_alloc ?_ _)); refine blk_far ?_ NB137_138.out _; (with_reducible repeat (first | refine blk_drewN ?_ _ | refine blk_drew ?_ | refine blk_alloc ?_ _)); exact BK137.out) Tryd.underlying33 rfl (by kernel_rfl)) rfl ?_
  exact ⟨by first | rfl | (simp [errW_none, errW_some] <;> rfl) | (simp [*, errW_none, errW_some] <;> rfl), by repeat (first | (with_reducible first | exact HB.out | apply below_alloc | apply pw_below_drewN | apply below_drew1 | refine below_set ?_ GE136.out | refine below_set ?_ GE137.out | refine below_set ?_ GE138.out) | exact HB.out)⟩

end Go.Proofs.YtomcaichidepnaaDoor.P
