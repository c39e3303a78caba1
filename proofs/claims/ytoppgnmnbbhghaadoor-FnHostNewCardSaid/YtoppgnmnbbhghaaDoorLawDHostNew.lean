/- The law FnHostNew, walked. -/
import Derived.Test.YtoppgnmnbbhghaaDoorDrawHostNew
import Derived.Test.YtoppgnmnbbhghaaDoorSaHost
import Derived.Test.YtoppgnmnbbhghaaDoorHostN
import Derived.Deep.RegionHeld3
namespace Go.Proofs.YtoppgnmnbbhghaaDoor
open Go.RowKit Go.Proofs.YtoppgnmnbbhghaaDoorW.PrintWords
set_option linter.unusedVariables false
set_option linter.unusedSimpArgs false
theorem bounds_u8' {n : Int} (h : (Lit.int .u8 n).wf = true) : 0 ≤ n ∧ n ≤ 255 := by
  simp [Lit.wf, IntKind.min, IntKind.max, IntKind.signed, IntKind.bits] at h
  omega

theorem cells7 {w : World} {b : Nat} {c0 c1 c2 c3 c4 c5 c6 : Value} {t : TypeId} (h : w.heap[b]? = some (.cells #[c0, c1, c2, c3, c4, c5, c6] t (0, 0))) : w.cell? ⟨b, 0, none⟩ = some c0 ∧ w.cell? ⟨b, 1, none⟩ = some c1 ∧ w.cell? ⟨b, 2, none⟩ = some c2 ∧ w.cell? ⟨b, 3, none⟩ = some c3 ∧ w.cell? ⟨b, 4, none⟩ = some c4 ∧ w.cell? ⟨b, 5, none⟩ = some c5 ∧ w.cell? ⟨b, 6, none⟩ = some c6 := by simp [World.cell?, h]
theorem hostConf_fit {c : SConf} (h : fitConf c) : fitConf (hostConf c) := by
  unfold hostConf
  split
  · exact h
  · exact ⟨Nat.zero_le _, ⟨Nat.zero_le _, fun y hy => by cases hy⟩, Nat.zero_le _, fun y hy => by cases hy⟩
set_option maxRecDepth 100000 in
set_option maxHeartbeats 40000000 in
theorem walk_FnHostNew {w : World} (A : Option Addr) (c : Nat) (xs : List Int) (hr : Kd.C (Kd.int .u8) w A xs.length xs) (hg : xs.length ≤ 9223372036854775807 ∧ ∀ y ∈ xs, (Lit.int .u8 y).wf = true) (hc : xs.length ≤ c) (hG : Glob w) :
    Calls Tryd.prog 3 #[.slice A xs.length c] w fun e w' => e = .returned (.bool true) ∧ Below w.heap.size w w' := by
  by_cases n_code : (1048576 : Int) < (xs.length : Int)
  · generalize xs.length = L at n_code
    go_enter Tryd.func3, Tryd.ntmps3
    go_wp2
    go_ret
    exact ⟨rfl, Below.refl _ _⟩
  have hd := drawHostNew_any A c xs w ⟨by omega, fun y hy => by have := bounds_u8' (hg.2 y hy); omega⟩ hc hr
  clear hr hg hc
  generalize xs.length = L at n_code hd
  go_enter Tryd.func3, Tryd.ntmps3
  go_wp2_with fail
  refine Calls.mono hd ?_
  rintro e w1 ⟨x, A0, c0, A1, c1, rfl, hf, r0, r1, b1⟩
  have HG := Lib.hid (hG.below b1)
  have BW := Lib.hid b1
  have SZ := Lib.hid b1.size
  clear hd hG b1

  have hfit := fit_mid hf
  have hfX := hostConf_fit hfit
  obtain ⟨X, hX⟩ : ∃ X, X = hostConf x := ⟨_, rfl⟩
  rw [← hX] at hfX
  have HX := Lib.hid hX.symm
  have HXE := Lib.hid hX
  have HXF := Lib.hid hfX
  have HF := Lib.hid hfit
  have Cx0 := Aside0.mk (Kd.R_reads' r0).2.2
  have Cx1 := Aside0.mk (Kd.R_reads' r1).2.2
  clear r0 r1 hfX hX hf hfit
  go_wp2_with fail
  refine Calls.mono (hostNew_any x A0 c0 A1 c1 _ HF.out (Kd.C_below Cx0.out (bel_alloc (Below.refl _ _) _)) (Kd.C_below Cx1.out (bel_alloc (Below.refl _ _) _)) (HG.out.below (bel_alloc (Below.refl _ _) _))) ?_
  rintro e w2 ⟨D0, d0, D1, d1, rfl, g0, g1, b2⟩
  simp only [HX.out] at g0 g1 ⊢
  have FC := below_blk (blk_new w1 (.cells #[.string x.f0, .slice A0 x.f1.length c0, .slice A1 x.f2.length c1] 26)) b2
  have B12 : Below w1.heap.size w1 w2 := bel_then (bel_alloc (Below.refl _ _) _) b2
  have z1 : w1.heap.size < w2.heap.size := blk_lt FC
  obtain ⟨c0_, c1_, c2_⟩ := cells3 FC
  clear b2
  go_wp2
  generalize hV3 : World.alloc w2 _ = V3
  have FH : V3.heap[w2.heap.size]? = some (.cells #[.string X.f0, .slice D0 X.f1.length d0, .slice D1 X.f2.length d1, .int .i64 0, .slice none 0 0, .slice none 0 0, .slice none 0 0] 34 (0, 0)) := by rw [← hV3]; exact blk_new _ _
  have b3 : Below w2.heap.size w2 V3 := by rw [← hV3]; exact bel_alloc (Below.refl _ _) _
  have z2 : w2.heap.size < V3.heap.size := blk_lt FH
  clear hV3 c0_ c1_ c2_
  have FC := below_blk FC b3
  have B13 : Below w1.heap.size w1 V3 := bel_then B12 b3
  have CX0 := Aside0.mk (Kd.C_below (Kd.R_reads' g0).2.2 b3)
  have CX1 := Aside0.mk (Kd.C_below (Kd.R_reads' g1).2.2 b3)
  replace Cx0 := Aside0.mk (Kd.C_below Cx0.out B13)
  replace Cx1 := Aside0.mk (Kd.C_below Cx1.out B13)
  have HG3 := Lib.hid (HG.out.below B13)
  have SZ3 := Lib.hid (BW.out.trans (B13.mono SZ.out))
  have HFC := Aside0.mk FC
  have HFH := Aside0.mk FH
  obtain ⟨q, hq⟩ : ∃ q, q = confOk x := ⟨_, rfl⟩
  have HQ := Lib.hid hq.symm
  have hok : ∀ W, Below V3.heap.size V3 W → Calls Tryd.prog 15 #[.agg #[.string x.f0, .slice A0 x.f1.length c0, .slice A1 x.f2.length c1]] W fun e w' => e = .returned (.bool q) ∧ Below W.heap.size W w' := fun W hW => by have h := confOk_any x A0 c0 A1 c1 W HF.out (Kd.C_below Cx0.out hW) (Kd.C_below Cx1.out hW) (HG3.out.below hW); rw [HQ.out] at h; exact h
  have hsp : ∀ W, Below V3.heap.size V3 W → Calls Tryd.prog 14 #[.agg #[.string x.f0, .slice A0 x.f1.length c0, .slice A1 x.f2.length c1]] W fun e w' => ∃ B0 d0 B1 d1, e = .returned (.agg #[.string X.f0, .slice B0 X.f1.length d0, .slice B1 X.f2.length d1, .int .i64 0, .slice none 0 0, .slice none 0 0, .slice none 0 0]) ∧ Kd.R Kd.string 9 w' W.heap.size (fun _ => True) (.slice B0 X.f1.length d0) X.f1 ∧ Kd.R kWay 102 w' W.heap.size (fun _ => True) (.slice B1 X.f2.length d1) X.f2 ∧ Below W.heap.size W w' := fun W hW => by have h := specHostNew_any x A0 c0 A1 c1 W HF.out (Kd.C_below Cx0.out hW) (Kd.C_below Cx1.out hW); rw [HX.out] at h; exact h
  have HK : Aside0 (∀ W W1, Below W.heap.size W W1 → (W.cell? ⟨w1.heap.size, 0, none⟩ = some (.string x.f0) ∧ W.cell? ⟨w1.heap.size, 1, none⟩ = some (.slice A0 x.f1.length c0) ∧ W.cell? ⟨w1.heap.size, 2, none⟩ = some (.slice A1 x.f2.length c1) ∧ W.cell? ⟨w2.heap.size, 0, none⟩ = some (.string X.f0) ∧ W.cell? ⟨w2.heap.size, 1, none⟩ = some (.slice D0 X.f1.length d0) ∧ W.cell? ⟨w2.heap.size, 2, none⟩ = some (.slice D1 X.f2.length d1) ∧ W.cell? ⟨w2.heap.size, 3, none⟩ = some (.int .i64 0) ∧ W.cell? ⟨w2.heap.size, 4, none⟩ = some (.slice none 0 0) ∧ W.cell? ⟨w2.heap.size, 5, none⟩ = some (.slice none 0 0) ∧ W.cell? ⟨w2.heap.size, 6, none⟩ = some (.slice none 0 0) ∧ Below V3.heap.size V3 W) → (W1.cell? ⟨w1.heap.size, 0, none⟩ = some (.string x.f0) ∧ W1.cell? ⟨w1.heap.size, 1, none⟩ = some (.slice A0 x.f1.length c0) ∧ W1.cell? ⟨w1.heap.size, 2, none⟩ = some (.slice A1 x.f2.length c1) ∧ W1.cell? ⟨w2.heap.size, 0, none⟩ = some (.string X.f0) ∧ W1.cell? ⟨w2.heap.size, 1, none⟩ = some (.slice D0 X.f1.length d0) ∧ W1.cell? ⟨w2.heap.size, 2, none⟩ = some (.slice D1 X.f2.length d1) ∧ W1.cell? ⟨w2.heap.size, 3, none⟩ = some (.int .i64 0) ∧ W1.cell? ⟨w2.heap.size, 4, none⟩ = some (.slice none 0 0) ∧ W1.cell? ⟨w2.heap.size, 5, none⟩ = some (.slice none 0 0) ∧ W1.cell? ⟨w2.heap.size, 6, none⟩ = some (.slice none 0 0) ∧ Below V3.heap.size V3 W1)) := ⟨fun W W1 hb h => ⟨(hb.cell (World.block_lt_of_cell? W _ (h.1))).trans (h.1), (hb.cell (World.block_lt_of_cell? W _ (h.2.1))).trans (h.2.1), (hb.cell (World.block_lt_of_cell? W _ (h.2.2.1))).trans (h.2.2.1), (hb.cell (World.block_lt_of_cell? W _ (h.2.2.2.1))).trans (h.2.2.2.1), (hb.cell (World.block_lt_of_cell? W _ (h.2.2.2.2.1))).trans (h.2.2.2.2.1), (hb.cell (World.block_lt_of_cell? W _ (h.2.2.2.2.2.1))).trans (h.2.2.2.2.2.1), (hb.cell (World.block_lt_of_cell? W _ (h.2.2.2.2.2.2.1))).trans (h.2.2.2.2.2.2.1), (hb.cell (World.block_lt_of_cell? W _ (h.2.2.2.2.2.2.2.1))).trans (h.2.2.2.2.2.2.2.1), (hb.cell (World.block_lt_of_cell? W _ (h.2.2.2.2.2.2.2.2.1))).trans (h.2.2.2.2.2.2.2.2.1), (hb.cell (World.block_lt_of_cell? W _ (h.2.2.2.2.2.2.2.2.2.1))).trans (h.2.2.2.2.2.2.2.2.2.1), bel_then (h.2.2.2.2.2.2.2.2.2.2) hb⟩⟩
  have HC3 : Aside0 (∀ W, Below V3.heap.size V3 W → W.cell? ⟨w1.heap.size, 0, none⟩ = some (.string x.f0) ∧ W.cell? ⟨w1.heap.size, 1, none⟩ = some (.slice A0 x.f1.length c0) ∧ W.cell? ⟨w1.heap.size, 2, none⟩ = some (.slice A1 x.f2.length c1) ∧ W.cell? ⟨w2.heap.size, 0, none⟩ = some (.string X.f0) ∧ W.cell? ⟨w2.heap.size, 1, none⟩ = some (.slice D0 X.f1.length d0) ∧ W.cell? ⟨w2.heap.size, 2, none⟩ = some (.slice D1 X.f2.length d1) ∧ W.cell? ⟨w2.heap.size, 3, none⟩ = some (.int .i64 0) ∧ W.cell? ⟨w2.heap.size, 4, none⟩ = some (.slice none 0 0) ∧ W.cell? ⟨w2.heap.size, 5, none⟩ = some (.slice none 0 0) ∧ W.cell? ⟨w2.heap.size, 6, none⟩ = some (.slice none 0 0)) := ⟨fun W h => by
    have h1 := cells3 (below_blk HFC.out h)
    have h2 := cells7 (below_blk HFH.out h)
    exact ⟨h1.1, h1.2.1, h1.2.2, h2.1, h2.2.1, h2.2.2.1, h2.2.2.2.1, h2.2.2.2.2.1, h2.2.2.2.2.2.1, h2.2.2.2.2.2.2⟩⟩
  have HST : Aside0 ((fun W => W.cell? ⟨w1.heap.size, 0, none⟩ = some (.string x.f0) ∧ W.cell? ⟨w1.heap.size, 1, none⟩ = some (.slice A0 x.f1.length c0) ∧ W.cell? ⟨w1.heap.size, 2, none⟩ = some (.slice A1 x.f2.length c1) ∧ W.cell? ⟨w2.heap.size, 0, none⟩ = some (.string X.f0) ∧ W.cell? ⟨w2.heap.size, 1, none⟩ = some (.slice D0 X.f1.length d0) ∧ W.cell? ⟨w2.heap.size, 2, none⟩ = some (.slice D1 X.f2.length d1) ∧ W.cell? ⟨w2.heap.size, 3, none⟩ = some (.int .i64 0) ∧ W.cell? ⟨w2.heap.size, 4, none⟩ = some (.slice none 0 0) ∧ W.cell? ⟨w2.heap.size, 5, none⟩ = some (.slice none 0 0) ∧ W.cell? ⟨w2.heap.size, 6, none⟩ = some (.slice none 0 0) ∧ Below V3.heap.size V3 W) V3.drew) := ⟨(by have h1 := cells3 (show V3.drew.heap[w1.heap.size]? = _ from HFC.out); have h2 := cells7 (show V3.drew.heap[w2.heap.size]? = _ from HFH.out); exact ⟨h1.1, h1.2.1, h1.2.2, h2.1, h2.2.1, h2.2.2.1, h2.2.2.2.1, h2.2.2.2.2.1, h2.2.2.2.2.2.1, h2.2.2.2.2.2.2, drew_below0 V3⟩)⟩
  clear g0 g1 B12 b3 B13 FC FH hq z1 z2
  cases q
  · -- not ok
    have join : Hid (∀ {goal : Prop} {G : Option Addr → Nat → Option Addr → Nat → World → Prop} (rg : Hid (∀ (E0 : Option Addr) (e0 : Nat) (E1 : Option Addr) (e1 : Nat) V, (V.cell? ⟨w1.heap.size, 0, none⟩ = some (.string x.f0) ∧ V.cell? ⟨w1.heap.size, 1, none⟩ = some (.slice A0 x.f1.length c0) ∧ V.cell? ⟨w1.heap.size, 2, none⟩ = some (.slice A1 x.f2.length c1) ∧ V.cell? ⟨w2.heap.size, 0, none⟩ = some (.string X.f0) ∧ V.cell? ⟨w2.heap.size, 1, none⟩ = some (.slice D0 X.f1.length d0) ∧ V.cell? ⟨w2.heap.size, 2, none⟩ = some (.slice D1 X.f2.length d1) ∧ V.cell? ⟨w2.heap.size, 3, none⟩ = some (.int .i64 0) ∧ V.cell? ⟨w2.heap.size, 4, none⟩ = some (.slice none 0 0) ∧ V.cell? ⟨w2.heap.size, 5, none⟩ = some (.slice none 0 0) ∧ V.cell? ⟨w2.heap.size, 6, none⟩ = some (.slice none 0 0) ∧ Below V3.heap.size V3 V) → G E0 e0 E1 e1 V) → goal) (hk : ∀ (E0 : Option Addr) (e0 : Nat) (E1 : Option Addr) (e1 : Nat) V, (V.cell? ⟨w1.heap.size, 0, none⟩ = some (.string x.f0) ∧ V.cell? ⟨w1.heap.size, 1, none⟩ = some (.slice A0 x.f1.length c0) ∧ V.cell? ⟨w1.heap.size, 2, none⟩ = some (.slice A1 x.f2.length c1) ∧ V.cell? ⟨w2.heap.size, 0, none⟩ = some (.string X.f0) ∧ V.cell? ⟨w2.heap.size, 1, none⟩ = some (.slice D0 X.f1.length d0) ∧ V.cell? ⟨w2.heap.size, 2, none⟩ = some (.slice D1 X.f2.length d1) ∧ V.cell? ⟨w2.heap.size, 3, none⟩ = some (.int .i64 0) ∧ V.cell? ⟨w2.heap.size, 4, none⟩ = some (.slice none 0 0) ∧ V.cell? ⟨w2.heap.size, 5, none⟩ = some (.slice none 0 0) ∧ V.cell? ⟨w2.heap.size, 6, none⟩ = some (.slice none 0 0) ∧ Below V3.heap.size V3 V) → G E0 e0 E1 e1 V), goal) := Lib.hid (fun f h => f (Lib.hid h))
    apply join.out
    case rg =>
      intro HKK
      refine wp_region_held_drew (S := (fun W => W.cell? ⟨w1.heap.size, 0, none⟩ = some (.string x.f0) ∧ W.cell? ⟨w1.heap.size, 1, none⟩ = some (.slice A0 x.f1.length c0) ∧ W.cell? ⟨w1.heap.size, 2, none⟩ = some (.slice A1 x.f2.length c1) ∧ W.cell? ⟨w2.heap.size, 0, none⟩ = some (.string X.f0) ∧ W.cell? ⟨w2.heap.size, 1, none⟩ = some (.slice D0 X.f1.length d0) ∧ W.cell? ⟨w2.heap.size, 2, none⟩ = some (.slice D1 X.f2.length d1) ∧ W.cell? ⟨w2.heap.size, 3, none⟩ = some (.int .i64 0) ∧ W.cell? ⟨w2.heap.size, 4, none⟩ = some (.slice none 0 0) ∧ W.cell? ⟨w2.heap.size, 5, none⟩ = some (.slice none 0 0) ∧ W.cell? ⟨w2.heap.size, 6, none⟩ = some (.slice none 0 0) ∧ Below V3.heap.size V3 W)) (by kernel_rfl) ?s1 (fun hHeld => ?t1)
      case s1 => exact HST.out
      generalize World.drew _ = V0 at hHeld ⊢
      refine wpAnyH_take (i := 0) (oi := { dst := some 12, op := Op.load 34 (Operand.tmp 4), type := 34, pos := "laws.go:795", after := #[], guard := none }) (v := ?v2) rfl (by kernel_rfl) (by kernel_rfl) (by kernel_rfl) (fun _ _ _ h => h) (Or.inl ⟨by rfl, ?y2⟩) (by assumption) ?r2
      case y2 => intro w_ hSw; (try dsimp only at hSw); go_simp; (try (with_reducible rfl))
      try simp only [Act.put, List.setIfInBounds_toArray, List.set_cons_zero, List.set_cons_succ]
      refine wpAnyH_take (i := 1) (oi := { dst := some 13, op := Op.load 26 (Operand.tmp 3), type := 26, pos := "laws.go:795", after := #[], guard := none }) (v := ?v3) rfl (by kernel_rfl) (by kernel_rfl) (by kernel_rfl) (fun _ _ _ h => h) (Or.inl ⟨by rfl, ?y3⟩) (by assumption) ?r3
      case y3 => intro w_ hSw; (try dsimp only at hSw); go_simp; (try (with_reducible rfl))
      try simp only [Act.put, List.setIfInBounds_toArray, List.set_cons_zero, List.set_cons_succ]
      refine wpAnyH_ready (rs := [2]) (by kernel_rfl) (by simp) ?_
      refine AllReadyH.cons (o := { dst := some 14, op := Op.call { callee := Callee.value (Operand.func 14), args := #[Operand.tmp 13], argTypes := #[26] }, type := 34, pos := "laws.go:795", after := #[{ on := 1, ground := Ground.data }], guard := none }) rfl (fun K hK => ?k4) AllReadyH.nil
      case k4 =>
        go_simp
        refine Calls.mono (hsp _ (hHeld.2.2.2.2.2.2.2.2.2.2)) ?_
        rintro e V2 ⟨E0, e0, E1, e1, rfl, k0, k1, b2⟩
        refine hK.out _ _ ?h5 (fun hHeld => ?j5)
        case h5 => exact HK.out _ _ b2 hHeld
        clear hK K
        try simp only [Act.put, List.setIfInBounds_toArray, List.set_cons_zero, List.set_cons_succ]
        have K0 := Aside0.mk (Kd.R_reads' k0).2.2
        have K1 := Aside0.mk (Kd.R_reads' k1).2.2
        clear k0 k1
        refine wpAnyH_ready (rs := [3]) (by kernel_rfl) (by simp) ?_
        refine AllReadyH.cons (o := { dst := some 15, op := Op.call { callee := Callee.value (Operand.func 13), args := #[Operand.tmp 12, Operand.tmp 14], argTypes := #[34, 34] }, type := 4, pos := "laws.go:795", after := #[{ on := 0, ground := Ground.data }, { on := 2, ground := Ground.data }, { on := 2, ground := Ground.chain }], guard := none }) rfl (fun K hK => ?k6) AllReadyH.nil
        case k6 =>
          go_simp
          refine Calls.mono (saHost0_any X D0 d0 D1 d1 E0 e0 E1 e1 _ HXF.out (Kd.C_below CX0.out (hHeld.2.2.2.2.2.2.2.2.2.2)) (Kd.C_below CX1.out (hHeld.2.2.2.2.2.2.2.2.2.2)) K0.out K1.out) ?_
          rintro e V3 ⟨rfl, b3⟩
          refine hK.out _ _ ?h7 (fun hHeld => ?j7)
          case h7 => exact HK.out _ _ b3 hHeld
          clear hK K
          try simp only [Act.put, List.setIfInBounds_toArray, List.set_cons_zero, List.set_cons_succ]
          replace K0 := Aside0.mk (Kd.C_below K0.out b3)
          replace K1 := Aside0.mk (Kd.C_below K1.out b3)
          refine wpAnyH_take (i := 4) (oi := { dst := some 16, op := Op.unOp UnOp.not 4 (Operand.tmp 15), type := 4, pos := "laws.go:795", after := #[{ on := 3, ground := Ground.data }], guard := none }) (v := ?v8) rfl (by kernel_rfl) (by kernel_rfl) (by kernel_rfl) (fun _ _ _ h => h) (Or.inl ⟨by rfl, ?y8⟩) (by assumption) ?r8
          case y8 => intro w_ hSw; (try dsimp only at hSw); go_simp; (try (with_reducible rfl))
          try simp only [Act.put, List.setIfInBounds_toArray, List.set_cons_zero, List.set_cons_succ]
          refine wpAnyH_take (i := 5) (oi := { dst := some 17, op := Op.move (Operand.tmp 16), type := 4, pos := "laws.go:795", after := #[{ on := 4, ground := Ground.data }, { on := 3, ground := Ground.chain }], guard := none }) (v := ?v9) rfl (by kernel_rfl) (by kernel_rfl) (by kernel_rfl) (fun _ _ _ h => h) (Or.inl ⟨by rfl, ?y9⟩) (by assumption) ?r9
          case y9 => intro w_ hSw; (try dsimp only at hSw); go_simp; (try (with_reducible rfl))
          try simp only [Act.put, List.setIfInBounds_toArray, List.set_cons_zero, List.set_cons_succ]
          refine wpAnyH_take (i := 6) (oi := { dst := some 18, op := Op.load 26 (Operand.tmp 3), type := 26, pos := "laws.go:795", after := #[{ on := 5, ground := Ground.guard }], guard := some (5, false) }) (v := ?v10) rfl (by kernel_rfl) (by kernel_rfl) (by kernel_rfl) (fun _ _ _ h => h) (Or.inl ⟨by rfl, ?y10⟩) (by assumption) ?r10
          case y10 => intro w_ hSw; (try dsimp only at hSw); go_simp; (try (with_reducible rfl))
          try simp only [Act.put, List.setIfInBounds_toArray, List.set_cons_zero, List.set_cons_succ]
          refine wpAnyH_ready (rs := [7]) (by kernel_rfl) (by simp) ?_
          refine AllReadyH.cons (o := { dst := some 19, op := Op.call { callee := Callee.value (Operand.func 15), args := #[Operand.tmp 18], argTypes := #[26] }, type := 4, pos := "laws.go:795", after := #[{ on := 6, ground := Ground.data }, { on := 5, ground := Ground.chain }, { on := 5, ground := Ground.guard }], guard := some (5, false) }) rfl (fun K hK => ?k11) AllReadyH.nil
          case k11 =>
            go_simp
            refine Calls.mono (hok _ (hHeld.2.2.2.2.2.2.2.2.2.2)) ?_
            rintro e V7 ⟨rfl, b7⟩
            refine hK.out _ _ ?h12 (fun hHeld => ?j12)
            case h12 => exact HK.out _ _ b7 hHeld
            clear hK K
            try simp only [Act.put, List.setIfInBounds_toArray, List.set_cons_zero, List.set_cons_succ]
            replace K0 := Aside0.mk (Kd.C_below K0.out b7)
            replace K1 := Aside0.mk (Kd.C_below K1.out b7)
            refine wpAnyH_take (i := 8) (oi := { dst := some 20, op := Op.unOp UnOp.not 4 (Operand.tmp 19), type := 4, pos := "laws.go:795", after := #[{ on := 7, ground := Ground.data }, { on := 5, ground := Ground.guard }], guard := some (5, false) }) (v := ?v13) rfl (by kernel_rfl) (by kernel_rfl) (by kernel_rfl) (fun _ _ _ h => h) (Or.inl ⟨by rfl, ?y13⟩) (by assumption) ?r13
            case y13 => intro w_ hSw; (try dsimp only at hSw); go_simp; (try (with_reducible rfl))
            try simp only [Act.put, List.setIfInBounds_toArray, List.set_cons_zero, List.set_cons_succ]
            refine wpAnyH_take (i := 9) (oi := { dst := some 21, op := Op.pick (Operand.tmp 17) (Operand.const (Value.bool true)) (Operand.tmp 20), type := 4, pos := "laws.go:795", after := #[{ on := 5, ground := Ground.data }, { on := 8, ground := Ground.data }], guard := none }) (v := ?v14) rfl (by kernel_rfl) (by kernel_rfl) (by kernel_rfl) (fun _ _ _ h => h) (Or.inl ⟨by rfl, ?y14⟩) (by assumption) ?r14
            case y14 => intro w_ hSw; (try dsimp only at hSw); go_simp; (try (with_reducible rfl))
            try simp only [Act.put, List.setIfInBounds_toArray, List.set_cons_zero, List.set_cons_succ]
            refine wpAnyH_done (by kernel_rfl) ?_ _
            exact HKK.out E0 e0 E1 e1 V7 hHeld
    case hk =>
      intro E0 e0 E1 e1 V hHeld
      clear join
      obtain ⟨c0_, c1_, c2_, c3_, c4_, c5_, c6_, c7_, c8_, c9_, B4⟩ := hHeld
      have HST2 : Aside0 ((fun W => W.cell? ⟨w1.heap.size, 0, none⟩ = some (.string x.f0) ∧ W.cell? ⟨w1.heap.size, 1, none⟩ = some (.slice A0 x.f1.length c0) ∧ W.cell? ⟨w1.heap.size, 2, none⟩ = some (.slice A1 x.f2.length c1) ∧ W.cell? ⟨w2.heap.size, 0, none⟩ = some (.string X.f0) ∧ W.cell? ⟨w2.heap.size, 1, none⟩ = some (.slice D0 X.f1.length d0) ∧ W.cell? ⟨w2.heap.size, 2, none⟩ = some (.slice D1 X.f2.length d1) ∧ W.cell? ⟨w2.heap.size, 3, none⟩ = some (.int .i64 0) ∧ W.cell? ⟨w2.heap.size, 4, none⟩ = some (.slice none 0 0) ∧ W.cell? ⟨w2.heap.size, 5, none⟩ = some (.slice none 0 0) ∧ W.cell? ⟨w2.heap.size, 6, none⟩ = some (.slice none 0 0) ∧ Below V3.heap.size V3 W) V.drew) := ⟨⟨c0_, c1_, c2_, c3_, c4_, c5_, c6_, c7_, c8_, c9_, bel_then B4 (drew_below0 V)⟩⟩
      clear c0_ c1_ c2_ c3_ c4_ c5_ c6_ c7_ c8_ c9_ HST
      go_wp2
      have join : Hid (∀ {goal : Prop} {G : Option Addr → Nat → Option Addr → Nat → World → Prop} (rg : Hid (∀ (E0 : Option Addr) (e0 : Nat) (E1 : Option Addr) (e1 : Nat) V, (V.cell? ⟨w1.heap.size, 0, none⟩ = some (.string x.f0) ∧ V.cell? ⟨w1.heap.size, 1, none⟩ = some (.slice A0 x.f1.length c0) ∧ V.cell? ⟨w1.heap.size, 2, none⟩ = some (.slice A1 x.f2.length c1) ∧ V.cell? ⟨w2.heap.size, 0, none⟩ = some (.string X.f0) ∧ V.cell? ⟨w2.heap.size, 1, none⟩ = some (.slice D0 X.f1.length d0) ∧ V.cell? ⟨w2.heap.size, 2, none⟩ = some (.slice D1 X.f2.length d1) ∧ V.cell? ⟨w2.heap.size, 3, none⟩ = some (.int .i64 0) ∧ V.cell? ⟨w2.heap.size, 4, none⟩ = some (.slice none 0 0) ∧ V.cell? ⟨w2.heap.size, 5, none⟩ = some (.slice none 0 0) ∧ V.cell? ⟨w2.heap.size, 6, none⟩ = some (.slice none 0 0) ∧ Below V3.heap.size V3 V) → G E0 e0 E1 e1 V) → goal) (hk : ∀ (E0 : Option Addr) (e0 : Nat) (E1 : Option Addr) (e1 : Nat) V, (V.cell? ⟨w1.heap.size, 0, none⟩ = some (.string x.f0) ∧ V.cell? ⟨w1.heap.size, 1, none⟩ = some (.slice A0 x.f1.length c0) ∧ V.cell? ⟨w1.heap.size, 2, none⟩ = some (.slice A1 x.f2.length c1) ∧ V.cell? ⟨w2.heap.size, 0, none⟩ = some (.string X.f0) ∧ V.cell? ⟨w2.heap.size, 1, none⟩ = some (.slice D0 X.f1.length d0) ∧ V.cell? ⟨w2.heap.size, 2, none⟩ = some (.slice D1 X.f2.length d1) ∧ V.cell? ⟨w2.heap.size, 3, none⟩ = some (.int .i64 0) ∧ V.cell? ⟨w2.heap.size, 4, none⟩ = some (.slice none 0 0) ∧ V.cell? ⟨w2.heap.size, 5, none⟩ = some (.slice none 0 0) ∧ V.cell? ⟨w2.heap.size, 6, none⟩ = some (.slice none 0 0) ∧ Below V3.heap.size V3 V) → G E0 e0 E1 e1 V), goal) := Lib.hid (fun f h => f (Lib.hid h))
      apply join.out
      case rg =>
        intro HKK
        refine wp_region_held_drew (S := (fun W => W.cell? ⟨w1.heap.size, 0, none⟩ = some (.string x.f0) ∧ W.cell? ⟨w1.heap.size, 1, none⟩ = some (.slice A0 x.f1.length c0) ∧ W.cell? ⟨w1.heap.size, 2, none⟩ = some (.slice A1 x.f2.length c1) ∧ W.cell? ⟨w2.heap.size, 0, none⟩ = some (.string X.f0) ∧ W.cell? ⟨w2.heap.size, 1, none⟩ = some (.slice D0 X.f1.length d0) ∧ W.cell? ⟨w2.heap.size, 2, none⟩ = some (.slice D1 X.f2.length d1) ∧ W.cell? ⟨w2.heap.size, 3, none⟩ = some (.int .i64 0) ∧ W.cell? ⟨w2.heap.size, 4, none⟩ = some (.slice none 0 0) ∧ W.cell? ⟨w2.heap.size, 5, none⟩ = some (.slice none 0 0) ∧ W.cell? ⟨w2.heap.size, 6, none⟩ = some (.slice none 0 0) ∧ Below V3.heap.size V3 W)) (by kernel_rfl) ?s29 (fun hHeld => ?t29)
        case s29 => exact HST2.out
        generalize World.drew _ = V0 at hHeld ⊢
        refine wpAnyH_take (i := 0) (oi := { dst := some 22, op := Op.load 34 (Operand.tmp 4), type := 34, pos := "laws.go:796", after := #[], guard := none }) (v := ?v30) rfl (by kernel_rfl) (by kernel_rfl) (by kernel_rfl) (fun _ _ _ h => h) (Or.inl ⟨by rfl, ?y30⟩) (by assumption) ?r30
        case y30 => intro w_ hSw; (try dsimp only at hSw); go_simp; (try (with_reducible rfl))
        try simp only [Act.put, List.setIfInBounds_toArray, List.set_cons_zero, List.set_cons_succ]
        refine wpAnyH_take (i := 1) (oi := { dst := some 23, op := Op.load 26 (Operand.tmp 3), type := 26, pos := "laws.go:796", after := #[], guard := none }) (v := ?v31) rfl (by kernel_rfl) (by kernel_rfl) (by kernel_rfl) (fun _ _ _ h => h) (Or.inl ⟨by rfl, ?y31⟩) (by assumption) ?r31
        case y31 => intro w_ hSw; (try dsimp only at hSw); go_simp; (try (with_reducible rfl))
        try simp only [Act.put, List.setIfInBounds_toArray, List.set_cons_zero, List.set_cons_succ]
        refine wpAnyH_ready (rs := [2]) (by kernel_rfl) (by simp) ?_
        refine AllReadyH.cons (o := { dst := some 24, op := Op.call { callee := Callee.value (Operand.func 14), args := #[Operand.tmp 23], argTypes := #[26] }, type := 34, pos := "laws.go:796", after := #[{ on := 1, ground := Ground.data }], guard := none }) rfl (fun K hK => ?k32) AllReadyH.nil
        case k32 =>
          go_simp
          refine Calls.mono (hsp _ (hHeld.2.2.2.2.2.2.2.2.2.2)) ?_
          rintro e V2 ⟨E0, e0, E1, e1, rfl, k0, k1, b2⟩
          refine hK.out _ _ ?h33 (fun hHeld => ?j33)
          case h33 => exact HK.out _ _ b2 hHeld
          clear hK K
          try simp only [Act.put, List.setIfInBounds_toArray, List.set_cons_zero, List.set_cons_succ]
          have K0 := Aside0.mk (Kd.R_reads' k0).2.2
          have K1 := Aside0.mk (Kd.R_reads' k1).2.2
          clear k0 k1
          refine wpAnyH_ready (rs := [3]) (by kernel_rfl) (by simp) ?_
          refine AllReadyH.cons (o := { dst := some 25, op := Op.call { callee := Callee.value (Operand.func 13), args := #[Operand.tmp 22, Operand.tmp 24], argTypes := #[34, 34] }, type := 4, pos := "laws.go:796", after := #[{ on := 0, ground := Ground.data }, { on := 2, ground := Ground.data }, { on := 2, ground := Ground.chain }], guard := none }) rfl (fun K hK => ?k34) AllReadyH.nil
          case k34 =>
            go_simp
            refine Calls.mono (saHost0_any X D0 d0 D1 d1 E0 e0 E1 e1 _ HXF.out (Kd.C_below CX0.out (hHeld.2.2.2.2.2.2.2.2.2.2)) (Kd.C_below CX1.out (hHeld.2.2.2.2.2.2.2.2.2.2)) K0.out K1.out) ?_
            rintro e V3 ⟨rfl, b3⟩
            refine hK.out _ _ ?h35 (fun hHeld => ?j35)
            case h35 => exact HK.out _ _ b3 hHeld
            clear hK K
            try simp only [Act.put, List.setIfInBounds_toArray, List.set_cons_zero, List.set_cons_succ]
            replace K0 := Aside0.mk (Kd.C_below K0.out b3)
            replace K1 := Aside0.mk (Kd.C_below K1.out b3)
            refine wpAnyH_take (i := 4) (oi := { dst := some 2, op := Op.assign (Operand.tmp 25), type := 4, pos := "laws.go:796", after := #[{ on := 3, ground := Ground.data }, { on := 3, ground := Ground.chain }, { on := 0, ground := Ground.phase }, { on := 1, ground := Ground.phase }, { on := 2, ground := Ground.phase }, { on := 3, ground := Ground.phase }], guard := none }) (v := ?v36) rfl (by kernel_rfl) (by kernel_rfl) (by kernel_rfl) (fun _ _ _ h => h) (Or.inl ⟨by rfl, ?y36⟩) (by assumption) ?r36
            case y36 => intro w_ hSw; (try dsimp only at hSw); go_simp; (try (with_reducible rfl))
            try simp only [Act.put, List.setIfInBounds_toArray, List.set_cons_zero, List.set_cons_succ]
            refine wpAnyH_done (by kernel_rfl) ?_ _
            exact HKK.out E0 e0 E1 e1 V3 hHeld
      case hk =>
        intro E0 e0 E1 e1 V hHeld
        clear join
        obtain ⟨c0_, c1_, c2_, c3_, c4_, c5_, c6_, c7_, c8_, c9_, B4⟩ := hHeld
        go_wp2
        go_ret
        exact ⟨rfl, SZ3.out.trans (B4.mono SZ3.out.size)⟩
  · -- ok
    have join : Hid (∀ {goal : Prop} {G : Option Addr → Nat → Option Addr → Nat → World → Prop} (rg : Hid (∀ (E0 : Option Addr) (e0 : Nat) (E1 : Option Addr) (e1 : Nat) V, (V.cell? ⟨w1.heap.size, 0, none⟩ = some (.string x.f0) ∧ V.cell? ⟨w1.heap.size, 1, none⟩ = some (.slice A0 x.f1.length c0) ∧ V.cell? ⟨w1.heap.size, 2, none⟩ = some (.slice A1 x.f2.length c1) ∧ V.cell? ⟨w2.heap.size, 0, none⟩ = some (.string X.f0) ∧ V.cell? ⟨w2.heap.size, 1, none⟩ = some (.slice D0 X.f1.length d0) ∧ V.cell? ⟨w2.heap.size, 2, none⟩ = some (.slice D1 X.f2.length d1) ∧ V.cell? ⟨w2.heap.size, 3, none⟩ = some (.int .i64 0) ∧ V.cell? ⟨w2.heap.size, 4, none⟩ = some (.slice none 0 0) ∧ V.cell? ⟨w2.heap.size, 5, none⟩ = some (.slice none 0 0) ∧ V.cell? ⟨w2.heap.size, 6, none⟩ = some (.slice none 0 0) ∧ Below V3.heap.size V3 V) → G E0 e0 E1 e1 V) → goal) (hk : ∀ (E0 : Option Addr) (e0 : Nat) (E1 : Option Addr) (e1 : Nat) V, (V.cell? ⟨w1.heap.size, 0, none⟩ = some (.string x.f0) ∧ V.cell? ⟨w1.heap.size, 1, none⟩ = some (.slice A0 x.f1.length c0) ∧ V.cell? ⟨w1.heap.size, 2, none⟩ = some (.slice A1 x.f2.length c1) ∧ V.cell? ⟨w2.heap.size, 0, none⟩ = some (.string X.f0) ∧ V.cell? ⟨w2.heap.size, 1, none⟩ = some (.slice D0 X.f1.length d0) ∧ V.cell? ⟨w2.heap.size, 2, none⟩ = some (.slice D1 X.f2.length d1) ∧ V.cell? ⟨w2.heap.size, 3, none⟩ = some (.int .i64 0) ∧ V.cell? ⟨w2.heap.size, 4, none⟩ = some (.slice none 0 0) ∧ V.cell? ⟨w2.heap.size, 5, none⟩ = some (.slice none 0 0) ∧ V.cell? ⟨w2.heap.size, 6, none⟩ = some (.slice none 0 0) ∧ Below V3.heap.size V3 V) → G E0 e0 E1 e1 V), goal) := Lib.hid (fun f h => f (Lib.hid h))
    apply join.out
    case rg =>
      intro HKK
      refine wp_region_held_drew (S := (fun W => W.cell? ⟨w1.heap.size, 0, none⟩ = some (.string x.f0) ∧ W.cell? ⟨w1.heap.size, 1, none⟩ = some (.slice A0 x.f1.length c0) ∧ W.cell? ⟨w1.heap.size, 2, none⟩ = some (.slice A1 x.f2.length c1) ∧ W.cell? ⟨w2.heap.size, 0, none⟩ = some (.string X.f0) ∧ W.cell? ⟨w2.heap.size, 1, none⟩ = some (.slice D0 X.f1.length d0) ∧ W.cell? ⟨w2.heap.size, 2, none⟩ = some (.slice D1 X.f2.length d1) ∧ W.cell? ⟨w2.heap.size, 3, none⟩ = some (.int .i64 0) ∧ W.cell? ⟨w2.heap.size, 4, none⟩ = some (.slice none 0 0) ∧ W.cell? ⟨w2.heap.size, 5, none⟩ = some (.slice none 0 0) ∧ W.cell? ⟨w2.heap.size, 6, none⟩ = some (.slice none 0 0) ∧ Below V3.heap.size V3 W)) (by kernel_rfl) ?s15 (fun hHeld => ?t15)
      case s15 => exact HST.out
      generalize World.drew _ = V0 at hHeld ⊢
      refine wpAnyH_take (i := 0) (oi := { dst := some 12, op := Op.load 34 (Operand.tmp 4), type := 34, pos := "laws.go:795", after := #[], guard := none }) (v := ?v16) rfl (by kernel_rfl) (by kernel_rfl) (by kernel_rfl) (fun _ _ _ h => h) (Or.inl ⟨by rfl, ?y16⟩) (by assumption) ?r16
      case y16 => intro w_ hSw; (try dsimp only at hSw); go_simp; (try (with_reducible rfl))
      try simp only [Act.put, List.setIfInBounds_toArray, List.set_cons_zero, List.set_cons_succ]
      refine wpAnyH_take (i := 1) (oi := { dst := some 13, op := Op.load 26 (Operand.tmp 3), type := 26, pos := "laws.go:795", after := #[], guard := none }) (v := ?v17) rfl (by kernel_rfl) (by kernel_rfl) (by kernel_rfl) (fun _ _ _ h => h) (Or.inl ⟨by rfl, ?y17⟩) (by assumption) ?r17
      case y17 => intro w_ hSw; (try dsimp only at hSw); go_simp; (try (with_reducible rfl))
      try simp only [Act.put, List.setIfInBounds_toArray, List.set_cons_zero, List.set_cons_succ]
      refine wpAnyH_ready (rs := [2]) (by kernel_rfl) (by simp) ?_
      refine AllReadyH.cons (o := { dst := some 14, op := Op.call { callee := Callee.value (Operand.func 14), args := #[Operand.tmp 13], argTypes := #[26] }, type := 34, pos := "laws.go:795", after := #[{ on := 1, ground := Ground.data }], guard := none }) rfl (fun K hK => ?k18) AllReadyH.nil
      case k18 =>
        go_simp
        refine Calls.mono (hsp _ (hHeld.2.2.2.2.2.2.2.2.2.2)) ?_
        rintro e V2 ⟨E0, e0, E1, e1, rfl, k0, k1, b2⟩
        refine hK.out _ _ ?h19 (fun hHeld => ?j19)
        case h19 => exact HK.out _ _ b2 hHeld
        clear hK K
        try simp only [Act.put, List.setIfInBounds_toArray, List.set_cons_zero, List.set_cons_succ]
        have K0 := Aside0.mk (Kd.R_reads' k0).2.2
        have K1 := Aside0.mk (Kd.R_reads' k1).2.2
        clear k0 k1
        refine wpAnyH_ready (rs := [3]) (by kernel_rfl) (by simp) ?_
        refine AllReadyH.cons (o := { dst := some 15, op := Op.call { callee := Callee.value (Operand.func 13), args := #[Operand.tmp 12, Operand.tmp 14], argTypes := #[34, 34] }, type := 4, pos := "laws.go:795", after := #[{ on := 0, ground := Ground.data }, { on := 2, ground := Ground.data }, { on := 2, ground := Ground.chain }], guard := none }) rfl (fun K hK => ?k20) AllReadyH.nil
        case k20 =>
          go_simp
          refine Calls.mono (saHost0_any X D0 d0 D1 d1 E0 e0 E1 e1 _ HXF.out (Kd.C_below CX0.out (hHeld.2.2.2.2.2.2.2.2.2.2)) (Kd.C_below CX1.out (hHeld.2.2.2.2.2.2.2.2.2.2)) K0.out K1.out) ?_
          rintro e V3 ⟨rfl, b3⟩
          refine hK.out _ _ ?h21 (fun hHeld => ?j21)
          case h21 => exact HK.out _ _ b3 hHeld
          clear hK K
          try simp only [Act.put, List.setIfInBounds_toArray, List.set_cons_zero, List.set_cons_succ]
          replace K0 := Aside0.mk (Kd.C_below K0.out b3)
          replace K1 := Aside0.mk (Kd.C_below K1.out b3)
          refine wpAnyH_take (i := 4) (oi := { dst := some 16, op := Op.unOp UnOp.not 4 (Operand.tmp 15), type := 4, pos := "laws.go:795", after := #[{ on := 3, ground := Ground.data }], guard := none }) (v := ?v22) rfl (by kernel_rfl) (by kernel_rfl) (by kernel_rfl) (fun _ _ _ h => h) (Or.inl ⟨by rfl, ?y22⟩) (by assumption) ?r22
          case y22 => intro w_ hSw; (try dsimp only at hSw); go_simp; (try (with_reducible rfl))
          try simp only [Act.put, List.setIfInBounds_toArray, List.set_cons_zero, List.set_cons_succ]
          refine wpAnyH_take (i := 5) (oi := { dst := some 17, op := Op.move (Operand.tmp 16), type := 4, pos := "laws.go:795", after := #[{ on := 4, ground := Ground.data }, { on := 3, ground := Ground.chain }], guard := none }) (v := ?v23) rfl (by kernel_rfl) (by kernel_rfl) (by kernel_rfl) (fun _ _ _ h => h) (Or.inl ⟨by rfl, ?y23⟩) (by assumption) ?r23
          case y23 => intro w_ hSw; (try dsimp only at hSw); go_simp; (try (with_reducible rfl))
          try simp only [Act.put, List.setIfInBounds_toArray, List.set_cons_zero, List.set_cons_succ]
          refine wpAnyH_take (i := 6) (oi := { dst := some 18, op := Op.load 26 (Operand.tmp 3), type := 26, pos := "laws.go:795", after := #[{ on := 5, ground := Ground.guard }], guard := some (5, false) }) (v := ?v24) rfl (by kernel_rfl) (by kernel_rfl) (by kernel_rfl) (fun _ _ _ h => h) (Or.inl ⟨by rfl, ?y24⟩) (by assumption) ?r24
          case y24 => intro w_ hSw; (try dsimp only at hSw); go_simp; (try (with_reducible rfl))
          try simp only [Act.put, List.setIfInBounds_toArray, List.set_cons_zero, List.set_cons_succ]
          refine wpAnyH_ready (rs := [7]) (by kernel_rfl) (by simp) ?_
          refine AllReadyH.cons (o := { dst := some 19, op := Op.call { callee := Callee.value (Operand.func 15), args := #[Operand.tmp 18], argTypes := #[26] }, type := 4, pos := "laws.go:795", after := #[{ on := 6, ground := Ground.data }, { on := 5, ground := Ground.chain }, { on := 5, ground := Ground.guard }], guard := some (5, false) }) rfl (fun K hK => ?k25) AllReadyH.nil
          case k25 =>
            go_simp
            refine Calls.mono (hok _ (hHeld.2.2.2.2.2.2.2.2.2.2)) ?_
            rintro e V7 ⟨rfl, b7⟩
            refine hK.out _ _ ?h26 (fun hHeld => ?j26)
            case h26 => exact HK.out _ _ b7 hHeld
            clear hK K
            try simp only [Act.put, List.setIfInBounds_toArray, List.set_cons_zero, List.set_cons_succ]
            replace K0 := Aside0.mk (Kd.C_below K0.out b7)
            replace K1 := Aside0.mk (Kd.C_below K1.out b7)
            refine wpAnyH_take (i := 8) (oi := { dst := some 20, op := Op.unOp UnOp.not 4 (Operand.tmp 19), type := 4, pos := "laws.go:795", after := #[{ on := 7, ground := Ground.data }, { on := 5, ground := Ground.guard }], guard := some (5, false) }) (v := ?v27) rfl (by kernel_rfl) (by kernel_rfl) (by kernel_rfl) (fun _ _ _ h => h) (Or.inl ⟨by rfl, ?y27⟩) (by assumption) ?r27
            case y27 => intro w_ hSw; (try dsimp only at hSw); go_simp; (try (with_reducible rfl))
            try simp only [Act.put, List.setIfInBounds_toArray, List.set_cons_zero, List.set_cons_succ]
            refine wpAnyH_take (i := 9) (oi := { dst := some 21, op := Op.pick (Operand.tmp 17) (Operand.const (Value.bool true)) (Operand.tmp 20), type := 4, pos := "laws.go:795", after := #[{ on := 5, ground := Ground.data }, { on := 8, ground := Ground.data }], guard := none }) (v := ?v28) rfl (by kernel_rfl) (by kernel_rfl) (by kernel_rfl) (fun _ _ _ h => h) (Or.inl ⟨by rfl, ?y28⟩) (by assumption) ?r28
            case y28 => intro w_ hSw; (try dsimp only at hSw); go_simp; (try (with_reducible rfl))
            try simp only [Act.put, List.setIfInBounds_toArray, List.set_cons_zero, List.set_cons_succ]
            refine wpAnyH_done (by kernel_rfl) ?_ _
            exact HKK.out E0 e0 E1 e1 V7 hHeld
    case hk =>
      intro E0 e0 E1 e1 V hHeld
      clear join
      obtain ⟨c0_, c1_, c2_, c3_, c4_, c5_, c6_, c7_, c8_, c9_, B4⟩ := hHeld
      have hXx : x = X := by rw [HXE.out]; exact (if_pos HQ.out).symm
      have HXO := Lib.hid (show confOk X = true by rw [← hXx]; exact HQ.out)
      have hsc : ∀ W, Below V3.heap.size V3 W → Calls Tryd.prog 18 #[.agg #[.string X.f0, .slice D0 X.f1.length d0, .slice D1 X.f2.length d1], .agg #[.string x.f0, .slice A0 x.f1.length c0, .slice A1 x.f2.length c1]] W fun e w' => e = .returned (.bool true) ∧ Below W.heap.size W w' := fun W hW => by
        have k0 := Kd.C_below Cx0.out hW
        have k1 := Kd.C_below Cx1.out hW
        have g0 := Kd.C_below CX0.out hW
        have g1 := Kd.C_below CX1.out hW
        have hf := HXF.out
        subst hXx
        exact saConf_any x D0 d0 D1 d1 A0 c0 A1 c1 W hf g0 g1 k0 k1
      clear hXx HST HK hok hsp
      go_wp2_with fail
      refine Calls.mono (hostOk0_any X D0 d0 D1 d1 _ HXF.out HXO.out (Kd.C_below CX0.out B4) (Kd.C_below CX1.out B4) (HG3.out.below B4)) ?_
      rintro e w5 ⟨rfl, b5⟩
      have B5 := bel_then B4 b5
      clear c0_ c1_ c2_ c3_ c4_ c5_ c6_ c7_ c8_ c9_ b5
      obtain ⟨c0_, c1_, c2_, c3_, c4_, c5_, c6_, c7_, c8_, c9_⟩ := HC3.out _ B5
      go_wp2_with fail
      refine Calls.mono (by have h := spoolMany_any ⟨0, []⟩ none 0 _ fitSpool0 (Kd.C_nil _ _) (HG3.out.below B5); rw [spoolMany0] at h; exact h) ?_
      rintro e w6 ⟨rfl, b6⟩
      have B6 := bel_then B5 b6
      clear c0_ c1_ c2_ c3_ c4_ c5_ c6_ c7_ c8_ c9_ b6
      obtain ⟨c0_, c1_, c2_, c3_, c4_, c5_, c6_, c7_, c8_, c9_⟩ := HC3.out _ B6
      go_wp2_with fail
      refine Calls.mono (hsc _ B6) ?_
      rintro e w7 ⟨rfl, b7⟩
      have B7 := bel_then B6 b7
      clear c0_ c1_ c2_ c3_ c4_ c5_ c6_ c7_ c8_ c9_ b7
      obtain ⟨c0_, c1_, c2_, c3_, c4_, c5_, c6_, c7_, c8_, c9_⟩ := HC3.out _ B7
      go_wp2
      go_ret
      exact ⟨rfl, SZ3.out.trans (B7.mono SZ3.out.size)⟩

end Go.Proofs.YtoppgnmnbbhghaaDoor
