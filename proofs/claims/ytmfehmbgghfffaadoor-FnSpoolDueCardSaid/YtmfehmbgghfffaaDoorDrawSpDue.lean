/- A drawn spool and a time, of bytes: a contract. -/
import Derived.Test.YtmfehmbgghfffaaDoorDrwAnySp
import Derived.Test.YtmfehmbgghfffaaDoorDrw0
namespace Go.Proofs.YtmfehmbgghfffaaDoor
open Go.RowKit Go.Proofs.YtmfehmbgghfffaaDoorW.PrintWords
set_option linter.unusedVariables false
set_option linter.unusedSimpArgs false

set_option maxRecDepth 100000 in
set_option maxHeartbeats 2000000 in
theorem drawSpoolDue_any (A : Option Addr) (c : Nat) (xs : List Int) (w : World) (hw : fitBytes xs) (hc : xs.length ≤ c) (hr : Kd.C (Kd.int .u8) w A xs.length xs) :
    Calls Tryd.prog 9 #[.slice A xs.length c] w fun e w' => ∃ (s : SSpool) (B : Option Addr) (d : Nat) (now : Int), e = .returned (.tuple #[.agg #[.int .i64 s.f0, .slice B s.f1.length d], .int .i64 now]) ∧ wideS s ∧ (0 ≤ now ∧ now ≤ 100) ∧ Kd.R kItem 37 w' w.heap.size (fun _ => True) (.slice B s.f1.length d) s.f1 ∧ Below w.heap.size w w' := by
  have ho := fun W (hW : Below w.heap.size w W) => drOpen_any A c xs W hw hc (Kd.C_below hr hW)
  clear hw hc hr
  generalize xs.length = L at ho
  go_enter Tryd.func9, Tryd.ntmps9
  go_wp2_with fail
  refine Calls.mono (ho _ (bel_alloc (Below.refl _ _) _)) ?_
  rintro e w1 ⟨g, rfl, hg, hR, b1⟩
  have hg1 : w.heap.size < g := by simp at hg; omega
  have f0 := below_blk (blk_new w (.cells #[.int .i64 0, .slice none 0 0] 25)) b1
  have B1 : Below w.heap.size w w1 := bel_then (bel_alloc (Below.refl _ _) _) b1
  have hgl : g < w1.heap.size := hR.lt
  clear ho b1 hg
  go_wp2_with fail
  refine Calls.mono (drAnySpool_any g 0 w1 hR (by omega)) ?_
  rintro e w2 ⟨⟨la, ys⟩, B, d, rfl, hs, hq, hR2, hd⟩
  dsimp only at hq ⊢
  have f0 := hd.blk f0 (by omega)
  have B2 : Below w.heap.size w w2 := B1.trans (hd.bel (by omega) B1.size)
  have HQ := Aside0.mk hq
  have HR := Aside0.mk hR2
  have HD := Aside0.mk hd
  have HS := Lib.hid hs
  have HB := Lib.hid B1
  have hw12 := hd.size
  have F2 := Aside0.mk f0
  clear hd hR hq hR2 hs B1 B2 f0
  go_wp2_with fail
  generalize hW2 : World.alloc w2 _ = w3
  have b2 : Below w2.heap.size w2 w3 := by rw [← hW2]; exact bel_alloc (Below.refl _ _) _
  have F1 : Aside0 (w3.heap[w2.heap.size]? = some (.cells #[.int .i64 la, .slice B ys.length d] 25 (0, 0))) := ⟨by rw [← hW2]; exact blk_new _ _⟩
  clear hW2
  replace F2 := Aside0.mk (below_blk F2.out b2)
  replace HQ := Aside0.mk (Kd.R_below HQ.out b2)
  replace HR := Aside0.mk (HR.out.below b2)
  replace HD := Aside0.mk (HD.out.below b2)
  have yw3 := HD.out.size
  clear b2
  have cF1_0 : w3.cell? ⟨w2.heap.size, 0, none⟩ = some (.int .i64 la) := by have h_ := F1.out; simp [World.cell?, h_]
  have dF1_0 : w3.frozen? ⟨w2.heap.size, 0, none⟩ = false := by have h_ := F1.out; simp [World.frozen?, h_]
  have cF1_1 : w3.cell? ⟨w2.heap.size, 1, none⟩ = some (.slice B ys.length d) := by have h_ := F1.out; simp [World.cell?, h_]
  have dF1_1 : w3.frozen? ⟨w2.heap.size, 1, none⟩ = false := by have h_ := F1.out; simp [World.frozen?, h_]
  have cF2_0 : w3.cell? ⟨w.heap.size, 0, none⟩ = some (.int .i64 0) := by have h_ := F2.out; simp [World.cell?, h_]
  have dF2_0 : w3.frozen? ⟨w.heap.size, 0, none⟩ = false := by have h_ := F2.out; simp [World.frozen?, h_]
  have cF2_1 : w3.cell? ⟨w.heap.size, 1, none⟩ = some (.slice none 0 0) := by have h_ := F2.out; simp [World.cell?, h_]
  have dF2_1 : w3.frozen? ⟨w.heap.size, 1, none⟩ = false := by have h_ := F2.out; simp [World.frozen?, h_]
  have zF1 := blk_lt F1.out
  have zF2 := blk_lt F2.out
  refine wp_region_held_drew (S := (fun _ => True)) (by kernel_rfl) ?s1 (fun hHeld => ?t1)
  case s1 => exact trivial
  generalize hV0 : World.drew w3 = V0
  have bV : Below w3.heap.size w3 V0 := by rw [← hV0]; exact drew_below0 w3
  clear hV0
  clear cF1_0 cF1_1 dF1_0 dF1_1 cF2_0 cF2_1 dF2_0 dF2_1 zF1 zF2
  replace F1 := Aside0.mk (below_blk F1.out bV)
  replace F2 := Aside0.mk (below_blk F2.out bV)
  replace HQ := Aside0.mk (Kd.R_below HQ.out bV)
  replace HR := Aside0.mk (HR.out.below bV)
  replace HD := Aside0.mk (HD.out.below bV)
  have yV0 := HD.out.size
  clear bV
  have cF1_0 : V0.cell? ⟨w2.heap.size, 0, none⟩ = some (.int .i64 la) := by have h_ := F1.out; simp [World.cell?, h_]
  have dF1_0 : V0.frozen? ⟨w2.heap.size, 0, none⟩ = false := by have h_ := F1.out; simp [World.frozen?, h_]
  have cF1_1 : V0.cell? ⟨w2.heap.size, 1, none⟩ = some (.slice B ys.length d) := by have h_ := F1.out; simp [World.cell?, h_]
  have dF1_1 : V0.frozen? ⟨w2.heap.size, 1, none⟩ = false := by have h_ := F1.out; simp [World.frozen?, h_]
  have cF2_0 : V0.cell? ⟨w.heap.size, 0, none⟩ = some (.int .i64 0) := by have h_ := F2.out; simp [World.cell?, h_]
  have dF2_0 : V0.frozen? ⟨w.heap.size, 0, none⟩ = false := by have h_ := F2.out; simp [World.frozen?, h_]
  have cF2_1 : V0.cell? ⟨w.heap.size, 1, none⟩ = some (.slice none 0 0) := by have h_ := F2.out; simp [World.cell?, h_]
  have dF2_1 : V0.frozen? ⟨w.heap.size, 1, none⟩ = false := by have h_ := F2.out; simp [World.frozen?, h_]
  have zF1 := blk_lt F1.out
  have zF2 := blk_lt F2.out
  refine wpAnyH_take (i := 1) (oi := { dst := some 11, op := Op.move (Operand.tmp 4), type := 77, pos := "l20_draw.go:539", after := #[], guard := none }) (v := ?v2) rfl (by kernel_rfl) (by kernel_rfl) (by kernel_rfl) (fun _ _ _ h => h) (Or.inl ⟨by rfl, ?y2⟩) (by assumption) ?r2
  case y2 => intro w_ hSw; (try dsimp only at hSw); go_simp; (try (with_reducible rfl))
  try simp only [Act.put, List.setIfInBounds_toArray, List.set_cons_zero, List.set_cons_succ]
  refine wpAnyH_ready (rs := [0, 2]) (by kernel_rfl) (by simp) ?_
  refine AllReadyH.cons (o := { dst := some 10, op := Op.load 25 (Operand.tmp 5), type := 25, pos := "l20_draw.go:539", after := #[], guard := none }) rfl (fun K hK => ?k3) (AllReadyH.cons (o := { dst := some 12, op := Op.buildSlice 28 4 #[(0, Operand.const (Value.int IntKind.i64 0)), (1, Operand.const (Value.int IntKind.i64 5)), (2, Operand.const (Value.int IntKind.i64 10)), (3, Operand.const (Value.int IntKind.i64 100))], type := 28, pos := "l20_draw.go:539", after := #[], guard := none }) rfl (fun K hK => ?k4) AllReadyH.nil)
  case k3 =>
    go_simp
    refine hK.out _ _ ?h5 (fun hHeld => ?j5)
    case h5 => exact hHeld
    clear hK K
    try simp only [Act.put, List.setIfInBounds_toArray, List.set_cons_zero, List.set_cons_succ]
    refine wpAnyH_ready (rs := [2]) (by kernel_rfl) (by simp) ?_
    refine AllReadyH.cons (o := { dst := some 12, op := Op.buildSlice 28 4 #[(0, Operand.const (Value.int IntKind.i64 0)), (1, Operand.const (Value.int IntKind.i64 5)), (2, Operand.const (Value.int IntKind.i64 10)), (3, Operand.const (Value.int IntKind.i64 100))], type := 28, pos := "l20_draw.go:539", after := #[], guard := none }) rfl (fun K hK => ?k6) AllReadyH.nil
    case k6 =>
      go_simp
      generalize hVa : World.alloc V0 _ = V2
      have bV : Below V0.heap.size V0 V2 := by rw [← hVa]; exact bel_alloc (Below.refl _ _) _
      have FL : Aside0 (V2.heap[V0.heap.size]? = some (.cells #[.int .i64 0, .int .i64 5, .int .i64 10, .int .i64 100] 3 (0, 0))) := ⟨by rw [← hVa]; exact blk_new _ _⟩
      clear hVa
      clear cF1_0 cF1_1 dF1_0 dF1_1 cF2_0 cF2_1 dF2_0 dF2_1 zF1 zF2
      replace F1 := Aside0.mk (below_blk F1.out bV)
      replace F2 := Aside0.mk (below_blk F2.out bV)
      replace HQ := Aside0.mk (Kd.R_below HQ.out bV)
      replace HR := Aside0.mk (HR.out.below bV)
      replace HD := Aside0.mk (HD.out.below bV)
      have yV2 := HD.out.size
      clear bV
      have cF1_0 : V2.cell? ⟨w2.heap.size, 0, none⟩ = some (.int .i64 la) := by have h_ := F1.out; simp [World.cell?, h_]
      have dF1_0 : V2.frozen? ⟨w2.heap.size, 0, none⟩ = false := by have h_ := F1.out; simp [World.frozen?, h_]
      have cF1_1 : V2.cell? ⟨w2.heap.size, 1, none⟩ = some (.slice B ys.length d) := by have h_ := F1.out; simp [World.cell?, h_]
      have dF1_1 : V2.frozen? ⟨w2.heap.size, 1, none⟩ = false := by have h_ := F1.out; simp [World.frozen?, h_]
      have cF2_0 : V2.cell? ⟨w.heap.size, 0, none⟩ = some (.int .i64 0) := by have h_ := F2.out; simp [World.cell?, h_]
      have dF2_0 : V2.frozen? ⟨w.heap.size, 0, none⟩ = false := by have h_ := F2.out; simp [World.frozen?, h_]
      have cF2_1 : V2.cell? ⟨w.heap.size, 1, none⟩ = some (.slice none 0 0) := by have h_ := F2.out; simp [World.cell?, h_]
      have dF2_1 : V2.frozen? ⟨w.heap.size, 1, none⟩ = false := by have h_ := F2.out; simp [World.frozen?, h_]
      have zF1 := blk_lt F1.out
      have zF2 := blk_lt F2.out
      refine hK.out _ _ ?h7 (fun hHeld => ?j7)
      case h7 => exact trivial
      clear hK K
      try simp only [Act.put, List.setIfInBounds_toArray, List.set_cons_zero, List.set_cons_succ]
      refine wpAnyH_ready (rs := [3]) (by kernel_rfl) (by simp) ?_
      refine AllReadyH.cons (o := { dst := some 13, op := Op.call { callee := Callee.value (Operand.func 44), args := #[Operand.tmp 11, Operand.tmp 12], argTypes := #[77, 28] }, type := 3, pos := "l20_draw.go:539", after := #[{ on := 1, ground := Ground.data }, { on := 2, ground := Ground.data }], guard := none }) rfl (fun K hK => ?k8) AllReadyH.nil
      case k8 =>
        go_simp
        refine Calls.mono (one_any (0) 100 g _ _ _ _ _ _ V2 HR.out (by omega) FL.out (by decide) (by rfl) (by decide) (by decide) (by rfl)) ?_
        rintro e V3 ⟨z, rfl, hz, hr_, hd_⟩
        clear cF1_0 cF1_1 dF1_0 dF1_1 cF2_0 cF2_1 dF2_0 dF2_1 zF1 zF2
        clear FL
        replace F1 := Aside0.mk (hd_.blk F1.out (by omega))
        replace F2 := Aside0.mk (hd_.blk F2.out (by omega))
        replace HQ := Aside0.mk (Dr.R hd_ HQ.out hgl)
        replace HR := Aside0.mk hr_
        replace HD := Aside0.mk (Dr.then_ HD.out hd_)
        have yV3 := HD.out.size
        clear hr_ hd_
        have cF1_0 : V3.cell? ⟨w2.heap.size, 0, none⟩ = some (.int .i64 la) := by have h_ := F1.out; simp [World.cell?, h_]
        have dF1_0 : V3.frozen? ⟨w2.heap.size, 0, none⟩ = false := by have h_ := F1.out; simp [World.frozen?, h_]
        have cF1_1 : V3.cell? ⟨w2.heap.size, 1, none⟩ = some (.slice B ys.length d) := by have h_ := F1.out; simp [World.cell?, h_]
        have dF1_1 : V3.frozen? ⟨w2.heap.size, 1, none⟩ = false := by have h_ := F1.out; simp [World.frozen?, h_]
        have cF2_0 : V3.cell? ⟨w.heap.size, 0, none⟩ = some (.int .i64 0) := by have h_ := F2.out; simp [World.cell?, h_]
        have dF2_0 : V3.frozen? ⟨w.heap.size, 0, none⟩ = false := by have h_ := F2.out; simp [World.frozen?, h_]
        have cF2_1 : V3.cell? ⟨w.heap.size, 1, none⟩ = some (.slice none 0 0) := by have h_ := F2.out; simp [World.cell?, h_]
        have dF2_1 : V3.frozen? ⟨w.heap.size, 1, none⟩ = false := by have h_ := F2.out; simp [World.frozen?, h_]
        have zF1 := blk_lt F1.out
        have zF2 := blk_lt F2.out
        refine hK.out _ _ ?h9 (fun hHeld => ?j9)
        case h9 => exact trivial
        clear hK K
        try simp only [Act.put, List.setIfInBounds_toArray, List.set_cons_zero, List.set_cons_succ]
        refine wpAnyH_ready (rs := [4]) (by kernel_rfl) (by simp) ?_
        refine AllReadyH.cons (o := { dst := none, op := Op.store 25 (Operand.tmp 2) (Operand.tmp 10), type := 0, pos := "l20_draw.go:539", after := #[{ on := 0, ground := Ground.data }, { on := 3, ground := Ground.chain }, { on := 0, ground := Ground.phase }, { on := 1, ground := Ground.textOnly Departure.lateStores }, { on := 2, ground := Ground.textOnly Departure.lateStores }, { on := 3, ground := Ground.textOnly Departure.lateStoresUnsure }], guard := none }) rfl (fun K hK => ?k10) AllReadyH.nil
        case k10 =>
          go_simp
          generalize hWX : World.setCell (World.setCell V3 _ _) _ _ = V4
          have nF2 : V4.heap[w.heap.size]? = some (.cells #[.int .i64 la, .slice B ys.length d] 25 (0, 0)) := by rw [← hWX]; have h := blk_set1 (blk_set1 F2.out 0 (.int .i64 la)) 1 (.slice B ys.length d); simpa using h
          have nHQ := R_other HQ.out F2.out (by decide) ((grown_set1 V3 w.heap.size 0 (.int .i64 la)).trans (grown_set1 _ w.heap.size 1 (.slice B ys.length d)))
          have nB : Below w.heap.size w V4 := by rw [← hWX]; exact bel_set (bel_set (HB.out.trans (HD.out.bel (by omega) HB.out.size)) _ (Nat.le_refl _)) _ (Nat.le_refl _)
          rw [hWX] at nHQ
          clear cF1_0 cF1_1 dF1_0 dF1_1 cF2_0 cF2_1 dF2_0 dF2_1 zF1 zF2
          clear hWX F1 F2 HQ HR HD
          have F2 := Aside0.mk nF2
          have HQ := Aside0.mk nHQ
          have HBB := Lib.hid nB
          clear nF2 nHQ nB
          refine hK.out _ _ ?h11 (fun hHeld => ?j11)
          case h11 => exact trivial
          clear hK K
          try simp only [Act.put, List.setIfInBounds_toArray, List.set_cons_zero, List.set_cons_succ]
          refine wpAnyH_take (i := 5) (oi := { dst := some 3, op := Op.assign (Operand.tmp 13), type := 3, pos := "l20_draw.go:539", after := #[{ on := 3, ground := Ground.data }, { on := 4, ground := Ground.chain }, { on := 0, ground := Ground.phase }, { on := 1, ground := Ground.phase }, { on := 2, ground := Ground.phase }, { on := 3, ground := Ground.phase }, { on := 4, ground := Ground.phase }], guard := none }) (v := ?v12) rfl (by kernel_rfl) (by kernel_rfl) (by kernel_rfl) (fun _ _ _ h => h) (Or.inl ⟨by rfl, ?y12⟩) (by assumption) ?r12
          case y12 => intro w_ hSw; (try dsimp only at hSw); go_simp; (try (with_reducible rfl))
          try simp only [Act.put, List.setIfInBounds_toArray, List.set_cons_zero, List.set_cons_succ]
          refine wpAnyH_done (by kernel_rfl) ?_ _
          have F2o := F2.out
          have c0_ : V4.cell? ⟨w.heap.size, 0, none⟩ = some (.int .i64 la) := by simp [World.cell?, F2o]
          have c1_ : V4.cell? ⟨w.heap.size, 1, none⟩ = some (.slice B ys.length d) := by simp [World.cell?, F2o]
          clear F2o
          go_wp2
          refine bodyPost_ret (v := .tuple #[.agg #[.int .i64 la, .slice B ys.length d], .int .i64 z]) ?hr rfl ?hp
          case hr => simp [results, Tryd.results9, go_sem, c0_, c1_]
          case hp => exact ⟨⟨la, ys⟩, B, d, z, rfl, HS.out, by omega, Kd.R_lower HQ.out HB.out.size, HBB.out⟩
  case k4 =>
    go_simp
    generalize hVa : World.alloc V0 _ = V2
    have bV : Below V0.heap.size V0 V2 := by rw [← hVa]; exact bel_alloc (Below.refl _ _) _
    have FL : Aside0 (V2.heap[V0.heap.size]? = some (.cells #[.int .i64 0, .int .i64 5, .int .i64 10, .int .i64 100] 3 (0, 0))) := ⟨by rw [← hVa]; exact blk_new _ _⟩
    clear hVa
    clear cF1_0 cF1_1 dF1_0 dF1_1 cF2_0 cF2_1 dF2_0 dF2_1 zF1 zF2
    replace F1 := Aside0.mk (below_blk F1.out bV)
    replace F2 := Aside0.mk (below_blk F2.out bV)
    replace HQ := Aside0.mk (Kd.R_below HQ.out bV)
    replace HR := Aside0.mk (HR.out.below bV)
    replace HD := Aside0.mk (HD.out.below bV)
    have yV2 := HD.out.size
    clear bV
    have cF1_0 : V2.cell? ⟨w2.heap.size, 0, none⟩ = some (.int .i64 la) := by have h_ := F1.out; simp [World.cell?, h_]
    have dF1_0 : V2.frozen? ⟨w2.heap.size, 0, none⟩ = false := by have h_ := F1.out; simp [World.frozen?, h_]
    have cF1_1 : V2.cell? ⟨w2.heap.size, 1, none⟩ = some (.slice B ys.length d) := by have h_ := F1.out; simp [World.cell?, h_]
    have dF1_1 : V2.frozen? ⟨w2.heap.size, 1, none⟩ = false := by have h_ := F1.out; simp [World.frozen?, h_]
    have cF2_0 : V2.cell? ⟨w.heap.size, 0, none⟩ = some (.int .i64 0) := by have h_ := F2.out; simp [World.cell?, h_]
    have dF2_0 : V2.frozen? ⟨w.heap.size, 0, none⟩ = false := by have h_ := F2.out; simp [World.frozen?, h_]
    have cF2_1 : V2.cell? ⟨w.heap.size, 1, none⟩ = some (.slice none 0 0) := by have h_ := F2.out; simp [World.cell?, h_]
    have dF2_1 : V2.frozen? ⟨w.heap.size, 1, none⟩ = false := by have h_ := F2.out; simp [World.frozen?, h_]
    have zF1 := blk_lt F1.out
    have zF2 := blk_lt F2.out
    refine hK.out _ _ ?h13 (fun hHeld => ?j13)
    case h13 => exact trivial
    clear hK K
    try simp only [Act.put, List.setIfInBounds_toArray, List.set_cons_zero, List.set_cons_succ]
    refine wpAnyH_ready (rs := [0, 3]) (by kernel_rfl) (by simp) ?_
    refine AllReadyH.cons (o := { dst := some 10, op := Op.load 25 (Operand.tmp 5), type := 25, pos := "l20_draw.go:539", after := #[], guard := none }) rfl (fun K hK => ?k14) (AllReadyH.cons (o := { dst := some 13, op := Op.call { callee := Callee.value (Operand.func 44), args := #[Operand.tmp 11, Operand.tmp 12], argTypes := #[77, 28] }, type := 3, pos := "l20_draw.go:539", after := #[{ on := 1, ground := Ground.data }, { on := 2, ground := Ground.data }], guard := none }) rfl (fun K hK => ?k15) AllReadyH.nil)
    case k14 =>
      go_simp
      refine hK.out _ _ ?h16 (fun hHeld => ?j16)
      case h16 => exact hHeld
      clear hK K
      try simp only [Act.put, List.setIfInBounds_toArray, List.set_cons_zero, List.set_cons_succ]
      refine wpAnyH_ready (rs := [3]) (by kernel_rfl) (by simp) ?_
      refine AllReadyH.cons (o := { dst := some 13, op := Op.call { callee := Callee.value (Operand.func 44), args := #[Operand.tmp 11, Operand.tmp 12], argTypes := #[77, 28] }, type := 3, pos := "l20_draw.go:539", after := #[{ on := 1, ground := Ground.data }, { on := 2, ground := Ground.data }], guard := none }) rfl (fun K hK => ?k17) AllReadyH.nil
      case k17 =>
        go_simp
        refine Calls.mono (one_any (0) 100 g _ _ _ _ _ _ V2 HR.out (by omega) FL.out (by decide) (by rfl) (by decide) (by decide) (by rfl)) ?_
        rintro e V3 ⟨z, rfl, hz, hr_, hd_⟩
        clear cF1_0 cF1_1 dF1_0 dF1_1 cF2_0 cF2_1 dF2_0 dF2_1 zF1 zF2
        clear FL
        replace F1 := Aside0.mk (hd_.blk F1.out (by omega))
        replace F2 := Aside0.mk (hd_.blk F2.out (by omega))
        replace HQ := Aside0.mk (Dr.R hd_ HQ.out hgl)
        replace HR := Aside0.mk hr_
        replace HD := Aside0.mk (Dr.then_ HD.out hd_)
        have yV3 := HD.out.size
        clear hr_ hd_
        have cF1_0 : V3.cell? ⟨w2.heap.size, 0, none⟩ = some (.int .i64 la) := by have h_ := F1.out; simp [World.cell?, h_]
        have dF1_0 : V3.frozen? ⟨w2.heap.size, 0, none⟩ = false := by have h_ := F1.out; simp [World.frozen?, h_]
        have cF1_1 : V3.cell? ⟨w2.heap.size, 1, none⟩ = some (.slice B ys.length d) := by have h_ := F1.out; simp [World.cell?, h_]
        have dF1_1 : V3.frozen? ⟨w2.heap.size, 1, none⟩ = false := by have h_ := F1.out; simp [World.frozen?, h_]
        have cF2_0 : V3.cell? ⟨w.heap.size, 0, none⟩ = some (.int .i64 0) := by have h_ := F2.out; simp [World.cell?, h_]
        have dF2_0 : V3.frozen? ⟨w.heap.size, 0, none⟩ = false := by have h_ := F2.out; simp [World.frozen?, h_]
        have cF2_1 : V3.cell? ⟨w.heap.size, 1, none⟩ = some (.slice none 0 0) := by have h_ := F2.out; simp [World.cell?, h_]
        have dF2_1 : V3.frozen? ⟨w.heap.size, 1, none⟩ = false := by have h_ := F2.out; simp [World.frozen?, h_]
        have zF1 := blk_lt F1.out
        have zF2 := blk_lt F2.out
        refine hK.out _ _ ?h18 (fun hHeld => ?j18)
        case h18 => exact trivial
        clear hK K
        try simp only [Act.put, List.setIfInBounds_toArray, List.set_cons_zero, List.set_cons_succ]
        refine wpAnyH_ready (rs := [4]) (by kernel_rfl) (by simp) ?_
        refine AllReadyH.cons (o := { dst := none, op := Op.store 25 (Operand.tmp 2) (Operand.tmp 10), type := 0, pos := "l20_draw.go:539", after := #[{ on := 0, ground := Ground.data }, { on := 3, ground := Ground.chain }, { on := 0, ground := Ground.phase }, { on := 1, ground := Ground.textOnly Departure.lateStores }, { on := 2, ground := Ground.textOnly Departure.lateStores }, { on := 3, ground := Ground.textOnly Departure.lateStoresUnsure }], guard := none }) rfl (fun K hK => ?k19) AllReadyH.nil
        case k19 =>
          go_simp
          generalize hWX : World.setCell (World.setCell V3 _ _) _ _ = V4
          have nF2 : V4.heap[w.heap.size]? = some (.cells #[.int .i64 la, .slice B ys.length d] 25 (0, 0)) := by rw [← hWX]; have h := blk_set1 (blk_set1 F2.out 0 (.int .i64 la)) 1 (.slice B ys.length d); simpa using h
          have nHQ := R_other HQ.out F2.out (by decide) ((grown_set1 V3 w.heap.size 0 (.int .i64 la)).trans (grown_set1 _ w.heap.size 1 (.slice B ys.length d)))
          have nB : Below w.heap.size w V4 := by rw [← hWX]; exact bel_set (bel_set (HB.out.trans (HD.out.bel (by omega) HB.out.size)) _ (Nat.le_refl _)) _ (Nat.le_refl _)
          rw [hWX] at nHQ
          clear cF1_0 cF1_1 dF1_0 dF1_1 cF2_0 cF2_1 dF2_0 dF2_1 zF1 zF2
          clear hWX F1 F2 HQ HR HD
          have F2 := Aside0.mk nF2
          have HQ := Aside0.mk nHQ
          have HBB := Lib.hid nB
          clear nF2 nHQ nB
          refine hK.out _ _ ?h20 (fun hHeld => ?j20)
          case h20 => exact trivial
          clear hK K
          try simp only [Act.put, List.setIfInBounds_toArray, List.set_cons_zero, List.set_cons_succ]
          refine wpAnyH_take (i := 5) (oi := { dst := some 3, op := Op.assign (Operand.tmp 13), type := 3, pos := "l20_draw.go:539", after := #[{ on := 3, ground := Ground.data }, { on := 4, ground := Ground.chain }, { on := 0, ground := Ground.phase }, { on := 1, ground := Ground.phase }, { on := 2, ground := Ground.phase }, { on := 3, ground := Ground.phase }, { on := 4, ground := Ground.phase }], guard := none }) (v := ?v21) rfl (by kernel_rfl) (by kernel_rfl) (by kernel_rfl) (fun _ _ _ h => h) (Or.inl ⟨by rfl, ?y21⟩) (by assumption) ?r21
          case y21 => intro w_ hSw; (try dsimp only at hSw); go_simp; (try (with_reducible rfl))
          try simp only [Act.put, List.setIfInBounds_toArray, List.set_cons_zero, List.set_cons_succ]
          refine wpAnyH_done (by kernel_rfl) ?_ _
          have F2o := F2.out
          have c0_ : V4.cell? ⟨w.heap.size, 0, none⟩ = some (.int .i64 la) := by simp [World.cell?, F2o]
          have c1_ : V4.cell? ⟨w.heap.size, 1, none⟩ = some (.slice B ys.length d) := by simp [World.cell?, F2o]
          clear F2o
          go_wp2
          refine bodyPost_ret (v := .tuple #[.agg #[.int .i64 la, .slice B ys.length d], .int .i64 z]) ?hr rfl ?hp
          case hr => simp [results, Tryd.results9, go_sem, c0_, c1_]
          case hp => exact ⟨⟨la, ys⟩, B, d, z, rfl, HS.out, by omega, Kd.R_lower HQ.out HB.out.size, HBB.out⟩
    case k15 =>
      go_simp
      refine Calls.mono (one_any (0) 100 g _ _ _ _ _ _ V2 HR.out (by omega) FL.out (by decide) (by rfl) (by decide) (by decide) (by rfl)) ?_
      rintro e V3 ⟨z, rfl, hz, hr_, hd_⟩
      clear cF1_0 cF1_1 dF1_0 dF1_1 cF2_0 cF2_1 dF2_0 dF2_1 zF1 zF2
      clear FL
      replace F1 := Aside0.mk (hd_.blk F1.out (by omega))
      replace F2 := Aside0.mk (hd_.blk F2.out (by omega))
      replace HQ := Aside0.mk (Dr.R hd_ HQ.out hgl)
      replace HR := Aside0.mk hr_
      replace HD := Aside0.mk (Dr.then_ HD.out hd_)
      have yV3 := HD.out.size
      clear hr_ hd_
      have cF1_0 : V3.cell? ⟨w2.heap.size, 0, none⟩ = some (.int .i64 la) := by have h_ := F1.out; simp [World.cell?, h_]
      have dF1_0 : V3.frozen? ⟨w2.heap.size, 0, none⟩ = false := by have h_ := F1.out; simp [World.frozen?, h_]
      have cF1_1 : V3.cell? ⟨w2.heap.size, 1, none⟩ = some (.slice B ys.length d) := by have h_ := F1.out; simp [World.cell?, h_]
      have dF1_1 : V3.frozen? ⟨w2.heap.size, 1, none⟩ = false := by have h_ := F1.out; simp [World.frozen?, h_]
      have cF2_0 : V3.cell? ⟨w.heap.size, 0, none⟩ = some (.int .i64 0) := by have h_ := F2.out; simp [World.cell?, h_]
      have dF2_0 : V3.frozen? ⟨w.heap.size, 0, none⟩ = false := by have h_ := F2.out; simp [World.frozen?, h_]
      have cF2_1 : V3.cell? ⟨w.heap.size, 1, none⟩ = some (.slice none 0 0) := by have h_ := F2.out; simp [World.cell?, h_]
      have dF2_1 : V3.frozen? ⟨w.heap.size, 1, none⟩ = false := by have h_ := F2.out; simp [World.frozen?, h_]
      have zF1 := blk_lt F1.out
      have zF2 := blk_lt F2.out
      refine hK.out _ _ ?h22 (fun hHeld => ?j22)
      case h22 => exact trivial
      clear hK K
      try simp only [Act.put, List.setIfInBounds_toArray, List.set_cons_zero, List.set_cons_succ]
      refine wpAnyH_ready (rs := [0]) (by kernel_rfl) (by simp) ?_
      refine AllReadyH.cons (o := { dst := some 10, op := Op.load 25 (Operand.tmp 5), type := 25, pos := "l20_draw.go:539", after := #[], guard := none }) rfl (fun K hK => ?k23) AllReadyH.nil
      case k23 =>
        go_simp
        refine hK.out _ _ ?h24 (fun hHeld => ?j24)
        case h24 => exact hHeld
        clear hK K
        try simp only [Act.put, List.setIfInBounds_toArray, List.set_cons_zero, List.set_cons_succ]
        refine wpAnyH_ready (rs := [4]) (by kernel_rfl) (by simp) ?_
        refine AllReadyH.cons (o := { dst := none, op := Op.store 25 (Operand.tmp 2) (Operand.tmp 10), type := 0, pos := "l20_draw.go:539", after := #[{ on := 0, ground := Ground.data }, { on := 3, ground := Ground.chain }, { on := 0, ground := Ground.phase }, { on := 1, ground := Ground.textOnly Departure.lateStores }, { on := 2, ground := Ground.textOnly Departure.lateStores }, { on := 3, ground := Ground.textOnly Departure.lateStoresUnsure }], guard := none }) rfl (fun K hK => ?k25) AllReadyH.nil
        case k25 =>
          go_simp
          generalize hWX : World.setCell (World.setCell V3 _ _) _ _ = V4
          have nF2 : V4.heap[w.heap.size]? = some (.cells #[.int .i64 la, .slice B ys.length d] 25 (0, 0)) := by rw [← hWX]; have h := blk_set1 (blk_set1 F2.out 0 (.int .i64 la)) 1 (.slice B ys.length d); simpa using h
          have nHQ := R_other HQ.out F2.out (by decide) ((grown_set1 V3 w.heap.size 0 (.int .i64 la)).trans (grown_set1 _ w.heap.size 1 (.slice B ys.length d)))
          have nB : Below w.heap.size w V4 := by rw [← hWX]; exact bel_set (bel_set (HB.out.trans (HD.out.bel (by omega) HB.out.size)) _ (Nat.le_refl _)) _ (Nat.le_refl _)
          rw [hWX] at nHQ
          clear cF1_0 cF1_1 dF1_0 dF1_1 cF2_0 cF2_1 dF2_0 dF2_1 zF1 zF2
          clear hWX F1 F2 HQ HR HD
          have F2 := Aside0.mk nF2
          have HQ := Aside0.mk nHQ
          have HBB := Lib.hid nB
          clear nF2 nHQ nB
          refine hK.out _ _ ?h26 (fun hHeld => ?j26)
          case h26 => exact trivial
          clear hK K
          try simp only [Act.put, List.setIfInBounds_toArray, List.set_cons_zero, List.set_cons_succ]
          refine wpAnyH_take (i := 5) (oi := { dst := some 3, op := Op.assign (Operand.tmp 13), type := 3, pos := "l20_draw.go:539", after := #[{ on := 3, ground := Ground.data }, { on := 4, ground := Ground.chain }, { on := 0, ground := Ground.phase }, { on := 1, ground := Ground.phase }, { on := 2, ground := Ground.phase }, { on := 3, ground := Ground.phase }, { on := 4, ground := Ground.phase }], guard := none }) (v := ?v27) rfl (by kernel_rfl) (by kernel_rfl) (by kernel_rfl) (fun _ _ _ h => h) (Or.inl ⟨by rfl, ?y27⟩) (by assumption) ?r27
          case y27 => intro w_ hSw; (try dsimp only at hSw); go_simp; (try (with_reducible rfl))
          try simp only [Act.put, List.setIfInBounds_toArray, List.set_cons_zero, List.set_cons_succ]
          refine wpAnyH_done (by kernel_rfl) ?_ _
          have F2o := F2.out
          have c0_ : V4.cell? ⟨w.heap.size, 0, none⟩ = some (.int .i64 la) := by simp [World.cell?, F2o]
          have c1_ : V4.cell? ⟨w.heap.size, 1, none⟩ = some (.slice B ys.length d) := by simp [World.cell?, F2o]
          clear F2o
          go_wp2
          refine bodyPost_ret (v := .tuple #[.agg #[.int .i64 la, .slice B ys.length d], .int .i64 z]) ?hr rfl ?hp
          case hr => simp [results, Tryd.results9, go_sem, c0_, c1_]
          case hp => exact ⟨⟨la, ys⟩, B, d, z, rfl, HS.out, by omega, Kd.R_lower HQ.out HB.out.size, HBB.out⟩

end Go.Proofs.YtmfehmbgghfffaaDoor
