/- The law FnSpoolDue, walked. -/
import Derived.Test.YtmfehmbgghfffaaDoorDrawSpDue
import Derived.Test.YtmfehmbgghfffaaDoorDueS
import Derived.Test.YtmfehmbgghfffaaDoorSaB
import Derived.Deep.RegionHeld3
namespace Go.Proofs.YtmfehmbgghfffaaDoor
open Go.RowKit Go.Proofs.YtmfehmbgghfffaaDoorW.PrintWords
set_option linter.unusedVariables false
set_option linter.unusedSimpArgs false

theorem due_len {s : SSpool} (now : Int) (h : s.f1.length ≤ 8) : (spoolDue s now).length ≤ 8 := by
  unfold spoolDue
  split
  · exact Nat.le_trans (dues_len now s.f1) h
  · simp
theorem due_wf {s : SSpool} (now : Int) (h : wideS s) : ∀ y ∈ spoolDue s now, (Lit.int .i64 y).wf = true := by
  unfold spoolDue
  intro y hy
  split at hy
  · obtain ⟨x, hx, rfl⟩ := dues_mem hy
    exact WalkArith.wf_i64 (by have := (h.2.2 x hx).1; omega)
  · cases hy
def gr (M L : List Int) : Nat := L.foldl (fun k a => if M[k]? = some a then k + 1 else k) 0
theorem gr_step (M L : List Int) (i : Nat) (h : i < L.length) : gr M (L.take (i + 1)) = if M[gr M (L.take i)]? = some (L.getD i 0) then gr M (L.take i) + 1 else gr M (L.take i) := by
  unfold gr
  rw [List.take_succ_eq_append_getElem h, List.foldl_append, List.getD_eq_getElem?_getD, List.getElem?_eq_getElem h]
  rfl
theorem gr_from (M : List Int) : ∀ (L : List Int) (k : Nat), k ≤ M.length → (M.drop k).Sublist L → L.foldl (fun k a => if M[k]? = some a then k + 1 else k) k = M.length
  | [], k, hk, h => by
    have h0 := List.sublist_nil.1 h
    have h1 : (M.drop k).length = 0 := by rw [h0]; rfl
    rw [List.length_drop] at h1
    show k = M.length
    omega
  | a :: L, k, hk, h => by
    show L.foldl _ (if M[k]? = some a then k + 1 else k) = M.length
    by_cases he : M[k]? = some a
    · rw [if_pos he]
      obtain ⟨hlt, hv⟩ := List.getElem?_eq_some_iff.1 he
      refine gr_from M L (k + 1) hlt ?_
      rw [List.drop_eq_getElem_cons hlt, hv] at h
      exact List.cons_sublist_cons.1 h
    · rw [if_neg he]
      refine gr_from M L k hk ?_
      by_cases hlt : k < M.length
      · rw [List.drop_eq_getElem_cons hlt] at h ⊢
        cases h with
        | cons _ h => exact h
        | cons_cons _ h => exact absurd (List.getElem?_eq_getElem hlt) he
      · rw [List.drop_eq_nil_of_le (by omega)]
        exact List.nil_sublist _
theorem gr_all {M L : List Int} (h : M.Sublist L) : gr M L = M.length := gr_from M L 0 (Nat.zero_le _) h
theorem dues_sub (now : Int) : ∀ xs : List SItem, (duesOf now xs).Sublist (duesOf (now + 1) xs)
  | [] => List.Sublist.refl _
  | x :: xs => by
    have ih := dues_sub now xs
    unfold duesOf at ih ⊢
    rw [List.filter_cons, List.filter_cons]
    by_cases h1 : dueAt now x = true
    · have h2 : dueAt (now + 1) x = true := by
        unfold dueAt at h1 ⊢
        rw [List.any_eq_true] at h1 ⊢
        obtain ⟨r, hr, hd⟩ := h1
        exact ⟨r, hr, decide_eq_true (by have := of_decide_eq_true hd; omega)⟩
      rw [if_pos h1, if_pos h2]
      exact List.Sublist.cons_cons _ ih
    · rw [if_neg h1]
      by_cases h2 : dueAt (now + 1) x = true
      · rw [if_pos h2]
        exact List.Sublist.cons _ ih
      · rw [if_neg h2]
        exact ih
theorem dues_all {s : SSpool} (h : spoolOk s = true) : (duesOf 9999 s.f1).length = s.f1.length := by
  unfold duesOf
  rw [List.length_map, List.filter_eq_self.2]
  intro x hx
  unfold spoolOk at h
  rw [Bool.and_eq_true, List.all_eq_true] at h
  obtain ⟨i, hi, rfl⟩ := List.getElem_of_mem hx
  have hg := h.1 i (List.mem_range.2 hi)
  unfold goodAt at hg
  rw [Bool.and_eq_true, List.getD_eq_getElem?_getD, List.getElem?_eq_getElem hi] at hg
  have h1 := hg.1
  simp only [Option.getD_some] at h1
  generalize s.f1[i] = x at h1
  unfold itemOk at h1
  simp only [Bool.and_eq_true, decide_eq_true_eq, List.all_eq_true] at h1
  have hl : 0 < x.f2.length := by omega
  have h2 := h1.1 _ (List.getElem_mem hl)
  unfold rcptOk at h2
  simp only [Bool.and_eq_true, decide_eq_true_eq] at h2
  unfold dueAt
  rw [List.any_eq_true]
  exact ⟨_, List.getElem_mem hl, decide_eq_true h2.2.2.2⟩
theorem bounds_u8' {n : Int} (h : (Lit.int .u8 n).wf = true) : 0 ≤ n ∧ n ≤ 255 := by
  simp [Lit.wf, IntKind.min, IntKind.max, IntKind.signed, IntKind.bits] at h
  omega
set_option maxRecDepth 100000 in
set_option maxHeartbeats 8000000 in
theorem walk_FnSpoolDue {w : World} (A : Option Addr) (c : Nat) (xs : List Int) (hr : Kd.C (Kd.int .u8) w A xs.length xs) (hg : xs.length ≤ 9223372036854775807 ∧ ∀ y ∈ xs, (Lit.int .u8 y).wf = true) (hc : xs.length ≤ c) (hG : Glob w) :
    Calls Tryd.prog 3 #[.slice A xs.length c] w fun e w' => e = .returned (.bool true) ∧ Below w.heap.size w w' := by
  by_cases n_code : (1048576 : Int) < (xs.length : Int)
  · generalize xs.length = L at n_code
    go_enter Tryd.func3, Tryd.ntmps3
    go_wp2
    go_ret
    exact ⟨rfl, Below.refl _ _⟩
  have hd := drawSpoolDue_any A c xs w ⟨by omega, fun y hy => by have := bounds_u8' (hg.2 y hy); omega⟩ hc hr
  clear hr hg hc
  generalize xs.length = L at n_code hd
  go_enter Tryd.func3, Tryd.ntmps3
  go_wp2_with fail
  refine Calls.mono hd ?_
  rintro e w1 ⟨s, B, d, now, rfl, hs, hnow, rr, b1⟩
  have HG := Lib.hid (hG.below b1)
  have BW := Lib.hid b1
  have SZ := Lib.hid b1.size
  clear hd hG b1

  have hcd : s.f1.length ≤ d := (Kd.R_reads' rr).2.1
  have CR := Aside0.mk (Kd.R_reads' rr).2.2
  have hw := wideS_fit hs
  have hdue := fun W (hW : Below w1.heap.size w1 W) n => spoolDue_any s n B d W hw (Kd.C_below CR.out hW) (HG.out.below hW)
  have hspec := fun W (hW : Below w1.heap.size w1 W) => specDue_any s now B d W hw (Kd.C_below CR.out hW)
  have hok := fun W (hW : Below w1.heap.size w1 W) => spoolOk_any s B d W hw (Kd.C_below CR.out hW) (HG.out.below hW)
  have hd0 := fun W hW => hdue W hW now
  obtain ⟨M, eM⟩ : ∃ M, M = spoolDue s now := ⟨_, rfl⟩
  rw [← eM] at hspec
  simp only [← eM] at hd0
  have hMl : M.length ≤ 8 := by rw [eM]; exact due_len now hs.2.1
  have HMW := Lib.hid (show M.length ≤ 1048576 ∧ ∀ y ∈ M, (Lit.int .i64 y).wf = true from ⟨by omega, by rw [eM]; exact due_wf now hs⟩)
  have HM := Lib.hid eM
  have hsl := hs.2.1
  have HS := Lib.hid hs
  clear eM hs rr hw
  go_wp2_with fail
  obtain ⟨W0, hW0⟩ : ∃ W, W = w1.alloc (.cells #[.int .i64 s.f0, .slice B s.f1.length d] 25) := ⟨_, rfl⟩
  rw [← hW0]
  have HB : Aside0 (Below w1.heap.size w1 W0) := ⟨by rw [hW0]; exact bel_alloc (Below.refl _ _) _⟩
  have F1 : Aside0 (W0.heap[w1.heap.size]? = some (.cells #[.int .i64 s.f0, .slice B s.f1.length d] 25 (0, 0))) := ⟨by rw [hW0]; exact blk_new _ _⟩
  clear hW0
  refine Calls.mono (hd0 W0 HB.out) ?_
  rintro e w2 ⟨B2, d2, rfl, hR2, b2⟩
  replace F1 := Aside0.mk (below_blk F1.out b2)
  replace HB := Aside0.mk (bel_then HB.out b2)
  clear b2
  have RM := Aside0.mk (Kd.R_reads' hR2).2.2
  have hd2 := (Kd.R_reads' hR2).2.1
  clear hR2 hd0
  have cF1_0 : w2.cell? ⟨w1.heap.size, 0, none⟩ = some (.int .i64 s.f0) := by have h_ := F1.out; simp [World.cell?, h_]
  have cF1_1 : w2.cell? ⟨w1.heap.size, 1, none⟩ = some (.slice B s.f1.length d) := by have h_ := F1.out; simp [World.cell?, h_]
  go_wp2_with fail
  refine Calls.mono (hspec w2 HB.out) ?_
  rintro e w3 ⟨B3, d3, rfl, hR3, b3⟩
  clear cF1_0 cF1_1
  replace F1 := Aside0.mk (below_blk F1.out b3)
  replace RM := Aside0.mk (Kd.C_below RM.out b3)
  replace HB := Aside0.mk (bel_then HB.out b3)
  clear b3
  have RS := Aside0.mk (Kd.R_reads' hR3).2.2
  clear hR3
  have cF1_0 : w3.cell? ⟨w1.heap.size, 0, none⟩ = some (.int .i64 s.f0) := by have h_ := F1.out; simp [World.cell?, h_]
  have cF1_1 : w3.cell? ⟨w1.heap.size, 1, none⟩ = some (.slice B s.f1.length d) := by have h_ := F1.out; simp [World.cell?, h_]
  go_wp2_with fail
  refine Calls.mono (saInts_any B2 d2 B3 d3 M w3 HMW.out RM.out RS.out) ?_
  rintro e w4 ⟨rfl, b4⟩
  clear cF1_0 cF1_1
  clear RS
  replace F1 := Aside0.mk (below_blk F1.out b4)
  replace RM := Aside0.mk (Kd.C_below RM.out b4)
  replace HB := Aside0.mk (bel_then HB.out b4)
  clear b4
  have cF1_0 : w4.cell? ⟨w1.heap.size, 0, none⟩ = some (.int .i64 s.f0) := by have h_ := F1.out; simp [World.cell?, h_]
  have cF1_1 : w4.cell? ⟨w1.heap.size, 1, none⟩ = some (.slice B s.f1.length d) := by have h_ := F1.out; simp [World.cell?, h_]
  go_wp2_with fail
  refine Calls.mono (hok w4 HB.out) ?_
  rintro e w5 ⟨rfl, b5⟩
  clear cF1_0 cF1_1
  replace F1 := Aside0.mk (below_blk F1.out b5)
  replace RM := Aside0.mk (Kd.C_below RM.out b5)
  replace HB := Aside0.mk (bel_then HB.out b5)
  clear b5
  have cF1_0 : w5.cell? ⟨w1.heap.size, 0, none⟩ = some (.int .i64 s.f0) := by have h_ := F1.out; simp [World.cell?, h_]
  have cF1_1 : w5.cell? ⟨w1.heap.size, 1, none⟩ = some (.slice B s.f1.length d) := by have h_ := F1.out; simp [World.cell?, h_]
  clear hok
  generalize hq : spoolOk s = q
  cases q
  · go_wp2_with fail
    refine Calls.mono (hspec w5 HB.out) ?_
    rintro e w6 ⟨B3, d3, rfl, hR3, b3⟩
    clear cF1_0 cF1_1
    replace F1 := Aside0.mk (below_blk F1.out b3)
    replace RM := Aside0.mk (Kd.C_below RM.out b3)
    replace HB := Aside0.mk (bel_then HB.out b3)
    clear b3
    have RS := Aside0.mk (Kd.R_reads' hR3).2.2
    clear hR3
    go_wp2_with fail
    refine Calls.mono (saInts_any B2 d2 B3 d3 M w6 HMW.out RM.out RS.out) ?_
    rintro e w7 ⟨rfl, b4⟩
    replace F1 := Aside0.mk (below_blk F1.out b4)
    replace HB := Aside0.mk (bel_then HB.out b4)
    clear b4
    go_wp2
    go_ret
    exact ⟨rfl, BW.out.trans (HB.out.mono SZ.out)⟩
  · have HQ := Lib.hid hq
    have hn9 : ¬ (9999 : Int) < now := by omega
    have hwn : IntKind.i64.wrap (now + 1) = now + 1 := IntWalk.i64_in _ (by omega)
    have hd1 := hdue w5 HB.out (now + 1)
    obtain ⟨L, eL⟩ : ∃ L, L = spoolDue s (now + 1) := ⟨_, rfl⟩
    rw [← eL] at hd1
    have hLl : L.length ≤ 8 := by rw [eL]; exact due_len (now + 1) hsl
    have hsub : M.Sublist L := by rw [eL, HM.out]; unfold spoolDue; rw [HQ.out, if_pos rfl, if_pos rfl]; exact dues_sub now s.f1
    have HSUB := Lib.hid hsub
    clear hq eL hsub hspec
    go_wp2_with fail
    refine Calls.mono hd1 ?_
    rintro e w6 ⟨B4, d4, rfl, hR4, b6⟩
    clear hd1
    clear cF1_0 cF1_1
    replace F1 := Aside0.mk (below_blk F1.out b6)
    replace RM := Aside0.mk (Kd.C_below RM.out b6)
    replace HB := Aside0.mk (bel_then HB.out b6)
    clear b6
    have RL := Aside0.mk (Kd.R_reads' hR4).2.2
    have hd4 := (Kd.R_reads' hR4).2.1
    clear hR4
    go_wp2
    go_loopg [7, 8] (L.length) (fun g v7 v8 wr => ∃ (i k : Nat), i ≤ L.length ∧ L.length - i ≤ g ∧ v8 = .int .i64 (i : Int) ∧ v7 = .int .i64 (k : Int) ∧ Aside0 (k = gr M (L.take i)) ∧ Aside0 (Below w6.heap.size w6 wr))
    case atStart => exact ⟨0, 0, Nat.zero_le _, by omega, rfl, rfl, ⟨rfl⟩, ⟨Below.refl _ _⟩⟩
    case round =>
      obtain ⟨i, k, hi, hg, rfl, rfl, HK, BV⟩ := hrel
      by_cases hlt : i < L.length
      · have hlt' : (i : Int) < (L.length : Int) := by omega
        have hst := gr_step M L i hlt
        rw [← HK.out] at hst
        obtain ⟨ad, e1, p0⟩ := at_Int (Kd.C_below RL.out BV.out) i hlt
        subst e1
        generalize L.getD i (0 : Int) = y at p0 hst
        by_cases hlm : k < M.length
        · have hlm' : (k : Int) < (M.length : Int) := by omega
          obtain ⟨ae, e2, r0⟩ := at_Int (Kd.C_below RM.out BV.out) k hlm
          subst e2
          have hmk : M[k]? = some (M.getD k (0 : Int)) := by rw [List.getD_eq_getElem?_getD, List.getElem?_eq_getElem hlm]; rfl
          rw [hmk] at hst
          clear hmk
          generalize M.getD k (0 : Int) = z at r0 hst
          by_cases hyz : z = y
          · subst hyz
            have hyy : (z == z) = true := beq_self_eq_true _
            have HST := Lib.hid (show gr M (L.take (i + 1)) = k + 1 by rw [hst, if_pos rfl])
            clear hst
            go_wp2
            repeat (go_quiet (fail); try go_wp2)
            go_roundg (L.length - (i + 1))
            case measure => omega
            case rel => exact ⟨i + 1, k + 1, by omega, Nat.le_refl _, by go_num, by go_num, ⟨HST.out.symm⟩, ⟨by first | exact BV.out | exact ⟨BV.out.os, BV.out.tape, BV.out.output, BV.out.size, BV.out.block⟩⟩⟩
          · have hyy : (y == z) = false := beq_eq_false_iff_ne.2 (fun e => hyz e.symm)
            have HST := Lib.hid (show gr M (L.take (i + 1)) = k by rw [hst, if_neg (fun e => hyz (Option.some.inj e))])
            clear hst hyz
            go_wp2
            repeat (go_quiet (fail); try go_wp2)
            go_roundg (L.length - (i + 1))
            case measure => omega
            case rel => exact ⟨i + 1, k, by omega, Nat.le_refl _, by go_num, rfl, ⟨HST.out.symm⟩, ⟨by first | exact BV.out | exact ⟨BV.out.os, BV.out.tape, BV.out.output, BV.out.size, BV.out.block⟩⟩⟩
        · have hlm' : ¬ (k : Int) < (M.length : Int) := by omega
          have HST := Lib.hid (show gr M (L.take (i + 1)) = k by rw [hst, List.getElem?_eq_none (by omega), if_neg (fun e => by cases e)])
          clear hst
          go_wp2
          repeat (go_quiet (fail); try go_wp2)
          go_roundg (L.length - (i + 1))
          case measure => omega
          case rel => exact ⟨i + 1, k, by omega, Nat.le_refl _, by go_num, rfl, ⟨HST.out.symm⟩, ⟨by first | exact BV.out | exact ⟨BV.out.os, BV.out.tape, BV.out.output, BV.out.size, BV.out.block⟩⟩⟩
      · have hlt' : ¬ (i : Int) < (L.length : Int) := by omega
        have hkM : k = M.length := by rw [HK.out, List.take_of_length_le (by omega)]; exact gr_all HSUB.out
        subst hkM
        obtain ⟨wq, ewq⟩ : ∃ W, W = wr := ⟨_, rfl⟩
        subst ewq
        replace F1 := Aside0.mk (below_blk F1.out BV.out)
        replace RM := Aside0.mk (Kd.C_below RM.out BV.out)
        replace HB := Aside0.mk (bel_then HB.out BV.out)
        clear HK BV RL hlt hi hg hLl hd4
        have cF1_0 : wq.cell? ⟨w1.heap.size, 0, none⟩ = some (.int .i64 s.f0) := by have h_ := F1.out; simp [World.cell?, h_]
        have cF1_1 : wq.cell? ⟨w1.heap.size, 1, none⟩ = some (.slice B s.f1.length d) := by have h_ := F1.out; simp [World.cell?, h_]
        go_wp2
        clear hlt'
        go_loopg [9, 10, 11, 12] (s.f1.length) (fun g v9 v10 _ _ wv => ∃ (i k : Nat), i ≤ s.f1.length ∧ s.f1.length - i ≤ g ∧ v10 = .int .i64 (i : Int) ∧ v9 = .int .i64 (k : Int) ∧ k ≤ i ∧ Aside0 (k = (duesOf now (s.f1.take i)).length) ∧ Aside0 (Below wq.heap.size wq wv))
        case atStart => exact ⟨0, 0, Nat.zero_le _, by omega, rfl, rfl, Nat.le_refl _, ⟨by simp [duesOf]⟩, ⟨Below.refl _ _⟩⟩
        case round =>
          clear cF1_0 cF1_1
          obtain ⟨i, k, hi, hg, rfl, rfl, hki, HK, BV⟩ := hrel
          obtain ⟨wv, ewv⟩ : ∃ W, W = wr := ⟨_, rfl⟩
          subst ewv
          replace F1 := Aside0.mk (below_blk F1.out BV.out)
          have cF1_0 : wv.cell? ⟨w1.heap.size, 0, none⟩ = some (.int .i64 s.f0) := by have h_ := F1.out; simp [World.cell?, h_]
          have cF1_1 : wv.cell? ⟨w1.heap.size, 1, none⟩ = some (.slice B s.f1.length d) := by have h_ := F1.out; simp [World.cell?, h_]
          by_cases hlt : i < s.f1.length
          · have hlt' : (i : Int) < (s.f1.length : Int) := by omega
            have hnx := dues_step now s.f1 i hlt
            have hm := (HS.out.2.2 (s.f1.getD i zItem) (getD_mem _ _ hlt)).2.2.1.1
            generalize hy : s.f1.getD i zItem = y at hnx hm
            have HN := Lib.hid (show (duesOf now (s.f1.take (i + 1))).length = k + (if dueAt now y then 1 else 0) by rw [hnx, List.length_append, ← HK.out]; split <;> rfl)
            have HY := Lib.hid hy
            obtain ⟨ad, Q0, qc0, Q1, qc1, e1, p0, p1, p2, p3, p4, l0, k0, l1, k1⟩ := at_Item (Kd.C_below CR.out (bel_then HB.out BV.out)) i hlt
            rw [HY.out] at p3
            subst e1
            clear hnx hy p0 p1 p2 p4 l0 k0 l1 k1
            go_wp2
            go_loopg [11, 12] (y.f2.length) (fun g v11 v12 wx => ∃ (j : Nat) (b : Bool), j ≤ y.f2.length ∧ y.f2.length - j ≤ g ∧ v11 = .bool b ∧ v12 = .int .i64 (j : Int) ∧ Aside0 (b = (y.f2.take j).any fun r => decide (r.f2 ≤ now)) ∧ Aside0 (Below wv.heap.size wv wx))
            case atStart => exact ⟨0, false, Nat.zero_le _, by omega, rfl, rfl, ⟨rfl⟩, ⟨Below.refl _ _⟩⟩
            case round =>
              clear cF1_0 cF1_1 p3
              obtain ⟨j, b, hj, hgj, rfl, rfl, HD, BX⟩ := hrel
              obtain ⟨wx, ewx⟩ : ∃ W, W = wr := ⟨_, rfl⟩
              subst ewx
              replace F1 := Aside0.mk (below_blk F1.out BX.out)
              have cF1_0 : wx.cell? ⟨w1.heap.size, 0, none⟩ = some (.int .i64 s.f0) := by have h_ := F1.out; simp [World.cell?, h_]
              have cF1_1 : wx.cell? ⟨w1.heap.size, 1, none⟩ = some (.slice (some ad) s.f1.length d) := by have h_ := F1.out; simp [World.cell?, h_]
              obtain ⟨ad2, Q0, qc0, Q1, qc1, e1, p0, p1, p2, p3, p4, l0, k0, l1, k1⟩ := at_Item (Kd.C_below CR.out (bel_then (bel_then HB.out BV.out) BX.out)) i hlt
              rw [HY.out] at p3 k0
              obtain rfl := Option.some.inj e1
              by_cases hlk : j < y.f2.length
              · have hlk' : (j : Int) < (y.f2.length : Int) := by omega
                obtain ⟨ae, e2, t0, t1, t2, t3⟩ := at_Rcpt k0 j hlk
                subst e2
                have hst := any_step now y.f2 j hlk
                generalize y.f2.getD j zRcpt = z at t0 t1 t2 t3 hst
                rw [← HD.out] at hst
                have HST := Lib.hid hst
                clear hst k0 k1 l0 l1 p0 p1 p2 p4 t0 t1 t2 e1
                cases b
                · go_wp2
                  repeat (go_quiet (fail); try go_wp2)
                  go_roundg (y.f2.length - (j + 1))
                  case measure => omega
                  case rel => exact ⟨j + 1, _, by omega, Nat.le_refl _, rfl, by go_num, ⟨by rw [HST.out]; rfl⟩, ⟨by first | exact BX.out | exact ⟨BX.out.os, BX.out.tape, BX.out.output, BX.out.size, BX.out.block⟩⟩⟩
                · go_wp2
                  repeat (go_quiet (fail); try go_wp2)
                  go_roundg (y.f2.length - (j + 1))
                  case measure => omega
                  case rel => exact ⟨j + 1, true, by omega, Nat.le_refl _, rfl, by go_num, ⟨by rw [HST.out]; rfl⟩, ⟨by first | exact BX.out | exact ⟨BX.out.os, BX.out.tape, BX.out.output, BX.out.size, BX.out.block⟩⟩⟩
              · have hlk' : ¬ (j : Int) < (y.f2.length : Int) := by omega
                have hd := HD.out
                rw [show y.f2.take j = y.f2 from List.take_of_length_le (by omega)] at hd
                rw [show dueAt now y = b from hd.symm] at HN
                clear hd HD k0 k1 l0 l1 p0 p1 p2 p4 e1
                cases b
                · go_wp2
                  go_roundg (s.f1.length - (i + 1))
                  case measure => omega
                  case rel => exact ⟨i + 1, k, by omega, Nat.le_refl _, by go_num, rfl, by omega, ⟨by have hn := HN.out; rw [hn]; rfl⟩, ⟨bel_then BV.out BX.out⟩⟩
                · go_wp2
                  go_roundg (s.f1.length - (i + 1))
                  case measure => omega
                  case rel => exact ⟨i + 1, k + 1, by omega, Nat.le_refl _, by go_num, by go_num, by omega, ⟨by have hn := HN.out; rw [hn]; rfl⟩, ⟨bel_then BV.out BX.out⟩⟩
          · have hlt' : ¬ (i : Int) < (s.f1.length : Int) := by omega
            have hkM : k = M.length := by rw [HK.out, List.take_of_length_le (by omega), HM.out]; unfold spoolDue; rw [HQ.out, if_pos rfl]
            subst hkM
            replace HB := Aside0.mk (bel_then HB.out BV.out)
            obtain ⟨D, eD⟩ : ∃ D, D = spoolDue s 9999 := ⟨_, rfl⟩
            have hDl : D.length = s.f1.length := by rw [eD]; unfold spoolDue; rw [HQ.out, if_pos rfl]; exact dues_all HQ.out
            have hd9 := fun W hW => hdue W hW 9999
            simp only [← eD] at hd9
            simp only [hDl] at hd9
            clear eD hDl HK BV RM hdue
            go_wp2
            refine wp_region_held_drew (S := (fun _ => True)) (by kernel_rfl) ?s1 (fun hHeld => ?t1)
            case s1 => exact trivial
            generalize hV0 : World.drew wv = V0
            have bV : Below wv.heap.size wv V0 := by rw [← hV0]; exact drew_below0 wv
            clear hV0
            clear cF1_0 cF1_1
            replace F1 := Aside0.mk (below_blk F1.out bV)
            replace HB := Aside0.mk (bel_then HB.out bV)
            clear bV
            have cF1_0 : V0.cell? ⟨w1.heap.size, 0, none⟩ = some (.int .i64 s.f0) := by have h_ := F1.out; simp [World.cell?, h_]
            have cF1_1 : V0.cell? ⟨w1.heap.size, 1, none⟩ = some (.slice B s.f1.length d) := by have h_ := F1.out; simp [World.cell?, h_]
            refine wpAnyH_take (i := 0) (oi := { dst := some 107, op := Op.move (Operand.tmp 7), type := 3, pos := "laws.go:588", after := #[], guard := none }) (v := ?v2) rfl (by kernel_rfl) (by kernel_rfl) (by kernel_rfl) (fun _ _ _ h => h) (Or.inl ⟨by rfl, ?y2⟩) (by assumption) ?r2
            case y2 => intro w_ hSw; (try dsimp only at hSw); go_simp; (try (with_reducible rfl))
            try simp only [Act.put, List.setIfInBounds_toArray, List.set_cons_zero, List.set_cons_succ]
            refine wpAnyH_take (i := 1) (oi := { dst := some 108, op := Op.move (Operand.tmp 5), type := 28, pos := "laws.go:588", after := #[], guard := none }) (v := ?v3) rfl (by kernel_rfl) (by kernel_rfl) (by kernel_rfl) (fun _ _ _ h => h) (Or.inl ⟨by rfl, ?y3⟩) (by assumption) ?r3
            case y3 => intro w_ hSw; (try dsimp only at hSw); go_simp; (try (with_reducible rfl))
            try simp only [Act.put, List.setIfInBounds_toArray, List.set_cons_zero, List.set_cons_succ]
            refine wpAnyH_take (i := 2) (oi := { dst := some 109, op := Op.call { callee := Callee.builtin Builtin.len, args := #[Operand.tmp 108], argTypes := #[28] }, type := 3, pos := "laws.go:588", after := #[{ on := 1, ground := Ground.data }], guard := none }) (v := ?v4) rfl (by kernel_rfl) (by kernel_rfl) (by kernel_rfl) (fun _ _ _ h => h) (Or.inl ⟨by rfl, ?y4⟩) (by assumption) ?r4
            case y4 => intro w_ hSw; (try dsimp only at hSw); go_simp; (try (with_reducible rfl))
            try simp only [Act.put, List.setIfInBounds_toArray, List.set_cons_zero, List.set_cons_succ]
            refine wpAnyH_take (i := 3) (oi := { dst := some 110, op := Op.binOp BinOp.eql 3 (Operand.tmp 107) (Operand.tmp 109) 3, type := 4, pos := "laws.go:588", after := #[{ on := 0, ground := Ground.data }, { on := 2, ground := Ground.data }], guard := none }) (v := ?v5) rfl (by kernel_rfl) (by kernel_rfl) (by kernel_rfl) (fun _ _ _ h => h) (Or.inl ⟨by rfl, ?y5⟩) (by assumption) ?r5
            case y5 => intro w_ hSw; (try dsimp only at hSw); go_simp; (try (with_reducible rfl))
            try simp only [Act.put, List.setIfInBounds_toArray, List.set_cons_zero, List.set_cons_succ]
            refine wpAnyH_take (i := 4) (oi := { dst := some 111, op := Op.move (Operand.tmp 110), type := 4, pos := "laws.go:588", after := #[{ on := 3, ground := Ground.data }], guard := none }) (v := ?v6) rfl (by kernel_rfl) (by kernel_rfl) (by kernel_rfl) (fun _ _ _ h => h) (Or.inl ⟨by rfl, ?y6⟩) (by assumption) ?r6
            case y6 => intro w_ hSw; (try dsimp only at hSw); go_simp; (try (with_reducible rfl))
            try simp only [Act.put, List.setIfInBounds_toArray, List.set_cons_zero, List.set_cons_succ]
            refine wpAnyH_take (i := 5) (oi := { dst := some 112, op := Op.move (Operand.tmp 9), type := 3, pos := "laws.go:588", after := #[{ on := 4, ground := Ground.guard }], guard := some (4, true) }) (v := ?v7) rfl (by kernel_rfl) (by kernel_rfl) (by kernel_rfl) (fun _ _ _ h => h) (Or.inl ⟨by rfl, ?y7⟩) (by assumption) ?r7
            case y7 => intro w_ hSw; (try dsimp only at hSw); go_simp; (try (with_reducible rfl))
            try simp only [Act.put, List.setIfInBounds_toArray, List.set_cons_zero, List.set_cons_succ]
            refine wpAnyH_take (i := 6) (oi := { dst := some 113, op := Op.move (Operand.tmp 5), type := 28, pos := "laws.go:588", after := #[{ on := 4, ground := Ground.guard }], guard := some (4, true) }) (v := ?v8) rfl (by kernel_rfl) (by kernel_rfl) (by kernel_rfl) (fun _ _ _ h => h) (Or.inl ⟨by rfl, ?y8⟩) (by assumption) ?r8
            case y8 => intro w_ hSw; (try dsimp only at hSw); go_simp; (try (with_reducible rfl))
            try simp only [Act.put, List.setIfInBounds_toArray, List.set_cons_zero, List.set_cons_succ]
            refine wpAnyH_take (i := 7) (oi := { dst := some 114, op := Op.call { callee := Callee.builtin Builtin.len, args := #[Operand.tmp 113], argTypes := #[28] }, type := 3, pos := "laws.go:588", after := #[{ on := 6, ground := Ground.data }, { on := 4, ground := Ground.guard }], guard := some (4, true) }) (v := ?v9) rfl (by kernel_rfl) (by kernel_rfl) (by kernel_rfl) (fun _ _ _ h => h) (Or.inl ⟨by rfl, ?y9⟩) (by assumption) ?r9
            case y9 => intro w_ hSw; (try dsimp only at hSw); go_simp; (try (with_reducible rfl))
            try simp only [Act.put, List.setIfInBounds_toArray, List.set_cons_zero, List.set_cons_succ]
            refine wpAnyH_take (i := 8) (oi := { dst := some 115, op := Op.binOp BinOp.eql 3 (Operand.tmp 112) (Operand.tmp 114) 3, type := 4, pos := "laws.go:588", after := #[{ on := 5, ground := Ground.data }, { on := 7, ground := Ground.data }, { on := 4, ground := Ground.guard }], guard := some (4, true) }) (v := ?v10) rfl (by kernel_rfl) (by kernel_rfl) (by kernel_rfl) (fun _ _ _ h => h) (Or.inl ⟨by rfl, ?y10⟩) (by assumption) ?r10
            case y10 => intro w_ hSw; (try dsimp only at hSw); go_simp; (try (with_reducible rfl))
            try simp only [Act.put, List.setIfInBounds_toArray, List.set_cons_zero, List.set_cons_succ]
            refine wpAnyH_take (i := 9) (oi := { dst := some 116, op := Op.pick (Operand.tmp 111) (Operand.tmp 115) (Operand.const (Value.bool false)), type := 4, pos := "laws.go:588", after := #[{ on := 4, ground := Ground.data }, { on := 8, ground := Ground.data }], guard := none }) (v := ?v11) rfl (by kernel_rfl) (by kernel_rfl) (by kernel_rfl) (fun _ _ _ h => h) (Or.inl ⟨by rfl, ?y11⟩) (by assumption) ?r11
            case y11 => intro w_ hSw; (try dsimp only at hSw); go_simp; (try (with_reducible rfl))
            try simp only [Act.put, List.setIfInBounds_toArray, List.set_cons_zero, List.set_cons_succ]
            refine wpAnyH_take (i := 10) (oi := { dst := some 117, op := Op.move (Operand.tmp 116), type := 4, pos := "laws.go:588", after := #[{ on := 9, ground := Ground.data }, { on := 4, ground := Ground.chain }], guard := none }) (v := ?v12) rfl (by kernel_rfl) (by kernel_rfl) (by kernel_rfl) (fun _ _ _ h => h) (Or.inl ⟨by rfl, ?y12⟩) (by assumption) ?r12
            case y12 => intro w_ hSw; (try dsimp only at hSw); go_simp; (try (with_reducible rfl))
            try simp only [Act.put, List.setIfInBounds_toArray, List.set_cons_zero, List.set_cons_succ]
            refine wpAnyH_take (i := 14) (oi := { dst := some 121, op := Op.fieldAddr 25 (Operand.tmp 3) 1, type := 0, pos := "laws.go:588", after := #[{ on := 10, ground := Ground.guard }], guard := some (10, true) }) (v := ?v13) rfl (by kernel_rfl) (by kernel_rfl) (by kernel_rfl) (fun _ _ _ h => h) (Or.inl ⟨by rfl, ?y13⟩) (by assumption) ?r13
            case y13 => intro w_ hSw; (try dsimp only at hSw); go_simp; (try (with_reducible rfl))
            try simp only [Act.put, List.setIfInBounds_toArray, List.set_cons_zero, List.set_cons_succ]
            refine wpAnyH_ready (rs := [11, 15]) (by kernel_rfl) (by simp) ?_
            refine AllReadyH.cons (o := { dst := some 118, op := Op.load 25 (Operand.tmp 3), type := 25, pos := "laws.go:588", after := #[{ on := 10, ground := Ground.guard }], guard := some (10, true) }) rfl (fun K hK => ?k14) (AllReadyH.cons (o := { dst := some 122, op := Op.load 23 (Operand.tmp 121), type := 23, pos := "laws.go:588", after := #[{ on := 14, ground := Ground.data }, { on := 10, ground := Ground.guard }], guard := some (10, true) }) rfl (fun K hK => ?k15) AllReadyH.nil)
            case k14 =>
              go_simp
              refine hK.out _ _ ?h16 (fun hHeld => ?j16)
              case h16 => exact hHeld
              clear hK K
              try simp only [Act.put, List.setIfInBounds_toArray, List.set_cons_zero, List.set_cons_succ]
              refine wpAnyH_ready (rs := [12, 15]) (by kernel_rfl) (by simp) ?_
              refine AllReadyH.cons (o := { dst := some 119, op := Op.call { callee := Callee.value (Operand.func 10), args := #[Operand.tmp 118, Operand.const (Value.int IntKind.i64 9999)], argTypes := #[25, 3] }, type := 28, pos := "laws.go:588", after := #[{ on := 11, ground := Ground.data }, { on := 10, ground := Ground.chain }, { on := 10, ground := Ground.guard }], guard := some (10, true) }) rfl (fun K hK => ?k17) (AllReadyH.cons (o := { dst := some 122, op := Op.load 23 (Operand.tmp 121), type := 23, pos := "laws.go:588", after := #[{ on := 14, ground := Ground.data }, { on := 10, ground := Ground.guard }], guard := some (10, true) }) rfl (fun K hK => ?k18) AllReadyH.nil)
              case k17 =>
                go_simp
                refine Calls.mono (hd9 V0 HB.out) ?_
                rintro e V12 ⟨B9, d9, rfl, -, b9⟩
                clear cF1_0 cF1_1
                replace F1 := Aside0.mk (below_blk F1.out b9)
                replace HB := Aside0.mk (bel_then HB.out b9)
                clear b9
                have cF1_0 : V12.cell? ⟨w1.heap.size, 0, none⟩ = some (.int .i64 s.f0) := by have h_ := F1.out; simp [World.cell?, h_]
                have cF1_1 : V12.cell? ⟨w1.heap.size, 1, none⟩ = some (.slice B s.f1.length d) := by have h_ := F1.out; simp [World.cell?, h_]
                refine hK.out _ _ ?h19 (fun hHeld => ?j19)
                case h19 => exact trivial
                clear hK K
                try simp only [Act.put, List.setIfInBounds_toArray, List.set_cons_zero, List.set_cons_succ]
                refine wpAnyH_take (i := 13) (oi := { dst := some 120, op := Op.call { callee := Callee.builtin Builtin.len, args := #[Operand.tmp 119], argTypes := #[28] }, type := 3, pos := "laws.go:588", after := #[{ on := 12, ground := Ground.data }, { on := 10, ground := Ground.guard }], guard := some (10, true) }) (v := ?v20) rfl (by kernel_rfl) (by kernel_rfl) (by kernel_rfl) (fun _ _ _ h => h) (Or.inl ⟨by rfl, ?y20⟩) (by assumption) ?r20
                case y20 => intro w_ hSw; (try dsimp only at hSw); go_simp; (try (with_reducible rfl))
                try simp only [Act.put, List.setIfInBounds_toArray, List.set_cons_zero, List.set_cons_succ]
                refine wpAnyH_ready (rs := [15]) (by kernel_rfl) (by simp) ?_
                refine AllReadyH.cons (o := { dst := some 122, op := Op.load 23 (Operand.tmp 121), type := 23, pos := "laws.go:588", after := #[{ on := 14, ground := Ground.data }, { on := 10, ground := Ground.guard }], guard := some (10, true) }) rfl (fun K hK => ?k21) AllReadyH.nil
                case k21 =>
                  go_simp
                  refine hK.out _ _ ?h22 (fun hHeld => ?j22)
                  case h22 => exact hHeld
                  clear hK K
                  try simp only [Act.put, List.setIfInBounds_toArray, List.set_cons_zero, List.set_cons_succ]
                  refine wpAnyH_take (i := 16) (oi := { dst := some 123, op := Op.call { callee := Callee.builtin Builtin.len, args := #[Operand.tmp 122], argTypes := #[23] }, type := 3, pos := "laws.go:588", after := #[{ on := 15, ground := Ground.data }, { on := 10, ground := Ground.guard }], guard := some (10, true) }) (v := ?v23) rfl (by kernel_rfl) (by kernel_rfl) (by kernel_rfl) (fun _ _ _ h => h) (Or.inl ⟨by rfl, ?y23⟩) (by assumption) ?r23
                  case y23 => intro w_ hSw; (try dsimp only at hSw); go_simp; (try (with_reducible rfl))
                  try simp only [Act.put, List.setIfInBounds_toArray, List.set_cons_zero, List.set_cons_succ]
                  refine wpAnyH_take (i := 17) (oi := { dst := some 124, op := Op.binOp BinOp.eql 3 (Operand.tmp 120) (Operand.tmp 123) 3, type := 4, pos := "laws.go:588", after := #[{ on := 13, ground := Ground.data }, { on := 16, ground := Ground.data }, { on := 10, ground := Ground.guard }], guard := some (10, true) }) (v := ?v24) rfl (by kernel_rfl) (by kernel_rfl) (by kernel_rfl) (fun _ _ _ h => h) (Or.inl ⟨by rfl, ?y24⟩) (by assumption) ?r24
                  case y24 => intro w_ hSw; (try dsimp only at hSw); go_simp; (try (with_reducible rfl))
                  try simp only [Act.put, List.setIfInBounds_toArray, List.set_cons_zero, List.set_cons_succ]
                  refine wpAnyH_take (i := 18) (oi := { dst := some 125, op := Op.pick (Operand.tmp 117) (Operand.tmp 124) (Operand.const (Value.bool false)), type := 4, pos := "laws.go:588", after := #[{ on := 10, ground := Ground.data }, { on := 17, ground := Ground.data }], guard := none }) (v := ?v25) rfl (by kernel_rfl) (by kernel_rfl) (by kernel_rfl) (fun _ _ _ h => h) (Or.inl ⟨by rfl, ?y25⟩) (by assumption) ?r25
                  case y25 => intro w_ hSw; (try dsimp only at hSw); go_simp; (try (with_reducible rfl))
                  try simp only [Act.put, List.setIfInBounds_toArray, List.set_cons_zero, List.set_cons_succ]
                  refine wpAnyH_take (i := 19) (oi := { dst := some 2, op := Op.assign (Operand.tmp 125), type := 4, pos := "laws.go:588", after := #[{ on := 18, ground := Ground.data }, { on := 12, ground := Ground.chain }, { on := 0, ground := Ground.phase }, { on := 1, ground := Ground.phase }, { on := 2, ground := Ground.phase }, { on := 3, ground := Ground.phase }, { on := 4, ground := Ground.phase }, { on := 5, ground := Ground.phase }, { on := 6, ground := Ground.phase }, { on := 7, ground := Ground.phase }, { on := 8, ground := Ground.phase }, { on := 9, ground := Ground.phase }, { on := 10, ground := Ground.phase }, { on := 11, ground := Ground.phase }, { on := 12, ground := Ground.phase }, { on := 13, ground := Ground.phase }, { on := 14, ground := Ground.phase }, { on := 15, ground := Ground.phase }, { on := 16, ground := Ground.phase }, { on := 17, ground := Ground.phase }, { on := 18, ground := Ground.phase }], guard := none }) (v := ?v26) rfl (by kernel_rfl) (by kernel_rfl) (by kernel_rfl) (fun _ _ _ h => h) (Or.inl ⟨by rfl, ?y26⟩) (by assumption) ?r26
                  case y26 => intro w_ hSw; (try dsimp only at hSw); go_simp; (try (with_reducible rfl))
                  try simp only [Act.put, List.setIfInBounds_toArray, List.set_cons_zero, List.set_cons_succ]
                  refine wpAnyH_done (by kernel_rfl) ?_ _
                  go_wp2
                  go_ret
                  exact ⟨rfl, BW.out.trans (HB.out.mono SZ.out)⟩
              case k18 =>
                go_simp
                refine hK.out _ _ ?h27 (fun hHeld => ?j27)
                case h27 => exact hHeld
                clear hK K
                try simp only [Act.put, List.setIfInBounds_toArray, List.set_cons_zero, List.set_cons_succ]
                refine wpAnyH_take (i := 16) (oi := { dst := some 123, op := Op.call { callee := Callee.builtin Builtin.len, args := #[Operand.tmp 122], argTypes := #[23] }, type := 3, pos := "laws.go:588", after := #[{ on := 15, ground := Ground.data }, { on := 10, ground := Ground.guard }], guard := some (10, true) }) (v := ?v28) rfl (by kernel_rfl) (by kernel_rfl) (by kernel_rfl) (fun _ _ _ h => h) (Or.inl ⟨by rfl, ?y28⟩) (by assumption) ?r28
                case y28 => intro w_ hSw; (try dsimp only at hSw); go_simp; (try (with_reducible rfl))
                try simp only [Act.put, List.setIfInBounds_toArray, List.set_cons_zero, List.set_cons_succ]
                refine wpAnyH_ready (rs := [12]) (by kernel_rfl) (by simp) ?_
                refine AllReadyH.cons (o := { dst := some 119, op := Op.call { callee := Callee.value (Operand.func 10), args := #[Operand.tmp 118, Operand.const (Value.int IntKind.i64 9999)], argTypes := #[25, 3] }, type := 28, pos := "laws.go:588", after := #[{ on := 11, ground := Ground.data }, { on := 10, ground := Ground.chain }, { on := 10, ground := Ground.guard }], guard := some (10, true) }) rfl (fun K hK => ?k29) AllReadyH.nil
                case k29 =>
                  go_simp
                  refine Calls.mono (hd9 V0 HB.out) ?_
                  rintro e V12 ⟨B9, d9, rfl, -, b9⟩
                  clear cF1_0 cF1_1
                  replace F1 := Aside0.mk (below_blk F1.out b9)
                  replace HB := Aside0.mk (bel_then HB.out b9)
                  clear b9
                  have cF1_0 : V12.cell? ⟨w1.heap.size, 0, none⟩ = some (.int .i64 s.f0) := by have h_ := F1.out; simp [World.cell?, h_]
                  have cF1_1 : V12.cell? ⟨w1.heap.size, 1, none⟩ = some (.slice B s.f1.length d) := by have h_ := F1.out; simp [World.cell?, h_]
                  refine hK.out _ _ ?h30 (fun hHeld => ?j30)
                  case h30 => exact trivial
                  clear hK K
                  try simp only [Act.put, List.setIfInBounds_toArray, List.set_cons_zero, List.set_cons_succ]
                  refine wpAnyH_take (i := 13) (oi := { dst := some 120, op := Op.call { callee := Callee.builtin Builtin.len, args := #[Operand.tmp 119], argTypes := #[28] }, type := 3, pos := "laws.go:588", after := #[{ on := 12, ground := Ground.data }, { on := 10, ground := Ground.guard }], guard := some (10, true) }) (v := ?v31) rfl (by kernel_rfl) (by kernel_rfl) (by kernel_rfl) (fun _ _ _ h => h) (Or.inl ⟨by rfl, ?y31⟩) (by assumption) ?r31
                  case y31 => intro w_ hSw; (try dsimp only at hSw); go_simp; (try (with_reducible rfl))
                  try simp only [Act.put, List.setIfInBounds_toArray, List.set_cons_zero, List.set_cons_succ]
                  refine wpAnyH_take (i := 17) (oi := { dst := some 124, op := Op.binOp BinOp.eql 3 (Operand.tmp 120) (Operand.tmp 123) 3, type := 4, pos := "laws.go:588", after := #[{ on := 13, ground := Ground.data }, { on := 16, ground := Ground.data }, { on := 10, ground := Ground.guard }], guard := some (10, true) }) (v := ?v32) rfl (by kernel_rfl) (by kernel_rfl) (by kernel_rfl) (fun _ _ _ h => h) (Or.inl ⟨by rfl, ?y32⟩) (by assumption) ?r32
                  case y32 => intro w_ hSw; (try dsimp only at hSw); go_simp; (try (with_reducible rfl))
                  try simp only [Act.put, List.setIfInBounds_toArray, List.set_cons_zero, List.set_cons_succ]
                  refine wpAnyH_take (i := 18) (oi := { dst := some 125, op := Op.pick (Operand.tmp 117) (Operand.tmp 124) (Operand.const (Value.bool false)), type := 4, pos := "laws.go:588", after := #[{ on := 10, ground := Ground.data }, { on := 17, ground := Ground.data }], guard := none }) (v := ?v33) rfl (by kernel_rfl) (by kernel_rfl) (by kernel_rfl) (fun _ _ _ h => h) (Or.inl ⟨by rfl, ?y33⟩) (by assumption) ?r33
                  case y33 => intro w_ hSw; (try dsimp only at hSw); go_simp; (try (with_reducible rfl))
                  try simp only [Act.put, List.setIfInBounds_toArray, List.set_cons_zero, List.set_cons_succ]
                  refine wpAnyH_take (i := 19) (oi := { dst := some 2, op := Op.assign (Operand.tmp 125), type := 4, pos := "laws.go:588", after := #[{ on := 18, ground := Ground.data }, { on := 12, ground := Ground.chain }, { on := 0, ground := Ground.phase }, { on := 1, ground := Ground.phase }, { on := 2, ground := Ground.phase }, { on := 3, ground := Ground.phase }, { on := 4, ground := Ground.phase }, { on := 5, ground := Ground.phase }, { on := 6, ground := Ground.phase }, { on := 7, ground := Ground.phase }, { on := 8, ground := Ground.phase }, { on := 9, ground := Ground.phase }, { on := 10, ground := Ground.phase }, { on := 11, ground := Ground.phase }, { on := 12, ground := Ground.phase }, { on := 13, ground := Ground.phase }, { on := 14, ground := Ground.phase }, { on := 15, ground := Ground.phase }, { on := 16, ground := Ground.phase }, { on := 17, ground := Ground.phase }, { on := 18, ground := Ground.phase }], guard := none }) (v := ?v34) rfl (by kernel_rfl) (by kernel_rfl) (by kernel_rfl) (fun _ _ _ h => h) (Or.inl ⟨by rfl, ?y34⟩) (by assumption) ?r34
                  case y34 => intro w_ hSw; (try dsimp only at hSw); go_simp; (try (with_reducible rfl))
                  try simp only [Act.put, List.setIfInBounds_toArray, List.set_cons_zero, List.set_cons_succ]
                  refine wpAnyH_done (by kernel_rfl) ?_ _
                  go_wp2
                  go_ret
                  exact ⟨rfl, BW.out.trans (HB.out.mono SZ.out)⟩
            case k15 =>
              go_simp
              refine hK.out _ _ ?h35 (fun hHeld => ?j35)
              case h35 => exact hHeld
              clear hK K
              try simp only [Act.put, List.setIfInBounds_toArray, List.set_cons_zero, List.set_cons_succ]
              refine wpAnyH_take (i := 16) (oi := { dst := some 123, op := Op.call { callee := Callee.builtin Builtin.len, args := #[Operand.tmp 122], argTypes := #[23] }, type := 3, pos := "laws.go:588", after := #[{ on := 15, ground := Ground.data }, { on := 10, ground := Ground.guard }], guard := some (10, true) }) (v := ?v36) rfl (by kernel_rfl) (by kernel_rfl) (by kernel_rfl) (fun _ _ _ h => h) (Or.inl ⟨by rfl, ?y36⟩) (by assumption) ?r36
              case y36 => intro w_ hSw; (try dsimp only at hSw); go_simp; (try (with_reducible rfl))
              try simp only [Act.put, List.setIfInBounds_toArray, List.set_cons_zero, List.set_cons_succ]
              refine wpAnyH_ready (rs := [11]) (by kernel_rfl) (by simp) ?_
              refine AllReadyH.cons (o := { dst := some 118, op := Op.load 25 (Operand.tmp 3), type := 25, pos := "laws.go:588", after := #[{ on := 10, ground := Ground.guard }], guard := some (10, true) }) rfl (fun K hK => ?k37) AllReadyH.nil
              case k37 =>
                go_simp
                refine hK.out _ _ ?h38 (fun hHeld => ?j38)
                case h38 => exact hHeld
                clear hK K
                try simp only [Act.put, List.setIfInBounds_toArray, List.set_cons_zero, List.set_cons_succ]
                refine wpAnyH_ready (rs := [12]) (by kernel_rfl) (by simp) ?_
                refine AllReadyH.cons (o := { dst := some 119, op := Op.call { callee := Callee.value (Operand.func 10), args := #[Operand.tmp 118, Operand.const (Value.int IntKind.i64 9999)], argTypes := #[25, 3] }, type := 28, pos := "laws.go:588", after := #[{ on := 11, ground := Ground.data }, { on := 10, ground := Ground.chain }, { on := 10, ground := Ground.guard }], guard := some (10, true) }) rfl (fun K hK => ?k39) AllReadyH.nil
                case k39 =>
                  go_simp
                  refine Calls.mono (hd9 V0 HB.out) ?_
                  rintro e V12 ⟨B9, d9, rfl, -, b9⟩
                  clear cF1_0 cF1_1
                  replace F1 := Aside0.mk (below_blk F1.out b9)
                  replace HB := Aside0.mk (bel_then HB.out b9)
                  clear b9
                  have cF1_0 : V12.cell? ⟨w1.heap.size, 0, none⟩ = some (.int .i64 s.f0) := by have h_ := F1.out; simp [World.cell?, h_]
                  have cF1_1 : V12.cell? ⟨w1.heap.size, 1, none⟩ = some (.slice B s.f1.length d) := by have h_ := F1.out; simp [World.cell?, h_]
                  refine hK.out _ _ ?h40 (fun hHeld => ?j40)
                  case h40 => exact trivial
                  clear hK K
                  try simp only [Act.put, List.setIfInBounds_toArray, List.set_cons_zero, List.set_cons_succ]
                  refine wpAnyH_take (i := 13) (oi := { dst := some 120, op := Op.call { callee := Callee.builtin Builtin.len, args := #[Operand.tmp 119], argTypes := #[28] }, type := 3, pos := "laws.go:588", after := #[{ on := 12, ground := Ground.data }, { on := 10, ground := Ground.guard }], guard := some (10, true) }) (v := ?v41) rfl (by kernel_rfl) (by kernel_rfl) (by kernel_rfl) (fun _ _ _ h => h) (Or.inl ⟨by rfl, ?y41⟩) (by assumption) ?r41
                  case y41 => intro w_ hSw; (try dsimp only at hSw); go_simp; (try (with_reducible rfl))
                  try simp only [Act.put, List.setIfInBounds_toArray, List.set_cons_zero, List.set_cons_succ]
                  refine wpAnyH_take (i := 17) (oi := { dst := some 124, op := Op.binOp BinOp.eql 3 (Operand.tmp 120) (Operand.tmp 123) 3, type := 4, pos := "laws.go:588", after := #[{ on := 13, ground := Ground.data }, { on := 16, ground := Ground.data }, { on := 10, ground := Ground.guard }], guard := some (10, true) }) (v := ?v42) rfl (by kernel_rfl) (by kernel_rfl) (by kernel_rfl) (fun _ _ _ h => h) (Or.inl ⟨by rfl, ?y42⟩) (by assumption) ?r42
                  case y42 => intro w_ hSw; (try dsimp only at hSw); go_simp; (try (with_reducible rfl))
                  try simp only [Act.put, List.setIfInBounds_toArray, List.set_cons_zero, List.set_cons_succ]
                  refine wpAnyH_take (i := 18) (oi := { dst := some 125, op := Op.pick (Operand.tmp 117) (Operand.tmp 124) (Operand.const (Value.bool false)), type := 4, pos := "laws.go:588", after := #[{ on := 10, ground := Ground.data }, { on := 17, ground := Ground.data }], guard := none }) (v := ?v43) rfl (by kernel_rfl) (by kernel_rfl) (by kernel_rfl) (fun _ _ _ h => h) (Or.inl ⟨by rfl, ?y43⟩) (by assumption) ?r43
                  case y43 => intro w_ hSw; (try dsimp only at hSw); go_simp; (try (with_reducible rfl))
                  try simp only [Act.put, List.setIfInBounds_toArray, List.set_cons_zero, List.set_cons_succ]
                  refine wpAnyH_take (i := 19) (oi := { dst := some 2, op := Op.assign (Operand.tmp 125), type := 4, pos := "laws.go:588", after := #[{ on := 18, ground := Ground.data }, { on := 12, ground := Ground.chain }, { on := 0, ground := Ground.phase }, { on := 1, ground := Ground.phase }, { on := 2, ground := Ground.phase }, { on := 3, ground := Ground.phase }, { on := 4, ground := Ground.phase }, { on := 5, ground := Ground.phase }, { on := 6, ground := Ground.phase }, { on := 7, ground := Ground.phase }, { on := 8, ground := Ground.phase }, { on := 9, ground := Ground.phase }, { on := 10, ground := Ground.phase }, { on := 11, ground := Ground.phase }, { on := 12, ground := Ground.phase }, { on := 13, ground := Ground.phase }, { on := 14, ground := Ground.phase }, { on := 15, ground := Ground.phase }, { on := 16, ground := Ground.phase }, { on := 17, ground := Ground.phase }, { on := 18, ground := Ground.phase }], guard := none }) (v := ?v44) rfl (by kernel_rfl) (by kernel_rfl) (by kernel_rfl) (fun _ _ _ h => h) (Or.inl ⟨by rfl, ?y44⟩) (by assumption) ?r44
                  case y44 => intro w_ hSw; (try dsimp only at hSw); go_simp; (try (with_reducible rfl))
                  try simp only [Act.put, List.setIfInBounds_toArray, List.set_cons_zero, List.set_cons_succ]
                  refine wpAnyH_done (by kernel_rfl) ?_ _
                  go_wp2
                  go_ret
                  exact ⟨rfl, BW.out.trans (HB.out.mono SZ.out)⟩

end Go.Proofs.YtmfehmbgghfffaaDoor
