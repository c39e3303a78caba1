/- Drawn lists of aliases, and an address, of bytes: contracts. -/
import Derived.Test.YticepbgacokbbaaDoorReg
import Derived.Test.YticepbgacokbbaaDoorDrwAlA
import Derived.Test.YticepbgacokbbaaDoorDrwOpen
namespace Go.Proofs.YticepbgacokbbaaDoor
open Go.RowKit Go.Proofs.YticepbgacokbbaaDoorW.PrintWords
set_option linter.unusedVariables false
set_option linter.unusedSimpArgs false
set_option maxRecDepth 100000 in
set_option maxHeartbeats 2000000 in
theorem drawAliasRound_any (A : Option Addr) (c : Nat) (xs : List Int) (w : World) (hw : fitBytes xs) (hc : xs.length ≤ c) (hr : Kd.C (Kd.int .u8) w A xs.length xs) :
  Calls Tryd.prog 10 #[.slice A xs.length c] w fun e w' => ∃ (ys : List SAlias) (B : Option Addr) (d : Nat), e = .returned (.slice B ys.length d) ∧ (ys.length ≤ 7 ∧ ∀ y ∈ ys, smallAl 3 y) ∧ Kd.R kAlias 32 w' w.heap.size (fun _ => True) (.slice B ys.length d) ys ∧ Below w.heap.size w w' := by
 have ho := fun W (hW : Below w.heap.size w W) => drOpen_any A c xs W hw hc (Kd.C_below hr hW)
 clear hw hc hr
 generalize xs.length = L at ho
 go_enter Tryd.func10, Tryd.ntmps10
 go_wp2_with fail
 refine Calls.mono (ho _ (Below.refl _ _)) ?_
 rintro e w1 ⟨g, rfl, hg, hR, B1⟩
 go_wp2_with fail
 refine Calls.mono (drAnyAliases_any g 0 w1 hR (by omega)) ?_
 rintro e w2 ⟨ys, B, d, rfl, hs, hq, hR2, hd⟩
 have HB := Lib.hid (show Below w.heap.size w w2 from B1.trans (hd.bel (by omega) B1.size))
 have HQ := Aside0.mk (Kd.R_lower hq B1.size)
 clear hd hR2 hq hR ho
 go_wp2
 go_ret
 exact ⟨ys, B, d, rfl, hs, HQ.out, HB.out⟩
set_option maxRecDepth 100000 in
set_option maxHeartbeats 2000000 in
theorem drawAliasFlat_any (A : Option Addr) (c : Nat) (xs : List Int) (w : World) (hw : fitBytes xs) (hc : xs.length ≤ c) (hr : Kd.C (Kd.int .u8) w A xs.length xs) :
  Calls Tryd.prog 21 #[.slice A xs.length c] w fun e w' => ∃ (ys : List SAlias) (B : Option Addr) (d : Nat), e = .returned (.slice B ys.length d) ∧ (ys.length ≤ 7 ∧ ∀ y ∈ ys, smallAl 3 y) ∧ Kd.R kAlias 32 w' w.heap.size (fun _ => True) (.slice B ys.length d) ys ∧ Below w.heap.size w w' := by
 have ho := fun W (hW : Below w.heap.size w W) => drOpen_any A c xs W hw hc (Kd.C_below hr hW)
 clear hw hc hr
 generalize xs.length = L at ho
 go_enter Tryd.func21, Tryd.ntmps21
 go_wp2_with fail
 refine Calls.mono (ho _ (Below.refl _ _)) ?_
 rintro e w1 ⟨g, rfl, hg, hR, B1⟩
 go_wp2_with fail
 refine Calls.mono (drAnyAliases_any g 0 w1 hR (by omega)) ?_
 rintro e w2 ⟨ys, B, d, rfl, hs, hq, hR2, hd⟩
 have HB := Lib.hid (show Below w.heap.size w w2 from B1.trans (hd.bel (by omega) B1.size))
 have HQ := Aside0.mk (Kd.R_lower hq B1.size)
 clear hd hR2 hq hR ho
 go_wp2
 go_ret
 exact ⟨ys, B, d, rfl, hs, HQ.out, HB.out⟩
set_option maxRecDepth 100000 in
set_option maxHeartbeats 4000000 in
theorem drawAliasFor_any (A : Option Addr) (c : Nat) (xs : List Int) (w : World) (hw : fitBytes xs) (hc : xs.length ≤ c) (hr : Kd.C (Kd.int .u8) w A xs.length xs) :
  Calls Tryd.prog 15 #[.slice A xs.length c] w fun e w' => ∃ (ys : List SAlias) (B : Option Addr) (d : Nat) (a : SAddr), e = .returned (.tuple #[.slice B ys.length d, .agg #[.string a.f0, .string a.f1]]) ∧ (ys.length ≤ 7 ∧ ∀ y ∈ ys, smallAl 3 y) ∧ smallA a ∧ Kd.R kAlias 32 w' w.heap.size (fun _ => True) (.slice B ys.length d) ys ∧ Below w.heap.size w w' := by
 have ho := fun W (hW : Below w.heap.size w W) => drOpen_any A c xs W hw hc (Kd.C_below hr hW)
 clear hw hc hr
 generalize xs.length = L at ho
 go_enter Tryd.func15, Tryd.ntmps15
 go_wp2_with fail
 refine Calls.mono (ho _ (bel_alloc (Below.refl _ _) _)) ?_
 rintro e w1 ⟨g, rfl, hg, hR, b1⟩
 have hg1 : w.heap.size < g := by simp at hg; omega
 have fz : w1.heap[w.heap.size]? = some (.cells #[.string ⟨#[]⟩, .string ⟨#[]⟩] 30 (0, 0)) := below_blk (blk_new _ _) b1
 have B1 : Below w.heap.size w w1 := bel_then (bel_alloc (Below.refl _ _) _) b1
 have hgb : g < w1.heap.size := hR.lt
 clear ho b1 hg
 go_wp2_with fail
 refine Calls.mono (drAnyAliases_any g 0 w1 hR (by omega)) ?_
 rintro e w2 ⟨ys, B, d, rfl, hs, hq, hR2, hd⟩
 have FZ := Aside0.mk (hd.blk fz (by omega))
 have HO := Aside0.mk hq
 have HR := Aside0.mk hR2
 have HD := Aside0.mk hd
 have HS := Lib.hid hs
 have HB1 := Lib.hid B1
 have yw2 := hd.size
 have hys := hs.1
 clear hd hR hq hR2 hs B1 fz
 by_cases hn0 : 0 < ys.length
 ·have hn0' : (0 : Int) < (ys.length : Int) := by omega
  go_wp2_with fail
  refine Calls.mono (pick_any g _ 5 _ HR.out (by omega) (by omega)) ?_
  rintro e w5 ⟨k5, rfl, hk5, hr_, hd_⟩
  replace FZ := Aside0.mk (hd_.blk FZ.out (by omega))
  replace HO := Aside0.mk (Dr.R hd_ HO.out hgb)
  replace HR := Aside0.mk hr_
  replace HD := Aside0.mk (Dr.then_ HD.out hd_)
  have yw5 := HD.out.size
  clear hr_ hd_
  by_cases hk0 : k5 = 0
  ·subst hk0
   have zFZ := blk_lt FZ.out
   have cFZ_0 : w5.cell? ⟨w.heap.size, 0, none⟩ = some (.string ⟨#[]⟩) := clq FZ.out 0 rfl
   have cFZ_1 : w5.cell? ⟨w.heap.size, 1, none⟩ = some (.string ⟨#[]⟩) := clq FZ.out 1 rfl
   go_wp2_with fail
   refine Calls.mono (drAnyAddr_any g _ _ HR.out (by omega)) ?_
   rintro e w6 ⟨a, rfl, ha, hr_, hd_⟩
   clear zFZ cFZ_0 cFZ_1
   replace FZ := Aside0.mk (hd_.blk FZ.out (by omega))
   replace HO := Aside0.mk (Dr.R hd_ HO.out hgb)
   replace HR := Aside0.mk hr_
   replace HD := Aside0.mk (Dr.then_ HD.out hd_)
   have yw6 := HD.out.size
   clear hr_ hd_
   have zFZ := blk_lt FZ.out
   have cFZ_0 : w6.cell? ⟨w.heap.size, 0, none⟩ = some (.string ⟨#[]⟩) := clq FZ.out 0 rfl
   have dFZ_0 := fzq FZ.out 0
   have cFZ_1 : w6.cell? ⟨w.heap.size, 1, none⟩ = some (.string ⟨#[]⟩) := clq FZ.out 1 rfl
   have dFZ_1 := fzq FZ.out 1
   go_wp2
   generalize hWX : World.setCell (World.setCell w6 _ _) _ _ = w7
   have nFZ : w7.heap[w.heap.size]? = some (.cells #[.string a.f0, .string a.f1] 30 (0, 0)) := by rw [← hWX]; have h := blk_set1 (blk_set1 FZ.out 0 (.string a.f0)) 1 (.string a.f1); simpa using h
   have nHO : Kd.R kAlias 32 w7 w1.heap.size (fun _ => True) (.slice B ys.length d) ys := by rw [← hWX]; exact R_setLow (R_setLow HO.out _ (by show w.heap.size < w1.heap.size; omega)) _ (by show w.heap.size < w1.heap.size; omega)
   have nHB : Below w.heap.size w w7 := by rw [← hWX]; exact bel_set (bel_set (HB1.out.trans (HD.out.bel (by omega) HB1.out.size)) _ (Nat.le_refl _)) _ (Nat.le_refl _)
   clear zFZ cFZ_0 dFZ_0 cFZ_1 dFZ_1
   clear hWX FZ HO HD HR
   have FZ := Aside0.mk nFZ
   have HO := Aside0.mk nHO
   have HB := Aside0.mk nHB
   clear nFZ nHO nHB
   have zFZ := blk_lt FZ.out
   have cFZ_0 : w7.cell? ⟨w.heap.size, 0, none⟩ = some (.string a.f0) := clq FZ.out 0 rfl
   have cFZ_1 : w7.cell? ⟨w.heap.size, 1, none⟩ = some (.string a.f1) := clq FZ.out 1 rfl
   refine bodyPost_ret (v := .tuple #[.slice B ys.length d, .agg #[.string a.f0, .string a.f1]]) ?hrZ rfl ?hpZ
   case hrZ => simp [results, Tryd.results15, go_sem, cFZ_0, cFZ_1]
   case hpZ => exact ⟨ys, B, d, a, rfl, HS.out, ha, Kd.R_lower HO.out HB1.out.size, HB.out⟩
  ·have hk1 : (0 : Int) < (k5 : Int) := by omega
   clear hk0
   have zFZ := blk_lt FZ.out
   have cFZ_0 : w5.cell? ⟨w.heap.size, 0, none⟩ = some (.string ⟨#[]⟩) := clq FZ.out 0 rfl
   have cFZ_1 : w5.cell? ⟨w.heap.size, 1, none⟩ = some (.string ⟨#[]⟩) := clq FZ.out 1 rfl
   go_wp2
   refine wp_region_held_drew (S := (fun _ => True)) (by kernel_rfl) ?s1 (fun hHeld => ?t1)
   case s1 => exact trivial
   generalize hV0 : World.drew w5 = V0 at hHeld ⊢
   have bV : Below w5.heap.size w5 V0 := by rw [← hV0]; exact drew_below0 w5
   clear hV0
   replace FZ := Aside0.mk (below_blk FZ.out bV)
   replace HO := Aside0.mk (Kd.R_below HO.out bV)
   replace HR := Aside0.mk (HR.out.below bV)
   replace HD := Aside0.mk (HD.out.below bV)
   have yV0 := HD.out.size
   clear bV
   have zFZ := blk_lt FZ.out
   have cFZ_0 : V0.cell? ⟨w.heap.size, 0, none⟩ = some (.string ⟨#[]⟩) := clq FZ.out 0 rfl
   have cFZ_1 : V0.cell? ⟨w.heap.size, 1, none⟩ = some (.string ⟨#[]⟩) := clq FZ.out 1 rfl
   refine tk 0 ?v2 ?y2 ?r2
   case y2 => intro w_ hSw; (try dsimp only at hSw); go_simp; (try (with_reducible rfl))
   try simp only [Act.put, List.setIfInBounds_toArray, List.set_cons_zero, List.set_cons_succ]
   refine tk 1 ?v3 ?y3 ?r3
   case y3 => intro w_ hSw; (try dsimp only at hSw); go_simp; (try (with_reducible rfl))
   try simp only [Act.put, List.setIfInBounds_toArray, List.set_cons_zero, List.set_cons_succ]
   refine tk 2 ?v4 ?y4 ?r4
   case y4 => intro w_ hSw; (try dsimp only at hSw); go_simp; (try (with_reducible rfl))
   try simp only [Act.put, List.setIfInBounds_toArray, List.set_cons_zero, List.set_cons_succ]
   refine tk 3 ?v5 ?y5 ?r5
   case y5 => intro w_ hSw; (try dsimp only at hSw); go_simp; (try (with_reducible rfl))
   try simp only [Act.put, List.setIfInBounds_toArray, List.set_cons_zero, List.set_cons_succ]
   refine tk 4 ?v6 ?y6 ?r6
   case y6 => intro w_ hSw; (try dsimp only at hSw); go_simp; (try (with_reducible rfl))
   try simp only [Act.put, List.setIfInBounds_toArray, List.set_cons_zero, List.set_cons_succ]
   refine rdy (rs := [5]) ?_
   refine rc (fun K hK => ?k7) AllReadyH.nil
   case k7 =>
    go_simp
    refine Calls.mono (pick_any g _ (ys.length : Int) _ HR.out (by omega) (by omega)) ?_
    rintro e V5 ⟨k6, rfl, hk6, hr_, hd_⟩
    clear zFZ cFZ_0 cFZ_1
    replace FZ := Aside0.mk (hd_.blk FZ.out (by omega))
    replace HO := Aside0.mk (Dr.R hd_ HO.out hgb)
    replace HR := Aside0.mk hr_
    replace HD := Aside0.mk (Dr.then_ HD.out hd_)
    have yV5 := HD.out.size
    clear hr_ hd_
    have hk6 := hk6 (by omega)
    have hk6n : k6 < ys.length := by omega
    have hk6' : (k6 : Int) < (ys.length : Int) := by omega
    have zFZ := blk_lt FZ.out
    have cFZ_0 : V5.cell? ⟨w.heap.size, 0, none⟩ = some (.string ⟨#[]⟩) := clq FZ.out 0 rfl
    have cFZ_1 : V5.cell? ⟨w.heap.size, 1, none⟩ = some (.string ⟨#[]⟩) := clq FZ.out 1 rfl
    obtain ⟨ad, Q0, qc0, e1, p0, p1, _, _, _⟩ := at_Alias (Kd.R_reads' HO.out).2.2 k6 hk6n
    subst e1
    have hya := (HS.out.2 _ (getD_mem ys zAlias hk6n)).1
    generalize (ys.getD k6 zAlias).f0 = a at p0 p1 hya
    have HYA := Lib.hid hya
    clear hya
    refine hK.out _ _ ?h8 (fun hHeld => ?j8)
    case h8 => exact trivial
    clear hK K
    try simp only [Act.put, List.setIfInBounds_toArray, List.set_cons_zero, List.set_cons_succ]
    refine tk 6 ?v9 ?y9 ?r9
    case y9 => intro w_ hSw; (try dsimp only at hSw); go_simp; (try (with_reducible rfl))
    try simp only [Act.put, List.setIfInBounds_toArray, List.set_cons_zero, List.set_cons_succ]
    refine tk 7 ?v10 ?y10 ?r10
    case y10 => intro w_ hSw; (try dsimp only at hSw); go_simp; (try (with_reducible rfl))
    try simp only [Act.put, List.setIfInBounds_toArray, List.set_cons_zero, List.set_cons_succ]
    refine tk 9 ?v11 ?y11 ?r11
    case y11 => intro w_ hSw; (try dsimp only at hSw); go_simp; (try (with_reducible rfl))
    try simp only [Act.put, List.setIfInBounds_toArray, List.set_cons_zero, List.set_cons_succ]
    refine rdy (rs := [8]) ?_
    refine rc (fun K hK => ?k12) AllReadyH.nil
    case k12 =>
     go_simp
     refine hK.out _ _ ?h13 (fun hHeld => ?j13)
     case h13 => exact hHeld
     clear hK K
     try simp only [Act.put, List.setIfInBounds_toArray, List.set_cons_zero, List.set_cons_succ]
     refine rdy (rs := [10]) ?_
     refine rc (fun K hK => ?k14) AllReadyH.nil
     case k14 =>
      clear p0 p1
      clear zFZ cFZ_0 cFZ_1
      have zFZ := blk_lt FZ.out
      have cFZ_0 : V5.cell? ⟨w.heap.size, 0, none⟩ = some (.string ⟨#[]⟩) := clq FZ.out 0 rfl
      have dFZ_0 := fzq FZ.out 0
      have cFZ_1 : V5.cell? ⟨w.heap.size, 1, none⟩ = some (.string ⟨#[]⟩) := clq FZ.out 1 rfl
      have dFZ_1 := fzq FZ.out 1
      go_simp
      generalize hWX : World.setCell (World.setCell V5 _ _) _ _ = V10
      have nFZ : V10.heap[w.heap.size]? = some (.cells #[.string a.f0, .string a.f1] 30 (0, 0)) := by rw [← hWX]; have h := blk_set1 (blk_set1 FZ.out 0 (.string a.f0)) 1 (.string a.f1); simpa using h
      have nHO : Kd.R kAlias 32 V10 w1.heap.size (fun _ => True) (.slice (some ad) ys.length d) ys := by rw [← hWX]; exact R_setLow (R_setLow HO.out _ (by show w.heap.size < w1.heap.size; omega)) _ (by show w.heap.size < w1.heap.size; omega)
      have nHB : Below w.heap.size w V10 := by rw [← hWX]; exact bel_set (bel_set (HB1.out.trans (HD.out.bel (by omega) HB1.out.size)) _ (Nat.le_refl _)) _ (Nat.le_refl _)
      clear zFZ cFZ_0 dFZ_0 cFZ_1 dFZ_1
      clear hWX FZ HO HD HR
      have FZ := Aside0.mk nFZ
      have HO := Aside0.mk nHO
      have HB := Aside0.mk nHB
      clear nFZ nHO nHB
      have zFZ := blk_lt FZ.out
      have cFZ_0 : V10.cell? ⟨w.heap.size, 0, none⟩ = some (.string a.f0) := clq FZ.out 0 rfl
      have cFZ_1 : V10.cell? ⟨w.heap.size, 1, none⟩ = some (.string a.f1) := clq FZ.out 1 rfl
      refine hK.out _ _ ?h15 (fun hHeld => ?j15)
      case h15 => exact trivial
      clear hK K
      try simp only [Act.put, List.setIfInBounds_toArray, List.set_cons_zero, List.set_cons_succ]
      refine wpAnyH_done (by kernel_rfl) ?_ _
      go_wp2
      refine bodyPost_ret (v := .tuple #[.slice (some ad) ys.length d, .agg #[.string a.f0, .string a.f1]]) ?hrX rfl ?hpX
      case hrX => simp [results, Tryd.results15, go_sem, cFZ_0, cFZ_1]
      case hpX => exact ⟨ys, some ad, d, a, rfl, HS.out, HYA.out, Kd.R_lower HO.out HB1.out.size, HB.out⟩
 ·have hn0' : ¬ (0 : Int) < (ys.length : Int) := by omega
  have zFZ := blk_lt FZ.out
  have cFZ_0 : w2.cell? ⟨w.heap.size, 0, none⟩ = some (.string ⟨#[]⟩) := clq FZ.out 0 rfl
  have cFZ_1 : w2.cell? ⟨w.heap.size, 1, none⟩ = some (.string ⟨#[]⟩) := clq FZ.out 1 rfl
  go_wp2_with fail
  refine Calls.mono (drAnyAddr_any g _ _ HR.out (by omega)) ?_
  rintro e w6 ⟨a, rfl, ha, hr_, hd_⟩
  clear zFZ cFZ_0 cFZ_1
  replace FZ := Aside0.mk (hd_.blk FZ.out (by omega))
  replace HO := Aside0.mk (Dr.R hd_ HO.out hgb)
  replace HR := Aside0.mk hr_
  replace HD := Aside0.mk (Dr.then_ HD.out hd_)
  have yw6 := HD.out.size
  clear hr_ hd_
  have zFZ := blk_lt FZ.out
  have cFZ_0 : w6.cell? ⟨w.heap.size, 0, none⟩ = some (.string ⟨#[]⟩) := clq FZ.out 0 rfl
  have dFZ_0 := fzq FZ.out 0
  have cFZ_1 : w6.cell? ⟨w.heap.size, 1, none⟩ = some (.string ⟨#[]⟩) := clq FZ.out 1 rfl
  have dFZ_1 := fzq FZ.out 1
  go_wp2
  generalize hWX : World.setCell (World.setCell w6 _ _) _ _ = w7
  have nFZ : w7.heap[w.heap.size]? = some (.cells #[.string a.f0, .string a.f1] 30 (0, 0)) := by rw [← hWX]; have h := blk_set1 (blk_set1 FZ.out 0 (.string a.f0)) 1 (.string a.f1); simpa using h
  have nHO : Kd.R kAlias 32 w7 w1.heap.size (fun _ => True) (.slice B ys.length d) ys := by rw [← hWX]; exact R_setLow (R_setLow HO.out _ (by show w.heap.size < w1.heap.size; omega)) _ (by show w.heap.size < w1.heap.size; omega)
  have nHB : Below w.heap.size w w7 := by rw [← hWX]; exact bel_set (bel_set (HB1.out.trans (HD.out.bel (by omega) HB1.out.size)) _ (Nat.le_refl _)) _ (Nat.le_refl _)
  clear zFZ cFZ_0 dFZ_0 cFZ_1 dFZ_1
  clear hWX FZ HO HD HR
  have FZ := Aside0.mk nFZ
  have HO := Aside0.mk nHO
  have HB := Aside0.mk nHB
  clear nFZ nHO nHB
  have zFZ := blk_lt FZ.out
  have cFZ_0 : w7.cell? ⟨w.heap.size, 0, none⟩ = some (.string a.f0) := clq FZ.out 0 rfl
  have cFZ_1 : w7.cell? ⟨w.heap.size, 1, none⟩ = some (.string a.f1) := clq FZ.out 1 rfl
  refine bodyPost_ret (v := .tuple #[.slice B ys.length d, .agg #[.string a.f0, .string a.f1]]) ?hrN rfl ?hpN
  case hrN => simp [results, Tryd.results15, go_sem, cFZ_0, cFZ_1]
  case hpN => exact ⟨ys, B, d, a, rfl, HS.out, ha, Kd.R_lower HO.out HB1.out.size, HB.out⟩

end Go.Proofs.YticepbgacokbbaaDoor
