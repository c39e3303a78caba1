/- An item and an address, of bytes: a contract. -/
import Derived.Test.YtiaibgkpohmihaaDoorReg
import Derived.Test.YtiaibgkpohmihaaDoorDrwAnySp
import Derived.Test.YtiaibgkpohmihaaDoorDrw0
namespace Go.Proofs.YtiaibgkpohmihaaDoor
open Go.RowKit Go.Proofs.YtiaibgkpohmihaaDoorW.PrintWords
set_option linter.unusedVariables false
set_option linter.unusedSimpArgs false
set_option maxRecDepth 100000 in
set_option maxHeartbeats 8000000 in
theorem drawBounceOf_any (A : Option Addr) (c : Nat) (xs : List Int) (w : World) (hw : fitBytes xs) (hc : xs.length ≤ c) (hr : Kd.C (Kd.int .u8) w A xs.length xs) :
  Calls Tryd.prog 6 #[.slice A xs.length c] w fun e w' => ∃ (x : SItem) (A0 : Option Addr) (c0 : Nat) (A1 : Option Addr) (c1 : Nat) (a : SAddr), e = .returned (.tuple #[.agg #[.int .i64 x.f0, .string x.f1.f0, .string x.f1.f1, .slice A0 x.f2.length c0, .slice A1 x.f3.length c1], .agg #[.string a.f0, .string a.f1]]) ∧ wideI x ∧ smallA a ∧ Kd.R kRcpt 55 w' w.heap.size (fun _ => True) (.slice A0 x.f2.length c0) x.f2 ∧ Kd.R Kd.string 9 w' w.heap.size (fun _ => True) (.slice A1 x.f3.length c1) x.f3 ∧ Below w.heap.size w w' := by
 have ho := fun W (hW : Below w.heap.size w W) => drOpen_any A c xs W hw hc (Kd.C_below hr hW)
 clear hw hc hr
 generalize xs.length = L at ho
 go_enter Tryd.func6, Tryd.ntmps6
 go_wp2_with fail
 refine Calls.mono (ho _ (bel_alloc (bel_alloc (Below.refl _ _) _) _)) ?_
 rintro e w1 ⟨g, rfl, hg, hR, b1⟩
 have hg1 : w.heap.size + 1 < g := by simp at hg; omega
 have fa := below_blk (blk_alloc (blk_new w (.cells #[.int .i64 0, .string ⟨#[]⟩, .string ⟨#[]⟩, .slice none 0 0, .slice none 0 0] 28)) (.cells #[.string ⟨#[]⟩, .string ⟨#[]⟩] 24)) b1
 have fb : w1.heap[w.heap.size + 1]? = some (.cells #[.string ⟨#[]⟩, .string ⟨#[]⟩] 24 (0, 0)) := below_blk (blk_at _ _ (by simp)) b1
 have B1 : Below w.heap.size w w1 := bel_then (bel_alloc (bel_alloc (Below.refl _ _) _) _) b1
 have hgl : g < w1.heap.size := hR.lt
 clear ho b1 hg
 go_wp2_with fail
 refine Calls.mono (drAnySpool_any g 0 w1 hR (by omega)) ?_
 rintro e w2 ⟨⟨la, ys⟩, B, d, rfl, hs, hq, hR2, hd⟩
 dsimp only at hq ⊢
 have hln : ys.length ≤ 8 := hs.2.1
 have HX := Lib.hid hs.2.2
 have FA := Aside0.mk (hd.blk fa (by omega))
 have FB := Aside0.mk (hd.blk fb (by omega))
 have hw12 := hd.size
 have HQ := Aside0.mk hq
 have HR := Aside0.mk hR2
 have HD := Aside0.mk hd
 have HB := Lib.hid B1
 clear hd hR hq hR2 hs B1 fa fb
 by_cases hx0 : ys.length = 0
 ·have hx0' : ((ys.length : Int) == 0) = true := by simp [hx0]
  go_wp2_with fail
  generalize hW2 : World.alloc w2 _ = w3
  have b2 : Below w2.heap.size w2 w3 := by rw [← hW2]; exact bel_alloc (Below.refl _ _) _
  clear hW2
  replace FA := Aside0.mk (below_blk FA.out b2)
  replace FB := Aside0.mk (below_blk FB.out b2)
  replace HR := Aside0.mk (HR.out.below b2)
  replace HD := Aside0.mk (HD.out.below b2)
  have yw3 := HD.out.size
  clear b2 HQ
  have cFA_0 : w3.cell? ⟨w.heap.size, 0, none⟩ = some (.int .i64 0) := clq FA.out 0 rfl
  have dFA_0 := fzq FA.out 0
  have cFA_1 : w3.cell? ⟨w.heap.size, 1, none⟩ = some (.string ⟨#[]⟩) := clq FA.out 1 rfl
  have dFA_1 := fzq FA.out 1
  have cFA_2 : w3.cell? ⟨w.heap.size, 2, none⟩ = some (.string ⟨#[]⟩) := clq FA.out 2 rfl
  have dFA_2 := fzq FA.out 2
  have cFA_3 : w3.cell? ⟨w.heap.size, 3, none⟩ = some (.slice none 0 0) := clq FA.out 3 rfl
  have dFA_3 := fzq FA.out 3
  have cFA_4 : w3.cell? ⟨w.heap.size, 4, none⟩ = some (.slice none 0 0) := clq FA.out 4 rfl
  have dFA_4 := fzq FA.out 4
  have zFA := blk_lt FA.out
  have cFB_0 : w3.cell? ⟨w.heap.size + 1, 0, none⟩ = some (.string ⟨#[]⟩) := clq FB.out 0 rfl
  have dFB_0 := fzq FB.out 0
  have cFB_1 : w3.cell? ⟨w.heap.size + 1, 1, none⟩ = some (.string ⟨#[]⟩) := clq FB.out 1 rfl
  have dFB_1 := fzq FB.out 1
  have zFB := blk_lt FB.out
  refine Calls.mono (drAddr_any g _ w3 HR.out (by omega)) ?_
  rintro e V1 ⟨a1, rfl, hs1, hr_, hd_⟩
  clear cFA_0 cFA_1 cFA_2 cFA_3 cFA_4 dFA_0 dFA_1 dFA_2 dFA_3 dFA_4 cFB_0 cFB_1 dFB_0 dFB_1 zFA zFB
  have H1 := Lib.hid hs1
  clear hs1
  replace FA := Aside0.mk (hd_.blk FA.out (by omega))
  replace FB := Aside0.mk (hd_.blk FB.out (by omega))
  replace HR := Aside0.mk hr_
  replace HD := Aside0.mk (Dr.then_ HD.out hd_)
  have yV1 := HD.out.size
  clear hr_ hd_
  have cFA_0 : V1.cell? ⟨w.heap.size, 0, none⟩ = some (.int .i64 0) := clq FA.out 0 rfl
  have dFA_0 := fzq FA.out 0
  have cFA_1 : V1.cell? ⟨w.heap.size, 1, none⟩ = some (.string ⟨#[]⟩) := clq FA.out 1 rfl
  have dFA_1 := fzq FA.out 1
  have cFA_2 : V1.cell? ⟨w.heap.size, 2, none⟩ = some (.string ⟨#[]⟩) := clq FA.out 2 rfl
  have dFA_2 := fzq FA.out 2
  have cFA_3 : V1.cell? ⟨w.heap.size, 3, none⟩ = some (.slice none 0 0) := clq FA.out 3 rfl
  have dFA_3 := fzq FA.out 3
  have cFA_4 : V1.cell? ⟨w.heap.size, 4, none⟩ = some (.slice none 0 0) := clq FA.out 4 rfl
  have dFA_4 := fzq FA.out 4
  have zFA := blk_lt FA.out
  have cFB_0 : V1.cell? ⟨w.heap.size + 1, 0, none⟩ = some (.string ⟨#[]⟩) := clq FB.out 0 rfl
  have dFB_0 := fzq FB.out 0
  have cFB_1 : V1.cell? ⟨w.heap.size + 1, 1, none⟩ = some (.string ⟨#[]⟩) := clq FB.out 1 rfl
  have dFB_1 := fzq FB.out 1
  have zFB := blk_lt FB.out
  go_wp2_with fail
  refine Calls.mono (drAddr_any g _ V1 HR.out (by omega)) ?_
  rintro e V3 ⟨a2, rfl, hs2, hr_, hd_⟩
  clear cFA_0 cFA_1 cFA_2 cFA_3 cFA_4 dFA_0 dFA_1 dFA_2 dFA_3 dFA_4 cFB_0 cFB_1 dFB_0 dFB_1 zFA zFB
  have H2 := Lib.hid hs2
  clear hs2
  replace FA := Aside0.mk (hd_.blk FA.out (by omega))
  replace FB := Aside0.mk (hd_.blk FB.out (by omega))
  replace HR := Aside0.mk hr_
  replace HD := Aside0.mk (Dr.then_ HD.out hd_)
  have yV3 := HD.out.size
  clear hr_ hd_
  have cFA_0 : V3.cell? ⟨w.heap.size, 0, none⟩ = some (.int .i64 0) := clq FA.out 0 rfl
  have dFA_0 := fzq FA.out 0
  have cFA_1 : V3.cell? ⟨w.heap.size, 1, none⟩ = some (.string ⟨#[]⟩) := clq FA.out 1 rfl
  have dFA_1 := fzq FA.out 1
  have cFA_2 : V3.cell? ⟨w.heap.size, 2, none⟩ = some (.string ⟨#[]⟩) := clq FA.out 2 rfl
  have dFA_2 := fzq FA.out 2
  have cFA_3 : V3.cell? ⟨w.heap.size, 3, none⟩ = some (.slice none 0 0) := clq FA.out 3 rfl
  have dFA_3 := fzq FA.out 3
  have cFA_4 : V3.cell? ⟨w.heap.size, 4, none⟩ = some (.slice none 0 0) := clq FA.out 4 rfl
  have dFA_4 := fzq FA.out 4
  have zFA := blk_lt FA.out
  have cFB_0 : V3.cell? ⟨w.heap.size + 1, 0, none⟩ = some (.string ⟨#[]⟩) := clq FB.out 0 rfl
  have dFB_0 := fzq FB.out 0
  have cFB_1 : V3.cell? ⟨w.heap.size + 1, 1, none⟩ = some (.string ⟨#[]⟩) := clq FB.out 1 rfl
  have dFB_1 := fzq FB.out 1
  have zFB := blk_lt FB.out
  go_wp2_with fail
  generalize hVa : World.alloc V3 _ = V5
  have bV : Below V3.heap.size V3 V5 := by rw [← hVa]; exact bel_alloc (Below.refl _ _) _
  have rT : Kd.R kRcpt 55 V5 w1.heap.size (fun _ => True) (.slice (some ⟨V3.heap.size, 0, none⟩) 1 1) [⟨a2, 0, 0⟩] := by rw [← hVa]; exact R_one kRcpt 55 V3 w1.heap.size ⟨a2, 0, 0⟩ [.string a2.f0, .string a2.f1, .int .i64 0, .int .i64 0] (kRcpt_mkM _ _ _ _) yV3
  clear hVa
  clear cFA_0 cFA_1 cFA_2 cFA_3 cFA_4 dFA_0 dFA_1 dFA_2 dFA_3 dFA_4 cFB_0 cFB_1 dFB_0 dFB_1 zFA zFB
  replace FA := Aside0.mk (below_blk FA.out bV)
  replace FB := Aside0.mk (below_blk FB.out bV)
  replace HR := Aside0.mk (HR.out.below bV)
  replace HD := Aside0.mk (HD.out.below bV)
  have yV5 := HD.out.size
  clear bV
  have RT := Aside0.mk rT
  clear rT
  have cFA_0 : V5.cell? ⟨w.heap.size, 0, none⟩ = some (.int .i64 0) := clq FA.out 0 rfl
  have dFA_0 := fzq FA.out 0
  have cFA_1 : V5.cell? ⟨w.heap.size, 1, none⟩ = some (.string ⟨#[]⟩) := clq FA.out 1 rfl
  have dFA_1 := fzq FA.out 1
  have cFA_2 : V5.cell? ⟨w.heap.size, 2, none⟩ = some (.string ⟨#[]⟩) := clq FA.out 2 rfl
  have dFA_2 := fzq FA.out 2
  have cFA_3 : V5.cell? ⟨w.heap.size, 3, none⟩ = some (.slice none 0 0) := clq FA.out 3 rfl
  have dFA_3 := fzq FA.out 3
  have cFA_4 : V5.cell? ⟨w.heap.size, 4, none⟩ = some (.slice none 0 0) := clq FA.out 4 rfl
  have dFA_4 := fzq FA.out 4
  have zFA := blk_lt FA.out
  have cFB_0 : V5.cell? ⟨w.heap.size + 1, 0, none⟩ = some (.string ⟨#[]⟩) := clq FB.out 0 rfl
  have dFB_0 := fzq FB.out 0
  have cFB_1 : V5.cell? ⟨w.heap.size + 1, 1, none⟩ = some (.string ⟨#[]⟩) := clq FB.out 1 rfl
  have dFB_1 := fzq FB.out 1
  have zFB := blk_lt FB.out
  refine Calls.mono (drBody_any g _ 3 V5 HR.out (by omega) (by omega) (by omega)) ?_
  rintro e V7 ⟨zs, B0, d0, rfl, hs7, hb_, hr_, hd_⟩
  clear cFA_0 cFA_1 cFA_2 cFA_3 cFA_4 dFA_0 dFA_1 dFA_2 dFA_3 dFA_4 cFB_0 cFB_1 dFB_0 dFB_1 zFA zFB
  have H7 := Lib.hid hs7
  clear hs7
  replace FA := Aside0.mk (hd_.blk FA.out (by omega))
  replace FB := Aside0.mk (hd_.blk FB.out (by omega))
  replace RT := Aside0.mk (Dr.R hd_ RT.out hgl)
  replace HR := Aside0.mk hr_
  replace HD := Aside0.mk (Dr.then_ HD.out hd_)
  have yV7 := HD.out.size
  clear hr_ hd_
  have UB := Aside0.mk (Kd.R_lower (base' := w1.heap.size) hb_ yV5)
  clear hb_
  have cFA_0 : V7.cell? ⟨w.heap.size, 0, none⟩ = some (.int .i64 0) := clq FA.out 0 rfl
  have dFA_0 := fzq FA.out 0
  have cFA_1 : V7.cell? ⟨w.heap.size, 1, none⟩ = some (.string ⟨#[]⟩) := clq FA.out 1 rfl
  have dFA_1 := fzq FA.out 1
  have cFA_2 : V7.cell? ⟨w.heap.size, 2, none⟩ = some (.string ⟨#[]⟩) := clq FA.out 2 rfl
  have dFA_2 := fzq FA.out 2
  have cFA_3 : V7.cell? ⟨w.heap.size, 3, none⟩ = some (.slice none 0 0) := clq FA.out 3 rfl
  have dFA_3 := fzq FA.out 3
  have cFA_4 : V7.cell? ⟨w.heap.size, 4, none⟩ = some (.slice none 0 0) := clq FA.out 4 rfl
  have dFA_4 := fzq FA.out 4
  have zFA := blk_lt FA.out
  have cFB_0 : V7.cell? ⟨w.heap.size + 1, 0, none⟩ = some (.string ⟨#[]⟩) := clq FB.out 0 rfl
  have dFB_0 := fzq FB.out 0
  have cFB_1 : V7.cell? ⟨w.heap.size + 1, 1, none⟩ = some (.string ⟨#[]⟩) := clq FB.out 1 rfl
  have dFB_1 := fzq FB.out 1
  have zFB := blk_lt FB.out
  go_wp2_with fail
  refine Calls.mono (drAnyAddr_any g _ V7 HR.out (by omega)) ?_
  rintro e V10 ⟨a, rfl, hs10, hr_, hd_⟩
  clear cFA_0 cFA_1 cFA_2 cFA_3 cFA_4 dFA_0 dFA_1 dFA_2 dFA_3 dFA_4 cFB_0 cFB_1 dFB_0 dFB_1 zFA zFB
  have H10 := Lib.hid hs10
  clear hs10
  replace FA := Aside0.mk (hd_.blk FA.out (by omega))
  replace FB := Aside0.mk (hd_.blk FB.out (by omega))
  replace RT := Aside0.mk (Dr.R hd_ RT.out hgl)
  replace UB := Aside0.mk (Dr.R hd_ UB.out hgl)
  replace HR := Aside0.mk hr_
  replace HD := Aside0.mk (Dr.then_ HD.out hd_)
  have yV10 := HD.out.size
  clear hr_ hd_
  have cFA_0 : V10.cell? ⟨w.heap.size, 0, none⟩ = some (.int .i64 0) := clq FA.out 0 rfl
  have dFA_0 := fzq FA.out 0
  have cFA_1 : V10.cell? ⟨w.heap.size, 1, none⟩ = some (.string ⟨#[]⟩) := clq FA.out 1 rfl
  have dFA_1 := fzq FA.out 1
  have cFA_2 : V10.cell? ⟨w.heap.size, 2, none⟩ = some (.string ⟨#[]⟩) := clq FA.out 2 rfl
  have dFA_2 := fzq FA.out 2
  have cFA_3 : V10.cell? ⟨w.heap.size, 3, none⟩ = some (.slice none 0 0) := clq FA.out 3 rfl
  have dFA_3 := fzq FA.out 3
  have cFA_4 : V10.cell? ⟨w.heap.size, 4, none⟩ = some (.slice none 0 0) := clq FA.out 4 rfl
  have dFA_4 := fzq FA.out 4
  have zFA := blk_lt FA.out
  have cFB_0 : V10.cell? ⟨w.heap.size + 1, 0, none⟩ = some (.string ⟨#[]⟩) := clq FB.out 0 rfl
  have dFB_0 := fzq FB.out 0
  have cFB_1 : V10.cell? ⟨w.heap.size + 1, 1, none⟩ = some (.string ⟨#[]⟩) := clq FB.out 1 rfl
  have dFB_1 := fzq FB.out 1
  have zFB := blk_lt FB.out
  go_wp2
  clear cFA_0 cFA_1 cFA_2 cFA_3 cFA_4 dFA_0 dFA_1 dFA_2 dFA_3 dFA_4 cFB_0 cFB_1 dFB_0 dFB_1 zFA zFB
  generalize hWX : World.setCell (World.setCell (World.setCell (World.setCell (World.setCell V10 _ _) _ _) _ _) _ _) _ _ = V11
  have nFA : V11.heap[w.heap.size]? = some (.cells #[.int .i64 1, .string a1.f0, .string a1.f1, .slice (some ⟨V3.heap.size, 0, none⟩) 1 1, .slice B0 zs.length d0] 28 (0, 0)) := by rw [← hWX]; have h_ := (blk_set1 (blk_set1 (blk_set1 (blk_set1 (blk_set1 FA.out 0 (.int .i64 1)) 1 (.string a1.f0)) 2 (.string a1.f1)) 3 (.slice (some ⟨V3.heap.size, 0, none⟩) 1 1)) 4 (.slice B0 zs.length d0)); simpa using h_
  have nFB : V11.heap[w.heap.size + 1]? = some (.cells #[.string ⟨#[]⟩, .string ⟨#[]⟩] 24 (0, 0)) := by rw [← hWX]; exact (blk_far (blk_far (blk_far (blk_far (blk_far FB.out (p := ⟨w.heap.size, 0, none⟩) (by show w.heap.size + 1 ≠ w.heap.size; omega) (.int .i64 1)) (p := ⟨w.heap.size, 1, none⟩) (by show w.heap.size + 1 ≠ w.heap.size; omega) (.string a1.f0)) (p := ⟨w.heap.size, 2, none⟩) (by show w.heap.size + 1 ≠ w.heap.size; omega) (.string a1.f1)) (p := ⟨w.heap.size, 3, none⟩) (by show w.heap.size + 1 ≠ w.heap.size; omega) (.slice (some ⟨V3.heap.size, 0, none⟩) 1 1)) (p := ⟨w.heap.size, 4, none⟩) (by show w.heap.size + 1 ≠ w.heap.size; omega) (.slice B0 zs.length d0))
  have nRT : Kd.R kRcpt 55 V11 w1.heap.size (fun _ => True) (.slice (some ⟨V3.heap.size, 0, none⟩) 1 1) [⟨a2, 0, 0⟩] := by rw [← hWX]; exact R_other RT.out FA.out (by decide) (((((grown_set1 _ _ _ _).trans (grown_set1 _ _ _ _)).trans (grown_set1 _ _ _ _)).trans (grown_set1 _ _ _ _)).trans (grown_set1 _ _ _ _))
  have nUB : Kd.R Kd.string 9 V11 w1.heap.size (fun _ => True) (.slice B0 zs.length d0) zs := by rw [← hWX]; exact R_other UB.out FA.out (by decide) (((((grown_set1 _ _ _ _).trans (grown_set1 _ _ _ _)).trans (grown_set1 _ _ _ _)).trans (grown_set1 _ _ _ _)).trans (grown_set1 _ _ _ _))
  have nHBV : Below w.heap.size w V11 := by rw [← hWX]; (with_reducible repeat (first | exact HB.out.trans (HD.out.bel (by omega) HB.out.size) | refine bel_set ?_ _ ?_)); all_goals ((try dsimp only); omega)
  clear hWX FA FB RT UB HR HD
  have FA := Aside0.mk nFA
  clear nFA
  have FB := Aside0.mk nFB
  clear nFB
  have RT := Aside0.mk nRT
  clear nRT
  have UB := Aside0.mk nUB
  clear nUB
  have HBV := Lib.hid nHBV
  clear nHBV
  have cFA_0 : V11.cell? ⟨w.heap.size, 0, none⟩ = some (.int .i64 1) := clq FA.out 0 rfl
  have dFA_0 := fzq FA.out 0
  have cFA_1 : V11.cell? ⟨w.heap.size, 1, none⟩ = some (.string a1.f0) := clq FA.out 1 rfl
  have dFA_1 := fzq FA.out 1
  have cFA_2 : V11.cell? ⟨w.heap.size, 2, none⟩ = some (.string a1.f1) := clq FA.out 2 rfl
  have dFA_2 := fzq FA.out 2
  have cFA_3 : V11.cell? ⟨w.heap.size, 3, none⟩ = some (.slice (some ⟨V3.heap.size, 0, none⟩) 1 1) := clq FA.out 3 rfl
  have dFA_3 := fzq FA.out 3
  have cFA_4 : V11.cell? ⟨w.heap.size, 4, none⟩ = some (.slice B0 zs.length d0) := clq FA.out 4 rfl
  have dFA_4 := fzq FA.out 4
  have zFA := blk_lt FA.out
  have cFB_0 : V11.cell? ⟨w.heap.size + 1, 0, none⟩ = some (.string ⟨#[]⟩) := clq FB.out 0 rfl
  have dFB_0 := fzq FB.out 0
  have cFB_1 : V11.cell? ⟨w.heap.size + 1, 1, none⟩ = some (.string ⟨#[]⟩) := clq FB.out 1 rfl
  have dFB_1 := fzq FB.out 1
  have zFB := blk_lt FB.out
  clear cFA_0 cFA_1 cFA_2 cFA_3 cFA_4 dFA_0 dFA_1 dFA_2 dFA_3 dFA_4 cFB_0 cFB_1 dFB_0 dFB_1 zFA zFB
  generalize hWX : World.setCell (World.setCell V11 _ _) _ _ = V12
  have nFB : V12.heap[w.heap.size + 1]? = some (.cells #[.string a.f0, .string a.f1] 24 (0, 0)) := by rw [← hWX]; have h_ := (blk_set1 (blk_set1 FB.out 0 (.string a.f0)) 1 (.string a.f1)); simpa using h_
  have nFA : V12.heap[w.heap.size]? = some (.cells #[.int .i64 1, .string a1.f0, .string a1.f1, .slice (some ⟨V3.heap.size, 0, none⟩) 1 1, .slice B0 zs.length d0] 28 (0, 0)) := by rw [← hWX]; exact (blk_far (blk_far FA.out (p := ⟨w.heap.size + 1, 0, none⟩) (by show w.heap.size ≠ w.heap.size + 1; omega) (.string a.f0)) (p := ⟨w.heap.size + 1, 1, none⟩) (by show w.heap.size ≠ w.heap.size + 1; omega) (.string a.f1))
  have nRT : Kd.R kRcpt 55 V12 w1.heap.size (fun _ => True) (.slice (some ⟨V3.heap.size, 0, none⟩) 1 1) [⟨a2, 0, 0⟩] := by rw [← hWX]; exact R_other RT.out FB.out (by decide) ((grown_set1 _ _ _ _).trans (grown_set1 _ _ _ _))
  have nUB : Kd.R Kd.string 9 V12 w1.heap.size (fun _ => True) (.slice B0 zs.length d0) zs := by rw [← hWX]; exact R_other UB.out FB.out (by decide) ((grown_set1 _ _ _ _).trans (grown_set1 _ _ _ _))
  have nHBV : Below w.heap.size w V12 := by rw [← hWX]; (with_reducible repeat (first | exact HBV.out | refine bel_set ?_ _ ?_)); all_goals ((try dsimp only); omega)
  clear hWX FB FA RT UB HBV
  have FB := Aside0.mk nFB
  clear nFB
  have FA := Aside0.mk nFA
  clear nFA
  have RT := Aside0.mk nRT
  clear nRT
  have UB := Aside0.mk nUB
  clear nUB
  have HBV := Lib.hid nHBV
  clear nHBV
  have cFA_0 : V12.cell? ⟨w.heap.size, 0, none⟩ = some (.int .i64 1) := clq FA.out 0 rfl
  have dFA_0 := fzq FA.out 0
  have cFA_1 : V12.cell? ⟨w.heap.size, 1, none⟩ = some (.string a1.f0) := clq FA.out 1 rfl
  have dFA_1 := fzq FA.out 1
  have cFA_2 : V12.cell? ⟨w.heap.size, 2, none⟩ = some (.string a1.f1) := clq FA.out 2 rfl
  have dFA_2 := fzq FA.out 2
  have cFA_3 : V12.cell? ⟨w.heap.size, 3, none⟩ = some (.slice (some ⟨V3.heap.size, 0, none⟩) 1 1) := clq FA.out 3 rfl
  have dFA_3 := fzq FA.out 3
  have cFA_4 : V12.cell? ⟨w.heap.size, 4, none⟩ = some (.slice B0 zs.length d0) := clq FA.out 4 rfl
  have dFA_4 := fzq FA.out 4
  have zFA := blk_lt FA.out
  have cFB_0 : V12.cell? ⟨w.heap.size + 1, 0, none⟩ = some (.string a.f0) := clq FB.out 0 rfl
  have dFB_0 := fzq FB.out 0
  have cFB_1 : V12.cell? ⟨w.heap.size + 1, 1, none⟩ = some (.string a.f1) := clq FB.out 1 rfl
  have dFB_1 := fzq FB.out 1
  have zFB := blk_lt FB.out
  refine bodyPost_ret (v := .tuple #[.agg #[.int .i64 1, .string a1.f0, .string a1.f1, .slice (some ⟨V3.heap.size, 0, none⟩) 1 1, .slice B0 zs.length d0], .agg #[.string a.f0, .string a.f1]]) ?hr rfl ?hp
  case hr => simp [results, Tryd.results6, go_sem, cFA_0, cFA_1, cFA_2, cFA_3, cFA_4, cFB_0, cFB_1]
  case hp => exact ⟨⟨1, a1, [⟨a2, 0, 0⟩], zs⟩, some ⟨V3.heap.size, 0, none⟩, 1, B0, d0, a, rfl, ⟨⟨by dsimp only; omega, by dsimp only; omega⟩, H1.out, ⟨by show 1 ≤ 4; omega, fun r hr => by obtain rfl := List.mem_singleton.1 hr; exact ⟨H2.out, ⟨by dsimp only; omega, by dsimp only; omega⟩, by dsimp only; omega, by dsimp only; omega⟩⟩, H7.out⟩, H10.out, Kd.R_lower RT.out HB.out.size, Kd.R_lower UB.out HB.out.size, HBV.out⟩
 ·have hx0' : ((ys.length : Int) == 0) = false := by simp [hx0]
  have hxp : 0 < ys.length := by omega
  obtain ⟨gb, hgb, hgb1, hgb2⟩ := own_form2 HQ.out hxp
  subst hgb
  go_wp2
  generalize hW2 : World.alloc w2 _ = w3
  have b2 : Below w2.heap.size w2 w3 := by rw [← hW2]; exact bel_alloc (Below.refl _ _) _
  have F1 : Aside0 (w3.heap[w2.heap.size]? = some (.cells #[.int .i64 la, .slice (some ⟨gb, 0, none⟩) ys.length d] 43 (0, 0))) := ⟨by rw [← hW2]; exact blk_new _ _⟩
  clear hW2
  replace FA := Aside0.mk (below_blk FA.out b2)
  replace FB := Aside0.mk (below_blk FB.out b2)
  replace HQ := Aside0.mk (Kd.R_below HQ.out b2)
  replace HR := Aside0.mk (HR.out.below b2)
  replace HD := Aside0.mk (HD.out.below b2)
  have yw3 := HD.out.size
  clear b2
  have cFA_0 : w3.cell? ⟨w.heap.size, 0, none⟩ = some (.int .i64 0) := clq FA.out 0 rfl
  have dFA_0 := fzq FA.out 0
  have cFA_1 : w3.cell? ⟨w.heap.size, 1, none⟩ = some (.string ⟨#[]⟩) := clq FA.out 1 rfl
  have dFA_1 := fzq FA.out 1
  have cFA_2 : w3.cell? ⟨w.heap.size, 2, none⟩ = some (.string ⟨#[]⟩) := clq FA.out 2 rfl
  have dFA_2 := fzq FA.out 2
  have cFA_3 : w3.cell? ⟨w.heap.size, 3, none⟩ = some (.slice none 0 0) := clq FA.out 3 rfl
  have dFA_3 := fzq FA.out 3
  have cFA_4 : w3.cell? ⟨w.heap.size, 4, none⟩ = some (.slice none 0 0) := clq FA.out 4 rfl
  have dFA_4 := fzq FA.out 4
  have zFA := blk_lt FA.out
  have cFB_0 : w3.cell? ⟨w.heap.size + 1, 0, none⟩ = some (.string ⟨#[]⟩) := clq FB.out 0 rfl
  have dFB_0 := fzq FB.out 0
  have cFB_1 : w3.cell? ⟨w.heap.size + 1, 1, none⟩ = some (.string ⟨#[]⟩) := clq FB.out 1 rfl
  have dFB_1 := fzq FB.out 1
  have zFB := blk_lt FB.out
  have cF1_0 : w3.cell? ⟨w2.heap.size, 0, none⟩ = some (.int .i64 la) := clq F1.out 0 rfl
  have dF1_0 := fzq F1.out 0
  have cF1_1 : w3.cell? ⟨w2.heap.size, 1, none⟩ = some (.slice (some ⟨gb, 0, none⟩) ys.length d) := clq F1.out 1 rfl
  have dF1_1 := fzq F1.out 1
  have zF1 := blk_lt F1.out
  refine wp_region_held_drew (S := (fun _ => True)) (by kernel_rfl) ?s445 (fun hHeld => ?t445)
  case s445 => exact trivial
  generalize hV0 : World.drew w3 = V0
  have bV : Below w3.heap.size w3 V0 := by rw [← hV0]; exact drew_below0 w3
  clear hV0
  clear cFA_0 cFA_1 cFA_2 cFA_3 cFA_4 dFA_0 dFA_1 dFA_2 dFA_3 dFA_4 cFB_0 cFB_1 dFB_0 dFB_1 cF1_0 cF1_1 dF1_0 dF1_1 zFA zFB zF1
  replace FA := Aside0.mk (below_blk FA.out bV)
  replace FB := Aside0.mk (below_blk FB.out bV)
  replace F1 := Aside0.mk (below_blk F1.out bV)
  replace HQ := Aside0.mk (Kd.R_below HQ.out bV)
  replace HR := Aside0.mk (HR.out.below bV)
  replace HD := Aside0.mk (HD.out.below bV)
  have yV0 := HD.out.size
  clear bV
  have cFA_0 : V0.cell? ⟨w.heap.size, 0, none⟩ = some (.int .i64 0) := clq FA.out 0 rfl
  have dFA_0 := fzq FA.out 0
  have cFA_1 : V0.cell? ⟨w.heap.size, 1, none⟩ = some (.string ⟨#[]⟩) := clq FA.out 1 rfl
  have dFA_1 := fzq FA.out 1
  have cFA_2 : V0.cell? ⟨w.heap.size, 2, none⟩ = some (.string ⟨#[]⟩) := clq FA.out 2 rfl
  have dFA_2 := fzq FA.out 2
  have cFA_3 : V0.cell? ⟨w.heap.size, 3, none⟩ = some (.slice none 0 0) := clq FA.out 3 rfl
  have dFA_3 := fzq FA.out 3
  have cFA_4 : V0.cell? ⟨w.heap.size, 4, none⟩ = some (.slice none 0 0) := clq FA.out 4 rfl
  have dFA_4 := fzq FA.out 4
  have zFA := blk_lt FA.out
  have cFB_0 : V0.cell? ⟨w.heap.size + 1, 0, none⟩ = some (.string ⟨#[]⟩) := clq FB.out 0 rfl
  have dFB_0 := fzq FB.out 0
  have cFB_1 : V0.cell? ⟨w.heap.size + 1, 1, none⟩ = some (.string ⟨#[]⟩) := clq FB.out 1 rfl
  have dFB_1 := fzq FB.out 1
  have zFB := blk_lt FB.out
  have cF1_0 : V0.cell? ⟨w2.heap.size, 0, none⟩ = some (.int .i64 la) := clq F1.out 0 rfl
  have dF1_0 := fzq F1.out 0
  have cF1_1 : V0.cell? ⟨w2.heap.size, 1, none⟩ = some (.slice (some ⟨gb, 0, none⟩) ys.length d) := clq F1.out 1 rfl
  have dF1_1 := fzq F1.out 1
  have zF1 := blk_lt F1.out
  refine tk 0 ?v446 ?y446 ?r446
  case y446 => intro w_ hSw; (try dsimp only at hSw); go_simp; (try (with_reducible rfl))
  try simp only [Act.put, List.setIfInBounds_toArray, List.set_cons_zero, List.set_cons_succ]
  refine tk 2 ?v447 ?y447 ?r447
  case y447 => intro w_ hSw; (try dsimp only at hSw); go_simp; (try (with_reducible rfl))
  try simp only [Act.put, List.setIfInBounds_toArray, List.set_cons_zero, List.set_cons_succ]
  refine tk 3 ?v448 ?y448 ?r448
  case y448 => intro w_ hSw; (try dsimp only at hSw); go_simp; (try (with_reducible rfl))
  try simp only [Act.put, List.setIfInBounds_toArray, List.set_cons_zero, List.set_cons_succ]
  refine tk 9 ?v449 ?y449 ?r449
  case y449 => intro w_ hSw; (try dsimp only at hSw); go_simp; (try (with_reducible rfl))
  try simp only [Act.put, List.setIfInBounds_toArray, List.set_cons_zero, List.set_cons_succ]
  refine rdy (rs := [1, 4]) ?_
  refine rc (fun K hK => ?k450) (rc (fun K hK => ?k451) AllReadyH.nil)
  case k450 =>
   go_simp
   refine hK.out _ _ ?h452 (fun hHeld => ?j452)
   case h452 => exact hHeld
   clear hK K
   try simp only [Act.put, List.setIfInBounds_toArray, List.set_cons_zero, List.set_cons_succ]
   refine rdy (rs := [4]) ?_
   refine rc (fun K hK => ?k453) AllReadyH.nil
   case k453 =>
    go_simp
    refine hK.out _ _ ?h454 (fun hHeld => ?j454)
    case h454 => exact hHeld
    clear hK K
    try simp only [Act.put, List.setIfInBounds_toArray, List.set_cons_zero, List.set_cons_succ]
    refine tk 5 ?v455 ?y455 ?r455
    case y455 => intro w_ hSw; (try dsimp only at hSw); go_simp; (try (with_reducible rfl))
    try simp only [Act.put, List.setIfInBounds_toArray, List.set_cons_zero, List.set_cons_succ]
    refine rdy (rs := [6]) ?_
    refine rc (fun K hK => ?k456) AllReadyH.nil
    case k456 =>
     go_simp
     refine Calls.mono (pick_any g _ (ys.length : Int) V0 HR.out (by omega) (by omega)) ?_
     rintro e V6 ⟨k, rfl, hk, hr_, hd_⟩
     clear cFA_0 cFA_1 cFA_2 cFA_3 cFA_4 dFA_0 dFA_1 dFA_2 dFA_3 dFA_4 cFB_0 cFB_1 dFB_0 dFB_1 cF1_0 cF1_1 dF1_0 dF1_1 zFA zFB zF1
     replace FA := Aside0.mk (hd_.blk FA.out (by omega))
     replace FB := Aside0.mk (hd_.blk FB.out (by omega))
     replace F1 := Aside0.mk (hd_.blk F1.out (by omega))
     replace HQ := Aside0.mk (Dr.R hd_ HQ.out hgl)
     replace HR := Aside0.mk hr_
     replace HD := Aside0.mk (Dr.then_ HD.out hd_)
     have yV6 := HD.out.size
     clear hr_ hd_
     have hk := hk (by omega)
     have hkn : k < ys.length := by omega
     obtain ⟨y, ey⟩ : ∃ y, y = ys.getD k zItem := ⟨_, rfl⟩
     have HWY := Lib.hid (show wideI y by rw [ey]; exact HX.out _ (getD_mem ys zItem hkn))
     have HY := Lib.hid ey.symm
     clear ey
     have cFA_0 : V6.cell? ⟨w.heap.size, 0, none⟩ = some (.int .i64 0) := clq FA.out 0 rfl
     have dFA_0 := fzq FA.out 0
     have cFA_1 : V6.cell? ⟨w.heap.size, 1, none⟩ = some (.string ⟨#[]⟩) := clq FA.out 1 rfl
     have dFA_1 := fzq FA.out 1
     have cFA_2 : V6.cell? ⟨w.heap.size, 2, none⟩ = some (.string ⟨#[]⟩) := clq FA.out 2 rfl
     have dFA_2 := fzq FA.out 2
     have cFA_3 : V6.cell? ⟨w.heap.size, 3, none⟩ = some (.slice none 0 0) := clq FA.out 3 rfl
     have dFA_3 := fzq FA.out 3
     have cFA_4 : V6.cell? ⟨w.heap.size, 4, none⟩ = some (.slice none 0 0) := clq FA.out 4 rfl
     have dFA_4 := fzq FA.out 4
     have zFA := blk_lt FA.out
     have cFB_0 : V6.cell? ⟨w.heap.size + 1, 0, none⟩ = some (.string ⟨#[]⟩) := clq FB.out 0 rfl
     have dFB_0 := fzq FB.out 0
     have cFB_1 : V6.cell? ⟨w.heap.size + 1, 1, none⟩ = some (.string ⟨#[]⟩) := clq FB.out 1 rfl
     have dFB_1 := fzq FB.out 1
     have zFB := blk_lt FB.out
     have cF1_0 : V6.cell? ⟨w2.heap.size, 0, none⟩ = some (.int .i64 la) := clq F1.out 0 rfl
     have dF1_0 := fzq F1.out 0
     have cF1_1 : V6.cell? ⟨w2.heap.size, 1, none⟩ = some (.slice (some ⟨gb, 0, none⟩) ys.length d) := clq F1.out 1 rfl
     have dF1_1 := fzq F1.out 1
     have zF1 := blk_lt F1.out
     refine hK.out _ _ ?h457 (fun hHeld => ?j457)
     case h457 => exact trivial
     clear hK K
     try simp only [Act.put, List.setIfInBounds_toArray, List.set_cons_zero, List.set_cons_succ]
     refine tk 7 ?v458 ?y458 ?r458
     case y458 => intro w_ hSw; (try dsimp only at hSw); go_simp; (try (with_reducible rfl))
     try simp only [Act.put, List.setIfInBounds_toArray, List.set_cons_zero, List.set_cons_succ]
     refine rdy (rs := [8, 10]) ?_
     refine rc (fun K hK => ?k459) (rc (fun K hK => ?k460) AllReadyH.nil)
     case k459 =>
      obtain ⟨ci, hil, hiM, hic, hif⟩ := Kd.R_elem HQ.out zItem (k : Int) (by omega) (by omega)
      rw [Int.toNat_natCast] at hiM hic
      rw [HY.out] at hiM
      obtain ⟨v0, v1, rfl, u0, u1⟩ := kItem_openM hiM
      obtain ⟨A0, c0, hv0⟩ := Kd.R_slice u0
      obtain ⟨A1, c1, hv1⟩ := Kd.R_slice u1
      subst hv0
      subst hv1
      simp only [show kItem.sz = 5 from rfl] at hic
      have i0_ : V6.cell? ⟨gb, k * 5, none⟩ = some (.int .i64 y.f0) := hic 0 _ rfl
      have i1_ : V6.cell? ⟨gb, k * 5 + 1, none⟩ = some (.string y.f1.f0) := hic 1 _ rfl
      have i2_ : V6.cell? ⟨gb, k * 5 + 2, none⟩ = some (.string y.f1.f1) := hic 2 _ rfl
      have i3_ : V6.cell? ⟨gb, k * 5 + 3, none⟩ = some (.slice A0 y.f2.length c0) := hic 3 _ rfl
      have i4_ : V6.cell? ⟨gb, k * 5 + 4, none⟩ = some (.slice A1 y.f3.length c1) := hic 4 _ rfl
      have U0 := Aside0.mk (Kd.R_mono u0 (fun _ _ => trivial) : Kd.R kRcpt 55 V6 w1.heap.size (fun _ => True) (.slice A0 y.f2.length c0) y.f2)
      have U1 := Aside0.mk (Kd.R_mono u1 (fun _ _ => trivial) : Kd.R Kd.string 9 V6 w1.heap.size (fun _ => True) (.slice A1 y.f3.length c1) y.f3)
      clear u0 u1 hic hif hiM hil
      go_simp
      refine hK.out _ _ ?h461 (fun hHeld => ?j461)
      case h461 => exact hHeld
      clear hK K
      try simp only [Act.put, List.setIfInBounds_toArray, List.set_cons_zero, List.set_cons_succ]
      clear i0_ i1_ i2_ i3_ i4_ HQ
      refine rdy (rs := [10]) ?_
      refine rc (fun K hK => ?k462) AllReadyH.nil
      case k462 =>
       go_simp
       refine Calls.mono (drAnyAddr_any g _ V6 HR.out (by omega)) ?_
       rintro e V10 ⟨a, rfl, hs10, hr_, hd_⟩
       clear cFA_0 cFA_1 cFA_2 cFA_3 cFA_4 dFA_0 dFA_1 dFA_2 dFA_3 dFA_4 cFB_0 cFB_1 dFB_0 dFB_1 cF1_0 cF1_1 dF1_0 dF1_1 zFA zFB zF1
       have H10 := Lib.hid hs10
       clear hs10
       replace FA := Aside0.mk (hd_.blk FA.out (by omega))
       replace FB := Aside0.mk (hd_.blk FB.out (by omega))
       replace F1 := Aside0.mk (hd_.blk F1.out (by omega))
       replace U0 := Aside0.mk (Dr.R hd_ U0.out hgl)
       replace U1 := Aside0.mk (Dr.R hd_ U1.out hgl)
       replace HR := Aside0.mk hr_
       replace HD := Aside0.mk (Dr.then_ HD.out hd_)
       have yV10 := HD.out.size
       clear hr_ hd_
       have cFA_0 : V10.cell? ⟨w.heap.size, 0, none⟩ = some (.int .i64 0) := clq FA.out 0 rfl
       have dFA_0 := fzq FA.out 0
       have cFA_1 : V10.cell? ⟨w.heap.size, 1, none⟩ = some (.string ⟨#[]⟩) := clq FA.out 1 rfl
       have dFA_1 := fzq FA.out 1
       have cFA_2 : V10.cell? ⟨w.heap.size, 2, none⟩ = some (.string ⟨#[]⟩) := clq FA.out 2 rfl
       have dFA_2 := fzq FA.out 2
       have cFA_3 : V10.cell? ⟨w.heap.size, 3, none⟩ = some (.slice none 0 0) := clq FA.out 3 rfl
       have dFA_3 := fzq FA.out 3
       have cFA_4 : V10.cell? ⟨w.heap.size, 4, none⟩ = some (.slice none 0 0) := clq FA.out 4 rfl
       have dFA_4 := fzq FA.out 4
       have zFA := blk_lt FA.out
       have cFB_0 : V10.cell? ⟨w.heap.size + 1, 0, none⟩ = some (.string ⟨#[]⟩) := clq FB.out 0 rfl
       have dFB_0 := fzq FB.out 0
       have cFB_1 : V10.cell? ⟨w.heap.size + 1, 1, none⟩ = some (.string ⟨#[]⟩) := clq FB.out 1 rfl
       have dFB_1 := fzq FB.out 1
       have zFB := blk_lt FB.out
       have cF1_0 : V10.cell? ⟨w2.heap.size, 0, none⟩ = some (.int .i64 la) := clq F1.out 0 rfl
       have dF1_0 := fzq F1.out 0
       have cF1_1 : V10.cell? ⟨w2.heap.size, 1, none⟩ = some (.slice (some ⟨gb, 0, none⟩) ys.length d) := clq F1.out 1 rfl
       have dF1_1 := fzq F1.out 1
       have zF1 := blk_lt F1.out
       refine hK.out _ _ ?h463 (fun hHeld => ?j463)
       case h463 => exact trivial
       clear hK K
       try simp only [Act.put, List.setIfInBounds_toArray, List.set_cons_zero, List.set_cons_succ]
       refine rdy (rs := [11]) ?_
       refine rc (fun K hK => ?k464) AllReadyH.nil
       case k464 =>
        go_simp
        clear cF1_0 cF1_1 dF1_0 dF1_1 zF1
        clear F1
        clear cFA_0 cFA_1 cFA_2 cFA_3 cFA_4 dFA_0 dFA_1 dFA_2 dFA_3 dFA_4 cFB_0 cFB_1 dFB_0 dFB_1 zFA zFB
        generalize hWX : World.setCell (World.setCell (World.setCell (World.setCell (World.setCell V10 _ _) _ _) _ _) _ _) _ _ = V11
        have nFA : V11.heap[w.heap.size]? = some (.cells #[.int .i64 y.f0, .string y.f1.f0, .string y.f1.f1, .slice A0 y.f2.length c0, .slice A1 y.f3.length c1] 28 (0, 0)) := by rw [← hWX]; have h_ := (blk_set1 (blk_set1 (blk_set1 (blk_set1 (blk_set1 FA.out 0 (.int .i64 y.f0)) 1 (.string y.f1.f0)) 2 (.string y.f1.f1)) 3 (.slice A0 y.f2.length c0)) 4 (.slice A1 y.f3.length c1)); simpa using h_
        have nFB : V11.heap[w.heap.size + 1]? = some (.cells #[.string ⟨#[]⟩, .string ⟨#[]⟩] 24 (0, 0)) := by rw [← hWX]; exact (blk_far (blk_far (blk_far (blk_far (blk_far FB.out (p := ⟨w.heap.size, 0, none⟩) (by show w.heap.size + 1 ≠ w.heap.size; omega) (.int .i64 y.f0)) (p := ⟨w.heap.size, 1, none⟩) (by show w.heap.size + 1 ≠ w.heap.size; omega) (.string y.f1.f0)) (p := ⟨w.heap.size, 2, none⟩) (by show w.heap.size + 1 ≠ w.heap.size; omega) (.string y.f1.f1)) (p := ⟨w.heap.size, 3, none⟩) (by show w.heap.size + 1 ≠ w.heap.size; omega) (.slice A0 y.f2.length c0)) (p := ⟨w.heap.size, 4, none⟩) (by show w.heap.size + 1 ≠ w.heap.size; omega) (.slice A1 y.f3.length c1))
        have nU0 : Kd.R kRcpt 55 V11 w1.heap.size (fun _ => True) (.slice A0 y.f2.length c0) y.f2 := by rw [← hWX]; exact R_other U0.out FA.out (by decide) (((((grown_set1 _ _ _ _).trans (grown_set1 _ _ _ _)).trans (grown_set1 _ _ _ _)).trans (grown_set1 _ _ _ _)).trans (grown_set1 _ _ _ _))
        have nU1 : Kd.R Kd.string 9 V11 w1.heap.size (fun _ => True) (.slice A1 y.f3.length c1) y.f3 := by rw [← hWX]; exact R_other U1.out FA.out (by decide) (((((grown_set1 _ _ _ _).trans (grown_set1 _ _ _ _)).trans (grown_set1 _ _ _ _)).trans (grown_set1 _ _ _ _)).trans (grown_set1 _ _ _ _))
        have nHBV : Below w.heap.size w V11 := by rw [← hWX]; (with_reducible repeat (first | exact HB.out.trans (HD.out.bel (by omega) HB.out.size) | refine bel_set ?_ _ ?_)); all_goals ((try dsimp only); omega)
        clear hWX FA FB U0 U1 HR HD
        have FA := Aside0.mk nFA
        clear nFA
        have FB := Aside0.mk nFB
        clear nFB
        have U0 := Aside0.mk nU0
        clear nU0
        have U1 := Aside0.mk nU1
        clear nU1
        have HBV := Lib.hid nHBV
        clear nHBV
        have cFA_0 : V11.cell? ⟨w.heap.size, 0, none⟩ = some (.int .i64 y.f0) := clq FA.out 0 rfl
        have dFA_0 := fzq FA.out 0
        have cFA_1 : V11.cell? ⟨w.heap.size, 1, none⟩ = some (.string y.f1.f0) := clq FA.out 1 rfl
        have dFA_1 := fzq FA.out 1
        have cFA_2 : V11.cell? ⟨w.heap.size, 2, none⟩ = some (.string y.f1.f1) := clq FA.out 2 rfl
        have dFA_2 := fzq FA.out 2
        have cFA_3 : V11.cell? ⟨w.heap.size, 3, none⟩ = some (.slice A0 y.f2.length c0) := clq FA.out 3 rfl
        have dFA_3 := fzq FA.out 3
        have cFA_4 : V11.cell? ⟨w.heap.size, 4, none⟩ = some (.slice A1 y.f3.length c1) := clq FA.out 4 rfl
        have dFA_4 := fzq FA.out 4
        have zFA := blk_lt FA.out
        have cFB_0 : V11.cell? ⟨w.heap.size + 1, 0, none⟩ = some (.string ⟨#[]⟩) := clq FB.out 0 rfl
        have dFB_0 := fzq FB.out 0
        have cFB_1 : V11.cell? ⟨w.heap.size + 1, 1, none⟩ = some (.string ⟨#[]⟩) := clq FB.out 1 rfl
        have dFB_1 := fzq FB.out 1
        have zFB := blk_lt FB.out
        refine hK.out _ _ ?h465 (fun hHeld => ?j465)
        case h465 => exact trivial
        clear hK K
        try simp only [Act.put, List.setIfInBounds_toArray, List.set_cons_zero, List.set_cons_succ]
        refine rdy (rs := [12]) ?_
        refine rc (fun K hK => ?k466) AllReadyH.nil
        case k466 =>
         go_simp
         clear cFA_0 cFA_1 cFA_2 cFA_3 cFA_4 dFA_0 dFA_1 dFA_2 dFA_3 dFA_4 cFB_0 cFB_1 dFB_0 dFB_1 zFA zFB
         generalize hWX : World.setCell (World.setCell V11 _ _) _ _ = V12
         have nFB : V12.heap[w.heap.size + 1]? = some (.cells #[.string a.f0, .string a.f1] 24 (0, 0)) := by rw [← hWX]; have h_ := (blk_set1 (blk_set1 FB.out 0 (.string a.f0)) 1 (.string a.f1)); simpa using h_
         have nFA : V12.heap[w.heap.size]? = some (.cells #[.int .i64 y.f0, .string y.f1.f0, .string y.f1.f1, .slice A0 y.f2.length c0, .slice A1 y.f3.length c1] 28 (0, 0)) := by rw [← hWX]; exact (blk_far (blk_far FA.out (p := ⟨w.heap.size + 1, 0, none⟩) (by show w.heap.size ≠ w.heap.size + 1; omega) (.string a.f0)) (p := ⟨w.heap.size + 1, 1, none⟩) (by show w.heap.size ≠ w.heap.size + 1; omega) (.string a.f1))
         have nU0 : Kd.R kRcpt 55 V12 w1.heap.size (fun _ => True) (.slice A0 y.f2.length c0) y.f2 := by rw [← hWX]; exact R_other U0.out FB.out (by decide) ((grown_set1 _ _ _ _).trans (grown_set1 _ _ _ _))
         have nU1 : Kd.R Kd.string 9 V12 w1.heap.size (fun _ => True) (.slice A1 y.f3.length c1) y.f3 := by rw [← hWX]; exact R_other U1.out FB.out (by decide) ((grown_set1 _ _ _ _).trans (grown_set1 _ _ _ _))
         have nHBV : Below w.heap.size w V12 := by rw [← hWX]; (with_reducible repeat (first | exact HBV.out | refine bel_set ?_ _ ?_)); all_goals ((try dsimp only); omega)
         clear hWX FB FA U0 U1 HBV
         have FB := Aside0.mk nFB
         clear nFB
         have FA := Aside0.mk nFA
         clear nFA
         have U0 := Aside0.mk nU0
         clear nU0
         have U1 := Aside0.mk nU1
         clear nU1
         have HBV := Lib.hid nHBV
         clear nHBV
         have cFA_0 : V12.cell? ⟨w.heap.size, 0, none⟩ = some (.int .i64 y.f0) := clq FA.out 0 rfl
         have dFA_0 := fzq FA.out 0
         have cFA_1 : V12.cell? ⟨w.heap.size, 1, none⟩ = some (.string y.f1.f0) := clq FA.out 1 rfl
         have dFA_1 := fzq FA.out 1
         have cFA_2 : V12.cell? ⟨w.heap.size, 2, none⟩ = some (.string y.f1.f1) := clq FA.out 2 rfl
         have dFA_2 := fzq FA.out 2
         have cFA_3 : V12.cell? ⟨w.heap.size, 3, none⟩ = some (.slice A0 y.f2.length c0) := clq FA.out 3 rfl
         have dFA_3 := fzq FA.out 3
         have cFA_4 : V12.cell? ⟨w.heap.size, 4, none⟩ = some (.slice A1 y.f3.length c1) := clq FA.out 4 rfl
         have dFA_4 := fzq FA.out 4
         have zFA := blk_lt FA.out
         have cFB_0 : V12.cell? ⟨w.heap.size + 1, 0, none⟩ = some (.string a.f0) := clq FB.out 0 rfl
         have dFB_0 := fzq FB.out 0
         have cFB_1 : V12.cell? ⟨w.heap.size + 1, 1, none⟩ = some (.string a.f1) := clq FB.out 1 rfl
         have dFB_1 := fzq FB.out 1
         have zFB := blk_lt FB.out
         refine hK.out _ _ ?h467 (fun hHeld => ?j467)
         case h467 => exact trivial
         clear hK K
         try simp only [Act.put, List.setIfInBounds_toArray, List.set_cons_zero, List.set_cons_succ]
         refine wpAnyH_done (by kernel_rfl) ?_ _
         go_wp2
         refine bodyPost_ret (v := .tuple #[.agg #[.int .i64 y.f0, .string y.f1.f0, .string y.f1.f1, .slice A0 y.f2.length c0, .slice A1 y.f3.length c1], .agg #[.string a.f0, .string a.f1]]) ?hr rfl ?hp
         case hr => simp [results, Tryd.results6, go_sem, cFA_0, cFA_1, cFA_2, cFA_3, cFA_4, cFB_0, cFB_1]
         case hp => exact ⟨y, A0, c0, A1, c1, a, rfl, HWY.out, H10.out, Kd.R_lower U0.out HB.out.size, Kd.R_lower U1.out HB.out.size, HBV.out⟩
     case k460 =>
      go_simp
      refine Calls.mono (drAnyAddr_any g _ V6 HR.out (by omega)) ?_
      rintro e V10 ⟨a, rfl, hs10, hr_, hd_⟩
      clear cFA_0 cFA_1 cFA_2 cFA_3 cFA_4 dFA_0 dFA_1 dFA_2 dFA_3 dFA_4 cFB_0 cFB_1 dFB_0 dFB_1 cF1_0 cF1_1 dF1_0 dF1_1 zFA zFB zF1
      have H10 := Lib.hid hs10
      clear hs10
      replace FA := Aside0.mk (hd_.blk FA.out (by omega))
      replace FB := Aside0.mk (hd_.blk FB.out (by omega))
      replace F1 := Aside0.mk (hd_.blk F1.out (by omega))
      replace HQ := Aside0.mk (Dr.R hd_ HQ.out hgl)
      replace HR := Aside0.mk hr_
      replace HD := Aside0.mk (Dr.then_ HD.out hd_)
      have yV10 := HD.out.size
      clear hr_ hd_
      have cFA_0 : V10.cell? ⟨w.heap.size, 0, none⟩ = some (.int .i64 0) := clq FA.out 0 rfl
      have dFA_0 := fzq FA.out 0
      have cFA_1 : V10.cell? ⟨w.heap.size, 1, none⟩ = some (.string ⟨#[]⟩) := clq FA.out 1 rfl
      have dFA_1 := fzq FA.out 1
      have cFA_2 : V10.cell? ⟨w.heap.size, 2, none⟩ = some (.string ⟨#[]⟩) := clq FA.out 2 rfl
      have dFA_2 := fzq FA.out 2
      have cFA_3 : V10.cell? ⟨w.heap.size, 3, none⟩ = some (.slice none 0 0) := clq FA.out 3 rfl
      have dFA_3 := fzq FA.out 3
      have cFA_4 : V10.cell? ⟨w.heap.size, 4, none⟩ = some (.slice none 0 0) := clq FA.out 4 rfl
      have dFA_4 := fzq FA.out 4
      have zFA := blk_lt FA.out
      have cFB_0 : V10.cell? ⟨w.heap.size + 1, 0, none⟩ = some (.string ⟨#[]⟩) := clq FB.out 0 rfl
      have dFB_0 := fzq FB.out 0
      have cFB_1 : V10.cell? ⟨w.heap.size + 1, 1, none⟩ = some (.string ⟨#[]⟩) := clq FB.out 1 rfl
      have dFB_1 := fzq FB.out 1
      have zFB := blk_lt FB.out
      have cF1_0 : V10.cell? ⟨w2.heap.size, 0, none⟩ = some (.int .i64 la) := clq F1.out 0 rfl
      have dF1_0 := fzq F1.out 0
      have cF1_1 : V10.cell? ⟨w2.heap.size, 1, none⟩ = some (.slice (some ⟨gb, 0, none⟩) ys.length d) := clq F1.out 1 rfl
      have dF1_1 := fzq F1.out 1
      have zF1 := blk_lt F1.out
      refine hK.out _ _ ?h468 (fun hHeld => ?j468)
      case h468 => exact trivial
      clear hK K
      try simp only [Act.put, List.setIfInBounds_toArray, List.set_cons_zero, List.set_cons_succ]
      refine rdy (rs := [8]) ?_
      refine rc (fun K hK => ?k469) AllReadyH.nil
      case k469 =>
       obtain ⟨ci, hil, hiM, hic, hif⟩ := Kd.R_elem HQ.out zItem (k : Int) (by omega) (by omega)
       rw [Int.toNat_natCast] at hiM hic
       rw [HY.out] at hiM
       obtain ⟨v0, v1, rfl, u0, u1⟩ := kItem_openM hiM
       obtain ⟨A0, c0, hv0⟩ := Kd.R_slice u0
       obtain ⟨A1, c1, hv1⟩ := Kd.R_slice u1
       subst hv0
       subst hv1
       simp only [show kItem.sz = 5 from rfl] at hic
       have i0_ : V10.cell? ⟨gb, k * 5, none⟩ = some (.int .i64 y.f0) := hic 0 _ rfl
       have i1_ : V10.cell? ⟨gb, k * 5 + 1, none⟩ = some (.string y.f1.f0) := hic 1 _ rfl
       have i2_ : V10.cell? ⟨gb, k * 5 + 2, none⟩ = some (.string y.f1.f1) := hic 2 _ rfl
       have i3_ : V10.cell? ⟨gb, k * 5 + 3, none⟩ = some (.slice A0 y.f2.length c0) := hic 3 _ rfl
       have i4_ : V10.cell? ⟨gb, k * 5 + 4, none⟩ = some (.slice A1 y.f3.length c1) := hic 4 _ rfl
       have U0 := Aside0.mk (Kd.R_mono u0 (fun _ _ => trivial) : Kd.R kRcpt 55 V10 w1.heap.size (fun _ => True) (.slice A0 y.f2.length c0) y.f2)
       have U1 := Aside0.mk (Kd.R_mono u1 (fun _ _ => trivial) : Kd.R Kd.string 9 V10 w1.heap.size (fun _ => True) (.slice A1 y.f3.length c1) y.f3)
       clear u0 u1 hic hif hiM hil
       go_simp
       refine hK.out _ _ ?h470 (fun hHeld => ?j470)
       case h470 => exact hHeld
       clear hK K
       try simp only [Act.put, List.setIfInBounds_toArray, List.set_cons_zero, List.set_cons_succ]
       clear i0_ i1_ i2_ i3_ i4_ HQ
       refine rdy (rs := [11]) ?_
       refine rc (fun K hK => ?k471) AllReadyH.nil
       case k471 =>
        go_simp
        clear cF1_0 cF1_1 dF1_0 dF1_1 zF1
        clear F1
        clear cFA_0 cFA_1 cFA_2 cFA_3 cFA_4 dFA_0 dFA_1 dFA_2 dFA_3 dFA_4 cFB_0 cFB_1 dFB_0 dFB_1 zFA zFB
        generalize hWX : World.setCell (World.setCell (World.setCell (World.setCell (World.setCell V10 _ _) _ _) _ _) _ _) _ _ = V11
        have nFA : V11.heap[w.heap.size]? = some (.cells #[.int .i64 y.f0, .string y.f1.f0, .string y.f1.f1, .slice A0 y.f2.length c0, .slice A1 y.f3.length c1] 28 (0, 0)) := by rw [← hWX]; have h_ := (blk_set1 (blk_set1 (blk_set1 (blk_set1 (blk_set1 FA.out 0 (.int .i64 y.f0)) 1 (.string y.f1.f0)) 2 (.string y.f1.f1)) 3 (.slice A0 y.f2.length c0)) 4 (.slice A1 y.f3.length c1)); simpa using h_
        have nFB : V11.heap[w.heap.size + 1]? = some (.cells #[.string ⟨#[]⟩, .string ⟨#[]⟩] 24 (0, 0)) := by rw [← hWX]; exact (blk_far (blk_far (blk_far (blk_far (blk_far FB.out (p := ⟨w.heap.size, 0, none⟩) (by show w.heap.size + 1 ≠ w.heap.size; omega) (.int .i64 y.f0)) (p := ⟨w.heap.size, 1, none⟩) (by show w.heap.size + 1 ≠ w.heap.size; omega) (.string y.f1.f0)) (p := ⟨w.heap.size, 2, none⟩) (by show w.heap.size + 1 ≠ w.heap.size; omega) (.string y.f1.f1)) (p := ⟨w.heap.size, 3, none⟩) (by show w.heap.size + 1 ≠ w.heap.size; omega) (.slice A0 y.f2.length c0)) (p := ⟨w.heap.size, 4, none⟩) (by show w.heap.size + 1 ≠ w.heap.size; omega) (.slice A1 y.f3.length c1))
        have nU0 : Kd.R kRcpt 55 V11 w1.heap.size (fun _ => True) (.slice A0 y.f2.length c0) y.f2 := by rw [← hWX]; exact R_other U0.out FA.out (by decide) (((((grown_set1 _ _ _ _).trans (grown_set1 _ _ _ _)).trans (grown_set1 _ _ _ _)).trans (grown_set1 _ _ _ _)).trans (grown_set1 _ _ _ _))
        have nU1 : Kd.R Kd.string 9 V11 w1.heap.size (fun _ => True) (.slice A1 y.f3.length c1) y.f3 := by rw [← hWX]; exact R_other U1.out FA.out (by decide) (((((grown_set1 _ _ _ _).trans (grown_set1 _ _ _ _)).trans (grown_set1 _ _ _ _)).trans (grown_set1 _ _ _ _)).trans (grown_set1 _ _ _ _))
        have nHBV : Below w.heap.size w V11 := by rw [← hWX]; (with_reducible repeat (first | exact HB.out.trans (HD.out.bel (by omega) HB.out.size) | refine bel_set ?_ _ ?_)); all_goals ((try dsimp only); omega)
        clear hWX FA FB U0 U1 HR HD
        have FA := Aside0.mk nFA
        clear nFA
        have FB := Aside0.mk nFB
        clear nFB
        have U0 := Aside0.mk nU0
        clear nU0
        have U1 := Aside0.mk nU1
        clear nU1
        have HBV := Lib.hid nHBV
        clear nHBV
        have cFA_0 : V11.cell? ⟨w.heap.size, 0, none⟩ = some (.int .i64 y.f0) := clq FA.out 0 rfl
        have dFA_0 := fzq FA.out 0
        have cFA_1 : V11.cell? ⟨w.heap.size, 1, none⟩ = some (.string y.f1.f0) := clq FA.out 1 rfl
        have dFA_1 := fzq FA.out 1
        have cFA_2 : V11.cell? ⟨w.heap.size, 2, none⟩ = some (.string y.f1.f1) := clq FA.out 2 rfl
        have dFA_2 := fzq FA.out 2
        have cFA_3 : V11.cell? ⟨w.heap.size, 3, none⟩ = some (.slice A0 y.f2.length c0) := clq FA.out 3 rfl
        have dFA_3 := fzq FA.out 3
        have cFA_4 : V11.cell? ⟨w.heap.size, 4, none⟩ = some (.slice A1 y.f3.length c1) := clq FA.out 4 rfl
        have dFA_4 := fzq FA.out 4
        have zFA := blk_lt FA.out
        have cFB_0 : V11.cell? ⟨w.heap.size + 1, 0, none⟩ = some (.string ⟨#[]⟩) := clq FB.out 0 rfl
        have dFB_0 := fzq FB.out 0
        have cFB_1 : V11.cell? ⟨w.heap.size + 1, 1, none⟩ = some (.string ⟨#[]⟩) := clq FB.out 1 rfl
        have dFB_1 := fzq FB.out 1
        have zFB := blk_lt FB.out
        refine hK.out _ _ ?h472 (fun hHeld => ?j472)
        case h472 => exact trivial
        clear hK K
        try simp only [Act.put, List.setIfInBounds_toArray, List.set_cons_zero, List.set_cons_succ]
        refine rdy (rs := [12]) ?_
        refine rc (fun K hK => ?k473) AllReadyH.nil
        case k473 =>
         go_simp
         clear cFA_0 cFA_1 cFA_2 cFA_3 cFA_4 dFA_0 dFA_1 dFA_2 dFA_3 dFA_4 cFB_0 cFB_1 dFB_0 dFB_1 zFA zFB
         generalize hWX : World.setCell (World.setCell V11 _ _) _ _ = V12
         have nFB : V12.heap[w.heap.size + 1]? = some (.cells #[.string a.f0, .string a.f1] 24 (0, 0)) := by rw [← hWX]; have h_ := (blk_set1 (blk_set1 FB.out 0 (.string a.f0)) 1 (.string a.f1)); simpa using h_
         have nFA : V12.heap[w.heap.size]? = some (.cells #[.int .i64 y.f0, .string y.f1.f0, .string y.f1.f1, .slice A0 y.f2.length c0, .slice A1 y.f3.length c1] 28 (0, 0)) := by rw [← hWX]; exact (blk_far (blk_far FA.out (p := ⟨w.heap.size + 1, 0, none⟩) (by show w.heap.size ≠ w.heap.size + 1; omega) (.string a.f0)) (p := ⟨w.heap.size + 1, 1, none⟩) (by show w.heap.size ≠ w.heap.size + 1; omega) (.string a.f1))
         have nU0 : Kd.R kRcpt 55 V12 w1.heap.size (fun _ => True) (.slice A0 y.f2.length c0) y.f2 := by rw [← hWX]; exact R_other U0.out FB.out (by decide) ((grown_set1 _ _ _ _).trans (grown_set1 _ _ _ _))
         have nU1 : Kd.R Kd.string 9 V12 w1.heap.size (fun _ => True) (.slice A1 y.f3.length c1) y.f3 := by rw [← hWX]; exact R_other U1.out FB.out (by decide) ((grown_set1 _ _ _ _).trans (grown_set1 _ _ _ _))
         have nHBV : Below w.heap.size w V12 := by rw [← hWX]; (with_reducible repeat (first | exact HBV.out | refine bel_set ?_ _ ?_)); all_goals ((try dsimp only); omega)
         clear hWX FB FA U0 U1 HBV
         have FB := Aside0.mk nFB
         clear nFB
         have FA := Aside0.mk nFA
         clear nFA
         have U0 := Aside0.mk nU0
         clear nU0
         have U1 := Aside0.mk nU1
         clear nU1
         have HBV := Lib.hid nHBV
         clear nHBV
         have cFA_0 : V12.cell? ⟨w.heap.size, 0, none⟩ = some (.int .i64 y.f0) := clq FA.out 0 rfl
         have dFA_0 := fzq FA.out 0
         have cFA_1 : V12.cell? ⟨w.heap.size, 1, none⟩ = some (.string y.f1.f0) := clq FA.out 1 rfl
         have dFA_1 := fzq FA.out 1
         have cFA_2 : V12.cell? ⟨w.heap.size, 2, none⟩ = some (.string y.f1.f1) := clq FA.out 2 rfl
         have dFA_2 := fzq FA.out 2
         have cFA_3 : V12.cell? ⟨w.heap.size, 3, none⟩ = some (.slice A0 y.f2.length c0) := clq FA.out 3 rfl
         have dFA_3 := fzq FA.out 3
         have cFA_4 : V12.cell? ⟨w.heap.size, 4, none⟩ = some (.slice A1 y.f3.length c1) := clq FA.out 4 rfl
         have dFA_4 := fzq FA.out 4
         have zFA := blk_lt FA.out
         have cFB_0 : V12.cell? ⟨w.heap.size + 1, 0, none⟩ = some (.string a.f0) := clq FB.out 0 rfl
         have dFB_0 := fzq FB.out 0
         have cFB_1 : V12.cell? ⟨w.heap.size + 1, 1, none⟩ = some (.string a.f1) := clq FB.out 1 rfl
         have dFB_1 := fzq FB.out 1
         have zFB := blk_lt FB.out
         refine hK.out _ _ ?h474 (fun hHeld => ?j474)
         case h474 => exact trivial
         clear hK K
         try simp only [Act.put, List.setIfInBounds_toArray, List.set_cons_zero, List.set_cons_succ]
         refine wpAnyH_done (by kernel_rfl) ?_ _
         go_wp2
         refine bodyPost_ret (v := .tuple #[.agg #[.int .i64 y.f0, .string y.f1.f0, .string y.f1.f1, .slice A0 y.f2.length c0, .slice A1 y.f3.length c1], .agg #[.string a.f0, .string a.f1]]) ?hr rfl ?hp
         case hr => simp [results, Tryd.results6, go_sem, cFA_0, cFA_1, cFA_2, cFA_3, cFA_4, cFB_0, cFB_1]
         case hp => exact ⟨y, A0, c0, A1, c1, a, rfl, HWY.out, H10.out, Kd.R_lower U0.out HB.out.size, Kd.R_lower U1.out HB.out.size, HBV.out⟩
  case k451 =>
   go_simp
   refine hK.out _ _ ?h475 (fun hHeld => ?j475)
   case h475 => exact hHeld
   clear hK K
   try simp only [Act.put, List.setIfInBounds_toArray, List.set_cons_zero, List.set_cons_succ]
   refine tk 5 ?v476 ?y476 ?r476
   case y476 => intro w_ hSw; (try dsimp only at hSw); go_simp; (try (with_reducible rfl))
   try simp only [Act.put, List.setIfInBounds_toArray, List.set_cons_zero, List.set_cons_succ]
   refine rdy (rs := [1, 6]) ?_
   refine rc (fun K hK => ?k477) (rc (fun K hK => ?k478) AllReadyH.nil)
   case k477 =>
    go_simp
    refine hK.out _ _ ?h479 (fun hHeld => ?j479)
    case h479 => exact hHeld
    clear hK K
    try simp only [Act.put, List.setIfInBounds_toArray, List.set_cons_zero, List.set_cons_succ]
    refine rdy (rs := [6]) ?_
    refine rc (fun K hK => ?k480) AllReadyH.nil
    case k480 =>
     go_simp
     refine Calls.mono (pick_any g _ (ys.length : Int) V0 HR.out (by omega) (by omega)) ?_
     rintro e V6 ⟨k, rfl, hk, hr_, hd_⟩
     clear cFA_0 cFA_1 cFA_2 cFA_3 cFA_4 dFA_0 dFA_1 dFA_2 dFA_3 dFA_4 cFB_0 cFB_1 dFB_0 dFB_1 cF1_0 cF1_1 dF1_0 dF1_1 zFA zFB zF1
     replace FA := Aside0.mk (hd_.blk FA.out (by omega))
     replace FB := Aside0.mk (hd_.blk FB.out (by omega))
     replace F1 := Aside0.mk (hd_.blk F1.out (by omega))
     replace HQ := Aside0.mk (Dr.R hd_ HQ.out hgl)
     replace HR := Aside0.mk hr_
     replace HD := Aside0.mk (Dr.then_ HD.out hd_)
     have yV6 := HD.out.size
     clear hr_ hd_
     have hk := hk (by omega)
     have hkn : k < ys.length := by omega
     obtain ⟨y, ey⟩ : ∃ y, y = ys.getD k zItem := ⟨_, rfl⟩
     have HWY := Lib.hid (show wideI y by rw [ey]; exact HX.out _ (getD_mem ys zItem hkn))
     have HY := Lib.hid ey.symm
     clear ey
     have cFA_0 : V6.cell? ⟨w.heap.size, 0, none⟩ = some (.int .i64 0) := clq FA.out 0 rfl
     have dFA_0 := fzq FA.out 0
     have cFA_1 : V6.cell? ⟨w.heap.size, 1, none⟩ = some (.string ⟨#[]⟩) := clq FA.out 1 rfl
     have dFA_1 := fzq FA.out 1
     have cFA_2 : V6.cell? ⟨w.heap.size, 2, none⟩ = some (.string ⟨#[]⟩) := clq FA.out 2 rfl
     have dFA_2 := fzq FA.out 2
     have cFA_3 : V6.cell? ⟨w.heap.size, 3, none⟩ = some (.slice none 0 0) := clq FA.out 3 rfl
     have dFA_3 := fzq FA.out 3
     have cFA_4 : V6.cell? ⟨w.heap.size, 4, none⟩ = some (.slice none 0 0) := clq FA.out 4 rfl
     have dFA_4 := fzq FA.out 4
     have zFA := blk_lt FA.out
     have cFB_0 : V6.cell? ⟨w.heap.size + 1, 0, none⟩ = some (.string ⟨#[]⟩) := clq FB.out 0 rfl
     have dFB_0 := fzq FB.out 0
     have cFB_1 : V6.cell? ⟨w.heap.size + 1, 1, none⟩ = some (.string ⟨#[]⟩) := clq FB.out 1 rfl
     have dFB_1 := fzq FB.out 1
     have zFB := blk_lt FB.out
     have cF1_0 : V6.cell? ⟨w2.heap.size, 0, none⟩ = some (.int .i64 la) := clq F1.out 0 rfl
     have dF1_0 := fzq F1.out 0
     have cF1_1 : V6.cell? ⟨w2.heap.size, 1, none⟩ = some (.slice (some ⟨gb, 0, none⟩) ys.length d) := clq F1.out 1 rfl
     have dF1_1 := fzq F1.out 1
     have zF1 := blk_lt F1.out
     refine hK.out _ _ ?h481 (fun hHeld => ?j481)
     case h481 => exact trivial
     clear hK K
     try simp only [Act.put, List.setIfInBounds_toArray, List.set_cons_zero, List.set_cons_succ]
     refine tk 7 ?v482 ?y482 ?r482
     case y482 => intro w_ hSw; (try dsimp only at hSw); go_simp; (try (with_reducible rfl))
     try simp only [Act.put, List.setIfInBounds_toArray, List.set_cons_zero, List.set_cons_succ]
     refine rdy (rs := [8, 10]) ?_
     refine rc (fun K hK => ?k483) (rc (fun K hK => ?k484) AllReadyH.nil)
     case k483 =>
      obtain ⟨ci, hil, hiM, hic, hif⟩ := Kd.R_elem HQ.out zItem (k : Int) (by omega) (by omega)
      rw [Int.toNat_natCast] at hiM hic
      rw [HY.out] at hiM
      obtain ⟨v0, v1, rfl, u0, u1⟩ := kItem_openM hiM
      obtain ⟨A0, c0, hv0⟩ := Kd.R_slice u0
      obtain ⟨A1, c1, hv1⟩ := Kd.R_slice u1
      subst hv0
      subst hv1
      simp only [show kItem.sz = 5 from rfl] at hic
      have i0_ : V6.cell? ⟨gb, k * 5, none⟩ = some (.int .i64 y.f0) := hic 0 _ rfl
      have i1_ : V6.cell? ⟨gb, k * 5 + 1, none⟩ = some (.string y.f1.f0) := hic 1 _ rfl
      have i2_ : V6.cell? ⟨gb, k * 5 + 2, none⟩ = some (.string y.f1.f1) := hic 2 _ rfl
      have i3_ : V6.cell? ⟨gb, k * 5 + 3, none⟩ = some (.slice A0 y.f2.length c0) := hic 3 _ rfl
      have i4_ : V6.cell? ⟨gb, k * 5 + 4, none⟩ = some (.slice A1 y.f3.length c1) := hic 4 _ rfl
      have U0 := Aside0.mk (Kd.R_mono u0 (fun _ _ => trivial) : Kd.R kRcpt 55 V6 w1.heap.size (fun _ => True) (.slice A0 y.f2.length c0) y.f2)
      have U1 := Aside0.mk (Kd.R_mono u1 (fun _ _ => trivial) : Kd.R Kd.string 9 V6 w1.heap.size (fun _ => True) (.slice A1 y.f3.length c1) y.f3)
      clear u0 u1 hic hif hiM hil
      go_simp
      refine hK.out _ _ ?h485 (fun hHeld => ?j485)
      case h485 => exact hHeld
      clear hK K
      try simp only [Act.put, List.setIfInBounds_toArray, List.set_cons_zero, List.set_cons_succ]
      clear i0_ i1_ i2_ i3_ i4_ HQ
      refine rdy (rs := [10]) ?_
      refine rc (fun K hK => ?k486) AllReadyH.nil
      case k486 =>
       go_simp
       refine Calls.mono (drAnyAddr_any g _ V6 HR.out (by omega)) ?_
       rintro e V10 ⟨a, rfl, hs10, hr_, hd_⟩
       clear cFA_0 cFA_1 cFA_2 cFA_3 cFA_4 dFA_0 dFA_1 dFA_2 dFA_3 dFA_4 cFB_0 cFB_1 dFB_0 dFB_1 cF1_0 cF1_1 dF1_0 dF1_1 zFA zFB zF1
       have H10 := Lib.hid hs10
       clear hs10
       replace FA := Aside0.mk (hd_.blk FA.out (by omega))
       replace FB := Aside0.mk (hd_.blk FB.out (by omega))
       replace F1 := Aside0.mk (hd_.blk F1.out (by omega))
       replace U0 := Aside0.mk (Dr.R hd_ U0.out hgl)
       replace U1 := Aside0.mk (Dr.R hd_ U1.out hgl)
       replace HR := Aside0.mk hr_
       replace HD := Aside0.mk (Dr.then_ HD.out hd_)
       have yV10 := HD.out.size
       clear hr_ hd_
       have cFA_0 : V10.cell? ⟨w.heap.size, 0, none⟩ = some (.int .i64 0) := clq FA.out 0 rfl
       have dFA_0 := fzq FA.out 0
       have cFA_1 : V10.cell? ⟨w.heap.size, 1, none⟩ = some (.string ⟨#[]⟩) := clq FA.out 1 rfl
       have dFA_1 := fzq FA.out 1
       have cFA_2 : V10.cell? ⟨w.heap.size, 2, none⟩ = some (.string ⟨#[]⟩) := clq FA.out 2 rfl
       have dFA_2 := fzq FA.out 2
       have cFA_3 : V10.cell? ⟨w.heap.size, 3, none⟩ = some (.slice none 0 0) := clq FA.out 3 rfl
       have dFA_3 := fzq FA.out 3
       have cFA_4 : V10.cell? ⟨w.heap.size, 4, none⟩ = some (.slice none 0 0) := clq FA.out 4 rfl
       have dFA_4 := fzq FA.out 4
       have zFA := blk_lt FA.out
       have cFB_0 : V10.cell? ⟨w.heap.size + 1, 0, none⟩ = some (.string ⟨#[]⟩) := clq FB.out 0 rfl
       have dFB_0 := fzq FB.out 0
       have cFB_1 : V10.cell? ⟨w.heap.size + 1, 1, none⟩ = some (.string ⟨#[]⟩) := clq FB.out 1 rfl
       have dFB_1 := fzq FB.out 1
       have zFB := blk_lt FB.out
       have cF1_0 : V10.cell? ⟨w2.heap.size, 0, none⟩ = some (.int .i64 la) := clq F1.out 0 rfl
       have dF1_0 := fzq F1.out 0
       have cF1_1 : V10.cell? ⟨w2.heap.size, 1, none⟩ = some (.slice (some ⟨gb, 0, none⟩) ys.length d) := clq F1.out 1 rfl
       have dF1_1 := fzq F1.out 1
       have zF1 := blk_lt F1.out
       refine hK.out _ _ ?h487 (fun hHeld => ?j487)
       case h487 => exact trivial
       clear hK K
       try simp only [Act.put, List.setIfInBounds_toArray, List.set_cons_zero, List.set_cons_succ]
       refine rdy (rs := [11]) ?_
       refine rc (fun K hK => ?k488) AllReadyH.nil
       case k488 =>
        go_simp
        clear cF1_0 cF1_1 dF1_0 dF1_1 zF1
        clear F1
        clear cFA_0 cFA_1 cFA_2 cFA_3 cFA_4 dFA_0 dFA_1 dFA_2 dFA_3 dFA_4 cFB_0 cFB_1 dFB_0 dFB_1 zFA zFB
        generalize hWX : World.setCell (World.setCell (World.setCell (World.setCell (World.setCell V10 _ _) _ _) _ _) _ _) _ _ = V11
        have nFA : V11.heap[w.heap.size]? = some (.cells #[.int .i64 y.f0, .string y.f1.f0, .string y.f1.f1, .slice A0 y.f2.length c0, .slice A1 y.f3.length c1] 28 (0, 0)) := by rw [← hWX]; have h_ := (blk_set1 (blk_set1 (blk_set1 (blk_set1 (blk_set1 FA.out 0 (.int .i64 y.f0)) 1 (.string y.f1.f0)) 2 (.string y.f1.f1)) 3 (.slice A0 y.f2.length c0)) 4 (.slice A1 y.f3.length c1)); simpa using h_
        have nFB : V11.heap[w.heap.size + 1]? = some (.cells #[.string ⟨#[]⟩, .string ⟨#[]⟩] 24 (0, 0)) := by rw [← hWX]; exact (blk_far (blk_far (blk_far (blk_far (blk_far FB.out (p := ⟨w.heap.size, 0, none⟩) (by show w.heap.size + 1 ≠ w.heap.size; omega) (.int .i64 y.f0)) (p := ⟨w.heap.size, 1, none⟩) (by show w.heap.size + 1 ≠ w.heap.size; omega) (.string y.f1.f0)) (p := ⟨w.heap.size, 2, none⟩) (by show w.heap.size + 1 ≠ w.heap.size; omega) (.string y.f1.f1)) (p := ⟨w.heap.size, 3, none⟩) (by show w.heap.size + 1 ≠ w.heap.size; omega) (.slice A0 y.f2.length c0)) (p := ⟨w.heap.size, 4, none⟩) (by show w.heap.size + 1 ≠ w.heap.size; omega) (.slice A1 y.f3.length c1))
        have nU0 : Kd.R kRcpt 55 V11 w1.heap.size (fun _ => True) (.slice A0 y.f2.length c0) y.f2 := by rw [← hWX]; exact R_other U0.out FA.out (by decide) (((((grown_set1 _ _ _ _).trans (grown_set1 _ _ _ _)).trans (grown_set1 _ _ _ _)).trans (grown_set1 _ _ _ _)).trans (grown_set1 _ _ _ _))
        have nU1 : Kd.R Kd.string 9 V11 w1.heap.size (fun _ => True) (.slice A1 y.f3.length c1) y.f3 := by rw [← hWX]; exact R_other U1.out FA.out (by decide) (((((grown_set1 _ _ _ _).trans (grown_set1 _ _ _ _)).trans (grown_set1 _ _ _ _)).trans (grown_set1 _ _ _ _)).trans (grown_set1 _ _ _ _))
        have nHBV : Below w.heap.size w V11 := by rw [← hWX]; (with_reducible repeat (first | exact HB.out.trans (HD.out.bel (by omega) HB.out.size) | refine bel_set ?_ _ ?_)); all_goals ((try dsimp only); omega)
        clear hWX FA FB U0 U1 HR HD
        have FA := Aside0.mk nFA
        clear nFA
        have FB := Aside0.mk nFB
        clear nFB
        have U0 := Aside0.mk nU0
        clear nU0
        have U1 := Aside0.mk nU1
        clear nU1
        have HBV := Lib.hid nHBV
        clear nHBV
        have cFA_0 : V11.cell? ⟨w.heap.size, 0, none⟩ = some (.int .i64 y.f0) := clq FA.out 0 rfl
        have dFA_0 := fzq FA.out 0
        have cFA_1 : V11.cell? ⟨w.heap.size, 1, none⟩ = some (.string y.f1.f0) := clq FA.out 1 rfl
        have dFA_1 := fzq FA.out 1
        have cFA_2 : V11.cell? ⟨w.heap.size, 2, none⟩ = some (.string y.f1.f1) := clq FA.out 2 rfl
        have dFA_2 := fzq FA.out 2
        have cFA_3 : V11.cell? ⟨w.heap.size, 3, none⟩ = some (.slice A0 y.f2.length c0) := clq FA.out 3 rfl
        have dFA_3 := fzq FA.out 3
        have cFA_4 : V11.cell? ⟨w.heap.size, 4, none⟩ = some (.slice A1 y.f3.length c1) := clq FA.out 4 rfl
        have dFA_4 := fzq FA.out 4
        have zFA := blk_lt FA.out
        have cFB_0 : V11.cell? ⟨w.heap.size + 1, 0, none⟩ = some (.string ⟨#[]⟩) := clq FB.out 0 rfl
        have dFB_0 := fzq FB.out 0
        have cFB_1 : V11.cell? ⟨w.heap.size + 1, 1, none⟩ = some (.string ⟨#[]⟩) := clq FB.out 1 rfl
        have dFB_1 := fzq FB.out 1
        have zFB := blk_lt FB.out
        refine hK.out _ _ ?h489 (fun hHeld => ?j489)
        case h489 => exact trivial
        clear hK K
        try simp only [Act.put, List.setIfInBounds_toArray, List.set_cons_zero, List.set_cons_succ]
        refine rdy (rs := [12]) ?_
        refine rc (fun K hK => ?k490) AllReadyH.nil
        case k490 =>
         go_simp
         clear cFA_0 cFA_1 cFA_2 cFA_3 cFA_4 dFA_0 dFA_1 dFA_2 dFA_3 dFA_4 cFB_0 cFB_1 dFB_0 dFB_1 zFA zFB
         generalize hWX : World.setCell (World.setCell V11 _ _) _ _ = V12
         have nFB : V12.heap[w.heap.size + 1]? = some (.cells #[.string a.f0, .string a.f1] 24 (0, 0)) := by rw [← hWX]; have h_ := (blk_set1 (blk_set1 FB.out 0 (.string a.f0)) 1 (.string a.f1)); simpa using h_
         have nFA : V12.heap[w.heap.size]? = some (.cells #[.int .i64 y.f0, .string y.f1.f0, .string y.f1.f1, .slice A0 y.f2.length c0, .slice A1 y.f3.length c1] 28 (0, 0)) := by rw [← hWX]; exact (blk_far (blk_far FA.out (p := ⟨w.heap.size + 1, 0, none⟩) (by show w.heap.size ≠ w.heap.size + 1; omega) (.string a.f0)) (p := ⟨w.heap.size + 1, 1, none⟩) (by show w.heap.size ≠ w.heap.size + 1; omega) (.string a.f1))
         have nU0 : Kd.R kRcpt 55 V12 w1.heap.size (fun _ => True) (.slice A0 y.f2.length c0) y.f2 := by rw [← hWX]; exact R_other U0.out FB.out (by decide) ((grown_set1 _ _ _ _).trans (grown_set1 _ _ _ _))
         have nU1 : Kd.R Kd.string 9 V12 w1.heap.size (fun _ => True) (.slice A1 y.f3.length c1) y.f3 := by rw [← hWX]; exact R_other U1.out FB.out (by decide) ((grown_set1 _ _ _ _).trans (grown_set1 _ _ _ _))
         have nHBV : Below w.heap.size w V12 := by rw [← hWX]; (with_reducible repeat (first | exact HBV.out | refine bel_set ?_ _ ?_)); all_goals ((try dsimp only); omega)
         clear hWX FB FA U0 U1 HBV
         have FB := Aside0.mk nFB
         clear nFB
         have FA := Aside0.mk nFA
         clear nFA
         have U0 := Aside0.mk nU0
         clear nU0
         have U1 := Aside0.mk nU1
         clear nU1
         have HBV := Lib.hid nHBV
         clear nHBV
         have cFA_0 : V12.cell? ⟨w.heap.size, 0, none⟩ = some (.int .i64 y.f0) := clq FA.out 0 rfl
         have dFA_0 := fzq FA.out 0
         have cFA_1 : V12.cell? ⟨w.heap.size, 1, none⟩ = some (.string y.f1.f0) := clq FA.out 1 rfl
         have dFA_1 := fzq FA.out 1
         have cFA_2 : V12.cell? ⟨w.heap.size, 2, none⟩ = some (.string y.f1.f1) := clq FA.out 2 rfl
         have dFA_2 := fzq FA.out 2
         have cFA_3 : V12.cell? ⟨w.heap.size, 3, none⟩ = some (.slice A0 y.f2.length c0) := clq FA.out 3 rfl
         have dFA_3 := fzq FA.out 3
         have cFA_4 : V12.cell? ⟨w.heap.size, 4, none⟩ = some (.slice A1 y.f3.length c1) := clq FA.out 4 rfl
         have dFA_4 := fzq FA.out 4
         have zFA := blk_lt FA.out
         have cFB_0 : V12.cell? ⟨w.heap.size + 1, 0, none⟩ = some (.string a.f0) := clq FB.out 0 rfl
         have dFB_0 := fzq FB.out 0
         have cFB_1 : V12.cell? ⟨w.heap.size + 1, 1, none⟩ = some (.string a.f1) := clq FB.out 1 rfl
         have dFB_1 := fzq FB.out 1
         have zFB := blk_lt FB.out
         refine hK.out _ _ ?h491 (fun hHeld => ?j491)
         case h491 => exact trivial
         clear hK K
         try simp only [Act.put, List.setIfInBounds_toArray, List.set_cons_zero, List.set_cons_succ]
         refine wpAnyH_done (by kernel_rfl) ?_ _
         go_wp2
         refine bodyPost_ret (v := .tuple #[.agg #[.int .i64 y.f0, .string y.f1.f0, .string y.f1.f1, .slice A0 y.f2.length c0, .slice A1 y.f3.length c1], .agg #[.string a.f0, .string a.f1]]) ?hr rfl ?hp
         case hr => simp [results, Tryd.results6, go_sem, cFA_0, cFA_1, cFA_2, cFA_3, cFA_4, cFB_0, cFB_1]
         case hp => exact ⟨y, A0, c0, A1, c1, a, rfl, HWY.out, H10.out, Kd.R_lower U0.out HB.out.size, Kd.R_lower U1.out HB.out.size, HBV.out⟩
     case k484 =>
      go_simp
      refine Calls.mono (drAnyAddr_any g _ V6 HR.out (by omega)) ?_
      rintro e V10 ⟨a, rfl, hs10, hr_, hd_⟩
      clear cFA_0 cFA_1 cFA_2 cFA_3 cFA_4 dFA_0 dFA_1 dFA_2 dFA_3 dFA_4 cFB_0 cFB_1 dFB_0 dFB_1 cF1_0 cF1_1 dF1_0 dF1_1 zFA zFB zF1
      have H10 := Lib.hid hs10
      clear hs10
      replace FA := Aside0.mk (hd_.blk FA.out (by omega))
      replace FB := Aside0.mk (hd_.blk FB.out (by omega))
      replace F1 := Aside0.mk (hd_.blk F1.out (by omega))
      replace HQ := Aside0.mk (Dr.R hd_ HQ.out hgl)
      replace HR := Aside0.mk hr_
      replace HD := Aside0.mk (Dr.then_ HD.out hd_)
      have yV10 := HD.out.size
      clear hr_ hd_
      have cFA_0 : V10.cell? ⟨w.heap.size, 0, none⟩ = some (.int .i64 0) := clq FA.out 0 rfl
      have dFA_0 := fzq FA.out 0
      have cFA_1 : V10.cell? ⟨w.heap.size, 1, none⟩ = some (.string ⟨#[]⟩) := clq FA.out 1 rfl
      have dFA_1 := fzq FA.out 1
      have cFA_2 : V10.cell? ⟨w.heap.size, 2, none⟩ = some (.string ⟨#[]⟩) := clq FA.out 2 rfl
      have dFA_2 := fzq FA.out 2
      have cFA_3 : V10.cell? ⟨w.heap.size, 3, none⟩ = some (.slice none 0 0) := clq FA.out 3 rfl
      have dFA_3 := fzq FA.out 3
      have cFA_4 : V10.cell? ⟨w.heap.size, 4, none⟩ = some (.slice none 0 0) := clq FA.out 4 rfl
      have dFA_4 := fzq FA.out 4
      have zFA := blk_lt FA.out
      have cFB_0 : V10.cell? ⟨w.heap.size + 1, 0, none⟩ = some (.string ⟨#[]⟩) := clq FB.out 0 rfl
      have dFB_0 := fzq FB.out 0
      have cFB_1 : V10.cell? ⟨w.heap.size + 1, 1, none⟩ = some (.string ⟨#[]⟩) := clq FB.out 1 rfl
      have dFB_1 := fzq FB.out 1
      have zFB := blk_lt FB.out
      have cF1_0 : V10.cell? ⟨w2.heap.size, 0, none⟩ = some (.int .i64 la) := clq F1.out 0 rfl
      have dF1_0 := fzq F1.out 0
      have cF1_1 : V10.cell? ⟨w2.heap.size, 1, none⟩ = some (.slice (some ⟨gb, 0, none⟩) ys.length d) := clq F1.out 1 rfl
      have dF1_1 := fzq F1.out 1
      have zF1 := blk_lt F1.out
      refine hK.out _ _ ?h492 (fun hHeld => ?j492)
      case h492 => exact trivial
      clear hK K
      try simp only [Act.put, List.setIfInBounds_toArray, List.set_cons_zero, List.set_cons_succ]
      refine rdy (rs := [8]) ?_
      refine rc (fun K hK => ?k493) AllReadyH.nil
      case k493 =>
       obtain ⟨ci, hil, hiM, hic, hif⟩ := Kd.R_elem HQ.out zItem (k : Int) (by omega) (by omega)
       rw [Int.toNat_natCast] at hiM hic
       rw [HY.out] at hiM
       obtain ⟨v0, v1, rfl, u0, u1⟩ := kItem_openM hiM
       obtain ⟨A0, c0, hv0⟩ := Kd.R_slice u0
       obtain ⟨A1, c1, hv1⟩ := Kd.R_slice u1
       subst hv0
       subst hv1
       simp only [show kItem.sz = 5 from rfl] at hic
       have i0_ : V10.cell? ⟨gb, k * 5, none⟩ = some (.int .i64 y.f0) := hic 0 _ rfl
       have i1_ : V10.cell? ⟨gb, k * 5 + 1, none⟩ = some (.string y.f1.f0) := hic 1 _ rfl
       have i2_ : V10.cell? ⟨gb, k * 5 + 2, none⟩ = some (.string y.f1.f1) := hic 2 _ rfl
       have i3_ : V10.cell? ⟨gb, k * 5 + 3, none⟩ = some (.slice A0 y.f2.length c0) := hic 3 _ rfl
       have i4_ : V10.cell? ⟨gb, k * 5 + 4, none⟩ = some (.slice A1 y.f3.length c1) := hic 4 _ rfl
       have U0 := Aside0.mk (Kd.R_mono u0 (fun _ _ => trivial) : Kd.R kRcpt 55 V10 w1.heap.size (fun _ => True) (.slice A0 y.f2.length c0) y.f2)
       have U1 := Aside0.mk (Kd.R_mono u1 (fun _ _ => trivial) : Kd.R Kd.string 9 V10 w1.heap.size (fun _ => True) (.slice A1 y.f3.length c1) y.f3)
       clear u0 u1 hic hif hiM hil
       go_simp
       refine hK.out _ _ ?h494 (fun hHeld => ?j494)
       case h494 => exact hHeld
       clear hK K
       try simp only [Act.put, List.setIfInBounds_toArray, List.set_cons_zero, List.set_cons_succ]
       clear i0_ i1_ i2_ i3_ i4_ HQ
       refine rdy (rs := [11]) ?_
       refine rc (fun K hK => ?k495) AllReadyH.nil
       case k495 =>
        go_simp
        clear cF1_0 cF1_1 dF1_0 dF1_1 zF1
        clear F1
        clear cFA_0 cFA_1 cFA_2 cFA_3 cFA_4 dFA_0 dFA_1 dFA_2 dFA_3 dFA_4 cFB_0 cFB_1 dFB_0 dFB_1 zFA zFB
        generalize hWX : World.setCell (World.setCell (World.setCell (World.setCell (World.setCell V10 _ _) _ _) _ _) _ _) _ _ = V11
        have nFA : V11.heap[w.heap.size]? = some (.cells #[.int .i64 y.f0, .string y.f1.f0, .string y.f1.f1, .slice A0 y.f2.length c0, .slice A1 y.f3.length c1] 28 (0, 0)) := by rw [← hWX]; have h_ := (blk_set1 (blk_set1 (blk_set1 (blk_set1 (blk_set1 FA.out 0 (.int .i64 y.f0)) 1 (.string y.f1.f0)) 2 (.string y.f1.f1)) 3 (.slice A0 y.f2.length c0)) 4 (.slice A1 y.f3.length c1)); simpa using h_
        have nFB : V11.heap[w.heap.size + 1]? = some (.cells #[.string ⟨#[]⟩, .string ⟨#[]⟩] 24 (0, 0)) := by rw [← hWX]; exact (blk_far (blk_far (blk_far (blk_far (blk_far FB.out (p := ⟨w.heap.size, 0, none⟩) (by show w.heap.size + 1 ≠ w.heap.size; omega) (.int .i64 y.f0)) (p := ⟨w.heap.size, 1, none⟩) (by show w.heap.size + 1 ≠ w.heap.size; omega) (.string y.f1.f0)) (p := ⟨w.heap.size, 2, none⟩) (by show w.heap.size + 1 ≠ w.heap.size; omega) (.string y.f1.f1)) (p := ⟨w.heap.size, 3, none⟩) (by show w.heap.size + 1 ≠ w.heap.size; omega) (.slice A0 y.f2.length c0)) (p := ⟨w.heap.size, 4, none⟩) (by show w.heap.size + 1 ≠ w.heap.size; omega) (.slice A1 y.f3.length c1))
        have nU0 : Kd.R kRcpt 55 V11 w1.heap.size (fun _ => True) (.slice A0 y.f2.length c0) y.f2 := by rw [← hWX]; exact R_other U0.out FA.out (by decide) (((((grown_set1 _ _ _ _).trans (grown_set1 _ _ _ _)).trans (grown_set1 _ _ _ _)).trans (grown_set1 _ _ _ _)).trans (grown_set1 _ _ _ _))
        have nU1 : Kd.R Kd.string 9 V11 w1.heap.size (fun _ => True) (.slice A1 y.f3.length c1) y.f3 := by rw [← hWX]; exact R_other U1.out FA.out (by decide) (((((grown_set1 _ _ _ _).trans (grown_set1 _ _ _ _)).trans (grown_set1 _ _ _ _)).trans (grown_set1 _ _ _ _)).trans (grown_set1 _ _ _ _))
        have nHBV : Below w.heap.size w V11 := by rw [← hWX]; (with_reducible repeat (first | exact HB.out.trans (HD.out.bel (by omega) HB.out.size) | refine bel_set ?_ _ ?_)); all_goals ((try dsimp only); omega)
        clear hWX FA FB U0 U1 HR HD
        have FA := Aside0.mk nFA
        clear nFA
        have FB := Aside0.mk nFB
        clear nFB
        have U0 := Aside0.mk nU0
        clear nU0
        have U1 := Aside0.mk nU1
        clear nU1
        have HBV := Lib.hid nHBV
        clear nHBV
        have cFA_0 : V11.cell? ⟨w.heap.size, 0, none⟩ = some (.int .i64 y.f0) := clq FA.out 0 rfl
        have dFA_0 := fzq FA.out 0
        have cFA_1 : V11.cell? ⟨w.heap.size, 1, none⟩ = some (.string y.f1.f0) := clq FA.out 1 rfl
        have dFA_1 := fzq FA.out 1
        have cFA_2 : V11.cell? ⟨w.heap.size, 2, none⟩ = some (.string y.f1.f1) := clq FA.out 2 rfl
        have dFA_2 := fzq FA.out 2
        have cFA_3 : V11.cell? ⟨w.heap.size, 3, none⟩ = some (.slice A0 y.f2.length c0) := clq FA.out 3 rfl
        have dFA_3 := fzq FA.out 3
        have cFA_4 : V11.cell? ⟨w.heap.size, 4, none⟩ = some (.slice A1 y.f3.length c1) := clq FA.out 4 rfl
        have dFA_4 := fzq FA.out 4
        have zFA := blk_lt FA.out
        have cFB_0 : V11.cell? ⟨w.heap.size + 1, 0, none⟩ = some (.string ⟨#[]⟩) := clq FB.out 0 rfl
        have dFB_0 := fzq FB.out 0
        have cFB_1 : V11.cell? ⟨w.heap.size + 1, 1, none⟩ = some (.string ⟨#[]⟩) := clq FB.out 1 rfl
        have dFB_1 := fzq FB.out 1
        have zFB := blk_lt FB.out
        refine hK.out _ _ ?h496 (fun hHeld => ?j496)
        case h496 => exact trivial
        clear hK K
        try simp only [Act.put, List.setIfInBounds_toArray, List.set_cons_zero, List.set_cons_succ]
        refine rdy (rs := [12]) ?_
        refine rc (fun K hK => ?k497) AllReadyH.nil
        case k497 =>
         go_simp
         clear cFA_0 cFA_1 cFA_2 cFA_3 cFA_4 dFA_0 dFA_1 dFA_2 dFA_3 dFA_4 cFB_0 cFB_1 dFB_0 dFB_1 zFA zFB
         generalize hWX : World.setCell (World.setCell V11 _ _) _ _ = V12
         have nFB : V12.heap[w.heap.size + 1]? = some (.cells #[.string a.f0, .string a.f1] 24 (0, 0)) := by rw [← hWX]; have h_ := (blk_set1 (blk_set1 FB.out 0 (.string a.f0)) 1 (.string a.f1)); simpa using h_
         have nFA : V12.heap[w.heap.size]? = some (.cells #[.int .i64 y.f0, .string y.f1.f0, .string y.f1.f1, .slice A0 y.f2.length c0, .slice A1 y.f3.length c1] 28 (0, 0)) := by rw [← hWX]; exact (blk_far (blk_far FA.out (p := ⟨w.heap.size + 1, 0, none⟩) (by show w.heap.size ≠ w.heap.size + 1; omega) (.string a.f0)) (p := ⟨w.heap.size + 1, 1, none⟩) (by show w.heap.size ≠ w.heap.size + 1; omega) (.string a.f1))
         have nU0 : Kd.R kRcpt 55 V12 w1.heap.size (fun _ => True) (.slice A0 y.f2.length c0) y.f2 := by rw [← hWX]; exact R_other U0.out FB.out (by decide) ((grown_set1 _ _ _ _).trans (grown_set1 _ _ _ _))
         have nU1 : Kd.R Kd.string 9 V12 w1.heap.size (fun _ => True) (.slice A1 y.f3.length c1) y.f3 := by rw [← hWX]; exact R_other U1.out FB.out (by decide) ((grown_set1 _ _ _ _).trans (grown_set1 _ _ _ _))
         have nHBV : Below w.heap.size w V12 := by rw [← hWX]; (with_reducible repeat (first | exact HBV.out | refine bel_set ?_ _ ?_)); all_goals ((try dsimp only); omega)
         clear hWX FB FA U0 U1 HBV
         have FB := Aside0.mk nFB
         clear nFB
         have FA := Aside0.mk nFA
         clear nFA
         have U0 := Aside0.mk nU0
         clear nU0
         have U1 := Aside0.mk nU1
         clear nU1
         have HBV := Lib.hid nHBV
         clear nHBV
         have cFA_0 : V12.cell? ⟨w.heap.size, 0, none⟩ = some (.int .i64 y.f0) := clq FA.out 0 rfl
         have dFA_0 := fzq FA.out 0
         have cFA_1 : V12.cell? ⟨w.heap.size, 1, none⟩ = some (.string y.f1.f0) := clq FA.out 1 rfl
         have dFA_1 := fzq FA.out 1
         have cFA_2 : V12.cell? ⟨w.heap.size, 2, none⟩ = some (.string y.f1.f1) := clq FA.out 2 rfl
         have dFA_2 := fzq FA.out 2
         have cFA_3 : V12.cell? ⟨w.heap.size, 3, none⟩ = some (.slice A0 y.f2.length c0) := clq FA.out 3 rfl
         have dFA_3 := fzq FA.out 3
         have cFA_4 : V12.cell? ⟨w.heap.size, 4, none⟩ = some (.slice A1 y.f3.length c1) := clq FA.out 4 rfl
         have dFA_4 := fzq FA.out 4
         have zFA := blk_lt FA.out
         have cFB_0 : V12.cell? ⟨w.heap.size + 1, 0, none⟩ = some (.string a.f0) := clq FB.out 0 rfl
         have dFB_0 := fzq FB.out 0
         have cFB_1 : V12.cell? ⟨w.heap.size + 1, 1, none⟩ = some (.string a.f1) := clq FB.out 1 rfl
         have dFB_1 := fzq FB.out 1
         have zFB := blk_lt FB.out
         refine hK.out _ _ ?h498 (fun hHeld => ?j498)
         case h498 => exact trivial
         clear hK K
         try simp only [Act.put, List.setIfInBounds_toArray, List.set_cons_zero, List.set_cons_succ]
         refine wpAnyH_done (by kernel_rfl) ?_ _
         go_wp2
         refine bodyPost_ret (v := .tuple #[.agg #[.int .i64 y.f0, .string y.f1.f0, .string y.f1.f1, .slice A0 y.f2.length c0, .slice A1 y.f3.length c1], .agg #[.string a.f0, .string a.f1]]) ?hr rfl ?hp
         case hr => simp [results, Tryd.results6, go_sem, cFA_0, cFA_1, cFA_2, cFA_3, cFA_4, cFB_0, cFB_1]
         case hp => exact ⟨y, A0, c0, A1, c1, a, rfl, HWY.out, H10.out, Kd.R_lower U0.out HB.out.size, Kd.R_lower U1.out HB.out.size, HBV.out⟩
   case k478 =>
    go_simp
    refine Calls.mono (pick_any g _ (ys.length : Int) V0 HR.out (by omega) (by omega)) ?_
    rintro e V6 ⟨k, rfl, hk, hr_, hd_⟩
    clear cFA_0 cFA_1 cFA_2 cFA_3 cFA_4 dFA_0 dFA_1 dFA_2 dFA_3 dFA_4 cFB_0 cFB_1 dFB_0 dFB_1 cF1_0 cF1_1 dF1_0 dF1_1 zFA zFB zF1
    replace FA := Aside0.mk (hd_.blk FA.out (by omega))
    replace FB := Aside0.mk (hd_.blk FB.out (by omega))
    replace F1 := Aside0.mk (hd_.blk F1.out (by omega))
    replace HQ := Aside0.mk (Dr.R hd_ HQ.out hgl)
    replace HR := Aside0.mk hr_
    replace HD := Aside0.mk (Dr.then_ HD.out hd_)
    have yV6 := HD.out.size
    clear hr_ hd_
    have hk := hk (by omega)
    have hkn : k < ys.length := by omega
    obtain ⟨y, ey⟩ : ∃ y, y = ys.getD k zItem := ⟨_, rfl⟩
    have HWY := Lib.hid (show wideI y by rw [ey]; exact HX.out _ (getD_mem ys zItem hkn))
    have HY := Lib.hid ey.symm
    clear ey
    have cFA_0 : V6.cell? ⟨w.heap.size, 0, none⟩ = some (.int .i64 0) := clq FA.out 0 rfl
    have dFA_0 := fzq FA.out 0
    have cFA_1 : V6.cell? ⟨w.heap.size, 1, none⟩ = some (.string ⟨#[]⟩) := clq FA.out 1 rfl
    have dFA_1 := fzq FA.out 1
    have cFA_2 : V6.cell? ⟨w.heap.size, 2, none⟩ = some (.string ⟨#[]⟩) := clq FA.out 2 rfl
    have dFA_2 := fzq FA.out 2
    have cFA_3 : V6.cell? ⟨w.heap.size, 3, none⟩ = some (.slice none 0 0) := clq FA.out 3 rfl
    have dFA_3 := fzq FA.out 3
    have cFA_4 : V6.cell? ⟨w.heap.size, 4, none⟩ = some (.slice none 0 0) := clq FA.out 4 rfl
    have dFA_4 := fzq FA.out 4
    have zFA := blk_lt FA.out
    have cFB_0 : V6.cell? ⟨w.heap.size + 1, 0, none⟩ = some (.string ⟨#[]⟩) := clq FB.out 0 rfl
    have dFB_0 := fzq FB.out 0
    have cFB_1 : V6.cell? ⟨w.heap.size + 1, 1, none⟩ = some (.string ⟨#[]⟩) := clq FB.out 1 rfl
    have dFB_1 := fzq FB.out 1
    have zFB := blk_lt FB.out
    have cF1_0 : V6.cell? ⟨w2.heap.size, 0, none⟩ = some (.int .i64 la) := clq F1.out 0 rfl
    have dF1_0 := fzq F1.out 0
    have cF1_1 : V6.cell? ⟨w2.heap.size, 1, none⟩ = some (.slice (some ⟨gb, 0, none⟩) ys.length d) := clq F1.out 1 rfl
    have dF1_1 := fzq F1.out 1
    have zF1 := blk_lt F1.out
    refine hK.out _ _ ?h499 (fun hHeld => ?j499)
    case h499 => exact trivial
    clear hK K
    try simp only [Act.put, List.setIfInBounds_toArray, List.set_cons_zero, List.set_cons_succ]
    refine rdy (rs := [1, 10]) ?_
    refine rc (fun K hK => ?k500) (rc (fun K hK => ?k501) AllReadyH.nil)
    case k500 =>
     go_simp
     refine hK.out _ _ ?h502 (fun hHeld => ?j502)
     case h502 => exact hHeld
     clear hK K
     try simp only [Act.put, List.setIfInBounds_toArray, List.set_cons_zero, List.set_cons_succ]
     refine tk 7 ?v503 ?y503 ?r503
     case y503 => intro w_ hSw; (try dsimp only at hSw); go_simp; (try (with_reducible rfl))
     try simp only [Act.put, List.setIfInBounds_toArray, List.set_cons_zero, List.set_cons_succ]
     refine rdy (rs := [8, 10]) ?_
     refine rc (fun K hK => ?k504) (rc (fun K hK => ?k505) AllReadyH.nil)
     case k504 =>
      obtain ⟨ci, hil, hiM, hic, hif⟩ := Kd.R_elem HQ.out zItem (k : Int) (by omega) (by omega)
      rw [Int.toNat_natCast] at hiM hic
      rw [HY.out] at hiM
      obtain ⟨v0, v1, rfl, u0, u1⟩ := kItem_openM hiM
      obtain ⟨A0, c0, hv0⟩ := Kd.R_slice u0
      obtain ⟨A1, c1, hv1⟩ := Kd.R_slice u1
      subst hv0
      subst hv1
      simp only [show kItem.sz = 5 from rfl] at hic
      have i0_ : V6.cell? ⟨gb, k * 5, none⟩ = some (.int .i64 y.f0) := hic 0 _ rfl
      have i1_ : V6.cell? ⟨gb, k * 5 + 1, none⟩ = some (.string y.f1.f0) := hic 1 _ rfl
      have i2_ : V6.cell? ⟨gb, k * 5 + 2, none⟩ = some (.string y.f1.f1) := hic 2 _ rfl
      have i3_ : V6.cell? ⟨gb, k * 5 + 3, none⟩ = some (.slice A0 y.f2.length c0) := hic 3 _ rfl
      have i4_ : V6.cell? ⟨gb, k * 5 + 4, none⟩ = some (.slice A1 y.f3.length c1) := hic 4 _ rfl
      have U0 := Aside0.mk (Kd.R_mono u0 (fun _ _ => trivial) : Kd.R kRcpt 55 V6 w1.heap.size (fun _ => True) (.slice A0 y.f2.length c0) y.f2)
      have U1 := Aside0.mk (Kd.R_mono u1 (fun _ _ => trivial) : Kd.R Kd.string 9 V6 w1.heap.size (fun _ => True) (.slice A1 y.f3.length c1) y.f3)
      clear u0 u1 hic hif hiM hil
      go_simp
      refine hK.out _ _ ?h506 (fun hHeld => ?j506)
      case h506 => exact hHeld
      clear hK K
      try simp only [Act.put, List.setIfInBounds_toArray, List.set_cons_zero, List.set_cons_succ]
      clear i0_ i1_ i2_ i3_ i4_ HQ
      refine rdy (rs := [10]) ?_
      refine rc (fun K hK => ?k507) AllReadyH.nil
      case k507 =>
       go_simp
       refine Calls.mono (drAnyAddr_any g _ V6 HR.out (by omega)) ?_
       rintro e V10 ⟨a, rfl, hs10, hr_, hd_⟩
       clear cFA_0 cFA_1 cFA_2 cFA_3 cFA_4 dFA_0 dFA_1 dFA_2 dFA_3 dFA_4 cFB_0 cFB_1 dFB_0 dFB_1 cF1_0 cF1_1 dF1_0 dF1_1 zFA zFB zF1
       have H10 := Lib.hid hs10
       clear hs10
       replace FA := Aside0.mk (hd_.blk FA.out (by omega))
       replace FB := Aside0.mk (hd_.blk FB.out (by omega))
       replace F1 := Aside0.mk (hd_.blk F1.out (by omega))
       replace U0 := Aside0.mk (Dr.R hd_ U0.out hgl)
       replace U1 := Aside0.mk (Dr.R hd_ U1.out hgl)
       replace HR := Aside0.mk hr_
       replace HD := Aside0.mk (Dr.then_ HD.out hd_)
       have yV10 := HD.out.size
       clear hr_ hd_
       have cFA_0 : V10.cell? ⟨w.heap.size, 0, none⟩ = some (.int .i64 0) := clq FA.out 0 rfl
       have dFA_0 := fzq FA.out 0
       have cFA_1 : V10.cell? ⟨w.heap.size, 1, none⟩ = some (.string ⟨#[]⟩) := clq FA.out 1 rfl
       have dFA_1 := fzq FA.out 1
       have cFA_2 : V10.cell? ⟨w.heap.size, 2, none⟩ = some (.string ⟨#[]⟩) := clq FA.out 2 rfl
       have dFA_2 := fzq FA.out 2
       have cFA_3 : V10.cell? ⟨w.heap.size, 3, none⟩ = some (.slice none 0 0) := clq FA.out 3 rfl
       have dFA_3 := fzq FA.out 3
       have cFA_4 : V10.cell? ⟨w.heap.size, 4, none⟩ = some (.slice none 0 0) := clq FA.out 4 rfl
       have dFA_4 := fzq FA.out 4
       have zFA := blk_lt FA.out
       have cFB_0 : V10.cell? ⟨w.heap.size + 1, 0, none⟩ = some (.string ⟨#[]⟩) := clq FB.out 0 rfl
       have dFB_0 := fzq FB.out 0
       have cFB_1 : V10.cell? ⟨w.heap.size + 1, 1, none⟩ = some (.string ⟨#[]⟩) := clq FB.out 1 rfl
       have dFB_1 := fzq FB.out 1
       have zFB := blk_lt FB.out
       have cF1_0 : V10.cell? ⟨w2.heap.size, 0, none⟩ = some (.int .i64 la) := clq F1.out 0 rfl
       have dF1_0 := fzq F1.out 0
       have cF1_1 : V10.cell? ⟨w2.heap.size, 1, none⟩ = some (.slice (some ⟨gb, 0, none⟩) ys.length d) := clq F1.out 1 rfl
       have dF1_1 := fzq F1.out 1
       have zF1 := blk_lt F1.out
       refine hK.out _ _ ?h508 (fun hHeld => ?j508)
       case h508 => exact trivial
       clear hK K
       try simp only [Act.put, List.setIfInBounds_toArray, List.set_cons_zero, List.set_cons_succ]
       refine rdy (rs := [11]) ?_
       refine rc (fun K hK => ?k509) AllReadyH.nil
       case k509 =>
        go_simp
        clear cF1_0 cF1_1 dF1_0 dF1_1 zF1
        clear F1
        clear cFA_0 cFA_1 cFA_2 cFA_3 cFA_4 dFA_0 dFA_1 dFA_2 dFA_3 dFA_4 cFB_0 cFB_1 dFB_0 dFB_1 zFA zFB
        generalize hWX : World.setCell (World.setCell (World.setCell (World.setCell (World.setCell V10 _ _) _ _) _ _) _ _) _ _ = V11
        have nFA : V11.heap[w.heap.size]? = some (.cells #[.int .i64 y.f0, .string y.f1.f0, .string y.f1.f1, .slice A0 y.f2.length c0, .slice A1 y.f3.length c1] 28 (0, 0)) := by rw [← hWX]; have h_ := (blk_set1 (blk_set1 (blk_set1 (blk_set1 (blk_set1 FA.out 0 (.int .i64 y.f0)) 1 (.string y.f1.f0)) 2 (.string y.f1.f1)) 3 (.slice A0 y.f2.length c0)) 4 (.slice A1 y.f3.length c1)); simpa using h_
        have nFB : V11.heap[w.heap.size + 1]? = some (.cells #[.string ⟨#[]⟩, .string ⟨#[]⟩] 24 (0, 0)) := by rw [← hWX]; exact (blk_far (blk_far (blk_far (blk_far (blk_far FB.out (p := ⟨w.heap.size, 0, none⟩) (by show w.heap.size + 1 ≠ w.heap.size; omega) (.int .i64 y.f0)) (p := ⟨w.heap.size, 1, none⟩) (by show w.heap.size + 1 ≠ w.heap.size; omega) (.string y.f1.f0)) (p := ⟨w.heap.size, 2, none⟩) (by show w.heap.size + 1 ≠ w.heap.size; omega) (.string y.f1.f1)) (p := ⟨w.heap.size, 3, none⟩) (by show w.heap.size + 1 ≠ w.heap.size; omega) (.slice A0 y.f2.length c0)) (p := ⟨w.heap.size, 4, none⟩) (by show w.heap.size + 1 ≠ w.heap.size; omega) (.slice A1 y.f3.length c1))
        have nU0 : Kd.R kRcpt 55 V11 w1.heap.size (fun _ => True) (.slice A0 y.f2.length c0) y.f2 := by rw [← hWX]; exact R_other U0.out FA.out (by decide) (((((grown_set1 _ _ _ _).trans (grown_set1 _ _ _ _)).trans (grown_set1 _ _ _ _)).trans (grown_set1 _ _ _ _)).trans (grown_set1 _ _ _ _))
        have nU1 : Kd.R Kd.string 9 V11 w1.heap.size (fun _ => True) (.slice A1 y.f3.length c1) y.f3 := by rw [← hWX]; exact R_other U1.out FA.out (by decide) (((((grown_set1 _ _ _ _).trans (grown_set1 _ _ _ _)).trans (grown_set1 _ _ _ _)).trans (grown_set1 _ _ _ _)).trans (grown_set1 _ _ _ _))
        have nHBV : Below w.heap.size w V11 := by rw [← hWX]; (with_reducible repeat (first | exact HB.out.trans (HD.out.bel (by omega) HB.out.size) | refine bel_set ?_ _ ?_)); all_goals ((try dsimp only); omega)
        clear hWX FA FB U0 U1 HR HD
        have FA := Aside0.mk nFA
        clear nFA
        have FB := Aside0.mk nFB
        clear nFB
        have U0 := Aside0.mk nU0
        clear nU0
        have U1 := Aside0.mk nU1
        clear nU1
        have HBV := Lib.hid nHBV
        clear nHBV
        have cFA_0 : V11.cell? ⟨w.heap.size, 0, none⟩ = some (.int .i64 y.f0) := clq FA.out 0 rfl
        have dFA_0 := fzq FA.out 0
        have cFA_1 : V11.cell? ⟨w.heap.size, 1, none⟩ = some (.string y.f1.f0) := clq FA.out 1 rfl
        have dFA_1 := fzq FA.out 1
        have cFA_2 : V11.cell? ⟨w.heap.size, 2, none⟩ = some (.string y.f1.f1) := clq FA.out 2 rfl
        have dFA_2 := fzq FA.out 2
        have cFA_3 : V11.cell? ⟨w.heap.size, 3, none⟩ = some (.slice A0 y.f2.length c0) := clq FA.out 3 rfl
        have dFA_3 := fzq FA.out 3
        have cFA_4 : V11.cell? ⟨w.heap.size, 4, none⟩ = some (.slice A1 y.f3.length c1) := clq FA.out 4 rfl
        have dFA_4 := fzq FA.out 4
        have zFA := blk_lt FA.out
        have cFB_0 : V11.cell? ⟨w.heap.size + 1, 0, none⟩ = some (.string ⟨#[]⟩) := clq FB.out 0 rfl
        have dFB_0 := fzq FB.out 0
        have cFB_1 : V11.cell? ⟨w.heap.size + 1, 1, none⟩ = some (.string ⟨#[]⟩) := clq FB.out 1 rfl
        have dFB_1 := fzq FB.out 1
        have zFB := blk_lt FB.out
        refine hK.out _ _ ?h510 (fun hHeld => ?j510)
        case h510 => exact trivial
        clear hK K
        try simp only [Act.put, List.setIfInBounds_toArray, List.set_cons_zero, List.set_cons_succ]
        refine rdy (rs := [12]) ?_
        refine rc (fun K hK => ?k511) AllReadyH.nil
        case k511 =>
         go_simp
         clear cFA_0 cFA_1 cFA_2 cFA_3 cFA_4 dFA_0 dFA_1 dFA_2 dFA_3 dFA_4 cFB_0 cFB_1 dFB_0 dFB_1 zFA zFB
         generalize hWX : World.setCell (World.setCell V11 _ _) _ _ = V12
         have nFB : V12.heap[w.heap.size + 1]? = some (.cells #[.string a.f0, .string a.f1] 24 (0, 0)) := by rw [← hWX]; have h_ := (blk_set1 (blk_set1 FB.out 0 (.string a.f0)) 1 (.string a.f1)); simpa using h_
         have nFA : V12.heap[w.heap.size]? = some (.cells #[.int .i64 y.f0, .string y.f1.f0, .string y.f1.f1, .slice A0 y.f2.length c0, .slice A1 y.f3.length c1] 28 (0, 0)) := by rw [← hWX]; exact (blk_far (blk_far FA.out (p := ⟨w.heap.size + 1, 0, none⟩) (by show w.heap.size ≠ w.heap.size + 1; omega) (.string a.f0)) (p := ⟨w.heap.size + 1, 1, none⟩) (by show w.heap.size ≠ w.heap.size + 1; omega) (.string a.f1))
         have nU0 : Kd.R kRcpt 55 V12 w1.heap.size (fun _ => True) (.slice A0 y.f2.length c0) y.f2 := by rw [← hWX]; exact R_other U0.out FB.out (by decide) ((grown_set1 _ _ _ _).trans (grown_set1 _ _ _ _))
         have nU1 : Kd.R Kd.string 9 V12 w1.heap.size (fun _ => True) (.slice A1 y.f3.length c1) y.f3 := by rw [← hWX]; exact R_other U1.out FB.out (by decide) ((grown_set1 _ _ _ _).trans (grown_set1 _ _ _ _))
         have nHBV : Below w.heap.size w V12 := by rw [← hWX]; (with_reducible repeat (first | exact HBV.out | refine bel_set ?_ _ ?_)); all_goals ((try dsimp only); omega)
         clear hWX FB FA U0 U1 HBV
         have FB := Aside0.mk nFB
         clear nFB
         have FA := Aside0.mk nFA
         clear nFA
         have U0 := Aside0.mk nU0
         clear nU0
         have U1 := Aside0.mk nU1
         clear nU1
         have HBV := Lib.hid nHBV
         clear nHBV
         have cFA_0 : V12.cell? ⟨w.heap.size, 0, none⟩ = some (.int .i64 y.f0) := clq FA.out 0 rfl
         have dFA_0 := fzq FA.out 0
         have cFA_1 : V12.cell? ⟨w.heap.size, 1, none⟩ = some (.string y.f1.f0) := clq FA.out 1 rfl
         have dFA_1 := fzq FA.out 1
         have cFA_2 : V12.cell? ⟨w.heap.size, 2, none⟩ = some (.string y.f1.f1) := clq FA.out 2 rfl
         have dFA_2 := fzq FA.out 2
         have cFA_3 : V12.cell? ⟨w.heap.size, 3, none⟩ = some (.slice A0 y.f2.length c0) := clq FA.out 3 rfl
         have dFA_3 := fzq FA.out 3
         have cFA_4 : V12.cell? ⟨w.heap.size, 4, none⟩ = some (.slice A1 y.f3.length c1) := clq FA.out 4 rfl
         have dFA_4 := fzq FA.out 4
         have zFA := blk_lt FA.out
         have cFB_0 : V12.cell? ⟨w.heap.size + 1, 0, none⟩ = some (.string a.f0) := clq FB.out 0 rfl
         have dFB_0 := fzq FB.out 0
         have cFB_1 : V12.cell? ⟨w.heap.size + 1, 1, none⟩ = some (.string a.f1) := clq FB.out 1 rfl
         have dFB_1 := fzq FB.out 1
         have zFB := blk_lt FB.out
         refine hK.out _ _ ?h512 (fun hHeld => ?j512)
         case h512 => exact trivial
         clear hK K
         try simp only [Act.put, List.setIfInBounds_toArray, List.set_cons_zero, List.set_cons_succ]
         refine wpAnyH_done (by kernel_rfl) ?_ _
         go_wp2
         refine bodyPost_ret (v := .tuple #[.agg #[.int .i64 y.f0, .string y.f1.f0, .string y.f1.f1, .slice A0 y.f2.length c0, .slice A1 y.f3.length c1], .agg #[.string a.f0, .string a.f1]]) ?hr rfl ?hp
         case hr => simp [results, Tryd.results6, go_sem, cFA_0, cFA_1, cFA_2, cFA_3, cFA_4, cFB_0, cFB_1]
         case hp => exact ⟨y, A0, c0, A1, c1, a, rfl, HWY.out, H10.out, Kd.R_lower U0.out HB.out.size, Kd.R_lower U1.out HB.out.size, HBV.out⟩
     case k505 =>
      go_simp
      refine Calls.mono (drAnyAddr_any g _ V6 HR.out (by omega)) ?_
      rintro e V10 ⟨a, rfl, hs10, hr_, hd_⟩
      clear cFA_0 cFA_1 cFA_2 cFA_3 cFA_4 dFA_0 dFA_1 dFA_2 dFA_3 dFA_4 cFB_0 cFB_1 dFB_0 dFB_1 cF1_0 cF1_1 dF1_0 dF1_1 zFA zFB zF1
      have H10 := Lib.hid hs10
      clear hs10
      replace FA := Aside0.mk (hd_.blk FA.out (by omega))
      replace FB := Aside0.mk (hd_.blk FB.out (by omega))
      replace F1 := Aside0.mk (hd_.blk F1.out (by omega))
      replace HQ := Aside0.mk (Dr.R hd_ HQ.out hgl)
      replace HR := Aside0.mk hr_
      replace HD := Aside0.mk (Dr.then_ HD.out hd_)
      have yV10 := HD.out.size
      clear hr_ hd_
      have cFA_0 : V10.cell? ⟨w.heap.size, 0, none⟩ = some (.int .i64 0) := clq FA.out 0 rfl
      have dFA_0 := fzq FA.out 0
      have cFA_1 : V10.cell? ⟨w.heap.size, 1, none⟩ = some (.string ⟨#[]⟩) := clq FA.out 1 rfl
      have dFA_1 := fzq FA.out 1
      have cFA_2 : V10.cell? ⟨w.heap.size, 2, none⟩ = some (.string ⟨#[]⟩) := clq FA.out 2 rfl
      have dFA_2 := fzq FA.out 2
      have cFA_3 : V10.cell? ⟨w.heap.size, 3, none⟩ = some (.slice none 0 0) := clq FA.out 3 rfl
      have dFA_3 := fzq FA.out 3
      have cFA_4 : V10.cell? ⟨w.heap.size, 4, none⟩ = some (.slice none 0 0) := clq FA.out 4 rfl
      have dFA_4 := fzq FA.out 4
      have zFA := blk_lt FA.out
      have cFB_0 : V10.cell? ⟨w.heap.size + 1, 0, none⟩ = some (.string ⟨#[]⟩) := clq FB.out 0 rfl
      have dFB_0 := fzq FB.out 0
      have cFB_1 : V10.cell? ⟨w.heap.size + 1, 1, none⟩ = some (.string ⟨#[]⟩) := clq FB.out 1 rfl
      have dFB_1 := fzq FB.out 1
      have zFB := blk_lt FB.out
      have cF1_0 : V10.cell? ⟨w2.heap.size, 0, none⟩ = some (.int .i64 la) := clq F1.out 0 rfl
      have dF1_0 := fzq F1.out 0
      have cF1_1 : V10.cell? ⟨w2.heap.size, 1, none⟩ = some (.slice (some ⟨gb, 0, none⟩) ys.length d) := clq F1.out 1 rfl
      have dF1_1 := fzq F1.out 1
      have zF1 := blk_lt F1.out
      refine hK.out _ _ ?h513 (fun hHeld => ?j513)
      case h513 => exact trivial
      clear hK K
      try simp only [Act.put, List.setIfInBounds_toArray, List.set_cons_zero, List.set_cons_succ]
      refine rdy (rs := [8]) ?_
      refine rc (fun K hK => ?k514) AllReadyH.nil
      case k514 =>
       obtain ⟨ci, hil, hiM, hic, hif⟩ := Kd.R_elem HQ.out zItem (k : Int) (by omega) (by omega)
       rw [Int.toNat_natCast] at hiM hic
       rw [HY.out] at hiM
       obtain ⟨v0, v1, rfl, u0, u1⟩ := kItem_openM hiM
       obtain ⟨A0, c0, hv0⟩ := Kd.R_slice u0
       obtain ⟨A1, c1, hv1⟩ := Kd.R_slice u1
       subst hv0
       subst hv1
       simp only [show kItem.sz = 5 from rfl] at hic
       have i0_ : V10.cell? ⟨gb, k * 5, none⟩ = some (.int .i64 y.f0) := hic 0 _ rfl
       have i1_ : V10.cell? ⟨gb, k * 5 + 1, none⟩ = some (.string y.f1.f0) := hic 1 _ rfl
       have i2_ : V10.cell? ⟨gb, k * 5 + 2, none⟩ = some (.string y.f1.f1) := hic 2 _ rfl
       have i3_ : V10.cell? ⟨gb, k * 5 + 3, none⟩ = some (.slice A0 y.f2.length c0) := hic 3 _ rfl
       have i4_ : V10.cell? ⟨gb, k * 5 + 4, none⟩ = some (.slice A1 y.f3.length c1) := hic 4 _ rfl
       have U0 := Aside0.mk (Kd.R_mono u0 (fun _ _ => trivial) : Kd.R kRcpt 55 V10 w1.heap.size (fun _ => True) (.slice A0 y.f2.length c0) y.f2)
       have U1 := Aside0.mk (Kd.R_mono u1 (fun _ _ => trivial) : Kd.R Kd.string 9 V10 w1.heap.size (fun _ => True) (.slice A1 y.f3.length c1) y.f3)
       clear u0 u1 hic hif hiM hil
       go_simp
       refine hK.out _ _ ?h515 (fun hHeld => ?j515)
       case h515 => exact hHeld
       clear hK K
       try simp only [Act.put, List.setIfInBounds_toArray, List.set_cons_zero, List.set_cons_succ]
       clear i0_ i1_ i2_ i3_ i4_ HQ
       refine rdy (rs := [11]) ?_
       refine rc (fun K hK => ?k516) AllReadyH.nil
       case k516 =>
        go_simp
        clear cF1_0 cF1_1 dF1_0 dF1_1 zF1
        clear F1
        clear cFA_0 cFA_1 cFA_2 cFA_3 cFA_4 dFA_0 dFA_1 dFA_2 dFA_3 dFA_4 cFB_0 cFB_1 dFB_0 dFB_1 zFA zFB
        generalize hWX : World.setCell (World.setCell (World.setCell (World.setCell (World.setCell V10 _ _) _ _) _ _) _ _) _ _ = V11
        have nFA : V11.heap[w.heap.size]? = some (.cells #[.int .i64 y.f0, .string y.f1.f0, .string y.f1.f1, .slice A0 y.f2.length c0, .slice A1 y.f3.length c1] 28 (0, 0)) := by rw [← hWX]; have h_ := (blk_set1 (blk_set1 (blk_set1 (blk_set1 (blk_set1 FA.out 0 (.int .i64 y.f0)) 1 (.string y.f1.f0)) 2 (.string y.f1.f1)) 3 (.slice A0 y.f2.length c0)) 4 (.slice A1 y.f3.length c1)); simpa using h_
        have nFB : V11.heap[w.heap.size + 1]? = some (.cells #[.string ⟨#[]⟩, .string ⟨#[]⟩] 24 (0, 0)) := by rw [← hWX]; exact (blk_far (blk_far (blk_far (blk_far (blk_far FB.out (p := ⟨w.heap.size, 0, none⟩) (by show w.heap.size + 1 ≠ w.heap.size; omega) (.int .i64 y.f0)) (p := ⟨w.heap.size, 1, none⟩) (by show w.heap.size + 1 ≠ w.heap.size; omega) (.string y.f1.f0)) (p := ⟨w.heap.size, 2, none⟩) (by show w.heap.size + 1 ≠ w.heap.size; omega) (.string y.f1.f1)) (p := ⟨w.heap.size, 3, none⟩) (by show w.heap.size + 1 ≠ w.heap.size; omega) (.slice A0 y.f2.length c0)) (p := ⟨w.heap.size, 4, none⟩) (by show w.heap.size + 1 ≠ w.heap.size; omega) (.slice A1 y.f3.length c1))
        have nU0 : Kd.R kRcpt 55 V11 w1.heap.size (fun _ => True) (.slice A0 y.f2.length c0) y.f2 := by rw [← hWX]; exact R_other U0.out FA.out (by decide) (((((grown_set1 _ _ _ _).trans (grown_set1 _ _ _ _)).trans (grown_set1 _ _ _ _)).trans (grown_set1 _ _ _ _)).trans (grown_set1 _ _ _ _))
        have nU1 : Kd.R Kd.string 9 V11 w1.heap.size (fun _ => True) (.slice A1 y.f3.length c1) y.f3 := by rw [← hWX]; exact R_other U1.out FA.out (by decide) (((((grown_set1 _ _ _ _).trans (grown_set1 _ _ _ _)).trans (grown_set1 _ _ _ _)).trans (grown_set1 _ _ _ _)).trans (grown_set1 _ _ _ _))
        have nHBV : Below w.heap.size w V11 := by rw [← hWX]; (with_reducible repeat (first | exact HB.out.trans (HD.out.bel (by omega) HB.out.size) | refine bel_set ?_ _ ?_)); all_goals ((try dsimp only); omega)
        clear hWX FA FB U0 U1 HR HD
        have FA := Aside0.mk nFA
        clear nFA
        have FB := Aside0.mk nFB
        clear nFB
        have U0 := Aside0.mk nU0
        clear nU0
        have U1 := Aside0.mk nU1
        clear nU1
        have HBV := Lib.hid nHBV
        clear nHBV
        have cFA_0 : V11.cell? ⟨w.heap.size, 0, none⟩ = some (.int .i64 y.f0) := clq FA.out 0 rfl
        have dFA_0 := fzq FA.out 0
        have cFA_1 : V11.cell? ⟨w.heap.size, 1, none⟩ = some (.string y.f1.f0) := clq FA.out 1 rfl
        have dFA_1 := fzq FA.out 1
        have cFA_2 : V11.cell? ⟨w.heap.size, 2, none⟩ = some (.string y.f1.f1) := clq FA.out 2 rfl
        have dFA_2 := fzq FA.out 2
        have cFA_3 : V11.cell? ⟨w.heap.size, 3, none⟩ = some (.slice A0 y.f2.length c0) := clq FA.out 3 rfl
        have dFA_3 := fzq FA.out 3
        have cFA_4 : V11.cell? ⟨w.heap.size, 4, none⟩ = some (.slice A1 y.f3.length c1) := clq FA.out 4 rfl
        have dFA_4 := fzq FA.out 4
        have zFA := blk_lt FA.out
        have cFB_0 : V11.cell? ⟨w.heap.size + 1, 0, none⟩ = some (.string ⟨#[]⟩) := clq FB.out 0 rfl
        have dFB_0 := fzq FB.out 0
        have cFB_1 : V11.cell? ⟨w.heap.size + 1, 1, none⟩ = some (.string ⟨#[]⟩) := clq FB.out 1 rfl
        have dFB_1 := fzq FB.out 1
        have zFB := blk_lt FB.out
        refine hK.out _ _ ?h517 (fun hHeld => ?j517)
        case h517 => exact trivial
        clear hK K
        try simp only [Act.put, List.setIfInBounds_toArray, List.set_cons_zero, List.set_cons_succ]
        refine rdy (rs := [12]) ?_
        refine rc (fun K hK => ?k518) AllReadyH.nil
        case k518 =>
         go_simp
         clear cFA_0 cFA_1 cFA_2 cFA_3 cFA_4 dFA_0 dFA_1 dFA_2 dFA_3 dFA_4 cFB_0 cFB_1 dFB_0 dFB_1 zFA zFB
         generalize hWX : World.setCell (World.setCell V11 _ _) _ _ = V12
         have nFB : V12.heap[w.heap.size + 1]? = some (.cells #[.string a.f0, .string a.f1] 24 (0, 0)) := by rw [← hWX]; have h_ := (blk_set1 (blk_set1 FB.out 0 (.string a.f0)) 1 (.string a.f1)); simpa using h_
         have nFA : V12.heap[w.heap.size]? = some (.cells #[.int .i64 y.f0, .string y.f1.f0, .string y.f1.f1, .slice A0 y.f2.length c0, .slice A1 y.f3.length c1] 28 (0, 0)) := by rw [← hWX]; exact (blk_far (blk_far FA.out (p := ⟨w.heap.size + 1, 0, none⟩) (by show w.heap.size ≠ w.heap.size + 1; omega) (.string a.f0)) (p := ⟨w.heap.size + 1, 1, none⟩) (by show w.heap.size ≠ w.heap.size + 1; omega) (.string a.f1))
         have nU0 : Kd.R kRcpt 55 V12 w1.heap.size (fun _ => True) (.slice A0 y.f2.length c0) y.f2 := by rw [← hWX]; exact R_other U0.out FB.out (by decide) ((grown_set1 _ _ _ _).trans (grown_set1 _ _ _ _))
         have nU1 : Kd.R Kd.string 9 V12 w1.heap.size (fun _ => True) (.slice A1 y.f3.length c1) y.f3 := by rw [← hWX]; exact R_other U1.out FB.out (by decide) ((grown_set1 _ _ _ _).trans (grown_set1 _ _ _ _))
         have nHBV : Below w.heap.size w V12 := by rw [← hWX]; (with_reducible repeat (first | exact HBV.out | refine bel_set ?_ _ ?_)); all_goals ((try dsimp only); omega)
         clear hWX FB FA U0 U1 HBV
         have FB := Aside0.mk nFB
         clear nFB
         have FA := Aside0.mk nFA
         clear nFA
         have U0 := Aside0.mk nU0
         clear nU0
         have U1 := Aside0.mk nU1
         clear nU1
         have HBV := Lib.hid nHBV
         clear nHBV
         have cFA_0 : V12.cell? ⟨w.heap.size, 0, none⟩ = some (.int .i64 y.f0) := clq FA.out 0 rfl
         have dFA_0 := fzq FA.out 0
         have cFA_1 : V12.cell? ⟨w.heap.size, 1, none⟩ = some (.string y.f1.f0) := clq FA.out 1 rfl
         have dFA_1 := fzq FA.out 1
         have cFA_2 : V12.cell? ⟨w.heap.size, 2, none⟩ = some (.string y.f1.f1) := clq FA.out 2 rfl
         have dFA_2 := fzq FA.out 2
         have cFA_3 : V12.cell? ⟨w.heap.size, 3, none⟩ = some (.slice A0 y.f2.length c0) := clq FA.out 3 rfl
         have dFA_3 := fzq FA.out 3
         have cFA_4 : V12.cell? ⟨w.heap.size, 4, none⟩ = some (.slice A1 y.f3.length c1) := clq FA.out 4 rfl
         have dFA_4 := fzq FA.out 4
         have zFA := blk_lt FA.out
         have cFB_0 : V12.cell? ⟨w.heap.size + 1, 0, none⟩ = some (.string a.f0) := clq FB.out 0 rfl
         have dFB_0 := fzq FB.out 0
         have cFB_1 : V12.cell? ⟨w.heap.size + 1, 1, none⟩ = some (.string a.f1) := clq FB.out 1 rfl
         have dFB_1 := fzq FB.out 1
         have zFB := blk_lt FB.out
         refine hK.out _ _ ?h519 (fun hHeld => ?j519)
         case h519 => exact trivial
         clear hK K
         try simp only [Act.put, List.setIfInBounds_toArray, List.set_cons_zero, List.set_cons_succ]
         refine wpAnyH_done (by kernel_rfl) ?_ _
         go_wp2
         refine bodyPost_ret (v := .tuple #[.agg #[.int .i64 y.f0, .string y.f1.f0, .string y.f1.f1, .slice A0 y.f2.length c0, .slice A1 y.f3.length c1], .agg #[.string a.f0, .string a.f1]]) ?hr rfl ?hp
         case hr => simp [results, Tryd.results6, go_sem, cFA_0, cFA_1, cFA_2, cFA_3, cFA_4, cFB_0, cFB_1]
         case hp => exact ⟨y, A0, c0, A1, c1, a, rfl, HWY.out, H10.out, Kd.R_lower U0.out HB.out.size, Kd.R_lower U1.out HB.out.size, HBV.out⟩
    case k501 =>
     go_simp
     refine Calls.mono (drAnyAddr_any g _ V6 HR.out (by omega)) ?_
     rintro e V10 ⟨a, rfl, hs10, hr_, hd_⟩
     clear cFA_0 cFA_1 cFA_2 cFA_3 cFA_4 dFA_0 dFA_1 dFA_2 dFA_3 dFA_4 cFB_0 cFB_1 dFB_0 dFB_1 cF1_0 cF1_1 dF1_0 dF1_1 zFA zFB zF1
     have H10 := Lib.hid hs10
     clear hs10
     replace FA := Aside0.mk (hd_.blk FA.out (by omega))
     replace FB := Aside0.mk (hd_.blk FB.out (by omega))
     replace F1 := Aside0.mk (hd_.blk F1.out (by omega))
     replace HQ := Aside0.mk (Dr.R hd_ HQ.out hgl)
     replace HR := Aside0.mk hr_
     replace HD := Aside0.mk (Dr.then_ HD.out hd_)
     have yV10 := HD.out.size
     clear hr_ hd_
     have cFA_0 : V10.cell? ⟨w.heap.size, 0, none⟩ = some (.int .i64 0) := clq FA.out 0 rfl
     have dFA_0 := fzq FA.out 0
     have cFA_1 : V10.cell? ⟨w.heap.size, 1, none⟩ = some (.string ⟨#[]⟩) := clq FA.out 1 rfl
     have dFA_1 := fzq FA.out 1
     have cFA_2 : V10.cell? ⟨w.heap.size, 2, none⟩ = some (.string ⟨#[]⟩) := clq FA.out 2 rfl
     have dFA_2 := fzq FA.out 2
     have cFA_3 : V10.cell? ⟨w.heap.size, 3, none⟩ = some (.slice none 0 0) := clq FA.out 3 rfl
     have dFA_3 := fzq FA.out 3
     have cFA_4 : V10.cell? ⟨w.heap.size, 4, none⟩ = some (.slice none 0 0) := clq FA.out 4 rfl
     have dFA_4 := fzq FA.out 4
     have zFA := blk_lt FA.out
     have cFB_0 : V10.cell? ⟨w.heap.size + 1, 0, none⟩ = some (.string ⟨#[]⟩) := clq FB.out 0 rfl
     have dFB_0 := fzq FB.out 0
     have cFB_1 : V10.cell? ⟨w.heap.size + 1, 1, none⟩ = some (.string ⟨#[]⟩) := clq FB.out 1 rfl
     have dFB_1 := fzq FB.out 1
     have zFB := blk_lt FB.out
     have cF1_0 : V10.cell? ⟨w2.heap.size, 0, none⟩ = some (.int .i64 la) := clq F1.out 0 rfl
     have dF1_0 := fzq F1.out 0
     have cF1_1 : V10.cell? ⟨w2.heap.size, 1, none⟩ = some (.slice (some ⟨gb, 0, none⟩) ys.length d) := clq F1.out 1 rfl
     have dF1_1 := fzq F1.out 1
     have zF1 := blk_lt F1.out
     refine hK.out _ _ ?h520 (fun hHeld => ?j520)
     case h520 => exact trivial
     clear hK K
     try simp only [Act.put, List.setIfInBounds_toArray, List.set_cons_zero, List.set_cons_succ]
     refine rdy (rs := [1]) ?_
     refine rc (fun K hK => ?k521) AllReadyH.nil
     case k521 =>
      go_simp
      refine hK.out _ _ ?h522 (fun hHeld => ?j522)
      case h522 => exact hHeld
      clear hK K
      try simp only [Act.put, List.setIfInBounds_toArray, List.set_cons_zero, List.set_cons_succ]
      refine tk 7 ?v523 ?y523 ?r523
      case y523 => intro w_ hSw; (try dsimp only at hSw); go_simp; (try (with_reducible rfl))
      try simp only [Act.put, List.setIfInBounds_toArray, List.set_cons_zero, List.set_cons_succ]
      refine rdy (rs := [8]) ?_
      refine rc (fun K hK => ?k524) AllReadyH.nil
      case k524 =>
       obtain ⟨ci, hil, hiM, hic, hif⟩ := Kd.R_elem HQ.out zItem (k : Int) (by omega) (by omega)
       rw [Int.toNat_natCast] at hiM hic
       rw [HY.out] at hiM
       obtain ⟨v0, v1, rfl, u0, u1⟩ := kItem_openM hiM
       obtain ⟨A0, c0, hv0⟩ := Kd.R_slice u0
       obtain ⟨A1, c1, hv1⟩ := Kd.R_slice u1
       subst hv0
       subst hv1
       simp only [show kItem.sz = 5 from rfl] at hic
       have i0_ : V10.cell? ⟨gb, k * 5, none⟩ = some (.int .i64 y.f0) := hic 0 _ rfl
       have i1_ : V10.cell? ⟨gb, k * 5 + 1, none⟩ = some (.string y.f1.f0) := hic 1 _ rfl
       have i2_ : V10.cell? ⟨gb, k * 5 + 2, none⟩ = some (.string y.f1.f1) := hic 2 _ rfl
       have i3_ : V10.cell? ⟨gb, k * 5 + 3, none⟩ = some (.slice A0 y.f2.length c0) := hic 3 _ rfl
       have i4_ : V10.cell? ⟨gb, k * 5 + 4, none⟩ = some (.slice A1 y.f3.length c1) := hic 4 _ rfl
       have U0 := Aside0.mk (Kd.R_mono u0 (fun _ _ => trivial) : Kd.R kRcpt 55 V10 w1.heap.size (fun _ => True) (.slice A0 y.f2.length c0) y.f2)
       have U1 := Aside0.mk (Kd.R_mono u1 (fun _ _ => trivial) : Kd.R Kd.string 9 V10 w1.heap.size (fun _ => True) (.slice A1 y.f3.length c1) y.f3)
       clear u0 u1 hic hif hiM hil
       go_simp
       refine hK.out _ _ ?h525 (fun hHeld => ?j525)
       case h525 => exact hHeld
       clear hK K
       try simp only [Act.put, List.setIfInBounds_toArray, List.set_cons_zero, List.set_cons_succ]
       clear i0_ i1_ i2_ i3_ i4_ HQ
       refine rdy (rs := [11]) ?_
       refine rc (fun K hK => ?k526) AllReadyH.nil
       case k526 =>
        go_simp
        clear cF1_0 cF1_1 dF1_0 dF1_1 zF1
        clear F1
        clear cFA_0 cFA_1 cFA_2 cFA_3 cFA_4 dFA_0 dFA_1 dFA_2 dFA_3 dFA_4 cFB_0 cFB_1 dFB_0 dFB_1 zFA zFB
        generalize hWX : World.setCell (World.setCell (World.setCell (World.setCell (World.setCell V10 _ _) _ _) _ _) _ _) _ _ = V11
        have nFA : V11.heap[w.heap.size]? = some (.cells #[.int .i64 y.f0, .string y.f1.f0, .string y.f1.f1, .slice A0 y.f2.length c0, .slice A1 y.f3.length c1] 28 (0, 0)) := by rw [← hWX]; have h_ := (blk_set1 (blk_set1 (blk_set1 (blk_set1 (blk_set1 FA.out 0 (.int .i64 y.f0)) 1 (.string y.f1.f0)) 2 (.string y.f1.f1)) 3 (.slice A0 y.f2.length c0)) 4 (.slice A1 y.f3.length c1)); simpa using h_
        have nFB : V11.heap[w.heap.size + 1]? = some (.cells #[.string ⟨#[]⟩, .string ⟨#[]⟩] 24 (0, 0)) := by rw [← hWX]; exact (blk_far (blk_far (blk_far (blk_far (blk_far FB.out (p := ⟨w.heap.size, 0, none⟩) (by show w.heap.size + 1 ≠ w.heap.size; omega) (.int .i64 y.f0)) (p := ⟨w.heap.size, 1, none⟩) (by show w.heap.size + 1 ≠ w.heap.size; omega) (.string y.f1.f0)) (p := ⟨w.heap.size, 2, none⟩) (by show w.heap.size + 1 ≠ w.heap.size; omega) (.string y.f1.f1)) (p := ⟨w.heap.size, 3, none⟩) (by show w.heap.size + 1 ≠ w.heap.size; omega) (.slice A0 y.f2.length c0)) (p := ⟨w.heap.size, 4, none⟩) (by show w.heap.size + 1 ≠ w.heap.size; omega) (.slice A1 y.f3.length c1))
        have nU0 : Kd.R kRcpt 55 V11 w1.heap.size (fun _ => True) (.slice A0 y.f2.length c0) y.f2 := by rw [← hWX]; exact R_other U0.out FA.out (by decide) (((((grown_set1 _ _ _ _).trans (grown_set1 _ _ _ _)).trans (grown_set1 _ _ _ _)).trans (grown_set1 _ _ _ _)).trans (grown_set1 _ _ _ _))
        have nU1 : Kd.R Kd.string 9 V11 w1.heap.size (fun _ => True) (.slice A1 y.f3.length c1) y.f3 := by rw [← hWX]; exact R_other U1.out FA.out (by decide) (((((grown_set1 _ _ _ _).trans (grown_set1 _ _ _ _)).trans (grown_set1 _ _ _ _)).trans (grown_set1 _ _ _ _)).trans (grown_set1 _ _ _ _))
        have nHBV : Below w.heap.size w V11 := by rw [← hWX]; (with_reducible repeat (first | exact HB.out.trans (HD.out.bel (by omega) HB.out.size) | refine bel_set ?_ _ ?_)); all_goals ((try dsimp only); omega)
        clear hWX FA FB U0 U1 HR HD
        have FA := Aside0.mk nFA
        clear nFA
        have FB := Aside0.mk nFB
        clear nFB
        have U0 := Aside0.mk nU0
        clear nU0
        have U1 := Aside0.mk nU1
        clear nU1
        have HBV := Lib.hid nHBV
        clear nHBV
        have cFA_0 : V11.cell? ⟨w.heap.size, 0, none⟩ = some (.int .i64 y.f0) := clq FA.out 0 rfl
        have dFA_0 := fzq FA.out 0
        have cFA_1 : V11.cell? ⟨w.heap.size, 1, none⟩ = some (.string y.f1.f0) := clq FA.out 1 rfl
        have dFA_1 := fzq FA.out 1
        have cFA_2 : V11.cell? ⟨w.heap.size, 2, none⟩ = some (.string y.f1.f1) := clq FA.out 2 rfl
        have dFA_2 := fzq FA.out 2
        have cFA_3 : V11.cell? ⟨w.heap.size, 3, none⟩ = some (.slice A0 y.f2.length c0) := clq FA.out 3 rfl
        have dFA_3 := fzq FA.out 3
        have cFA_4 : V11.cell? ⟨w.heap.size, 4, none⟩ = some (.slice A1 y.f3.length c1) := clq FA.out 4 rfl
        have dFA_4 := fzq FA.out 4
        have zFA := blk_lt FA.out
        have cFB_0 : V11.cell? ⟨w.heap.size + 1, 0, none⟩ = some (.string ⟨#[]⟩) := clq FB.out 0 rfl
        have dFB_0 := fzq FB.out 0
        have cFB_1 : V11.cell? ⟨w.heap.size + 1, 1, none⟩ = some (.string ⟨#[]⟩) := clq FB.out 1 rfl
        have dFB_1 := fzq FB.out 1
        have zFB := blk_lt FB.out
        refine hK.out _ _ ?h527 (fun hHeld => ?j527)
        case h527 => exact trivial
        clear hK K
        try simp only [Act.put, List.setIfInBounds_toArray, List.set_cons_zero, List.set_cons_succ]
        refine rdy (rs := [12]) ?_
        refine rc (fun K hK => ?k528) AllReadyH.nil
        case k528 =>
         go_simp
         clear cFA_0 cFA_1 cFA_2 cFA_3 cFA_4 dFA_0 dFA_1 dFA_2 dFA_3 dFA_4 cFB_0 cFB_1 dFB_0 dFB_1 zFA zFB
         generalize hWX : World.setCell (World.setCell V11 _ _) _ _ = V12
         have nFB : V12.heap[w.heap.size + 1]? = some (.cells #[.string a.f0, .string a.f1] 24 (0, 0)) := by rw [← hWX]; have h_ := (blk_set1 (blk_set1 FB.out 0 (.string a.f0)) 1 (.string a.f1)); simpa using h_
         have nFA : V12.heap[w.heap.size]? = some (.cells #[.int .i64 y.f0, .string y.f1.f0, .string y.f1.f1, .slice A0 y.f2.length c0, .slice A1 y.f3.length c1] 28 (0, 0)) := by rw [← hWX]; exact (blk_far (blk_far FA.out (p := ⟨w.heap.size + 1, 0, none⟩) (by show w.heap.size ≠ w.heap.size + 1; omega) (.string a.f0)) (p := ⟨w.heap.size + 1, 1, none⟩) (by show w.heap.size ≠ w.heap.size + 1; omega) (.string a.f1))
         have nU0 : Kd.R kRcpt 55 V12 w1.heap.size (fun _ => True) (.slice A0 y.f2.length c0) y.f2 := by rw [← hWX]; exact R_other U0.out FB.out (by decide) ((grown_set1 _ _ _ _).trans (grown_set1 _ _ _ _))
         have nU1 : Kd.R Kd.string 9 V12 w1.heap.size (fun _ => True) (.slice A1 y.f3.length c1) y.f3 := by rw [← hWX]; exact R_other U1.out FB.out (by decide) ((grown_set1 _ _ _ _).trans (grown_set1 _ _ _ _))
         have nHBV : Below w.heap.size w V12 := by rw [← hWX]; (with_reducible repeat (first | exact HBV.out | refine bel_set ?_ _ ?_)); all_goals ((try dsimp only); omega)
         clear hWX FB FA U0 U1 HBV
         have FB := Aside0.mk nFB
         clear nFB
         have FA := Aside0.mk nFA
         clear nFA
         have U0 := Aside0.mk nU0
         clear nU0
         have U1 := Aside0.mk nU1
         clear nU1
         have HBV := Lib.hid nHBV
         clear nHBV
         have cFA_0 : V12.cell? ⟨w.heap.size, 0, none⟩ = some (.int .i64 y.f0) := clq FA.out 0 rfl
         have dFA_0 := fzq FA.out 0
         have cFA_1 : V12.cell? ⟨w.heap.size, 1, none⟩ = some (.string y.f1.f0) := clq FA.out 1 rfl
         have dFA_1 := fzq FA.out 1
         have cFA_2 : V12.cell? ⟨w.heap.size, 2, none⟩ = some (.string y.f1.f1) := clq FA.out 2 rfl
         have dFA_2 := fzq FA.out 2
         have cFA_3 : V12.cell? ⟨w.heap.size, 3, none⟩ = some (.slice A0 y.f2.length c0) := clq FA.out 3 rfl
         have dFA_3 := fzq FA.out 3
         have cFA_4 : V12.cell? ⟨w.heap.size, 4, none⟩ = some (.slice A1 y.f3.length c1) := clq FA.out 4 rfl
         have dFA_4 := fzq FA.out 4
         have zFA := blk_lt FA.out
         have cFB_0 : V12.cell? ⟨w.heap.size + 1, 0, none⟩ = some (.string a.f0) := clq FB.out 0 rfl
         have dFB_0 := fzq FB.out 0
         have cFB_1 : V12.cell? ⟨w.heap.size + 1, 1, none⟩ = some (.string a.f1) := clq FB.out 1 rfl
         have dFB_1 := fzq FB.out 1
         have zFB := blk_lt FB.out
         refine hK.out _ _ ?h529 (fun hHeld => ?j529)
         case h529 => exact trivial
         clear hK K
         try simp only [Act.put, List.setIfInBounds_toArray, List.set_cons_zero, List.set_cons_succ]
         refine wpAnyH_done (by kernel_rfl) ?_ _
         go_wp2
         refine bodyPost_ret (v := .tuple #[.agg #[.int .i64 y.f0, .string y.f1.f0, .string y.f1.f1, .slice A0 y.f2.length c0, .slice A1 y.f3.length c1], .agg #[.string a.f0, .string a.f1]]) ?hr rfl ?hp
         case hr => simp [results, Tryd.results6, go_sem, cFA_0, cFA_1, cFA_2, cFA_3, cFA_4, cFB_0, cFB_1]
         case hp => exact ⟨y, A0, c0, A1, c1, a, rfl, HWY.out, H10.out, Kd.R_lower U0.out HB.out.size, Kd.R_lower U1.out HB.out.size, HBV.out⟩

end Go.Proofs.YtiaibgkpohmihaaDoor
