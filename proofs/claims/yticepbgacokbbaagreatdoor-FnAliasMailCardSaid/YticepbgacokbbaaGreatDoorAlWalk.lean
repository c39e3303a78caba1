/- All that addresses lead to: the program's walk through the graph, a recursion that marks what it has seen: a contract. -/
import Derived.Test.YticepbgacokbbaaGreatDoorAMap
import Derived.Test.YticepbgacokbbaaGreatDoorBlk
import Derived.Test.YticepbgacokbbaaGreatDoorAlSrt
import Derived.Test.YticepbgacokbbaaGreatDoorAliasI
import Derived.Test.YticepbgacokbbaaGreatDoorReg
import Derived.Test.YticepbgacokbbaaGreatDoorSeqK
import Derived.Deep.RegionHeld3
namespace Go.Proofs.YticepbgacokbbaaGreatDoor
open Go Go.RowKit Go.Maps Go.WideMaps Go.Proofs.YticepbgacokbbaaGreatDoorW.PrintWords
set_option linter.unusedVariables false
set_option linter.unusedSimpArgs false

theorem tos_len {xs : List SAlias} (h : ∀ x ∈ xs, x.f1.length ≤ 1048576) (a : SAddr) : (tos xs a).length ≤ 1048576 := by
 unfold tos
 cases hf : xs.find? (fun x => decide (x.f0 = a)) with
 | none => exact Nat.zero_le _
 | some x => exact h x (List.mem_of_find?_eq_some hf)
theorem take_nextA {fr : List SAddr} {k : Nat} (h : k < fr.length) : fr.take (k + 1) = fr.take k ++ [fr.getD k zAddr] := by
 rw [List.take_succ_eq_append_getElem h, List.getD, List.getElem?_eq_getElem h]; rfl
set_option maxRecDepth 100000 in
set_option maxHeartbeats 4000000 in
theorem lead_any (xs : List SAlias) (U : List SAddr) (w0 : World) (bg n0 : Nat) (Dg : DataW Value) (hown : w0.ownsMap Tryz.prog 25 grR bg n0 Dg) (hG : GraphIs Dg xs w0) (hU : ∀ b ∈ xs.flatMap (·.f1), b ∈ U) (hUf : ∀ b ∈ U, LFit b) (hUl : U.length ≤ 16777216) (hT : ∀ a, (tos xs a).length ≤ 1048576) (bs : Nat) (hbs : w0.heap.size ≤ bs) : ∀ (N : Nat) (S fr : List SAddr) (n : Nat) (D : DataW Unit) (A : Option Addr) (c : Nat) (w : World), away U S ≤ N → n + away U S ≤ 16777216 → Below w0.heap.size w0 w → w.ownsMap Tryz.prog 25 (plainElem (H := Unit) Tryz.prog 4) bs n D → SetIs D S → Kd.C kAddr w0 A fr.length fr → fr.length ≤ 1048576 → (∀ a ∈ fr, a ∈ U) →
  Calls Tryz.prog 65 #[.map (some bg), .map (some bs), .slice A fr.length c] w fun e w' => e = .returned (.map (some bs)) ∧ ∃ (T : List SAddr) (m : Nat) (E : DataW Unit), w'.ownsMap Tryz.prog 25 (plainElem (H := Unit) Tryz.prog 4) bs m E ∧ SetIs E T ∧ Led xs S fr T ∧ m + away U T ≤ n + away U S ∧ w.grownBy w' (some bs) := by
 intro N
 induction N using Nat.strongRecOn with
 | ind N ih =>
 intro S fr n D A c w hN hroom HB0 hseen hset hfr hlen hin
 have HBB := Aside0.mk HB0
 have HOW := Aside0.mk hown
 have HGG := Lib.hid hG
 have HU := Lib.hid hU
 have HUF := Lib.hid hUf
 have HIN := Lib.hid hin
 have HFR := Aside0.mk hfr
 have HTT := Lib.hid hT
 have HSE := Aside0.mk hseen
 have HST := Lib.hid hset
 have IH := Lib.hid ih
 clear HB0 hown hG hU hUf hin hfr hT hseen hset ih
 go_enter Tryz.func65, Tryz.ntmps65
 go_wp2
 go_loopg [8, 11] (fr.length) (fun g _ v11 wr => ∃ (k : Nat) (T : List SAddr) (m : Nat) (E : DataW Unit), k ≤ fr.length ∧ fr.length - k ≤ g ∧ v11 = .int .i64 k ∧ Aside0 (w.grownBy wr (some bs)) ∧ Aside0 (wr.ownsMap Tryz.prog 25 (plainElem (H := Unit) Tryz.prog 4) bs m E) ∧ Hid (SetIs E T) ∧ Hid (Led xs S (fr.take k) T) ∧ m + away U T ≤ n + away U S)
 case atStart => exact ⟨0, S, n, D, Nat.zero_le _, by omega, rfl, ⟨World.grownBy.refl _ _⟩, HSE, HST, Lib.hid (Led.nil _ _), Nat.le_refl _⟩
 case round =>
  clear HSE HST
  obtain ⟨k, T, m, E, hk, hg, rfl, GW, HS, HT, HL, hrm⟩ := hrel
  have BW := Aside0.mk (HBB.out.grown GW.out HBB.out.size (fun q hq => by cases hq; exact hbs))
  have hbl := HS.out.lt
  by_cases hlt : k < fr.length
  ·have hlt' : (k : Int) < (fr.length : Int) := by omega
   obtain ⟨ad, e1, h0, h1⟩ := at_Addr (Kd.C_below HFR.out BW.out) k hlt
   subst e1
   have hyU := HIN.out (fr.getD k zAddr) (getD_mem _ _ hlt)
   have hnx := take_nextA hlt
   generalize fr.getD k zAddr = y at h0 h1 hyU hnx
   have HY := Lib.hid (HUF.out y hyU)
   have HYU := Lib.hid hyU
   have HN := Lib.hid hnx
   clear hnx hyU
   by_cases hm : y ∈ T
   ·have HM := Lib.hid hm
    have hmd := decide_eq_true hm
    clear hm
    go_wp2_with (first | (at_lookup; (refine wpList_lookup_set (by rfl) _ _ 92 rfl 4 Tryz.underlying92 Tryz.underlying4 (by intros; rfl) bs m _ rfl (HS.out.alloc _) HT.out y true hmd rfl HY.out ?_)))
    go_roundg (fr.length - (k + 1))
    case measure => omega
    case rel => exact ⟨k + 1, T, m, E, by omega, Nat.le_refl _, by go_num, ⟨GW.out.trans (World.grownBy_alloc _ _ _)⟩, ⟨HS.out.alloc _⟩, HT, Lib.hid (by rw [HN.out]; exact HL.out.seen HM.out), hrm⟩
   ·have hmd := decide_eq_false hm
    have haw := away_put HYU.out hm
    have hso : away U T ≤ away U S := away_more HL.out.old
    have HM := Lib.hid hm
    have HAW := Lib.hid (show away U (T ++ [y]) < N by omega)
    have HRM := Lib.hid (show m + 1 + away U (T ++ [y]) ≤ n + away U S by omega)
    clear hm haw hso
    go_wp2_with (first | (at_lookup; (refine wpList_lookup_set (by rfl) _ _ 92 rfl 4 Tryz.underlying92 Tryz.underlying4 (by intros; rfl) bs m _ rfl (HS.out.alloc _) HT.out y false hmd rfl HY.out ?_)) | (at_mapUpdate; (refine wpList_mapUpdate_own _ rfl _ _ _ 92 rfl 25 4 addr_law Tryz.underlying92 (plainElem (H := Unit) Tryz.prog 4) bs m _ rfl (HS.out.alloc _) (by unfold maxLen; omega) _ _ _ rfl rfl (lkey_is y HY.out) _ [] (plainElem_bool Tryz.underlying4 true) ?_; intro w1 hown1 hgrow1; have F1 : w1.heap[wr.heap.size]? = some (.cells #[.string y.f0, .string y.f1] 25 (0, 0)) := (hgrow1.block _ (by simp) (fun e => by have e := Option.some.inj e; omega)).trans (blk_new _ _); have c0_ : w1.cell? ⟨wr.heap.size, 0, none⟩ = some (.string y.f0) := (by simp [World.cell?, F1]); have c1_ : w1.cell? ⟨wr.heap.size, 1, none⟩ = some (.string y.f1) := (by simp [World.cell?, F1]); have B1 := Aside0.mk ((bel_alloc BW.out _).grown hgrow1 (bel_alloc BW.out _).size (fun q hq => by cases hq; exact hbs)); have GW1 := Aside0.mk ((GW.out.trans (World.grownBy_alloc _ _ _)).trans hgrow1); have HO1 := Aside0.mk hown1; clear hown1 hgrow1 F1)) | (at_lookup; (refine wpList_lookup_graph (by rfl) _ _ 61 rfl 26 Tryz.underlying61 (by intros; rfl) bg n0 Dg rfl (HOW.out.kept (grown_of_below B1.out none) (by simp)) HGG.out y rfl HY.out ?_); intro A2 c2 hl2 hr2) | (go_at_call 65; (refine Calls.mono (IH.out (away U (T ++ [y])) HAW.out (T ++ [y]) (tos xs y) (m + 1) _ A2 c2 _ (Nat.le_refl _) (Nat.le_trans HRM.out hroom) B1.out HO1.out (setIs_put HT.out HS.out.isMap HY.out) hr2 (HTT.out y) (fun b hb => HU.out b (tos_univ hb))) ?_); rintro e w2 ⟨rfl, T2, m2, E2, own2, set2, led2, room2, grow2⟩))
    go_roundg (fr.length - (k + 1))
    case measure => omega
    case rel => exact ⟨k + 1, T2, m2, E2, by omega, Nat.le_refl _, by go_num, ⟨GW1.out.trans grow2⟩, ⟨own2⟩, Lib.hid set2, Lib.hid (by rw [HN.out]; exact HL.out.next led2), by have := HRM.out; omega⟩
  ·have hlt' : ¬ (k : Int) < (fr.length : Int) := by omega
   have hall : fr.take k = fr := List.take_of_length_le (by omega)
   rw [hall] at HL
   clear hall
   go_wp2
   go_ret
   exact ⟨rfl, T, m, E, HS.out, HT.out, HL.out, hrm, GW.out⟩

end Go.Proofs.YticepbgacokbbaaGreatDoor

/- Those at last: the program's walk, its range over what was seen, its sort: a contract. -/
namespace Go.Proofs.YticepbgacokbbaaGreatDoor
open Go Go.RowKit Go.Maps Go.WideMaps Go.Proofs.YticepbgacokbbaaGreatDoorW.PrintWords
set_option linter.unusedVariables false
set_option linter.unusedSimpArgs false

theorem left_next {left : Lit → Bool} {x b : SAddr} (hx : LFit x) (hb : LFit b) : (left (akey b) && !(akey b).sameKey (akey x)) = (left (akey b) && !decide (b = x)) := by
 by_cases e : b = x
 ·subst e
  rw [WideAt.sameKey_self (akey_lit _)]
  simp
 ·rw [sameKey_ne (fun k => e (lkey_inj hb hx k))]
  simp [e]
theorem led_fit {xs : List SAlias} {U fr T : List SAddr} (hU : ∀ b ∈ xs.flatMap (·.f1), b ∈ U) (hUf : ∀ b ∈ U, LFit b) (hin : ∀ a ∈ fr, a ∈ U) (h : Led xs [] fr T) {b : SAddr} (hb : b ∈ T) : LFit b := by
 obtain ⟨a, ha, k⟩ := (h.all b).1 hb
 rcases k.univ with rfl | h2
 ·exact hUf _ (hin _ ha)
 ·exact hUf _ (hU _ h2)
set_option maxRecDepth 100000 in
set_option maxHeartbeats 4000000 in
theorem ends_any (xs : List SAlias) (U : List SAddr) (w0 : World) (bg n0 : Nat) (Dg : DataW Value) (hown : w0.ownsMap Tryz.prog 25 grR bg n0 Dg) (hG : GraphIs Dg xs w0) (hU : ∀ b ∈ xs.flatMap (·.f1), b ∈ U) (hUf : ∀ b ∈ U, LFit b) (hUl : U.length ≤ 16777216) (hT : ∀ a, (tos xs a).length ≤ 1048576) (fr : List SAddr) (A : Option Addr) (c : Nat) (hfr : Kd.C kAddr w0 A fr.length fr) (hfl : fr.length ≤ 1048576) (hin : ∀ a ∈ fr, a ∈ U) :
  Calls Tryz.prog 27 #[.map (some bg), .slice A fr.length c] w0 fun e w' => ∃ B d, e = .returned (.slice B (ends xs fr).length d) ∧ Kd.R kAddr 25 w' w0.heap.size (fun _ => True) (.slice B (ends xs fr).length d) (ends xs fr) ∧ Below w0.heap.size w0 w' := by
 have hmm := @run_makeMap Tryz.prog
 have hcall := lead_any xs U w0 bg n0 Dg hown hG hU hUf hUl hT w0.heap.size (Nat.le_refl _) (away U []) [] fr 0 (.map []) A c (w0.alloc (.map #[] 0)) (Nat.le_refl _) (by have := away_le U []; omega) (bel_alloc (Below.refl _ _) _) (World.ownsMap_made _ _ _ _) setIs_nil hfr hfl hin
 have hbg := hown.lt
 have HOW := Aside0.mk hown
 have HGG := Lib.hid hG
 have HEN := Lib.hid (fun (l : List SAddr) (h : Rise l) (hm : ∀ b, b ∈ l ↔ LeadL xs fr b ∧ isAl xs b = false) => (ends_is h hm : l = ends xs fr))
 have HLF := Lib.hid (fun (T : List SAddr) (h : Led xs [] fr T) (b : SAddr) (hb : b ∈ T) => led_fit hU hUf hin h hb)
 have HUL := Lib.hid (fun (T ys : List SAddr) (h : Led xs [] fr T) (hn : ys.Nodup) (hs : ∀ b ∈ ys, b ∈ T) => (nodup_len hn (fun b hb => by
  obtain ⟨a, ha, k⟩ := (h.all b).1 (hs b hb)
  rcases k.univ with rfl | h2
  ·exact hin _ ha
  ·exact hU _ h2) : ys.length ≤ U.length))
 clear hown hG hU hUf hT hfr hin
 generalize ends xs fr = en at HEN ⊢
 go_enter Tryz.func27, Tryz.ntmps27
 go_wp2_with (first | (go_at_call 65; (refine Calls.mono hcall ?_; rintro e w1 ⟨rfl, T, m, E, own1, set1, led1, room1, grow1⟩; have B1 := Aside0.mk ((bel_alloc (Below.refl w0.heap.size w0) (.map #[] 0)).grown grow1 (by simp) (fun q hq => by cases hq; exact Nat.le_refl _)); have HS := Lib.hid set1; have HL := Lib.hid led1; have OW := Aside0.mk own1; clear hcall set1 led1 own1 grow1 room1)) | (at_range; (refine wpList_range_own _ rfl _ 92 rfl 25 4 addr_law Tryz.underlying92 _ w0.heap.size m E rfl OW.out ?_; intro w2 hrg0 hg0 hs0)))
 go_frame
 have hb2 := OW.out.lt
 have B2 := Aside0.mk (B1.out.grown hg0 B1.out.size (fun q hq => by cases hq))
 obtain ⟨r, hr⟩ : ∃ r, r = w1.heap.size := ⟨_, rfl⟩
 rw [← hr] at hrg0 hb2 hs0 ⊢
 have RG0 := Aside0.mk hrg0
 clear B1 OW hrg0 hg0 hr hmm
 go_loopw [5] (fun v5 wr => ∃ (left : Lit → Bool) (cnt : Nat) (ys : List SAddr), Aside0 (wr.ranges Tryz.prog 25 (plainElem (H := Unit) Tryz.prog 4) w0.heap.size r m E left cnt) ∧ Aside0 (Kd.R kAddr 25 wr w0.heap.size (fun k => k ≠ w0.heap.size ∧ k ≠ r) v5 ys) ∧ Hid (ys.Nodup) ∧ Hid (∀ b, b ∈ ys ↔ (b ∈ T ∧ isAl xs b = false) ∧ left (akey b) = false) ∧ Aside0 (Below w0.heap.size w0 wr))
  (fun _ wr => wr.rangeLeft w0.heap.size r)
 case atStart =>
  refine ⟨_, _, [], RG0, ⟨Kd.R_nil _ _ _ _ _⟩, Lib.hid List.nodup_nil, Lib.hid (fun b => ⟨fun h => (by cases h), fun h => ?_⟩), B2⟩
  have h1 := (HS.out b (HLF.out T HL.out b h.1.1)).1
  have h2 := h.2
  rw [h1, decide_eq_true h.1.1] at h2
  cases h2
 case round =>
  clear RG0 B2
  obtain ⟨left, cnt, ys, RG, HO, HN, HM, BW⟩ := hrel
  have hlen : ys.length ≤ 16777216 := Nat.le_trans (HUL.out T ys HL.out HN.out (fun b hb => ((HM.out b).1 hb).1.1)) hUl
  have hrl := RG.out.lt
  obtain ⟨vB, vd, hv⟩ := Kd.R_slice HO.out
  subst hv
  go_wp2_with (first | (at_next; (refine wpList_next_ranges _ rfl _ rfl 25 addr_law (plainElem (H := Unit) Tryz.prog 4) (fun x : SAddr => Value.agg #[.string x.f0, .string x.f1]) (fun v : Value => v) (fun key kl h => by obtain ⟨x, _, e, _⟩ := lkey_inv h; exact ⟨x, e⟩) (fun v y h => ⟨v, rfl⟩) w0.heap.size r m E left cnt rfl RG.out ?_ ?_)))
  ·intro hc0 hl0
   have hfin : ∀ b, b ∈ ys ↔ LeadL xs fr b ∧ isAl xs b = false := fun b => by
    rw [HM.out b, HL.out.all b, hl0]
    simp
   have HF := Lib.hid hfin
   clear hfin hl0 hc0 HM RG hrl
   by_cases h0 : ys.length = 0
   ·have hys : ys = [] := List.eq_nil_of_length_eq_zero h0
    subst hys
    have hen := HEN.out [] List.Pairwise.nil HF.out
    subst hen
    clear h0 HF
    go_wp2_with (first | (go_at_call 66; (refine Calls.mono (sortNone_any _ vd vB) ?_; rintro e w4 ⟨rfl, hw4⟩; subst hw4)))
    go_ret
    exact ⟨vB, vd, rfl, Kd.R_mono HO.out (fun _ _ => trivial), BW.out⟩
   ·obtain ⟨g, hg1, _, _⟩ := own_form2 HO.out (by omega)
    subst hg1
    have hso := sortAddr_any HO.out HN.out (by omega)
    have hgb : w0.heap.size ≤ g := Kd.R_base HO.out g rfl
    clear h0 HO
    go_wp2_with (first | (go_at_call 66; (refine Calls.mono hso ?_; rintro e w4 ⟨rfl, zs, hr4, hm4, hl4, HZ, hg4⟩)))
    go_ret
    have hen := HEN.out zs hr4 (fun b => (hm4 b).trans (HF.out b))
    subst hen
    exact ⟨some ⟨g, 0, none⟩, vd, by rw [hl4]; rfl, Kd.R_mono HZ (fun _ _ => trivial), BW.out.grown hg4 BW.out.size (fun q hq => by have := Option.some.inj hq; omega)⟩
  ·intro x cc kl ya yb w3 cnt1 hkey hlk hv hat RG1_ hlt hg1 hs1 hen
   obtain ⟨x2, hx2, e2, rfl⟩ := lkey_inv hkey
   have e3 : x = x2 := by
    injection e2 with e2
    simp at e2
    obtain ⟨x0, x1⟩ := x
    obtain ⟨y0, y1⟩ := x2
    simp only at e2
    rw [e2.1, e2.2]
   subst e3
   have hxT : x ∈ T := by
    have h1 := (HS.out x hx2).1
    rw [has_true_of_atKey hat] at h1
    exact of_decide_eq_true h1.symm
   have hnew : x ∉ ys := fun h => by
    rw [((HM.out x).1 h).2] at hlk
    cases hlk
   have HX := Lib.hid hx2
   have RG3 := Aside0.mk RG1_
   have HO3 := Aside0.mk (Kd.R_grown HO.out hg1 (fun k hk e => hk.2 (Option.some.inj e)))
   have B3 := Aside0.mk (BW.out.grown hg1 BW.out.size (fun q hq => by have := Option.some.inj hq; omega))
   have HQ := Lib.hid (show ∀ zs : List SAddr, (∀ b, b ∈ zs ↔ b ∈ ys ∨ (b = x ∧ isAl xs x = false)) → ∀ b, b ∈ zs ↔ (b ∈ T ∧ isAl xs b = false) ∧ (left (akey b) && !(akey b).sameKey (akey x)) = false from fun zs hz b => by
    rw [hz b]
    constructor
    ·rintro (h | ⟨rfl, h⟩)
     ·have h2 := (HM.out b).1 h
      exact ⟨h2.1, by rw [h2.2]; rfl⟩
     ·exact ⟨⟨hxT, h⟩, by rw [WideAt.sameKey_self (akey_lit _)]; simp⟩
    ·rintro ⟨h1, h2⟩
     rw [left_next hx2 (HLF.out T HL.out b h1.1)] at h2
     by_cases e : b = x
     ·subst e; exact .inr ⟨rfl, h1.2⟩
     ·rw [decide_eq_false e] at h2
      exact .inl ((HM.out b).2 ⟨h1, by simpa using h2⟩))
   have HNW := Lib.hid hnew
   have hml := Lib.hid (RG.out.left_eq)
   have hs3 : r < w3.heap.size := by omega
   clear hkey e2 hat hv hlk hxT hnew hx2 RG1_ HM HO BW RG hg1 hs1 hrl
   cases hal : isAl xs x
   ·have HAL := Lib.hid hal
    clear hal
    go_wp2_with (first | (at_lookup; (generalize hwa : World.alloc w3 _ = wa; have RG1 := Aside0.mk (show _ from hwa ▸ RG3.out.alloc _); have HO1 := Aside0.mk (show Kd.R kAddr 25 wa w0.heap.size (fun k => k ≠ w0.heap.size ∧ k ≠ r) (.slice vB ys.length vd) ys from hwa ▸ Kd.R_alloc HO3.out _); have B1 := Aside0.mk (show Below w0.heap.size w0 wa from hwa ▸ bel_alloc B3.out _); have FB : wa.heap[w3.heap.size]? = some (.cells #[.string x.f0, .string x.f1] 25 (0, 0)) := (by rw [← hwa]; exact blk_new _ _); have c0_ : wa.cell? ⟨w3.heap.size, 0, none⟩ = some (.string x.f0) := (by simp [World.cell?, FB]); have c1_ : wa.cell? ⟨w3.heap.size, 1, none⟩ = some (.string x.f1) := (by simp [World.cell?, FB]); have zw := blk_lt FB; clear hwa FB RG3 HO3 B3; refine wpList_lookup_graph_ok (by rfl) _ _ 61 rfl 26 Tryz.underlying61 (by intros; rfl) bg n0 Dg rfl (HOW.out.kept (grown_of_below B1.out none) (by simp)) HGG.out x rfl HX.out ?_; intro v1; rw [HAL.out])) | ((with_reducible refine gate_builtin (b := .append) (xs := #[.tmp 26, .tmp 28]) rfl ?_); (try (refine gate_guard (by rfl) ?_; dsimp only)); at_builtin; (refine Kd.R_append kAddr (w0 := w0) (w0.heap.size) rfl (.tmp 26) (.tmp 28) 26 25 (.agg #[(.string ⟨#[]⟩), (.string ⟨#[]⟩)]) 32 rfl Tryz.underlying26 info25 rfl (by decide) (by omega) (.slice vB ys.length vd) ys x [.string x.f0, .string x.f1] (fun k => k ≠ w0.heap.size ∧ k ≠ r) (fun _ => False) rfl rfl (kAddr_mkM _ _ _ x) (fun _ hk => hk.elim) (fun k hk => ⟨by omega, by omega⟩) HO1.out B1.out (B1.out).size (by omega) ?_); intro v9 w9 ho hb hg hat; have RG9 := Aside0.mk (RG1.out.kept hg (fun e => (HO1.out.1 _ e.symm).1 rfl) (fun e => (HO1.out.1 _ e.symm).2 rfl)); have HO9 := Aside0.mk ho; have B9 := Aside0.mk hb; clear ho hb hg hat))
    go_roundw
    case rel => exact ⟨_, cnt1, ys ++ [x], RG9, HO9, Lib.hid (List.nodup_append.2 ⟨HN.out, by simp, fun a ha b hb => by rw [List.mem_singleton.1 hb]; exact fun e => HNW.out (e ▸ ha)⟩), Lib.hid (HQ.out _ (fun b => by rw [List.mem_append, List.mem_singleton]; exact or_congr_right ⟨fun h => ⟨h, HAL.out⟩, fun h => h.1⟩)), B9⟩
    case measure => rw [RG9.out.left_eq, hml.out]; exact hlt
   ·have HAL := Lib.hid hal
    clear hal
    go_wp2_with (first | (at_lookup; (generalize hwa : World.alloc w3 _ = wa; have RG1 := Aside0.mk (show _ from hwa ▸ RG3.out.alloc _); have HO1 := Aside0.mk (show Kd.R kAddr 25 wa w0.heap.size (fun k => k ≠ w0.heap.size ∧ k ≠ r) (.slice vB ys.length vd) ys from hwa ▸ Kd.R_alloc HO3.out _); have B1 := Aside0.mk (show Below w0.heap.size w0 wa from hwa ▸ bel_alloc B3.out _); have FB : wa.heap[w3.heap.size]? = some (.cells #[.string x.f0, .string x.f1] 25 (0, 0)) := (by rw [← hwa]; exact blk_new _ _); have c0_ : wa.cell? ⟨w3.heap.size, 0, none⟩ = some (.string x.f0) := (by simp [World.cell?, FB]); have c1_ : wa.cell? ⟨w3.heap.size, 1, none⟩ = some (.string x.f1) := (by simp [World.cell?, FB]); have zw := blk_lt FB; clear hwa FB RG3 HO3 B3; refine wpList_lookup_graph_ok (by rfl) _ _ 61 rfl 26 Tryz.underlying61 (by intros; rfl) bg n0 Dg rfl (HOW.out.kept (grown_of_below B1.out none) (by simp)) HGG.out x rfl HX.out ?_; intro v1; rw [HAL.out])))
    go_roundw
    case rel => exact ⟨_, cnt1, ys, RG1, HO1, HN, Lib.hid (HQ.out _ (fun b => by rw [HAL.out]; simp)), B1⟩
    case measure => rw [RG1.out.left_eq, hml.out]; exact hlt

end Go.Proofs.YticepbgacokbbaaGreatDoor

/- AliasFor of the program: a contract. -/
namespace Go.Proofs.YticepbgacokbbaaGreatDoor
open Go Go.RowKit Go.Maps Go.WideMaps Go.Proofs.YticepbgacokbbaaGreatDoorW.PrintWords
set_option linter.unusedVariables false
set_option linter.unusedSimpArgs false

theorem take_isAl {xs : List SAlias} (hn : (xs.map (·.f0)).Nodup) {k : Nat} (hk : k < xs.length) : isAl (xs.take k) (xs.getD k zAlias).f0 = false := by
 cases hq : isAl (xs.take k) (xs.getD k zAlias).f0
 ·rfl
 ·exfalso
  obtain ⟨x, hx, e⟩ := isAl_iff.1 hq
  obtain ⟨j, hj, rfl⟩ := List.getElem_of_mem hx
  rw [List.length_take] at hj
  rw [List.getElem_take] at e
  rw [List.getD, List.getElem?_eq_getElem hk] at e
  have h := List.pairwise_iff_getElem.1 hn j k (by rw [List.length_map]; omega) (by rw [List.length_map]; exact hk) (by omega)
  rw [List.getElem_map, List.getElem_map] at h
  exact h e
theorem take_nextL {xs : List SAlias} {k : Nat} (h : k < xs.length) : xs.take (k + 1) = xs.take k ++ [xs.getD k zAlias] := by
 rw [List.take_succ_eq_append_getElem h, List.getD, List.getElem?_eq_getElem h]; rfl
theorem ok_len {xs : List SAlias} (h : aliasOk xs = true) : xs.length ≤ 6 ∧ ∀ x ∈ xs, x.f1.length ≤ 4 := by
 unfold aliasOk at h
 rw [Bool.and_eq_true, Bool.and_eq_true] at h
 refine ⟨by have := of_decide_eq_true h.2.2; omega, fun x hx => ?_⟩
 have h := List.all_eq_true.1 h.1 x hx
 unfold aliasGood at h
 rw [Bool.and_eq_true, Bool.and_eq_true, Bool.and_eq_true] at h
 have := of_decide_eq_true h.2.1.2
 omega
theorem flat_len {m : Nat} : ∀ {xs : List SAlias}, (∀ x ∈ xs, x.f1.length ≤ m) → (xs.flatMap (·.f1)).length ≤ m * xs.length
 | [], _ => by simp
 | x :: r, h => by
  have h1 := flat_len (fun y hy => h y (List.mem_cons_of_mem _ hy))
  have h2 := h x (by simp)
  rw [List.flatMap_cons, List.length_append, List.length_cons, Nat.mul_add]
  omega
theorem ok_univl {xs : List SAlias} (h : aliasOk xs = true) : (xs.flatMap (·.f1)).length ≤ 24 := by
 have h1 := ok_len h
 have := flat_len h1.2
 omega
/-- What the graph's walks ask, of aliases that are ok and addresses that fit. -/
theorem al_ctx {xs : List SAlias} {fr : List SAddr} (h : aliasOk xs = true) (hw : ∀ x ∈ xs, fitAlias x) (hf : ∀ a ∈ fr, fitAddr a) (hl : fr.length ≤ 1048576) :
  (∀ b ∈ xs.flatMap (·.f1), b ∈ fr ++ xs.flatMap (·.f1)) ∧ (∀ b ∈ fr ++ xs.flatMap (·.f1), LFit b) ∧ (fr ++ xs.flatMap (·.f1)).length ≤ 16777216 ∧ ∀ a, (tos xs a).length ≤ 1048576 := by
 refine ⟨fun b hb => by simp [hb], fun b hb => ?_, by have := ok_univl h; rw [List.length_append]; omega, fun a => tos_len (fun x hx => by have := (ok_len h).2 x hx; omega) a⟩
 rcases List.mem_append.1 hb with hb | hb
 ·exact lfit_of (hf b hb)
 ·obtain ⟨x, hx, hb⟩ := List.mem_flatMap.1 hb
  exact lfit_of ((hw x hx).2.2 b hb)
set_option maxRecDepth 100000 in
set_option maxHeartbeats 4000000 in
theorem graphOf_any (A : Option Addr) (c : Nat) (xs : List SAlias) (w : World) (hw : xs.length ≤ 1048576 ∧ ∀ x ∈ xs, fitAlias x) (hr : Kd.C kAlias w A xs.length xs) (hn : (xs.map (·.f0)).Nodup) :
  Calls Tryz.prog 26 #[.slice A xs.length c] w fun e w' => e = .returned (.map (some w.heap.size)) ∧ ∃ (n : Nat) (D : DataW Value), w'.ownsMap Tryz.prog 25 grR w.heap.size n D ∧ GraphIs D xs w ∧ Below w.heap.size w w' := by
 have hmm := @run_makeMap Tryz.prog
 obtain ⟨hlen, hx⟩ := hw
 have HX := Lib.hid hx
 have HN := Lib.hid hn
 have HR := Aside0.mk hr
 clear hx hn hr
 go_enter Tryz.func26, Tryz.ntmps26
 go_wp2
 go_loopg [5, 9] (xs.length) (fun g _ v9 wr => ∃ (k : Nat) (D : DataW Value), k ≤ xs.length ∧ xs.length - k ≤ g ∧ v9 = .int .i64 (k : Int) ∧ Aside0 (Below w.heap.size w wr) ∧ Aside0 (wr.ownsMap Tryz.prog 25 grR w.heap.size k D) ∧ Hid (GraphIs D (xs.take k) w))
 case atStart => exact ⟨0, .map [], Nat.zero_le _, by omega, rfl, ⟨bel_alloc (Below.refl _ _) _⟩, ⟨World.ownsMap_made _ _ _ _⟩, Lib.hid (graphIs_nil w)⟩
 case round =>
  obtain ⟨k, D, hk, hg, rfl, BW, HM, HG⟩ := hrel
  by_cases hlt : k < xs.length
  ·obtain ⟨ad, Q0, qc0, e1, p0, p1, p2, l0, k0⟩ := at_Alias HR.out k hlt
   subst e1
   have z0 := World.block_lt_of_cell? _ _ p0
   have r0 := (BW.out.cell z0).trans p0
   have r1 := (BW.out.cell (World.block_lt_of_cell? _ _ p1)).trans p1
   have r2 := (BW.out.cell (World.block_lt_of_cell? _ _ p2)).trans p2
   have hf := HX.out (xs.getD k zAlias) (getD_mem _ _ hlt)
   have hnx := take_nextL hlt
   have hno := take_isAl HN.out hlt
   have hgi := graphIs_put HG.out HM.out.isMap (fun x hx => lfit_of (HX.out x (List.mem_of_mem_take hx)).1) (lfit_of hf.1) hno l0 k0
   rw [← hnx] at hgi
   generalize xs.getD k zAlias = y at r0 r1 r2 hf hgi l0
   have HY := Lib.hid (lfit_of hf.1)
   have HGI := Lib.hid hgi
   have hbl := HM.out.lt
   have hlt' : (k : Int) < (xs.length : Int) := by omega
   clear hnx hno hgi p0 p1 p2 k0 hf l0 HG z0
   go_wp2_with (first | (at_mapUpdate; (refine wpList_mapUpdate_own _ rfl _ _ _ 61 rfl 25 26 addr_law Tryz.underlying61 grR w.heap.size k _ rfl (HM.out.alloc _) (by unfold maxLen; omega) _ _ _ rfl rfl (lkey_is y.f0 HY.out) (.held (.slice Q0 y.f1.length qc0)) [] rfl ?_; intro w1 hown1 hgrow1)))
   go_roundg (xs.length - (k + 1))
   case measure => omega
   case rel => exact ⟨k + 1, _, by omega, Nat.le_refl _, by go_num, ⟨(bel_alloc BW.out _).grown hgrow1 (bel_alloc BW.out _).size (fun j hj => by cases hj; exact Nat.le_refl _)⟩, ⟨hown1⟩, HGI⟩
  ·have hlt' : ¬ (k : Int) < (xs.length : Int) := by omega
   rw [show xs.take k = xs from List.take_of_length_le (by omega)] at HG
   go_wp2
   go_ret
   exact ⟨rfl, k, D, HM.out, HG.out, BW.out⟩

end Go.Proofs.YticepbgacokbbaaGreatDoor
