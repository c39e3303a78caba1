/- AliasRound of the program: a contract. -/
import Derived.Test.YticepbgacokbbaaDoorReg
import Derived.Test.YticepbgacokbbaaDoorAlWalk
namespace Go.Proofs.YticepbgacokbbaaDoor
open Go Go.RowKit Go.Maps Go.WideMaps Go.Proofs.YticepbgacokbbaaDoorW.PrintWords
set_option linter.unusedVariables false
set_option linter.unusedSimpArgs false

theorem grR_some {v : Value} {ya : DataW Value} {yb : List MemPlace} (h : grR v = some (ya, yb)) : ya = .held v := by
 unfold grR at h
 cases v <;> simp at h
 exact h.1.symm
theorem graph_val {D : DataW Value} {xs : List SAlias} {w : World} {x : SAddr} {v : Value} {ya : DataW Value} {yb : List MemPlace} (hG : GraphIs D xs w) (hx : LFit x) (hat : ∀ z, D.atKey (akey x) z = ya) (hv : grR v = some (ya, yb)) :
  isAl xs x = true ∧ ∃ Q c, v = .slice Q (tos xs x).length c ∧ (tos xs x).length ≤ c ∧ Kd.C kAddr w Q (tos xs x).length (tos xs x) := by
 have hal : isAl xs x = true := by
  cases hq : isAl xs x
  ·have h1 := hG.no x hx hq
   rw [has_true_of_atKey hat] at h1
   cases h1
  ·rfl
 refine ⟨hal, ?_⟩
 obtain ⟨y, hy, e1, e2⟩ := tos_find hal
 obtain ⟨_, Q, c, h2, h3, h4⟩ := hG.yes y hy
 have h5 := hat .nil
 rw [← e1, h2 .nil, grR_some hv] at h5
 injection h5 with h5
 rw [e2]
 exact ⟨Q, c, h5.symm, h3, h4⟩
set_option maxRecDepth 100000 in
theorem set_look {W : World} {b n : Nat} {D : DataW Unit} (own : W.ownsMap Tryd.prog 30 (plainElem (H := Unit) Tryd.prog 4) b n D) {S : List SAddr} (hS : SetIs D S) (k : SAddr) (q : Bool) (hq : decide (k ∈ S) = q) (hk : LFit k) :
  (Instr.lookup 57 (.map (some b)) (.agg #[.string k.f0, .string k.f1]) false).run Tryd.prog W = .ok (.bool q) W := by
 obtain ⟨v, ps, hrun, hR⟩ := own.lookup addr_law Tryd.underlying57 (z := .bool false) (by rfl) (plainElem_bool Tryd.underlying4 false) (lkey_is k hk)
 have hv : v = .bool q := by
  rw [(hS k hk).2, hq] at hR
  unfold plainElem at hR
  rw [Tryd.underlying4] at hR
  cases v <;> simp at hR
  rw [hR.1]
 subst hv
 exact hrun
set_option maxRecDepth 100000 in
set_option maxHeartbeats 4000000 in
theorem aliasRound_any (A : Option Addr) (c : Nat) (xs : List SAlias) (w : World) (hw : xs.length ≤ 1048576 ∧ ∀ x ∈ xs, fitAlias x) (hr : Kd.C kAlias w A xs.length xs) (hG : Glob w) :
  Calls Tryd.prog 11 #[.slice A xs.length c] w fun e w' => ∃ B d, e = .returned (.slice B (aliasRound xs).length d) ∧ Kd.R kAddr 30 w' w.heap.size (fun _ => True) (.slice B (aliasRound xs).length d) (aliasRound xs) ∧ Below w.heap.size w w' := by
 have hok := fun W (hW : Below w.heap.size w W) => aliasOk_any A c xs W hw (Kd.C_below hr hW) (hG.below hW)
 obtain ⟨X, hX⟩ : ∃ X, X = aliasRound xs := ⟨_, rfl⟩
 rw [← hX]
 unfold aliasRound at hX
 have hgr := fun (hq : aliasOk xs = true) W (hW : Below w.heap.size w W) => graphOf_any A c xs W hw (Kd.C_below hr hW) (ok_nodup hq)
 have hctx := fun (hq : aliasOk xs = true) => al_ctx (fr := []) hq hw.2 (fun b hb => by cases hb) (by simp)
 have hft := fun (b : SAddr) (h : isAl xs b = true) => (show LFit b from by
  obtain ⟨x, hx, e⟩ := isAl_iff.1 h
  exact e ▸ lfit_of (hw.2 x hx).1)
 have hln := fun (hq : aliasOk xs = true) => (ok_len hq).1
 have hrd := fun (hq : aliasOk xs = true) (l : List SAddr) (h : Rise l) (hm : ∀ b, b ∈ l ↔ LeadL xs (tos xs b) b) => (rounds_is h hm : l = rounds xs)
 have hul := fun (ys : List SAddr) (hn : ys.Nodup) (hs : ∀ b ∈ ys, isAl xs b = true) => (show ys.length ≤ xs.length from by
  have := nodup_len (m := xs.map (·.f0)) hn (fun b hb => by obtain ⟨x, hx, e⟩ := isAl_iff.1 (hs b hb); exact List.mem_map.2 ⟨x, hx, e⟩)
  rwa [List.length_map] at this)
 generalize aliasOk xs = q1 at hok hX hgr hctx hln hrd
 have HX := Lib.hid hX
 have HCX := Lib.hid hctx
 have HFT := Lib.hid hft
 have HLN := Lib.hid hln
 have HRD := Lib.hid hrd
 have HUL := Lib.hid hul
 clear hX hctx hr hw hG hft hln hrd hul
 go_enter Tryd.func11, Tryd.ntmps11
 go_wp2_with fail
 refine Calls.mono (hok _ (Below.refl _ _)) ?_
 rintro e u ⟨rfl, bu⟩
 have HBu := Aside0.mk bu
 clear hok bu
 cases q1
 ·clear hgr HCX HFT HLN HRD HUL
  go_wp2
  go_ret
  obtain rfl : X = [] := HX.out
  exact ⟨none, 0, rfl, Kd.R_nil _ _ _ _ _, HBu.out⟩
 ·have HC : Hid ((∀ b ∈ xs.flatMap (·.f1), LFit b) ∧ (xs.flatMap (·.f1)).length ≤ 16777216 ∧ ∀ a, (tos xs a).length ≤ 1048576) := Lib.hid ⟨fun b hb => (HCX.out (by trivial)).2.1 b (by simpa using hb), by have := (HCX.out (by trivial)).2.2.1; simpa using this, (HCX.out (by trivial)).2.2.2⟩
  have hl6 := HLN.out (by trivial)
  have HRD2 := Lib.hid (HRD.out (by trivial))
  clear HCX HLN HRD
  go_wp2_with (first | (go_at_call 37; (refine Calls.mono (hgr (by trivial) _ HBu.out) ?_; rintro e w2 ⟨rfl, n1, D1, own1, gi1, b2⟩; have OW := Aside0.mk own1; have HI := Lib.hid gi1; have B2 := Aside0.mk b2; clear hgr own1 gi1 b2)) | (at_range; (refine wpList_range_own _ rfl _ 55 rfl 30 25 addr_law Tryd.underlying55 grR u.heap.size n1 D1 rfl OW.out ?_; intro w3 hrg0 hg0 hs0)))
  go_frame
  have hb2 := OW.out.lt
  have B3 := Aside0.mk (B2.out.grown hg0 B2.out.size (fun q hq => by cases hq))
  obtain ⟨r, hr⟩ : ∃ r, r = w2.heap.size := ⟨_, rfl⟩
  obtain ⟨bg, hbg⟩ : ∃ b, b = u.heap.size := ⟨_, rfl⟩
  rw [← hr] at hrg0 hb2 hs0 ⊢
  rw [← hbg] at hrg0 hb2 ⊢
  have hub : u.heap.size ≤ bg := by omega
  have RG0 := Aside0.mk hrg0
  clear B2 OW hrg0 hg0 hr hbg
  go_loopw [4] (fun v4 wr => ∃ (left : Lit → Bool) (cnt : Nat) (ys : List SAddr), Aside0 (wr.ranges Tryd.prog 30 grR bg r n1 D1 left cnt) ∧ Aside0 (Kd.R kAddr 30 wr u.heap.size (fun k => k ≠ bg ∧ k ≠ r) v4 ys) ∧ Hid (ys.Nodup) ∧ Hid (∀ b, b ∈ ys ↔ LeadL xs (tos xs b) b ∧ left (akey b) = false) ∧ Aside0 (Below u.heap.size u wr))
   (fun _ wr => wr.rangeLeft bg r)
  case atStart =>
   refine ⟨_, _, [], RG0, ⟨Kd.R_nil _ _ _ _ _⟩, Lib.hid List.nodup_nil, Lib.hid (fun b => ⟨fun h => (by cases h), fun h => ?_⟩), B3⟩
   obtain ⟨⟨t, ht, _⟩, h2⟩ := h
   obtain ⟨x, hx, e⟩ := isAl_iff.1 (tos_al ht)
   have h3 := (HI.out.yes x hx).1
   rw [e, h2] at h3
   cases h3
  case round =>
   clear RG0 B3
   obtain ⟨left, cnt, ys, RG, HO, HN, HM, BW⟩ := hrel
   have hlen : ys.length ≤ 16777216 := Nat.le_trans (HUL.out ys HN.out (fun b hb => by obtain ⟨⟨t, ht, _⟩, _⟩ := (HM.out b).1 hb; exact tos_al ht)) (by omega)
   have hrl := RG.out.lt
   obtain ⟨vB, vd, hv⟩ := Kd.R_slice HO.out
   subst hv
   go_wp2_with (first | (at_next; (refine wpList_next_ranges _ rfl _ rfl 30 addr_law grR (fun x : SAddr => Value.agg #[.string x.f0, .string x.f1]) (fun v : Value => v) (fun key kl h => by obtain ⟨x, _, e, _⟩ := lkey_inv h; exact ⟨x, e⟩) (fun v y h => ⟨v, rfl⟩) bg r n1 D1 left cnt rfl RG.out ?_ ?_)))
   ·intro hc0 hl0
    have hfin : ∀ b, b ∈ ys ↔ LeadL xs (tos xs b) b := fun b => by
     rw [HM.out b, hl0]
     simp
    have HF := Lib.hid hfin
    clear hfin hl0 hc0 HM RG hrl
    by_cases h0 : ys.length = 0
    ·have hys : ys = [] := List.eq_nil_of_length_eq_zero h0
     subst hys
     have hen : X = [] := HX.out.trans (HRD2.out [] List.Pairwise.nil HF.out).symm
     subst hen
     clear h0 HF
     go_wp2_with (first | (go_at_call 39; (refine Calls.mono (sortNone_any _ vd vB) ?_; rintro e w4 ⟨rfl, hw4⟩; subst hw4)))
     go_ret
     exact ⟨vB, vd, rfl, Kd.R_lower (Kd.R_mono HO.out (fun _ _ => trivial)) HBu.out.size, bel_then HBu.out BW.out⟩
    ·obtain ⟨g, hg1, _, _⟩ := own_form2 HO.out (by omega)
     subst hg1
     have hso := sortAddr_any HO.out HN.out (by omega)
     have hgb : u.heap.size ≤ g := Kd.R_base HO.out g rfl
     clear h0 HO
     go_wp2_with (first | (go_at_call 39; (refine Calls.mono hso ?_; rintro e w4 ⟨rfl, zs, hr4, hm4, hl4, HZ, hg4⟩)))
     go_ret
     have hen : X = zs := HX.out.trans (HRD2.out zs hr4 (fun b => (hm4 b).trans (HF.out b))).symm
     subst hen
     exact ⟨some ⟨g, 0, none⟩, vd, by rw [hl4]; rfl, Kd.R_lower (Kd.R_mono HZ (fun _ _ => trivial)) HBu.out.size, bel_then HBu.out (BW.out.grown hg4 BW.out.size (fun q hq => by have := Option.some.inj hq; omega))⟩
   ·intro x v kl ya yb w4 cnt1 hkey hlk hv hat RG1_ hlt hg1 hs1 hen
    obtain ⟨x2, hx2, e2, rfl⟩ := lkey_inv hkey
    have e3 : x = x2 := by
     injection e2 with e2
     simp at e2
     obtain ⟨x0, x1⟩ := x
     obtain ⟨y0, y1⟩ := x2
     simp only at e2
     rw [e2.1, e2.2]
    subst e3
    obtain ⟨hal, Q, c9, rfl, hq9, hT9⟩ := graph_val HI.out hx2 hat hv
    have hnew : x ∉ ys := fun h => by
     rw [((HM.out x).1 h).2] at hlk
     cases hlk
    have HX2 := Lib.hid hx2
    have HO3 := Aside0.mk (Kd.R_grown HO.out hg1 (fun k hk e => hk.2 (Option.some.inj e)))
    have B3 := Aside0.mk (BW.out.grown hg1 BW.out.size (fun q hq => by have := Option.some.inj hq; omega))
    have HQ1 := Lib.hid (show ∀ zs : List SAddr, (∀ b, b ∈ zs ↔ b ∈ ys ∨ (b = x ∧ LeadL xs (tos xs x) x)) → ∀ b, b ∈ zs ↔ LeadL xs (tos xs b) b ∧ (left (akey b) && !(akey b).sameKey (akey x)) = false from fun zs hz b => by
     rw [hz b]
     constructor
     ·rintro (h | ⟨rfl, h⟩)
      ·have h2 := (HM.out b).1 h
       exact ⟨h2.1, by rw [h2.2]; rfl⟩
      ·exact ⟨h, by rw [WideAt.sameKey_self (akey_lit _)]; simp⟩
     ·rintro ⟨h1, h2⟩
      have h3 : LFit b := HFT.out b (by obtain ⟨t, ht, _⟩ := h1; exact tos_al ht)
      rw [left_next hx2 h3] at h2
      by_cases e : b = x
      ·subst e; exact .inr ⟨rfl, h1⟩
      ·rw [decide_eq_false e] at h2
       exact .inl ((HM.out b).2 ⟨h1, by simpa using h2⟩))
    have HNW := Lib.hid hnew
    have hml := Lib.hid (RG.out.left_eq)
    have hs3 : r < w4.heap.size := by omega
    have RG3 := Aside0.mk RG1_
    have HT3 := Aside0.mk (Kd.C_below hT9 B3.out)
    clear hkey e2 hat hv hlk hnew hx2 RG1_ HM HO BW RG hg1 hs1 hrl hal hT9
    go_wp2
    generalize hwa : World.alloc w4 _ = wa
    have RGa := Aside0.mk (show _ from hwa ▸ RG3.out.alloc _)
    have HOa := Aside0.mk (show Kd.R kAddr 30 wa u.heap.size (fun k => k ≠ bg ∧ k ≠ r) (.slice vB ys.length vd) ys from hwa ▸ Kd.R_alloc HO3.out _)
    have Ba := Aside0.mk (show Below u.heap.size u wa from hwa ▸ bel_alloc B3.out _)
    have HTa := Aside0.mk (show Kd.C kAddr wa Q (tos xs x).length (tos xs x) from hwa ▸ Kd.C_below HT3.out (bel_alloc (Below.refl _ _) _))
    have FB : wa.heap[w4.heap.size]? = some (.cells #[.string x.f0, .string x.f1] 30 (0, 0)) := by rw [← hwa]; exact blk_new _ _
    have zga := blk_lt FB
    obtain ⟨ga, hga⟩ : ∃ g, g = w4.heap.size := ⟨_, rfl⟩
    rw [← hga] at FB zga ⊢
    have hrg : r < ga := by omega
    have y0 : wa.drew.cell? ⟨ga, 0, none⟩ = some (.string x.f0) := by simp [World.cell?, show wa.drew.heap[ga]? = _ from FB]
    have y1 : wa.drew.cell? ⟨ga, 1, none⟩ = some (.string x.f1) := by simp [World.cell?, show wa.drew.heap[ga]? = _ from FB]
    have hmm := @run_makeMap Tryd.prog
    clear hwa FB RG3 HO3 B3 hga HT3
    refine wp_region_held_drew (S := (fun W => W.cell? ⟨ga, 0, none⟩ = some (.string x.f0) ∧ W.cell? ⟨ga, 1, none⟩ = some (.string x.f1))) (by kernel_rfl) ?s75 (fun hHeld => ?t75)
    case s75 => exact ⟨y0, y1⟩
    generalize hV0 : World.drew wa = V0 at hHeld ⊢
    replace y0 := hHeld.1
    replace y1 := hHeld.2
    have bd : Below wa.heap.size wa V0 := by rw [← hV0]; exact drew_below0 wa
    have HRG := Aside0.mk (RGa.out.kept (grown_of_below bd none) (by simp) (by simp))
    have HOV := Aside0.mk (Kd.R_below HOa.out bd)
    have HBV := Aside0.mk (bel_then Ba.out bd)
    have HG0 := Aside0.mk HRG.out.owns
    have HI0 := Lib.hid (HI.out.below HBV.out)
    have HT0 := Aside0.mk (Kd.C_below HTa.out bd)
    have z5 := bd.size
    have zg : ga < V0.heap.size := Nat.lt_of_lt_of_le zga bd.size
    clear hV0 bd RGa HOa Ba HTa
    refine tk 0 ?v76 ?y76 ?r76
    case y76 => intro w_ hSw; (try dsimp only at hSw); go_simp; (try (with_reducible rfl))
    try simp only [Act.put, List.setIfInBounds_toArray, List.set_cons_zero, List.set_cons_succ]
    refine tk 2 ?v77 ?y77 ?r77
    case y77 => intro w_ hSw; (try dsimp only at hSw); go_simp; (try (with_reducible rfl))
    try simp only [Act.put, List.setIfInBounds_toArray, List.set_cons_zero, List.set_cons_succ]
    refine tk 4 ?v78 ?y78 ?r78
    case y78 => intro w_ hSw; (try dsimp only at hSw); go_simp; (try (with_reducible rfl))
    try simp only [Act.put, List.setIfInBounds_toArray, List.set_cons_zero, List.set_cons_succ]
    refine rdy (rs := [1]) ?_
    refine rc (fun K hK => ?k79) AllReadyH.nil
    case k79 =>
     go_simp
     generalize hV1 : World.alloc V0 _ = V1 at hHeld ⊢
     have b1 : Below V0.heap.size V0 V1 := by rw [← hV1]; exact bel_alloc (Below.refl _ _) _
     have own1 : V1.ownsMap Tryd.prog 30 (plainElem (H := Unit) Tryd.prog 4) V0.heap.size 0 (.map []) := by rw [← hV1]; exact World.ownsMap_made _ _ _ _
     clear hV1
     refine hK.out _ _ ?h80 (fun hHeld => ?j80)
     case h80 => exact ⟨(b1.cell (p := ⟨ga, 0, none⟩) zg).trans y0, (b1.cell (p := ⟨ga, 1, none⟩) zg).trans y1⟩
     clear hK K
     try simp only [Act.put, List.setIfInBounds_toArray, List.set_cons_zero, List.set_cons_succ]
     refine rdy (rs := [3]) ?_
     refine rc (fun K hK => ?k81) AllReadyH.nil
     case k81 =>
      go_simp
      have hcall := lead_any xs (xs.flatMap (·.f1)) V0 bg n1 D1 HG0.out HI0.out (fun b hb => hb) HC.out.1 HC.out.2.1 HC.out.2.2 V0.heap.size (Nat.le_refl _) (away (xs.flatMap (·.f1)) []) [] (tos xs x) 0 (.map []) Q c9 V1 (Nat.le_refl _) (by have := away_le (xs.flatMap (·.f1)) []; have := HC.out.2.1; omega) b1 own1 setIs_nil HT0.out (HC.out.2.2 x) (fun b hb => tos_univ hb)
      refine Calls.mono hcall ?_
      rintro e V3 ⟨rfl, T, m9, E9, own3, set3, led3, room9, grow3⟩
      have b3 : Below V0.heap.size V0 V3 := b1.grown grow3 b1.size (fun q hq => by cases hq; exact Nat.le_refl _)
      clear hcall room9 grow3
      refine hK.out _ _ ?h82 (fun hHeld => ?j82)
      case h82 => exact ⟨(b3.cell (p := ⟨ga, 0, none⟩) zg).trans y0, (b3.cell (p := ⟨ga, 1, none⟩) zg).trans y1⟩
      clear hK K
      try simp only [Act.put, List.setIfInBounds_toArray, List.set_cons_zero, List.set_cons_succ]
      refine rdy (rs := [5]) ?_
      refine rc (fun K hK => ?k83) AllReadyH.nil
      case k83 =>
       obtain ⟨q, hq⟩ : ∃ q, decide (x ∈ T) = q := ⟨_, rfl⟩
       have hlk := set_look own3 set3 x q hq HX2.out
       have HQ := Lib.hid hq
       have HLD := Lib.hid led3
       clear hq own3 set3 led3
       go_simp
       refine hK.out _ _ ?h84 (fun hHeld => ?j84)
       case h84 => exact hHeld
       clear hK K
       try simp only [Act.put, List.setIfInBounds_toArray, List.set_cons_zero, List.set_cons_succ]
       refine wpAnyH_done (by kernel_rfl) ?_ _
       have BV := b3
       have RG4 := Aside0.mk (HRG.out.kept (grown_of_below BV none) (by simp) (by simp))
       have HO4 := Aside0.mk (Kd.R_below HOV.out BV)
       have B4 := Aside0.mk (bel_then HBV.out BV)
       have z4 := BV.size
       have hT := HLD.out.all x
       have HQ2 := Lib.hid (show q = decide (x ∈ T) from HQ.out.symm)
       have y0_ := hHeld.1
       have y1_ := hHeld.2
       clear hHeld HRG HOV HBV BV hlk y0 y1 own1 b1 b3
       cases q
       ·have hno : x ∉ T := of_decide_eq_false HQ2.out.symm
        have HNO := Lib.hid (show ¬ LeadL xs (tos xs x) x from fun h => hno (hT.2 h))
        clear hno hT y0_ y1_
        go_wp2
        go_roundw
        case rel => exact ⟨_, cnt1, ys, RG4, HO4, HN, Lib.hid (HQ1.out _ (fun b => ⟨fun h => .inl h, fun h => h.elim id (fun h => absurd h.2 HNO.out)⟩)), B4⟩
        case measure => rw [RG4.out.left_eq, hml.out]; exact hlt
       ·have hye : x ∈ T := of_decide_eq_true HQ2.out.symm
        have HYE := Lib.hid (hT.1 hye)
        clear hye hT
        go_wp2_with (first | ((with_reducible refine gate_builtin (b := .append) (xs := #[.tmp 25, .tmp 27]) rfl ?_); (try (refine gate_guard (by rfl) ?_; dsimp only)); at_builtin; (refine Kd.R_append kAddr (w0 := u) (u.heap.size) rfl (.tmp 25) (.tmp 27) 25 30 (.agg #[(.string ⟨#[]⟩), (.string ⟨#[]⟩)]) 32 rfl Tryd.underlying25 info30 rfl (by decide) (by omega) (.slice vB ys.length vd) ys x [.string x.f0, .string x.f1] (fun k => k ≠ bg ∧ k ≠ r) (fun _ => False) rfl rfl (kAddr_mkM _ _ _ x) (fun _ hk => hk.elim) (fun k hk => ⟨by omega, by omega⟩) HO4.out B4.out (B4.out).size (by omega) ?_); intro v9 w9 ho hb hg hat; have RG9 := Aside0.mk (RG4.out.kept hg (fun e => (HO4.out.1 _ e.symm).1 rfl) (fun e => (HO4.out.1 _ e.symm).2 rfl)); have HO9 := Aside0.mk ho; have B9 := Aside0.mk hb; clear ho hb hg hat))
        go_roundw
        case rel => exact ⟨_, cnt1, ys ++ [x], RG9, HO9, Lib.hid (List.nodup_append.2 ⟨HN.out, by simp, fun a ha b hb => by rw [List.mem_singleton.1 hb]; exact fun e => HNW.out (e ▸ ha)⟩), Lib.hid (HQ1.out _ (fun b => by rw [List.mem_append, List.mem_singleton]; exact or_congr_right ⟨fun h => ⟨h, HYE.out⟩, fun h => h.1⟩)), B9⟩
        case measure => rw [RG9.out.left_eq, hml.out]; exact hlt
end Go.Proofs.YticepbgacokbbaaDoor
