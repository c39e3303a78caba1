/- Drawn lists of aliases: a weak contract. -/
import Derived.Test.YticepbgacokbbaaGreatDoorReg
import Derived.Test.YticepbgacokbbaaGreatDoorAlSpec
import Derived.Test.YticepbgacokbbaaGreatDoorDrwBeg
import Derived.Deep.RegionHeld3
namespace Go.Proofs.YticepbgacokbbaaGreatDoor
open Go.RowKit Go.Proofs.YticepbgacokbbaaGreatDoorW.PrintWords
set_option linter.unusedVariables false
set_option linter.unusedSimpArgs false

def smallAl (n : Nat) (x : SAlias) : Prop := smallA x.f0 ∧ x.f1.length ≤ n ∧ ∀ y ∈ x.f1, smallA y
theorem smallAl_fit {n : Nat} (hn : n ≤ 1000) {x : SAlias} (h : smallAl n x) : fitAlias x := by
 obtain ⟨⟨a0, a1⟩, b0, b1⟩ := h
 exact ⟨⟨by omega, by omega⟩, by omega, fun y hy => by have := b1 y hy; exact ⟨by have := this.1; omega, by have := this.2; omega⟩⟩
theorem smallA_snoc {xs : List SAddr} {y : SAddr} (h : ∀ x ∈ xs, smallA x) (hy : smallA y) : ∀ x ∈ xs ++ [y], smallA x := fun x hx => by
 rcases List.mem_append.1 hx with hx | hx
 ·exact h x hx
 ·obtain rfl := List.mem_singleton.1 hx; exact hy
theorem smallAl_snoc {n : Nat} {xs : List SAlias} {y : SAlias} (h : ∀ x ∈ xs, smallAl n x) (hy : smallAl n y) : ∀ x ∈ xs ++ [y], smallAl n x := fun x hx => by
 rcases List.mem_append.1 hx with hx | hx
 ·exact h x hx
 ·obtain rfl := List.mem_singleton.1 hx; exact hy
theorem smallAl_set {n : Nat} {xs : List SAlias} {k : Nat} {y : SAlias} (h : ∀ x ∈ xs, smallAl n x) (hy : smallAl n y) : ∀ x ∈ xs.set k y, smallAl n x := fun x hx => by
 rcases List.mem_or_eq_of_mem_set hx with hx | hx
 ·exact h x hx
 ·subst hx; exact hy
set_option maxRecDepth 100000 in
set_option maxHeartbeats 8000000 in
theorem drAliases_any (g m : Nat) (w : World) (h : Rd g m w) (hm : m + 60 ≤ 1000000000) :
  Calls Tryz.prog 60 #[.pointer (some ⟨g, 0, none⟩)] w fun e w' => ∃ (xs : List SAlias) (B : Option Addr) (d : Nat), e = .returned (.slice B xs.length d) ∧ (xs.length ≤ 6 ∧ ∀ x ∈ xs, smallAl 3 x) ∧ Kd.R kAlias 58 w' w.heap.size (fun _ => True) (.slice B xs.length d) xs ∧ Rd g (m + 60) w' ∧ Dr g w w' := by
 have HR := Aside0.mk h
 have HD := Aside0.mk (Dr.refl g w)
 have hgl := h.lt
 have ng0 : ¬ w.heap.size = g := by omega
 have ng1 : ¬ w.heap.size + 1 = g := by omega
 have ng2 : ¬ w.heap.size + 2 = g := by omega
 clear h
 go_enter Tryz.func60, Tryz.ntmps60
 go_wp2_with fail
 generalize hVa : World.alloc w _ = W0
 have bV : Below w.heap.size w W0 := by rw [← hVa]; exact bel_alloc (Below.refl _ _) _
 have HO : Aside0 (Kd.R kAlias 58 W0 w.heap.size (fun _ => True) (.slice (some ⟨w.heap.size, 0, none⟩) 0 0) []) := ⟨by rw [← hVa]; exact R_empty kAlias 58 w w.heap.size (Nat.le_refl _) trivial⟩
 have zW0 : w.heap.size < W0.heap.size := by rw [← hVa]; simp
 clear hVa
 replace HR := Aside0.mk (HR.out.below bV)
 replace HD := Aside0.mk (HD.out.below bV)
 clear bV
 refine Calls.mono (pick_any g _ 7 _ HR.out (by omega) (by omega)) ?_
 rintro e w1 ⟨k0, rfl, hk0, hr_, hd_⟩
 replace HO := Aside0.mk (Dr.R hd_ HO.out hgl)
 replace HR := Aside0.mk hr_
 replace HD := Aside0.mk (Dr.then_ HD.out hd_)
 have yw1 := HD.out.size
 clear hr_ hd_
 have hk0 := hk0 (by omega)
 go_wp2
 go_loopg [3, 4, 5, 6] 6 (fun gq v3 v4 _ _ wr => ∃ (kk : Nat) (xs : List SAlias) (A : Option Addr) (c : Nat), kk ≤ gq ∧ kk ≤ 6 ∧ v4 = .int .i64 (kk : Int) ∧ v3 = .slice A xs.length c ∧ xs.length + kk ≤ 6 ∧ Aside0 (∀ x ∈ xs, smallAl 3 x) ∧ Aside0 (Kd.R kAlias 58 wr w.heap.size (fun _ => True) (.slice A xs.length c) xs) ∧ Aside0 (Rd g (m + 1 + 9 * (6 - kk)) wr) ∧ Aside0 (Dr g w wr))
 case atStart => exact ⟨k0, [], some ⟨w.heap.size, 0, none⟩, 0, by omega, by omega, rfl, rfl, by simp; omega, ⟨fun x hx => by cases hx⟩, HO, ⟨HR.out.up (by omega)⟩, HD⟩
 case round =>
  clear HO HR HD
  obtain ⟨kk, xs, A, c, hkg, hkk, rfl, rfl, hxl, HX, HO, HR, HD⟩ := hrel
  have ywr := HD.out.size
  by_cases hlt : 0 < kk
  ·have hlt' : (0 : Int) < (kk : Int) := by omega
   go_wp2_with fail
   generalize hVa : World.alloc wr _ = V1
   have bV : Below wr.heap.size wr V1 := by rw [← hVa]; exact bel_alloc (Below.refl _ _) _
   have nFS : Aside0 (V1.heap[wr.heap.size]? = some (.cells #[.string ⟨#[97]⟩, .string ⟨#[98]⟩, .string ⟨#[99]⟩, .string ⟨#[100]⟩] 9 (0, 0))) := ⟨by rw [← hVa]; exact blk_new _ _⟩
   clear hVa
   replace HO := Aside0.mk (Kd.R_below HO.out bV)
   replace HR := Aside0.mk (HR.out.below bV)
   replace HD := Aside0.mk (HD.out.below bV)
   have yV1 := HD.out.size
   have FS := nFS
   clear nFS bV
   refine Calls.mono (of_any g _ _ _ _ _ _ V1 HR.out (by omega) FS.out (by decide) (by rfl) (by decide) (by decide) (by rfl)) ?_
   rintro e V2 ⟨s1, rfl, hs1, hr_, hd_⟩
   clear FS
   replace HO := Aside0.mk (Dr.R hd_ HO.out hgl)
   replace HR := Aside0.mk hr_
   replace HD := Aside0.mk (Dr.then_ HD.out hd_)
   have yV2 := HD.out.size
   clear hr_ hd_
   go_wp2_with fail
   generalize hVa : World.alloc V2 _ = V3
   have bV : Below V2.heap.size V2 V3 := by rw [← hVa]; exact bel_alloc (Below.refl _ _) _
   have nFT : Aside0 (V3.heap[V2.heap.size]? = some (.cells #[.string ⟨#[111, 110, 101, 46, 111, 114, 103]⟩, .string ⟨#[116, 119, 111, 46, 111, 114, 103]⟩] 9 (0, 0))) := ⟨by rw [← hVa]; exact blk_new _ _⟩
   clear hVa
   replace HO := Aside0.mk (Kd.R_below HO.out bV)
   replace HR := Aside0.mk (HR.out.below bV)
   replace HD := Aside0.mk (HD.out.below bV)
   have yV3 := HD.out.size
   have FT := nFT
   clear nFT bV
   refine Calls.mono (of_any g _ _ _ _ _ _ V3 HR.out (by omega) FT.out (by decide) (by rfl) (by decide) (by decide) (by rfl)) ?_
   rintro e V4 ⟨s2, rfl, hs2, hr_, hd_⟩
   clear FT
   replace HO := Aside0.mk (Dr.R hd_ HO.out hgl)
   replace HR := Aside0.mk hr_
   replace HD := Aside0.mk (Dr.then_ HD.out hd_)
   have yV4 := HD.out.size
   clear hr_ hd_
   go_wp2_with fail
   obtain ⟨gx, hgx⟩ : ∃ q, q = V4.heap.size := ⟨_, rfl⟩
   have hgx1 : g < gx + 1 := by omega
   have hgx2 : w.heap.size ≤ gx := by omega
   replace HO := Aside0.mk (show Kd.R kAlias 58 V4 w.heap.size (fun k => k < gx) (.slice A xs.length c) xs from Kd.R_mono (Kd.R_bound HO.out) (fun k hk => by have := hk.2.2.1; omega))
   generalize hWX : World.alloc V4 _ = V5
   have nFX : V5.heap[V4.heap.size]? = some (.cells #[.string s1, .string s2, .slice none 0 0] 58 (0, 0)) := by rw [← hWX]; exact blk_new _ _
   have bV : Below V4.heap.size V4 V5 := by rw [← hWX]; exact bel_alloc (Below.refl _ _) _
   clear hWX
   replace HO := Aside0.mk (Kd.R_below HO.out bV)
   replace HR := Aside0.mk (HR.out.below bV)
   replace HD := Aside0.mk (HD.out.below bV)
   have yV5 := HD.out.size
   rw [← hgx] at nFX ⊢
   have FX := Aside0.mk nFX
   clear nFX bV hgx
   refine Calls.mono (pick_any g _ 3 _ HR.out (by omega) (by omega)) ?_
   rintro e V6 ⟨k6, rfl, hk6, hr_, hd_⟩
   replace FX := Aside0.mk (hd_.blk FX.out (by omega))
   replace HO := Aside0.mk (Dr.R hd_ HO.out hgl)
   replace HR := Aside0.mk hr_
   replace HD := Aside0.mk (Dr.then_ HD.out hd_)
   have yV6 := HD.out.size
   clear hr_ hd_
   have hk6 := hk6 (by omega)
   have hwn : IntKind.i64.wrap (1 + (k6 : Int)) = 1 + (k6 : Int) := IntWalk.i64_in _ (by omega)
   go_wp2
   have HTn : Aside0 (Kd.R kAddr 25 V6 (gx + 1) (fun _ => True) (.slice none 0 0) []) := ⟨Kd.R_nil _ _ _ _ _⟩
   go_loopg [6] 3 (fun gq2 v6 wr => ∃ (q : Nat) (ts : List SAddr) (B : Option Addr) (dd : Nat), q ≤ gq2 ∧ q ≤ 3 ∧ v6 = .int .i64 (q : Int) ∧ ts.length + q ≤ 3 ∧ Aside0 (∀ t ∈ ts, smallA t) ∧ Aside0 (wr.heap[gx]? = some (.cells #[.string s1, .string s2, .slice B ts.length dd] 58 (0, 0))) ∧ Aside0 (Kd.R kAddr 25 wr (gx + 1) (fun _ => True) (.slice B ts.length dd) ts) ∧ Aside0 (Kd.R kAlias 58 wr w.heap.size (fun k => k < gx) (.slice A xs.length c) xs) ∧ Aside0 (Rd g (m + 1 + 9 * (6 - kk) + 3 + 2 * (3 - q)) wr) ∧ Aside0 (Dr g w wr))
   case atStart => exact ⟨1 + k6, [], none, 0, by omega, by omega, congrArg (Value.int .i64) (by omega), by simp; omega, ⟨fun t ht => by cases ht⟩, FX, HTn, HO, ⟨HR.out.up (by omega)⟩, HD⟩
   case round =>
    clear FX HTn HO HR HD
    obtain ⟨q, ts, B, dd, hqg, hq3, rfl, htl, HTS, FX, HT, HO, HR, HD⟩ := hrel
    have ywr2 := HD.out.size
    by_cases hl2 : 0 < q
    ·have hl2' : (0 : Int) < (q : Int) := by omega
     have zFX := blk_lt FX.out
     have cFX_0 : wr.cell? ⟨gx, 0, none⟩ = some (.string s1) := clq FX.out 0 rfl
     have cFX_1 : wr.cell? ⟨gx, 1, none⟩ = some (.string s2) := clq FX.out 1 rfl
     have cFX_2 : wr.cell? ⟨gx, 2, none⟩ = some (.slice B ts.length dd) := clq FX.out 2 rfl
     go_wp2
     have joinK : Hid (∀ {goal : Prop} {G : Nat → Nat → ByteArray → ByteArray → World → Prop} (rg : Hid (∀ (ga gb : Nat) (a1 a2 : ByteArray) (V : World), smallA ⟨a1, a2⟩ ∧ V.heap[gx]? = some (.cells #[.string s1, .string s2, .slice B ts.length dd] 58 (0, 0)) ∧ Kd.R kAddr 25 V (gx + 1) (fun _ => True) (.slice B ts.length dd) ts ∧ Kd.R kAlias 58 V w.heap.size (fun k => k < gx) (.slice A xs.length c) xs ∧ Rd g (m + 1 + 9 * (6 - kk) + 3 + 2 * (3 - q) + 2) V ∧ Dr g w V → G ga gb a1 a2 V) → goal) (hk : ∀ (ga gb : Nat) (a1 a2 : ByteArray) (V : World), smallA ⟨a1, a2⟩ ∧ V.heap[gx]? = some (.cells #[.string s1, .string s2, .slice B ts.length dd] 58 (0, 0)) ∧ Kd.R kAddr 25 V (gx + 1) (fun _ => True) (.slice B ts.length dd) ts ∧ Kd.R kAlias 58 V w.heap.size (fun k => k < gx) (.slice A xs.length c) xs ∧ Rd g (m + 1 + 9 * (6 - kk) + 3 + 2 * (3 - q) + 2) V ∧ Dr g w V → G ga gb a1 a2 V), goal) := Lib.hid (fun f h => f (Lib.hid h))
     have joinB : Hid (∀ {goal : Prop} {G : Nat → Nat → ByteArray → ByteArray → World → Prop} (rg : Hid (∀ (ga gb : Nat) (a1 a2 : ByteArray) (V : World), smallA ⟨a1, a2⟩ ∧ V.heap[gx]? = some (.cells #[.string s1, .string s2, .slice B ts.length dd] 58 (0, 0)) ∧ Kd.R kAddr 25 V (gx + 1) (fun _ => True) (.slice B ts.length dd) ts ∧ Kd.R kAlias 58 V w.heap.size (fun k => k < gx) (.slice A xs.length c) xs ∧ Rd g (m + 1 + 9 * (6 - kk) + 3 + 2 * (3 - q) + 2) V ∧ Dr g w V → G ga gb a1 a2 V) → goal) (hk : ∀ (ga gb : Nat) (a1 a2 : ByteArray) (V : World), smallA ⟨a1, a2⟩ ∧ V.heap[gx]? = some (.cells #[.string s1, .string s2, .slice B ts.length dd] 58 (0, 0)) ∧ Kd.R kAddr 25 V (gx + 1) (fun _ => True) (.slice B ts.length dd) ts ∧ Kd.R kAlias 58 V w.heap.size (fun k => k < gx) (.slice A xs.length c) xs ∧ Rd g (m + 1 + 9 * (6 - kk) + 3 + 2 * (3 - q) + 2) V ∧ Dr g w V → G ga gb a1 a2 V), goal) := Lib.hid (fun f h => f (Lib.hid h))
     apply joinK.out
     case rg =>
      intro HKK
      apply joinB.out
      case rg =>
       intro HKB
       refine wp_region_held_drew (S := (fun _ => True)) (by kernel_rfl) ?s1 (fun hHeld => ?t1)
       case s1 => exact trivial
       generalize hV0 : World.drew wr = V0 at hHeld ⊢
       have bV : Below wr.heap.size wr V0 := by rw [← hV0]; exact drew_below0 wr
       clear hV0
       replace FX := Aside0.mk (below_blk FX.out bV)
       replace HO := Aside0.mk (Kd.R_below HO.out bV)
       replace HT := Aside0.mk (Kd.R_below HT.out bV)
       replace HR := Aside0.mk (HR.out.below bV)
       replace HD := Aside0.mk (HD.out.below bV)
       have yV0 := HD.out.size
       clear bV
       have zFX := blk_lt FX.out
       have cFX_0 : V0.cell? ⟨gx, 0, none⟩ = some (.string s1) := clq FX.out 0 rfl
       have cFX_1 : V0.cell? ⟨gx, 1, none⟩ = some (.string s2) := clq FX.out 1 rfl
       have cFX_2 : V0.cell? ⟨gx, 2, none⟩ = some (.slice B ts.length dd) := clq FX.out 2 rfl
       refine tk 0 ?v2 ?y2 ?r2
       case y2 => intro w_ hSw; (try dsimp only at hSw); go_simp; (try (with_reducible rfl))
       try simp only [Act.put, List.setIfInBounds_toArray, List.set_cons_zero, List.set_cons_succ]
       refine tk 2 ?v3 ?y3 ?r3
       case y3 => intro w_ hSw; (try dsimp only at hSw); go_simp; (try (with_reducible rfl))
       try simp only [Act.put, List.setIfInBounds_toArray, List.set_cons_zero, List.set_cons_succ]
       refine tk 5 ?v4 ?y4 ?r4
       case y4 => intro w_ hSw; (try dsimp only at hSw); go_simp; (try (with_reducible rfl))
       try simp only [Act.put, List.setIfInBounds_toArray, List.set_cons_zero, List.set_cons_succ]
       refine rdy (rs := [1, 3, 6]) ?_
       refine rc (fun K hK => ?k5) (rc (fun K hK => ?k6) (rc (fun K hK => ?k7) AllReadyH.nil))
       case k5 =>
        go_simp
        refine hK.out _ _ ?h8 (fun hHeld => ?j8)
        case h8 => exact hHeld
        clear hK K
        try simp only [Act.put, List.setIfInBounds_toArray, List.set_cons_zero, List.set_cons_succ]
        refine rdy (rs := [3, 6]) ?_
        refine rc (fun K hK => ?k9) (rc (fun K hK => ?k10) AllReadyH.nil)
        case k9 =>
         go_simp
         obtain ⟨ga, hga⟩ : ∃ q, q = V0.heap.size := ⟨_, rfl⟩
         rw [← hga]
         generalize hVa : World.alloc V0 _ = V3
         have bV : Below V0.heap.size V0 V3 := by rw [← hVa]; exact bel_alloc (Below.refl _ _) _
         have nFA : Aside0 (V3.heap[ga]? = some (.cells #[.string ⟨#[97]⟩, .string ⟨#[98]⟩, .string ⟨#[99]⟩, .string ⟨#[100]⟩, .string ⟨#[101]⟩] 9 (0, 0))) := ⟨by rw [← hVa, hga]; exact blk_new _ _⟩
         have lga : w.heap.size ≤ ga := by rw [hga]; exact HD.out.size
         clear hVa hga
         clear zFX cFX_0 cFX_1 cFX_2
         replace FX := Aside0.mk (below_blk FX.out bV)
         replace HO := Aside0.mk (Kd.R_below HO.out bV)
         replace HT := Aside0.mk (Kd.R_below HT.out bV)
         replace HR := Aside0.mk (HR.out.below bV)
         replace HD := Aside0.mk (HD.out.below bV)
         have yV3 := HD.out.size
         have FA := nFA
         clear nFA bV
         have zFX := blk_lt FX.out
         have cFX_0 : V3.cell? ⟨gx, 0, none⟩ = some (.string s1) := clq FX.out 0 rfl
         have cFX_1 : V3.cell? ⟨gx, 1, none⟩ = some (.string s2) := clq FX.out 1 rfl
         have cFX_2 : V3.cell? ⟨gx, 2, none⟩ = some (.slice B ts.length dd) := clq FX.out 2 rfl
         refine hK.out _ _ ?h11 (fun hHeld => ?j11)
         case h11 => exact trivial
         clear hK K
         try simp only [Act.put, List.setIfInBounds_toArray, List.set_cons_zero, List.set_cons_succ]
         refine rdy (rs := [4, 6]) ?_
         refine rc (fun K hK => ?k12) (rc (fun K hK => ?k13) AllReadyH.nil)
         case k12 =>
          go_simp
          refine Calls.mono (of_any g _ _ _ _ _ _ V3 HR.out (by omega) FA.out (by decide) (by rfl) (by decide) (by decide) (by rfl)) ?_
          rintro e V4 ⟨a1, rfl, ha1, hr_, hd_⟩
          clear FA
          clear zFX cFX_0 cFX_1 cFX_2
          replace FX := Aside0.mk (hd_.blk FX.out (by omega))
          replace HO := Aside0.mk (Dr.R hd_ HO.out hgl)
          replace HT := Aside0.mk (Dr.R hd_ HT.out hgx1)
          replace HR := Aside0.mk hr_
          replace HD := Aside0.mk (Dr.then_ HD.out hd_)
          have yV4 := HD.out.size
          clear hr_ hd_
          have zFX := blk_lt FX.out
          have cFX_0 : V4.cell? ⟨gx, 0, none⟩ = some (.string s1) := clq FX.out 0 rfl
          have cFX_1 : V4.cell? ⟨gx, 1, none⟩ = some (.string s2) := clq FX.out 1 rfl
          have cFX_2 : V4.cell? ⟨gx, 2, none⟩ = some (.slice B ts.length dd) := clq FX.out 2 rfl
          refine hK.out _ _ ?h14 (fun hHeld => ?j14)
          case h14 => exact trivial
          clear hK K
          try simp only [Act.put, List.setIfInBounds_toArray, List.set_cons_zero, List.set_cons_succ]
          refine rdy (rs := [6]) ?_
          refine rc (fun K hK => ?k15) AllReadyH.nil
          case k15 =>
           go_simp
           obtain ⟨gb, hgb⟩ : ∃ q, q = V4.heap.size := ⟨_, rfl⟩
           rw [← hgb]
           generalize hVa : World.alloc V4 _ = V6
           have bV : Below V4.heap.size V4 V6 := by rw [← hVa]; exact bel_alloc (Below.refl _ _) _
           have nFB : Aside0 (V6.heap[gb]? = some (.cells #[.string ⟨#[111, 110, 101, 46, 111, 114, 103]⟩, .string ⟨#[116, 119, 111, 46, 111, 114, 103]⟩] 9 (0, 0))) := ⟨by rw [← hVa, hgb]; exact blk_new _ _⟩
           have lgb : w.heap.size ≤ gb := by rw [hgb]; exact HD.out.size
           clear hVa hgb
           clear zFX cFX_0 cFX_1 cFX_2
           replace FX := Aside0.mk (below_blk FX.out bV)
           replace HO := Aside0.mk (Kd.R_below HO.out bV)
           replace HT := Aside0.mk (Kd.R_below HT.out bV)
           replace HR := Aside0.mk (HR.out.below bV)
           replace HD := Aside0.mk (HD.out.below bV)
           have yV6 := HD.out.size
           have FB := nFB
           clear nFB bV
           have zFX := blk_lt FX.out
           have cFX_0 : V6.cell? ⟨gx, 0, none⟩ = some (.string s1) := clq FX.out 0 rfl
           have cFX_1 : V6.cell? ⟨gx, 1, none⟩ = some (.string s2) := clq FX.out 1 rfl
           have cFX_2 : V6.cell? ⟨gx, 2, none⟩ = some (.slice B ts.length dd) := clq FX.out 2 rfl
           refine hK.out _ _ ?h16 (fun hHeld => ?j16)
           case h16 => exact trivial
           clear hK K
           try simp only [Act.put, List.setIfInBounds_toArray, List.set_cons_zero, List.set_cons_succ]
           refine rdy (rs := [7]) ?_
           refine rc (fun K hK => ?k17) AllReadyH.nil
           case k17 =>
            go_simp
            refine Calls.mono (of_any g _ _ _ _ _ _ V6 HR.out (by omega) FB.out (by decide) (by rfl) (by decide) (by decide) (by rfl)) ?_
            rintro e V7 ⟨a2, rfl, ha2, hr_, hd_⟩
            clear FB
            clear zFX cFX_0 cFX_1 cFX_2
            replace FX := Aside0.mk (hd_.blk FX.out (by omega))
            replace HO := Aside0.mk (Dr.R hd_ HO.out hgl)
            replace HT := Aside0.mk (Dr.R hd_ HT.out hgx1)
            replace HR := Aside0.mk hr_
            replace HD := Aside0.mk (Dr.then_ HD.out hd_)
            have yV7 := HD.out.size
            clear hr_ hd_
            have zFX := blk_lt FX.out
            have cFX_0 : V7.cell? ⟨gx, 0, none⟩ = some (.string s1) := clq FX.out 0 rfl
            have cFX_1 : V7.cell? ⟨gx, 1, none⟩ = some (.string s2) := clq FX.out 1 rfl
            have cFX_2 : V7.cell? ⟨gx, 2, none⟩ = some (.slice B ts.length dd) := clq FX.out 2 rfl
            refine hK.out _ _ ?h18 (fun hHeld => ?j18)
            case h18 => exact trivial
            clear hK K
            try simp only [Act.put, List.setIfInBounds_toArray, List.set_cons_zero, List.set_cons_succ]
            exact HKK.out ga gb a1 a2 V7 ⟨⟨ha1, ha2⟩, FX.out, HT.out, HO.out, HR.out.up (by omega), HD.out⟩
         case k13 =>
          go_simp
          obtain ⟨gb, hgb⟩ : ∃ q, q = V3.heap.size := ⟨_, rfl⟩
          rw [← hgb]
          generalize hVa : World.alloc V3 _ = V6
          have bV : Below V3.heap.size V3 V6 := by rw [← hVa]; exact bel_alloc (Below.refl _ _) _
          have nFB : Aside0 (V6.heap[gb]? = some (.cells #[.string ⟨#[111, 110, 101, 46, 111, 114, 103]⟩, .string ⟨#[116, 119, 111, 46, 111, 114, 103]⟩] 9 (0, 0))) := ⟨by rw [← hVa, hgb]; exact blk_new _ _⟩
          have lgb : w.heap.size ≤ gb := by rw [hgb]; exact HD.out.size
          clear hVa hgb
          clear zFX cFX_0 cFX_1 cFX_2
          replace FX := Aside0.mk (below_blk FX.out bV)
          replace FA := Aside0.mk (below_blk FA.out bV)
          replace HO := Aside0.mk (Kd.R_below HO.out bV)
          replace HT := Aside0.mk (Kd.R_below HT.out bV)
          replace HR := Aside0.mk (HR.out.below bV)
          replace HD := Aside0.mk (HD.out.below bV)
          have yV6 := HD.out.size
          have FB := nFB
          clear nFB bV
          have zFX := blk_lt FX.out
          have cFX_0 : V6.cell? ⟨gx, 0, none⟩ = some (.string s1) := clq FX.out 0 rfl
          have cFX_1 : V6.cell? ⟨gx, 1, none⟩ = some (.string s2) := clq FX.out 1 rfl
          have cFX_2 : V6.cell? ⟨gx, 2, none⟩ = some (.slice B ts.length dd) := clq FX.out 2 rfl
          refine hK.out _ _ ?h19 (fun hHeld => ?j19)
          case h19 => exact trivial
          clear hK K
          try simp only [Act.put, List.setIfInBounds_toArray, List.set_cons_zero, List.set_cons_succ]
          refine rdy (rs := [4]) ?_
          refine rc (fun K hK => ?k20) AllReadyH.nil
          case k20 =>
           go_simp
           refine Calls.mono (of_any g _ _ _ _ _ _ V6 HR.out (by omega) FA.out (by decide) (by rfl) (by decide) (by decide) (by rfl)) ?_
           rintro e V4 ⟨a1, rfl, ha1, hr_, hd_⟩
           clear FA
           clear zFX cFX_0 cFX_1 cFX_2
           replace FX := Aside0.mk (hd_.blk FX.out (by omega))
           replace FB := Aside0.mk (hd_.blk FB.out (by omega))
           replace HO := Aside0.mk (Dr.R hd_ HO.out hgl)
           replace HT := Aside0.mk (Dr.R hd_ HT.out hgx1)
           replace HR := Aside0.mk hr_
           replace HD := Aside0.mk (Dr.then_ HD.out hd_)
           have yV4 := HD.out.size
           clear hr_ hd_
           have zFX := blk_lt FX.out
           have cFX_0 : V4.cell? ⟨gx, 0, none⟩ = some (.string s1) := clq FX.out 0 rfl
           have cFX_1 : V4.cell? ⟨gx, 1, none⟩ = some (.string s2) := clq FX.out 1 rfl
           have cFX_2 : V4.cell? ⟨gx, 2, none⟩ = some (.slice B ts.length dd) := clq FX.out 2 rfl
           refine hK.out _ _ ?h21 (fun hHeld => ?j21)
           case h21 => exact trivial
           clear hK K
           try simp only [Act.put, List.setIfInBounds_toArray, List.set_cons_zero, List.set_cons_succ]
           refine rdy (rs := [7]) ?_
           refine rc (fun K hK => ?k22) AllReadyH.nil
           case k22 =>
            go_simp
            refine Calls.mono (of_any g _ _ _ _ _ _ V4 HR.out (by omega) FB.out (by decide) (by rfl) (by decide) (by decide) (by rfl)) ?_
            rintro e V7 ⟨a2, rfl, ha2, hr_, hd_⟩
            clear FB
            clear zFX cFX_0 cFX_1 cFX_2
            replace FX := Aside0.mk (hd_.blk FX.out (by omega))
            replace HO := Aside0.mk (Dr.R hd_ HO.out hgl)
            replace HT := Aside0.mk (Dr.R hd_ HT.out hgx1)
            replace HR := Aside0.mk hr_
            replace HD := Aside0.mk (Dr.then_ HD.out hd_)
            have yV7 := HD.out.size
            clear hr_ hd_
            have zFX := blk_lt FX.out
            have cFX_0 : V7.cell? ⟨gx, 0, none⟩ = some (.string s1) := clq FX.out 0 rfl
            have cFX_1 : V7.cell? ⟨gx, 1, none⟩ = some (.string s2) := clq FX.out 1 rfl
            have cFX_2 : V7.cell? ⟨gx, 2, none⟩ = some (.slice B ts.length dd) := clq FX.out 2 rfl
            refine hK.out _ _ ?h23 (fun hHeld => ?j23)
            case h23 => exact trivial
            clear hK K
            try simp only [Act.put, List.setIfInBounds_toArray, List.set_cons_zero, List.set_cons_succ]
            exact HKK.out ga gb a1 a2 V7 ⟨⟨ha1, ha2⟩, FX.out, HT.out, HO.out, HR.out.up (by omega), HD.out⟩
        case k10 =>
         go_simp
         obtain ⟨gb, hgb⟩ : ∃ q, q = V0.heap.size := ⟨_, rfl⟩
         rw [← hgb]
         generalize hVa : World.alloc V0 _ = V6
         have bV : Below V0.heap.size V0 V6 := by rw [← hVa]; exact bel_alloc (Below.refl _ _) _
         have nFB : Aside0 (V6.heap[gb]? = some (.cells #[.string ⟨#[111, 110, 101, 46, 111, 114, 103]⟩, .string ⟨#[116, 119, 111, 46, 111, 114, 103]⟩] 9 (0, 0))) := ⟨by rw [← hVa, hgb]; exact blk_new _ _⟩
         have lgb : w.heap.size ≤ gb := by rw [hgb]; exact HD.out.size
         clear hVa hgb
         clear zFX cFX_0 cFX_1 cFX_2
         replace FX := Aside0.mk (below_blk FX.out bV)
         replace HO := Aside0.mk (Kd.R_below HO.out bV)
         replace HT := Aside0.mk (Kd.R_below HT.out bV)
         replace HR := Aside0.mk (HR.out.below bV)
         replace HD := Aside0.mk (HD.out.below bV)
         have yV6 := HD.out.size
         have FB := nFB
         clear nFB bV
         have zFX := blk_lt FX.out
         have cFX_0 : V6.cell? ⟨gx, 0, none⟩ = some (.string s1) := clq FX.out 0 rfl
         have cFX_1 : V6.cell? ⟨gx, 1, none⟩ = some (.string s2) := clq FX.out 1 rfl
         have cFX_2 : V6.cell? ⟨gx, 2, none⟩ = some (.slice B ts.length dd) := clq FX.out 2 rfl
         refine hK.out _ _ ?h24 (fun hHeld => ?j24)
         case h24 => exact trivial
         clear hK K
         try simp only [Act.put, List.setIfInBounds_toArray, List.set_cons_zero, List.set_cons_succ]
         refine rdy (rs := [3]) ?_
         refine rc (fun K hK => ?k25) AllReadyH.nil
         case k25 =>
          go_simp
          obtain ⟨ga, hga⟩ : ∃ q, q = V6.heap.size := ⟨_, rfl⟩
          rw [← hga]
          generalize hVa : World.alloc V6 _ = V3
          have bV : Below V6.heap.size V6 V3 := by rw [← hVa]; exact bel_alloc (Below.refl _ _) _
          have nFA : Aside0 (V3.heap[ga]? = some (.cells #[.string ⟨#[97]⟩, .string ⟨#[98]⟩, .string ⟨#[99]⟩, .string ⟨#[100]⟩, .string ⟨#[101]⟩] 9 (0, 0))) := ⟨by rw [← hVa, hga]; exact blk_new _ _⟩
          have lga : w.heap.size ≤ ga := by rw [hga]; exact HD.out.size
          clear hVa hga
          clear zFX cFX_0 cFX_1 cFX_2
          replace FX := Aside0.mk (below_blk FX.out bV)
          replace FB := Aside0.mk (below_blk FB.out bV)
          replace HO := Aside0.mk (Kd.R_below HO.out bV)
          replace HT := Aside0.mk (Kd.R_below HT.out bV)
          replace HR := Aside0.mk (HR.out.below bV)
          replace HD := Aside0.mk (HD.out.below bV)
          have yV3 := HD.out.size
          have FA := nFA
          clear nFA bV
          have zFX := blk_lt FX.out
          have cFX_0 : V3.cell? ⟨gx, 0, none⟩ = some (.string s1) := clq FX.out 0 rfl
          have cFX_1 : V3.cell? ⟨gx, 1, none⟩ = some (.string s2) := clq FX.out 1 rfl
          have cFX_2 : V3.cell? ⟨gx, 2, none⟩ = some (.slice B ts.length dd) := clq FX.out 2 rfl
          refine hK.out _ _ ?h26 (fun hHeld => ?j26)
          case h26 => exact trivial
          clear hK K
          try simp only [Act.put, List.setIfInBounds_toArray, List.set_cons_zero, List.set_cons_succ]
          refine rdy (rs := [4]) ?_
          refine rc (fun K hK => ?k27) AllReadyH.nil
          case k27 =>
           go_simp
           refine Calls.mono (of_any g _ _ _ _ _ _ V3 HR.out (by omega) FA.out (by decide) (by rfl) (by decide) (by decide) (by rfl)) ?_
           rintro e V4 ⟨a1, rfl, ha1, hr_, hd_⟩
           clear FA
           clear zFX cFX_0 cFX_1 cFX_2
           replace FX := Aside0.mk (hd_.blk FX.out (by omega))
           replace FB := Aside0.mk (hd_.blk FB.out (by omega))
           replace HO := Aside0.mk (Dr.R hd_ HO.out hgl)
           replace HT := Aside0.mk (Dr.R hd_ HT.out hgx1)
           replace HR := Aside0.mk hr_
           replace HD := Aside0.mk (Dr.then_ HD.out hd_)
           have yV4 := HD.out.size
           clear hr_ hd_
           have zFX := blk_lt FX.out
           have cFX_0 : V4.cell? ⟨gx, 0, none⟩ = some (.string s1) := clq FX.out 0 rfl
           have cFX_1 : V4.cell? ⟨gx, 1, none⟩ = some (.string s2) := clq FX.out 1 rfl
           have cFX_2 : V4.cell? ⟨gx, 2, none⟩ = some (.slice B ts.length dd) := clq FX.out 2 rfl
           refine hK.out _ _ ?h28 (fun hHeld => ?j28)
           case h28 => exact trivial
           clear hK K
           try simp only [Act.put, List.setIfInBounds_toArray, List.set_cons_zero, List.set_cons_succ]
           refine rdy (rs := [7]) ?_
           refine rc (fun K hK => ?k29) AllReadyH.nil
           case k29 =>
            go_simp
            refine Calls.mono (of_any g _ _ _ _ _ _ V4 HR.out (by omega) FB.out (by decide) (by rfl) (by decide) (by decide) (by rfl)) ?_
            rintro e V7 ⟨a2, rfl, ha2, hr_, hd_⟩
            clear FB
            clear zFX cFX_0 cFX_1 cFX_2
            replace FX := Aside0.mk (hd_.blk FX.out (by omega))
            replace HO := Aside0.mk (Dr.R hd_ HO.out hgl)
            replace HT := Aside0.mk (Dr.R hd_ HT.out hgx1)
            replace HR := Aside0.mk hr_
            replace HD := Aside0.mk (Dr.then_ HD.out hd_)
            have yV7 := HD.out.size
            clear hr_ hd_
            have zFX := blk_lt FX.out
            have cFX_0 : V7.cell? ⟨gx, 0, none⟩ = some (.string s1) := clq FX.out 0 rfl
            have cFX_1 : V7.cell? ⟨gx, 1, none⟩ = some (.string s2) := clq FX.out 1 rfl
            have cFX_2 : V7.cell? ⟨gx, 2, none⟩ = some (.slice B ts.length dd) := clq FX.out 2 rfl
            refine hK.out _ _ ?h30 (fun hHeld => ?j30)
            case h30 => exact trivial
            clear hK K
            try simp only [Act.put, List.setIfInBounds_toArray, List.set_cons_zero, List.set_cons_succ]
            exact HKK.out ga gb a1 a2 V7 ⟨⟨ha1, ha2⟩, FX.out, HT.out, HO.out, HR.out.up (by omega), HD.out⟩
       case k6 =>
        go_simp
        obtain ⟨ga, hga⟩ : ∃ q, q = V0.heap.size := ⟨_, rfl⟩
        rw [← hga]
        generalize hVa : World.alloc V0 _ = V3
        have bV : Below V0.heap.size V0 V3 := by rw [← hVa]; exact bel_alloc (Below.refl _ _) _
        have nFA : Aside0 (V3.heap[ga]? = some (.cells #[.string ⟨#[97]⟩, .string ⟨#[98]⟩, .string ⟨#[99]⟩, .string ⟨#[100]⟩, .string ⟨#[101]⟩] 9 (0, 0))) := ⟨by rw [← hVa, hga]; exact blk_new _ _⟩
        have lga : w.heap.size ≤ ga := by rw [hga]; exact HD.out.size
        clear hVa hga
        clear zFX cFX_0 cFX_1 cFX_2
        replace FX := Aside0.mk (below_blk FX.out bV)
        replace HO := Aside0.mk (Kd.R_below HO.out bV)
        replace HT := Aside0.mk (Kd.R_below HT.out bV)
        replace HR := Aside0.mk (HR.out.below bV)
        replace HD := Aside0.mk (HD.out.below bV)
        have yV3 := HD.out.size
        have FA := nFA
        clear nFA bV
        have zFX := blk_lt FX.out
        have cFX_0 : V3.cell? ⟨gx, 0, none⟩ = some (.string s1) := clq FX.out 0 rfl
        have cFX_1 : V3.cell? ⟨gx, 1, none⟩ = some (.string s2) := clq FX.out 1 rfl
        have cFX_2 : V3.cell? ⟨gx, 2, none⟩ = some (.slice B ts.length dd) := clq FX.out 2 rfl
        refine hK.out _ _ ?h31 (fun hHeld => ?j31)
        case h31 => exact trivial
        clear hK K
        try simp only [Act.put, List.setIfInBounds_toArray, List.set_cons_zero, List.set_cons_succ]
        refine rdy (rs := [1, 4, 6]) ?_
        refine rc (fun K hK => ?k32) (rc (fun K hK => ?k33) (rc (fun K hK => ?k34) AllReadyH.nil))
        case k32 =>
         go_simp
         refine hK.out _ _ ?h35 (fun hHeld => ?j35)
         case h35 => exact hHeld
         clear hK K
         try simp only [Act.put, List.setIfInBounds_toArray, List.set_cons_zero, List.set_cons_succ]
         refine rdy (rs := [4, 6]) ?_
         refine rc (fun K hK => ?k36) (rc (fun K hK => ?k37) AllReadyH.nil)
         case k36 =>
          go_simp
          refine Calls.mono (of_any g _ _ _ _ _ _ V3 HR.out (by omega) FA.out (by decide) (by rfl) (by decide) (by decide) (by rfl)) ?_
          rintro e V4 ⟨a1, rfl, ha1, hr_, hd_⟩
          clear FA
          clear zFX cFX_0 cFX_1 cFX_2
          replace FX := Aside0.mk (hd_.blk FX.out (by omega))
          replace HO := Aside0.mk (Dr.R hd_ HO.out hgl)
          replace HT := Aside0.mk (Dr.R hd_ HT.out hgx1)
          replace HR := Aside0.mk hr_
          replace HD := Aside0.mk (Dr.then_ HD.out hd_)
          have yV4 := HD.out.size
          clear hr_ hd_
          have zFX := blk_lt FX.out
          have cFX_0 : V4.cell? ⟨gx, 0, none⟩ = some (.string s1) := clq FX.out 0 rfl
          have cFX_1 : V4.cell? ⟨gx, 1, none⟩ = some (.string s2) := clq FX.out 1 rfl
          have cFX_2 : V4.cell? ⟨gx, 2, none⟩ = some (.slice B ts.length dd) := clq FX.out 2 rfl
          refine hK.out _ _ ?h38 (fun hHeld => ?j38)
          case h38 => exact trivial
          clear hK K
          try simp only [Act.put, List.setIfInBounds_toArray, List.set_cons_zero, List.set_cons_succ]
          refine rdy (rs := [6]) ?_
          refine rc (fun K hK => ?k39) AllReadyH.nil
          case k39 =>
           go_simp
           obtain ⟨gb, hgb⟩ : ∃ q, q = V4.heap.size := ⟨_, rfl⟩
           rw [← hgb]
           generalize hVa : World.alloc V4 _ = V6
           have bV : Below V4.heap.size V4 V6 := by rw [← hVa]; exact bel_alloc (Below.refl _ _) _
           have nFB : Aside0 (V6.heap[gb]? = some (.cells #[.string ⟨#[111, 110, 101, 46, 111, 114, 103]⟩, .string ⟨#[116, 119, 111, 46, 111, 114, 103]⟩] 9 (0, 0))) := ⟨by rw [← hVa, hgb]; exact blk_new _ _⟩
           have lgb : w.heap.size ≤ gb := by rw [hgb]; exact HD.out.size
           clear hVa hgb
           clear zFX cFX_0 cFX_1 cFX_2
           replace FX := Aside0.mk (below_blk FX.out bV)
           replace HO := Aside0.mk (Kd.R_below HO.out bV)
           replace HT := Aside0.mk (Kd.R_below HT.out bV)
           replace HR := Aside0.mk (HR.out.below bV)
           replace HD := Aside0.mk (HD.out.below bV)
           have yV6 := HD.out.size
           have FB := nFB
           clear nFB bV
           have zFX := blk_lt FX.out
           have cFX_0 : V6.cell? ⟨gx, 0, none⟩ = some (.string s1) := clq FX.out 0 rfl
           have cFX_1 : V6.cell? ⟨gx, 1, none⟩ = some (.string s2) := clq FX.out 1 rfl
           have cFX_2 : V6.cell? ⟨gx, 2, none⟩ = some (.slice B ts.length dd) := clq FX.out 2 rfl
           refine hK.out _ _ ?h40 (fun hHeld => ?j40)
           case h40 => exact trivial
           clear hK K
           try simp only [Act.put, List.setIfInBounds_toArray, List.set_cons_zero, List.set_cons_succ]
           refine rdy (rs := [7]) ?_
           refine rc (fun K hK => ?k41) AllReadyH.nil
           case k41 =>
            go_simp
            refine Calls.mono (of_any g _ _ _ _ _ _ V6 HR.out (by omega) FB.out (by decide) (by rfl) (by decide) (by decide) (by rfl)) ?_
            rintro e V7 ⟨a2, rfl, ha2, hr_, hd_⟩
            clear FB
            clear zFX cFX_0 cFX_1 cFX_2
            replace FX := Aside0.mk (hd_.blk FX.out (by omega))
            replace HO := Aside0.mk (Dr.R hd_ HO.out hgl)
            replace HT := Aside0.mk (Dr.R hd_ HT.out hgx1)
            replace HR := Aside0.mk hr_
            replace HD := Aside0.mk (Dr.then_ HD.out hd_)
            have yV7 := HD.out.size
            clear hr_ hd_
            have zFX := blk_lt FX.out
            have cFX_0 : V7.cell? ⟨gx, 0, none⟩ = some (.string s1) := clq FX.out 0 rfl
            have cFX_1 : V7.cell? ⟨gx, 1, none⟩ = some (.string s2) := clq FX.out 1 rfl
            have cFX_2 : V7.cell? ⟨gx, 2, none⟩ = some (.slice B ts.length dd) := clq FX.out 2 rfl
            refine hK.out _ _ ?h42 (fun hHeld => ?j42)
            case h42 => exact trivial
            clear hK K
            try simp only [Act.put, List.setIfInBounds_toArray, List.set_cons_zero, List.set_cons_succ]
            exact HKK.out ga gb a1 a2 V7 ⟨⟨ha1, ha2⟩, FX.out, HT.out, HO.out, HR.out.up (by omega), HD.out⟩
         case k37 =>
          go_simp
          obtain ⟨gb, hgb⟩ : ∃ q, q = V3.heap.size := ⟨_, rfl⟩
          rw [← hgb]
          generalize hVa : World.alloc V3 _ = V6
          have bV : Below V3.heap.size V3 V6 := by rw [← hVa]; exact bel_alloc (Below.refl _ _) _
          have nFB : Aside0 (V6.heap[gb]? = some (.cells #[.string ⟨#[111, 110, 101, 46, 111, 114, 103]⟩, .string ⟨#[116, 119, 111, 46, 111, 114, 103]⟩] 9 (0, 0))) := ⟨by rw [← hVa, hgb]; exact blk_new _ _⟩
          have lgb : w.heap.size ≤ gb := by rw [hgb]; exact HD.out.size
          clear hVa hgb
          clear zFX cFX_0 cFX_1 cFX_2
          replace FX := Aside0.mk (below_blk FX.out bV)
          replace FA := Aside0.mk (below_blk FA.out bV)
          replace HO := Aside0.mk (Kd.R_below HO.out bV)
          replace HT := Aside0.mk (Kd.R_below HT.out bV)
          replace HR := Aside0.mk (HR.out.below bV)
          replace HD := Aside0.mk (HD.out.below bV)
          have yV6 := HD.out.size
          have FB := nFB
          clear nFB bV
          have zFX := blk_lt FX.out
          have cFX_0 : V6.cell? ⟨gx, 0, none⟩ = some (.string s1) := clq FX.out 0 rfl
          have cFX_1 : V6.cell? ⟨gx, 1, none⟩ = some (.string s2) := clq FX.out 1 rfl
          have cFX_2 : V6.cell? ⟨gx, 2, none⟩ = some (.slice B ts.length dd) := clq FX.out 2 rfl
          refine hK.out _ _ ?h43 (fun hHeld => ?j43)
          case h43 => exact trivial
          clear hK K
          try simp only [Act.put, List.setIfInBounds_toArray, List.set_cons_zero, List.set_cons_succ]
          refine rdy (rs := [4]) ?_
          refine rc (fun K hK => ?k44) AllReadyH.nil
          case k44 =>
           go_simp
           refine Calls.mono (of_any g _ _ _ _ _ _ V6 HR.out (by omega) FA.out (by decide) (by rfl) (by decide) (by decide) (by rfl)) ?_
           rintro e V4 ⟨a1, rfl, ha1, hr_, hd_⟩
           clear FA
           clear zFX cFX_0 cFX_1 cFX_2
           replace FX := Aside0.mk (hd_.blk FX.out (by omega))
           replace FB := Aside0.mk (hd_.blk FB.out (by omega))
           replace HO := Aside0.mk (Dr.R hd_ HO.out hgl)
           replace HT := Aside0.mk (Dr.R hd_ HT.out hgx1)
           replace HR := Aside0.mk hr_
           replace HD := Aside0.mk (Dr.then_ HD.out hd_)
           have yV4 := HD.out.size
           clear hr_ hd_
           have zFX := blk_lt FX.out
           have cFX_0 : V4.cell? ⟨gx, 0, none⟩ = some (.string s1) := clq FX.out 0 rfl
           have cFX_1 : V4.cell? ⟨gx, 1, none⟩ = some (.string s2) := clq FX.out 1 rfl
           have cFX_2 : V4.cell? ⟨gx, 2, none⟩ = some (.slice B ts.length dd) := clq FX.out 2 rfl
           refine hK.out _ _ ?h45 (fun hHeld => ?j45)
           case h45 => exact trivial
           clear hK K
           try simp only [Act.put, List.setIfInBounds_toArray, List.set_cons_zero, List.set_cons_succ]
           refine rdy (rs := [7]) ?_
           refine rc (fun K hK => ?k46) AllReadyH.nil
           case k46 =>
            go_simp
            refine Calls.mono (of_any g _ _ _ _ _ _ V4 HR.out (by omega) FB.out (by decide) (by rfl) (by decide) (by decide) (by rfl)) ?_
            rintro e V7 ⟨a2, rfl, ha2, hr_, hd_⟩
            clear FB
            clear zFX cFX_0 cFX_1 cFX_2
            replace FX := Aside0.mk (hd_.blk FX.out (by omega))
            replace HO := Aside0.mk (Dr.R hd_ HO.out hgl)
            replace HT := Aside0.mk (Dr.R hd_ HT.out hgx1)
            replace HR := Aside0.mk hr_
            replace HD := Aside0.mk (Dr.then_ HD.out hd_)
            have yV7 := HD.out.size
            clear hr_ hd_
            have zFX := blk_lt FX.out
            have cFX_0 : V7.cell? ⟨gx, 0, none⟩ = some (.string s1) := clq FX.out 0 rfl
            have cFX_1 : V7.cell? ⟨gx, 1, none⟩ = some (.string s2) := clq FX.out 1 rfl
            have cFX_2 : V7.cell? ⟨gx, 2, none⟩ = some (.slice B ts.length dd) := clq FX.out 2 rfl
            refine hK.out _ _ ?h47 (fun hHeld => ?j47)
            case h47 => exact trivial
            clear hK K
            try simp only [Act.put, List.setIfInBounds_toArray, List.set_cons_zero, List.set_cons_succ]
            exact HKK.out ga gb a1 a2 V7 ⟨⟨ha1, ha2⟩, FX.out, HT.out, HO.out, HR.out.up (by omega), HD.out⟩
        case k33 =>
         go_simp
         refine Calls.mono (of_any g _ _ _ _ _ _ V3 HR.out (by omega) FA.out (by decide) (by rfl) (by decide) (by decide) (by rfl)) ?_
         rintro e V4 ⟨a1, rfl, ha1, hr_, hd_⟩
         clear FA
         clear zFX cFX_0 cFX_1 cFX_2
         replace FX := Aside0.mk (hd_.blk FX.out (by omega))
         replace HO := Aside0.mk (Dr.R hd_ HO.out hgl)
         replace HT := Aside0.mk (Dr.R hd_ HT.out hgx1)
         replace HR := Aside0.mk hr_
         replace HD := Aside0.mk (Dr.then_ HD.out hd_)
         have yV4 := HD.out.size
         clear hr_ hd_
         have zFX := blk_lt FX.out
         have cFX_0 : V4.cell? ⟨gx, 0, none⟩ = some (.string s1) := clq FX.out 0 rfl
         have cFX_1 : V4.cell? ⟨gx, 1, none⟩ = some (.string s2) := clq FX.out 1 rfl
         have cFX_2 : V4.cell? ⟨gx, 2, none⟩ = some (.slice B ts.length dd) := clq FX.out 2 rfl
         refine hK.out _ _ ?h48 (fun hHeld => ?j48)
         case h48 => exact trivial
         clear hK K
         try simp only [Act.put, List.setIfInBounds_toArray, List.set_cons_zero, List.set_cons_succ]
         refine rdy (rs := [1, 6]) ?_
         refine rc (fun K hK => ?k49) (rc (fun K hK => ?k50) AllReadyH.nil)
         case k49 =>
          go_simp
          refine hK.out _ _ ?h51 (fun hHeld => ?j51)
          case h51 => exact hHeld
          clear hK K
          try simp only [Act.put, List.setIfInBounds_toArray, List.set_cons_zero, List.set_cons_succ]
          refine rdy (rs := [6]) ?_
          refine rc (fun K hK => ?k52) AllReadyH.nil
          case k52 =>
           go_simp
           obtain ⟨gb, hgb⟩ : ∃ q, q = V4.heap.size := ⟨_, rfl⟩
           rw [← hgb]
           generalize hVa : World.alloc V4 _ = V6
           have bV : Below V4.heap.size V4 V6 := by rw [← hVa]; exact bel_alloc (Below.refl _ _) _
           have nFB : Aside0 (V6.heap[gb]? = some (.cells #[.string ⟨#[111, 110, 101, 46, 111, 114, 103]⟩, .string ⟨#[116, 119, 111, 46, 111, 114, 103]⟩] 9 (0, 0))) := ⟨by rw [← hVa, hgb]; exact blk_new _ _⟩
           have lgb : w.heap.size ≤ gb := by rw [hgb]; exact HD.out.size
           clear hVa hgb
           clear zFX cFX_0 cFX_1 cFX_2
           replace FX := Aside0.mk (below_blk FX.out bV)
           replace HO := Aside0.mk (Kd.R_below HO.out bV)
           replace HT := Aside0.mk (Kd.R_below HT.out bV)
           replace HR := Aside0.mk (HR.out.below bV)
           replace HD := Aside0.mk (HD.out.below bV)
           have yV6 := HD.out.size
           have FB := nFB
           clear nFB bV
           have zFX := blk_lt FX.out
           have cFX_0 : V6.cell? ⟨gx, 0, none⟩ = some (.string s1) := clq FX.out 0 rfl
           have cFX_1 : V6.cell? ⟨gx, 1, none⟩ = some (.string s2) := clq FX.out 1 rfl
           have cFX_2 : V6.cell? ⟨gx, 2, none⟩ = some (.slice B ts.length dd) := clq FX.out 2 rfl
           refine hK.out _ _ ?h53 (fun hHeld => ?j53)
           case h53 => exact trivial
           clear hK K
           try simp only [Act.put, List.setIfInBounds_toArray, List.set_cons_zero, List.set_cons_succ]
           refine rdy (rs := [7]) ?_
           refine rc (fun K hK => ?k54) AllReadyH.nil
           case k54 =>
            go_simp
            refine Calls.mono (of_any g _ _ _ _ _ _ V6 HR.out (by omega) FB.out (by decide) (by rfl) (by decide) (by decide) (by rfl)) ?_
            rintro e V7 ⟨a2, rfl, ha2, hr_, hd_⟩
            clear FB
            clear zFX cFX_0 cFX_1 cFX_2
            replace FX := Aside0.mk (hd_.blk FX.out (by omega))
            replace HO := Aside0.mk (Dr.R hd_ HO.out hgl)
            replace HT := Aside0.mk (Dr.R hd_ HT.out hgx1)
            replace HR := Aside0.mk hr_
            replace HD := Aside0.mk (Dr.then_ HD.out hd_)
            have yV7 := HD.out.size
            clear hr_ hd_
            have zFX := blk_lt FX.out
            have cFX_0 : V7.cell? ⟨gx, 0, none⟩ = some (.string s1) := clq FX.out 0 rfl
            have cFX_1 : V7.cell? ⟨gx, 1, none⟩ = some (.string s2) := clq FX.out 1 rfl
            have cFX_2 : V7.cell? ⟨gx, 2, none⟩ = some (.slice B ts.length dd) := clq FX.out 2 rfl
            refine hK.out _ _ ?h55 (fun hHeld => ?j55)
            case h55 => exact trivial
            clear hK K
            try simp only [Act.put, List.setIfInBounds_toArray, List.set_cons_zero, List.set_cons_succ]
            exact HKK.out ga gb a1 a2 V7 ⟨⟨ha1, ha2⟩, FX.out, HT.out, HO.out, HR.out.up (by omega), HD.out⟩
         case k50 =>
          go_simp
          obtain ⟨gb, hgb⟩ : ∃ q, q = V4.heap.size := ⟨_, rfl⟩
          rw [← hgb]
          generalize hVa : World.alloc V4 _ = V6
          have bV : Below V4.heap.size V4 V6 := by rw [← hVa]; exact bel_alloc (Below.refl _ _) _
          have nFB : Aside0 (V6.heap[gb]? = some (.cells #[.string ⟨#[111, 110, 101, 46, 111, 114, 103]⟩, .string ⟨#[116, 119, 111, 46, 111, 114, 103]⟩] 9 (0, 0))) := ⟨by rw [← hVa, hgb]; exact blk_new _ _⟩
          have lgb : w.heap.size ≤ gb := by rw [hgb]; exact HD.out.size
          clear hVa hgb
          clear zFX cFX_0 cFX_1 cFX_2
          replace FX := Aside0.mk (below_blk FX.out bV)
          replace HO := Aside0.mk (Kd.R_below HO.out bV)
          replace HT := Aside0.mk (Kd.R_below HT.out bV)
          replace HR := Aside0.mk (HR.out.below bV)
          replace HD := Aside0.mk (HD.out.below bV)
          have yV6 := HD.out.size
          have FB := nFB
          clear nFB bV
          have zFX := blk_lt FX.out
          have cFX_0 : V6.cell? ⟨gx, 0, none⟩ = some (.string s1) := clq FX.out 0 rfl
          have cFX_1 : V6.cell? ⟨gx, 1, none⟩ = some (.string s2) := clq FX.out 1 rfl
          have cFX_2 : V6.cell? ⟨gx, 2, none⟩ = some (.slice B ts.length dd) := clq FX.out 2 rfl
          refine hK.out _ _ ?h56 (fun hHeld => ?j56)
          case h56 => exact trivial
          clear hK K
          try simp only [Act.put, List.setIfInBounds_toArray, List.set_cons_zero, List.set_cons_succ]
          refine rdy (rs := [1, 7]) ?_
          refine rc (fun K hK => ?k57) (rc (fun K hK => ?k58) AllReadyH.nil)
          case k57 =>
           go_simp
           refine hK.out _ _ ?h59 (fun hHeld => ?j59)
           case h59 => exact hHeld
           clear hK K
           try simp only [Act.put, List.setIfInBounds_toArray, List.set_cons_zero, List.set_cons_succ]
           refine rdy (rs := [7]) ?_
           refine rc (fun K hK => ?k60) AllReadyH.nil
           case k60 =>
            go_simp
            refine Calls.mono (of_any g _ _ _ _ _ _ V6 HR.out (by omega) FB.out (by decide) (by rfl) (by decide) (by decide) (by rfl)) ?_
            rintro e V7 ⟨a2, rfl, ha2, hr_, hd_⟩
            clear FB
            clear zFX cFX_0 cFX_1 cFX_2
            replace FX := Aside0.mk (hd_.blk FX.out (by omega))
            replace HO := Aside0.mk (Dr.R hd_ HO.out hgl)
            replace HT := Aside0.mk (Dr.R hd_ HT.out hgx1)
            replace HR := Aside0.mk hr_
            replace HD := Aside0.mk (Dr.then_ HD.out hd_)
            have yV7 := HD.out.size
            clear hr_ hd_
            have zFX := blk_lt FX.out
            have cFX_0 : V7.cell? ⟨gx, 0, none⟩ = some (.string s1) := clq FX.out 0 rfl
            have cFX_1 : V7.cell? ⟨gx, 1, none⟩ = some (.string s2) := clq FX.out 1 rfl
            have cFX_2 : V7.cell? ⟨gx, 2, none⟩ = some (.slice B ts.length dd) := clq FX.out 2 rfl
            refine hK.out _ _ ?h61 (fun hHeld => ?j61)
            case h61 => exact trivial
            clear hK K
            try simp only [Act.put, List.setIfInBounds_toArray, List.set_cons_zero, List.set_cons_succ]
            exact HKK.out ga gb a1 a2 V7 ⟨⟨ha1, ha2⟩, FX.out, HT.out, HO.out, HR.out.up (by omega), HD.out⟩
          case k58 =>
           go_simp
           refine Calls.mono (of_any g _ _ _ _ _ _ V6 HR.out (by omega) FB.out (by decide) (by rfl) (by decide) (by decide) (by rfl)) ?_
           rintro e V7 ⟨a2, rfl, ha2, hr_, hd_⟩
           clear FB
           clear zFX cFX_0 cFX_1 cFX_2
           replace FX := Aside0.mk (hd_.blk FX.out (by omega))
           replace HO := Aside0.mk (Dr.R hd_ HO.out hgl)
           replace HT := Aside0.mk (Dr.R hd_ HT.out hgx1)
           replace HR := Aside0.mk hr_
           replace HD := Aside0.mk (Dr.then_ HD.out hd_)
           have yV7 := HD.out.size
           clear hr_ hd_
           have zFX := blk_lt FX.out
           have cFX_0 : V7.cell? ⟨gx, 0, none⟩ = some (.string s1) := clq FX.out 0 rfl
           have cFX_1 : V7.cell? ⟨gx, 1, none⟩ = some (.string s2) := clq FX.out 1 rfl
           have cFX_2 : V7.cell? ⟨gx, 2, none⟩ = some (.slice B ts.length dd) := clq FX.out 2 rfl
           refine hK.out _ _ ?h62 (fun hHeld => ?j62)
           case h62 => exact trivial
           clear hK K
           try simp only [Act.put, List.setIfInBounds_toArray, List.set_cons_zero, List.set_cons_succ]
           exact HKB.out ga gb a1 a2 V7 ⟨⟨ha1, ha2⟩, FX.out, HT.out, HO.out, HR.out.up (by omega), HD.out⟩
        case k34 =>
         go_simp
         obtain ⟨gb, hgb⟩ : ∃ q, q = V3.heap.size := ⟨_, rfl⟩
         rw [← hgb]
         generalize hVa : World.alloc V3 _ = V6
         have bV : Below V3.heap.size V3 V6 := by rw [← hVa]; exact bel_alloc (Below.refl _ _) _
         have nFB : Aside0 (V6.heap[gb]? = some (.cells #[.string ⟨#[111, 110, 101, 46, 111, 114, 103]⟩, .string ⟨#[116, 119, 111, 46, 111, 114, 103]⟩] 9 (0, 0))) := ⟨by rw [← hVa, hgb]; exact blk_new _ _⟩
         have lgb : w.heap.size ≤ gb := by rw [hgb]; exact HD.out.size
         clear hVa hgb
         clear zFX cFX_0 cFX_1 cFX_2
         replace FX := Aside0.mk (below_blk FX.out bV)
         replace FA := Aside0.mk (below_blk FA.out bV)
         replace HO := Aside0.mk (Kd.R_below HO.out bV)
         replace HT := Aside0.mk (Kd.R_below HT.out bV)
         replace HR := Aside0.mk (HR.out.below bV)
         replace HD := Aside0.mk (HD.out.below bV)
         have yV6 := HD.out.size
         have FB := nFB
         clear nFB bV
         have zFX := blk_lt FX.out
         have cFX_0 : V6.cell? ⟨gx, 0, none⟩ = some (.string s1) := clq FX.out 0 rfl
         have cFX_1 : V6.cell? ⟨gx, 1, none⟩ = some (.string s2) := clq FX.out 1 rfl
         have cFX_2 : V6.cell? ⟨gx, 2, none⟩ = some (.slice B ts.length dd) := clq FX.out 2 rfl
         refine hK.out _ _ ?h63 (fun hHeld => ?j63)
         case h63 => exact trivial
         clear hK K
         try simp only [Act.put, List.setIfInBounds_toArray, List.set_cons_zero, List.set_cons_succ]
         refine rdy (rs := [1, 4]) ?_
         refine rc (fun K hK => ?k64) (rc (fun K hK => ?k65) AllReadyH.nil)
         case k64 =>
          go_simp
          refine hK.out _ _ ?h66 (fun hHeld => ?j66)
          case h66 => exact hHeld
          clear hK K
          try simp only [Act.put, List.setIfInBounds_toArray, List.set_cons_zero, List.set_cons_succ]
          refine rdy (rs := [4]) ?_
          refine rc (fun K hK => ?k67) AllReadyH.nil
          case k67 =>
           go_simp
           refine Calls.mono (of_any g _ _ _ _ _ _ V6 HR.out (by omega) FA.out (by decide) (by rfl) (by decide) (by decide) (by rfl)) ?_
           rintro e V4 ⟨a1, rfl, ha1, hr_, hd_⟩
           clear FA
           clear zFX cFX_0 cFX_1 cFX_2
           replace FX := Aside0.mk (hd_.blk FX.out (by omega))
           replace FB := Aside0.mk (hd_.blk FB.out (by omega))
           replace HO := Aside0.mk (Dr.R hd_ HO.out hgl)
           replace HT := Aside0.mk (Dr.R hd_ HT.out hgx1)
           replace HR := Aside0.mk hr_
           replace HD := Aside0.mk (Dr.then_ HD.out hd_)
           have yV4 := HD.out.size
           clear hr_ hd_
           have zFX := blk_lt FX.out
           have cFX_0 : V4.cell? ⟨gx, 0, none⟩ = some (.string s1) := clq FX.out 0 rfl
           have cFX_1 : V4.cell? ⟨gx, 1, none⟩ = some (.string s2) := clq FX.out 1 rfl
           have cFX_2 : V4.cell? ⟨gx, 2, none⟩ = some (.slice B ts.length dd) := clq FX.out 2 rfl
           refine hK.out _ _ ?h68 (fun hHeld => ?j68)
           case h68 => exact trivial
           clear hK K
           try simp only [Act.put, List.setIfInBounds_toArray, List.set_cons_zero, List.set_cons_succ]
           refine rdy (rs := [7]) ?_
           refine rc (fun K hK => ?k69) AllReadyH.nil
           case k69 =>
            go_simp
            refine Calls.mono (of_any g _ _ _ _ _ _ V4 HR.out (by omega) FB.out (by decide) (by rfl) (by decide) (by decide) (by rfl)) ?_
            rintro e V7 ⟨a2, rfl, ha2, hr_, hd_⟩
            clear FB
            clear zFX cFX_0 cFX_1 cFX_2
            replace FX := Aside0.mk (hd_.blk FX.out (by omega))
            replace HO := Aside0.mk (Dr.R hd_ HO.out hgl)
            replace HT := Aside0.mk (Dr.R hd_ HT.out hgx1)
            replace HR := Aside0.mk hr_
            replace HD := Aside0.mk (Dr.then_ HD.out hd_)
            have yV7 := HD.out.size
            clear hr_ hd_
            have zFX := blk_lt FX.out
            have cFX_0 : V7.cell? ⟨gx, 0, none⟩ = some (.string s1) := clq FX.out 0 rfl
            have cFX_1 : V7.cell? ⟨gx, 1, none⟩ = some (.string s2) := clq FX.out 1 rfl
            have cFX_2 : V7.cell? ⟨gx, 2, none⟩ = some (.slice B ts.length dd) := clq FX.out 2 rfl
            refine hK.out _ _ ?h70 (fun hHeld => ?j70)
            case h70 => exact trivial
            clear hK K
            try simp only [Act.put, List.setIfInBounds_toArray, List.set_cons_zero, List.set_cons_succ]
            exact HKK.out ga gb a1 a2 V7 ⟨⟨ha1, ha2⟩, FX.out, HT.out, HO.out, HR.out.up (by omega), HD.out⟩
         case k65 =>
          go_simp
          refine Calls.mono (of_any g _ _ _ _ _ _ V6 HR.out (by omega) FA.out (by decide) (by rfl) (by decide) (by decide) (by rfl)) ?_
          rintro e V4 ⟨a1, rfl, ha1, hr_, hd_⟩
          clear FA
          clear zFX cFX_0 cFX_1 cFX_2
          replace FX := Aside0.mk (hd_.blk FX.out (by omega))
          replace FB := Aside0.mk (hd_.blk FB.out (by omega))
          replace HO := Aside0.mk (Dr.R hd_ HO.out hgl)
          replace HT := Aside0.mk (Dr.R hd_ HT.out hgx1)
          replace HR := Aside0.mk hr_
          replace HD := Aside0.mk (Dr.then_ HD.out hd_)
          have yV4 := HD.out.size
          clear hr_ hd_
          have zFX := blk_lt FX.out
          have cFX_0 : V4.cell? ⟨gx, 0, none⟩ = some (.string s1) := clq FX.out 0 rfl
          have cFX_1 : V4.cell? ⟨gx, 1, none⟩ = some (.string s2) := clq FX.out 1 rfl
          have cFX_2 : V4.cell? ⟨gx, 2, none⟩ = some (.slice B ts.length dd) := clq FX.out 2 rfl
          refine hK.out _ _ ?h71 (fun hHeld => ?j71)
          case h71 => exact trivial
          clear hK K
          try simp only [Act.put, List.setIfInBounds_toArray, List.set_cons_zero, List.set_cons_succ]
          refine rdy (rs := [1, 7]) ?_
          refine rc (fun K hK => ?k72) (rc (fun K hK => ?k73) AllReadyH.nil)
          case k72 =>
           go_simp
           refine hK.out _ _ ?h74 (fun hHeld => ?j74)
           case h74 => exact hHeld
           clear hK K
           try simp only [Act.put, List.setIfInBounds_toArray, List.set_cons_zero, List.set_cons_succ]
           refine rdy (rs := [7]) ?_
           refine rc (fun K hK => ?k75) AllReadyH.nil
           case k75 =>
            go_simp
            refine Calls.mono (of_any g _ _ _ _ _ _ V4 HR.out (by omega) FB.out (by decide) (by rfl) (by decide) (by decide) (by rfl)) ?_
            rintro e V7 ⟨a2, rfl, ha2, hr_, hd_⟩
            clear FB
            clear zFX cFX_0 cFX_1 cFX_2
            replace FX := Aside0.mk (hd_.blk FX.out (by omega))
            replace HO := Aside0.mk (Dr.R hd_ HO.out hgl)
            replace HT := Aside0.mk (Dr.R hd_ HT.out hgx1)
            replace HR := Aside0.mk hr_
            replace HD := Aside0.mk (Dr.then_ HD.out hd_)
            have yV7 := HD.out.size
            clear hr_ hd_
            have zFX := blk_lt FX.out
            have cFX_0 : V7.cell? ⟨gx, 0, none⟩ = some (.string s1) := clq FX.out 0 rfl
            have cFX_1 : V7.cell? ⟨gx, 1, none⟩ = some (.string s2) := clq FX.out 1 rfl
            have cFX_2 : V7.cell? ⟨gx, 2, none⟩ = some (.slice B ts.length dd) := clq FX.out 2 rfl
            refine hK.out _ _ ?h76 (fun hHeld => ?j76)
            case h76 => exact trivial
            clear hK K
            try simp only [Act.put, List.setIfInBounds_toArray, List.set_cons_zero, List.set_cons_succ]
            exact HKK.out ga gb a1 a2 V7 ⟨⟨ha1, ha2⟩, FX.out, HT.out, HO.out, HR.out.up (by omega), HD.out⟩
          case k73 =>
           go_simp
           refine Calls.mono (of_any g _ _ _ _ _ _ V4 HR.out (by omega) FB.out (by decide) (by rfl) (by decide) (by decide) (by rfl)) ?_
           rintro e V7 ⟨a2, rfl, ha2, hr_, hd_⟩
           clear FB
           clear zFX cFX_0 cFX_1 cFX_2
           replace FX := Aside0.mk (hd_.blk FX.out (by omega))
           replace HO := Aside0.mk (Dr.R hd_ HO.out hgl)
           replace HT := Aside0.mk (Dr.R hd_ HT.out hgx1)
           replace HR := Aside0.mk hr_
           replace HD := Aside0.mk (Dr.then_ HD.out hd_)
           have yV7 := HD.out.size
           clear hr_ hd_
           have zFX := blk_lt FX.out
           have cFX_0 : V7.cell? ⟨gx, 0, none⟩ = some (.string s1) := clq FX.out 0 rfl
           have cFX_1 : V7.cell? ⟨gx, 1, none⟩ = some (.string s2) := clq FX.out 1 rfl
           have cFX_2 : V7.cell? ⟨gx, 2, none⟩ = some (.slice B ts.length dd) := clq FX.out 2 rfl
           refine hK.out _ _ ?h77 (fun hHeld => ?j77)
           case h77 => exact trivial
           clear hK K
           try simp only [Act.put, List.setIfInBounds_toArray, List.set_cons_zero, List.set_cons_succ]
           exact HKB.out ga gb a1 a2 V7 ⟨⟨ha1, ha2⟩, FX.out, HT.out, HO.out, HR.out.up (by omega), HD.out⟩
       case k7 =>
        go_simp
        obtain ⟨gb, hgb⟩ : ∃ q, q = V0.heap.size := ⟨_, rfl⟩
        rw [← hgb]
        generalize hVa : World.alloc V0 _ = V6
        have bV : Below V0.heap.size V0 V6 := by rw [← hVa]; exact bel_alloc (Below.refl _ _) _
        have nFB : Aside0 (V6.heap[gb]? = some (.cells #[.string ⟨#[111, 110, 101, 46, 111, 114, 103]⟩, .string ⟨#[116, 119, 111, 46, 111, 114, 103]⟩] 9 (0, 0))) := ⟨by rw [← hVa, hgb]; exact blk_new _ _⟩
        have lgb : w.heap.size ≤ gb := by rw [hgb]; exact HD.out.size
        clear hVa hgb
        clear zFX cFX_0 cFX_1 cFX_2
        replace FX := Aside0.mk (below_blk FX.out bV)
        replace HO := Aside0.mk (Kd.R_below HO.out bV)
        replace HT := Aside0.mk (Kd.R_below HT.out bV)
        replace HR := Aside0.mk (HR.out.below bV)
        replace HD := Aside0.mk (HD.out.below bV)
        have yV6 := HD.out.size
        have FB := nFB
        clear nFB bV
        have zFX := blk_lt FX.out
        have cFX_0 : V6.cell? ⟨gx, 0, none⟩ = some (.string s1) := clq FX.out 0 rfl
        have cFX_1 : V6.cell? ⟨gx, 1, none⟩ = some (.string s2) := clq FX.out 1 rfl
        have cFX_2 : V6.cell? ⟨gx, 2, none⟩ = some (.slice B ts.length dd) := clq FX.out 2 rfl
        refine hK.out _ _ ?h78 (fun hHeld => ?j78)
        case h78 => exact trivial
        clear hK K
        try simp only [Act.put, List.setIfInBounds_toArray, List.set_cons_zero, List.set_cons_succ]
        refine rdy (rs := [1, 3]) ?_
        refine rc (fun K hK => ?k79) (rc (fun K hK => ?k80) AllReadyH.nil)
        case k79 =>
         go_simp
         refine hK.out _ _ ?h81 (fun hHeld => ?j81)
         case h81 => exact hHeld
         clear hK K
         try simp only [Act.put, List.setIfInBounds_toArray, List.set_cons_zero, List.set_cons_succ]
         refine rdy (rs := [3]) ?_
         refine rc (fun K hK => ?k82) AllReadyH.nil
         case k82 =>
          go_simp
          obtain ⟨ga, hga⟩ : ∃ q, q = V6.heap.size := ⟨_, rfl⟩
          rw [← hga]
          generalize hVa : World.alloc V6 _ = V3
          have bV : Below V6.heap.size V6 V3 := by rw [← hVa]; exact bel_alloc (Below.refl _ _) _
          have nFA : Aside0 (V3.heap[ga]? = some (.cells #[.string ⟨#[97]⟩, .string ⟨#[98]⟩, .string ⟨#[99]⟩, .string ⟨#[100]⟩, .string ⟨#[101]⟩] 9 (0, 0))) := ⟨by rw [← hVa, hga]; exact blk_new _ _⟩
          have lga : w.heap.size ≤ ga := by rw [hga]; exact HD.out.size
          clear hVa hga
          clear zFX cFX_0 cFX_1 cFX_2
          replace FX := Aside0.mk (below_blk FX.out bV)
          replace FB := Aside0.mk (below_blk FB.out bV)
          replace HO := Aside0.mk (Kd.R_below HO.out bV)
          replace HT := Aside0.mk (Kd.R_below HT.out bV)
          replace HR := Aside0.mk (HR.out.below bV)
          replace HD := Aside0.mk (HD.out.below bV)
          have yV3 := HD.out.size
          have FA := nFA
          clear nFA bV
          have zFX := blk_lt FX.out
          have cFX_0 : V3.cell? ⟨gx, 0, none⟩ = some (.string s1) := clq FX.out 0 rfl
          have cFX_1 : V3.cell? ⟨gx, 1, none⟩ = some (.string s2) := clq FX.out 1 rfl
          have cFX_2 : V3.cell? ⟨gx, 2, none⟩ = some (.slice B ts.length dd) := clq FX.out 2 rfl
          refine hK.out _ _ ?h83 (fun hHeld => ?j83)
          case h83 => exact trivial
          clear hK K
          try simp only [Act.put, List.setIfInBounds_toArray, List.set_cons_zero, List.set_cons_succ]
          refine rdy (rs := [4]) ?_
          refine rc (fun K hK => ?k84) AllReadyH.nil
          case k84 =>
           go_simp
           refine Calls.mono (of_any g _ _ _ _ _ _ V3 HR.out (by omega) FA.out (by decide) (by rfl) (by decide) (by decide) (by rfl)) ?_
           rintro e V4 ⟨a1, rfl, ha1, hr_, hd_⟩
           clear FA
           clear zFX cFX_0 cFX_1 cFX_2
           replace FX := Aside0.mk (hd_.blk FX.out (by omega))
           replace FB := Aside0.mk (hd_.blk FB.out (by omega))
           replace HO := Aside0.mk (Dr.R hd_ HO.out hgl)
           replace HT := Aside0.mk (Dr.R hd_ HT.out hgx1)
           replace HR := Aside0.mk hr_
           replace HD := Aside0.mk (Dr.then_ HD.out hd_)
           have yV4 := HD.out.size
           clear hr_ hd_
           have zFX := blk_lt FX.out
           have cFX_0 : V4.cell? ⟨gx, 0, none⟩ = some (.string s1) := clq FX.out 0 rfl
           have cFX_1 : V4.cell? ⟨gx, 1, none⟩ = some (.string s2) := clq FX.out 1 rfl
           have cFX_2 : V4.cell? ⟨gx, 2, none⟩ = some (.slice B ts.length dd) := clq FX.out 2 rfl
           refine hK.out _ _ ?h85 (fun hHeld => ?j85)
           case h85 => exact trivial
           clear hK K
           try simp only [Act.put, List.setIfInBounds_toArray, List.set_cons_zero, List.set_cons_succ]
           refine rdy (rs := [7]) ?_
           refine rc (fun K hK => ?k86) AllReadyH.nil
           case k86 =>
            go_simp
            refine Calls.mono (of_any g _ _ _ _ _ _ V4 HR.out (by omega) FB.out (by decide) (by rfl) (by decide) (by decide) (by rfl)) ?_
            rintro e V7 ⟨a2, rfl, ha2, hr_, hd_⟩
            clear FB
            clear zFX cFX_0 cFX_1 cFX_2
            replace FX := Aside0.mk (hd_.blk FX.out (by omega))
            replace HO := Aside0.mk (Dr.R hd_ HO.out hgl)
            replace HT := Aside0.mk (Dr.R hd_ HT.out hgx1)
            replace HR := Aside0.mk hr_
            replace HD := Aside0.mk (Dr.then_ HD.out hd_)
            have yV7 := HD.out.size
            clear hr_ hd_
            have zFX := blk_lt FX.out
            have cFX_0 : V7.cell? ⟨gx, 0, none⟩ = some (.string s1) := clq FX.out 0 rfl
            have cFX_1 : V7.cell? ⟨gx, 1, none⟩ = some (.string s2) := clq FX.out 1 rfl
            have cFX_2 : V7.cell? ⟨gx, 2, none⟩ = some (.slice B ts.length dd) := clq FX.out 2 rfl
            refine hK.out _ _ ?h87 (fun hHeld => ?j87)
            case h87 => exact trivial
            clear hK K
            try simp only [Act.put, List.setIfInBounds_toArray, List.set_cons_zero, List.set_cons_succ]
            exact HKK.out ga gb a1 a2 V7 ⟨⟨ha1, ha2⟩, FX.out, HT.out, HO.out, HR.out.up (by omega), HD.out⟩
        case k80 =>
         go_simp
         obtain ⟨ga, hga⟩ : ∃ q, q = V6.heap.size := ⟨_, rfl⟩
         rw [← hga]
         generalize hVa : World.alloc V6 _ = V3
         have bV : Below V6.heap.size V6 V3 := by rw [← hVa]; exact bel_alloc (Below.refl _ _) _
         have nFA : Aside0 (V3.heap[ga]? = some (.cells #[.string ⟨#[97]⟩, .string ⟨#[98]⟩, .string ⟨#[99]⟩, .string ⟨#[100]⟩, .string ⟨#[101]⟩] 9 (0, 0))) := ⟨by rw [← hVa, hga]; exact blk_new _ _⟩
         have lga : w.heap.size ≤ ga := by rw [hga]; exact HD.out.size
         clear hVa hga
         clear zFX cFX_0 cFX_1 cFX_2
         replace FX := Aside0.mk (below_blk FX.out bV)
         replace FB := Aside0.mk (below_blk FB.out bV)
         replace HO := Aside0.mk (Kd.R_below HO.out bV)
         replace HT := Aside0.mk (Kd.R_below HT.out bV)
         replace HR := Aside0.mk (HR.out.below bV)
         replace HD := Aside0.mk (HD.out.below bV)
         have yV3 := HD.out.size
         have FA := nFA
         clear nFA bV
         have zFX := blk_lt FX.out
         have cFX_0 : V3.cell? ⟨gx, 0, none⟩ = some (.string s1) := clq FX.out 0 rfl
         have cFX_1 : V3.cell? ⟨gx, 1, none⟩ = some (.string s2) := clq FX.out 1 rfl
         have cFX_2 : V3.cell? ⟨gx, 2, none⟩ = some (.slice B ts.length dd) := clq FX.out 2 rfl
         refine hK.out _ _ ?h88 (fun hHeld => ?j88)
         case h88 => exact trivial
         clear hK K
         try simp only [Act.put, List.setIfInBounds_toArray, List.set_cons_zero, List.set_cons_succ]
         refine rdy (rs := [1, 4]) ?_
         refine rc (fun K hK => ?k89) (rc (fun K hK => ?k90) AllReadyH.nil)
         case k89 =>
          go_simp
          refine hK.out _ _ ?h91 (fun hHeld => ?j91)
          case h91 => exact hHeld
          clear hK K
          try simp only [Act.put, List.setIfInBounds_toArray, List.set_cons_zero, List.set_cons_succ]
          refine rdy (rs := [4]) ?_
          refine rc (fun K hK => ?k92) AllReadyH.nil
          case k92 =>
           go_simp
           refine Calls.mono (of_any g _ _ _ _ _ _ V3 HR.out (by omega) FA.out (by decide) (by rfl) (by decide) (by decide) (by rfl)) ?_
           rintro e V4 ⟨a1, rfl, ha1, hr_, hd_⟩
           clear FA
           clear zFX cFX_0 cFX_1 cFX_2
           replace FX := Aside0.mk (hd_.blk FX.out (by omega))
           replace FB := Aside0.mk (hd_.blk FB.out (by omega))
           replace HO := Aside0.mk (Dr.R hd_ HO.out hgl)
           replace HT := Aside0.mk (Dr.R hd_ HT.out hgx1)
           replace HR := Aside0.mk hr_
           replace HD := Aside0.mk (Dr.then_ HD.out hd_)
           have yV4 := HD.out.size
           clear hr_ hd_
           have zFX := blk_lt FX.out
           have cFX_0 : V4.cell? ⟨gx, 0, none⟩ = some (.string s1) := clq FX.out 0 rfl
           have cFX_1 : V4.cell? ⟨gx, 1, none⟩ = some (.string s2) := clq FX.out 1 rfl
           have cFX_2 : V4.cell? ⟨gx, 2, none⟩ = some (.slice B ts.length dd) := clq FX.out 2 rfl
           refine hK.out _ _ ?h93 (fun hHeld => ?j93)
           case h93 => exact trivial
           clear hK K
           try simp only [Act.put, List.setIfInBounds_toArray, List.set_cons_zero, List.set_cons_succ]
           refine rdy (rs := [7]) ?_
           refine rc (fun K hK => ?k94) AllReadyH.nil
           case k94 =>
            go_simp
            refine Calls.mono (of_any g _ _ _ _ _ _ V4 HR.out (by omega) FB.out (by decide) (by rfl) (by decide) (by decide) (by rfl)) ?_
            rintro e V7 ⟨a2, rfl, ha2, hr_, hd_⟩
            clear FB
            clear zFX cFX_0 cFX_1 cFX_2
            replace FX := Aside0.mk (hd_.blk FX.out (by omega))
            replace HO := Aside0.mk (Dr.R hd_ HO.out hgl)
            replace HT := Aside0.mk (Dr.R hd_ HT.out hgx1)
            replace HR := Aside0.mk hr_
            replace HD := Aside0.mk (Dr.then_ HD.out hd_)
            have yV7 := HD.out.size
            clear hr_ hd_
            have zFX := blk_lt FX.out
            have cFX_0 : V7.cell? ⟨gx, 0, none⟩ = some (.string s1) := clq FX.out 0 rfl
            have cFX_1 : V7.cell? ⟨gx, 1, none⟩ = some (.string s2) := clq FX.out 1 rfl
            have cFX_2 : V7.cell? ⟨gx, 2, none⟩ = some (.slice B ts.length dd) := clq FX.out 2 rfl
            refine hK.out _ _ ?h95 (fun hHeld => ?j95)
            case h95 => exact trivial
            clear hK K
            try simp only [Act.put, List.setIfInBounds_toArray, List.set_cons_zero, List.set_cons_succ]
            exact HKK.out ga gb a1 a2 V7 ⟨⟨ha1, ha2⟩, FX.out, HT.out, HO.out, HR.out.up (by omega), HD.out⟩
         case k90 =>
          go_simp
          refine Calls.mono (of_any g _ _ _ _ _ _ V3 HR.out (by omega) FA.out (by decide) (by rfl) (by decide) (by decide) (by rfl)) ?_
          rintro e V4 ⟨a1, rfl, ha1, hr_, hd_⟩
          clear FA
          clear zFX cFX_0 cFX_1 cFX_2
          replace FX := Aside0.mk (hd_.blk FX.out (by omega))
          replace FB := Aside0.mk (hd_.blk FB.out (by omega))
          replace HO := Aside0.mk (Dr.R hd_ HO.out hgl)
          replace HT := Aside0.mk (Dr.R hd_ HT.out hgx1)
          replace HR := Aside0.mk hr_
          replace HD := Aside0.mk (Dr.then_ HD.out hd_)
          have yV4 := HD.out.size
          clear hr_ hd_
          have zFX := blk_lt FX.out
          have cFX_0 : V4.cell? ⟨gx, 0, none⟩ = some (.string s1) := clq FX.out 0 rfl
          have cFX_1 : V4.cell? ⟨gx, 1, none⟩ = some (.string s2) := clq FX.out 1 rfl
          have cFX_2 : V4.cell? ⟨gx, 2, none⟩ = some (.slice B ts.length dd) := clq FX.out 2 rfl
          refine hK.out _ _ ?h96 (fun hHeld => ?j96)
          case h96 => exact trivial
          clear hK K
          try simp only [Act.put, List.setIfInBounds_toArray, List.set_cons_zero, List.set_cons_succ]
          refine rdy (rs := [1, 7]) ?_
          refine rc (fun K hK => ?k97) (rc (fun K hK => ?k98) AllReadyH.nil)
          case k97 =>
           go_simp
           refine hK.out _ _ ?h99 (fun hHeld => ?j99)
           case h99 => exact hHeld
           clear hK K
           try simp only [Act.put, List.setIfInBounds_toArray, List.set_cons_zero, List.set_cons_succ]
           refine rdy (rs := [7]) ?_
           refine rc (fun K hK => ?k100) AllReadyH.nil
           case k100 =>
            go_simp
            refine Calls.mono (of_any g _ _ _ _ _ _ V4 HR.out (by omega) FB.out (by decide) (by rfl) (by decide) (by decide) (by rfl)) ?_
            rintro e V7 ⟨a2, rfl, ha2, hr_, hd_⟩
            clear FB
            clear zFX cFX_0 cFX_1 cFX_2
            replace FX := Aside0.mk (hd_.blk FX.out (by omega))
            replace HO := Aside0.mk (Dr.R hd_ HO.out hgl)
            replace HT := Aside0.mk (Dr.R hd_ HT.out hgx1)
            replace HR := Aside0.mk hr_
            replace HD := Aside0.mk (Dr.then_ HD.out hd_)
            have yV7 := HD.out.size
            clear hr_ hd_
            have zFX := blk_lt FX.out
            have cFX_0 : V7.cell? ⟨gx, 0, none⟩ = some (.string s1) := clq FX.out 0 rfl
            have cFX_1 : V7.cell? ⟨gx, 1, none⟩ = some (.string s2) := clq FX.out 1 rfl
            have cFX_2 : V7.cell? ⟨gx, 2, none⟩ = some (.slice B ts.length dd) := clq FX.out 2 rfl
            refine hK.out _ _ ?h101 (fun hHeld => ?j101)
            case h101 => exact trivial
            clear hK K
            try simp only [Act.put, List.setIfInBounds_toArray, List.set_cons_zero, List.set_cons_succ]
            exact HKK.out ga gb a1 a2 V7 ⟨⟨ha1, ha2⟩, FX.out, HT.out, HO.out, HR.out.up (by omega), HD.out⟩
          case k98 =>
           go_simp
           refine Calls.mono (of_any g _ _ _ _ _ _ V4 HR.out (by omega) FB.out (by decide) (by rfl) (by decide) (by decide) (by rfl)) ?_
           rintro e V7 ⟨a2, rfl, ha2, hr_, hd_⟩
           clear FB
           clear zFX cFX_0 cFX_1 cFX_2
           replace FX := Aside0.mk (hd_.blk FX.out (by omega))
           replace HO := Aside0.mk (Dr.R hd_ HO.out hgl)
           replace HT := Aside0.mk (Dr.R hd_ HT.out hgx1)
           replace HR := Aside0.mk hr_
           replace HD := Aside0.mk (Dr.then_ HD.out hd_)
           have yV7 := HD.out.size
           clear hr_ hd_
           have zFX := blk_lt FX.out
           have cFX_0 : V7.cell? ⟨gx, 0, none⟩ = some (.string s1) := clq FX.out 0 rfl
           have cFX_1 : V7.cell? ⟨gx, 1, none⟩ = some (.string s2) := clq FX.out 1 rfl
           have cFX_2 : V7.cell? ⟨gx, 2, none⟩ = some (.slice B ts.length dd) := clq FX.out 2 rfl
           refine hK.out _ _ ?h102 (fun hHeld => ?j102)
           case h102 => exact trivial
           clear hK K
           try simp only [Act.put, List.setIfInBounds_toArray, List.set_cons_zero, List.set_cons_succ]
           exact HKB.out ga gb a1 a2 V7 ⟨⟨ha1, ha2⟩, FX.out, HT.out, HO.out, HR.out.up (by omega), HD.out⟩
      case hk =>
       intro ga gb a1 a2 V ⟨hab, fx, ht, ho, hr_, hd_⟩
       clear joinK joinB FX HT HO HR HD zFX cFX_0 cFX_1 cFX_2
       obtain ⟨ha1, ha2⟩ := hab
       have FX := Aside0.mk fx
       have HT := Aside0.mk ht
       have HO := Aside0.mk ho
       have HR := Aside0.mk hr_
       have HD := Aside0.mk hd_
       have HAB := Lib.hid (show smallA ⟨a1, a2⟩ from ⟨ha1, ha2⟩)
       have yV := HD.out.size
       clear fx ht ho hr_ hd_
       have hHeld : True := trivial
       have zFX := blk_lt FX.out
       have cFX_0 : V.cell? ⟨gx, 0, none⟩ = some (.string s1) := clq FX.out 0 rfl
       have cFX_1 : V.cell? ⟨gx, 1, none⟩ = some (.string s2) := clq FX.out 1 rfl
       have cFX_2 : V.cell? ⟨gx, 2, none⟩ = some (.slice B ts.length dd) := clq FX.out 2 rfl
       refine tk 8 ?v104 ?y104 ?r104
       case y104 => intro w_ hSw; (try dsimp only at hSw); go_simp; (try (with_reducible rfl))
       try simp only [Act.put, List.setIfInBounds_toArray, List.set_cons_zero, List.set_cons_succ]
       refine rdy (rs := [1, 9]) ?_
       refine rc (fun K hK => ?k105) (rc (fun K hK => ?k106) AllReadyH.nil)
       case k105 =>
        go_simp
        refine hK.out _ _ ?h107 (fun hHeld => ?j107)
        case h107 => exact hHeld
        clear hK K
        try simp only [Act.put, List.setIfInBounds_toArray, List.set_cons_zero, List.set_cons_succ]
        refine rdy (rs := [9]) ?_
        refine rc (fun K hK => ?k108) AllReadyH.nil
        case k108 =>
         go_simp
         refine hK.out _ _ ?h109 (fun hHeld => ?j109)
         case h109 => exact trivial
         clear hK K
         try simp only [Act.put, List.setIfInBounds_toArray, List.set_cons_zero, List.set_cons_succ]
         generalize hV9 : World.alloc V _ = V9
         have x9_ : V9.cell? ⟨gx, 2, none⟩ = some (.slice B ts.length dd) := by rw [← hV9]; have h_ := blk_alloc FX.out (.cells #[.string a1, .string a2] 25); simp [World.cell?, h_]
         refine rdy (rs := [10]) ?_
         refine rc (fun K hK => ?k110) AllReadyH.nil
         case k110 =>
          clear x9_
          subst hV9
          refine Kd.R_append_step kAddr (gx + 1) (by rfl) (.tmp 30) (.tmp 38) 26 25 (.agg #[(.string ⟨#[]⟩), (.string ⟨#[]⟩)]) 32 rfl Tryz.underlying26 info25 rfl (by decide) (by omega) (.slice B ts.length dd) ts (⟨a1, a2⟩ : SAddr) [.string a1, .string a2] (fun _ => True) (fun _ => False) rfl rfl (kAddr_mkM _ _ _ (⟨a1, a2⟩ : SAddr)) (fun _ hk => hk.elim) (fun _ _ => trivial) HT.out (Below.refl _ _) ?aS10 ?aL10 ?_
          case aS10 => exact blk_lt FX.out
          case aL10 => omega
          intro vT V10 ho hb hg hat
          refine hK.out _ _ ?h111 (fun hHeld => ?j111)
          case h111 => exact trivial
          clear hK K
          try simp only [Act.put, List.setIfInBounds_toArray, List.set_cons_zero, List.set_cons_succ]
          have nFX := Aside0.mk ((hb.block gx (Nat.lt_succ_self _)).trans FX.out : V10.heap[gx]? = some (.cells #[.string s1, .string s2, .slice B ts.length dd] 58 (0, 0)))
          have nHO := Aside0.mk (Kd.R_step HO.out (fun k hk _ => hb.block k (Nat.lt_succ_of_lt hk)))
          have nHR := Aside0.mk (Rd.keep HR.out (fun q hq => hb.block q (by omega)))
          have nHD : Aside0 (Dr g w V10) := ⟨Dr.belowB HD.out ⟨hb.os, hb.tape, hb.output, hb.size, fun k hk => hb.block k (by omega)⟩⟩
          obtain ⟨t2, et2⟩ : ∃ l, l = ts ++ [(⟨a1, a2⟩ : SAddr)] := ⟨_, rfl⟩
          rw [← et2] at ho
          obtain ⟨B2, d2, hv2⟩ := Kd.R_slice ho
          subst hv2
          have HL2 := Lib.hid (show t2.length = ts.length + 1 from by rw [et2, List.length_append]; rfl)
          have HTS2 : Aside0 (∀ t ∈ t2, smallA t) := ⟨by rw [et2]; exact smallA_snoc HTS.out HAB.out⟩
          have nHT := Aside0.mk ho
          clear FX HT HO HR HD ho hb hg hat et2 cFX_0 cFX_1 cFX_2 zFX HTS
          have FX := nFX
          have HT := nHT
          have HO := nHO
          have HR := nHR
          have HD := nHD
          have yV10 := HD.out.size
          clear nFX nHT nHO nHR nHD
          have zFX := blk_lt FX.out
          have cFX_0 : V10.cell? ⟨gx, 0, none⟩ = some (.string s1) := clq FX.out 0 rfl
          have dFX_0 := fzq FX.out 0
          have cFX_1 : V10.cell? ⟨gx, 1, none⟩ = some (.string s2) := clq FX.out 1 rfl
          have dFX_1 := fzq FX.out 1
          have cFX_2 : V10.cell? ⟨gx, 2, none⟩ = some (.slice B ts.length dd) := clq FX.out 2 rfl
          have dFX_2 := fzq FX.out 2
          refine tk 11 ?v112 ?y112 ?r112
          case y112 => intro w_ hSw; (try dsimp only at hSw); go_simp; (try (with_reducible rfl))
          try simp only [Act.put, List.setIfInBounds_toArray, List.set_cons_zero, List.set_cons_succ]
          refine rdy (rs := [12]) ?_
          refine rc (fun K hK => ?k113) AllReadyH.nil
          case k113 =>
           go_simp
           generalize hWX : World.setCell V10 _ _ = V12
           have nFX : V12.heap[gx]? = some (.cells #[.string s1, .string s2, .slice B2 t2.length d2] 58 (0, 0)) := by rw [← hWX]; have h := blk_set1 FX.out 2 (.slice B2 t2.length d2); simpa using h
           have nHT : Kd.R kAddr 25 V12 (gx + 1) (fun _ => True) (.slice B2 t2.length d2) t2 := by rw [← hWX]; exact R_setLow HT.out _ (Nat.lt_succ_self _)
           have nHO : Kd.R kAlias 58 V12 w.heap.size (fun k => k < gx) (.slice A xs.length c) xs := by rw [← hWX]; exact Kd.R_far HO.out (fun k hk => Nat.ne_of_lt hk) _
           have nHR : Rd g (m + 1 + 9 * (6 - kk) + 3 + 2 * (3 - q) + 2) V12 := by rw [← hWX]; exact HR.out.set _ (by show g < gx; omega)
           have nHD : Dr g w V12 := by rw [← hWX]; exact HD.out.set _ (.inl hgx2)
           clear hWX FX HT HO HR HD cFX_0 cFX_1 cFX_2 dFX_0 dFX_1 dFX_2 zFX
           have FX := Aside0.mk nFX
           have HT := Aside0.mk nHT
           have HO := Aside0.mk nHO
           have HR := Aside0.mk nHR
           have HD := Aside0.mk nHD
           clear nFX nHT nHO nHR nHD
           refine hK.out _ _ ?h114 (fun hHeld => ?j114)
           case h114 => exact trivial
           clear hK K
           try simp only [Act.put, List.setIfInBounds_toArray, List.set_cons_zero, List.set_cons_succ]
           refine wpAnyH_done (by kernel_rfl) ?_ _
           go_wp2
           go_roundg (q - 1)
           case measure => omega
           case rel => exact ⟨q - 1, t2, B2, d2, Nat.le_refl _, by omega, by go_num, by have := HL2.out; omega, HTS2, FX, HT, HO, ⟨HR.out.up (by omega)⟩, HD⟩
       case k106 =>
        go_simp
        refine hK.out _ _ ?h115 (fun hHeld => ?j115)
        case h115 => exact trivial
        clear hK K
        try simp only [Act.put, List.setIfInBounds_toArray, List.set_cons_zero, List.set_cons_succ]
        generalize hV9 : World.alloc V _ = V9
        have x9_ : V9.cell? ⟨gx, 2, none⟩ = some (.slice B ts.length dd) := by rw [← hV9]; have h_ := blk_alloc FX.out (.cells #[.string a1, .string a2] 25); simp [World.cell?, h_]
        refine rdy (rs := [1]) ?_
        refine rc (fun K hK => ?k116) AllReadyH.nil
        case k116 =>
         go_simp
         refine hK.out _ _ ?h117 (fun hHeld => ?j117)
         case h117 => exact hHeld
         clear hK K
         try simp only [Act.put, List.setIfInBounds_toArray, List.set_cons_zero, List.set_cons_succ]
         refine rdy (rs := [10]) ?_
         refine rc (fun K hK => ?k118) AllReadyH.nil
         case k118 =>
          clear x9_
          subst hV9
          refine Kd.R_append_step kAddr (gx + 1) (by rfl) (.tmp 30) (.tmp 38) 26 25 (.agg #[(.string ⟨#[]⟩), (.string ⟨#[]⟩)]) 32 rfl Tryz.underlying26 info25 rfl (by decide) (by omega) (.slice B ts.length dd) ts (⟨a1, a2⟩ : SAddr) [.string a1, .string a2] (fun _ => True) (fun _ => False) rfl rfl (kAddr_mkM _ _ _ (⟨a1, a2⟩ : SAddr)) (fun _ hk => hk.elim) (fun _ _ => trivial) HT.out (Below.refl _ _) ?aS10 ?aL10 ?_
          case aS10 => exact blk_lt FX.out
          case aL10 => omega
          intro vT V10 ho hb hg hat
          refine hK.out _ _ ?h119 (fun hHeld => ?j119)
          case h119 => exact trivial
          clear hK K
          try simp only [Act.put, List.setIfInBounds_toArray, List.set_cons_zero, List.set_cons_succ]
          have nFX := Aside0.mk ((hb.block gx (Nat.lt_succ_self _)).trans FX.out : V10.heap[gx]? = some (.cells #[.string s1, .string s2, .slice B ts.length dd] 58 (0, 0)))
          have nHO := Aside0.mk (Kd.R_step HO.out (fun k hk _ => hb.block k (Nat.lt_succ_of_lt hk)))
          have nHR := Aside0.mk (Rd.keep HR.out (fun q hq => hb.block q (by omega)))
          have nHD : Aside0 (Dr g w V10) := ⟨Dr.belowB HD.out ⟨hb.os, hb.tape, hb.output, hb.size, fun k hk => hb.block k (by omega)⟩⟩
          obtain ⟨t2, et2⟩ : ∃ l, l = ts ++ [(⟨a1, a2⟩ : SAddr)] := ⟨_, rfl⟩
          rw [← et2] at ho
          obtain ⟨B2, d2, hv2⟩ := Kd.R_slice ho
          subst hv2
          have HL2 := Lib.hid (show t2.length = ts.length + 1 from by rw [et2, List.length_append]; rfl)
          have HTS2 : Aside0 (∀ t ∈ t2, smallA t) := ⟨by rw [et2]; exact smallA_snoc HTS.out HAB.out⟩
          have nHT := Aside0.mk ho
          clear FX HT HO HR HD ho hb hg hat et2 cFX_0 cFX_1 cFX_2 zFX HTS
          have FX := nFX
          have HT := nHT
          have HO := nHO
          have HR := nHR
          have HD := nHD
          have yV10 := HD.out.size
          clear nFX nHT nHO nHR nHD
          have zFX := blk_lt FX.out
          have cFX_0 : V10.cell? ⟨gx, 0, none⟩ = some (.string s1) := clq FX.out 0 rfl
          have dFX_0 := fzq FX.out 0
          have cFX_1 : V10.cell? ⟨gx, 1, none⟩ = some (.string s2) := clq FX.out 1 rfl
          have dFX_1 := fzq FX.out 1
          have cFX_2 : V10.cell? ⟨gx, 2, none⟩ = some (.slice B ts.length dd) := clq FX.out 2 rfl
          have dFX_2 := fzq FX.out 2
          refine tk 11 ?v120 ?y120 ?r120
          case y120 => intro w_ hSw; (try dsimp only at hSw); go_simp; (try (with_reducible rfl))
          try simp only [Act.put, List.setIfInBounds_toArray, List.set_cons_zero, List.set_cons_succ]
          refine rdy (rs := [12]) ?_
          refine rc (fun K hK => ?k121) AllReadyH.nil
          case k121 =>
           go_simp
           generalize hWX : World.setCell V10 _ _ = V12
           have nFX : V12.heap[gx]? = some (.cells #[.string s1, .string s2, .slice B2 t2.length d2] 58 (0, 0)) := by rw [← hWX]; have h := blk_set1 FX.out 2 (.slice B2 t2.length d2); simpa using h
           have nHT : Kd.R kAddr 25 V12 (gx + 1) (fun _ => True) (.slice B2 t2.length d2) t2 := by rw [← hWX]; exact R_setLow HT.out _ (Nat.lt_succ_self _)
           have nHO : Kd.R kAlias 58 V12 w.heap.size (fun k => k < gx) (.slice A xs.length c) xs := by rw [← hWX]; exact Kd.R_far HO.out (fun k hk => Nat.ne_of_lt hk) _
           have nHR : Rd g (m + 1 + 9 * (6 - kk) + 3 + 2 * (3 - q) + 2) V12 := by rw [← hWX]; exact HR.out.set _ (by show g < gx; omega)
           have nHD : Dr g w V12 := by rw [← hWX]; exact HD.out.set _ (.inl hgx2)
           clear hWX FX HT HO HR HD cFX_0 cFX_1 cFX_2 dFX_0 dFX_1 dFX_2 zFX
           have FX := Aside0.mk nFX
           have HT := Aside0.mk nHT
           have HO := Aside0.mk nHO
           have HR := Aside0.mk nHR
           have HD := Aside0.mk nHD
           clear nFX nHT nHO nHR nHD
           refine hK.out _ _ ?h122 (fun hHeld => ?j122)
           case h122 => exact trivial
           clear hK K
           try simp only [Act.put, List.setIfInBounds_toArray, List.set_cons_zero, List.set_cons_succ]
           refine wpAnyH_done (by kernel_rfl) ?_ _
           go_wp2
           go_roundg (q - 1)
           case measure => omega
           case rel => exact ⟨q - 1, t2, B2, d2, Nat.le_refl _, by omega, by go_num, by have := HL2.out; omega, HTS2, FX, HT, HO, ⟨HR.out.up (by omega)⟩, HD⟩
     case hk =>
      intro ga gb a1 a2 V ⟨hab, fx, ht, ho, hr_, hd_⟩
      clear joinK joinB FX HT HO HR HD zFX cFX_0 cFX_1 cFX_2
      obtain ⟨ha1, ha2⟩ := hab
      have FX := Aside0.mk fx
      have HT := Aside0.mk ht
      have HO := Aside0.mk ho
      have HR := Aside0.mk hr_
      have HD := Aside0.mk hd_
      have HAB := Lib.hid (show smallA ⟨a1, a2⟩ from ⟨ha1, ha2⟩)
      have yV := HD.out.size
      clear fx ht ho hr_ hd_
      have hHeld : True := trivial
      have zFX := blk_lt FX.out
      have cFX_0 : V.cell? ⟨gx, 0, none⟩ = some (.string s1) := clq FX.out 0 rfl
      have cFX_1 : V.cell? ⟨gx, 1, none⟩ = some (.string s2) := clq FX.out 1 rfl
      have cFX_2 : V.cell? ⟨gx, 2, none⟩ = some (.slice B ts.length dd) := clq FX.out 2 rfl
      refine tk 8 ?v124 ?y124 ?r124
      case y124 => intro w_ hSw; (try dsimp only at hSw); go_simp; (try (with_reducible rfl))
      try simp only [Act.put, List.setIfInBounds_toArray, List.set_cons_zero, List.set_cons_succ]
      refine rdy (rs := [9]) ?_
      refine rc (fun K hK => ?k125) AllReadyH.nil
      case k125 =>
       go_simp
       refine hK.out _ _ ?h126 (fun hHeld => ?j126)
       case h126 => exact trivial
       clear hK K
       try simp only [Act.put, List.setIfInBounds_toArray, List.set_cons_zero, List.set_cons_succ]
       generalize hV9 : World.alloc V _ = V9
       have x9_ : V9.cell? ⟨gx, 2, none⟩ = some (.slice B ts.length dd) := by rw [← hV9]; have h_ := blk_alloc FX.out (.cells #[.string a1, .string a2] 25); simp [World.cell?, h_]
       refine rdy (rs := [10]) ?_
       refine rc (fun K hK => ?k127) AllReadyH.nil
       case k127 =>
        clear x9_
        subst hV9
        refine Kd.R_append_step kAddr (gx + 1) (by rfl) (.tmp 30) (.tmp 38) 26 25 (.agg #[(.string ⟨#[]⟩), (.string ⟨#[]⟩)]) 32 rfl Tryz.underlying26 info25 rfl (by decide) (by omega) (.slice B ts.length dd) ts (⟨a1, a2⟩ : SAddr) [.string a1, .string a2] (fun _ => True) (fun _ => False) rfl rfl (kAddr_mkM _ _ _ (⟨a1, a2⟩ : SAddr)) (fun _ hk => hk.elim) (fun _ _ => trivial) HT.out (Below.refl _ _) ?aS10 ?aL10 ?_
        case aS10 => exact blk_lt FX.out
        case aL10 => omega
        intro vT V10 ho hb hg hat
        refine hK.out _ _ ?h128 (fun hHeld => ?j128)
        case h128 => exact trivial
        clear hK K
        try simp only [Act.put, List.setIfInBounds_toArray, List.set_cons_zero, List.set_cons_succ]
        have nFX := Aside0.mk ((hb.block gx (Nat.lt_succ_self _)).trans FX.out : V10.heap[gx]? = some (.cells #[.string s1, .string s2, .slice B ts.length dd] 58 (0, 0)))
        have nHO := Aside0.mk (Kd.R_step HO.out (fun k hk _ => hb.block k (Nat.lt_succ_of_lt hk)))
        have nHR := Aside0.mk (Rd.keep HR.out (fun q hq => hb.block q (by omega)))
        have nHD : Aside0 (Dr g w V10) := ⟨Dr.belowB HD.out ⟨hb.os, hb.tape, hb.output, hb.size, fun k hk => hb.block k (by omega)⟩⟩
        obtain ⟨t2, et2⟩ : ∃ l, l = ts ++ [(⟨a1, a2⟩ : SAddr)] := ⟨_, rfl⟩
        rw [← et2] at ho
        obtain ⟨B2, d2, hv2⟩ := Kd.R_slice ho
        subst hv2
        have HL2 := Lib.hid (show t2.length = ts.length + 1 from by rw [et2, List.length_append]; rfl)
        have HTS2 : Aside0 (∀ t ∈ t2, smallA t) := ⟨by rw [et2]; exact smallA_snoc HTS.out HAB.out⟩
        have nHT := Aside0.mk ho
        clear FX HT HO HR HD ho hb hg hat et2 cFX_0 cFX_1 cFX_2 zFX HTS
        have FX := nFX
        have HT := nHT
        have HO := nHO
        have HR := nHR
        have HD := nHD
        have yV10 := HD.out.size
        clear nFX nHT nHO nHR nHD
        have zFX := blk_lt FX.out
        have cFX_0 : V10.cell? ⟨gx, 0, none⟩ = some (.string s1) := clq FX.out 0 rfl
        have dFX_0 := fzq FX.out 0
        have cFX_1 : V10.cell? ⟨gx, 1, none⟩ = some (.string s2) := clq FX.out 1 rfl
        have dFX_1 := fzq FX.out 1
        have cFX_2 : V10.cell? ⟨gx, 2, none⟩ = some (.slice B ts.length dd) := clq FX.out 2 rfl
        have dFX_2 := fzq FX.out 2
        refine tk 11 ?v129 ?y129 ?r129
        case y129 => intro w_ hSw; (try dsimp only at hSw); go_simp; (try (with_reducible rfl))
        try simp only [Act.put, List.setIfInBounds_toArray, List.set_cons_zero, List.set_cons_succ]
        refine rdy (rs := [12]) ?_
        refine rc (fun K hK => ?k130) AllReadyH.nil
        case k130 =>
         go_simp
         generalize hWX : World.setCell V10 _ _ = V12
         have nFX : V12.heap[gx]? = some (.cells #[.string s1, .string s2, .slice B2 t2.length d2] 58 (0, 0)) := by rw [← hWX]; have h := blk_set1 FX.out 2 (.slice B2 t2.length d2); simpa using h
         have nHT : Kd.R kAddr 25 V12 (gx + 1) (fun _ => True) (.slice B2 t2.length d2) t2 := by rw [← hWX]; exact R_setLow HT.out _ (Nat.lt_succ_self _)
         have nHO : Kd.R kAlias 58 V12 w.heap.size (fun k => k < gx) (.slice A xs.length c) xs := by rw [← hWX]; exact Kd.R_far HO.out (fun k hk => Nat.ne_of_lt hk) _
         have nHR : Rd g (m + 1 + 9 * (6 - kk) + 3 + 2 * (3 - q) + 2) V12 := by rw [← hWX]; exact HR.out.set _ (by show g < gx; omega)
         have nHD : Dr g w V12 := by rw [← hWX]; exact HD.out.set _ (.inl hgx2)
         clear hWX FX HT HO HR HD cFX_0 cFX_1 cFX_2 dFX_0 dFX_1 dFX_2 zFX
         have FX := Aside0.mk nFX
         have HT := Aside0.mk nHT
         have HO := Aside0.mk nHO
         have HR := Aside0.mk nHR
         have HD := Aside0.mk nHD
         clear nFX nHT nHO nHR nHD
         refine hK.out _ _ ?h131 (fun hHeld => ?j131)
         case h131 => exact trivial
         clear hK K
         try simp only [Act.put, List.setIfInBounds_toArray, List.set_cons_zero, List.set_cons_succ]
         refine wpAnyH_done (by kernel_rfl) ?_ _
         go_wp2
         go_roundg (q - 1)
         case measure => omega
         case rel => exact ⟨q - 1, t2, B2, d2, Nat.le_refl _, by omega, by go_num, by have := HL2.out; omega, HTS2, FX, HT, HO, ⟨HR.out.up (by omega)⟩, HD⟩
    ·obtain rfl : q = 0 := by omega
     have hl2' : ¬ (0 : Int) < ((0 : Nat) : Int) := by omega
     have zFX := blk_lt FX.out
     have cFX_0 : wr.cell? ⟨gx, 0, none⟩ = some (.string s1) := clq FX.out 0 rfl
     have cFX_1 : wr.cell? ⟨gx, 1, none⟩ = some (.string s2) := clq FX.out 1 rfl
     have cFX_2 : wr.cell? ⟨gx, 2, none⟩ = some (.slice B ts.length dd) := clq FX.out 2 rfl
     go_wp2_with fail
     refine Calls.mono (specAlAt_any A c xs (⟨s1, s2⟩ : SAddr) wr (Kd.R_reads' HO.out).2.2 (by omega)) ?_
     rintro e V8 ⟨v, rfl, _, b8⟩
     clear zFX cFX_0 cFX_1 cFX_2
     replace FX := Aside0.mk (below_blk FX.out b8)
     replace HO := Aside0.mk (Kd.R_below HO.out b8)
     replace HT := Aside0.mk (Kd.R_below HT.out b8)
     replace HR := Aside0.mk (HR.out.below b8)
     replace HD := Aside0.mk (HD.out.below b8)
     have yV8 := HD.out.size
     clear b8
     by_cases hv0 : v < 0
     ·have zFX := blk_lt FX.out
      have cFX_0 : V8.cell? ⟨gx, 0, none⟩ = some (.string s1) := clq FX.out 0 rfl
      have cFX_1 : V8.cell? ⟨gx, 1, none⟩ = some (.string s2) := clq FX.out 1 rfl
      have cFX_2 : V8.cell? ⟨gx, 2, none⟩ = some (.slice B ts.length dd) := clq FX.out 2 rfl
      go_wp2_with (first | ((with_reducible refine gate_builtin (b := .append) (xs := #[.tmp 46, .tmp 48]) rfl ?_); (try (refine gate_guard (by rfl) ?_; dsimp only)); at_builtin; (refine Kd.R_append kAlias (w0 := V8) (w.heap.size) rfl (.tmp 46) (.tmp 48) 23 58 (.agg #[(.string ⟨#[]⟩), (.string ⟨#[]⟩), (.slice none 0 0)]) 56 rfl Tryz.underlying23 info58 rfl (by decide) (by omega) (.slice A xs.length c) xs (⟨⟨s1, s2⟩, ts⟩ : SAlias) [.string s1, .string s2, .slice B ts.length dd] (fun _ => True) (fun k => gx < k) rfl rfl (kAlias_mkM _ _ _ (⟨⟨s1, s2⟩, ts⟩ : SAlias) (Kd.R_lower (Kd.R_mono (Kd.R_bound HT.out) (fun k hk => Nat.lt_of_succ_le hk.2.1)) (by omega))) (fun k hk => ⟨trivial, fun e => by have h1 := HO.out.1 k e.symm; have h2 : k < gx := h1; have h3 : gx < k := hk; omega⟩) (fun _ _ => trivial) (Kd.R_mono HO.out (fun _ _ => trivial)) (Below.refl _ _) (by omega) (by omega) ?_); intro vA w9 ho hb hg hat; (have nHR := Rd.keep HR.out (fun q hq => hb.block q (by omega)); have nHD : Dr g w w9 := Dr.belowB HD.out hb; have HO9 := Aside0.mk ho; clear HR HD; have HR := Aside0.mk nHR; have HD := Aside0.mk nHD; clear ho hb hg hat nHR nHD)))
      obtain ⟨A2, c2, hv2⟩ := Kd.R_slice HO9.out
      subst hv2
      go_roundg (kk - 1)
      case measure => omega
      case rel => exact ⟨kk - 1, xs ++ [⟨⟨s1, s2⟩, ts⟩], A2, c2, Nat.le_refl _, by omega, by go_num, rfl, by simp; omega, ⟨smallAl_snoc HX.out ⟨⟨hs1, hs2⟩, by show ts.length ≤ 3; omega, HTS.out⟩⟩, HO9, ⟨HR.out.up (by omega)⟩, HD⟩
     ·go_wp2
      go_roundg (kk - 1)
      case measure => omega
      case rel => exact ⟨kk - 1, xs, A, c, Nat.le_refl _, by omega, by go_num, rfl, by omega, HX, ⟨Kd.R_mono HO.out (fun _ _ => trivial)⟩, ⟨HR.out.up (by omega)⟩, HD⟩
  ·have hlt' : ¬ (0 : Int) < (kk : Int) := by omega
   go_wp2
   go_ret
   exact ⟨xs, A, c, rfl, ⟨by omega, HX.out⟩, HO.out, HR.out.up (by omega), HD.out⟩

end Go.Proofs.YticepbgacokbbaaGreatDoor
