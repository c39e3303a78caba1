/- A row of addresses, sorted by the library: what it is then. -/
import Derived.Test.YticepbgacokbbaaGreatDoorAliasP
import Derived.Test.YticepbgacokbbaaGreatDoorLayS
import Derived.Test.YticepbgacokbbaaGreatDoorBlk
import Derived.Test.YticepbgacokbbaaGreatDoorKit0
import Derived.Test.YticepbgacokbbaaGreatDoorShelf
import Derived.Test.YticepbgacokbbaaGreatDoorReg
import Derived.Deep.RegionHeld3
namespace Go.Proofs.YticepbgacokbbaaGreatDoor
open Go Go.RowKit Go.Proofs.YticepbgacokbbaaGreatDoorW.PrintWords
set_option linter.unusedVariables false
set_option linter.unusedSimpArgs false
/-- The world grown: blocks laid behind, draws. -/
def Gr (w w' : World) : Prop := Below w.heap.size w w' ∧ w.drawn ≤ w'.drawn
theorem Gr.refl (w : World) : Gr w w := ⟨Below.refl _ _, Nat.le_refl _⟩
theorem Gr.alloc {a w : World} (h : Gr a w) (o : Obj) : Gr a (w.alloc o) := ⟨bel_alloc h.1 o, h.2⟩
theorem Gr.drew {a w : World} (h : Gr a w) : Gr a w.drew := ⟨bel_then h.1 (drew_below0 w), Nat.le_succ_of_le h.2⟩
theorem Gr.grow {w w' : World} (h : Gr w w') : ∃ q os, w' = Go.Sort.grow (w.drewN q) os := by
 obtain ⟨hb, hd⟩ := h
 refine ⟨w'.drawn - w.drawn, w'.heap.extract w.heap.size w'.heap.size, ?_⟩
 have e1 : w'.heap = w.heap ++ w'.heap.extract w.heap.size w'.heap.size := by
  apply Array.ext_getElem?
  intro k
  rw [Array.getElem?_append]
  split
  ·rename_i hk
   exact hb.block k hk
  ·rename_i hk
   rw [Array.getElem?_extract]
   by_cases h2 : k < w'.heap.size
   ·rw [if_pos (by omega), show w.heap.size + (k - w.heap.size) = k by omega]
   ·rw [if_neg (by omega), Array.getElem?_eq_none (by omega)]
 have e2 : w'.drawn = w.drawn + (w'.drawn - w.drawn) := by omega
 have h1 := hb.os
 have h3 := hb.tape
 have h4 := hb.output
 obtain ⟨hp', tp', dr', os', ou'⟩ := w'
 obtain ⟨hp, tp, dr, os, ou⟩ := w
 simp only at e1 e2 h1 h3 h4
 subst h1 h3 h4
 unfold Go.Sort.grow World.drewN
 simp only
 rw [← e1, ← e2]
instance : Inhabited SAddr := ⟨zAddr⟩
def encA (x : SAddr) : List Value := [.string x.f0, .string x.f1]
theorem rowc0 (d : Array SAddr) (j : Nat) (h : j < d.size) : (Go.Sort.flatK encA 2 d)[j * 2]! = .string d[j]!.f0 := by
 rw [Go.Sort.get_flatK _ _ _ _ (by omega), show j * 2 / 2 = j by omega, show j * 2 % 2 = 0 by omega]; rfl
theorem rowc1 (d : Array SAddr) (j : Nat) (h : j < d.size) : (Go.Sort.flatK encA 2 d)[j * 2 + 1]! = .string d[j]!.f1 := by
 rw [Go.Sort.get_flatK _ _ _ _ (by omega), show (j * 2 + 1) / 2 = j by omega, show (j * 2 + 1) % 2 = 1 by omega]; rfl
theorem getB (xs : List SAddr) (j : Nat) : xs.toArray[j]! = xs.getD j zAddr := by
 by_cases h : j < xs.length
 ·rw [getElem!_pos xs.toArray j (by simpa using h), List.getD, List.getElem?_eq_getElem h]; simp
 ·rw [getElem!_neg xs.toArray j (by simpa using h), List.getD, List.getElem?_eq_none (by omega)]; rfl
theorem holds_row {W : World} {e base : Nat} {ok : Nat → Prop} {g cap : Nat} {xs : List SAddr} (h : Kd.R kAddr e W base ok (.slice (some ⟨g, 0, none⟩) xs.length cap) xs) : Go.Sort.HoldsK encA 2 W g 0 xs.toArray := by
 intro j hj
 rw [Go.Sort.size_flatK] at hj
 have hj : j < xs.length * 2 := by simpa using hj
 obtain ⟨cells, hb⟩ := Kd.R_typed h g rfl
 refine ⟨?_, blk_frozen hb _⟩
 obtain ⟨ad, e1, p0, p1⟩ := at_Addr (Kd.R_reads' h).2.2 (j / 2) (by omega)
 have e2 : ad = ⟨g, 0, none⟩ := (Option.some.inj e1).symm
 subst e2
 rw [add_plain] at p0 p1
 rcases (by omega : j = j / 2 * 2 ∨ j = j / 2 * 2 + 1) with hq | hq
 ·rw [hq, rowc0 _ _ (by simp; omega), getB, Nat.zero_add]; exact p0
 ·rw [hq, rowc1 _ _ (by simp; omega), getB, Nat.zero_add]; exact p1
theorem two_at {L : List Value} {n j : Nat} {a b : Value} (hj : j < n) (h0 : L[j * 2]? = some a) (h1 : L[j * 2 + 1]? = some b) : ((L.take (n * 2)).drop (j * 2)).take 2 = [a, b] := by
 apply List.ext_getElem?
 intro i
 match i with
 | 0 => rw [List.getElem?_take, List.getElem?_drop, List.getElem?_take]; simp [show j * 2 < n * 2 by omega, h0]
 | 1 => rw [List.getElem?_take, List.getElem?_drop, List.getElem?_take]; simp [show j * 2 + 1 < n * 2 by omega, h1]
 | i + 2 => rw [List.getElem?_take, if_neg (by omega)]; simp
theorem sorted_row {W : World} {e base m : Nat} {os : Array Obj} {ok : Nat → Prop} {g cap : Nat} {xs ys : List SAddr} (h : Kd.R kAddr e W base ok (.slice (some ⟨g, 0, none⟩) xs.length cap) xs) (hl : ys.length = xs.length) :
  Kd.R kAddr e (sortWorldK encA 2 W g 0 m ys.toArray os) base ok (.slice (some ⟨g, 0, none⟩) ys.length cap) ys ∧ W.grownBy (sortWorldK encA 2 W g 0 m ys.toArray os) (some g) := by
 obtain ⟨h0, inner, ho, hr⟩ := h
 obtain ⟨hlen, ho⟩ := ho
 rcases ho with ⟨he, _⟩ | ⟨g', cap', cur, he, hg, hb, hn, hc, hcur, htake⟩
 ·cases he
 injection he with e1 e2 e3
 have e1 : g = g' := congrArg Addr.block (Option.some.inj e1)
 subst e1
 subst e3
 have hlt : g < W.heap.size := blk_lt hb
 have hk2 : (kAddr.sz) = 2 := rfl
 rw [hk2] at hcur
 generalize hF : Go.Sort.flatK encA 2 ys.toArray = F
 have hFs : F.size = ys.length * 2 := by rw [← hF, Go.Sort.size_flatK]; simp
 have hb1 : (sortWorldK encA 2 W g 0 m ys.toArray os).heap[g]? = some (.cells (Go.Sort.putCells id 0 F cur) e (0, 0)) := by
  unfold sortWorldK Go.Sort.putRowK Go.Sort.putRow
  rw [hF, Go.Sort.heap_grow_old _ _ (by show g < (Array.modify _ _ _).size; rw [Array.size_modify]; exact hlt)]
  show (Array.modify W.heap g _)[g]? = _
  rw [Array.getElem?_modify, if_pos rfl, hb]
  rfl
 have hgr : W.grownBy (sortWorldK encA 2 W g 0 m ys.toArray os) (some g) := by
  refine ⟨rfl, rfl, rfl, ?_, fun i hi hne => ?_⟩
  ·unfold sortWorldK Go.Sort.putRowK Go.Sort.putRow
   rw [Go.Sort.size_grow]
   show _ ≤ (Array.modify _ _ _).size + _
   rw [Array.size_modify]
   exact Nat.le_add_right _ _
  ·unfold sortWorldK Go.Sort.putRowK Go.Sort.putRow
   rw [Go.Sort.heap_grow_old _ _ (by show i < (Array.modify _ _ _).size; rw [Array.size_modify]; exact hi)]
   show (Array.modify W.heap g _)[i]? = _
   rw [Array.getElem?_modify, if_neg (fun e => hne (by rw [e]))]
 have hat : ∀ k, k < ys.length * 2 → (Go.Sort.putCells id 0 F cur).toList[k]? = some F[k]! := by
  intro k hk
  rw [Array.getElem?_toList]
  unfold Go.Sort.putCells
  rw [Array.getElem?_mapIdx, Array.getElem?_eq_getElem (show k < cur.size by omega)]
  simp only [Option.map_some]
  rw [if_pos ⟨by omega, by omega⟩]
  rfl
 have hcs : (Go.Sort.putCells id 0 F cur).size = cur.size := by unfold Go.Sort.putCells; simp
 have hlL : (Go.Sort.putCells id 0 F cur).toList.length = cap * 2 := by rw [Array.length_toList, hcs, hcur]
 refine ⟨⟨h0, (Go.Sort.putCells id 0 F cur).toList.take (ys.length * 2), ⟨?_, .inr ⟨g, cap, _, rfl, hg, hb1, by omega, hc, by rw [hcs, hcur]; rfl, rfl⟩⟩, ?_, fun j p hj => ?_⟩, hgr⟩
 ·rw [List.length_take, hlL]
  show min (ys.length * 2) (cap * 2) = ys.length * 2
  omega
 ·rw [List.length_take, hlL]
  show min (ys.length * 2) (cap * 2) = ys.length * 2
  omega
 ·have hjl : j < ys.length := by
   rcases Nat.lt_or_ge j ys.length with h | h
   ·exact h
   ·rw [List.getElem?_eq_none h] at hj; cases hj
  have hp : ys.getD j zAddr = p := by rw [List.getD, hj]; rfl
  have q0 : F[j * 2]! = .string p.f0 := by rw [← hF, rowc0 _ _ (by simpa using hjl), getB, hp]
  have q1 : F[j * 2 + 1]! = .string p.f1 := by rw [← hF, rowc1 _ _ (by simpa using hjl), getB, hp]
  have ht := two_at hjl ((hat _ (by omega)).trans (congrArg some q0)) ((hat _ (by omega)).trans (congrArg some q1))
  show kAddr.M _ _ _ p (((List.take (ys.length * 2) _).drop (j * 2)).take 2)
  rw [ht]
  exact kAddr_mkM _ _ _ p

end Go.Proofs.YticepbgacokbbaaGreatDoor

/- Addresses by domain, then by user: the program's order, and its sort: contracts. -/
namespace Go.Proofs.YticepbgacokbbaaGreatDoor
open Go Go.RowKit Go.Proofs.YticepbgacokbbaaGreatDoorW.PrintWords
set_option linter.unusedVariables false
set_option linter.unusedSimpArgs false

set_option maxRecDepth 100000 in
theorem cmpOr_any (g : Nat) (x y : Int) (w : World) (h0 : w.cell? ⟨g, 0, none⟩ = some (.int .i64 x)) (h1 : w.cell? ⟨g, 1, none⟩ = some (.int .i64 y)) :
  Calls Tryz.prog 87 #[.slice (some ⟨g, 0, none⟩) 2 2] w fun e w' => e = .returned (.int .i64 (if x = 0 then y else x)) ∧ w' = w := by
 obtain ⟨r, hr⟩ : ∃ r, r = (if x = 0 then y else x) := ⟨_, rfl⟩
 rw [← hr]
 have HR0 := Lib.hid (show x = 0 → r = y from fun h => by rw [hr, if_pos h])
 have HR1 := Lib.hid (show ¬ x = 0 → r = x from fun h => by rw [hr, if_neg h])
 clear hr
 go_enter Tryz.func87, Tryz.ntmps87
 go_wp2
 go_loopg [5, 8] 2 (fun g' _ v8 wr => ∃ k : Nat, k ≤ 2 ∧ 2 - k ≤ g' ∧ v8 = .int .i64 (k : Int) ∧ w = wr ∧ (1 ≤ k → x = 0) ∧ (2 ≤ k → y = 0))
 case atStart => exact ⟨0, by omega, by omega, rfl, rfl, fun h => absurd h (by omega), fun h => absurd h (by omega)⟩
 case round =>
  obtain ⟨k, hk, hg, rfl, rfl, hx, hy⟩ := hrel
  rcases (by omega : k = 0 ∨ k = 1 ∨ k = 2) with rfl | rfl | rfl
  ·by_cases e0 : x = 0
   ·have hb : (x != 0) = false := by simp [e0]
    go_wp2
    go_roundg 1
    case measure => omega
    case rel => exact ⟨1, by omega, by omega, rfl, rfl, fun _ => e0, fun h => absurd h (by omega)⟩
   ·have hb : (x != 0) = true := by simp [e0]
    go_wp2
    go_ret
    exact ⟨reti (HR1.out e0).symm, rfl⟩
  ·have ex := hx (by omega)
   subst ex
   clear hx hy
   by_cases e0 : y = 0
   ·have hb : (y != 0) = false := by simp [e0]
    go_wp2
    go_roundg 0
    case measure => omega
    case rel => exact ⟨2, by omega, by omega, rfl, rfl, fun _ => by trivial, fun _ => e0⟩
   ·have hb : (y != 0) = true := by simp [e0]
    go_wp2
    go_ret
    exact ⟨reti (HR0.out (by trivial)).symm, rfl⟩
  ·have ex := hx (by omega)
   have ey := hy (by omega)
   subst ex
   subst ey
   clear hx hy
   go_wp2
   go_ret
   exact ⟨reti (HR0.out (by trivial)).symm, rfl⟩
def aCmp (a b : SAddr) : Int := if Lib.compareBytes a.f1.data.toList b.f1.data.toList = 0 then Lib.compareBytes a.f0.data.toList b.f0.data.toList else Lib.compareBytes a.f1.data.toList b.f1.data.toList
theorem aCmp_lt (a b : SAddr) : decide (aCmp a b < 0) = aLt a b := by
 have h1 := bless_cmp a.f1.data.toList b.f1.data.toList
 have h0 := bless_cmp a.f0.data.toList b.f0.data.toList
 rw [Bool.eq_iff_iff, decide_eq_true_iff]
 unfold aCmp aLt
 rw [ByteArray.toList_eq, ByteArray.toList_eq, ByteArray.toList_eq, ByteArray.toList_eq, Bool.or_eq_true, Bool.and_eq_true, beq_iff_eq]
 by_cases he : a.f1.data.toList = b.f1.data.toList
 ·rw [if_pos (h1.2.2 he), h0.1, he, bless_irrefl]
  simp
 ·have hz : ¬ Lib.compareBytes a.f1.data.toList b.f1.data.toList = 0 := fun e => he (h1.2.1 e)
  rw [if_neg hz, h1.1]
  simp [he]
theorem blk_two (w : World) (o p : Obj) : ((w.alloc o).alloc p).heap[w.heap.size]? = some o ∧ ((w.alloc o).alloc p).heap[w.heap.size + 1]? = some p := by
 refine ⟨below_blk (blk_new w o) (bel_alloc (Below.refl _ _) _), ?_⟩
 have h := blk_new (w.alloc o) p
 rwa [show (w.alloc o).heap.size = w.heap.size + 1 by simp] at h
set_option maxRecDepth 100000 in
set_option maxHeartbeats 4000000 in
theorem byDomain_any (a b : SAddr) (w : World) : Calls Tryz.prog 67 #[.agg #[.string a.f0, .string a.f1], .agg #[.string b.f0, .string b.f1]] w fun e w' => e = .returned (.int .i64 (aCmp a b)) ∧ Gr w w' := by
 have hc1 := fun W => Tryz.strings_Compare a.f1 b.f1 W
 have hc2 := fun W => Tryz.strings_Compare a.f0 b.f0 W
 unfold aCmp
 generalize Lib.compareBytes a.f1.data.toList b.f1.data.toList = cu at hc1 ⊢
 generalize Lib.compareBytes a.f0.data.toList b.f0.data.toList = cd at hc2 ⊢
 obtain ⟨r, hr⟩ : ∃ r, r = (if cu = 0 then cd else cu) := ⟨_, rfl⟩
 rw [← hr]
 have HRR := Lib.hid hr.symm
 clear hr
 have hb2 := blk_two w (.cells #[.string a.f0, .string a.f1] 25) (.cells #[.string b.f0, .string b.f1] 25)
 have hGr : Gr w ((w.alloc (.cells #[.string a.f0, .string a.f1] 25)).alloc (.cells #[.string b.f0, .string b.f1] 25)) := ((Gr.refl w).alloc _).alloc _
 go_enter Tryz.func67, Tryz.ntmps67
 go_wp2
 generalize hW0 : World.alloc (World.alloc w _) _ = W0
 rw [hW0] at hb2 hGr
 have HGr := Aside0.mk hGr
 clear hW0 hGr
 have x0 : W0.drew.cell? ⟨w.heap.size, 0, none⟩ = some (.string a.f0) := by simp [World.cell?, show W0.drew.heap[w.heap.size]? = _ from hb2.1]
 have x1 : W0.drew.cell? ⟨w.heap.size, 1, none⟩ = some (.string a.f1) := by simp [World.cell?, show W0.drew.heap[w.heap.size]? = _ from hb2.1]
 have x2 : W0.drew.cell? ⟨w.heap.size + 1, 0, none⟩ = some (.string b.f0) := by simp [World.cell?, show W0.drew.heap[w.heap.size + 1]? = _ from hb2.2]
 have x3 : W0.drew.cell? ⟨w.heap.size + 1, 1, none⟩ = some (.string b.f1) := by simp [World.cell?, show W0.drew.heap[w.heap.size + 1]? = _ from hb2.2]
 clear hb2
 refine wp_region_held_drew (S := (fun W => W.cell? ⟨w.heap.size, 0, none⟩ = some (.string a.f0) ∧ W.cell? ⟨w.heap.size, 1, none⟩ = some (.string a.f1) ∧ W.cell? ⟨w.heap.size + 1, 0, none⟩ = some (.string b.f0) ∧ W.cell? ⟨w.heap.size + 1, 1, none⟩ = some (.string b.f1) ∧ Gr w W)) (by kernel_rfl) ?s1 (fun hHeld => ?t1)
 case s1 => exact ⟨x0, x1, x2, x3, HGr.out.drew⟩
 generalize World.drew _ = V0 at hHeld ⊢
 clear x0 x1 x2 x3 HGr
 refine tk 0 ?v2 ?y2 ?r2
 case y2 => intro w_ hSw; (try dsimp only at hSw); go_simp; (try (with_reducible rfl))
 try simp only [Act.put, List.setIfInBounds_toArray, List.set_cons_zero, List.set_cons_succ]
 refine tk 1 ?v3 ?y3 ?r3
 case y3 => intro w_ hSw; (try dsimp only at hSw); go_simp; (try (with_reducible rfl))
 try simp only [Act.put, List.setIfInBounds_toArray, List.set_cons_zero, List.set_cons_succ]
 refine tk 2 ?v4 ?y4 ?r4
 case y4 => intro w_ hSw; (try dsimp only at hSw); go_simp; (try (with_reducible rfl))
 try simp only [Act.put, List.setIfInBounds_toArray, List.set_cons_zero, List.set_cons_succ]
 refine tk 3 ?v5 ?y5 ?r5
 case y5 => intro w_ hSw; (try dsimp only at hSw); go_simp; (try (with_reducible rfl))
 try simp only [Act.put, List.setIfInBounds_toArray, List.set_cons_zero, List.set_cons_succ]
 refine tk 5 ?v6 ?y6 ?r6
 case y6 => intro w_ hSw; (try dsimp only at hSw); go_simp; (try (with_reducible rfl))
 try simp only [Act.put, List.setIfInBounds_toArray, List.set_cons_zero, List.set_cons_succ]
 refine tk 6 ?v7 ?y7 ?r7
 case y7 => intro w_ hSw; (try dsimp only at hSw); go_simp; (try (with_reducible rfl))
 try simp only [Act.put, List.setIfInBounds_toArray, List.set_cons_zero, List.set_cons_succ]
 refine tk 7 ?v8 ?y8 ?r8
 case y8 => intro w_ hSw; (try dsimp only at hSw); go_simp; (try (with_reducible rfl))
 try simp only [Act.put, List.setIfInBounds_toArray, List.set_cons_zero, List.set_cons_succ]
 refine tk 8 ?v9 ?y9 ?r9
 case y9 => intro w_ hSw; (try dsimp only at hSw); go_simp; (try (with_reducible rfl))
 try simp only [Act.put, List.setIfInBounds_toArray, List.set_cons_zero, List.set_cons_succ]
 refine rdy (rs := [4]) ?_
 refine rc (fun K hK => ?k10) AllReadyH.nil
 case k10 =>
  go_simp
  refine Calls.mono (hc1 _) ?_
  rintro e wx ⟨rfl, hx⟩
  replace hx := hx.symm
  subst hx
  refine hK.out _ _ ?h11 (fun hHeld => ?j11)
  case h11 => exact hHeld
  clear hK K
  try simp only [Act.put, List.setIfInBounds_toArray, List.set_cons_zero, List.set_cons_succ]
  refine rdy (rs := [9]) ?_
  refine rc (fun K hK => ?k12) AllReadyH.nil
  case k12 =>
   go_simp
   refine Calls.mono (hc2 _) ?_
   rintro e wx ⟨rfl, hx⟩
   replace hx := hx.symm
   subst hx
   refine hK.out _ _ ?h13 (fun hHeld => ?j13)
   case h13 => exact hHeld
   clear hK K
   try simp only [Act.put, List.setIfInBounds_toArray, List.set_cons_zero, List.set_cons_succ]
   refine rdy (rs := [10]) ?_
   refine rc (fun K hK => ?k14) AllReadyH.nil
   case k14 =>
    go_simp
    generalize hV10 : World.alloc V0 _ = V10 at hHeld ⊢
    have b10 : Below V0.heap.size V0 V10 := by rw [← hV10]; exact bel_alloc (Below.refl _ _) _
    have g10 : Gr w V10 := by rw [← hV10]; exact hHeld.2.2.2.2.alloc _
    have FB : Aside0 (V10.heap[V0.heap.size]? = some (.cells #[.int .i64 cu, .int .i64 cd] 3 (0, 0))) := ⟨by rw [← hV10]; exact blk_new _ _⟩
    obtain ⟨gb, hgb⟩ : ∃ g, g = V0.heap.size := ⟨_, rfl⟩
    rw [← hgb] at FB ⊢
    clear hV10
    refine hK.out _ _ ?h15 (fun hHeld => ?j15)
    case h15 => exact ⟨(b10.cell (World.block_lt_of_cell? _ _ hHeld.1)).trans hHeld.1, (b10.cell (World.block_lt_of_cell? _ _ hHeld.2.1)).trans hHeld.2.1, (b10.cell (World.block_lt_of_cell? _ _ hHeld.2.2.1)).trans hHeld.2.2.1, (b10.cell (World.block_lt_of_cell? _ _ hHeld.2.2.2.1)).trans hHeld.2.2.2.1, g10⟩
    clear hK K
    try simp only [Act.put, List.setIfInBounds_toArray, List.set_cons_zero, List.set_cons_succ]
    clear hgb
    refine rdy (rs := [11]) ?_
    refine rc (fun K hK => ?k16) AllReadyH.nil
    case k16 =>
     go_simp
     have hor := cmpOr_any gb cu cd V10 (by simp [World.cell?, FB.out]) (by simp [World.cell?, FB.out])
     rw [HRR.out] at hor
     refine Calls.mono hor ?_
     rintro e wx ⟨rfl, hx⟩
     replace hx := hx.symm
     subst hx
     clear hor
     refine hK.out _ _ ?h17 (fun hHeld => ?j17)
     case h17 => exact hHeld
     clear hK K
     try simp only [Act.put, List.setIfInBounds_toArray, List.set_cons_zero, List.set_cons_succ]
     refine tk 12 ?v18 ?y18 ?r18
     case y18 => intro w_ hSw; (try dsimp only at hSw); go_simp; (try (with_reducible rfl))
     try simp only [Act.put, List.setIfInBounds_toArray, List.set_cons_zero, List.set_cons_succ]
     refine wpAnyH_done (by kernel_rfl) ?_ _
     have hg := hHeld.2.2.2.2
     clear hHeld
     go_wp2
     go_ret
     exact ⟨rfl, hg⟩
theorem swo_aLt : Go.Sort.SWO (ltOf aCmp) where
 irrefl x := by rw [show ltOf aCmp x x = _ from aCmp_lt x x]; exact aLt_irrefl x
 trans x y z h k := by
  rw [show ltOf aCmp _ _ = _ from aCmp_lt _ _] at h k ⊢
  exact aLt_trans h k
 ntrans x y z h k := by
  rw [show ltOf aCmp _ _ = _ from aCmp_lt _ _] at h k ⊢
  cases hq : aLt x z
  ·rfl
  ·cases hxy : aLt y x
   ·have e := aLt_total h hxy
    subst e
    rw [hq] at k; cases k
   ·have := aLt_trans hxy hq
    rw [k] at this; cases this
set_option maxRecDepth 100000 in
theorem sortAddr_any {W : World} {base : Nat} {ok : Nat → Prop} {g cap : Nat} {xs : List SAddr} (h : Kd.R kAddr 25 W base ok (.slice (some ⟨g, 0, none⟩) xs.length cap) xs) (hn : xs.Nodup) (hl : xs.length ≤ 16777216) :
  Calls Tryz.prog 66 #[.slice (some ⟨g, 0, none⟩) xs.length cap, .func (.func 67) #[] #[]] W fun e w' => e = .returned (.tuple #[]) ∧ ∃ ys, Rise ys ∧ (∀ b, b ∈ ys ↔ b ∈ xs) ∧ ys.length = xs.length ∧ Kd.R kAddr 25 w' base ok (.slice (some ⟨g, 0, none⟩) ys.length cap) ys ∧ W.grownBy w' (some g) := by
 obtain ⟨cells, hb⟩ := Kd.R_typed h g rfl
 have hcon := AnyQ.slices_SortFunc Tryz.sortAddr 2 Tryz.isAgg25 Tryz.sizeOf25 encA (fun _ => rfl) (fun x v hv => by simp [encA] at hv; rcases hv with rfl | rfl <;> rfl) aCmp swo_aLt 67 #[] g 0 cap xs.toArray W (enters_of Tryz.func67 (by kernel_rfl) rfl)
  (fun _ _ _ _ x y => (byDomain_any x y _).mono fun _ _ hq => ⟨hq.1, hq.2.grow⟩) (holds_row h) (blk_lt hb) (by simp; omega)
 have hsz : xs.toArray.size = xs.length := by simp
 rw [hsz] at hcon
 refine Calls.mono hcon ?_
 rintro e w' ⟨rfl, d', n, os, hp, hs, rfl⟩
 refine ⟨rfl, ?_⟩
 obtain ⟨h1, _, h3⟩ := hp
 have hds : d'.size = xs.length := by rw [h1, hsz]
 have hperm : d'.toList.Perm xs := by
  have e1 : d'.extract 0 xs.length = d' := by rw [← hds]; exact Array.extract_size
  have e2 : xs.toArray.extract 0 xs.length = xs.toArray := by rw [← hsz]; exact Array.extract_size
  rw [e1, e2] at h3
  exact h3
 have hlen : d'.toList.length = xs.length := by rw [Array.length_toList, hds]
 have hrow := sorted_row (os := os) (m := n) h hlen
 rw [show d'.toList.toArray = d' from Array.toArray_toList] at hrow
 refine ⟨d'.toList, ?_, fun b => hperm.mem_iff, hlen, hrow.1, hrow.2⟩
 have hnd : d'.toList.Nodup := hperm.symm.nodup hn
 apply List.pairwise_iff_getElem.2
 intro i j hi hj hij
 have hs := hs i j (Nat.zero_le _) hij (by omega)
 rw [show ltOf aCmp _ _ = _ from aCmp_lt _ _] at hs
 rw [getElem!_pos d' j (by omega), getElem!_pos d' i (by omega)] at hs
 cases hq : aLt d'.toList[i] d'.toList[j]
 ·exfalso
  have e := aLt_total hq hs
  exact (List.pairwise_iff_getElem.1 hnd i j hi hj hij) e
 ·rfl
theorem sortNone_any (W : World) (cap : Nat) (p : Option Addr) : Calls Tryz.prog 66 #[.slice p 0 cap, .func (.func 67) #[] #[]] W fun e w' => e = .returned (.tuple #[]) ∧ w' = W :=
 AnyF.slices_SortFunc_none Tryz.sortAddr p cap _ W

end Go.Proofs.YticepbgacokbbaaGreatDoor
