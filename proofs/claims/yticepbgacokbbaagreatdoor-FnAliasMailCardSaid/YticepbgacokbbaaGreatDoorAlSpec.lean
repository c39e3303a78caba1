/- The reference's small words on aliases: where an address stands, whether it is there, which of two comes first: contracts. -/
import Derived.Test.YticepbgacokbbaaGreatDoorAliasS
import Derived.Test.YticepbgacokbbaaGreatDoorAliasP
import Derived.Test.YticepbgacokbbaaGreatDoorDrwK
import Derived.Test.YticepbgacokbbaaGreatDoorReg
import Derived.Deep.QuietTactic
import Derived.BigQuiet
import Derived.Deep.RegionHeld3
import Derived.Test.YticepbgacokbbaaGreatDoorAlWalk
namespace Go.Proofs.YticepbgacokbbaaGreatDoor
open Go.RowKit Go.Proofs.YticepbgacokbbaaGreatDoorW.PrintWords
set_option linter.unusedVariables false
set_option linter.unusedSimpArgs false

attribute [local go_sem high] eqA25
def AtP (xs : List SAlias) (a : SAddr) (v : Int) : Prop := (v = -1 ∧ isAl xs a = false) ∨ ∃ k : Nat, v = (k : Int) ∧ k < xs.length ∧ isAl xs a = true ∧ (xs.getD k zAlias).f1 = tos xs a
theorem tos_first {xs : List SAlias} {a : SAddr} : ∀ {k : Nat}, k < xs.length → (∀ j, j < k → (xs.getD j zAlias).f0 ≠ a) → (xs.getD k zAlias).f0 = a → isAl xs a = true ∧ (xs.getD k zAlias).f1 = tos xs a := by
 induction xs with
 | nil => intro k h; simp at h
 | cons y r ih =>
  intro k hk hj he
  cases k with
  | zero =>
   have he : y.f0 = a := he
   refine ⟨isAl_iff.2 ⟨y, by simp, he⟩, ?_⟩
   unfold tos
   rw [List.find?_cons, decide_eq_true he]
   rfl
  | succ k =>
   have h0 : y.f0 ≠ a := hj 0 (by omega)
   have h1 := ih (k := k) (by simpa using hk) (fun j hjk => hj (j + 1) (by omega)) he
   refine ⟨?_, ?_⟩
   ·obtain ⟨x, hx, e⟩ := isAl_iff.1 h1.1
    exact isAl_iff.2 ⟨x, by simp [hx], e⟩
   ·unfold tos
    rw [List.find?_cons, decide_eq_false h0]
    exact h1.2
theorem isAl_none {xs : List SAlias} {a : SAddr} (h : ∀ j, j < xs.length → (xs.getD j zAlias).f0 ≠ a) : isAl xs a = false := by
 cases hq : isAl xs a
 ·rfl
 ·obtain ⟨x, hx, e⟩ := isAl_iff.1 hq
  obtain ⟨j, hj, rfl⟩ := List.getElem_of_mem hx
  have := h j hj
  rw [List.getD, List.getElem?_eq_getElem hj] at this
  exact absurd e this
set_option maxRecDepth 100000 in
set_option maxHeartbeats 4000000 in
theorem specAlAt_any (A : Option Addr) (c : Nat) (xs : List SAlias) (a : SAddr) (w : World) (hr : Kd.C kAlias w A xs.length xs) (hlen : xs.length ≤ 1048576) :
  Calls Tryz.prog 72 #[.slice A xs.length c, .agg #[.string a.f0, .string a.f1]] w fun e w' => ∃ v, e = .returned (.int .i64 v) ∧ AtP xs a v ∧ Below w.heap.size w w' := by
 go_enter Tryz.func72, Tryz.ntmps72
 go_wp2_with fail
 obtain ⟨W0, hW0⟩ : ∃ W, W = w.alloc (.cells #[.string a.f0, .string a.f1] 25) := ⟨_, rfl⟩
 rw [← hW0]
 have F0 : Aside0 (W0.heap[w.heap.size]? = some (.cells #[.string a.f0, .string a.f1] 25 (0, 0))) := ⟨by rw [hW0]; exact blk_at _ _ rfl⟩
 have B0 : Aside0 (Below w.heap.size w W0) := ⟨by rw [hW0]; exact bel_alloc (Below.refl _ _) _⟩
 clear hW0
 go_wp2
 go_loopg [5] (xs.length) (fun g v5 wr => ∃ k : Nat, k ≤ xs.length ∧ xs.length - k ≤ g ∧ v5 = .int .i64 (k : Int) ∧ Aside0 (Below W0.heap.size W0 wr) ∧ Hid (∀ j, j < k → (xs.getD j zAlias).f0 ≠ a))
 case atStart => exact ⟨0, Nat.zero_le _, by omega, rfl, ⟨Below.refl _ _⟩, Lib.hid (fun j hj => absurd hj (Nat.not_lt_zero _))⟩
 case round =>
  obtain ⟨k, hk, hg, rfl, BW, H⟩ := hrel
  have hz := BW.out.size
  by_cases hlt : k < xs.length
  ·have hlt' : (k : Int) < (xs.length : Int) := by omega
   obtain ⟨ad, _, _, e1, p0, p1, _, _, _⟩ := at_Alias (Kd.C_below hr (bel_then B0.out BW.out)) k hlt
   subst e1
   have hF := below_blk F0.out BW.out
   have c0 : wr.cell? ⟨w.heap.size, 0, none⟩ = some (.string a.f0) := by simp [World.cell?, hF]
   have c1 : wr.cell? ⟨w.heap.size, 1, none⟩ = some (.string a.f1) := by simp [World.cell?, hF]
   have zl := blk_lt hF
   have heq := addr_eq (xs.getD k zAlias).f0 a
   by_cases hq : (xs.getD k zAlias).f0 = a
   ·have HA := Lib.hid (show AtP xs a (k : Int) from .inr ⟨k, rfl, hlt, tos_first hlt H.out hq⟩)
    rw [decide_eq_true hq] at heq
    generalize (xs.getD k zAlias).f0 = y at p0 p1 heq hq
    clear hq hr hF
    go_wp2
    repeat (go_quiet (fail); try go_wp2)
    go_ret
    exact ⟨_, rfl, HA.out, bel_then B0.out (blw_drewN BW.out _)⟩
   ·have HN := Lib.hid hq
    rw [decide_eq_false hq] at heq
    generalize (xs.getD k zAlias).f0 = y at p0 p1 heq
    clear hq hr hF
    go_wp2
    repeat (go_quiet (fail); try go_wp2)
    go_roundg (xs.length - (k + 1))
    case measure => omega
    case rel => exact ⟨k + 1, by omega, Nat.le_refl _, by go_num, ⟨blw_drewN BW.out _⟩, Lib.hid (fun j hj => by
     by_cases e : j = k
     ·subst e; exact HN.out
     ·exact H.out j (by omega))⟩
  ·have hlt' : ¬ (k : Int) < (xs.length : Int) := by omega
   have HA := Lib.hid (show AtP xs a (-1) from .inl ⟨rfl, isAl_none (fun j hj => H.out j (by omega))⟩)
   go_wp2
   go_ret
   exact ⟨_, rfl, HA.out, bel_then B0.out BW.out⟩
set_option maxRecDepth 100000 in
set_option maxHeartbeats 4000000 in
theorem specHas_any (A : Option Addr) (c : Nat) (xs : List SAddr) (a : SAddr) (w : World) (hr : Kd.C kAddr w A xs.length xs) (hlen : xs.length ≤ 16777216) :
  Calls Tryz.prog 92 #[.slice A xs.length c, .agg #[.string a.f0, .string a.f1]] w fun e w' => e = .returned (.bool (decide (a ∈ xs))) ∧ Below w.heap.size w w' := by
 obtain ⟨Q, hQ⟩ : ∃ Q, Q = decide (a ∈ xs) := ⟨_, rfl⟩
 rw [← hQ]
 have HQ := Lib.hid hQ
 clear hQ
 go_enter Tryz.func92, Tryz.ntmps92
 go_wp2_with fail
 obtain ⟨W0, hW0⟩ : ∃ W, W = w.alloc (.cells #[.string a.f0, .string a.f1] 25) := ⟨_, rfl⟩
 rw [← hW0]
 have F0 : Aside0 (W0.heap[w.heap.size]? = some (.cells #[.string a.f0, .string a.f1] 25 (0, 0))) := ⟨by rw [hW0]; exact blk_at _ _ rfl⟩
 have B0 : Aside0 (Below w.heap.size w W0) := ⟨by rw [hW0]; exact bel_alloc (Below.refl _ _) _⟩
 clear hW0
 go_wp2
 go_loopg [5] (xs.length) (fun g v5 wr => ∃ k : Nat, k ≤ xs.length ∧ xs.length - k ≤ g ∧ v5 = .int .i64 (k : Int) ∧ Aside0 (Below W0.heap.size W0 wr) ∧ Hid (∀ j, j < k → xs.getD j zAddr ≠ a))
 case atStart => exact ⟨0, Nat.zero_le _, by omega, rfl, ⟨Below.refl _ _⟩, Lib.hid (fun j hj => absurd hj (Nat.not_lt_zero _))⟩
 case round =>
  obtain ⟨k, hk, hg, rfl, BW, H⟩ := hrel
  have hz := BW.out.size
  by_cases hlt : k < xs.length
  ·have hlt' : (k : Int) < (xs.length : Int) := by omega
   obtain ⟨ad, e1, p0, p1⟩ := at_Addr (Kd.C_below hr (bel_then B0.out BW.out)) k hlt
   subst e1
   have hF := below_blk F0.out BW.out
   have c0 : wr.cell? ⟨w.heap.size, 0, none⟩ = some (.string a.f0) := by simp [World.cell?, hF]
   have c1 : wr.cell? ⟨w.heap.size, 1, none⟩ = some (.string a.f1) := by simp [World.cell?, hF]
   have zl := blk_lt hF
   have heq := addr_eq (xs.getD k zAddr) a
   have hmem := getD_mem xs zAddr hlt
   by_cases hq : xs.getD k zAddr = a
   ·have HA := Lib.hid (show decide (a ∈ xs) = true from decide_eq_true (hq ▸ hmem))
    rw [decide_eq_true hq] at heq
    generalize xs.getD k zAddr = y at p0 p1 heq hq
    clear hq hr hF hmem
    go_wp2
    repeat (go_quiet (fail); try go_wp2)
    go_ret
    exact ⟨retb (by rw [HQ.out, HA.out]), bel_then B0.out (blw_drewN BW.out _)⟩
   ·have HN := Lib.hid hq
    rw [decide_eq_false hq] at heq
    generalize xs.getD k zAddr = y at p0 p1 heq
    clear hq hr hF hmem
    go_wp2
    repeat (go_quiet (fail); try go_wp2)
    go_roundg (xs.length - (k + 1))
    case measure => omega
    case rel => exact ⟨k + 1, by omega, Nat.le_refl _, by go_num, ⟨blw_drewN BW.out _⟩, Lib.hid (fun j hj => by
     by_cases e : j = k
     ·subst e; exact HN.out
     ·exact H.out j (by omega))⟩
  ·have hlt' : ¬ (k : Int) < (xs.length : Int) := by omega
   have HA := Lib.hid (show decide (a ∈ xs) = false from decide_eq_false (fun hm => by
    obtain ⟨j, hj, e⟩ := List.getElem_of_mem hm
    have := H.out j (by omega)
    rw [List.getD, List.getElem?_eq_getElem hj] at this
    exact this e))
   go_wp2
   go_ret
   exact ⟨retb (by rw [HQ.out, HA.out]), bel_then B0.out BW.out⟩
set_option maxRecDepth 100000 in
set_option maxHeartbeats 4000000 in
theorem specLess_any (a b : SAddr) (w : World) : Calls Tryz.prog 73 #[.agg #[.string a.f0, .string a.f1], .agg #[.string b.f0, .string b.f1]] w fun e w' => e = .returned (.bool (aLt a b)) ∧ Below w.heap.size w w' := by
 unfold aLt
 have hb := bel_alloc (bel_alloc (Below.refl w.heap.size w) (.cells #[.string a.f0, .string a.f1] 25)) (.cells #[.string b.f0, .string b.f1] 25)
 have HB := Aside0.mk hb
 clear hb
 cases h1 : Op.bytesLess a.f1.toList b.f1.toList
 ·cases h2 : a.f1.toList == b.f1.toList
  ·go_enter Tryz.func73, Tryz.ntmps73
   go_wp2
   repeat (go_quiet (fail); try go_wp2)
   go_ret
   first | exact ⟨rfl, HB.out⟩ | exact ⟨rfl, blw_drewN HB.out _⟩
  ·cases h3 : Op.bytesLess a.f0.toList b.f0.toList
   ·go_enter Tryz.func73, Tryz.ntmps73
    go_wp2
    repeat (go_quiet (fail); try go_wp2)
    go_ret
    first | exact ⟨rfl, HB.out⟩ | exact ⟨rfl, blw_drewN HB.out _⟩
   ·go_enter Tryz.func73, Tryz.ntmps73
    go_wp2
    repeat (go_quiet (fail); try go_wp2)
    go_ret
    first | exact ⟨rfl, HB.out⟩ | exact ⟨rfl, blw_drewN HB.out _⟩
 ·go_enter Tryz.func73, Tryz.ntmps73
  go_wp2
  repeat (go_quiet (fail); try go_wp2)
  go_ret
  first | exact ⟨rfl, HB.out⟩ | exact ⟨rfl, blw_drewN HB.out _⟩

end Go.Proofs.YticepbgacokbbaaGreatDoor

/- The reference's sorted insertion: a contract. -/
namespace Go.Proofs.YticepbgacokbbaaGreatDoor
open Go.RowKit Go.Proofs.YticepbgacokbbaaGreatDoorW.PrintWords
set_option linter.unusedVariables false
set_option linter.unusedSimpArgs false

theorem retL {B : Option Addr} {d m n : Nat} (h : m = n) : Ending.returned (.slice B m d) = Ending.returned (.slice B n d) := by rw [h]
theorem insU_at : ∀ {xs : List SAddr} {a : SAddr} {k : Nat}, k ≤ xs.length → (∀ j, j < k → aLt (xs.getD j zAddr) a = true) → (k < xs.length → aLt (xs.getD k zAddr) a = false) →
  insU xs a = if k < xs.length ∧ xs.getD k zAddr = a then xs else xs.take k ++ a :: xs.drop k
 | [], a, k, hk, _, _ => by
  have : k = 0 := by simpa using hk
  subst this
  simp [insU]
 | b :: r, a, 0, _, _, h => by
  have h0 : aLt b a = false := h (by simp)
  unfold insU
  rw [if_neg (by rw [h0]; simp)]
  by_cases e : b = a
  ·rw [if_pos e, if_pos ⟨by simp, e⟩]
  ·rw [if_neg e, if_neg (fun h => e h.2)]
   rfl
 | b :: r, a, k + 1, hk, hj, h => by
  have h0 : aLt b a = true := hj 0 (by omega)
  have ih := insU_at (xs := r) (a := a) (k := k) (by simpa using hk) (fun j hjk => hj (j + 1) (by omega)) (fun hk2 => h (by simpa using hk2))
  unfold insU
  rw [if_pos h0, ih]
  by_cases e : k < r.length ∧ r.getD k zAddr = a
  ·rw [if_pos e, if_pos ⟨by simpa using e.1, e.2⟩]
  ·rw [if_neg e, if_neg (fun h => e ⟨by simpa using h.1, h.2⟩)]
   rfl
attribute [local go_sem high] eqA25
set_option maxRecDepth 100000 in
set_option maxHeartbeats 4000000 in
theorem specSort_any (base : Nat) (B : Option Addr) (d : Nat) (xs : List SAddr) (a : SAddr) (w : World) (hR : Kd.R kAddr 25 w base (fun _ => True) (.slice B xs.length d) xs) (hlen : xs.length ≤ 16777216) (hbw : base ≤ w.heap.size) :
  Calls Tryz.prog 33 #[.slice B xs.length d, .agg #[.string a.f0, .string a.f1]] w fun e w' => ∃ B' d', e = .returned (.slice B' (insU xs a).length d') ∧ Kd.R kAddr 25 w' base (fun _ => True) (.slice B' (insU xs a).length d') (insU xs a) ∧ Below w.heap.size w w' := by
 obtain ⟨X, hX⟩ : ∃ X, X = insU xs a := ⟨_, rfl⟩
 rw [← hX]
 have HX0 := Lib.hid (fun k (h1 : k ≤ xs.length) (h2 : ∀ j, j < k → aLt (xs.getD j zAddr) a = true) (h3 : k < xs.length → aLt (xs.getD k zAddr) a = false) => (hX.trans (insU_at h1 h2 h3)))
 have HR := Aside0.mk hR
 clear hX hR
 go_enter Tryz.func33, Tryz.ntmps33
 go_wp2_with fail
 obtain ⟨W0, hW0⟩ : ∃ W, W = w.alloc (.cells #[.string a.f0, .string a.f1] 25) := ⟨_, rfl⟩
 rw [← hW0]
 have F0 : Aside0 (W0.heap[w.heap.size]? = some (.cells #[.string a.f0, .string a.f1] 25 (0, 0))) := ⟨by rw [hW0]; exact blk_at _ _ rfl⟩
 have B0 : Aside0 (Below w.heap.size w W0) := ⟨by rw [hW0]; exact bel_alloc (Below.refl _ _) _⟩
 clear hW0
 go_wp2
 go_loopg [5] (xs.length) (fun g v5 wr => ∃ k : Nat, k ≤ xs.length ∧ xs.length - k ≤ g ∧ v5 = .int .i64 (k : Int) ∧ Aside0 (Below W0.heap.size W0 wr) ∧ Hid (∀ j, j < k → aLt (xs.getD j zAddr) a = true))
 case atStart => exact ⟨0, Nat.zero_le _, by omega, rfl, ⟨Below.refl _ _⟩, Lib.hid (fun j hj => absurd hj (Nat.not_lt_zero _))⟩
 case round =>
  obtain ⟨k, hk, hg, rfl, BW, H⟩ := hrel
  have hz := BW.out.size
  by_cases hlt : k < xs.length
  ·have hlt' : (k : Int) < (xs.length : Int) := by omega
   obtain ⟨ad, e1, p0, p1⟩ := at_Addr (Kd.R_reads' (Kd.R_below HR.out (bel_then B0.out BW.out))).2.2 k hlt
   subst e1
   have hF := below_blk F0.out BW.out
   have c0 : wr.drew.cell? ⟨w.heap.size, 0, none⟩ = some (.string a.f0) := by simp [World.cell?, show wr.drew.heap[w.heap.size]? = _ from hF]
   have c1 : wr.drew.cell? ⟨w.heap.size, 1, none⟩ = some (.string a.f1) := by simp [World.cell?, show wr.drew.heap[w.heap.size]? = _ from hF]
   have zl := blk_lt hF
   have HEQ := Lib.hid (addr_eq (xs.getD k zAddr) a)
   have hless := fun W => specLess_any (xs.getD k zAddr) a W
   have HLT := Lib.hid hlt
   generalize hy : xs.getD k zAddr = y at p0 p1 HEQ hless
   have HY := Lib.hid hy
   have HK : Aside0 (∀ W W1, Below W.heap.size W W1 → (W.cell? ⟨w.heap.size, 0, none⟩ = some (.string a.f0) ∧ W.cell? ⟨w.heap.size, 1, none⟩ = some (.string a.f1) ∧ W.cell? (ad.add (k * 2)) = some (.string y.f0) ∧ W.cell? ⟨(ad.add (k * 2)).block, (ad.add (k * 2)).off + 1, none⟩ = some (.string y.f1) ∧ Below W0.heap.size W0 W) → (W1.cell? ⟨w.heap.size, 0, none⟩ = some (.string a.f0) ∧ W1.cell? ⟨w.heap.size, 1, none⟩ = some (.string a.f1) ∧ W1.cell? (ad.add (k * 2)) = some (.string y.f0) ∧ W1.cell? ⟨(ad.add (k * 2)).block, (ad.add (k * 2)).off + 1, none⟩ = some (.string y.f1) ∧ Below W0.heap.size W0 W1)) := ⟨fun W W1 hb h => ⟨(hb.cell (World.block_lt_of_cell? W _ h.1)).trans h.1, (hb.cell (World.block_lt_of_cell? W _ h.2.1)).trans h.2.1, (hb.cell (World.block_lt_of_cell? W _ h.2.2.1)).trans h.2.2.1, (hb.cell (World.block_lt_of_cell? W _ h.2.2.2.1)).trans h.2.2.2.1, bel_then h.2.2.2.2 hb⟩⟩
   clear hy hF
   cases hq : aLt y a
   ·rw [hq] at hless
    have HQ := Lib.hid hq
    clear hq
    go_wp2
    refine wp_region_held_drew (S := (fun W => W.cell? ⟨w.heap.size, 0, none⟩ = some (.string a.f0) ∧ W.cell? ⟨w.heap.size, 1, none⟩ = some (.string a.f1) ∧ W.cell? (ad.add (k * 2)) = some (.string y.f0) ∧ W.cell? ⟨(ad.add (k * 2)).block, (ad.add (k * 2)).off + 1, none⟩ = some (.string y.f1) ∧ Below W0.heap.size W0 W)) (by kernel_rfl) ?s1 (fun hHeld => ?t1)
    case s1 => exact ⟨c0, c1, p0, p1, bel_then BW.out (drew_below0 _)⟩
    refine tk 0 ?v2 ?y2 ?r2
    case y2 => intro w_ hSw; (try dsimp only at hSw); go_simp; (try (with_reducible rfl))
    try simp only [Act.put, List.setIfInBounds_toArray, List.set_cons_zero, List.set_cons_succ]
    refine tk 1 ?v3 ?y3 ?r3
    case y3 => intro w_ hSw; (try dsimp only at hSw); go_simp; (try (with_reducible rfl))
    try simp only [Act.put, List.setIfInBounds_toArray, List.set_cons_zero, List.set_cons_succ]
    refine tk 2 ?v4 ?y4 ?r4
    case y4 => intro w_ hSw; (try dsimp only at hSw); go_simp; (try (with_reducible rfl))
    try simp only [Act.put, List.setIfInBounds_toArray, List.set_cons_zero, List.set_cons_succ]
    refine tk 3 ?v5 ?y5 ?r5
    case y5 => intro w_ hSw; (try dsimp only at hSw); go_simp; (try (with_reducible rfl))
    try simp only [Act.put, List.setIfInBounds_toArray, List.set_cons_zero, List.set_cons_succ]
    refine tk 4 ?v6 ?y6 ?r6
    case y6 => intro w_ hSw; (try dsimp only at hSw); go_simp; (try (with_reducible rfl))
    try simp only [Act.put, List.setIfInBounds_toArray, List.set_cons_zero, List.set_cons_succ]
    refine tk 5 ?v7 ?y7 ?r7
    case y7 => intro w_ hSw; (try dsimp only at hSw); go_simp; (try (with_reducible rfl))
    try simp only [Act.put, List.setIfInBounds_toArray, List.set_cons_zero, List.set_cons_succ]
    refine tk 6 ?v8 ?y8 ?r8
    case y8 => intro w_ hSw; (try dsimp only at hSw); go_simp; (try (with_reducible rfl))
    try simp only [Act.put, List.setIfInBounds_toArray, List.set_cons_zero, List.set_cons_succ]
    refine tk 7 ?v9 ?y9 ?r9
    case y9 => intro w_ hSw; (try dsimp only at hSw); go_simp; (try (with_reducible rfl))
    try simp only [Act.put, List.setIfInBounds_toArray, List.set_cons_zero, List.set_cons_succ]
    refine tk 8 ?v10 ?y10 ?r10
    case y10 => intro w_ hSw; (try dsimp only at hSw); go_simp; (try (with_reducible rfl))
    try simp only [Act.put, List.setIfInBounds_toArray, List.set_cons_zero, List.set_cons_succ]
    refine tk 9 ?v11 ?y11 ?r11
    case y11 => intro w_ hSw; (try dsimp only at hSw); go_simp; (try (with_reducible rfl))
    try simp only [Act.put, List.setIfInBounds_toArray, List.set_cons_zero, List.set_cons_succ]
    refine rdy (rs := [10]) ?_
    refine rc (fun K hK => ?k12) AllReadyH.nil
    case' k12 => skip
    go_simp
    refine Calls.mono (hless _) ?_
    rintro e wx ⟨rfl, bx⟩
    refine hK.out _ _ ?h12 (fun hHeld => ?j12)
    case h12 => exact HK.out _ _ bx hHeld
    clear hK K
    try simp only [Act.put, List.setIfInBounds_toArray, List.set_cons_zero, List.set_cons_succ]
    refine tk 11 ?v13 ?y13 ?r13
    case y13 => intro w_ hSw; (try dsimp only at hSw); go_simp; (try (with_reducible rfl))
    try simp only [Act.put, List.setIfInBounds_toArray, List.set_cons_zero, List.set_cons_succ]
    refine wpAnyH_done (by kernel_rfl) ?_ _
    have HX := Aside0.mk hHeld.2.2.2.2
    have d0 := hHeld.1
    have d1 := hHeld.2.1
    have g0 := hHeld.2.2.1
    have g1 := hHeld.2.2.2.1
    have heq := HEQ.out
    clear hHeld hless HK c0 c1 p0 p1 BW HEQ
    by_cases hya : y = a
    ·rw [decide_eq_true hya] at heq
     have HYA := Lib.hid hya
     clear hya
     go_wp2
     go_quiet (fail)
     go_wp2
     go_ret
     obtain rfl : X = xs := (HX0.out k (by omega) H.out (fun _ => by rw [HY.out]; exact HQ.out)).trans (if_pos ⟨HLT.out, HY.out.trans HYA.out⟩)
     exact ⟨some ad, d, rfl, Kd.R_below (HR.out) (bel_then B0.out (blw_drewN HX.out _)), bel_then B0.out (blw_drewN HX.out _)⟩
    ·rw [decide_eq_false hya] at heq
     have HXX := Lib.hid (show X = xs.take k ++ a :: xs.drop k from (HX0.out k (by omega) H.out (fun _ => by rw [HY.out]; exact HQ.out)).trans (if_neg (fun h => hya (HY.out.symm.trans h.2))))
     clear hya
     go_wp2
     go_quiet (fail)
     clear heq d0 d1 g0 g1
     generalize hwz : World.drewN _ _ = wz
     have bz : Below W0.heap.size W0 wz := by rw [← hwz]; exact blw_drewN HX.out _
     clear hwz
     have hC := (Kd.R_reads' (Kd.R_below HR.out (bel_then B0.out bz))).2.2
     have hl1 := (Kd.R_reads' HR.out).2.1
     have hul : (xs.take k).length = k := by rw [List.length_take]; omega
     have hdl : (xs.drop k).length = xs.length - k := List.length_drop
     have ht0 := Kd.C_below (Kd.C_take hC (m := k) (by omega)) (bel_alloc (Below.refl _ _) (.cells #[] 25))
     have hd0 := Kd.C_drop hC (m := k) (c := d) (by omega) (by omega)
     rw [hul] at ht0
     rw [hdl] at hd0
     generalize xs.take k = us at HXX ht0 hul
     generalize xs.drop k = ds at HXX hd0 hdl
     have hdk : ¬ d = k := by have := HLT.out; omega
     rw [if_neg hdk] at hd0
     simp only [Option.map_some, show kAddr.sz = 2 from rfl] at hd0
     have HT := Aside0.mk ht0
     have HD := Aside0.mk hd0
     have hF := below_blk F0.out bz
     have c0 : wz.cell? ⟨w.heap.size, 0, none⟩ = some (.string a.f0) := by simp [World.cell?, hF]
     have c1 : wz.cell? ⟨w.heap.size, 1, none⟩ = some (.string a.f1) := by simp [World.cell?, hF]
     have HE : Aside0 (Kd.R kAddr 25 (wz.alloc (.cells #[] 25)) wz.heap.size (fun _ => True) (.slice (some ⟨wz.heap.size, 0, none⟩) 0 0) []) := ⟨R_empty kAddr 25 wz wz.heap.size (Nat.le_refl _) trivial⟩
     have HBZ := Aside0.mk (bel_then B0.out bz)
     have zwz := blk_lt hF
     have hkk : k ≤ xs.length := by omega
     have hub : us.length ≤ 16777216 := by rw [hul]; omega
     have hdb : xs.length - k ≤ 16777216 := by omega
     have HUL := Lib.hid hul
     have HDL := Lib.hid hdl
     clear ht0 hd0 hC hF bz hul hdl
     go_wp2_with (first | ((with_reducible refine gate_builtin (b := .append) (xs := #[.tmp 34, .tmp 37]) rfl ?_); (try (refine gate_guard (by rfl) ?_; dsimp only)); at_builtin; (refine Kd.R_append_rows kAddr (w0 := wz) (wz.heap.size) rfl (.tmp 34) (.tmp 37) 26 25 (.agg #[(.string ⟨#[]⟩), (.string ⟨#[]⟩)]) 32 rfl Tryz.underlying26 info25 rfl (by decide) (by omega) (.slice (some ⟨wz.heap.size, 0, none⟩) 0 0) [] us _ _ _ (fun _ => True) (fun _ => False) rfl rfl ?aO ?aR (fun _ _ h => h) (fun _ h => h.elim) (fun _ _ => trivial) ?aB ?aS ?aL ?_); (case aO => exact HE.out); (case aR => exact HT.out); (case aB => exact bel_alloc (Below.refl _ _) _); (case aS => (simp; done)); (case aL => (simp only [List.length_nil]; omega)); intro v1 w1 ho hb hg hat; have ho : Kd.R kAddr 25 w1 wz.heap.size (fun _ => True) v1 us := ho; obtain ⟨vB1, vd1, hv1⟩ := Kd.R_slice ho; subst hv1; have HO1 := Aside0.mk ho; have B1 := Aside0.mk hb; have q0 := (hb.cell (World.block_lt_of_cell? _ _ c0)).trans c0; have q1 := (hb.cell (World.block_lt_of_cell? _ _ c1)).trans c1; have z1 := hb.size; clear ho hb hg hat c0 c1) | ((with_reducible refine gate_builtin (b := .append) (xs := #[.tmp 39, .tmp 41]) rfl ?_); (try (refine gate_guard (by rfl) ?_; dsimp only)); at_builtin; (refine Kd.R_append kAddr (w0 := wz) (wz.heap.size) rfl (.tmp 39) (.tmp 41) 26 25 (.agg #[(.string ⟨#[]⟩), (.string ⟨#[]⟩)]) 32 rfl Tryz.underlying26 info25 rfl (by decide) (by omega) (.slice vB1 us.length vd1) us a [.string a.f0, .string a.f1] (fun _ => True) (fun _ => False) rfl rfl (kAddr_mkM _ _ _ a) (fun _ hk => hk.elim) (fun _ _ => trivial) HO1.out B1.out (B1.out).size (by omega) ?_); intro v9 w2 ho hb hg hat; obtain ⟨vB2, vd2, hv2⟩ := Kd.R_slice ho; subst hv2; rw [show (us ++ [a]).length = us.length + 1 by simp] at ho; have HO2 := Aside0.mk ho; have B2 := Aside0.mk hb; have z2 := hb.size; clear ho hb hg hat q0 q1) | ((with_reducible refine gate_builtin (b := .append) (xs := #[.tmp 43, .tmp 46]) rfl ?_); (try (refine gate_guard (by rfl) ?_; dsimp only)); at_builtin; (refine Kd.R_append_rows kAddr (w0 := wz) (wz.heap.size) rfl (.tmp 43) (.tmp 46) 26 25 (.agg #[(.string ⟨#[]⟩), (.string ⟨#[]⟩)]) 32 rfl Tryz.underlying26 info25 rfl (by decide) (by omega) (.slice vB2 (us.length + 1) vd2) (us ++ [a]) ds _ _ _ (fun _ => True) (fun _ => False) rfl rfl ?bO ?bR (fun _ _ h => h) (fun _ h => h.elim) (fun _ _ => trivial) ?bB ?bS ?bL ?_); (case bO => exact HO2.out); (case bR => exact Kd.C_below HD.out B2.out); (case bB => exact B2.out); (case bS => exact B2.out.size); (case bL => (rw [List.length_append]; simp only [List.length_cons, List.length_nil]; omega)); intro v3 w3 ho hb hg hat; obtain ⟨vB3, vd3, hv3⟩ := Kd.R_slice ho; subst hv3; have HO3 := Aside0.mk ho; have B3 := Aside0.mk hb; clear ho hb hg hat))
     go_ret
     obtain rfl : X = us ++ [a] ++ ds := by rw [HXX.out]; simp
     exact ⟨vB3, vd3, retL (by have := HDL.out; simp only [List.length_append, List.length_cons, List.length_nil]; omega), Kd.R_lower HO3.out (by have := HBZ.out.size; omega), bel_then HBZ.out B3.out⟩
   ·rw [hq] at hless
    have HQ := Lib.hid hq
    clear hq
    go_wp2
    refine wp_region_held_drew (S := (fun W => W.cell? ⟨w.heap.size, 0, none⟩ = some (.string a.f0) ∧ W.cell? ⟨w.heap.size, 1, none⟩ = some (.string a.f1) ∧ W.cell? (ad.add (k * 2)) = some (.string y.f0) ∧ W.cell? ⟨(ad.add (k * 2)).block, (ad.add (k * 2)).off + 1, none⟩ = some (.string y.f1) ∧ Below W0.heap.size W0 W)) (by kernel_rfl) ?s14 (fun hHeld => ?t14)
    case s14 => exact ⟨c0, c1, p0, p1, bel_then BW.out (drew_below0 _)⟩
    refine tk 0 ?v15 ?y15 ?r15
    case y15 => intro w_ hSw; (try dsimp only at hSw); go_simp; (try (with_reducible rfl))
    try simp only [Act.put, List.setIfInBounds_toArray, List.set_cons_zero, List.set_cons_succ]
    refine tk 1 ?v16 ?y16 ?r16
    case y16 => intro w_ hSw; (try dsimp only at hSw); go_simp; (try (with_reducible rfl))
    try simp only [Act.put, List.setIfInBounds_toArray, List.set_cons_zero, List.set_cons_succ]
    refine tk 2 ?v17 ?y17 ?r17
    case y17 => intro w_ hSw; (try dsimp only at hSw); go_simp; (try (with_reducible rfl))
    try simp only [Act.put, List.setIfInBounds_toArray, List.set_cons_zero, List.set_cons_succ]
    refine tk 3 ?v18 ?y18 ?r18
    case y18 => intro w_ hSw; (try dsimp only at hSw); go_simp; (try (with_reducible rfl))
    try simp only [Act.put, List.setIfInBounds_toArray, List.set_cons_zero, List.set_cons_succ]
    refine tk 4 ?v19 ?y19 ?r19
    case y19 => intro w_ hSw; (try dsimp only at hSw); go_simp; (try (with_reducible rfl))
    try simp only [Act.put, List.setIfInBounds_toArray, List.set_cons_zero, List.set_cons_succ]
    refine tk 5 ?v20 ?y20 ?r20
    case y20 => intro w_ hSw; (try dsimp only at hSw); go_simp; (try (with_reducible rfl))
    try simp only [Act.put, List.setIfInBounds_toArray, List.set_cons_zero, List.set_cons_succ]
    refine tk 6 ?v21 ?y21 ?r21
    case y21 => intro w_ hSw; (try dsimp only at hSw); go_simp; (try (with_reducible rfl))
    try simp only [Act.put, List.setIfInBounds_toArray, List.set_cons_zero, List.set_cons_succ]
    refine tk 7 ?v22 ?y22 ?r22
    case y22 => intro w_ hSw; (try dsimp only at hSw); go_simp; (try (with_reducible rfl))
    try simp only [Act.put, List.setIfInBounds_toArray, List.set_cons_zero, List.set_cons_succ]
    refine tk 8 ?v23 ?y23 ?r23
    case y23 => intro w_ hSw; (try dsimp only at hSw); go_simp; (try (with_reducible rfl))
    try simp only [Act.put, List.setIfInBounds_toArray, List.set_cons_zero, List.set_cons_succ]
    refine tk 9 ?v24 ?y24 ?r24
    case y24 => intro w_ hSw; (try dsimp only at hSw); go_simp; (try (with_reducible rfl))
    try simp only [Act.put, List.setIfInBounds_toArray, List.set_cons_zero, List.set_cons_succ]
    refine rdy (rs := [10]) ?_
    refine rc (fun K hK => ?k25) AllReadyH.nil
    case' k25 => skip
    go_simp
    refine Calls.mono (hless _) ?_
    rintro e wx ⟨rfl, bx⟩
    refine hK.out _ _ ?h25 (fun hHeld => ?j25)
    case h25 => exact HK.out _ _ bx hHeld
    clear hK K
    try simp only [Act.put, List.setIfInBounds_toArray, List.set_cons_zero, List.set_cons_succ]
    refine tk 11 ?v26 ?y26 ?r26
    case y26 => intro w_ hSw; (try dsimp only at hSw); go_simp; (try (with_reducible rfl))
    try simp only [Act.put, List.setIfInBounds_toArray, List.set_cons_zero, List.set_cons_succ]
    refine wpAnyH_done (by kernel_rfl) ?_ _
    have HX := Aside0.mk hHeld.2.2.2.2
    clear hHeld hless HK c0 c1 p0 p1 BW
    go_wp2
    go_roundg (xs.length - (k + 1))
    case measure => omega
    case rel => exact ⟨k + 1, by omega, Nat.le_refl _, by go_num, HX, Lib.hid (fun j hj => by
     by_cases e : j = k
     ·subst e; rw [HY.out]; exact HQ.out
     ·exact H.out j (by omega))⟩
  ·have hlt' : ¬ (k : Int) < (xs.length : Int) := by omega
   go_wp2
   refine wp_region_held_drew (S := (fun W => Below W0.heap.size W0 W)) (by kernel_rfl) ?s27 (fun hHeld => ?t27)
   case s27 => exact bel_then BW.out (drew_below0 _)
   refine tk 0 ?v28 ?y28 ?r28
   case y28 => intro w_ hSw; (try dsimp only at hSw); go_simp; (try (with_reducible rfl))
   try simp only [Act.put, List.setIfInBounds_toArray, List.set_cons_zero, List.set_cons_succ]
   refine tk 1 ?v29 ?y29 ?r29
   case y29 => intro w_ hSw; (try dsimp only at hSw); go_simp; (try (with_reducible rfl))
   try simp only [Act.put, List.setIfInBounds_toArray, List.set_cons_zero, List.set_cons_succ]
   refine tk 2 ?v30 ?y30 ?r30
   case y30 => intro w_ hSw; (try dsimp only at hSw); go_simp; (try (with_reducible rfl))
   try simp only [Act.put, List.setIfInBounds_toArray, List.set_cons_zero, List.set_cons_succ]
   refine tk 3 ?v31 ?y31 ?r31
   case y31 => intro w_ hSw; (try dsimp only at hSw); go_simp; (try (with_reducible rfl))
   try simp only [Act.put, List.setIfInBounds_toArray, List.set_cons_zero, List.set_cons_succ]
   refine tk 4 ?v32 ?y32 ?r32
   case y32 => intro w_ hSw; (try dsimp only at hSw); go_simp; (try (with_reducible rfl))
   try simp only [Act.put, List.setIfInBounds_toArray, List.set_cons_zero, List.set_cons_succ]
   refine tn 5 ?r33
   try simp only [Act.put, List.setIfInBounds_toArray, List.set_cons_zero, List.set_cons_succ]
   refine tn 6 ?r34
   try simp only [Act.put, List.setIfInBounds_toArray, List.set_cons_zero, List.set_cons_succ]
   refine tn 7 ?r35
   try simp only [Act.put, List.setIfInBounds_toArray, List.set_cons_zero, List.set_cons_succ]
   refine tn 8 ?r36
   try simp only [Act.put, List.setIfInBounds_toArray, List.set_cons_zero, List.set_cons_succ]
   refine tn 9 ?r37
   try simp only [Act.put, List.setIfInBounds_toArray, List.set_cons_zero, List.set_cons_succ]
   refine tn 10 ?r38
   try simp only [Act.put, List.setIfInBounds_toArray, List.set_cons_zero, List.set_cons_succ]
   refine tk 11 ?v39 ?y39 ?r39
   case y39 => intro w_ hSw; (try dsimp only at hSw); go_simp; (try (with_reducible rfl))
   try simp only [Act.put, List.setIfInBounds_toArray, List.set_cons_zero, List.set_cons_succ]
   refine wpAnyH_done (by kernel_rfl) ?_ _
   have HX := Aside0.mk hHeld
   have HXX := Lib.hid (show X = xs.take k ++ a :: xs.drop k from (HX0.out k (by omega) H.out (fun h => absurd h (by omega))).trans (if_neg (fun h => by omega)))
   clear hHeld BW
   go_wp2
   go_quiet (fail)
   by_cases hdk : d = k
   ·skip
    generalize hwz : World.drewN _ _ = wz
    have bz : Below W0.heap.size W0 wz := by rw [← hwz]; exact blw_drewN HX.out _
    clear hwz
    have hC := (Kd.R_reads' (Kd.R_below HR.out (bel_then B0.out bz))).2.2
    have hl1 := (Kd.R_reads' HR.out).2.1
    have hul : (xs.take k).length = k := by rw [List.length_take]; omega
    have hdl : (xs.drop k).length = xs.length - k := List.length_drop
    have ht0 := Kd.C_below (Kd.C_take hC (m := k) (by omega)) (bel_alloc (Below.refl _ _) (.cells #[] 25))
    have hd0 := Kd.C_drop hC (m := k) (c := d) (by omega) (by omega)
    rw [hul] at ht0
    rw [hdl] at hd0
    generalize xs.take k = us at HXX ht0 hul
    generalize xs.drop k = ds at HXX hd0 hdl
    rw [if_pos hdk] at hd0
    have HT := Aside0.mk ht0
    have HD := Aside0.mk hd0
    have hF := below_blk F0.out bz
    have c0 : wz.cell? ⟨w.heap.size, 0, none⟩ = some (.string a.f0) := by simp [World.cell?, hF]
    have c1 : wz.cell? ⟨w.heap.size, 1, none⟩ = some (.string a.f1) := by simp [World.cell?, hF]
    have HE : Aside0 (Kd.R kAddr 25 (wz.alloc (.cells #[] 25)) wz.heap.size (fun _ => True) (.slice (some ⟨wz.heap.size, 0, none⟩) 0 0) []) := ⟨R_empty kAddr 25 wz wz.heap.size (Nat.le_refl _) trivial⟩
    have HBZ := Aside0.mk (bel_then B0.out bz)
    have zwz := blk_lt hF
    have hkk : k ≤ xs.length := by omega
    have hub : us.length ≤ 16777216 := by rw [hul]; omega
    have hdb : xs.length - k ≤ 16777216 := by omega
    have HUL := Lib.hid hul
    have HDL := Lib.hid hdl
    clear ht0 hd0 hC hF bz hul hdl
    go_wp2_with (first | ((with_reducible refine gate_builtin (b := .append) (xs := #[.tmp 34, .tmp 37]) rfl ?_); (try (refine gate_guard (by rfl) ?_; dsimp only)); at_builtin; (refine Kd.R_append_rows kAddr (w0 := wz) (wz.heap.size) rfl (.tmp 34) (.tmp 37) 26 25 (.agg #[(.string ⟨#[]⟩), (.string ⟨#[]⟩)]) 32 rfl Tryz.underlying26 info25 rfl (by decide) (by omega) (.slice (some ⟨wz.heap.size, 0, none⟩) 0 0) [] us _ _ _ (fun _ => True) (fun _ => False) rfl rfl ?aO ?aR (fun _ _ h => h) (fun _ h => h.elim) (fun _ _ => trivial) ?aB ?aS ?aL ?_); (case aO => exact HE.out); (case aR => exact HT.out); (case aB => exact bel_alloc (Below.refl _ _) _); (case aS => (simp; done)); (case aL => (simp only [List.length_nil]; omega)); intro v1 w1 ho hb hg hat; have ho : Kd.R kAddr 25 w1 wz.heap.size (fun _ => True) v1 us := ho; obtain ⟨vB1, vd1, hv1⟩ := Kd.R_slice ho; subst hv1; have HO1 := Aside0.mk ho; have B1 := Aside0.mk hb; have q0 := (hb.cell (World.block_lt_of_cell? _ _ c0)).trans c0; have q1 := (hb.cell (World.block_lt_of_cell? _ _ c1)).trans c1; have z1 := hb.size; clear ho hb hg hat c0 c1) | ((with_reducible refine gate_builtin (b := .append) (xs := #[.tmp 39, .tmp 41]) rfl ?_); (try (refine gate_guard (by rfl) ?_; dsimp only)); at_builtin; (refine Kd.R_append kAddr (w0 := wz) (wz.heap.size) rfl (.tmp 39) (.tmp 41) 26 25 (.agg #[(.string ⟨#[]⟩), (.string ⟨#[]⟩)]) 32 rfl Tryz.underlying26 info25 rfl (by decide) (by omega) (.slice vB1 us.length vd1) us a [.string a.f0, .string a.f1] (fun _ => True) (fun _ => False) rfl rfl (kAddr_mkM _ _ _ a) (fun _ hk => hk.elim) (fun _ _ => trivial) HO1.out B1.out (B1.out).size (by omega) ?_); intro v9 w2 ho hb hg hat; obtain ⟨vB2, vd2, hv2⟩ := Kd.R_slice ho; subst hv2; rw [show (us ++ [a]).length = us.length + 1 by simp] at ho; have HO2 := Aside0.mk ho; have B2 := Aside0.mk hb; have z2 := hb.size; clear ho hb hg hat q0 q1) | ((with_reducible refine gate_builtin (b := .append) (xs := #[.tmp 43, .tmp 46]) rfl ?_); (try (refine gate_guard (by rfl) ?_; dsimp only)); at_builtin; (refine Kd.R_append_rows kAddr (w0 := wz) (wz.heap.size) rfl (.tmp 43) (.tmp 46) 26 25 (.agg #[(.string ⟨#[]⟩), (.string ⟨#[]⟩)]) 32 rfl Tryz.underlying26 info25 rfl (by decide) (by omega) (.slice vB2 (us.length + 1) vd2) (us ++ [a]) ds _ _ _ (fun _ => True) (fun _ => False) rfl rfl ?bO ?bR (fun _ _ h => h) (fun _ h => h.elim) (fun _ _ => trivial) ?bB ?bS ?bL ?_); (case bO => exact HO2.out); (case bR => exact Kd.C_below HD.out B2.out); (case bB => exact B2.out); (case bS => exact B2.out.size); (case bL => (rw [List.length_append]; simp only [List.length_cons, List.length_nil]; omega)); intro v3 w3 ho hb hg hat; obtain ⟨vB3, vd3, hv3⟩ := Kd.R_slice ho; subst hv3; have HO3 := Aside0.mk ho; have B3 := Aside0.mk hb; clear ho hb hg hat))
    go_ret
    obtain rfl : X = us ++ [a] ++ ds := by rw [HXX.out]; simp
    exact ⟨vB3, vd3, retL (by have := HDL.out; simp only [List.length_append, List.length_cons, List.length_nil]; omega), Kd.R_lower HO3.out (by have := HBZ.out.size; omega), bel_then HBZ.out B3.out⟩
   ·skip
    generalize hwz : World.drewN _ _ = wz
    have bz : Below W0.heap.size W0 wz := by rw [← hwz]; exact blw_drewN HX.out _
    clear hwz
    have hC := (Kd.R_reads' (Kd.R_below HR.out (bel_then B0.out bz))).2.2
    have hl1 := (Kd.R_reads' HR.out).2.1
    have hul : (xs.take k).length = k := by rw [List.length_take]; omega
    have hdl : (xs.drop k).length = xs.length - k := List.length_drop
    have ht0 := Kd.C_below (Kd.C_take hC (m := k) (by omega)) (bel_alloc (Below.refl _ _) (.cells #[] 25))
    have hd0 := Kd.C_drop hC (m := k) (c := d) (by omega) (by omega)
    rw [hul] at ht0
    rw [hdl] at hd0
    generalize xs.take k = us at HXX ht0 hul
    generalize xs.drop k = ds at HXX hd0 hdl
    rw [if_neg hdk] at hd0
    simp only [show kAddr.sz = 2 from rfl] at hd0
    have HT := Aside0.mk ht0
    have HD := Aside0.mk hd0
    have hF := below_blk F0.out bz
    have c0 : wz.cell? ⟨w.heap.size, 0, none⟩ = some (.string a.f0) := by simp [World.cell?, hF]
    have c1 : wz.cell? ⟨w.heap.size, 1, none⟩ = some (.string a.f1) := by simp [World.cell?, hF]
    have HE : Aside0 (Kd.R kAddr 25 (wz.alloc (.cells #[] 25)) wz.heap.size (fun _ => True) (.slice (some ⟨wz.heap.size, 0, none⟩) 0 0) []) := ⟨R_empty kAddr 25 wz wz.heap.size (Nat.le_refl _) trivial⟩
    have HBZ := Aside0.mk (bel_then B0.out bz)
    have zwz := blk_lt hF
    have hkk : k ≤ xs.length := by omega
    have hub : us.length ≤ 16777216 := by rw [hul]; omega
    have hdb : xs.length - k ≤ 16777216 := by omega
    have HUL := Lib.hid hul
    have HDL := Lib.hid hdl
    clear ht0 hd0 hC hF bz hul hdl
    go_wp2_with (first | ((with_reducible refine gate_builtin (b := .append) (xs := #[.tmp 34, .tmp 37]) rfl ?_); (try (refine gate_guard (by rfl) ?_; dsimp only)); at_builtin; (refine Kd.R_append_rows kAddr (w0 := wz) (wz.heap.size) rfl (.tmp 34) (.tmp 37) 26 25 (.agg #[(.string ⟨#[]⟩), (.string ⟨#[]⟩)]) 32 rfl Tryz.underlying26 info25 rfl (by decide) (by omega) (.slice (some ⟨wz.heap.size, 0, none⟩) 0 0) [] us _ _ _ (fun _ => True) (fun _ => False) rfl rfl ?aO ?aR (fun _ _ h => h) (fun _ h => h.elim) (fun _ _ => trivial) ?aB ?aS ?aL ?_); (case aO => exact HE.out); (case aR => exact HT.out); (case aB => exact bel_alloc (Below.refl _ _) _); (case aS => (simp; done)); (case aL => (simp only [List.length_nil]; omega)); intro v1 w1 ho hb hg hat; have ho : Kd.R kAddr 25 w1 wz.heap.size (fun _ => True) v1 us := ho; obtain ⟨vB1, vd1, hv1⟩ := Kd.R_slice ho; subst hv1; have HO1 := Aside0.mk ho; have B1 := Aside0.mk hb; have q0 := (hb.cell (World.block_lt_of_cell? _ _ c0)).trans c0; have q1 := (hb.cell (World.block_lt_of_cell? _ _ c1)).trans c1; have z1 := hb.size; clear ho hb hg hat c0 c1) | ((with_reducible refine gate_builtin (b := .append) (xs := #[.tmp 39, .tmp 41]) rfl ?_); (try (refine gate_guard (by rfl) ?_; dsimp only)); at_builtin; (refine Kd.R_append kAddr (w0 := wz) (wz.heap.size) rfl (.tmp 39) (.tmp 41) 26 25 (.agg #[(.string ⟨#[]⟩), (.string ⟨#[]⟩)]) 32 rfl Tryz.underlying26 info25 rfl (by decide) (by omega) (.slice vB1 us.length vd1) us a [.string a.f0, .string a.f1] (fun _ => True) (fun _ => False) rfl rfl (kAddr_mkM _ _ _ a) (fun _ hk => hk.elim) (fun _ _ => trivial) HO1.out B1.out (B1.out).size (by omega) ?_); intro v9 w2 ho hb hg hat; obtain ⟨vB2, vd2, hv2⟩ := Kd.R_slice ho; subst hv2; rw [show (us ++ [a]).length = us.length + 1 by simp] at ho; have HO2 := Aside0.mk ho; have B2 := Aside0.mk hb; have z2 := hb.size; clear ho hb hg hat q0 q1) | ((with_reducible refine gate_builtin (b := .append) (xs := #[.tmp 43, .tmp 46]) rfl ?_); (try (refine gate_guard (by rfl) ?_; dsimp only)); at_builtin; (refine Kd.R_append_rows kAddr (w0 := wz) (wz.heap.size) rfl (.tmp 43) (.tmp 46) 26 25 (.agg #[(.string ⟨#[]⟩), (.string ⟨#[]⟩)]) 32 rfl Tryz.underlying26 info25 rfl (by decide) (by omega) (.slice vB2 (us.length + 1) vd2) (us ++ [a]) ds _ _ _ (fun _ => True) (fun _ => False) rfl rfl ?bO ?bR (fun _ _ h => h) (fun _ h => h.elim) (fun _ _ => trivial) ?bB ?bS ?bL ?_); (case bO => exact HO2.out); (case bR => exact Kd.C_below HD.out B2.out); (case bB => exact B2.out); (case bS => exact B2.out.size); (case bL => (rw [List.length_append]; simp only [List.length_cons, List.length_nil]; omega)); intro v3 w3 ho hb hg hat; obtain ⟨vB3, vd3, hv3⟩ := Kd.R_slice ho; subst hv3; have HO3 := Aside0.mk ho; have B3 := Aside0.mk hb; clear ho hb hg hat))
    go_ret
    obtain rfl : X = us ++ [a] ++ ds := by rw [HXX.out]; simp
    exact ⟨vB3, vd3, retL (by have := HDL.out; simp only [List.length_append, List.length_cons, List.length_nil]; omega), Kd.R_lower HO3.out (by have := HBZ.out.size; omega), bel_then HBZ.out B3.out⟩

end Go.Proofs.YticepbgacokbbaaGreatDoor

/- All that an address leads to, of the reference: a contract. -/
namespace Go.Proofs.YticepbgacokbbaaGreatDoor
open Go.RowKit Go.Proofs.YticepbgacokbbaaGreatDoorW.PrintWords
set_option linter.unusedVariables false
set_option linter.unusedSimpArgs false

theorem room_put {xs : List SAlias} {a : SAddr} {i : Nat} {T : List SAddr} {c : SAddr} (hc : c ∈ tos xs (T.getD i zAddr)) (hn : c ∉ T) : (T ++ [c]).length + away (a :: xs.flatMap (·.f1)) (T ++ [c]) ≤ T.length + away (a :: xs.flatMap (·.f1)) T := by
 have := away_put (U := a :: xs.flatMap (·.f1)) (List.mem_cons.2 (.inr (tos_univ hc))) hn
 rw [List.length_append, List.length_singleton]
 omega
set_option maxRecDepth 100000 in
set_option maxHeartbeats 4000000 in
theorem specAllL_any (A : Option Addr) (c : Nat) (xs : List SAlias) (a : SAddr) (w : World) (hr : Kd.C kAlias w A xs.length xs) (hlen : xs.length ≤ 1048576) (hu : (xs.flatMap (·.f1)).length ≤ 1048576) :
  Calls Tryz.prog 71 #[.slice A xs.length c, .agg #[.string a.f0, .string a.f1]] w fun e w' => ∃ T B d, e = .returned (.slice B T.length d) ∧ Kd.R kAddr 25 w' w.heap.size (fun _ => True) (.slice B T.length d) T ∧ (∀ b, b ∈ T ↔ Lead xs a b) ∧ T.length ≤ 1048577 ∧ Below w.heap.size w w' := by
 have hat := fun (y : SAddr) W (hW : Below w.heap.size w W) => specAlAt_any A c xs y W (Kd.C_below hr hW) hlen
 have HAT := Lib.hid hat
 have hst := Bfs.start xs a
 have HST := Lib.hid hst
 have hroom0 := hst.room
 simp only [List.length_singleton] at hroom0
 obtain ⟨N0, hN0⟩ : ∃ n, n = (xs.flatMap (·.f1)).length := ⟨_, rfl⟩
 rw [← hN0] at hu hroom0
 have HN0 := Lib.hid hN0
 clear hat hst hN0
 go_enter Tryz.func71, Tryz.ntmps71
 go_wp2_with fail
 obtain ⟨W0, hW0⟩ : ∃ W, W = w.alloc (.cells #[.string a.f0, .string a.f1] 25) := ⟨_, rfl⟩
 rw [← hW0]
 have F0 : W0.heap[w.heap.size]? = some (.cells #[.string a.f0, .string a.f1] 25 (0, 0)) := by rw [hW0]; exact blk_at _ _ rfl
 have B0 : Below w.heap.size w W0 := by rw [hW0]; exact bel_alloc (Below.refl _ _) _
 have hs0 : W0.heap.size = w.heap.size + 1 := by rw [hW0]; simp
 clear hW0
 have c0 : W0.cell? ⟨w.heap.size, 0, none⟩ = some (.string a.f0) := by simp [World.cell?, F0]
 have c1 : W0.cell? ⟨w.heap.size, 1, none⟩ = some (.string a.f1) := by simp [World.cell?, F0]
 have hRW : Kd.R kAddr 25 (W0.alloc (.cells #[.string a.f0, .string a.f1] 25)) w.heap.size (fun _ => True) (.slice (some ⟨W0.heap.size, 0, none⟩) 1 1) [a] := R_one kAddr 25 W0 w.heap.size a [.string a.f0, .string a.f1] (kAddr_mkM _ _ _ a) B0.size
 rw [hs0] at hRW
 have HRW := Aside0.mk hRW
 have HBW := Aside0.mk (bel_alloc B0 (.cells #[.string a.f0, .string a.f1] 25))
 clear hRW F0 B0 hs0
 go_wp2
 clear c0 c1
 go_loopg [5, 6, 7, 8] (2 + N0) (fun g v5 v6 _ _ wr => ∃ (T : List SAddr) (i : Nat), i ≤ T.length ∧ T.length + away (a :: xs.flatMap (·.f1)) T - i ≤ g ∧ v6 = .int .i64 (i : Int) ∧ Hid (Bfs xs a i T) ∧ Aside0 (Kd.R kAddr 25 wr w.heap.size (fun _ => True) v5 T) ∧ Aside0 (Below w.heap.size w wr))
 case atStart => exact ⟨[a], 0, Nat.zero_le _, by simp only [List.length_singleton]; omega, rfl, HST, HRW, HBW⟩
 case round =>
  clear HRW HBW HST hroom0
  obtain ⟨T, i, hi, hg, rfl, HB, HR, BW⟩ := hrel
  have hTl : T.length ≤ 1048577 := by have := HB.out.room; have := HN0.out; omega
  obtain ⟨vT, vt, hv⟩ := Kd.R_slice HR.out
  subst hv
  by_cases hlt : i < T.length
  ·have hlt' : (i : Int) < (T.length : Int) := by omega
   obtain ⟨ae, e1, p0, p1⟩ := at_Addr (Kd.R_reads' HR.out).2.2 i hlt
   subst e1
   generalize hy : T.getD i zAddr = y at p0 p1
   have HY := Lib.hid hy
   have HLT := Lib.hid hlt
   clear hy
   go_wp2_with (first | (go_at_call 72; (refine Calls.mono (HAT.out y _ BW.out) ?_; rintro e w1 ⟨v, rfl, hv, b1⟩)))
   have HR1 := Aside0.mk (Kd.R_below HR.out b1)
   have BW1 := Aside0.mk (bel_then BW.out b1)
   clear HR BW b1 p0 p1
   rcases hv with ⟨rfl, hno⟩ | ⟨kk, rfl, hkk, hal, hto⟩
   ·-- no alias: no children
    have HNO := Lib.hid (tos_no hno)
    clear hno
    go_loopg [5, 8] 1 (fun g v5 v8 wr => 1 ≤ g ∧ v5 = .slice (some ae) T.length vt ∧ v8 = .int .i64 0 ∧ w1 = wr)
    case atStart => exact ⟨Nat.le_refl _, rfl, rfl, rfl⟩
    case round =>
     obtain ⟨hg1, rfl, rfl, rfl⟩ := hrel
     go_wp2
     go_roundg (T.length + away (a :: xs.flatMap (·.f1)) T - (i + 1))
     case measure => omega
     case rel => exact ⟨T, i + 1, by omega, Nat.le_refl _, by go_num, Lib.hid (HB.out.turn (fun b hb => by
      have hb : b ∈ tos xs (T.getD i zAddr) := hb
      rw [HY.out, HNO.out] at hb
      cases hb)), HR1, BW1⟩
   ·-- its children, one by one
    obtain ⟨ad, Q0, qc0, e1, _, _, p2, l0, k0⟩ := at_Alias hr kk hkk
    subst e1
    rw [hto] at p2 l0 k0
    have htl : (tos xs y).length ≤ 1048576 := by
     have h1 : ∀ {ys : List SAlias} {x : SAlias}, x ∈ ys → x.f1.length ≤ (ys.flatMap (·.f1)).length := by
      intro ys
      induction ys with
      | nil => intro x hx; cases hx
      | cons z r ih =>
       intro x hx
       rw [List.flatMap_cons, List.length_append]
       rcases List.mem_cons.1 hx with rfl | hx
       ·omega
       ·have := ih hx; omega
     have h2 := h1 (getD_mem xs zAlias hkk)
     rw [hto] at h2
     have := HN0.out
     omega
    have HTO := Lib.hid (show ∀ j, j < (tos xs y).length → (tos xs y).getD j zAddr ∈ tos xs y from fun j hj => getD_mem _ _ hj)
    have HTA := Lib.hid (show ∀ b ∈ tos xs y, ∃ j, j < (tos xs y).length ∧ (tos xs y).getD j zAddr = b from fun b hb => by
     obtain ⟨j, hj, e⟩ := List.getElem_of_mem hb
     exact ⟨j, hj, by rw [List.getD, List.getElem?_eq_getElem hj]; exact e⟩)
    have K0 := Aside0.mk k0
    have P2 := Lib.hid p2
    have hkk' : (kk : Int) < (xs.length : Int) := by omega
    have hkn : ¬ (kk : Int) < 0 := by omega
    have hkp : (kk : Int) ≥ 0 := by omega
    have zp := World.block_lt_of_cell? _ _ p2
    have HTG := Lib.hid (show ∃ tl, tl = tos xs y from ⟨_, rfl⟩)
    clear hto hal k0 p2
    obtain ⟨tl, hto⟩ := HTG.out
    rw [← hto] at htl HTO HTA K0 P2 l0
    have HTQ := Lib.hid hto
    clear hto HTG
    go_loopg [5, 8] (tl.length) (fun g v5 v8 wr => ∃ (T2 : List SAddr) (n : Nat), n ≤ tl.length ∧ tl.length - n ≤ g ∧ v8 = .int .i64 (n : Int) ∧ Hid (Bfs xs a i T2) ∧ i < T2.length ∧ Hid (T2.getD i zAddr = y) ∧ T2.length + away (a :: xs.flatMap (·.f1)) T2 ≤ T.length + away (a :: xs.flatMap (·.f1)) T ∧ Hid (∀ j, j < n → tl.getD j zAddr ∈ T2) ∧ Aside0 (Kd.R kAddr 25 wr w.heap.size (fun _ => True) v5 T2) ∧ Aside0 (Below w.heap.size w wr))
    case atStart => exact ⟨T, 0, Nat.zero_le _, by omega, rfl, HB, HLT.out, HY, Nat.le_refl _, Lib.hid (fun j hj => absurd hj (Nat.not_lt_zero _)), HR1, BW1⟩
    case round =>
     clear HB HR1 BW1 HY
     obtain ⟨T2, n, hn, hg2, rfl, HB2, hi2, HY2, hroom, HC, HO2, B2⟩ := hrel
     have hT2l : T2.length ≤ 1048577 := by have := HB2.out.room; have := HN0.out; omega
     have hz2 := B2.out.size
     obtain ⟨vB, vd, hv⟩ := Kd.R_slice HO2.out
     subst hv
     have r2 := (B2.out.cell zp).trans P2.out
     by_cases hln : n < tl.length
     ·have hln' : (n : Int) < (tl.length : Int) := by omega
      obtain ⟨af, e3, t0, t1⟩ := at_Addr (Kd.C_below K0.out B2.out) n hln
      subst e3
      have hch := HTO.out n hln
      generalize hcg : tl.getD n zAddr = ch at t0 t1 hch
      have HCG := Lib.hid hcg
      have hch2 : ch ∈ tos xs y := HTQ.out ▸ hch
      have HCH := Lib.hid hch2
      have hhas := specHas_any vB vd T2 ch wr (Kd.R_reads' HO2.out).2.2 (by omega)
      have zt := World.block_lt_of_cell? _ _ t0
      clear hcg hch hch2
      by_cases hm : ch ∈ T2
      ·rw [decide_eq_true hm] at hhas
       have HM := Lib.hid hm
       clear hm
       go_wp2_with (first | (go_at_call 92; (refine Calls.mono hhas ?_; rintro e w5 ⟨rfl, b5⟩)))
       go_roundg (tl.length - (n + 1))
       case measure => omega
       case rel => exact ⟨T2, n + 1, by omega, Nat.le_refl _, by go_num, HB2, hi2, HY2, hroom, Lib.hid (fun j hj => by
        by_cases e : j = n
        ·subst e; rw [HCG.out]; exact HM.out
        ·exact HC.out j (by omega)), ⟨Kd.R_below HO2.out b5⟩, ⟨bel_then B2.out b5⟩⟩
      ·rw [decide_eq_false hm] at hhas
       have HM := Lib.hid hm
       clear hm
       have hch3 : ch ∈ tos xs (T2.getD i zAddr) := by rw [HY2.out]; exact HCH.out
       have hrm := room_put (a := a) hch3 HM.out
       have HB3 := Lib.hid (HB2.out.child hi2 hch3 HM.out)
       have HRM := Lib.hid hrm
       clear hrm hch3
       go_wp2_with (first | (go_at_call 92; (refine Calls.mono hhas ?_; rintro e w5 ⟨rfl, b5⟩; have s2 := (b5.cell (World.block_lt_of_cell? _ _ r2)).trans r2; have s0 := (b5.cell (World.block_lt_of_cell? _ _ t0)).trans t0; have s1 := (b5.cell (World.block_lt_of_cell? _ _ t1)).trans t1; replace HO2 := Aside0.mk (Kd.R_below HO2.out b5); replace B2 := Aside0.mk (bel_then B2.out b5); have z5 := b5.size; clear b5 hhas)) | ((with_reducible refine gate_builtin (b := .append) (xs := #[.tmp 48, .tmp 57]) rfl ?_); (try (refine gate_guard (by rfl) ?_; dsimp only)); at_builtin; (refine Kd.R_append kAddr (w0 := w) (w.heap.size) rfl (.tmp 48) (.tmp 57) 26 25 (.agg #[(.string ⟨#[]⟩), (.string ⟨#[]⟩)]) 32 rfl Tryz.underlying26 info25 rfl (by decide) (by omega) (.slice vB T2.length vd) T2 ch [.string ch.f0, .string ch.f1] (fun _ => True) (fun _ => False) rfl rfl (kAddr_mkM _ _ _ ch) (fun _ hk => hk.elim) (fun _ _ => trivial) HO2.out B2.out (B2.out).size (by omega) ?_); intro v9 w9 ho hb hg hat; have HO9 := Aside0.mk ho; have B9 := Aside0.mk hb; clear ho hb hg hat))
       go_roundg (tl.length - (n + 1))
       case measure => omega
       case rel => exact ⟨T2 ++ [ch], n + 1, by omega, Nat.le_refl _, by go_num, HB3, by rw [List.length_append]; omega, Lib.hid (by rw [List.getD, List.getElem?_append_left hi2]; exact HY2.out), Nat.le_trans HRM.out hroom, Lib.hid (fun j hj => by
        by_cases e : j = n
        ·subst e; rw [HCG.out]; simp
        ·exact List.mem_append.2 (.inl (HC.out j (by omega)))), HO9, B9⟩
     ·have hln' : ¬ (n : Int) < (tl.length : Int) := by omega
      have HT := Lib.hid (HB2.out.turn (fun b hb => by
       have hb : b ∈ tos xs (T2.getD i zAddr) := hb
       rw [HY2.out, ← HTQ.out] at hb
       have hb2 := HTA.out b (HTQ.out ▸ hb)
       obtain ⟨j, hj, e⟩ := hb2
       exact e ▸ HC.out j (by omega)))
      go_wp2
      go_roundg (T2.length + away (a :: xs.flatMap (·.f1)) T2 - (i + 1))
      case measure => have := HLT.out; omega
      case rel => exact ⟨T2, i + 1, by omega, Nat.le_refl _, by go_num, HT, HO2, B2⟩
  ·have hlt' : ¬ (i : Int) < (T.length : Int) := by omega
   have HF := Lib.hid (fun b => HB.out.all (by omega : T.length ≤ i) b)
   go_wp2
   go_ret
   exact ⟨T, vT, vt, rfl, HR.out, HF.out, hTl, BW.out⟩

end Go.Proofs.YticepbgacokbbaaGreatDoor

/- AliasFor of the reference: a contract. -/
namespace Go.Proofs.YticepbgacokbbaaGreatDoor
open Go.RowKit Go.Proofs.YticepbgacokbbaaGreatDoorW.PrintWords
set_option linter.unusedVariables false
set_option linter.unusedSimpArgs false

theorem insU_len : ∀ (l : List SAddr) (a : SAddr), (insU l a).length ≤ l.length + 1
 | [], a => by simp [insU]
 | b :: r, a => by
  have := insU_len r a
  unfold insU
  split
  ·simp only [List.length_cons]; omega
  ·split
   ·simp
   ·simp
theorem foldU_len : ∀ (l acc : List SAddr), (l.foldl insU acc).length ≤ acc.length + l.length
 | [], acc => by simp
 | a :: r, acc => by
  have h1 := foldU_len r (insU acc a)
  have h2 := insU_len acc a
  rw [List.foldl_cons, List.length_cons]
  omega
def pickU (xs : List SAlias) (T : List SAddr) : List SAddr := (T.filter (fun b => !isAl xs b)).foldl insU []
theorem pickU_next {xs : List SAlias} {T : List SAddr} {i : Nat} (h : i < T.length) : pickU xs (T.take (i + 1)) = if isAl xs (T.getD i zAddr) = true then pickU xs (T.take i) else insU (pickU xs (T.take i)) (T.getD i zAddr) := by
 unfold pickU
 rw [take_nextA h, List.filter_append, List.foldl_append]
 cases hq : isAl xs (T.getD i zAddr)
 ·rw [if_neg (by simp), List.filter_cons, if_pos (by rw [hq]; rfl)]
  rfl
 ·rw [if_pos rfl, List.filter_cons, if_neg (by rw [hq]; simp)]
  rfl
theorem pickU_len (xs : List SAlias) (T : List SAddr) : (pickU xs T).length ≤ T.length := by
 unfold pickU
 have h1 := foldU_len (T.filter (fun b => !isAl xs b)) []
 have h2 := List.length_filter_le (fun b => !isAl xs b) T
 simp only [List.length_nil] at h1
 omega
theorem atP_neg {xs : List SAlias} {a : SAddr} {v : Int} (h : AtP xs a v) : (v < 0 ∧ isAl xs a = false) ∨ (¬ v < 0 ∧ isAl xs a = true) := by
 rcases h with ⟨rfl, h⟩ | ⟨k, rfl, _, h, _⟩
 ·exact .inl ⟨by omega, h⟩
 ·exact .inr ⟨by omega, h⟩
set_option maxRecDepth 100000 in
set_option maxHeartbeats 4000000 in
theorem specAliasFor_any (A : Option Addr) (c : Nat) (xs : List SAlias) (a : SAddr) (w : World) (hw : xs.length ≤ 1048576 ∧ ∀ x ∈ xs, fitAlias x) (ha : fitAddr a) (hr : Kd.C kAlias w A xs.length xs) :
  Calls Tryz.prog 32 #[.slice A xs.length c, .agg #[.string a.f0, .string a.f1]] w fun e w' => ∃ B d, e = .returned (.slice B (aliasFor xs a).length d) ∧ Kd.R kAddr 25 w' w.heap.size (fun _ => True) (.slice B (aliasFor xs a).length d) (aliasFor xs a) ∧ Below w.heap.size w w' := by
 have hok := fun W (hW : Below w.heap.size w W) => specAlias_any A c xs W hw (Kd.C_below hr hW)
 have haok := fun W => specAddr_any a.f0 a.f1 W (by have := ha.1; omega) (by have := ha.2; omega)
 have hall := fun (hq : aliasOk xs = true) W (hW : Below w.heap.size w W) => specAllL_any A c xs a W (Kd.C_below hr hW) hw.1 (by have := ok_univl hq; omega)
 have hat := fun (y : SAddr) W (hW : Below w.heap.size w W) => specAlAt_any A c xs y W (Kd.C_below hr hW) hw.1
 obtain ⟨X, hX⟩ : ∃ X, X = aliasFor xs a := ⟨_, rfl⟩
 rw [← hX]
 unfold aliasFor addrS at hX
 generalize aliasOk xs = q1 at hok hX hall
 generalize addr a.f0.data.toList a.f1.data.toList = q2 at haok hX
 have HX := Lib.hid hX
 have HAT := Lib.hid hat
 clear hX hat hr hw ha
 go_enter Tryz.func32, Tryz.ntmps32
 go_wp2_with fail
 obtain ⟨W0, hW0⟩ : ∃ W, W = w.alloc (.cells #[.string a.f0, .string a.f1] 25) := ⟨_, rfl⟩
 rw [← hW0]
 have hs0 : W0.heap.size = w.heap.size + 1 := by rw [hW0]; simp
 have F0 : W0.heap[w.heap.size]? = some (.cells #[.string a.f0, .string a.f1] 25 (0, 0)) := by rw [hW0]; exact blk_at _ _ rfl
 have B0 : Below w.heap.size w W0 := by rw [hW0]; exact bel_alloc (Below.refl _ _) _
 clear hW0
 have hE : Kd.R kAddr 25 (W0.alloc (.cells #[] 25)) w.heap.size (fun _ => True) (.slice (some ⟨W0.heap.size, 0, none⟩) 0 0) [] := R_empty kAddr 25 W0 w.heap.size B0.size trivial
 rw [hs0] at hE
 have HE := Aside0.mk hE
 have HBW := Aside0.mk (bel_alloc B0 (.cells #[] 25))
 have HF := Aside0.mk (below_blk F0 (bel_alloc (Below.refl _ _) (.cells #[] 25)))
 clear hE F0 B0 hs0
 cases q1
 ·obtain rfl : X = [] := HX.out
  go_wp2_with (first | (go_at_call 30; (refine Calls.mono (hok _ HBW.out) ?_; rintro e w1 ⟨rfl, b1⟩)))
  go_ret
  exact ⟨some ⟨w.heap.size + 1, 0, none⟩, 0, rfl, Kd.R_below HE.out b1, bel_then HBW.out b1⟩
 ·cases q2
  ·obtain rfl : X = [] := HX.out
   go_wp2_with (first | (go_at_call 30; (refine Calls.mono (hok _ HBW.out) ?_; rintro e w1 ⟨rfl, b1⟩; have hf1 := below_blk HF.out b1; have c0 : w1.cell? ⟨w.heap.size, 0, none⟩ = some (.string a.f0) := (by simp [World.cell?, hf1]); have c1 : w1.cell? ⟨w.heap.size, 1, none⟩ = some (.string a.f1) := (by simp [World.cell?, hf1]))) | (go_at_call 68; (refine Calls.mono (haok _) ?_; rintro e w2 ⟨rfl, b2⟩)))
   go_ret
   exact ⟨some ⟨w.heap.size + 1, 0, none⟩, 0, rfl, Kd.R_below (Kd.R_below HE.out b1) b2, bel_then (bel_then HBW.out b1) b2⟩
  ·obtain rfl : X = ends xs [a] := HX.out
   go_wp2_with (first | (go_at_call 30; (refine Calls.mono (hok _ HBW.out) ?_; rintro e w1 ⟨rfl, b1⟩; have hf1 := below_blk HF.out b1; have c0 : w1.cell? ⟨w.heap.size, 0, none⟩ = some (.string a.f0) := (by simp [World.cell?, hf1]); have c1 : w1.cell? ⟨w.heap.size, 1, none⟩ = some (.string a.f1) := (by simp [World.cell?, hf1]))) | (go_at_call 68; (refine Calls.mono (haok _) ?_; rintro e w2 ⟨rfl, b2⟩; have e0 := (b2.cell (World.block_lt_of_cell? _ _ c0)).trans c0; have e1 := (b2.cell (World.block_lt_of_cell? _ _ c1)).trans c1; have B2 := Aside0.mk (bel_then (bel_then HBW.out b1) b2); have HE2 := Aside0.mk (Kd.R_below (Kd.R_below HE.out b1) b2); clear c0 c1 hf1 b1 b2)) | (go_at_call 71; (refine Calls.mono (hall (by trivial) _ B2.out) ?_; rintro e w3 ⟨T, TB, Td, rfl, hT, hTm, hTl, b3⟩; have B3 := Aside0.mk (bel_then B2.out b3); have HE3 := Aside0.mk (Kd.R_below HE2.out b3); have HT := Aside0.mk (Kd.R_lower hT B2.out.size); have HTM := Lib.hid hTm; clear hT hTm b3 e0 e1 HE2 B2)))
   clear HE HBW HF hok haok hall
   go_loopg [5, 7] (T.length) (fun g v5 v7 wr => ∃ k : Nat, k ≤ T.length ∧ T.length - k ≤ g ∧ v7 = .int .i64 (k : Int) ∧ Aside0 (Kd.R kAddr 25 wr w.heap.size (fun _ => True) (.slice TB T.length Td) T) ∧ Aside0 (Kd.R kAddr 25 wr w.heap.size (fun _ => True) v5 (pickU xs (T.take k))) ∧ Aside0 (Below w.heap.size w wr))
   case atStart => exact ⟨0, Nat.zero_le _, by omega, rfl, HT, HE3, B3⟩
   case round =>
    clear HT HE3 B3
    obtain ⟨k, hk, hg, rfl, HT, HO, BW⟩ := hrel
    by_cases hlt : k < T.length
    ·have hlt' : (k : Int) < (T.length : Int) := by omega
     obtain ⟨ad, e1, p0, p1⟩ := at_Addr (Kd.R_reads' HT.out).2.2 k hlt
     subst e1
     have hnx := pickU_next (xs := xs) hlt
     have hpl : (pickU xs (T.take k)).length ≤ 1048577 := by have := pickU_len xs (T.take k); rw [List.length_take] at this; omega
     generalize pickU xs (T.take k) = ys at HO hnx hpl
     generalize T.getD k zAddr = y at p0 p1 hnx
     have HN := Lib.hid hnx
     have zp := World.block_lt_of_cell? _ _ p0
     obtain ⟨vB, vd, hv⟩ := Kd.R_slice HO.out
     subst hv
     clear hnx
     go_wp2_with fail
     refine Calls.mono (HAT.out y _ BW.out) ?_
     rintro e w4 ⟨v, rfl, hv, b4⟩
     have r0 := (b4.cell zp).trans p0
     have r1 := (b4.cell (World.block_lt_of_cell? _ _ p1)).trans p1
     have HT4 := Aside0.mk (Kd.R_below HT.out b4)
     have HO4 := Aside0.mk (Kd.R_below HO.out b4)
     have B4 := Aside0.mk (bel_then BW.out b4)
     clear HT HO BW p0 p1 zp b4
     rcases atP_neg hv with ⟨hv0, hal⟩ | ⟨hv0, hal⟩
     ·have HAL := Lib.hid hal
      clear hal hv
      have hso := specSort_any w.heap.size vB vd ys y w4 HO4.out (by omega) B4.out.size
      go_wp2_with (first | (go_at_call 33; (refine Calls.mono hso ?_; rintro e w5 ⟨B5, d5, rfl, r5, b5⟩)))
      go_roundg (T.length - (k + 1))
      case measure => omega
      case rel => exact ⟨k + 1, by omega, Nat.le_refl _, by go_num, ⟨Kd.R_below HT4.out b5⟩, ⟨by rw [HN.out, if_neg (by rw [HAL.out]; simp)]; exact r5⟩, ⟨bel_then B4.out b5⟩⟩
     ·have HAL := Lib.hid hal
      clear hal hv
      go_wp2
      go_roundg (T.length - (k + 1))
      case measure => omega
      case rel => exact ⟨k + 1, by omega, Nat.le_refl _, by go_num, HT4, ⟨by rw [HN.out, if_pos HAL.out]; exact HO4.out⟩, B4⟩
    ·have hlt' : ¬ (k : Int) < (T.length : Int) := by omega
     rw [show T.take k = T from List.take_of_length_le (by omega), show pickU xs T = ends xs [a] from ends_all HTM.out] at HO
     obtain ⟨vB, vd, hv⟩ := Kd.R_slice HO.out
     subst hv
     go_wp2
     go_ret
     exact ⟨vB, vd, rfl, HO.out, BW.out⟩

end Go.Proofs.YticepbgacokbbaaGreatDoor
