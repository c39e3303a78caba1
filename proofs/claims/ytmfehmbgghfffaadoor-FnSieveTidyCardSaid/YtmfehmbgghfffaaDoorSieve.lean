/- The mailbox rules: right, SieveOk. -/
import Derived.Test.YtmfehmbgghfffaaDoorAddr2
import Derived.Test.YtmfehmbgghfffaaDoorMaps
import Derived.Test.YtmfehmbgghfffaaDoorRegion
namespace Go.Proofs.YtmfehmbgghfffaaDoor
open Go.RowKit Go.Maps Go.WideMaps
set_option linter.unusedVariables false
set_option linter.unusedSimpArgs false

theorem blw_drew {B : Nat} {w W : World} (h : Below B w W) : Below B w W.drew := ⟨h.os, h.tape, h.output, h.size, h.block⟩
theorem int3_keyed : Keyed Tryd.prog 3 := int_keyed Tryd.underlying3

def asksF (t : List UInt8) (b1 b2 b3 b4 : Bool) (z : Int) : Bool := bif z == 1 then b1 && dom t else bif z == 2 then b2 && line t else bif z == 3 then b3 && t.isEmpty else bif z == 4 then b4 && t.isEmpty else false
/-- A map of bools over whole numbers, by what it answers. -/
def MapI (W : World) (lo : Nat) (x : Value) (n : Nat) (f : Int → Bool) : Prop :=
  ∃ M Dm, x = .map (some M) ∧ lo ≤ M ∧ W.ownsMap Tryd.prog 3 (plainElem (H := Unit) Tryd.prog 4) M n Dm ∧ ∀ z, (Lit.int .i64 z).wf = true → Dm.atKey (.int .i64 z) (.lit (.bool false)) = .lit (.bool (f z))

theorem MapI.below {W W' : World} {lo n : Nat} {x : Value} {f : Int → Bool} (h : MapI W lo x n f) (hb : Below W.heap.size W W') : MapI W' lo x n f := by
  obtain ⟨M, Dm, rfl, hlo, ⟨es, clock, hM, hF, hs, hD⟩, hf⟩ := h
  exact ⟨M, Dm, rfl, hlo, ⟨es, clock, (hb.block M (Array.getElem?_eq_some_iff.1 hM).1).trans hM, hF, hs, hD⟩, hf⟩
theorem MapI.made (W : World) (lo : Nat) (h : lo ≤ W.heap.size) : MapI (W.alloc (.map #[] 0)) lo (.map (some W.heap.size)) 0 (fun _ => false) :=
  ⟨W.heap.size, .map [], rfl, h, World.ownsMap_made _ _ _ _, fun _ _ => rfl⟩
theorem MapI.is {W : World} {lo n n' : Nat} {x x' : Value} {f f' : Int → Bool} (h : MapI W lo x n f) (hx : x = x') (hn : n = n') (hf : ∀ z, f z = f' z) : MapI W lo x' n' f' := by
  subst hx; subst hn
  obtain ⟨M, Dm, rfl, hlo, hown, h'⟩ := h
  exact ⟨M, Dm, rfl, hlo, hown, fun z hz => by rw [h' z hz, hf z]⟩
/-- What a store does to the rest. -/
theorem MapI.put {W' : World} {lo n M : Nat} {Dm : DataW Unit} {f : Int → Bool} (hlo : lo ≤ M) (hf : ∀ z, (Lit.int .i64 z).wf = true → Dm.atKey (.int .i64 z) (.lit (.bool false)) = .lit (.bool (f z))) (hm : IsMap Dm) (k : Int) (hk : WideAt.IsKeyLit (.int .i64 k)) (b : Bool)
    (hown : W'.ownsMap Tryd.prog 3 (plainElem (H := Unit) Tryd.prog 4) M (n + 1) (Dm.put (.int .i64 k) (.lit (.bool b)))) : MapI W' lo (.map (some M)) (n + 1) (fun z => bif z == k then b else f z) := by
  refine ⟨M, _, rfl, hlo, hown, fun z hz => ?_⟩
  by_cases e : z = k
  · subst e; rw [atKey_put_same hm hk]; simp
  · rw [atKey_put_other (by simpa using e), hf z hz]; show _ = DataW.lit (Lit.bool (bif z == k then b else f z)); rw [beq_eq_false_iff_ne.2 e]; rfl

def doesF (u d : List UInt8) (b1 b2 b3 : Bool) (z : Int) : Bool := bif z == 1 then b1 && nul u d else bif z == 2 then b2 && nul u d else bif z == 3 then b3 && addr u d else false
theorem asksF_1 (t : List UInt8) (b2 b3 b4 : Bool) (z : Int) : (bif z == 1 then dom t else asksF t false b2 b3 b4 z) = asksF t true b2 b3 b4 z := by unfold asksF; cases h1 : (z == 1) <;> cases h2 : (z == 2) <;> cases h3 : (z == 3) <;> cases h4 : (z == 4) <;> simp_all
theorem asksF_2 (t : List UInt8) (b1 b3 b4 : Bool) (z : Int) : (bif z == 2 then line t else asksF t b1 false b3 b4 z) = asksF t b1 true b3 b4 z := by unfold asksF; cases h1 : (z == 1) <;> cases h2 : (z == 2) <;> cases h3 : (z == 3) <;> cases h4 : (z == 4) <;> simp_all
theorem asksF_3 (t : List UInt8) (b1 b2 b4 : Bool) (z : Int) : (bif z == 3 then t.isEmpty else asksF t b1 b2 false b4 z) = asksF t b1 b2 true b4 z := by unfold asksF; cases h1 : (z == 1) <;> cases h2 : (z == 2) <;> cases h3 : (z == 3) <;> cases h4 : (z == 4) <;> simp_all
theorem asksF_4 (t : List UInt8) (b1 b2 b3 : Bool) (z : Int) : (bif z == 4 then t.isEmpty else asksF t b1 b2 b3 false z) = asksF t b1 b2 b3 true z := by unfold asksF; cases h1 : (z == 1) <;> cases h2 : (z == 2) <;> cases h3 : (z == 3) <;> cases h4 : (z == 4) <;> simp_all
theorem doesF_1 (u d : List UInt8) (b2 b3 : Bool) (z : Int) : (bif z == 1 then nul u d else doesF u d false b2 b3 z) = doesF u d true b2 b3 z := by unfold doesF; cases h1 : (z == 1) <;> cases h2 : (z == 2) <;> cases h3 : (z == 3) <;> simp_all
theorem doesF_2 (u d : List UInt8) (b1 b3 : Bool) (z : Int) : (bif z == 2 then nul u d else doesF u d b1 false b3 z) = doesF u d b1 true b3 z := by unfold doesF; cases h1 : (z == 1) <;> cases h2 : (z == 2) <;> cases h3 : (z == 3) <;> simp_all
theorem doesF_3 (u d : List UInt8) (b1 b2 : Bool) (z : Int) : (bif z == 3 then addr u d else doesF u d b1 b2 false z) = doesF u d b1 b2 true z := by unfold doesF; cases h1 : (z == 1) <;> cases h2 : (z == 2) <;> cases h3 : (z == 3) <;> simp_all
theorem own_isMap {W : World} {M n : Nat} {Dm : DataW Unit} (h : W.ownsMap Tryd.prog 3 (plainElem (H := Unit) Tryd.prog 4) M n Dm) : IsMap Dm := by
  obtain ⟨_, _, _, _, _, rfl⟩ := h
  exact ⟨_, rfl⟩
/-- A composite literal's store into such a map. -/
theorem wpList_insert_MapI {w : World} {ops : Array Oper} {rest : List Oper} {o : Oper} {a : Act} {Q : Exit → Act → World → Prop} {lo n : Nat} {xm : Value} {f : Int → Bool} (h : MapI w lo xm n f) (hn : n < 1000)
    (hw : Region.wanted o (yielded ops a.tmps) = true) (m x v : Operand) (hop : o.op = Op.insert 122 m x v) (hm : a.eval m = xm) (k : Int) (hk : (Lit.int .i64 k).wf = true) (b : Bool) (hx : a.eval x = .int .i64 k) (hv : a.eval v = .bool b)
    (hK : ∀ w', MapI w' lo xm (n + 1) (fun z => bif z == k then b else f z) → (∀ B W0, B ≤ lo → B ≤ w.heap.size → Below B W0 w → Below B W0 w') → wpList Tryd.prog ops Q rest (a.put o.dst undef) w') : wpList Tryd.prog ops Q (o :: rest) a w := by
  obtain ⟨M, Dm, rfl, hlo, hown, hf⟩ := h
  refine wpList_insert_own hw m x v _ hop 3 4 int3_keyed Tryd.underlying122 _ M n Dm hm hown (by unfold maxLen; omega) _ _ (.int .i64 k) hx hv (keyOf_int_mk Tryd.underlying3 hk) (.lit (.bool b)) [] (plainElem_bool Tryd.underlying4 b) ?_
  intro w' hown' hgrow
  exact hK w' (MapI.put hlo hf (own_isMap hown) k trivial b hown') (fun B W0 h1 h2 hb => hb.grown hgrow h2 (fun j hj => by cases hj; omega))

structure AskI (t : ByteArray) (w W0 : World) (D : Nat → Bool) (x : Nat → Value) (W : World) : Prop where
  below : Below W0.heap.size W0 W
  f0 : D 0 = true → MapI W W0.heap.size (x 5) ((D 4).toNat + (D 8).toNat + (D 12).toNat + (D 16).toNat) (asksF t.data.toList (D 4) (D 8) (D 12) (D 16))
  f1 : D 1 = true → x 6 = .pointer (some ⟨w.heap.size, 1, none⟩)
  f2 : D 2 = true → x 7 = .string t
  f3 : D 3 = true → x 8 = .bool (dom t.data.toList)
  f5 : D 5 = true → x 9 = .pointer (some ⟨w.heap.size, 1, none⟩)
  f6 : D 6 = true → x 10 = .string t
  f7 : D 7 = true → x 11 = .bool (line t.data.toList)
  f9 : D 9 = true → x 12 = .pointer (some ⟨w.heap.size, 1, none⟩)
  f10 : D 10 = true → x 13 = .string t
  f11 : D 11 = true → x 14 = .bool t.data.toList.isEmpty
  f13 : D 13 = true → x 15 = .pointer (some ⟨w.heap.size, 1, none⟩)
  f14 : D 14 = true → x 16 = .string t
  f15 : D 15 = true → x 17 = .bool t.data.toList.isEmpty
  f17 : D 17 = true → x 18 = x 5
  f18 : D 18 = true → x 3 = x 5

structure DoI (u d : ByteArray) (w W0 : World) (D : Nat → Bool) (x : Nat → Value) (W : World) : Prop where
  below : Below W0.heap.size W0 W
  f0 : D 0 = true → MapI W W0.heap.size (x 19) ((D 4).toNat + (D 8).toNat + (D 12).toNat) (doesF u.data.toList d.data.toList (D 4) (D 8) (D 12))
  f1 : D 1 = true → x 20 = .pointer (some ⟨w.heap.size, 3, none⟩)
  f2 : D 2 = true → x 21 = .agg #[.string u, .string d]
  f3 : D 3 = true → x 22 = .bool (nul u.data.toList d.data.toList)
  f5 : D 5 = true → x 23 = .pointer (some ⟨w.heap.size, 3, none⟩)
  f6 : D 6 = true → x 24 = .agg #[.string u, .string d]
  f7 : D 7 = true → x 25 = .bool (nul u.data.toList d.data.toList)
  f9 : D 9 = true → x 26 = .pointer (some ⟨w.heap.size, 3, none⟩)
  f10 : D 10 = true → x 27 = .agg #[.string u, .string d]
  f11 : D 11 = true → x 28 = .bool (addr u.data.toList d.data.toList)
  f13 : D 13 = true → x 29 = x 19
  f14 : D 14 = true → x 4 = x 19

/-- Whether a rule is valid. -/
def ruleOk (ask dn : Int) (t u d : List UInt8) : Bool := asksF t true true true true ask && doesF u d true true true dn
set_option maxRecDepth 100000 in
set_option maxHeartbeats 2000000 in
theorem right_any (ask dn : Int) (t u d : ByteArray) (w : World) (hwa : (Lit.int .i64 ask).wf = true) (hwd : (Lit.int .i64 dn).wf = true) (ht : t.size < 4294967281) (hu : u.size ≤ 9223372036854775807) (hd : d.size < 4294967281) (hG : Glob w) :
    Calls Tryd.prog 56 #[.agg #[.int .i64 ask, .string t, .int .i64 dn, .string u, .string d]] w fun e w' => e = .returned (.bool (ruleOk ask dn t.data.toList u.data.toList d.data.toList)) ∧ Below w.heap.size w w' := by
  have hmm := @run_makeMap Tryd.prog
  go_enter Tryd.func56, Tryd.ntmps56
  go_wp2_with fail
  obtain ⟨W0, hW0⟩ : ∃ W0, W0 = w.alloc (Obj.cells #[Value.int IntKind.i64 ask, Value.string t, Value.int IntKind.i64 dn, Value.string u, Value.string d] 65) := ⟨_, rfl⟩
  rw [← hW0]
  have hB0 : Below w.heap.size w W0 := by rw [hW0]; exact (Below.refl _ _).alloc (Nat.le_refl _) _
  have hz0 : w.heap.size < W0.heap.size := by rw [hW0]; simp
  have c0 : W0.cell? ⟨w.heap.size, 0, none⟩ = some (.int .i64 ask) := by rw [hW0]; simp
  have c1 : W0.cell? ⟨w.heap.size, 1, none⟩ = some (.string t) := by rw [hW0]; simp
  have c2 : W0.cell? ⟨w.heap.size, 2, none⟩ = some (.int .i64 dn) := by rw [hW0]; simp
  have c3 : W0.cell? ⟨w.heap.size, 3, none⟩ = some (.string u) := by rw [hW0]; simp
  have c4 : W0.cell? ⟨w.heap.size, 4, none⟩ = some (.string d) := by rw [hW0]; simp
  clear hW0
  refine wp_region_steps (by kernel_rfl) (fun D a W => ∃ x : Nat → Value, a = ⟨#[.agg #[.int .i64 ask, .string t, .int .i64 dn, .string u, .string d], .pointer (some ⟨w.heap.size, 0, none⟩), .bool false, x 3, undef, x 5, x 6, x 7, x 8, x 9, x 10, x 11, x 12, x 13, x 14, x 15, x 16, x 17, x 18, undef, undef, undef, undef, undef, undef, undef, undef, undef, undef, undef, undef, undef, undef, undef, undef, undef, undef, undef, undef, undef], []⟩ ∧ AskI t w W0 D x W) (by kernel_rfl) ?_ ?_ ?_
  · refine ⟨fun _ => undef, rfl, ?_⟩
    exact ⟨blw_drew (Below.refl _ _), by simp, by simp, by simp, by simp, by simp, by simp, by simp, by simp, by simp, by simp, by simp, by simp, by simp, by simp, by simp⟩
  · refine ⟨?_, ?_, ?_, ?_, ?_, ?_, ?_, ?_, ?_, ?_, ?_, ?_, ?_, ?_, ?_, ?_, ?_, ?_, ?_, trivial⟩
    all_goals
      intro D a W hC hD hd I K hK
      obtain ⟨x, rfl, h⟩ := I
      have HK := Lib.hid hK
      clear hK
      simp only [List.all_cons, List.all_nil, Bool.and_true, Bool.and_eq_true, Region.binds, Bool.not_true, Bool.false_or] at hd
      have C1 := (h.below.cell (p := ⟨w.heap.size, 1, none⟩) hz0).trans c1
      have hBW : Below w.heap.size w W := hB0.trans (h.below.mono (by omega))
      have hsz := h.below.size
      clear c0 c1 c2 c3 c4
    -- 0: the map is made
    · clear hd C1
      simp only [ClosedL, AllFrom, List.all_cons, List.all_nil, Bool.and_true, Bool.and_eq_true, Region.binds, Bool.not_true, Bool.false_or, hD, Bool.false_eq_true, false_and, imp_false, Bool.not_eq_true] at hC
      obtain ⟨_, _, _, _, e4, _, _, _, e8, _, _, _, e12, _, _, _, e16, e17, e18, _⟩ := hC
      have E := Lib.hid (And.intro e4 (And.intro e8 (And.intro e12 (And.intro e16 e17))))
      have e18' : D 18 = false := by cases hq : D 18 with | false => rfl | true => exact absurd (e18 hq) (by simp [e17])
      have E18 := Lib.hid e18'
      clear e4 e8 e12 e16 e17 e18 e18' hD
      go_wp2
      obtain ⟨e4, e8, e12, e16, e17⟩ := E.out
      have e18 := E18.out
      refine HK.out _ _ ⟨upv x 5 (.map (some W.heap.size)), rfl, ?_⟩
      exact { h with below := h.below.alloc h.below.size _, f0 := fun _ => (MapI.made W _ hsz).is rfl (by simp [e4, e8, e12, e16]) (by intro z; simp [asksF, e4, e8, e12, e16]), f17 := fun e => absurd ((show D 17 = true from e).symm.trans e17) (by decide), f18 := fun e => absurd ((show D 18 = true from e).symm.trans e18) (by decide) }
    -- 1: the field's address
    · clear hd hC
      go_wp2
      exact HK.out _ _ ⟨upv x 6 _, rfl, { h with f1 := fun _ => rfl }⟩
    -- 2
    · clear hC
      have h1 := h.f1 hd
      go_wp2
      exact HK.out _ _ ⟨upv x 7 _, by first | rfl | (simp [upv, h1]), { h with f2 := fun _ => rfl }⟩
    -- 3
    · clear hC
      have h1 := h.f2 hd
      go_wp2_with (go_at_call 101; refine (DomainOk_any t _ ht (hG.below hBW)).mono ?_; rintro e w1 ⟨rfl, hb1⟩)
      exact HK.out _ _ ⟨upv x 8 _, by first | rfl | (simp [upv, h1]), { h with f3 := fun _ => rfl, below := h.below.trans (hb1.mono hsz), f0 := fun e => (h.f0 e).below hb1 }⟩
    -- 4
    · clear hC
      have h0 := h.f0 hd.1
      have h1 := h.f3 hd.2
      refine wpList_insert_MapI h0 (by have := Bool.toNat_le (D 4); have := Bool.toNat_le (D 8); have := Bool.toNat_le (D 12); have := Bool.toNat_le (D 16); omega) rfl _ _ _ rfl rfl 1 (by decide) _ rfl h1 ?_
      intro w1 hm1 hkeep
      clear h0 h1
      go_wp2
      refine HK.out _ _ ⟨x, rfl, ?_⟩
      exact { h with below := hkeep _ _ (Nat.le_refl _) hsz h.below, f0 := fun _ => hm1.is rfl (by show _ = ((true).toNat + (D 8).toNat + (D 12).toNat + (D 16).toNat); rw [hD]; simp only [Bool.toNat_false, Bool.toNat_true] <;> omega) (by intro z; rw [hD]; exact asksF_1 _ _ _ _ z) }
    -- 5
    · clear hd hC
      go_wp2
      exact HK.out _ _ ⟨upv x 9 _, rfl, { h with f5 := fun _ => rfl }⟩
    -- 6
    · clear hC
      have h1 := h.f5 hd
      go_wp2
      exact HK.out _ _ ⟨upv x 10 _, by first | rfl | (simp [upv, h1]), { h with f6 := fun _ => rfl }⟩
    -- 7
    · clear hC
      have h1 := h.f6 hd.1
      go_wp2_with (go_at_call 102; refine (isLine_any t _ (by omega)).mono ?_; rintro e w1 ⟨rfl, hb1⟩)
      exact HK.out _ _ ⟨upv x 11 _, by first | rfl | (simp [upv, h1]), { h with f7 := fun _ => rfl, below := h.below.trans (hb1.mono hsz), f0 := fun e => (h.f0 e).below hb1 }⟩
    -- 8
    · clear hC
      have h0 := h.f0 hd.1
      have h1 := h.f7 hd.2
      refine wpList_insert_MapI h0 (by have := Bool.toNat_le (D 4); have := Bool.toNat_le (D 8); have := Bool.toNat_le (D 12); have := Bool.toNat_le (D 16); omega) rfl _ _ _ rfl rfl 2 (by decide) _ rfl h1 ?_
      intro w1 hm1 hkeep
      clear h0 h1
      go_wp2
      refine HK.out _ _ ⟨x, rfl, ?_⟩
      exact { h with below := hkeep _ _ (Nat.le_refl _) hsz h.below, f0 := fun _ => hm1.is rfl (by show _ = ((D 4).toNat + (true).toNat + (D 12).toNat + (D 16).toNat); rw [hD]; simp only [Bool.toNat_false, Bool.toNat_true] <;> omega) (by intro z; rw [hD]; exact asksF_2 _ _ _ _ z) }
    -- 9
    · clear hd hC
      go_wp2
      exact HK.out _ _ ⟨upv x 12 _, rfl, { h with f9 := fun _ => rfl }⟩
    -- 10
    · clear hC
      have h1 := h.f9 hd
      go_wp2
      exact HK.out _ _ ⟨upv x 13 _, by first | rfl | (simp [upv, h1]), { h with f10 := fun _ => rfl }⟩
    -- 11
    · clear hC
      have h1 := h.f10 hd
      go_wp2
      exact HK.out _ _ ⟨upv x 14 (.bool t.toList.isEmpty), by first | rfl | (simp [upv, h1]), { h with f11 := fun _ => by simp [upv, bl] }⟩
    -- 12
    · clear hC
      have h0 := h.f0 hd.1
      have h1 := h.f11 hd.2
      refine wpList_insert_MapI h0 (by have := Bool.toNat_le (D 4); have := Bool.toNat_le (D 8); have := Bool.toNat_le (D 12); have := Bool.toNat_le (D 16); omega) rfl _ _ _ rfl rfl 3 (by decide) _ rfl h1 ?_
      intro w1 hm1 hkeep
      clear h0 h1
      go_wp2
      refine HK.out _ _ ⟨x, rfl, ?_⟩
      exact { h with below := hkeep _ _ (Nat.le_refl _) hsz h.below, f0 := fun _ => hm1.is rfl (by show _ = ((D 4).toNat + (D 8).toNat + (true).toNat + (D 16).toNat); rw [hD]; simp only [Bool.toNat_false, Bool.toNat_true] <;> omega) (by intro z; rw [hD]; exact asksF_3 _ _ _ _ z) }
    -- 13
    · clear hd hC
      go_wp2
      exact HK.out _ _ ⟨upv x 15 _, rfl, { h with f13 := fun _ => rfl }⟩
    -- 14
    · clear hC
      have h1 := h.f13 hd
      go_wp2
      exact HK.out _ _ ⟨upv x 16 _, by first | rfl | (simp [upv, h1]), { h with f14 := fun _ => rfl }⟩
    -- 15
    · clear hC
      have h1 := h.f14 hd
      go_wp2
      exact HK.out _ _ ⟨upv x 17 (.bool t.toList.isEmpty), by first | rfl | (simp [upv, h1]), { h with f15 := fun _ => by simp [upv, bl] }⟩
    -- 16
    · clear hC
      have h0 := h.f0 hd.1
      have h1 := h.f15 hd.2
      refine wpList_insert_MapI h0 (by have := Bool.toNat_le (D 4); have := Bool.toNat_le (D 8); have := Bool.toNat_le (D 12); have := Bool.toNat_le (D 16); omega) rfl _ _ _ rfl rfl 4 (by decide) _ rfl h1 ?_
      intro w1 hm1 hkeep
      clear h0 h1
      go_wp2
      refine HK.out _ _ ⟨x, rfl, ?_⟩
      exact { h with below := hkeep _ _ (Nat.le_refl _) hsz h.below, f0 := fun _ => hm1.is rfl (by show _ = ((D 4).toNat + (D 8).toNat + (D 12).toNat + (true).toNat); rw [hD]; simp only [Bool.toNat_false, Bool.toNat_true] <;> omega) (by intro z; rw [hD]; exact asksF_4 _ _ _ _ z) }
    -- 17
    · clear hC hd
      go_wp2
      exact HK.out _ _ ⟨upv x 18 _, rfl, { h with f17 := fun _ => rfl }⟩
    -- 18
    · clear hC
      have h1 := h.f17 (by simp only [hd])
      go_wp2
      exact HK.out _ _ ⟨upv x 3 (x 5), by first | rfl | (simp [upv, h1]), { h with f18 := fun _ => rfl }⟩
  · rintro D a W1 hall ⟨x, rfl, hI⟩
    have d (i : Nat) (h : i < 19) : D i = true := hall i h
    have hm3 : MapI W1 W0.heap.size (x 3) 4 (asksF t.data.toList true true true true) := (hI.f0 (d 0 (by decide))).is (hI.f18 (d 18 (by decide))).symm (by simp [d]) (by intro z; simp [d])
    have hB1 : Below w.heap.size w W1 := hB0.trans (hI.below.mono (by omega))
    have hz1 : w.heap.size < W1.heap.size := Nat.lt_of_lt_of_le hz0 hI.below.size
    have C0 := (hI.below.cell (p := ⟨w.heap.size, 0, none⟩) hz0).trans c0
    have C2 := (hI.below.cell (p := ⟨w.heap.size, 2, none⟩) hz0).trans c2
    have C3 := (hI.below.cell (p := ⟨w.heap.size, 3, none⟩) hz0).trans c3
    have C4 := (hI.below.cell (p := ⟨w.heap.size, 4, none⟩) hz0).trans c4
    have hz01 := hI.below.size
    clear hI d hall c0 c1 c2 c3 c4
    go_wp2
    refine wp_region_steps (by kernel_rfl) (fun D a W => ∃ y : Nat → Value, a = ⟨#[.agg #[.int .i64 ask, .string t, .int .i64 dn, .string u, .string d], .pointer (some ⟨w.heap.size, 0, none⟩), .bool false, x 3, y 4, x 5, x 6, x 7, x 8, x 9, x 10, x 11, x 12, x 13, x 14, x 15, x 16, x 17, x 18, y 19, y 20, y 21, y 22, y 23, y 24, y 25, y 26, y 27, y 28, y 29, undef, undef, undef, undef, undef, undef, undef, undef, undef, undef], []⟩ ∧ DoI u d w W1 D y W) (by kernel_rfl) ?_ ?_ ?_
    · refine ⟨fun _ => undef, rfl, ?_⟩
      exact ⟨blw_drew (Below.refl _ _), by simp, by simp, by simp, by simp, by simp, by simp, by simp, by simp, by simp, by simp, by simp, by simp⟩
    · refine ⟨?_, ?_, ?_, ?_, ?_, ?_, ?_, ?_, ?_, ?_, ?_, ?_, ?_, ?_, ?_, trivial⟩
      all_goals
        intro D a W hC hD hd I K hK
        obtain ⟨y, rfl, h⟩ := I
        have HK := Lib.hid hK
        clear hK
        simp only [List.all_cons, List.all_nil, Bool.and_true, Bool.and_eq_true, Region.binds, Bool.not_true, Bool.false_or] at hd
        have D3 := (h.below.cell (p := ⟨w.heap.size, 3, none⟩) hz1).trans C3
        have D4 := (h.below.cell (p := ⟨w.heap.size, 4, none⟩) hz1).trans C4
        have hBW : Below w.heap.size w W := hB1.trans (h.below.mono (by omega))
        have hsz := h.below.size
        clear C0 C2 C3 C4
      -- 0: the map is made
      · clear hd D3 D4
        simp only [ClosedL, AllFrom, List.all_cons, List.all_nil, Bool.and_true, Bool.and_eq_true, Region.binds, Bool.not_true, Bool.false_or, hD, Bool.false_eq_true, false_and, imp_false, Bool.not_eq_true] at hC
        obtain ⟨_, _, _, _, e4, _, _, _, e8, _, _, _, e12, e13, e14, _⟩ := hC
        have e14' : D 14 = false := by cases hq : D 14 with | false => rfl | true => exact absurd (e14 hq) (by simp [e13])
        have E := Lib.hid (And.intro e4 (And.intro e8 (And.intro e12 (And.intro e13 e14'))))
        clear e4 e8 e12 e13 e14 e14' hD
        go_wp2
        obtain ⟨e4, e8, e12, e13, e14⟩ := E.out
        refine HK.out _ _ ⟨upv y 19 (.map (some W.heap.size)), rfl, ?_⟩
        exact { h with below := h.below.alloc h.below.size _, f0 := fun _ => (MapI.made W _ hsz).is rfl (by simp [e4, e8, e12]) (by intro z; simp [doesF, e4, e8, e12]), f13 := fun e => absurd ((show D 13 = true from e).symm.trans e13) (by decide), f14 := fun e => absurd ((show D 14 = true from e).symm.trans e14) (by decide) }
      -- 1
      · clear hd hC
        go_wp2
        exact HK.out _ _ ⟨upv y 20 _, rfl, { h with f1 := fun _ => rfl }⟩
      -- 2
      · clear hC
        have h1 := h.f1 hd
        go_wp2
        exact HK.out _ _ ⟨upv y 21 (.agg #[.string u, .string d]), by first | rfl | (simp [upv, h1]), { h with f2 := fun _ => rfl }⟩
      -- 3
      · clear hC
        have h1 := h.f2 hd
        go_wp2_with (go_at_call 62; refine (null_any u d _).mono ?_; rintro e w1 ⟨rfl, hb1⟩)
        exact HK.out _ _ ⟨upv y 22 _, by first | rfl | (simp [upv, h1]), { h with f3 := fun _ => rfl, below := h.below.trans (hb1.mono hsz), f0 := fun e => (h.f0 e).below hb1 }⟩
      -- 4
      · clear hC
        have h0 := h.f0 hd.1
        have h1 := h.f3 hd.2
        refine wpList_insert_MapI h0 (by have := Bool.toNat_le (D 4); have := Bool.toNat_le (D 8); have := Bool.toNat_le (D 12); omega) rfl _ _ _ rfl rfl 1 (by decide) _ rfl h1 ?_
        intro w1 hm1 hkeep
        clear h0 h1
        go_wp2
        refine HK.out _ _ ⟨y, rfl, ?_⟩
        exact { h with below := hkeep _ _ (Nat.le_refl _) hsz h.below, f0 := fun _ => hm1.is rfl (by show _ = ((true).toNat + (D 8).toNat + (D 12).toNat); rw [hD]; simp only [Bool.toNat_false, Bool.toNat_true] <;> omega) (by intro z; rw [hD]; exact doesF_1 _ _ _ _ z) }
      -- 5
      · clear hd hC
        go_wp2
        exact HK.out _ _ ⟨upv y 23 _, rfl, { h with f5 := fun _ => rfl }⟩
      -- 6
      · clear hC
        have h1 := h.f5 hd
        go_wp2
        exact HK.out _ _ ⟨upv y 24 (.agg #[.string u, .string d]), by first | rfl | (simp [upv, h1]), { h with f6 := fun _ => rfl }⟩
      -- 7
      · clear hC
        have h1 := h.f6 hd.1
        go_wp2_with (go_at_call 62; refine (null_any u d _).mono ?_; rintro e w1 ⟨rfl, hb1⟩)
        exact HK.out _ _ ⟨upv y 25 _, by first | rfl | (simp [upv, h1]), { h with f7 := fun _ => rfl, below := h.below.trans (hb1.mono hsz), f0 := fun e => (h.f0 e).below hb1 }⟩
      -- 8
      · clear hC
        have h0 := h.f0 hd.1
        have h1 := h.f7 hd.2
        refine wpList_insert_MapI h0 (by have := Bool.toNat_le (D 4); have := Bool.toNat_le (D 8); have := Bool.toNat_le (D 12); omega) rfl _ _ _ rfl rfl 2 (by decide) _ rfl h1 ?_
        intro w1 hm1 hkeep
        clear h0 h1
        go_wp2
        refine HK.out _ _ ⟨y, rfl, ?_⟩
        exact { h with below := hkeep _ _ (Nat.le_refl _) hsz h.below, f0 := fun _ => hm1.is rfl (by show _ = ((D 4).toNat + (true).toNat + (D 12).toNat); rw [hD]; simp only [Bool.toNat_false, Bool.toNat_true] <;> omega) (by intro z; rw [hD]; exact doesF_2 _ _ _ _ z) }
      -- 9
      · clear hd hC
        go_wp2
        exact HK.out _ _ ⟨upv y 26 _, rfl, { h with f9 := fun _ => rfl }⟩
      -- 10
      · clear hC
        have h1 := h.f9 hd
        go_wp2
        exact HK.out _ _ ⟨upv y 27 (.agg #[.string u, .string d]), by first | rfl | (simp [upv, h1]), { h with f10 := fun _ => rfl }⟩
      -- 11
      · clear hC
        have h1 := h.f10 hd.1
        go_wp2_with (go_at_call 63; refine (AddrOk_any u d _ hu (by assumption) (hG.below hBW)).mono ?_; rintro e w1 ⟨rfl, hb1⟩)
        exact HK.out _ _ ⟨upv y 28 _, by first | rfl | (simp [upv, h1]), { h with f11 := fun _ => rfl, below := h.below.trans (hb1.mono hsz), f0 := fun e => (h.f0 e).below hb1 }⟩
      -- 12
      · clear hC
        have h0 := h.f0 hd.1
        have h1 := h.f11 hd.2
        refine wpList_insert_MapI h0 (by have := Bool.toNat_le (D 4); have := Bool.toNat_le (D 8); have := Bool.toNat_le (D 12); omega) rfl _ _ _ rfl rfl 3 (by decide) _ rfl h1 ?_
        intro w1 hm1 hkeep
        clear h0 h1
        go_wp2
        refine HK.out _ _ ⟨y, rfl, ?_⟩
        exact { h with below := hkeep _ _ (Nat.le_refl _) hsz h.below, f0 := fun _ => hm1.is rfl (by show _ = ((D 4).toNat + (D 8).toNat + (true).toNat); rw [hD]; simp only [Bool.toNat_false, Bool.toNat_true] <;> omega) (by intro z; rw [hD]; exact doesF_3 _ _ _ _ z) }
      -- 13
      · clear hC hd
        go_wp2
        exact HK.out _ _ ⟨upv y 29 _, rfl, { h with f13 := fun _ => rfl }⟩
      -- 14
      · clear hC
        have h1 := h.f13 (by simp only [hd])
        go_wp2
        exact HK.out _ _ ⟨upv y 4 (y 19), by first | rfl | (simp [upv, h1]), { h with f14 := fun _ => rfl }⟩
    · rintro D a W2 hall ⟨y, rfl, hI⟩
      have d' (i : Nat) (h : i < 15) : D i = true := hall i h
      have hm4 : MapI W2 W1.heap.size (y 4) 3 (doesF u.data.toList d.data.toList true true true) := (hI.f0 (d' 0 (by decide))).is (hI.f14 (d' 14 (by decide))).symm (by simp [d']) (by intro z; simp [d'])
      have hm3' := hm3.below (hI.below)
      have E0 := (hI.below.cell (p := ⟨w.heap.size, 0, none⟩) hz1).trans C0
      have E2 := (hI.below.cell (p := ⟨w.heap.size, 2, none⟩) hz1).trans C2
      have hBf : Below w.heap.size w W2 := hB1.trans (hI.below.mono (by omega))
      clear hI d' hall hm3 C0 C2 C3 C4
      obtain ⟨M3, D3, h3, _, hown3, hf3⟩ := hm3'
      obtain ⟨M4, D4, h4, _, hown4, hf4⟩ := hm4
      have ha := hf3 ask hwa
      have hb := hf4 dn hwd
      cases hq : asksF t.data.toList true true true true ask
      · rw [hq] at ha
        have HA := Lib.hid ha
        have HQ := Lib.hid hq
        clear hq hf3 hf4 hb ha
        go_wp2_with (at_lookup; refine wpList_lookup_own_bool rfl _ _ _ rfl 3 4 int3_keyed Tryd.underlying122 Tryd.underlying4 (by kernel_rfl) M3 _ D3 (by first | rfl | exact h3) hown3 _ (.int .i64 ask) rfl (keyOf_int_mk Tryd.underlying3 hwa) false HA.out ?_)
        go_ret
        exact ⟨retb (by unfold ruleOk; rw [HQ.out]; rfl), hBf⟩
      · rw [hq] at ha
        have HA := Lib.hid ha
        have HB := Lib.hid hb
        have HQ := Lib.hid hq
        clear hq hf3 hf4 ha hb
        go_wp2_with (at_lookup; (first | refine wpList_lookup_own_bool rfl _ _ _ rfl 3 4 int3_keyed Tryd.underlying122 Tryd.underlying4 (by kernel_rfl) M3 _ D3 (by first | rfl | exact h3) hown3 _ (.int .i64 ask) rfl (keyOf_int_mk Tryd.underlying3 hwa) true HA.out ?_ | refine wpList_lookup_own_bool rfl _ _ _ rfl 3 4 int3_keyed Tryd.underlying122 Tryd.underlying4 (by kernel_rfl) M4 _ D4 (by first | rfl | exact h4) hown4 _ (.int .i64 dn) rfl (keyOf_int_mk Tryd.underlying3 hwd) _ HB.out ?_))
        go_ret
        exact ⟨retb (by unfold ruleOk; rw [HQ.out]; rfl), hBf⟩
end Go.Proofs.YtmfehmbgghfffaaDoor
