/- The mailbox rules, of the reference: what a rule asks, which rule it is: contracts. -/
import Derived.Test.YtmfehmbgghfffaaDoorSieveI
import Derived.Test.YtmfehmbgghfffaaDoorSpecC
import Derived.Test.YtmfehmbgghfffaaDoorCut
import Derived.Lib.IndexMore
import Derived.StillTailTactics
namespace Go.Proofs.YtmfehmbgghfffaaDoor
open Go.RowKit Go.Proofs.YtmfehmbgghfffaaDoorW.PrintWords
set_option linter.unusedVariables false
set_option linter.unusedSimpArgs false


set_option maxRecDepth 100000 in
theorem l13In_any (s p : ByteArray) (w : World) (hs : s.size < 4294967281) (hp : p.size < 4294967281) :
    Calls Tryd.prog 135 #[.string s, .string p] w fun e w' => e = .returned (.bool (Lib.contains s.data.toList p.data.toList)) ∧ Drawn0 w w' := by
  go_enter Tryd.func135, Tryd.ntmps135
  go_wp2
  go_loopg [5] (s.size + 1) (fun g v wr => ∃ k : Nat, k ≤ s.size + 1 ∧ s.size + 1 - k ≤ g ∧ v = .int .i64 k ∧ Aside0 (Drawn0 w wr) ∧ Aside0 (∀ j, j < k → Lib.occAt s.data.toList p.data.toList j = false))
  case atStart => exact ⟨0, Nat.zero_le _, by omega, rfl, ⟨Drawn0.refl _⟩, ⟨fun j hj => absurd hj (Nat.not_lt_zero _)⟩⟩
  case round =>
    obtain ⟨k, hk, hg, rfl, BW, H⟩ := hrel
    by_cases hlt : k + p.size ≤ s.size
    · have hlt' : (k : Int) + (p.size : Int) ≤ (s.size : Int) := by omega
      have ho := Lib.occAt_iff_take s.data.toList p.data.toList k (by rw [size_data, size_data]; exact hlt)
      rw [size_data] at ho
      have he := ext_data s k (k + p.size) hlt
      rw [show k + p.size - k = p.size by omega] at he
      rw [← he] at ho
      have ht : ((s.extract k (k + p.size)).toList == p.toList) = Lib.occAt s.data.toList p.data.toList k := by rw [ho, bl, bl]
      clear ho he
      cases hq : Lib.occAt s.data.toList p.data.toList k
      · rw [hq] at ht
        have HQ := Lib.hid hq
        clear hq
        go_wp2
        go_roundg (s.size + 1 - (k + 1))
        case measure => omega
        case rel => exact ⟨k + 1, by omega, Nat.le_refl _, rfl, BW, ⟨fun j hj => by
          by_cases e : j = k
          · subst e; exact HQ.out
          · exact H.out j (by omega)⟩⟩
      · rw [hq] at ht
        have HQ := Lib.hid hq
        clear hq
        go_wp2
        go_ret
        refine ⟨retb ?_, BW.out⟩
        rcases Lib.index_spec s.data.toList p.data.toList with ⟨_, h⟩ | ⟨i, h, _⟩
        · have := h k (by rw [size_data]; omega)
          rw [HQ.out] at this
          cases this
        · unfold Lib.contains
          rw [h, decide_eq_true (by omega)]
    · have hlt' : ¬ (k : Int) + (p.size : Int) ≤ (s.size : Int) := by omega
      go_wp2
      go_ret
      refine ⟨retb ?_, BW.out⟩
      unfold Lib.contains
      have : ¬ 0 ≤ Lib.index s.data.toList p.data.toList := by
        intro h0
        have hroom := Lib.index_room _ _ h0
        rcases Lib.index_spec s.data.toList p.data.toList with ⟨h, _⟩ | ⟨i, h, _, hocc, _⟩
        · omega
        · rw [h, size_data, size_data] at hroom
          have := H.out i (by omega)
          rw [hocc] at this
          cases this
      rw [decide_eq_false this]

/-- What it is that a text is another one, or ends with a dot and it. -/
theorem suffix_iff (s e : List UInt8) : Lib.hasSuffix s (46 :: e) = (decide (e.length < s.length) && (decide (s.drop (s.length - e.length) = e) && decide (s.getD (s.length - e.length - 1) 0 = 46))) := by
  unfold Lib.hasSuffix
  rw [Bool.eq_iff_iff, List.isSuffixOf_iff_suffix, Bool.and_eq_true, Bool.and_eq_true, decide_eq_true_iff, decide_eq_true_iff, decide_eq_true_iff]
  constructor
  · rintro ⟨a, rfl⟩
    have hl : (a ++ 46 :: e).length = a.length + (e.length + 1) := by rw [List.length_append, List.length_cons]
    rw [hl]
    refine ⟨by omega, ?_, ?_⟩
    · rw [show a.length + (e.length + 1) - e.length = a.length + 1 by omega, ← List.drop_drop, List.drop_left]; rfl
    · rw [show a.length + (e.length + 1) - e.length - 1 = a.length by omega, List.getD, List.getElem?_append_right (Nat.le_refl _)]
      simp
  · rintro ⟨h1, h2, h3⟩
    refine ⟨s.take (s.length - e.length - 1), ?_⟩
    have hlt : s.length - e.length - 1 < s.length := by omega
    have h4 : s.drop (s.length - e.length - 1) = 46 :: e := by
      rw [List.drop_eq_getElem_cons hlt]
      rw [List.getD, List.getElem?_eq_getElem hlt, Option.getD_some] at h3
      rw [h3, show s.length - e.length - 1 + 1 = s.length - e.length by omega, h2]
    rw [← h4, List.take_append_drop]
def ends (s e : List UInt8) : Bool := decide (s = e) || Lib.hasSuffix s (46 :: e)
set_option maxRecDepth 100000 in
theorem l1Ends_any (s e : ByteArray) (w : World) (hs : s.size < 4294967281) (he : e.size < 4294967281) :
    Calls Tryd.prog 134 #[.string s, .string e] w fun r w' => r = .returned (.bool (ends s.data.toList e.data.toList)) ∧ Drawn0 w w' := by
  have heq : (s.toList == e.toList) = decide (s.data.toList = e.data.toList) := by rw [bl, bl, Bool.eq_iff_iff, beq_iff_eq, decide_eq_true_iff]
  have HE := Lib.hid (show ends s.data.toList e.data.toList = (decide (s.data.toList = e.data.toList) || _) by unfold ends; rw [suffix_iff, size_data, size_data])
  by_cases hse : s.data.toList = e.data.toList
  · rw [decide_eq_true hse] at heq HE
    have HE2 := Lib.hid (HE.out.trans (Bool.true_or _))
    clear hse HE
    go_enter Tryd.func134, Tryd.ntmps134
    go_wp2
    go_ret
    exact ⟨retb HE2.out.symm, Drawn0.refl _⟩
  · rw [decide_eq_false hse] at heq HE
    have HE2 := Lib.hid (HE.out.trans (Bool.false_or _))
    clear hse HE
    by_cases hn : e.size < s.size
    · have hn' : ((s.size : Int) - (e.size : Int) > 0) := by omega
      have hd := ext_data s (s.size - e.size) s.size (Nat.le_refl _)
      rw [show s.size - (s.size - e.size) = e.size by omega, List.take_of_length_le (by rw [List.length_drop, size_data]; omega)] at hd
      have hby := byte_at s (s.size - e.size - 1) (by omega)
      have HD := Lib.hid hd
      have HBY := Lib.hid hby
      clear hd hby
      go_enter Tryd.func134, Tryd.ntmps134
      go_wp2
      · rename_i h1 _
        go_ret
        refine ⟨retb ?_, Drawn0.refl _⟩
        rw [bl, bl, HD.out] at h1
        rw [HE2.out, decide_eq_true hn, decide_eq_true h1, Bool.true_and, Bool.true_and, HBY.out, Bool.eq_iff_iff, beq_iff_eq, decide_eq_true_iff]
        constructor
        · intro h
          exact UInt8.toNat_inj.1 (by have : (46 : UInt8).toNat = 46 := rfl; omega)
        · intro h
          rw [h]; rfl
      · rename_i h1
        go_ret
        refine ⟨retb ?_, Drawn0.refl _⟩
        rw [bl, bl, HD.out] at h1
        rw [HE2.out, decide_eq_true hn, decide_eq_false h1, Bool.false_and, Bool.and_false]
    · have hn' : ¬ ((s.size : Int) - (e.size : Int) > 0) := by omega
      go_enter Tryd.func134, Tryd.ntmps134
      go_wp2
      go_ret
      exact ⟨retb (by rw [HE2.out, decide_eq_false hn]; rfl), Drawn0.refl _⟩
def asksS (u d : List UInt8) (body : List ByteArray) (x : SRule) : Bool :=
  if x.f0 = 1 then !nul u d && ends d x.f1.data.toList else if x.f0 = 2 then inBody x.f1.data.toList body else if x.f0 = 3 then nul u d else true
theorem inBody_hit (t : List UInt8) (body : List ByteArray) (k : Nat) (hk : k < body.length) (h : Lib.contains (body.getD k ByteArray.empty).data.toList t = true) : inBody t body = true := by
  unfold inBody
  rw [List.any_eq_true]
  exact ⟨body.getD k ByteArray.empty, by rw [List.getD, List.getElem?_eq_getElem hk]; exact List.getElem_mem hk, h⟩
theorem inBody_miss (t : List UInt8) (body : List ByteArray) (h : ∀ j, j < body.length → Lib.contains (body.getD j ByteArray.empty).data.toList t = false) : inBody t body = false := by
  unfold inBody
  rw [List.any_eq_false]
  intro x hx
  obtain ⟨j, hj, rfl⟩ := List.getElem_of_mem hx
  have := h j hj
  rw [List.getD, List.getElem?_eq_getElem hj] at this
  rw [show Lib.contains body[j].data.toList t = false from this]
  decide
set_option maxRecDepth 100000 in
set_option maxHeartbeats 2000000 in
theorem l13Asks_any (x : SRule) (u d : ByteArray) (A' : Option Addr) (c' : Nat) (body : List ByteArray) (w : World) (hx : RFit x) (hd : d.size < 4294967281) (hr' : Kd.C Kd.string w A' body.length body) (hb : BodyFit body) :
    Calls Tryd.prog 117 #[.agg #[.int .i64 x.f0, .string x.f1, .int .i64 x.f2, .string x.f3.f0, .string x.f3.f1], .agg #[.string u, .string d], .slice A' body.length c'] w fun e w' => e = .returned (.bool (asksS u.data.toList d.data.toList body x)) ∧ Below w.heap.size w w' := by
  obtain ⟨x0, x1, x2, ⟨x3, x4⟩⟩ := x
  obtain ⟨-, -, hsz, -, -⟩ := hx
  change x1.size < _ at hsz
  obtain ⟨hbl, hbs⟩ := hb
  unfold asksS
  dsimp only
  have hn := fun W => specNull_any u d W
  have he := fun W => l1Ends_any d x1 W hd hsz
  have B0 : Below w.heap.size w ((w.alloc (.cells #[.int .i64 x0, .string x1, .int .i64 x2, .string x3, .string x4] 65)).alloc (.cells #[.string u, .string d] 33)) := ((Below.refl _ _).alloc (Nat.le_refl _) _).alloc (by simp) _
  by_cases c1 : x0 = 1
  · have c1' : (x0 == 1) = true := beq_iff_eq.2 c1
    rw [if_pos c1]
    clear c1 hr' hbl hbs
    generalize nul u.data.toList d.data.toList = q0 at hn
    generalize ends d.data.toList x1.data.toList = q1 at he
    cases q0
    · go_enter Tryd.func117, Tryd.ntmps117
      go_wp2_with (first | (go_at_call 68; refine (hn _).mono ?_; rintro e w1 ⟨rfl, hb1⟩; have d1 := (hb1.cell (p := ⟨w.heap.size, 1, none⟩) (by simp; omega)).trans (by simp : _ = some (.string x1)); have m1 := (hb1.cell (p := ⟨w.heap.size + 1, 1, none⟩) (by simp)).trans (by simp : _ = some (.string d)); have B1 : Below w.heap.size w w1 := B0.trans (hb1.mono (by simp; omega)); clear hb1) | (go_at_call 134; refine (he _).mono ?_; rintro e w2 ⟨rfl, hb2⟩))
      go_ret
      exact ⟨retb rfl, B1.trans (hb2.below.mono B1.size)⟩
    · go_enter Tryd.func117, Tryd.ntmps117
      go_wp2_with (go_at_call 68; refine (hn _).mono ?_; rintro e w1 ⟨rfl, hb1⟩)
      go_ret
      exact ⟨retb rfl, B0.trans (hb1.mono (by simp; omega))⟩
  · have c1' : (x0 == 1) = false := beq_eq_false_iff_ne.2 c1
    rw [if_neg c1]
    clear c1 he
    by_cases c2 : x0 = 2
    · have c2' : (x0 == 2) = true := beq_iff_eq.2 c2
      rw [if_pos c2]
      clear c2 hn
      have HBS := Lib.hid hbs
      have HR' := Lib.hid hr'
      clear hbs hr'
      have HB0 := Aside0.mk B0
      clear B0
      go_enter Tryd.func117, Tryd.ntmps117
      go_wp2
      obtain ⟨W0, hW0⟩ : ∃ W0, W0 = (w.alloc (.cells #[.int .i64 x0, .string x1, .int .i64 x2, .string x3, .string x4] 65)).alloc (.cells #[.string u, .string d] 33) := ⟨_, rfl⟩
      rw [← hW0] at HB0 ⊢
      have c1 : W0.cell? ⟨w.heap.size, 1, none⟩ = some (.string x1) := by rw [hW0]; simp
      have Z0 : w.heap.size < W0.heap.size := by rw [hW0]; simp; omega
      have hsz0 := HB0.out.size
      clear hW0
      go_loopg [7] (body.length) (fun g v wr => ∃ k : Nat, k ≤ body.length ∧ body.length - k ≤ g ∧ v = .int .i64 k ∧ Aside0 (Drawn0 W0 wr) ∧ Aside0 (∀ j, j < k → Lib.contains (body.getD j ByteArray.empty).data.toList x1.data.toList = false))
      case atStart => exact ⟨0, Nat.zero_le _, by omega, rfl, ⟨Drawn0.refl _⟩, ⟨fun j hj => absurd hj (Nat.not_lt_zero _)⟩⟩
      case round =>
        obtain ⟨k, hk, hg, rfl, BW, H⟩ := hrel
        by_cases hlt : k < body.length
        · have hlt' : (k : Int) < (body.length : Int) := by omega
          obtain ⟨ad, e1, h0⟩ := Kd.at_string (Kd.C_below HR'.out (HB0.out.trans (BW.out.below.mono hsz0))) (k : Int) (by omega) (by omega)
          subst e1
          rw [Int.toNat_natCast] at h0
          have hm := HBS.out (body.getD k ByteArray.empty) (by rw [List.getD, List.getElem?_eq_getElem hlt]; exact List.getElem_mem hlt)
          have hy : body.getD k ByteArray.empty = rdOf ByteArray.empty body (k : Int) := rfl
          rw [hy] at hm
          generalize rdOf ByteArray.empty body (k : Int) = y at h0 hm hy
          have hcall := fun W => l13In_any y x1 W hm hsz
          have HY := Lib.hid hy
          have d1 := (BW.out.below.cell (p := ⟨w.heap.size, 1, none⟩) Z0).trans c1
          clear hy hm
          cases hq : Lib.contains y.data.toList x1.data.toList
          all_goals
            rw [hq] at hcall
            have HQ := Lib.hid hq
            clear hq
            go_wp2_with (go_at_call 135; refine (hcall _).mono ?_; rintro e w' ⟨rfl, ⟨nd, rfl⟩⟩; (try first | exact ⟨rfl, _, World.drewN_drewN _ _ _⟩ | exact ⟨rfl, _, Eq.trans (World.drewN_drewN _ _ _) (congrArg (World.drewN _) (Nat.add_assoc _ _ _))⟩))
            repeat (go_quiet (first | (go_at_call 135; refine (hcall _).mono ?_; rintro e w' ⟨rfl, ⟨nd, rfl⟩⟩; (try first | exact ⟨rfl, _, World.drewN_drewN _ _ _⟩ | exact ⟨rfl, _, Eq.trans (World.drewN_drewN _ _ _) (congrArg (World.drewN _) (Nat.add_assoc _ _ _))⟩))); try go_wp2_with (first | (go_at_call 135; refine (hcall _).mono ?_; rintro e w' ⟨rfl, ⟨nd, rfl⟩⟩; (try first | exact ⟨rfl, _, World.drewN_drewN _ _ _⟩ | exact ⟨rfl, _, Eq.trans (World.drewN_drewN _ _ _) (congrArg (World.drewN _) (Nat.add_assoc _ _ _))⟩))))
          · go_roundg (body.length - (k + 1))
            case measure => omega
            case rel => exact ⟨k + 1, by omega, Nat.le_refl _, rfl, ⟨BW.out.step _⟩, ⟨fun j hj => by
              by_cases e : j = k
              · subst e; rw [HY.out]; exact HQ.out
              · exact H.out j (by omega)⟩⟩
          · go_ret
            exact ⟨retb (inBody_hit _ _ k hlt (by rw [HY.out]; exact HQ.out)).symm, HB0.out.trans (blw_drewN (BW.out.below.mono hsz0) _)⟩
        · have hlt' : ¬ (k : Int) < (body.length : Int) := by omega
          go_wp2
          go_ret
          exact ⟨retb (inBody_miss _ _ (fun j hj => H.out j (by omega))).symm, HB0.out.trans (BW.out.below.mono hsz0)⟩
    · have c2' : (x0 == 2) = false := beq_eq_false_iff_ne.2 c2
      rw [if_neg c2]
      clear c2 hr' hbs
      by_cases c3 : x0 = 3
      · have c3' : (x0 == 3) = true := beq_iff_eq.2 c3
        rw [if_pos c3]
        clear c3
        generalize nul u.data.toList d.data.toList = q0 at hn
        go_enter Tryd.func117, Tryd.ntmps117
        go_wp2_with (go_at_call 68; refine (hn _).mono ?_; rintro e w1 ⟨rfl, hb1⟩)
        go_ret
        exact ⟨retb rfl, B0.trans (hb1.mono (by simp; omega))⟩
      · have c3' : (x0 == 3) = false := beq_eq_false_iff_ne.2 c3
        rw [if_neg c3]
        clear c3 hn
        go_enter Tryd.func117, Tryd.ntmps117
        go_wp2
        go_ret
        exact ⟨retb rfl, B0⟩


theorem blw_drew0 {B : Nat} {a W : World} (h : Below B a W) : Below B a W.drew := ⟨h.os, h.tape, h.output, h.size, h.block⟩
set_option maxRecDepth 100000 in
set_option maxHeartbeats 1000000 in
theorem l13Rule_any (A : Option Addr) (c : Nat) (xs : List SRule) (u d : ByteArray) (A' : Option Addr) (c' : Nat) (body : List ByteArray) (w : World) (hr : Kd.C kRule w A xs.length xs) (hl : xs.length ≤ 4611686018427387904) (hx : ∀ x ∈ xs, RFit x) (hd : d.size < 4294967281) (hr' : Kd.C Kd.string w A' body.length body) (hb : BodyFit body) :
    Calls Tryd.prog 76 #[.slice A xs.length c, .agg #[.string u, .string d], .slice A' body.length c'] w fun e w' => e = .returned (.int .i64 (idx (asksS u.data.toList d.data.toList body) xs)) ∧ Below w.heap.size w w' := by
  have hcall := fun W (hW : Below w.heap.size w W) x hxm => l13Asks_any x u d A' c' body W (hx x hxm) hd (Kd.C_below hr' hW) hb
  clear hr' hb hx hd
  generalize asksS u.data.toList d.data.toList body = p at hcall
  go_enter Tryd.func76, Tryd.ntmps76
  go_wp2
  obtain ⟨W0, hW0⟩ : ∃ W0, W0 = w.alloc (.cells #[.string u, .string d] 33) := ⟨_, rfl⟩
  rw [← hW0]
  have B0 : Below w.heap.size w W0 := by rw [hW0]; exact (Below.refl _ _).alloc (Nat.le_refl _) _
  have Z0 : w.heap.size < W0.heap.size := by rw [hW0]; simp
  have c0 : W0.cell? ⟨w.heap.size, 0, none⟩ = some (.string u) := by rw [hW0]; simp
  have c1 : W0.cell? ⟨w.heap.size, 1, none⟩ = some (.string d) := by rw [hW0]; simp
  have HC : Aside0 (∀ W, Below W0.heap.size W0 W → W.cell? ⟨w.heap.size, 0, none⟩ = some (.string u) ∧ W.cell? ⟨w.heap.size, 1, none⟩ = some (.string d)) :=
    ⟨fun W h => ⟨(h.cell (p := ⟨w.heap.size, 0, none⟩) Z0).trans c0, (h.cell (p := ⟨w.heap.size, 1, none⟩) Z0).trans c1⟩⟩
  have HB0 := Aside0.mk B0
  have hsz := B0.size
  clear hW0 c0 c1 B0
  go_loopg [7] (xs.length) (fun g v wr => ∃ k : Nat, k ≤ xs.length ∧ xs.length - k ≤ g ∧ v = .int .i64 k ∧ Aside0 (Below W0.heap.size W0 wr) ∧ Aside0 (∀ j, j < k → p (xs.getD j zRule) = false))
  case atStart => exact ⟨0, Nat.zero_le _, by omega, rfl, ⟨Below.refl _ _⟩, ⟨fun j hj => absurd hj (Nat.not_lt_zero _)⟩⟩
  case round =>
    obtain ⟨k, hk, hg, rfl, BW, H⟩ := hrel
    by_cases hlt : k < xs.length
    · have hlt' : (k : Int) < (xs.length : Int) := by omega
      have hBw := HB0.out.trans (BW.out.mono hsz)
      have BD : Aside0 (Below W0.heap.size W0 wr.drew) := ⟨blw_drew0 BW.out⟩
      have hBd := HB0.out.trans (BD.out.mono hsz)
      obtain ⟨ad, e1, h0, h1, h2, h3, h4⟩ := at_Rule (Kd.C_below hr hBw) k hlt
      obtain ⟨ad', e2, g0, g1, g2, g3, g4⟩ := at_Rule (Kd.C_below hr hBd) k hlt
      obtain rfl : ad = ad' := by rw [e1] at e2; injection e2
      subst e1
      obtain ⟨c0, c1⟩ := HC.out _ BW.out
      obtain ⟨d0, d1⟩ := HC.out _ BD.out
      have hm : xs.getD k zRule ∈ xs := by rw [List.getD, List.getElem?_eq_getElem hlt]; exact List.getElem_mem hlt
      generalize hy : xs.getD k zRule = y at h0 h1 h2 h3 h4 g0 g1 g2 g3 g4 hm
      have hc := fun W hW => hcall W hW y hm
      have HY := Lib.hid hy
      have HHC := Lib.hid hcall
      clear hy hm hcall
      cases hq : p y
      all_goals
        rw [hq] at hc
        have HQ := Lib.hid hq
        clear hq
        go_wp2
        go_still_tail 6, (by kernel_rfl)
        change wpList _ _ _ _ _ wr.drew
        generalize wr.drew = wd at BD hBd d0 d1 g0 g1 g2 g3 g4
        clear BW hBw c0 c1
        go_wp2_with (go_at_call 117; refine (hc _ hBd).mono ?_; rintro e w1 ⟨rfl, hb1⟩; have B1 : Aside0 (Below W0.heap.size W0 w1) := ⟨BD.out.trans (hb1.mono BD.out.size)⟩; clear hb1)
      · go_roundg (xs.length - (k + 1))
        case measure => omega
        case rel => exact ⟨k + 1, by omega, Nat.le_refl _, rfl, B1, ⟨fun j hj => by
          by_cases e : j = k
          · subst e; rw [HY.out]; exact HQ.out
          · exact H.out j (by omega)⟩⟩
      · go_ret
        refine ⟨?_, HB0.out.trans (B1.out.mono hsz)⟩
        rw [idx_hit p xs zRule k hlt (by rw [HY.out]; exact HQ.out) H.out]
        rfl
    · have hlt' : ¬ (k : Int) < (xs.length : Int) := by omega
      go_wp2
      go_ret
      refine ⟨?_, HB0.out.trans (BW.out.mono hsz)⟩
      rw [idx_miss p xs zRule (fun j hj => H.out j (by omega))]
      rfl

end Go.Proofs.YtmfehmbgghfffaaDoor
