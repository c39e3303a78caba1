/- The reference's words on bodies and mails: contracts, walked by hand. -/
import Derived.Test.YtomcaichidepnaaDoorFor
import Derived.Test.YtomcaichidepnaaDoorPure2
import Derived.Test.YtomcaichidepnaaDoorPx1
namespace Go.Proofs.YtomcaichidepnaaDoor
open Go.RowKit Go.Proofs.YtomcaichidepnaaDoorW.PrintWords P
set_option linter.unusedVariables false
set_option linter.unusedSimpArgs false

theorem specLine_any (s : ByteArray) (w : World) (hs : s.size < 9223372036854775807) :
    Calls Tryd.prog 69 #[.string s] w fun e w' => e = .returned (.bool (line s.data.toList)) ∧ Drawn0 w w' := by
  obtain ⟨k, hk⟩ := (lineOk_ev s hs).rounds
  exact spec_l2LineOk.calls k s _ w hk
theorem specAddr_any (u d : ByteArray) (w : World) (hu : u.size < 9223372036854775807) (hd : d.size < 9223372036854775807) :
    Calls Tryd.prog 71 #[.agg #[.string u, .string d]] w fun e w' => e = .returned (.bool (addr u.data.toList d.data.toList)) ∧ Below w.heap.size w w' := by
  obtain ⟨k, hk⟩ := (addrOk_ev u d hu hd).rounds
  exact spec_l1AddrOk.calls k u d _ w hk
theorem specNull_any (u d : ByteArray) (w : World) :
    Calls Tryd.prog 72 #[.agg #[.string u, .string d]] w fun e w' => e = .returned (.bool (nul u.data.toList d.data.toList)) ∧ Below w.heap.size w w' :=
  spec_l1Null.calls u d _ w (null_is u d)
theorem specIn_any (a b c : Int) (w : World) :
    Calls Tryd.prog 68 #[.int .i64 a, .int .i64 b, .int .i64 c] w fun e w' => e = .returned (.bool (decide (b ≤ a ∧ a ≤ c))) ∧ Drawn0 w w' :=
  spec_l1In.calls a b c _ w (l1In_is a b c)

theorem all_upto {α : Type} (p : α → Bool) (xs : List α) (d : α) (h : ∀ j, j < xs.length → p (xs.getD j d) = true) : xs.all p = true := by
  rw [List.all_eq_true]
  intro x hx
  obtain ⟨j, hj, rfl⟩ := List.getElem_of_mem hx
  have := h j hj
  rwa [List.getD, List.getElem?_eq_getElem hj] at this
theorem all_not {α : Type} (p : α → Bool) (xs : List α) (d : α) (k : Nat) (hk : k < xs.length) (h : p (xs.getD k d) = false) : xs.all p = false := by
  rw [List.all_eq_false]
  exact ⟨xs.getD k d, by rw [List.getD, List.getElem?_eq_getElem hk]; exact List.getElem_mem hk, by rw [h]; decide⟩

set_option maxRecDepth 100000 in
theorem specBody_any (A : Option Addr) (c : Nat) (xs : List ByteArray) (w : World) (hr : Kd.C Kd.string w A xs.length xs) (hb : BodyFit xs) :
    Calls Tryd.prog 87 #[.slice A xs.length c] w fun e w' => e = .returned (.bool (bodyOk xs)) ∧ Below w.heap.size w w' := by
  obtain ⟨hlen, hx⟩ := hb
  have HX := Lib.hid hx
  clear hx
  go_enter Tryd.func87, Tryd.ntmps87
  go_wp2
  go_loopg [3] (xs.length) (fun g v wr => ∃ k : Nat, k ≤ xs.length ∧ xs.length - k ≤ g ∧ v = .int .i64 k ∧ Aside0 (Below w.heap.size w wr) ∧ Aside0 (∀ j, j < k → line (xs.getD j ByteArray.empty).data.toList = true))
  case atStart => exact ⟨0, Nat.zero_le _, by omega, rfl, ⟨Below.refl _ _⟩, ⟨fun j hj => absurd hj (Nat.not_lt_zero _)⟩⟩
  case round =>
    obtain ⟨k, hk, hg, rfl, BW, H⟩ := hrel
    by_cases hlt : k < xs.length
    · have hlt' : (k : Int) < (xs.length : Int) := by omega
      obtain ⟨ad, e1, h0⟩ := Kd.at_string (Kd.C_below hr BW.out) (k : Int) (by omega) (by omega)
      subst e1
      rw [Int.toNat_natCast] at h0
      have hm := HX.out (xs.getD k ByteArray.empty) (by rw [List.getD, List.getElem?_eq_getElem hlt]; exact List.getElem_mem hlt)
      have hy : xs.getD k ByteArray.empty = rdOf ByteArray.empty xs (k : Int) := rfl
      rw [hy] at hm
      generalize rdOf ByteArray.empty xs (k : Int) = y at h0 hm hy
      have hcall := fun W => specLine_any y W (by omega)
      have HY := Lib.hid hy
      clear hy hm hr
      cases hq : line y.data.toList
      all_goals
        rw [hq] at hcall
        have HQ := Lib.hid hq
        clear hq
        go_wp2_with (go_at_call 69; refine (hcall _).mono ?_; rintro e w' ⟨rfl, hb'⟩)
      · go_ret
        refine ⟨retb ?_, BW.out.trans (hb'.below.mono BW.out.size)⟩
        unfold bodyOk
        rw [all_not _ xs ByteArray.empty k hlt (by rw [HY.out]; exact HQ.out), Bool.and_false]
      · go_roundg (xs.length - (k + 1))
        case measure => omega
        case rel => exact ⟨k + 1, by omega, Nat.le_refl _, rfl, ⟨BW.out.trans (hb'.below.mono BW.out.size)⟩, ⟨fun j hj => by
          by_cases e : j = k
          · subst e; rw [HY.out]; exact HQ.out
          · exact H.out j (by omega)⟩⟩
    · have hlt' : ¬ (k : Int) < (xs.length : Int) := by omega
      go_wp2
      go_ret
      refine ⟨retb ?_, BW.out⟩
      unfold bodyOk
      rw [all_upto _ xs ByteArray.empty (fun j hj => H.out j (by omega)), Bool.and_true]
      first | rfl | exact decide_eq_decide.2 (by omega)
theorem blw_drewN {B : Nat} {a W : World} (h : Below B a W) (n : Nat) : Below B a (W.drewN n) := ⟨h.os, h.tape, h.output, h.size, h.block⟩
theorem nodup_at {α : Type} (xs : List α) (d : α) (h : ∀ a b, a < b → b < xs.length → xs.getD a d ≠ xs.getD b d) : xs.Nodup := by
  refine List.pairwise_iff_getElem.2 fun a b ha hb hab => ?_
  have := h a b hab hb
  rwa [List.getD, List.getD, List.getElem?_eq_getElem ha, List.getElem?_eq_getElem hb] at this
theorem not_nodup {α : Type} (xs : List α) (d : α) (a b : Nat) (hab : a < b) (hb : b < xs.length) (h : xs.getD a d = xs.getD b d) : ¬ xs.Nodup := by
  intro hn
  have := List.pairwise_iff_getElem.1 hn a b (by omega) hb hab
  rw [List.getD, List.getD, List.getElem?_eq_getElem (show a < xs.length by omega), List.getElem?_eq_getElem hb] at h
  exact this h
theorem addr_eq (y z : S33) : ((y.f0.toList == z.f0.toList) && (y.f1.toList == z.f1.toList)) = decide (y = z) := by
  obtain ⟨y0, y1⟩ := y
  obtain ⟨z0, z1⟩ := z
  rw [bl, bl, bl, bl, Bool.eq_iff_iff, Bool.and_eq_true, beq_iff_eq, beq_iff_eq, decide_eq_true_iff]
  constructor
  · rintro ⟨h1, h2⟩
    have e : ∀ {a b : ByteArray}, a.data.toList = b.data.toList → a = b := by
      intro a b h
      cases a; cases b
      simp at h
      rw [h]
    obtain rfl := e h1
    obtain rfl := e h2
    rfl
  · intro h
    cases h
    exact ⟨rfl, rfl⟩

attribute [local go_sem high] eqA33
set_option maxRecDepth 100000 in
set_option maxHeartbeats 4000000 in
theorem specMailOk_any (u d : ByteArray) (A : Option Addr) (c : Nat) (tos : List S33) (A' : Option Addr) (c' : Nat) (body : List ByteArray) (w : World) (hu : u.size < 4294967281) (hd : d.size < 4294967281)
    (hr : Kd.C k33 w A tos.length tos) (ht : ToFit tos) (hr' : Kd.C Kd.string w A' body.length body) (hb : BodyFit body) :
    Calls Tryd.prog 48 #[.agg #[.string u, .string d, .slice A tos.length c, .slice A' body.length c']] w fun e w' => e = .returned (.bool (mailOk u.data.toList d.data.toList tos body)) ∧ Below w.heap.size w w' := by
  obtain ⟨hlen, hx⟩ := ht
  have HX := Lib.hid hx
  have hbody := fun W (hW : Below w.heap.size w W) => specBody_any A' c' body W (Kd.C_below hr' hW) hb
  have hfrom := fun W => specAddr_any u d W (by omega) (by omega)
  have hnul := fun W => specNull_any u d W
  have hin := fun W => specIn_any (tos.length : Int) 1 4 W
  have HM := Lib.hid (show mailOk u.data.toList d.data.toList tos body = ((nul u.data.toList d.data.toList || addr u.data.toList d.data.toList) && (decide (1 ≤ (tos.length : Int) ∧ (tos.length : Int) ≤ 4) && (tos.all addrS && (decide tos.Nodup && bodyOk body)))) by unfold mailOk; rw [Bool.decide_and])
  clear hx hr' hb
  generalize mailOk u.data.toList d.data.toList tos body = M at HM
  generalize nul u.data.toList d.data.toList = q0 at HM hnul
  generalize addr u.data.toList d.data.toList = q1 at HM hfrom
  generalize decide (1 ≤ (tos.length : Int) ∧ (tos.length : Int) ≤ 4) = q2 at HM hin
  generalize bodyOk body = q3 at HM hbody
  have hu := Tryd.underlying33
  go_enter Tryd.func48, Tryd.ntmps48
  go_wp2
  obtain ⟨W0, hW0⟩ : ∃ W0, W0 = w.alloc (.cells #[.string u, .string d, .slice A tos.length c, .slice A' body.length c'] 37) := ⟨_, rfl⟩
  rw [← hW0]
  have B0 : Below w.heap.size w W0 := by rw [hW0]; exact (Below.refl _ _).alloc (Nat.le_refl _) _
  have Z0 : w.heap.size < W0.heap.size := by rw [hW0]; simp
  have c0 : W0.cell? ⟨w.heap.size, 0, none⟩ = some (.string u) := by rw [hW0]; simp
  have c1 : W0.cell? ⟨w.heap.size, 1, none⟩ = some (.string d) := by rw [hW0]; simp
  have c2 : W0.cell? ⟨w.heap.size, 2, none⟩ = some (.slice A tos.length c) := by rw [hW0]; simp
  have c3 : W0.cell? ⟨w.heap.size, 3, none⟩ = some (.slice A' body.length c') := by rw [hW0]; simp
  have HC : Aside0 (∀ W, Below W0.heap.size W0 W → W.cell? ⟨w.heap.size, 0, none⟩ = some (.string u) ∧ W.cell? ⟨w.heap.size, 1, none⟩ = some (.string d) ∧ W.cell? ⟨w.heap.size, 2, none⟩ = some (.slice A tos.length c) ∧ W.cell? ⟨w.heap.size, 3, none⟩ = some (.slice A' body.length c')) :=
    ⟨fun W h => ⟨(h.cell (p := ⟨w.heap.size, 0, none⟩) Z0).trans c0, (h.cell (p := ⟨w.heap.size, 1, none⟩) Z0).trans c1, (h.cell (p := ⟨w.heap.size, 2, none⟩) Z0).trans c2, (h.cell (p := ⟨w.heap.size, 3, none⟩) Z0).trans c3⟩⟩
  clear hW0 c0 c1 c2 c3
  have HB0 := Aside0.mk B0
  have hsz := B0.size
  clear B0
  go_loopg [3, 4] (tos.length) (fun g v3 _ wr => ∃ i : Nat, i ≤ tos.length ∧ tos.length - i ≤ g ∧ v3 = .int .i64 i ∧ Aside0 (Below W0.heap.size W0 wr) ∧ Aside0 (∀ j, j < i → addrS (tos.getD j z33) = true) ∧ Aside0 (∀ a b, a < b → b < i → tos.getD a z33 ≠ tos.getD b z33))
  case atStart => exact ⟨0, Nat.zero_le _, by omega, rfl, ⟨Below.refl _ _⟩, ⟨fun j hj => absurd hj (Nat.not_lt_zero _)⟩, ⟨fun a b _ hj => absurd hj (Nat.not_lt_zero _)⟩⟩
  case round =>
    obtain ⟨i, hi, hg, rfl, BW, H, HD⟩ := hrel
    obtain ⟨c0, c1, c2, c3⟩ := HC.out _ BW.out
    by_cases hlt : i < tos.length
    · have hlt' : (i : Int) < (tos.length : Int) := by omega
      have hr2 := Kd.C_below hr (HB0.out.trans (BW.out.mono hsz))
      obtain ⟨ad, e1, h0, h1⟩ := at_T33 hr2 (i : Int) (by omega) (by omega)
      subst e1
      rw [Int.toNat_natCast] at h0 h1
      have hm := HX.out (tos.getD i z33) (by rw [List.getD, List.getElem?_eq_getElem hlt]; exact List.getElem_mem hlt)
      have hy : tos.getD i z33 = rd_T33 tos (i : Int) := rfl
      rw [hy] at hm
      generalize rd_T33 tos (i : Int) = y at h0 h1 hm hy
      have hcall := fun W => specAddr_any y.f0 y.f1 W (by have := hm.1; omega) (by have := hm.2; omega)
      change ∀ W, Calls _ _ _ _ (fun e w' => e = .returned (.bool (addrS y)) ∧ Below W.heap.size W w') at hcall
      have HY := Lib.hid hy
      have HR := Lib.hid hr
      clear hy hm hr hr2
      cases hq : addrS y
      · rw [hq] at hcall
        have HQ := Lib.hid hq
        clear hq
        go_wp2_with (go_at_call 71; refine (hcall _).mono ?_; rintro e w1 ⟨rfl, hb1⟩)
        go_ret
        refine ⟨retb ?_, HB0.out.trans ((BW.out.trans (hb1.mono BW.out.size)).mono hsz)⟩
        rw [HM.out, all_not _ tos z33 i hlt (by rw [HY.out]; exact HQ.out)]
        simp
      · rw [hq] at hcall
        have HQ := Lib.hid hq
        clear hq
        go_wp2_with (go_at_call 71; refine (hcall _).mono ?_; rintro e w1 ⟨rfl, hb1⟩; have B1 : Aside0 (Below W0.heap.size W0 w1) := ⟨BW.out.trans (hb1.mono BW.out.size)⟩; clear hb1)
        clear c0 c1 c2 c3
        go_loopg [4] i (fun g v4 wr => ∃ k : Nat, k ≤ i ∧ i - k ≤ g ∧ v4 = .int .i64 k ∧ Aside0 (Below W0.heap.size W0 wr) ∧ Aside0 (∀ j, j < k → tos.getD j z33 ≠ y))
        case atStart => exact ⟨0, Nat.zero_le _, by omega, rfl, B1, ⟨fun j hj => absurd hj (Nat.not_lt_zero _)⟩⟩
        case round =>
          clear BW B1 h0 h1
          obtain ⟨k, hk, hgk, rfl, BW, HK⟩ := hrel
          obtain ⟨c0, c1, c2, c3⟩ := HC.out _ BW.out
          by_cases hlk : k < i
          · have hlk' : (k : Int) < (i : Int) := by omega
            have hlk2 : (k : Int) < (tos.length : Int) := by omega
            have hr2 := Kd.C_below HR.out (HB0.out.trans (BW.out.mono hsz))
            obtain ⟨ad1, e1, h0, h1⟩ := at_T33 hr2 (i : Int) (by omega) (by omega)
            obtain rfl : ad = ad1 := by injection e1
            obtain ⟨ad2, e2, g0, g1⟩ := at_T33 hr2 (k : Int) (by omega) (by omega)
            obtain rfl : ad = ad2 := by injection e2
            rw [Int.toNat_natCast] at h0 h1 g0 g1
            have hy1 : rd_T33 tos (i : Int) = y := HY.out
            rw [hy1] at h0 h1
            have hz : tos.getD k z33 = rd_T33 tos (k : Int) := rfl
            generalize rd_T33 tos (k : Int) = z at g0 g1 hz
            have heq := addr_eq z y
            have HZ := Lib.hid hz
            clear hz hy1 hr2 e1 e2
            by_cases hzy : z = y
            · rw [decide_eq_true hzy] at heq
              have HZY := Lib.hid hzy
              clear hzy
              go_wp2
              repeat (go_quiet (fail); try go_wp2)
              go_ret
              refine ⟨retb ?_, HB0.out.trans (blw_drewN (BW.out.mono hsz) _)⟩
              rw [HM.out, decide_eq_false (not_nodup tos z33 k i hlk hlt (by rw [HZ.out, HY.out]; exact HZY.out))]
              simp
            · rw [decide_eq_false hzy] at heq
              have HZY := Lib.hid hzy
              clear hzy
              go_wp2
              repeat (go_quiet (fail); try go_wp2)
              go_roundg (i - (k + 1))
              case measure => omega
              case rel => exact ⟨k + 1, by omega, Nat.le_refl _, rfl, ⟨blw_drewN BW.out _⟩, ⟨fun j hj => by
                by_cases e : j = k
                · subst e; rw [HZ.out]; exact HZY.out
                · exact HK.out j (by omega)⟩⟩
          · have hlk' : ¬ (k : Int) < (i : Int) := by omega
            go_wp2
            go_roundg (tos.length - (i + 1))
            case measure => omega
            case rel => exact ⟨i + 1, by omega, Nat.le_refl _, rfl, BW, ⟨fun j hj => by
              by_cases e : j = i
              · subst e; rw [HY.out]; exact HQ.out
              · exact H.out j (by omega)⟩, ⟨fun a b hab hb => by
              by_cases e : b = i
              · subst e; rw [HY.out]; exact HK.out a (by omega)
              · exact HD.out a b hab (by omega)⟩⟩
    · have hlt' : ¬ (i : Int) < (tos.length : Int) := by omega
      have hall : tos.all addrS = true := all_upto _ tos z33 (fun j hj => H.out j (by omega))
      have hnd : tos.Nodup := nodup_at tos z33 (fun a b hab hb => HD.out a b hab (by omega))
      have HMM := Lib.hid (show M = ((q0 || q1) && (q2 && q3)) by rw [HM.out, hall, decide_eq_true hnd]; simp)
      clear hall hnd
      cases q1
      · cases q0
        · go_wp2_with (first | (go_at_call 71; refine (hfrom _).mono ?_; rintro e w1 ⟨rfl, hb1⟩; have B1 := BW.out.trans (hb1.mono BW.out.size); obtain ⟨d0, d1, d2, d3⟩ := HC.out _ B1; clear hb1) | (go_at_call 72; refine (hnul _).mono ?_; rintro e w2 ⟨rfl, hb2⟩; have B2 := B1.trans (hb2.mono B1.size); obtain ⟨e0, e1, e2, e3⟩ := HC.out _ B2; clear hb2 d0 d1 d2 d3))
          go_ret
          exact ⟨retb (by rw [HMM.out]; rfl), HB0.out.trans (B2.mono hsz)⟩
        · cases q2
          · go_wp2_with (first | (go_at_call 71; refine (hfrom _).mono ?_; rintro e w1 ⟨rfl, hb1⟩; have B1 := BW.out.trans (hb1.mono BW.out.size); obtain ⟨d0, d1, d2, d3⟩ := HC.out _ B1; clear hb1) | (go_at_call 72; refine (hnul _).mono ?_; rintro e w2 ⟨rfl, hb2⟩; have B2 := B1.trans (hb2.mono B1.size); obtain ⟨e0, e1, e2, e3⟩ := HC.out _ B2; clear hb2 d0 d1 d2 d3) | (go_at_call 68; refine (hin _).mono ?_; rintro e w3 ⟨rfl, hb3⟩; have B3 := B2.trans (hb3.below.mono B2.size); obtain ⟨f0, f1, f2, f3⟩ := HC.out _ B3; clear hb3))
            go_ret
            exact ⟨retb (by rw [HMM.out]; rfl), HB0.out.trans (B3.mono hsz)⟩
          · go_wp2_with (first | (go_at_call 71; refine (hfrom _).mono ?_; rintro e w1 ⟨rfl, hb1⟩; have B1 := BW.out.trans (hb1.mono BW.out.size); obtain ⟨d0, d1, d2, d3⟩ := HC.out _ B1; clear hb1) | (go_at_call 72; refine (hnul _).mono ?_; rintro e w2 ⟨rfl, hb2⟩; have B2 := B1.trans (hb2.mono B1.size); obtain ⟨e0, e1, e2, e3⟩ := HC.out _ B2; clear hb2 d0 d1 d2 d3) | (go_at_call 68; refine (hin _).mono ?_; rintro e w3 ⟨rfl, hb3⟩; have B3 := B2.trans (hb3.below.mono B2.size); obtain ⟨f0, f1, f2, f3⟩ := HC.out _ B3; clear hb3) | (go_at_call 87; refine (hbody _ (HB0.out.trans (B3.mono hsz))).mono ?_; rintro e w4 ⟨rfl, hb4⟩; have B4 := B3.trans (hb4.mono B3.size)))
            go_ret
            exact ⟨retb (by rw [HMM.out]; rfl), HB0.out.trans (B4.mono hsz)⟩
      · have HM2 := Lib.hid (show M = (q2 && q3) by rw [HMM.out]; cases q0 <;> rfl)
        clear HMM
        cases q2
        · go_wp2_with (first | (go_at_call 71; refine (hfrom _).mono ?_; rintro e w1 ⟨rfl, hb1⟩; have B1 := BW.out.trans (hb1.mono BW.out.size); obtain ⟨d0, d1, d2, d3⟩ := HC.out _ B1; clear hb1) | (go_at_call 68; refine (hin _).mono ?_; rintro e w3 ⟨rfl, hb3⟩; have B3 := B1.trans (hb3.below.mono B1.size); obtain ⟨f0, f1, f2, f3⟩ := HC.out _ B3; clear hb3))
          go_ret
          exact ⟨retb (by rw [HM2.out]; rfl), HB0.out.trans (B3.mono hsz)⟩
        · go_wp2_with (first | (go_at_call 71; refine (hfrom _).mono ?_; rintro e w1 ⟨rfl, hb1⟩; have B1 := BW.out.trans (hb1.mono BW.out.size); obtain ⟨d0, d1, d2, d3⟩ := HC.out _ B1; clear hb1) | (go_at_call 68; refine (hin _).mono ?_; rintro e w3 ⟨rfl, hb3⟩; have B3 := B1.trans (hb3.below.mono B1.size); obtain ⟨f0, f1, f2, f3⟩ := HC.out _ B3; clear hb3) | (go_at_call 87; refine (hbody _ (HB0.out.trans (B3.mono hsz))).mono ?_; rintro e w4 ⟨rfl, hb4⟩; have B4 := B3.trans (hb4.mono B3.size)))
          go_ret
          exact ⟨retb (by rw [HM2.out]; rfl), HB0.out.trans (B4.mono hsz)⟩
end Go.Proofs.YtomcaichidepnaaDoor
