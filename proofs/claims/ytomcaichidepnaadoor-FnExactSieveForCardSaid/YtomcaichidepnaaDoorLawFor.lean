/- The law on SieveFor, walked. -/
import Derived.Test.YtomcaichidepnaaDoorEqMail
import Derived.Test.YtomcaichidepnaaDoorSpecFor2
import Derived.Test.YtomcaichidepnaaDoorLawSieveOk
namespace Go.Proofs.YtomcaichidepnaaDoor
open Go.RowKit Go.Proofs.YtomcaichidepnaaDoorW.PrintWords P
set_option linter.unusedVariables false
set_option linter.unusedSimpArgs false

/-- What the drawn regions of the law know. -/
structure ForI (W0 : World) (v20 v22 : Value) (ys : List S57) (u d : ByteArray) (ts : List S33) (body : List ByteArray) (q : Int) (D : Nat → Bool) (x : Nat → Value) (W : World) : Prop where
  below : Below W0.heap.size W0 W
  f0 : D 0 = true → x 20 = v20
  f1 : D 1 = true → ∃ A' c', x 21 = .slice A' ys.length c' ∧ ys.length ≤ c' ∧ Kd.C k57 W A' ys.length ys
  f2 : D 2 = true → x 22 = v22
  f3 : D 3 = true → ∃ A1' c1' A2' c2', x 23 = .agg #[.string u, .string d, .slice A1' ts.length c1', .slice A2' body.length c2'] ∧ Kd.C k33 W A1' ts.length ts ∧ Kd.C Kd.string W A2' body.length body
  f4 : D 4 = true → x 24 = .int .i64 q
  f5 : D 5 = true → x 6 = .int .i64 q
structure EqI (W0 : World) (v40 v41 : Value) (u d : ByteArray) (ts : List S33) (body : List ByteArray) (D : Nat → Bool) (x : Nat → Value) (W : World) : Prop where
  below : Below W0.heap.size W0 W
  f0 : D 0 = true → x 40 = v40
  f1 : D 1 = true → x 41 = v41
  f2 : D 2 = true → ∃ A1' c1' A2' c2', x 42 = .agg #[.string u, .string d, .slice A1' ts.length c1', .slice A2' body.length c2'] ∧ Kd.C k33 W A1' ts.length ts ∧ Kd.C Kd.string W A2' body.length body
  f3 : D 3 = true → x 43 = .bool true
  f4 : D 4 = true → x 44 = .bool false

set_option maxRecDepth 100000 in
set_option maxHeartbeats 4000000 in
theorem walkFor (A : Option Addr) (c : Nat) (xs : List S61) (u d : ByteArray) (A1 : Option Addr) (c1 : Nat) (tos : List S48) (A2 : Option Addr) (c2 : Nat) (body : List ByteArray) (w : World)
    (hr : Kd.C k61 w A xs.length xs) (hc : xs.length ≤ c) (hl : Wide xs.length) (hw : ∀ x ∈ xs, wideR x) (hwf : ∀ x ∈ xs, wfR x)
    (hr1 : Kd.C k48 w A1 tos.length tos) (hc1 : tos.length ≤ c1) (hr2 : Kd.C Kd.string w A2 body.length body) (hc2 : body.length ≤ c2) (hwm : WideMail u d tos body) (hG : Glob w) :
    Calls Tryd.prog 7 #[.slice A xs.length c, .agg #[.string u, .string d, .slice A1 tos.length c1, .slice A2 body.length c2]] w fun e w' => e = .returned (.bool true) ∧ Below w.heap.size w w' := by
  obtain ⟨W0, hW0⟩ : ∃ W0, W0 = w.alloc (.cells #[.string u, .string d, .slice A1 tos.length c1, .slice A2 body.length c2] 51) := ⟨_, rfl⟩
  have B0 : Below w.heap.size w W0 := by rw [hW0]; exact (Below.refl _ _).alloc (Nat.le_refl _) _
  have Z0 : w.heap.size < W0.heap.size := by rw [hW0]; simp
  have X0 : cellsIn W0 w.heap.size u d (.slice A1 tos.length c1) (.slice A2 body.length c2) := by unfold cellsIn; rw [hW0]; simp
  have hr' := Kd.C_below hr B0
  have hr1' := Kd.C_below hr1 B0
  have hr2' := Kd.C_below hr2 B0
  have hG' := hG.below B0
  obtain ⟨r, hr1le, hs, hsz⟩ := szRuleS_any2 A c xs W0 hr' hc hl hw
  by_cases h0 : r < 0
  · clear hs hr hw hwf hr1 hr2 hwm
    go_enter Tryd.func7, Tryd.ntmps7
    go_wp2_with (go_at_call 9; fail)
    rw [← hW0]
    refine hsz.mono ?_
    rintro e w1 ⟨rfl, hb1⟩
    go_wp2
    go_ret
    exact ⟨rfl, B0.trans (hb1.mono B0.size)⟩
  · obtain ⟨hl', hsm⟩ := hs (by omega)
    clear hs
    have hszm := fun W (hW : Below W0.heap.size W0 W) => szMail_any u d A1 c1 tos A2 c2 body r W (by omega) hr1le (Kd.C_below hr1' hW) hc1 (Kd.C_below hr2' hW) hc2 hwm
    have hfit : ∀ x ∈ xs.map convR, RFit x := by
      intro x hx
      obtain ⟨y, hy, rfl⟩ := List.mem_map.1 hx
      obtain ⟨a1, a2, a3⟩ := hsm y hy
      have b1 : y.f1.size ≤ 1048576 := a1
      have b2 : y.f3.f0.size ≤ 1048576 := a2
      have b3 : y.f3.f1.size ≤ 1048576 := a3
      exact ⟨(hwf y hy).1, (hwf y hy).2, show y.f1.size < _ by omega, show y.f3.f0.size < _ by omega, show y.f3.f1.size < _ by omega⟩
    have hl2 : Small (xs.map convR).length := by rw [List.length_map]; exact hl'
    have hto := fun W hW => toRuleS_any A c xs W hW hc hl'
    generalize xs.map convR = ys at hfit hl2 hto
    have hl3 : ys.length ≤ 1048576 := hl2
    clear hw hwf hsm
    have HR := Lib.hid hr'
    clear hr hr1 hr2 hr'
    go_enter Tryd.func7, Tryd.ntmps7
    go_wp2_with (go_at_call 9; fail)
    rw [← hW0]
    clear hW0
    refine hsz.mono ?_
    rintro e w1 ⟨rfl, B1⟩
    clear hsz
    have X1 := X0.below B1 Z0
    have Z1 := Nat.lt_of_lt_of_le Z0 B1.size
    obtain ⟨r2, hsm, hszm⟩ := hszm w1 B1
    obtain ⟨e0, e1, e2, e3⟩ := X1
    by_cases h2 : r2 < 0
    · go_wp2_with (go_at_call 26; fail)
      refine hszm.mono ?_
      rintro e w2 ⟨rfl, hb2⟩
      go_wp2
      go_ret
      exact ⟨rfl, B0.trans ((B1.trans (hb2.mono B1.size)).mono B0.size)⟩
    · obtain ⟨⟨su, sd⟩, ⟨sl, sx⟩, sb, sbx⟩ := hsm (by omega)
      have su' : u.size ≤ 1048576 := su
      have sd' : d.size ≤ 1048576 := sd
      have sl' : tos.length ≤ 1048576 := sl
      have sb' : body.length ≤ 1048576 := sb
      have hbf : BodyFit body := ⟨by omega, fun x hx => by have : x.size ≤ 1048576 := sbx x hx; omega⟩
      have htf : ToFit (tos.map convA) := ⟨by rw [List.length_map]; omega, fun x hx => by
        obtain ⟨y, hy, rfl⟩ := List.mem_map.1 hx
        obtain ⟨a1, a2⟩ := sx y hy
        have b1 : y.f0.size ≤ 1048576 := a1
        have b2 : y.f1.size ≤ 1048576 := a2
        exact ⟨show y.f0.size < _ by omega, show y.f1.size < _ by omega⟩⟩
      have htm := fun W (hW : Below W0.heap.size W0 W) => toMail_any u d A1 c1 tos A2 c2 body W (Kd.C_below hr1' hW) hc1 (Kd.C_below hr2' hW) hc2 sl sb
      have htl : (tos.map convA).length ≤ 1048576 := by rw [List.length_map]; exact sl'
      generalize tos.map convA = ts at htf htm htl
      have hspec := fun A0 c0 A c A' c' W h0 hc0 h1 h2 => specFor_any A0 c0 ys u d A c ts A' c' body W h0 hc0 (by omega) hfit (by omega) (by omega) h1 htf h2 hbf
      have himpl := fun A0 c0 A c A' c' W h0 h1 h2 hG => SieveFor_any A0 c0 ys u d A c ts A' c' body W h0 (by omega) hfit (by omega) (by omega) h1 htf h2 hbf hG
      rw [for_same] at hspec
      generalize sieveFor ys u.data.toList d.data.toList ts body = q at hspec himpl
      clear hsm su sd sl sx sb sbx hfit htf hbf hwm
      go_wp2_with (go_at_call 26; fail)
      refine hszm.mono ?_
      rintro e w2 ⟨rfl, hb2⟩
      have B2 := B1.trans (hb2.mono B1.size)
      have X2 : cellsIn w2 w.heap.size u d (.slice A1 tos.length c1) (.slice A2 body.length c2) := X0.below B2 Z0
      have Z2 := Nat.lt_of_lt_of_le Z1 hb2.size
      clear hszm hb2 e0 e1 e2 e3
      go_wp2
      generalize decide (r < 0) = b14
      generalize decide (r2 < 0) = b19
      have Z2w := B2.size
      refine wp_region_steps (by kernel_rfl) (fun D a W => ∃ x : Nat → Value, a = ⟨#[Value.slice A xs.length c, .agg #[.string u, .string d, .slice A1 tos.length c1, .slice A2 body.length c2], undef, .pointer (some ⟨w.heap.size, 0, none⟩), .bool false, .int .i64 r2, x 6, undef, undef, undef, Value.slice A xs.length c, .int .i64 1048576, .int .i64 r, .int .i64 r, .bool b14, .agg #[.string u, .string d, .slice A1 tos.length c1, .slice A2 body.length c2], .int .i64 r, .int .i64 r2, .int .i64 r2, .bool b19, x 20, x 21, x 22, x 23, x 24, undef, undef, undef, undef, undef, undef, undef, undef, undef, undef, undef, undef, undef, undef, undef, undef, undef, undef, undef, undef], []⟩ ∧ ForI w2 (.slice A xs.length c) (.agg #[.string u, .string d, .slice A1 tos.length c1, .slice A2 body.length c2]) ys u d ts body q D x W) (by kernel_rfl) ?_ ?_ ?_
      · refine ⟨fun _ => undef, rfl, ?_⟩
        exact ⟨blw_drew (Below.refl _ _), by simp, by simp, by simp, by simp, by simp, by simp⟩
      · refine ⟨?_, ?_, ?_, ?_, ?_, ?_, trivial⟩
        all_goals
          intro D a W hC hD hd I K hK
          obtain ⟨x, rfl, h⟩ := I
          have HK := Lib.hid hK
          clear hK hC
          simp only [List.all_cons, List.all_nil, Bool.and_true, Bool.and_eq_true, Region.binds, Bool.not_true, Bool.false_or] at hd
          have hBW := B2.trans (h.below.mono Z2w)
          have hsz := h.below.size
        -- 0
        · clear hd
          go_wp2
          exact HK.out _ _ ⟨upv x 20 _, rfl, { h with f0 := fun _ => rfl }⟩
        -- 1
        · have g0 := h.f0 hd
          have hR := hto W (Kd.C_below HR.out hBW)
          go_wp2_with (go_at_call 11; refine hR.mono ?_; rintro e w3 ⟨A', c', rfl, hc', hR', hb⟩)
          exact HK.out _ _ ⟨upv x 21 _, by first | rfl | (simp [upv, g0]), { h with f1 := fun _ => ⟨A', c', rfl, hc', (Kd.R_reads' hR').2.2⟩, below := h.below.trans (hb.mono hsz), f3 := fun e => by obtain ⟨a1, a2, a3, a4, a5, a6, a7⟩ := h.f3 e; exact ⟨a1, a2, a3, a4, a5, Kd.C_below a6 hb, Kd.C_below a7 hb⟩ }⟩
        -- 2
        · clear hd
          obtain ⟨g0, g1, g2, g3⟩ := X2.below h.below Z2
          go_wp2
          exact HK.out _ _ ⟨upv x 22 _, rfl, { h with f2 := fun _ => rfl }⟩
        -- 3
        · have g0 := h.f2 hd.1
          have hR := htm W hBW
          go_wp2_with (go_at_call 27; refine hR.mono ?_; rintro e w3 ⟨a1, a2, a3, a4, rfl, _, _, a6, a7, hb⟩)
          exact HK.out _ _ ⟨upv x 23 _, by first | rfl | (simp [upv, g0]), { h with f3 := fun _ => ⟨a1, a2, a3, a4, rfl, (Kd.R_reads' a6).2.2, (Kd.R_reads' a7).2.2⟩, below := h.below.trans (hb.mono hsz), f1 := fun e => by obtain ⟨b1, b2, b3, b4, b5⟩ := h.f1 e; exact ⟨b1, b2, b3, b4, Kd.C_below b5 hb⟩ }⟩
        -- 4
        · obtain ⟨b1, b2, g1, b4, b5⟩ := h.f1 hd.1
          obtain ⟨a1, a2, a3, a4, g3, a6, a7⟩ := h.f3 hd.2.1
          have hR := hspec b1 b2 a1 a2 a3 a4 W b5 b4 a6 a7
          go_wp2_with (go_at_call 20; refine hR.mono ?_; rintro e w3 ⟨rfl, hb⟩)
          exact HK.out _ _ ⟨upv x 24 _, by first | rfl | (simp [upv, g1, g3]), { h with f4 := fun _ => rfl, below := h.below.trans (hb.mono hsz), f1 := fun _ => ⟨b1, b2, g1, b4, Kd.C_below b5 hb⟩, f3 := fun _ => ⟨a1, a2, a3, a4, g3, Kd.C_below a6 hb, Kd.C_below a7 hb⟩ }⟩
        -- 5
        · have g4 := h.f4 (by first | exact hd | exact hd.1 | simp only [hd])
          go_wp2
          exact HK.out _ _ ⟨upv x 6 (x 24), by first | rfl | (simp [upv, g4]), { h with f5 := fun _ => g4 }⟩
      · rintro D a W3 hall ⟨x, rfl, hI⟩
        have g5 := hI.f5 (hall 5 (by decide))
        have hb3 := hI.below
        clear hI hall
        have B3 := B2.trans (hb3.mono Z2w)
        have X3 := X2.below hb3 Z2
        have Z3 := Nat.lt_of_lt_of_le Z2 hb3.size
        generalize x 20 = y20
        generalize x 21 = y21
        generalize x 22 = y22
        generalize x 23 = y23
        generalize x 24 = y24
        generalize x 6 = y6 at g5
        subst g5
        clear X2 hb3
        go_wp2_with fail
        refine (hto W3 (Kd.C_below HR.out B3)).mono ?_
        rintro e w4 ⟨A4, c4, rfl, hc4, R4, hb4⟩
        have B4 := B3.trans (hb4.mono B3.size)
        have C4 := (Kd.R_reads' R4).2.2
        have X4 := X3.below hb4 Z3
        have Z4 := Nat.lt_of_lt_of_le Z3 hb4.size
        clear X3 R4 hb4
        obtain ⟨x0_, x1_, x2_, x3_⟩ := X4
        go_wp2_with fail
        refine (htm w4 B4).mono ?_
        rintro e w5 ⟨A5, c5, A6, c6, rfl, _, _, R5, R6, hb5⟩
        have B5 := B4.trans (hb5.mono B4.size)
        have C45 := Kd.C_below C4 hb5
        have C5 := (Kd.R_reads' R5).2.2
        have C6 := (Kd.R_reads' R6).2.2
        have X5 := cellsIn.below ⟨x0_, x1_, x2_, x3_⟩ hb5 Z4
        have Z5 := Nat.lt_of_lt_of_le Z4 hb5.size
        clear R5 R6 hb5 x0_ x1_ x2_ x3_ C4
        go_wp2_with fail
        obtain ⟨V, hV⟩ : ∃ V, V = w5.alloc (.cells #[.string u, .string d, .slice A5 ts.length c5, .slice A6 body.length c6] 37) := ⟨_, rfl⟩
        have hbV : Below w5.heap.size w5 V := by rw [hV]; exact (Below.refl _ _).alloc (Nat.le_refl _) _
        have Y6 : cellsIn V w5.heap.size u d (.slice A5 ts.length c5) (.slice A6 body.length c6) := by unfold cellsIn; rw [hV]; simp
        have ZV : w5.heap.size < V.heap.size := by rw [hV]; simp
        rw [← hV]
        clear hV
        have B6 := B5.trans (hbV.mono B5.size)
        have X6 := X5.below hbV Z5
        have Z6 := Nat.lt_of_lt_of_le Z5 hbV.size
        have C46 := Kd.C_below C45 hbV
        have C56 := Kd.C_below C5 hbV
        have C66 := Kd.C_below C6 hbV
        clear X5 C45 C5 C6 hbV
        refine (himpl A4 c4 A5 c5 A6 c6 V C46 C56 C66 (hG'.below B6)).mono ?_
        rintro e w7 ⟨rfl, hb7⟩
        have B7 := B6.trans (hb7.mono B6.size)
        have X7 := X6.below hb7 Z6
        have Z7 := Nat.lt_of_lt_of_le Z6 hb7.size
        have Y7 := Y6.below hb7 ZV
        have ZV7 := Nat.lt_of_lt_of_le ZV hb7.size
        have C47 := Kd.C_below C46 hb7
        have C57 := Kd.C_below C56 hb7
        have C67 := Kd.C_below C66 hb7
        clear X6 Y6 C46 C56 C66 hb7
        go_wp2_with fail
        refine (hto w7 (Kd.C_below HR.out B7)).mono ?_
        rintro e w8 ⟨A8, c8, rfl, hc8, R8, hb8⟩
        have B8 := B7.trans (hb8.mono B7.size)
        have X8 := X7.below hb8 Z7
        have Z8 := Nat.lt_of_lt_of_le Z7 hb8.size
        have Y8 := Y7.below hb8 ZV7
        have ZV8 := Nat.lt_of_lt_of_le ZV7 hb8.size
        have C48 := Kd.C_below C47 hb8
        have C58 := Kd.C_below C57 hb8
        have C68 := Kd.C_below C67 hb8
        have C88 := (Kd.R_reads' R8).2.2
        clear X7 Y7 C47 C57 C67 hb8 R8
        go_wp2_with fail
        refine (eqRuleS_any A4 A8 c4 c8 ys _ C48 hc4 C88 hc8 hl2).mono ?_
        rintro e w9 ⟨rfl, hb9⟩
        have B9 := B8.trans (hb9.mono B8.size)
        have X9 := X8.below hb9 Z8
        have Z9 := Nat.lt_of_lt_of_le Z8 hb9.size
        have Y9 := Y8.below hb9 ZV8
        have ZV9 := Nat.lt_of_lt_of_le ZV8 hb9.size
        have C59 := Kd.C_below C58 hb9
        have C69 := Kd.C_below C68 hb9
        clear X8 Y8 C48 C58 C68 hb9 C88
        go_wp2
        have Z9w := B9.size
        refine wp_region_steps (by kernel_rfl) (fun D a W => ∃ x : Nat → Value, a = ⟨#[Value.slice A xs.length c, .agg #[.string u, .string d, .slice A1 tos.length c1, .slice A2 body.length c2], undef, .pointer (some ⟨w.heap.size, 0, none⟩), .bool false, .int .i64 r2, .int .i64 q, .slice A4 ys.length c4, .pointer (some ⟨w5.heap.size, 0, none⟩), .int .i64 q, .slice A xs.length c, .int .i64 1048576, .int .i64 r, .int .i64 r, .bool b14, .agg #[.string u, .string d, .slice A1 tos.length c1, .slice A2 body.length c2], .int .i64 r, .int .i64 r2, .int .i64 r2, .bool b19, y20, y21, y22, y23, y24, .slice A xs.length c, .slice A4 ys.length c4, .agg #[.string u, .string d, .slice A1 tos.length c1, .slice A2 body.length c2], .agg #[.string u, .string d, .slice A5 ts.length c5, .slice A6 body.length c6], .slice A4 ys.length c4, .agg #[.string u, .string d, .slice A5 ts.length c5, .slice A6 body.length c6], .int .i64 q, .int .i64 q, .int .i64 q, .bool false, .slice A4 ys.length c4, .slice A xs.length c, .slice A8 ys.length c8, .bool true, .bool false, x 40, x 41, x 42, x 43, x 44], []⟩ ∧ EqI w9 (.agg #[.string u, .string d, .slice A5 ts.length c5, .slice A6 body.length c6]) (.agg #[.string u, .string d, .slice A1 tos.length c1, .slice A2 body.length c2]) u d ts body D x W) (by kernel_rfl) ?_ ?_ ?_
        · refine ⟨fun _ => undef, rfl, ?_⟩
          exact ⟨blw_drew (Below.refl _ _), by simp, by simp, by simp, by simp, by simp⟩
        · refine ⟨?_, ?_, ?_, ?_, ?_, trivial⟩
          all_goals
            intro D a W hC hD hd I K hK
            obtain ⟨x, rfl, h⟩ := I
            have HK := Lib.hid hK
            clear hK hC
            simp only [List.all_cons, List.all_nil, Bool.and_true, Bool.and_eq_true, Region.binds, Bool.not_true, Bool.false_or] at hd
            have hBW := B9.trans (h.below.mono Z9w)
            have hsz := h.below.size
          -- 0
          · clear hd
            obtain ⟨g0, g1, g2, g3⟩ := Y9.below h.below ZV9
            go_wp2
            exact HK.out _ _ ⟨upv x 40 _, rfl, { h with f0 := fun _ => rfl }⟩
          -- 1
          · clear hd
            obtain ⟨g0, g1, g2, g3⟩ := X9.below h.below Z9
            go_wp2
            exact HK.out _ _ ⟨upv x 41 _, rfl, { h with f1 := fun _ => rfl }⟩
          -- 2
          · have g0 := h.f1 (by first | exact hd | exact hd.1 | simp only [hd])
            have hR := htm W hBW
            go_wp2_with (go_at_call 27; refine hR.mono ?_; rintro e wa ⟨a1, a2, a3, a4, rfl, _, _, a6, a7, hb⟩)
            exact HK.out _ _ ⟨upv x 42 _, by first | rfl | (simp [upv, g0]), { h with f2 := fun _ => ⟨a1, a2, a3, a4, rfl, (Kd.R_reads' a6).2.2, (Kd.R_reads' a7).2.2⟩, below := h.below.trans (hb.mono hsz) }⟩
          -- 3
          · have g0 := h.f0 (by first | exact hd.1 | simp only [hd])
            obtain ⟨a1, a2, a3, a4, g3, a6, a7⟩ := h.f2 (by first | exact hd.2.1 | exact hd.2 | simp only [hd])
            have hR := eqMail_any u d A5 c5 ts A6 c6 body a1 a2 a3 a4 W (Kd.C_below C59 h.below) (Kd.C_below C69 h.below) a6 a7 (by omega) (by omega)
            go_wp2_with (go_at_call 28; refine hR.mono ?_; rintro e wa ⟨rfl, hb⟩)
            exact HK.out _ _ ⟨upv x 43 _, by first | rfl | (simp [upv, g0, g3]), { h with f3 := fun _ => rfl, below := h.below.trans (hb.mono hsz), f2 := fun _ => ⟨a1, a2, a3, a4, g3, Kd.C_below a6 hb, Kd.C_below a7 hb⟩ }⟩
          -- 4
          · have g0 := h.f3 (by first | exact hd | exact hd.1 | simp only [hd])
            go_wp2
            exact HK.out _ _ ⟨upv x 44 (.bool false), by first | rfl | (simp [upv, g0]), { h with f4 := fun _ => rfl }⟩
        · rintro D a W10 hall ⟨x, rfl, hI⟩
          have g4 := hI.f4 (hall 4 (by decide))
          have B10 := B9.trans (hI.below.mono Z9w)
          clear hI hall
          generalize x 40 = z40
          generalize x 41 = z41
          generalize x 42 = z42
          generalize x 43 = z43
          generalize x 44 = z44 at g4
          subst g4
          go_wp2
          go_ret
          exact ⟨rfl, B0.trans (B10.mono B0.size)⟩
end Go.Proofs.YtomcaichidepnaaDoor
