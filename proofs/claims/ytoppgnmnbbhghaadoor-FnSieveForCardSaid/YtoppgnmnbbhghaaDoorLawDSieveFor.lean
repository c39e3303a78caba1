/- The law FnSieveFor, walked. -/
import Derived.Test.YtoppgnmnbbhghaaDoorDrawSieve
import Derived.Test.YtoppgnmnbbhghaaDoorSieveL
import Derived.Deep.RegionHeld3
import Derived.IntWalk
namespace Go.Proofs.YtoppgnmnbbhghaaDoor
open Go.RowKit Go.Proofs.YtoppgnmnbbhghaaDoorW.PrintWords
set_option linter.unusedVariables false
set_option linter.unusedSimpArgs false
theorem bounds_u8' {n : Int} (h : (Lit.int .u8 n).wf = true) : 0 ≤ n ∧ n ≤ 255 := by
  simp [Lit.wf, IntKind.min, IntKind.max, IntKind.signed, IntKind.bits] at h
  omega
set_option maxRecDepth 100000 in
set_option maxHeartbeats 40000000 in
theorem walk_FnSieveFor {w : World} (A : Option Addr) (c : Nat) (xs : List Int) (hr : Kd.C (Kd.int .u8) w A xs.length xs) (hg : xs.length ≤ 9223372036854775807 ∧ ∀ y ∈ xs, (Lit.int .u8 y).wf = true) (hc : xs.length ≤ c) (hG : Glob w) :
    Calls Tryd.prog 5 #[.slice A xs.length c] w fun e w' => e = .returned (.bool true) ∧ Below w.heap.size w w' := by
  by_cases n_code : (1048576 : Int) < (xs.length : Int)
  · generalize xs.length = L at n_code
    go_enter Tryd.func5, Tryd.ntmps5
    go_wp2
    go_ret
    exact ⟨rfl, Below.refl _ _⟩
  have hd := drawSieveFor_any A c xs w ⟨by omega, fun y hy => by have := bounds_u8' (hg.2 y hy); omega⟩ hc hr
  clear hr hg hc
  generalize xs.length = L at n_code hd
  go_enter Tryd.func5, Tryd.ntmps5
  go_wp2_with fail
  refine Calls.mono hd ?_
  rintro e w1 ⟨ys, B, d, x, A0, c0, A1, c1, rfl, ⟨hyl, hys⟩, rr, hm1, r0, r1, b1⟩
  have HG := Lib.hid (hG.below b1)
  have BW := Lib.hid b1
  have SZ := Lib.hid b1.size
  clear hd hG b1

  have hcd : ys.length ≤ d := (Kd.R_reads' rr).2.1
  have hRF : ∀ y ∈ ys, RFit y := fun y hy => by
    obtain ⟨⟨a0, a1⟩, a2, ⟨a3, a4⟩, a5, a6⟩ := hys y hy
    exact ⟨WalkArith.wf_i64 (by omega), WalkArith.wf_i64 (by omega), by omega, by omega, by omega⟩
  obtain ⟨⟨m0, m1⟩, ⟨m2, m3⟩, m4, m5⟩ := hm1
  have hu : x.f0.f0.size < 4294967281 := by omega
  have hdd : x.f0.f1.size < 4294967281 := by omega
  have ht : ToFit x.f1 := ⟨by omega, fun y hy => ⟨by have := (m3 y hy).1; omega, by have := (m3 y hy).2; omega⟩⟩
  have hb : BodyFit x.f2 := ⟨by omega, fun y hy => by have := m5 y hy; omega⟩
  have hw : fitMail ⟨⟨x.f0.f0, x.f0.f1⟩, x.f1, x.f2⟩ := ⟨⟨by show x.f0.f0.size ≤ _; omega, by show x.f0.f1.size ≤ _; omega⟩, ⟨by show x.f1.length ≤ _; omega, fun y hy => ⟨by have := (m3 y hy).1; omega, by have := (m3 y hy).2; omega⟩⟩, ⟨by show x.f2.length ≤ _; omega, fun y hy => by have := m5 y hy; omega⟩⟩
  have Cr := (Kd.R_reads' rr).2.2
  have C0 := (Kd.R_reads' r0).2.2
  have C1 := (Kd.R_reads' r1).2.2
  have hfor : ∀ W, Below w1.heap.size w1 W → Calls Tryd.prog 25 #[.slice B ys.length d, .agg #[.string x.f0.f0, .string x.f0.f1, .slice A0 x.f1.length c0, .slice A1 x.f2.length c1]] W fun e w' => e = .returned (.int .i64 (sieveFor ys x.f0.f0.data.toList x.f0.f1.data.toList x.f1 x.f2)) ∧ Below W.heap.size W w' := fun W hW => SieveFor_any B d ys x.f0.f0 x.f0.f1 A0 c0 x.f1 A1 c1 x.f2 W (Kd.C_below Cr hW) (by omega) hRF hu hdd (Kd.C_below C0 hW) ht (Kd.C_below C1 hW) hb (HG.out.below hW)
  have hspec : ∀ W, Below w1.heap.size w1 W → Calls Tryd.prog 26 #[.slice B ys.length d, .agg #[.string x.f0.f0, .string x.f0.f1, .slice A0 x.f1.length c0, .slice A1 x.f2.length c1]] W fun e w' => e = .returned (.int .i64 (sieveFor ys x.f0.f0.data.toList x.f0.f1.data.toList x.f1 x.f2)) ∧ Below W.heap.size W w' := fun W hW => by have h := specFor_any B d ys x.f0.f0 x.f0.f1 A0 c0 x.f1 A1 c1 x.f2 W (Kd.C_below Cr hW) (by omega) hw (by omega) hRF hu hdd (Kd.C_below C0 hW) ht (Kd.C_below C1 hW) hb; rw [for_same] at h; exact h
  have hok : ∀ W, Below w1.heap.size w1 W → Calls Tryd.prog 27 #[.slice B ys.length d] W fun e w' => e = .returned (.bool (sieveOk ys)) ∧ Below W.heap.size W w' := fun W hW => SieveOk_any B d ys W (Kd.C_below Cr hW) (by omega) hRF (HG.out.below hW)
  have hsok : ∀ W, Below w1.heap.size w1 W → Calls Tryd.prog 28 #[.slice B ys.length d] W fun e w' => e = .returned (.bool (sieveOk ys)) ∧ Below W.heap.size W w' := fun W hW => specSieveOk_any B d ys W (Kd.C_below Cr hW) (by omega) hRF
  have hmok : ∀ W, Below w1.heap.size w1 W → Calls Tryd.prog 29 #[.agg #[.string x.f0.f0, .string x.f0.f1, .slice A0 x.f1.length c0, .slice A1 x.f2.length c1]] W fun e w' => e = .returned (.bool (mailOk x.f0.f0.data.toList x.f0.f1.data.toList x.f1 x.f2)) ∧ Below W.heap.size W w' := fun W hW => MailOk_any x.f0.f0 x.f0.f1 A0 c0 x.f1 A1 c1 x.f2 W hu hdd (Kd.C_below C0 hW) ht.1 ht.2 (Kd.C_below C1 hW) hb.1 hb.2 (HG.out.below hW)
  have hone : ∀ i, i < ys.length → ∀ W, Below w1.heap.size w1 W → Calls Tryd.prog 25 #[.slice (if d = i then B else B.map (·.add (i * 5))) 1 (d - i), .agg #[.string x.f0.f0, .string x.f0.f1, .slice A0 x.f1.length c0, .slice A1 x.f2.length c1]] W fun e w' => e = .returned (.int .i64 (sieveFor [ys.getD i zRule] x.f0.f0.data.toList x.f0.f1.data.toList x.f1 x.f2)) ∧ Below W.heap.size W w' := fun i hi W hW => by
    have hm := Kd.C_mid (lo := i) (hi := i + 1) (c := d) (Kd.C_below Cr hW) (by omega) (by omega) hcd
    have e1 : (ys.take (i + 1)).drop i = [ys.getD i zRule] := by
      rw [List.take_succ_eq_append_getElem hi, List.drop_append_of_le_length (by rw [List.length_take]; omega), List.drop_eq_nil_of_le (by rw [List.length_take]; omega), List.getD, List.getElem?_eq_getElem hi]
      rfl
    rw [e1] at hm
    exact SieveFor_any _ (d - i) [ys.getD i zRule] x.f0.f0 x.f0.f1 A0 c0 x.f1 A1 c1 x.f2 W hm (by simp) (fun y hy => by rw [List.mem_singleton.1 hy]; exact hRF _ (getD_mem ys zRule hi)) hu hdd (Kd.C_below C0 hW) ht (Kd.C_below C1 hW) hb (HG.out.below hW)
  have hlt := for_lt ys x.f0.f0.data.toList x.f0.f1.data.toList x.f1 x.f2
  have hk1 := fun (h : sieveOk ys = true) (hm : mailOk x.f0.f0.data.toList x.f0.f1.data.toList x.f1 x.f2 = true) (i : Nat) (hi : i < ys.length) => for_one hi h hm
  obtain ⟨K1, hK1⟩ : ∃ f : Nat → Int, ∀ i, sieveFor [ys.getD i zRule] x.f0.f0.data.toList x.f0.f1.data.toList x.f1 x.f2 = f i := ⟨_, fun _ => rfl⟩
  simp only [hK1] at hone hk1
  generalize sieveFor ys x.f0.f0.data.toList x.f0.f1.data.toList x.f1 x.f2 = K at hfor hspec hlt hk1
  generalize mailOk x.f0.f0.data.toList x.f0.f1.data.toList x.f1 x.f2 = qm at hmok hk1
  generalize sieveOk ys = q at hok hsok hk1
  have hKK : (K == K) = true := beq_self_eq_true _
  clear hK1 hys hRF m0 m1 m2 m3 m4 m5 hu hdd ht hb hw Cr C0 C1 rr r0 r1
  go_wp2_with fail
  refine Calls.mono (hfor _ (bel_alloc (Below.refl _ _) _)) ?_
  rintro e w2 ⟨rfl, b2⟩
  have FM := below_blk (blk_new w1 (.cells #[.string x.f0.f0, .string x.f0.f1, .slice A0 x.f1.length c0, .slice A1 x.f2.length c1] 58)) b2
  have B2 : Below w1.heap.size w1 w2 := bel_then (bel_alloc (Below.refl _ _) _) b2
  have L2 : Below w2.heap.size w2 w2 := Below.refl _ _
  have HC : Aside0 (∀ W, Below w2.heap.size w2 W → W.cell? ⟨w1.heap.size, 0, none⟩ = some (.string x.f0.f0) ∧ W.cell? ⟨w1.heap.size, 1, none⟩ = some (.string x.f0.f1) ∧ W.cell? ⟨w1.heap.size, 2, none⟩ = some (.slice A0 x.f1.length c0) ∧ W.cell? ⟨w1.heap.size, 3, none⟩ = some (.slice A1 x.f2.length c1)) := ⟨fun W h => cells4 (below_blk FM h)⟩
  obtain ⟨c0_, c1_, c2_, c3_⟩ := HC.out _ L2
  clear b2 FM
  have HONE := Lib.hid hone
  have HK1 := Lib.hid hk1
  have HLT := Lib.hid hlt
  clear hone hk1 hlt
  cases q
  · go_wp2_with fail
    refine Calls.mono (hspec _ B2) ?_
    rintro e w3 ⟨rfl, b3⟩
    have B3 := bel_then B2 b3
    have L3 := bel_then L2 b3
    clear c0_ c1_ c2_ c3_ b3
    obtain ⟨c0_, c1_, c2_, c3_⟩ := HC.out _ L3
    go_wp2_with fail
    refine Calls.mono (hok _ B3) ?_
    rintro e w4 ⟨rfl, b4⟩
    have B4 := bel_then B3 b4
    have L4 := bel_then L3 b4
    clear c0_ c1_ c2_ c3_ b4
    obtain ⟨c0_, c1_, c2_, c3_⟩ := HC.out _ L4
    go_wp2_with fail
    refine Calls.mono (hsok _ B4) ?_
    rintro e w5 ⟨rfl, b5⟩
    have B5 := bel_then B4 b5
    have L5 := bel_then L4 b5
    clear c0_ c1_ c2_ c3_ b5
    obtain ⟨c0_, c1_, c2_, c3_⟩ := HC.out _ L5
    go_wp2_with fail
    refine Calls.mono (hok _ B5) ?_
    rintro e w6 ⟨rfl, b6⟩
    have B6 := bel_then B5 b6
    have L6 := bel_then L5 b6
    clear c0_ c1_ c2_ c3_ b6
    obtain ⟨c0_, c1_, c2_, c3_⟩ := HC.out _ L6
    go_wp2_with fail
    refine Calls.mono (hspec _ B6) ?_
    rintro e w7 ⟨rfl, b7⟩
    have B7 := bel_then B6 b7
    have L7 := bel_then L6 b7
    clear c0_ c1_ c2_ c3_ b7
    obtain ⟨c0_, c1_, c2_, c3_⟩ := HC.out _ L7
    go_wp2_with fail
    refine Calls.mono (hok _ B7) ?_
    rintro e w8 ⟨rfl, b8⟩
    have B8 := bel_then B7 b8
    have L8 := bel_then L7 b8
    clear c0_ c1_ c2_ c3_ b8
    obtain ⟨c0_, c1_, c2_, c3_⟩ := HC.out _ L8
    go_wp2_with fail
    refine Calls.mono (hsok _ B8) ?_
    rintro e w9 ⟨rfl, b9⟩
    have B9 := bel_then B8 b9
    have L9 := bel_then L8 b9
    clear c0_ c1_ c2_ c3_ b9
    obtain ⟨c0_, c1_, c2_, c3_⟩ := HC.out _ L9
    go_wp2
    go_ret
    exact ⟨rfl, BW.out.trans (B9.mono SZ.out)⟩
  cases qm
  · go_wp2_with fail
    refine Calls.mono (hspec _ B2) ?_
    rintro e w3 ⟨rfl, b3⟩
    have B3 := bel_then B2 b3
    have L3 := bel_then L2 b3
    clear c0_ c1_ c2_ c3_ b3
    obtain ⟨c0_, c1_, c2_, c3_⟩ := HC.out _ L3
    go_wp2_with fail
    refine Calls.mono (hok _ B3) ?_
    rintro e w4 ⟨rfl, b4⟩
    have B4 := bel_then B3 b4
    have L4 := bel_then L3 b4
    clear c0_ c1_ c2_ c3_ b4
    obtain ⟨c0_, c1_, c2_, c3_⟩ := HC.out _ L4
    go_wp2_with fail
    refine Calls.mono (hsok _ B4) ?_
    rintro e w5 ⟨rfl, b5⟩
    have B5 := bel_then B4 b5
    have L5 := bel_then L4 b5
    clear c0_ c1_ c2_ c3_ b5
    obtain ⟨c0_, c1_, c2_, c3_⟩ := HC.out _ L5
    go_wp2_with fail
    refine Calls.mono (hok _ B5) ?_
    rintro e w6 ⟨rfl, b6⟩
    have B6 := bel_then B5 b6
    have L6 := bel_then L5 b6
    clear c0_ c1_ c2_ c3_ b6
    obtain ⟨c0_, c1_, c2_, c3_⟩ := HC.out _ L6
    go_wp2_with fail
    refine Calls.mono (hmok _ B6) ?_
    rintro e w7 ⟨rfl, b7⟩
    have B7 := bel_then B6 b7
    have L7 := bel_then L6 b7
    clear c0_ c1_ c2_ c3_ b7
    obtain ⟨c0_, c1_, c2_, c3_⟩ := HC.out _ L7
    go_wp2_with fail
    refine Calls.mono (hspec _ B7) ?_
    rintro e w8 ⟨rfl, b8⟩
    have B8 := bel_then B7 b8
    have L8 := bel_then L7 b8
    clear c0_ c1_ c2_ c3_ b8
    obtain ⟨c0_, c1_, c2_, c3_⟩ := HC.out _ L8
    go_wp2_with fail
    refine Calls.mono (hok _ B8) ?_
    rintro e w9 ⟨rfl, b9⟩
    have B9 := bel_then B8 b9
    have L9 := bel_then L8 b9
    clear c0_ c1_ c2_ c3_ b9
    obtain ⟨c0_, c1_, c2_, c3_⟩ := HC.out _ L9
    go_wp2_with fail
    refine Calls.mono (hsok _ B9) ?_
    rintro e w10 ⟨rfl, b10⟩
    have B10 := bel_then B9 b10
    have L10 := bel_then L9 b10
    clear c0_ c1_ c2_ c3_ b10
    obtain ⟨c0_, c1_, c2_, c3_⟩ := HC.out _ L10
    go_wp2
    go_ret
    exact ⟨rfl, BW.out.trans (B10.mono SZ.out)⟩
  · go_wp2_with fail
    refine Calls.mono (hspec _ B2) ?_
    rintro e w3 ⟨rfl, b3⟩
    have B3 := bel_then B2 b3
    have L3 := bel_then L2 b3
    clear c0_ c1_ c2_ c3_ b3
    obtain ⟨c0_, c1_, c2_, c3_⟩ := HC.out _ L3
    go_wp2_with fail
    refine Calls.mono (hok _ B3) ?_
    rintro e w4 ⟨rfl, b4⟩
    have B4 := bel_then B3 b4
    have L4 := bel_then L3 b4
    clear c0_ c1_ c2_ c3_ b4
    obtain ⟨c0_, c1_, c2_, c3_⟩ := HC.out _ L4
    go_wp2_with fail
    refine Calls.mono (hsok _ B4) ?_
    rintro e w5 ⟨rfl, b5⟩
    have B5 := bel_then B4 b5
    have L5 := bel_then L4 b5
    clear c0_ c1_ c2_ c3_ b5
    obtain ⟨c0_, c1_, c2_, c3_⟩ := HC.out _ L5
    go_wp2_with fail
    refine Calls.mono (hok _ B5) ?_
    rintro e w6 ⟨rfl, b6⟩
    have B6 := bel_then B5 b6
    have L6 := bel_then L5 b6
    clear c0_ c1_ c2_ c3_ b6
    obtain ⟨c0_, c1_, c2_, c3_⟩ := HC.out _ L6
    go_wp2_with fail
    refine Calls.mono (hmok _ B6) ?_
    rintro e w7 ⟨rfl, b7⟩
    have B7 := bel_then B6 b7
    have L7 := bel_then L6 b7
    clear c0_ c1_ c2_ c3_ b7
    obtain ⟨c0_, c1_, c2_, c3_⟩ := HC.out _ L7
    go_wp2
    have HL := Aside0.mk L7
    have HB := Aside0.mk B7
    have hkq := HK1.out (by trivial) (by trivial)
    have HK2 := Lib.hid hkq
    clear hkq L2 L3 L4 L5 L6 L7 B2 B3 B4 B5 B6 B7 c0_ c1_ c2_ c3_
    go_loopg [6, 7] (ys.length) (fun gq v6 _ wr => ∃ i : Nat, i ≤ ys.length ∧ ys.length - i ≤ gq ∧ v6 = .int .i64 (i : Int) ∧ Aside0 (Below w2.heap.size w2 wr) ∧ Aside0 (Below w1.heap.size w1 wr))
    case atStart => exact ⟨0, Nat.zero_le _, by omega, rfl, HL, HB⟩
    case round =>
      clear HL HB
      obtain ⟨i, hi, hgi, rfl, HL, HB⟩ := hrel
      by_cases hli : i < ys.length
      · have hli' : (i : Int) < (ys.length : Int) := by omega
        have hc := HONE.out i hli
        have hk := HK2.out i hli
        have L1 := bel_then HL.out (drew_below0 wr)
        have B1 := bel_then HB.out (drew_below0 wr)
        have hcut := cut_mid (P := Tryd.prog) 55 79 .i64 .i64 (by rfl) (by rfl) 5 (by rfl) B ys.length d (i : Int) ((i : Int) + 1) (by omega) (by omega) (by omega) hcd
        rw [Int.toNat_natCast, show ((i : Int) + 1).toNat - i = 1 by omega] at hcut
        generalize (if d = i then B else B.map (·.add (i * 5))) = S at hcut hc
        have hw1 : IntKind.i64.wrap ((i : Int) + 1) = (i : Int) + 1 := IntWalk.i64_in _ (by omega)
        obtain ⟨c0_, c1_, c2_, c3_⟩ := HC.out _ HL.out
        by_cases k0 : K < 0
        · have k1 := hk.1 (.inl k0)
          rw [k1] at hc
          clear hk k1
          go_wp2
          go_still_tail 6, (by kernel_rfl)
          change wpList _ _ _ _ _ wr.drew
          generalize wr.drew = wd at B1 L1 ⊢
          clear c0_ c1_ c2_ c3_
          obtain ⟨c0_, c1_, c2_, c3_⟩ := HC.out _ L1
          go_wp2_with fail
          refine Calls.mono (hc _ B1) ?_
          rintro e w9 ⟨rfl, b9⟩
          have L9 := Aside0.mk (bel_then L1 b9)
          have B9 := Aside0.mk (bel_then B1 b9)
          clear b9 L1 B1
          go_wp2
          go_roundg (ys.length - (i + 1))
          case measure => omega
          case rel => exact ⟨i + 1, by omega, Nat.le_refl _, by go_num, L9, B9⟩
        · by_cases k2 : (i : Int) < K
          · have k1 := hk.1 (.inr k2)
            rw [k1] at hc
            clear hk k1
            go_wp2
            go_still_tail 6, (by kernel_rfl)
            change wpList _ _ _ _ _ wr.drew
            generalize wr.drew = wd at B1 L1 ⊢
            clear c0_ c1_ c2_ c3_
            obtain ⟨c0_, c1_, c2_, c3_⟩ := HC.out _ L1
            go_wp2_with fail
            refine Calls.mono (hc _ B1) ?_
            rintro e w9 ⟨rfl, b9⟩
            have L9 := Aside0.mk (bel_then L1 b9)
            have B9 := Aside0.mk (bel_then B1 b9)
            clear b9 L1 B1
            go_wp2
            go_roundg (ys.length - (i + 1))
            case measure => omega
            case rel => exact ⟨i + 1, by omega, Nat.le_refl _, by go_num, L9, B9⟩
          · by_cases k3 : (i : Int) = K
            · have k1 := hk.2 k3
              have k4 : ((i : Int) == K) = true := by simp [k3]
              rw [k1] at hc
              clear k3
              clear hk k1
              go_wp2
              go_still_tail 6, (by kernel_rfl)
              change wpList _ _ _ _ _ wr.drew
              generalize wr.drew = wd at B1 L1 ⊢
              clear c0_ c1_ c2_ c3_
              obtain ⟨c0_, c1_, c2_, c3_⟩ := HC.out _ L1
              go_wp2_with fail
              refine Calls.mono (hc _ B1) ?_
              rintro e w9 ⟨rfl, b9⟩
              have L9 := Aside0.mk (bel_then L1 b9)
              have B9 := Aside0.mk (bel_then B1 b9)
              clear b9 L1 B1
              go_wp2
              go_roundg (ys.length - (i + 1))
              case measure => omega
              case rel => exact ⟨i + 1, by omega, Nat.le_refl _, by go_num, L9, B9⟩
            · have k4 : ((i : Int) == K) = false := by simp [k3]
              clear hk
              go_wp2
              go_still_tail 6, (by kernel_rfl)
              change wpList _ _ _ _ _ wr.drew
              generalize wr.drew = wd at B1 L1 ⊢
              clear c0_ c1_ c2_ c3_
              obtain ⟨c0_, c1_, c2_, c3_⟩ := HC.out _ L1
              go_wp2_with fail
              refine Calls.mono (hc _ B1) ?_
              rintro e w9 ⟨rfl, b9⟩
              have L9 := Aside0.mk (bel_then L1 b9)
              have B9 := Aside0.mk (bel_then B1 b9)
              clear b9 L1 B1
              go_wp2
              go_roundg (ys.length - (i + 1))
              case measure => omega
              case rel => exact ⟨i + 1, by omega, Nat.le_refl _, by go_num, L9, B9⟩
      · have hli' : ¬ (i : Int) < (ys.length : Int) := by omega
        have hKl : K < (ys.length : Int) := HLT.out.1
        go_wp2
        go_ret
        exact ⟨rfl, BW.out.trans (HB.out.mono SZ.out)⟩

end Go.Proofs.YtoppgnmnbbhghaaDoor
