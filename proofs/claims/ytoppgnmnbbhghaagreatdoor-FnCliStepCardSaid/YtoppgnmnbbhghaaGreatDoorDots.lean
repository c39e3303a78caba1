/- A mail's lines as they are sent, of the program and of the reference: contracts. -/
import Derived.Test.YtoppgnmnbbhghaaGreatDoorBuil
import Derived.Test.YtoppgnmnbbhghaaGreatDoorShelf
import Derived.Test.YtoppgnmnbbhghaaGreatDoorShelf2
namespace Go.Proofs.YtoppgnmnbbhghaaGreatDoor
open Go.RowKit Go.Proofs.YtoppgnmnbbhghaaGreatDoorW.PrintWords
set_option linter.unusedVariables false
set_option linter.unusedSimpArgs false

def dl (s : ByteArray) : List UInt8 := (if Lib.hasPrefix s.data.toList [46] then 46 :: s.data.toList else s.data.toList) ++ [13, 10]
def dotsL (xs : List ByteArray) : List UInt8 := xs.flatMap dl ++ [46, 13, 10]
def dots (xs : List ByteArray) : ByteArray := ⟨(dotsL xs).toArray⟩
theorem app_data (a b : ByteArray) : (a ++ b).data.toList = a.data.toList ++ b.data.toList := by
  rw [ByteArray.data_append, Array.toList_append]
theorem byteCells_app (l : List UInt8) (s : ByteArray) : Lib.byteCells l ++ Lib.strCells s = Lib.byteCells (l ++ s.data.toList) := by
  simp [Lib.byteCells, Lib.strCells]
theorem byteCells_dot (l : List UInt8) : Lib.byteCells l ++ [.int .u8 46] = Lib.byteCells (l ++ [46]) := by
  simp [Lib.byteCells]
theorem dl_step (xs : List ByteArray) (k : Nat) (h : k < xs.length) : (xs.take (k + 1)).flatMap dl = (xs.take k).flatMap dl ++ dl (xs.getD k ⟨#[]⟩) := by
  rw [List.take_succ_eq_append_getElem h, List.flatMap_append, List.getD, List.getElem?_eq_getElem h]
  simp
theorem dl_len (s : ByteArray) : (dl s).length ≤ s.size + 3 := by
  unfold dl
  have := size_data s
  split <;> simp <;> omega
set_option maxRecDepth 100000 in
set_option maxHeartbeats 4000000 in
theorem dotted_any (A : Option Addr) (c : Nat) (xs : List ByteArray) (w : World) (hr : Kd.C Kd.string w A xs.length xs) (hlen : xs.length ≤ 1048576) (hx : ∀ y ∈ xs, y.size ≤ 1048576) :
    Calls Tryz.prog 106 #[.slice A xs.length c] w fun e w' => e = .returned (.string (dots xs)) ∧ Below w.heap.size w w' := by
  have HX := Lib.hid hx
  clear hx
  go_enter Tryz.func106, Tryz.ntmps106
  go_wp2
  have hb0 : BuilderIs w.heap.size w.heap.size (Lib.byteCells []) (w.alloc (.cells #[.pointer none, .slice none 0 0] 145)) := Lib.fresh_isBuilder 145 5 w
  have HB0 := Aside0.mk hb0
  clear hb0
  go_loopg [5, 8] (xs.length) (fun g _ v8 wr => ∃ (k : Nat) (l : List UInt8), k ≤ xs.length ∧ xs.length - k ≤ g ∧ v8 = .int .i64 k ∧ Aside0 (l = (xs.take k).flatMap dl) ∧ l.length ≤ k * 1048579 ∧ Aside0 (BuilderIs w.heap.size w.heap.size (Lib.byteCells l) wr) ∧ Aside0 (Below w.heap.size w wr))
  case atStart => exact ⟨0, [], Nat.zero_le _, by omega, rfl, ⟨by simp⟩, by simp, HB0, ⟨bel_alloc (Below.refl _ _) _⟩⟩
  case round =>
    clear HB0
    obtain ⟨k, l, hk, hg, rfl, HL, hll, HB, BW⟩ := hrel
    have hsz := BW.out.size
    by_cases hlt : k < xs.length
    · have hlt' : (k : Int) < (xs.length : Int) := by omega
      obtain ⟨ad, e1, h0⟩ := at_Str (Kd.C_below hr BW.out) k hlt
      subst e1
      have hz := HX.out _ (getD_mem xs ⟨#[]⟩ hlt)
      have hst := dl_step xs k hlt
      generalize hy : xs.getD k (⟨#[]⟩ : ByteArray) = y at h0 hz hst
      have hcall := fun W => Tryz.strings_HasPrefix y ⟨#[46]⟩ W
      have HS := Lib.hid hst
      have hd : dl y = (if Lib.hasPrefix y.data.toList (⟨#[46]⟩ : ByteArray).data.toList then 46 :: y.data.toList else y.data.toList) ++ [13, 10] := rfl
      generalize Lib.hasPrefix y.data.toList (⟨#[46]⟩ : ByteArray).data.toList = q at hcall hd
      have HD := Lib.hid hd
      have hkb : k * 1048579 ≤ 1048576 * 1048579 := Nat.mul_le_mul_right _ (by omega)
      have hlim : l.length + 1 + (y.size + 2) ≤ 140737488355328 := by omega
      have e2 : (y ++ (⟨#[13, 10]⟩ : ByteArray)).size = y.size + 2 := by rw [ByteArray.size_append]; rfl
      have E2 := Lib.hid e2
      have BX := Lib.hid BW.out
      clear hst hy hd e2 hr hkb
      cases q
      · go_wp2_with (go_at_call 146; refine (hcall _).mono ?_; rintro e w1 ⟨rfl, rfl⟩)
        go_wp2_with fail
        refine (writeString_any w.heap.size w.heap.size _ _ _ HB.out (by rw [Lib.byteCells_length, E2.out]; omega) hsz).mono ?_
        rintro e w2 ⟨⟨v2, rfl⟩, b2, bl2⟩
        have HB2 := Aside0.mk b2
        have BW2 := Aside0.mk (bel_base BW.out bl2)
        clear b2 bl2
        go_wp2
        go_roundg (xs.length - (k + 1))
        case measure => omega
        case rel => exact ⟨k + 1, l ++ dl y, by omega, Nat.le_refl _, by go_num, ⟨by rw [HS.out, HL.out]⟩, by have := dl_len y; rw [List.length_append]; omega, ⟨by
          have h := HB2.out
          rw [byteCells_app, app_data] at h
          rw [HD.out]
          exact h⟩, BW2⟩
      · go_wp2_with (go_at_call 146; refine (hcall _).mono ?_; rintro e w1 ⟨rfl, rfl⟩)
        go_wp2_with fail
        refine (writeByte_any w.heap.size w.heap.size _ 46 _ HB.out (by rw [Lib.byteCells_length]; omega) hsz).mono ?_
        rintro e w2 ⟨⟨v2, rfl⟩, b2, bl2⟩
        have BW2 := Aside0.mk (bel_base BW.out bl2)
        rw [byteCells_dot] at b2
        have HB2 := Aside0.mk b2
        have hsz2 := BW2.out.size
        clear b2 bl2
        go_wp2_with fail
        refine (writeString_any w.heap.size w.heap.size _ _ _ HB2.out (by rw [Lib.byteCells_length, E2.out, List.length_append]; simp; omega) hsz2).mono ?_
        rintro e w3 ⟨⟨v3, rfl⟩, b3, bl3⟩
        have HB3 := Aside0.mk b3
        have BW3 := Aside0.mk (bel_base BW2.out bl3)
        clear b3 bl3
        go_wp2
        go_roundg (xs.length - (k + 1))
        case measure => omega
        case rel => exact ⟨k + 1, l ++ dl y, by omega, Nat.le_refl _, by go_num, ⟨by rw [HS.out, HL.out]⟩, by have := dl_len y; rw [List.length_append]; omega, ⟨by
          have h := HB3.out
          rw [byteCells_app, app_data] at h
          rw [HD.out]
          have e : l ++ [46] ++ (y.data.toList ++ (⟨#[13, 10]⟩ : ByteArray).data.toList) = l ++ ((46 :: y.data.toList) ++ [13, 10]) := by simp
          rw [e] at h
          exact h⟩, BW3⟩
    · have hlt' : ¬ (k : Int) < (xs.length : Int) := by omega
      have hkb : k * 1048579 ≤ 1048576 * 1048579 := Nat.mul_le_mul_right _ (by omega)
      have hlim : l.length + 3 ≤ 140737488355328 := by omega
      have HQ := Lib.hid (show l = xs.flatMap dl by rw [HL.out, List.take_of_length_le (by omega)])
      clear hkb HL
      go_wp2_with fail
      refine (writeString_any w.heap.size w.heap.size _ _ _ HB.out (by rw [Lib.byteCells_length]; exact hlim) hsz).mono ?_
      rintro e w2 ⟨⟨v2, rfl⟩, b2, bl2⟩
      rw [byteCells_app] at b2
      have BW2 := Aside0.mk (bel_base BW.out bl2)
      have HB2 := Aside0.mk b2
      have hsz2 := BW2.out.size
      clear b2 bl2
      go_wp2_with fail
      refine (Tryz.Builder_String_any w.heap.size w.heap.size _ _ HB2.out hsz2).mono ?_
      rintro e w3 ⟨rfl, bl3⟩
      have BW3 := Aside0.mk (bel_base BW2.out bl3)
      clear bl3
      go_wp2
      go_ret
      refine ⟨rets ?_, BW3.out⟩
      unfold dots dotsL
      rw [HQ.out]

theorem ba_ext {a b : ByteArray} (h : a.data.toList = b.data.toList) : a = b := by
  cases a; cases b
  simp at h
  rw [h]
set_option maxRecDepth 100000 in
set_option maxHeartbeats 4000000 in
theorem specDots_any (A : Option Addr) (c : Nat) (xs : List ByteArray) (w : World) (hr : Kd.C Kd.string w A xs.length xs) (hlen : xs.length ≤ 1048576) (hx : ∀ y ∈ xs, y.size ≤ 1048576) :
    Calls Tryz.prog 111 #[.slice A xs.length c] w fun e w' => e = .returned (.string (dots xs)) ∧ Below w.heap.size w w' := by
  have HX := Lib.hid hx
  clear hx
  go_enter Tryz.func111, Tryz.ntmps111
  go_wp2
  go_loopg [3, 4, 5] (xs.length) (fun g v3 v4 _ wr => ∃ (k : Nat) (a : ByteArray), k ≤ xs.length ∧ xs.length - k ≤ g ∧ v4 = .int .i64 k ∧ v3 = .string a ∧ a.size ≤ k * 1048579 ∧ Aside0 (a.data.toList = (xs.take k).flatMap dl) ∧ Aside0 (Below w.heap.size w wr))
  case atStart => exact ⟨0, ⟨#[]⟩, Nat.zero_le _, by omega, rfl, rfl, Nat.zero_le _, ⟨by simp⟩, ⟨Below.refl _ _⟩⟩
  case round =>
    obtain ⟨k, a, hk, hg, rfl, rfl, has, HL, BW⟩ := hrel
    have hkb : k * 1048579 ≤ 1048576 * 1048579 := Nat.mul_le_mul_right _ (by omega)
    have hsz : a.size ≤ 1099600000000 := by omega
    have s1 : (⟨#[13, 10]⟩ : ByteArray).size = 2 := rfl
    have s2 : (⟨#[46]⟩ : ByteArray).size = 1 := rfl
    have s3 : (⟨#[46, 13, 10]⟩ : ByteArray).size = 3 := rfl
    clear hkb
    by_cases hlt : k < xs.length
    · have hlt' : (k : Int) < (xs.length : Int) := by omega
      obtain ⟨ad, e1, h0⟩ := at_Str (Kd.C_below hr BW.out) k hlt
      subst e1
      have hz := HX.out _ (getD_mem xs ⟨#[]⟩ hlt)
      have hst := dl_step xs k hlt
      generalize hy : xs.getD k (⟨#[]⟩ : ByteArray) = y at h0 hz hst
      have HS := Lib.hid hst
      clear hst hy hr
      have fin : Hid (∀ p : List UInt8, (if Lib.hasPrefix y.data.toList [46] then 46 :: y.data.toList else y.data.toList) = p → ∀ b : ByteArray, b.data.toList = a.data.toList ++ p ++ [13, 10] → b.data.toList = (xs.take (k + 1)).flatMap dl) := Lib.hid (fun p hp b hb => by
        rw [hb, HS.out, HL.out, ← hp]
        unfold dl
        rw [List.append_assoc])
      by_cases h1 : y = ⟨#[]⟩
      · subst h1
        go_wp2
        go_roundg (xs.length - (k + 1))
        case measure => omega
        case rel => exact ⟨k + 1, _, by omega, Nat.le_refl _, by go_num, rfl, by simp only [ByteArray.size_append]; omega, ⟨fin.out [] (by simp [Lib.hasPrefix]) _ (by rw [app_data, app_data])⟩, BW⟩
      · have hs : 0 < y.size := by
          rcases Nat.eq_zero_or_pos y.size with h | h
          · exact absurd (ByteArray.size_eq_zero_iff.1 h) h1
          · exact h
        have hne : (y.toList == ([] : List UInt8)) = false := by
          rw [beq_eq_false_iff_ne, bl]
          intro h
          apply h1
          apply ba_ext
          rw [h]
        have HN := Lib.hid h1
        have HB := Lib.hid (byte_at y 0 hs)
        clear h1
        by_cases h2 : (y[0].toNat : Int) = 46
        · have h2b : ((y[0].toNat : Int) == 46) = true := by rw [beq_iff_eq]; exact h2
          have H2 := Lib.hid (show y.data.toList = 46 :: y.data.toList.tail by
            have h3 := HB.out
            cases hd : y.data.toList with
            | nil =>
              have := size_data y
              rw [hd] at this
              simp at this
              omega
            | cons b r =>
              rw [hd] at h3
              have hb : b = y[0] := by simpa using h3
              have : b = 46 := by
                rw [hb]
                have h4 : y[0].toNat = (46 : UInt8).toNat := by rw [show (46 : UInt8).toNat = 46 from rfl]; omega
                exact UInt8.toNat_inj.1 h4
              rw [this]; rfl)
          go_wp2
          go_roundg (xs.length - (k + 1))
          case measure => omega
          case rel => exact ⟨k + 1, _, by omega, Nat.le_refl _, by go_num, rfl, by simp only [ByteArray.size_append]; omega, ⟨fin.out (46 :: y.data.toList) (by rw [if_pos (by rw [H2.out]; simp [Lib.hasPrefix])]) _ (by rw [app_data, app_data, app_data]; simp)⟩, BW⟩
        · have h2b : ((y[0].toNat : Int) == 46) = false := by rw [beq_eq_false_iff_ne]; exact h2
          have H2 := Lib.hid (show Lib.hasPrefix y.data.toList [46] = false by
            have h3 := HB.out
            cases hd : y.data.toList with
            | nil => simp [Lib.hasPrefix]
            | cons b r =>
              rw [hd] at h3
              have hb : b = y[0] := by simpa using h3
              have : ¬ b = 46 := by
                intro e
                apply h2
                rw [← hb, e]
                rfl
              have h5 : (46 == b) = false := by rw [beq_eq_false_iff_ne]; exact fun e => this e.symm
              show (List.isPrefixOf [46] (b :: r)) = false
              rw [List.isPrefixOf]
              rw [h5]; rfl)
          go_wp2
          go_roundg (xs.length - (k + 1))
          case measure => omega
          case rel => exact ⟨k + 1, _, by omega, Nat.le_refl _, by go_num, rfl, by simp only [ByteArray.size_append]; omega, ⟨fin.out y.data.toList (by rw [if_neg (by rw [H2.out]; simp)]) _ (by rw [app_data, app_data])⟩, BW⟩
    · have hlt' : ¬ (k : Int) < (xs.length : Int) := by omega
      have HQ := Lib.hid (show a.data.toList = xs.flatMap dl by rw [HL.out, List.take_of_length_le (by omega)])
      go_wp2
      go_ret
      refine ⟨rets (ba_ext ?_), BW.out⟩
      rw [app_data, HQ.out]
      unfold dots dotsL
      simp

end Go.Proofs.YtoppgnmnbbhghaaGreatDoor
