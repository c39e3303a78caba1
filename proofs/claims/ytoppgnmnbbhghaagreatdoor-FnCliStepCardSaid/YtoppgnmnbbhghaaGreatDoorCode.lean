/- An answer's number, of the program and of the reference: contracts. -/
import Derived.Test.YtoppgnmnbbhghaaGreatDoorSpecB
import Derived.Test.YtoppgnmnbbhghaaGreatDoorCut
import Derived.Lib.ConvBytes
namespace Go.Proofs.YtoppgnmnbbhghaaGreatDoor
open Go.RowKit Go.Proofs.YtoppgnmnbbhghaaGreatDoorW.PrintWords
set_option linter.unusedVariables false
set_option linter.unusedSimpArgs false

def bn (s : ByteArray) (i : Nat) : Nat := (s.data.toList.getD i 0).toNat
def codeOk (s : ByteArray) : Prop := 4 ≤ s.size ∧ (50 ≤ bn s 0 ∧ bn s 0 ≤ 53) ∧ bn s 3 = 32 ∧ (48 ≤ bn s 1 ∧ bn s 1 ≤ 57) ∧ (48 ≤ bn s 2 ∧ bn s 2 ≤ 57)
instance (s : ByteArray) : Decidable (codeOk s) := by unfold codeOk; infer_instance
def codeOf (s : ByteArray) : Int := if codeOk s then 100 * ((bn s 0 : Int) - 48) + 10 * ((bn s 1 : Int) - 48) + ((bn s 2 : Int) - 48) else 0
theorem codeOf_not {s : ByteArray} (h : ¬ codeOk s) : codeOf s = 0 := by unfold codeOf; rw [if_neg h]
theorem bn_at (s : ByteArray) (k : Nat) (hk : k < s.size) : bn s k = s[k].toNat := by
  unfold bn
  rw [byte_at s k hk]
theorem bn_lt (s : ByteArray) (k : Nat) : bn s k < 256 := by
  unfold bn
  exact UInt8.toNat_lt _
theorem bn_cut (s : ByteArray) (k : Nat) (h4 : 4 ≤ s.size) (hk : k < 3) : bn (s.extract 0 3) k = bn s k := by
  unfold bn
  rw [ext_data s 0 3 (by omega), List.drop_zero, List.getD, List.getD, List.getElem?_take]
  rw [if_pos (by omega)]
def part (s : ByteArray) : Nat → Int
  | 0 => 0
  | k + 1 => 10 * part s k + ((bn s k : Int) - 48)
theorem part3 (s : ByteArray) : part s 3 = 100 * ((bn s 0 : Int) - 48) + 10 * ((bn s 1 : Int) - 48) + ((bn s 2 : Int) - 48) := by
  simp only [part]
  omega
theorem bel_bytes (w : World) (e : TypeId) (s : ByteArray) : Below w.heap.size w (Lib.bytesWorld w e s) := ⟨rfl, rfl, rfl, by rw [Lib.bytesWorld_size]; omega, fun k hk => Lib.bytesWorld_at_old w e s k hk⟩
set_option maxRecDepth 100000 in
set_option maxHeartbeats 4000000 in
theorem replyCode_any (s : ByteArray) (w : World) (hs : s.size ≤ 1048576) :
    Calls Tryz.prog 61 #[.string s] w fun e w' => e = .returned (.int .i64 (codeOf s)) ∧ Below w.heap.size w w' := by
  by_cases h4 : s.size < 4
  · have h4b : (s.size : Int) < 4 := by omega
    go_enter Tryz.func61, Tryz.ntmps61
    go_wp2
    go_ret
    exact ⟨reti (codeOf_not (fun h => by have := h.1; omega)).symm, Below.refl _ _⟩
  have h4b : ¬ (s.size : Int) < 4 := by omega
  have E0 := Lib.hid (bn_at s 0 (by omega))
  have E3 := Lib.hid (bn_at s 3 (by omega))
  have b0 : 0 < s.size := by omega
  have b3 : 3 < s.size := by omega
  have hcv := fun W => Lib.run_convert_string_bytes (P := Tryz.prog) W 9 22 5 (s.extract 0 3) Tryz.underlying9 Tryz.underlying22 Tryz.underlying5
  have hx3 : (s.extract 0 3).size = 3 := by rw [ByteArray.size_extract]; omega
  have hcell : ∀ W j, j < 3 → (Lib.bytesWorld W 5 (s.extract 0 3)).cell? ⟨W.heap.size, j, none⟩ = some (.int .u8 (bn s j)) := fun W j hj => by
    rw [Lib.bytesWorld_cell W _ _ j (by omega), ← bn_cut s j (by omega) hj]
    rfl
  have HCell := Lib.hid hcell
  rw [hx3] at hcv
  clear hcell hx3
  by_cases n0 : (s[0].toNat : Int) < 50
  · skip
    go_enter Tryz.func61, Tryz.ntmps61
    go_wp2
    go_ret
    exact ⟨reti (codeOf_not (fun h => by have h1 := E0.out; have h3 := E3.out; have h5 := h.2.1; have h6 := h.2.2.1; omega)).symm, Below.refl _ _⟩
  by_cases n1 : 53 < (s[0].toNat : Int)
  · skip
    go_enter Tryz.func61, Tryz.ntmps61
    go_wp2
    go_ret
    exact ⟨reti (codeOf_not (fun h => by have h1 := E0.out; have h3 := E3.out; have h5 := h.2.1; have h6 := h.2.2.1; omega)).symm, Below.refl _ _⟩
  by_cases n3 : (s[3].toNat : Int) = 32
  rotate_left
  · have n3b : ((s[3].toNat : Int) != 32) = true := by rw [bne_iff_ne]; exact n3
    go_enter Tryz.func61, Tryz.ntmps61
    go_wp2
    go_ret
    exact ⟨reti (codeOf_not (fun h => by have h1 := E0.out; have h3 := E3.out; have h5 := h.2.1; have h6 := h.2.2.1; omega)).symm, Below.refl _ _⟩
  have n3b : ((s[3].toNat : Int) != 32) = false := by rw [n3]; rfl
  have hb : (50 ≤ bn s 0 ∧ bn s 0 ≤ 53) ∧ bn s 3 = 32 := by have h1 := E0.out; have h3 := E3.out; omega
  have HB := Lib.hid hb
  clear hb
  go_enter Tryz.func61, Tryz.ntmps61
  go_wp2
  clear hcv n3 n3b
  go_loopg [3, 5, 28] 3 (fun g v3 _ v28 wr => ∃ (k : Nat) (p : Int), k ≤ 3 ∧ 3 - k ≤ g ∧ v3 = .int .i64 p ∧ v28 = .int .i64 (k : Int) ∧ 0 ≤ p ∧ p ≤ 999 ∧ (k = 0 → p = 0) ∧ (k = 1 → p ≤ 9) ∧ (k = 2 → p ≤ 99) ∧ Aside0 (p = part s k) ∧ Aside0 (∀ j, j < k → 48 ≤ bn s j ∧ bn s j ≤ 57) ∧ Aside0 (Below w.heap.size w wr) ∧ Aside0 (∀ j, j < 3 → wr.cell? ⟨w.heap.size, j, none⟩ = some (.int .u8 (bn s j))))
  case atStart => exact ⟨0, 0, by omega, by omega, rfl, rfl, by omega, by omega, by omega, by omega, by omega, ⟨rfl⟩, ⟨fun j hj => absurd hj (Nat.not_lt_zero _)⟩, ⟨bel_bytes w _ _⟩, ⟨fun j hj => HCell.out w j hj⟩⟩
  case round =>
    obtain ⟨k, p, hk, hg, rfl, rfl, hp0, hp1, hpa, hpb, hpc, HP, H, BW, HC⟩ := hrel
    by_cases hlt : k < 3
    · have hlt' : (k : Int) < 3 := by omega
      have hc := HC.out k hlt
      have hn := bn_lt s k
      generalize hy : bn s k = n at hc hn
      have HY := Lib.hid hy
      clear hy
      by_cases hd : 48 ≤ n ∧ n ≤ 57
      · have hd0 := hd.1
        have hd1 := hd.2
        have hp2 : p ≤ 99 := by omega
        clear hd
        go_wp2
        all_goals first
          | (go_roundg (3 - (k + 1))
             case measure => omega
             case rel => exact ⟨k + 1, _, by omega, by omega, rfl, by go_num, by omega, by omega, by omega, by omega, by omega, ⟨by rw [HP.out, part, HY.out]⟩, ⟨fun j hj => by
               by_cases e : j = k
               · subst e; rw [HY.out]; exact ⟨hd0, hd1⟩
               · exact H.out j (by omega)⟩, BW, HC⟩)
          | (exfalso; omega)
      · go_wp2
        all_goals first
          | (go_ret
             exact ⟨reti (codeOf_not (fun h => by
               have h1 := HB.out
               have h2 := HY.out
               have h5 := h.2.2.2
               have hk3 : k = 0 ∨ k = 1 ∨ k = 2 := by omega
               rcases hk3 with rfl | rfl | rfl <;> omega)).symm, BW.out⟩)
          | (exfalso; omega)
    · have hlt' : ¬ (k : Int) < 3 := by omega
      obtain rfl : k = 3 := by omega
      have HR := Lib.hid (show codeOf s = p by
        rw [HP.out, part3]
        unfold codeOf
        have h1 := HB.out
        have d1 := H.out 1 (by omega)
        have d2 := H.out 2 (by omega)
        rw [if_pos ⟨by omega, h1.1, h1.2, d1, d2⟩])
      go_wp2
      go_ret
      exact ⟨reti HR.out.symm, BW.out⟩

def digs3 (s : ByteArray) : Prop := (48 ≤ bn s 0 ∧ bn s 0 ≤ 57) ∧ (48 ≤ bn s 1 ∧ bn s 1 ≤ 57) ∧ (48 ≤ bn s 2 ∧ bn s 2 ≤ 57)
instance (s : ByteArray) : Decidable (digs3 s) := by unfold digs3; infer_instance
def num3 (s : ByteArray) : Int := if digs3 s ∧ bn s 0 ≠ 48 then part s 3 else -1
set_option maxRecDepth 100000 in
set_option maxHeartbeats 4000000 in
theorem specNum3_any (t : ByteArray) (w : World) (ht : t.size = 3) :
    Calls Tryz.prog 150 #[.string t] w fun e w' => e = .returned (.int .i64 (num3 t)) ∧ Below w.heap.size w w' := by
  go_enter Tryz.func150, Tryz.ntmps150
  go_wp2
  go_loopg [3, 4] 3 (fun g v3 v4 wr => ∃ (k : Nat) (p : Int), k ≤ 3 ∧ 3 - k ≤ g ∧ v3 = .int .i64 p ∧ v4 = .int .i64 (k : Int) ∧ 0 ≤ p ∧ p ≤ 999 ∧ (k = 0 → p = 0) ∧ (k = 1 → p ≤ 9) ∧ (k = 2 → p ≤ 99) ∧ Aside0 (p = part t k) ∧ Aside0 (∀ j, j < k → 48 ≤ bn t j ∧ bn t j ≤ 57) ∧ Aside0 (Below w.heap.size w wr))
  case atStart => exact ⟨0, 0, by omega, by omega, rfl, rfl, by omega, by omega, by omega, by omega, by omega, ⟨rfl⟩, ⟨fun j hj => absurd hj (Nat.not_lt_zero _)⟩, ⟨Below.refl _ _⟩⟩
  case round =>
    obtain ⟨k, p, hk, hg, rfl, rfl, hp0, hp1, hpa, hpb, hpc, HP, H, BW⟩ := hrel
    by_cases hlt : k < 3
    · have hlt' : (k : Int) < 3 := by omega
      have hls : k < t.size := by omega
      have HY := Lib.hid (bn_at t k hls)
      have hk9 : ¬ (k : Int) ≥ 9 := by omega
      have stop : Hid (¬ (48 ≤ bn t k ∧ bn t k ≤ 57) → num3 t = -1) := Lib.hid (fun h => by
        unfold num3
        rw [if_neg (fun h2 => h (by
          have h3 := h2.1
          unfold digs3 at h3
          have hk3 : k = 0 ∨ k = 1 ∨ k = 2 := by omega
          rcases hk3 with rfl | rfl | rfl
          · exact h3.1
          · exact h3.2.1
          · exact h3.2.2))])
      by_cases d0 : (t[k].toNat : Int) < 48
      · go_wp2
        go_ret
        exact ⟨reti (stop.out (by have := HY.out; omega)).symm, BW.out⟩
      · by_cases d1 : 57 < (t[k].toNat : Int)
        · go_wp2
          go_ret
          exact ⟨reti (stop.out (by have := HY.out; omega)).symm, BW.out⟩
        · have hp2 : p ≤ 99 := by omega
          go_wp2
          go_roundg (3 - (k + 1))
          case measure => omega
          case rel => exact ⟨k + 1, _, by omega, by omega, rfl, by go_num, by omega, by omega, by omega, by omega, by omega, ⟨by rw [HP.out, part, HY.out]; omega⟩, ⟨fun j hj => by
            by_cases e : j = k
            · subst e; rw [HY.out]; omega
            · exact H.out j (by omega)⟩, BW⟩
    · have hlt' : ¬ (k : Int) < 3 := by omega
      obtain rfl : k = 3 := by omega
      have h0s : 0 < t.size := by omega
      have E0 := Lib.hid (bn_at t 0 h0s)
      have D := Lib.hid (show digs3 t from ⟨H.out 0 (by omega), H.out 1 (by omega), H.out 2 (by omega)⟩)
      have h00 : ¬ (3 : Int) = 0 := by omega
      have h01 : (1 : Int) < 3 := by omega
      by_cases z : (t[0].toNat : Int) = 48
      · have zb : ((t[0].toNat : Int) == 48) = true := by rw [beq_iff_eq]; exact z
        have ZZ := Lib.hid z
        go_wp2
        go_ret
        refine ⟨reti ?_, BW.out⟩
        unfold num3
        rw [if_neg (fun h => h.2 (by have h1 := E0.out; have h2 := ZZ.out; omega))]
      · have zb : ((t[0].toNat : Int) == 48) = false := by rw [beq_eq_false_iff_ne]; exact z
        have ZZ := Lib.hid z
        go_wp2
        go_ret
        refine ⟨reti ?_, BW.out⟩
        unfold num3
        rw [if_pos ⟨D.out, fun h => ZZ.out (by have h1 := E0.out; omega)⟩]
        exact HP.out
set_option maxRecDepth 100000 in
set_option maxHeartbeats 4000000 in
theorem specCode_any (s : ByteArray) (w : World) (hs : s.size ≤ 1048576) :
    Calls Tryz.prog 107 #[.string s] w fun e w' => e = .returned (.int .i64 (codeOf s)) ∧ Below w.heap.size w w' := by
  by_cases h4 : s.size < 4
  · have h4b : (s.size : Int) < 4 := by omega
    go_enter Tryz.func107, Tryz.ntmps107
    go_wp2
    go_ret
    exact ⟨reti (codeOf_not (fun h => by have := h.1; omega)).symm, Below.refl _ _⟩
  have h4b : ¬ (s.size : Int) < 4 := by omega
  have E0 := Lib.hid (bn_at s 0 (by omega))
  have E3 := Lib.hid (bn_at s 3 (by omega))
  have b0 : 0 < s.size := by omega
  have b3 : 3 < s.size := by omega
  by_cases n3 : (s[3].toNat : Int) = 32
  rotate_left
  · have n3b : ((s[3].toNat : Int) != 32) = true := by rw [bne_iff_ne]; exact n3
    go_enter Tryz.func107, Tryz.ntmps107
    go_wp2
    go_ret
    exact ⟨reti (codeOf_not (fun h => by have h3 := E3.out; have h6 := h.2.2.1; omega)).symm, Below.refl _ _⟩
  have n3b : ((s[3].toNat : Int) != 32) = false := by rw [n3]; rfl
  by_cases n0 : (s[0].toNat : Int) < 50
  · go_enter Tryz.func107, Tryz.ntmps107
    go_wp2
    go_ret
    exact ⟨reti (codeOf_not (fun h => by have h1 := E0.out; have h5 := h.2.1; omega)).symm, Below.refl _ _⟩
  by_cases n1 : 53 < (s[0].toNat : Int)
  · go_enter Tryz.func107, Tryz.ntmps107
    go_wp2
    go_ret
    exact ⟨reti (codeOf_not (fun h => by have h1 := E0.out; have h5 := h.2.1; omega)).symm, Below.refl _ _⟩
  have hb : (50 ≤ bn s 0 ∧ bn s 0 ≤ 53) ∧ bn s 3 = 32 := by have h1 := E0.out; have h3 := E3.out; omega
  have hx3 : (s.extract 0 3).size = 3 := by rw [ByteArray.size_extract]; omega
  have hcall := fun W => specNum3_any (s.extract 0 3) W hx3
  have c0 := bn_cut s 0 (by omega) (by omega)
  have c1 := bn_cut s 1 (by omega) (by omega)
  have c2 := bn_cut s 2 (by omega) (by omega)
  have hv : (num3 (s.extract 0 3) < 200 ∧ codeOf s = 0) ∨ (¬ num3 (s.extract 0 3) < 200 ∧ codeOf s = num3 (s.extract 0 3)) := by
    by_cases hd : (48 ≤ bn s 1 ∧ bn s 1 ≤ 57) ∧ (48 ≤ bn s 2 ∧ bn s 2 ≤ 57)
    · right
      have e : num3 (s.extract 0 3) = 100 * ((bn s 0 : Int) - 48) + 10 * ((bn s 1 : Int) - 48) + ((bn s 2 : Int) - 48) := by
        unfold num3
        rw [if_pos ⟨⟨by omega, by omega, by omega⟩, by omega⟩, part3, c0, c1, c2]
      rw [e]
      refine ⟨by omega, ?_⟩
      unfold codeOf
      rw [if_pos ⟨by omega, hb.1, hb.2, hd.1, hd.2⟩]
    · left
      have e : num3 (s.extract 0 3) = -1 := by
        unfold num3
        rw [if_neg (fun h => hd (by have h1 := h.1; unfold digs3 at h1; omega))]
      rw [e]
      exact ⟨by omega, codeOf_not (fun h => hd ⟨h.2.2.2.1, h.2.2.2.2⟩)⟩
  generalize num3 (s.extract 0 3) = v at hcall hv
  have HV := Lib.hid hv
  have B0 := Below.refl w.heap.size w
  clear hb hx3 c0 c1 c2 hv
  by_cases hl : v < 200
  · go_enter Tryz.func107, Tryz.ntmps107
    go_wp2_with (go_at_call 150; refine (hcall _).mono ?_; rintro e w1 ⟨rfl, b1⟩)
    go_ret
    exact ⟨reti (by have := HV.out; omega), b1⟩
  · go_enter Tryz.func107, Tryz.ntmps107
    go_wp2_with (go_at_call 150; refine (hcall _).mono ?_; rintro e w1 ⟨rfl, b1⟩)
    go_ret
    exact ⟨reti (by have := HV.out; omega), b1⟩

end Go.Proofs.YtoppgnmnbbhghaaGreatDoor
