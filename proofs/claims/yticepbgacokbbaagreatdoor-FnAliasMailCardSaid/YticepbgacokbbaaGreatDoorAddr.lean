/- Labels, domains, addresses: what isLabel, DomainOk, AddrOk, null, sender, within and isLine of the program answer, in plain words. -/
import Derived.Test.YticepbgacokbbaaGreatDoorMath
import Derived.Test.YticepbgacokbbaaGreatDoorKit0
import Derived.Test.YticepbgacokbbaaGreatDoorShelf
import Derived.WalkKit
import Derived.WalkSpells
import Derived.WalkLawsBesides
import Derived.Deep.QuietTactic
import Derived.BigQuiet
import Derived.Deep.LoopGhost
import Derived.Outline
import Derived.Lib.Hide
namespace Go.Proofs.YticepbgacokbbaaGreatDoor
open Go.RowKit

/-- The one package variable that the library reads on these roads holds some number. -/
def Glob (w : World) : Prop := ∃ m, w.cell? ⟨0, 0, none⟩ = some (.int .i64 m)
theorem Glob.below {w w' : World} (h : Glob w) (hb : Below w.heap.size w w') : Glob w' := by
 obtain ⟨m, hm⟩ := h
 exact ⟨m, (hb.cell (World.block_lt_of_cell? w _ hm)).trans hm⟩


theorem within_any (n a b : Int) (w : World) : Calls Tryz.prog 28 #[.int .i64 n, .int .i64 a, .int .i64 b] w fun e w' => e = .returned (.bool (decide (a ≤ n) && decide (n ≤ b))) ∧ w = w' := by
 by_cases h : a ≤ n
 all_goals
  go_enter Tryz.func28, Tryz.ntmps28
  go_wp2
  go_ret
  exact ⟨by simp [h] <;> omega, rfl⟩

set_option maxHeartbeats 400000 in
theorem isLabel_any (s : ByteArray) (w : World) (hs : s.size ≤ 9223372036854775807) : Calls Tryz.prog 74 #[.string s] w fun e w' => e = .returned (.bool (lab s.data.toList)) ∧ Below w.heap.size w w' := by
 have hl : s.data.toList.length = s.size := by rw [Array.length_toList]; rfl
 have HL := Lib.hid hl
 clear hl
 go_enter Tryz.func74, Tryz.ntmps74
 by_cases h : 1 ≤ s.size ∧ s.size ≤ 8
 ·have hb : (decide ((1 : Int) ≤ (s.size : Int)) && decide ((s.size : Int) ≤ 8)) = true := by simp; omega
  go_wp2_with fail
  refine (within_any _ _ _ _).mono ?_
  rintro e w' ⟨rfl, rfl⟩
  rw [hb]
  go_wp2_with fail
  refine (Tryz.strings_Trim s ⟨#[97, 98, 99, 100, 101, 102, 103, 104, 105, 106, 107, 108, 109, 110, 111, 112, 113, 114, 115, 116, 117, 118, 119, 120, 121, 122, 48, 49, 50, 51, 52, 53, 54, 55, 56, 57]⟩ _ hs (by decide) (ascii_of_all (by decide))).mono ?_
  rintro e w' ⟨rfl, hb1⟩
  go_wp2
  go_ret
  refine ⟨retb ?_, hb1⟩
  rw [lab_trim, HL.out, decide_eq_true h, Bool.true_and, Bool.eq_iff_iff, decide_eq_true_iff]
  exact List.isEmpty_iff
 ·have hb : (decide ((1 : Int) ≤ (s.size : Int)) && decide ((s.size : Int) ≤ 8)) = false := by simp; omega
  go_wp2_with fail
  refine (within_any _ _ _ _).mono ?_
  rintro e w' ⟨rfl, rfl⟩
  rw [hb]
  go_wp2
  go_ret
  refine ⟨retb ?_, Below.refl _ _⟩
  rw [lab_trim, HL.out, decide_eq_false h, Bool.false_and]

/-- strings.Split at a dot: a new block that holds the pieces. -/
theorem Split_dot (s : ByteArray) (w : World) (hs : s.size < 4294967281) (hG : Glob w) : Calls Tryz.prog 94 #[.string s, .string ⟨#[46]⟩] w fun e w' =>
  ∃ ps : List ByteArray, ps.map (·.data.toList) = cutAll 46 s.data.toList ∧ ps.length ≤ s.size + 1 ∧ e = .returned (.slice (some ⟨w.heap.size, 0, none⟩) ps.length ps.length) ∧
   (∀ j, j < ps.length → w'.cell? ⟨w.heap.size, j, none⟩ = some (.string (ps.getD j ⟨#[]⟩))) ∧ Below w.heap.size w w' := by
 obtain ⟨m, hm⟩ := hG
 refine (Tryz.strings_Split s ⟨#[46]⟩ m w hs hm (by decide)).mono ?_
 rintro e w' ⟨rfl, rfl⟩
 have hn := Lib.splitB_all ⟨#[46]⟩ (by decide) 0 (Lib.countB s ⟨#[46]⟩) s rfl
 have hle := Lib.countB_le ⟨#[46]⟩ (by decide) s.size s (Nat.le_refl _)
 refine ⟨Lib.splitB ⟨#[46]⟩ 0 (Lib.countB s ⟨#[46]⟩) s, split_dot s _ ?_, by rw [hn]; omega, by rw [hn], fun j hj => ?_, (Below.refl _ _).alloc (Nat.le_refl _) _⟩
 ·exact Nat.le_of_eq (Lib.count_one 46 s.data.toList).symm
 ·rw [World.cell?_alloc_new, List.getElem?_toArray, List.getElem?_map, List.getElem?_eq_getElem hj]
  simp [List.getD, List.getElem?_eq_getElem hj]

set_option maxHeartbeats 400000 in
theorem DomainOk_any (s : ByteArray) (w : World) (hs : s.size < 4294967281) (hG : Glob w) : Calls Tryz.prog 75 #[.string s] w fun e w' => e = .returned (.bool (dom s.data.toList)) ∧ Below w.heap.size w w' := by
 go_enter Tryz.func75, Tryz.ntmps75
 go_wp2_with fail
 refine (Split_dot s _ hs hG).mono ?_
 rintro e w1 ⟨ps, hp, hlen, rfl, hc, hb⟩
 have HP := Lib.hid hp
 clear hp
 go_wp2
 go_loopg [10] (ps.length) (fun g i wr => ∃ k : Nat, k ≤ ps.length ∧ ps.length - k ≤ g ∧ i = .int .i64 k ∧ Aside (Below w1.heap.size w1 wr) ∧ Aside (∀ j, j < k → lab (ps.getD j ⟨#[]⟩).data.toList = true))
 case atStart => exact ⟨0, Nat.zero_le _, by omega, rfl, Below.refl _ _, fun j hj => absurd hj (Nat.not_lt_zero _)⟩
 case round =>
  obtain ⟨k, hk, hg, rfl, BW, A⟩ := hrel
  by_cases hlt : k < ps.length
  ·have hcell := (BW.out.cell (World.block_lt_of_cell? _ _ (hc k hlt))).trans (hc k hlt)
   have hsz : (ps.getD k ⟨#[]⟩).size ≤ 9223372036854775807 := Nat.le_trans (piece_size HP.out k) (by omega)
   clear hc
   generalize hy : ps.getD k ⟨#[]⟩ = y at hcell hsz
   have B := Lib.hid hy
   clear hy
   cases hq : lab y.data.toList with
   | true =>
    have hcall := isLabel_any y wr hsz
    rw [hq] at hcall
    have Q := Lib.hid hq
    clear hq
    go_wp2_with (go_at_call 74; refine hcall.mono ?_; rintro e w' ⟨rfl, hb'⟩)
    go_roundg (ps.length - (k + 1))
    case measure => omega
    case rel => exact ⟨k + 1, by omega, by omega, by go_num, BW.out.trans (hb'.mono BW.out.size), fun j hj => by
     by_cases e : j = k
     ·subst e; rw [B.out]; exact Q.out
     ·exact A.out j (by omega)⟩
   | false =>
    have hcall := isLabel_any y wr hsz
    rw [hq] at hcall
    have Q := Lib.hid hq
    clear hq
    go_wp2_with (go_at_call 74; refine hcall.mono ?_; rintro e w' ⟨rfl, hb'⟩)
    go_ret
    refine ⟨retb ?_, hb.trans ((BW.out.trans (hb'.mono BW.out.size)).mono hb.size)⟩
    rw [dom_pieces HP.out, all_getD_false _ _ ⟨#[]⟩ k hlt (by rw [B.out]; exact Q.out), Bool.false_and]
  ·have hk' : k = ps.length := by omega
   go_wp2
   go_ret
   refine ⟨retb ?_, hb.trans (BW.out.mono hb.size)⟩
   rw [dom_pieces HP.out, all_getD _ _ ⟨#[]⟩ (fun j hj => A.out j (by omega)), Bool.true_and]
   exact decide_eq_decide.2 (by omega)
end Go.Proofs.YticepbgacokbbaaGreatDoor
