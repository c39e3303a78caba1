/- A reader opened on bytes: a contract. -/
import Derived.Test.YticepbgacokbbaaDoorPick
namespace Go.Proofs.YticepbgacokbbaaDoor
open Go.RowKit Go.Proofs.YticepbgacokbbaaDoorW.PrintWords
set_option linter.unusedVariables false
set_option linter.unusedSimpArgs false

def fitBytes (xs : List Int) : Prop := xs.length ≤ 1048576 ∧ ∀ x ∈ xs, 0 ≤ x ∧ x ≤ 255
theorem at_Byte {w : World} {A : Option Addr} {n : Nat} {xs : List Int} (h : Kd.C (Kd.int .u8) w A n xs) (i : Nat) (h1 : i < n) : ∃ ad, A = some ad ∧ w.cell? (ad.add i) = some (.int .u8 (xs.getD i 0)) := by
 obtain ⟨ad, c, e, _, hK, hc0⟩ := Kd.C_get h (0 : Int) (i : Int) (by omega) (by omega)
 have hK' : c = [.int .u8 (xs.getD i (0 : Int))] := hK
 subst hK'
 have h0 := hc0 0 _ rfl
 have e1 : Int.toNat (i : Int) * (Kd.int .u8).sz + 0 = i := by show Int.toNat (i : Int) * 1 + 0 = i; omega
 rw [e1] at h0
 exact ⟨ad, e, h0⟩
theorem rd_new {w : World} {A : Option Addr} {xs : List Int} (hr : Kd.C (Kd.int .u8) w A xs.length xs) (hx : ∀ x ∈ xs, 0 ≤ x ∧ x ≤ 255) (n c : Nat) (hn : n ≤ 2000) (hl : n ≤ xs.length) : Rd w.heap.size 0 (w.alloc (.cells #[.slice A n c, .int .i64 0] 80)) := by
 refine ⟨A, n, c, 0, hn, Nat.le_refl _, blk_new _ _, fun k hk => ?_⟩
 obtain ⟨ad, e, h0⟩ := at_Byte hr k (by omega)
 have hlt := World.block_lt_of_cell? w _ h0
 rw [addr_block] at hlt
 have hm := hx (xs.getD k 0) (getD_mem xs 0 (by omega))
 exact ⟨ad, _, e, hlt, hm.1, hm.2, (World.cell?_of_block (Below.heap_alloc w _ _ (by rw [addr_block]; exact hlt))).trans h0⟩
set_option maxRecDepth 100000 in
set_option maxHeartbeats 1000000 in
theorem drOpen_any (A : Option Addr) (c : Nat) (xs : List Int) (w : World) (hw : fitBytes xs) (hc : xs.length ≤ c) (hr : Kd.C (Kd.int .u8) w A xs.length xs) :
  Calls Tryd.prog 36 #[.slice A xs.length c] w fun e w' => ∃ g, e = .returned (.pointer (some ⟨g, 0, none⟩)) ∧ w.heap.size ≤ g ∧ Rd g 0 w' ∧ Below w.heap.size w w' := by
 obtain ⟨hl, hx⟩ := hw
 have HN := Lib.hid (fun n c hn h => rd_new hr hx n c hn h)
 have B0 := Below.refl w.heap.size w
 clear hr hx
 generalize hL : xs.length = L at hl HN hc ⊢
 clear hL
 by_cases h2 : 2000 < L
 ·have h2' : (2000 : Int) < (L : Int) := by omega
  go_enter Tryd.func36, Tryd.ntmps36
  go_wp2
  go_ret
  exact ⟨_, rfl, Nat.le_refl _, HN.out _ _ (by omega) (by omega), bel_alloc B0 _⟩
 ·have h2' : ¬ (2000 : Int) < (L : Int) := by omega
  go_enter Tryd.func36, Tryd.ntmps36
  go_wp2
  go_ret
  exact ⟨_, rfl, Nat.le_refl _, HN.out _ _ (by omega) (by omega), bel_alloc B0 _⟩

end Go.Proofs.YticepbgacokbbaaDoor
