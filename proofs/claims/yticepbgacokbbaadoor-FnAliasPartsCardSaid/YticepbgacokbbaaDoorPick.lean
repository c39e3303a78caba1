/- The reader's words: what a pick, an `of`, a `one` may answer. -/
import Derived.Test.YticepbgacokbbaaDoorDrwK
import Derived.Laws.Bits64b
import Derived.Deep.QuietTactic
import Derived.IntWalk
namespace Go.Proofs.YticepbgacokbbaaDoor
open Go.RowKit Go.Proofs.YticepbgacokbbaaDoorW.PrintWords
set_option linter.unusedVariables false
set_option linter.unusedSimpArgs false

theorem xor_range (x y : Int) (hx : 0 ≤ x) (hx2 : x < 4611686018427387904) (hy : 0 ≤ y) (hy2 : y < 4611686018427387904) : 0 ≤ bits .xor .i64 x y ∧ bits .xor .i64 x y < 4611686018427387904 := by
 obtain ⟨a, rfl⟩ := Int.eq_ofNat_of_zero_le hx
 obtain ⟨b, rfl⟩ := Int.eq_ofNat_of_zero_le hy
 have h := Nat.xor_lt_two_pow (x := a) (y := b) (n := 62) (by omega) (by omega)
 have h1 : (BitVec.ofInt 64 (a : Int)).toNat = a := by
  rw [BitVec.ofInt_natCast, BitVec.toNat_ofNat]; exact Nat.mod_eq_of_lt (by omega)
 have h2 : (BitVec.ofInt 64 (b : Int)).toNat = b := by
  rw [BitVec.ofInt_natCast, BitVec.toNat_ofNat]; exact Nat.mod_eq_of_lt (by omega)
 show 0 ≤ IntKind.i64.wrap ((BitVec.ofInt 64 (a : Int) ^^^ BitVec.ofInt 64 (b : Int)).toNat : Int) ∧ IntKind.i64.wrap ((BitVec.ofInt 64 (a : Int) ^^^ BitVec.ofInt 64 (b : Int)).toNat : Int) < 4611686018427387904
 rw [BitVec.toNat_xor, h1, h2]
 generalize a ^^^ b = q at h
 simp [IntKind.wrap, IntKind.bits, IntKind.signed]
 omega
set_option maxHeartbeats 2000000 in
theorem pick_any (g m : Nat) (n : Int) (w : World) (h : Rd g m w) (hm : m ≤ 1000000000) (hn : n ≤ 1000000000) :
  Calls Tryd.prog 49 #[.pointer (some ⟨g, 0, none⟩), .int .i64 n] w fun e w' => ∃ k : Nat, e = .returned (.int .i64 (k : Int)) ∧ (0 < n → (k : Int) < n) ∧ Rd g (m + 1) w' ∧ Dr g w w' := by
 obtain ⟨A, l, c, p, hl, hp, hb, hs⟩ := h
 have c0 : w.cell? ⟨g, 0, none⟩ = some (.slice A l c) := by simp [World.cell?, hb]
 have c1 : w.cell? ⟨g, 1, none⟩ = some (.int .i64 (p : Int)) := by simp [World.cell?, hb]
 have f1 : w.frozen? ⟨g, 1, none⟩ = false := by simp [World.frozen?, hb]
 have hne : ∀ ad : Addr, ad.block < g → ∀ k, ¬ (⟨g, 1, none⟩ : Addr) = ad.add k := fun ad h k e => by have := congrArg Addr.block e; rw [addr_block] at this; simp at this; omega
 have HR : Hid (Rd g (m + 1) (w.setCell ⟨g, 1, none⟩ (.int .i64 ((p : Int) + 1)))) := Lib.hid ⟨A, l, c, p + 1, hl, by omega, (by rw [blk_set1 hb]; simp), fun k hk => by
  obtain ⟨ad, b, e, hg, h0, h1, hc⟩ := hs k hk
  exact ⟨ad, b, e, hg, h0, h1, (World.cell?_of_block (Below.heap_setCell w _ _ _ (by rw [addr_block]; show ad.block ≠ g; omega))).trans hc⟩⟩
 have HD : Hid (Dr g w (w.setCell ⟨g, 1, none⟩ (.int .i64 ((p : Int) + 1)))) := Lib.hid ((Dr.refl g w).set _ (.inr rfl))
 have HS := Lib.hid hs
 clear hs hb
 by_cases hn1 : n < 1
 ·go_enter Tryd.func49, Tryd.ntmps49
  go_wp2
  go_ret
  exact ⟨0, rfl, fun h => by omega, HR.out, HD.out⟩
 have hn1' : 1 ≤ n := by omega
 by_cases hl0 : l = 0
 ·subst hl0
  go_enter Tryd.func49, Tryd.ntmps49
  go_wp2
  go_ret
  exact ⟨0, rfl, fun h => by omega, HR.out, HD.out⟩
 have hl1 : ¬ ((l : Int) = 0) := by omega
 have hl2 : ((l : Int) == 0) = false := by simp [hl0]
 by_cases hk : p < l
 ·obtain ⟨ad, b, rfl, hg, h0, h1, hc⟩ := HS.out p hk
  have hn2 := hne ad hg p
  have hk' : (p : Int) < (l : Int) := by omega
  clear hne
  go_enter Tryd.func49, Tryd.ntmps49
  go_wp2
  go_ret
  refine ⟨(b % n).toNat, ?_, fun _ => ?_, HR.out, HD.out⟩
  ·show Ending.returned (.int .i64 (b % n)) = .returned (.int .i64 ((b % n).toNat : Int))
   rw [Int.toNat_of_nonneg (Int.emod_nonneg b (show n ≠ 0 by omega))]
  ·have := Int.emod_nonneg b (show n ≠ 0 by omega)
   have := Int.emod_lt_of_pos b (show 0 < n by omega)
   omega
 ·have hk' : ¬ (p : Int) < (l : Int) := by omega
  obtain ⟨ad, b, rfl, hg, h0, h1, hc⟩ := HS.out (p % l) (Nat.mod_lt _ (by omega))
  obtain ⟨ad2, d, e2, _, d0, d1, hd⟩ := HS.out ((p * 7 + 3) % l) (Nat.mod_lt _ (by omega))
  obtain rfl : ad = ad2 := by injection e2
  have hn2 := hne ad hg (p % l)
  have hn3 := hne ad hg ((p * 7 + 3) % l)
  have hj1 : (((p % l : Nat) : Int)) < (l : Int) := by have := Nat.mod_lt p (show 0 < l by omega); omega
  have hj2 : ((((p * 7 + 3) % l : Nat) : Int)) < (l : Int) := by have := Nat.mod_lt (p * 7 + 3) (show 0 < l by omega); omega
  have hq1 : p / l ≤ p := Nat.div_le_self _ _
  have e1 : (p : Int).tmod (l : Int) = ((p % l : Nat) : Int) := by rw [Int.tmod_eq_emod_of_nonneg (by omega)]; rfl
  have e2 : IntKind.i64.wrap ((p : Int) * 7) = (p : Int) * 7 := IntWalk.i64_in _ (by omega)
  have e3 : IntKind.i64.wrap ((p : Int) * 7 + 3) = (p : Int) * 7 + 3 := IntWalk.i64_in _ (by omega)
  have e4 : ((p : Int) * 7 + 3).tmod (l : Int) = (((p * 7 + 3) % l : Nat) : Int) := by rw [Int.tmod_eq_emod_of_nonneg (by omega)]; rfl
  have e5 : (p : Int).tdiv (l : Int) = ((p / l : Nat) : Int) := by rw [Int.tdiv_eq_ediv_of_nonneg (by omega)]; rfl
  generalize (p * 7 + 3) % l = j2 at *
  generalize p % l = j1 at *
  generalize p / l = q at *
  have e6 : IntKind.i64.wrap b = b := IntWalk.i64_in _ (by omega)
  have e7 : IntKind.i64.wrap d = d := IntWalk.i64_in _ (by omega)
  have e8 : IntKind.i64.wrap (b * 131) = b * 131 := IntWalk.i64_in _ (by omega)
  have e9 : IntKind.i64.wrap (d * 1117) = d * 1117 := IntWalk.i64_in _ (by omega)
  have e10 : IntKind.i64.wrap (b * 131 + d * 1117) = b * 131 + d * 1117 := IntWalk.i64_in _ (by omega)
  have e11 : IntKind.i64.wrap ((p : Int) * 29) = (p : Int) * 29 := IntWalk.i64_in _ (by omega)
  have e12 : IntKind.i64.wrap (b * 131 + d * 1117 + (p : Int) * 29) = b * 131 + d * 1117 + (p : Int) * 29 := IntWalk.i64_in _ (by omega)
  have e13 : IntKind.i64.wrap ((q : Int) * 53) = (q : Int) * 53 := IntWalk.i64_in _ (by omega)
  have e14 : IntKind.i64.wrap (b * 131 + d * 1117 + (p : Int) * 29 + (q : Int) * 53) = b * 131 + d * 1117 + (p : Int) * 29 + (q : Int) * 53 := IntWalk.i64_in _ (by omega)
  have hx : 0 ≤ b * 131 + d * 1117 + (p : Int) * 29 + (q : Int) * 53 ∧ b * 131 + d * 1117 + (p : Int) * 29 + (q : Int) * 53 ≤ 1000000000000 := by omega
  have HX := Lib.hid hx
  clear hne hx
  go_enter Tryd.func49, Tryd.ntmps49
  go_wp2
  go_quiet (fail)
  go_wp2
  have hz := xor_range (b * 131 + d * 1117 + (p : Int) * 29 + (q : Int) * 53) ((b * 131 + d * 1117 + (p : Int) * 29 + (q : Int) * 53) / 64) HX.out.1 (by have := HX.out.2; omega) (by have := HX.out.1; omega) (by have := HX.out.2; omega)
  generalize bits BinOp.xor IntKind.i64 (b * 131 + d * 1117 + (p : Int) * 29 + (q : Int) * 53) ((b * 131 + d * 1117 + (p : Int) * 29 + (q : Int) * 53) / 64) = z at hz
  go_ret
  refine ⟨(z.tmod n).toNat, ?_, fun _ => ?_, HR.out.drewN _, HD.out.drewN _⟩
  ·show Ending.returned (.int .i64 (z.tmod n)) = .returned (.int .i64 ((z.tmod n).toNat : Int))
   rw [Int.toNat_of_nonneg (by rw [Int.tmod_eq_emod_of_nonneg hz.1]; exact Int.emod_nonneg _ (by omega))]
  ·rw [Int.tmod_eq_emod_of_nonneg hz.1]
   have := Int.emod_nonneg z (show n ≠ 0 by omega)
   have := Int.emod_lt_of_pos z (show 0 < n by omega)
   omega
/-- All cells are short texts; all are numbers from lo to hi. -/
def strs (cs : Array Value) : Bool := cs.toList.all fun v => match v with | .string s => decide (s.size ≤ 64) | _ => false
def ints (lo hi : Int) (cs : Array Value) : Bool := cs.toList.all fun v => match v with | .int .i64 z => decide (lo ≤ z) && decide (z ≤ hi) | _ => false
theorem strs_at {cs : Array Value} (h : strs cs = true) (k : Nat) (hk : k < cs.size) : ∃ s, cs[k]? = some (.string s) ∧ s.size ≤ 64 := by
 have h1 := List.all_eq_true.1 h cs[k] (by simp)
 rw [Array.getElem?_eq_getElem hk]
 split at h1
 ·rename_i s e
  exact ⟨s, by rw [e], of_decide_eq_true h1⟩
 ·cases h1
theorem ints_at {lo hi : Int} {cs : Array Value} (h : ints lo hi cs = true) (k : Nat) (hk : k < cs.size) : ∃ z, cs[k]? = some (.int .i64 z) ∧ lo ≤ z ∧ z ≤ hi := by
 have h1 := List.all_eq_true.1 h cs[k] (by simp)
 rw [Array.getElem?_eq_getElem hk]
 split at h1
 ·rename_i z e
  rw [Bool.and_eq_true] at h1
  exact ⟨z, by rw [e], of_decide_eq_true h1.1, of_decide_eq_true h1.2⟩
 ·cases h1
set_option maxRecDepth 100000 in
theorem of_any (g m b n c : Nat) (cs : Array Value) (t : TypeId) (w : World) (h : Rd g m w) (hm : m ≤ 1000000000) (hb : w.heap[b]? = some (.cells cs t (0, 0))) (ht : t ≠ 80) (hn : n = cs.size) (hn0 : 0 < n) (hn1 : n ≤ 1000) (hs : strs cs = true) :
  Calls Tryd.prog 70 #[.pointer (some ⟨g, 0, none⟩), .slice (some ⟨b, 0, none⟩) n c] w fun e w' => ∃ s : ByteArray, e = .returned (.string s) ∧ s.size ≤ 64 ∧ Rd g (m + 1) w' ∧ Dr g w w' := by
 have hbg := h.ne hb ht
 have HN := Lib.hid hn
 clear hn
 go_enter Tryd.func70, Tryd.ntmps70
 go_wp2_with fail
 refine (pick_any g m n _ h hm (by omega)).mono ?_
 rintro e w1 ⟨k, rfl, hk, hr, hd⟩
 have hk1 := hk (by omega)
 have hk2 : k < n := by omega
 have hb1 := hd.blk hb hbg
 obtain ⟨s, h1, h2⟩ := strs_at hs k (by have := HN.out; omega)
 have hc : w1.cell? ⟨b, k, none⟩ = some (.string s) := (blk_cell hb1 k).trans h1
 have HR := Lib.hid hr
 have HD := Lib.hid hd
 clear hr hd hb hb1 h hs h1 hk
 go_wp2
 go_ret
 exact ⟨s, rfl, h2, HR.out, HD.out⟩
end Go.Proofs.YticepbgacokbbaaDoor
