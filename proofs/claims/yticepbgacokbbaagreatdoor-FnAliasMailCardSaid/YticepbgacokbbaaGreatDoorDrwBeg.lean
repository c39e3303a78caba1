/- The reader's words: what a pick, an `of`, a `one` may answer. -/
import Derived.Test.YticepbgacokbbaaGreatDoorDrwK
import Derived.Laws.Bits64b
import Derived.Deep.QuietTactic
import Derived.IntWalk
import Derived.Test.YticepbgacokbbaaGreatDoorReg
namespace Go.Proofs.YticepbgacokbbaaGreatDoor
open Go.RowKit Go.Proofs.YticepbgacokbbaaGreatDoorW.PrintWords
set_option linter.unusedVariables false
set_option linter.unusedSimpArgs false

theorem xor_range (x y : Int) (hx : 0 ≤ x) (hx2 : x < 4611686018427387904) (hy : 0 ≤ y) (hy2 : y < 4611686018427387904) : 0 ≤ bits .xor .i64 x y ∧ bits .xor .i64 x y < 4611686018427387904 := by
 obtain ⟨a, rfl⟩ := Int.eq_ofNat_of_zero_le hx
 obtain ⟨b, rfl⟩ := Int.eq_ofNat_of_zero_le hy
 have h := Nat.xor_lt_two_pow (x := a) (y := b) (n := 62) (by omega) (by omega)
 have h1 : (BitVec.ofInt 64 (a : Int)).toNat = a := by
  rw [BitVec.ofInt_natCast, BitVec.toNat_ofNat]; exact Nat.mod_eq_of_lt (by omega)
 have h2 : (BitVec.ofInt 64 (b : Int)).toNat = b := by
  rw [BitVec.ofInt_natCast, BitVec.toNat_ofNat]; exact Nat.mod_eq_of_lt (by omega)
 show 0 ≤ IntKind.i64.wrap ((BitVec.ofInt 64 (a : Int) ^^^ BitVec.ofInt 64 (b : Int)).toNat : Int) ∧ IntKind.i64.wrap ((BitVec.ofInt 64 (a : Int) ^^^ BitVec.ofInt 64 (b : Int)).toNat : Int) < 4611686018427387904
 rw [BitVec.toNat_xor, h1, h2]
 generalize a ^^^ b = q at h
 simp [IntKind.wrap, IntKind.bits, IntKind.signed]
 omega
set_option maxHeartbeats 2000000 in
theorem pick_any (g m : Nat) (n : Int) (w : World) (h : Rd g m w) (hm : m ≤ 1000000000) (hn : n ≤ 1000000000) :
  Calls Tryz.prog 24 #[.pointer (some ⟨g, 0, none⟩), .int .i64 n] w fun e w' => ∃ k : Nat, e = .returned (.int .i64 (k : Int)) ∧ (0 < n → (k : Int) < n) ∧ Rd g (m + 1) w' ∧ Dr g w w' := by
 obtain ⟨A, l, c, p, hl, hp, hb, hs⟩ := h
 have c0 : w.cell? ⟨g, 0, none⟩ = some (.slice A l c) := by simp [World.cell?, hb]
 have c1 : w.cell? ⟨g, 1, none⟩ = some (.int .i64 (p : Int)) := by simp [World.cell?, hb]
 have f1 : w.frozen? ⟨g, 1, none⟩ = false := by simp [World.frozen?, hb]
 have hne : ∀ ad : Addr, ad.block < g → ∀ k, ¬ (⟨g, 1, none⟩ : Addr) = ad.add k := fun ad h k e => by have := congrArg Addr.block e; rw [addr_block] at this; simp at this; omega
 have HR : Hid (Rd g (m + 1) (w.setCell ⟨g, 1, none⟩ (.int .i64 ((p : Int) + 1)))) := Lib.hid ⟨A, l, c, p + 1, hl, by omega, (by rw [blk_set1 hb]; simp), fun k hk => by
  obtain ⟨ad, b, e, hg, h0, h1, hc⟩ := hs k hk
  exact ⟨ad, b, e, hg, h0, h1, (World.cell?_of_block (Below.heap_setCell w _ _ _ (by rw [addr_block]; show ad.block ≠ g; omega))).trans hc⟩⟩
 have HD : Hid (Dr g w (w.setCell ⟨g, 1, none⟩ (.int .i64 ((p : Int) + 1)))) := Lib.hid ((Dr.refl g w).set _ (.inr rfl))
 have HS := Lib.hid hs
 clear hs hb
 by_cases hn1 : n < 1
 ·go_enter Tryz.func24, Tryz.ntmps24
  go_wp2
  go_ret
  exact ⟨0, rfl, fun h => by omega, HR.out, HD.out⟩
 have hn1' : 1 ≤ n := by omega
 by_cases hl0 : l = 0
 ·subst hl0
  go_enter Tryz.func24, Tryz.ntmps24
  go_wp2
  go_ret
  exact ⟨0, rfl, fun h => by omega, HR.out, HD.out⟩
 have hl1 : ¬ ((l : Int) = 0) := by omega
 have hl2 : ((l : Int) == 0) = false := by simp [hl0]
 by_cases hk : p < l
 ·obtain ⟨ad, b, rfl, hg, h0, h1, hc⟩ := HS.out p hk
  have hn2 := hne ad hg p
  have hk' : (p : Int) < (l : Int) := by omega
  clear hne
  go_enter Tryz.func24, Tryz.ntmps24
  go_wp2
  go_ret
  refine ⟨(b % n).toNat, ?_, fun _ => ?_, HR.out, HD.out⟩
  ·show Ending.returned (.int .i64 (b % n)) = .returned (.int .i64 ((b % n).toNat : Int))
   rw [Int.toNat_of_nonneg (Int.emod_nonneg b (show n ≠ 0 by omega))]
  ·have := Int.emod_nonneg b (show n ≠ 0 by omega)
   have := Int.emod_lt_of_pos b (show 0 < n by omega)
   omega
 ·have hk' : ¬ (p : Int) < (l : Int) := by omega
  obtain ⟨ad, b, rfl, hg, h0, h1, hc⟩ := HS.out (p % l) (Nat.mod_lt _ (by omega))
  obtain ⟨ad2, d, e2, _, d0, d1, hd⟩ := HS.out ((p * 7 + 3) % l) (Nat.mod_lt _ (by omega))
  obtain rfl : ad = ad2 := by injection e2
  have hn2 := hne ad hg (p % l)
  have hn3 := hne ad hg ((p * 7 + 3) % l)
  have hj1 : (((p % l : Nat) : Int)) < (l : Int) := by have := Nat.mod_lt p (show 0 < l by omega); omega
  have hj2 : ((((p * 7 + 3) % l : Nat) : Int)) < (l : Int) := by have := Nat.mod_lt (p * 7 + 3) (show 0 < l by omega); omega
  have hq1 : p / l ≤ p := Nat.div_le_self _ _
  have e1 : (p : Int).tmod (l : Int) = ((p % l : Nat) : Int) := by rw [Int.tmod_eq_emod_of_nonneg (by omega)]; rfl
  have e2 : IntKind.i64.wrap ((p : Int) * 7) = (p : Int) * 7 := IntWalk.i64_in _ (by omega)
  have e3 : IntKind.i64.wrap ((p : Int) * 7 + 3) = (p : Int) * 7 + 3 := IntWalk.i64_in _ (by omega)
  have e4 : ((p : Int) * 7 + 3).tmod (l : Int) = (((p * 7 + 3) % l : Nat) : Int) := by rw [Int.tmod_eq_emod_of_nonneg (by omega)]; rfl
  have e5 : (p : Int).tdiv (l : Int) = ((p / l : Nat) : Int) := by rw [Int.tdiv_eq_ediv_of_nonneg (by omega)]; rfl
  generalize (p * 7 + 3) % l = j2 at *
  generalize p % l = j1 at *
  generalize p / l = q at *
  have e6 : IntKind.i64.wrap b = b := IntWalk.i64_in _ (by omega)
  have e7 : IntKind.i64.wrap d = d := IntWalk.i64_in _ (by omega)
  have e8 : IntKind.i64.wrap (b * 131) = b * 131 := IntWalk.i64_in _ (by omega)
  have e9 : IntKind.i64.wrap (d * 1117) = d * 1117 := IntWalk.i64_in _ (by omega)
  have e10 : IntKind.i64.wrap (b * 131 + d * 1117) = b * 131 + d * 1117 := IntWalk.i64_in _ (by omega)
  have e11 : IntKind.i64.wrap ((p : Int) * 29) = (p : Int) * 29 := IntWalk.i64_in _ (by omega)
  have e12 : IntKind.i64.wrap (b * 131 + d * 1117 + (p : Int) * 29) = b * 131 + d * 1117 + (p : Int) * 29 := IntWalk.i64_in _ (by omega)
  have e13 : IntKind.i64.wrap ((q : Int) * 53) = (q : Int) * 53 := IntWalk.i64_in _ (by omega)
  have e14 : IntKind.i64.wrap (b * 131 + d * 1117 + (p : Int) * 29 + (q : Int) * 53) = b * 131 + d * 1117 + (p : Int) * 29 + (q : Int) * 53 := IntWalk.i64_in _ (by omega)
  have hx : 0 ≤ b * 131 + d * 1117 + (p : Int) * 29 + (q : Int) * 53 ∧ b * 131 + d * 1117 + (p : Int) * 29 + (q : Int) * 53 ≤ 1000000000000 := by omega
  have HX := Lib.hid hx
  clear hne hx
  go_enter Tryz.func24, Tryz.ntmps24
  go_wp2
  go_quiet (fail)
  go_wp2
  have hz := xor_range (b * 131 + d * 1117 + (p : Int) * 29 + (q : Int) * 53) ((b * 131 + d * 1117 + (p : Int) * 29 + (q : Int) * 53) / 64) HX.out.1 (by have := HX.out.2; omega) (by have := HX.out.1; omega) (by have := HX.out.2; omega)
  generalize bits BinOp.xor IntKind.i64 (b * 131 + d * 1117 + (p : Int) * 29 + (q : Int) * 53) ((b * 131 + d * 1117 + (p : Int) * 29 + (q : Int) * 53) / 64) = z at hz
  go_ret
  refine ⟨(z.tmod n).toNat, ?_, fun _ => ?_, HR.out.drewN _, HD.out.drewN _⟩
  ·show Ending.returned (.int .i64 (z.tmod n)) = .returned (.int .i64 ((z.tmod n).toNat : Int))
   rw [Int.toNat_of_nonneg (by rw [Int.tmod_eq_emod_of_nonneg hz.1]; exact Int.emod_nonneg _ (by omega))]
  ·rw [Int.tmod_eq_emod_of_nonneg hz.1]
   have := Int.emod_nonneg z (show n ≠ 0 by omega)
   have := Int.emod_lt_of_pos z (show 0 < n by omega)
   omega
/-- All cells are short texts; all are numbers from lo to hi. -/
def strs (cs : Array Value) : Bool := cs.toList.all fun v => match v with | .string s => decide (s.size ≤ 64) | _ => false
def ints (lo hi : Int) (cs : Array Value) : Bool := cs.toList.all fun v => match v with | .int .i64 z => decide (lo ≤ z) && decide (z ≤ hi) | _ => false
theorem strs_at {cs : Array Value} (h : strs cs = true) (k : Nat) (hk : k < cs.size) : ∃ s, cs[k]? = some (.string s) ∧ s.size ≤ 64 := by
 have h1 := List.all_eq_true.1 h cs[k] (by simp)
 rw [Array.getElem?_eq_getElem hk]
 split at h1
 ·rename_i s e
  exact ⟨s, by rw [e], of_decide_eq_true h1⟩
 ·cases h1
theorem ints_at {lo hi : Int} {cs : Array Value} (h : ints lo hi cs = true) (k : Nat) (hk : k < cs.size) : ∃ z, cs[k]? = some (.int .i64 z) ∧ lo ≤ z ∧ z ≤ hi := by
 have h1 := List.all_eq_true.1 h cs[k] (by simp)
 rw [Array.getElem?_eq_getElem hk]
 split at h1
 ·rename_i z e
  rw [Bool.and_eq_true] at h1
  exact ⟨z, by rw [e], of_decide_eq_true h1.1, of_decide_eq_true h1.2⟩
 ·cases h1
set_option maxRecDepth 100000 in
theorem of_any (g m b n c : Nat) (cs : Array Value) (t : TypeId) (w : World) (h : Rd g m w) (hm : m ≤ 1000000000) (hb : w.heap[b]? = some (.cells cs t (0, 0))) (ht : t ≠ 89) (hn : n = cs.size) (hn0 : 0 < n) (hn1 : n ≤ 1000) (hs : strs cs = true) :
  Calls Tryz.prog 81 #[.pointer (some ⟨g, 0, none⟩), .slice (some ⟨b, 0, none⟩) n c] w fun e w' => ∃ s : ByteArray, e = .returned (.string s) ∧ s.size ≤ 64 ∧ Rd g (m + 1) w' ∧ Dr g w w' := by
 have hbg := h.ne hb ht
 have HN := Lib.hid hn
 clear hn
 go_enter Tryz.func81, Tryz.ntmps81
 go_wp2_with fail
 refine (pick_any g m n _ h hm (by omega)).mono ?_
 rintro e w1 ⟨k, rfl, hk, hr, hd⟩
 have hk1 := hk (by omega)
 have hk2 : k < n := by omega
 have hb1 := hd.blk hb hbg
 obtain ⟨s, h1, h2⟩ := strs_at hs k (by have := HN.out; omega)
 have hc : w1.cell? ⟨b, k, none⟩ = some (.string s) := (blk_cell hb1 k).trans h1
 have HR := Lib.hid hr
 have HD := Lib.hid hd
 clear hr hd hb hb1 h hs h1 hk
 go_wp2
 go_ret
 exact ⟨s, rfl, h2, HR.out, HD.out⟩
set_option maxRecDepth 100000 in
theorem one_any (lo hi : Int) (g m b n c : Nat) (cs : Array Value) (t : TypeId) (w : World) (h : Rd g m w) (hm : m ≤ 1000000000) (hb : w.heap[b]? = some (.cells cs t (0, 0))) (ht : t ≠ 89) (hn : n = cs.size) (hn0 : 0 < n) (hn1 : n ≤ 1000) (hs : ints lo hi cs = true) :
  Calls Tryz.prog 84 #[.pointer (some ⟨g, 0, none⟩), .slice (some ⟨b, 0, none⟩) n c] w fun e w' => ∃ z : Int, e = .returned (.int .i64 z) ∧ (lo ≤ z ∧ z ≤ hi) ∧ Rd g (m + 1) w' ∧ Dr g w w' := by
 have hbg := h.ne hb ht
 have HN := Lib.hid hn
 clear hn
 go_enter Tryz.func84, Tryz.ntmps84
 go_wp2_with fail
 refine (pick_any g m n _ h hm (by omega)).mono ?_
 rintro e w1 ⟨k, rfl, hk, hr, hd⟩
 have hk1 := hk (by omega)
 have hk2 : k < n := by omega
 have hb1 := hd.blk hb hbg
 obtain ⟨z, h1, h2⟩ := ints_at hs k (by have := HN.out; omega)
 have hc : w1.cell? ⟨b, k, none⟩ = some (.int .i64 z) := (blk_cell hb1 k).trans h1
 have HR := Lib.hid hr
 have HD := Lib.hid hd
 clear hr hd hb hb1 h hs h1 hk
 go_wp2
 go_ret
 exact ⟨z, rfl, h2, HR.out, HD.out⟩
end Go.Proofs.YticepbgacokbbaaGreatDoor

/- A reader opened on bytes: a contract. -/
namespace Go.Proofs.YticepbgacokbbaaGreatDoor
open Go.RowKit Go.Proofs.YticepbgacokbbaaGreatDoorW.PrintWords
set_option linter.unusedVariables false
set_option linter.unusedSimpArgs false

def fitBytes (xs : List Int) : Prop := xs.length ≤ 1048576 ∧ ∀ x ∈ xs, 0 ≤ x ∧ x ≤ 255
theorem at_Byte {w : World} {A : Option Addr} {n : Nat} {xs : List Int} (h : Kd.C (Kd.int .u8) w A n xs) (i : Nat) (h1 : i < n) : ∃ ad, A = some ad ∧ w.cell? (ad.add i) = some (.int .u8 (xs.getD i 0)) := by
 obtain ⟨ad, c, e, _, hK, hc0⟩ := Kd.C_get h (0 : Int) (i : Int) (by omega) (by omega)
 have hK' : c = [.int .u8 (xs.getD i (0 : Int))] := hK
 subst hK'
 have h0 := hc0 0 _ rfl
 have e1 : Int.toNat (i : Int) * (Kd.int .u8).sz + 0 = i := by show Int.toNat (i : Int) * 1 + 0 = i; omega
 rw [e1] at h0
 exact ⟨ad, e, h0⟩
theorem rd_new {w : World} {A : Option Addr} {xs : List Int} (hr : Kd.C (Kd.int .u8) w A xs.length xs) (hx : ∀ x ∈ xs, 0 ≤ x ∧ x ≤ 255) (n c : Nat) (hn : n ≤ 2000) (hl : n ≤ xs.length) : Rd w.heap.size 0 (w.alloc (.cells #[.slice A n c, .int .i64 0] 89)) := by
 refine ⟨A, n, c, 0, hn, Nat.le_refl _, blk_new _ _, fun k hk => ?_⟩
 obtain ⟨ad, e, h0⟩ := at_Byte hr k (by omega)
 have hlt := World.block_lt_of_cell? w _ h0
 rw [addr_block] at hlt
 have hm := hx (xs.getD k 0) (getD_mem xs 0 (by omega))
 exact ⟨ad, _, e, hlt, hm.1, hm.2, (World.cell?_of_block (Below.heap_alloc w _ _ (by rw [addr_block]; exact hlt))).trans h0⟩
set_option maxRecDepth 100000 in
set_option maxHeartbeats 1000000 in
theorem drOpen_any (A : Option Addr) (c : Nat) (xs : List Int) (w : World) (hw : fitBytes xs) (hc : xs.length ≤ c) (hr : Kd.C (Kd.int .u8) w A xs.length xs) :
  Calls Tryz.prog 21 #[.slice A xs.length c] w fun e w' => ∃ g, e = .returned (.pointer (some ⟨g, 0, none⟩)) ∧ w.heap.size ≤ g ∧ Rd g 0 w' ∧ Below w.heap.size w w' := by
 obtain ⟨hl, hx⟩ := hw
 have HN := Lib.hid (fun n c hn h => rd_new hr hx n c hn h)
 have B0 := Below.refl w.heap.size w
 clear hr hx
 generalize hL : xs.length = L at hl HN hc ⊢
 clear hL
 by_cases h2 : 2000 < L
 ·have h2' : (2000 : Int) < (L : Int) := by omega
  go_enter Tryz.func21, Tryz.ntmps21
  go_wp2
  go_ret
  exact ⟨_, rfl, Nat.le_refl _, HN.out _ _ (by omega) (by omega), bel_alloc B0 _⟩
 ·have h2' : ¬ (2000 : Int) < (L : Int) := by omega
  go_enter Tryz.func21, Tryz.ntmps21
  go_wp2
  go_ret
  exact ⟨_, rfl, Nat.le_refl _, HN.out _ _ (by omega) (by omega), bel_alloc B0 _⟩

end Go.Proofs.YticepbgacokbbaaGreatDoor

/- Drawn addresses and lines: weak contracts. -/
namespace Go.Proofs.YticepbgacokbbaaGreatDoor
open Go.RowKit Go.Proofs.YticepbgacokbbaaGreatDoorW.PrintWords
set_option linter.unusedVariables false
set_option linter.unusedSimpArgs false

theorem dcell {g : Nat} {w w1 : World} (t : Dr g w w1) : (∀ b o, b < w.heap.size → ¬ b = g → w1.cell? ⟨b, o, none⟩ = w.cell? ⟨b, o, none⟩) ∧ (∀ b o, b < w.heap.size → ¬ b = g → w1.frozen? ⟨b, o, none⟩ = w.frozen? ⟨b, o, none⟩) :=
 ⟨fun b _ hb hn => World.cell?_of_block (t.block b hb hn), fun b _ hb hn => World.frozen?_of_block (t.block b hb hn)⟩
def smallA (a : SAddr) : Prop := a.f0.size ≤ 64 ∧ a.f1.size ≤ 64
set_option maxRecDepth 100000 in
set_option maxHeartbeats 4000000 in
theorem drDomain_any (g m : Nat) (w : World) (h : Rd g m w) (hm : m + 1 ≤ 1000000000) :
  Calls Tryz.prog 96 #[.pointer (some ⟨g, 0, none⟩)] w fun e w' => ∃ s : ByteArray, e = .returned (.string s) ∧ s.size ≤ 64 ∧ Rd g (m + 1) w' ∧ Dr g w w' := by
 have HR := Aside0.mk h
 have HD := Aside0.mk (Dr.refl g w)
 have hgl := h.lt
 have ng0 : ¬ w.heap.size = g := by omega
 have ng1 : ¬ w.heap.size + 1 = g := by omega
 have ng2 : ¬ w.heap.size + 2 = g := by omega
 clear h
 go_enter Tryz.func96, Tryz.ntmps96
 go_wp2_with (go_at_call 81; (with_reducible refine Calls.mono (of_any g _ _ _ _ _ _ _ (Rd.at HR.out (by (with_reducible repeat (first | exact Keep.refl (Rd.lt HR.out) | refine Keep.alloc ?_ _ | refine Keep.drewN ?_ _ | refine Keep.drew ?_ | refine Keep.set ?_ _ ?_)); all_goals (first | (simp; done) | (simp; omega) | omega))) (by omega) (blk_at _ _ (by first | (simp; done) | (simp; omega))) (by decide) (by decide) (by decide) (by decide) (by decide)) ?_); (rintro e w1 ⟨s1, rfl, hs1, hr_, hd_⟩); (have y1 := hd_.size); ((try simp at y1)); (have hd2_ : Dr g w w1 := Dr.then_ (by (with_reducible repeat (first | exact HD.out | refine Dr.alloc ?_ _ | refine Dr.drewN ?_ _ | refine Dr.drew ?_ | refine Dr.set ?_ _ ?_)); all_goals (first | (left; simp; done) | (left; simp; omega) | (left; omega) | (right; rfl))) hd_); (clear HR HD); (have HR := Aside0.mk hr_); (have HD := Aside0.mk hd2_); (clear hr_ hd_ hd2_))
 go_ret
 exact ⟨_, rfl, hs1, HR.out, HD.out⟩

set_option maxRecDepth 100000 in
set_option maxHeartbeats 4000000 in
theorem drLine_any (g m : Nat) (w : World) (h : Rd g m w) (hm : m + 1 ≤ 1000000000) :
  Calls Tryz.prog 97 #[.pointer (some ⟨g, 0, none⟩)] w fun e w' => ∃ s : ByteArray, e = .returned (.string s) ∧ s.size ≤ 64 ∧ Rd g (m + 1) w' ∧ Dr g w w' := by
 have HR := Aside0.mk h
 have HD := Aside0.mk (Dr.refl g w)
 have hgl := h.lt
 have ng0 : ¬ w.heap.size = g := by omega
 have ng1 : ¬ w.heap.size + 1 = g := by omega
 have ng2 : ¬ w.heap.size + 2 = g := by omega
 clear h
 go_enter Tryz.func97, Tryz.ntmps97
 go_wp2_with (go_at_call 81; (with_reducible refine Calls.mono (of_any g _ _ _ _ _ _ _ (Rd.at HR.out (by (with_reducible repeat (first | exact Keep.refl (Rd.lt HR.out) | refine Keep.alloc ?_ _ | refine Keep.drewN ?_ _ | refine Keep.drew ?_ | refine Keep.set ?_ _ ?_)); all_goals (first | (simp; done) | (simp; omega) | omega))) (by omega) (blk_at _ _ (by first | (simp; done) | (simp; omega))) (by decide) (by decide) (by decide) (by decide) (by decide)) ?_); (rintro e w1 ⟨s1, rfl, hs1, hr_, hd_⟩); (have y1 := hd_.size); ((try simp at y1)); (have hd2_ : Dr g w w1 := Dr.then_ (by (with_reducible repeat (first | exact HD.out | refine Dr.alloc ?_ _ | refine Dr.drewN ?_ _ | refine Dr.drew ?_ | refine Dr.set ?_ _ ?_)); all_goals (first | (left; simp; done) | (left; simp; omega) | (left; omega) | (right; rfl))) hd_); (clear HR HD); (have HR := Aside0.mk hr_); (have HD := Aside0.mk hd2_); (clear hr_ hd_ hd2_))
 go_ret
 exact ⟨_, rfl, hs1, HR.out, HD.out⟩

set_option maxRecDepth 100000 in
set_option maxHeartbeats 4000000 in
theorem drAddr_any (g m : Nat) (w : World) (h : Rd g m w) (hm : m + 2 ≤ 1000000000) :
  Calls Tryz.prog 82 #[.pointer (some ⟨g, 0, none⟩)] w fun e w' => ∃ a : SAddr, e = .returned (.agg #[.string a.f0, .string a.f1]) ∧ smallA a ∧ Rd g (m + 2) w' ∧ Dr g w w' := by
 have HR := Aside0.mk h
 have HD := Aside0.mk (Dr.refl g w)
 have hgl := h.lt
 have ng0 : ¬ w.heap.size = g := by omega
 have ng1 : ¬ w.heap.size + 1 = g := by omega
 have ng2 : ¬ w.heap.size + 2 = g := by omega
 clear h
 go_enter Tryz.func82, Tryz.ntmps82
 go_wp2_with (first | (go_at_call 81; (with_reducible refine Calls.mono (of_any g _ _ _ _ _ _ _ (Rd.at HR.out (by (with_reducible repeat (first | exact Keep.refl (Rd.lt HR.out) | refine Keep.alloc ?_ _ | refine Keep.drewN ?_ _ | refine Keep.drew ?_ | refine Keep.set ?_ _ ?_)); all_goals (first | (simp; done) | (simp; omega) | omega))) (by omega) (blk_at _ _ (by first | (simp; done) | (simp; omega))) (by decide) (by decide) (by decide) (by decide) (by decide)) ?_); (rintro e w1 ⟨s1, rfl, hs1, hr_, hd_⟩); (have y1 := hd_.size); ((try simp at y1)); (have nF0 : w1.heap[w.heap.size]? = some (.cells #[.string ⟨#[]⟩, .string ⟨#[]⟩] 25 (0, 0)) := hd_.blk (by (with_reducible repeat (first | exact blk_at _ _ (by first | (simp; done) | (simp; omega)) | refine blk_alloc ?_ _ | refine blk_drew ?_ | refine blk_drewN ?_ _ | refine blk_set ?_ _ _ | refine blk_far ?_ ?_ _)); all_goals (first | (simp; done) | (simp; omega) | omega)) (by omega)); (have F0 := Aside0.mk nF0); (have cF0_0 : w1.cell? ⟨w.heap.size, 0, none⟩ = some (.string ⟨#[]⟩) := (by simp [World.cell?, nF0])); (have cF0_1 : w1.cell? ⟨w.heap.size, 1, none⟩ = some (.string ⟨#[]⟩) := (by simp [World.cell?, nF0])); (have dF0_0 : w1.frozen? ⟨w.heap.size, 0, none⟩ = false := (by simp [World.frozen?, nF0])); (have dF0_1 : w1.frozen? ⟨w.heap.size, 1, none⟩ = false := (by simp [World.frozen?, nF0])); (clear nF0); (have hd2_ : Dr g w w1 := Dr.then_ (by (with_reducible repeat (first | exact HD.out | refine Dr.alloc ?_ _ | refine Dr.drewN ?_ _ | refine Dr.drew ?_ | refine Dr.set ?_ _ ?_)); all_goals (first | (left; simp; done) | (left; simp; omega) | (left; omega) | (right; rfl))) hd_); (clear HR HD); (have HR := Aside0.mk hr_); (have HD := Aside0.mk hd2_); (clear hr_ hd_ hd2_)) | (go_at_call 96; (with_reducible refine Calls.mono (drDomain_any g _ _ (Rd.at HR.out (by (with_reducible repeat (first | exact Keep.refl (Rd.lt HR.out) | refine Keep.alloc ?_ _ | refine Keep.drewN ?_ _ | refine Keep.drew ?_ | refine Keep.set ?_ _ ?_)); all_goals (first | (simp; done) | (simp; omega) | omega))) (by omega)) ?_); (rintro e w2 ⟨s2, rfl, hs2, hr_, hd_⟩); (have y2 := hd_.size); ((try simp at y2)); (have nF0 : w2.heap[w.heap.size]? = some (.cells #[.string ⟨#[]⟩, .string ⟨#[]⟩] 25 (0, 0)) := hd_.blk (by (with_reducible repeat (first | exact blk_at _ _ (by first | (simp; done) | (simp; omega)) | exact F0.out | refine blk_alloc ?_ _ | refine blk_drew ?_ | refine blk_drewN ?_ _ | refine blk_set ?_ _ _ | refine blk_far ?_ ?_ _)); all_goals (first | (simp; done) | (simp; omega) | omega)) (by omega)); ((try clear cF0_0 cF0_1)); ((try clear dF0_0 dF0_1)); (clear F0); (have F0 := Aside0.mk nF0); (have cF0_0 : w2.cell? ⟨w.heap.size, 0, none⟩ = some (.string ⟨#[]⟩) := (by simp [World.cell?, nF0])); (have cF0_1 : w2.cell? ⟨w.heap.size, 1, none⟩ = some (.string ⟨#[]⟩) := (by simp [World.cell?, nF0])); (have dF0_0 : w2.frozen? ⟨w.heap.size, 0, none⟩ = false := (by simp [World.frozen?, nF0])); (have dF0_1 : w2.frozen? ⟨w.heap.size, 1, none⟩ = false := (by simp [World.frozen?, nF0])); (clear nF0); (have hd2_ : Dr g w w2 := Dr.then_ (by (with_reducible repeat (first | exact HD.out | refine Dr.alloc ?_ _ | refine Dr.drewN ?_ _ | refine Dr.drew ?_ | refine Dr.set ?_ _ ?_)); all_goals (first | (left; simp; done) | (left; simp; omega) | (left; omega) | (right; rfl))) hd_); (clear HR HD); (have HR := Aside0.mk hr_); (have HD := Aside0.mk hd2_); (clear hr_ hd_ hd2_)))
 refine bodyPost_ret (v := .agg #[.string s1, .string s2]) ?hr rfl ?hp
 case hr => simp [results, Tryz.results82, go_sem, cF0_0, cF0_1]
 case hp => exact ⟨⟨s1, s2⟩, rfl, ⟨hs1, hs2⟩, (Rd.at HR.out (by (with_reducible repeat (first | exact Keep.refl (Rd.lt HR.out) | refine Keep.alloc ?_ _ | refine Keep.drewN ?_ _ | refine Keep.drew ?_ | refine Keep.set ?_ _ ?_)); all_goals (first | (simp; done) | (simp; omega) | omega))).up (by omega), by (with_reducible repeat (first | exact HD.out | refine Dr.alloc ?_ _ | refine Dr.drewN ?_ _ | refine Dr.drew ?_ | refine Dr.set ?_ _ ?_)); all_goals (first | (left; simp; done) | (left; simp; omega) | (left; omega) | (right; rfl))⟩

set_option maxRecDepth 100000 in
set_option maxHeartbeats 4000000 in
theorem drAnyAddr_any (g m : Nat) (w : World) (h : Rd g m w) (hm : m + 4 ≤ 1000000000) :
  Calls Tryz.prog 61 #[.pointer (some ⟨g, 0, none⟩)] w fun e w' => ∃ a : SAddr, e = .returned (.agg #[.string a.f0, .string a.f1]) ∧ smallA a ∧ Rd g (m + 4) w' ∧ Dr g w w' := by
 have HR := Aside0.mk h
 have HD := Aside0.mk (Dr.refl g w)
 have hgl := h.lt
 have ng0 : ¬ w.heap.size = g := by omega
 have ng1 : ¬ w.heap.size + 1 = g := by omega
 have ng2 : ¬ w.heap.size + 2 = g := by omega
 clear h
 go_enter Tryz.func61, Tryz.ntmps61
 go_wp2_with (first | (go_at_call 82; (with_reducible refine Calls.mono (drAddr_any g _ _ (Rd.at HR.out (by (with_reducible repeat (first | exact Keep.refl (Rd.lt HR.out) | refine Keep.alloc ?_ _ | refine Keep.drewN ?_ _ | refine Keep.drew ?_ | refine Keep.set ?_ _ ?_)); all_goals (first | (simp; done) | (simp; omega) | omega))) (by omega)) ?_); (rintro e w1 ⟨a1, rfl, hs1, hr_, hd_⟩); (have y1 := hd_.size); ((try simp at y1)); (have nF0 : w1.heap[w.heap.size]? = some (.cells #[.string ⟨#[]⟩, .string ⟨#[]⟩] 25 (0, 0)) := hd_.blk (by (with_reducible repeat (first | exact blk_at _ _ (by first | (simp; done) | (simp; omega)) | refine blk_alloc ?_ _ | refine blk_drew ?_ | refine blk_drewN ?_ _ | refine blk_set ?_ _ _ | refine blk_far ?_ ?_ _)); all_goals (first | (simp; done) | (simp; omega) | omega)) (by omega)); (have F0 := Aside0.mk nF0); (have cF0_0 : w1.cell? ⟨w.heap.size, 0, none⟩ = some (.string ⟨#[]⟩) := (by simp [World.cell?, nF0])); (have cF0_1 : w1.cell? ⟨w.heap.size, 1, none⟩ = some (.string ⟨#[]⟩) := (by simp [World.cell?, nF0])); (have dF0_0 : w1.frozen? ⟨w.heap.size, 0, none⟩ = false := (by simp [World.frozen?, nF0])); (have dF0_1 : w1.frozen? ⟨w.heap.size, 1, none⟩ = false := (by simp [World.frozen?, nF0])); (clear nF0); (have hd2_ : Dr g w w1 := Dr.then_ (by (with_reducible repeat (first | exact HD.out | refine Dr.alloc ?_ _ | refine Dr.drewN ?_ _ | refine Dr.drew ?_ | refine Dr.set ?_ _ ?_)); all_goals (first | (left; simp; done) | (left; simp; omega) | (left; omega) | (right; rfl))) hd_); (clear HR HD); (have HR := Aside0.mk hr_); (have HD := Aside0.mk hd2_); (clear hr_ hd_ hd2_)) | (go_at_call 24; (with_reducible refine Calls.mono (pick_any g _ _ _ (Rd.at HR.out (by (with_reducible repeat (first | exact Keep.refl (Rd.lt HR.out) | refine Keep.alloc ?_ _ | refine Keep.drewN ?_ _ | refine Keep.drew ?_ | refine Keep.set ?_ _ ?_)); all_goals (first | (simp; done) | (simp; omega) | omega))) (by omega) (by omega)) ?_); (rintro e w2 ⟨k2, rfl, hk2, hr_, hd_⟩); (have y2 := hd_.size); ((try simp at y2)); (have nF0 : w2.heap[w.heap.size]? = some (.cells #[.string ⟨#[]⟩, .string ⟨#[]⟩] 25 (0, 0)) := hd_.blk (by (with_reducible repeat (first | exact blk_at _ _ (by first | (simp; done) | (simp; omega)) | exact F0.out | refine blk_alloc ?_ _ | refine blk_drew ?_ | refine blk_drewN ?_ _ | refine blk_set ?_ _ _ | refine blk_far ?_ ?_ _)); all_goals (first | (simp; done) | (simp; omega) | omega)) (by omega)); (have nF1 : w2.heap[w1.heap.size]? = some (.cells #[.string a1.f0, .string a1.f1] 25 (0, 0)) := hd_.blk (by (with_reducible repeat (first | exact blk_at _ _ (by first | (simp; done) | (simp; omega)) | refine blk_alloc ?_ _ | refine blk_drew ?_ | refine blk_drewN ?_ _ | refine blk_set ?_ _ _ | refine blk_far ?_ ?_ _)); all_goals (first | (simp; done) | (simp; omega) | omega)) (by omega)); ((try clear cF0_0 cF0_1)); ((try clear dF0_0 dF0_1)); (clear F0); (have F0 := Aside0.mk nF0); (have cF0_0 : w2.cell? ⟨w.heap.size, 0, none⟩ = some (.string ⟨#[]⟩) := (by simp [World.cell?, nF0])); (have cF0_1 : w2.cell? ⟨w.heap.size, 1, none⟩ = some (.string ⟨#[]⟩) := (by simp [World.cell?, nF0])); (have dF0_0 : w2.frozen? ⟨w.heap.size, 0, none⟩ = false := (by simp [World.frozen?, nF0])); (have dF0_1 : w2.frozen? ⟨w.heap.size, 1, none⟩ = false := (by simp [World.frozen?, nF0])); (clear nF0); (have F1 := Aside0.mk nF1); (have cF1_0 : w2.cell? ⟨w1.heap.size, 0, none⟩ = some (.string a1.f0) := (by simp [World.cell?, nF1])); (have cF1_1 : w2.cell? ⟨w1.heap.size, 1, none⟩ = some (.string a1.f1) := (by simp [World.cell?, nF1])); (have dF1_0 : w2.frozen? ⟨w1.heap.size, 0, none⟩ = false := (by simp [World.frozen?, nF1])); (have dF1_1 : w2.frozen? ⟨w1.heap.size, 1, none⟩ = false := (by simp [World.frozen?, nF1])); (clear nF1); (have hd2_ : Dr g w w2 := Dr.then_ (by (with_reducible repeat (first | exact HD.out | refine Dr.alloc ?_ _ | refine Dr.drewN ?_ _ | refine Dr.drew ?_ | refine Dr.set ?_ _ ?_)); all_goals (first | (left; simp; done) | (left; simp; omega) | (left; omega) | (right; rfl))) hd_); (clear HR HD); (have HR := Aside0.mk hr_); (have HD := Aside0.mk hd2_); (clear hr_ hd_ hd2_)) | (go_at_call 81; (with_reducible refine Calls.mono (of_any g _ _ _ _ _ _ _ (Rd.at HR.out (by (with_reducible repeat (first | exact Keep.refl (Rd.lt HR.out) | refine Keep.alloc ?_ _ | refine Keep.drewN ?_ _ | refine Keep.drew ?_ | refine Keep.set ?_ _ ?_)); all_goals (first | (simp; done) | (simp; omega) | omega))) (by omega) (blk_at _ _ (by first | (simp; done) | (simp; omega))) (by decide) (by decide) (by decide) (by decide) (by decide)) ?_); (rintro e w3 ⟨s3, rfl, hs3, hr_, hd_⟩); (have y3 := hd_.size); ((try simp at y3)); (have nF0 : w3.heap[w.heap.size]? = some (.cells #[.string ⟨#[]⟩, .string ⟨#[]⟩] 25 (0, 0)) := hd_.blk (by (with_reducible repeat (first | exact blk_at _ _ (by first | (simp; done) | (simp; omega)) | exact F0.out | refine blk_alloc ?_ _ | refine blk_drew ?_ | refine blk_drewN ?_ _ | refine blk_set ?_ _ _ | refine blk_far ?_ ?_ _)); all_goals (first | (simp; done) | (simp; omega) | omega)) (by omega)); (have nF1 : w3.heap[w1.heap.size]? = some (.cells #[.string a1.f0, .string a1.f1] 25 (0, 0)) := hd_.blk (by (with_reducible repeat (first | exact blk_at _ _ (by first | (simp; done) | (simp; omega)) | exact F1.out | refine blk_alloc ?_ _ | refine blk_drew ?_ | refine blk_drewN ?_ _ | refine blk_set ?_ _ _ | refine blk_far ?_ ?_ _)); all_goals (first | (simp; done) | (simp; omega) | omega)) (by omega)); ((try clear cF0_0 cF0_1)); ((try clear dF0_0 dF0_1)); ((try clear cF1_0 cF1_1)); ((try clear dF1_0 dF1_1)); (clear F0 F1); (have F0 := Aside0.mk nF0); (have cF0_0 : w3.cell? ⟨w.heap.size, 0, none⟩ = some (.string ⟨#[]⟩) := (by simp [World.cell?, nF0])); (have cF0_1 : w3.cell? ⟨w.heap.size, 1, none⟩ = some (.string ⟨#[]⟩) := (by simp [World.cell?, nF0])); (have dF0_0 : w3.frozen? ⟨w.heap.size, 0, none⟩ = false := (by simp [World.frozen?, nF0])); (have dF0_1 : w3.frozen? ⟨w.heap.size, 1, none⟩ = false := (by simp [World.frozen?, nF0])); (clear nF0); (have F1 := Aside0.mk nF1); (have cF1_0 : w3.cell? ⟨w1.heap.size, 0, none⟩ = some (.string a1.f0) := (by simp [World.cell?, nF1])); (have cF1_1 : w3.cell? ⟨w1.heap.size, 1, none⟩ = some (.string a1.f1) := (by simp [World.cell?, nF1])); (have dF1_0 : w3.frozen? ⟨w1.heap.size, 0, none⟩ = false := (by simp [World.frozen?, nF1])); (have dF1_1 : w3.frozen? ⟨w1.heap.size, 1, none⟩ = false := (by simp [World.frozen?, nF1])); (clear nF1); (have hd2_ : Dr g w w3 := Dr.then_ (by (with_reducible repeat (first | exact HD.out | refine Dr.alloc ?_ _ | refine Dr.drewN ?_ _ | refine Dr.drew ?_ | refine Dr.set ?_ _ ?_)); all_goals (first | (left; simp; done) | (left; simp; omega) | (left; omega) | (right; rfl))) hd_); (clear HR HD); (have HR := Aside0.mk hr_); (have HD := Aside0.mk hd2_); (clear hr_ hd_ hd2_)))
 ·refine bodyPost_ret (v := .agg #[.string s3, .string a1.f1]) ?hrA rfl ?hpA
  case hrA => simp [results, Tryz.results61, go_sem, cF0_0, cF0_1]
  case hpA => exact ⟨⟨s3, a1.f1⟩, rfl, ⟨hs3, hs1.2⟩, (Rd.at HR.out (by (with_reducible repeat (first | exact Keep.refl (Rd.lt HR.out) | refine Keep.alloc ?_ _ | refine Keep.drewN ?_ _ | refine Keep.drew ?_ | refine Keep.set ?_ _ ?_)); all_goals (first | (simp; done) | (simp; omega) | omega))).up (by omega), by (with_reducible repeat (first | exact HD.out | refine Dr.alloc ?_ _ | refine Dr.drewN ?_ _ | refine Dr.drew ?_ | refine Dr.set ?_ _ ?_)); all_goals (first | (left; simp; done) | (left; simp; omega) | (left; omega) | (right; rfl))⟩
 ·refine bodyPost_ret (v := .agg #[.string a1.f0, .string s3]) ?hrB rfl ?hpB
  case hrB => simp [results, Tryz.results61, go_sem, cF0_0, cF0_1]
  case hpB => exact ⟨⟨a1.f0, s3⟩, rfl, ⟨hs1.1, hs3⟩, (Rd.at HR.out (by (with_reducible repeat (first | exact Keep.refl (Rd.lt HR.out) | refine Keep.alloc ?_ _ | refine Keep.drewN ?_ _ | refine Keep.drew ?_ | refine Keep.set ?_ _ ?_)); all_goals (first | (simp; done) | (simp; omega) | omega))).up (by omega), by (with_reducible repeat (first | exact HD.out | refine Dr.alloc ?_ _ | refine Dr.drewN ?_ _ | refine Dr.drew ?_ | refine Dr.set ?_ _ ?_)); all_goals (first | (left; simp; done) | (left; simp; omega) | (left; omega) | (right; rfl))⟩
 ·refine bodyPost_ret (v := .agg #[.string ⟨#[]⟩, .string ⟨#[]⟩]) ?hrC rfl ?hpC
  case hrC => simp [results, Tryz.results61, go_sem, cF0_0, cF0_1]
  case hpC => exact ⟨⟨⟨#[]⟩, ⟨#[]⟩⟩, rfl, ⟨by decide, by decide⟩, (Rd.at HR.out (by (with_reducible repeat (first | exact Keep.refl (Rd.lt HR.out) | refine Keep.alloc ?_ _ | refine Keep.drewN ?_ _ | refine Keep.drew ?_ | refine Keep.set ?_ _ ?_)); all_goals (first | (simp; done) | (simp; omega) | omega))).up (by omega), by (with_reducible repeat (first | exact HD.out | refine Dr.alloc ?_ _ | refine Dr.drewN ?_ _ | refine Dr.drew ?_ | refine Dr.set ?_ _ ?_)); all_goals (first | (left; simp; done) | (left; simp; omega) | (left; omega) | (right; rfl))⟩
 ·refine bodyPost_ret (v := .agg #[.string a1.f0, .string a1.f1]) ?hrD rfl ?hpD
  case hrD => simp [results, Tryz.results61, go_sem, cF0_0, cF0_1]
  case hpD => exact ⟨⟨a1.f0, a1.f1⟩, rfl, hs1, (Rd.at HR.out (by (with_reducible repeat (first | exact Keep.refl (Rd.lt HR.out) | refine Keep.alloc ?_ _ | refine Keep.drewN ?_ _ | refine Keep.drew ?_ | refine Keep.set ?_ _ ?_)); all_goals (first | (simp; done) | (simp; omega) | omega))).up (by omega), by (with_reducible repeat (first | exact HD.out | refine Dr.alloc ?_ _ | refine Dr.drewN ?_ _ | refine Dr.drew ?_ | refine Dr.set ?_ _ ?_)); all_goals (first | (left; simp; done) | (left; simp; omega) | (left; omega) | (right; rfl))⟩

end Go.Proofs.YticepbgacokbbaaGreatDoor

/- Drawn bodies and mails: weak contracts. -/
namespace Go.Proofs.YticepbgacokbbaaGreatDoor
open Go.RowKit Go.Proofs.YticepbgacokbbaaGreatDoorW.PrintWords
set_option linter.unusedVariables false
set_option linter.unusedSimpArgs false

def smallB (xs : List ByteArray) : Prop := xs.length ≤ 100 ∧ ∀ y ∈ xs, y.size ≤ 64
set_option maxRecDepth 100000 in
set_option maxHeartbeats 4000000 in
theorem drBody_any (g m : Nat) (most : Int) (w : World) (h : Rd g m w) (hm : m + 101 ≤ 1000000000) (h0 : 0 ≤ most) (h1 : most ≤ 99) :
  Calls Tryz.prog 83 #[.pointer (some ⟨g, 0, none⟩), .int .i64 most] w fun e w' => ∃ (xs : List ByteArray) (B : Option Addr) (d : Nat), e = .returned (.slice B xs.length d) ∧ smallB xs ∧ Kd.R Kd.string 9 w' w.heap.size (fun _ => True) (.slice B xs.length d) xs ∧ Rd g (m + 101) w' ∧ Dr g w w' := by
 have HR := Aside0.mk h
 have HD := Aside0.mk (Dr.refl g w)
 have hgl := h.lt
 have ng0 : ¬ w.heap.size = g := by omega
 have ng1 : ¬ w.heap.size + 1 = g := by omega
 have ng2 : ¬ w.heap.size + 2 = g := by omega
 clear h
 go_enter Tryz.func83, Tryz.ntmps83
 have HO : Aside0 (Kd.R Kd.string 9 (w.alloc (.cells #[] 9)) w.heap.size (fun _ => True) (.slice (some ⟨w.heap.size, 0, none⟩) 0 0) []) := ⟨R_empty Kd.string 9 w w.heap.size (Nat.le_refl _) trivial⟩
 go_wp2_with (go_at_call 24; (with_reducible refine Calls.mono (pick_any g _ _ _ (Rd.at HR.out (by (with_reducible repeat (first | exact Keep.refl (Rd.lt HR.out) | refine Keep.alloc ?_ _ | refine Keep.drewN ?_ _ | refine Keep.drew ?_ | refine Keep.set ?_ _ ?_)); all_goals (first | (simp; done) | (simp; omega) | omega))) (by omega) (by omega)) ?_); (rintro e w1 ⟨k1, rfl, hk1, hr_, hd_⟩); (have y1 := hd_.size); ((try simp at y1)); (have nHO := hd_.R2 HO.out (by (with_reducible repeat (first | exact Below.refl _ _ | refine bel_alloc ?_ _ | refine blw_drewN ?_ _ | refine Below.drew ?_))) (by omega)); (clear HO); (have HO := Aside0.mk nHO); (clear nHO); (have hd2_ : Dr g w w1 := Dr.then_ (by (with_reducible repeat (first | exact HD.out | refine Dr.alloc ?_ _ | refine Dr.drewN ?_ _ | refine Dr.drew ?_ | refine Dr.set ?_ _ ?_)); all_goals (first | (left; simp; done) | (left; simp; omega) | (left; omega) | (right; rfl))) hd_); (clear HR HD); (have HR := Aside0.mk hr_); (have HD := Aside0.mk hd2_); (clear hr_ hd_ hd2_))
 have hk1 := hk1 (by omega)
 go_loopg [5, 6] 100 (fun gq v5 v6 wr => ∃ (k : Nat) (ys : List ByteArray), k ≤ gq ∧ v6 = .int .i64 (k : Int) ∧ k + ys.length ≤ 99 ∧ Aside0 (∀ y ∈ ys, y.size ≤ 64) ∧ Aside0 (Kd.R Kd.string 9 wr w.heap.size (fun _ => True) v5 ys) ∧ Aside0 (Rd g (m + 1 + ys.length) wr) ∧ Aside0 (Dr g w wr))
 case atStart => exact ⟨k1, [], by omega, rfl, by simp; omega, ⟨fun y hy => by cases hy⟩, HO, HR, HD⟩
 case round =>
  clear HO HR HD
  obtain ⟨k, ys, hk, rfl, hl, HS, HO, HR, HD⟩ := hrel
  obtain ⟨B, d, rfl⟩ := Kd.R_slice HO.out
  have ywr := HD.out.size
  by_cases hlt : 0 < k
  ·have hlt' : (0 : Int) < (k : Int) := by omega
   go_wp2_with (first | (go_at_call 97; (with_reducible refine Calls.mono (drLine_any g _ _ (Rd.at HR.out (by (with_reducible repeat (first | exact Keep.refl (Rd.lt HR.out) | refine Keep.alloc ?_ _ | refine Keep.drewN ?_ _ | refine Keep.drew ?_ | refine Keep.set ?_ _ ?_)); all_goals (first | (simp; done) | (simp; omega) | omega))) (by omega)) ?_); (rintro e w2 ⟨s2, rfl, hs2, hr_, hd_⟩); (have y2 := hd_.size); ((try simp at y2)); (have nHO := hd_.R2 HO.out (by (with_reducible repeat (first | exact Below.refl _ _ | refine bel_alloc ?_ _ | refine blw_drewN ?_ _ | refine Below.drew ?_))) (by omega)); (clear HO); (have HO := Aside0.mk nHO); (clear nHO); (have hd2_ : Dr g w w2 := Dr.then_ (by (with_reducible repeat (first | exact HD.out | refine Dr.alloc ?_ _ | refine Dr.drewN ?_ _ | refine Dr.drew ?_ | refine Dr.set ?_ _ ?_)); all_goals (first | (left; simp; done) | (left; simp; omega) | (left; omega) | (right; rfl))) hd_); (clear HR HD); (have HR := Aside0.mk hr_); (have HD := Aside0.mk hd2_); (clear hr_ hd_ hd2_)) | ((with_reducible refine gate_builtin (b := .append) (xs := #[.tmp 16, .tmp 19]) rfl ?_); (try (refine gate_guard (by rfl) ?_; dsimp only)); at_builtin; (refine Kd.R_append Kd.string (w0 := w2) (w.heap.size) rfl (.tmp 16) (.tmp 19) 27 9 (.string ⟨#[]⟩) 16 rfl Tryz.underlying27 info9 rfl (by decide) (by omega) (.slice B ys.length d) (ys) (s2) [.string s2] (fun _ => True) (fun _ => False) rfl rfl rfl (fun _ hk => hk.elim) (fun _ _ => trivial) ?aO3 ?aB3 ?aS3 ?aL3 ?_); (case aO3 => exact HO.out); (case aB3 => exact Below.refl _ _); (case aS3 => (have := HD.out.size; omega)); (case aL3 => exact (by omega)); (intro v3 w3 ho hb hg hat; have nHD := Dr.belowB HD.out hb; have nHR := Rd.keep HR.out (fun q hq => hb.block q (by omega)); have y3 := hb.size; clear HO HR HD ; have HO := Aside0.mk ho; have HR := Aside0.mk nHR; have HD := Aside0.mk nHD; clear ho hb hg hat nHR nHD )))
   go_roundg (k - 1)
   case measure => omega
   case rel => exact ⟨k - 1, ys ++ [s2], Nat.le_refl _, congrArg (Value.int .i64) (by omega), by simp; omega, ⟨fun y hy => by
    rcases List.mem_append.1 hy with hy | hy
    ·exact HS.out y hy
    ·obtain rfl := List.mem_singleton.1 hy
     exact hs2⟩, HO, ⟨HR.out.up (by simp; omega)⟩, HD⟩
  ·have hlt' : ¬ (0 : Int) < (k : Int) := by omega
   go_wp2
   go_ret
   exact ⟨ys, B, d, rfl, ⟨by omega, HS.out⟩, HO.out, HR.out.up (by omega), HD.out⟩

end Go.Proofs.YticepbgacokbbaaGreatDoor

/- Drawn mails: a weak contract. -/
namespace Go.Proofs.YticepbgacokbbaaGreatDoor
open Go.RowKit Go.Proofs.YticepbgacokbbaaGreatDoorW.PrintWords
set_option linter.unusedVariables false
set_option linter.unusedSimpArgs false

attribute [local go_sem high] eqA25
def smallM (x : SMail) : Prop := smallA x.f0 ∧ (0 < x.f1.length ∧ x.f1.length ≤ 4 ∧ ∀ y ∈ x.f1, smallA y) ∧ smallB x.f2
/-- The state of a drawn mail: its boxes and rows at world W. -/
structure MSt (g c bm : Nat) (w W : World) (fr : SAddr) (v : Value) (xs : List SAddr) (B : Option Addr) (d : Nat) (ys : List ByteArray) : Prop where
 f0 : W.heap[w.heap.size]? = some (.cells #[.string ⟨#[]⟩, .string ⟨#[]⟩, .slice none 0 0, .slice none 0 0] 29 (0, 0))
 f1 : W.heap[bm]? = some (.cells #[.string fr.f0, .string fr.f1, v, .slice B ys.length d] 29 (0, 0))
 ho : Kd.R kAddr 25 W w.heap.size (fun _ => True) v xs
 hb : Kd.R Kd.string 9 W w.heap.size (fun _ => True) (.slice B ys.length d) ys
 hr : Rd g c W
 hd : Dr g w W
theorem MSt.dN {g c bm : Nat} {w W : World} {fr : SAddr} {v : Value} {xs : List SAddr} {B : Option Addr} {d : Nat} {ys : List ByteArray} (h : MSt g c bm w W fr v xs B d ys) (n : Nat) : MSt g c bm w (W.drewN n) fr v xs B d ys :=
 ⟨blk_drewN h.f0 n, blk_drewN h.f1 n, R_dN h.ho n, R_dN h.hb n, h.hr.drewN n, h.hd.drewN n⟩
set_option maxRecDepth 100000 in
set_option maxHeartbeats 4000000 in
theorem drMail_any (g m : Nat) (w : World) (h : Rd g m w) (hm : m + 120 ≤ 1000000000) :
  Calls Tryz.prog 62 #[.pointer (some ⟨g, 0, none⟩)] w fun e w' => ∃ (x : SMail) (A0 : Option Addr) (c0 : Nat) (A1 : Option Addr) (c1 : Nat), e = .returned (.agg #[.string x.f0.f0, .string x.f0.f1, .slice A0 x.f1.length c0, .slice A1 x.f2.length c1]) ∧ smallM x ∧ Kd.R kAddr 25 w' w.heap.size (fun _ => True) (.slice A0 x.f1.length c0) x.f1 ∧ Kd.R Kd.string 9 w' w.heap.size (fun _ => True) (.slice A1 x.f2.length c1) x.f2 ∧ Rd g (m + 120) w' ∧ Dr g w w' := by
 have HR := Aside0.mk h
 have HD := Aside0.mk (Dr.refl g w)
 have hgl := h.lt
 have ng0 : ¬ w.heap.size = g := by omega
 have ng1 : ¬ w.heap.size + 1 = g := by omega
 have ng2 : ¬ w.heap.size + 2 = g := by omega
 clear h
 go_enter Tryz.func62, Tryz.ntmps62
 go_wp2_with (first | (go_at_call 82; (with_reducible refine Calls.mono (drAddr_any g _ _ (Rd.at HR.out (by (with_reducible repeat (first | exact Keep.refl (Rd.lt HR.out) | refine Keep.alloc ?_ _ | refine Keep.drewN ?_ _ | refine Keep.drew ?_ | refine Keep.set ?_ _ ?_)); all_goals (first | (simp; done) | (simp; omega) | omega))) (by omega)) ?_); (rintro e w1 ⟨a1, rfl, hs1, hr_, hd_⟩); (have y1 := hd_.size); ((try simp at y1)); (have nF0 : w1.heap[w.heap.size]? = some (.cells #[.string ⟨#[]⟩, .string ⟨#[]⟩, .slice none 0 0, .slice none 0 0] 29 (0, 0)) := hd_.blk (by (with_reducible repeat (first | exact blk_at _ _ (by first | (simp; done) | (simp; omega)) | refine blk_alloc ?_ _ | refine blk_drew ?_ | refine blk_drewN ?_ _ | refine blk_set ?_ _ _ | refine blk_far ?_ ?_ _)); all_goals (first | (simp; done) | (simp; omega) | omega)) (by omega)); (have F0 := Aside0.mk nF0); (have cF0_0 : w1.cell? ⟨w.heap.size, 0, none⟩ = some (.string ⟨#[]⟩) := (by simp [World.cell?, nF0])); (have cF0_1 : w1.cell? ⟨w.heap.size, 1, none⟩ = some (.string ⟨#[]⟩) := (by simp [World.cell?, nF0])); (have cF0_2 : w1.cell? ⟨w.heap.size, 2, none⟩ = some (.slice none 0 0) := (by simp [World.cell?, nF0])); (have cF0_3 : w1.cell? ⟨w.heap.size, 3, none⟩ = some (.slice none 0 0) := (by simp [World.cell?, nF0])); (clear nF0); (have hd2_ : Dr g w w1 := Dr.then_ (by (with_reducible repeat (first | exact HD.out | refine Dr.alloc ?_ _ | refine Dr.drewN ?_ _ | refine Dr.drew ?_ | refine Dr.set ?_ _ ?_)); all_goals (first | (left; simp; done) | (left; simp; omega) | (left; omega) | (right; rfl))) hd_); (clear HR HD); (have HR := Aside0.mk hr_); (have HD := Aside0.mk hd2_); (clear hr_ hd_ hd2_)) | (go_at_call 84; (with_reducible refine Calls.mono (one_any 1 9 g _ _ _ _ _ _ _ (Rd.at HR.out (by (with_reducible repeat (first | exact Keep.refl (Rd.lt HR.out) | refine Keep.alloc ?_ _ | refine Keep.drewN ?_ _ | refine Keep.drew ?_ | refine Keep.set ?_ _ ?_)); all_goals (first | (simp; done) | (simp; omega) | omega))) (by omega) (blk_at _ _ (by first | (simp; done) | (simp; omega))) (by decide) (by decide) (by decide) (by decide) (by decide)) ?_); (rintro e w2 ⟨k2, rfl, hk2, hr_, hd_⟩); (have y2 := hd_.size); ((try simp at y2)); (have nF0 : w2.heap[w.heap.size]? = some (.cells #[.string ⟨#[]⟩, .string ⟨#[]⟩, .slice none 0 0, .slice none 0 0] 29 (0, 0)) := hd_.blk (by (with_reducible repeat (first | exact blk_at _ _ (by first | (simp; done) | (simp; omega)) | exact F0.out | refine blk_alloc ?_ _ | refine blk_drew ?_ | refine blk_drewN ?_ _ | refine blk_set ?_ _ _ | refine blk_far ?_ ?_ _)); all_goals (first | (simp; done) | (simp; omega) | omega)) (by omega)); ((try clear cF0_0 cF0_1 cF0_2 cF0_3)); ((try clear dF0_0 dF0_1 dF0_2 dF0_3)); (clear F0); (have F0 := Aside0.mk nF0); (have cF0_0 : w2.cell? ⟨w.heap.size, 0, none⟩ = some (.string ⟨#[]⟩) := (by simp [World.cell?, nF0])); (have cF0_1 : w2.cell? ⟨w.heap.size, 1, none⟩ = some (.string ⟨#[]⟩) := (by simp [World.cell?, nF0])); (have cF0_2 : w2.cell? ⟨w.heap.size, 2, none⟩ = some (.slice none 0 0) := (by simp [World.cell?, nF0])); (have cF0_3 : w2.cell? ⟨w.heap.size, 3, none⟩ = some (.slice none 0 0) := (by simp [World.cell?, nF0])); (clear nF0); (have hd2_ : Dr g w w2 := Dr.then_ (by (with_reducible repeat (first | exact HD.out | refine Dr.alloc ?_ _ | refine Dr.drewN ?_ _ | refine Dr.drew ?_ | refine Dr.set ?_ _ ?_)); all_goals (first | (left; simp; done) | (left; simp; omega) | (left; omega) | (right; rfl))) hd_); (clear HR HD); (have HR := Aside0.mk hr_); (have HD := Aside0.mk hd2_); (clear hr_ hd_ hd2_)) | (go_at_call 83; (with_reducible refine Calls.mono (drBody_any g _ _ _ (Rd.at HR.out (by (with_reducible repeat (first | exact Keep.refl (Rd.lt HR.out) | refine Keep.alloc ?_ _ | refine Keep.drewN ?_ _ | refine Keep.drew ?_ | refine Keep.set ?_ _ ?_)); all_goals (first | (simp; done) | (simp; omega) | omega))) (by omega) (by omega) (by omega)) ?_); (rintro e w3 ⟨xs3, B, d, rfl, hs3, hb_, hr_, hd_⟩); (have y3 := hd_.size); ((try simp at y3)); (have nF0 : w3.heap[w.heap.size]? = some (.cells #[.string ⟨#[]⟩, .string ⟨#[]⟩, .slice none 0 0, .slice none 0 0] 29 (0, 0)) := hd_.blk (by (with_reducible repeat (first | exact blk_at _ _ (by first | (simp; done) | (simp; omega)) | exact F0.out | refine blk_alloc ?_ _ | refine blk_drew ?_ | refine blk_drewN ?_ _ | refine blk_set ?_ _ _ | refine blk_far ?_ ?_ _)); all_goals (first | (simp; done) | (simp; omega) | omega)) (by omega)); ((try clear cF0_0 cF0_1 cF0_2 cF0_3)); ((try clear dF0_0 dF0_1 dF0_2 dF0_3)); (clear F0); (have F0 := Aside0.mk nF0); (have cF0_0 : w3.cell? ⟨w.heap.size, 0, none⟩ = some (.string ⟨#[]⟩) := (by simp [World.cell?, nF0])); (have cF0_1 : w3.cell? ⟨w.heap.size, 1, none⟩ = some (.string ⟨#[]⟩) := (by simp [World.cell?, nF0])); (have cF0_2 : w3.cell? ⟨w.heap.size, 2, none⟩ = some (.slice none 0 0) := (by simp [World.cell?, nF0])); (have cF0_3 : w3.cell? ⟨w.heap.size, 3, none⟩ = some (.slice none 0 0) := (by simp [World.cell?, nF0])); (clear nF0); (have hd2_ : Dr g w w3 := Dr.then_ (by (with_reducible repeat (first | exact HD.out | refine Dr.alloc ?_ _ | refine Dr.drewN ?_ _ | refine Dr.drew ?_ | refine Dr.set ?_ _ ?_)); all_goals (first | (left; simp; done) | (left; simp; omega) | (left; omega) | (right; rfl))) hd_); (clear HR HD); (have HR := Aside0.mk hr_); (have HD := Aside0.mk hd2_); (clear hr_ hd_ hd2_); have HB := Aside0.mk (Kd.R_lower (base' := w.heap.size) hb_ (by omega)); clear hb_) | (go_at_call 24; (with_reducible refine Calls.mono (pick_any g _ 5 _ (Rd.at HR.out (by (with_reducible repeat (first | exact Keep.refl (Rd.lt HR.out) | refine Keep.alloc ?_ _ | refine Keep.drewN ?_ _ | refine Keep.drew ?_ | refine Keep.set ?_ _ ?_)); all_goals (first | (simp; done) | (simp; omega) | omega))) (by omega) (by omega)) ?_); (rintro e w4 ⟨k4, rfl, hk4, hr_, hd_⟩); (have y4 := hd_.size); ((try simp at y4)); (have nF0 : w4.heap[w.heap.size]? = some (.cells #[.string ⟨#[]⟩, .string ⟨#[]⟩, .slice none 0 0, .slice none 0 0] 29 (0, 0)) := hd_.blk (by (with_reducible repeat (first | exact blk_at _ _ (by first | (simp; done) | (simp; omega)) | exact F0.out | refine blk_alloc ?_ _ | refine blk_drew ?_ | refine blk_drewN ?_ _ | refine blk_set ?_ _ _ | refine blk_far ?_ ?_ _)); all_goals (first | (simp; done) | (simp; omega) | omega)) (by omega)); (have nF1 : w4.heap[w3.heap.size]? = some (.cells #[.string a1.f0, .string a1.f1, .slice none 0 0, .slice B xs3.length d] 29 (0, 0)) := hd_.blk (by (with_reducible repeat (first | exact blk_at _ _ (by first | (simp; done) | (simp; omega)) | refine blk_alloc ?_ _ | refine blk_drew ?_ | refine blk_drewN ?_ _ | refine blk_set ?_ _ _ | refine blk_far ?_ ?_ _)); all_goals (first | (simp; done) | (simp; omega) | omega)) (by omega)); (have nHB := hd_.R2 HB.out (by (with_reducible repeat (first | exact Below.refl _ _ | refine bel_alloc ?_ _ | refine blw_drewN ?_ _ | refine Below.drew ?_))) (by omega)); ((try clear cF0_0 cF0_1 cF0_2 cF0_3)); ((try clear dF0_0 dF0_1 dF0_2 dF0_3)); (clear F0); (have F0 := Aside0.mk nF0); (have cF0_0 : w4.cell? ⟨w.heap.size, 0, none⟩ = some (.string ⟨#[]⟩) := (by simp [World.cell?, nF0])); (have cF0_1 : w4.cell? ⟨w.heap.size, 1, none⟩ = some (.string ⟨#[]⟩) := (by simp [World.cell?, nF0])); (have cF0_2 : w4.cell? ⟨w.heap.size, 2, none⟩ = some (.slice none 0 0) := (by simp [World.cell?, nF0])); (have cF0_3 : w4.cell? ⟨w.heap.size, 3, none⟩ = some (.slice none 0 0) := (by simp [World.cell?, nF0])); (clear nF0); (have F1 := Aside0.mk nF1); (have cF1_0 : w4.cell? ⟨w3.heap.size, 0, none⟩ = some (.string a1.f0) := (by simp [World.cell?, nF1])); (have cF1_1 : w4.cell? ⟨w3.heap.size, 1, none⟩ = some (.string a1.f1) := (by simp [World.cell?, nF1])); (have cF1_2 : w4.cell? ⟨w3.heap.size, 2, none⟩ = some (.slice none 0 0) := (by simp [World.cell?, nF1])); (have cF1_3 : w4.cell? ⟨w3.heap.size, 3, none⟩ = some (.slice B xs3.length d) := (by simp [World.cell?, nF1])); (have dF1_0 : w4.frozen? ⟨w3.heap.size, 0, none⟩ = false := (by simp [World.frozen?, nF1])); (have dF1_1 : w4.frozen? ⟨w3.heap.size, 1, none⟩ = false := (by simp [World.frozen?, nF1])); (have dF1_2 : w4.frozen? ⟨w3.heap.size, 2, none⟩ = false := (by simp [World.frozen?, nF1])); (have dF1_3 : w4.frozen? ⟨w3.heap.size, 3, none⟩ = false := (by simp [World.frozen?, nF1])); (clear nF1); (clear HB); (have HB := Aside0.mk nHB); (clear nHB); (have hd2_ : Dr g w w4 := Dr.then_ (by (with_reducible repeat (first | exact HD.out | refine Dr.alloc ?_ _ | refine Dr.drewN ?_ _ | refine Dr.drew ?_ | refine Dr.set ?_ _ ?_)); all_goals (first | (left; simp; done) | (left; simp; omega) | (left; omega) | (right; rfl))) hd_); (clear HR HD); (have HR := Aside0.mk hr_); (have HD := Aside0.mk hd2_); (clear hr_ hd_ hd2_)) | (go_at_call 24; (with_reducible refine Calls.mono (pick_any g _ 4 w4 (Rd.at HR.out (by (with_reducible repeat (first | exact Keep.refl (Rd.lt HR.out) | refine Keep.alloc ?_ _ | refine Keep.drewN ?_ _ | refine Keep.drew ?_ | refine Keep.set ?_ _ ?_)); all_goals (first | (simp; done) | (simp; omega) | omega))) (by omega) (by omega)) ?_); (rintro e w5 ⟨k5, rfl, hk5, hr_, hd_⟩); (have y5 := hd_.size); ((try simp at y5)); (have nF0 : w5.heap[w.heap.size]? = some (.cells #[.string ⟨#[]⟩, .string ⟨#[]⟩, .slice none 0 0, .slice none 0 0] 29 (0, 0)) := hd_.blk (by (with_reducible repeat (first | exact blk_at _ _ (by first | (simp; done) | (simp; omega)) | exact F0.out | refine blk_alloc ?_ _ | refine blk_drew ?_ | refine blk_drewN ?_ _ | refine blk_set ?_ _ _ | refine blk_far ?_ ?_ _)); all_goals (first | (simp; done) | (simp; omega) | omega)) (by omega)); (have nF1 : w5.heap[w3.heap.size]? = some (.cells #[.string a1.f0, .string a1.f1, .slice none 0 0, .slice B xs3.length d] 29 (0, 0)) := hd_.blk (by (with_reducible repeat (first | exact blk_at _ _ (by first | (simp; done) | (simp; omega)) | exact F1.out | refine blk_alloc ?_ _ | refine blk_drew ?_ | refine blk_drewN ?_ _ | refine blk_set ?_ _ _ | refine blk_far ?_ ?_ _)); all_goals (first | (simp; done) | (simp; omega) | omega)) (by omega)); (have nHB := hd_.R2 HB.out (by (with_reducible repeat (first | exact Below.refl _ _ | refine bel_alloc ?_ _ | refine blw_drewN ?_ _ | refine Below.drew ?_))) (by omega)); ((try clear cF0_0 cF0_1 cF0_2 cF0_3)); ((try clear dF0_0 dF0_1 dF0_2 dF0_3)); ((try clear cF1_0 cF1_1 cF1_2 cF1_3)); ((try clear dF1_0 dF1_1 dF1_2 dF1_3)); (clear F0 F1); (have F0 := Aside0.mk nF0); (have cF0_0 : w5.cell? ⟨w.heap.size, 0, none⟩ = some (.string ⟨#[]⟩) := (by simp [World.cell?, nF0])); (have cF0_1 : w5.cell? ⟨w.heap.size, 1, none⟩ = some (.string ⟨#[]⟩) := (by simp [World.cell?, nF0])); (have cF0_2 : w5.cell? ⟨w.heap.size, 2, none⟩ = some (.slice none 0 0) := (by simp [World.cell?, nF0])); (have cF0_3 : w5.cell? ⟨w.heap.size, 3, none⟩ = some (.slice none 0 0) := (by simp [World.cell?, nF0])); (clear nF0); (have F1 := Aside0.mk nF1); (have cF1_0 : w5.cell? ⟨w3.heap.size, 0, none⟩ = some (.string a1.f0) := (by simp [World.cell?, nF1])); (have cF1_1 : w5.cell? ⟨w3.heap.size, 1, none⟩ = some (.string a1.f1) := (by simp [World.cell?, nF1])); (have cF1_2 : w5.cell? ⟨w3.heap.size, 2, none⟩ = some (.slice none 0 0) := (by simp [World.cell?, nF1])); (have cF1_3 : w5.cell? ⟨w3.heap.size, 3, none⟩ = some (.slice B xs3.length d) := (by simp [World.cell?, nF1])); (have dF1_0 : w5.frozen? ⟨w3.heap.size, 0, none⟩ = false := (by simp [World.frozen?, nF1])); (have dF1_1 : w5.frozen? ⟨w3.heap.size, 1, none⟩ = false := (by simp [World.frozen?, nF1])); (have dF1_2 : w5.frozen? ⟨w3.heap.size, 2, none⟩ = false := (by simp [World.frozen?, nF1])); (have dF1_3 : w5.frozen? ⟨w3.heap.size, 3, none⟩ = false := (by simp [World.frozen?, nF1])); (clear nF1); (clear HB); (have HB := Aside0.mk nHB); (clear nHB); (have hd2_ : Dr g w w5 := Dr.then_ (by (with_reducible repeat (first | exact HD.out | refine Dr.alloc ?_ _ | refine Dr.drewN ?_ _ | refine Dr.drew ?_ | refine Dr.set ?_ _ ?_)); all_goals (first | (left; simp; done) | (left; simp; omega) | (left; omega) | (right; rfl))) hd_); (clear HR HD); (have HR := Aside0.mk hr_); (have HD := Aside0.mk hd2_); (clear hr_ hd_ hd2_); have FX : ∃ fr : SAddr, smallA fr ∧ w5.heap[w3.heap.size]? = some (.cells #[.string fr.f0, .string fr.f1, .slice none 0 0, .slice B xs3.length d] 29 (0, 0)) := ⟨a1, hs1, F1.out⟩; clear F1 cF1_0 cF1_1 cF1_2 cF1_3 dF1_0 dF1_1 dF1_2 dF1_3; obtain ⟨fr, hfr, F1_⟩ := FX; have F1 := Aside0.mk F1_; clear F1_) | (go_at_call 24; (with_reducible refine Calls.mono (pick_any g _ 4 _ (Rd.at HR.out (by (with_reducible repeat (first | exact Keep.refl (Rd.lt HR.out) | refine Keep.alloc ?_ _ | refine Keep.drewN ?_ _ | refine Keep.drew ?_ | refine Keep.set ?_ _ ?_)); all_goals (first | (simp; done) | (simp; omega) | omega))) (by omega) (by omega)) ?_); (rintro e w5 ⟨k5, rfl, hk5, hr_, hd_⟩); (have y5 := hd_.size); ((try simp at y5)); (have nF0 : w5.heap[w.heap.size]? = some (.cells #[.string ⟨#[]⟩, .string ⟨#[]⟩, .slice none 0 0, .slice none 0 0] 29 (0, 0)) := hd_.blk (by (with_reducible repeat (first | exact blk_at _ _ (by first | (simp; done) | (simp; omega)) | exact F0.out | refine blk_alloc ?_ _ | refine blk_drew ?_ | refine blk_drewN ?_ _ | refine blk_set ?_ _ _ | refine blk_far ?_ ?_ _)); all_goals (first | (simp; done) | (simp; omega) | omega)) (by omega)); (have nF1 : w5.heap[w3.heap.size]? = some (.cells #[.string ⟨#[]⟩, .string ⟨#[]⟩, .slice none 0 0, .slice B xs3.length d] 29 (0, 0)) := hd_.blk ((by have h := blk_set1 (blk_set1 F1.out 0 (.string ⟨#[]⟩)) 1 (.string ⟨#[]⟩); simpa using h)) (by omega)); (have nHB := hd_.R (R_put1 (R_put1 HB.out rfl (Kd.R_ne HB.out F1.out (by decide))) rfl (Kd.R_ne HB.out F1.out (by decide))) (by omega)); ((try clear cF0_0 cF0_1 cF0_2 cF0_3)); ((try clear dF0_0 dF0_1 dF0_2 dF0_3)); ((try clear cF1_0 cF1_1 cF1_2 cF1_3)); ((try clear dF1_0 dF1_1 dF1_2 dF1_3)); (clear F0 F1); (have F0 := Aside0.mk nF0); (have cF0_0 : w5.cell? ⟨w.heap.size, 0, none⟩ = some (.string ⟨#[]⟩) := (by simp [World.cell?, nF0])); (have cF0_1 : w5.cell? ⟨w.heap.size, 1, none⟩ = some (.string ⟨#[]⟩) := (by simp [World.cell?, nF0])); (have cF0_2 : w5.cell? ⟨w.heap.size, 2, none⟩ = some (.slice none 0 0) := (by simp [World.cell?, nF0])); (have cF0_3 : w5.cell? ⟨w.heap.size, 3, none⟩ = some (.slice none 0 0) := (by simp [World.cell?, nF0])); (clear nF0); (have F1 := Aside0.mk nF1); (have cF1_0 : w5.cell? ⟨w3.heap.size, 0, none⟩ = some (.string ⟨#[]⟩) := (by simp [World.cell?, nF1])); (have cF1_1 : w5.cell? ⟨w3.heap.size, 1, none⟩ = some (.string ⟨#[]⟩) := (by simp [World.cell?, nF1])); (have cF1_2 : w5.cell? ⟨w3.heap.size, 2, none⟩ = some (.slice none 0 0) := (by simp [World.cell?, nF1])); (have cF1_3 : w5.cell? ⟨w3.heap.size, 3, none⟩ = some (.slice B xs3.length d) := (by simp [World.cell?, nF1])); (have dF1_0 : w5.frozen? ⟨w3.heap.size, 0, none⟩ = false := (by simp [World.frozen?, nF1])); (have dF1_1 : w5.frozen? ⟨w3.heap.size, 1, none⟩ = false := (by simp [World.frozen?, nF1])); (have dF1_2 : w5.frozen? ⟨w3.heap.size, 2, none⟩ = false := (by simp [World.frozen?, nF1])); (have dF1_3 : w5.frozen? ⟨w3.heap.size, 3, none⟩ = false := (by simp [World.frozen?, nF1])); (clear nF1); (clear HB); (have HB := Aside0.mk nHB); (clear nHB); (have hd2_ : Dr g w w5 := Dr.then_ (by (with_reducible repeat (first | exact HD.out | refine Dr.alloc ?_ _ | refine Dr.drewN ?_ _ | refine Dr.drew ?_ | refine Dr.set ?_ _ ?_)); all_goals (first | (left; simp; done) | (left; simp; omega) | (left; omega) | (right; rfl))) hd_); (clear HR HD); (have HR := Aside0.mk hr_); (have HD := Aside0.mk hd2_); (clear hr_ hd_ hd2_); have FX : ∃ fr : SAddr, smallA fr ∧ w5.heap[w3.heap.size]? = some (.cells #[.string fr.f0, .string fr.f1, .slice none 0 0, .slice B xs3.length d] 29 (0, 0)) := ⟨zAddr, ⟨by decide, by decide⟩, F1.out⟩; clear F1 cF1_0 cF1_1 cF1_2 cF1_3 dF1_0 dF1_1 dF1_2 dF1_3; obtain ⟨fr, hfr, F1_⟩ := FX; have F1 := Aside0.mk F1_; clear F1_))
 all_goals
  have hk5 := hk5 (by omega)
  have hsz3 : w.heap.size < w3.heap.size := by omega
  have hmst : MSt g (m + 112) w3.heap.size w w5 fr (.slice none 0 0) [] B d xs3 := ⟨F0.out, F1.out, Kd.R_nil _ _ _ _ _, HB.out, HR.out.up (by omega), HD.out⟩
  clear F0 F1 HB HR HD
  generalize w3.heap.size = bm at hmst hsz3
  generalize xs3 = ys at hmst hs3
  have HS := Aside0.mk hmst
  clear hmst
  go_loopg [4, 5, 6, 7] 4 (fun gq v4 _ _ _ wr => ∃ (k : Nat) (v : Value) (xs : List SAddr), k ≤ gq ∧ k ≤ 4 ∧ v4 = .int .i64 (k : Int) ∧ k + xs.length ≤ 4 ∧ (xs.length = 0 → 0 < k) ∧ Aside0 (∀ y ∈ xs, smallA y) ∧ Aside0 (MSt g (m + (120 - 2 * k)) bm w wr fr (v) (xs) B d ys))
  case atStart => exact ⟨k5 + 1, .slice none 0 0, [], by omega, by omega, congrArg (Value.int .i64) (by omega), by simp; omega, fun _ => by omega, ⟨fun y hy => by cases hy⟩, ⟨HS.out.f0, HS.out.f1, HS.out.ho, HS.out.hb, HS.out.hr.up (by omega), HS.out.hd⟩⟩
  case round =>
   clear HS
   obtain ⟨k, v, xs, hkg, hk4, rfl, hkx, hne, HX, HS⟩ := hrel
   obtain ⟨A, e, rfl⟩ := Kd.R_slice HS.out.ho
   have F0 := Aside0.mk HS.out.f0
   have F1 := Aside0.mk HS.out.f1
   have HO := Aside0.mk HS.out.ho
   have HB := Aside0.mk HS.out.hb
   have HR := Aside0.mk HS.out.hr
   have HD := Aside0.mk HS.out.hd
   have ywr := HD.out.size
   clear HS
   by_cases hlt : 0 < k
   ·have hlt' : (0 : Int) < (k : Int) := by omega
    go_wp2_with (go_at_call 82; (with_reducible refine Calls.mono (drAddr_any g _ _ (Rd.at HR.out (by (with_reducible repeat (first | exact Keep.refl (Rd.lt HR.out) | refine Keep.alloc ?_ _ | refine Keep.drewN ?_ _ | refine Keep.drew ?_ | refine Keep.set ?_ _ ?_)); all_goals (first | (simp; done) | (simp; omega) | omega))) (by omega)) ?_); (rintro e w6 ⟨a6, rfl, hs6, hr_, hd_⟩); (have y6 := hd_.size); ((try simp at y6)); (have nF0 : w6.heap[w.heap.size]? = some (.cells #[.string ⟨#[]⟩, .string ⟨#[]⟩, .slice none 0 0, .slice none 0 0] 29 (0, 0)) := hd_.blk (by (with_reducible repeat (first | exact blk_at _ _ (by first | (simp; done) | (simp; omega)) | exact F0.out | refine blk_alloc ?_ _ | refine blk_drew ?_ | refine blk_drewN ?_ _ | refine blk_set ?_ _ _ | refine blk_far ?_ ?_ _)); all_goals (first | (simp; done) | (simp; omega) | omega)) (by omega)); (have nF1 : w6.heap[bm]? = some (.cells #[.string fr.f0, .string fr.f1, .slice A xs.length e, .slice B ys.length d] 29 (0, 0)) := hd_.blk (by (with_reducible repeat (first | exact blk_at _ _ (by first | (simp; done) | (simp; omega)) | exact F1.out | refine blk_alloc ?_ _ | refine blk_drew ?_ | refine blk_drewN ?_ _ | refine blk_set ?_ _ _ | refine blk_far ?_ ?_ _)); all_goals (first | (simp; done) | (simp; omega) | omega)) (by omega)); (have nHO := hd_.R2 HO.out (by (with_reducible repeat (first | exact Below.refl _ _ | refine bel_alloc ?_ _ | refine blw_drewN ?_ _ | refine Below.drew ?_))) (by omega)); (have nHB := hd_.R2 HB.out (by (with_reducible repeat (first | exact Below.refl _ _ | refine bel_alloc ?_ _ | refine blw_drewN ?_ _ | refine Below.drew ?_))) (by omega)); ((try clear cF0_0 cF0_1 cF0_2 cF0_3)); ((try clear dF0_0 dF0_1 dF0_2 dF0_3)); ((try clear cF1_0 cF1_1 cF1_2 cF1_3)); ((try clear dF1_0 dF1_1 dF1_2 dF1_3)); (clear F0 F1); (have F0 := Aside0.mk nF0); (have cF0_0 : w6.cell? ⟨w.heap.size, 0, none⟩ = some (.string ⟨#[]⟩) := (by simp [World.cell?, nF0])); (have cF0_1 : w6.cell? ⟨w.heap.size, 1, none⟩ = some (.string ⟨#[]⟩) := (by simp [World.cell?, nF0])); (have cF0_2 : w6.cell? ⟨w.heap.size, 2, none⟩ = some (.slice none 0 0) := (by simp [World.cell?, nF0])); (have cF0_3 : w6.cell? ⟨w.heap.size, 3, none⟩ = some (.slice none 0 0) := (by simp [World.cell?, nF0])); (clear nF0); (have F1 := Aside0.mk nF1); (have cF1_0 : w6.cell? ⟨bm, 0, none⟩ = some (.string fr.f0) := (by simp [World.cell?, nF1])); (have cF1_1 : w6.cell? ⟨bm, 1, none⟩ = some (.string fr.f1) := (by simp [World.cell?, nF1])); (have cF1_2 : w6.cell? ⟨bm, 2, none⟩ = some (.slice A xs.length e) := (by simp [World.cell?, nF1])); (have cF1_3 : w6.cell? ⟨bm, 3, none⟩ = some (.slice B ys.length d) := (by simp [World.cell?, nF1])); (have dF1_0 : w6.frozen? ⟨bm, 0, none⟩ = false := (by simp [World.frozen?, nF1])); (have dF1_1 : w6.frozen? ⟨bm, 1, none⟩ = false := (by simp [World.frozen?, nF1])); (have dF1_2 : w6.frozen? ⟨bm, 2, none⟩ = false := (by simp [World.frozen?, nF1])); (have dF1_3 : w6.frozen? ⟨bm, 3, none⟩ = false := (by simp [World.frozen?, nF1])); (clear nF1); (clear HO); (have HO := Aside0.mk nHO); (clear nHO); (clear HB); (have HB := Aside0.mk nHB); (clear nHB); (have hd2_ : Dr g w w6 := Dr.then_ (by (with_reducible repeat (first | exact HD.out | refine Dr.alloc ?_ _ | refine Dr.drewN ?_ _ | refine Dr.drew ?_ | refine Dr.set ?_ _ ?_)); all_goals (first | (left; simp; done) | (left; simp; omega) | (left; omega) | (right; rfl))) hd_); (clear HR HD); (have HR := Aside0.mk hr_); (have HD := Aside0.mk hd2_); (clear hr_ hd_ hd2_))
    generalize hV : World.alloc w6 (.cells #[.string a6.f0, .string a6.f1] 25) = V
    have HS : Aside0 (MSt g (m + (122 - 2 * k)) bm w V fr (.slice A xs.length e) (xs) B d ys) := ⟨⟨by rw [← hV]; exact blk_alloc F0.out _, by rw [← hV]; exact blk_alloc F1.out _, by rw [← hV]; exact Kd.R_alloc HO.out _, by rw [← hV]; exact Kd.R_alloc HB.out _, (by rw [← hV]; exact HR.out.alloc _ : Rd g (m + (120 - 2 * k) + 2) V).up (by omega), by rw [← hV]; exact HD.out.alloc _⟩⟩
    have FA : Aside0 (V.heap[w6.heap.size]? = some (.cells #[.string a6.f0, .string a6.f1] 25 (0, 0))) := ⟨by rw [← hV]; exact blk_new _ _⟩
    have yba : w.heap.size ≤ w6.heap.size := by omega
    clear hV F0 F1 HO HB HR HD cF0_0 cF0_1 cF0_2 cF0_3 cF1_0 cF1_1 cF1_2 cF1_3 dF1_0 dF1_1 dF1_2 dF1_3
    generalize w6.heap.size = ba at FA yba ⊢
    go_wp2
    go_loopg [6, 7] (xs.length) (fun gq v6 v7 wv => ∃ (i : Nat) (b : Bool), i ≤ xs.length ∧ xs.length - i ≤ gq ∧ v6 = .bool b ∧ v7 = .int .i64 (i : Int) ∧ (b = true → 0 < xs.length) ∧ Aside0 (MSt g (m + (122 - 2 * k)) bm w wv fr (.slice A xs.length e) (xs) B d ys) ∧ Aside0 (wv.heap[ba]? = some (.cells #[.string a6.f0, .string a6.f1] 25 (0, 0))))
    case atStart => exact ⟨0, false, Nat.zero_le _, by omega, rfl, rfl, fun h => (by cases h), HS, FA⟩
    case round =>
     clear HS FA
     obtain ⟨i, b, hi, hgi, rfl, rfl, hbx, HS, FA⟩ := hrel
     have F0 := Aside0.mk HS.out.f0
     have F1 := Aside0.mk HS.out.f1
     have HO := Aside0.mk HS.out.ho
     have HB := Aside0.mk HS.out.hb
     have HR := Aside0.mk HS.out.hr
     have HD := Aside0.mk HS.out.hd
     have ywv := HD.out.size
     have cF1_0 : wr.cell? ⟨bm, 0, none⟩ = some (.string fr.f0) := clq F1.out 0 rfl
     have cF1_1 : wr.cell? ⟨bm, 1, none⟩ = some (.string fr.f1) := clq F1.out 1 rfl
     have cF1_2 : wr.cell? ⟨bm, 2, none⟩ = some (.slice A xs.length e) := clq F1.out 2 rfl
     have cF1_3 : wr.cell? ⟨bm, 3, none⟩ = some (.slice B ys.length d) := clq F1.out 3 rfl
     have dF1_0 := fzq F1.out 0
     have dF1_1 := fzq F1.out 1
     have dF1_2 := fzq F1.out 2
     have dF1_3 := fzq F1.out 3
     have cFA_0 : wr.cell? ⟨ba, 0, none⟩ = some (.string a6.f0) := clq FA.out 0 rfl
     have cFA_1 : wr.cell? ⟨ba, 1, none⟩ = some (.string a6.f1) := clq FA.out 1 rfl
     by_cases hli : i < xs.length
     ·have hli' : (i : Int) < (xs.length : Int) := by omega
      obtain ⟨ad, e1, p0, p1⟩ := at_Addr ((Kd.R_reads' HO.out).2.2) i hli
      obtain rfl := e1
      generalize xs.getD i zAddr = y at p0 p1
      clear F0 F1 HO HB HR HD
      cases b
      ·go_wp2
       go_quiet (fail)
       go_wp2
       go_roundg (xs.length - (i + 1))
       case measure => omega
       case rel => exact ⟨i + 1, _, by omega, Nat.le_refl _, rfl, by go_num, fun _ => by omega, ⟨HS.out.dN _⟩, ⟨blk_drewN FA.out _⟩⟩
      ·go_wp2
       go_quiet (fail)
       go_wp2
       go_roundg (xs.length - (i + 1))
       case measure => omega
       case rel => exact ⟨i + 1, _, by omega, Nat.le_refl _, rfl, by go_num, fun _ => by omega, ⟨HS.out.dN _⟩, ⟨blk_drewN FA.out _⟩⟩
     ·have hli' : ¬ (i : Int) < (xs.length : Int) := by omega
      cases b
      ·clear HS
       go_wp2_with ((with_reducible refine gate_builtin (b := .append) (xs := #[.tmp 50, .tmp 52]) rfl ?_); (try (refine gate_guard (by rfl) ?_; dsimp only)); at_builtin; (refine Kd.R_append kAddr (w0 := wr) (w.heap.size) rfl (.tmp 50) (.tmp 52) 26 25 (.agg #[(.string ⟨#[]⟩), (.string ⟨#[]⟩)]) 32 rfl Tryz.underlying26 info25 rfl (by decide) (by omega) (.slice A xs.length e) (xs) (a6) [.string a6.f0, .string a6.f1] (fun _ => True) (fun _ => False) rfl rfl (kAddr_mkM _ _ _ a6) (fun _ hk => hk.elim) (fun _ _ => trivial) ?aO9 ?aB9 ?aS9 ?aL9 ?_); (case aO9 => exact HO.out); (case aB9 => exact Below.refl _ _); (case aS9 => (have := HD.out.size; omega)); (case aL9 => exact (by omega)); (intro v9 w9 ho hb hg hat; have nHD := Dr.belowB HD.out hb; have nHR := Rd.keep HR.out (fun q hq => hb.block q (by omega)); have y9 := hb.size; have nF0 : w9.heap[w.heap.size]? = some (.cells #[.string ⟨#[]⟩, .string ⟨#[]⟩, .slice none 0 0, .slice none 0 0] 29 (0, 0)) := (hg.block _ (blk_lt F0.out) (Kd.R_ne HO.out F0.out (by decide))).trans F0.out; have nF1 : w9.heap[bm]? = some (.cells #[.string fr.f0, .string fr.f1, .slice A xs.length e, .slice B ys.length d] 29 (0, 0)) := (hg.block _ (blk_lt F1.out) (Kd.R_ne HO.out F1.out (by decide))).trans F1.out; have nHB := R_by2 HB.out rfl HO.out (by decide) hg; clear HO HR HD F0 F1 HB; have HO := Aside0.mk ho; have HR := Aside0.mk nHR; have HD := Aside0.mk nHD; have F0 := Aside0.mk nF0; have F1 := Aside0.mk nF1; have HB := Aside0.mk nHB; clear ho hb hg hat nHR nHD nF0 nF1 nHB; obtain ⟨vB, vd, hv⟩ := Kd.R_slice HO.out; subst hv; have cF1_0 : w9.cell? ⟨bm, 0, none⟩ = some (.string fr.f0) := (by have := F1.out; simp [World.cell?, this]); have cF1_1 : w9.cell? ⟨bm, 1, none⟩ = some (.string fr.f1) := (by have := F1.out; simp [World.cell?, this]); have cF1_2 : w9.cell? ⟨bm, 2, none⟩ = some (.slice A xs.length e) := (by have := F1.out; simp [World.cell?, this]); have cF1_3 : w9.cell? ⟨bm, 3, none⟩ = some (.slice B ys.length d) := (by have := F1.out; simp [World.cell?, this]); have dF1_0 : w9.frozen? ⟨bm, 0, none⟩ = false := (by have := F1.out; simp [World.frozen?, this]); have dF1_1 : w9.frozen? ⟨bm, 1, none⟩ = false := (by have := F1.out; simp [World.frozen?, this]); have dF1_2 : w9.frozen? ⟨bm, 2, none⟩ = false := (by have := F1.out; simp [World.frozen?, this]); have dF1_3 : w9.frozen? ⟨bm, 3, none⟩ = false := (by have := F1.out; simp [World.frozen?, this])))
       go_roundg (k - 1)
       case measure => omega
       case rel => exact ⟨k - 1, _, xs ++ [a6], Nat.le_refl _, by omega, congrArg (Value.int .i64) (by omega), by simp; omega, fun h => by simp at h, ⟨fun y hy => by
        rcases List.mem_append.1 hy with hy | hy
        ·exact HX.out y hy
        ·obtain rfl := List.mem_singleton.1 hy
         exact hs6⟩, ⟨⟨blk_far F0.out (by show w.heap.size ≠ bm; omega) _, (by have h := blk_set1 F1.out 2 (.slice vB (xs ++ [a6]).length vd); simpa using h), R_put1 HO.out rfl (Kd.R_ne HO.out F1.out (by decide)), R_put1 HB.out rfl (Kd.R_ne HB.out F1.out (by decide)), (HR.out.set _ (by show g < bm; omega)).up (by omega), HD.out.set _ (.inl (by show w.heap.size ≤ bm; omega))⟩⟩⟩
      ·have hb0 := hbx rfl
       clear F0 F1 HO HB HR HD hbx
       go_wp2
       go_roundg (k - 1)
       case measure => omega
       case rel => exact ⟨k - 1, _, xs, Nat.le_refl _, by omega, congrArg (Value.int .i64) (by omega), by omega, fun h => by omega, HX, ⟨⟨HS.out.f0, HS.out.f1, HS.out.ho, HS.out.hb, HS.out.hr.up (by omega), HS.out.hd⟩⟩⟩
   ·have hlt' : ¬ (0 : Int) < (k : Int) := by omega
    have hx0 : 0 < xs.length := by
     rcases Nat.eq_zero_or_pos xs.length with h | h
     ·exact absurd (hne h) hlt
     ·exact h
    have hx4 : xs.length ≤ 4 := by omega
    clear hne
    have cF0_0 : wr.cell? ⟨w.heap.size, 0, none⟩ = some (.string ⟨#[]⟩) := clq F0.out 0 rfl
    have cF0_1 : wr.cell? ⟨w.heap.size, 1, none⟩ = some (.string ⟨#[]⟩) := clq F0.out 1 rfl
    have cF0_2 : wr.cell? ⟨w.heap.size, 2, none⟩ = some (.slice none 0 0) := clq F0.out 2 rfl
    have cF0_3 : wr.cell? ⟨w.heap.size, 3, none⟩ = some (.slice none 0 0) := clq F0.out 3 rfl
    have dF0_0 := fzq F0.out 0
    have dF0_1 := fzq F0.out 1
    have dF0_2 := fzq F0.out 2
    have dF0_3 := fzq F0.out 3
    have cF1_0 : wr.cell? ⟨bm, 0, none⟩ = some (.string fr.f0) := clq F1.out 0 rfl
    have cF1_1 : wr.cell? ⟨bm, 1, none⟩ = some (.string fr.f1) := clq F1.out 1 rfl
    have cF1_2 : wr.cell? ⟨bm, 2, none⟩ = some (.slice A xs.length e) := clq F1.out 2 rfl
    have cF1_3 : wr.cell? ⟨bm, 3, none⟩ = some (.slice B ys.length d) := clq F1.out 3 rfl
    go_wp2
    refine bodyPost_ret (v := .agg #[.string fr.f0, .string fr.f1, .slice A xs.length e, .slice B ys.length d]) ?hr rfl ?hp
    case hr => simp [results, Tryz.results62, go_sem, cF0_0, cF0_1, cF0_2, cF0_3]
    case hp => exact ⟨⟨fr, xs, ys⟩, A, e, B, d, rfl, ⟨hfr, ⟨hx0, hx4, HX.out⟩, hs3⟩, (by (with_reducible repeat (first | exact HO.out | refine R_put1 ?_ rfl (Kd.R_ne HO.out F0.out (by decide))))), (by (with_reducible repeat (first | exact HB.out | refine R_put1 ?_ rfl (Kd.R_ne HB.out F0.out (by decide))))), (Rd.at HR.out (by (with_reducible repeat (first | exact Keep.refl (Rd.lt HR.out) | refine Keep.alloc ?_ _ | refine Keep.drewN ?_ _ | refine Keep.drew ?_ | refine Keep.set ?_ _ ?_)); all_goals (first | (simp; done) | (simp; omega) | omega))).up (by omega), by (with_reducible repeat (first | exact HD.out | refine Dr.alloc ?_ _ | refine Dr.drewN ?_ _ | refine Dr.drew ?_ | refine Dr.set ?_ _ ?_)); all_goals (first | (left; simp; done) | (left; simp; omega) | (left; omega) | (right; rfl))⟩
 
end Go.Proofs.YticepbgacokbbaaGreatDoor
