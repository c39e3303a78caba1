/- The laws' marks of rows: what they write, what they leave. -/
import Derived.Test.YticepbgacokbbaaGreatDoorMarkText
import Derived.Test.YticepbgacokbbaaGreatDoorTch
namespace Go.Proofs.YticepbgacokbbaaGreatDoor
open Go.RowKit Go.Proofs.YticepbgacokbbaaGreatDoorW.PrintWords
set_option linter.unusedVariables false
set_option linter.unusedSimpArgs false

theorem markText_at (a : Nat) (z : Int) (hz : z = a) (h : a ≤ 4611686018427387904) (w : World) : Calls Tryz.prog 55 #[.int .i64 z] w fun e w' => e = .returned (.string (markS a)) ∧ Below w.heap.size w w' := by
 subst hz
 exact markText_any a h w
def mkString (b : Nat) : ByteArray := (markS (b + 0))
def mksString (a n : Nat) : List ByteArray := (List.range n).map fun i => mkString (a + 1 * i)
theorem mksString_length (a n : Nat) : (mksString a n).length = n := by simp [mksString]
set_option maxRecDepth 100000 in
set_option maxHeartbeats 4000000 in
theorem markStringS_any (A : Option Addr) (c cap n : Nat) (xs : List ByteArray) (a : Nat) (base : Nat) (ok : Nat → Prop) (w : World) (hr : Kd.R Kd.string 9 w base ok (.slice A n cap) xs) (hlen : n ≤ 1048576) (ha : a ≤ 2305843009213693952) :
  Calls Tryz.prog 57 #[.slice A n c, .int .i64 (a : Int)] w fun e w' => e = .returned (.int .i64 ((a + 1 * n : Nat) : Int)) ∧ Kd.R Kd.string 9 w' base ok (.slice A n cap) (mksString a n) ∧ w.grownBy w' (Value.slice A n cap).ownBlock := by
 have hn0 : n = xs.length := (Kd.R_reads' hr).1
 have HN := Lib.hid hn0
 clear hn0
 go_enter Tryz.func57, Tryz.ntmps57
 go_wp2
 go_loopg [1, 5] n (fun gq v1 v5 wr => ∃ (k b : Nat) (zs : List ByteArray), k ≤ n ∧ n - k ≤ gq ∧ v1 = .int .i64 (b : Int) ∧ b ≤ a + 1 * k ∧ Aside0 (b = a + 1 * k) ∧ v5 = .int .i64 (k : Int) ∧ Aside0 (zs.length = n) ∧ Aside0 (∀ j, j < k → zs.getD j (⟨#[]⟩ : ByteArray) = mkString (a + 1 * j)) ∧ Aside0 (Kd.R Kd.string 9 wr base ok (.slice A n cap) zs) ∧ Aside0 (w.grownBy wr (Value.slice A n cap).ownBlock))
 case atStart => exact ⟨0, a, xs, Nat.zero_le _, by omega, rfl, by omega, ⟨by omega⟩, rfl, ⟨HN.out.symm⟩, ⟨fun j hj => absurd hj (Nat.not_lt_zero _)⟩, ⟨hr⟩, ⟨grown_of_below (Below.refl _ _) _⟩⟩
 case round =>
  clear hr
  obtain ⟨k, b, zs, hk, hg, rfl, hb, HB, rfl, HL, HM, HR, HG⟩ := hrel
  by_cases hlt : k < n
  ·have hlt' : (k : Int) < (n : Int) := by omega
   obtain ⟨gb, rfl, hgb, hgs⟩ := own_form2 HR.out (by rw [HL.out]; omega)
   obtain ⟨cs, hcl, hM, hcc, hfr⟩ := Kd.R_elem HR.out (⟨#[]⟩ : ByteArray) (k : Int) (by omega) (by omega)
   rw [Int.toNat_natCast] at hM hcc hfr
   have hset := fun y' => set_getD zs k (⟨#[]⟩ : ByteArray) y' (by rw [HL.out]; exact hlt)
   have HST := Lib.hid hset
   clear hset
   have HLk : k < zs.length := by rw [HL.out]; exact hlt
   generalize hyy : zs.getD k (⟨#[]⟩ : ByteArray) = y at hM
   have HY := Lib.hid hyy
   clear hyy
   have hM' : cs = [.string y] := hM
   subst hM'
   have x0 : wr.cell? ⟨gb, k, none⟩ = some (.string y) := by have := hcc 0 _ rfl; rwa [show k * (Kd.string).sz + 0 = k from by show k * 1 + 0 = k; omega] at this
   have f0 : wr.frozen? ⟨gb, k, none⟩ = false := by have := hfr 0; rwa [show k * (Kd.string).sz + 0 = k from by show k * 1 + 0 = k; omega] at this
   clear hcc hfr hM hcl
   have HP := HR
   have HQ := HG
   clear HR HG
   go_wp2_with fail
   refine (markText_at (b + 0) _ (by omega) (by omega) _).mono ?_
   rintro e u0 ⟨rfl, b0⟩
   obtain ⟨q0, p0⟩ := bcell b0
   have hz0 : gb < u0.heap.size := by have hz := b0.size; (try simp at hz); omega
   replace HP := Aside0.mk (Kd.R_below HP.out b0)
   replace HQ := Aside0.mk (HQ.out.trans (grown_of_below b0 _))
   clear b0
   obtain ⟨c0, _, hM0, hcc0, _⟩ := Kd.R_elem HP.out (⟨#[]⟩ : ByteArray) (k : Int) (by omega) (by omega)
   rw [Int.toNat_natCast] at hM0 hcc0
   rw [HY.out] at hM0
   have hM'0 : c0 = [.string y] := hM0
   subst hM'0
   have P0 := own_put2 HP.out k hlt ((markS (b + 0)) : ByteArray) [.string y] rfl 0 (.string (markS (b + 0))) (by decide) (by show _ = _; rfl) hcc0
   rw [show k * (Kd.string).sz + 0 = k from by show k * 1 + 0 = k; omega] at P0
   clear hM0 hcc0
   have HP := Aside0.mk P0.1
   have HQ := Aside0.mk (HQ.out.trans P0.2)
   clear P0
   go_wp2
   go_roundg (n - (k + 1))
   case measure => omega
   case rel =>
    have hmk : ((markS (b + 0)) : ByteArray) = mkString (a + 1 * k) := by rw [← HB.out]; unfold mkString; first | rfl | (congr 1; done) | (congr 1; all_goals omega) | (congr 2; all_goals omega)
    refine ⟨k + 1, b + 1, _, by omega, Nat.le_refl _, by first | rfl | (congr 1; done) | (congr 1; omega) | (congr 2; omega), by omega, ⟨by have := HB.out; omega⟩, by go_num, ⟨?_⟩, ⟨?_⟩, HP, HQ⟩
    ·rw [List.length_set]; exact HL.out
    ·intro j hj
     rw [HST.out, hmk]
     by_cases e : j = k
     ·subst e; rw [if_pos rfl]
     ·rw [if_neg e]; exact HM.out j (by omega)
  ·have hlt' : ¬ (k : Int) < (n : Int) := by omega
   have hkn : k = n := by omega
   have he : zs = mksString a n := ext_getD (⟨#[]⟩ : ByteArray) (by rw [HL.out, mksString_length]) (fun j hj => by
    rw [HL.out] at hj
    rw [HM.out j (by omega)]
    simp [mksString, hj])
   rw [he] at HR
   have hbb := HB.out
   rw [hkn] at hbb
   have HBB := Lib.hid hbb
   clear hbb HB he HM HL
   go_wp2
   go_ret
   exact ⟨reti (by have := HBB.out; omega), HR.out, HG.out⟩
def mkAddr (b : Nat) : SAddr := ⟨(markS (b + 0)), (markS (b + 1))⟩
def mksAddr (a n : Nat) : List SAddr := (List.range n).map fun i => mkAddr (a + 2 * i)
theorem mksAddr_length (a n : Nat) : (mksAddr a n).length = n := by simp [mksAddr]
set_option maxRecDepth 100000 in
set_option maxHeartbeats 4000000 in
theorem markAddrS_any (A : Option Addr) (c cap n : Nat) (xs : List SAddr) (a : Nat) (base : Nat) (ok : Nat → Prop) (w : World) (hr : Kd.R kAddr 25 w base ok (.slice A n cap) xs) (hlen : n ≤ 1048576) (ha : a ≤ 2305843009213693952) :
  Calls Tryz.prog 56 #[.slice A n c, .int .i64 (a : Int)] w fun e w' => e = .returned (.int .i64 ((a + 2 * n : Nat) : Int)) ∧ Kd.R kAddr 25 w' base ok (.slice A n cap) (mksAddr a n) ∧ w.grownBy w' (Value.slice A n cap).ownBlock := by
 have hn0 : n = xs.length := (Kd.R_reads' hr).1
 have HN := Lib.hid hn0
 clear hn0
 go_enter Tryz.func56, Tryz.ntmps56
 go_wp2
 go_loopg [1, 5] n (fun gq v1 v5 wr => ∃ (k b : Nat) (zs : List SAddr), k ≤ n ∧ n - k ≤ gq ∧ v1 = .int .i64 (b : Int) ∧ b ≤ a + 2 * k ∧ Aside0 (b = a + 2 * k) ∧ v5 = .int .i64 (k : Int) ∧ Aside0 (zs.length = n) ∧ Aside0 (∀ j, j < k → zs.getD j zAddr = mkAddr (a + 2 * j)) ∧ Aside0 (Kd.R kAddr 25 wr base ok (.slice A n cap) zs) ∧ Aside0 (w.grownBy wr (Value.slice A n cap).ownBlock))
 case atStart => exact ⟨0, a, xs, Nat.zero_le _, by omega, rfl, by omega, ⟨by omega⟩, rfl, ⟨HN.out.symm⟩, ⟨fun j hj => absurd hj (Nat.not_lt_zero _)⟩, ⟨hr⟩, ⟨grown_of_below (Below.refl _ _) _⟩⟩
 case round =>
  clear hr
  obtain ⟨k, b, zs, hk, hg, rfl, hb, HB, rfl, HL, HM, HR, HG⟩ := hrel
  by_cases hlt : k < n
  ·have hlt' : (k : Int) < (n : Int) := by omega
   obtain ⟨gb, rfl, hgb, hgs⟩ := own_form2 HR.out (by rw [HL.out]; omega)
   obtain ⟨cs, hcl, hM, hcc, hfr⟩ := Kd.R_elem HR.out zAddr (k : Int) (by omega) (by omega)
   rw [Int.toNat_natCast] at hM hcc hfr
   have hset := fun y' => set_getD zs k zAddr y' (by rw [HL.out]; exact hlt)
   have HST := Lib.hid hset
   clear hset
   have HLk : k < zs.length := by rw [HL.out]; exact hlt
   generalize hyy : zs.getD k zAddr = y at hM
   have HY := Lib.hid hyy
   clear hyy
   obtain rfl := kAddr_openM hM
   have x0 : wr.cell? ⟨gb, k * 2, none⟩ = some (.string y.f0) := hcc 0 _ rfl
   have f0 : wr.frozen? ⟨gb, k * 2, none⟩ = false := hfr 0
   have x1 : wr.cell? ⟨gb, k * 2 + 1, none⟩ = some (.string y.f1) := hcc 1 _ rfl
   have f1 : wr.frozen? ⟨gb, k * 2 + 1, none⟩ = false := hfr 1
   clear hcc hfr hM hcl
   have HP := HR
   have HQ := HG
   clear HR HG
   go_wp2_with fail
   refine (markText_at (b + 0) _ (by omega) (by omega) _).mono ?_
   rintro e u0 ⟨rfl, b0⟩
   obtain ⟨q0, p0⟩ := bcell b0
   have hz0 : gb < u0.heap.size := by have hz := b0.size; (try simp at hz); omega
   replace HP := Aside0.mk (Kd.R_below HP.out b0)
   replace HQ := Aside0.mk (HQ.out.trans (grown_of_below b0 _))
   clear b0
   obtain ⟨c0, _, hM0, hcc0, _⟩ := Kd.R_elem HP.out zAddr (k : Int) (by omega) (by omega)
   rw [Int.toNat_natCast] at hM0 hcc0
   rw [HY.out] at hM0
   obtain rfl := kAddr_openM hM0
   have P0 := own_put2 HP.out k hlt (⟨(markS (b + 0)), y.f1⟩ : SAddr) [.string y.f0, .string y.f1] rfl 0 (.string (markS (b + 0))) (by decide) (kAddr_mkM _ _ _ (⟨(markS (b + 0)), y.f1⟩ : SAddr)) hcc0
   clear hM0 hcc0
   have HP := Aside0.mk P0.1
   have HQ := Aside0.mk (HQ.out.trans P0.2)
   clear P0
   go_wp2_with fail
   refine (markText_at (b + 1) _ (by omega) (by omega) _).mono ?_
   rintro e u1 ⟨rfl, b1⟩
   obtain ⟨q1, p1⟩ := bcell b1
   have hz1 : gb < u1.heap.size := by have hz := b1.size; (try simp at hz); omega
   replace HP := Aside0.mk (Kd.R_below HP.out b1)
   replace HQ := Aside0.mk (HQ.out.trans (grown_of_below b1 _))
   clear b1
   obtain ⟨c1, _, hM1, hcc1, _⟩ := Kd.R_elem HP.out zAddr (k : Int) (by omega) (by omega)
   rw [Int.toNat_natCast] at hM1 hcc1
   rw [set_getD _ k _ _ HLk, if_pos rfl] at hM1
   obtain rfl := kAddr_openM hM1
   have P1 := own_put2 HP.out k hlt (⟨(markS (b + 0)), (markS (b + 1))⟩ : SAddr) [.string (markS (b + 0)), .string y.f1] rfl 1 (.string (markS (b + 1))) (by decide) (kAddr_mkM _ _ _ (⟨(markS (b + 0)), (markS (b + 1))⟩ : SAddr)) hcc1
   rw [List.set_set] at P1
   clear hM1 hcc1
   have HP := Aside0.mk P1.1
   have HQ := Aside0.mk (HQ.out.trans P1.2)
   clear P1
   go_wp2
   go_roundg (n - (k + 1))
   case measure => omega
   case rel =>
    have hmk : (⟨(markS (b + 0)), (markS (b + 1))⟩ : SAddr) = mkAddr (a + 2 * k) := by rw [← HB.out]; unfold mkAddr; first | rfl | (congr 1; done) | (congr 1; all_goals omega) | (congr 2; all_goals omega)
    refine ⟨k + 1, b + 2, _, by omega, Nat.le_refl _, by first | rfl | (congr 1; done) | (congr 1; omega) | (congr 2; omega), by omega, ⟨by have := HB.out; omega⟩, by go_num, ⟨?_⟩, ⟨?_⟩, HP, HQ⟩
    ·rw [List.length_set]; exact HL.out
    ·intro j hj
     rw [HST.out, hmk]
     by_cases e : j = k
     ·subst e; rw [if_pos rfl]
     ·rw [if_neg e]; exact HM.out j (by omega)
  ·have hlt' : ¬ (k : Int) < (n : Int) := by omega
   have hkn : k = n := by omega
   have he : zs = mksAddr a n := ext_getD zAddr (by rw [HL.out, mksAddr_length]) (fun j hj => by
    rw [HL.out] at hj
    rw [HM.out j (by omega)]
    simp [mksAddr, hj])
   rw [he] at HR
   have hbb := HB.out
   rw [hkn] at hbb
   have HBB := Lib.hid hbb
   clear hbb HB he HM HL
   go_wp2
   go_ret
   exact ⟨reti (by have := HBB.out; omega), HR.out, HG.out⟩
end Go.Proofs.YticepbgacokbbaaGreatDoor
