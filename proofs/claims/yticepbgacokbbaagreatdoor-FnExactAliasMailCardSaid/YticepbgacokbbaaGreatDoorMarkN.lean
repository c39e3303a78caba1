/- The laws' marks of rows whose elements lead to rows, and of structs: contracts. -/
import Derived.Test.YticepbgacokbbaaGreatDoorMark
namespace Go.Proofs.YticepbgacokbbaaGreatDoor
open Go.RowKit Go.Proofs.YticepbgacokbbaaGreatDoorW.PrintWords
set_option linter.unusedVariables false
set_option linter.unusedSimpArgs false
theorem Alias_lens {x : SAlias} (h : fitAlias x) : x.f1.length ≤ 1048576 := h.2.1
def cntAlias (x : SAlias) : Nat := 2 + 2 * x.f1.length
def mkAlias (b : Nat) (x : SAlias) : SAlias := ⟨⟨(markS b), (markS (b + 1))⟩, (mksAddr (b + 2) x.f1.length)⟩
def offAlias (xs : List SAlias) (k : Nat) : Nat := ((xs.take k).map cntAlias).sum
def mksAlias (a : Nat) (xs : List SAlias) : List SAlias := (List.range xs.length).map fun i => mkAlias (a + offAlias xs i) (xs.getD i zAlias)
theorem mksAlias_length (a : Nat) (xs : List SAlias) : (mksAlias a xs).length = xs.length := by simp [mksAlias]
theorem offAlias_step (xs : List SAlias) (k : Nat) (h : k < xs.length) : offAlias xs (k + 1) = offAlias xs k + cntAlias (xs.getD k zAlias) := by
 unfold offAlias
 rw [List.take_succ_eq_append_getElem h, List.map_append, List.sum_append, List.getD, List.getElem?_eq_getElem h]
 simp
set_option maxRecDepth 100000 in
set_option maxHeartbeats 8000000 in
theorem markAliasS_any (A : Option Addr) (c cap n : Nat) (xs : List SAlias) (a : Nat) (base : Nat) (ok : Nat → Prop) (w : World) (hr : Kd.S kAlias 58 w base ok (.slice A n cap) xs) (hlen : n ≤ 1048576) (hx : ∀ x ∈ xs, x.f1.length ≤ 1048576) (ha : a ≤ 1152921504606846976) :
  Calls Tryz.prog 18 #[.slice A n c, .int .i64 (a : Int)] w fun e w' => e = .returned (.int .i64 ((a + offAlias xs n : Nat) : Int)) ∧ a + offAlias xs n ≤ a + 5242880 * n ∧ Kd.S kAlias 58 w' base ok (.slice A n cap) (mksAlias a xs) ∧ Tch ok w w' := by
 have hn0 : n = xs.length := (Kd.S_reads' hr).1
 have HN := Lib.hid hn0
 have HX := Lib.hid hx
 clear hn0 hx
 go_enter Tryz.func18, Tryz.ntmps18
 go_wp2
 go_loopg [1, 5] n (fun gq v1 v5 wr => ∃ (k b : Nat) (zs : List SAlias), k ≤ n ∧ n - k ≤ gq ∧ v1 = .int .i64 (b : Int) ∧ b ≤ a + 5242880 * k ∧ Aside0 (b = a + offAlias xs k) ∧ v5 = .int .i64 (k : Int) ∧ Aside0 (zs.length = n) ∧ Aside0 (∀ j, j < k → zs.getD j zAlias = mkAlias (a + offAlias xs j) (xs.getD j zAlias)) ∧ Aside0 (∀ j, k ≤ j → zs.getD j zAlias = xs.getD j zAlias) ∧ Aside0 (Kd.S kAlias 58 wr base ok (.slice A n cap) zs) ∧ Aside0 (Tch ok w wr))
 case atStart => exact ⟨0, a, xs, Nat.zero_le _, by omega, rfl, by omega, ⟨by simp [offAlias]⟩, rfl, ⟨HN.out.symm⟩, ⟨fun j hj => absurd hj (Nat.not_lt_zero _)⟩, ⟨fun _ _ => rfl⟩, ⟨hr⟩, ⟨Tch.refl _ _⟩⟩
 case round =>
  clear hr
  obtain ⟨k, b, zs, hk, hg, rfl, hb, HB, rfl, HL, HM, HO, HR, HT⟩ := hrel
  by_cases hlt : k < n
  ·have hlt' : (k : Int) < (n : Int) := by omega
   have hst := offAlias_step xs k (by rw [← HN.out]; exact hlt)
   have hxk := HX.out (xs.getD k zAlias) (getD_mem xs _ (by rw [← HN.out]; exact hlt))
   obtain ⟨gb, rfl, hgb, hgs⟩ := own_form2 (Kd.S_R HR.out) (by rw [HL.out]; omega)
   have hokg : ok gb := (Kd.S_R HR.out).1 gb (by simp [Value.ownBlock])
   obtain ⟨oki, cs, hcl, hM, _, _, hoki, hH⟩ := Kd.S_elem HR.out zAlias (k : Int) (by omega) (by omega)
   rw [Int.toNat_natCast, HO.out k (Nat.le_refl _)] at hM
   generalize hyy : xs.getD k zAlias = y at hM hst hxk
   have HY := Lib.hid hyy
   obtain ⟨v0, rfl, r0⟩ := kAlias_openM hM
   obtain ⟨B0, d0, hv0⟩ := Kd.R_slice r0
   subst hv0
   have R0 := Aside0.mk r0
   have HH := Aside0.mk hH
   have HK := Lib.hid hoki
   have HS := Lib.hid hst
   have HG := Lib.hid hokg
   clear hM hcl hH hoki hyy hst hokg HR r0
   obtain ⟨hc, hf⟩ := H_at HH.out hlt'
   have x0_0 : wr.cell? ⟨gb, k * 3, none⟩ = some (.string y.f0.f0) := hc 0 _ rfl
   have f0_0 : wr.frozen? ⟨gb, k * 3, none⟩ = false := hf 0
   have x0_1 : wr.cell? ⟨gb, k * 3 + 1, none⟩ = some (.string y.f0.f1) := hc 1 _ rfl
   have f0_1 : wr.frozen? ⟨gb, k * 3 + 1, none⟩ = false := hf 1
   have x0_2 : wr.cell? ⟨gb, k * 3 + 2, none⟩ = some (.slice B0 y.f1.length d0) := hc 2 _ rfl
   have f0_2 : wr.frozen? ⟨gb, k * 3 + 2, none⟩ = false := hf 2
   clear hc hf
   go_wp2_with fail
   refine (markText_at (b) _ (by omega) (by omega) _).mono ?_
   rintro e u0 ⟨rfl, b0⟩
   replace HH := Aside0.mk (Kd.H_below HH.out b0)
   replace HT := Aside0.mk (HT.out.below b0)
   replace R0 := Aside0.mk (Kd.R_below R0.out b0)
   clear x0_0 f0_0 x0_1 f0_1 x0_2 f0_2
   obtain ⟨hc, hf⟩ := H_at HH.out hlt'
   have x1_0 : u0.cell? ⟨gb, k * 3, none⟩ = some (.string y.f0.f0) := hc 0 _ rfl
   have f1_0 : u0.frozen? ⟨gb, k * 3, none⟩ = false := hf 0
   have x1_1 : u0.cell? ⟨gb, k * 3 + 1, none⟩ = some (.string y.f0.f1) := hc 1 _ rfl
   have f1_1 : u0.frozen? ⟨gb, k * 3 + 1, none⟩ = false := hf 1
   have x1_2 : u0.cell? ⟨gb, k * 3 + 2, none⟩ = some (.slice B0 y.f1.length d0) := hc 2 _ rfl
   have f1_2 : u0.frozen? ⟨gb, k * 3 + 2, none⟩ = false := hf 2
   clear hc hf
   clear b0
   go_wp2_with fail
   have PP := H_put HH.out hlt 0 (.string (markS (b))) (by decide) rfl
   replace HH := Aside0.mk PP.1
   replace R0 := Aside0.mk (Kd.R_grown R0.out PP.2 (fun q hq e => (HK.out q hq).2 (by injection e)))
   replace HT := Aside0.mk (HT.out.row PP.2 (fun q hq => by injection hq with hq; rw [← hq]; exact HG.out))
   clear PP
   refine (markText_at (b + 1) _ (by omega) (by omega) _).mono ?_
   rintro e u1 ⟨rfl, b1⟩
   replace HH := Aside0.mk (Kd.H_below HH.out b1)
   replace HT := Aside0.mk (HT.out.below b1)
   replace R0 := Aside0.mk (Kd.R_below R0.out b1)
   clear x1_0 f1_0 x1_1 f1_1 x1_2 f1_2
   obtain ⟨hc, hf⟩ := H_at HH.out hlt'
   have x2_0 : u1.cell? ⟨gb, k * 3, none⟩ = some (.string (markS (b))) := hc 0 _ rfl
   have f2_0 : u1.frozen? ⟨gb, k * 3, none⟩ = false := hf 0
   have x2_1 : u1.cell? ⟨gb, k * 3 + 1, none⟩ = some (.string y.f0.f1) := hc 1 _ rfl
   have f2_1 : u1.frozen? ⟨gb, k * 3 + 1, none⟩ = false := hf 1
   have x2_2 : u1.cell? ⟨gb, k * 3 + 2, none⟩ = some (.slice B0 y.f1.length d0) := hc 2 _ rfl
   have f2_2 : u1.frozen? ⟨gb, k * 3 + 2, none⟩ = false := hf 2
   clear hc hf
   clear b1
   go_wp2_with fail
   have PP := H_put HH.out hlt 1 (.string (markS (b + 1))) (by decide) rfl
   replace HH := Aside0.mk PP.1
   replace R0 := Aside0.mk (Kd.R_grown R0.out PP.2 (fun q hq e => (HK.out q hq).2 (by injection e)))
   replace HT := Aside0.mk (HT.out.row PP.2 (fun q hq => by injection hq with hq; rw [← hq]; exact HG.out))
   clear PP
   refine (calls_at (a := b + 2) (by omega) (markAddrS_any B0 d0 d0 y.f1.length y.f1 (b + 2) base oki _ R0.out (by omega) (by omega))).mono ?_
   rintro e u2 ⟨rfl, m0, g0⟩
   replace HT := Aside0.mk (HT.out.row g0 (fun q hq => (HK.out q (R0.out.1 q hq)).1))
   replace HH := Aside0.mk (Kd.H_grown HH.out g0 (fun q hq => R0.out.1 q hq))
   replace R0 := Aside0.mk m0
   clear x2_0 f2_0 x2_1 f2_1 x2_2 f2_2
   obtain ⟨hc, hf⟩ := H_at HH.out hlt'
   have x3_0 : u2.cell? ⟨gb, k * 3, none⟩ = some (.string (markS (b))) := hc 0 _ rfl
   have f3_0 : u2.frozen? ⟨gb, k * 3, none⟩ = false := hf 0
   have x3_1 : u2.cell? ⟨gb, k * 3 + 1, none⟩ = some (.string (markS (b + 1))) := hc 1 _ rfl
   have f3_1 : u2.frozen? ⟨gb, k * 3 + 1, none⟩ = false := hf 1
   have x3_2 : u2.cell? ⟨gb, k * 3 + 2, none⟩ = some (.slice B0 y.f1.length d0) := hc 2 _ rfl
   have f3_2 : u2.frozen? ⟨gb, k * 3 + 2, none⟩ = false := hf 2
   clear hc hf
   clear m0 g0
   go_wp2
   go_roundg (n - (k + 1))
   case measure => omega
   case rel =>
    have hcn : b + cntAlias y = b + 2 + 2 * y.f1.length := by unfold cntAlias; omega
    have hmk : mkAlias b y = ⟨⟨(markS (b)), (markS (b + 1))⟩, (mksAddr (b + 2) y.f1.length)⟩ := by unfold mkAlias; first | rfl | (congr 1; done)
    have hBk := Kd.H_back HH.out (x' := mkAlias b y) (kAlias_mkM _ _ _ (mkAlias b y) (hr0 := R0.out)) (fun _ h => h)
    rw [Int.toNat_natCast] at hBk
    refine ⟨k + 1, b + cntAlias y, _, by omega, Nat.le_refl _, by rw [hcn]; first | rfl | (congr 1; done) | (congr 1; omega) | (congr 2; omega), by unfold cntAlias; omega, ⟨by rw [HS.out, HB.out]; omega⟩, by go_num, ⟨?_⟩, ⟨?_⟩, ⟨?_⟩, ⟨hBk⟩, HT⟩
    ·rw [List.length_set]; exact HL.out
    ·intro j hj
     rw [set_getD zs k _ _ (by rw [HL.out]; exact hlt)]
     by_cases e : j = k
     ·subst e; rw [if_pos rfl, HY.out, HB.out]
     ·rw [if_neg e]; exact HM.out j (by omega)
    ·intro j hj
     rw [set_getD zs k _ _ (by rw [HL.out]; exact hlt), if_neg (by omega)]
     exact HO.out j (by omega)
  ·have hlt' : ¬ (k : Int) < (n : Int) := by omega
   have hkn : k = n := by omega
   have he : zs = mksAlias a xs := ext_getD zAlias (by rw [HL.out, mksAlias_length]; exact HN.out) (fun j hj => by
    rw [HL.out] at hj
    rw [HM.out j (by omega)]
    have hj2 : j < xs.length := by rw [← HN.out]; exact hj
    simp [mksAlias, hj2])
   rw [he] at HR
   have hbb := HB.out
   rw [hkn] at hbb
   have hbn : a + offAlias xs n ≤ a + 5242880 * n := by rw [← hbb]; rw [hkn] at hb; exact hb
   have HBB := Lib.hid hbb
   have HBN := Lib.hid hbn
   clear hbb hbn HB he HM HL HO
   go_wp2
   go_ret
   exact ⟨reti (by have := HBB.out; omega), by have := HBN.out; omega, HR.out, HT.out⟩
set_option maxRecDepth 100000 in
set_option maxHeartbeats 4000000 in
theorem markMail_any (x : SMail) (A0 : Option Addr) (c0 : Nat) (A1 : Option Addr) (c1 : Nat) (a : Nat) (base : Nat) (ok : Nat → Prop) (w : World) (hw : fitMail x) (hr0 : Kd.R kAddr 25 w base ok (.slice A0 x.f1.length c0) x.f1) (hr1 : Kd.R Kd.string 9 w base ok (.slice A1 x.f2.length c1) x.f2) (ha : a ≤ 140737488355328) :
  Calls Tryz.prog 19 #[.agg #[.string x.f0.f0, .string x.f0.f1, .slice A0 x.f1.length c0, .slice A1 x.f2.length c1], .int .i64 (a : Int)] w fun e w' => e = .returned (.int .i64 ((a + 2 * x.f1.length + 1 * x.f2.length : Nat) : Int)) ∧ a + 2 * x.f1.length + 1 * x.f2.length ≤ a + 35184372088832 ∧ Kd.R kAddr 25 w' base ok (.slice A0 x.f1.length c0) (mksAddr (a) x.f1.length) ∧ Kd.R Kd.string 9 w' base ok (.slice A1 x.f2.length c1) (mksString (a + 2 * x.f1.length) x.f2.length) ∧ Tch ok w w' := by
 unfold fitMail at hw
 obtain ⟨hw_0, hw_1, hw_2⟩ := hw
 have G0 := Aside0.mk (Kd.R_alloc (Kd.R_mono (Kd.R_bound hr0) (ok' := (fun q => ok q ∧ q < w.heap.size)) (fun q hq => ⟨hq.1, hq.2.2.1⟩)) (.cells #[.string x.f0.f0, .string x.f0.f1, .slice A0 x.f1.length c0, .slice A1 x.f2.length c1] 29))
 clear hr0
 have G1 := Aside0.mk (Kd.R_alloc (Kd.R_mono (Kd.R_bound hr1) (ok' := (fun q => ok q ∧ q < w.heap.size)) (fun q hq => ⟨hq.1, hq.2.2.1⟩)) (.cells #[.string x.f0.f0, .string x.f0.f1, .slice A0 x.f1.length c0, .slice A1 x.f2.length c1] 29))
 clear hr1
 have T0 : Aside0 (Tch (fun q => ok q ∧ q < w.heap.size) w (w.alloc (.cells #[.string x.f0.f0, .string x.f0.f1, .slice A0 x.f1.length c0, .slice A1 x.f2.length c1] 29))) := ⟨(Tch.refl _ _).below ((Below.refl _ _).alloc (Nat.le_refl _) _)⟩
 have hz0 : w.heap.size < (w.alloc (.cells #[.string x.f0.f0, .string x.f0.f1, .slice A0 x.f1.length c0, .slice A1 x.f2.length c1] 29)).heap.size := by simp
 have x0_0 : (w.alloc (.cells #[.string x.f0.f0, .string x.f0.f1, .slice A0 x.f1.length c0, .slice A1 x.f2.length c1] 29)).cell? ⟨w.heap.size, 0, none⟩ = some (.string x.f0.f0) := by simp
 have x0_1 : (w.alloc (.cells #[.string x.f0.f0, .string x.f0.f1, .slice A0 x.f1.length c0, .slice A1 x.f2.length c1] 29)).cell? ⟨w.heap.size, 1, none⟩ = some (.string x.f0.f1) := by simp
 have x0_2 : (w.alloc (.cells #[.string x.f0.f0, .string x.f0.f1, .slice A0 x.f1.length c0, .slice A1 x.f2.length c1] 29)).cell? ⟨w.heap.size, 2, none⟩ = some (.slice A0 x.f1.length c0) := by simp
 have x0_3 : (w.alloc (.cells #[.string x.f0.f0, .string x.f0.f1, .slice A0 x.f1.length c0, .slice A1 x.f2.length c1] 29)).cell? ⟨w.heap.size, 3, none⟩ = some (.slice A1 x.f2.length c1) := by simp
 go_enter Tryz.func19, Tryz.ntmps19
 go_wp2_with fail
 refine (calls_at (a := a) (by omega) (markAddrS_any A0 c0 c0 x.f1.length x.f1 (a) base (fun q => ok q ∧ q < w.heap.size) _ G0.out hw_1.1 (by omega))).mono ?_
 rintro e u0 ⟨rfl, m0, g0⟩
 have t0 : Tch (fun q => ok q ∧ q < w.heap.size) _ u0 := (Tch.refl _ _).row g0 (fun q hq => G0.out.1 q hq)
 replace G1 := Aside0.mk (Kd.R_over' G1.out (Kd.R_typed G0.out) (by decide) g0)
 clear g0
 have T1 := Aside0.mk (T0.out.trans t0)
 replace G0 := Aside0.mk m0
 have x1_0 := (tch_cell t0 hz0 (fun h => Nat.lt_irrefl _ h.2) 0).trans x0_0
 have x1_1 := (tch_cell t0 hz0 (fun h => Nat.lt_irrefl _ h.2) 1).trans x0_1
 have x1_2 := (tch_cell t0 hz0 (fun h => Nat.lt_irrefl _ h.2) 2).trans x0_2
 have x1_3 := (tch_cell t0 hz0 (fun h => Nat.lt_irrefl _ h.2) 3).trans x0_3
 have hz1 : w.heap.size < u0.heap.size := Nat.lt_of_lt_of_le hz0 t0.size
 clear m0 t0 x0_0 x0_1 x0_2 x0_3
 go_wp2_with fail
 refine (calls_at (a := a + 2 * x.f1.length) (by omega) (markStringS_any A1 c1 c1 x.f2.length x.f2 (a + 2 * x.f1.length) base (fun q => ok q ∧ q < w.heap.size) _ G1.out hw_2.1 (by omega))).mono ?_
 rintro e u1 ⟨rfl, m1, g1⟩
 have t1 : Tch (fun q => ok q ∧ q < w.heap.size) _ u1 := (Tch.refl _ _).row g1 (fun q hq => G1.out.1 q hq)
 replace G0 := Aside0.mk (Kd.R_over' G0.out (Kd.R_typed G1.out) (by decide) g1)
 clear g1
 have T2 := Aside0.mk (T1.out.trans t1)
 replace G1 := Aside0.mk m1
 have x2_0 := (tch_cell t1 hz1 (fun h => Nat.lt_irrefl _ h.2) 0).trans x1_0
 have x2_1 := (tch_cell t1 hz1 (fun h => Nat.lt_irrefl _ h.2) 1).trans x1_1
 have x2_2 := (tch_cell t1 hz1 (fun h => Nat.lt_irrefl _ h.2) 2).trans x1_2
 have x2_3 := (tch_cell t1 hz1 (fun h => Nat.lt_irrefl _ h.2) 3).trans x1_3
 have hz2 : w.heap.size < u1.heap.size := Nat.lt_of_lt_of_le hz1 t1.size
 clear m1 t1 x1_0 x1_1 x1_2 x1_3
 go_wp2
 go_ret
 exact ⟨reti (by omega), by omega, Kd.R_mono G0.out (fun q hq => hq.1), Kd.R_mono G1.out (fun q hq => hq.1), T2.out.mono (fun q hq _ => hq.1)⟩
end Go.Proofs.YticepbgacokbbaaGreatDoor
