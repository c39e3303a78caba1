/- Drawn lists of aliases of any kind: a weak contract. -/
import Derived.Test.YticepbgacokbbaaGreatDoorDrwAl
namespace Go.Proofs.YticepbgacokbbaaGreatDoor
open Go.RowKit Go.Proofs.YticepbgacokbbaaGreatDoorW.PrintWords
set_option linter.unusedVariables false
set_option linter.unusedSimpArgs false
set_option maxRecDepth 100000 in
set_option maxHeartbeats 4000000 in
theorem drAnyAliases_any (g m : Nat) (w : World) (h : Rd g m w) (hm : m + 66 ≤ 1000000000) :
  Calls Tryz.prog 22 #[.pointer (some ⟨g, 0, none⟩)] w fun e w' => ∃ (xs : List SAlias) (B : Option Addr) (d : Nat), e = .returned (.slice B xs.length d) ∧ (xs.length ≤ 7 ∧ ∀ x ∈ xs, smallAl 3 x) ∧ Kd.R kAlias 58 w' w.heap.size (fun _ => True) (.slice B xs.length d) xs ∧ Rd g (m + 66) w' ∧ Dr g w w' := by
 have HR := Aside0.mk h
 have HD := Aside0.mk (Dr.refl g w)
 have hgl := h.lt
 have ng0 : ¬ w.heap.size = g := by omega
 have ng1 : ¬ w.heap.size + 1 = g := by omega
 have ng2 : ¬ w.heap.size + 2 = g := by omega
 clear h
 go_enter Tryz.func22, Tryz.ntmps22
 go_wp2_with fail
 refine Calls.mono (drAliases_any g m w HR.out (by omega)) ?_
 rintro e w1 ⟨xs, B, d, rfl, ⟨hxl, hx⟩, hO, hr_, hd_⟩
 have HO := Aside0.mk hO
 have HX := Lib.hid hx
 replace HR := Aside0.mk hr_
 replace HD := Aside0.mk hd_
 have yw1 := HD.out.size
 clear hO hx hr_ hd_
 by_cases hx0 : 0 < xs.length
 ·have hx0' : (0 : Int) < (xs.length : Int) := by omega
  obtain ⟨gb, hgb, hgb1, hgb2⟩ := own_form2 HO.out hx0
  subst hgb
  go_wp2_with fail
  refine Calls.mono (pick_any g _ 14 _ HR.out (by omega) (by omega)) ?_
  rintro e w2 ⟨k2, rfl, hk2, hr_, hd_⟩
  replace HO := Aside0.mk (Dr.R hd_ HO.out hgl)
  replace HR := Aside0.mk hr_
  replace HD := Aside0.mk (Dr.then_ HD.out hd_)
  have yw2 := HD.out.size
  clear hr_ hd_
  have hk2 := hk2 (by omega)
  obtain ⟨y, ey⟩ : ∃ y, y = xs.getD 0 zAlias := ⟨_, rfl⟩
  have hsy := HX.out _ (getD_mem xs zAlias hx0)
  rw [← ey] at hsy
  have HSY := Lib.hid hsy
  have HY := Lib.hid ey.symm
  clear ey hsy
  have h4 : k2 = 0 ∨ k2 = 1 ∨ k2 = 2 ∨ 2 < k2 := by omega
  rcases h4 with h4 | h4 | h4 | h4
  ·have q0' : ((k2 : Int) == 0) = true := by simp; omega
   clear h4
   obtain ⟨ci, hil, hiM, hic, hif⟩ := Kd.R_elem HO.out zAlias 0 (by omega) (by omega)
   rw [show Int.toNat 0 = 0 from rfl] at hiM hic hif
   rw [HY.out] at hiM
   obtain ⟨v0, rfl, u0⟩ := kAlias_openM hiM
   have i0_ : w2.cell? ⟨gb, 0, none⟩ = some (.string y.f0.f0) := by have := hic 0 _ rfl; simpa [show kAlias.sz = 3 from rfl] using this
   have i1_ : w2.cell? ⟨gb, 1, none⟩ = some (.string y.f0.f1) := by have := hic 1 _ rfl; simpa [show kAlias.sz = 3 from rfl] using this
   have i2_ : w2.cell? ⟨gb, 2, none⟩ = some (v0) := by have := hic 2 _ rfl; simpa [show kAlias.sz = 3 from rfl] using this
   have j0_ : w2.frozen? ⟨gb, 0, none⟩ = false := by have := hif 0; simpa [show kAlias.sz = 3 from rfl] using this
   have j1_ : w2.frozen? ⟨gb, 1, none⟩ = false := by have := hif 1; simpa [show kAlias.sz = 3 from rfl] using this
   have j2_ : w2.frozen? ⟨gb, 2, none⟩ = false := by have := hif 2; simpa [show kAlias.sz = 3 from rfl] using this
   go_wp2_with (first | ((with_reducible refine gate_builtin (b := .append) (xs := #[.tmp 13, .tmp 17]) rfl ?_); (try (refine gate_guard (by rfl) ?_; dsimp only)); at_builtin; (refine Kd.R_append kAlias (w0 := w2) (w.heap.size) rfl (.tmp 13) (.tmp 17) 23 58 (.agg #[(.string ⟨#[]⟩), (.string ⟨#[]⟩), (.slice none 0 0)]) 56 rfl Tryz.underlying23 info58 rfl (by decide) (by omega) (.slice (some ⟨gb, 0, none⟩) xs.length d) xs y [.string y.f0.f0, .string y.f0.f1, v0] (fun _ => True) (fun k => True ∧ k ≠ gb) rfl rfl hiM (fun k hk => ⟨trivial, fun e => hk.2 (by have e := Option.some.inj e; exact e)⟩) (fun _ _ => trivial) HO.out (Below.refl _ _) (by omega) (by omega) ?_); intro vA w9 ho hb hg hat; (have nHR := Rd.keep HR.out (fun q hq => hb.block q (by omega)); have nHD : Dr g w w9 := Dr.belowB HD.out hb; have HO9 := Aside0.mk ho; clear HR HD; have HR := Aside0.mk nHR; have HD := Aside0.mk nHD; clear ho hb hg hat nHR nHD)))
   obtain ⟨A2, c2, hv2⟩ := Kd.R_slice HO9.out
   subst hv2
   go_ret
   exact ⟨xs ++ [y], A2, c2, rfl, ⟨by rw [List.length_append]; show xs.length + 1 ≤ 7; omega, smallAl_snoc HX.out HSY.out⟩, HO9.out, HR.out.up (by omega), HD.out⟩
  ·have q0' : ((k2 : Int) == 0) = false := by simp; omega
   have q1' : ((k2 : Int) == 1) = true := by simp; omega
   clear h4
   obtain ⟨ci, hil, hiM, hic, hif⟩ := Kd.R_elem HO.out zAlias 0 (by omega) (by omega)
   rw [show Int.toNat 0 = 0 from rfl] at hiM hic hif
   rw [HY.out] at hiM
   obtain ⟨v0, rfl, u0⟩ := kAlias_openM hiM
   have i0_ : w2.cell? ⟨gb, 0, none⟩ = some (.string y.f0.f0) := by have := hic 0 _ rfl; simpa [show kAlias.sz = 3 from rfl] using this
   have i1_ : w2.cell? ⟨gb, 1, none⟩ = some (.string y.f0.f1) := by have := hic 1 _ rfl; simpa [show kAlias.sz = 3 from rfl] using this
   have i2_ : w2.cell? ⟨gb, 2, none⟩ = some (v0) := by have := hic 2 _ rfl; simpa [show kAlias.sz = 3 from rfl] using this
   have j0_ : w2.frozen? ⟨gb, 0, none⟩ = false := by have := hif 0; simpa [show kAlias.sz = 3 from rfl] using this
   have j1_ : w2.frozen? ⟨gb, 1, none⟩ = false := by have := hif 1; simpa [show kAlias.sz = 3 from rfl] using this
   have j2_ : w2.frozen? ⟨gb, 2, none⟩ = false := by have := hif 2; simpa [show kAlias.sz = 3 from rfl] using this
   go_wp2
   go_ret
   have hs := Kd.R_seg HO.out 0 (by omega) (by omega) (seg := [.slice none 0 0]) (j := 2) hil hic (by show 2 + 1 ≤ 3; omega) (x' := (⟨y.f0, []⟩ : SAlias)) (okp := fun k => True ∧ k ≠ gb) (kAlias_mkM _ _ _ (⟨y.f0, []⟩ : SAlias) (Kd.R_nil _ _ _ _ _)) (fun _ h => h)
   rw [show Int.toNat 0 = 0 from rfl] at hs
   simp only [World.setCells, show kAlias.sz = 3 from rfl, Nat.zero_mul, Nat.zero_add, Nat.add_zero] at hs
   refine ⟨(xs.set 0 (⟨y.f0, []⟩ : SAlias)), some ⟨gb, 0, none⟩, d, by rw [List.length_set]; rfl, ⟨by rw [List.length_set]; omega, smallAl_set HX.out ⟨HSY.out.1, Nat.zero_le _, fun t ht => by cases ht⟩⟩, by rw [List.length_set]; exact hs.1, (HR.out.set (p := ⟨gb, 2, none⟩) _ (by show g < gb; omega)).up (by omega), HD.out.set (p := ⟨gb, 2, none⟩) _ (.inl (by show w.heap.size ≤ gb; omega))⟩
  ·have q0' : ((k2 : Int) == 0) = false := by simp; omega
   have q1' : ((k2 : Int) == 1) = false := by simp; omega
   have q2' : ((k2 : Int) == 2) = true := by simp; omega
   clear h4
   go_wp2_with fail
   refine Calls.mono (drAnyAddr_any g _ _ HR.out (by omega)) ?_
   rintro e w3 ⟨a, rfl, ha, hr_, hd_⟩
   replace HO := Aside0.mk (Dr.R hd_ HO.out hgl)
   replace HR := Aside0.mk hr_
   replace HD := Aside0.mk (Dr.then_ HD.out hd_)
   have yw3 := HD.out.size
   clear hr_ hd_
   obtain ⟨ci, hil, hiM, hic, hif⟩ := Kd.R_elem HO.out zAlias 0 (by omega) (by omega)
   rw [show Int.toNat 0 = 0 from rfl] at hiM hic hif
   rw [HY.out] at hiM
   obtain ⟨v0, rfl, u0⟩ := kAlias_openM hiM
   have i0_ : w3.cell? ⟨gb, 0, none⟩ = some (.string y.f0.f0) := by have := hic 0 _ rfl; simpa [show kAlias.sz = 3 from rfl] using this
   have i1_ : w3.cell? ⟨gb, 1, none⟩ = some (.string y.f0.f1) := by have := hic 1 _ rfl; simpa [show kAlias.sz = 3 from rfl] using this
   have i2_ : w3.cell? ⟨gb, 2, none⟩ = some (v0) := by have := hic 2 _ rfl; simpa [show kAlias.sz = 3 from rfl] using this
   have j0_ : w3.frozen? ⟨gb, 0, none⟩ = false := by have := hif 0; simpa [show kAlias.sz = 3 from rfl] using this
   have j1_ : w3.frozen? ⟨gb, 1, none⟩ = false := by have := hif 1; simpa [show kAlias.sz = 3 from rfl] using this
   have j2_ : w3.frozen? ⟨gb, 2, none⟩ = false := by have := hif 2; simpa [show kAlias.sz = 3 from rfl] using this
   go_wp2
   go_ret
   have hs := Kd.R_seg HO.out 0 (by omega) (by omega) (seg := [.string a.f0, .string a.f1]) (j := 0) hil hic (by show 0 + 2 ≤ 3; omega) (x' := (⟨a, y.f1⟩ : SAlias)) (okp := fun k => True ∧ k ≠ gb) (kAlias_mkM _ _ _ (⟨a, y.f1⟩ : SAlias) u0) (fun _ h => h)
   rw [show Int.toNat 0 = 0 from rfl] at hs
   simp only [World.setCells, show kAlias.sz = 3 from rfl, Nat.zero_mul, Nat.zero_add, Nat.add_zero] at hs
   refine ⟨(xs.set 0 (⟨a, y.f1⟩ : SAlias)), some ⟨gb, 0, none⟩, d, by rw [List.length_set]; rfl, ⟨by rw [List.length_set]; omega, smallAl_set HX.out ⟨ha, HSY.out.2⟩⟩, by rw [List.length_set]; exact hs.1, ((HR.out.set (p := ⟨gb, 0, none⟩) _ (by show g < gb; omega)).set (p := ⟨gb, 1, none⟩) _ (by show g < gb; omega)).up (by omega), (HD.out.set (p := ⟨gb, 0, none⟩) _ (.inl (by show w.heap.size ≤ gb; omega))).set (p := ⟨gb, 1, none⟩) _ (.inl (by show w.heap.size ≤ gb; omega))⟩
  ·have q0' : ((k2 : Int) == 0) = false := by simp; omega
   have q1' : ((k2 : Int) == 1) = false := by simp; omega
   have q2' : ((k2 : Int) == 2) = false := by simp; omega
   clear h4
   go_wp2
   go_ret
   exact ⟨xs, some ⟨gb, 0, none⟩, d, rfl, ⟨by omega, HX.out⟩, HO.out, HR.out.up (by omega), HD.out⟩
 ·have hx0' : ¬ (0 : Int) < (xs.length : Int) := by omega
  obtain ⟨A1, c1, hv1⟩ := Kd.R_slice HO.out
  go_wp2
  go_ret
  exact ⟨xs, B, d, rfl, ⟨by omega, HX.out⟩, HO.out, HR.out.up (by omega), HD.out⟩

end Go.Proofs.YticepbgacokbbaaGreatDoor
