/- The laws' marks of rows: what they write, what they leave. -/
import Derived.Test.YtejiifmopopflaaGreatDoorMarkText
namespace Go.Proofs.YtejiifmopopflaaGreatDoor
open Go.RowKit Go.Proofs.YtejiifmopopflaaGreatDoorW.PrintWords
set_option linter.unusedVariables false
set_option linter.unusedSimpArgs false

theorem markText_at (a : Nat) (z : Int) (hz : z = a) (h : a ≤ 4611686018427387904) (w : World) : Calls Tryz.prog 139 #[.int .i64 z] w fun e w' => e = .returned (.string (markS a)) ∧ Below w.heap.size w w' := by
  subst hz
  exact markText_any a h w
theorem own_put2 {α : Type} {d : Kd α} {e : Nat} {W : World} {base g n cap : Nat} {ok : Nat → Prop} {xs : List α} (h : Kd.R d e W base ok (.slice (some ⟨g, 0, none⟩) n cap) xs) (k : Nat) (hk : k < n) (x' : α) (c : List Value) (hcl : c.length = d.sz) (j : Nat) (u : Value) (hj : j < d.sz)
    (hM : d.M W base (fun _ => False) x' (c.take j ++ [u] ++ c.drop (j + 1))) (hcc : ∀ j u, c[j]? = some u → W.cell? ⟨g, k * d.sz + j, none⟩ = some u) :
    Kd.R d e (W.setCell ⟨g, k * d.sz + j, none⟩ u) base ok (.slice (some ⟨g, 0, none⟩) n cap) (xs.set k x') ∧ W.grownBy (W.setCell ⟨g, k * d.sz + j, none⟩ u) (some g) := by
  have := Kd.R_seg h (k : Int) (by omega) (by omega) (seg := [u]) (j := j) (c := c) hcl (by rw [Int.toNat_natCast]; exact hcc) (by simp; omega) (x' := x') hM (fun _ hk => hk.elim)
  rw [Int.toNat_natCast] at this
  exact this
theorem own_form2 {α : Type} {d : Kd α} {e : Nat} {w : World} {base n cap : Nat} {ok : Nat → Prop} {A : Option Addr} {xs : List α} (h : Kd.R d e w base ok (.slice A n cap) xs) (hp : 0 < xs.length) : ∃ g, A = some ⟨g, 0, none⟩ ∧ base ≤ g ∧ g < w.heap.size := by
  obtain ⟨g, cap', he, hb, hg, _⟩ := Kd.R_form h hp
  injection he with h1 h2 h3
  exact ⟨g, h1, hb, hg⟩
theorem set_getD {α : Type} (zs : List α) (k : Nat) (z y : α) (hk : k < zs.length) (j : Nat) : (zs.set k y).getD j z = if j = k then y else zs.getD j z := by
  rw [List.getD, List.getD, List.getElem?_set]
  by_cases e : k = j
  · subst e; simp [hk]
  · rw [if_neg e, if_neg (Ne.symm e)]
theorem ext_getD {α : Type} (z : α) {xs ys : List α} (hl : xs.length = ys.length) (h : ∀ j, j < xs.length → xs.getD j z = ys.getD j z) : xs = ys := by
  refine List.ext_getElem hl fun j h1 h2 => ?_
  have := h j h1
  rwa [List.getD, List.getD, List.getElem?_eq_getElem h1, List.getElem?_eq_getElem h2] at this
def mkString (b : Nat) : ByteArray := (markS (b + 0))
def mksString (a n : Nat) : List ByteArray := (List.range n).map fun i => mkString (a + 1 * i)
theorem mksString_length (a n : Nat) : (mksString a n).length = n := by simp [mksString]
set_option maxRecDepth 100000 in
set_option maxHeartbeats 4000000 in
theorem markStringS_any (A : Option Addr) (c cap n : Nat) (xs : List ByteArray) (a : Nat) (base : Nat) (ok : Nat → Prop) (w : World) (hr : Kd.R Kd.string 9 w base ok (.slice A n cap) xs) (hlen : n ≤ 1048576) (ha : a ≤ 2305843009213693952) :
    Calls Tryz.prog 74 #[.slice A n c, .int .i64 (a : Int)] w fun e w' => e = .returned (.int .i64 ((a + 1 * n : Nat) : Int)) ∧ Kd.R Kd.string 9 w' base ok (.slice A n cap) (mksString a n) ∧ w.grownBy w' (Value.slice A n cap).ownBlock := by
  have hn0 : n = xs.length := (Kd.R_reads' hr).1
  have HN := Lib.hid hn0
  clear hn0
  go_enter Tryz.func74, Tryz.ntmps74
  go_wp2
  go_loopg [1, 5] n (fun gq v1 v5 wr => ∃ (k b : Nat) (zs : List ByteArray), k ≤ n ∧ n - k ≤ gq ∧ v1 = .int .i64 (b : Int) ∧ b ≤ a + 1 * k ∧ Aside0 (b = a + 1 * k) ∧ v5 = .int .i64 (k : Int) ∧ Aside0 (zs.length = n) ∧ Aside0 (∀ j, j < k → zs.getD j (⟨#[]⟩ : ByteArray) = mkString (a + 1 * j)) ∧ Aside0 (Kd.R Kd.string 9 wr base ok (.slice A n cap) zs) ∧ Aside0 (w.grownBy wr (Value.slice A n cap).ownBlock))
  case atStart => exact ⟨0, a, xs, Nat.zero_le _, by omega, rfl, by omega, ⟨by omega⟩, rfl, ⟨HN.out.symm⟩, ⟨fun j hj => absurd hj (Nat.not_lt_zero _)⟩, ⟨hr⟩, ⟨grown_of_below (Below.refl _ _) _⟩⟩
  case round =>
    clear hr
    obtain ⟨k, b, zs, hk, hg, rfl, hb, HB, rfl, HL, HM, HR, HG⟩ := hrel
    by_cases hlt : k < n
    · have hlt' : (k : Int) < (n : Int) := by omega
      obtain ⟨gb, rfl, hgb, hgs⟩ := own_form2 HR.out (by rw [HL.out]; omega)
      obtain ⟨cs, hcl, hM, hcc, hfr⟩ := Kd.R_elem HR.out (⟨#[]⟩ : ByteArray) (k : Int) (by omega) (by omega)
      rw [Int.toNat_natCast] at hM hcc hfr
      have hset := fun y' => set_getD zs k (⟨#[]⟩ : ByteArray) y' (by rw [HL.out]; exact hlt)
      have HST := Lib.hid hset
      clear hset
      have HLk : k < zs.length := by rw [HL.out]; exact hlt
      generalize hyy : zs.getD k (⟨#[]⟩ : ByteArray) = y at hM
      have HY := Lib.hid hyy
      clear hyy
      have hM' : cs = [.string y] := hM
      subst hM'
      have x0 : wr.cell? ⟨gb, k, none⟩ = some (.string y) := by have := hcc 0 _ rfl; rwa [show k * (Kd.string).sz + 0 = k from by show k * 1 + 0 = k; omega] at this
      have f0 : wr.frozen? ⟨gb, k, none⟩ = false := by have := hfr 0; rwa [show k * (Kd.string).sz + 0 = k from by show k * 1 + 0 = k; omega] at this
      clear hcc hfr hM hcl
      have HP := HR
      have HQ := HG
      clear HR HG
      go_wp2_with fail
      refine (markText_at (b + 0) _ (by omega) (by omega) _).mono ?_
      rintro e u0 ⟨rfl, b0⟩
      obtain ⟨q0, p0⟩ := bcell b0
      have hz0 : gb < u0.heap.size := by have hz := b0.size; (try simp at hz); omega
      replace HP := Aside0.mk (Kd.R_below HP.out b0)
      replace HQ := Aside0.mk (HQ.out.trans (grown_of_below b0 _))
      clear b0
      obtain ⟨c0, _, hM0, hcc0, _⟩ := Kd.R_elem HP.out (⟨#[]⟩ : ByteArray) (k : Int) (by omega) (by omega)
      rw [Int.toNat_natCast] at hM0 hcc0
      rw [HY.out] at hM0
      have hM'0 : c0 = [.string y] := hM0
      subst hM'0
      have P0 := own_put2 HP.out k hlt ((markS (b + 0)) : ByteArray) [.string y] rfl 0 (.string (markS (b + 0))) (by decide) (by show _ = _; rfl) hcc0
      rw [show k * (Kd.string).sz + 0 = k from by show k * 1 + 0 = k; omega] at P0
      clear hM0 hcc0
      have HP := Aside0.mk P0.1
      have HQ := Aside0.mk (HQ.out.trans P0.2)
      clear P0
      go_wp2
      go_roundg (n - (k + 1))
      case measure => omega
      case rel =>
        have hmk : ((markS (b + 0)) : ByteArray) = mkString (a + 1 * k) := by rw [← HB.out]; unfold mkString; first | rfl | (congr 1; done) | (congr 1; all_goals omega) | (congr 2; all_goals omega)
        refine ⟨k + 1, b + 1, _, by omega, Nat.le_refl _, by first | rfl | (congr 1; done) | (congr 1; omega) | (congr 2; omega), by omega, ⟨by have := HB.out; omega⟩, by go_num, ⟨?_⟩, ⟨?_⟩, HP, HQ⟩
        · rw [List.length_set]; exact HL.out
        · intro j hj
          rw [HST.out, hmk]
          by_cases e : j = k
          · subst e; rw [if_pos rfl]
          · rw [if_neg e]; exact HM.out j (by omega)
    · have hlt' : ¬ (k : Int) < (n : Int) := by omega
      have hkn : k = n := by omega
      have he : zs = mksString a n := ext_getD (⟨#[]⟩ : ByteArray) (by rw [HL.out, mksString_length]) (fun j hj => by
        rw [HL.out] at hj
        rw [HM.out j (by omega)]
        simp [mksString, hj])
      rw [he] at HR
      have hbb := HB.out
      rw [hkn] at hbb
      have HBB := Lib.hid hbb
      clear hbb HB he HM HL
      go_wp2
      go_ret
      exact ⟨reti (by have := HBB.out; omega), HR.out, HG.out⟩
def mkInt (b : Nat) : Int := ((b + 0 : Nat) : Int)
def mksInt (a n : Nat) : List Int := (List.range n).map fun i => mkInt (a + 1 * i)
theorem mksInt_length (a n : Nat) : (mksInt a n).length = n := by simp [mksInt]
set_option maxRecDepth 100000 in
set_option maxHeartbeats 4000000 in
theorem markIntS_any (A : Option Addr) (c cap n : Nat) (xs : List Int) (a : Nat) (base : Nat) (ok : Nat → Prop) (w : World) (hr : Kd.R (Kd.int .i64) 3 w base ok (.slice A n cap) xs) (hlen : n ≤ 1048576) (ha : a ≤ 2305843009213693952) :
    Calls Tryz.prog 45 #[.slice A n c, .int .i64 (a : Int)] w fun e w' => e = .returned (.int .i64 ((a + 1 * n : Nat) : Int)) ∧ Kd.R (Kd.int .i64) 3 w' base ok (.slice A n cap) (mksInt a n) ∧ w.grownBy w' (Value.slice A n cap).ownBlock := by
  have hn0 : n = xs.length := (Kd.R_reads' hr).1
  have HN := Lib.hid hn0
  clear hn0
  go_enter Tryz.func45, Tryz.ntmps45
  go_wp2
  go_loopg [1, 5] n (fun gq v1 v5 wr => ∃ (k b : Nat) (zs : List Int), k ≤ n ∧ n - k ≤ gq ∧ v1 = .int .i64 (b : Int) ∧ b ≤ a + 1 * k ∧ Aside0 (b = a + 1 * k) ∧ v5 = .int .i64 (k : Int) ∧ Aside0 (zs.length = n) ∧ Aside0 (∀ j, j < k → zs.getD j (0 : Int) = mkInt (a + 1 * j)) ∧ Aside0 (Kd.R (Kd.int .i64) 3 wr base ok (.slice A n cap) zs) ∧ Aside0 (w.grownBy wr (Value.slice A n cap).ownBlock))
  case atStart => exact ⟨0, a, xs, Nat.zero_le _, by omega, rfl, by omega, ⟨by omega⟩, rfl, ⟨HN.out.symm⟩, ⟨fun j hj => absurd hj (Nat.not_lt_zero _)⟩, ⟨hr⟩, ⟨grown_of_below (Below.refl _ _) _⟩⟩
  case round =>
    clear hr
    obtain ⟨k, b, zs, hk, hg, rfl, hb, HB, rfl, HL, HM, HR, HG⟩ := hrel
    by_cases hlt : k < n
    · have hlt' : (k : Int) < (n : Int) := by omega
      obtain ⟨gb, rfl, hgb, hgs⟩ := own_form2 HR.out (by rw [HL.out]; omega)
      obtain ⟨cs, hcl, hM, hcc, hfr⟩ := Kd.R_elem HR.out (0 : Int) (k : Int) (by omega) (by omega)
      rw [Int.toNat_natCast] at hM hcc hfr
      have hset := fun y' => set_getD zs k (0 : Int) y' (by rw [HL.out]; exact hlt)
      have HST := Lib.hid hset
      clear hset
      have HLk : k < zs.length := by rw [HL.out]; exact hlt
      generalize hyy : zs.getD k (0 : Int) = y at hM
      have HY := Lib.hid hyy
      clear hyy
      have hM' : cs = [.int .i64 y] := hM
      subst hM'
      have x0 : wr.cell? ⟨gb, k, none⟩ = some (.int .i64 y) := by have := hcc 0 _ rfl; rwa [show k * ((Kd.int .i64)).sz + 0 = k from by show k * 1 + 0 = k; omega] at this
      have f0 : wr.frozen? ⟨gb, k, none⟩ = false := by have := hfr 0; rwa [show k * ((Kd.int .i64)).sz + 0 = k from by show k * 1 + 0 = k; omega] at this
      clear hcc hfr hM hcl
      have HP := HR
      have HQ := HG
      clear HR HG
      obtain ⟨c0, _, hM0, hcc0, _⟩ := Kd.R_elem HP.out (0 : Int) (k : Int) (by omega) (by omega)
      rw [Int.toNat_natCast] at hM0 hcc0
      rw [HY.out] at hM0
      have hM'0 : c0 = [.int .i64 y] := hM0
      subst hM'0
      have P0 := own_put2 HP.out k hlt (((b : Int)) : Int) [.int .i64 y] rfl 0 (.int .i64 ((b : Int))) (by decide) (by show _ = _; rfl) hcc0
      rw [show k * ((Kd.int .i64)).sz + 0 = k from by show k * 1 + 0 = k; omega] at P0
      clear hM0 hcc0
      have HP := Aside0.mk P0.1
      have HQ := Aside0.mk (HQ.out.trans P0.2)
      clear P0
      go_wp2
      go_roundg (n - (k + 1))
      case measure => omega
      case rel =>
        have hmk : (((b : Int)) : Int) = mkInt (a + 1 * k) := by rw [← HB.out]; unfold mkInt; first | rfl | (congr 1; done) | (congr 1; all_goals omega) | (congr 2; all_goals omega)
        refine ⟨k + 1, b + 1, _, by omega, Nat.le_refl _, by first | rfl | (congr 1; done) | (congr 1; omega) | (congr 2; omega), by omega, ⟨by have := HB.out; omega⟩, by go_num, ⟨?_⟩, ⟨?_⟩, HP, HQ⟩
        · rw [List.length_set]; exact HL.out
        · intro j hj
          rw [HST.out, hmk]
          by_cases e : j = k
          · subst e; rw [if_pos rfl]
          · rw [if_neg e]; exact HM.out j (by omega)
    · have hlt' : ¬ (k : Int) < (n : Int) := by omega
      have hkn : k = n := by omega
      have he : zs = mksInt a n := ext_getD (0 : Int) (by rw [HL.out, mksInt_length]) (fun j hj => by
        rw [HL.out] at hj
        rw [HM.out j (by omega)]
        simp [mksInt, hj])
      rw [he] at HR
      have hbb := HB.out
      rw [hkn] at hbb
      have HBB := Lib.hid hbb
      clear hbb HB he HM HL
      go_wp2
      go_ret
      exact ⟨reti (by have := HBB.out; omega), HR.out, HG.out⟩
def mkAddr (b : Nat) : SAddr := ⟨(markS (b + 0)), (markS (b + 1))⟩
def mksAddr (a n : Nat) : List SAddr := (List.range n).map fun i => mkAddr (a + 2 * i)
theorem mksAddr_length (a n : Nat) : (mksAddr a n).length = n := by simp [mksAddr]
set_option maxRecDepth 100000 in
set_option maxHeartbeats 4000000 in
theorem markAddrS_any (A : Option Addr) (c cap n : Nat) (xs : List SAddr) (a : Nat) (base : Nat) (ok : Nat → Prop) (w : World) (hr : Kd.R kAddr 32 w base ok (.slice A n cap) xs) (hlen : n ≤ 1048576) (ha : a ≤ 2305843009213693952) :
    Calls Tryz.prog 106 #[.slice A n c, .int .i64 (a : Int)] w fun e w' => e = .returned (.int .i64 ((a + 2 * n : Nat) : Int)) ∧ Kd.R kAddr 32 w' base ok (.slice A n cap) (mksAddr a n) ∧ w.grownBy w' (Value.slice A n cap).ownBlock := by
  have hn0 : n = xs.length := (Kd.R_reads' hr).1
  have HN := Lib.hid hn0
  clear hn0
  go_enter Tryz.func106, Tryz.ntmps106
  go_wp2
  go_loopg [1, 5] n (fun gq v1 v5 wr => ∃ (k b : Nat) (zs : List SAddr), k ≤ n ∧ n - k ≤ gq ∧ v1 = .int .i64 (b : Int) ∧ b ≤ a + 2 * k ∧ Aside0 (b = a + 2 * k) ∧ v5 = .int .i64 (k : Int) ∧ Aside0 (zs.length = n) ∧ Aside0 (∀ j, j < k → zs.getD j zAddr = mkAddr (a + 2 * j)) ∧ Aside0 (Kd.R kAddr 32 wr base ok (.slice A n cap) zs) ∧ Aside0 (w.grownBy wr (Value.slice A n cap).ownBlock))
  case atStart => exact ⟨0, a, xs, Nat.zero_le _, by omega, rfl, by omega, ⟨by omega⟩, rfl, ⟨HN.out.symm⟩, ⟨fun j hj => absurd hj (Nat.not_lt_zero _)⟩, ⟨hr⟩, ⟨grown_of_below (Below.refl _ _) _⟩⟩
  case round =>
    clear hr
    obtain ⟨k, b, zs, hk, hg, rfl, hb, HB, rfl, HL, HM, HR, HG⟩ := hrel
    by_cases hlt : k < n
    · have hlt' : (k : Int) < (n : Int) := by omega
      obtain ⟨gb, rfl, hgb, hgs⟩ := own_form2 HR.out (by rw [HL.out]; omega)
      obtain ⟨cs, hcl, hM, hcc, hfr⟩ := Kd.R_elem HR.out zAddr (k : Int) (by omega) (by omega)
      rw [Int.toNat_natCast] at hM hcc hfr
      have hset := fun y' => set_getD zs k zAddr y' (by rw [HL.out]; exact hlt)
      have HST := Lib.hid hset
      clear hset
      have HLk : k < zs.length := by rw [HL.out]; exact hlt
      generalize hyy : zs.getD k zAddr = y at hM
      have HY := Lib.hid hyy
      clear hyy
      obtain rfl := kAddr_openM hM
      have x0 : wr.cell? ⟨gb, k * 2, none⟩ = some (.string y.f0) := hcc 0 _ rfl
      have f0 : wr.frozen? ⟨gb, k * 2, none⟩ = false := hfr 0
      have x1 : wr.cell? ⟨gb, k * 2 + 1, none⟩ = some (.string y.f1) := hcc 1 _ rfl
      have f1 : wr.frozen? ⟨gb, k * 2 + 1, none⟩ = false := hfr 1
      clear hcc hfr hM hcl
      have HP := HR
      have HQ := HG
      clear HR HG
      go_wp2_with fail
      refine (markText_at (b + 0) _ (by omega) (by omega) _).mono ?_
      rintro e u0 ⟨rfl, b0⟩
      obtain ⟨q0, p0⟩ := bcell b0
      have hz0 : gb < u0.heap.size := by have hz := b0.size; (try simp at hz); omega
      replace HP := Aside0.mk (Kd.R_below HP.out b0)
      replace HQ := Aside0.mk (HQ.out.trans (grown_of_below b0 _))
      clear b0
      obtain ⟨c0, _, hM0, hcc0, _⟩ := Kd.R_elem HP.out zAddr (k : Int) (by omega) (by omega)
      rw [Int.toNat_natCast] at hM0 hcc0
      rw [HY.out] at hM0
      obtain rfl := kAddr_openM hM0
      have P0 := own_put2 HP.out k hlt (⟨(markS (b + 0)), y.f1⟩ : SAddr) [.string y.f0, .string y.f1] rfl 0 (.string (markS (b + 0))) (by decide) (kAddr_mkM _ _ _ (⟨(markS (b + 0)), y.f1⟩ : SAddr)) hcc0
      clear hM0 hcc0
      have HP := Aside0.mk P0.1
      have HQ := Aside0.mk (HQ.out.trans P0.2)
      clear P0
      go_wp2_with fail
      refine (markText_at (b + 1) _ (by omega) (by omega) _).mono ?_
      rintro e u1 ⟨rfl, b1⟩
      obtain ⟨q1, p1⟩ := bcell b1
      have hz1 : gb < u1.heap.size := by have hz := b1.size; (try simp at hz); omega
      replace HP := Aside0.mk (Kd.R_below HP.out b1)
      replace HQ := Aside0.mk (HQ.out.trans (grown_of_below b1 _))
      clear b1
      obtain ⟨c1, _, hM1, hcc1, _⟩ := Kd.R_elem HP.out zAddr (k : Int) (by omega) (by omega)
      rw [Int.toNat_natCast] at hM1 hcc1
      rw [set_getD _ k _ _ HLk, if_pos rfl] at hM1
      obtain rfl := kAddr_openM hM1
      have P1 := own_put2 HP.out k hlt (⟨(markS (b + 0)), (markS (b + 1))⟩ : SAddr) [.string (markS (b + 0)), .string y.f1] rfl 1 (.string (markS (b + 1))) (by decide) (kAddr_mkM _ _ _ (⟨(markS (b + 0)), (markS (b + 1))⟩ : SAddr)) hcc1
      rw [List.set_set] at P1
      clear hM1 hcc1
      have HP := Aside0.mk P1.1
      have HQ := Aside0.mk (HQ.out.trans P1.2)
      clear P1
      go_wp2
      go_roundg (n - (k + 1))
      case measure => omega
      case rel =>
        have hmk : (⟨(markS (b + 0)), (markS (b + 1))⟩ : SAddr) = mkAddr (a + 2 * k) := by rw [← HB.out]; unfold mkAddr; first | rfl | (congr 1; done) | (congr 1; all_goals omega) | (congr 2; all_goals omega)
        refine ⟨k + 1, b + 2, _, by omega, Nat.le_refl _, by first | rfl | (congr 1; done) | (congr 1; omega) | (congr 2; omega), by omega, ⟨by have := HB.out; omega⟩, by go_num, ⟨?_⟩, ⟨?_⟩, HP, HQ⟩
        · rw [List.length_set]; exact HL.out
        · intro j hj
          rw [HST.out, hmk]
          by_cases e : j = k
          · subst e; rw [if_pos rfl]
          · rw [if_neg e]; exact HM.out j (by omega)
    · have hlt' : ¬ (k : Int) < (n : Int) := by omega
      have hkn : k = n := by omega
      have he : zs = mksAddr a n := ext_getD zAddr (by rw [HL.out, mksAddr_length]) (fun j hj => by
        rw [HL.out] at hj
        rw [HM.out j (by omega)]
        simp [mksAddr, hj])
      rw [he] at HR
      have hbb := HB.out
      rw [hkn] at hbb
      have HBB := Lib.hid hbb
      clear hbb HB he HM HL
      go_wp2
      go_ret
      exact ⟨reti (by have := HBB.out; omega), HR.out, HG.out⟩
def mkWay (b : Nat) : SWay := ⟨(markS (b + 0)), (markS (b + 1))⟩
def mksWay (a n : Nat) : List SWay := (List.range n).map fun i => mkWay (a + 2 * i)
theorem mksWay_length (a n : Nat) : (mksWay a n).length = n := by simp [mksWay]
set_option maxRecDepth 100000 in
set_option maxHeartbeats 4000000 in
theorem markWayS_any (A : Option Addr) (c cap n : Nat) (xs : List SWay) (a : Nat) (base : Nat) (ok : Nat → Prop) (w : World) (hr : Kd.R kWay 136 w base ok (.slice A n cap) xs) (hlen : n ≤ 1048576) (ha : a ≤ 2305843009213693952) :
    Calls Tryz.prog 75 #[.slice A n c, .int .i64 (a : Int)] w fun e w' => e = .returned (.int .i64 ((a + 2 * n : Nat) : Int)) ∧ Kd.R kWay 136 w' base ok (.slice A n cap) (mksWay a n) ∧ w.grownBy w' (Value.slice A n cap).ownBlock := by
  have hn0 : n = xs.length := (Kd.R_reads' hr).1
  have HN := Lib.hid hn0
  clear hn0
  go_enter Tryz.func75, Tryz.ntmps75
  go_wp2
  go_loopg [1, 5] n (fun gq v1 v5 wr => ∃ (k b : Nat) (zs : List SWay), k ≤ n ∧ n - k ≤ gq ∧ v1 = .int .i64 (b : Int) ∧ b ≤ a + 2 * k ∧ Aside0 (b = a + 2 * k) ∧ v5 = .int .i64 (k : Int) ∧ Aside0 (zs.length = n) ∧ Aside0 (∀ j, j < k → zs.getD j zWay = mkWay (a + 2 * j)) ∧ Aside0 (Kd.R kWay 136 wr base ok (.slice A n cap) zs) ∧ Aside0 (w.grownBy wr (Value.slice A n cap).ownBlock))
  case atStart => exact ⟨0, a, xs, Nat.zero_le _, by omega, rfl, by omega, ⟨by omega⟩, rfl, ⟨HN.out.symm⟩, ⟨fun j hj => absurd hj (Nat.not_lt_zero _)⟩, ⟨hr⟩, ⟨grown_of_below (Below.refl _ _) _⟩⟩
  case round =>
    clear hr
    obtain ⟨k, b, zs, hk, hg, rfl, hb, HB, rfl, HL, HM, HR, HG⟩ := hrel
    by_cases hlt : k < n
    · have hlt' : (k : Int) < (n : Int) := by omega
      obtain ⟨gb, rfl, hgb, hgs⟩ := own_form2 HR.out (by rw [HL.out]; omega)
      obtain ⟨cs, hcl, hM, hcc, hfr⟩ := Kd.R_elem HR.out zWay (k : Int) (by omega) (by omega)
      rw [Int.toNat_natCast] at hM hcc hfr
      have hset := fun y' => set_getD zs k zWay y' (by rw [HL.out]; exact hlt)
      have HST := Lib.hid hset
      clear hset
      have HLk : k < zs.length := by rw [HL.out]; exact hlt
      generalize hyy : zs.getD k zWay = y at hM
      have HY := Lib.hid hyy
      clear hyy
      obtain rfl := kWay_openM hM
      have x0 : wr.cell? ⟨gb, k * 2, none⟩ = some (.string y.f0) := hcc 0 _ rfl
      have f0 : wr.frozen? ⟨gb, k * 2, none⟩ = false := hfr 0
      have x1 : wr.cell? ⟨gb, k * 2 + 1, none⟩ = some (.string y.f1) := hcc 1 _ rfl
      have f1 : wr.frozen? ⟨gb, k * 2 + 1, none⟩ = false := hfr 1
      clear hcc hfr hM hcl
      have HP := HR
      have HQ := HG
      clear HR HG
      go_wp2_with fail
      refine (markText_at (b + 0) _ (by omega) (by omega) _).mono ?_
      rintro e u0 ⟨rfl, b0⟩
      obtain ⟨q0, p0⟩ := bcell b0
      have hz0 : gb < u0.heap.size := by have hz := b0.size; (try simp at hz); omega
      replace HP := Aside0.mk (Kd.R_below HP.out b0)
      replace HQ := Aside0.mk (HQ.out.trans (grown_of_below b0 _))
      clear b0
      obtain ⟨c0, _, hM0, hcc0, _⟩ := Kd.R_elem HP.out zWay (k : Int) (by omega) (by omega)
      rw [Int.toNat_natCast] at hM0 hcc0
      rw [HY.out] at hM0
      obtain rfl := kWay_openM hM0
      have P0 := own_put2 HP.out k hlt (⟨(markS (b + 0)), y.f1⟩ : SWay) [.string y.f0, .string y.f1] rfl 0 (.string (markS (b + 0))) (by decide) (kWay_mkM _ _ _ (⟨(markS (b + 0)), y.f1⟩ : SWay)) hcc0
      clear hM0 hcc0
      have HP := Aside0.mk P0.1
      have HQ := Aside0.mk (HQ.out.trans P0.2)
      clear P0
      go_wp2_with fail
      refine (markText_at (b + 1) _ (by omega) (by omega) _).mono ?_
      rintro e u1 ⟨rfl, b1⟩
      obtain ⟨q1, p1⟩ := bcell b1
      have hz1 : gb < u1.heap.size := by have hz := b1.size; (try simp at hz); omega
      replace HP := Aside0.mk (Kd.R_below HP.out b1)
      replace HQ := Aside0.mk (HQ.out.trans (grown_of_below b1 _))
      clear b1
      obtain ⟨c1, _, hM1, hcc1, _⟩ := Kd.R_elem HP.out zWay (k : Int) (by omega) (by omega)
      rw [Int.toNat_natCast] at hM1 hcc1
      rw [set_getD _ k _ _ HLk, if_pos rfl] at hM1
      obtain rfl := kWay_openM hM1
      have P1 := own_put2 HP.out k hlt (⟨(markS (b + 0)), (markS (b + 1))⟩ : SWay) [.string (markS (b + 0)), .string y.f1] rfl 1 (.string (markS (b + 1))) (by decide) (kWay_mkM _ _ _ (⟨(markS (b + 0)), (markS (b + 1))⟩ : SWay)) hcc1
      rw [List.set_set] at P1
      clear hM1 hcc1
      have HP := Aside0.mk P1.1
      have HQ := Aside0.mk (HQ.out.trans P1.2)
      clear P1
      go_wp2
      go_roundg (n - (k + 1))
      case measure => omega
      case rel =>
        have hmk : (⟨(markS (b + 0)), (markS (b + 1))⟩ : SWay) = mkWay (a + 2 * k) := by rw [← HB.out]; unfold mkWay; first | rfl | (congr 1; done) | (congr 1; all_goals omega) | (congr 2; all_goals omega)
        refine ⟨k + 1, b + 2, _, by omega, Nat.le_refl _, by first | rfl | (congr 1; done) | (congr 1; omega) | (congr 2; omega), by omega, ⟨by have := HB.out; omega⟩, by go_num, ⟨?_⟩, ⟨?_⟩, HP, HQ⟩
        · rw [List.length_set]; exact HL.out
        · intro j hj
          rw [HST.out, hmk]
          by_cases e : j = k
          · subst e; rw [if_pos rfl]
          · rw [if_neg e]; exact HM.out j (by omega)
    · have hlt' : ¬ (k : Int) < (n : Int) := by omega
      have hkn : k = n := by omega
      have he : zs = mksWay a n := ext_getD zWay (by rw [HL.out, mksWay_length]) (fun j hj => by
        rw [HL.out] at hj
        rw [HM.out j (by omega)]
        simp [mksWay, hj])
      rw [he] at HR
      have hbb := HB.out
      rw [hkn] at hbb
      have HBB := Lib.hid hbb
      clear hbb HB he HM HL
      go_wp2
      go_ret
      exact ⟨reti (by have := HBB.out; omega), HR.out, HG.out⟩
def mkRcpt (b : Nat) : SRcpt := ⟨⟨(markS (b + 0)), (markS (b + 1))⟩, ((b + 2 : Nat) : Int), ((b + 3 : Nat) : Int)⟩
def mksRcpt (a n : Nat) : List SRcpt := (List.range n).map fun i => mkRcpt (a + 4 * i)
theorem mksRcpt_length (a n : Nat) : (mksRcpt a n).length = n := by simp [mksRcpt]
set_option maxRecDepth 100000 in
set_option maxHeartbeats 4000000 in
theorem markRcptS_any (A : Option Addr) (c cap n : Nat) (xs : List SRcpt) (a : Nat) (base : Nat) (ok : Nat → Prop) (w : World) (hr : Kd.R kRcpt 225 w base ok (.slice A n cap) xs) (hlen : n ≤ 1048576) (ha : a ≤ 2305843009213693952) :
    Calls Tryz.prog 180 #[.slice A n c, .int .i64 (a : Int)] w fun e w' => e = .returned (.int .i64 ((a + 4 * n : Nat) : Int)) ∧ Kd.R kRcpt 225 w' base ok (.slice A n cap) (mksRcpt a n) ∧ w.grownBy w' (Value.slice A n cap).ownBlock := by
  have hn0 : n = xs.length := (Kd.R_reads' hr).1
  have HN := Lib.hid hn0
  clear hn0
  go_enter Tryz.func180, Tryz.ntmps180
  go_wp2
  go_loopg [1, 5] n (fun gq v1 v5 wr => ∃ (k b : Nat) (zs : List SRcpt), k ≤ n ∧ n - k ≤ gq ∧ v1 = .int .i64 (b : Int) ∧ b ≤ a + 4 * k ∧ Aside0 (b = a + 4 * k) ∧ v5 = .int .i64 (k : Int) ∧ Aside0 (zs.length = n) ∧ Aside0 (∀ j, j < k → zs.getD j zRcpt = mkRcpt (a + 4 * j)) ∧ Aside0 (Kd.R kRcpt 225 wr base ok (.slice A n cap) zs) ∧ Aside0 (w.grownBy wr (Value.slice A n cap).ownBlock))
  case atStart => exact ⟨0, a, xs, Nat.zero_le _, by omega, rfl, by omega, ⟨by omega⟩, rfl, ⟨HN.out.symm⟩, ⟨fun j hj => absurd hj (Nat.not_lt_zero _)⟩, ⟨hr⟩, ⟨grown_of_below (Below.refl _ _) _⟩⟩
  case round =>
    clear hr
    obtain ⟨k, b, zs, hk, hg, rfl, hb, HB, rfl, HL, HM, HR, HG⟩ := hrel
    by_cases hlt : k < n
    · have hlt' : (k : Int) < (n : Int) := by omega
      obtain ⟨gb, rfl, hgb, hgs⟩ := own_form2 HR.out (by rw [HL.out]; omega)
      obtain ⟨cs, hcl, hM, hcc, hfr⟩ := Kd.R_elem HR.out zRcpt (k : Int) (by omega) (by omega)
      rw [Int.toNat_natCast] at hM hcc hfr
      have hset := fun y' => set_getD zs k zRcpt y' (by rw [HL.out]; exact hlt)
      have HST := Lib.hid hset
      clear hset
      have HLk : k < zs.length := by rw [HL.out]; exact hlt
      generalize hyy : zs.getD k zRcpt = y at hM
      have HY := Lib.hid hyy
      clear hyy
      obtain rfl := kRcpt_openM hM
      have x0 : wr.cell? ⟨gb, k * 4, none⟩ = some (.string y.f0.f0) := hcc 0 _ rfl
      have f0 : wr.frozen? ⟨gb, k * 4, none⟩ = false := hfr 0
      have x1 : wr.cell? ⟨gb, k * 4 + 1, none⟩ = some (.string y.f0.f1) := hcc 1 _ rfl
      have f1 : wr.frozen? ⟨gb, k * 4 + 1, none⟩ = false := hfr 1
      have x2 : wr.cell? ⟨gb, k * 4 + 2, none⟩ = some (.int .i64 y.f1) := hcc 2 _ rfl
      have f2 : wr.frozen? ⟨gb, k * 4 + 2, none⟩ = false := hfr 2
      have x3 : wr.cell? ⟨gb, k * 4 + 3, none⟩ = some (.int .i64 y.f2) := hcc 3 _ rfl
      have f3 : wr.frozen? ⟨gb, k * 4 + 3, none⟩ = false := hfr 3
      clear hcc hfr hM hcl
      have HP := HR
      have HQ := HG
      clear HR HG
      go_wp2_with fail
      refine (markText_at (b + 0) _ (by omega) (by omega) _).mono ?_
      rintro e u0 ⟨rfl, b0⟩
      obtain ⟨q0, p0⟩ := bcell b0
      have hz0 : gb < u0.heap.size := by have hz := b0.size; (try simp at hz); omega
      replace HP := Aside0.mk (Kd.R_below HP.out b0)
      replace HQ := Aside0.mk (HQ.out.trans (grown_of_below b0 _))
      clear b0
      obtain ⟨c0, _, hM0, hcc0, _⟩ := Kd.R_elem HP.out zRcpt (k : Int) (by omega) (by omega)
      rw [Int.toNat_natCast] at hM0 hcc0
      rw [HY.out] at hM0
      obtain rfl := kRcpt_openM hM0
      have P0 := own_put2 HP.out k hlt (⟨⟨(markS (b + 0)), y.f0.f1⟩, y.f1, y.f2⟩ : SRcpt) [.string y.f0.f0, .string y.f0.f1, .int .i64 y.f1, .int .i64 y.f2] rfl 0 (.string (markS (b + 0))) (by decide) (kRcpt_mkM _ _ _ (⟨⟨(markS (b + 0)), y.f0.f1⟩, y.f1, y.f2⟩ : SRcpt)) hcc0
      clear hM0 hcc0
      have HP := Aside0.mk P0.1
      have HQ := Aside0.mk (HQ.out.trans P0.2)
      clear P0
      go_wp2_with fail
      refine (markText_at (b + 1) _ (by omega) (by omega) _).mono ?_
      rintro e u1 ⟨rfl, b1⟩
      obtain ⟨q1, p1⟩ := bcell b1
      have hz1 : gb < u1.heap.size := by have hz := b1.size; (try simp at hz); omega
      replace HP := Aside0.mk (Kd.R_below HP.out b1)
      replace HQ := Aside0.mk (HQ.out.trans (grown_of_below b1 _))
      clear b1
      obtain ⟨c1, _, hM1, hcc1, _⟩ := Kd.R_elem HP.out zRcpt (k : Int) (by omega) (by omega)
      rw [Int.toNat_natCast] at hM1 hcc1
      rw [set_getD _ k _ _ HLk, if_pos rfl] at hM1
      obtain rfl := kRcpt_openM hM1
      have P1 := own_put2 HP.out k hlt (⟨⟨(markS (b + 0)), (markS (b + 1))⟩, y.f1, y.f2⟩ : SRcpt) [.string (markS (b + 0)), .string y.f0.f1, .int .i64 y.f1, .int .i64 y.f2] rfl 1 (.string (markS (b + 1))) (by decide) (kRcpt_mkM _ _ _ (⟨⟨(markS (b + 0)), (markS (b + 1))⟩, y.f1, y.f2⟩ : SRcpt)) hcc1
      rw [List.set_set] at P1
      clear hM1 hcc1
      have HP := Aside0.mk P1.1
      have HQ := Aside0.mk (HQ.out.trans P1.2)
      clear P1
      obtain ⟨c2, _, hM2, hcc2, _⟩ := Kd.R_elem HP.out zRcpt (k : Int) (by omega) (by omega)
      rw [Int.toNat_natCast] at hM2 hcc2
      rw [set_getD _ k _ _ HLk, if_pos rfl] at hM2
      obtain rfl := kRcpt_openM hM2
      have P2 := own_put2 HP.out k hlt (⟨⟨(markS (b + 0)), (markS (b + 1))⟩, ((b : Int) + 1 + 1), y.f2⟩ : SRcpt) [.string (markS (b + 0)), .string (markS (b + 1)), .int .i64 y.f1, .int .i64 y.f2] rfl 2 (.int .i64 ((b : Int) + 1 + 1)) (by decide) (kRcpt_mkM _ _ _ (⟨⟨(markS (b + 0)), (markS (b + 1))⟩, ((b : Int) + 1 + 1), y.f2⟩ : SRcpt)) hcc2
      rw [List.set_set] at P2
      clear hM2 hcc2
      have HP := Aside0.mk P2.1
      have HQ := Aside0.mk (HQ.out.trans P2.2)
      clear P2
      obtain ⟨c3, _, hM3, hcc3, _⟩ := Kd.R_elem HP.out zRcpt (k : Int) (by omega) (by omega)
      rw [Int.toNat_natCast] at hM3 hcc3
      rw [set_getD _ k _ _ HLk, if_pos rfl] at hM3
      obtain rfl := kRcpt_openM hM3
      have P3 := own_put2 HP.out k hlt (⟨⟨(markS (b + 0)), (markS (b + 1))⟩, ((b : Int) + 1 + 1), ((b : Int) + 1 + 1 + 1)⟩ : SRcpt) [.string (markS (b + 0)), .string (markS (b + 1)), .int .i64 ((b : Int) + 1 + 1), .int .i64 y.f2] rfl 3 (.int .i64 ((b : Int) + 1 + 1 + 1)) (by decide) (kRcpt_mkM _ _ _ (⟨⟨(markS (b + 0)), (markS (b + 1))⟩, ((b : Int) + 1 + 1), ((b : Int) + 1 + 1 + 1)⟩ : SRcpt)) hcc3
      rw [List.set_set] at P3
      clear hM3 hcc3
      have HP := Aside0.mk P3.1
      have HQ := Aside0.mk (HQ.out.trans P3.2)
      clear P3
      go_wp2
      go_roundg (n - (k + 1))
      case measure => omega
      case rel =>
        have hmk : (⟨⟨(markS (b + 0)), (markS (b + 1))⟩, ((b : Int) + 1 + 1), ((b : Int) + 1 + 1 + 1)⟩ : SRcpt) = mkRcpt (a + 4 * k) := by rw [← HB.out]; unfold mkRcpt; first | rfl | (congr 1; done) | (congr 1; all_goals omega) | (congr 2; all_goals omega)
        refine ⟨k + 1, b + 4, _, by omega, Nat.le_refl _, by first | rfl | (congr 1; done) | (congr 1; omega) | (congr 2; omega), by omega, ⟨by have := HB.out; omega⟩, by go_num, ⟨?_⟩, ⟨?_⟩, HP, HQ⟩
        · rw [List.length_set]; exact HL.out
        · intro j hj
          rw [HST.out, hmk]
          by_cases e : j = k
          · subst e; rw [if_pos rfl]
          · rw [if_neg e]; exact HM.out j (by omega)
    · have hlt' : ¬ (k : Int) < (n : Int) := by omega
      have hkn : k = n := by omega
      have he : zs = mksRcpt a n := ext_getD zRcpt (by rw [HL.out, mksRcpt_length]) (fun j hj => by
        rw [HL.out] at hj
        rw [HM.out j (by omega)]
        simp [mksRcpt, hj])
      rw [he] at HR
      have hbb := HB.out
      rw [hkn] at hbb
      have HBB := Lib.hid hbb
      clear hbb HB he HM HL
      go_wp2
      go_ret
      exact ⟨reti (by have := HBB.out; omega), HR.out, HG.out⟩
def mkLoss (b : Nat) : SLoss := ⟨(markS (b + 0)), ⟨(markS (b + 1)), (markS (b + 2))⟩⟩
def mksLoss (a n : Nat) : List SLoss := (List.range n).map fun i => mkLoss (a + 3 * i)
theorem mksLoss_length (a n : Nat) : (mksLoss a n).length = n := by simp [mksLoss]
set_option maxRecDepth 100000 in
set_option maxHeartbeats 4000000 in
theorem markLossS_any (A : Option Addr) (c cap n : Nat) (xs : List SLoss) (a : Nat) (base : Nat) (ok : Nat → Prop) (w : World) (hr : Kd.R kLoss 166 w base ok (.slice A n cap) xs) (hlen : n ≤ 1048576) (ha : a ≤ 2305843009213693952) :
    Calls Tryz.prog 78 #[.slice A n c, .int .i64 (a : Int)] w fun e w' => e = .returned (.int .i64 ((a + 3 * n : Nat) : Int)) ∧ Kd.R kLoss 166 w' base ok (.slice A n cap) (mksLoss a n) ∧ w.grownBy w' (Value.slice A n cap).ownBlock := by
  have hn0 : n = xs.length := (Kd.R_reads' hr).1
  have HN := Lib.hid hn0
  clear hn0
  go_enter Tryz.func78, Tryz.ntmps78
  go_wp2
  go_loopg [1, 5] n (fun gq v1 v5 wr => ∃ (k b : Nat) (zs : List SLoss), k ≤ n ∧ n - k ≤ gq ∧ v1 = .int .i64 (b : Int) ∧ b ≤ a + 3 * k ∧ Aside0 (b = a + 3 * k) ∧ v5 = .int .i64 (k : Int) ∧ Aside0 (zs.length = n) ∧ Aside0 (∀ j, j < k → zs.getD j zLoss = mkLoss (a + 3 * j)) ∧ Aside0 (Kd.R kLoss 166 wr base ok (.slice A n cap) zs) ∧ Aside0 (w.grownBy wr (Value.slice A n cap).ownBlock))
  case atStart => exact ⟨0, a, xs, Nat.zero_le _, by omega, rfl, by omega, ⟨by omega⟩, rfl, ⟨HN.out.symm⟩, ⟨fun j hj => absurd hj (Nat.not_lt_zero _)⟩, ⟨hr⟩, ⟨grown_of_below (Below.refl _ _) _⟩⟩
  case round =>
    clear hr
    obtain ⟨k, b, zs, hk, hg, rfl, hb, HB, rfl, HL, HM, HR, HG⟩ := hrel
    by_cases hlt : k < n
    · have hlt' : (k : Int) < (n : Int) := by omega
      obtain ⟨gb, rfl, hgb, hgs⟩ := own_form2 HR.out (by rw [HL.out]; omega)
      obtain ⟨cs, hcl, hM, hcc, hfr⟩ := Kd.R_elem HR.out zLoss (k : Int) (by omega) (by omega)
      rw [Int.toNat_natCast] at hM hcc hfr
      have hset := fun y' => set_getD zs k zLoss y' (by rw [HL.out]; exact hlt)
      have HST := Lib.hid hset
      clear hset
      have HLk : k < zs.length := by rw [HL.out]; exact hlt
      generalize hyy : zs.getD k zLoss = y at hM
      have HY := Lib.hid hyy
      clear hyy
      obtain rfl := kLoss_openM hM
      have x0 : wr.cell? ⟨gb, k * 3, none⟩ = some (.string y.f0) := hcc 0 _ rfl
      have f0 : wr.frozen? ⟨gb, k * 3, none⟩ = false := hfr 0
      have x1 : wr.cell? ⟨gb, k * 3 + 1, none⟩ = some (.string y.f1.f0) := hcc 1 _ rfl
      have f1 : wr.frozen? ⟨gb, k * 3 + 1, none⟩ = false := hfr 1
      have x2 : wr.cell? ⟨gb, k * 3 + 2, none⟩ = some (.string y.f1.f1) := hcc 2 _ rfl
      have f2 : wr.frozen? ⟨gb, k * 3 + 2, none⟩ = false := hfr 2
      clear hcc hfr hM hcl
      have HP := HR
      have HQ := HG
      clear HR HG
      go_wp2_with fail
      refine (markText_at (b + 0) _ (by omega) (by omega) _).mono ?_
      rintro e u0 ⟨rfl, b0⟩
      obtain ⟨q0, p0⟩ := bcell b0
      have hz0 : gb < u0.heap.size := by have hz := b0.size; (try simp at hz); omega
      replace HP := Aside0.mk (Kd.R_below HP.out b0)
      replace HQ := Aside0.mk (HQ.out.trans (grown_of_below b0 _))
      clear b0
      obtain ⟨c0, _, hM0, hcc0, _⟩ := Kd.R_elem HP.out zLoss (k : Int) (by omega) (by omega)
      rw [Int.toNat_natCast] at hM0 hcc0
      rw [HY.out] at hM0
      obtain rfl := kLoss_openM hM0
      have P0 := own_put2 HP.out k hlt (⟨(markS (b + 0)), ⟨y.f1.f0, y.f1.f1⟩⟩ : SLoss) [.string y.f0, .string y.f1.f0, .string y.f1.f1] rfl 0 (.string (markS (b + 0))) (by decide) (kLoss_mkM _ _ _ (⟨(markS (b + 0)), ⟨y.f1.f0, y.f1.f1⟩⟩ : SLoss)) hcc0
      clear hM0 hcc0
      have HP := Aside0.mk P0.1
      have HQ := Aside0.mk (HQ.out.trans P0.2)
      clear P0
      go_wp2_with fail
      refine (markText_at (b + 1) _ (by omega) (by omega) _).mono ?_
      rintro e u1 ⟨rfl, b1⟩
      obtain ⟨q1, p1⟩ := bcell b1
      have hz1 : gb < u1.heap.size := by have hz := b1.size; (try simp at hz); omega
      replace HP := Aside0.mk (Kd.R_below HP.out b1)
      replace HQ := Aside0.mk (HQ.out.trans (grown_of_below b1 _))
      clear b1
      obtain ⟨c1, _, hM1, hcc1, _⟩ := Kd.R_elem HP.out zLoss (k : Int) (by omega) (by omega)
      rw [Int.toNat_natCast] at hM1 hcc1
      rw [set_getD _ k _ _ HLk, if_pos rfl] at hM1
      obtain rfl := kLoss_openM hM1
      have P1 := own_put2 HP.out k hlt (⟨(markS (b + 0)), ⟨(markS (b + 1)), y.f1.f1⟩⟩ : SLoss) [.string (markS (b + 0)), .string y.f1.f0, .string y.f1.f1] rfl 1 (.string (markS (b + 1))) (by decide) (kLoss_mkM _ _ _ (⟨(markS (b + 0)), ⟨(markS (b + 1)), y.f1.f1⟩⟩ : SLoss)) hcc1
      rw [List.set_set] at P1
      clear hM1 hcc1
      have HP := Aside0.mk P1.1
      have HQ := Aside0.mk (HQ.out.trans P1.2)
      clear P1
      go_wp2_with fail
      refine (markText_at (b + 2) _ (by omega) (by omega) _).mono ?_
      rintro e u2 ⟨rfl, b2⟩
      obtain ⟨q2, p2⟩ := bcell b2
      have hz2 : gb < u2.heap.size := by have hz := b2.size; (try simp at hz); omega
      replace HP := Aside0.mk (Kd.R_below HP.out b2)
      replace HQ := Aside0.mk (HQ.out.trans (grown_of_below b2 _))
      clear b2
      obtain ⟨c2, _, hM2, hcc2, _⟩ := Kd.R_elem HP.out zLoss (k : Int) (by omega) (by omega)
      rw [Int.toNat_natCast] at hM2 hcc2
      rw [set_getD _ k _ _ HLk, if_pos rfl] at hM2
      obtain rfl := kLoss_openM hM2
      have P2 := own_put2 HP.out k hlt (⟨(markS (b + 0)), ⟨(markS (b + 1)), (markS (b + 2))⟩⟩ : SLoss) [.string (markS (b + 0)), .string (markS (b + 1)), .string y.f1.f1] rfl 2 (.string (markS (b + 2))) (by decide) (kLoss_mkM _ _ _ (⟨(markS (b + 0)), ⟨(markS (b + 1)), (markS (b + 2))⟩⟩ : SLoss)) hcc2
      rw [List.set_set] at P2
      clear hM2 hcc2
      have HP := Aside0.mk P2.1
      have HQ := Aside0.mk (HQ.out.trans P2.2)
      clear P2
      go_wp2
      go_roundg (n - (k + 1))
      case measure => omega
      case rel =>
        have hmk : (⟨(markS (b + 0)), ⟨(markS (b + 1)), (markS (b + 2))⟩⟩ : SLoss) = mkLoss (a + 3 * k) := by rw [← HB.out]; unfold mkLoss; first | rfl | (congr 1; done) | (congr 1; all_goals omega) | (congr 2; all_goals omega)
        refine ⟨k + 1, b + 3, _, by omega, Nat.le_refl _, by first | rfl | (congr 1; done) | (congr 1; omega) | (congr 2; omega), by omega, ⟨by have := HB.out; omega⟩, by go_num, ⟨?_⟩, ⟨?_⟩, HP, HQ⟩
        · rw [List.length_set]; exact HL.out
        · intro j hj
          rw [HST.out, hmk]
          by_cases e : j = k
          · subst e; rw [if_pos rfl]
          · rw [if_neg e]; exact HM.out j (by omega)
    · have hlt' : ¬ (k : Int) < (n : Int) := by omega
      have hkn : k = n := by omega
      have he : zs = mksLoss a n := ext_getD zLoss (by rw [HL.out, mksLoss_length]) (fun j hj => by
        rw [HL.out] at hj
        rw [HM.out j (by omega)]
        simp [mksLoss, hj])
      rw [he] at HR
      have hbb := HB.out
      rw [hkn] at hbb
      have HBB := Lib.hid hbb
      clear hbb HB he HM HL
      go_wp2
      go_ret
      exact ⟨reti (by have := HBB.out; omega), HR.out, HG.out⟩
end Go.Proofs.YtejiifmopopflaaGreatDoor
