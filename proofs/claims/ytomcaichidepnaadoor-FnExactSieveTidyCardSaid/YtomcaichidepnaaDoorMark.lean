/- markRuleS: what it writes, and what it leaves; markText and heldRuleS. -/
import Derived.Test.YtomcaichidepnaaDoorTidy
import Derived.Test.YtomcaichidepnaaDoorPx7
import Derived.Test.YtomcaichidepnaaDoorPx8
import Derived.Test.YtomcaichidepnaaDoorHelpRule
namespace Go.Proofs.YtomcaichidepnaaDoor
open Go.RowKit Go.Proofs.YtomcaichidepnaaDoorW.PrintWords P
set_option linter.unusedVariables false
set_option linter.unusedSimpArgs false

theorem str1 (c : Int) : (strOfNums [c]).size = 1 := rfl
theorem markLoop (b : Nat) : ∀ (a : Nat) (acc : ByteArray), a ≤ b → acc.size + a < 9223372036854775000 → ∃ r, Ev (fun n => laws_markText.l0 n (a : Int) acc) r ∧ r.size ≤ acc.size + a + 1 := by
  induction b with
  | zero =>
    intro a acc h hs
    obtain rfl : a = 0 := by omega
    refine ⟨(⟨#[109]⟩ : ByteArray) ++ acc, shift ?_, by rw [ByteArray.size_append]; exact Nat.le_of_eq (Nat.add_comm 1 _)⟩
    simp only [laws_markText.l0]
    simp only [if_neg (show ¬ ((0 : Nat) : Int) > 0 by omega), if_pos (show 1 + acc.size ≤ 9223372036854775807 by omega)]
    exact Ev.now _
  | succ b ih =>
    intro a acc h hs
    by_cases h0 : a = 0
    · subst h0
      exact ih 0 acc (by omega) hs
    · have hd : a / 10 ≤ b := by omega
      have hsz : (strOfNums [wrap64 (48 + Int.tmod (a : Int) 10) % 256] ++ acc).size = acc.size + 1 := by
        rw [ByteArray.size_append, str1, Nat.add_comm]
      obtain ⟨r, hr, hrs⟩ := ih (a / 10) (strOfNums [wrap64 (48 + Int.tmod (a : Int) 10) % 256] ++ acc) hd (by rw [hsz]; omega)
      refine ⟨r, shift ?_, by rw [hsz] at hrs; omega⟩
      simp only [laws_markText.l0, Option.bind_some]
      have e : wrap64 (Int.tdiv (a : Int) 10) = ((a / 10 : Nat) : Int) := by
        have : Int.tdiv (a : Int) 10 = ((a / 10 : Nat) : Int) := rfl
        rw [this]; unfold wrap64; omega
      simp only [if_pos (show (a : Int) > 0 by omega), if_pos (show (strOfNums [wrap64 (48 + Int.tmod (a : Int) 10) % 256]).size + acc.size ≤ 9223372036854775807 by rw [str1]; omega), e]
      exact hr
theorem markText_ex (a : Nat) (ha : a < 9223372036854775000) : ∃ r, Ev (fun n => laws_markText.f n (a : Int)) r ∧ r.size ≤ a + 2 := by
  unfold laws_markText.f
  by_cases h : (a : Int) ≤ 0
  · simp only [if_pos h]; exact ⟨_, Ev.now _, Nat.le_add_left 2 a⟩
  · simp only [if_neg h]
    obtain ⟨r, h1, h2⟩ := markLoop a a ⟨#[]⟩ (Nat.le_refl _) (by show 0 + a < _; omega)
    exact ⟨r, h1, by have : (⟨#[]⟩ : ByteArray).size = 0 := rfl; omega⟩
open Classical in
/-- What markText answers. -/
noncomputable def markS (a : Nat) : ByteArray := if h : a < 9223372036854775000 then (markText_ex a h).choose else ⟨#[]⟩
theorem markS_ev (a : Nat) (h : a < 9223372036854775000) : Ev (fun n => laws_markText.f n (a : Int)) (markS a) := by
  unfold markS; rw [dif_pos h]; exact (markText_ex a h).choose_spec.1
theorem markText_any (a : Nat) (z : Int) (hz : z = a) (h : a < 9223372036854775000) (w : World) : Calls Tryd.prog 41 #[.int .i64 z] w fun e w' => e = .returned (.string (markS a)) ∧ Below w.heap.size w w' := by
  subst hz
  obtain ⟨k, hk⟩ := (markS_ev a h).rounds
  exact laws_markText.calls k a _ w hk

/-- One cell of an element of a row of the call's own is written. -/
theorem own_put {α : Type} {d : Kd α} {e : Nat} {W : World} {base g n cap : Nat} {xs : List α} (h : Kd.R d e W base (fun _ => True) (.slice (some ⟨g, 0, none⟩) n cap) xs) (k : Nat) (hk : k < n) (x' : α) (c : List Value) (hcl : c.length = d.sz) (hcc : ∀ j u, c[j]? = some u → W.cell? ⟨g, k * d.sz + j, none⟩ = some u) (j : Nat) (u : Value) (hj : j < d.sz)
    (hM : d.M W base (fun _ => False) x' (c.take j ++ [u] ++ c.drop (j + 1))) :
    Kd.R d e (W.setCell ⟨g, k * d.sz + j, none⟩ u) base (fun _ => True) (.slice (some ⟨g, 0, none⟩) n cap) (xs.set k x') ∧ W.grownBy (W.setCell ⟨g, k * d.sz + j, none⟩ u) (some g) := by
  have := Kd.R_seg h (k : Int) (by omega) (by omega) (seg := [u]) (j := j) (c := c) hcl (by rw [Int.toNat_natCast]; exact hcc) (by simp; omega) (x' := x') hM (fun _ hk => hk.elim)
  rw [Int.toNat_natCast] at this
  exact this
theorem own_form {α : Type} {d : Kd α} {e : Nat} {w : World} {base n cap : Nat} {A : Option Addr} {xs : List α} (h : Kd.R d e w base (fun _ => True) (.slice A n cap) xs) (hp : 0 < xs.length) : ∃ g, A = some ⟨g, 0, none⟩ ∧ base ≤ g := by
  obtain ⟨g, cap', he, hb, _⟩ := Kd.R_form h hp
  injection he with h1 h2 h3
  exact ⟨g, h1, hb⟩

theorem rule_at {w : World} {base g n cap : Nat} {xs : List S57} (h : Kd.R k57 57 w base (fun _ => True) (.slice (some ⟨g, 0, none⟩) n cap) xs) (k : Nat) (x : S57) (hx : xs[k]? = some x) :
    (∀ j u, ([.int .i64 x.f0, .string x.f1, .int .i64 x.f2, .string x.f3.f0, .string x.f3.f1] : List Value)[j]? = some u → w.cell? ⟨g, k * 5 + j, none⟩ = some u) ∧ ∀ j, w.frozen? ⟨g, k * 5 + j, none⟩ = false := by
  have hn := (Kd.R_reads' h).1
  have hk := (List.getElem?_eq_some_iff.1 hx).1
  obtain ⟨c, hcl, hM, hcc, hfr⟩ := Kd.R_elem h z57 (k : Int) (by omega) (by omega)
  rw [Int.toNat_natCast] at hM hcc hfr
  rw [List.getD, hx, Option.getD_some] at hM
  obtain rfl := k57_openM hM
  exact ⟨hcc, hfr⟩
noncomputable def markR (a : Nat) : S57 := ⟨(a : Int), markS (a + 1), ((a + 2 : Nat) : Int), ⟨markS (a + 3), markS (a + 4)⟩⟩
noncomputable def marked (n : Nat) : List S57 := (List.range n).map fun i => markR (1 + 5 * i)
theorem marked_len (n : Nat) : (marked n).length = n := by unfold marked; rw [List.length_map, List.length_range]
theorem marked_set (xs : List S57) (k : Nat) (hk : k < xs.length) : (marked k ++ xs.drop k).set k (markR (1 + 5 * k)) = marked (k + 1) ++ xs.drop (k + 1) := by
  rw [List.set_append, if_neg (by rw [marked_len]; omega), marked_len, Nat.sub_self, List.drop_eq_getElem_cons hk, List.set_cons_zero]
  unfold marked
  rw [List.range_succ, List.map_append, List.append_assoc]
  rfl

set_option maxRecDepth 100000 in
set_option maxHeartbeats 4000000 in
theorem markRuleS_any (A : Option Addr) (c cap n : Nat) (xs : List S57) (hn : n = xs.length) (base : Nat) (w : World) (hr : Kd.R k57 57 w base (fun _ => True) (.slice A n cap) xs) (hlen : n ≤ 1048576) :
    Calls Tryd.prog 16 #[.slice A n c, .int .i64 1] w fun e w' => e = .returned (.int .i64 ((1 + 5 * n : Nat) : Int)) ∧ Kd.R k57 57 w' base (fun _ => True) (.slice A n cap) (marked n) ∧ w.grownBy w' (Value.slice A n cap).ownBlock := by
  have HN := Lib.hid hn
  clear hn
  go_enter Tryd.func16, Tryd.ntmps16
  go_wp2
  go_loopg [1, 5] n (fun gq v1 v5 wr => ∃ k : Nat, k ≤ n ∧ n - k ≤ gq ∧ v1 = .int .i64 (1 + 5 * (k : Int)) ∧ v5 = .int .i64 (k : Int) ∧ Aside0 (Kd.R k57 57 wr base (fun _ => True) (.slice A n cap) (marked k ++ xs.drop k)) ∧ Aside0 (w.grownBy wr (Value.slice A n cap).ownBlock))
  case atStart => exact ⟨0, Nat.zero_le _, by omega, rfl, rfl, ⟨hr⟩, ⟨grown_of_below (Below.refl _ _) _⟩⟩
  case round =>
    obtain ⟨k, hk, hg, rfl, rfl, HR, HG⟩ := hrel
    by_cases hlt : k < n
    · have hlt' : (k : Int) < (n : Int) := by omega
      obtain ⟨b, rfl, hbg⟩ := own_form HR.out (by rw [List.length_append, marked_len, List.length_drop]; have := HN.out; omega)
      have hset := marked_set xs k (by have := HN.out; omega)
      have hlz : (marked k ++ xs.drop k).length = n := by rw [List.length_append, marked_len, List.length_drop]; have := HN.out; omega
      generalize marked k ++ xs.drop k = zs at HR hset hlz
      have HS := Lib.hid hset
      clear hset
      have hklz : k < zs.length := by omega
      clear hlz
      obtain ⟨y, hy⟩ : ∃ y, zs[k]? = some y := ⟨_, List.getElem?_eq_getElem hklz⟩
      have hzz : zs.set k y = zs := by rw [(List.getElem?_eq_some_iff.1 hy).2.symm]; exact List.set_getElem_self hklz
      have HR0 := Aside0.mk (hzz.symm ▸ HR.out : Kd.R k57 57 wr base (fun _ => True) (.slice (some ⟨b, 0, none⟩) n cap) (zs.set k y))
      have hat := fun x : S57 => List.getElem?_set_self (l := zs) (i := k) (a := x) hklz
      have G0 : Aside0 (w.grownBy wr (some b)) := HG
      clear hzz hy HR HG
      have hy0 := hat y
      obtain ⟨hc0, hf0⟩ := rule_at HR0.out k (⟨y.f0, y.f1, y.f2, ⟨y.f3.f0, y.f3.f1⟩⟩ : S57) (hat _)
      have hx0 : wr.cell? ⟨b, k * 5, none⟩ = _ := hc0 0 _ rfl
      have hz0 : wr.frozen? ⟨b, k * 5, none⟩ = false := hf0 0
      have HP0 := own_put HR0.out k hlt (⟨(1 + 5 * (k : Int)), y.f1, y.f2, ⟨y.f3.f0, y.f3.f1⟩⟩ : S57) [.int .i64 y.f0, .string y.f1, .int .i64 y.f2, .string y.f3.f0, .string y.f3.f1] rfl hc0 0 (.int .i64 (1 + 5 * (k : Int))) (by decide) (k57_mkM _ _ _ (⟨(1 + 5 * (k : Int)), y.f1, y.f2, ⟨y.f3.f0, y.f3.f1⟩⟩ : S57))
      rw [List.set_set] at HP0
      clear hc0 hf0
      have GX0 := G0
      go_wp2_with ((with_reducible refine gate_store (t := 3) (p := 16) rfl ?_); refine store_event (t := 3) (p := 16) (v := ?vo0) (w1 := wr.setCell ⟨b, k * 5, none⟩ (.int .i64 (1 + 5 * (k : Int)))) ?hg0 ?ho0 ?hn0 ?hr0 ?_; (case ho0 => rfl); (case hg0 => rfl); (case hn0 => rfl); (case hr0 => first | (go_simp; done) | (go_simp; rfl)); intro v0 hw0; have HR1 : Aside0 (Kd.R k57 57 v0 base (fun _ => True) (.slice (some ⟨b, 0, none⟩) n cap) (zs.set k (⟨(1 + 5 * (k : Int)), y.f1, y.f2, ⟨y.f3.f0, y.f3.f1⟩⟩ : S57))) := ⟨by rw [hw0]; exact HP0.1⟩; have G1 : Aside0 (w.grownBy v0 (some b)) := ⟨by rw [hw0]; exact GX0.out.trans HP0.2⟩; clear HP0 hw0 hx0 hz0)
      go_wp2_with (first | (go_at_call 41; refine Calls.mono (markText_any (1 + 5 * k + 1) _ ?hz1 (by omega) _) ?_; (case hz1 => omega); rintro e u1 ⟨rfl, hb1⟩; have HQ1 : Aside0 (Kd.R k57 57 u1 base (fun _ => True) (.slice (some ⟨b, 0, none⟩) n cap) (zs.set k (⟨(1 + 5 * (k : Int)), y.f1, y.f2, ⟨y.f3.f0, y.f3.f1⟩⟩ : S57))) := ⟨Kd.R_below HR1.out hb1⟩; have GX1 : Aside0 (w.grownBy u1 (some b)) := ⟨G1.out.trans (grown_of_below hb1 _)⟩; clear hb1; obtain ⟨hc1, hf1⟩ := rule_at HQ1.out k (⟨(1 + 5 * (k : Int)), y.f1, y.f2, ⟨y.f3.f0, y.f3.f1⟩⟩ : S57) (hat _); have hx1 : u1.cell? ⟨b, k * 5 + 1, none⟩ = _ := hc1 1 _ rfl; have hz1 : u1.frozen? ⟨b, k * 5 + 1, none⟩ = false := hf1 1; have HP1 := own_put HQ1.out k hlt (⟨(1 + 5 * (k : Int)), (markS (1 + 5 * k + 1)), y.f2, ⟨y.f3.f0, y.f3.f1⟩⟩ : S57) [.int .i64 (1 + 5 * (k : Int)), .string y.f1, .int .i64 y.f2, .string y.f3.f0, .string y.f3.f1] rfl hc1 1 (.string (markS (1 + 5 * k + 1))) (by decide) (k57_mkM _ _ _ (⟨(1 + 5 * (k : Int)), (markS (1 + 5 * k + 1)), y.f2, ⟨y.f3.f0, y.f3.f1⟩⟩ : S57)); rw [List.set_set] at HP1; clear hc1 hf1) | ((with_reducible refine gate_store (t := 9) (p := 24) rfl ?_); refine store_event (t := 9) (p := 24) (v := ?vo1) (w1 := u1.setCell ⟨b, k * 5 + 1, none⟩ (.string (markS (1 + 5 * k + 1)))) ?hg1 ?ho1 ?hn1 ?hr1 ?_; (case ho1 => rfl); (case hg1 => rfl); (case hn1 => rfl); (case hr1 => first | (go_simp; done) | (go_simp; rfl)); intro v1 hw1; have HR2 : Aside0 (Kd.R k57 57 v1 base (fun _ => True) (.slice (some ⟨b, 0, none⟩) n cap) (zs.set k (⟨(1 + 5 * (k : Int)), (markS (1 + 5 * k + 1)), y.f2, ⟨y.f3.f0, y.f3.f1⟩⟩ : S57))) := ⟨by rw [hw1]; exact HP1.1⟩; have G2 : Aside0 (w.grownBy v1 (some b)) := ⟨by rw [hw1]; exact GX1.out.trans HP1.2⟩; clear HP1 hw1 hx1 hz1; have GX2 := G2; obtain ⟨hc2, hf2⟩ := rule_at HR2.out k (⟨(1 + 5 * (k : Int)), (markS (1 + 5 * k + 1)), y.f2, ⟨y.f3.f0, y.f3.f1⟩⟩ : S57) (hat _); have hx2 : v1.cell? ⟨b, k * 5 + 2, none⟩ = _ := hc2 2 _ rfl; have hz2 : v1.frozen? ⟨b, k * 5 + 2, none⟩ = false := hf2 2; have HP2 := own_put HR2.out k hlt (⟨(1 + 5 * (k : Int)), (markS (1 + 5 * k + 1)), (1 + 5 * (k : Int) + 1 + 1), ⟨y.f3.f0, y.f3.f1⟩⟩ : S57) [.int .i64 (1 + 5 * (k : Int)), .string (markS (1 + 5 * k + 1)), .int .i64 y.f2, .string y.f3.f0, .string y.f3.f1] rfl hc2 2 (.int .i64 (1 + 5 * (k : Int) + 1 + 1)) (by decide) (k57_mkM _ _ _ (⟨(1 + 5 * (k : Int)), (markS (1 + 5 * k + 1)), (1 + 5 * (k : Int) + 1 + 1), ⟨y.f3.f0, y.f3.f1⟩⟩ : S57)); rw [List.set_set] at HP2; clear hc2 hf2) | ((with_reducible refine gate_store (t := 3) (p := 31) rfl ?_); refine store_event (t := 3) (p := 31) (v := ?vo2) (w1 := v1.setCell ⟨b, k * 5 + 2, none⟩ (.int .i64 (1 + 5 * (k : Int) + 1 + 1))) ?hg2 ?ho2 ?hn2 ?hr2 ?_; (case ho2 => rfl); (case hg2 => rfl); (case hn2 => rfl); (case hr2 => first | (go_simp; done) | (go_simp; rfl)); intro v2 hw2; have HR3 : Aside0 (Kd.R k57 57 v2 base (fun _ => True) (.slice (some ⟨b, 0, none⟩) n cap) (zs.set k (⟨(1 + 5 * (k : Int)), (markS (1 + 5 * k + 1)), (1 + 5 * (k : Int) + 1 + 1), ⟨y.f3.f0, y.f3.f1⟩⟩ : S57))) := ⟨by rw [hw2]; exact HP2.1⟩; have G3 : Aside0 (w.grownBy v2 (some b)) := ⟨by rw [hw2]; exact GX2.out.trans HP2.2⟩; clear HP2 hw2 hx2 hz2))
      go_wp2_with (first | (go_at_call 41; refine Calls.mono (markText_any (1 + 5 * k + 3) _ ?hz3 (by omega) _) ?_; (case hz3 => omega); rintro e u3 ⟨rfl, hb3⟩; have HQ3 : Aside0 (Kd.R k57 57 u3 base (fun _ => True) (.slice (some ⟨b, 0, none⟩) n cap) (zs.set k (⟨(1 + 5 * (k : Int)), (markS (1 + 5 * k + 1)), (1 + 5 * (k : Int) + 1 + 1), ⟨y.f3.f0, y.f3.f1⟩⟩ : S57))) := ⟨Kd.R_below HR3.out hb3⟩; have GX3 : Aside0 (w.grownBy u3 (some b)) := ⟨G3.out.trans (grown_of_below hb3 _)⟩; clear hb3; obtain ⟨hc3, hf3⟩ := rule_at HQ3.out k (⟨(1 + 5 * (k : Int)), (markS (1 + 5 * k + 1)), (1 + 5 * (k : Int) + 1 + 1), ⟨y.f3.f0, y.f3.f1⟩⟩ : S57) (hat _); have hx3 : u3.cell? ⟨b, k * 5 + 3, none⟩ = _ := hc3 3 _ rfl; have hz3 : u3.frozen? ⟨b, k * 5 + 3, none⟩ = false := hf3 3; have HP3 := own_put HQ3.out k hlt (⟨(1 + 5 * (k : Int)), (markS (1 + 5 * k + 1)), (1 + 5 * (k : Int) + 1 + 1), ⟨(markS (1 + 5 * k + 3)), y.f3.f1⟩⟩ : S57) [.int .i64 (1 + 5 * (k : Int)), .string (markS (1 + 5 * k + 1)), .int .i64 (1 + 5 * (k : Int) + 1 + 1), .string y.f3.f0, .string y.f3.f1] rfl hc3 3 (.string (markS (1 + 5 * k + 3))) (by decide) (k57_mkM _ _ _ (⟨(1 + 5 * (k : Int)), (markS (1 + 5 * k + 1)), (1 + 5 * (k : Int) + 1 + 1), ⟨(markS (1 + 5 * k + 3)), y.f3.f1⟩⟩ : S57)); rw [List.set_set] at HP3; clear hc3 hf3) | ((with_reducible refine gate_store (t := 9) (p := 40) rfl ?_); refine store_event (t := 9) (p := 40) (v := ?vo3) (w1 := u3.setCell ⟨b, k * 5 + 3, none⟩ (.string (markS (1 + 5 * k + 3)))) ?hg3 ?ho3 ?hn3 ?hr3 ?_; (case ho3 => rfl); (case hg3 => rfl); (case hn3 => rfl); (case hr3 => first | (go_simp; done) | (go_simp; rfl)); intro v3 hw3; have HR4 : Aside0 (Kd.R k57 57 v3 base (fun _ => True) (.slice (some ⟨b, 0, none⟩) n cap) (zs.set k (⟨(1 + 5 * (k : Int)), (markS (1 + 5 * k + 1)), (1 + 5 * (k : Int) + 1 + 1), ⟨(markS (1 + 5 * k + 3)), y.f3.f1⟩⟩ : S57))) := ⟨by rw [hw3]; exact HP3.1⟩; have G4 : Aside0 (w.grownBy v3 (some b)) := ⟨by rw [hw3]; exact GX3.out.trans HP3.2⟩; clear HP3 hw3 hx3 hz3))
      go_wp2_with (first | (go_at_call 41; refine Calls.mono (markText_any (1 + 5 * k + 4) _ ?hz4 (by omega) _) ?_; (case hz4 => omega); rintro e u4 ⟨rfl, hb4⟩; have HQ4 : Aside0 (Kd.R k57 57 u4 base (fun _ => True) (.slice (some ⟨b, 0, none⟩) n cap) (zs.set k (⟨(1 + 5 * (k : Int)), (markS (1 + 5 * k + 1)), (1 + 5 * (k : Int) + 1 + 1), ⟨(markS (1 + 5 * k + 3)), y.f3.f1⟩⟩ : S57))) := ⟨Kd.R_below HR4.out hb4⟩; have GX4 : Aside0 (w.grownBy u4 (some b)) := ⟨G4.out.trans (grown_of_below hb4 _)⟩; clear hb4; obtain ⟨hc4, hf4⟩ := rule_at HQ4.out k (⟨(1 + 5 * (k : Int)), (markS (1 + 5 * k + 1)), (1 + 5 * (k : Int) + 1 + 1), ⟨(markS (1 + 5 * k + 3)), y.f3.f1⟩⟩ : S57) (hat _); have hx4 : u4.cell? ⟨b, k * 5 + 4, none⟩ = _ := hc4 4 _ rfl; have hz4 : u4.frozen? ⟨b, k * 5 + 4, none⟩ = false := hf4 4; have HP4 := own_put HQ4.out k hlt (⟨(1 + 5 * (k : Int)), (markS (1 + 5 * k + 1)), (1 + 5 * (k : Int) + 1 + 1), ⟨(markS (1 + 5 * k + 3)), (markS (1 + 5 * k + 4))⟩⟩ : S57) [.int .i64 (1 + 5 * (k : Int)), .string (markS (1 + 5 * k + 1)), .int .i64 (1 + 5 * (k : Int) + 1 + 1), .string (markS (1 + 5 * k + 3)), .string y.f3.f1] rfl hc4 4 (.string (markS (1 + 5 * k + 4))) (by decide) (k57_mkM _ _ _ (⟨(1 + 5 * (k : Int)), (markS (1 + 5 * k + 1)), (1 + 5 * (k : Int) + 1 + 1), ⟨(markS (1 + 5 * k + 3)), (markS (1 + 5 * k + 4))⟩⟩ : S57)); rw [List.set_set] at HP4; clear hc4 hf4) | ((with_reducible refine gate_store (t := 9) (p := 49) rfl ?_); refine store_event (t := 9) (p := 49) (v := ?vo4) (w1 := u4.setCell ⟨b, k * 5 + 4, none⟩ (.string (markS (1 + 5 * k + 4)))) ?hg4 ?ho4 ?hn4 ?hr4 ?_; (case ho4 => rfl); (case hg4 => rfl); (case hn4 => rfl); (case hr4 => first | (go_simp; done) | (go_simp; rfl)); intro v4 hw4; have HR5 : Aside0 (Kd.R k57 57 v4 base (fun _ => True) (.slice (some ⟨b, 0, none⟩) n cap) (zs.set k (⟨(1 + 5 * (k : Int)), (markS (1 + 5 * k + 1)), (1 + 5 * (k : Int) + 1 + 1), ⟨(markS (1 + 5 * k + 3)), (markS (1 + 5 * k + 4))⟩⟩ : S57))) := ⟨by rw [hw4]; exact HP4.1⟩; have G5 : Aside0 (w.grownBy v4 (some b)) := ⟨by rw [hw4]; exact GX4.out.trans HP4.2⟩; clear HP4 hw4 hx4 hz4))
      go_roundg (n - (k + 1))
      case measure => omega
      case rel =>
        have HE5 : (⟨(1 + 5 * (k : Int)), (markS (1 + 5 * k + 1)), (1 + 5 * (k : Int) + 1 + 1), ⟨(markS (1 + 5 * k + 3)), (markS (1 + 5 * k + 4))⟩⟩ : S57) = markR (1 + 5 * k) := by unfold markR; first | rfl | (congr 1; done) | (congr 1; all_goals omega)
        exact ⟨k + 1, by omega, Nat.le_refl _, by first | rfl | (congr 1; done) | (congr 1; omega) | (congr 2; omega), rfl, ⟨by rw [← HS.out]; exact HE5 ▸ HR5.out⟩, G5⟩
    · have hlt' : ¬ (k : Int) < (n : Int) := by omega
      have hkn : k = n := by omega
      have hd : marked k ++ xs.drop k = marked k := by rw [List.drop_of_length_le (by have := HN.out; omega), List.append_nil]
      rw [hd] at HR
      go_wp2
      go_ret
      subst hkn
      exact ⟨rfl, HR.out, HG.out⟩
end Go.Proofs.YtomcaichidepnaaDoor
