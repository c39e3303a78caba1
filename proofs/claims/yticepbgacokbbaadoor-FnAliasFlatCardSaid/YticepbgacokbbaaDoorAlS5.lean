/- AliasFlat of the reference: a contract. -/
import Derived.Test.YticepbgacokbbaaDoorAlS4
import Derived.Test.YticepbgacokbbaaDoorAlFlat
namespace Go.Proofs.YticepbgacokbbaaDoor
open Go.RowKit Go.Proofs.YticepbgacokbbaaDoorW.PrintWords
set_option linter.unusedVariables false
set_option linter.unusedSimpArgs false

theorem for_of_ok {xs : List SAlias} {x : SAlias} (h : aliasOk xs = true) (hx : x ∈ xs) : aliasFor xs x.f0 = ends xs [x.f0] := by
 unfold aliasFor
 rw [h, (ok_good h hx).1]
 rfl
set_option maxRecDepth 100000 in
set_option maxHeartbeats 4000000 in
theorem specAliasFlat_any (A : Option Addr) (c : Nat) (xs : List SAlias) (w : World) (hw : xs.length ≤ 1048576 ∧ ∀ x ∈ xs, fitAlias x) (hr : Kd.C kAlias w A xs.length xs) :
  Calls Tryd.prog 24 #[.slice A xs.length c] w fun e w' => ∃ B d, e = .returned (.slice B (aliasFlat xs).length d) ∧ Kd.S kAlias 32 w' w.heap.size (fun _ => True) (.slice B (aliasFlat xs).length d) (aliasFlat xs) ∧ Below w.heap.size w w' := by
 have hok := fun W (hW : Below w.heap.size w W) => specAlias_any A c xs W hw (Kd.C_below hr hW)
 have hfor0 := fun (hq : aliasOk xs = true) (y : SAlias) (hy : y ∈ xs) => (show ∀ W (hW : Below w.heap.size w W), Calls Tryd.prog 17 #[.slice A xs.length c, .agg #[.string y.f0.f0, .string y.f0.f1]] W fun e w' => ∃ B d, e = .returned (.slice B (ends xs [y.f0]).length d) ∧ Kd.R kAddr 30 w' W.heap.size (fun _ => True) (.slice B (ends xs [y.f0]).length d) (ends xs [y.f0]) ∧ Below W.heap.size W w' from fun W hW => by
  have := specAliasFor_any A c xs y.f0 W hw (hw.2 y hy).1 (Kd.C_below hr hW)
  rwa [for_of_ok hq hy] at this)
 have hln := fun (hq : aliasOk xs = true) => (ok_len hq).1
 obtain ⟨X, hX⟩ : ∃ X, X = aliasFlat xs := ⟨_, rfl⟩
 rw [← hX]
 unfold aliasFlat at hX
 generalize aliasOk xs = q1 at hok hX hfor0 hln
 have HX := Lib.hid hX
 have HR := Aside0.mk hr
 have HF0 := Lib.hid hfor0
 have HLN := Lib.hid hln
 clear hX hr hw hfor0 hln
 have hE : Kd.S kAlias 32 (w.alloc (.cells #[] 32)) w.heap.size (fun _ => True) (.slice (some ⟨w.heap.size, 0, none⟩) 0 0) [] := ⟨fun _ => 0, R_empty _ 32 w w.heap.size (Nat.le_refl _) trivial⟩
 have HE := Aside0.mk hE
 have HBW := Aside0.mk (bel_alloc (Below.refl w.heap.size w) (.cells #[] 32))
 clear hE
 go_enter Tryd.func24, Tryd.ntmps24
 cases q1
 ·obtain rfl : X = [] := HX.out
  go_wp2_with (first | (go_at_call 41; go_loud (refine Calls.mono (hok _ HBW.out) ?_; rintro e w1 ⟨rfl, b1⟩)))
  go_ret
  exact ⟨some ⟨w.heap.size, 0, none⟩, 0, rfl, Kd.S_below HE.out b1, bel_then HBW.out b1⟩
 ·obtain rfl : X = xs.filterMap (flatOne xs) := HX.out
  have HFO := Lib.hid (HF0.out (by trivial))
  have hl6 := HLN.out (by trivial)
  clear HF0 HLN HX
  go_wp2_with (first | (go_at_call 41; go_loud (refine Calls.mono (hok _ HBW.out) ?_; rintro e w1 ⟨rfl, b1⟩; have HE1 := Aside0.mk (Kd.S_below HE.out b1); have B1 := Aside0.mk (bel_then HBW.out b1))))
  clear HE HBW hok b1
  go_loopg [3, 4, 5] (xs.length) (fun g v3 v4 _ wr => ∃ i : Nat, i ≤ xs.length ∧ xs.length - i ≤ g ∧ v4 = .int .i64 (i : Int) ∧ Aside0 (Kd.S kAlias 32 wr w.heap.size (fun _ => True) v3 (flatL xs i)) ∧ Aside0 (Below w.heap.size w wr))
  case atStart => exact ⟨0, Nat.zero_le _, by omega, rfl, HE1, B1⟩
  case round =>
   clear HE1 B1
   obtain ⟨i, hi, hg, rfl, HO, BW⟩ := hrel
   have hfl := flatL_len xs i
   by_cases hlt : i < xs.length
   ·have hlt' : (i : Int) < (xs.length : Int) := by omega
    obtain ⟨ad, Q0, qc0, e1, p0, p1, p2, _, _⟩ := at_Alias (Kd.C_below HR.out BW.out) i hlt
    subst e1
    have hnx := flatL_next hlt
    have hfor := Lib.hid (HFO.out _ (getD_mem xs zAlias hlt))
    generalize xs.getD i zAlias = y at p0 p1 p2 hnx hfor
    generalize ends xs [y.f0] = en at hnx hfor
    have HNX := Lib.hid hnx
    generalize flatL xs i = ys at HO HNX hfl
    obtain ⟨vB, vd, hv⟩ := Kd.S_slice HO.out
    subst hv
    clear p2 hnx
    by_cases hn : 1 ≤ en.length ∧ en.length ≤ 4
    ·have HNY := Lib.hid (HNX.out.1 hn)
     have h1 : (0 : Int) < (en.length : Int) := by omega
     have h2 : (en.length : Int) ≤ 4 := by omega
     clear HNX
     go_wp2_with (first | (go_at_call 17; go_loud (refine Calls.mono (hfor.out _ BW.out) ?_; rintro e w3 ⟨EB, Ed, rfl, r3, b3⟩; have RE := Aside0.mk (show Kd.R kAddr 30 w3 w.heap.size (fun k => wr.heap.size ≤ k) (.slice EB en.length Ed) en from Kd.R_lower (Kd.R_mono (Kd.R_bound r3) (fun k hk => hk.2.1)) BW.out.size); have q0 := (b3.cell (World.block_lt_of_cell? _ _ p0)).trans p0; have q1 := (b3.cell (World.block_lt_of_cell? _ _ p1)).trans p1; have HO5 := Aside0.mk (Kd.S_mono (ok' := fun k => True ∧ ¬ wr.heap.size ≤ k) (Kd.S_below (Kd.S_bound HO.out) b3) (fun k hk => ⟨trivial, by have := hk.2.2.1; omega⟩)); have B5 := Aside0.mk (bel_then BW.out b3); have z5 := b3.size; clear hfor r3 p0 p1 b3)) | ((with_reducible refine gate_builtin (b := .append) (xs := #[.tmp 32, .tmp 40]) rfl ?_); (try (refine gate_guard (by rfl) ?_; dsimp only)); at_builtin; go_loud (refine Kd.S_append kAlias (w0 := w) (w.heap.size) rfl (.tmp 32) (.tmp 40) 23 32 (.agg #[(.string ⟨#[]⟩), (.string ⟨#[]⟩), (.slice none 0 0)]) 56 rfl Tryd.underlying23 info32 rfl (by decide) (by omega) (.slice vB ys.length vd) ys (⟨y.f0, en⟩ : SAlias) [.string y.f0.f0, .string y.f0.f1, .slice EB en.length Ed] (fun _ => True) (fun k => wr.heap.size ≤ k) rfl rfl (kAlias_mkM _ _ _ (⟨y.f0, en⟩ : SAlias) RE.out) (fun k hk => ⟨trivial, fun e => ((Kd.S_R HO5.out).1 k e.symm).2 hk⟩) (fun k hk => trivial) HO5.out B5.out (B5.out).size (by omega) ?_); intro v9 w9 ho hb hg hat; have HO9 := Aside0.mk ho; have B9 := Aside0.mk hb; clear ho hb hg hat))
     go_roundg (xs.length - (i + 1))
     case measure => omega
     case rel => exact ⟨i + 1, by omega, Nat.le_refl _, by go_num, ⟨by rw [HNY.out]; exact HO9.out⟩, B9⟩
    ·have HNY := Lib.hid (HNX.out.2 hn)
     clear HNX
     by_cases h1 : (0 : Int) < (en.length : Int)
     ·have h2 : ¬ (en.length : Int) ≤ 4 := by omega
      go_wp2_with (first | (go_at_call 17; go_loud (refine Calls.mono (hfor.out _ BW.out) ?_; rintro e w3 ⟨EB, Ed, rfl, r3, b3⟩; have RE := Aside0.mk (show Kd.R kAddr 30 w3 w.heap.size (fun k => wr.heap.size ≤ k) (.slice EB en.length Ed) en from Kd.R_lower (Kd.R_mono (Kd.R_bound r3) (fun k hk => hk.2.1)) BW.out.size); have q0 := (b3.cell (World.block_lt_of_cell? _ _ p0)).trans p0; have q1 := (b3.cell (World.block_lt_of_cell? _ _ p1)).trans p1; have HO5 := Aside0.mk (Kd.S_mono (ok' := fun k => True ∧ ¬ wr.heap.size ≤ k) (Kd.S_below (Kd.S_bound HO.out) b3) (fun k hk => ⟨trivial, by have := hk.2.2.1; omega⟩)); have B5 := Aside0.mk (bel_then BW.out b3); have z5 := b3.size; clear hfor r3 p0 p1 b3)))
      go_roundg (xs.length - (i + 1))
      case measure => omega
      case rel => exact ⟨i + 1, by omega, Nat.le_refl _, by go_num, ⟨by rw [HNY.out]; exact Kd.S_mono HO5.out (fun _ _ => trivial)⟩, B5⟩
     ·go_wp2_with (first | (go_at_call 17; go_loud (refine Calls.mono (hfor.out _ BW.out) ?_; rintro e w3 ⟨EB, Ed, rfl, r3, b3⟩; have RE := Aside0.mk (show Kd.R kAddr 30 w3 w.heap.size (fun k => wr.heap.size ≤ k) (.slice EB en.length Ed) en from Kd.R_lower (Kd.R_mono (Kd.R_bound r3) (fun k hk => hk.2.1)) BW.out.size); have q0 := (b3.cell (World.block_lt_of_cell? _ _ p0)).trans p0; have q1 := (b3.cell (World.block_lt_of_cell? _ _ p1)).trans p1; have HO5 := Aside0.mk (Kd.S_mono (ok' := fun k => True ∧ ¬ wr.heap.size ≤ k) (Kd.S_below (Kd.S_bound HO.out) b3) (fun k hk => ⟨trivial, by have := hk.2.2.1; omega⟩)); have B5 := Aside0.mk (bel_then BW.out b3); have z5 := b3.size; clear hfor r3 p0 p1 b3)))
      go_roundg (xs.length - (i + 1))
      case measure => omega
      case rel => exact ⟨i + 1, by omega, Nat.le_refl _, by go_num, ⟨by rw [HNY.out]; exact Kd.S_mono HO5.out (fun _ _ => trivial)⟩, B5⟩
   ·have hlt' : ¬ (i : Int) < (xs.length : Int) := by omega
    rw [show i = xs.length by omega, flatL_all] at HO
    obtain ⟨vB, vd, hv⟩ := Kd.S_slice HO.out
    subst hv
    go_wp2
    go_ret
    exact ⟨vB, vd, rfl, HO.out, BW.out⟩

end Go.Proofs.YticepbgacokbbaaDoor
