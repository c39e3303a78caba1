/- AliasFlat of the program: a contract. -/
import Derived.Test.YticepbgacokbbaaDoorAlRound
namespace Go.Proofs.YticepbgacokbbaaDoor
open Go Go.RowKit Go.Maps Go.WideMaps Go.Proofs.YticepbgacokbbaaDoorW.PrintWords
set_option linter.unusedVariables false
set_option linter.unusedSimpArgs false

noncomputable def flatL (xs : List SAlias) (i : Nat) : List SAlias := (xs.take i).filterMap (flatOne xs)
theorem flatL_next {xs : List SAlias} {i : Nat} (h : i < xs.length) : ((1 ≤ (ends xs [(xs.getD i zAlias).f0]).length ∧ (ends xs [(xs.getD i zAlias).f0]).length ≤ 4) → flatL xs (i + 1) = flatL xs i ++ [⟨(xs.getD i zAlias).f0, ends xs [(xs.getD i zAlias).f0]⟩]) ∧
  (¬ (1 ≤ (ends xs [(xs.getD i zAlias).f0]).length ∧ (ends xs [(xs.getD i zAlias).f0]).length ≤ 4) → flatL xs (i + 1) = flatL xs i) := by
 unfold flatL
 rw [take_nextL h, List.filterMap_append]
 constructor
 ·intro hq
  rw [List.filterMap_cons, flatOne_eq, if_pos hq]
  rfl
 ·intro hq
  rw [List.filterMap_cons, flatOne_eq, if_neg hq]
  simp
theorem flatL_len (xs : List SAlias) (i : Nat) : (flatL xs i).length ≤ xs.length := by
 unfold flatL
 have := List.length_filterMap_le (flatOne xs) (xs.take i)
 rw [List.length_take] at this
 omega
theorem flatL_all (xs : List SAlias) : flatL xs xs.length = xs.filterMap (flatOne xs) := by unfold flatL; rw [List.take_length]
set_option maxRecDepth 100000 in
set_option maxHeartbeats 4000000 in
theorem aliasFlat_any (A : Option Addr) (c : Nat) (xs : List SAlias) (w : World) (hw : xs.length ≤ 1048576 ∧ ∀ x ∈ xs, fitAlias x) (hr : Kd.C kAlias w A xs.length xs) (hG : Glob w) :
  Calls Tryd.prog 22 #[.slice A xs.length c] w fun e w' => ∃ B d, e = .returned (.slice B (aliasFlat xs).length d) ∧ Kd.S kAlias 32 w' w.heap.size (fun _ => True) (.slice B (aliasFlat xs).length d) (aliasFlat xs) ∧ Below w.heap.size w w' := by
 have hok := fun W (hW : Below w.heap.size w W) => aliasOk_any A c xs W hw (Kd.C_below hr hW) (hG.below hW)
 obtain ⟨X, hX⟩ : ∃ X, X = aliasFlat xs := ⟨_, rfl⟩
 rw [← hX]
 unfold aliasFlat at hX
 have hgr := fun (hq : aliasOk xs = true) W (hW : Below w.heap.size w W) => graphOf_any A c xs W hw (Kd.C_below hr hW) (ok_nodup hq)
 have hctx := fun (hq : aliasOk xs = true) => al_ctx (fr := xs.map (·.f0)) hq hw.2 (fun b hb => by obtain ⟨x, hx, e⟩ := List.mem_map.1 hb; exact e ▸ (hw.2 x hx).1) (by rw [List.length_map]; exact hw.1)
 have hln := fun (hq : aliasOk xs = true) => (ok_len hq).1
 generalize aliasOk xs = q1 at hok hX hgr hctx hln
 have HX := Lib.hid hX
 have HCX := Lib.hid hctx
 have HLN := Lib.hid hln
 have HR := Aside0.mk hr
 clear hX hctx hr hw hG hln
 go_enter Tryd.func22, Tryd.ntmps22
 go_wp2_with fail
 refine Calls.mono (hok _ (Below.refl _ _)) ?_
 rintro e u ⟨rfl, bu⟩
 have HBu := Aside0.mk bu
 clear hok bu
 cases q1
 ·clear hgr HCX HLN
  go_wp2
  go_ret
  obtain rfl : X = [] := HX.out
  exact ⟨none, 0, rfl, Kd.S_nil _ _ _ _ _, HBu.out⟩
 ·have HC := Lib.hid (HCX.out (by trivial))
  have hl6 := HLN.out (by trivial)
  have HRu := Aside0.mk (Kd.C_below HR.out HBu.out)
  obtain rfl : X = xs.filterMap (flatOne xs) := HX.out
  clear HCX HLN HX HR
  go_wp2_with (first | (go_at_call 37; go_loud (refine Calls.mono (hgr (by trivial) _ HBu.out) ?_; rintro e w2 ⟨rfl, n1, D1, own1, gi1, b2⟩; have OW := Aside0.mk own1; have HI := Lib.hid gi1; have B2 := Aside0.mk b2; clear hgr own1 gi1 b2)))
  obtain ⟨bg, hbg⟩ : ∃ b, b = u.heap.size := ⟨_, rfl⟩
  rw [← hbg] at OW ⊢
  have hub : u.heap.size ≤ bg := by omega
  clear hbg
  go_loopg [4, 6, 7, 15] (xs.length) (fun g v4 _ _ v15 wr => ∃ i : Nat, i ≤ xs.length ∧ xs.length - i ≤ g ∧ v15 = .int .i64 (i : Int) ∧ Aside0 (wr.ownsMap Tryd.prog 30 grR bg n1 D1) ∧ Aside0 (Kd.S kAlias 32 wr u.heap.size (fun k => k ≠ bg) v4 (flatL xs i)) ∧ Aside0 (Below u.heap.size u wr))
  case atStart => exact ⟨0, Nat.zero_le _, by omega, rfl, OW, ⟨Kd.S_nil _ _ _ _ _⟩, B2⟩
  case round =>
   clear OW B2
   obtain ⟨i, hi, hg, rfl, OW, HO, BW⟩ := hrel
   have hbl := OW.out.lt
   have hfl := flatL_len xs i
   by_cases hlt : i < xs.length
   ·have hlt' : (i : Int) < (xs.length : Int) := by omega
    obtain ⟨ad, Q0, qc0, e1, p0, p1, p2, _, _⟩ := at_Alias HRu.out i hlt
    subst e1
    have s0 := (BW.out.cell (World.block_lt_of_cell? _ _ p0)).trans p0
    have s1 := (BW.out.cell (World.block_lt_of_cell? _ _ p1)).trans p1
    have s2 := (BW.out.cell (World.block_lt_of_cell? _ _ p2)).trans p2
    have hnx := flatL_next hlt
    have hym : (xs.getD i zAlias).f0 ∈ xs.map (·.f0) ++ xs.flatMap (·.f1) := List.mem_append.2 (.inl (List.mem_map.2 ⟨_, getD_mem xs zAlias hlt, rfl⟩))
    generalize xs.getD i zAlias = y at p0 p1 p2 s0 s1 s2 hnx hym
    have zbg : bg < wr.heap.size := OW.out.lt
    have hen : ∀ v2, Calls Tryd.prog 51 #[.map (some bg), .slice (some ⟨wr.heap.size + 1, 0, none⟩) 1 1] ((wr.alloc (.cells #[.string y.f0.f0, .string y.f0.f1, v2] 32)).alloc (.cells #[.string y.f0.f0, .string y.f0.f1] 30)) fun e w' => ∃ B d, e = .returned (.slice B (ends xs [y.f0]).length d) ∧ Kd.R kAddr 30 w' u.heap.size (fun k => wr.heap.size ≤ k) (.slice B (ends xs [y.f0]).length d) (ends xs [y.f0]) ∧ w'.heap[wr.heap.size]? = some (.cells #[.string y.f0.f0, .string y.f0.f1, v2] 32 (0, 0)) ∧ Below wr.heap.size wr w' := by
     intro v2
     have hz : (wr.alloc (.cells #[.string y.f0.f0, .string y.f0.f1, v2] 32)).heap.size = wr.heap.size + 1 := by simp
     have hz2 : ((wr.alloc (.cells #[.string y.f0.f0, .string y.f0.f1, v2] 32)).alloc (.cells #[.string y.f0.f0, .string y.f0.f1] 30)).heap.size = wr.heap.size + 2 := by simp
     have hk2 := (Below.heap_alloc _ (.cells #[.string y.f0.f0, .string y.f0.f1] 30) wr.heap.size (by omega)).trans (blk_new wr (.cells #[.string y.f0.f0, .string y.f0.f1, v2] 32))
     have hb0 := bel_alloc (bel_alloc (Below.refl wr.heap.size wr) (.cells #[.string y.f0.f0, .string y.f0.f1, v2] 32)) (.cells #[.string y.f0.f0, .string y.f0.f1] 30)
     have hone := R_oneAt kAddr 30 (wr.alloc (.cells #[.string y.f0.f0, .string y.f0.f1, v2] 32)) 0 y.f0 [.string y.f0.f0, .string y.f0.f1] hz.symm (kAddr_mkM _ _ _ y.f0) (Nat.zero_le _)
     have how := (OW.out.alloc (.cells #[.string y.f0.f0, .string y.f0.f1, v2] 32)).alloc (.cells #[.string y.f0.f0, .string y.f0.f1] 30)
     generalize ((wr.alloc (.cells #[.string y.f0.f0, .string y.f0.f1, v2] 32)).alloc (.cells #[.string y.f0.f0, .string y.f0.f1] 30)) = V at hz2 hk2 hb0 hone how ⊢
     refine Calls.mono (ends_any xs (xs.map (·.f0) ++ xs.flatMap (·.f1)) V bg n1 D1 how (HI.out.below (bel_then BW.out hb0)) HC.out.1 HC.out.2.1 HC.out.2.2.1 HC.out.2.2.2 [y.f0] (some ⟨wr.heap.size + 1, 0, none⟩) 1 (Kd.R_reads' hone).2.2 (by simp) (fun b hb => by rw [List.mem_singleton.1 hb]; exact hym)) ?_
     rintro e w3 ⟨B, d, rfl, r3, b3⟩
     exact ⟨B, d, rfl, Kd.R_lower (Kd.R_mono (Kd.R_bound r3) (fun k hk => by have := hk.2.1; omega)) (by have := BW.out.size; omega), below_blk hk2 b3, bel_then hb0 b3⟩
    have h2 := fun W => within_any ((ends xs [y.f0]).length : Int) 1 4 W
    generalize ends xs [y.f0] = en at hnx hen h2
    have HNX := Lib.hid hnx
    generalize flatL xs i = ys at HO HNX hfl
    obtain ⟨vB, vd, hv⟩ := Kd.S_slice HO.out
    subst hv
    have zp := World.block_lt_of_cell? _ _ p0
    have Q0s := Lib.hid p2
    clear p0 p1 p2 hnx hym
    obtain ⟨q, hq⟩ : ∃ q, (decide ((1 : Int) ≤ (en.length : Int)) && decide ((en.length : Int) ≤ 4)) = q := ⟨_, rfl⟩
    simp only [hq] at h2
    cases q
    ·have hn : ¬ (1 ≤ en.length ∧ en.length ≤ 4) := fun h => by
      rw [Bool.and_eq_false_iff, decide_eq_false_iff_not, decide_eq_false_iff_not] at hq
      omega
     have HNY := Lib.hid (HNX.out.2 hn)
     clear HNX hq hn
     go_wp2_with (first | (go_at_call 51; go_loud (refine Calls.mono (hen _) ?_; rintro e w3 ⟨EB, Ed, rfl, r3, k3, b3⟩; have RE3 := Aside0.mk r3; have q0 : w3.cell? ⟨wr.heap.size, 0, none⟩ = some (.string y.f0.f0) := (by simp [World.cell?, k3]); have q1 : w3.cell? ⟨wr.heap.size, 1, none⟩ = some (.string y.f0.f1) := (by simp [World.cell?, k3]); have zx := blk_lt k3; have B3 := Aside0.mk b3; clear hen r3 k3 b3 s0 s1 s2)) | (go_at_call 46; go_loud (refine Calls.mono (h2 _) ?_; rintro e w4 ⟨rfl, rfl⟩; clear h2)))
     go_roundg (xs.length - (i + 1))
     case measure => omega
     case rel => exact ⟨i + 1, by omega, Nat.le_refl _, by go_num, ⟨OW.out.kept (grown_of_below B3.out none) (by simp)⟩, ⟨by rw [HNY.out]; exact Kd.S_below HO.out B3.out⟩, ⟨bel_then BW.out B3.out⟩⟩
    ·have hn : 1 ≤ en.length ∧ en.length ≤ 4 := by
      rw [Bool.and_eq_true, decide_eq_true_eq, decide_eq_true_eq] at hq
      omega
     have HNY := Lib.hid (HNX.out.1 hn)
     have hel := hn.2
     clear HNX hq hn
     go_wp2_with (first | (go_at_call 51; go_loud (refine Calls.mono (hen _) ?_; rintro e w3 ⟨EB, Ed, rfl, r3, k3, b3⟩; have RE := Aside0.mk r3; have q0 : w3.cell? ⟨wr.heap.size, 0, none⟩ = some (.string y.f0.f0) := (by simp [World.cell?, k3]); have q1 : w3.cell? ⟨wr.heap.size, 1, none⟩ = some (.string y.f0.f1) := (by simp [World.cell?, k3]); have zx := blk_lt k3; have OW5 := Aside0.mk (OW.out.kept (grown_of_below b3 none) (by simp)); have HO5 := Aside0.mk (Kd.S_mono (ok' := fun k => k ≠ bg ∧ ¬ wr.heap.size ≤ k) (Kd.S_below (Kd.S_bound HO.out) b3) (fun k hk => ⟨hk.1, by have := hk.2.2.1; omega⟩)); have B5 := Aside0.mk (bel_then BW.out b3); have z5 := b3.size; have B3 := Aside0.mk b3; clear hen r3 k3 b3 s0 s1 s2)) | (go_at_call 46; go_loud (refine Calls.mono (h2 _) ?_; rintro e w4 ⟨rfl, rfl⟩; clear h2)) | ((with_reducible refine gate_builtin (b := .append) (xs := #[.tmp 27, .tmp 32]) rfl ?_); (try (refine gate_guard (by rfl) ?_; dsimp only)); at_builtin; go_loud (refine Kd.S_append kAlias (w0 := u) (u.heap.size) rfl (.tmp 27) (.tmp 32) 23 32 (.agg #[(.string ⟨#[]⟩), (.string ⟨#[]⟩), (.slice none 0 0)]) 56 rfl Tryd.underlying23 info32 rfl (by decide) (by omega) (.slice vB ys.length vd) ys (⟨y.f0, en⟩ : SAlias) [.string y.f0.f0, .string y.f0.f1, .slice EB en.length Ed] (fun k => k ≠ bg) (fun k => wr.heap.size ≤ k) rfl rfl (kAlias_mkM _ _ _ (⟨y.f0, en⟩ : SAlias) RE.out) (fun k hk => ⟨by omega, fun e => ((Kd.S_R HO5.out).1 k e.symm).2 hk⟩) (fun k hk => by omega) HO5.out B5.out (B5.out).size (by omega) ?_); intro v9 w9 ho hb hg hat; have OW9 := Aside0.mk (OW5.out.kept hg (fun e => ((Kd.S_R HO5.out).1 _ e.symm).1 rfl)); have HO9 := Aside0.mk ho; have B9 := Aside0.mk hb; clear ho hb hg hat))
     go_roundg (xs.length - (i + 1))
     case measure => omega
     case rel => exact ⟨i + 1, by omega, Nat.le_refl _, by go_num, OW9, ⟨by rw [HNY.out]; exact HO9.out⟩, B9⟩
   ·have hlt' : ¬ (i : Int) < (xs.length : Int) := by omega
    rw [show i = xs.length by omega, flatL_all] at HO
    obtain ⟨vB, vd, hv⟩ := Kd.S_slice HO.out
    subst hv
    go_wp2
    go_ret
    exact ⟨vB, vd, rfl, Kd.S_lower (Kd.S_mono HO.out (fun _ _ => trivial)) HBu.out.size, bel_then HBu.out BW.out⟩

end Go.Proofs.YticepbgacokbbaaDoor
