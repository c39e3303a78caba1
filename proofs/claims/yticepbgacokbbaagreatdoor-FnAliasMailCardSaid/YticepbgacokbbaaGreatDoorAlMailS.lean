/- AliasMail of the reference: a contract. -/
import Derived.Test.YticepbgacokbbaaGreatDoorReg
import Derived.Test.YticepbgacokbbaaGreatDoorAlSpec
import Derived.Test.YticepbgacokbbaaGreatDoorAlMail
import Derived.Test.YticepbgacokbbaaGreatDoorCopyS
import Derived.Test.YticepbgacokbbaaGreatDoorSeqK
namespace Go.Proofs.YticepbgacokbbaaGreatDoor
open Go.RowKit Go.Proofs.YticepbgacokbbaaGreatDoorW.PrintWords
set_option linter.unusedVariables false
set_option linter.unusedSimpArgs false

noncomputable def toL (xs : List SAlias) (fr : List SAddr) (i : Nat) : List SAddr := ((fr.take i).flatMap (fun a => ends xs [a])).foldl insU []
theorem toL_next {xs : List SAlias} {fr : List SAddr} {i : Nat} (h : i < fr.length) : toL xs fr (i + 1) = (ends xs [fr.getD i zAddr]).foldl insU (toL xs fr i) := by
 unfold toL
 rw [take_nextA h, List.flatMap_append, List.foldl_append]
 simp
theorem toL_all (xs : List SAlias) (fr : List SAddr) : toL xs fr fr.length = ends xs fr := by
 unfold toL
 rw [List.take_length]
 exact ends_some
theorem mail_to {m : SMail} (h : mailOkS m = true) : m.f1.length ≤ 4 ∧ ∀ a ∈ m.f1, addrS a = true := by
 unfold mailOkS mailOk at h
 simp only [Bool.and_eq_true] at h
 exact ⟨by have := of_decide_eq_true h.2.1.2; omega, fun a ha => List.all_eq_true.1 h.2.2.1 a ha⟩
set_option maxRecDepth 100000 in
set_option maxHeartbeats 8000000 in
theorem specAliasMail_any (A : Option Addr) (c : Nat) (xs : List SAlias) (m : SMail) (A0 : Option Addr) (c0 : Nat) (A1 : Option Addr) (c1 : Nat) (w : World) (hw : xs.length ≤ 1048576 ∧ ∀ x ∈ xs, fitAlias x) (hm : fitMail m) (hr : Kd.C kAlias w A xs.length xs) (hr0 : Kd.C kAddr w A0 m.f1.length m.f1) (hr1 : Kd.C Kd.string w A1 m.f2.length m.f2) :
  Calls Tryz.prog 7 #[.slice A xs.length c, .agg #[.string m.f0.f0, .string m.f0.f1, .slice A0 m.f1.length c0, .slice A1 m.f2.length c1]] w fun e w' => ∃ B d C f, e = .returned (.tuple #[.agg #[.string (aliasMail xs m).f0.f0, .string (aliasMail xs m).f0.f1, .slice B (aliasMail xs m).f1.length d, .slice C (aliasMail xs m).f2.length f], .bool (aliasMailOk xs m)]) ∧ Kd.R kAddr 25 w' w.heap.size (fun _ => True) (.slice B (aliasMail xs m).f1.length d) (aliasMail xs m).f1 ∧ Kd.R Kd.string 9 w' w.heap.size (fun _ => True) (.slice C (aliasMail xs m).f2.length f) (aliasMail xs m).f2 ∧ Below w.heap.size w w' := by
 have hok := fun W (hW : Below w.heap.size w W) => specAlias_any A c xs W hw (Kd.C_below hr hW)
 have hmo := fun W (hW : Below w.heap.size w W) => specMail_any m A0 c0 A1 c1 W hm (Kd.C_below hr0 hW) (Kd.C_below hr1 hW)
 have hctx := fun (hq : aliasOk xs = true) (hq2 : mailOkS m = true) (y : SAddr) (hy : y ∈ m.f1) => (show (∀ W (hW : Below w.heap.size w W), Calls Tryz.prog 32 #[.slice A xs.length c, .agg #[.string y.f0, .string y.f1]] W fun e w' => ∃ B d, e = .returned (.slice B (ends xs [y]).length d) ∧ Kd.R kAddr 25 w' W.heap.size (fun _ => True) (.slice B (ends xs [y]).length d) (ends xs [y]) ∧ Below W.heap.size W w') ∧ (ends xs [y]).length ≤ 25 from by
  have ha := (mail_to hq2).2 y hy
  have e : aliasFor xs y = ends xs [y] := by unfold aliasFor; rw [hq, ha]; rfl
  refine ⟨fun W hW => ?_, ?_⟩
  ·have := specAliasFor_any A c xs y W hw (hm.2.1.2 y hy) (Kd.C_below hr hW)
   rwa [e] at this
  ·have h1 := nodup_len (rise_nodup (ends_rise xs [y])) (m := [y] ++ xs.flatMap (·.f1)) (fun b hb => by
    obtain ⟨⟨a, ha, k⟩, _⟩ := (mem_ends _ _ _).1 hb
    exact List.mem_append.2 (k.univ.elim (fun e => .inl (e ▸ ha)) .inr))
   have h2 := ok_univl hq
   simp only [List.length_append, List.length_singleton] at h1
   omega)
 have hmt := fun (hq2 : mailOkS m = true) => mail_to hq2
 have HT := Aside0.mk hr0
 have HBD := Aside0.mk hr1
 have HFIT := Lib.hid hm
 obtain ⟨X, hX⟩ : ∃ X, X = aliasMail xs m := ⟨_, rfl⟩
 obtain ⟨Q, hQ⟩ : ∃ Q, Q = aliasMailOk xs m := ⟨_, rfl⟩
 rw [← hX, ← hQ]
 unfold aliasMail at hX
 rw [← hQ] at hX
 unfold aliasMailOk at hQ
 rw [hQ] at hX
 generalize aliasOk xs = q1 at hok hX hQ hctx
 generalize mailOkS m = q2 at hmo hX hQ hctx hmt
 have HX := Lib.hid hX
 have HQ := Lib.hid hQ
 have HC := Lib.hid hctx
 have HE := Lib.hid hmt
 clear hX hQ hctx hmt hr hr0 hr1 hw hm
 go_enter Tryz.func7, Tryz.ntmps7
 go_wp2_with fail
 obtain ⟨W0, hW0⟩ : ∃ W, W = ((w.alloc (.cells #[.string m.f0.f0, .string m.f0.f1, .slice A0 m.f1.length c0, .slice A1 m.f2.length c1] 29)).alloc (.cells #[.string ⟨#[]⟩, .string ⟨#[]⟩, .slice none 0 0, .slice none 0 0] 29)) := ⟨_, rfl⟩
 rw [← hW0]
 have HB : Aside0 (Below w.heap.size w W0) := ⟨by rw [hW0]; exact (bel_alloc (bel_alloc (Below.refl _ _) _) _)⟩
 have FM : Aside0 (W0.heap[w.heap.size]? = some (.cells #[.string m.f0.f0, .string m.f0.f1, .slice A0 m.f1.length c0, .slice A1 m.f2.length c1] 29 (0, 0))) := ⟨by rw [hW0]; exact blk_alloc (blk_at _ _ (by first | rfl | (simp; done))) _⟩
 have FZ : Aside0 (W0.heap[w.heap.size + 1]? = some (.cells #[.string ⟨#[]⟩, .string ⟨#[]⟩, .slice none 0 0, .slice none 0 0] 29 (0, 0))) := ⟨by rw [hW0]; exact blk_at _ _ (by simp)⟩
 have HL : Aside0 (w.heap.size + 2 ≤ W0.heap.size) := ⟨by rw [hW0]; simp⟩
 clear hW0
 refine Calls.mono (hok _ HB.out) ?_
 rintro e w1 ⟨rfl, bw1⟩
 replace FM := Aside0.mk (below_blk FM.out bw1)
 replace FZ := Aside0.mk (below_blk FZ.out bw1)
 replace HB := Aside0.mk (bel_then HB.out bw1)
 replace HL := Aside0.mk (Nat.le_trans HL.out bw1.size)
 clear bw1
 clear hok
 cases q1
 ·clear hmo HC HE
  have zFM := blk_lt FM.out
  have cFM_0 : w1.cell? ⟨w.heap.size, 0, none⟩ = some (.string m.f0.f0) := clq FM.out 0 rfl
  have cFM_1 : w1.cell? ⟨w.heap.size, 1, none⟩ = some (.string m.f0.f1) := clq FM.out 1 rfl
  have cFM_2 : w1.cell? ⟨w.heap.size, 2, none⟩ = some (.slice A0 m.f1.length c0) := clq FM.out 2 rfl
  have cFM_3 : w1.cell? ⟨w.heap.size, 3, none⟩ = some (.slice A1 m.f2.length c1) := clq FM.out 3 rfl
  have zFZ := blk_lt FZ.out
  have cFZ_0 : w1.cell? ⟨w.heap.size + 1, 0, none⟩ = some (.string ⟨#[]⟩) := clq FZ.out 0 rfl
  have dFZ_0 := fzq FZ.out 0
  have cFZ_1 : w1.cell? ⟨w.heap.size + 1, 1, none⟩ = some (.string ⟨#[]⟩) := clq FZ.out 1 rfl
  have dFZ_1 := fzq FZ.out 1
  have cFZ_2 : w1.cell? ⟨w.heap.size + 1, 2, none⟩ = some (.slice none 0 0) := clq FZ.out 2 rfl
  have dFZ_2 := fzq FZ.out 2
  have cFZ_3 : w1.cell? ⟨w.heap.size + 1, 3, none⟩ = some (.slice none 0 0) := clq FZ.out 3 rfl
  have dFZ_3 := fzq FZ.out 3
  obtain rfl : Q = false := HQ.out
  obtain rfl : X = zMailA := HX.out
  go_wp2
  refine bodyPost_ret (v := .tuple #[.agg #[.string ⟨#[]⟩, .string ⟨#[]⟩, .slice none 0 0, .slice none 0 0], .bool false]) ?hr rfl ?hp
  case hr => simp [results, Tryz.results7, go_sem, cFZ_0, dFZ_0, cFZ_1, dFZ_1, cFZ_2, dFZ_2, cFZ_3, dFZ_3]
  case hp => exact ⟨none, 0, none, 0, rfl, Kd.R_nil _ _ _ _ _, Kd.R_nil _ _ _ _ _, by (with_reducible repeat (first | exact HB.out | refine bel_alloc ?_ _ | refine bel_set ?_ _ ?_ | refine blw_drewN ?_ _ | refine Below.drew ?_)); all_goals (first | (simp; done) | (simp; omega) | omega)⟩
 ·have zFM := blk_lt FM.out
  have cFM_0 : w1.cell? ⟨w.heap.size, 0, none⟩ = some (.string m.f0.f0) := clq FM.out 0 rfl
  have cFM_1 : w1.cell? ⟨w.heap.size, 1, none⟩ = some (.string m.f0.f1) := clq FM.out 1 rfl
  have cFM_2 : w1.cell? ⟨w.heap.size, 2, none⟩ = some (.slice A0 m.f1.length c0) := clq FM.out 2 rfl
  have cFM_3 : w1.cell? ⟨w.heap.size, 3, none⟩ = some (.slice A1 m.f2.length c1) := clq FM.out 3 rfl
  go_wp2_with fail
  refine Calls.mono (hmo _ HB.out) ?_
  rintro e w2 ⟨rfl, bw2⟩
  clear zFM cFM_0 cFM_1 cFM_2 cFM_3
  replace FM := Aside0.mk (below_blk FM.out bw2)
  replace FZ := Aside0.mk (below_blk FZ.out bw2)
  replace HB := Aside0.mk (bel_then HB.out bw2)
  replace HL := Aside0.mk (Nat.le_trans HL.out bw2.size)
  clear bw2
  clear hmo
  cases q2
  ·clear HC HE
   have zFM := blk_lt FM.out
   have cFM_0 : w2.cell? ⟨w.heap.size, 0, none⟩ = some (.string m.f0.f0) := clq FM.out 0 rfl
   have cFM_1 : w2.cell? ⟨w.heap.size, 1, none⟩ = some (.string m.f0.f1) := clq FM.out 1 rfl
   have cFM_2 : w2.cell? ⟨w.heap.size, 2, none⟩ = some (.slice A0 m.f1.length c0) := clq FM.out 2 rfl
   have cFM_3 : w2.cell? ⟨w.heap.size, 3, none⟩ = some (.slice A1 m.f2.length c1) := clq FM.out 3 rfl
   have zFZ := blk_lt FZ.out
   have cFZ_0 : w2.cell? ⟨w.heap.size + 1, 0, none⟩ = some (.string ⟨#[]⟩) := clq FZ.out 0 rfl
   have dFZ_0 := fzq FZ.out 0
   have cFZ_1 : w2.cell? ⟨w.heap.size + 1, 1, none⟩ = some (.string ⟨#[]⟩) := clq FZ.out 1 rfl
   have dFZ_1 := fzq FZ.out 1
   have cFZ_2 : w2.cell? ⟨w.heap.size + 1, 2, none⟩ = some (.slice none 0 0) := clq FZ.out 2 rfl
   have dFZ_2 := fzq FZ.out 2
   have cFZ_3 : w2.cell? ⟨w.heap.size + 1, 3, none⟩ = some (.slice none 0 0) := clq FZ.out 3 rfl
   have dFZ_3 := fzq FZ.out 3
   obtain rfl : Q = false := HQ.out
   obtain rfl : X = zMailA := HX.out
   go_wp2
   refine bodyPost_ret (v := .tuple #[.agg #[.string ⟨#[]⟩, .string ⟨#[]⟩, .slice none 0 0, .slice none 0 0], .bool false]) ?hr rfl ?hp
   case hr => simp [results, Tryz.results7, go_sem, cFZ_0, dFZ_0, cFZ_1, dFZ_1, cFZ_2, dFZ_2, cFZ_3, dFZ_3]
   case hp => exact ⟨none, 0, none, 0, rfl, Kd.R_nil _ _ _ _ _, Kd.R_nil _ _ _ _ _, by (with_reducible repeat (first | exact HB.out | refine bel_alloc ?_ _ | refine bel_set ?_ _ ?_ | refine blw_drewN ?_ _ | refine Below.drew ?_)); all_goals (first | (simp; done) | (simp; omega) | omega)⟩
  ·have HFOR := Lib.hid (HC.out (by trivial) (by trivial))
   have hl4 := (HE.out (by trivial)).1
   clear HC HE
   have HO0 : Aside0 (Kd.R kAddr 25 (w2.alloc (.cells #[] 25)) w.heap.size (fun _ => True) (.slice (some ⟨w2.heap.size, 0, none⟩) 0 0) []) := ⟨R_empty kAddr 25 w2 w.heap.size HB.out.size trivial⟩
   have BP0 := Aside0.mk (bel_alloc (Below.refl w2.heap.size w2) (.cells #[] 25))
   have hFM0 := blk_alloc FM.out (.cells #[] 25)
   have c0_ : (w2.alloc (.cells #[] 25)).cell? ⟨w.heap.size, 0, none⟩ = some (.string m.f0.f0) := by simp [World.cell?, hFM0]
   have c1_ : (w2.alloc (.cells #[] 25)).cell? ⟨w.heap.size, 1, none⟩ = some (.string m.f0.f1) := by simp [World.cell?, hFM0]
   have c2_ : (w2.alloc (.cells #[] 25)).cell? ⟨w.heap.size, 2, none⟩ = some (.slice A0 m.f1.length c0) := by simp [World.cell?, hFM0]
   have c3_ : (w2.alloc (.cells #[] 25)).cell? ⟨w.heap.size, 3, none⟩ = some (.slice A1 m.f2.length c1) := by simp [World.cell?, hFM0]
   clear hFM0
   go_wp2
   clear c0_ c1_ c2_ c3_
   go_loopg [6, 7, 8, 9] (m.f1.length) (fun g v6 v7 _ _ wr => ∃ (i : Nat) (ys : List SAddr) (A2 : Option Addr) (c2 : Nat), i ≤ m.f1.length ∧ m.f1.length - i ≤ g ∧ v6 = .slice A2 ys.length c2 ∧ v7 = .int .i64 (i : Int) ∧ ys.length ≤ 25 * i ∧ Aside0 (ys = toL xs m.f1 i) ∧ Aside0 (Kd.R kAddr 25 wr w.heap.size (fun _ => True) (.slice A2 ys.length c2) ys) ∧ Aside0 (Below w2.heap.size w2 wr))
   case atStart => exact ⟨0, [], some ⟨w2.heap.size, 0, none⟩, 0, Nat.zero_le _, by omega, rfl, rfl, Nat.le_refl _, ⟨rfl⟩, HO0, BP0⟩
   case round =>
    clear HO0 BP0
    obtain ⟨i, ys, A2, c2, hi, hg, rfl, rfl, hyl, HY, HO, BP⟩ := hrel
    have hF := below_blk FM.out BP.out
    have c0_ : wr.cell? ⟨w.heap.size, 0, none⟩ = some (.string m.f0.f0) := by simp [World.cell?, hF]
    have c1_ : wr.cell? ⟨w.heap.size, 1, none⟩ = some (.string m.f0.f1) := by simp [World.cell?, hF]
    have c2_ : wr.cell? ⟨w.heap.size, 2, none⟩ = some (.slice A0 m.f1.length c0) := by simp [World.cell?, hF]
    have c3_ : wr.cell? ⟨w.heap.size, 3, none⟩ = some (.slice A1 m.f2.length c1) := by simp [World.cell?, hF]
    have hBW := bel_then HB.out BP.out
    by_cases hlt : i < m.f1.length
    ·have hlt' : (i : Int) < (m.f1.length : Int) := by omega
     obtain ⟨ad, e1, p0, p1⟩ := at_Addr (Kd.C_below HT.out hBW) i hlt
     subst e1
     have hfo := HFOR.out _ (getD_mem m.f1 zAddr hlt)
     have hnx := toL_next (xs := xs) hlt
     rw [← HY.out] at hnx
     generalize m.f1.getD i zAddr = x at p0 p1 hfo hnx
     have h4 := hfo.1 wr hBW
     have hen := hfo.2
     generalize ends xs [x] = EN at h4 hen hnx
     have HNX := Lib.hid hnx
     clear hfo hnx
     go_wp2_with fail
     refine Calls.mono h4 ?_
     rintro e w4 ⟨B4, d4, rfl, r4, b4⟩
     clear h4
     have HF4 := Aside0.mk (Kd.R_lower (base' := w.heap.size) r4 hBW.size)
     have HO4 := Aside0.mk (Kd.R_below HO.out b4)
     have BP4 := Aside0.mk (bel_then BP.out b4)
     clear r4 b4 p0 p1 c0_ c1_ c2_ c3_ hF hBW HO BP
     go_wp2
     go_loopg [6, 9] (EN.length) (fun g v6 v9 wr => ∃ (k : Nat) (zs : List SAddr) (A3 : Option Addr) (c3 : Nat), k ≤ EN.length ∧ EN.length - k ≤ g ∧ v6 = .slice A3 zs.length c3 ∧ v9 = .int .i64 (k : Int) ∧ zs.length ≤ 25 * i + k ∧ Aside0 (zs = (EN.take k).foldl insU ys) ∧ Aside0 (Kd.R kAddr 25 wr w.heap.size (fun _ => True) (.slice A3 zs.length c3) zs) ∧ Aside0 (Kd.R kAddr 25 wr w.heap.size (fun _ => True) (.slice B4 EN.length d4) EN) ∧ Aside0 (Below w2.heap.size w2 wr))
     case atStart => exact ⟨0, ys, A2, c2, Nat.zero_le _, by omega, rfl, rfl, by omega, ⟨by simp⟩, HO4, HF4, BP4⟩
     case round =>
      clear HO4 HF4 BP4
      obtain ⟨k, zs, A3, c3, hk, hgk, rfl, rfl, hzl, HZ, HO, HF, BP⟩ := hrel
      by_cases hlk : k < EN.length
      ·have hlk' : (k : Int) < (EN.length : Int) := by omega
       obtain ⟨ae, e2, t0, t1⟩ := at_Addr (Kd.R_reads' HF.out).2.2 k hlk
       subst e2
       have hmx : EN.take (k + 1) = EN.take k ++ [EN.getD k zAddr] := take_nextA hlk
       generalize EN.getD k zAddr = v at t0 t1 hmx
       have HMX := Lib.hid hmx
       clear hmx
       have hil := insU_len zs v
       have hso := specSort_any w.heap.size A3 c3 zs v wr HO.out (by omega) (by have := BP.out.size; have := HB.out.size; omega)
       go_wp2_with (first | (go_at_call 33; go_loud (refine Calls.mono hso ?_; rintro e w5 ⟨B5, d5, rfl, r5, b5⟩)))
       go_roundg (EN.length - (k + 1))
       case measure => omega
       case rel => exact ⟨k + 1, insU zs v, B5, d5, by omega, Nat.le_refl _, rfl, by go_num, by omega, ⟨by rw [HMX.out, List.foldl_append, ← HZ.out]; rfl⟩, ⟨r5⟩, ⟨Kd.R_below HF.out b5⟩, ⟨bel_then BP.out b5⟩⟩
      ·have hlk' : ¬ (k : Int) < (EN.length : Int) := by omega
       rw [show EN.take k = EN from List.take_of_length_le (by omega)] at HZ
       go_wp2
       go_roundg (m.f1.length - (i + 1))
       case measure => omega
       case rel => exact ⟨i + 1, zs, A3, c3, by omega, Nat.le_refl _, rfl, by go_num, by omega, ⟨by rw [HNX.out]; exact HZ.out⟩, HO, BP⟩
    ·have hlt' : ¬ (i : Int) < (m.f1.length : Int) := by omega
     rw [show i = m.f1.length by omega, toL_all] at HY
     rw [← HY.out] at HX HQ
     clear HFOR HY
     obtain ⟨q3, hq3⟩ : ∃ q, (decide ((1 : Int) ≤ (ys.length : Int)) && decide ((ys.length : Int) ≤ 4)) = q := ⟨_, rfl⟩
     have h3 := fun W => specIn_any (ys.length : Int) 1 4 W
     simp only [hq3] at h3 HQ HX
     clear hq3
     go_wp2_with fail
     refine Calls.mono (h3 _) ?_
     rintro e w3 ⟨rfl, rfl⟩
     clear h3 c0_ c1_ c2_ c3_ hF
     cases q3
     ·replace FM := Aside0.mk (below_blk FM.out BP.out)
      replace FZ := Aside0.mk (below_blk FZ.out BP.out)
      replace HB := Aside0.mk hBW
      replace HL := Aside0.mk (Nat.le_trans HL.out BP.out.size)
      clear hBW BP
      clear HO
      have zFM := blk_lt FM.out
      have cFM_0 : wr.cell? ⟨w.heap.size, 0, none⟩ = some (.string m.f0.f0) := clq FM.out 0 rfl
      have cFM_1 : wr.cell? ⟨w.heap.size, 1, none⟩ = some (.string m.f0.f1) := clq FM.out 1 rfl
      have cFM_2 : wr.cell? ⟨w.heap.size, 2, none⟩ = some (.slice A0 m.f1.length c0) := clq FM.out 2 rfl
      have cFM_3 : wr.cell? ⟨w.heap.size, 3, none⟩ = some (.slice A1 m.f2.length c1) := clq FM.out 3 rfl
      have zFZ := blk_lt FZ.out
      have cFZ_0 : wr.cell? ⟨w.heap.size + 1, 0, none⟩ = some (.string ⟨#[]⟩) := clq FZ.out 0 rfl
      have dFZ_0 := fzq FZ.out 0
      have cFZ_1 : wr.cell? ⟨w.heap.size + 1, 1, none⟩ = some (.string ⟨#[]⟩) := clq FZ.out 1 rfl
      have dFZ_1 := fzq FZ.out 1
      have cFZ_2 : wr.cell? ⟨w.heap.size + 1, 2, none⟩ = some (.slice none 0 0) := clq FZ.out 2 rfl
      have dFZ_2 := fzq FZ.out 2
      have cFZ_3 : wr.cell? ⟨w.heap.size + 1, 3, none⟩ = some (.slice none 0 0) := clq FZ.out 3 rfl
      have dFZ_3 := fzq FZ.out 3
      obtain rfl : Q = false := HQ.out
      obtain rfl : X = zMailA := HX.out
      go_wp2
      refine bodyPost_ret (v := .tuple #[.agg #[.string ⟨#[]⟩, .string ⟨#[]⟩, .slice none 0 0, .slice none 0 0], .bool false]) ?hr rfl ?hp
      case hr => simp [results, Tryz.results7, go_sem, cFZ_0, dFZ_0, cFZ_1, dFZ_1, cFZ_2, dFZ_2, cFZ_3, dFZ_3]
      case hp => exact ⟨none, 0, none, 0, rfl, Kd.R_nil _ _ _ _ _, Kd.R_nil _ _ _ _ _, by (with_reducible repeat (first | exact HB.out | refine bel_alloc ?_ _ | refine bel_set ?_ _ ?_ | refine blw_drewN ?_ _ | refine Below.drew ?_)); all_goals (first | (simp; done) | (simp; omega) | omega)⟩
     ·replace FM := Aside0.mk (below_blk FM.out BP.out)
      replace FZ := Aside0.mk (below_blk FZ.out BP.out)
      replace HB := Aside0.mk hBW
      replace HL := Aside0.mk (Nat.le_trans HL.out BP.out.size)
      clear hBW BP
      have RE := HO
      clear HO
      obtain rfl : Q = true := HQ.out
      obtain rfl : X = ⟨m.f0, ys, m.f2⟩ := HX.out
      have zFM := blk_lt FM.out
      have cFM_0 : wr.cell? ⟨w.heap.size, 0, none⟩ = some (.string m.f0.f0) := clq FM.out 0 rfl
      have cFM_1 : wr.cell? ⟨w.heap.size, 1, none⟩ = some (.string m.f0.f1) := clq FM.out 1 rfl
      have cFM_2 : wr.cell? ⟨w.heap.size, 2, none⟩ = some (.slice A0 m.f1.length c0) := clq FM.out 2 rfl
      have cFM_3 : wr.cell? ⟨w.heap.size, 3, none⟩ = some (.slice A1 m.f2.length c1) := clq FM.out 3 rfl
      go_wp2_with fail
      refine Calls.mono (specCopy_any m A0 c0 A1 c1 _ HFIT.out (Kd.C_below HT.out HB.out) (Kd.C_below HBD.out HB.out)) ?_
      rintro e w5 ⟨B5, d5, C, f, rfl, -, rRC, bw5⟩
      clear zFM cFM_0 cFM_1 cFM_2 cFM_3
      replace FM := Aside0.mk (below_blk FM.out bw5)
      replace FZ := Aside0.mk (below_blk FZ.out bw5)
      replace RE := Aside0.mk (Kd.R_below RE.out bw5)
      have RC : Aside0 (Kd.R Kd.string 9 w5 w.heap.size (fun _ => True) (.slice C m.f2.length f) m.f2) := ⟨Kd.R_lower (base' := w.heap.size) rRC HB.out.size⟩
      clear rRC
      replace HB := Aside0.mk (bel_then HB.out bw5)
      replace HL := Aside0.mk (Nat.le_trans HL.out bw5.size)
      clear bw5
      have zFZ := blk_lt FZ.out
      have cFZ_0 : w5.cell? ⟨w.heap.size + 1, 0, none⟩ = some (.string ⟨#[]⟩) := clq FZ.out 0 rfl
      have dFZ_0 := fzq FZ.out 0
      have cFZ_1 : w5.cell? ⟨w.heap.size + 1, 1, none⟩ = some (.string ⟨#[]⟩) := clq FZ.out 1 rfl
      have dFZ_1 := fzq FZ.out 1
      have cFZ_2 : w5.cell? ⟨w.heap.size + 1, 2, none⟩ = some (.slice none 0 0) := clq FZ.out 2 rfl
      have dFZ_2 := fzq FZ.out 2
      have cFZ_3 : w5.cell? ⟨w.heap.size + 1, 3, none⟩ = some (.slice none 0 0) := clq FZ.out 3 rfl
      have dFZ_3 := fzq FZ.out 3
      go_wp2
      generalize hWw6 : World.alloc (World.setCell (World.setCell (World.setCell (World.setCell (w5) _ _) _ _) _ _) _ _) _ = w6
      have ltFM := blk_lt FM.out
      have ltFZ := blk_lt FZ.out
      have ltb := HB.out.size
      have ltl := HL.out
      have TT : ∀ k, k < w5.heap.size → k ≠ w.heap.size + 1 → w6.heap[k]? = w5.heap[k]? := fun k hk n_FZ => by rw [← hWw6]; (with_reducible repeat (first | rfl | refine hp_set ?_ ?_ | refine hp_alloc ?_ ?_ | refine hp_drew ?_)); all_goals (first | (with_reducible rfl) | omega | (dsimp only; omega) | (simp; omega))
      have TS : w5.heap.size + 1 ≤ w6.heap.size := by rw [← hWw6]; simp
      have nFM : w6.heap[w.heap.size]? = some (.cells #[.string m.f0.f0, .string m.f0.f1, .slice A0 m.f1.length c0, .slice A1 m.f2.length c1] 29 (0, 0)) := (TT _ ltFM (by omega)).trans FM.out
      have nFZ : w6.heap[w.heap.size + 1]? = some (.cells #[.string m.f0.f0, .string m.f0.f1, .slice A2 ys.length c2, .slice C m.f2.length f] 29 (0, 0)) := by rw [← hWw6]; have h := blk_alloc (blk_set1 (blk_set1 (blk_set1 (blk_set1 (FZ.out) 0 (.string m.f0.f0)) 1 (.string m.f0.f1)) 2 (.slice A2 ys.length c2)) 3 (.slice C m.f2.length f)) (.cells #[.string m.f0.f0, .string m.f0.f1, .slice A2 ys.length c2, .slice C m.f2.length f] 29); simpa using h
      have nFO : w6.heap[w5.heap.size]? = some (.cells #[.string m.f0.f0, .string m.f0.f1, .slice A2 ys.length c2, .slice C m.f2.length f] 29 (0, 0)) := by rw [← hWw6]; exact blk_at _ _ (by first | rfl | (simp; done) | (simp; omega))
      have nRE : Kd.R kAddr 25 w6 w.heap.size (fun _ => True) (.slice A2 ys.length c2) ys := R_keepT RE.out rfl (fun k hk ho => TT k hk (fun e => Kd.R_ne RE.out FZ.out (by decide) (e ▸ ho)))
      have nRC : Kd.R Kd.string 9 w6 w.heap.size (fun _ => True) (.slice C m.f2.length f) m.f2 := R_keepT RC.out rfl (fun k hk ho => TT k hk (fun e => Kd.R_ne RC.out FZ.out (by decide) (e ▸ ho)))
      have nHB : Below w.heap.size w w6 := by rw [← hWw6]; exact bel_alloc (bel_set (bel_set (bel_set (bel_set (HB.out) _ (by show w.heap.size ≤ w.heap.size + 1; first | omega | (simp; omega))) _ (by show w.heap.size ≤ w.heap.size + 1; first | omega | (simp; omega))) _ (by show w.heap.size ≤ w.heap.size + 1; first | omega | (simp; omega))) _ (by show w.heap.size ≤ w.heap.size + 1; first | omega | (simp; omega))) _
      clear zFZ cFZ_0 dFZ_0 cFZ_1 dFZ_1 cFZ_2 dFZ_2 cFZ_3 dFZ_3
      clear hWw6 FM FZ HB RE RC
      have FM := Aside0.mk nFM
      clear nFM
      have FZ := Aside0.mk nFZ
      clear nFZ
      have FO := Aside0.mk nFO
      clear nFO
      have RE := Aside0.mk nRE
      clear nRE
      have RC := Aside0.mk nRC
      clear nRC
      have HB := Aside0.mk nHB
      clear nHB
      have oFO_ltFM := ltFM
      have oFO_ltFZ := ltFZ
      have oFO_ltl := ltl
      have oFO_ts := TS
      replace HL := Aside0.mk (Nat.le_trans HL.out (by omega : w5.heap.size ≤ w6.heap.size))
      clear TT TS ltFM ltFZ ltb ltl
      have zFZ := blk_lt FZ.out
      have cFZ_0 : w6.cell? ⟨w.heap.size + 1, 0, none⟩ = some (.string m.f0.f0) := clq FZ.out 0 rfl
      have cFZ_1 : w6.cell? ⟨w.heap.size + 1, 1, none⟩ = some (.string m.f0.f1) := clq FZ.out 1 rfl
      have cFZ_2 : w6.cell? ⟨w.heap.size + 1, 2, none⟩ = some (.slice A2 ys.length c2) := clq FZ.out 2 rfl
      have cFZ_3 : w6.cell? ⟨w.heap.size + 1, 3, none⟩ = some (.slice C m.f2.length f) := clq FZ.out 3 rfl
      refine bodyPost_ret (v := .tuple #[.agg #[.string m.f0.f0, .string m.f0.f1, .slice A2 ys.length c2, .slice C m.f2.length f], .bool true]) ?hr rfl ?hp
      case hr => simp [results, Tryz.results7, go_sem, cFZ_0, cFZ_1, cFZ_2, cFZ_3]
      case hp => exact ⟨A2, c2, C, f, rfl, RE.out, RC.out, HB.out⟩

end Go.Proofs.YticepbgacokbbaaGreatDoor
