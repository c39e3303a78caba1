/- The reference's CliStep: a contract. -/
import Derived.Test.YtoppgnmnbbhghaaGreatDoorStepS
import Derived.Test.YtoppgnmnbbhghaaGreatDoorCopyS
namespace Go.Proofs.YtoppgnmnbbhghaaGreatDoor
open Go.RowKit Go.Proofs.YtoppgnmnbbhghaaGreatDoorW.PrintWords
set_option linter.unusedVariables false
set_option linter.unusedSimpArgs false

set_option maxRecDepth 100000 in
set_option maxHeartbeats 8000000 in
theorem specCliStep_any (c : SCli) (A0 : Option Addr) (c0 : Nat) (A1 : Option Addr) (c1 : Nat) (A2 : Option Addr) (c2 : Nat) (answer : ByteArray) (w : World) (hw : fitCli c) (hs : answer.size ≤ 1048576) (hr0 : Kd.C kAddr w A0 c.f1.f1.length c.f1.f1) (hr1 : Kd.C Kd.string w A1 c.f1.f2.length c.f1.f2) (hr2 : Kd.C (Kd.int .i64) w A2 c.f4.length c.f4) :
    Calls Tryz.prog 23 #[.agg #[.string c.f0, .string c.f1.f0.f0, .string c.f1.f0.f1, .slice A0 c.f1.f1.length c0, .slice A1 c.f1.f2.length c1, .int .i64 c.f2, .int .i64 c.f3, .slice A2 c.f4.length c2], .string answer] w fun e w' => ∃ B0 d0 B1 d1 B2 d2, e = .returned (.tuple #[.agg #[.string (stepS c answer).f0, .string (stepS c answer).f1.f0.f0, .string (stepS c answer).f1.f0.f1, .slice B0 (stepS c answer).f1.f1.length d0, .slice B1 (stepS c answer).f1.f2.length d1, .int .i64 (stepS c answer).f2, .int .i64 (stepS c answer).f3, .slice B2 (stepS c answer).f4.length d2], .string (stepT c answer)]) ∧ Kd.R kAddr 24 w' w.heap.size (fun _ => True) (.slice B0 (stepS c answer).f1.f1.length d0) (stepS c answer).f1.f1 ∧ Kd.R Kd.string 9 w' w.heap.size (fun _ => True) (.slice B1 (stepS c answer).f1.f2.length d1) (stepS c answer).f1.f2 ∧ Kd.R (Kd.int .i64) 3 w' w.heap.size (fun _ => True) (.slice B2 (stepS c answer).f4.length d2) (stepS c answer).f4 ∧ Below w.heap.size w w' := by
  have hok := fun W (hW : Below w.heap.size w W) => specCli_any c A0 c0 A1 c1 A2 c2 W hw (Kd.C_below hr0 hW) (Kd.C_below hr1 hW) (Kd.C_below hr2 hW)
  have hcp := fun W (hW : Below w.heap.size w W) => specCopy_any c.f1 A0 c0 A1 c1 W hw.2.1 (Kd.C_below hr0 hW) (Kd.C_below hr1 hW)
  have HCD := Lib.hid (fun W => specCode_any answer W hs)
  have HS := Lib.hid (show stepS c answer = if cliOk c then (stepC c (codeOf answer)).1 else zCli from rfl)
  have HT := Lib.hid (show stepT c answer = if cliOk c then (stepC c (codeOf answer)).2 else ⟨#[]⟩ from rfl)
  have HOK := Lib.hid (cliOk_facts c)
  have HW := Lib.hid hw
  have HR2 := Lib.hid hr2
  have hl4 := hw.2.2.2.2.1
  clear hw hr0 hr1 hr2 hs
  generalize stepS c answer = M at HS ⊢
  generalize stepT c answer = X at HT ⊢
  generalize cliOk c = q at HS HT HOK hok
  obtain ⟨W0, hW0⟩ : ∃ W, W = (w.alloc (.cells #[.string c.f0, .string c.f1.f0.f0, .string c.f1.f0.f1, .slice A0 c.f1.f1.length c0, .slice A1 c.f1.f2.length c1, .int .i64 c.f2, .int .i64 c.f3, .slice A2 c.f4.length c2] 31)).alloc (.cells #[.string ⟨#[]⟩, .string ⟨#[]⟩, .string ⟨#[]⟩, .slice none 0 0, .slice none 0 0, .int .i64 0, .int .i64 0, .slice none 0 0] 31) := ⟨_, rfl⟩
  have HF0 : Aside0 (W0.heap[w.heap.size]? = some (.cells #[.string c.f0, .string c.f1.f0.f0, .string c.f1.f0.f1, .slice A0 c.f1.f1.length c0, .slice A1 c.f1.f2.length c1, .int .i64 c.f2, .int .i64 c.f3, .slice A2 c.f4.length c2] 31 (0, 0))) := ⟨by rw [hW0]; exact below_blk (blk_new _ _) (bel_alloc (Below.refl _ _) _)⟩
  have HF1 : Aside0 (W0.heap[w.heap.size + 1]? = some (.cells #[.string ⟨#[]⟩, .string ⟨#[]⟩, .string ⟨#[]⟩, .slice none 0 0, .slice none 0 0, .int .i64 0, .int .i64 0, .slice none 0 0] 31 (0, 0))) := ⟨by rw [hW0, show w.heap.size + 1 = (w.alloc (.cells #[.string c.f0, .string c.f1.f0.f0, .string c.f1.f0.f1, .slice A0 c.f1.f1.length c0, .slice A1 c.f1.f2.length c1, .int .i64 c.f2, .int .i64 c.f3, .slice A2 c.f4.length c2] 31)).heap.size by simp]; exact blk_new _ _⟩
  have BL0 : Below w.heap.size w W0 := by rw [hW0]; exact bel_alloc (bel_alloc (Below.refl _ _) _) _
  have HW0 := Lib.hid hW0
  clear hW0
  go_enter Tryz.func23, Tryz.ntmps23
  go_wp2_with fail
  rw [← HW0.out]
  refine (hok _ BL0).mono ?_
  rintro e w1 ⟨rfl, b1⟩
  have b0 := bel_then BL0 b1
  have F0 := Aside0.mk (below_blk HF0.out b1)
  have F1 := Aside0.mk (below_blk HF1.out b1)
  clear hok b1 BL0 HF0 HF1
  obtain ⟨c0_, c1_, c2_, c3_, c4_, c5_, c6_, c7_⟩ := cells8 F0.out
  obtain ⟨cz0_, cz1_, cz2_, cz3_, cz4_, cz5_, cz6_, cz7_⟩ := froz8 F0.out
  obtain ⟨k0_, k1_, k2_, k3_, k4_, k5_, k6_, k7_⟩ := cells8 F1.out
  obtain ⟨kz0_, kz1_, kz2_, kz3_, kz4_, kz5_, kz6_, kz7_⟩ := froz8 F1.out
  cases q
  · obtain rfl : M = zCli := HS.out
    obtain rfl : X = ⟨#[]⟩ := HT.out
    go_wp2
    refine bodyPost_ret (v := .tuple #[.agg #[.string ⟨#[]⟩, .string ⟨#[]⟩, .string ⟨#[]⟩, .slice none 0 0, .slice none 0 0, .int .i64 0, .int .i64 0, .slice none 0 0], .string ⟨#[]⟩]) ?hrA rfl ?hpA
    case hrA => simp [results, Tryz.results23, go_sem, k0_, k1_, k2_, k3_, k4_, k5_, k6_, k7_]
    case hpA => exact ⟨none, 0, none, 0, none, 0, rfl, Kd.R_nil _ _ _ _ _, Kd.R_nil _ _ _ _ _, Kd.R_nil _ _ _ _ _, by (with_reducible repeat (first | exact b0 | refine bel_alloc ?_ _ | refine bel_set ?_ _ ?_ | refine blw_drewN ?_ _ | refine Below.drew ?_)); all_goals (first | (simp; done) | (simp; omega) | omega)⟩
  · go_wp2_with fail
    refine (hcp _ b0).mono ?_
    rintro e w2 ⟨P0, d0, P1, d1, rfl, g0, g1, b2⟩
    have u0 := Kd.R_lower (base' := w.heap.size) g0 b0.size
    have u1 := Kd.R_lower (base' := w.heap.size) g1 b0.size
    have f0 := below_blk F0.out b2
    have f1 := below_blk F1.out b2
    have bb := bel_then b0 b2
    clear g0 g1 hcp F0 F1 b0 b2 c0_ cz0_ c1_ cz1_ c2_ cz2_ c3_ cz3_ c4_ cz4_ c5_ cz5_ c6_ cz6_ c7_ cz7_ k0_ kz0_ k1_ kz1_ k2_ kz2_ k3_ kz3_ k4_ kz4_ k5_ kz5_ k6_ kz6_ k7_ kz7_
    have F0 := Aside0.mk f0
    have F1 := Aside0.mk f1
    have U0 := Aside0.mk u0
    have U1 := Aside0.mk u1
    have b0 := bb
    clear f0 f1 u0 u1 bb
    obtain ⟨c0_, c1_, c2_, c3_, c4_, c5_, c6_, c7_⟩ := cells8 F0.out
    obtain ⟨cz0_, cz1_, cz2_, cz3_, cz4_, cz5_, cz6_, cz7_⟩ := froz8 F0.out
    go_upto_region 4 with (fail)
    generalize hV : World.setCell (World.setCell (World.setCell (World.setCell w2 ⟨w.heap.size, 1, none⟩ _) ⟨w.heap.size, 2, none⟩ _) ⟨w.heap.size, 3, none⟩ _) ⟨w.heap.size, 4, none⟩ _ = V
    have fv : V.heap[w.heap.size]? = some (.cells #[.string c.f0, .string c.f1.f0.f0, .string c.f1.f0.f1, .slice P0 c.f1.f1.length d0, .slice P1 c.f1.f2.length d1, .int .i64 c.f2, .int .i64 c.f3, .slice A2 c.f4.length c2] 31 (0, 0)) := by rw [← hV]; exact (blk_set1 (blk_set1 (blk_set1 (blk_set1 (F0.out) 1 _) 2 _) 3 _) 4 _).trans (by simp)
    have gv : w2.grownBy V (some w.heap.size) := by rw [← hV]; exact (((grown_set1 _ _ _ _).trans (grown_set1 _ _ _ _)).trans (grown_set1 _ _ _ _)).trans (grown_set1 _ _ _ _)
    have u0 := R_else U0.out rfl gv (Kd.R_ne U0.out F0.out (by decide))
    have u1 := R_else U1.out rfl gv (Kd.R_ne U1.out F0.out (by decide))
    have bz : Below w.heap.size w V := by rw [← hV]; exact bel_set (bel_set (bel_set (bel_set (b0) _ (Nat.le_refl _)) _ (Nat.le_refl _)) _ (Nat.le_refl _)) _ (Nat.le_refl _)
    have f1 := (gv.block _ (blk_lt F1.out) (fun e => by have e := Option.some.inj e; omega)).trans F1.out
    clear hV gv F0 F1 U0 U1 b0 c0_ cz0_ c1_ cz1_ c2_ cz2_ c3_ cz3_ c4_ cz4_ c5_ cz5_ c6_ cz6_ c7_ cz7_
    have F0 := Aside0.mk fv
    have F1 := Aside0.mk f1
    have U0 := Aside0.mk u0
    have U1 := Aside0.mk u1
    have b0 := bz
    clear fv f1 u0 u1 bz
    have HE : Aside0 (Kd.R (Kd.int .i64) 3 (V.alloc (.cells #[] 3)) w.heap.size (fun _ => True) (.slice (some ⟨V.heap.size, 0, none⟩) 0 0) []) := ⟨R_empty (Kd.int .i64) 3 V w.heap.size b0.size trivial⟩
    have HR := Aside0.mk (Kd.C_below HR2.out (bel_alloc b0 (.cells #[] 3)))
    obtain ⟨c0_, c1_, c2_, c3_, c4_, c5_, c6_, c7_⟩ := cells8 F0.out
    obtain ⟨cz0_, cz1_, cz2_, cz3_, cz4_, cz5_, cz6_, cz7_⟩ := froz8 F0.out
    have zV0 : w.heap.size < V.heap.size := blk_lt F0.out
    have zV1 : w.heap.size + 1 < V.heap.size := blk_lt F1.out
    go_wp2_with ((with_reducible refine gate_builtin (b := .append) (xs := #[.tmp 16, .tmp 18]) rfl ?_); (try (refine gate_guard (by rfl) ?_; dsimp only)); at_builtin; (refine Kd.R_append_rows (Kd.int .i64) (w0 := w) (w.heap.size) rfl (.tmp 16) (.tmp 18) 29 3 (.int .i64 0) 8 rfl Tryz.underlying29 info3 rfl (by decide) (by omega) (.slice (some ⟨V.heap.size, 0, none⟩) 0 0) [] c.f4 _ _ _ (fun _ => True) (fun _ => False) rfl rfl ?aO ?aR (fun _ _ h => h) (fun _ h => h.elim) (fun _ _ => trivial) ?aB ?aS ?aL ?_); (case aO => exact HE.out); (case aR => exact HR.out); (case aB => exact bel_alloc b0 _); (case aS => exact (bel_alloc b0 _).size); (case aL => (simp; omega)); intro v1 w3 ho hb hg hat; have HB := Aside0.mk hb; have ho2 : Kd.R (Kd.int .i64) 3 w3 w.heap.size (fun _ => True) v1 c.f4 := ho; have GR := Lib.hid (show (V.alloc (.cells #[] 3)).grownBy w3 (some V.heap.size) from hg); obtain ⟨vB, vd, hv⟩ := Kd.R_slice ho2; subst hv; have HO := Aside0.mk ho2; have G0 : Aside0 (w3.heap[w.heap.size]? = some (.cells #[.string c.f0, .string c.f1.f0.f0, .string c.f1.f0.f1, .slice P0 c.f1.f1.length d0, .slice P1 c.f1.f2.length d1, .int .i64 c.f2, .int .i64 c.f3, .slice A2 c.f4.length c2] 31 (0, 0))) := ⟨(GR.out.block w.heap.size (blk_lt (below_blk F0.out (bel_alloc (Below.refl _ _) _))) (fun e => by have e := Option.some.inj e; have := blk_lt F0.out; omega)).trans (below_blk F0.out (bel_alloc (Below.refl _ _) _))⟩; have e0_ : w3.cell? ⟨w.heap.size, 0, none⟩ = some (.string c.f0) := (by simp [World.cell?, G0.out]); have e1_ : w3.cell? ⟨w.heap.size, 1, none⟩ = some (.string c.f1.f0.f0) := (by simp [World.cell?, G0.out]); have e2_ : w3.cell? ⟨w.heap.size, 2, none⟩ = some (.string c.f1.f0.f1) := (by simp [World.cell?, G0.out]); have e3_ : w3.cell? ⟨w.heap.size, 3, none⟩ = some (.slice P0 c.f1.f1.length d0) := (by simp [World.cell?, G0.out]); have e4_ : w3.cell? ⟨w.heap.size, 4, none⟩ = some (.slice P1 c.f1.f2.length d1) := (by simp [World.cell?, G0.out]); have e5_ : w3.cell? ⟨w.heap.size, 5, none⟩ = some (.int .i64 c.f2) := (by simp [World.cell?, G0.out]); have e6_ : w3.cell? ⟨w.heap.size, 6, none⟩ = some (.int .i64 c.f3) := (by simp [World.cell?, G0.out]); have e7_ : w3.cell? ⟨w.heap.size, 7, none⟩ = some (.slice A2 c.f4.length c2) := (by simp [World.cell?, G0.out]); have ez0_ : w3.frozen? ⟨w.heap.size, 0, none⟩ = false := (by simp [World.frozen?, G0.out]); have ez1_ : w3.frozen? ⟨w.heap.size, 1, none⟩ = false := (by simp [World.frozen?, G0.out]); have ez2_ : w3.frozen? ⟨w.heap.size, 2, none⟩ = false := (by simp [World.frozen?, G0.out]); have ez3_ : w3.frozen? ⟨w.heap.size, 3, none⟩ = false := (by simp [World.frozen?, G0.out]); have ez4_ : w3.frozen? ⟨w.heap.size, 4, none⟩ = false := (by simp [World.frozen?, G0.out]); have ez5_ : w3.frozen? ⟨w.heap.size, 5, none⟩ = false := (by simp [World.frozen?, G0.out]); have ez6_ : w3.frozen? ⟨w.heap.size, 6, none⟩ = false := (by simp [World.frozen?, G0.out]); have ez7_ : w3.frozen? ⟨w.heap.size, 7, none⟩ = false := (by simp [World.frozen?, G0.out]); clear ho ho2 hb hg hat HE HR)
    generalize hX : World.setCell w3 _ _ = Y
    have gx : w3.grownBy Y (some w.heap.size) := by rw [← hX]; exact grown_set1 _ _ _ _
    have r2 := R_else HO.out rfl gx (Kd.R_ne HO.out G0.out (by decide))
    have u0 := R_else (Kd.R_below U0.out (bel_alloc (Below.refl _ _) (.cells #[] 3))) rfl GR.out (Kd.R_ne_new U0.out 0)
    have u1 := R_else (Kd.R_below U1.out (bel_alloc (Below.refl _ _) (.cells #[] 3))) rfl GR.out (Kd.R_ne_new U1.out 0)
    have u0 := R_else u0 rfl gx (Kd.R_ne u0 G0.out (by decide))
    have u1 := R_else u1 rfl gx (Kd.R_ne u1 G0.out (by decide))
    have f1 := (GR.out.block (w.heap.size + 1) (blk_lt (below_blk F1.out (bel_alloc (Below.refl _ _) _))) (fun e => by have e := Option.some.inj e; have := blk_lt F1.out; omega)).trans (below_blk F1.out (bel_alloc (Below.refl _ _) _))
    have f1 := (gx.block _ (blk_lt f1) (fun e => by have e := Option.some.inj e; omega)).trans f1
    have bx : Below w.heap.size w Y := by rw [← hX]; exact bel_set HB.out _ (Nat.le_refl _)
    have hst := specStep_any c.f0 c.f1 c.f2 c.f3 c.f4 P0 d0 P1 d1 vB vd answer (codeOf answer) w.heap.size Y HW.out.2.1 HW.out.1 (HOK.out (by trivial)).2.1.1 (HOK.out (by trivial)).2.1.2 hl4 bx.size (HOK.out (by trivial)).1.1 (HOK.out (by trivial)).1.2 (HOK.out (by trivial)).2.2.1 (HOK.out (by trivial)).2.2.2 HCD.out (Kd.R_reads' u0).2.2 (Kd.R_reads' u1).2.2 r2
    clear hX gx F0 F1 U0 U1 b0 HO G0 GR HB r2 c0_ cz0_ c1_ cz1_ c2_ cz2_ c3_ cz3_ c4_ cz4_ c5_ cz5_ c6_ cz6_ c7_ cz7_ e0_ ez0_ e1_ ez1_ e2_ ez2_ e3_ ez3_ e4_ ez4_ e5_ ez5_ e6_ ez6_ e7_ ez7_
    have F1 := Aside0.mk f1
    have U0 := Aside0.mk u0
    have U1 := Aside0.mk u1
    have BX := Aside0.mk bx
    clear f1 u0 u1 bx
    refine hst.mono ?_
    rintro e w4 ⟨P2, d2, rfl, r2, b4⟩
    clear hst
    have HR := Lib.hid (stepC_rest c (codeOf answer))
    have hM : M = ⟨c.f0, c.f1, (stepC c (codeOf answer)).1.f2, (stepC c (codeOf answer)).1.f3, (stepC c (codeOf answer)).1.f4⟩ := by
      rw [HS.out.trans (if_pos (by trivial)), ← HR.out.1, ← HR.out.2.1]
    obtain rfl : X = (stepC c (codeOf answer)).2 := HT.out.trans (if_pos (by trivial))
    subst hM
    have R2 := Aside0.mk r2
    have B4 := Aside0.mk b4
    clear r2 b4
    go_upto_region 6 with (fail)
    generalize hY : World.alloc w4 _ = V4
    have bV : Below w4.heap.size w4 V4 := by rw [← hY]; exact bel_alloc (Below.refl _ _) _
    have FV : V4.heap[w4.heap.size]? = some (.cells #[.string c.f0, .string c.f1.f0.f0, .string c.f1.f0.f1, .slice P0 c.f1.f1.length d0, .slice P1 c.f1.f2.length d1, .int .i64 (stepC c (codeOf answer)).1.f2, .int .i64 (stepC c (codeOf answer)).1.f3, .slice P2 c.f4.length d2] 31 (0, 0)) := by rw [← hY]; exact blk_new _ _
    clear hY
    have bb := bel_then B4.out bV
    have b0 := bel_then BX.out bb
    have f1 := below_blk F1.out bb
    have u0 := Kd.R_below U0.out bb
    have u1 := Kd.R_below U1.out bb
    have u2 := Kd.R_below R2.out bV
    clear bV bb F1 U0 U1 R2 B4 BX
    have F4 := Aside0.mk FV
    have F1 := Aside0.mk f1
    have U0 := Aside0.mk u0
    have U1 := Aside0.mk u1
    have U2 := Aside0.mk u2
    clear FV f1 u0 u1 u2
    obtain ⟨m0_, m1_, m2_, m3_, m4_, m5_, m6_, m7_⟩ := cells8 F4.out
    obtain ⟨k0_, k1_, k2_, k3_, k4_, k5_, k6_, k7_⟩ := cells8 F1.out
    obtain ⟨kz0_, kz1_, kz2_, kz3_, kz4_, kz5_, kz6_, kz7_⟩ := froz8 F1.out
    go_wp2
    refine bodyPost_ret (v := .tuple #[.agg #[.string c.f0, .string c.f1.f0.f0, .string c.f1.f0.f1, .slice P0 c.f1.f1.length d0, .slice P1 c.f1.f2.length d1, .int .i64 (stepC c (codeOf answer)).1.f2, .int .i64 (stepC c (codeOf answer)).1.f3, .slice P2 c.f4.length d2], .string (stepC c (codeOf answer)).2]) ?hrB rfl ?hpB
    case hrB => simp [results, Tryz.results23, go_sem, m0_, m1_, m2_, m3_, m4_, m5_, m6_, m7_, k0_, k1_, k2_, k3_, k4_, k5_, k6_, k7_]
    case hpB =>
      generalize hwz : World.setCell (World.setCell (World.setCell (World.setCell (World.setCell (World.setCell (World.setCell (World.setCell V4 ⟨w.heap.size + 1, 0, none⟩ _) ⟨w.heap.size + 1, 1, none⟩ _) ⟨w.heap.size + 1, 2, none⟩ _) ⟨w.heap.size + 1, 3, none⟩ _) ⟨w.heap.size + 1, 4, none⟩ _) ⟨w.heap.size + 1, 5, none⟩ _) ⟨w.heap.size + 1, 6, none⟩ _) ⟨w.heap.size + 1, 7, none⟩ _ = wz
      have GZ : V4.grownBy wz (some (w.heap.size + 1)) := by rw [← hwz]; exact (((((((grown_set1 _ _ _ _).trans (grown_set1 _ _ _ _)).trans (grown_set1 _ _ _ _)).trans (grown_set1 _ _ _ _)).trans (grown_set1 _ _ _ _)).trans (grown_set1 _ _ _ _)).trans (grown_set1 _ _ _ _)).trans (grown_set1 _ _ _ _)
      have BZ : Below w.heap.size w wz := by rw [← hwz]; exact (bel_set (bel_set (bel_set (bel_set (bel_set (bel_set (bel_set (bel_set b0 _ (by show w.heap.size ≤ w.heap.size + 1; omega)) _ (by show w.heap.size ≤ w.heap.size + 1; omega)) _ (by show w.heap.size ≤ w.heap.size + 1; omega)) _ (by show w.heap.size ≤ w.heap.size + 1; omega)) _ (by show w.heap.size ≤ w.heap.size + 1; omega)) _ (by show w.heap.size ≤ w.heap.size + 1; omega)) _ (by show w.heap.size ≤ w.heap.size + 1; omega)) _ (by show w.heap.size ≤ w.heap.size + 1; omega))
      clear hwz
      try dsimp only
      rw [HR.out.2.2]
      exact ⟨P0, d0, P1, d1, P2, d2, rfl, R_else U0.out rfl GZ (Kd.R_ne U0.out F1.out (by decide)), R_else U1.out rfl GZ (Kd.R_ne U1.out F1.out (by decide)), R_else U2.out rfl GZ (Kd.R_ne U2.out F1.out (by decide)), BZ⟩

end Go.Proofs.YtoppgnmnbbhghaaGreatDoor
