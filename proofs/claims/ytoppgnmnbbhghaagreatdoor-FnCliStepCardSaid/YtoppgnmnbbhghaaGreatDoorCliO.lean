/- A client's outcomes, of the program: a contract. -/
import Derived.Test.YtoppgnmnbbhghaaGreatDoorCliC
namespace Go.Proofs.YtoppgnmnbbhghaaGreatDoor
open Go.RowKit Go.Proofs.YtoppgnmnbbhghaaGreatDoorW.PrintWords
set_option linter.unusedVariables false
set_option linter.unusedSimpArgs false

def cliOuts (c : SCli) : List Int := if cliOk c then becomes 3 [0, 1] c.f4 else []
theorem becomes_length (nv : Int) (fs xs : List Int) : (becomes nv fs xs).length = xs.length := by simp [becomes]
theorem becomes_step (nv : Int) (fs xs : List Int) (i : Nat) (h : i < xs.length) : becomes nv fs (xs.take (i + 1)) = becomes nv fs (xs.take i) ++ [if has fs (xs.getD i 0) then nv else xs.getD i 0] := by
  unfold becomes
  rw [List.take_succ_eq_append_getElem h, List.map_append, List.getD, List.getElem?_eq_getElem h]
  rfl
set_option maxRecDepth 100000 in
set_option maxHeartbeats 8000000 in
theorem cliOuts_any (c : SCli) (A0 : Option Addr) (c0 : Nat) (A1 : Option Addr) (c1 : Nat) (A2 : Option Addr) (c2 : Nat) (w : World) (hw : fitCli c) (hr0 : Kd.C kAddr w A0 c.f1.f1.length c.f1.f1) (hr1 : Kd.C Kd.string w A1 c.f1.f2.length c.f1.f2) (hr2 : Kd.C (Kd.int .i64) w A2 c.f4.length c.f4) (hG : Glob w) :
    Calls Tryz.prog 8 #[.agg #[.string c.f0, .string c.f1.f0.f0, .string c.f1.f0.f1, .slice A0 c.f1.f1.length c0, .slice A1 c.f1.f2.length c1, .int .i64 c.f2, .int .i64 c.f3, .slice A2 c.f4.length c2]] w fun e w' => ∃ B d, e = .returned (.slice B (cliOuts c).length d) ∧ Kd.R (Kd.int .i64) 3 w' w.heap.size (fun _ => True) (.slice B (cliOuts c).length d) (cliOuts c) ∧ Below w.heap.size w w' := by
  have hok := fun W (hW : Below w.heap.size w W) => cliOk_any c A0 c0 A1 c1 A2 c2 W hw (Kd.C_below hr0 hW) (Kd.C_below hr1 hW) (Kd.C_below hr2 hW) (hG.below hW)
  have hcp := fun W (hW : Below w.heap.size w W) => cliCopied_any c A0 c0 A1 c1 A2 c2 W hw (Kd.C_below hr0 hW) (Kd.C_below hr1 hW) (Kd.C_below hr2 hW)
  have hl4 := hw.2.2.2.2.1
  have HM := Lib.hid (show cliOuts c = if cliOk c then becomes 3 [0, 1] c.f4 else [] from rfl)
  clear hw hr0 hr1 hr2 hG
  generalize cliOuts c = M at HM
  generalize cliOk c = q at HM hok
  go_enter Tryz.func8, Tryz.ntmps8
  go_wp2_with fail
  obtain ⟨W0, hW0⟩ : ∃ W0, W0 = w.alloc (.cells #[.string c.f0, .string c.f1.f0.f0, .string c.f1.f0.f1, .slice A0 c.f1.f1.length c0, .slice A1 c.f1.f2.length c1, .int .i64 c.f2, .int .i64 c.f3, .slice A2 c.f4.length c2] 31) := ⟨_, rfl⟩
  rw [← hW0]
  have B0 : Below w.heap.size w W0 := by rw [hW0]; exact (Below.refl _ _).alloc (Nat.le_refl _) _
  have Z0 : w.heap.size < W0.heap.size := by rw [hW0]; simp
  have c0_ : W0.cell? ⟨w.heap.size, 0, none⟩ = some (.string c.f0) := by rw [hW0]; simp
  have c1_ : W0.cell? ⟨w.heap.size, 1, none⟩ = some (.string c.f1.f0.f0) := by rw [hW0]; simp
  have c2_ : W0.cell? ⟨w.heap.size, 2, none⟩ = some (.string c.f1.f0.f1) := by rw [hW0]; simp
  have c3_ : W0.cell? ⟨w.heap.size, 3, none⟩ = some (.slice A0 c.f1.f1.length c0) := by rw [hW0]; simp
  have c4_ : W0.cell? ⟨w.heap.size, 4, none⟩ = some (.slice A1 c.f1.f2.length c1) := by rw [hW0]; simp
  have c5_ : W0.cell? ⟨w.heap.size, 5, none⟩ = some (.int .i64 c.f2) := by rw [hW0]; simp
  have c6_ : W0.cell? ⟨w.heap.size, 6, none⟩ = some (.int .i64 c.f3) := by rw [hW0]; simp
  have c7_ : W0.cell? ⟨w.heap.size, 7, none⟩ = some (.slice A2 c.f4.length c2) := by rw [hW0]; simp
  have HC : Aside0 (∀ W, Below W0.heap.size W0 W → W.cell? ⟨w.heap.size, 0, none⟩ = some (.string c.f0) ∧ W.cell? ⟨w.heap.size, 1, none⟩ = some (.string c.f1.f0.f0) ∧ W.cell? ⟨w.heap.size, 2, none⟩ = some (.string c.f1.f0.f1) ∧ W.cell? ⟨w.heap.size, 3, none⟩ = some (.slice A0 c.f1.f1.length c0) ∧ W.cell? ⟨w.heap.size, 4, none⟩ = some (.slice A1 c.f1.f2.length c1) ∧ W.cell? ⟨w.heap.size, 5, none⟩ = some (.int .i64 c.f2) ∧ W.cell? ⟨w.heap.size, 6, none⟩ = some (.int .i64 c.f3) ∧ W.cell? ⟨w.heap.size, 7, none⟩ = some (.slice A2 c.f4.length c2)) := ⟨fun W h => ⟨(h.cell (p := ⟨w.heap.size, 0, none⟩) Z0).trans c0_, (h.cell (p := ⟨w.heap.size, 1, none⟩) Z0).trans c1_, (h.cell (p := ⟨w.heap.size, 2, none⟩) Z0).trans c2_, (h.cell (p := ⟨w.heap.size, 3, none⟩) Z0).trans c3_, (h.cell (p := ⟨w.heap.size, 4, none⟩) Z0).trans c4_, (h.cell (p := ⟨w.heap.size, 5, none⟩) Z0).trans c5_, (h.cell (p := ⟨w.heap.size, 6, none⟩) Z0).trans c6_, (h.cell (p := ⟨w.heap.size, 7, none⟩) Z0).trans c7_⟩⟩
  clear hW0 c0_ c1_ c2_ c3_ c4_ c5_ c6_ c7_
  have HB0 := Aside0.mk B0
  have hsz := B0.size
  clear B0
  obtain ⟨c0_, c1_, c2_, c3_, c4_, c5_, c6_, c7_⟩ := HC.out _ (Below.refl _ _)
  go_wp2_with fail
  refine (hok _ (bel_then HB0.out (Below.refl _ _))).mono ?_
  rintro e w1 ⟨rfl, b1⟩
  have B1 : Below W0.heap.size W0 w1 := b1
  clear c0_ c1_ c2_ c3_ c4_ c5_ c6_ c7_ hok b1
  obtain ⟨d0_, d1_, d2_, d3_, d4_, d5_, d6_, d7_⟩ := HC.out _ B1
  cases q
  · obtain rfl : M = [] := HM.out
    go_wp2
    go_ret
    exact ⟨none, 0, rfl, Kd.R_nil _ _ _ _ _, bel_then HB0.out B1⟩
  · obtain rfl : M = becomes 3 [0, 1] c.f4 := HM.out
    go_wp2_with fail
    refine (hcp _ (bel_then HB0.out B1)).mono ?_
    rintro e w2 ⟨B0, d0, B1_, d1, B2, d2, rfl, g0, g1, g2, b2⟩
    have BB2 : Below W0.heap.size W0 w2 := bel_then B1 b2
    have s2 := B1.size
    have U2 := Aside0.mk (Kd.R_lower (base' := w.heap.size) g2 (by omega))
    have hob := Aside0.mk (Kd.R_lt g2)
    clear d0_ d1_ d2_ d3_ d4_ d5_ d6_ d7_ g0 g1 g2 b2 hcp
    go_wp2_with fail
    generalize hV : World.alloc (World.alloc w2 _) _ = V
    have bV : Below w2.heap.size w2 V := by rw [← hV]; exact bel_alloc (bel_alloc (Below.refl _ _) _) _
    have F0 : V.heap[w2.heap.size]? = some (.cells #[.string c.f0, .string c.f1.f0.f0, .string c.f1.f0.f1, .slice B0 c.f1.f1.length d0, .slice B1_ c.f1.f2.length d1, .int .i64 c.f2, .int .i64 c.f3, .slice B2 c.f4.length d2] 31 (0, 0)) := by rw [← hV]; exact below_blk (blk_new _ _) (bel_alloc (Below.refl _ _) _)
    have RF : Kd.R (Kd.int .i64) 3 V w2.heap.size (fun _ => True) (.slice (some ⟨w2.heap.size + 1, 0, none⟩) 2 2) [0, 1] := by
      rw [← hV, show w2.heap.size + 1 = (w2.alloc (.cells #[.string c.f0, .string c.f1.f0.f0, .string c.f1.f0.f1, .slice B0 c.f1.f1.length d0, .slice B1_ c.f1.f2.length d1, .int .i64 c.f2, .int .i64 c.f3, .slice B2 c.f4.length d2] 31)).heap.size by simp]
      exact R_two (Kd.int .i64) 3 _ w2.heap.size 0 1 [.int .i64 0] [.int .i64 1] rfl rfl (by simp)
    clear hV
    have BV := bel_then BB2 bV
    have U3 := Kd.R_below U2.out bV
    have hbec := become_any w2.heap.size _ 31 c.f4.length d2 B2 c.f4 3 (some ⟨w2.heap.size + 1, 0, none⟩) 2 [0, 1] w.heap.size (fun _ => True) V F0 rfl U3 hl4 (Kd.R_reads' RF).2.2 (by decide) (fun ad e h => by
      injection e with e
      subst e
      have := hob.out _ h.symm
      simp at this
      omega) (fun h => by have := hob.out _ h.symm; omega)
    have f7 : V.cell? ⟨w2.heap.size, 7, none⟩ = some (.slice B2 c.f4.length d2) := by simp [World.cell?, F0]
    have lV := blk_lt F0
    have HF7 := Lib.hid f7
    have HBV := Aside0.mk BV
    clear U3 RF F0 bV BV f7 U2 B1
    refine hbec.mono ?_
    rintro e w3 ⟨⟨ve, rfl⟩, r3, g3⟩
    have y7 : w3.cell? ⟨w2.heap.size, 7, none⟩ = some (.slice B2 c.f4.length d2) := (World.cell?_of_block (g3.block w2.heap.size lV (fun h => by have := hob.out _ h.symm; omega))).trans HF7.out
    have B3 : Below w.heap.size w w3 := bel_grown (bel_then HB0.out HBV.out) g3 (bel_then HB0.out HBV.out).size (fun q hq => Kd.R_base r3 _ hq)
    have R3 := Aside0.mk r3
    have HB3 := Aside0.mk B3
    clear hbec r3 g3 B3
    go_wp2
    go_ret
    rw [becomes_length]
    exact ⟨B2, d2, rfl, R3.out, HB3.out⟩

end Go.Proofs.YtoppgnmnbbhghaaGreatDoor
