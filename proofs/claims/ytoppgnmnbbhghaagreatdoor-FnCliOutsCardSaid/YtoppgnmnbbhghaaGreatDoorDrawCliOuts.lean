/- A drawn client, of bytes: a contract. -/
import Derived.Test.YtoppgnmnbbhghaaGreatDoorDrwC
import Derived.Test.YtoppgnmnbbhghaaGreatDoorDrw0
namespace Go.Proofs.YtoppgnmnbbhghaaGreatDoor
open Go.RowKit Go.Proofs.YtoppgnmnbbhghaaGreatDoorW.PrintWords
set_option linter.unusedVariables false
set_option linter.unusedSimpArgs false
set_option maxRecDepth 100000 in
set_option maxHeartbeats 2000000 in
theorem drawCliOuts_any (A : Option Addr) (c : Nat) (xs : List Int) (w : World) (hw : fitBytes xs) (hc : xs.length ≤ c) (hr : Kd.C (Kd.int .u8) w A xs.length xs) :
    Calls Tryz.prog 7 #[.slice A xs.length c] w fun e w' => ∃ (x : SCli) (A0 : Option Addr) (c0 : Nat) (A1 : Option Addr) (c1 : Nat) (A2 : Option Addr) (c2 : Nat), e = .returned (.agg #[.string x.f0, .string x.f1.f0.f0, .string x.f1.f0.f1, .slice A0 x.f1.f1.length c0, .slice A1 x.f1.f2.length c1, .int .i64 x.f2, .int .i64 x.f3, .slice A2 x.f4.length c2]) ∧ fitCli x ∧ Kd.R kAddr 24 w' w.heap.size (fun _ => True) (.slice A0 x.f1.f1.length c0) x.f1.f1 ∧ Kd.R Kd.string 9 w' w.heap.size (fun _ => True) (.slice A1 x.f1.f2.length c1) x.f1.f2 ∧ Kd.R (Kd.int .i64) 3 w' w.heap.size (fun _ => True) (.slice A2 x.f4.length c2) x.f4 ∧ Below w.heap.size w w' := by
  have ho := fun W (hW : Below w.heap.size w W) => drOpen_any A c xs W hw hc (Kd.C_below hr hW)
  clear hw hc hr
  generalize xs.length = L at ho
  go_enter Tryz.func7, Tryz.ntmps7
  go_wp2_with fail
  refine Calls.mono (ho _ (bel_alloc (Below.refl _ _) _)) ?_
  rintro e w1 ⟨g, rfl, hg, hR, b1⟩
  have hg1 : w.heap.size < g := by simp at hg; omega
  have F0 := below_blk (blk_new w (.cells #[.string ⟨#[]⟩, .string ⟨#[]⟩, .string ⟨#[]⟩, .slice none 0 0, .slice none 0 0, .int .i64 0, .int .i64 0, .slice none 0 0] 31)) b1
  have B1 : Below w.heap.size w w1 := bel_then (bel_alloc (Below.refl _ _) _) b1
  clear ho b1 hg
  go_wp2_with fail
  refine Calls.mono (drAnyCli_any g 0 w1 hR (by omega)) ?_
  rintro e w2 ⟨x, A0, c0, A1, c1, A2, c2, rfl, hf, r0, r1, r2, hr2, hd⟩
  have F0 := hd.blk F0 (by omega)
  have B2 : Below w.heap.size w w2 := B1.trans (hd.bel (by omega) B1.size)
  have Z := Lib.hid (⟨F0, B1, B2, hf, r0, r1, r2⟩ : _ ∧ _ ∧ _ ∧ _ ∧ _ ∧ _ ∧ _)
  have cF0_0 : w2.cell? ⟨w.heap.size, 0, none⟩ = some (.string ⟨#[]⟩) := by simp [World.cell?, F0]
  have cF0_1 : w2.cell? ⟨w.heap.size, 1, none⟩ = some (.string ⟨#[]⟩) := by simp [World.cell?, F0]
  have cF0_2 : w2.cell? ⟨w.heap.size, 2, none⟩ = some (.string ⟨#[]⟩) := by simp [World.cell?, F0]
  have cF0_3 : w2.cell? ⟨w.heap.size, 3, none⟩ = some (.slice none 0 0) := by simp [World.cell?, F0]
  have cF0_4 : w2.cell? ⟨w.heap.size, 4, none⟩ = some (.slice none 0 0) := by simp [World.cell?, F0]
  have cF0_5 : w2.cell? ⟨w.heap.size, 5, none⟩ = some (.int .i64 0) := by simp [World.cell?, F0]
  have cF0_6 : w2.cell? ⟨w.heap.size, 6, none⟩ = some (.int .i64 0) := by simp [World.cell?, F0]
  have cF0_7 : w2.cell? ⟨w.heap.size, 7, none⟩ = some (.slice none 0 0) := by simp [World.cell?, F0]
  have dF0_0 : w2.frozen? ⟨w.heap.size, 0, none⟩ = false := by simp [World.frozen?, F0]
  have dF0_1 : w2.frozen? ⟨w.heap.size, 1, none⟩ = false := by simp [World.frozen?, F0]
  have dF0_2 : w2.frozen? ⟨w.heap.size, 2, none⟩ = false := by simp [World.frozen?, F0]
  have dF0_3 : w2.frozen? ⟨w.heap.size, 3, none⟩ = false := by simp [World.frozen?, F0]
  have dF0_4 : w2.frozen? ⟨w.heap.size, 4, none⟩ = false := by simp [World.frozen?, F0]
  have dF0_5 : w2.frozen? ⟨w.heap.size, 5, none⟩ = false := by simp [World.frozen?, F0]
  have dF0_6 : w2.frozen? ⟨w.heap.size, 6, none⟩ = false := by simp [World.frozen?, F0]
  have dF0_7 : w2.frozen? ⟨w.heap.size, 7, none⟩ = false := by simp [World.frozen?, F0]
  clear hR hr2 hd hf F0 B1 B2 r0 r1 r2
  go_wp2
  obtain ⟨F0, B1, B2, hf, r0, r1, r2⟩ := Z.out
  refine bodyPost_ret (v := .agg #[.string x.f0, .string x.f1.f0.f0, .string x.f1.f0.f1, .slice A0 x.f1.f1.length c0, .slice A1 x.f1.f2.length c1, .int .i64 x.f2, .int .i64 x.f3, .slice A2 x.f4.length c2]) ?hr rfl ?hp
  case hr => simp [results, Tryz.results7, go_sem, cF0_0, cF0_1, cF0_2, cF0_3, cF0_4, cF0_5, cF0_6, cF0_7]
  case hp => exact ⟨x, A0, c0, A1, c1, A2, c2, rfl, hf, (by have r_ := Kd.R_lower (base' := w.heap.size) r0 B1.size; have ne_ := Kd.R_ne r_ F0 (by decide); (with_reducible repeat (first | exact r_ | refine R_put1 ?_ rfl ne_))), (by have r_ := Kd.R_lower (base' := w.heap.size) r1 B1.size; have ne_ := Kd.R_ne r_ F0 (by decide); (with_reducible repeat (first | exact r_ | refine R_put1 ?_ rfl ne_))), (by have r_ := Kd.R_lower (base' := w.heap.size) r2 B1.size; have ne_ := Kd.R_ne r_ F0 (by decide); (with_reducible repeat (first | exact r_ | refine R_put1 ?_ rfl ne_))), (by (with_reducible repeat (first | exact B2 | refine bel_set ?_ _ (Nat.le_refl _))))⟩

end Go.Proofs.YtoppgnmnbbhghaaGreatDoor
