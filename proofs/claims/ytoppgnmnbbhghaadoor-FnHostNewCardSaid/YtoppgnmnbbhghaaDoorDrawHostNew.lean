/- A drawn host, of bytes: a contract. -/
import Derived.Test.YtoppgnmnbbhghaaDoorDrwConfA
import Derived.Test.YtoppgnmnbbhghaaDoorDrwOpen
namespace Go.Proofs.YtoppgnmnbbhghaaDoor
open Go.RowKit Go.Proofs.YtoppgnmnbbhghaaDoorW.PrintWords
set_option linter.unusedVariables false
set_option linter.unusedSimpArgs false
set_option maxRecDepth 100000 in
set_option maxHeartbeats 2000000 in
theorem drawHostNew_any (A : Option Addr) (c : Nat) (xs : List Int) (w : World) (hw : fitBytes xs) (hc : xs.length ≤ c) (hr : Kd.C (Kd.int .u8) w A xs.length xs) :
    Calls Tryd.prog 11 #[.slice A xs.length c] w fun e w' => ∃ (x : SConf) (A0 : Option Addr) (c0 : Nat) (A1 : Option Addr) (c1 : Nat), e = .returned (.agg #[.string x.f0, .slice A0 x.f1.length c0, .slice A1 x.f2.length c1]) ∧ midConf x ∧ Kd.R Kd.string 9 w' w.heap.size (fun _ => True) (.slice A0 x.f1.length c0) x.f1 ∧ Kd.R kWay 102 w' w.heap.size (fun _ => True) (.slice A1 x.f2.length c1) x.f2 ∧ Below w.heap.size w w' := by
  have ho := fun W (hW : Below w.heap.size w W) => drOpen_any A c xs W hw hc (Kd.C_below hr hW)
  clear hw hc hr
  generalize xs.length = L at ho
  go_enter Tryd.func11, Tryd.ntmps11
  go_wp2_with fail
  refine Calls.mono (ho _ (bel_alloc (Below.refl _ _) _)) ?_
  rintro e w1 ⟨g, rfl, hg, hR, b1⟩
  have hg1 : w.heap.size < g := by simp at hg; omega
  have F0 := below_blk (blk_new w (.cells #[.string ⟨#[]⟩, .slice none 0 0, .slice none 0 0] 26)) b1
  have B1 : Below w.heap.size w w1 := bel_then (bel_alloc (Below.refl _ _) _) b1
  clear ho b1 hg
  go_wp2_with fail
  refine Calls.mono (drAnyConf_any g 0 w1 hR (by omega)) ?_
  rintro e w2 ⟨x, A0, c0, A1, c1, rfl, hf, r0, r1, hr2, hd⟩
  have F0 := hd.blk F0 (by omega)
  have B2 : Below w.heap.size w w2 := B1.trans (hd.bel (by omega) B1.size)
  have Z := Lib.hid (⟨F0, B1, B2, hf, r0, r1⟩ : _ ∧ _ ∧ _ ∧ _ ∧ _ ∧ _)
  have cF0_0 : w2.cell? ⟨w.heap.size, 0, none⟩ = some (.string ⟨#[]⟩) := by simp [World.cell?, F0]
  have cF0_1 : w2.cell? ⟨w.heap.size, 1, none⟩ = some (.slice none 0 0) := by simp [World.cell?, F0]
  have cF0_2 : w2.cell? ⟨w.heap.size, 2, none⟩ = some (.slice none 0 0) := by simp [World.cell?, F0]
  have dF0_0 : w2.frozen? ⟨w.heap.size, 0, none⟩ = false := by simp [World.frozen?, F0]
  have dF0_1 : w2.frozen? ⟨w.heap.size, 1, none⟩ = false := by simp [World.frozen?, F0]
  have dF0_2 : w2.frozen? ⟨w.heap.size, 2, none⟩ = false := by simp [World.frozen?, F0]
  clear hR hr2 hd hf F0 B1 B2 r0 r1
  go_wp2
  obtain ⟨F0, B1, B2, hf, r0, r1⟩ := Z.out
  refine bodyPost_ret (v := .agg #[.string x.f0, .slice A0 x.f1.length c0, .slice A1 x.f2.length c1]) ?hr rfl ?hp
  case hr => simp [results, Tryd.results11, go_sem, cF0_0, cF0_1, cF0_2]
  case hp => exact ⟨x, A0, c0, A1, c1, rfl, hf, (by have r_ := Kd.R_lower (base' := w.heap.size) r0 B1.size; have ne_ := Kd.R_ne r_ F0 (by decide); (with_reducible repeat (first | exact r_ | refine R_put1 ?_ rfl ne_))), (by have r_ := Kd.R_lower (base' := w.heap.size) r1 B1.size; have ne_ := Kd.R_ne r_ F0 (by decide); (with_reducible repeat (first | exact r_ | refine R_put1 ?_ rfl ne_))), (by (with_reducible repeat (first | exact B2 | refine bel_set ?_ _ (Nat.le_refl _))))⟩

end Go.Proofs.YtoppgnmnbbhghaaDoor
