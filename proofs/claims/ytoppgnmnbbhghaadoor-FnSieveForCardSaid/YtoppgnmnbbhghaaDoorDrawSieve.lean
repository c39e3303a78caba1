/- Drawn rules, drawn rules and a mail, of bytes: contracts. -/
import Derived.Test.YtoppgnmnbbhghaaDoorDrwAnyM
import Derived.Test.YtoppgnmnbbhghaaDoorDrwOpen
namespace Go.Proofs.YtoppgnmnbbhghaaDoor
open Go.RowKit Go.Proofs.YtoppgnmnbbhghaaDoorW.PrintWords
set_option linter.unusedVariables false
set_option linter.unusedSimpArgs false
set_option maxRecDepth 100000 in
set_option maxHeartbeats 2000000 in
theorem drawSieveTidy_any (A : Option Addr) (c : Nat) (xs : List Int) (w : World) (hw : fitBytes xs) (hc : xs.length ≤ c) (hr : Kd.C (Kd.int .u8) w A xs.length xs) :
    Calls Tryd.prog 30 #[.slice A xs.length c] w fun e w' => ∃ (ys : List SRule) (B : Option Addr) (d : Nat), e = .returned (.slice B ys.length d) ∧ (ys.length ≤ 5 ∧ ∀ y ∈ ys, smallR y) ∧ Kd.R kRule 79 w' w.heap.size (fun _ => True) (.slice B ys.length d) ys ∧ Below w.heap.size w w' := by
  have ho := fun W (hW : Below w.heap.size w W) => drOpen_any A c xs W hw hc (Kd.C_below hr hW)
  clear hw hc hr
  generalize xs.length = L at ho
  go_enter Tryd.func30, Tryd.ntmps30
  go_wp2_with fail
  refine Calls.mono (ho _ (Below.refl _ _)) ?_
  rintro e w1 ⟨g, rfl, hg, hR, b1⟩
  clear ho
  go_wp2_with fail
  refine Calls.mono (drSieve_any g 0 w1 hR (by omega)) ?_
  rintro e w2 ⟨ys, B, d, rfl, hs, hr, hr2, hd⟩
  go_wp2
  go_ret
  exact ⟨ys, B, d, rfl, hs, Kd.R_lower (base' := w.heap.size) hr b1.size, b1.trans (hd.bel hg b1.size)⟩

set_option maxRecDepth 100000 in
set_option maxHeartbeats 2000000 in
theorem drawSieveFor_any (A : Option Addr) (c : Nat) (xs : List Int) (w : World) (hw : fitBytes xs) (hc : xs.length ≤ c) (hr : Kd.C (Kd.int .u8) w A xs.length xs) :
    Calls Tryd.prog 24 #[.slice A xs.length c] w fun e w' => ∃ (ys : List SRule) (B : Option Addr) (d : Nat) (x : SMail) (A0 : Option Addr) (c0 : Nat) (A1 : Option Addr) (c1 : Nat), e = .returned (.tuple #[.slice B ys.length d, .agg #[.string x.f0.f0, .string x.f0.f1, .slice A0 x.f1.length c0, .slice A1 x.f2.length c1]]) ∧ (ys.length ≤ 5 ∧ ∀ y ∈ ys, smallR y) ∧ Kd.R kRule 79 w' w.heap.size (fun _ => True) (.slice B ys.length d) ys ∧ midM x ∧ Kd.R kAddr 49 w' w.heap.size (fun _ => True) (.slice A0 x.f1.length c0) x.f1 ∧ Kd.R Kd.string 9 w' w.heap.size (fun _ => True) (.slice A1 x.f2.length c1) x.f2 ∧ Below w.heap.size w w' := by
  have ho := fun W (hW : Below w.heap.size w W) => drOpen_any A c xs W hw hc (Kd.C_below hr hW)
  clear hw hc hr
  generalize xs.length = L at ho
  go_enter Tryd.func24, Tryd.ntmps24
  go_wp2_with fail
  refine Calls.mono (ho _ (bel_alloc (Below.refl _ _) _)) ?_
  rintro e w1 ⟨g, rfl, hg, hR, b1⟩
  have hg1 : w.heap.size < g := by simp at hg; omega
  have f0 := below_blk (blk_new w (.cells #[.string ⟨#[]⟩, .string ⟨#[]⟩, .slice none 0 0, .slice none 0 0] 58)) b1
  have B1 : Below w.heap.size w w1 := bel_then (bel_alloc (Below.refl _ _) _) b1
  have hgl : g < w1.heap.size := hR.lt
  clear ho b1 hg
  go_wp2_with fail
  refine Calls.mono (drSieve_any g 0 w1 hR (by omega)) ?_
  rintro e w2 ⟨ys, B, d, rfl, hs, hq, hR2, hd⟩
  have f0 := hd.blk f0 (by omega)
  have B2 : Below w.heap.size w w2 := B1.trans (hd.bel (by omega) B1.size)
  have hw12 := hd.size
  clear hd hR
  go_wp2_with fail
  refine Calls.mono (drAnyMail_any g _ w2 hR2 (by omega)) ?_
  rintro e w3 ⟨x, A0, c0, A1, c1, rfl, hm1, r0, r1, hR3, hd⟩
  have f0 := hd.blk f0 (by omega)
  have hq := hd.R hq hgl
  have B3 : Below w.heap.size w w3 := B2.trans (hd.bel (by omega) B2.size)
  have SZ1 := B1.size
  have SZ2 := B2.size
  have Z := Lib.hid (⟨f0, hq, r0, r1, hs, hm1, B3⟩ : _ ∧ _ ∧ _ ∧ _ ∧ _ ∧ _ ∧ _)
  obtain ⟨cF0_0, cF0_1, cF0_2, cF0_3⟩ := cells4 f0
  obtain ⟨dF0_0, dF0_1, dF0_2, dF0_3⟩ := froz4 f0
  clear hd hR2 hR3 f0 hq r0 r1 hs hm1 B1 B2 B3
  go_wp2
  obtain ⟨f0, hq, r0, r1, hs, hm1, B3⟩ := Z.out
  refine bodyPost_ret (v := .tuple #[.slice B ys.length d, .agg #[.string x.f0.f0, .string x.f0.f1, .slice A0 x.f1.length c0, .slice A1 x.f2.length c1]]) ?hr rfl ?hp
  case hr => simp [results, Tryd.results24, go_sem, cF0_0, cF0_1, cF0_2, cF0_3]
  case hp => exact ⟨ys, B, d, x, A0, c0, A1, c1, rfl, hs, (by have r_ := Kd.R_lower (base' := w.heap.size) hq SZ1; have ne_ := Kd.R_ne r_ f0 (by decide); (with_reducible repeat (first | exact r_ | refine R_put1 ?_ rfl ne_))), hm1, (by have r_ := Kd.R_lower (base' := w.heap.size) r0 SZ2; have ne_ := Kd.R_ne r_ f0 (by decide); (with_reducible repeat (first | exact r_ | refine R_put1 ?_ rfl ne_))), (by have r_ := Kd.R_lower (base' := w.heap.size) r1 SZ2; have ne_ := Kd.R_ne r_ f0 (by decide); (with_reducible repeat (first | exact r_ | refine R_put1 ?_ rfl ne_))), (by (with_reducible repeat (first | exact B3 | refine bel_set ?_ _ (Nat.le_refl _))))⟩

end Go.Proofs.YtoppgnmnbbhghaaDoor
