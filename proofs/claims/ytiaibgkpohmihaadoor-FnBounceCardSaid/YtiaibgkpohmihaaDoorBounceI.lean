/- BounceOf of the program: a contract. -/
import Derived.Test.YtiaibgkpohmihaaDoorReg
import Derived.Test.YtiaibgkpohmihaaDoorBounceD
import Derived.Test.YtiaibgkpohmihaaDoorBlk
namespace Go.Proofs.YtiaibgkpohmihaaDoor
open Go.RowKit Go.Proofs.YtiaibgkpohmihaaDoorW.PrintWords
set_option linter.unusedVariables false
set_option linter.unusedSimpArgs false

def zMailS : SMail := ⟨⟨⟨#[]⟩, ⟨#[]⟩⟩, [], []⟩
def bounceOk (x : SItem) (a : SAddr) : Bool := !(nul x.f1.f0.data.toList x.f1.f1.data.toList) && (addrS a && itemOk x)
def bounce (x : SItem) (a : SAddr) : SMail := if bounceOk x a then ⟨⟨⟨#[]⟩, ⟨#[]⟩⟩, [x.f1], [⟨#[110, 111, 116, 32, 100, 101, 108, 105, 118, 101, 114, 101, 100, 58]⟩, textS a.f0 a.f1] ++ if markOf x.f3 = ⟨#[]⟩ then [] else [markOf x.f3]⟩ else zMailS
set_option maxRecDepth 100000 in
set_option maxHeartbeats 8000000 in
theorem bounceOf_any (x : SItem) (A0 : Option Addr) (c0 : Nat) (A1 : Option Addr) (c1 : Nat) (a : SAddr) (w : World) (hw : fitItem x) (ha : fitAddr a) (hr0 : Kd.C kRcpt w A0 x.f2.length x.f2) (hr1 : Kd.C Kd.string w A1 x.f3.length x.f3) (hG : Glob w) :
  Calls Tryd.prog 7 #[.agg #[.int .i64 x.f0, .string x.f1.f0, .string x.f1.f1, .slice A0 x.f2.length c0, .slice A1 x.f3.length c1], .agg #[.string a.f0, .string a.f1]] w fun e w' => ∃ B d C f, e = .returned (.tuple #[.agg #[.string (bounce x a).f0.f0, .string (bounce x a).f0.f1, .slice B (bounce x a).f1.length d, .slice C (bounce x a).f2.length f], .bool (bounceOk x a)]) ∧ Kd.R kAddr 24 w' w.heap.size (fun _ => True) (.slice B (bounce x a).f1.length d) (bounce x a).f1 ∧ Kd.R Kd.string 9 w' w.heap.size (fun _ => True) (.slice C (bounce x a).f2.length f) (bounce x a).f2 ∧ Below w.heap.size w w' := by
 have h1 := fun W => null_any x.f1.f0 x.f1.f1 W
 have h2 := fun W (hW : Below w.heap.size w W) => AddrOk_any a.f0 a.f1 W (by have := ha.1; omega) (by have := ha.2; omega) (hG.below hW)
 have h3 := fun W (hW : Below w.heap.size w W) => itemRight_any x A0 c0 A1 c1 W hw (Kd.C_below hr0 hW) (Kd.C_below hr1 hW) (hG.below hW)
 have htext := fun W => text_any a.f0 a.f1 W ha.1 ha.2
 have hmark := fun W (hW : Below w.heap.size w W) => mark_any A1 c1 x.f3 W (Kd.C_below hr1 hW) hw.2.2.2.1
 clear hr0 hr1
 have HO := Lib.hid (show bounceOk x a = (!(nul x.f1.f0.data.toList x.f1.f1.data.toList) && (addr a.f0.data.toList a.f1.data.toList && itemOk x)) from rfl)
 have HM := Lib.hid (show bounce x a = if bounceOk x a then ⟨⟨⟨#[]⟩, ⟨#[]⟩⟩, [x.f1], [⟨#[110, 111, 116, 32, 100, 101, 108, 105, 118, 101, 114, 101, 100, 58]⟩, textS a.f0 a.f1] ++ if markOf x.f3 = ⟨#[]⟩ then [] else [markOf x.f3]⟩ else zMailS from rfl)
 generalize bounce x a = M at HM
 generalize bounceOk x a = q at HM HO
 generalize nul x.f1.f0.data.toList x.f1.f1.data.toList = q1 at h1 HO
 generalize addr a.f0.data.toList a.f1.data.toList = q2 at h2 HO
 generalize itemOk x = q3 at h3 HO
 go_enter Tryd.func7, Tryd.ntmps7
 go_wp2_with fail
 obtain ⟨W0, hW0⟩ : ∃ W0, W0 = (((w.alloc (.cells #[.int .i64 x.f0, .string x.f1.f0, .string x.f1.f1, .slice A0 x.f2.length c0, .slice A1 x.f3.length c1] 28)).alloc (.cells #[.string a.f0, .string a.f1] 24)).alloc (.cells #[.string ⟨#[]⟩, .string ⟨#[]⟩, .slice none 0 0, .slice none 0 0] 33)) := ⟨_, rfl⟩
 rw [← hW0]
 have B0 : Below w.heap.size w W0 := by rw [hW0]; exact (bel_alloc (bel_alloc (bel_alloc (Below.refl _ _) _) _) _)
 have Z0 : w.heap.size < W0.heap.size := by rw [hW0]; simp; try omega
 have c0_ : W0.cell? ⟨w.heap.size, 0, none⟩ = some (.int .i64 x.f0) := by rw [hW0]; first | (simp; done) | (rw [World.cell?_alloc_lt _ _ _ (by first | (simp; done) | (simp; omega))]; first | (simp; done) | (rw [World.cell?_alloc_lt _ _ _ (by first | (simp; done) | (simp; omega))]; simp))
 have c1_ : W0.cell? ⟨w.heap.size, 1, none⟩ = some (.string x.f1.f0) := by rw [hW0]; first | (simp; done) | (rw [World.cell?_alloc_lt _ _ _ (by first | (simp; done) | (simp; omega))]; first | (simp; done) | (rw [World.cell?_alloc_lt _ _ _ (by first | (simp; done) | (simp; omega))]; simp))
 have c2_ : W0.cell? ⟨w.heap.size, 2, none⟩ = some (.string x.f1.f1) := by rw [hW0]; first | (simp; done) | (rw [World.cell?_alloc_lt _ _ _ (by first | (simp; done) | (simp; omega))]; first | (simp; done) | (rw [World.cell?_alloc_lt _ _ _ (by first | (simp; done) | (simp; omega))]; simp))
 have c3_ : W0.cell? ⟨w.heap.size, 3, none⟩ = some (.slice A0 x.f2.length c0) := by rw [hW0]; first | (simp; done) | (rw [World.cell?_alloc_lt _ _ _ (by first | (simp; done) | (simp; omega))]; first | (simp; done) | (rw [World.cell?_alloc_lt _ _ _ (by first | (simp; done) | (simp; omega))]; simp))
 have c4_ : W0.cell? ⟨w.heap.size, 4, none⟩ = some (.slice A1 x.f3.length c1) := by rw [hW0]; first | (simp; done) | (rw [World.cell?_alloc_lt _ _ _ (by first | (simp; done) | (simp; omega))]; first | (simp; done) | (rw [World.cell?_alloc_lt _ _ _ (by first | (simp; done) | (simp; omega))]; simp))
 have Z1 : w.heap.size + 1 < W0.heap.size := by rw [hW0]; simp; try omega
 have c5_ : W0.cell? ⟨w.heap.size + 1, 0, none⟩ = some (.string a.f0) := by rw [hW0]; first | (simp; done) | (rw [World.cell?_alloc_lt _ _ _ (by first | (simp; done) | (simp; omega))]; first | (simp; done) | (rw [World.cell?_alloc_lt _ _ _ (by first | (simp; done) | (simp; omega))]; simp))
 have c6_ : W0.cell? ⟨w.heap.size + 1, 1, none⟩ = some (.string a.f1) := by rw [hW0]; first | (simp; done) | (rw [World.cell?_alloc_lt _ _ _ (by first | (simp; done) | (simp; omega))]; first | (simp; done) | (rw [World.cell?_alloc_lt _ _ _ (by first | (simp; done) | (simp; omega))]; simp))
 have Z2 : w.heap.size + 1 + 1 < W0.heap.size := by rw [hW0]; simp; try omega
 have c7_ : W0.cell? ⟨w.heap.size + 1 + 1, 0, none⟩ = some (.string ⟨#[]⟩) := by rw [hW0, show w.heap.size + 1 + 1 = ((w.alloc (.cells #[.int .i64 x.f0, .string x.f1.f0, .string x.f1.f1, .slice A0 x.f2.length c0, .slice A1 x.f3.length c1] 28)).alloc (.cells #[.string a.f0, .string a.f1] 24)).heap.size by simp]; exact cell_new _ _ _ 0 _ rfl
 have c8_ : W0.cell? ⟨w.heap.size + 1 + 1, 1, none⟩ = some (.string ⟨#[]⟩) := by rw [hW0, show w.heap.size + 1 + 1 = ((w.alloc (.cells #[.int .i64 x.f0, .string x.f1.f0, .string x.f1.f1, .slice A0 x.f2.length c0, .slice A1 x.f3.length c1] 28)).alloc (.cells #[.string a.f0, .string a.f1] 24)).heap.size by simp]; exact cell_new _ _ _ 1 _ rfl
 have c9_ : W0.cell? ⟨w.heap.size + 1 + 1, 2, none⟩ = some (.slice none 0 0) := by rw [hW0, show w.heap.size + 1 + 1 = ((w.alloc (.cells #[.int .i64 x.f0, .string x.f1.f0, .string x.f1.f1, .slice A0 x.f2.length c0, .slice A1 x.f3.length c1] 28)).alloc (.cells #[.string a.f0, .string a.f1] 24)).heap.size by simp]; exact cell_new _ _ _ 2 _ rfl
 have c10_ : W0.cell? ⟨w.heap.size + 1 + 1, 3, none⟩ = some (.slice none 0 0) := by rw [hW0, show w.heap.size + 1 + 1 = ((w.alloc (.cells #[.int .i64 x.f0, .string x.f1.f0, .string x.f1.f1, .slice A0 x.f2.length c0, .slice A1 x.f3.length c1] 28)).alloc (.cells #[.string a.f0, .string a.f1] 24)).heap.size by simp]; exact cell_new _ _ _ 3 _ rfl
 have c11_ : W0.frozen? ⟨w.heap.size + 1 + 1, 0, none⟩ = false := by rw [hW0, show w.heap.size + 1 + 1 = ((w.alloc (.cells #[.int .i64 x.f0, .string x.f1.f0, .string x.f1.f1, .slice A0 x.f2.length c0, .slice A1 x.f3.length c1] 28)).alloc (.cells #[.string a.f0, .string a.f1] 24)).heap.size by simp]; exact frozen_new _ _ _ _
 have c12_ : W0.frozen? ⟨w.heap.size + 1 + 1, 1, none⟩ = false := by rw [hW0, show w.heap.size + 1 + 1 = ((w.alloc (.cells #[.int .i64 x.f0, .string x.f1.f0, .string x.f1.f1, .slice A0 x.f2.length c0, .slice A1 x.f3.length c1] 28)).alloc (.cells #[.string a.f0, .string a.f1] 24)).heap.size by simp]; exact frozen_new _ _ _ _
 have c13_ : W0.frozen? ⟨w.heap.size + 1 + 1, 2, none⟩ = false := by rw [hW0, show w.heap.size + 1 + 1 = ((w.alloc (.cells #[.int .i64 x.f0, .string x.f1.f0, .string x.f1.f1, .slice A0 x.f2.length c0, .slice A1 x.f3.length c1] 28)).alloc (.cells #[.string a.f0, .string a.f1] 24)).heap.size by simp]; exact frozen_new _ _ _ _
 have c14_ : W0.frozen? ⟨w.heap.size + 1 + 1, 3, none⟩ = false := by rw [hW0, show w.heap.size + 1 + 1 = ((w.alloc (.cells #[.int .i64 x.f0, .string x.f1.f0, .string x.f1.f1, .slice A0 x.f2.length c0, .slice A1 x.f3.length c1] 28)).alloc (.cells #[.string a.f0, .string a.f1] 24)).heap.size by simp]; exact frozen_new _ _ _ _
 have HC : Aside0 (∀ W, Below W0.heap.size W0 W → W.cell? ⟨w.heap.size, 0, none⟩ = some (.int .i64 x.f0) ∧ W.cell? ⟨w.heap.size, 1, none⟩ = some (.string x.f1.f0) ∧ W.cell? ⟨w.heap.size, 2, none⟩ = some (.string x.f1.f1) ∧ W.cell? ⟨w.heap.size, 3, none⟩ = some (.slice A0 x.f2.length c0) ∧ W.cell? ⟨w.heap.size, 4, none⟩ = some (.slice A1 x.f3.length c1) ∧ W.cell? ⟨w.heap.size + 1, 0, none⟩ = some (.string a.f0) ∧ W.cell? ⟨w.heap.size + 1, 1, none⟩ = some (.string a.f1) ∧ W.cell? ⟨w.heap.size + 1 + 1, 0, none⟩ = some (.string ⟨#[]⟩) ∧ W.cell? ⟨w.heap.size + 1 + 1, 1, none⟩ = some (.string ⟨#[]⟩) ∧ W.cell? ⟨w.heap.size + 1 + 1, 2, none⟩ = some (.slice none 0 0) ∧ W.cell? ⟨w.heap.size + 1 + 1, 3, none⟩ = some (.slice none 0 0) ∧ W.frozen? ⟨w.heap.size + 1 + 1, 0, none⟩ = false ∧ W.frozen? ⟨w.heap.size + 1 + 1, 1, none⟩ = false ∧ W.frozen? ⟨w.heap.size + 1 + 1, 2, none⟩ = false ∧ W.frozen? ⟨w.heap.size + 1 + 1, 3, none⟩ = false) := ⟨fun W h => ⟨(h.cell (p := ⟨w.heap.size, 0, none⟩) Z0).trans c0_, (h.cell (p := ⟨w.heap.size, 1, none⟩) Z0).trans c1_, (h.cell (p := ⟨w.heap.size, 2, none⟩) Z0).trans c2_, (h.cell (p := ⟨w.heap.size, 3, none⟩) Z0).trans c3_, (h.cell (p := ⟨w.heap.size, 4, none⟩) Z0).trans c4_, (h.cell (p := ⟨w.heap.size + 1, 0, none⟩) Z1).trans c5_, (h.cell (p := ⟨w.heap.size + 1, 1, none⟩) Z1).trans c6_, (h.cell (p := ⟨w.heap.size + 1 + 1, 0, none⟩) Z2).trans c7_, (h.cell (p := ⟨w.heap.size + 1 + 1, 1, none⟩) Z2).trans c8_, (h.cell (p := ⟨w.heap.size + 1 + 1, 2, none⟩) Z2).trans c9_, (h.cell (p := ⟨w.heap.size + 1 + 1, 3, none⟩) Z2).trans c10_, (h.frozen (p := ⟨w.heap.size + 1 + 1, 0, none⟩) Z2).trans c11_, (h.frozen (p := ⟨w.heap.size + 1 + 1, 1, none⟩) Z2).trans c12_, (h.frozen (p := ⟨w.heap.size + 1 + 1, 2, none⟩) Z2).trans c13_, (h.frozen (p := ⟨w.heap.size + 1 + 1, 3, none⟩) Z2).trans c14_⟩⟩
 clear hW0 c0_ c1_ c2_ c3_ c4_ c5_ c6_ c7_ c8_ c9_ c10_ c11_ c12_ c13_ c14_
 have HB0 := Aside0.mk B0
 have hsz := B0.size
 clear B0
 cases q1
 ·cases q2
  ·obtain rfl : q = false := HO.out
   obtain rfl : M = zMailS := HM.out
   go_wp2_with (first | (go_at_call 29; refine (h1 _).mono ?_; rintro e w1 ⟨rfl, b1⟩; have B1 : Below W0.heap.size W0 w1 := bel_then (by (with_reducible repeat (first | exact (Below.refl _ _) | refine bel_alloc ?_ _ | refine bel_set ?_ _ ?_ | refine blw_drewN ?_ _ | refine Below.drew ?_)); all_goals (first | (simp; done) | (simp; omega) | omega)) b1; obtain ⟨c0_, c1_, c2_, c3_, c4_, c5_, c6_, c7_, c8_, c9_, c10_, c11_, c12_, c13_, c14_⟩ := HC.out _ B1; clear b1) | (go_at_call 30; refine (h2 _ (bel_then HB0.out (by (with_reducible repeat (first | exact B1 | refine bel_alloc ?_ _ | refine bel_set ?_ _ ?_ | refine blw_drewN ?_ _ | refine Below.drew ?_)); all_goals (first | (simp; done) | (simp; omega) | omega)))).mono ?_; rintro e w2 ⟨rfl, b2⟩; have B2 : Below W0.heap.size W0 w2 := bel_then (by (with_reducible repeat (first | exact B1 | refine bel_alloc ?_ _ | refine bel_set ?_ _ ?_ | refine blw_drewN ?_ _ | refine Below.drew ?_)); all_goals (first | (simp; done) | (simp; omega) | omega)) b2; obtain ⟨d0_, d1_, d2_, d3_, d4_, d5_, d6_, d7_, d8_, d9_, d10_, d11_, d12_, d13_, d14_⟩ := HC.out _ B2; clear b2))
   refine bodyPost_ret (v := .tuple #[.agg #[.string ⟨#[]⟩, .string ⟨#[]⟩, .slice none 0 0, .slice none 0 0], .bool false]) ?hr rfl ?hp
   case hr => simp [results, Tryd.results7, go_sem, d7_, d8_, d9_, d10_, d11_, d12_, d13_, d14_]
   case hp => exact ⟨none, 0, none, 0, rfl, Kd.R_nil _ _ _ _ _, Kd.R_nil _ _ _ _ _, by (with_reducible repeat (first | exact (bel_then HB0.out B2) | refine bel_alloc ?_ _ | refine bel_set ?_ _ ?_ | refine blw_drewN ?_ _ | refine Below.drew ?_)); all_goals (first | (simp; done) | (simp; omega) | omega)⟩
  ·cases q3
   ·obtain rfl : q = false := HO.out
    obtain rfl : M = zMailS := HM.out
    go_wp2_with (first | (go_at_call 29; refine (h1 _).mono ?_; rintro e w1 ⟨rfl, b1⟩; have B1 : Below W0.heap.size W0 w1 := bel_then (by (with_reducible repeat (first | exact (Below.refl _ _) | refine bel_alloc ?_ _ | refine bel_set ?_ _ ?_ | refine blw_drewN ?_ _ | refine Below.drew ?_)); all_goals (first | (simp; done) | (simp; omega) | omega)) b1; obtain ⟨c0_, c1_, c2_, c3_, c4_, c5_, c6_, c7_, c8_, c9_, c10_, c11_, c12_, c13_, c14_⟩ := HC.out _ B1; clear b1) | (go_at_call 30; refine (h2 _ (bel_then HB0.out (by (with_reducible repeat (first | exact B1 | refine bel_alloc ?_ _ | refine bel_set ?_ _ ?_ | refine blw_drewN ?_ _ | refine Below.drew ?_)); all_goals (first | (simp; done) | (simp; omega) | omega)))).mono ?_; rintro e w2 ⟨rfl, b2⟩; have B2 : Below W0.heap.size W0 w2 := bel_then (by (with_reducible repeat (first | exact B1 | refine bel_alloc ?_ _ | refine bel_set ?_ _ ?_ | refine blw_drewN ?_ _ | refine Below.drew ?_)); all_goals (first | (simp; done) | (simp; omega) | omega)) b2; obtain ⟨d0_, d1_, d2_, d3_, d4_, d5_, d6_, d7_, d8_, d9_, d10_, d11_, d12_, d13_, d14_⟩ := HC.out _ B2; clear b2) | (go_at_call 31; refine (h3 _ (bel_then HB0.out (by (with_reducible repeat (first | exact B2 | refine bel_alloc ?_ _ | refine bel_set ?_ _ ?_ | refine blw_drewN ?_ _ | refine Below.drew ?_)); all_goals (first | (simp; done) | (simp; omega) | omega)))).mono ?_; rintro e w3 ⟨rfl, b3⟩; have B3 : Below W0.heap.size W0 w3 := bel_then (by (with_reducible repeat (first | exact B2 | refine bel_alloc ?_ _ | refine bel_set ?_ _ ?_ | refine blw_drewN ?_ _ | refine Below.drew ?_)); all_goals (first | (simp; done) | (simp; omega) | omega)) b3; obtain ⟨e0_, e1_, e2_, e3_, e4_, e5_, e6_, e7_, e8_, e9_, e10_, e11_, e12_, e13_, e14_⟩ := HC.out _ B3; clear b3))
    refine bodyPost_ret (v := .tuple #[.agg #[.string ⟨#[]⟩, .string ⟨#[]⟩, .slice none 0 0, .slice none 0 0], .bool false]) ?hr rfl ?hp
    case hr => simp [results, Tryd.results7, go_sem, e7_, e8_, e9_, e10_, e11_, e12_, e13_, e14_]
    case hp => exact ⟨none, 0, none, 0, rfl, Kd.R_nil _ _ _ _ _, Kd.R_nil _ _ _ _ _, by (with_reducible repeat (first | exact (bel_then HB0.out B3) | refine bel_alloc ?_ _ | refine bel_set ?_ _ ?_ | refine blw_drewN ?_ _ | refine Below.drew ?_)); all_goals (first | (simp; done) | (simp; omega) | omega)⟩
   ·obtain rfl : q = true := HO.out
    go_wp2_with (first | (go_at_call 29; refine (h1 _).mono ?_; rintro e w1 ⟨rfl, b1⟩; have B1 : Below W0.heap.size W0 w1 := bel_then (by (with_reducible repeat (first | exact (Below.refl _ _) | refine bel_alloc ?_ _ | refine bel_set ?_ _ ?_ | refine blw_drewN ?_ _ | refine Below.drew ?_)); all_goals (first | (simp; done) | (simp; omega) | omega)) b1; obtain ⟨c0_, c1_, c2_, c3_, c4_, c5_, c6_, c7_, c8_, c9_, c10_, c11_, c12_, c13_, c14_⟩ := HC.out _ B1; clear b1) | (go_at_call 30; refine (h2 _ (bel_then HB0.out (by (with_reducible repeat (first | exact B1 | refine bel_alloc ?_ _ | refine bel_set ?_ _ ?_ | refine blw_drewN ?_ _ | refine Below.drew ?_)); all_goals (first | (simp; done) | (simp; omega) | omega)))).mono ?_; rintro e w2 ⟨rfl, b2⟩; have B2 : Below W0.heap.size W0 w2 := bel_then (by (with_reducible repeat (first | exact B1 | refine bel_alloc ?_ _ | refine bel_set ?_ _ ?_ | refine blw_drewN ?_ _ | refine Below.drew ?_)); all_goals (first | (simp; done) | (simp; omega) | omega)) b2; obtain ⟨d0_, d1_, d2_, d3_, d4_, d5_, d6_, d7_, d8_, d9_, d10_, d11_, d12_, d13_, d14_⟩ := HC.out _ B2; clear b2) | (go_at_call 31; refine (h3 _ (bel_then HB0.out (by (with_reducible repeat (first | exact B2 | refine bel_alloc ?_ _ | refine bel_set ?_ _ ?_ | refine blw_drewN ?_ _ | refine Below.drew ?_)); all_goals (first | (simp; done) | (simp; omega) | omega)))).mono ?_; rintro e w3 ⟨rfl, b3⟩; have B3 : Below W0.heap.size W0 w3 := bel_then (by (with_reducible repeat (first | exact B2 | refine bel_alloc ?_ _ | refine bel_set ?_ _ ?_ | refine blw_drewN ?_ _ | refine Below.drew ?_)); all_goals (first | (simp; done) | (simp; omega) | omega)) b3; obtain ⟨e0_, e1_, e2_, e3_, e4_, e5_, e6_, e7_, e8_, e9_, e10_, e11_, e12_, e13_, e14_⟩ := HC.out _ B3; clear b3))
    have HK : Aside0 (∀ W W1, Below W.heap.size W W1 → (W.cell? ⟨w.heap.size, 1, none⟩ = some (.string x.f1.f0) ∧ W.cell? ⟨w.heap.size, 2, none⟩ = some (.string x.f1.f1) ∧ W.cell? ⟨w.heap.size + 1, 0, none⟩ = some (.string a.f0) ∧ W.cell? ⟨w.heap.size + 1, 1, none⟩ = some (.string a.f1) ∧ Below W0.heap.size W0 W) → (W1.cell? ⟨w.heap.size, 1, none⟩ = some (.string x.f1.f0) ∧ W1.cell? ⟨w.heap.size, 2, none⟩ = some (.string x.f1.f1) ∧ W1.cell? ⟨w.heap.size + 1, 0, none⟩ = some (.string a.f0) ∧ W1.cell? ⟨w.heap.size + 1, 1, none⟩ = some (.string a.f1) ∧ Below W0.heap.size W0 W1)) := ⟨fun W W1 hb h => ⟨(hb.cell (World.block_lt_of_cell? W _ (h.1))).trans (h.1), (hb.cell (World.block_lt_of_cell? W _ (h.2.1))).trans (h.2.1), (hb.cell (World.block_lt_of_cell? W _ (h.2.2.1))).trans (h.2.2.1), (hb.cell (World.block_lt_of_cell? W _ (h.2.2.2.1))).trans (h.2.2.2.1), bel_then (h.2.2.2.2) hb⟩⟩
    have join : Hid (∀ {goal : Prop} {G : Nat → Nat → Nat → World → Prop} (rg : Hid (∀ g2 g5 g7 V, Below W0.heap.size W0 V ∧ W0.heap.size ≤ g7 ∧ g7 < V.heap.size ∧ Kd.R kAddr 24 V W0.heap.size (fun _ => True) (.slice (some ⟨g2, 0, none⟩) 1 1) [x.f1] ∧ Kd.R Kd.string 9 V W0.heap.size (fun _ => True) (.slice (some ⟨g5, 0, none⟩) 2 2) [⟨#[110, 111, 116, 32, 100, 101, 108, 105, 118, 101, 114, 101, 100, 58]⟩, textS a.f0 a.f1] ∧ V.heap[g7]? = some (.cells #[.string ⟨#[]⟩, .string ⟨#[]⟩, .slice (some ⟨g2, 0, none⟩) 1 1, .slice (some ⟨g5, 0, none⟩) 2 2] 33 (0, 0)) → G g2 g5 g7 V) → goal) (hk : ∀ g2 g5 g7 V, Below W0.heap.size W0 V ∧ W0.heap.size ≤ g7 ∧ g7 < V.heap.size ∧ Kd.R kAddr 24 V W0.heap.size (fun _ => True) (.slice (some ⟨g2, 0, none⟩) 1 1) [x.f1] ∧ Kd.R Kd.string 9 V W0.heap.size (fun _ => True) (.slice (some ⟨g5, 0, none⟩) 2 2) [⟨#[110, 111, 116, 32, 100, 101, 108, 105, 118, 101, 114, 101, 100, 58]⟩, textS a.f0 a.f1] ∧ V.heap[g7]? = some (.cells #[.string ⟨#[]⟩, .string ⟨#[]⟩, .slice (some ⟨g2, 0, none⟩) 1 1, .slice (some ⟨g5, 0, none⟩) 2 2] 33 (0, 0)) → G g2 g5 g7 V), goal) := Lib.hid (fun f h => f (Lib.hid h))
    have HST : Aside0 ((fun W => W.cell? ⟨w.heap.size, 1, none⟩ = some (.string x.f1.f0) ∧ W.cell? ⟨w.heap.size, 2, none⟩ = some (.string x.f1.f1) ∧ W.cell? ⟨w.heap.size + 1, 0, none⟩ = some (.string a.f0) ∧ W.cell? ⟨w.heap.size + 1, 1, none⟩ = some (.string a.f1) ∧ Below W0.heap.size W0 W) w3.drew) := ⟨⟨e1_, e2_, e5_, e6_, bel_then B3 (drew_below0 w3)⟩⟩
    clear c0_ c1_ c2_ c3_ c4_ c5_ c6_ c7_ c8_ c9_ c10_ c11_ c12_ c13_ c14_ d0_ d1_ d2_ d3_ d4_ d5_ d6_ d7_ d8_ d9_ d10_ d11_ d12_ d13_ d14_ e0_ e1_ e2_ e3_ e4_ e5_ e6_ e7_ e8_ e9_ e10_ e11_ e12_ e13_ e14_
    apply join.out
    case rg =>
     intro HKK
     refine wp_region_held_drew (S := (fun W => W.cell? ⟨w.heap.size, 1, none⟩ = some (.string x.f1.f0) ∧ W.cell? ⟨w.heap.size, 2, none⟩ = some (.string x.f1.f1) ∧ W.cell? ⟨w.heap.size + 1, 0, none⟩ = some (.string a.f0) ∧ W.cell? ⟨w.heap.size + 1, 1, none⟩ = some (.string a.f1) ∧ Below W0.heap.size W0 W)) (by kernel_rfl) ?s530 (fun hHeld => ?t530)
     case s530 => exact HST.out
     generalize World.drew _ = V0 at hHeld ⊢
     have s0_ : W0.heap.size ≤ V0.heap.size := hHeld.2.2.2.2.size
     refine tk 0 ?v531 ?y531 ?r531
     case y531 => intro w_ hSw; (try dsimp only at hSw); go_simp; (try (with_reducible rfl))
     try simp only [Act.put, List.setIfInBounds_toArray, List.set_cons_zero, List.set_cons_succ]
     refine tk 1 ?v532 ?y532 ?r532
     case y532 => intro w_ hSw; (try dsimp only at hSw); go_simp; (try (with_reducible rfl))
     try simp only [Act.put, List.setIfInBounds_toArray, List.set_cons_zero, List.set_cons_succ]
     refine tk 3 ?v533 ?y533 ?r533
     case y533 => intro w_ hSw; (try dsimp only at hSw); go_simp; (try (with_reducible rfl))
     try simp only [Act.put, List.setIfInBounds_toArray, List.set_cons_zero, List.set_cons_succ]
     refine rdy (rs := [2, 4, 7]) ?_
     refine rc (fun K hK => ?k534) (rc (fun K hK => ?k535) (rc (fun K hK => ?k536) AllReadyH.nil))
     case k534 =>
      go_simp
      refine hK.out _ _ ?h537 (fun hHeld => ?j537)
      case h537 => exact HK.out _ _ (bel_alloc (Below.refl _ _) _) hHeld
      clear hK K
      try simp only [Act.put, List.setIfInBounds_toArray, List.set_cons_zero, List.set_cons_succ]
      generalize hV2 : World.alloc V0 _ = V2 at hHeld ⊢
      have b2 : Below V0.heap.size V0 V2 := by rw [← hV2]; exact bel_alloc (Below.refl _ _) _
      have z2 : V0.heap.size < V2.heap.size := by rw [← hV2]; simp
      have F2 := Aside0.mk (hV2 ▸ R_one kAddr 24 V0 W0.heap.size x.f1 [.string x.f1.f0, .string x.f1.f1] (kAddr_mkM _ _ _ x.f1) (by omega))
      have a2 : W0.heap.size ≤ V0.heap.size := by omega
      obtain ⟨g2, hg2⟩ : ∃ g, g = V0.heap.size := ⟨_, rfl⟩
      rw [← hg2] at F2 z2 a2 ⊢
      clear hV2 hg2
      have s2_ : W0.heap.size ≤ V2.heap.size := hHeld.2.2.2.2.size
      refine rdy (rs := [4, 7]) ?_
      refine rc (fun K hK => ?k538) (rc (fun K hK => ?k539) AllReadyH.nil)
      case k538 =>
       go_simp
       refine ((htext V2)).mono ?_
       rintro e V4 ⟨rfl, b4⟩
       refine hK.out _ _ ?h540 (fun hHeld => ?j540)
       case h540 => exact HK.out _ _ b4 hHeld
       clear hK K
       try simp only [Act.put, List.setIfInBounds_toArray, List.set_cons_zero, List.set_cons_succ]
       have s4_ : W0.heap.size ≤ V4.heap.size := hHeld.2.2.2.2.size
       replace F2 := Aside0.mk (Kd.R_below F2.out b4)
       refine rdy (rs := [5, 7]) ?_
       refine rc (fun K hK => ?k541) (rc (fun K hK => ?k542) AllReadyH.nil)
       case k541 =>
        go_simp
        refine hK.out _ _ ?h543 (fun hHeld => ?j543)
        case h543 => exact HK.out _ _ (bel_alloc (Below.refl _ _) _) hHeld
        clear hK K
        try simp only [Act.put, List.setIfInBounds_toArray, List.set_cons_zero, List.set_cons_succ]
        generalize hV5 : World.alloc V4 _ = V5 at hHeld ⊢
        have b5 : Below V4.heap.size V4 V5 := by rw [← hV5]; exact bel_alloc (Below.refl _ _) _
        have z5 : V4.heap.size < V5.heap.size := by rw [← hV5]; simp
        have F5 := Aside0.mk (hV5 ▸ R_two Kd.string 9 V4 W0.heap.size ⟨#[110, 111, 116, 32, 100, 101, 108, 105, 118, 101, 114, 101, 100, 58]⟩ (textS a.f0 a.f1) [.string ⟨#[110, 111, 116, 32, 100, 101, 108, 105, 118, 101, 114, 101, 100, 58]⟩] [.string (textS a.f0 a.f1)] rfl rfl (by omega))
        have a5 : W0.heap.size ≤ V4.heap.size := by omega
        obtain ⟨g5, hg5⟩ : ∃ g, g = V4.heap.size := ⟨_, rfl⟩
        rw [← hg5] at F5 z5 a5 ⊢
        clear hV5 hg5
        have s5_ : W0.heap.size ≤ V5.heap.size := hHeld.2.2.2.2.size
        replace F2 := Aside0.mk (Kd.R_below F2.out b5)
        refine tk 6 ?v544 ?y544 ?r544
        case y544 => intro w_ hSw; (try dsimp only at hSw); go_simp; (try (with_reducible rfl))
        try simp only [Act.put, List.setIfInBounds_toArray, List.set_cons_zero, List.set_cons_succ]
        refine rdy (rs := [7]) ?_
        refine rc (fun K hK => ?k545) AllReadyH.nil
        case k545 =>
         go_simp
         refine hK.out _ _ ?h546 (fun hHeld => ?j546)
         case h546 => exact HK.out _ _ (bel_alloc (Below.refl _ _) _) hHeld
         clear hK K
         try simp only [Act.put, List.setIfInBounds_toArray, List.set_cons_zero, List.set_cons_succ]
         generalize hV7 : World.alloc V5 _ = V7 at hHeld ⊢
         have b7 : Below V5.heap.size V5 V7 := by rw [← hV7]; exact bel_alloc (Below.refl _ _) _
         have z7 : V5.heap.size < V7.heap.size := by rw [← hV7]; simp
         have F7 := Aside0.mk ((by rw [← hV7]; exact blk_new _ _ : V7.heap[V5.heap.size]? = some (.cells #[.string ⟨#[]⟩, .string ⟨#[]⟩, .slice none 0 0, .slice none 0 0] 33 (0, 0))))
         have a7 : W0.heap.size ≤ V5.heap.size := by omega
         obtain ⟨g7, hg7⟩ : ∃ g, g = V5.heap.size := ⟨_, rfl⟩
         rw [← hg7] at F7 z7 a7 ⊢
         clear hV7 hg7
         have s7_ : W0.heap.size ≤ V7.heap.size := hHeld.2.2.2.2.size
         replace F2 := Aside0.mk (Kd.R_below F2.out b7)
         replace F5 := Aside0.mk (Kd.R_below F5.out b7)
         refine rdy (rs := [8]) ?_
         refine rc (fun K hK => ?k547) AllReadyH.nil
         case k547 =>
          have hb7 := F7.out
          have y0_ : V7.cell? ⟨g7, 0, none⟩ = some (.string ⟨#[]⟩) := by simp [World.cell?, hb7]
          have y1_ : V7.cell? ⟨g7, 1, none⟩ = some (.string ⟨#[]⟩) := by simp [World.cell?, hb7]
          have y2_ : V7.cell? ⟨g7, 2, none⟩ = some (.slice none 0 0) := by simp [World.cell?, hb7]
          have y3_ : V7.cell? ⟨g7, 3, none⟩ = some (.slice none 0 0) := by simp [World.cell?, hb7]
          have u0_ : V7.frozen? ⟨g7, 0, none⟩ = false := by simp [World.frozen?, hb7]
          have u1_ : V7.frozen? ⟨g7, 1, none⟩ = false := by simp [World.frozen?, hb7]
          have u2_ : V7.frozen? ⟨g7, 2, none⟩ = false := by simp [World.frozen?, hb7]
          have u3_ : V7.frozen? ⟨g7, 3, none⟩ = false := by simp [World.frozen?, hb7]
          go_simp
          generalize hV8 : World.setCell (World.setCell (World.setCell (World.setCell V7 ⟨g7, 0, none⟩ _) ⟨g7, 1, none⟩ _) ⟨g7, 2, none⟩ _) ⟨g7, 3, none⟩ _ = V8
          have G8 : V7.grownBy V8 (some g7) := by rw [← hV8]; exact grown_set4 _ _ _ _ _ _
          have F8 : V8.heap[g7]? = some (.cells #[.string ⟨#[]⟩, .string ⟨#[]⟩, .slice (some ⟨g2, 0, none⟩) 1 1, .slice (some ⟨g5, 0, none⟩) 2 2] 33 (0, 0)) := by rw [← hV8]; exact blk_set4 F7.out _ _ _ _
          have BB : Below W0.heap.size W0 V8 := by rw [← hV8]; exact bel_set (bel_set (bel_set (bel_set hHeld.2.2.2.2 _ a7) _ a7) _ a7) _ a7
          clear hV8
          refine hK.out _ _ ?h548 (fun hHeld => ?j548)
          case h548 => (obtain ⟨k0, k1, k2, k3, k4, k5, k6, _⟩ := HC.out _ BB; exact ⟨k1, k2, k5, k6, BB⟩)
          clear hK K
          try simp only [Act.put, List.setIfInBounds_toArray, List.set_cons_zero, List.set_cons_succ]
          replace F2 := Aside0.mk (R_else F2.out rfl G8 (Kd.R_ne F2.out F7.out (by decide)))
          replace F5 := Aside0.mk (R_else F5.out rfl G8 (Kd.R_ne F5.out F7.out (by decide)))
          replace F7 := Aside0.mk F8
          have s8_ : W0.heap.size ≤ V8.heap.size := hHeld.2.2.2.2.size
          refine wpAnyH_done (by kernel_rfl) ?_ _
          exact HKK.out g2 g5 g7 V8 ⟨BB, a7, blk_lt F7.out, F2.out, F5.out, F7.out⟩
       case k542 =>
        go_simp
        refine hK.out _ _ ?h549 (fun hHeld => ?j549)
        case h549 => exact HK.out _ _ (bel_alloc (Below.refl _ _) _) hHeld
        clear hK K
        try simp only [Act.put, List.setIfInBounds_toArray, List.set_cons_zero, List.set_cons_succ]
        generalize hV7 : World.alloc V4 _ = V7 at hHeld ⊢
        have b7 : Below V4.heap.size V4 V7 := by rw [← hV7]; exact bel_alloc (Below.refl _ _) _
        have z7 : V4.heap.size < V7.heap.size := by rw [← hV7]; simp
        have F7 := Aside0.mk ((by rw [← hV7]; exact blk_new _ _ : V7.heap[V4.heap.size]? = some (.cells #[.string ⟨#[]⟩, .string ⟨#[]⟩, .slice none 0 0, .slice none 0 0] 33 (0, 0))))
        have a7 : W0.heap.size ≤ V4.heap.size := by omega
        obtain ⟨g7, hg7⟩ : ∃ g, g = V4.heap.size := ⟨_, rfl⟩
        rw [← hg7] at F7 z7 a7 ⊢
        clear hV7 hg7
        have s7_ : W0.heap.size ≤ V7.heap.size := hHeld.2.2.2.2.size
        replace F2 := Aside0.mk (Kd.R_below F2.out b7)
        refine rdy (rs := [5]) ?_
        refine rc (fun K hK => ?k550) AllReadyH.nil
        case k550 =>
         go_simp
         refine hK.out _ _ ?h551 (fun hHeld => ?j551)
         case h551 => exact HK.out _ _ (bel_alloc (Below.refl _ _) _) hHeld
         clear hK K
         try simp only [Act.put, List.setIfInBounds_toArray, List.set_cons_zero, List.set_cons_succ]
         generalize hV5 : World.alloc V7 _ = V5 at hHeld ⊢
         have b5 : Below V7.heap.size V7 V5 := by rw [← hV5]; exact bel_alloc (Below.refl _ _) _
         have z5 : V7.heap.size < V5.heap.size := by rw [← hV5]; simp
         have F5 := Aside0.mk (hV5 ▸ R_two Kd.string 9 V7 W0.heap.size ⟨#[110, 111, 116, 32, 100, 101, 108, 105, 118, 101, 114, 101, 100, 58]⟩ (textS a.f0 a.f1) [.string ⟨#[110, 111, 116, 32, 100, 101, 108, 105, 118, 101, 114, 101, 100, 58]⟩] [.string (textS a.f0 a.f1)] rfl rfl (by omega))
         have a5 : W0.heap.size ≤ V7.heap.size := by omega
         obtain ⟨g5, hg5⟩ : ∃ g, g = V7.heap.size := ⟨_, rfl⟩
         rw [← hg5] at F5 z5 a5 ⊢
         clear hV5 hg5
         have s5_ : W0.heap.size ≤ V5.heap.size := hHeld.2.2.2.2.size
         replace F2 := Aside0.mk (Kd.R_below F2.out b5)
         replace F7 := Aside0.mk (below_blk F7.out b5)
         refine tk 6 ?v552 ?y552 ?r552
         case y552 => intro w_ hSw; (try dsimp only at hSw); go_simp; (try (with_reducible rfl))
         try simp only [Act.put, List.setIfInBounds_toArray, List.set_cons_zero, List.set_cons_succ]
         refine rdy (rs := [8]) ?_
         refine rc (fun K hK => ?k553) AllReadyH.nil
         case k553 =>
          have hb7 := F7.out
          have y0_ : V5.cell? ⟨g7, 0, none⟩ = some (.string ⟨#[]⟩) := by simp [World.cell?, hb7]
          have y1_ : V5.cell? ⟨g7, 1, none⟩ = some (.string ⟨#[]⟩) := by simp [World.cell?, hb7]
          have y2_ : V5.cell? ⟨g7, 2, none⟩ = some (.slice none 0 0) := by simp [World.cell?, hb7]
          have y3_ : V5.cell? ⟨g7, 3, none⟩ = some (.slice none 0 0) := by simp [World.cell?, hb7]
          have u0_ : V5.frozen? ⟨g7, 0, none⟩ = false := by simp [World.frozen?, hb7]
          have u1_ : V5.frozen? ⟨g7, 1, none⟩ = false := by simp [World.frozen?, hb7]
          have u2_ : V5.frozen? ⟨g7, 2, none⟩ = false := by simp [World.frozen?, hb7]
          have u3_ : V5.frozen? ⟨g7, 3, none⟩ = false := by simp [World.frozen?, hb7]
          go_simp
          generalize hV8 : World.setCell (World.setCell (World.setCell (World.setCell V5 ⟨g7, 0, none⟩ _) ⟨g7, 1, none⟩ _) ⟨g7, 2, none⟩ _) ⟨g7, 3, none⟩ _ = V8
          have G8 : V5.grownBy V8 (some g7) := by rw [← hV8]; exact grown_set4 _ _ _ _ _ _
          have F8 : V8.heap[g7]? = some (.cells #[.string ⟨#[]⟩, .string ⟨#[]⟩, .slice (some ⟨g2, 0, none⟩) 1 1, .slice (some ⟨g5, 0, none⟩) 2 2] 33 (0, 0)) := by rw [← hV8]; exact blk_set4 F7.out _ _ _ _
          have BB : Below W0.heap.size W0 V8 := by rw [← hV8]; exact bel_set (bel_set (bel_set (bel_set hHeld.2.2.2.2 _ a7) _ a7) _ a7) _ a7
          clear hV8
          refine hK.out _ _ ?h554 (fun hHeld => ?j554)
          case h554 => (obtain ⟨k0, k1, k2, k3, k4, k5, k6, _⟩ := HC.out _ BB; exact ⟨k1, k2, k5, k6, BB⟩)
          clear hK K
          try simp only [Act.put, List.setIfInBounds_toArray, List.set_cons_zero, List.set_cons_succ]
          replace F2 := Aside0.mk (R_else F2.out rfl G8 (Kd.R_ne F2.out F7.out (by decide)))
          replace F5 := Aside0.mk (R_else F5.out rfl G8 (Kd.R_ne F5.out F7.out (by decide)))
          replace F7 := Aside0.mk F8
          have s8_ : W0.heap.size ≤ V8.heap.size := hHeld.2.2.2.2.size
          refine wpAnyH_done (by kernel_rfl) ?_ _
          exact HKK.out g2 g5 g7 V8 ⟨BB, a7, blk_lt F7.out, F2.out, F5.out, F7.out⟩
      case k539 =>
       go_simp
       refine hK.out _ _ ?h555 (fun hHeld => ?j555)
       case h555 => exact HK.out _ _ (bel_alloc (Below.refl _ _) _) hHeld
       clear hK K
       try simp only [Act.put, List.setIfInBounds_toArray, List.set_cons_zero, List.set_cons_succ]
       generalize hV7 : World.alloc V2 _ = V7 at hHeld ⊢
       have b7 : Below V2.heap.size V2 V7 := by rw [← hV7]; exact bel_alloc (Below.refl _ _) _
       have z7 : V2.heap.size < V7.heap.size := by rw [← hV7]; simp
       have F7 := Aside0.mk ((by rw [← hV7]; exact blk_new _ _ : V7.heap[V2.heap.size]? = some (.cells #[.string ⟨#[]⟩, .string ⟨#[]⟩, .slice none 0 0, .slice none 0 0] 33 (0, 0))))
       have a7 : W0.heap.size ≤ V2.heap.size := by omega
       obtain ⟨g7, hg7⟩ : ∃ g, g = V2.heap.size := ⟨_, rfl⟩
       rw [← hg7] at F7 z7 a7 ⊢
       clear hV7 hg7
       have s7_ : W0.heap.size ≤ V7.heap.size := hHeld.2.2.2.2.size
       replace F2 := Aside0.mk (Kd.R_below F2.out b7)
       refine rdy (rs := [4]) ?_
       refine rc (fun K hK => ?k556) AllReadyH.nil
       case k556 =>
        go_simp
        refine ((htext V7)).mono ?_
        rintro e V4 ⟨rfl, b4⟩
        refine hK.out _ _ ?h557 (fun hHeld => ?j557)
        case h557 => exact HK.out _ _ b4 hHeld
        clear hK K
        try simp only [Act.put, List.setIfInBounds_toArray, List.set_cons_zero, List.set_cons_succ]
        have s4_ : W0.heap.size ≤ V4.heap.size := hHeld.2.2.2.2.size
        replace F2 := Aside0.mk (Kd.R_below F2.out b4)
        replace F7 := Aside0.mk (below_blk F7.out b4)
        refine rdy (rs := [5]) ?_
        refine rc (fun K hK => ?k558) AllReadyH.nil
        case k558 =>
         go_simp
         refine hK.out _ _ ?h559 (fun hHeld => ?j559)
         case h559 => exact HK.out _ _ (bel_alloc (Below.refl _ _) _) hHeld
         clear hK K
         try simp only [Act.put, List.setIfInBounds_toArray, List.set_cons_zero, List.set_cons_succ]
         generalize hV5 : World.alloc V4 _ = V5 at hHeld ⊢
         have b5 : Below V4.heap.size V4 V5 := by rw [← hV5]; exact bel_alloc (Below.refl _ _) _
         have z5 : V4.heap.size < V5.heap.size := by rw [← hV5]; simp
         have F5 := Aside0.mk (hV5 ▸ R_two Kd.string 9 V4 W0.heap.size ⟨#[110, 111, 116, 32, 100, 101, 108, 105, 118, 101, 114, 101, 100, 58]⟩ (textS a.f0 a.f1) [.string ⟨#[110, 111, 116, 32, 100, 101, 108, 105, 118, 101, 114, 101, 100, 58]⟩] [.string (textS a.f0 a.f1)] rfl rfl (by omega))
         have a5 : W0.heap.size ≤ V4.heap.size := by omega
         obtain ⟨g5, hg5⟩ : ∃ g, g = V4.heap.size := ⟨_, rfl⟩
         rw [← hg5] at F5 z5 a5 ⊢
         clear hV5 hg5
         have s5_ : W0.heap.size ≤ V5.heap.size := hHeld.2.2.2.2.size
         replace F2 := Aside0.mk (Kd.R_below F2.out b5)
         replace F7 := Aside0.mk (below_blk F7.out b5)
         refine tk 6 ?v560 ?y560 ?r560
         case y560 => intro w_ hSw; (try dsimp only at hSw); go_simp; (try (with_reducible rfl))
         try simp only [Act.put, List.setIfInBounds_toArray, List.set_cons_zero, List.set_cons_succ]
         refine rdy (rs := [8]) ?_
         refine rc (fun K hK => ?k561) AllReadyH.nil
         case k561 =>
          have hb7 := F7.out
          have y0_ : V5.cell? ⟨g7, 0, none⟩ = some (.string ⟨#[]⟩) := by simp [World.cell?, hb7]
          have y1_ : V5.cell? ⟨g7, 1, none⟩ = some (.string ⟨#[]⟩) := by simp [World.cell?, hb7]
          have y2_ : V5.cell? ⟨g7, 2, none⟩ = some (.slice none 0 0) := by simp [World.cell?, hb7]
          have y3_ : V5.cell? ⟨g7, 3, none⟩ = some (.slice none 0 0) := by simp [World.cell?, hb7]
          have u0_ : V5.frozen? ⟨g7, 0, none⟩ = false := by simp [World.frozen?, hb7]
          have u1_ : V5.frozen? ⟨g7, 1, none⟩ = false := by simp [World.frozen?, hb7]
          have u2_ : V5.frozen? ⟨g7, 2, none⟩ = false := by simp [World.frozen?, hb7]
          have u3_ : V5.frozen? ⟨g7, 3, none⟩ = false := by simp [World.frozen?, hb7]
          go_simp
          generalize hV8 : World.setCell (World.setCell (World.setCell (World.setCell V5 ⟨g7, 0, none⟩ _) ⟨g7, 1, none⟩ _) ⟨g7, 2, none⟩ _) ⟨g7, 3, none⟩ _ = V8
          have G8 : V5.grownBy V8 (some g7) := by rw [← hV8]; exact grown_set4 _ _ _ _ _ _
          have F8 : V8.heap[g7]? = some (.cells #[.string ⟨#[]⟩, .string ⟨#[]⟩, .slice (some ⟨g2, 0, none⟩) 1 1, .slice (some ⟨g5, 0, none⟩) 2 2] 33 (0, 0)) := by rw [← hV8]; exact blk_set4 F7.out _ _ _ _
          have BB : Below W0.heap.size W0 V8 := by rw [← hV8]; exact bel_set (bel_set (bel_set (bel_set hHeld.2.2.2.2 _ a7) _ a7) _ a7) _ a7
          clear hV8
          refine hK.out _ _ ?h562 (fun hHeld => ?j562)
          case h562 => (obtain ⟨k0, k1, k2, k3, k4, k5, k6, _⟩ := HC.out _ BB; exact ⟨k1, k2, k5, k6, BB⟩)
          clear hK K
          try simp only [Act.put, List.setIfInBounds_toArray, List.set_cons_zero, List.set_cons_succ]
          replace F2 := Aside0.mk (R_else F2.out rfl G8 (Kd.R_ne F2.out F7.out (by decide)))
          replace F5 := Aside0.mk (R_else F5.out rfl G8 (Kd.R_ne F5.out F7.out (by decide)))
          replace F7 := Aside0.mk F8
          have s8_ : W0.heap.size ≤ V8.heap.size := hHeld.2.2.2.2.size
          refine wpAnyH_done (by kernel_rfl) ?_ _
          exact HKK.out g2 g5 g7 V8 ⟨BB, a7, blk_lt F7.out, F2.out, F5.out, F7.out⟩
     case k535 =>
      go_simp
      refine ((htext V0)).mono ?_
      rintro e V4 ⟨rfl, b4⟩
      refine hK.out _ _ ?h563 (fun hHeld => ?j563)
      case h563 => exact HK.out _ _ b4 hHeld
      clear hK K
      try simp only [Act.put, List.setIfInBounds_toArray, List.set_cons_zero, List.set_cons_succ]
      have s4_ : W0.heap.size ≤ V4.heap.size := hHeld.2.2.2.2.size
      refine rdy (rs := [2, 5, 7]) ?_
      refine rc (fun K hK => ?k564) (rc (fun K hK => ?k565) (rc (fun K hK => ?k566) AllReadyH.nil))
      case k564 =>
       go_simp
       refine hK.out _ _ ?h567 (fun hHeld => ?j567)
       case h567 => exact HK.out _ _ (bel_alloc (Below.refl _ _) _) hHeld
       clear hK K
       try simp only [Act.put, List.setIfInBounds_toArray, List.set_cons_zero, List.set_cons_succ]
       generalize hV2 : World.alloc V4 _ = V2 at hHeld ⊢
       have b2 : Below V4.heap.size V4 V2 := by rw [← hV2]; exact bel_alloc (Below.refl _ _) _
       have z2 : V4.heap.size < V2.heap.size := by rw [← hV2]; simp
       have F2 := Aside0.mk (hV2 ▸ R_one kAddr 24 V4 W0.heap.size x.f1 [.string x.f1.f0, .string x.f1.f1] (kAddr_mkM _ _ _ x.f1) (by omega))
       have a2 : W0.heap.size ≤ V4.heap.size := by omega
       obtain ⟨g2, hg2⟩ : ∃ g, g = V4.heap.size := ⟨_, rfl⟩
       rw [← hg2] at F2 z2 a2 ⊢
       clear hV2 hg2
       have s2_ : W0.heap.size ≤ V2.heap.size := hHeld.2.2.2.2.size
       refine rdy (rs := [5, 7]) ?_
       refine rc (fun K hK => ?k568) (rc (fun K hK => ?k569) AllReadyH.nil)
       case k568 =>
        go_simp
        refine hK.out _ _ ?h570 (fun hHeld => ?j570)
        case h570 => exact HK.out _ _ (bel_alloc (Below.refl _ _) _) hHeld
        clear hK K
        try simp only [Act.put, List.setIfInBounds_toArray, List.set_cons_zero, List.set_cons_succ]
        generalize hV5 : World.alloc V2 _ = V5 at hHeld ⊢
        have b5 : Below V2.heap.size V2 V5 := by rw [← hV5]; exact bel_alloc (Below.refl _ _) _
        have z5 : V2.heap.size < V5.heap.size := by rw [← hV5]; simp
        have F5 := Aside0.mk (hV5 ▸ R_two Kd.string 9 V2 W0.heap.size ⟨#[110, 111, 116, 32, 100, 101, 108, 105, 118, 101, 114, 101, 100, 58]⟩ (textS a.f0 a.f1) [.string ⟨#[110, 111, 116, 32, 100, 101, 108, 105, 118, 101, 114, 101, 100, 58]⟩] [.string (textS a.f0 a.f1)] rfl rfl (by omega))
        have a5 : W0.heap.size ≤ V2.heap.size := by omega
        obtain ⟨g5, hg5⟩ : ∃ g, g = V2.heap.size := ⟨_, rfl⟩
        rw [← hg5] at F5 z5 a5 ⊢
        clear hV5 hg5
        have s5_ : W0.heap.size ≤ V5.heap.size := hHeld.2.2.2.2.size
        replace F2 := Aside0.mk (Kd.R_below F2.out b5)
        refine tk 6 ?v571 ?y571 ?r571
        case y571 => intro w_ hSw; (try dsimp only at hSw); go_simp; (try (with_reducible rfl))
        try simp only [Act.put, List.setIfInBounds_toArray, List.set_cons_zero, List.set_cons_succ]
        refine rdy (rs := [7]) ?_
        refine rc (fun K hK => ?k572) AllReadyH.nil
        case k572 =>
         go_simp
         refine hK.out _ _ ?h573 (fun hHeld => ?j573)
         case h573 => exact HK.out _ _ (bel_alloc (Below.refl _ _) _) hHeld
         clear hK K
         try simp only [Act.put, List.setIfInBounds_toArray, List.set_cons_zero, List.set_cons_succ]
         generalize hV7 : World.alloc V5 _ = V7 at hHeld ⊢
         have b7 : Below V5.heap.size V5 V7 := by rw [← hV7]; exact bel_alloc (Below.refl _ _) _
         have z7 : V5.heap.size < V7.heap.size := by rw [← hV7]; simp
         have F7 := Aside0.mk ((by rw [← hV7]; exact blk_new _ _ : V7.heap[V5.heap.size]? = some (.cells #[.string ⟨#[]⟩, .string ⟨#[]⟩, .slice none 0 0, .slice none 0 0] 33 (0, 0))))
         have a7 : W0.heap.size ≤ V5.heap.size := by omega
         obtain ⟨g7, hg7⟩ : ∃ g, g = V5.heap.size := ⟨_, rfl⟩
         rw [← hg7] at F7 z7 a7 ⊢
         clear hV7 hg7
         have s7_ : W0.heap.size ≤ V7.heap.size := hHeld.2.2.2.2.size
         replace F2 := Aside0.mk (Kd.R_below F2.out b7)
         replace F5 := Aside0.mk (Kd.R_below F5.out b7)
         refine rdy (rs := [8]) ?_
         refine rc (fun K hK => ?k574) AllReadyH.nil
         case k574 =>
          have hb7 := F7.out
          have y0_ : V7.cell? ⟨g7, 0, none⟩ = some (.string ⟨#[]⟩) := by simp [World.cell?, hb7]
          have y1_ : V7.cell? ⟨g7, 1, none⟩ = some (.string ⟨#[]⟩) := by simp [World.cell?, hb7]
          have y2_ : V7.cell? ⟨g7, 2, none⟩ = some (.slice none 0 0) := by simp [World.cell?, hb7]
          have y3_ : V7.cell? ⟨g7, 3, none⟩ = some (.slice none 0 0) := by simp [World.cell?, hb7]
          have u0_ : V7.frozen? ⟨g7, 0, none⟩ = false := by simp [World.frozen?, hb7]
          have u1_ : V7.frozen? ⟨g7, 1, none⟩ = false := by simp [World.frozen?, hb7]
          have u2_ : V7.frozen? ⟨g7, 2, none⟩ = false := by simp [World.frozen?, hb7]
          have u3_ : V7.frozen? ⟨g7, 3, none⟩ = false := by simp [World.frozen?, hb7]
          go_simp
          generalize hV8 : World.setCell (World.setCell (World.setCell (World.setCell V7 ⟨g7, 0, none⟩ _) ⟨g7, 1, none⟩ _) ⟨g7, 2, none⟩ _) ⟨g7, 3, none⟩ _ = V8
          have G8 : V7.grownBy V8 (some g7) := by rw [← hV8]; exact grown_set4 _ _ _ _ _ _
          have F8 : V8.heap[g7]? = some (.cells #[.string ⟨#[]⟩, .string ⟨#[]⟩, .slice (some ⟨g2, 0, none⟩) 1 1, .slice (some ⟨g5, 0, none⟩) 2 2] 33 (0, 0)) := by rw [← hV8]; exact blk_set4 F7.out _ _ _ _
          have BB : Below W0.heap.size W0 V8 := by rw [← hV8]; exact bel_set (bel_set (bel_set (bel_set hHeld.2.2.2.2 _ a7) _ a7) _ a7) _ a7
          clear hV8
          refine hK.out _ _ ?h575 (fun hHeld => ?j575)
          case h575 => (obtain ⟨k0, k1, k2, k3, k4, k5, k6, _⟩ := HC.out _ BB; exact ⟨k1, k2, k5, k6, BB⟩)
          clear hK K
          try simp only [Act.put, List.setIfInBounds_toArray, List.set_cons_zero, List.set_cons_succ]
          replace F2 := Aside0.mk (R_else F2.out rfl G8 (Kd.R_ne F2.out F7.out (by decide)))
          replace F5 := Aside0.mk (R_else F5.out rfl G8 (Kd.R_ne F5.out F7.out (by decide)))
          replace F7 := Aside0.mk F8
          have s8_ : W0.heap.size ≤ V8.heap.size := hHeld.2.2.2.2.size
          refine wpAnyH_done (by kernel_rfl) ?_ _
          exact HKK.out g2 g5 g7 V8 ⟨BB, a7, blk_lt F7.out, F2.out, F5.out, F7.out⟩
       case k569 =>
        go_simp
        refine hK.out _ _ ?h576 (fun hHeld => ?j576)
        case h576 => exact HK.out _ _ (bel_alloc (Below.refl _ _) _) hHeld
        clear hK K
        try simp only [Act.put, List.setIfInBounds_toArray, List.set_cons_zero, List.set_cons_succ]
        generalize hV7 : World.alloc V2 _ = V7 at hHeld ⊢
        have b7 : Below V2.heap.size V2 V7 := by rw [← hV7]; exact bel_alloc (Below.refl _ _) _
        have z7 : V2.heap.size < V7.heap.size := by rw [← hV7]; simp
        have F7 := Aside0.mk ((by rw [← hV7]; exact blk_new _ _ : V7.heap[V2.heap.size]? = some (.cells #[.string ⟨#[]⟩, .string ⟨#[]⟩, .slice none 0 0, .slice none 0 0] 33 (0, 0))))
        have a7 : W0.heap.size ≤ V2.heap.size := by omega
        obtain ⟨g7, hg7⟩ : ∃ g, g = V2.heap.size := ⟨_, rfl⟩
        rw [← hg7] at F7 z7 a7 ⊢
        clear hV7 hg7
        have s7_ : W0.heap.size ≤ V7.heap.size := hHeld.2.2.2.2.size
        replace F2 := Aside0.mk (Kd.R_below F2.out b7)
        refine rdy (rs := [5]) ?_
        refine rc (fun K hK => ?k577) AllReadyH.nil
        case k577 =>
         go_simp
         refine hK.out _ _ ?h578 (fun hHeld => ?j578)
         case h578 => exact HK.out _ _ (bel_alloc (Below.refl _ _) _) hHeld
         clear hK K
         try simp only [Act.put, List.setIfInBounds_toArray, List.set_cons_zero, List.set_cons_succ]
         generalize hV5 : World.alloc V7 _ = V5 at hHeld ⊢
         have b5 : Below V7.heap.size V7 V5 := by rw [← hV5]; exact bel_alloc (Below.refl _ _) _
         have z5 : V7.heap.size < V5.heap.size := by rw [← hV5]; simp
         have F5 := Aside0.mk (hV5 ▸ R_two Kd.string 9 V7 W0.heap.size ⟨#[110, 111, 116, 32, 100, 101, 108, 105, 118, 101, 114, 101, 100, 58]⟩ (textS a.f0 a.f1) [.string ⟨#[110, 111, 116, 32, 100, 101, 108, 105, 118, 101, 114, 101, 100, 58]⟩] [.string (textS a.f0 a.f1)] rfl rfl (by omega))
         have a5 : W0.heap.size ≤ V7.heap.size := by omega
         obtain ⟨g5, hg5⟩ : ∃ g, g = V7.heap.size := ⟨_, rfl⟩
         rw [← hg5] at F5 z5 a5 ⊢
         clear hV5 hg5
         have s5_ : W0.heap.size ≤ V5.heap.size := hHeld.2.2.2.2.size
         replace F2 := Aside0.mk (Kd.R_below F2.out b5)
         replace F7 := Aside0.mk (below_blk F7.out b5)
         refine tk 6 ?v579 ?y579 ?r579
         case y579 => intro w_ hSw; (try dsimp only at hSw); go_simp; (try (with_reducible rfl))
         try simp only [Act.put, List.setIfInBounds_toArray, List.set_cons_zero, List.set_cons_succ]
         refine rdy (rs := [8]) ?_
         refine rc (fun K hK => ?k580) AllReadyH.nil
         case k580 =>
          have hb7 := F7.out
          have y0_ : V5.cell? ⟨g7, 0, none⟩ = some (.string ⟨#[]⟩) := by simp [World.cell?, hb7]
          have y1_ : V5.cell? ⟨g7, 1, none⟩ = some (.string ⟨#[]⟩) := by simp [World.cell?, hb7]
          have y2_ : V5.cell? ⟨g7, 2, none⟩ = some (.slice none 0 0) := by simp [World.cell?, hb7]
          have y3_ : V5.cell? ⟨g7, 3, none⟩ = some (.slice none 0 0) := by simp [World.cell?, hb7]
          have u0_ : V5.frozen? ⟨g7, 0, none⟩ = false := by simp [World.frozen?, hb7]
          have u1_ : V5.frozen? ⟨g7, 1, none⟩ = false := by simp [World.frozen?, hb7]
          have u2_ : V5.frozen? ⟨g7, 2, none⟩ = false := by simp [World.frozen?, hb7]
          have u3_ : V5.frozen? ⟨g7, 3, none⟩ = false := by simp [World.frozen?, hb7]
          go_simp
          generalize hV8 : World.setCell (World.setCell (World.setCell (World.setCell V5 ⟨g7, 0, none⟩ _) ⟨g7, 1, none⟩ _) ⟨g7, 2, none⟩ _) ⟨g7, 3, none⟩ _ = V8
          have G8 : V5.grownBy V8 (some g7) := by rw [← hV8]; exact grown_set4 _ _ _ _ _ _
          have F8 : V8.heap[g7]? = some (.cells #[.string ⟨#[]⟩, .string ⟨#[]⟩, .slice (some ⟨g2, 0, none⟩) 1 1, .slice (some ⟨g5, 0, none⟩) 2 2] 33 (0, 0)) := by rw [← hV8]; exact blk_set4 F7.out _ _ _ _
          have BB : Below W0.heap.size W0 V8 := by rw [← hV8]; exact bel_set (bel_set (bel_set (bel_set hHeld.2.2.2.2 _ a7) _ a7) _ a7) _ a7
          clear hV8
          refine hK.out _ _ ?h581 (fun hHeld => ?j581)
          case h581 => (obtain ⟨k0, k1, k2, k3, k4, k5, k6, _⟩ := HC.out _ BB; exact ⟨k1, k2, k5, k6, BB⟩)
          clear hK K
          try simp only [Act.put, List.setIfInBounds_toArray, List.set_cons_zero, List.set_cons_succ]
          replace F2 := Aside0.mk (R_else F2.out rfl G8 (Kd.R_ne F2.out F7.out (by decide)))
          replace F5 := Aside0.mk (R_else F5.out rfl G8 (Kd.R_ne F5.out F7.out (by decide)))
          replace F7 := Aside0.mk F8
          have s8_ : W0.heap.size ≤ V8.heap.size := hHeld.2.2.2.2.size
          refine wpAnyH_done (by kernel_rfl) ?_ _
          exact HKK.out g2 g5 g7 V8 ⟨BB, a7, blk_lt F7.out, F2.out, F5.out, F7.out⟩
      case k565 =>
       go_simp
       refine hK.out _ _ ?h582 (fun hHeld => ?j582)
       case h582 => exact HK.out _ _ (bel_alloc (Below.refl _ _) _) hHeld
       clear hK K
       try simp only [Act.put, List.setIfInBounds_toArray, List.set_cons_zero, List.set_cons_succ]
       generalize hV5 : World.alloc V4 _ = V5 at hHeld ⊢
       have b5 : Below V4.heap.size V4 V5 := by rw [← hV5]; exact bel_alloc (Below.refl _ _) _
       have z5 : V4.heap.size < V5.heap.size := by rw [← hV5]; simp
       have F5 := Aside0.mk (hV5 ▸ R_two Kd.string 9 V4 W0.heap.size ⟨#[110, 111, 116, 32, 100, 101, 108, 105, 118, 101, 114, 101, 100, 58]⟩ (textS a.f0 a.f1) [.string ⟨#[110, 111, 116, 32, 100, 101, 108, 105, 118, 101, 114, 101, 100, 58]⟩] [.string (textS a.f0 a.f1)] rfl rfl (by omega))
       have a5 : W0.heap.size ≤ V4.heap.size := by omega
       obtain ⟨g5, hg5⟩ : ∃ g, g = V4.heap.size := ⟨_, rfl⟩
       rw [← hg5] at F5 z5 a5 ⊢
       clear hV5 hg5
       have s5_ : W0.heap.size ≤ V5.heap.size := hHeld.2.2.2.2.size
       refine rdy (rs := [2, 7]) ?_
       refine rc (fun K hK => ?k583) (rc (fun K hK => ?k584) AllReadyH.nil)
       case k583 =>
        go_simp
        refine hK.out _ _ ?h585 (fun hHeld => ?j585)
        case h585 => exact HK.out _ _ (bel_alloc (Below.refl _ _) _) hHeld
        clear hK K
        try simp only [Act.put, List.setIfInBounds_toArray, List.set_cons_zero, List.set_cons_succ]
        generalize hV2 : World.alloc V5 _ = V2 at hHeld ⊢
        have b2 : Below V5.heap.size V5 V2 := by rw [← hV2]; exact bel_alloc (Below.refl _ _) _
        have z2 : V5.heap.size < V2.heap.size := by rw [← hV2]; simp
        have F2 := Aside0.mk (hV2 ▸ R_one kAddr 24 V5 W0.heap.size x.f1 [.string x.f1.f0, .string x.f1.f1] (kAddr_mkM _ _ _ x.f1) (by omega))
        have a2 : W0.heap.size ≤ V5.heap.size := by omega
        obtain ⟨g2, hg2⟩ : ∃ g, g = V5.heap.size := ⟨_, rfl⟩
        rw [← hg2] at F2 z2 a2 ⊢
        clear hV2 hg2
        have s2_ : W0.heap.size ≤ V2.heap.size := hHeld.2.2.2.2.size
        replace F5 := Aside0.mk (Kd.R_below F5.out b2)
        refine tk 6 ?v586 ?y586 ?r586
        case y586 => intro w_ hSw; (try dsimp only at hSw); go_simp; (try (with_reducible rfl))
        try simp only [Act.put, List.setIfInBounds_toArray, List.set_cons_zero, List.set_cons_succ]
        refine rdy (rs := [7]) ?_
        refine rc (fun K hK => ?k587) AllReadyH.nil
        case k587 =>
         go_simp
         refine hK.out _ _ ?h588 (fun hHeld => ?j588)
         case h588 => exact HK.out _ _ (bel_alloc (Below.refl _ _) _) hHeld
         clear hK K
         try simp only [Act.put, List.setIfInBounds_toArray, List.set_cons_zero, List.set_cons_succ]
         generalize hV7 : World.alloc V2 _ = V7 at hHeld ⊢
         have b7 : Below V2.heap.size V2 V7 := by rw [← hV7]; exact bel_alloc (Below.refl _ _) _
         have z7 : V2.heap.size < V7.heap.size := by rw [← hV7]; simp
         have F7 := Aside0.mk ((by rw [← hV7]; exact blk_new _ _ : V7.heap[V2.heap.size]? = some (.cells #[.string ⟨#[]⟩, .string ⟨#[]⟩, .slice none 0 0, .slice none 0 0] 33 (0, 0))))
         have a7 : W0.heap.size ≤ V2.heap.size := by omega
         obtain ⟨g7, hg7⟩ : ∃ g, g = V2.heap.size := ⟨_, rfl⟩
         rw [← hg7] at F7 z7 a7 ⊢
         clear hV7 hg7
         have s7_ : W0.heap.size ≤ V7.heap.size := hHeld.2.2.2.2.size
         replace F5 := Aside0.mk (Kd.R_below F5.out b7)
         replace F2 := Aside0.mk (Kd.R_below F2.out b7)
         refine rdy (rs := [8]) ?_
         refine rc (fun K hK => ?k589) AllReadyH.nil
         case k589 =>
          have hb7 := F7.out
          have y0_ : V7.cell? ⟨g7, 0, none⟩ = some (.string ⟨#[]⟩) := by simp [World.cell?, hb7]
          have y1_ : V7.cell? ⟨g7, 1, none⟩ = some (.string ⟨#[]⟩) := by simp [World.cell?, hb7]
          have y2_ : V7.cell? ⟨g7, 2, none⟩ = some (.slice none 0 0) := by simp [World.cell?, hb7]
          have y3_ : V7.cell? ⟨g7, 3, none⟩ = some (.slice none 0 0) := by simp [World.cell?, hb7]
          have u0_ : V7.frozen? ⟨g7, 0, none⟩ = false := by simp [World.frozen?, hb7]
          have u1_ : V7.frozen? ⟨g7, 1, none⟩ = false := by simp [World.frozen?, hb7]
          have u2_ : V7.frozen? ⟨g7, 2, none⟩ = false := by simp [World.frozen?, hb7]
          have u3_ : V7.frozen? ⟨g7, 3, none⟩ = false := by simp [World.frozen?, hb7]
          go_simp
          generalize hV8 : World.setCell (World.setCell (World.setCell (World.setCell V7 ⟨g7, 0, none⟩ _) ⟨g7, 1, none⟩ _) ⟨g7, 2, none⟩ _) ⟨g7, 3, none⟩ _ = V8
          have G8 : V7.grownBy V8 (some g7) := by rw [← hV8]; exact grown_set4 _ _ _ _ _ _
          have F8 : V8.heap[g7]? = some (.cells #[.string ⟨#[]⟩, .string ⟨#[]⟩, .slice (some ⟨g2, 0, none⟩) 1 1, .slice (some ⟨g5, 0, none⟩) 2 2] 33 (0, 0)) := by rw [← hV8]; exact blk_set4 F7.out _ _ _ _
          have BB : Below W0.heap.size W0 V8 := by rw [← hV8]; exact bel_set (bel_set (bel_set (bel_set hHeld.2.2.2.2 _ a7) _ a7) _ a7) _ a7
          clear hV8
          refine hK.out _ _ ?h590 (fun hHeld => ?j590)
          case h590 => (obtain ⟨k0, k1, k2, k3, k4, k5, k6, _⟩ := HC.out _ BB; exact ⟨k1, k2, k5, k6, BB⟩)
          clear hK K
          try simp only [Act.put, List.setIfInBounds_toArray, List.set_cons_zero, List.set_cons_succ]
          replace F2 := Aside0.mk (R_else F2.out rfl G8 (Kd.R_ne F2.out F7.out (by decide)))
          replace F5 := Aside0.mk (R_else F5.out rfl G8 (Kd.R_ne F5.out F7.out (by decide)))
          replace F7 := Aside0.mk F8
          have s8_ : W0.heap.size ≤ V8.heap.size := hHeld.2.2.2.2.size
          refine wpAnyH_done (by kernel_rfl) ?_ _
          exact HKK.out g2 g5 g7 V8 ⟨BB, a7, blk_lt F7.out, F2.out, F5.out, F7.out⟩
       case k584 =>
        go_simp
        refine hK.out _ _ ?h591 (fun hHeld => ?j591)
        case h591 => exact HK.out _ _ (bel_alloc (Below.refl _ _) _) hHeld
        clear hK K
        try simp only [Act.put, List.setIfInBounds_toArray, List.set_cons_zero, List.set_cons_succ]
        generalize hV7 : World.alloc V5 _ = V7 at hHeld ⊢
        have b7 : Below V5.heap.size V5 V7 := by rw [← hV7]; exact bel_alloc (Below.refl _ _) _
        have z7 : V5.heap.size < V7.heap.size := by rw [← hV7]; simp
        have F7 := Aside0.mk ((by rw [← hV7]; exact blk_new _ _ : V7.heap[V5.heap.size]? = some (.cells #[.string ⟨#[]⟩, .string ⟨#[]⟩, .slice none 0 0, .slice none 0 0] 33 (0, 0))))
        have a7 : W0.heap.size ≤ V5.heap.size := by omega
        obtain ⟨g7, hg7⟩ : ∃ g, g = V5.heap.size := ⟨_, rfl⟩
        rw [← hg7] at F7 z7 a7 ⊢
        clear hV7 hg7
        have s7_ : W0.heap.size ≤ V7.heap.size := hHeld.2.2.2.2.size
        replace F5 := Aside0.mk (Kd.R_below F5.out b7)
        refine rdy (rs := [2]) ?_
        refine rc (fun K hK => ?k592) AllReadyH.nil
        case k592 =>
         go_simp
         refine hK.out _ _ ?h593 (fun hHeld => ?j593)
         case h593 => exact HK.out _ _ (bel_alloc (Below.refl _ _) _) hHeld
         clear hK K
         try simp only [Act.put, List.setIfInBounds_toArray, List.set_cons_zero, List.set_cons_succ]
         generalize hV2 : World.alloc V7 _ = V2 at hHeld ⊢
         have b2 : Below V7.heap.size V7 V2 := by rw [← hV2]; exact bel_alloc (Below.refl _ _) _
         have z2 : V7.heap.size < V2.heap.size := by rw [← hV2]; simp
         have F2 := Aside0.mk (hV2 ▸ R_one kAddr 24 V7 W0.heap.size x.f1 [.string x.f1.f0, .string x.f1.f1] (kAddr_mkM _ _ _ x.f1) (by omega))
         have a2 : W0.heap.size ≤ V7.heap.size := by omega
         obtain ⟨g2, hg2⟩ : ∃ g, g = V7.heap.size := ⟨_, rfl⟩
         rw [← hg2] at F2 z2 a2 ⊢
         clear hV2 hg2
         have s2_ : W0.heap.size ≤ V2.heap.size := hHeld.2.2.2.2.size
         replace F5 := Aside0.mk (Kd.R_below F5.out b2)
         replace F7 := Aside0.mk (below_blk F7.out b2)
         refine tk 6 ?v594 ?y594 ?r594
         case y594 => intro w_ hSw; (try dsimp only at hSw); go_simp; (try (with_reducible rfl))
         try simp only [Act.put, List.setIfInBounds_toArray, List.set_cons_zero, List.set_cons_succ]
         refine rdy (rs := [8]) ?_
         refine rc (fun K hK => ?k595) AllReadyH.nil
         case k595 =>
          have hb7 := F7.out
          have y0_ : V2.cell? ⟨g7, 0, none⟩ = some (.string ⟨#[]⟩) := by simp [World.cell?, hb7]
          have y1_ : V2.cell? ⟨g7, 1, none⟩ = some (.string ⟨#[]⟩) := by simp [World.cell?, hb7]
          have y2_ : V2.cell? ⟨g7, 2, none⟩ = some (.slice none 0 0) := by simp [World.cell?, hb7]
          have y3_ : V2.cell? ⟨g7, 3, none⟩ = some (.slice none 0 0) := by simp [World.cell?, hb7]
          have u0_ : V2.frozen? ⟨g7, 0, none⟩ = false := by simp [World.frozen?, hb7]
          have u1_ : V2.frozen? ⟨g7, 1, none⟩ = false := by simp [World.frozen?, hb7]
          have u2_ : V2.frozen? ⟨g7, 2, none⟩ = false := by simp [World.frozen?, hb7]
          have u3_ : V2.frozen? ⟨g7, 3, none⟩ = false := by simp [World.frozen?, hb7]
          go_simp
          generalize hV8 : World.setCell (World.setCell (World.setCell (World.setCell V2 ⟨g7, 0, none⟩ _) ⟨g7, 1, none⟩ _) ⟨g7, 2, none⟩ _) ⟨g7, 3, none⟩ _ = V8
          have G8 : V2.grownBy V8 (some g7) := by rw [← hV8]; exact grown_set4 _ _ _ _ _ _
          have F8 : V8.heap[g7]? = some (.cells #[.string ⟨#[]⟩, .string ⟨#[]⟩, .slice (some ⟨g2, 0, none⟩) 1 1, .slice (some ⟨g5, 0, none⟩) 2 2] 33 (0, 0)) := by rw [← hV8]; exact blk_set4 F7.out _ _ _ _
          have BB : Below W0.heap.size W0 V8 := by rw [← hV8]; exact bel_set (bel_set (bel_set (bel_set hHeld.2.2.2.2 _ a7) _ a7) _ a7) _ a7
          clear hV8
          refine hK.out _ _ ?h596 (fun hHeld => ?j596)
          case h596 => (obtain ⟨k0, k1, k2, k3, k4, k5, k6, _⟩ := HC.out _ BB; exact ⟨k1, k2, k5, k6, BB⟩)
          clear hK K
          try simp only [Act.put, List.setIfInBounds_toArray, List.set_cons_zero, List.set_cons_succ]
          replace F2 := Aside0.mk (R_else F2.out rfl G8 (Kd.R_ne F2.out F7.out (by decide)))
          replace F5 := Aside0.mk (R_else F5.out rfl G8 (Kd.R_ne F5.out F7.out (by decide)))
          replace F7 := Aside0.mk F8
          have s8_ : W0.heap.size ≤ V8.heap.size := hHeld.2.2.2.2.size
          refine wpAnyH_done (by kernel_rfl) ?_ _
          exact HKK.out g2 g5 g7 V8 ⟨BB, a7, blk_lt F7.out, F2.out, F5.out, F7.out⟩
      case k566 =>
       go_simp
       refine hK.out _ _ ?h597 (fun hHeld => ?j597)
       case h597 => exact HK.out _ _ (bel_alloc (Below.refl _ _) _) hHeld
       clear hK K
       try simp only [Act.put, List.setIfInBounds_toArray, List.set_cons_zero, List.set_cons_succ]
       generalize hV7 : World.alloc V4 _ = V7 at hHeld ⊢
       have b7 : Below V4.heap.size V4 V7 := by rw [← hV7]; exact bel_alloc (Below.refl _ _) _
       have z7 : V4.heap.size < V7.heap.size := by rw [← hV7]; simp
       have F7 := Aside0.mk ((by rw [← hV7]; exact blk_new _ _ : V7.heap[V4.heap.size]? = some (.cells #[.string ⟨#[]⟩, .string ⟨#[]⟩, .slice none 0 0, .slice none 0 0] 33 (0, 0))))
       have a7 : W0.heap.size ≤ V4.heap.size := by omega
       obtain ⟨g7, hg7⟩ : ∃ g, g = V4.heap.size := ⟨_, rfl⟩
       rw [← hg7] at F7 z7 a7 ⊢
       clear hV7 hg7
       have s7_ : W0.heap.size ≤ V7.heap.size := hHeld.2.2.2.2.size
       refine rdy (rs := [2, 5]) ?_
       refine rc (fun K hK => ?k598) (rc (fun K hK => ?k599) AllReadyH.nil)
       case k598 =>
        go_simp
        refine hK.out _ _ ?h600 (fun hHeld => ?j600)
        case h600 => exact HK.out _ _ (bel_alloc (Below.refl _ _) _) hHeld
        clear hK K
        try simp only [Act.put, List.setIfInBounds_toArray, List.set_cons_zero, List.set_cons_succ]
        generalize hV2 : World.alloc V7 _ = V2 at hHeld ⊢
        have b2 : Below V7.heap.size V7 V2 := by rw [← hV2]; exact bel_alloc (Below.refl _ _) _
        have z2 : V7.heap.size < V2.heap.size := by rw [← hV2]; simp
        have F2 := Aside0.mk (hV2 ▸ R_one kAddr 24 V7 W0.heap.size x.f1 [.string x.f1.f0, .string x.f1.f1] (kAddr_mkM _ _ _ x.f1) (by omega))
        have a2 : W0.heap.size ≤ V7.heap.size := by omega
        obtain ⟨g2, hg2⟩ : ∃ g, g = V7.heap.size := ⟨_, rfl⟩
        rw [← hg2] at F2 z2 a2 ⊢
        clear hV2 hg2
        have s2_ : W0.heap.size ≤ V2.heap.size := hHeld.2.2.2.2.size
        replace F7 := Aside0.mk (below_blk F7.out b2)
        refine rdy (rs := [5]) ?_
        refine rc (fun K hK => ?k601) AllReadyH.nil
        case k601 =>
         go_simp
         refine hK.out _ _ ?h602 (fun hHeld => ?j602)
         case h602 => exact HK.out _ _ (bel_alloc (Below.refl _ _) _) hHeld
         clear hK K
         try simp only [Act.put, List.setIfInBounds_toArray, List.set_cons_zero, List.set_cons_succ]
         generalize hV5 : World.alloc V2 _ = V5 at hHeld ⊢
         have b5 : Below V2.heap.size V2 V5 := by rw [← hV5]; exact bel_alloc (Below.refl _ _) _
         have z5 : V2.heap.size < V5.heap.size := by rw [← hV5]; simp
         have F5 := Aside0.mk (hV5 ▸ R_two Kd.string 9 V2 W0.heap.size ⟨#[110, 111, 116, 32, 100, 101, 108, 105, 118, 101, 114, 101, 100, 58]⟩ (textS a.f0 a.f1) [.string ⟨#[110, 111, 116, 32, 100, 101, 108, 105, 118, 101, 114, 101, 100, 58]⟩] [.string (textS a.f0 a.f1)] rfl rfl (by omega))
         have a5 : W0.heap.size ≤ V2.heap.size := by omega
         obtain ⟨g5, hg5⟩ : ∃ g, g = V2.heap.size := ⟨_, rfl⟩
         rw [← hg5] at F5 z5 a5 ⊢
         clear hV5 hg5
         have s5_ : W0.heap.size ≤ V5.heap.size := hHeld.2.2.2.2.size
         replace F7 := Aside0.mk (below_blk F7.out b5)
         replace F2 := Aside0.mk (Kd.R_below F2.out b5)
         refine tk 6 ?v603 ?y603 ?r603
         case y603 => intro w_ hSw; (try dsimp only at hSw); go_simp; (try (with_reducible rfl))
         try simp only [Act.put, List.setIfInBounds_toArray, List.set_cons_zero, List.set_cons_succ]
         refine rdy (rs := [8]) ?_
         refine rc (fun K hK => ?k604) AllReadyH.nil
         case k604 =>
          have hb7 := F7.out
          have y0_ : V5.cell? ⟨g7, 0, none⟩ = some (.string ⟨#[]⟩) := by simp [World.cell?, hb7]
          have y1_ : V5.cell? ⟨g7, 1, none⟩ = some (.string ⟨#[]⟩) := by simp [World.cell?, hb7]
          have y2_ : V5.cell? ⟨g7, 2, none⟩ = some (.slice none 0 0) := by simp [World.cell?, hb7]
          have y3_ : V5.cell? ⟨g7, 3, none⟩ = some (.slice none 0 0) := by simp [World.cell?, hb7]
          have u0_ : V5.frozen? ⟨g7, 0, none⟩ = false := by simp [World.frozen?, hb7]
          have u1_ : V5.frozen? ⟨g7, 1, none⟩ = false := by simp [World.frozen?, hb7]
          have u2_ : V5.frozen? ⟨g7, 2, none⟩ = false := by simp [World.frozen?, hb7]
          have u3_ : V5.frozen? ⟨g7, 3, none⟩ = false := by simp [World.frozen?, hb7]
          go_simp
          generalize hV8 : World.setCell (World.setCell (World.setCell (World.setCell V5 ⟨g7, 0, none⟩ _) ⟨g7, 1, none⟩ _) ⟨g7, 2, none⟩ _) ⟨g7, 3, none⟩ _ = V8
          have G8 : V5.grownBy V8 (some g7) := by rw [← hV8]; exact grown_set4 _ _ _ _ _ _
          have F8 : V8.heap[g7]? = some (.cells #[.string ⟨#[]⟩, .string ⟨#[]⟩, .slice (some ⟨g2, 0, none⟩) 1 1, .slice (some ⟨g5, 0, none⟩) 2 2] 33 (0, 0)) := by rw [← hV8]; exact blk_set4 F7.out _ _ _ _
          have BB : Below W0.heap.size W0 V8 := by rw [← hV8]; exact bel_set (bel_set (bel_set (bel_set hHeld.2.2.2.2 _ a7) _ a7) _ a7) _ a7
          clear hV8
          refine hK.out _ _ ?h605 (fun hHeld => ?j605)
          case h605 => (obtain ⟨k0, k1, k2, k3, k4, k5, k6, _⟩ := HC.out _ BB; exact ⟨k1, k2, k5, k6, BB⟩)
          clear hK K
          try simp only [Act.put, List.setIfInBounds_toArray, List.set_cons_zero, List.set_cons_succ]
          replace F2 := Aside0.mk (R_else F2.out rfl G8 (Kd.R_ne F2.out F7.out (by decide)))
          replace F5 := Aside0.mk (R_else F5.out rfl G8 (Kd.R_ne F5.out F7.out (by decide)))
          replace F7 := Aside0.mk F8
          have s8_ : W0.heap.size ≤ V8.heap.size := hHeld.2.2.2.2.size
          refine wpAnyH_done (by kernel_rfl) ?_ _
          exact HKK.out g2 g5 g7 V8 ⟨BB, a7, blk_lt F7.out, F2.out, F5.out, F7.out⟩
       case k599 =>
        go_simp
        refine hK.out _ _ ?h606 (fun hHeld => ?j606)
        case h606 => exact HK.out _ _ (bel_alloc (Below.refl _ _) _) hHeld
        clear hK K
        try simp only [Act.put, List.setIfInBounds_toArray, List.set_cons_zero, List.set_cons_succ]
        generalize hV5 : World.alloc V7 _ = V5 at hHeld ⊢
        have b5 : Below V7.heap.size V7 V5 := by rw [← hV5]; exact bel_alloc (Below.refl _ _) _
        have z5 : V7.heap.size < V5.heap.size := by rw [← hV5]; simp
        have F5 := Aside0.mk (hV5 ▸ R_two Kd.string 9 V7 W0.heap.size ⟨#[110, 111, 116, 32, 100, 101, 108, 105, 118, 101, 114, 101, 100, 58]⟩ (textS a.f0 a.f1) [.string ⟨#[110, 111, 116, 32, 100, 101, 108, 105, 118, 101, 114, 101, 100, 58]⟩] [.string (textS a.f0 a.f1)] rfl rfl (by omega))
        have a5 : W0.heap.size ≤ V7.heap.size := by omega
        obtain ⟨g5, hg5⟩ : ∃ g, g = V7.heap.size := ⟨_, rfl⟩
        rw [← hg5] at F5 z5 a5 ⊢
        clear hV5 hg5
        have s5_ : W0.heap.size ≤ V5.heap.size := hHeld.2.2.2.2.size
        replace F7 := Aside0.mk (below_blk F7.out b5)
        refine rdy (rs := [2]) ?_
        refine rc (fun K hK => ?k607) AllReadyH.nil
        case k607 =>
         go_simp
         refine hK.out _ _ ?h608 (fun hHeld => ?j608)
         case h608 => exact HK.out _ _ (bel_alloc (Below.refl _ _) _) hHeld
         clear hK K
         try simp only [Act.put, List.setIfInBounds_toArray, List.set_cons_zero, List.set_cons_succ]
         generalize hV2 : World.alloc V5 _ = V2 at hHeld ⊢
         have b2 : Below V5.heap.size V5 V2 := by rw [← hV2]; exact bel_alloc (Below.refl _ _) _
         have z2 : V5.heap.size < V2.heap.size := by rw [← hV2]; simp
         have F2 := Aside0.mk (hV2 ▸ R_one kAddr 24 V5 W0.heap.size x.f1 [.string x.f1.f0, .string x.f1.f1] (kAddr_mkM _ _ _ x.f1) (by omega))
         have a2 : W0.heap.size ≤ V5.heap.size := by omega
         obtain ⟨g2, hg2⟩ : ∃ g, g = V5.heap.size := ⟨_, rfl⟩
         rw [← hg2] at F2 z2 a2 ⊢
         clear hV2 hg2
         have s2_ : W0.heap.size ≤ V2.heap.size := hHeld.2.2.2.2.size
         replace F7 := Aside0.mk (below_blk F7.out b2)
         replace F5 := Aside0.mk (Kd.R_below F5.out b2)
         refine tk 6 ?v609 ?y609 ?r609
         case y609 => intro w_ hSw; (try dsimp only at hSw); go_simp; (try (with_reducible rfl))
         try simp only [Act.put, List.setIfInBounds_toArray, List.set_cons_zero, List.set_cons_succ]
         refine rdy (rs := [8]) ?_
         refine rc (fun K hK => ?k610) AllReadyH.nil
         case k610 =>
          have hb7 := F7.out
          have y0_ : V2.cell? ⟨g7, 0, none⟩ = some (.string ⟨#[]⟩) := by simp [World.cell?, hb7]
          have y1_ : V2.cell? ⟨g7, 1, none⟩ = some (.string ⟨#[]⟩) := by simp [World.cell?, hb7]
          have y2_ : V2.cell? ⟨g7, 2, none⟩ = some (.slice none 0 0) := by simp [World.cell?, hb7]
          have y3_ : V2.cell? ⟨g7, 3, none⟩ = some (.slice none 0 0) := by simp [World.cell?, hb7]
          have u0_ : V2.frozen? ⟨g7, 0, none⟩ = false := by simp [World.frozen?, hb7]
          have u1_ : V2.frozen? ⟨g7, 1, none⟩ = false := by simp [World.frozen?, hb7]
          have u2_ : V2.frozen? ⟨g7, 2, none⟩ = false := by simp [World.frozen?, hb7]
          have u3_ : V2.frozen? ⟨g7, 3, none⟩ = false := by simp [World.frozen?, hb7]
          go_simp
          generalize hV8 : World.setCell (World.setCell (World.setCell (World.setCell V2 ⟨g7, 0, none⟩ _) ⟨g7, 1, none⟩ _) ⟨g7, 2, none⟩ _) ⟨g7, 3, none⟩ _ = V8
          have G8 : V2.grownBy V8 (some g7) := by rw [← hV8]; exact grown_set4 _ _ _ _ _ _
          have F8 : V8.heap[g7]? = some (.cells #[.string ⟨#[]⟩, .string ⟨#[]⟩, .slice (some ⟨g2, 0, none⟩) 1 1, .slice (some ⟨g5, 0, none⟩) 2 2] 33 (0, 0)) := by rw [← hV8]; exact blk_set4 F7.out _ _ _ _
          have BB : Below W0.heap.size W0 V8 := by rw [← hV8]; exact bel_set (bel_set (bel_set (bel_set hHeld.2.2.2.2 _ a7) _ a7) _ a7) _ a7
          clear hV8
          refine hK.out _ _ ?h611 (fun hHeld => ?j611)
          case h611 => (obtain ⟨k0, k1, k2, k3, k4, k5, k6, _⟩ := HC.out _ BB; exact ⟨k1, k2, k5, k6, BB⟩)
          clear hK K
          try simp only [Act.put, List.setIfInBounds_toArray, List.set_cons_zero, List.set_cons_succ]
          replace F2 := Aside0.mk (R_else F2.out rfl G8 (Kd.R_ne F2.out F7.out (by decide)))
          replace F5 := Aside0.mk (R_else F5.out rfl G8 (Kd.R_ne F5.out F7.out (by decide)))
          replace F7 := Aside0.mk F8
          have s8_ : W0.heap.size ≤ V8.heap.size := hHeld.2.2.2.2.size
          refine wpAnyH_done (by kernel_rfl) ?_ _
          exact HKK.out g2 g5 g7 V8 ⟨BB, a7, blk_lt F7.out, F2.out, F5.out, F7.out⟩
     case k536 =>
      go_simp
      refine hK.out _ _ ?h612 (fun hHeld => ?j612)
      case h612 => exact HK.out _ _ (bel_alloc (Below.refl _ _) _) hHeld
      clear hK K
      try simp only [Act.put, List.setIfInBounds_toArray, List.set_cons_zero, List.set_cons_succ]
      generalize hV7 : World.alloc V0 _ = V7 at hHeld ⊢
      have b7 : Below V0.heap.size V0 V7 := by rw [← hV7]; exact bel_alloc (Below.refl _ _) _
      have z7 : V0.heap.size < V7.heap.size := by rw [← hV7]; simp
      have F7 := Aside0.mk ((by rw [← hV7]; exact blk_new _ _ : V7.heap[V0.heap.size]? = some (.cells #[.string ⟨#[]⟩, .string ⟨#[]⟩, .slice none 0 0, .slice none 0 0] 33 (0, 0))))
      have a7 : W0.heap.size ≤ V0.heap.size := by omega
      obtain ⟨g7, hg7⟩ : ∃ g, g = V0.heap.size := ⟨_, rfl⟩
      rw [← hg7] at F7 z7 a7 ⊢
      clear hV7 hg7
      have s7_ : W0.heap.size ≤ V7.heap.size := hHeld.2.2.2.2.size
      refine rdy (rs := [2, 4]) ?_
      refine rc (fun K hK => ?k613) (rc (fun K hK => ?k614) AllReadyH.nil)
      case k613 =>
       go_simp
       refine hK.out _ _ ?h615 (fun hHeld => ?j615)
       case h615 => exact HK.out _ _ (bel_alloc (Below.refl _ _) _) hHeld
       clear hK K
       try simp only [Act.put, List.setIfInBounds_toArray, List.set_cons_zero, List.set_cons_succ]
       generalize hV2 : World.alloc V7 _ = V2 at hHeld ⊢
       have b2 : Below V7.heap.size V7 V2 := by rw [← hV2]; exact bel_alloc (Below.refl _ _) _
       have z2 : V7.heap.size < V2.heap.size := by rw [← hV2]; simp
       have F2 := Aside0.mk (hV2 ▸ R_one kAddr 24 V7 W0.heap.size x.f1 [.string x.f1.f0, .string x.f1.f1] (kAddr_mkM _ _ _ x.f1) (by omega))
       have a2 : W0.heap.size ≤ V7.heap.size := by omega
       obtain ⟨g2, hg2⟩ : ∃ g, g = V7.heap.size := ⟨_, rfl⟩
       rw [← hg2] at F2 z2 a2 ⊢
       clear hV2 hg2
       have s2_ : W0.heap.size ≤ V2.heap.size := hHeld.2.2.2.2.size
       replace F7 := Aside0.mk (below_blk F7.out b2)
       refine rdy (rs := [4]) ?_
       refine rc (fun K hK => ?k616) AllReadyH.nil
       case k616 =>
        go_simp
        refine ((htext V2)).mono ?_
        rintro e V4 ⟨rfl, b4⟩
        refine hK.out _ _ ?h617 (fun hHeld => ?j617)
        case h617 => exact HK.out _ _ b4 hHeld
        clear hK K
        try simp only [Act.put, List.setIfInBounds_toArray, List.set_cons_zero, List.set_cons_succ]
        have s4_ : W0.heap.size ≤ V4.heap.size := hHeld.2.2.2.2.size
        replace F7 := Aside0.mk (below_blk F7.out b4)
        replace F2 := Aside0.mk (Kd.R_below F2.out b4)
        refine rdy (rs := [5]) ?_
        refine rc (fun K hK => ?k618) AllReadyH.nil
        case k618 =>
         go_simp
         refine hK.out _ _ ?h619 (fun hHeld => ?j619)
         case h619 => exact HK.out _ _ (bel_alloc (Below.refl _ _) _) hHeld
         clear hK K
         try simp only [Act.put, List.setIfInBounds_toArray, List.set_cons_zero, List.set_cons_succ]
         generalize hV5 : World.alloc V4 _ = V5 at hHeld ⊢
         have b5 : Below V4.heap.size V4 V5 := by rw [← hV5]; exact bel_alloc (Below.refl _ _) _
         have z5 : V4.heap.size < V5.heap.size := by rw [← hV5]; simp
         have F5 := Aside0.mk (hV5 ▸ R_two Kd.string 9 V4 W0.heap.size ⟨#[110, 111, 116, 32, 100, 101, 108, 105, 118, 101, 114, 101, 100, 58]⟩ (textS a.f0 a.f1) [.string ⟨#[110, 111, 116, 32, 100, 101, 108, 105, 118, 101, 114, 101, 100, 58]⟩] [.string (textS a.f0 a.f1)] rfl rfl (by omega))
         have a5 : W0.heap.size ≤ V4.heap.size := by omega
         obtain ⟨g5, hg5⟩ : ∃ g, g = V4.heap.size := ⟨_, rfl⟩
         rw [← hg5] at F5 z5 a5 ⊢
         clear hV5 hg5
         have s5_ : W0.heap.size ≤ V5.heap.size := hHeld.2.2.2.2.size
         replace F7 := Aside0.mk (below_blk F7.out b5)
         replace F2 := Aside0.mk (Kd.R_below F2.out b5)
         refine tk 6 ?v620 ?y620 ?r620
         case y620 => intro w_ hSw; (try dsimp only at hSw); go_simp; (try (with_reducible rfl))
         try simp only [Act.put, List.setIfInBounds_toArray, List.set_cons_zero, List.set_cons_succ]
         refine rdy (rs := [8]) ?_
         refine rc (fun K hK => ?k621) AllReadyH.nil
         case k621 =>
          have hb7 := F7.out
          have y0_ : V5.cell? ⟨g7, 0, none⟩ = some (.string ⟨#[]⟩) := by simp [World.cell?, hb7]
          have y1_ : V5.cell? ⟨g7, 1, none⟩ = some (.string ⟨#[]⟩) := by simp [World.cell?, hb7]
          have y2_ : V5.cell? ⟨g7, 2, none⟩ = some (.slice none 0 0) := by simp [World.cell?, hb7]
          have y3_ : V5.cell? ⟨g7, 3, none⟩ = some (.slice none 0 0) := by simp [World.cell?, hb7]
          have u0_ : V5.frozen? ⟨g7, 0, none⟩ = false := by simp [World.frozen?, hb7]
          have u1_ : V5.frozen? ⟨g7, 1, none⟩ = false := by simp [World.frozen?, hb7]
          have u2_ : V5.frozen? ⟨g7, 2, none⟩ = false := by simp [World.frozen?, hb7]
          have u3_ : V5.frozen? ⟨g7, 3, none⟩ = false := by simp [World.frozen?, hb7]
          go_simp
          generalize hV8 : World.setCell (World.setCell (World.setCell (World.setCell V5 ⟨g7, 0, none⟩ _) ⟨g7, 1, none⟩ _) ⟨g7, 2, none⟩ _) ⟨g7, 3, none⟩ _ = V8
          have G8 : V5.grownBy V8 (some g7) := by rw [← hV8]; exact grown_set4 _ _ _ _ _ _
          have F8 : V8.heap[g7]? = some (.cells #[.string ⟨#[]⟩, .string ⟨#[]⟩, .slice (some ⟨g2, 0, none⟩) 1 1, .slice (some ⟨g5, 0, none⟩) 2 2] 33 (0, 0)) := by rw [← hV8]; exact blk_set4 F7.out _ _ _ _
          have BB : Below W0.heap.size W0 V8 := by rw [← hV8]; exact bel_set (bel_set (bel_set (bel_set hHeld.2.2.2.2 _ a7) _ a7) _ a7) _ a7
          clear hV8
          refine hK.out _ _ ?h622 (fun hHeld => ?j622)
          case h622 => (obtain ⟨k0, k1, k2, k3, k4, k5, k6, _⟩ := HC.out _ BB; exact ⟨k1, k2, k5, k6, BB⟩)
          clear hK K
          try simp only [Act.put, List.setIfInBounds_toArray, List.set_cons_zero, List.set_cons_succ]
          replace F2 := Aside0.mk (R_else F2.out rfl G8 (Kd.R_ne F2.out F7.out (by decide)))
          replace F5 := Aside0.mk (R_else F5.out rfl G8 (Kd.R_ne F5.out F7.out (by decide)))
          replace F7 := Aside0.mk F8
          have s8_ : W0.heap.size ≤ V8.heap.size := hHeld.2.2.2.2.size
          refine wpAnyH_done (by kernel_rfl) ?_ _
          exact HKK.out g2 g5 g7 V8 ⟨BB, a7, blk_lt F7.out, F2.out, F5.out, F7.out⟩
      case k614 =>
       go_simp
       refine ((htext V7)).mono ?_
       rintro e V4 ⟨rfl, b4⟩
       refine hK.out _ _ ?h623 (fun hHeld => ?j623)
       case h623 => exact HK.out _ _ b4 hHeld
       clear hK K
       try simp only [Act.put, List.setIfInBounds_toArray, List.set_cons_zero, List.set_cons_succ]
       have s4_ : W0.heap.size ≤ V4.heap.size := hHeld.2.2.2.2.size
       replace F7 := Aside0.mk (below_blk F7.out b4)
       refine rdy (rs := [2, 5]) ?_
       refine rc (fun K hK => ?k624) (rc (fun K hK => ?k625) AllReadyH.nil)
       case k624 =>
        go_simp
        refine hK.out _ _ ?h626 (fun hHeld => ?j626)
        case h626 => exact HK.out _ _ (bel_alloc (Below.refl _ _) _) hHeld
        clear hK K
        try simp only [Act.put, List.setIfInBounds_toArray, List.set_cons_zero, List.set_cons_succ]
        generalize hV2 : World.alloc V4 _ = V2 at hHeld ⊢
        have b2 : Below V4.heap.size V4 V2 := by rw [← hV2]; exact bel_alloc (Below.refl _ _) _
        have z2 : V4.heap.size < V2.heap.size := by rw [← hV2]; simp
        have F2 := Aside0.mk (hV2 ▸ R_one kAddr 24 V4 W0.heap.size x.f1 [.string x.f1.f0, .string x.f1.f1] (kAddr_mkM _ _ _ x.f1) (by omega))
        have a2 : W0.heap.size ≤ V4.heap.size := by omega
        obtain ⟨g2, hg2⟩ : ∃ g, g = V4.heap.size := ⟨_, rfl⟩
        rw [← hg2] at F2 z2 a2 ⊢
        clear hV2 hg2
        have s2_ : W0.heap.size ≤ V2.heap.size := hHeld.2.2.2.2.size
        replace F7 := Aside0.mk (below_blk F7.out b2)
        refine rdy (rs := [5]) ?_
        refine rc (fun K hK => ?k627) AllReadyH.nil
        case k627 =>
         go_simp
         refine hK.out _ _ ?h628 (fun hHeld => ?j628)
         case h628 => exact HK.out _ _ (bel_alloc (Below.refl _ _) _) hHeld
         clear hK K
         try simp only [Act.put, List.setIfInBounds_toArray, List.set_cons_zero, List.set_cons_succ]
         generalize hV5 : World.alloc V2 _ = V5 at hHeld ⊢
         have b5 : Below V2.heap.size V2 V5 := by rw [← hV5]; exact bel_alloc (Below.refl _ _) _
         have z5 : V2.heap.size < V5.heap.size := by rw [← hV5]; simp
         have F5 := Aside0.mk (hV5 ▸ R_two Kd.string 9 V2 W0.heap.size ⟨#[110, 111, 116, 32, 100, 101, 108, 105, 118, 101, 114, 101, 100, 58]⟩ (textS a.f0 a.f1) [.string ⟨#[110, 111, 116, 32, 100, 101, 108, 105, 118, 101, 114, 101, 100, 58]⟩] [.string (textS a.f0 a.f1)] rfl rfl (by omega))
         have a5 : W0.heap.size ≤ V2.heap.size := by omega
         obtain ⟨g5, hg5⟩ : ∃ g, g = V2.heap.size := ⟨_, rfl⟩
         rw [← hg5] at F5 z5 a5 ⊢
         clear hV5 hg5
         have s5_ : W0.heap.size ≤ V5.heap.size := hHeld.2.2.2.2.size
         replace F7 := Aside0.mk (below_blk F7.out b5)
         replace F2 := Aside0.mk (Kd.R_below F2.out b5)
         refine tk 6 ?v629 ?y629 ?r629
         case y629 => intro w_ hSw; (try dsimp only at hSw); go_simp; (try (with_reducible rfl))
         try simp only [Act.put, List.setIfInBounds_toArray, List.set_cons_zero, List.set_cons_succ]
         refine rdy (rs := [8]) ?_
         refine rc (fun K hK => ?k630) AllReadyH.nil
         case k630 =>
          have hb7 := F7.out
          have y0_ : V5.cell? ⟨g7, 0, none⟩ = some (.string ⟨#[]⟩) := by simp [World.cell?, hb7]
          have y1_ : V5.cell? ⟨g7, 1, none⟩ = some (.string ⟨#[]⟩) := by simp [World.cell?, hb7]
          have y2_ : V5.cell? ⟨g7, 2, none⟩ = some (.slice none 0 0) := by simp [World.cell?, hb7]
          have y3_ : V5.cell? ⟨g7, 3, none⟩ = some (.slice none 0 0) := by simp [World.cell?, hb7]
          have u0_ : V5.frozen? ⟨g7, 0, none⟩ = false := by simp [World.frozen?, hb7]
          have u1_ : V5.frozen? ⟨g7, 1, none⟩ = false := by simp [World.frozen?, hb7]
          have u2_ : V5.frozen? ⟨g7, 2, none⟩ = false := by simp [World.frozen?, hb7]
          have u3_ : V5.frozen? ⟨g7, 3, none⟩ = false := by simp [World.frozen?, hb7]
          go_simp
          generalize hV8 : World.setCell (World.setCell (World.setCell (World.setCell V5 ⟨g7, 0, none⟩ _) ⟨g7, 1, none⟩ _) ⟨g7, 2, none⟩ _) ⟨g7, 3, none⟩ _ = V8
          have G8 : V5.grownBy V8 (some g7) := by rw [← hV8]; exact grown_set4 _ _ _ _ _ _
          have F8 : V8.heap[g7]? = some (.cells #[.string ⟨#[]⟩, .string ⟨#[]⟩, .slice (some ⟨g2, 0, none⟩) 1 1, .slice (some ⟨g5, 0, none⟩) 2 2] 33 (0, 0)) := by rw [← hV8]; exact blk_set4 F7.out _ _ _ _
          have BB : Below W0.heap.size W0 V8 := by rw [← hV8]; exact bel_set (bel_set (bel_set (bel_set hHeld.2.2.2.2 _ a7) _ a7) _ a7) _ a7
          clear hV8
          refine hK.out _ _ ?h631 (fun hHeld => ?j631)
          case h631 => (obtain ⟨k0, k1, k2, k3, k4, k5, k6, _⟩ := HC.out _ BB; exact ⟨k1, k2, k5, k6, BB⟩)
          clear hK K
          try simp only [Act.put, List.setIfInBounds_toArray, List.set_cons_zero, List.set_cons_succ]
          replace F2 := Aside0.mk (R_else F2.out rfl G8 (Kd.R_ne F2.out F7.out (by decide)))
          replace F5 := Aside0.mk (R_else F5.out rfl G8 (Kd.R_ne F5.out F7.out (by decide)))
          replace F7 := Aside0.mk F8
          have s8_ : W0.heap.size ≤ V8.heap.size := hHeld.2.2.2.2.size
          refine wpAnyH_done (by kernel_rfl) ?_ _
          exact HKK.out g2 g5 g7 V8 ⟨BB, a7, blk_lt F7.out, F2.out, F5.out, F7.out⟩
       case k625 =>
        go_simp
        refine hK.out _ _ ?h632 (fun hHeld => ?j632)
        case h632 => exact HK.out _ _ (bel_alloc (Below.refl _ _) _) hHeld
        clear hK K
        try simp only [Act.put, List.setIfInBounds_toArray, List.set_cons_zero, List.set_cons_succ]
        generalize hV5 : World.alloc V4 _ = V5 at hHeld ⊢
        have b5 : Below V4.heap.size V4 V5 := by rw [← hV5]; exact bel_alloc (Below.refl _ _) _
        have z5 : V4.heap.size < V5.heap.size := by rw [← hV5]; simp
        have F5 := Aside0.mk (hV5 ▸ R_two Kd.string 9 V4 W0.heap.size ⟨#[110, 111, 116, 32, 100, 101, 108, 105, 118, 101, 114, 101, 100, 58]⟩ (textS a.f0 a.f1) [.string ⟨#[110, 111, 116, 32, 100, 101, 108, 105, 118, 101, 114, 101, 100, 58]⟩] [.string (textS a.f0 a.f1)] rfl rfl (by omega))
        have a5 : W0.heap.size ≤ V4.heap.size := by omega
        obtain ⟨g5, hg5⟩ : ∃ g, g = V4.heap.size := ⟨_, rfl⟩
        rw [← hg5] at F5 z5 a5 ⊢
        clear hV5 hg5
        have s5_ : W0.heap.size ≤ V5.heap.size := hHeld.2.2.2.2.size
        replace F7 := Aside0.mk (below_blk F7.out b5)
        refine rdy (rs := [2]) ?_
        refine rc (fun K hK => ?k633) AllReadyH.nil
        case k633 =>
         go_simp
         refine hK.out _ _ ?h634 (fun hHeld => ?j634)
         case h634 => exact HK.out _ _ (bel_alloc (Below.refl _ _) _) hHeld
         clear hK K
         try simp only [Act.put, List.setIfInBounds_toArray, List.set_cons_zero, List.set_cons_succ]
         generalize hV2 : World.alloc V5 _ = V2 at hHeld ⊢
         have b2 : Below V5.heap.size V5 V2 := by rw [← hV2]; exact bel_alloc (Below.refl _ _) _
         have z2 : V5.heap.size < V2.heap.size := by rw [← hV2]; simp
         have F2 := Aside0.mk (hV2 ▸ R_one kAddr 24 V5 W0.heap.size x.f1 [.string x.f1.f0, .string x.f1.f1] (kAddr_mkM _ _ _ x.f1) (by omega))
         have a2 : W0.heap.size ≤ V5.heap.size := by omega
         obtain ⟨g2, hg2⟩ : ∃ g, g = V5.heap.size := ⟨_, rfl⟩
         rw [← hg2] at F2 z2 a2 ⊢
         clear hV2 hg2
         have s2_ : W0.heap.size ≤ V2.heap.size := hHeld.2.2.2.2.size
         replace F7 := Aside0.mk (below_blk F7.out b2)
         replace F5 := Aside0.mk (Kd.R_below F5.out b2)
         refine tk 6 ?v635 ?y635 ?r635
         case y635 => intro w_ hSw; (try dsimp only at hSw); go_simp; (try (with_reducible rfl))
         try simp only [Act.put, List.setIfInBounds_toArray, List.set_cons_zero, List.set_cons_succ]
         refine rdy (rs := [8]) ?_
         refine rc (fun K hK => ?k636) AllReadyH.nil
         case k636 =>
          have hb7 := F7.out
          have y0_ : V2.cell? ⟨g7, 0, none⟩ = some (.string ⟨#[]⟩) := by simp [World.cell?, hb7]
          have y1_ : V2.cell? ⟨g7, 1, none⟩ = some (.string ⟨#[]⟩) := by simp [World.cell?, hb7]
          have y2_ : V2.cell? ⟨g7, 2, none⟩ = some (.slice none 0 0) := by simp [World.cell?, hb7]
          have y3_ : V2.cell? ⟨g7, 3, none⟩ = some (.slice none 0 0) := by simp [World.cell?, hb7]
          have u0_ : V2.frozen? ⟨g7, 0, none⟩ = false := by simp [World.frozen?, hb7]
          have u1_ : V2.frozen? ⟨g7, 1, none⟩ = false := by simp [World.frozen?, hb7]
          have u2_ : V2.frozen? ⟨g7, 2, none⟩ = false := by simp [World.frozen?, hb7]
          have u3_ : V2.frozen? ⟨g7, 3, none⟩ = false := by simp [World.frozen?, hb7]
          go_simp
          generalize hV8 : World.setCell (World.setCell (World.setCell (World.setCell V2 ⟨g7, 0, none⟩ _) ⟨g7, 1, none⟩ _) ⟨g7, 2, none⟩ _) ⟨g7, 3, none⟩ _ = V8
          have G8 : V2.grownBy V8 (some g7) := by rw [← hV8]; exact grown_set4 _ _ _ _ _ _
          have F8 : V8.heap[g7]? = some (.cells #[.string ⟨#[]⟩, .string ⟨#[]⟩, .slice (some ⟨g2, 0, none⟩) 1 1, .slice (some ⟨g5, 0, none⟩) 2 2] 33 (0, 0)) := by rw [← hV8]; exact blk_set4 F7.out _ _ _ _
          have BB : Below W0.heap.size W0 V8 := by rw [← hV8]; exact bel_set (bel_set (bel_set (bel_set hHeld.2.2.2.2 _ a7) _ a7) _ a7) _ a7
          clear hV8
          refine hK.out _ _ ?h637 (fun hHeld => ?j637)
          case h637 => (obtain ⟨k0, k1, k2, k3, k4, k5, k6, _⟩ := HC.out _ BB; exact ⟨k1, k2, k5, k6, BB⟩)
          clear hK K
          try simp only [Act.put, List.setIfInBounds_toArray, List.set_cons_zero, List.set_cons_succ]
          replace F2 := Aside0.mk (R_else F2.out rfl G8 (Kd.R_ne F2.out F7.out (by decide)))
          replace F5 := Aside0.mk (R_else F5.out rfl G8 (Kd.R_ne F5.out F7.out (by decide)))
          replace F7 := Aside0.mk F8
          have s8_ : W0.heap.size ≤ V8.heap.size := hHeld.2.2.2.2.size
          refine wpAnyH_done (by kernel_rfl) ?_ _
          exact HKK.out g2 g5 g7 V8 ⟨BB, a7, blk_lt F7.out, F2.out, F5.out, F7.out⟩
    case hk =>
     intro g2 g5 g7 V ⟨BV, a7, l7, f2, f5, f7⟩
     have F2 := Aside0.mk f2
     have F5 := Aside0.mk f5
     have F7 := Aside0.mk f7
     clear f2 f5 f7 HST HK join
     obtain ⟨m0_, m1_, m2_, m3_, m4_, m5_, m6_, m7_, m8_, m9_, m10_, m11_, m12_, m13_, m14_⟩ := HC.out _ BV
     have y0_ : V.cell? ⟨g7, 0, none⟩ = some (.string ⟨#[]⟩) := (by simp [World.cell?, F7.out]); have y1_ : V.cell? ⟨g7, 1, none⟩ = some (.string ⟨#[]⟩) := (by simp [World.cell?, F7.out]); have y2_ : V.cell? ⟨g7, 2, none⟩ = some (.slice (some ⟨g2, 0, none⟩) 1 1) := (by simp [World.cell?, F7.out]); have y3_ : V.cell? ⟨g7, 3, none⟩ = some (.slice (some ⟨g5, 0, none⟩) 2 2) := (by simp [World.cell?, F7.out]); have u0_ : V.frozen? ⟨g7, 0, none⟩ = false := (by simp [World.frozen?, F7.out]); have u1_ : V.frozen? ⟨g7, 1, none⟩ = false := (by simp [World.frozen?, F7.out]); have u2_ : V.frozen? ⟨g7, 2, none⟩ = false := (by simp [World.frozen?, F7.out]); have u3_ : V.frozen? ⟨g7, 3, none⟩ = false := (by simp [World.frozen?, F7.out])
     have ne1 : ¬ g7 = w.heap.size + 1 + 1 := by omega
     have ne2 : ¬ w.heap.size + 1 + 1 = g7 := by omega
     generalize markOf x.f3 = k at hmark HM
     by_cases hk : k = ⟨#[]⟩
     ·subst hk
      obtain rfl : M = ⟨⟨⟨#[]⟩, ⟨#[]⟩⟩, [x.f1], [⟨#[110, 111, 116, 32, 100, 101, 108, 105, 118, 101, 114, 101, 100, 58]⟩, textS a.f0 a.f1]⟩ := by rw [HM.out]; rfl
      go_wp2_with (go_at_call 33; refine (hmark _ (bel_then HB0.out BV)).mono ?_; rintro e w4 ⟨rfl, b4⟩; have B4 : Below W0.heap.size W0 w4 := bel_then BV b4; obtain ⟨n0_, n1_, n2_, n3_, n4_, n5_, n6_, n7_, n8_, n9_, n10_, n11_, n12_, n13_, n14_⟩ := HC.out _ B4; replace F2 := Aside0.mk (Kd.R_below F2.out b4); replace F5 := Aside0.mk (Kd.R_below F5.out b4); replace F7 := Aside0.mk (below_blk F7.out b4); clear y0_ y1_ y2_ y3_ u0_ u1_ u2_ u3_; have y0_ : w4.cell? ⟨g7, 0, none⟩ = some (.string ⟨#[]⟩) := (by simp [World.cell?, F7.out]); have y1_ : w4.cell? ⟨g7, 1, none⟩ = some (.string ⟨#[]⟩) := (by simp [World.cell?, F7.out]); have y2_ : w4.cell? ⟨g7, 2, none⟩ = some (.slice (some ⟨g2, 0, none⟩) 1 1) := (by simp [World.cell?, F7.out]); have y3_ : w4.cell? ⟨g7, 3, none⟩ = some (.slice (some ⟨g5, 0, none⟩) 2 2) := (by simp [World.cell?, F7.out]); have u0_ : w4.frozen? ⟨g7, 0, none⟩ = false := (by simp [World.frozen?, F7.out]); have u1_ : w4.frozen? ⟨g7, 1, none⟩ = false := (by simp [World.frozen?, F7.out]); have u2_ : w4.frozen? ⟨g7, 2, none⟩ = false := (by simp [World.frozen?, F7.out]); have u3_ : w4.frozen? ⟨g7, 3, none⟩ = false := (by simp [World.frozen?, F7.out]); have l4 := blk_lt F7.out; clear b4)
      refine bodyPost_ret (v := .tuple #[.agg #[.string ⟨#[]⟩, .string ⟨#[]⟩, .slice (some ⟨g2, 0, none⟩) 1 1, .slice (some ⟨g5, 0, none⟩) 2 2], .bool true]) ?hrA rfl ?hpA
      case hrA => simp [results, Tryd.results7, go_sem, n7_, n8_, n9_, n10_, n11_, n12_, n13_, n14_]
      case hpA => exact ⟨_, _, _, _, rfl, Kd.R_lower (base := W0.heap.size) (by (with_reducible repeat (first | exact F2.out | refine R_setLow ?_ _ ?_)); all_goals omega) (by omega), Kd.R_lower (base := W0.heap.size) (by (with_reducible repeat (first | exact F5.out | refine R_setLow ?_ _ ?_)); all_goals omega) (by omega), by (with_reducible repeat (first | exact (bel_then HB0.out B4) | refine bel_alloc ?_ _ | refine bel_set ?_ _ ?_ | refine blw_drewN ?_ _ | refine Below.drew ?_)); all_goals (first | (simp; done) | (simp; omega) | omega)⟩
     ·have hk2 : (k.toList == ([] : List UInt8)) = false := by
       rw [beq_eq_false_iff_ne, bl]
       intro h
       apply hk
       cases k
       simp at h
       simp [h]
      obtain rfl : M = ⟨⟨⟨#[]⟩, ⟨#[]⟩⟩, [x.f1], [⟨#[110, 111, 116, 32, 100, 101, 108, 105, 118, 101, 114, 101, 100, 58]⟩, textS a.f0 a.f1] ++ [k]⟩ := by rw [HM.out, if_neg hk]; rfl
      have HKN := Lib.hid hk
      clear hk
      go_wp2_with (first | (go_at_call 33; refine (hmark _ (bel_then HB0.out BV)).mono ?_; rintro e w4 ⟨rfl, b4⟩; have B4 : Below W0.heap.size W0 w4 := bel_then BV b4; obtain ⟨n0_, n1_, n2_, n3_, n4_, n5_, n6_, n7_, n8_, n9_, n10_, n11_, n12_, n13_, n14_⟩ := HC.out _ B4; replace F2 := Aside0.mk (Kd.R_below F2.out b4); replace F5 := Aside0.mk (Kd.R_below F5.out b4); replace F7 := Aside0.mk (below_blk F7.out b4); clear y0_ y1_ y2_ y3_ u0_ u1_ u2_ u3_; have y0_ : w4.cell? ⟨g7, 0, none⟩ = some (.string ⟨#[]⟩) := (by simp [World.cell?, F7.out]); have y1_ : w4.cell? ⟨g7, 1, none⟩ = some (.string ⟨#[]⟩) := (by simp [World.cell?, F7.out]); have y2_ : w4.cell? ⟨g7, 2, none⟩ = some (.slice (some ⟨g2, 0, none⟩) 1 1) := (by simp [World.cell?, F7.out]); have y3_ : w4.cell? ⟨g7, 3, none⟩ = some (.slice (some ⟨g5, 0, none⟩) 2 2) := (by simp [World.cell?, F7.out]); have u0_ : w4.frozen? ⟨g7, 0, none⟩ = false := (by simp [World.frozen?, F7.out]); have u1_ : w4.frozen? ⟨g7, 1, none⟩ = false := (by simp [World.frozen?, F7.out]); have u2_ : w4.frozen? ⟨g7, 2, none⟩ = false := (by simp [World.frozen?, F7.out]); have u3_ : w4.frozen? ⟨g7, 3, none⟩ = false := (by simp [World.frozen?, F7.out]); have l4 := blk_lt F7.out; clear b4) | ((with_reducible refine gate_builtin (b := .append) (xs := #[.tmp 35, .tmp 37]) rfl ?_); (try (refine gate_guard (by rfl) ?_; dsimp only)); at_builtin; (refine Kd.R_append Kd.string (w0 := W0) (W0.heap.size) rfl (.tmp 35) (.tmp 37) 26 9 (.string ⟨#[]⟩) 16 rfl Tryd.underlying26 info9 rfl (by decide) (by omega) (.slice (some ⟨g5, 0, none⟩) 2 2) ([⟨#[110, 111, 116, 32, 100, 101, 108, 105, 118, 101, 114, 101, 100, 58]⟩, textS a.f0 a.f1]) (k) [.string k] (fun _ => True) (fun _ => False) rfl rfl rfl (fun _ hk => hk.elim) (fun _ _ => trivial) ?aO9 ?aB9 ?aS9 ?aL9 ?_); (case aB9 => exact (by (with_reducible repeat (first | exact B4 | refine bel_alloc ?_ _ | refine bel_set ?_ _ ?_ | refine blw_drewN ?_ _ | refine Below.drew ?_)); all_goals (first | (simp; done) | (simp; omega) | omega))); (case aO9 => exact F5.out); (case aS9 => (refine Below.size (B := (W0.heap.size)) (w := W0) ?_; exact (by (with_reducible repeat (first | exact B4 | refine bel_alloc ?_ _ | refine bel_set ?_ _ ?_ | refine blw_drewN ?_ _ | refine Below.drew ?_)); all_goals (first | (simp; done) | (simp; omega) | omega)))); (case aL9 => exact (by simp)); intro v9 w9 ho hb hg hat; have HO9 := Aside0.mk ho; have B9 := hb; replace F7 := Aside0.mk ((hg.block g7 l4 (Kd.R_ne F5.out F7.out (by decide))).trans F7.out); replace F2 := Aside0.mk (Kd.R_over' F2.out (Kd.R_typed F5.out) (by decide) hg); obtain ⟨vB, vd, hv9⟩ := Kd.R_slice ho; subst hv9; clear y0_ y1_ y2_ y3_ u0_ u1_ u2_ u3_; have y0_ : w9.cell? ⟨g7, 0, none⟩ = some (.string ⟨#[]⟩) := (by simp [World.cell?, F7.out]); have y1_ : w9.cell? ⟨g7, 1, none⟩ = some (.string ⟨#[]⟩) := (by simp [World.cell?, F7.out]); have y2_ : w9.cell? ⟨g7, 2, none⟩ = some (.slice (some ⟨g2, 0, none⟩) 1 1) := (by simp [World.cell?, F7.out]); have y3_ : w9.cell? ⟨g7, 3, none⟩ = some (.slice (some ⟨g5, 0, none⟩) 2 2) := (by simp [World.cell?, F7.out]); have u0_ : w9.frozen? ⟨g7, 0, none⟩ = false := (by simp [World.frozen?, F7.out]); have u1_ : w9.frozen? ⟨g7, 1, none⟩ = false := (by simp [World.frozen?, F7.out]); have u2_ : w9.frozen? ⟨g7, 2, none⟩ = false := (by simp [World.frozen?, F7.out]); have u3_ : w9.frozen? ⟨g7, 3, none⟩ = false := (by simp [World.frozen?, F7.out]); obtain ⟨q0_, q1_, q2_, q3_, q4_, q5_, q6_, q7_, q8_, q9_, q10_, q11_, q12_, q13_, q14_⟩ := HC.out _ B9; clear ho hb hg hat))
      have ho9 : Kd.R Kd.string 9 w9 W0.heap.size (fun _ => True) (.slice vB 3 vd) [⟨#[110, 111, 116, 32, 100, 101, 108, 105, 118, 101, 114, 101, 100, 58]⟩, textS a.f0 a.f1, k] := HO9.out
      have F2b := Aside0.mk (R_else F2.out rfl (grown_set1 w9 g7 3 (.slice vB 3 vd)) (Kd.R_ne F2.out F7.out (by decide)))
      have F5b := Aside0.mk (R_else ho9 rfl (grown_set1 w9 g7 3 (.slice vB 3 vd)) (Kd.R_ne ho9 F7.out (by decide)))
      refine bodyPost_ret (v := .tuple #[.agg #[.string ⟨#[]⟩, .string ⟨#[]⟩, .slice (some ⟨g2, 0, none⟩) 1 1, .slice vB 3 vd], .bool true]) ?hrB rfl ?hpB
      case hrB => simp [results, Tryd.results7, go_sem, q7_, q8_, q9_, q10_, q11_, q12_, q13_, q14_, ne1, ne2]
      case hpB => exact ⟨_, _, _, _, rfl, Kd.R_lower (base := W0.heap.size) (by (with_reducible repeat (first | exact F2b.out | refine R_setLow ?_ _ ?_)); all_goals omega) (by omega), Kd.R_lower (base := W0.heap.size) (by (with_reducible repeat (first | exact F5b.out | refine R_setLow ?_ _ ?_)); all_goals omega) (by omega), by (with_reducible repeat (first | exact (bel_then HB0.out B9) | refine bel_alloc ?_ _ | refine bel_set ?_ _ ?_ | refine blw_drewN ?_ _ | refine Below.drew ?_)); all_goals (first | (simp; done) | (simp; omega) | omega)⟩
 ·obtain rfl : q = false := HO.out
  obtain rfl : M = zMailS := HM.out
  go_wp2_with (go_at_call 29; refine (h1 _).mono ?_; rintro e w1 ⟨rfl, b1⟩; have B1 : Below W0.heap.size W0 w1 := bel_then (by (with_reducible repeat (first | exact (Below.refl _ _) | refine bel_alloc ?_ _ | refine bel_set ?_ _ ?_ | refine blw_drewN ?_ _ | refine Below.drew ?_)); all_goals (first | (simp; done) | (simp; omega) | omega)) b1; obtain ⟨c0_, c1_, c2_, c3_, c4_, c5_, c6_, c7_, c8_, c9_, c10_, c11_, c12_, c13_, c14_⟩ := HC.out _ B1; clear b1)
  refine bodyPost_ret (v := .tuple #[.agg #[.string ⟨#[]⟩, .string ⟨#[]⟩, .slice none 0 0, .slice none 0 0], .bool false]) ?hr rfl ?hp
  case hr => simp [results, Tryd.results7, go_sem, c7_, c8_, c9_, c10_, c11_, c12_, c13_, c14_]
  case hp => exact ⟨none, 0, none, 0, rfl, Kd.R_nil _ _ _ _ _, Kd.R_nil _ _ _ _ _, by (with_reducible repeat (first | exact (bel_then HB0.out B1) | refine bel_alloc ?_ _ | refine bel_set ?_ _ ?_ | refine blw_drewN ?_ _ | refine Below.drew ?_)); all_goals (first | (simp; done) | (simp; omega) | omega)⟩

end Go.Proofs.YtiaibgkpohmihaaDoor
