/- For every list of rules and every mail the program's SieveFor answers what the reference's answers, and leaves its arguments (laws.FnExactSieveFor returns true). Conditions: none beyond the given card's own (the two listed tables of unicode/utf8 as the program's text lays them). -/
import Derived.Test.YtomcaichidepnaaDoorCards
import Derived.Test.YtomcaichidepnaaDoorTie
import Derived.Test.YtomcaichidepnaaDoorOpen
import Derived.Test.YtomcaichidepnaaDoorLawFor
import Derived.WalkKit
import Derived.ProofKit
import Derived.OpenShut
import Derived.ChangeOld
import Derived.Carry
import Derived.Deep.DeepHandedRow
import Derived.Lib.LaidTab
import Derived.Shelf.Vars
namespace Go.Proofs.YtomcaichidepnaaDoor
open Go.ChangeShapes Go.WideShapes Go.ChangeAt Go.RowKit Go.Proofs.YtomcaichidepnaaDoorW.PrintWords P
set_option linter.unusedVariables false

theorem own : ownKnob Tryd.prog.godebug = none := by kernel_rfl
theorem laidOut : laidOutB Tryd.prog = true := by kernel_rfl
/-- A world for the witness: the settled one, the two tables holding what the program's text lays. -/
def litV : Lit → Value
  | .int k n => .int k n
  | .bool b => .bool b
  | _ => undef
def flat1 : DataW Unit → List Value
  | .agg ps => ps.map fun
    | .lit l => litV l
    | _ => undef
  | _ => []
def flat2 : DataW Unit → List Value
  | .agg ps => ps.flatMap flat1
  | _ => []
def lay1 : Obj → Obj
  | .cells _ t frozen => .cells (flat1 Rows.laid_unicode_utf8_first).toArray t frozen
  | o => o
def lay2 : Obj → Obj
  | .cells _ t frozen => .cells (flat2 Rows.laid_unicode_utf8_acceptRanges).toArray t frozen
  | o => o
noncomputable def laidWorld (os : Os) : World :=
  { World.holding Tryd.prog os ⟨#[], #[], []⟩ with heap := ((World.holding Tryd.prog os ⟨#[], #[], []⟩).heap.modify 1 lay1).modify 2 lay2 }
theorem laid_met (os : Os) : laidMet Tryd.prog Rows.fnExactSieveForRow.laid ((laidWorld os).forCall (fun _ _ => 0) ⟨#[], #[.slice none 0 0, .agg #[.string ⟨#[]⟩, .string ⟨#[]⟩, .slice none 0 0, .slice none 0 0]], []⟩).memory :=
  laidMet_of_run' 8 (by kernel_rfl) (by kernel_rfl)
theorem reads (os : Os) {H : Type} (enc : TypeId × Value → H) : ∃ places, DataW.whole enc Tryd.prog ((laidWorld os).forCall (fun _ _ => 0) ⟨#[], #[.slice none 0 0, .agg #[.string ⟨#[]⟩, .string ⟨#[]⟩, .slice none 0 0, .slice none 0 0]], []⟩).memory Tryd.f7.params.toList Rows.fnExactSieveForSpec.vars false #[Value.slice none 0 0, .agg #[.string ⟨#[]⟩, .string ⟨#[]⟩, .slice none 0 0, .slice none 0 0]].toList 8 = some ([.nil, .agg [.agg [.lit (.string []), .lit (.string [])], .nil, .nil]], [], places) :=
  ⟨[], by kernel_rfl⟩

theorem opens_lAddr : Opens Tryd.prog 48 k48 (fun x => x.f0.size ≤ 9223372036854775807 ∧ x.f1.size ≤ 9223372036854775807) :=
  opens_iso (fun x : S48 => (x.f0, x.f1)) (fun p => ⟨p.1, p.2⟩) (fun _ => rfl)
    (opens_struct Tryd.underlying48 (l := [(9, 1), (9, 1)]) (by kernel_rfl) (by kernel_rfl) (opensF_cons (opens_string Tryd.underlying9) (opensF_one (opens_string Tryd.underlying9))))
theorem opens_lRule : Opens Tryd.prog 61 k61 (fun x => wfR x ∧ wideR x) :=
  opens_imp (opens_iso (fun x : S61 => (x.f0, x.f1, x.f2, x.f3)) (fun p => ⟨p.1, p.2.1, p.2.2.1, p.2.2.2⟩) (fun _ => rfl)
    (opens_struct Tryd.underlying61 (l := [(3, 1), (9, 1), (3, 1), (48, 2)]) (by kernel_rfl) (by kernel_rfl)
      (opensF_cons (opens_int Tryd.underlying3) (opensF_cons (opens_string Tryd.underlying9) (opensF_cons (opens_int Tryd.underlying3) (opensF_one opens_lAddr))))))
    (fun x h => ⟨⟨h.1, h.2.2.1⟩, h.2.1, h.2.2.2.1, h.2.2.2.2⟩)
theorem opens_lRules : Opens Tryd.prog 22 (Kd.slice 61 k61) (fun xs => xs.length ≤ 9223372036854775807 ∧ ∀ x ∈ xs, wfR x ∧ wideR x) :=
  opens_slice Tryd.underlying22 (by kernel_rfl) opens_lRule

theorem opens_lAddrs : Opens Tryd.prog 49 (Kd.slice 48 k48) (fun xs => xs.length ≤ 9223372036854775807 ∧ ∀ x ∈ xs, x.f0.size ≤ 9223372036854775807 ∧ x.f1.size ≤ 9223372036854775807) :=
  opens_slice Tryd.underlying49 (by kernel_rfl) opens_lAddr
theorem opens_texts : Opens Tryd.prog 35 (Kd.slice 9 Kd.string) (fun xs => xs.length ≤ 9223372036854775807 ∧ ∀ x ∈ xs, x.size ≤ 9223372036854775807) :=
  opens_slice Tryd.underlying35 (by kernel_rfl) (opens_string Tryd.underlying9)
theorem opens_lMail : Opens Tryd.prog 51 (Kd.pair k48 (Kd.pair (Kd.slice 48 k48) (Kd.slice 9 Kd.string))) (fun a => WideMail a.1.f0 a.1.f1 a.2.1 a.2.2) :=
  opens_imp (opens_struct Tryd.underlying51 (l := [(48, 2), (49, 1), (35, 1)]) (by kernel_rfl) (by kernel_rfl) (opensF_cons opens_lAddr (opensF_cons opens_lAddrs (opensF_one opens_texts)))) (fun a h => ⟨h.1, h.2.1, h.2.2⟩)
theorem mail_of {W : World} {x : S48 × List S48 × List ByteArray} {cs : List Value} (h : (Kd.pair k48 (Kd.pair (Kd.slice 48 k48) (Kd.slice 9 Kd.string))).K W x cs) :
    ∃ A c A' c', cs = [.string x.1.f0, .string x.1.f1, .slice A x.2.1.length c, .slice A' x.2.2.length c'] ∧ x.2.1.length ≤ c ∧ x.2.2.length ≤ c' ∧ Kd.C k48 W A x.2.1.length x.2.1 ∧ Kd.C Kd.string W A' x.2.2.length x.2.2 := by
  obtain ⟨c1, c2, rfl, h1, c3, c4, rfl, ⟨A, c, rfl, hc, hC⟩, ⟨A', c', rfl, hc', hC'⟩⟩ := h
  obtain rfl := k48_open h1
  exact ⟨A, c, A', c', rfl, hc, hc', hC, hC'⟩

/-- The variable's cell that the library reads. -/
theorem glob_of {W : World} (h : W.ShapedOpen Tryd.prog) : Glob W :=
  Go.Proofs.cell_of_shapedOpen_int (zero := #[.int .i64 0]) (t := 3) h (of_decide_eq_true (by kernel_rfl)) (by kernel_rfl) rfl (by kernel_rfl) (by kernel_rfl) Tryd.underlying3

set_option maxRecDepth 100000 in
theorem rowFor (H : Type) (enc : TypeId × Value → H) (W : World) (base : Nat) (args : Array Value) (ds gs : List (DataW H)) (before : List MemPlace)
    (hval : ∀ (j : Nat) t v, Tryd.f7.params[j]? = some t → args[j]? = some v → Value.okWide Tryd.prog W .any base t v)
    (hW : DataW.Whole enc Tryd.prog Tryd.f7.params.toList Rows.fnExactSieveForSpec.vars false W args.toList ds gs before) (hG : Glob W) :
    Calls Tryd.prog 7 args W fun e W' => ∃ v, e = .returned v ∧ Rows.fnExactSieveForSpec.post enc Tryd.prog Tryd.f7 false true false false W args v W' := by
  have hW' := hW
  obtain ⟨p, q, hA0, hV, rfl, hfz, hnd⟩ := hW
  have hA : DataW.TrodAll enc Tryd.prog W 0 (fun _ => true) true Tryd.f7.params.toList args.toList ds p := hA0
  rw [Tryd.params7] at hA hval
  obtain ⟨v0, vs0, d0, ds0, p0, q0, hargs, rfl, rfl, h0, r0⟩ := trodAll_cons hA
  obtain ⟨v1, vs1, d1, ds1, p1, q1, hargs1, rfl, rfl, h1, r1⟩ := trodAll_cons r0
  obtain ⟨rfl, rfl, rfl⟩ := trodAll_nil r1
  obtain rfl : args = #[v0, v1] := by cases args; simp_all
  obtain ⟨rfl, rfl⟩ := trodVars_none hV
  obtain ⟨a0, len0, cap0, rfl⟩ := okWide_slice Tryd.underlying22 (hval 0 22 v0 rfl rfl)
  obtain ⟨cs1, rfl, hn1⟩ := okWide_struct Tryd.underlying51 (hval 1 51 v1 rfl rfl)
  have lt1 : ∀ x ∈ p1, x.block < W.heap.size := by obtain ⟨m, hm⟩ := h1; exact DataW.trod_lt m _ _ _ hm
  have lt0 : ∀ x ∈ p0, x.block < W.heap.size := by obtain ⟨m, hm⟩ := h0; exact DataW.trod_lt m _ _ _ hm
  obtain ⟨xs, hK, hl0, hx0⟩ : ∃ xs, (Kd.slice 61 k61).K W xs [.slice a0 len0 cap0] ∧ xs.length ≤ 9223372036854775807 ∧ ∀ x ∈ xs, wfR x ∧ wideR x := by
    obtain ⟨fuel, hf⟩ := h0
    exact opens_lRules enc W 0 (fun _ => true) true fuel _ _ hf
  obtain ⟨A, c, hcs, hc, hC⟩ := hK
  obtain ⟨rfl, rfl, rfl⟩ : a0 = A ∧ len0 = xs.length ∧ cap0 = c := by simpa using hcs
  obtain ⟨ml, hKm, hgm⟩ : ∃ ml, (Kd.pair k48 (Kd.pair (Kd.slice 48 k48) (Kd.slice 9 Kd.string))).K W ml cs1.toList ∧ WideMail ml.1.f0 ml.1.f1 ml.2.1 ml.2.2 := by
    obtain ⟨fuel, hf⟩ := h1
    exact opens_lMail enc W 0 (fun _ => true) true fuel _ _ hf
  obtain ⟨A1, c1, A2, c2, hcs1, hc1, hc2, hC1, hC2⟩ := mail_of hKm
  obtain ⟨⟨u, d⟩, tos, body⟩ := ml
  obtain rfl : cs1 = #[.string u, .string d, .slice A1 tos.length c1, .slice A2 body.length c2] := by
    cases cs1; exact congrArg Array.mk hcs1
  clear hA0
  refine (walkFor a0 cap0 xs u d A1 c1 tos A2 c2 body W hC hc hl0 (fun x hx => (hx0 x hx).2) (fun x hx => (hx0 x hx).1) hC1 hc1 hC2 hc2 hgm hG).mono fun e W' ⟨he, bel⟩ => ?_
  subst he
  exact ⟨_, rfl, _, _, _, [], _, [], hW', trodAll_mk1 (shut_bool Tryd.underlying4 _), trodAll_cons_mk (Below.trod laidOut (by kernel_rfl) (of_decide_eq_true (by kernel_rfl)) h0 bel lt0) (trodAll_cons_mk (Below.trod laidOut (by kernel_rfl) (of_decide_eq_true (by kernel_rfl)) h1 bel lt1) trodAll_mk0), rfl, bel.frame _, fun h => by cases h⟩

set_option maxRecDepth 100000 in
theorem lifted (os : Os) (started : os.Started) (H : Type) (enc : TypeId × Value → H) (F : Stop.Interp) :
    ReturnsInHanded {} Tryd.checked os 7 .any ((OpenSpec.ofChange Rows.fnExactSieveForSpec).preRow enc Tryd.prog Tryd.f7 Rows.fnExactSieveForRow.domain false Rows.fnExactSieveForRow.laid) (((OpenSpec.ofChange Rows.fnExactSieveForSpec).at F).post enc Tryd.prog Tryd.f7 false true false false) := by
  obtain ⟨places, hx⟩ := reads os enc
  refine returnsInHanded_of_row (C := Tryd.checked) (s := OpenSpec.ofChange Rows.fnExactSieveForSpec) own started (by kernel_rfl) Tryd.func7
    (witness_row_at (enc := enc) (C := Tryd.checked) false (laidWorld os) #[.slice none 0 0, .agg #[.string ⟨#[]⟩, .string ⟨#[]⟩, .slice none 0 0, .slice none 0 0]] rfl (by kernel_rfl) (by kernel_rfl) (by kernel_rfl)
      (OpenSpec.preRow_of_cond 8 hx (by kernel_rfl) (fun k hk => by cases hk) (by kernel_rfl) (laid_met os))) ?_
  intro W base args ds gs before hval hW _ _ _ _ hS _
  exact rowFor H enc W base args ds gs before hval hW (glob_of hS)
theorem said : Rows.FnExactSieveForSaid :=
  OpenClaim.holds_of_cond 7 Tryd.f7 rfl rfl rfl rfl rfl rfl rfl ⟨rfl, rfl, rfl, rfl, rfl⟩ rfl rfl rfl rfl rfl (by kernel_rfl) Tryd.func7 (by kernel_rfl)
    (of_decide_eq_true (by kernel_rfl)) (by unfold Func.isWrapper; first | (rw [if_pos (by decide +kernel)]; kernel_rfl) | (rw [if_neg (by decide +kernel)]; exact ⟨rfl, rfl⟩))
    (fun os started H enc _ F => by rw [OpenClaim.pre_eq_preRow]; exact lifted os started H enc F)
theorem plain (f : FuncId) (fn : Func) (hf : Tryd.pinned.checked.prog.funcNamed "loop.example/satchel/laws.FnExactSieveFor" = some f) (hfn : Tryd.pinned.checked.prog.funcs[f]? = some fn) :
    false = Tryd.pinned.checked.prog.looks [] ∧ ∀ (j : Nat) t, fn.params[j]? = some t → Tryd.pinned.checked.prog.wantsStandIn t = false := by
  obtain rfl : f = 7 := Option.some.inj ((show Tryd.prog.funcNamed "loop.example/satchel/laws.FnExactSieveFor" = some 7 by kernel_rfl).symm.trans hf) |>.symm
  obtain rfl : fn = Tryd.f7 := (Option.some.inj (Tryd.func7.symm.trans hfn)).symm
  refine ⟨by kernel_rfl, fun j t ht => ?_⟩
  rw [Tryd.params7] at ht
  have ht' : t = 22 ∨ t = 51 := by simpa using Array.mem_of_getElem? ht
  rcases ht' with rfl | rfl
  · exact (show Tryd.prog.wantsStandIn 22 = false by kernel_rfl)
  · exact (show Tryd.prog.wantsStandIn 51 = false by kernel_rfl)
theorem card : Rows.FnExactSieveForCardSaid :=
  Claim7.holds_tied_plain_at .later [] _ _ _ _ said (fun _ h => by cases h) (by kernel_rfl) (fun _ h => by cases h) fnExactSieveFor_row_tie rfl ⟨rfl, rfl⟩ (by kernel_rfl) rfl plain (by kernel_rfl)
#print axioms card
end Go.Proofs.YtomcaichidepnaaDoor
