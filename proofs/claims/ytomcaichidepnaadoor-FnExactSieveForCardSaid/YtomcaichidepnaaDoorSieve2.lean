/- slices.IndexFunc and ContainsFunc over rules; SieveOk. -/
import Derived.Test.YtomcaichidepnaaDoorSieve
import Derived.Test.YtomcaichidepnaaDoorPx0
namespace Go.Proofs.YtomcaichidepnaaDoor
open Go.RowKit Go.Proofs.YtomcaichidepnaaDoorW.PrintWords P
set_option linter.unusedVariables false
set_option linter.unusedSimpArgs false

/-- Where a list's first element is of which p holds; -1. -/
def idx {α : Type} (p : α → Bool) (xs : List α) : Int := if xs.any p then ((xs.findIdx p : Nat) : Int) else -1
theorem idx_hit {α : Type} (p : α → Bool) (xs : List α) (d : α) (k : Nat) (hk : k < xs.length) (h : p (xs.getD k d) = true) (hb : ∀ j, j < k → p (xs.getD j d) = false) : idx p xs = k := by
  unfold idx
  have hg : xs.getD k d = xs[k] := by rw [List.getD, List.getElem?_eq_getElem hk]; rfl
  rw [if_pos (List.any_eq_true.2 ⟨_, List.getElem_mem hk, by rw [← hg]; exact h⟩)]
  have : xs.findIdx p = k := by
    rw [List.findIdx_eq hk]
    refine ⟨by rw [← hg]; exact h, fun j hj => ?_⟩
    have := hb j hj
    rw [List.getD, List.getElem?_eq_getElem (by omega)] at this
    simpa using this
  rw [this]
theorem idx_miss {α : Type} (p : α → Bool) (xs : List α) (d : α) (h : ∀ j, j < xs.length → p (xs.getD j d) = false) : idx p xs = -1 := by
  unfold idx
  rw [if_neg]
  rw [List.any_eq_true]
  rintro ⟨x, hx, hp⟩
  obtain ⟨j, hj, rfl⟩ := List.getElem_of_mem hx
  have := h j hj
  rw [List.getD, List.getElem?_eq_getElem hj] at this
  rw [show (some xs[j]).getD d = xs[j] from rfl, hp] at this
  cases this

/-- What a predicate over such elements owes. -/
def PredT (g : Nat) (lb : Array Value) (p : S57 → Bool) (xs : List S57) (w : World) : Prop :=
  ∀ W x, x ∈ xs → Below w.heap.size w W → Calls Tryd.prog g (#[.agg #[.int .i64 x.f0, .string x.f1, .int .i64 x.f2, .string x.f3.f0, .string x.f3.f1]] ++ lb) W fun e w' => e = .returned (.bool (p x)) ∧ Below W.heap.size W w'

set_option maxRecDepth 100000 in
set_option maxHeartbeats 1000000 in
theorem IndexFunc_Rule (g : Nat) (lb : Array Value) (p : S57 → Bool) (eg : ∀ args w, (callFunc g args).run Tryd.prog w = .ok (.enter g args) w) (A : Option Addr) (c : Nat) (xs : List S57) (w : World)
    (hr : Kd.C k57 w A xs.length xs) (hlen : xs.length ≤ 4611686018427387904) (hp : PredT g lb p xs w) :
    Calls Tryd.prog 45 #[.slice A xs.length c, .func (.func g) #[] lb] w fun e w' => e = .returned (.int .i64 (idx p xs)) ∧ Below w.heap.size w w' := by
  go_enter Tryd.func45, Tryd.ntmps45
  go_wp2
  go_loopg [5, 8] (xs.length) (fun gg _ s8 wr => ∃ k : Nat, k ≤ xs.length ∧ xs.length - k ≤ gg ∧ s8 = .int .i64 k ∧ Aside (Below w.heap.size w wr) ∧ Aside (∀ j, j < k → p (xs.getD j z57) = false))
  case atStart => exact ⟨0, Nat.zero_le _, by omega, rfl, Below.refl _ w, fun j hj => absurd hj (Nat.not_lt_zero _)⟩
  case round =>
    obtain ⟨k, hk, hg, rfl, BW, H⟩ := hrel
    by_cases hlt : k < xs.length
    · obtain ⟨ad, e1, h0, h1, h2, h3, h4⟩ := at_T57 (Kd.C_below hr BW.out) (k : Int) (by omega) (by omega)
      subst e1
      rw [Int.toNat_natCast] at h0 h1 h2 h3 h4
      have hm : rd_T57 xs (k : Int) ∈ xs := by
        unfold rd_T57
        rw [Int.toNat_natCast, List.getD, List.getElem?_eq_getElem hlt]
        exact List.getElem_mem hlt
      have hy : xs.getD k z57 = rd_T57 xs (k : Int) := rfl
      generalize rd_T57 xs (k : Int) = y at h0 h1 h2 h3 h4 hm hy
      have hcall := hp wr y hm BW.out
      have HY := Lib.hid hy
      clear hy hp hr
      cases hq : p y
      all_goals
        rw [hq] at hcall
        have HQ := Lib.hid hq
        clear hq
        go_wp2_with (go_at_fn g; refine hcall.mono ?_; rintro e w' ⟨rfl, hb'⟩)
      · go_roundg (xs.length - (k + 1))
        case measure => omega
        case rel => exact ⟨k + 1, by omega, by omega, by go_num, BW.out.trans (hb'.mono BW.out.size), fun j hj => by
          by_cases e : j = k
          · subst e; rw [HY.out]; exact HQ.out
          · exact H.out j (by omega)⟩
      · go_ret
        refine ⟨?_, BW.out.trans (hb'.mono BW.out.size)⟩
        rw [idx_hit p xs z57 k hlt (by rw [HY.out]; exact HQ.out) H.out]
        rfl
    · go_wp2
      go_ret
      refine ⟨?_, BW.out⟩
      rw [idx_miss p xs z57 (fun j hj => H.out j (by omega))]
      rfl

theorem idx_any {α : Type} (p : α → Bool) (xs : List α) : decide (idx p xs ≥ 0) = xs.any p := by
  unfold idx
  cases h : xs.any p
  · simp
  · simp

theorem ContainsFunc_Rule (g : Nat) (lb : Array Value) (p : S57 → Bool) (eg : ∀ args w, (callFunc g args).run Tryd.prog w = .ok (.enter g args) w) (A : Option Addr) (c : Nat) (xs : List S57) (w : World)
    (hr : Kd.C k57 w A xs.length xs) (hlen : xs.length ≤ 4611686018427387904) (hp : PredT g lb p xs w) :
    Calls Tryd.prog 36 #[.slice A xs.length c, .func (.func g) #[] lb] w fun e w' => e = .returned (.bool (xs.any p)) ∧ Below w.heap.size w w' := by
  have hcall := IndexFunc_Rule g lb p eg A c xs w hr hlen hp
  have HI := Lib.hid (idx_any p xs)
  clear hr hp
  generalize idx p xs = i at hcall HI
  go_enter Tryd.func36, Tryd.ntmps36
  go_wp2_with (go_at_call 45; refine hcall.mono ?_; rintro e w' ⟨rfl, hb'⟩)
  go_ret
  exact ⟨retb HI.out, hb'⟩

/-- A rule whose numbers and texts fit a machine. -/
def RFit (x : S57) : Prop := (Lit.int .i64 x.f0).wf = true ∧ (Lit.int .i64 x.f2).wf = true ∧ x.f1.size < 4294967281 ∧ x.f3.f0.size < 4294967281 ∧ x.f3.f1.size < 4294967281
def ruleOkS (x : S57) : Bool := ruleOk x.f0 x.f2 x.f1.data.toList x.f3.f0.data.toList x.f3.f1.data.toList
def sieveOk (xs : List S57) : Bool := decide (xs.length ≤ 5) && xs.all ruleOkS

theorem SieveOk1_any (x : S57) (w : World) (hx : RFit x) (hG : Glob w) :
    Calls Tryd.prog 37 #[.agg #[.int .i64 x.f0, .string x.f1, .int .i64 x.f2, .string x.f3.f0, .string x.f3.f1]] w fun e w' => e = .returned (.bool (!ruleOkS x)) ∧ Below w.heap.size w w' := by
  obtain ⟨h1, h2, h3, h4, h5⟩ := hx
  have hcall := fun W (hW : Below w.heap.size w W) => right_any x.f0 x.f2 x.f1 x.f3.f0 x.f3.f1 W h1 h2 h3 (by omega) h5 (hG.below hW)
  change ∀ W, _ → Calls _ _ _ _ (fun e w' => e = .returned (.bool (ruleOkS x)) ∧ Below W.heap.size W w') at hcall
  clear h1 h2 h3 h4 h5
  generalize ruleOkS x = q at hcall
  go_enter Tryd.func37, Tryd.ntmps37
  go_wp2_with (go_at_call 38; refine (hcall _ ((Below.refl _ _).alloc (Nat.le_refl _) _)).mono ?_; rintro e w' ⟨rfl, hb'⟩)
  go_ret
  exact ⟨retb rfl, ((Below.refl _ _).alloc (Nat.le_refl _) _).trans (hb'.mono (by simp))⟩

theorem SieveOk_any (A : Option Addr) (c : Nat) (xs : List S57) (w : World) (hr : Kd.C k57 w A xs.length xs) (hlen : xs.length ≤ 4611686018427387904) (hx : ∀ x ∈ xs, RFit x) (hG : Glob w) :
    Calls Tryd.prog 12 #[.slice A xs.length c] w fun e w' => e = .returned (.bool (sieveOk xs)) ∧ Below w.heap.size w w' := by
  have hcall := ContainsFunc_Rule 37 #[] (fun x => !ruleOkS x) (enters_of Tryd.func37 (by kernel_rfl) rfl) A c xs w hr hlen (fun W x hm hb => SieveOk1_any x W (hx x hm) (hG.below hb))
  have hs : sieveOk xs = (decide (xs.length ≤ 5) && !xs.any fun x => !ruleOkS x) := by unfold sieveOk; congr 1; rw [List.all_eq_not_any_not]
  have HS := Lib.hid hs
  clear hr hx hs
  generalize (xs.any fun x => !ruleOkS x) = q at hcall HS
  by_cases h5 : xs.length ≤ 5
  · have h5' : decide ((xs.length : Int) ≤ 5) = true := by simp; omega
    go_enter Tryd.func12, Tryd.ntmps12
    go_wp2_with (go_at_call 36; refine hcall.mono ?_; rintro e w' ⟨rfl, hb'⟩)
    go_ret
    exact ⟨retb (by rw [HS.out, decide_eq_true h5]; rfl), hb'⟩
  · have h5' : decide ((xs.length : Int) ≤ 5) = false := by simp; omega
    go_enter Tryd.func12, Tryd.ntmps12
    go_wp2
    go_ret
    exact ⟨retb (by rw [HS.out, decide_eq_false h5]; rfl), Below.refl _ _⟩
end Go.Proofs.YtomcaichidepnaaDoor
