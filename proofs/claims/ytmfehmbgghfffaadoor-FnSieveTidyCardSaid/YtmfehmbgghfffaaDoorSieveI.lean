/- The mailbox rules, of the program: SieveOk, holds, SieveFor: contracts. -/
import Derived.Test.YtmfehmbgghfffaaDoorSieve
import Derived.Test.YtmfehmbgghfffaaDoorIdxT
import Derived.Test.YtmfehmbgghfffaaDoorMailB
namespace Go.Proofs.YtmfehmbgghfffaaDoor
open Go.RowKit Go.Proofs.YtmfehmbgghfffaaDoorW.PrintWords
set_option linter.unusedVariables false
set_option linter.unusedSimpArgs false
/-- A rule whose numbers and texts fit a machine. -/
def RFit (x : SRule) : Prop := (Lit.int .i64 x.f0).wf = true ∧ (Lit.int .i64 x.f2).wf = true ∧ x.f1.size < 4294967281 ∧ x.f3.f0.size < 4294967281 ∧ x.f3.f1.size < 4294967281
def ruleOkS (x : SRule) : Bool := ruleOk x.f0 x.f2 x.f1.data.toList x.f3.f0.data.toList x.f3.f1.data.toList
def sieveOk (xs : List SRule) : Bool := decide (xs.length ≤ 5) && xs.all ruleOkS

theorem SieveOk1_any (x : SRule) (w : World) (hx : RFit x) (hG : Glob w) :
    Calls Tryd.prog 55 #[.agg #[.int .i64 x.f0, .string x.f1, .int .i64 x.f2, .string x.f3.f0, .string x.f3.f1]] w fun e w' => e = .returned (.bool (!ruleOkS x)) ∧ Below w.heap.size w w' := by
  obtain ⟨h1, h2, h3, h4, h5⟩ := hx
  have hcall := fun W (hW : Below w.heap.size w W) => right_any x.f0 x.f2 x.f1 x.f3.f0 x.f3.f1 W h1 h2 h3 (by omega) h5 (hG.below hW)
  change ∀ W, _ → Calls _ _ _ _ (fun e w' => e = .returned (.bool (ruleOkS x)) ∧ Below W.heap.size W w') at hcall
  clear h1 h2 h3 h4 h5
  generalize ruleOkS x = q at hcall
  go_enter Tryd.func55, Tryd.ntmps55
  go_wp2_with (go_at_call 56; refine (hcall _ ((Below.refl _ _).alloc (Nat.le_refl _) _)).mono ?_; rintro e w' ⟨rfl, hb'⟩)
  go_ret
  exact ⟨retb rfl, ((Below.refl _ _).alloc (Nat.le_refl _) _).trans (hb'.mono (by simp))⟩

theorem SieveOk_any (A : Option Addr) (c : Nat) (xs : List SRule) (w : World) (hr : Kd.C kRule w A xs.length xs) (hlen : xs.length ≤ 4611686018427387904) (hx : ∀ x ∈ xs, RFit x) (hG : Glob w) :
    Calls Tryd.prog 19 #[.slice A xs.length c] w fun e w' => e = .returned (.bool (sieveOk xs)) ∧ Below w.heap.size w w' := by
  have hcall := ContainsFunc_Rule 55 #[] (fun x => !ruleOkS x) (enters_of Tryd.func55 (by kernel_rfl) rfl) A c xs w hr hlen (fun W x hm hb => SieveOk1_any x W (hx x hm) (hG.below hb))
  have hs : sieveOk xs = (decide (xs.length ≤ 5) && !xs.any fun x => !ruleOkS x) := by unfold sieveOk; congr 1; rw [List.all_eq_not_any_not]
  have HS := Lib.hid hs
  clear hr hx hs
  generalize (xs.any fun x => !ruleOkS x) = q at hcall HS
  by_cases h5 : xs.length ≤ 5
  · have h5' : decide ((xs.length : Int) ≤ 5) = true := by simp; omega
    go_enter Tryd.func19, Tryd.ntmps19
    go_wp2_with (go_at_call 52; refine hcall.mono ?_; rintro e w' ⟨rfl, hb'⟩)
    go_ret
    exact ⟨retb (by rw [HS.out, decide_eq_true h5]; rfl), hb'⟩
  · have h5' : decide ((xs.length : Int) ≤ 5) = false := by simp; omega
    go_enter Tryd.func19, Tryd.ntmps19
    go_wp2
    go_ret
    exact ⟨retb (by rw [HS.out, decide_eq_false h5]; rfl), Below.refl _ _⟩


def domIn (s e : List UInt8) : Bool := dom s && (dom e && (decide (s = e) || Lib.hasSuffix s (46 :: e)))
theorem dot_data (e : ByteArray) : ((⟨#[46]⟩ : ByteArray) ++ e).data.toList = 46 :: e.data.toList := by rw [ByteArray.data_append]; simp
theorem dot_size (e : ByteArray) : ((⟨#[46]⟩ : ByteArray) ++ e).size = e.size + 1 := by rw [ByteArray.size_append]; show 1 + e.size = _; omega
theorem DomainIn_any (s e : ByteArray) (w : World) (hs : s.size < 4294967281) (he : e.size < 4294967281) (hG : Glob w) :
    Calls Tryd.prog 118 #[.string s, .string e] w fun r w' => r = .returned (.bool (domIn s.data.toList e.data.toList)) ∧ Below w.heap.size w w' := by
  have h1 := fun W (hW : Below w.heap.size w W) => DomainOk_any s W hs (hG.below hW)
  have h2 := fun W (hW : Below w.heap.size w W) => DomainOk_any e W he (hG.below hW)
  have h3 := fun W => Tryd.strings_HasSuffix s ((⟨#[46]⟩ : ByteArray) ++ e) W (by omega)
  rw [dot_data] at h3
  have heq : (s.data.toList == e.data.toList) = decide (s.data.toList = e.data.toList) := by rw [Bool.eq_iff_iff, beq_iff_eq, decide_eq_true_iff]
  have hsz : e.size + 1 ≤ 9223372036854775807 := by omega
  have hsz' : 1 + e.size ≤ 9223372036854775807 := by omega
  unfold domIn
  rw [← heq]
  have HEQ : s.toList = s.data.toList := bl s
  have HEE : e.toList = e.data.toList := bl e
  generalize Lib.hasSuffix s.data.toList (46 :: e.data.toList) = q4 at h3
  generalize dom s.data.toList = q1 at h1
  generalize dom e.data.toList = q2 at h2
  clear heq hs he
  cases q1
  · go_enter Tryd.func118, Tryd.ntmps118
    go_wp2_with (go_at_call 101; refine (h1 _ (Below.refl _ _)).mono ?_; rintro r w1 ⟨rfl, B1⟩)
    go_ret
    exact ⟨retb rfl, B1⟩
  · cases q2
    · go_enter Tryd.func118, Tryd.ntmps118
      go_wp2_with fail
      refine (h1 _ (Below.refl _ _)).mono ?_
      rintro r w1 ⟨rfl, B1⟩
      go_wp2_with fail
      refine (h2 _ B1).mono ?_
      rintro r w2 ⟨rfl, hb2⟩
      have B2 := B1.trans (hb2.mono B1.size)
      go_wp2
      go_ret
      exact ⟨retb rfl, B2⟩
    · cases q3 : (s.data.toList == e.data.toList)
      · have q3' : (s.toList == e.toList) = false := by rw [HEQ, HEE]; exact q3
        clear q3 HEQ HEE
        go_enter Tryd.func118, Tryd.ntmps118
        go_wp2_with fail
        refine (h1 _ (Below.refl _ _)).mono ?_
        rintro r w1 ⟨rfl, B1⟩
        go_wp2_with fail
        refine (h2 _ B1).mono ?_
        rintro r w2 ⟨rfl, hb2⟩
        have B2 := B1.trans (hb2.mono B1.size)
        go_wp2_with fail
        refine (h3 _).mono ?_
        rintro r w3 ⟨rfl, rfl⟩
        go_wp2
        go_ret
        exact ⟨retb rfl, B2⟩
      · have q3' : (s.toList == e.toList) = true := by rw [HEQ, HEE]; exact q3
        clear q3 HEQ HEE
        go_enter Tryd.func118, Tryd.ntmps118
        go_wp2_with fail
        refine (h1 _ (Below.refl _ _)).mono ?_
        rintro r w1 ⟨rfl, B1⟩
        go_wp2_with fail
        refine (h2 _ B1).mono ?_
        rintro r w2 ⟨rfl, hb2⟩
        have B2 := B1.trans (hb2.mono B1.size)
        go_wp2
        go_ret
        exact ⟨retb rfl, B2⟩

def inBody (t : List UInt8) (body : List ByteArray) : Bool := body.any fun l => Lib.contains l.data.toList t
def holdsF (ask : Int) (t u d : List UInt8) (body : List ByteArray) : Bool :=
  if ask = 1 then !nul u d && domIn d t else if ask = 2 then inBody t body else if ask = 3 then nul u d else true
theorem holds1_any (b : Nat) (t s : ByteArray) (W : World) (h1 : W.cell? ⟨b, 1, none⟩ = some (.string t)) (hs : s.size < 4294967281) (hG : Glob W) :
    Calls Tryd.prog 119 (#[.string s] ++ #[.pointer (some ⟨b, 0, none⟩)]) W fun e w' => e = .returned (.bool (Lib.contains s.data.toList t.data.toList)) ∧ Below W.heap.size W w' := by
  obtain ⟨m, hm⟩ := hG
  have hc := Tryd.strings_Contains s t m W hs hm
  generalize Lib.contains s.data.toList t.data.toList = q at hc
  clear hm
  go_enter Tryd.func119, Tryd.ntmps119
  go_wp2_with (go_at_call 120; refine hc.mono ?_; rintro e w' ⟨rfl, rfl⟩)
  go_ret
  exact ⟨retb rfl, Below.refl _ _⟩
def holdsS (u d : List UInt8) (body : List ByteArray) (x : SRule) : Bool := holdsF x.f0 x.f1.data.toList u d body
set_option maxRecDepth 100000 in
set_option maxHeartbeats 1000000 in
theorem holds_any (x : SRule) (u d : ByteArray) (A : Option Addr) (n c : Nat) (A' : Option Addr) (c' : Nat) (body : List ByteArray) (w : World) (hx : RFit x) (hu : u.size < 4294967281) (hd : d.size < 4294967281)
    (hr' : Kd.C Kd.string w A' body.length body) (hl' : body.length ≤ 4611686018427387904) (hb : ∀ x ∈ body, x.size < 4294967281) (hG : Glob w) :
    Calls Tryd.prog 80 #[.agg #[.int .i64 x.f0, .string x.f1, .int .i64 x.f2, .string x.f3.f0, .string x.f3.f1], .agg #[.string u, .string d, .slice A n c, .slice A' body.length c']] w fun e w' => e = .returned (.bool (holdsS u.data.toList d.data.toList body x)) ∧ Below w.heap.size w w' := by
  obtain ⟨x0, x1, x2, ⟨x3, x4⟩⟩ := x
  obtain ⟨-, -, ht, -, -⟩ := hx
  change x1.size < _ at ht
  unfold holdsS holdsF
  dsimp only
  have hn := fun W => null_any u d W
  have hdi := fun W (hW : Below w.heap.size w W) => DomainIn_any d x1 W hd ht (hG.below hW)
  have hcb := fun b W (hW : Below w.heap.size w W) (hc : W.cell? ⟨b, 1, none⟩ = some (.string x1)) (hbz : b < W.heap.size) => ContainsFunc_String 119 #[.pointer (some ⟨b, 0, none⟩)] (fun l => Lib.contains l.data.toList x1.data.toList) (enters_of Tryd.func119 (by kernel_rfl) rfl) A' c' body W (Kd.C_below hr' hW) hl' (fun V y hm hv => holds1_any b x1 y V ((hv.cell (p := ⟨b, 1, none⟩) hbz).trans hc) (hb y hm) ((hG.below hW).below hv))
  change ∀ b W, _ → _ → _ → Calls _ _ _ _ (fun e w' => e = .returned (.bool (inBody x1.data.toList body)) ∧ _) at hcb
  clear hr' hb ht hu hd
  generalize inBody x1.data.toList body = q2 at hcb
  generalize domIn d.data.toList x1.data.toList = q1 at hdi
  generalize nul u.data.toList d.data.toList = q0 at hn
  have B0 : Below w.heap.size w ((w.alloc (.cells #[.int .i64 x0, .string x1, .int .i64 x2, .string x3, .string x4] 65)).alloc (.cells #[.string u, .string d, .slice A n c, .slice A' body.length c'] 46)) := ((Below.refl _ _).alloc (Nat.le_refl _) _).alloc (by simp) _
  by_cases c1 : x0 = 1
  · have c1' : (x0 == 1) = true := beq_iff_eq.2 c1
    rw [if_pos c1]
    clear c1
    cases q0
    · go_enter Tryd.func80, Tryd.ntmps80
      go_wp2_with (first | (go_at_call 62; refine (hn _).mono ?_; rintro e w1 ⟨rfl, hb1⟩; have d1 := (hb1.cell (p := ⟨w.heap.size, 1, none⟩) (by simp; omega)).trans (by simp : _ = some (.string x1)); have m1 := (hb1.cell (p := ⟨w.heap.size + 1, 1, none⟩) (by simp)).trans (by simp : _ = some (.string d)); have B1 : Below w.heap.size w w1 := B0.trans (hb1.mono (by simp; omega)); clear hb1) | (go_at_call 118; refine (hdi _ B1).mono ?_; rintro e w2 ⟨rfl, hb2⟩))
      go_ret
      exact ⟨retb rfl, B1.trans (hb2.mono B1.size)⟩
    · go_enter Tryd.func80, Tryd.ntmps80
      go_wp2_with (go_at_call 62; refine (hn _).mono ?_; rintro e w1 ⟨rfl, hb1⟩)
      go_ret
      exact ⟨retb rfl, B0.trans (hb1.mono (by simp; omega))⟩
  · have c1' : (x0 == 1) = false := beq_eq_false_iff_ne.2 c1
    rw [if_neg c1]
    clear c1
    by_cases c2 : x0 = 2
    · have c2' : (x0 == 2) = true := beq_iff_eq.2 c2
      rw [if_pos c2]
      clear c2
      go_enter Tryd.func80, Tryd.ntmps80
      go_wp2_with (go_at_call 115; refine (hcb w.heap.size _ B0 (by simp) (by simp; omega)).mono ?_; rintro e w1 ⟨rfl, hb1⟩)
      go_ret
      exact ⟨retb rfl, B0.trans (hb1.mono (by simp; omega))⟩
    · have c2' : (x0 == 2) = false := beq_eq_false_iff_ne.2 c2
      rw [if_neg c2]
      clear c2
      by_cases c3 : x0 = 3
      · have c3' : (x0 == 3) = true := beq_iff_eq.2 c3
        rw [if_pos c3]
        clear c3
        go_enter Tryd.func80, Tryd.ntmps80
        go_wp2_with (go_at_call 62; refine (hn _).mono ?_; rintro e w1 ⟨rfl, hb1⟩)
        go_ret
        exact ⟨retb rfl, B0.trans (hb1.mono (by simp; omega))⟩
      · have c3' : (x0 == 3) = false := beq_eq_false_iff_ne.2 c3
        rw [if_neg c3]
        clear c3
        go_enter Tryd.func80, Tryd.ntmps80
        go_wp2
        go_ret
        exact ⟨retb rfl, B0⟩


set_option maxHeartbeats 1000000 in
theorem SieveFor1_any (b : Nat) (x : SRule) (u d : ByteArray) (A : Option Addr) (n c : Nat) (A' : Option Addr) (c' : Nat) (body : List ByteArray) (w : World) (hx : RFit x) (hu : u.size < 4294967281) (hd : d.size < 4294967281)
    (h0 : w.cell? ⟨b, 0, none⟩ = some (.string u)) (h1 : w.cell? ⟨b, 1, none⟩ = some (.string d)) (h2 : w.cell? ⟨b, 2, none⟩ = some (.slice A n c)) (h3 : w.cell? ⟨b, 3, none⟩ = some (.slice A' body.length c')) (hbz : b < w.heap.size)
    (hr' : Kd.C Kd.string w A' body.length body) (hb : BodyFit body) (hG : Glob w) :
    Calls Tryd.prog 79 (#[.agg #[.int .i64 x.f0, .string x.f1, .int .i64 x.f2, .string x.f3.f0, .string x.f3.f1]] ++ #[.pointer (some ⟨b, 0, none⟩)]) w fun e w' => e = .returned (.bool (holdsS u.data.toList d.data.toList body x)) ∧ Below w.heap.size w w' := by
  have hc := fun W (hW : Below w.heap.size w W) => holds_any x u d A n c A' c' body W hx hu hd (Kd.C_below hr' hW) hb.1 hb.2 (hG.below hW)
  clear hx hr' hb hu hd
  generalize holdsS u.data.toList d.data.toList body x = q at hc
  have hne : ¬ b = w.heap.size := by omega
  have B0 : Below w.heap.size w (w.alloc (.cells #[.int .i64 x.f0, .string x.f1, .int .i64 x.f2, .string x.f3.f0, .string x.f3.f1] 65)) := (Below.refl _ _).alloc (Nat.le_refl _) _
  go_enter Tryd.func79, Tryd.ntmps79
  go_wp2_with (go_at_call 80; refine (hc _ B0).mono ?_; rintro e w1 ⟨rfl, hb1⟩)
  go_ret
  exact ⟨retb rfl, B0.trans (hb1.mono (by simp))⟩

def sieveFor (xs : List SRule) (u d : List UInt8) (tos : List SAddr) (body : List ByteArray) : Int :=
  if sieveOk xs && mailOk u d tos body then idx (holdsS u d body) xs else -1
set_option maxHeartbeats 2000000 in
theorem SieveFor_any (A0 : Option Addr) (c0 : Nat) (xs : List SRule) (u d : ByteArray) (A : Option Addr) (c : Nat) (tos : List SAddr) (A' : Option Addr) (c' : Nat) (body : List ByteArray) (w : World)
    (hr0 : Kd.C kRule w A0 xs.length xs) (hl0 : xs.length ≤ 4611686018427387904) (hx : ∀ x ∈ xs, RFit x) (hu : u.size < 4294967281) (hd : d.size < 4294967281)
    (hr : Kd.C kAddr w A tos.length tos) (ht : ToFit tos) (hr' : Kd.C Kd.string w A' body.length body) (hb : BodyFit body) (hG : Glob w) :
    Calls Tryd.prog 30 #[.slice A0 xs.length c0, .agg #[.string u, .string d, .slice A tos.length c, .slice A' body.length c']] w fun e w' => e = .returned (.int .i64 (sieveFor xs u.data.toList d.data.toList tos body)) ∧ Below w.heap.size w w' := by
  have h1 := fun W (hW : Below w.heap.size w W) => SieveOk_any A0 c0 xs W (Kd.C_below hr0 hW) hl0 hx (hG.below hW)
  have h2 := fun W (hW : Below w.heap.size w W) => MailOk_any u d A c tos A' c' body W hu hd (Kd.C_below hr hW) ht.1 ht.2 (Kd.C_below hr' hW) hb.1 hb.2 (hG.below hW)
  have h3 := fun b W (hW : Below w.heap.size w W) (e0 : W.cell? ⟨b, 0, none⟩ = some (.string u)) (e1 : W.cell? ⟨b, 1, none⟩ = some (.string d)) (e2 : W.cell? ⟨b, 2, none⟩ = some (.slice A tos.length c)) (e3 : W.cell? ⟨b, 3, none⟩ = some (.slice A' body.length c')) (hbz : b < W.heap.size) =>
    IndexFunc_Rule 79 #[.pointer (some ⟨b, 0, none⟩)] (holdsS u.data.toList d.data.toList body) (enters_of Tryd.func79 (by kernel_rfl) rfl) A0 c0 xs W (Kd.C_below hr0 hW) hl0
      (fun V y hm hv => SieveFor1_any b y u d A tos.length c A' c' body V (hx y hm) hu hd ((hv.cell (p := ⟨b, 0, none⟩) hbz).trans e0) ((hv.cell (p := ⟨b, 1, none⟩) hbz).trans e1) ((hv.cell (p := ⟨b, 2, none⟩) hbz).trans e2) ((hv.cell (p := ⟨b, 3, none⟩) hbz).trans e3) (Nat.lt_of_lt_of_le hbz hv.size) (Kd.C_below (Kd.C_below hr' hW) hv) hb ((hG.below hW).below hv))
  unfold sieveFor
  clear hr0 hx hr ht hr' hb hu hd
  generalize idx (holdsS u.data.toList d.data.toList body) xs = i at h3
  generalize mailOk u.data.toList d.data.toList tos body = q2 at h2
  generalize sieveOk xs = q1 at h1
  have B0 : Below w.heap.size w (w.alloc (.cells #[.string u, .string d, .slice A tos.length c, .slice A' body.length c'] 46)) := (Below.refl _ _).alloc (Nat.le_refl _) _
  cases q1
  · go_enter Tryd.func30, Tryd.ntmps30
    go_wp2_with (go_at_call 19; refine (h1 _ B0).mono ?_; rintro e w1 ⟨rfl, hb1⟩)
    go_ret
    exact ⟨rfl, B0.trans (hb1.mono (by simp))⟩
  · cases q2
    all_goals
      go_enter Tryd.func30, Tryd.ntmps30
      go_wp2_with (first | (go_at_call 19; refine (h1 _ B0).mono ?_; rintro e w1 ⟨rfl, hb1⟩; have c0_ := (hb1.cell (p := ⟨w.heap.size, 0, none⟩) (by simp)).trans (by simp : _ = some (.string u)); have c1_ := (hb1.cell (p := ⟨w.heap.size, 1, none⟩) (by simp)).trans (by simp : _ = some (.string d)); have c2_ := (hb1.cell (p := ⟨w.heap.size, 2, none⟩) (by simp)).trans (by simp : _ = some (.slice A tos.length c)); have c3_ := (hb1.cell (p := ⟨w.heap.size, 3, none⟩) (by simp)).trans (by simp : _ = some (.slice A' body.length c')); have B1 : Below w.heap.size w w1 := B0.trans (hb1.mono (by simp)); have Z1 : w.heap.size < w1.heap.size := (by have := hb1.size; simp at this; omega); clear hb1) | (go_at_call 25; refine (h2 _ B1).mono ?_; rintro e w2 ⟨rfl, hb2⟩; have d0_ := (hb2.cell (p := ⟨w.heap.size, 0, none⟩) Z1).trans c0_; have d1_ := (hb2.cell (p := ⟨w.heap.size, 1, none⟩) Z1).trans c1_; have d2_ := (hb2.cell (p := ⟨w.heap.size, 2, none⟩) Z1).trans c2_; have d3_ := (hb2.cell (p := ⟨w.heap.size, 3, none⟩) Z1).trans c3_; have B2 : Below w.heap.size w w2 := B1.trans (hb2.mono B1.size); have Z2 : w.heap.size < w2.heap.size := Nat.lt_of_lt_of_le Z1 hb2.size; clear hb2) | (go_at_call 78; refine (h3 w.heap.size _ B2 d0_ d1_ d2_ d3_ Z2).mono ?_; rintro e w3 ⟨rfl, hb3⟩))
      go_ret
    · exact ⟨rfl, B2⟩
    · exact ⟨rfl, B2.trans (hb3.mono B2.size)⟩

end Go.Proofs.YtmfehmbgghfffaaDoor
