/- DomainIn, holds, SieveFor of the program: their answers in plain words. -/
import Derived.Test.YtomcaichidepnaaDoorMail
namespace Go.Proofs.YtomcaichidepnaaDoor
open Go.RowKit Go.Proofs.YtomcaichidepnaaDoorW.PrintWords P
set_option linter.unusedVariables false
set_option linter.unusedSimpArgs false

def domIn (s e : List UInt8) : Bool := dom s && (dom e && (decide (s = e) || Lib.hasSuffix s (46 :: e)))
theorem dot_data (e : ByteArray) : ((⟨#[46]⟩ : ByteArray) ++ e).data.toList = 46 :: e.data.toList := by rw [ByteArray.data_append]; simp
theorem dot_size (e : ByteArray) : ((⟨#[46]⟩ : ByteArray) ++ e).size = e.size + 1 := by rw [ByteArray.size_append]; show 1 + e.size = _; omega
theorem DomainIn_any (s e : ByteArray) (w : World) (hs : s.size < 4294967281) (he : e.size < 4294967281) (hG : Glob w) :
    Calls Tryd.prog 83 #[.string s, .string e] w fun r w' => r = .returned (.bool (domIn s.data.toList e.data.toList)) ∧ Below w.heap.size w w' := by
  have h1 := fun W (hW : Below w.heap.size w W) => DomainOk_any s W hs (hG.below hW)
  have h2 := fun W (hW : Below w.heap.size w W) => DomainOk_any e W he (hG.below hW)
  have h3 := fun W => Tryd.strings_HasSuffix s ((⟨#[46]⟩ : ByteArray) ++ e) W (by omega)
  rw [dot_data] at h3
  have heq : (s.data.toList == e.data.toList) = decide (s.data.toList = e.data.toList) := by rw [Bool.eq_iff_iff, beq_iff_eq, decide_eq_true_iff]
  have hsz : e.size + 1 ≤ 9223372036854775807 := by omega
  have hsz' : 1 + e.size ≤ 9223372036854775807 := by omega
  unfold domIn
  rw [← heq]
  have HEQ : s.toList = s.data.toList := bl s
  have HEE : e.toList = e.data.toList := bl e
  generalize Lib.hasSuffix s.data.toList (46 :: e.data.toList) = q4 at h3
  generalize dom s.data.toList = q1 at h1
  generalize dom e.data.toList = q2 at h2
  clear heq hs he
  cases q1
  · go_enter Tryd.func83, Tryd.ntmps83
    go_wp2_with (go_at_call 73; refine (h1 _ (Below.refl _ _)).mono ?_; rintro r w1 ⟨rfl, B1⟩)
    go_ret
    exact ⟨retb rfl, B1⟩
  · cases q2
    · go_enter Tryd.func83, Tryd.ntmps83
      go_wp2_with fail
      refine (h1 _ (Below.refl _ _)).mono ?_
      rintro r w1 ⟨rfl, B1⟩
      go_wp2_with fail
      refine (h2 _ B1).mono ?_
      rintro r w2 ⟨rfl, hb2⟩
      have B2 := B1.trans (hb2.mono B1.size)
      go_wp2
      go_ret
      exact ⟨retb rfl, B2⟩
    · cases q3 : (s.data.toList == e.data.toList)
      · have q3' : (s.toList == e.toList) = false := by rw [HEQ, HEE]; exact q3
        clear q3 HEQ HEE
        go_enter Tryd.func83, Tryd.ntmps83
        go_wp2_with fail
        refine (h1 _ (Below.refl _ _)).mono ?_
        rintro r w1 ⟨rfl, B1⟩
        go_wp2_with fail
        refine (h2 _ B1).mono ?_
        rintro r w2 ⟨rfl, hb2⟩
        have B2 := B1.trans (hb2.mono B1.size)
        go_wp2_with fail
        refine (h3 _).mono ?_
        rintro r w3 ⟨rfl, rfl⟩
        go_wp2
        go_ret
        exact ⟨retb rfl, B2⟩
      · have q3' : (s.toList == e.toList) = true := by rw [HEQ, HEE]; exact q3
        clear q3 HEQ HEE
        go_enter Tryd.func83, Tryd.ntmps83
        go_wp2_with fail
        refine (h1 _ (Below.refl _ _)).mono ?_
        rintro r w1 ⟨rfl, B1⟩
        go_wp2_with fail
        refine (h2 _ B1).mono ?_
        rintro r w2 ⟨rfl, hb2⟩
        have B2 := B1.trans (hb2.mono B1.size)
        go_wp2
        go_ret
        exact ⟨retb rfl, B2⟩

def inBody (t : List UInt8) (body : List ByteArray) : Bool := body.any fun l => Lib.contains l.data.toList t
def holdsF (ask : Int) (t u d : List UInt8) (body : List ByteArray) : Bool :=
  if ask = 1 then !nul u d && domIn d t else if ask = 2 then inBody t body else if ask = 3 then nul u d else true
theorem holds1_any (b : Nat) (t s : ByteArray) (W : World) (h1 : W.cell? ⟨b, 1, none⟩ = some (.string t)) (hs : s.size < 4294967281) (hG : Glob W) :
    Calls Tryd.prog 85 (#[.string s] ++ #[.pointer (some ⟨b, 0, none⟩)]) W fun e w' => e = .returned (.bool (Lib.contains s.data.toList t.data.toList)) ∧ Below W.heap.size W w' := by
  obtain ⟨m, hm⟩ := hG
  have hc := Tryd.strings_Contains s t m W hs hm
  generalize Lib.contains s.data.toList t.data.toList = q at hc
  clear hm
  go_enter Tryd.func85, Tryd.ntmps85
  go_wp2_with (go_at_call 86; refine hc.mono ?_; rintro e w' ⟨rfl, rfl⟩)
  go_ret
  exact ⟨retb rfl, Below.refl _ _⟩
def holdsS (u d : List UInt8) (body : List ByteArray) (x : S57) : Bool := holdsF x.f0 x.f1.data.toList u d body
set_option maxRecDepth 100000 in
set_option maxHeartbeats 1000000 in
theorem holds_any (x : S57) (u d : ByteArray) (A : Option Addr) (n c : Nat) (A' : Option Addr) (c' : Nat) (body : List ByteArray) (w : World) (hx : RFit x) (hu : u.size < 4294967281) (hd : d.size < 4294967281)
    (hr' : Kd.C Kd.string w A' body.length body) (hl' : body.length ≤ 4611686018427387904) (hb : ∀ x ∈ body, x.size < 4294967281) (hG : Glob w) :
    Calls Tryd.prog 47 #[.agg #[.int .i64 x.f0, .string x.f1, .int .i64 x.f2, .string x.f3.f0, .string x.f3.f1], .agg #[.string u, .string d, .slice A n c, .slice A' body.length c']] w fun e w' => e = .returned (.bool (holdsS u.data.toList d.data.toList body x)) ∧ Below w.heap.size w w' := by
  obtain ⟨x0, x1, x2, ⟨x3, x4⟩⟩ := x
  obtain ⟨-, -, ht, -, -⟩ := hx
  change x1.size < _ at ht
  unfold holdsS holdsF
  dsimp only
  have hn := fun W => null_any u d W
  have hdi := fun W (hW : Below w.heap.size w W) => DomainIn_any d x1 W hd ht (hG.below hW)
  have hcb := fun b W (hW : Below w.heap.size w W) (hc : W.cell? ⟨b, 1, none⟩ = some (.string x1)) (hbz : b < W.heap.size) => ContainsFunc_Text 85 #[.pointer (some ⟨b, 0, none⟩)] (fun l => Lib.contains l.data.toList x1.data.toList) (enters_of Tryd.func85 (by kernel_rfl) rfl) A' c' body W (Kd.C_below hr' hW) hl' (fun V y hm hv => holds1_any b x1 y V ((hv.cell (p := ⟨b, 1, none⟩) hbz).trans hc) (hb y hm) ((hG.below hW).below hv))
  change ∀ b W, _ → _ → _ → Calls _ _ _ _ (fun e w' => e = .returned (.bool (inBody x1.data.toList body)) ∧ _) at hcb
  clear hr' hb ht hu hd
  generalize inBody x1.data.toList body = q2 at hcb
  generalize domIn d.data.toList x1.data.toList = q1 at hdi
  generalize nul u.data.toList d.data.toList = q0 at hn
  have B0 : Below w.heap.size w ((w.alloc (.cells #[.int .i64 x0, .string x1, .int .i64 x2, .string x3, .string x4] 57)).alloc (.cells #[.string u, .string d, .slice A n c, .slice A' body.length c'] 37)) := ((Below.refl _ _).alloc (Nat.le_refl _) _).alloc (by simp) _
  by_cases c1 : x0 = 1
  · have c1' : (x0 == 1) = true := beq_iff_eq.2 c1
    rw [if_pos c1]
    clear c1
    cases q0
    · go_enter Tryd.func47, Tryd.ntmps47
      go_wp2_with (first | (go_at_call 75; refine (hn _).mono ?_; rintro e w1 ⟨rfl, hb1⟩; have d1 := (hb1.cell (p := ⟨w.heap.size, 1, none⟩) (by simp; omega)).trans (by simp : _ = some (.string x1)); have m1 := (hb1.cell (p := ⟨w.heap.size + 1, 1, none⟩) (by simp)).trans (by simp : _ = some (.string d)); have B1 : Below w.heap.size w w1 := B0.trans (hb1.mono (by simp; omega)); clear hb1) | (go_at_call 83; refine (hdi _ B1).mono ?_; rintro e w2 ⟨rfl, hb2⟩))
      go_ret
      exact ⟨retb rfl, B1.trans (hb2.mono B1.size)⟩
    · go_enter Tryd.func47, Tryd.ntmps47
      go_wp2_with (go_at_call 75; refine (hn _).mono ?_; rintro e w1 ⟨rfl, hb1⟩)
      go_ret
      exact ⟨retb rfl, B0.trans (hb1.mono (by simp; omega))⟩
  · have c1' : (x0 == 1) = false := beq_eq_false_iff_ne.2 c1
    rw [if_neg c1]
    clear c1
    by_cases c2 : x0 = 2
    · have c2' : (x0 == 2) = true := beq_iff_eq.2 c2
      rw [if_pos c2]
      clear c2
      go_enter Tryd.func47, Tryd.ntmps47
      go_wp2_with (go_at_call 84; refine (hcb w.heap.size _ B0 (by simp) (by simp; omega)).mono ?_; rintro e w1 ⟨rfl, hb1⟩)
      go_ret
      exact ⟨retb rfl, B0.trans (hb1.mono (by simp; omega))⟩
    · have c2' : (x0 == 2) = false := beq_eq_false_iff_ne.2 c2
      rw [if_neg c2]
      clear c2
      by_cases c3 : x0 = 3
      · have c3' : (x0 == 3) = true := beq_iff_eq.2 c3
        rw [if_pos c3]
        clear c3
        go_enter Tryd.func47, Tryd.ntmps47
        go_wp2_with (go_at_call 75; refine (hn _).mono ?_; rintro e w1 ⟨rfl, hb1⟩)
        go_ret
        exact ⟨retb rfl, B0.trans (hb1.mono (by simp; omega))⟩
      · have c3' : (x0 == 3) = false := beq_eq_false_iff_ne.2 c3
        rw [if_neg c3]
        clear c3
        go_enter Tryd.func47, Tryd.ntmps47
        go_wp2
        go_ret
        exact ⟨retb rfl, B0⟩
end Go.Proofs.YtomcaichidepnaaDoor
