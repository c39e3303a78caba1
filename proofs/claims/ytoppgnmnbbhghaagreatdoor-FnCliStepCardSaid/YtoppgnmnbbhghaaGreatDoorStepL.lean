/- A client's step: what it does. -/
import Derived.Test.YtoppgnmnbbhghaaGreatDoorCliO
import Derived.Test.YtoppgnmnbbhghaaGreatDoorText
import Derived.Test.YtoppgnmnbbhghaaGreatDoorDots
import Derived.Test.YtoppgnmnbbhghaaGreatDoorCode
namespace Go.Proofs.YtoppgnmnbbhghaaGreatDoor
open Go.RowKit Go.Proofs.YtoppgnmnbbhghaaGreatDoorW.PrintWords
set_option linter.unusedVariables false
set_option linter.unusedSimpArgs false

def failC (code : Int) : Int := if 500 ≤ code then 4 else 3
def nextC (c : SCli) : SCli × ByteArray :=
  if c.f3 < (c.f1.f1.length : Int) then (⟨c.f0, c.f1, 3, c.f3 + 1, c.f4⟩, (⟨#[82, 67, 80, 84, 32, 84, 79, 58]⟩ : ByteArray) ++ textS (c.f1.f1.getD c.f3.toNat zAddr).f0 (c.f1.f1.getD c.f3.toNat zAddr).f1)
  else if has c.f4 1 then (⟨c.f0, c.f1, 4, c.f3, c.f4⟩, ⟨#[68, 65, 84, 65]⟩) else (⟨c.f0, c.f1, 6, c.f3, c.f4⟩, ⟨#[81, 85, 73, 84]⟩)
def stepC (c : SCli) (code : Int) : SCli × ByteArray :=
  if c.f2 = 7 ∨ c.f2 = 6 then (⟨c.f0, c.f1, 7, c.f3, c.f4⟩, ⟨#[]⟩)
  else if c.f2 = 0 ∧ code = 220 then (⟨c.f0, c.f1, 1, c.f3, c.f4⟩, (⟨#[72, 69, 76, 79, 32]⟩ : ByteArray) ++ c.f0)
  else if c.f2 = 1 ∧ code = 250 then (⟨c.f0, c.f1, 2, c.f3, c.f4⟩, (⟨#[77, 65, 73, 76, 32, 70, 82, 79, 77, 58]⟩ : ByteArray) ++ textS c.f1.f0.f0 c.f1.f0.f1)
  else if c.f2 = 2 ∧ code = 250 then nextC c
  else if c.f2 = 3 then nextC ⟨c.f0, c.f1, c.f2, c.f3, c.f4.set (c.f3 - 1).toNat (if code = 250 then 1 else failC code)⟩
  else if c.f2 = 4 ∧ code = 354 then (⟨c.f0, c.f1, 5, c.f3, c.f4⟩, dots c.f1.f2)
  else if c.f2 = 5 ∧ code = 250 then (⟨c.f0, c.f1, 6, c.f3, becomes 2 [1] c.f4⟩, ⟨#[81, 85, 73, 84]⟩)
  else (⟨c.f0, c.f1, 6, c.f3, becomes (failC code) [0, 1] c.f4⟩, ⟨#[81, 85, 73, 84]⟩)
theorem wrapk (k : Nat) (h : k ≤ 1048576) : IntKind.i64.wrap (k : Int) = (k : Int) := by
  simp [IntKind.wrap, IntKind.bits, IntKind.signed]
  omega
theorem text_szN {x y : ByteArray} (hx : x.size ≤ 1048576) (hy : y.size ≤ 1048576) : (textS x y).size ≤ 2097155 := by
  unfold textS
  split
  · show (2 : Nat) ≤ _
    omega
  · simp only [ByteArray.size_append]
    show 1 + x.size + 1 + y.size + 1 ≤ _
    omega
theorem add_blk (ad : Addr) (i : Nat) : (ad.add i).block = ad.block := by unfold Addr.add; split <;> rfl
theorem R_by {α β : Type} {d : Kd α} {d2 : Kd β} {e e2 base b2 : Nat} {ok ok2 : Nat → Prop} {W w1 : World} {v v2 : Value} {xs : List α} {ys : List β} (h : d.R e W base ok v xs) (hE : d.E = []) (h2 : d2.R e2 W b2 ok2 v2 ys) (he : e ≠ e2) (hg : W.grownBy w1 v2.ownBlock) : d.R e w1 base ok v xs := by
  obtain ⟨inner, ho⟩ := Kd.R_own h2
  exact Kd.R_mono (Kd.R_step (Kd.R_tight hE h) (fun k hk hlt => hg.block k hlt (fun e => by obtain ⟨cs, hc⟩ := own_typed ho k e.symm; exact Kd.R_ne h hc he hk))) (fun k hk => h.1 k hk.symm)
theorem nextC_rest (c : SCli) : (nextC c).1.f0 = c.f0 ∧ (nextC c).1.f1 = c.f1 ∧ (nextC c).1.f4 = c.f4 := by
  unfold nextC
  split
  · exact ⟨rfl, rfl, rfl⟩
  · split <;> exact ⟨rfl, rfl, rfl⟩
def stepS (c : SCli) (s : ByteArray) : SCli := if cliOk c then (stepC c (codeOf s)).1 else zCli
def stepT (c : SCli) (s : ByteArray) : ByteArray := if cliOk c then (stepC c (codeOf s)).2 else ⟨#[]⟩
theorem stepC_rest (c : SCli) (code : Int) : (stepC c code).1.f0 = c.f0 ∧ (stepC c code).1.f1 = c.f1 ∧ (stepC c code).1.f4.length = c.f4.length := by
  unfold stepC
  have hn := nextC_rest
  repeat' split
  all_goals first | exact ⟨rfl, rfl, rfl⟩ | exact ⟨rfl, rfl, becomes_length _ _ _⟩ | exact ⟨(hn _).1, (hn _).2.1, (congrArg List.length (hn _).2.2).trans List.length_set⟩ | exact ⟨(hn _).1, (hn _).2.1, congrArg List.length (hn _).2.2⟩
theorem cliOk_facts (c : SCli) (h : cliOk c = true) : (0 ≤ c.f2 ∧ c.f2 ≤ 7) ∧ (0 ≤ c.f3 ∧ c.f3 ≤ (c.f1.f1.length : Int)) ∧ (c.f2 = 3 → 0 < c.f3) ∧ c.f4.length = c.f1.f1.length := by
  unfold cliOk at h
  simp only [Bool.and_eq_true, Bool.or_eq_true, decide_eq_true_eq, Bool.not_eq_true', beq_eq_false_iff_ne] at h
  obtain ⟨_, _, h2, h3, h4, h5, _⟩ := h
  exact ⟨h2, h3, fun e => h4.resolve_left (fun k => k e), h5⟩

end Go.Proofs.YtoppgnmnbbhghaaGreatDoor
