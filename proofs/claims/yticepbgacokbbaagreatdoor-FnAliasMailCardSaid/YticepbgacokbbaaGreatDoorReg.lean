/- Regions whose order is drawn: the steps in short forms. -/
import Derived.Test.YticepbgacokbbaaGreatDoorProg
import Derived.KernelRfl
import Derived.Deep.RegionHeld3
namespace Go.Proofs.YticepbgacokbbaaGreatDoor
set_option linter.unusedVariables false
section
variable {P : Program} {ops : Array Oper} {Q : Exit → Act → World → Prop} {md : Region.Mode} {S : World → Prop} {fuel : Nat} {listed : Array Bool} {a : Act} {w : World} {dst : Option Tmp} {op : Op} {ty : TypeId} {pos : String} {after : Array Edge} {guard : Option (Nat × Bool)}
theorem tk (i : Nat) (v : Value) (hy : ∀ w, S w → (execOp a.eval ⟨dst, op, ty, pos, after, guard⟩).run P w = .ok (.value v) w) (h : wpAnyH P md ops Q S fuel (listed.setIfInBounds i true) (a.put dst v) w) (hi : ops[i]? = some ⟨dst, op, ty, pos, after, guard⟩ := by exact rfl) (hs : Region.noSelect ops = true := by kernel_rfl) (hf : Region.free md ops listed i = true := by kernel_rfl) (hr : (Region.ready md ops listed).contains i = true := by kernel_rfl)
  (hQ : ∀ c a w, Q (.panic c) (a.put dst v) w → Q (.panic c) a w := by exact fun _ _ _ h => h) (hw : Region.wanted ⟨dst, op, ty, pos, after, guard⟩ (yielded ops a.tmps) = true := by rfl) (hS : S w := by assumption) : wpAnyH P md ops Q S (fuel + 1) listed a w :=
 wpAnyH_take hi hs hf hr hQ (.inl ⟨hw, hy⟩) hS h
theorem tn (i : Nat) (h : wpAnyH P md ops Q S fuel (listed.setIfInBounds i true) (a.put dst undef) w) (hi : ops[i]? = some ⟨dst, op, ty, pos, after, guard⟩ := by exact rfl) (hs : Region.noSelect ops = true := by kernel_rfl) (hf : Region.free md ops listed i = true := by kernel_rfl) (hr : (Region.ready md ops listed).contains i = true := by kernel_rfl)
  (hQ : ∀ c a w, Q (.panic c) (a.put dst undef) w → Q (.panic c) a w := by exact fun _ _ _ h => h) (hw : Region.wanted ⟨dst, op, ty, pos, after, guard⟩ (yielded ops a.tmps) = false := by rfl) (hS : S w := by assumption) : wpAnyH P md ops Q S (fuel + 1) listed a w :=
 wpAnyH_take hi hs hf hr hQ (.inr ⟨hw, rfl⟩) hS h
theorem rc {i : Nat} {rs : List Nat} (h : ∀ K' : Act → World → Prop, Shut (∀ a w, S w → (S w → wpAnyH P md ops Q S fuel (listed.setIfInBounds i true) a w) → K' a w) → if Region.wanted ⟨dst, op, ty, pos, after, guard⟩ (yielded ops a.tmps) = true then Oper.wp P ⟨dst, op, ty, pos, after, guard⟩ a w K' Q else K' (a.put dst undef) w)
  (hs : AllReadyH P md ops Q S fuel listed a w rs) (hi : ops[i]? = some ⟨dst, op, ty, pos, after, guard⟩ := by exact rfl) : AllReadyH P md ops Q S fuel listed a w (i :: rs) := AllReadyH.cons hi h hs
theorem rdy {rs : List Nat} (h : AllReadyH P md ops Q S fuel listed a w rs) (hr : Region.ready md ops listed = rs := by kernel_rfl) (hne : rs ≠ [] := by simp) : wpAnyH P md ops Q S (fuel + 1) listed a w := wpAnyH_ready hr hne h
end
theorem clq {W : World} {g t : Nat} {cs : Array Value} {f : Nat × Nat} (h : W.heap[g]? = some (.cells cs t f)) (j : Nat) {v : Value} (hv : cs[j]? = some v) : W.cell? ⟨g, j, none⟩ = some v := by simp [World.cell?, h, hv]
theorem fzq {W : World} {g t : Nat} {cs : Array Value} (h : W.heap[g]? = some (.cells cs t (0, 0))) (j : Nat) : W.frozen? ⟨g, j, none⟩ = false := by simp [World.frozen?, h]
end Go.Proofs.YticepbgacokbbaaGreatDoor
