/- Rows moved over what other blocks got. -/
import Derived.Test.YticepbgacokbbaaGreatDoorDrwK
namespace Go.Proofs.YticepbgacokbbaaGreatDoor
open Go.RowKit Go.Proofs.YticepbgacokbbaaGreatDoorW.PrintWords
set_option linter.unusedVariables false
set_option linter.unusedSimpArgs false
theorem hp_set {W w : World} {p : Addr} {u : Value} {k : Nat} (h : W.heap[k]? = w.heap[k]?) (hk : k ≠ p.block) : (W.setCell p u).heap[k]? = w.heap[k]? := (Below.heap_setCell _ _ _ k hk).trans h
theorem hp_alloc {W w : World} {o : Obj} {k : Nat} (h : W.heap[k]? = w.heap[k]?) (hk : k < W.heap.size) : (W.alloc o).heap[k]? = w.heap[k]? := (Below.heap_alloc _ _ k hk).trans h
theorem hp_drew {W w : World} {k : Nat} (h : W.heap[k]? = w.heap[k]?) : W.drew.heap[k]? = w.heap[k]? := h
theorem R_oneAt {α : Type} (d : Kd α) (e : Nat) (W : World) (base : Nat) (x : α) (cs : List Value) {b : Nat} (he : b = W.heap.size) (hM : d.M (W.alloc (.cells cs.toArray e)) base (fun _ => False) x cs) (hb : base ≤ W.heap.size) :
  d.R e (W.alloc (.cells cs.toArray e)) base (fun _ => True) (.slice (some ⟨b, 0, none⟩) 1 1) [x] := by subst he; exact R_one d e W base x cs hM hb
theorem R_keepT {α : Type} {d : Kd α} {e base : Nat} {ok : Nat → Prop} {W w1 : World} {v : Value} {xs : List α} (h : d.R e W base ok v xs) (hE : d.E = []) (T : ∀ k, k < W.heap.size → some k = v.ownBlock → w1.heap[k]? = W.heap[k]?) : d.R e w1 base ok v xs :=
 Kd.R_mono (Kd.R_step (Kd.R_tight hE h) (fun k hk hlt => T k hlt hk)) (fun k hk => h.1 k hk.symm)

end Go.Proofs.YticepbgacokbbaaGreatDoor
