/- From what the form reads of an argument to what the walks ask of it: type by type. -/
import Derived.Deep.Slices
import Derived.ProofKit
import Derived.Test.YticepbgacokbbaaGreatDoorWWords
namespace Go.Proofs.YticepbgacokbbaaGreatDoor
open Go Go.Deep Go.Proofs.YticepbgacokbbaaGreatDoorW.PrintWords
set_option linter.unusedVariables false
variable {P : Program}

/-- Whatever the form reads at type t is of kind d, and good. -/
def Opens {α : Type} (P : Program) (t : TypeId) (d : Kd α) (good : α → Prop) : Prop :=
 ∀ {H : Type} (enc : TypeId × Value → H) (w : World) (base : Nat) (spare : Nat → Bool) (held : Bool) (fuel : Nat) (cs : List Value) (x : DataW H × List MemPlace), DataW.trod enc P w base spare held fuel t cs = some x → ∃ a, d.K w a cs ∧ good a
theorem opens_int {t : TypeId} {k : IntKind} (ht : P.underlying t = some (.int k)) : Opens P t (Kd.int k) (fun n => (Lit.int k n).wf = true) := by
 intro H enc w base spare held fuel cs x h
 obtain ⟨n, rfl, _, hw⟩ := DataW.trod_int ht h
 exact ⟨n, rfl, hw⟩
theorem opens_string {t : TypeId} (ht : P.underlying t = some .string) : Opens P t Kd.string (fun s => s.size ≤ 9223372036854775807) := by
 intro H enc w base spare held fuel cs x h
 obtain ⟨s, rfl, _, hw⟩ := DataW.trod_string ht h
 exact ⟨s, rfl, hw⟩
theorem opens_bool {t : TypeId} (ht : P.underlying t = some .bool) : Opens P t Kd.bool (fun _ => True) := by
 intro H enc w base spare held fuel cs x h
 obtain ⟨s, rfl, _⟩ := DataW.trod_bool ht h
 exact ⟨s, rfl, trivial⟩
theorem opens_slice {α : Type} {t e : TypeId} {d : Kd α} {g : α → Prop} (ht : P.underlying t = some (.slice e)) (hc : P.cellsOf e = d.sz) (he : Opens P e d g) : Opens P t (Kd.slice e d) (fun xs => xs.length ≤ 9223372036854775807 ∧ ∀ x ∈ xs, g x) := by
 intro H enc w base spare held fuel cs x h
 rcases open_slice ht h with ⟨rfl, _⟩ | ⟨a, len, cap, m, n, D, Pl, rfl, hb, hl, hm, hmm, _, hel⟩
 ·exact ⟨[], ⟨none, 0, rfl, Nat.le_refl _, ⟨rfl, by simp, fun h => absurd h (by simp)⟩⟩, by simp, by simp⟩
 ·have hlm : len ≤ m := by rw [hmm]; split <;> omega
  have hx : ∀ i, i < len → ∃ y, (∃ c, c.length = d.sz ∧ d.K w y c ∧ ∀ j u, c[j]? = some u → w.cell? (a.add (i * d.sz + j)) = some u) ∧ g y := by
   intro i hi
   obtain ⟨c, h1, h2⟩ := hel i (by omega)
   obtain ⟨y, hk, hg⟩ := he enc w base spare held n c _ h2
   obtain ⟨_, hlen, hcell⟩ := World.cells?_some h1
   refine ⟨y, ⟨c, by rw [hlen, hc], hk, fun j u hu => ?_⟩, hg⟩
   have hj : j < P.cellsOf e := by rw [← hlen]; exact (List.getElem?_eq_some_iff.1 hu).1
   have := hcell j hj
   rw [hu, Deep.add_add, hc] at this
   exact this
  by_cases hz : len = 0
  ·subst hz
   exact ⟨[], ⟨some a, cap, rfl, Nat.zero_le _, ⟨rfl, by simp, fun h => absurd h (by simp)⟩⟩, by simp, by simp⟩
  ·obtain ⟨y0, _⟩ := hx 0 (by omega)
   haveI : Inhabited α := ⟨y0⟩
   obtain ⟨f, hf⟩ := choose_lt hx
   have hlen : ((List.range len).map f).length = len := by simp
   refine ⟨(List.range len).map f, ⟨some a, cap, by rw [hlen], by rw [hlen]; exact hl, ⟨rfl, by rw [hlen]; unfold maxLen at hm; omega, fun _ => ⟨a, rfl, fun j p hj => ?_⟩⟩⟩, by rw [hlen]; unfold maxLen at hm; omega, fun x hx' => ?_⟩
   ·have hjl : j < len := by have := (List.getElem?_eq_some_iff.1 hj).1; rwa [hlen] at this
    have e : f j = p := by simpa [hjl] using hj
    subst e
    exact (hf j hjl).1
   ·obtain ⟨i, hi, rfl⟩ := List.mem_map.1 hx'
    exact (hf i (by simpa using hi)).2

/-- Fields in line, from a place on. -/
def placed : List (TypeId × Nat) → Nat → List (TypeId × Nat × Nat)
 | [], _ => []
 | (t, n) :: r, off => (t, off, n) :: placed r (off + n)
def total : List (TypeId × Nat) → Nat
 | [] => 0
 | (_, n) :: r => n + total r
def OpensF {α : Type} (P : Program) (fs : List (TypeId × Nat)) (off : Nat) (d : Kd α) (good : α → Prop) : Prop :=
 ∀ {H : Type} (enc : TypeId × Value → H) (w : World) (base : Nat) (spare : Nat → Bool) (held : Bool) (cs : List Value), cs.length = off + total fs →
  (∀ q ∈ placed fs off, ∃ n y, DataW.trod enc P w base spare held n q.1 ((cs.drop q.2.1).take q.2.2) = some y) → ∃ a, d.K w a (cs.drop off) ∧ good a
theorem opensF_one {α : Type} {t : TypeId} {n off : Nat} {d : Kd α} {g : α → Prop} (h : Opens P t d g) : OpensF P [(t, n)] off d g := by
 intro H enc w base spare held cs hl hq
 obtain ⟨m, y, hy⟩ := hq (t, off, n) (by simp [placed])
 simp only [total] at hl
 simp only at hy
 rw [List.take_of_length_le (by rw [List.length_drop]; omega)] at hy
 exact h enc w base spare held m _ y hy
theorem opensF_cons {α β : Type} {t : TypeId} {n off : Nat} {fs : List (TypeId × Nat)} {d : Kd α} {d' : Kd β} {g : α → Prop} {g' : β → Prop} (h : Opens P t d g) (h' : OpensF P fs (off + n) d' g') :
  OpensF P ((t, n) :: fs) off (Kd.pair d d') (fun p => g p.1 ∧ g' p.2) := by
 intro H enc w base spare held cs hl hq
 simp only [total] at hl
 obtain ⟨m, y, hy⟩ := hq (t, off, n) (by simp [placed])
 obtain ⟨a, ha, hga⟩ := h enc w base spare held m _ y hy
 obtain ⟨b, hb, hgb⟩ := h' enc w base spare held cs (by omega) (fun q hq' => hq q (by simp [placed, hq']))
 refine ⟨(a, b), ⟨(cs.drop off).take n, cs.drop (off + n), ?_, ha, hb⟩, hga, hgb⟩
 rw [← List.drop_drop, List.take_append_drop]
theorem opens_struct {α : Type} {t : TypeId} {fs : Array Field} {l : List (TypeId × Nat)} {d : Kd α} {g : α → Prop} (ht : P.underlying t = some (.struct fs)) (hf : (fs.toList.map fun f => (f.type, f.offset, P.cellsOf f.type)) = placed l 0) (hc : P.cellsOf t = total l) (h : OpensF P l 0 d g) : Opens P t d g := by
 intro H enc w base spare held fuel cs x hx
 obtain ⟨xs, n, _, _, hl, hlen, hfs⟩ := DataW.trod_struct ht hx
 have := h enc w base spare held cs (by rw [hl, hc]; omega) (fun q hq => by
  rw [← hf] at hq
  obtain ⟨f, hf', rfl⟩ := List.mem_map.1 hq
  obtain ⟨i, hi, rfl⟩ := List.getElem_of_mem hf'
  have hi' : i < xs.length := by rw [hlen]; simpa using hi
  have h2 := hfs i fs.toList[i] (by simp)
  rw [List.getElem?_eq_getElem hi'] at h2
  exact ⟨n, _, h2⟩)
 simpa using this
theorem opens_iso {α β : Type} {t : TypeId} {d : Kd α} {g : α → Prop} (f : β → α) (f' : α → β) (hf : ∀ a, f (f' a) = a) (h : Opens P t d g) : Opens P t (Kd.iso d f) (fun b => g (f b)) := by
 intro H enc w base spare held fuel cs x hx
 obtain ⟨a, ha, hg⟩ := h enc w base spare held fuel cs x hx
 exact ⟨f' a, by show d.K w (f (f' a)) cs; rw [hf]; exact ha, by show g (f (f' a)); rw [hf]; exact hg⟩
theorem opens_imp {α : Type} {t : TypeId} {d : Kd α} {g g' : α → Prop} (h : Opens P t d g) (hi : ∀ a, g a → g' a) : Opens P t d g' := by
 intro H enc w base spare held fuel cs x hx
 obtain ⟨a, ha, hg⟩ := h enc w base spare held fuel cs x hx
 exact ⟨a, ha, hi a hg⟩
end Go.Proofs.YticepbgacokbbaaGreatDoor
