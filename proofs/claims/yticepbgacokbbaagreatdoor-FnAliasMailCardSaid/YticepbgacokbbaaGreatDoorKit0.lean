/- Small words that all the walks use. -/
import Derived.Test.YticepbgacokbbaaGreatDoorBase
import Derived.Test.YticepbgacokbbaaGreatDoorMath
namespace Go.Proofs.YticepbgacokbbaaGreatDoor
open Go.RowKit Go.Proofs.YticepbgacokbbaaGreatDoorW.PrintWords
set_option linter.unusedVariables false
set_option linter.unusedSimpArgs false

theorem retb {a b : Bool} (h : a = b) : Ending.returned (.bool a) = Ending.returned (.bool b) := by rw [h]
theorem reti {a b : Int} (h : a = b) : Ending.returned (.int .i64 a) = Ending.returned (.int .i64 b) := by rw [h]
theorem rets {a b : ByteArray} (h : a = b) : Ending.returned (.string a) = Ending.returned (.string b) := by rw [h]
theorem bcell {W w1 : World} (hb : Below W.heap.size W w1) : (∀ b o, b < W.heap.size → w1.cell? ⟨b, o, none⟩ = W.cell? ⟨b, o, none⟩) ∧ (∀ b o, b < W.heap.size → w1.frozen? ⟨b, o, none⟩ = W.frozen? ⟨b, o, none⟩) :=
 ⟨fun b o h => hb.cell (p := ⟨b, o, none⟩) h, fun b o h => hb.frozen (p := ⟨b, o, none⟩) h⟩
theorem blw_drewN {B : Nat} {a W : World} (h : Below B a W) (n : Nat) : Below B a (W.drewN n) := ⟨h.os, h.tape, h.output, h.size, h.block⟩

theorem bel_alloc {a w : World} (h : Below a.heap.size a w) (o : Obj) : Below a.heap.size a (w.alloc o) := h.alloc h.size o
theorem bel_then {a w w' : World} (h : Below a.heap.size a w) (k : Below w.heap.size w w') : Below a.heap.size a w' := h.trans (k.mono h.size)
theorem bel_set {B : Nat} {a w : World} (h : Below B a w) {p : Addr} (u : Value) (hp : B ≤ p.block) : Below B a (w.setCell p u) := h.setCell hp u
theorem R_setLow {α : Type} {d : Kd α} {e base : Nat} {ok : Nat → Prop} {w : World} {v : Value} {xs : List α} (h : d.R e w base ok v xs) {p : Addr} (u : Value) (hp : p.block < base) : d.R e (w.setCell p u) base ok v xs :=
 Kd.R_mono (Kd.R_far (Kd.R_bound h) (fun k hk => by have := hk.2.1; omega) u) (fun _ hk => hk.1)
theorem getD_mem {α : Type} (xs : List α) (d : α) {k : Nat} (h : k < xs.length) : xs.getD k d ∈ xs := by rw [List.getD, List.getElem?_eq_getElem h]; exact List.getElem_mem h
theorem all_of_getD {α : Type} (xs : List α) (d : α) (p : α → Prop) (h : ∀ j, j < xs.length → p (xs.getD j d)) : ∀ x ∈ xs, p x := by
 intro x hx
 obtain ⟨j, hj, rfl⟩ := List.getElem_of_mem hx
 have := h j hj
 rwa [List.getD, List.getElem?_eq_getElem hj] at this
/-- Behind k rounds of filling a made row. -/
def filled {α : Type} (xs : List α) (z : α) (k : Nat) : List α := xs.take k ++ List.replicate (xs.length - k) z
theorem filled_zero {α : Type} (xs : List α) (z : α) : filled xs z 0 = List.replicate xs.length z := by simp [filled]
theorem filled_length {α : Type} (xs : List α) (z : α) (k : Nat) (h : k ≤ xs.length) : (filled xs z k).length = xs.length := by simp [filled]; omega
theorem filled_all {α : Type} (xs : List α) (z : α) : filled xs z xs.length = xs := by simp [filled]
theorem filled_step {α : Type} (xs : List α) (z : α) (k : Nat) (h : k < xs.length) : (filled xs z k).set k (xs.getD k z) = filled xs z (k + 1) := by
 unfold filled
 rw [List.set_append_right _ _ (by rw [List.length_take]; omega), List.length_take, show k - min k xs.length = 0 by omega, show xs.length - k = (xs.length - (k + 1)) + 1 by omega, List.replicate_succ, List.set_cons_zero, List.take_succ_eq_append_getElem h, List.append_assoc, List.getD, List.getElem?_eq_getElem h]
 rfl
section
variable {P : Program} {ops : Array Oper} {rest : List Oper} {o : Oper} {a : Act} {Q : Exit → Act → World → Prop} {α : Type}
theorem gate_builtin {W : World} {b : Builtin} {xs : Array Operand} {ts : Array TypeId} (_ho : o.op = .call { callee := .builtin b, args := xs, argTypes := ts }) (h : wpList P ops Q (o :: rest) a W) : wpList P ops Q (o :: rest) a W := h
/-- A whole element stored into a row of one's own. -/
theorem R_put (d : Kd α) {w0 W : World} (base : Nat) (z : α) (hN : o.dst = none) (hgd : o.guard = none) (t : TypeId) (p x : Operand) (ho : o.op = .store t p x) (e : TypeId) {g n cap o' : Nat} (i : Nat) (xs : List α) (x' : α) (u : Value) (seg : List Value) (ok okp : Nat → Prop)
  (haddr : a.eval p = .pointer (some ⟨g, o', none⟩)) (hoff : o' = i * d.sz) (hx : a.eval x = u) (hu : u.cells.toList = seg) (ht : (P.info? t).map (·.size) = some d.sz)
  (HO : d.R e W base ok (.slice (some ⟨g, 0, none⟩) n cap) xs) (hi : i < n) (hM : d.M W base okp x' seg) (hokp : ∀ k, okp k → ok k ∧ k ≠ g) (HB : Below base w0 W)
  (h : ∀ w1, d.R e w1 base ok (.slice (some ⟨g, 0, none⟩) n cap) (xs.set i x') → Below base w0 w1 → W.grownBy w1 (some g) → wpList P ops Q rest a w1) : wpList P ops Q (o :: rest) a W := by
 obtain ⟨c, hcl, hc, hcc, _⟩ := Kd.R_elem HO z (i : Int) (by omega) (by omega)
 have hlen : seg.length = d.sz := d.K_len (d.K_of_M hM)
 refine Kd.R_store d base hN hgd t p x ho e (i : Int) 0 xs x' u seg c ok okp haddr (by rw [hoff]; simp) hx hu (by rw [hlen]; exact ht) (d.K_one (d.K_of_M hM)) HO (by omega) (by omega) hcl hcc (by omega) ?_ hokp HB (fun w1 h1 h2 h3 => h w1 h1 h2 h3)
 rw [List.take_zero, Nat.zero_add, hlen, List.drop_of_length_le (by omega), List.append_nil, List.nil_append]
 exact hM
end
/-- A literal's row. -/
theorem R_lit0 {α : Type} (d : Kd α) (e : Nat) (W : World) (base : Nat) {ok : Nat → Prop} {xs : List α} {inner : List Value} (hr : Reps (d.M (W.alloc (.cells inner.toArray e)) base (fun k => ok k ∧ some k ≠ (Value.slice (some ⟨W.heap.size, 0, none⟩) xs.length xs.length).ownBlock)) d.sz xs inner) (hm : xs.length ≤ 9223372036854775807) (hb : base ≤ W.heap.size) (hok : ok W.heap.size) :
  d.R e (W.alloc (.cells inner.toArray e)) base ok (.slice (some ⟨W.heap.size, 0, none⟩) xs.length xs.length) xs :=
 ⟨fun k hk => by simp [Value.ownBlock] at hk; subst hk; exact hok, OwnRow.lit W base hr hb hm⟩
theorem R_empty {α : Type} (d : Kd α) (e : Nat) (W : World) (base : Nat) {ok : Nat → Prop} (hb : base ≤ W.heap.size) (hok : ok W.heap.size) : d.R e (W.alloc (.cells #[] e)) base ok (.slice (some ⟨W.heap.size, 0, none⟩) 0 0) [] :=
 R_lit0 d e W base (inner := []) (xs := []) (Reps.none _ _) (by simp) hb hok
theorem zip_set {α : Type} (xs : List α) (i : Nat) (x : α) : (xs.set i x).zipIdx = xs.zipIdx.set i (x, i) := by
 refine List.ext_getElem? fun j => ?_
 rw [List.getElem?_zipIdx, List.getElem?_set, List.getElem?_set, List.getElem?_zipIdx, List.length_zipIdx]
 by_cases h : i = j
 ·subst h
  by_cases h2 : i < xs.length
  ·simp [h2]
  ·simp [h2]
 ·simp [h]
section
variable {P : Program} {ops : Array Oper} {rest : List Oper} {o : Oper} {a : Act} {Q : Exit → Act → World → Prop} {α : Type}
/-- The same for rows whose elements lie apart: the new element's blocks (okp) are none of the row's (okv). -/
theorem S_put (d : Kd α) {w0 W : World} (base : Nat) (z : α) (hN : o.dst = none) (hgd : o.guard = none) (t : TypeId) (p x : Operand) (ho : o.op = .store t p x) (e : TypeId) {g n cap o' : Nat} (i : Nat) (xs : List α) (x' : α) (u : Value) (seg : List Value) (okv okp : Nat → Prop)
  (haddr : a.eval p = .pointer (some ⟨g, o', none⟩)) (hoff : o' = i * d.sz) (hx : a.eval x = u) (hu : u.cells.toList = seg) (ht : (P.info? t).map (·.size) = some d.sz)
  (HO : Kd.S d e W base okv (.slice (some ⟨g, 0, none⟩) n cap) xs) (hi : i < n) (hM : d.M W base okp x' seg) (hap : ∀ k, okp k → ¬ okv k) (hg : ∀ k, okp k → k ≠ g) (HB : Below base w0 W)
  (h : ∀ w1, Kd.S d e w1 base (fun k => okv k ∨ okp k) (.slice (some ⟨g, 0, none⟩) n cap) (xs.set i x') → Below base w0 w1 → W.grownBy w1 (some g) → wpList P ops Q rest a w1) : wpList P ops Q (o :: rest) a W := by
 obtain ⟨f, hf, hR⟩ := Kd.S_tag HO i okp hap
 refine R_put (Kd.tag f d) base (z, 0) hN hgd t p x ho e i xs.zipIdx (x', i) u seg (fun k => okv k ∨ okp k) (fun k => okp k ∧ k ≠ g) haddr hoff hx hu ht (Kd.R_mono hR (fun _ h => .inl h)) hi (d.M_mono (fun k hk => ⟨⟨hk, hg k hk⟩, hf k hk⟩) hM) (fun k hk => ⟨.inr hk.1, hk.2⟩) HB (fun w1 h1 h2 h3 => h w1 ⟨f, by rw [zip_set]; exact h1⟩ h2 h3)
end
theorem S_setLow {α : Type} {d : Kd α} {e base : Nat} {ok : Nat → Prop} {w : World} {v : Value} {xs : List α} (h : Kd.S d e w base ok v xs) {p : Addr} (u : Value) (hp : p.block < base) : Kd.S d e (w.setCell p u) base ok v xs :=
 Kd.S_mono (Kd.S_far (Kd.S_bound h) (fun k hk => by have := hk.2.1; omega) u) (fun _ hk => hk.1)
/-- A cell stored into a row of one's own of cells. -/
theorem R_cell {α : Type} (d : Kd α) (enc : α → Value) (he : ∀ x, (enc x).oneCell' = true) {e base g n cap : Nat} {W : World} {xs : List α} {h1 : ∀ x, (enc x).oneCell' = true} (HO : (Kd.scalar enc h1).R e W base (fun _ => True) (.slice (some ⟨g, 0, none⟩) n cap) xs) (k : Nat) (hk : k < n) (y : α) :
  (Kd.scalar enc h1).R e (W.setCell ⟨g, k, none⟩ (enc y)) base (fun _ => True) (.slice (some ⟨g, 0, none⟩) n cap) (xs.set k y) := by
 have hlen : n = xs.length := (Kd.R_reads' HO).1
 have hk' : k < xs.length := by omega
 obtain ⟨c, hcl, hc, hcc, _⟩ := Kd.R_elem HO y (k : Int) (by omega) (by omega)
 have hz : (Kd.scalar enc h1).sz = 1 := rfl
 have hM : (Kd.scalar enc h1).M W base (fun k => True ∧ k ≠ g) y (c.take 0 ++ [enc y] ++ c.drop (0 + [enc y].length)) := by
  show c.take 0 ++ [enc y] ++ c.drop (0 + [enc y].length) = [enc y]
  rw [List.take_zero, List.drop_of_length_le (by rw [hcl, hz]; simp), List.append_nil, List.nil_append]
 have h := (Kd.R_seg HO (k : Int) (by omega) (by omega) hcl hcc (by rw [hz]; simp) hM (fun _ h => h)).1
 have e1 : Int.toNat (k : Int) * (Kd.scalar enc h1).sz + 0 = k := by show Int.toNat (k : Int) * 1 + 0 = k; omega
 rw [e1] at h
 rw [Int.toNat_natCast] at h
 exact h
end Go.Proofs.YticepbgacokbbaaGreatDoor
