/- The reference's SieveFor: contract. -/
import Derived.Test.YtomcaichidepnaaDoorSpecFor
import Derived.Test.YtomcaichidepnaaDoorPure3
import Derived.StillTailTactics
namespace Go.Proofs.YtomcaichidepnaaDoor
open Go.RowKit Go.Proofs.YtomcaichidepnaaDoorW.PrintWords P
set_option linter.unusedVariables false
set_option linter.unusedSimpArgs false

theorem blw_drew0 {B : Nat} {a W : World} (h : Below B a W) : Below B a W.drew := ⟨h.os, h.tape, h.output, h.size, h.block⟩
set_option maxRecDepth 100000 in
set_option maxHeartbeats 1000000 in
theorem l13Rule_any (A : Option Addr) (c : Nat) (xs : List S57) (u d : ByteArray) (A' : Option Addr) (c' : Nat) (body : List ByteArray) (w : World) (hr : Kd.C k57 w A xs.length xs) (hl : xs.length ≤ 4611686018427387904) (hx : ∀ x ∈ xs, RFit x) (hd : d.size < 4294967281) (hr' : Kd.C Kd.string w A' body.length body) (hb : BodyFit body) :
    Calls Tryd.prog 49 #[.slice A xs.length c, .agg #[.string u, .string d], .slice A' body.length c'] w fun e w' => e = .returned (.int .i64 (idx (asksS u.data.toList d.data.toList body) xs)) ∧ Below w.heap.size w w' := by
  have hcall := fun W (hW : Below w.heap.size w W) x hxm => l13Asks_any x u d A' c' body W (hx x hxm) hd (Kd.C_below hr' hW) hb
  clear hr' hb hx hd
  generalize asksS u.data.toList d.data.toList body = p at hcall
  go_enter Tryd.func49, Tryd.ntmps49
  go_wp2
  obtain ⟨W0, hW0⟩ : ∃ W0, W0 = w.alloc (.cells #[.string u, .string d] 33) := ⟨_, rfl⟩
  rw [← hW0]
  have B0 : Below w.heap.size w W0 := by rw [hW0]; exact (Below.refl _ _).alloc (Nat.le_refl _) _
  have Z0 : w.heap.size < W0.heap.size := by rw [hW0]; simp
  have c0 : W0.cell? ⟨w.heap.size, 0, none⟩ = some (.string u) := by rw [hW0]; simp
  have c1 : W0.cell? ⟨w.heap.size, 1, none⟩ = some (.string d) := by rw [hW0]; simp
  have HC : Aside0 (∀ W, Below W0.heap.size W0 W → W.cell? ⟨w.heap.size, 0, none⟩ = some (.string u) ∧ W.cell? ⟨w.heap.size, 1, none⟩ = some (.string d)) :=
    ⟨fun W h => ⟨(h.cell (p := ⟨w.heap.size, 0, none⟩) Z0).trans c0, (h.cell (p := ⟨w.heap.size, 1, none⟩) Z0).trans c1⟩⟩
  have HB0 := Aside0.mk B0
  have hsz := B0.size
  clear hW0 c0 c1 B0
  go_loopg [7] (xs.length) (fun g v wr => ∃ k : Nat, k ≤ xs.length ∧ xs.length - k ≤ g ∧ v = .int .i64 k ∧ Aside0 (Below W0.heap.size W0 wr) ∧ Aside0 (∀ j, j < k → p (xs.getD j z57) = false))
  case atStart => exact ⟨0, Nat.zero_le _, by omega, rfl, ⟨Below.refl _ _⟩, ⟨fun j hj => absurd hj (Nat.not_lt_zero _)⟩⟩
  case round =>
    obtain ⟨k, hk, hg, rfl, BW, H⟩ := hrel
    by_cases hlt : k < xs.length
    · have hlt' : (k : Int) < (xs.length : Int) := by omega
      have hBw := HB0.out.trans (BW.out.mono hsz)
      have BD : Aside0 (Below W0.heap.size W0 wr.drew) := ⟨blw_drew0 BW.out⟩
      have hBd := HB0.out.trans (BD.out.mono hsz)
      obtain ⟨ad, e1, h0, h1, h2, h3, h4⟩ := at_T57 (Kd.C_below hr hBw) (k : Int) (by omega) (by omega)
      obtain ⟨ad', e2, g0, g1, g2, g3, g4⟩ := at_T57 (Kd.C_below hr hBd) (k : Int) (by omega) (by omega)
      obtain rfl : ad = ad' := by rw [e1] at e2; injection e2
      subst e1
      rw [Int.toNat_natCast] at h0 h1 h2 h3 h4 g0 g1 g2 g3 g4
      obtain ⟨c0, c1⟩ := HC.out _ BW.out
      obtain ⟨d0, d1⟩ := HC.out _ BD.out
      have hm : xs.getD k z57 ∈ xs := by rw [List.getD, List.getElem?_eq_getElem hlt]; exact List.getElem_mem hlt
      have hy : xs.getD k z57 = rd_T57 xs (k : Int) := rfl
      rw [hy] at hm
      generalize rd_T57 xs (k : Int) = y at h0 h1 h2 h3 h4 g0 g1 g2 g3 g4 hm hy
      have hc := fun W hW => hcall W hW y hm
      have HY := Lib.hid hy
      have HHC := Lib.hid hcall
      clear hy hm hcall
      cases hq : p y
      all_goals
        rw [hq] at hc
        have HQ := Lib.hid hq
        clear hq
        go_wp2
        go_still_tail 6, (by kernel_rfl)
        change wpList _ _ _ _ _ wr.drew
        generalize wr.drew = wd at BD hBd d0 d1 g0 g1 g2 g3 g4
        clear BW hBw c0 c1
        go_wp2_with (go_at_call 88; refine (hc _ hBd).mono ?_; rintro e w1 ⟨rfl, hb1⟩; have B1 : Aside0 (Below W0.heap.size W0 w1) := ⟨BD.out.trans (hb1.mono BD.out.size)⟩; clear hb1)
      · go_roundg (xs.length - (k + 1))
        case measure => omega
        case rel => exact ⟨k + 1, by omega, Nat.le_refl _, rfl, B1, ⟨fun j hj => by
          by_cases e : j = k
          · subst e; rw [HY.out]; exact HQ.out
          · exact H.out j (by omega)⟩⟩
      · go_ret
        refine ⟨?_, HB0.out.trans (B1.out.mono hsz)⟩
        rw [idx_hit p xs z57 k hlt (by rw [HY.out]; exact HQ.out) H.out]
        rfl
    · have hlt' : ¬ (k : Int) < (xs.length : Int) := by omega
      go_wp2
      go_ret
      refine ⟨?_, HB0.out.trans (BW.out.mono hsz)⟩
      rw [idx_miss p xs z57 (fun j hj => H.out j (by omega))]
      rfl
def specFor (xs : List S57) (u d : List UInt8) (tos : List S33) (body : List ByteArray) : Int :=
  if sieveOk xs && mailOk u d tos body then idx (asksS u d body) xs else -1
theorem l13Ok_any (A : Option Addr) (c : Nat) (xs : List S57) (w : World) (hr : Kd.C k57 w A xs.length xs) (hc : xs.length ≤ c) (hl : xs.length < 9223372036854775807) (hx : ∀ x ∈ xs, RFit x) :
    Calls Tryd.prog 34 #[.slice A xs.length c] w fun e w' => e = .returned (.bool (sieveOk xs)) ∧ Below w.heap.size w w' := by
  obtain ⟨k, hk⟩ := (sieveOk_ev xs hl hx).rounds
  exact spec_l13Ok.calls k A c xs _ w hr hc hk
set_option maxHeartbeats 2000000 in
theorem specFor_any (A0 : Option Addr) (c0 : Nat) (xs : List S57) (u d : ByteArray) (A : Option Addr) (c : Nat) (tos : List S33) (A' : Option Addr) (c' : Nat) (body : List ByteArray) (w : World)
    (hr0 : Kd.C k57 w A0 xs.length xs) (hc0 : xs.length ≤ c0) (hl0 : xs.length ≤ 4611686018427387904) (hx : ∀ x ∈ xs, RFit x) (hu : u.size < 4294967281) (hd : d.size < 4294967281)
    (hr : Kd.C k33 w A tos.length tos) (ht : ToFit tos) (hr' : Kd.C Kd.string w A' body.length body) (hb : BodyFit body) :
    Calls Tryd.prog 20 #[.slice A0 xs.length c0, .agg #[.string u, .string d, .slice A tos.length c, .slice A' body.length c']] w fun e w' => e = .returned (.int .i64 (specFor xs u.data.toList d.data.toList tos body)) ∧ Below w.heap.size w w' := by
  have h1 := fun W (hW : Below w.heap.size w W) => l13Ok_any A0 c0 xs W (Kd.C_below hr0 hW) hc0 (by omega) hx
  have h2 := fun W (hW : Below w.heap.size w W) => specMailOk_any u d A c tos A' c' body W hu hd (Kd.C_below hr hW) ht (Kd.C_below hr' hW) hb
  have h3 := fun W (hW : Below w.heap.size w W) => l13Rule_any A0 c0 xs u d A' c' body W (Kd.C_below hr0 hW) hl0 hx hd (Kd.C_below hr' hW) hb
  unfold specFor
  clear hr0 hx hr ht hr' hb hu hd hc0
  generalize idx (asksS u.data.toList d.data.toList body) xs = i at h3
  generalize mailOk u.data.toList d.data.toList tos body = q2 at h2
  generalize sieveOk xs = q1 at h1
  have B0 : Below w.heap.size w (w.alloc (.cells #[.string u, .string d, .slice A tos.length c, .slice A' body.length c'] 37)) := (Below.refl _ _).alloc (Nat.le_refl _) _
  cases q1
  · go_enter Tryd.func20, Tryd.ntmps20
    go_wp2_with (go_at_call 34; refine (h1 _ B0).mono ?_; rintro e w1 ⟨rfl, hb1⟩)
    go_ret
    exact ⟨rfl, B0.trans (hb1.mono (by simp))⟩
  · cases q2
    all_goals
      go_enter Tryd.func20, Tryd.ntmps20
      go_wp2_with (first | (go_at_call 34; refine (h1 _ B0).mono ?_; rintro e w1 ⟨rfl, hb1⟩; have c0_ := (hb1.cell (p := ⟨w.heap.size, 0, none⟩) (by simp)).trans (by simp : _ = some (.string u)); have c1_ := (hb1.cell (p := ⟨w.heap.size, 1, none⟩) (by simp)).trans (by simp : _ = some (.string d)); have c2_ := (hb1.cell (p := ⟨w.heap.size, 2, none⟩) (by simp)).trans (by simp : _ = some (.slice A tos.length c)); have c3_ := (hb1.cell (p := ⟨w.heap.size, 3, none⟩) (by simp)).trans (by simp : _ = some (.slice A' body.length c')); have B1 : Below w.heap.size w w1 := B0.trans (hb1.mono (by simp)); have Z1 : w.heap.size < w1.heap.size := (by have := hb1.size; simp at this; omega); clear hb1) | (go_at_call 48; refine (h2 _ B1).mono ?_; rintro e w2 ⟨rfl, hb2⟩; have d0_ := (hb2.cell (p := ⟨w.heap.size, 0, none⟩) Z1).trans c0_; have d1_ := (hb2.cell (p := ⟨w.heap.size, 1, none⟩) Z1).trans c1_; have d2_ := (hb2.cell (p := ⟨w.heap.size, 2, none⟩) Z1).trans c2_; have d3_ := (hb2.cell (p := ⟨w.heap.size, 3, none⟩) Z1).trans c3_; have B2 : Below w.heap.size w w2 := B1.trans (hb2.mono B1.size); have Z2 : w.heap.size < w2.heap.size := Nat.lt_of_lt_of_le Z1 hb2.size; clear hb2) | (go_at_call 49; refine (h3 _ B2).mono ?_; rintro e w3 ⟨rfl, hb3⟩))
      go_ret
    · exact ⟨rfl, B2⟩
    · exact ⟨rfl, B2.trans (hb3.mono B2.size)⟩
/-- Both ask the same of what is ok. -/
theorem asks_holds (u d : List UInt8) (body : List ByteArray) (x : S57) (hd : nul u d = true ∨ dom d = true) (hx : x.f0 = 1 → dom x.f1.data.toList = true) : asksS u d body x = holdsS u d body x := by
  unfold asksS holdsS holdsF
  by_cases h1 : x.f0 = 1
  · rw [if_pos h1, if_pos h1]
    rcases hd with hd | hd
    · rw [hd]; rfl
    · have e : domIn d x.f1.data.toList = ends d x.f1.data.toList := by unfold domIn ends; rw [hd, hx h1]; rfl
      rw [e]
  · rw [if_neg h1, if_neg h1]
theorem idx_congr {α : Type} (p q : α → Bool) (xs : List α) (h : ∀ x ∈ xs, p x = q x) : idx p xs = idx q xs := by
  induction xs with
  | nil => rfl
  | cons x xs ih =>
    have hx := h x (by simp)
    have ih := ih (fun y hy => h y (by simp [hy]))
    unfold idx at ih ⊢
    rw [List.any_cons, List.any_cons, List.findIdx_cons, List.findIdx_cons, hx]
    cases q x
    · rw [Bool.false_or, Bool.false_or]
      cases ha : xs.any p
      · cases hb : xs.any q
        · rfl
        · rw [ha, hb] at ih; simp at ih
      · cases hb : xs.any q
        · rw [ha, hb] at ih; simp at ih
        · rw [ha, hb] at ih; simp at ih; simp; exact ih
    · rfl
theorem for_same (xs : List S57) (u d : List UInt8) (tos : List S33) (body : List ByteArray) : specFor xs u d tos body = sieveFor xs u d tos body := by
  unfold specFor sieveFor
  cases h : (sieveOk xs && mailOk u d tos body)
  · rfl
  · rw [if_pos rfl, if_pos rfl]
    rw [Bool.and_eq_true] at h
    refine idx_congr _ _ _ fun x hx => asks_holds u d body x ?_ ?_
    · have := h.2
      unfold mailOk at this
      rw [Bool.and_eq_true, Bool.or_eq_true] at this
      rcases this.1 with h1 | h1
      · exact .inl h1
      · unfold addr at h1
        rw [Bool.and_eq_true] at h1
        exact .inr h1.2
    · intro h1
      have := h.1
      unfold sieveOk at this
      rw [Bool.and_eq_true, List.all_eq_true] at this
      have := this.2 x hx
      unfold ruleOkS ruleOk asksF at this
      rw [h1] at this
      simp at this
      exact this.1
end Go.Proofs.YtomcaichidepnaaDoor
