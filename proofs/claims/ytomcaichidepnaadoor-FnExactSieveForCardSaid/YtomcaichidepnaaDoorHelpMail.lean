/- The laws' helpers on mails: szMail, toMail, eqMail; contracts. -/
import Derived.Test.YtomcaichidepnaaDoorHelpRule
import Derived.Test.YtomcaichidepnaaDoorFor
import Derived.Test.YtomcaichidepnaaDoorPx16
namespace Go.Proofs.YtomcaichidepnaaDoor
open Go.RowKit Go.Proofs.YtomcaichidepnaaDoorW.PrintWords P
set_option linter.unusedVariables false
set_option linter.unusedSimpArgs false

def wideA (x : S48) : Prop := Wide x.f0.size ∧ Wide x.f1.size
def smallA (x : S48) : Prop := Small x.f0.size ∧ Small x.f1.size
theorem szAddrS_loop (xs : List S48) (hl : xs.length < 9223372036854775807) (hw : ∀ x ∈ xs, wideA x) (d : Nat) : ∀ (k : Nat) (left : Int), k + d = xs.length → 0 ≤ left → left ≤ 1048576 → (∀ j, j < k → smallA (xs.getD j z48)) →
    ∃ r, Ev (fun n => laws_szAddrS.l0 n xs left k) r ∧ r ≤ left ∧ (0 ≤ r → ∀ j, j < xs.length → smallA (xs.getD j z48)) := by
  induction d with
  | zero =>
    intro k left hk h0 h1 hb
    refine ⟨left, shift ?_, Int.le_refl _, fun _ j hj => hb j (by omega)⟩
    simp only [laws_szAddrS.l0]
    simp only [if_neg (show ¬ (k : Int) < (xs.length : Int) by omega)]
    exact Ev.now _
  | succ d ih =>
    intro k left hk h0 h1 hb
    have hlt : k < xs.length := by omega
    have hm : xs.getD k z48 ∈ xs := by rw [List.getD, List.getElem?_eq_getElem hlt]; exact List.getElem_mem hlt
    obtain ⟨r, hr, hle, hs⟩ := szAddr_is _ _ left h0 h1 (hw _ hm).1 (hw _ hm).2
    have unf : ∀ r', Ev (fun n => if r < 0 then some (-1) else laws_szAddrS.l0 n xs r (wrap64 ((k : Int) + 1))) r' → Ev (fun n => laws_szAddrS.l0 n xs left k) r' := fun r' h => by
      refine shift ?_
      simp only [laws_szAddrS.l0]
      simp only [if_pos (show (k : Int) < (xs.length : Int) by omega), if_pos (show (0 : Int) ≤ (k : Int) by omega)]
      have hrd : rd_T48 xs (k : Int) = xs.getD k z48 := rfl
      rw [hrd, hr]
      simp only [Option.bind_some]
      exact h
    by_cases c : r < 0
    · exact ⟨-1, unf _ (by simp only [if_pos c]; exact Ev.now _), by omega, fun h => by omega⟩
    · obtain ⟨r', h1', hle', h2'⟩ := ih (k + 1) r (by omega) (by omega) (by omega) (fun j hj => by
        by_cases e : j = k
        · subst e; exact hs (by omega)
        · exact hb j (by omega))
      exact ⟨r', unf _ (by simp only [if_neg c]; rw [wrap_nat k (by omega)]; exact h1'), by omega, h2'⟩
theorem szAddrS_ev (xs : List S48) (left : Int) (h0 : 0 ≤ left) (h1 : left ≤ 1048576) (hl : Wide xs.length) (hw : ∀ x ∈ xs, wideA x) : ∃ r, Ev (fun n => laws_szAddrS.f n xs left) r ∧ r ≤ left ∧ (0 ≤ r → Small xs.length ∧ ∀ x ∈ xs, smallA x) := by
  unfold laws_szAddrS.f
  rw [wrap_sub left _ h0 h1 hl]
  by_cases c1 : left - (xs.length : Int) < 0
  · simp only [if_pos c1]; exact ⟨_, Ev.now _, by omega, fun h => by omega⟩
  · simp only [if_neg c1]
    obtain ⟨r, hr, hle, hs⟩ := szAddrS_loop xs (by omega) hw xs.length 0 (left - xs.length) (by omega) (by omega) (by omega) (fun j hj => by omega)
    refine ⟨r, hr, by omega, fun h => ⟨by omega, fun x hx => ?_⟩⟩
    obtain ⟨j, hj, rfl⟩ := List.getElem_of_mem hx
    have := hs h j hj
    rwa [List.getD, List.getElem?_eq_getElem hj] at this
theorem szStringS_loop (xs : List ByteArray) (hl : xs.length < 9223372036854775807) (hw : ∀ x ∈ xs, Wide x.size) (d : Nat) : ∀ (k : Nat) (left : Int), k + d = xs.length → 0 ≤ left → left ≤ 1048576 → (∀ j, j < k → Small (xs.getD j ByteArray.empty).size) →
    ∃ r, Ev (fun n => laws_szStringS.l0 n xs left k) r ∧ r ≤ left ∧ (0 ≤ r → ∀ j, j < xs.length → Small (xs.getD j ByteArray.empty).size) := by
  induction d with
  | zero =>
    intro k left hk h0 h1 hb
    refine ⟨left, shift ?_, Int.le_refl _, fun _ j hj => hb j (by omega)⟩
    simp only [laws_szStringS.l0]
    simp only [if_neg (show ¬ (k : Int) < (xs.length : Int) by omega)]
    exact Ev.now _
  | succ d ih =>
    intro k left hk h0 h1 hb
    have hlt : k < xs.length := by omega
    have hm : xs.getD k ByteArray.empty ∈ xs := by rw [List.getD, List.getElem?_eq_getElem hlt]; exact List.getElem_mem hlt
    have hwk := hw _ hm
    have unf : ∀ r', Ev (fun n => if left - ((xs.getD k ByteArray.empty).size : Int) < 0 then some (-1) else laws_szStringS.l0 n xs (left - ((xs.getD k ByteArray.empty).size : Int)) (wrap64 ((k : Int) + 1))) r' → Ev (fun n => laws_szStringS.l0 n xs left k) r' := fun r' h => by
      refine shift ?_
      simp only [laws_szStringS.l0]
      simp only [if_pos (show (k : Int) < (xs.length : Int) by omega), if_pos (show (0 : Int) ≤ (k : Int) by omega)]
      have hrd : rdOf ByteArray.empty xs (k : Int) = xs.getD k ByteArray.empty := rfl
      rw [hrd, wrap_sub left _ h0 h1 hwk]
      exact h
    by_cases c : left - ((xs.getD k ByteArray.empty).size : Int) < 0
    · exact ⟨-1, unf _ (by simp only [if_pos c]; exact Ev.now _), by omega, fun h => by omega⟩
    · obtain ⟨r', h1', hle', h2'⟩ := ih (k + 1) _ (by omega) (Int.not_lt.1 c) (by omega) (fun j hj => by
        by_cases e : j = k
        · subst e; show (xs.getD j ByteArray.empty).size ≤ 1048576; omega
        · exact hb j (by omega))
      exact ⟨r', unf _ (by simp only [if_neg c]; rw [wrap_nat k (by omega)]; exact h1'), by omega, h2'⟩
theorem szStringS_ev (xs : List ByteArray) (left : Int) (h0 : 0 ≤ left) (h1 : left ≤ 1048576) (hl : Wide xs.length) (hw : ∀ x ∈ xs, Wide x.size) : ∃ r, Ev (fun n => laws_szStringS.f n xs left) r ∧ r ≤ left ∧ (0 ≤ r → Small xs.length ∧ ∀ x ∈ xs, Small x.size) := by
  unfold laws_szStringS.f
  rw [wrap_sub left _ h0 h1 hl]
  by_cases c1 : left - (xs.length : Int) < 0
  · simp only [if_pos c1]; exact ⟨_, Ev.now _, by omega, fun h => by omega⟩
  · simp only [if_neg c1]
    obtain ⟨r, hr, hle, hs⟩ := szStringS_loop xs (by omega) hw xs.length 0 (left - xs.length) (by omega) (by omega) (by omega) (fun j hj => by omega)
    refine ⟨r, hr, by omega, fun h => ⟨by omega, fun x hx => ?_⟩⟩
    obtain ⟨j, hj, rfl⟩ := List.getElem_of_mem hx
    have := hs h j hj
    rwa [List.getD, List.getElem?_eq_getElem hj] at this
def SmallMail (u d : ByteArray) (tos : List S48) (body : List ByteArray) : Prop := (Small u.size ∧ Small d.size) ∧ (Small tos.length ∧ ∀ x ∈ tos, smallA x) ∧ Small body.length ∧ ∀ x ∈ body, Small x.size
def WideMail (u d : ByteArray) (tos : List S48) (body : List ByteArray) : Prop := (Wide u.size ∧ Wide d.size) ∧ (Wide tos.length ∧ ∀ x ∈ tos, wideA x) ∧ Wide body.length ∧ ∀ x ∈ body, Wide x.size
theorem szMail_ev (u d : ByteArray) (tos : List S48) (body : List ByteArray) (left : Int) (h0 : 0 ≤ left) (h1 : left ≤ 1048576) (hw : WideMail u d tos body) : ∃ r, Ev (fun n => laws_szMail.f n u d tos body left) r ∧ r ≤ left ∧ (0 ≤ r → SmallMail u d tos body) := by
  obtain ⟨⟨w1, w2⟩, ⟨w3, w4⟩, w5, w6⟩ := hw
  unfold laws_szMail.f
  obtain ⟨r1, e1, l1, s1⟩ := szAddr_is u d left h0 h1 w1 w2
  simp only [e1, Option.bind_some]
  by_cases c1 : r1 < 0
  · simp only [if_pos c1]; exact ⟨_, Ev.now _, by omega, fun h => by omega⟩
  · simp only [if_neg c1]
    obtain ⟨r2, e2, l2, s2⟩ := szAddrS_ev tos r1 (by omega) (by omega) w3 w4
    by_cases c2 : r2 < 0
    · exact ⟨-1, Ev.bind e2 (by simp only [if_pos c2]; exact Ev.now _), by omega, fun h => by omega⟩
    · obtain ⟨r3, e3, l3, s3⟩ := szStringS_ev body r2 (by omega) (by omega) w5 w6
      by_cases c3 : r3 < 0
      · exact ⟨-1, Ev.bind e2 (by simp only [if_neg c2]; exact Ev.bind e3 (by simp only [if_pos c3]; exact Ev.now _)), by omega, fun h => by omega⟩
      · exact ⟨r3, Ev.bind e2 (by simp only [if_neg c2]; exact Ev.bind e3 (by simp only [if_neg c3]; exact Ev.now _)), by omega, fun h => ⟨s1 (by omega), s2 (by omega), s3 (by omega)⟩⟩

def convA (x : S48) : S33 := ⟨x.f0, x.f1⟩
theorem toAddrS_loop (xs : List S48) (hl : xs.length < 9223372036854775807) (d : Nat) : ∀ (k : Nat), k + d = xs.length →
    Ev (fun n => laws_toAddrS.l0 n xs ((xs.take k).map convA ++ List.replicate (xs.length - k) z33) k) (xs.map convA) := by
  induction d with
  | zero =>
    intro k hk
    refine shift ?_
    simp only [laws_toAddrS.l0]
    simp only [if_neg (show ¬ (k : Int) < (xs.length : Int) by omega)]
    rw [show xs.length - k = 0 by omega, List.replicate_zero, List.append_nil, List.take_of_length_le (by omega)]
    exact Ev.now _
  | succ d ih =>
    intro k hk
    have hlt : k < xs.length := by omega
    refine shift ?_
    simp only [laws_toAddrS.l0, laws_toAddr.f, Option.bind_some]
    have hlen : (((xs.take k).map convA ++ List.replicate (xs.length - k) z33).length : Int) = xs.length := by simp; omega
    rw [hlen]
    simp only [if_pos (show (k : Int) < (xs.length : Int) by omega), if_pos (show (0 : Int) ≤ (k : Int) by omega)]
    rw [wrap_nat k (by omega), Int.toNat_natCast]
    have e := set_fill convA z33 z48 xs k hlt
    have hrd : rd_T48 xs (k : Int) = xs.getD k z48 := rfl
    rw [hrd]
    change Ev (fun n => laws_toAddrS.l0 n xs (((xs.take k).map convA ++ List.replicate (xs.length - k) z33).set k (convA (xs.getD k z48))) ((k + 1 : Nat) : Int)) _
    rw [e]
    exact ih (k + 1) (by omega)
theorem toAddrS_ev (xs : List S48) (hl : xs.length ≤ 4398046511104) : Ev (fun n => laws_toAddrS.f n xs) (xs.map convA) := by
  unfold laws_toAddrS.f
  simp only [if_pos (show (0 : Int) ≤ (xs.length : Int) by omega), Int.toNat_natCast, if_pos (show xs.length ≤ 8796093022208 by omega)]
  have := toAddrS_loop xs (by omega) xs.length 0 (by omega)
  simpa using this
theorem toStringS_loop (xs : List ByteArray) (hl : xs.length < 9223372036854775807) (d : Nat) : ∀ (k : Nat), k + d = xs.length →
    Ev (fun n => laws_toStringS.l0 n xs ((xs.take k).map id ++ List.replicate (xs.length - k) (⟨#[]⟩ : ByteArray)) k) (xs.map id) := by
  induction d with
  | zero =>
    intro k hk
    refine shift ?_
    simp only [laws_toStringS.l0]
    simp only [if_neg (show ¬ (k : Int) < (xs.length : Int) by omega)]
    rw [show xs.length - k = 0 by omega, List.replicate_zero, List.append_nil, List.take_of_length_le (by omega)]
    exact Ev.now _
  | succ d ih =>
    intro k hk
    have hlt : k < xs.length := by omega
    refine shift ?_
    simp only [laws_toStringS.l0]
    have hlen : (((xs.take k).map id ++ List.replicate (xs.length - k) (⟨#[]⟩ : ByteArray)).length : Int) = xs.length := by simp; omega
    rw [hlen]
    simp only [if_pos (show (k : Int) < (xs.length : Int) by omega), if_pos (show (0 : Int) ≤ (k : Int) by omega)]
    rw [wrap_nat k (by omega), Int.toNat_natCast]
    have e := set_fill id (⟨#[]⟩ : ByteArray) ByteArray.empty xs k hlt
    have hrd : rdOf ByteArray.empty xs (k : Int) = xs.getD k ByteArray.empty := rfl
    rw [hrd]
    change Ev (fun n => laws_toStringS.l0 n xs (((xs.take k).map id ++ List.replicate (xs.length - k) (⟨#[]⟩ : ByteArray)).set k (id (xs.getD k ByteArray.empty))) ((k + 1 : Nat) : Int)) _
    rw [e]
    exact ih (k + 1) (by omega)
theorem toStringS_ev (xs : List ByteArray) (hl : xs.length ≤ 4398046511104) : Ev (fun n => laws_toStringS.f n xs) xs := by
  unfold laws_toStringS.f
  simp only [if_pos (show (0 : Int) ≤ (xs.length : Int) by omega), Int.toNat_natCast, if_pos (show xs.length ≤ 17592186044416 by omega)]
  have := toStringS_loop xs (by omega) xs.length 0 (by omega)
  simpa using this
theorem szMail_any (u d : ByteArray) (A : Option Addr) (c : Nat) (tos : List S48) (A' : Option Addr) (c' : Nat) (body : List ByteArray) (left : Int) (w : World) (h0 : 0 ≤ left) (h1 : left ≤ 1048576) (hr : Kd.C k48 w A tos.length tos) (hc : tos.length ≤ c) (hr' : Kd.C Kd.string w A' body.length body) (hc' : body.length ≤ c') (hw : WideMail u d tos body) :
    ∃ r : Int, (0 ≤ r → SmallMail u d tos body) ∧ Calls Tryd.prog 26 #[.agg #[.string u, .string d, .slice A tos.length c, .slice A' body.length c'], .int .i64 left] w fun e w' => e = .returned (.int .i64 r) ∧ Below w.heap.size w w' := by
  obtain ⟨r, hr1, _, hs⟩ := szMail_ev u d tos body left h0 h1 hw
  obtain ⟨k, hk⟩ := hr1.rounds
  exact ⟨r, hs, laws_szMail.calls k u d A c tos A' c' body left r w hr hc hr' hc' hk⟩
theorem toMail_any (u d : ByteArray) (A : Option Addr) (c : Nat) (tos : List S48) (A' : Option Addr) (c' : Nat) (body : List ByteArray) (w : World) (hr : Kd.C k48 w A tos.length tos) (hc : tos.length ≤ c) (hr' : Kd.C Kd.string w A' body.length body) (hc' : body.length ≤ c') (hl : Small tos.length) (hl' : Small body.length) :
    Calls Tryd.prog 27 #[.agg #[.string u, .string d, .slice A tos.length c, .slice A' body.length c']] w fun e w' => ∃ A1 c1 A2 c2, e = .returned (.agg #[.string u, .string d, .slice A1 (tos.map convA).length c1, .slice A2 body.length c2]) ∧ (tos.map convA).length ≤ c1 ∧ body.length ≤ c2 ∧
      Kd.R k33 33 w' w.heap.size (fun _ => True) (.slice A1 (tos.map convA).length c1) (tos.map convA) ∧ Kd.R Kd.string 9 w' w.heap.size (fun _ => True) (.slice A2 body.length c2) body ∧ Below w.heap.size w w' := by
  have h : Ev (fun n => laws_toMail.f n u d tos body) (u, d, tos.map convA, body) := by
    unfold laws_toMail.f
    simp only [laws_toAddr.f, Option.bind_some]
    exact Ev.bind (toAddrS_ev tos (by have : tos.length ≤ 1048576 := hl; omega)) (Ev.bind (toStringS_ev body (by have : body.length ≤ 1048576 := hl'; omega)) (Ev.now _))
  obtain ⟨k, hk⟩ := h.rounds
  refine (laws_toMail.calls k u d A c tos A' c' body _ _ _ _ w hr hc hr' hc' hk).mono ?_
  rintro e w' ⟨v2, v3, rfl, hR2, hR3, hb⟩
  obtain ⟨A1, c1, rfl, h1, _⟩ := Kd.R_reads hR2
  obtain ⟨A2, c2, rfl, h2, _⟩ := Kd.R_reads hR3
  exact ⟨A1, c1, A2, c2, rfl, h1, h2, hR2, hR3, hb⟩
end Go.Proofs.YtomcaichidepnaaDoor
