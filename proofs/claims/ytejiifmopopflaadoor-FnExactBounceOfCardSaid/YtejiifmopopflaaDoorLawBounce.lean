/- The law FnExactBounceOf, walked. -/
import Derived.Test.YtejiifmopopflaaDoorBounceS
import Derived.Test.YtejiifmopopflaaDoorTo
import Derived.Test.YtejiifmopopflaaDoorEq
import Derived.Test.YtejiifmopopflaaDoorHeldN
namespace Go.Proofs.YtejiifmopopflaaDoor
open Go.RowKit Go.Proofs.YtejiifmopopflaaDoorW.PrintWords
set_option linter.unusedVariables false
set_option linter.unusedSimpArgs false

theorem cutAll_sum (c : UInt8) (l : List UInt8) : ((cutAll c l).map (fun p => p.length + 1)).sum = l.length + 1 := by
  induction l with
  | nil => rfl
  | cons b r ih =>
    unfold cutAll
    by_cases h : b = c
    · rw [if_pos h, List.map_cons, List.sum_cons, ih]; simp; omega
    · rw [if_neg h]
      split
      · rename_i e; rw [e] at ih; simp at ih ⊢; omega
      · rename_i e; exact absurd e (cutAll_ne c r)
theorem sum_le (L : List (List UInt8)) (h : ∀ p ∈ L, p.length ≤ 8) : (L.map (fun p => p.length + 1)).sum ≤ 9 * L.length := by
  induction L with
  | nil => simp
  | cons p r ih =>
    have h1 := h p (by simp)
    have h2 := ih (fun q hq => h q (by simp [hq]))
    simp at h2 ⊢
    omega
theorem lab_len {l : List UInt8} (h : lab l = true) : l.length ≤ 8 := by
  unfold lab at h
  rw [Bool.and_eq_true] at h
  have := of_decide_eq_true h.1
  omega
theorem dom_len {l : List UInt8} (h : dom l = true) : l.length ≤ 26 := by
  unfold dom at h
  rw [Bool.and_eq_true] at h
  have h1 := of_decide_eq_true h.2
  have h2 := sum_le _ (fun p hp => lab_len (List.all_eq_true.1 h.1 p hp))
  rw [cutAll_sum] at h2
  omega
theorem text_size {a : SAddr} (h : addrS a = true) : (textS a.f0 a.f1).size ≤ 40 := by
  unfold addrS addr at h
  rw [Bool.and_eq_true] at h
  have h1 := lab_len h.1
  have h2 := dom_len h.2
  rw [size_data] at h1 h2
  unfold textS
  split
  · decide
  · simp only [ByteArray.size_append]
    have e1 : (⟨#[60]⟩ : ByteArray).size = 1 := rfl
    have e2 : (⟨#[64]⟩ : ByteArray).size = 1 := rfl
    have e3 : (⟨#[62]⟩ : ByteArray).size = 1 := rfl
    omega
theorem markOf_size {xs : List ByteArray} (h : ∀ y ∈ xs, y.size ≤ 1048576) : (markOf xs).size ≤ 1048576 := by
  unfold markOf
  cases hf : xs.find? isMark with
  | none => exact Nat.zero_le _
  | some y => exact h y (List.mem_of_find?_eq_some hf)
theorem bounce_fit {x : SItem} {a : SAddr} (hx : fitItem x) (ha : fitAddr a) : fitMail (bounce x a) := by
  have z : (⟨#[]⟩ : ByteArray).size ≤ 1048576 := Nat.zero_le _
  unfold bounce
  split
  · rename_i hb
    have ha2 : addrS a = true := by
      unfold bounceOk at hb
      rw [Bool.and_eq_true, Bool.and_eq_true] at hb
      exact hb.2.1
    have h1 := text_size ha2
    have h2 := markOf_size hx.2.2.2.2
    refine ⟨⟨z, z⟩, ⟨by simp, fun y hy => ?_⟩, ⟨by split <;> simp, fun y hy => ?_⟩⟩
    · simp at hy
      rw [hy]
      exact hx.2.1
    · rw [List.mem_append] at hy
      rcases hy with hy | hy
      · simp at hy
        rcases hy with rfl | rfl
        · decide
        · omega
      · split at hy
        · simp at hy
        · simp at hy
          rw [hy]
          exact h2
  · exact ⟨⟨z, z⟩, ⟨by simp [zMailS], fun y hy => by simp [zMailS] at hy⟩, ⟨by simp [zMailS], fun y hy => by simp [zMailS] at hy⟩⟩
set_option maxRecDepth 100000 in
set_option maxHeartbeats 40000000 in
theorem walk_FnExactBounceOf {w : World} (x : SItem) (Ax0 : Option Addr) (cx0 : Nat) (Ax1 : Option Addr) (cx1 : Nat) (hw_x : wideItem x) (hr_x0 : Kd.C kRcpt w Ax0 x.f2.length x.f2) (hr_x1 : Kd.C Kd.string w Ax1 x.f3.length x.f3) (a : SAddr)  (hw_a : wideAddr a)  (hG : Glob w) :
    Calls Tryd.prog 3 #[.agg #[.int .i64 x.f0, .string x.f1.f0, .string x.f1.f1, .slice Ax0 x.f2.length cx0, .slice Ax1 x.f3.length cx1], .agg #[.string a.f0, .string a.f1]] w fun e w' => e = .returned (.bool true) ∧ Below w.heap.size w w' := by
  have hsz_x := fun (l : Int) (W : World) (hW : Below w.heap.size w W) (l0_ : 0 ≤ l) (l1_ : l ≤ 1048576) => szItem_any x Ax0 cx0 Ax1 cx1 l W l0_ l1_ hw_x (Kd.C_below hr_x0 hW) (Kd.C_below hr_x1 hW)
  have hto_x := fun (W : World) (hW : Below w.heap.size w W) (hf : fitItem x) => toItem_any x Ax0 cx0 Ax1 cx1 W hf (Kd.C_below hr_x0 hW) (Kd.C_below hr_x1 hW)
  have hsz_a := fun (l : Int) (W : World) (hW : Below w.heap.size w W) (l0_ : 0 ≤ l) (l1_ : l ≤ 1048576) => szAddr_any a  l W l0_ l1_ hw_a
  have hto_a := fun (W : World) (hW : Below w.heap.size w W) (hf : fitAddr a) => toAddr_any a  W hf
  have HG := Lib.hid hG
  obtain ⟨M0, hm0⟩ : ∃ M, M = bounce x a := ⟨_, rfl⟩
  have HV0 := Lib.hid hm0.symm
  clear hm0
  obtain ⟨M1, hm1⟩ : ∃ M, M = bounceOk x a := ⟨_, rfl⟩
  have HV1 := Lib.hid hm1.symm
  clear hm1
  clear hw_x hr_x0 hr_x1 hw_a hG
  go_enter Tryd.func3, Tryd.ntmps3
  go_wp2_with fail
  obtain ⟨W0, hW0⟩ : ∃ W0, W0 = ((w.alloc (.cells #[.int .i64 x.f0, .string x.f1.f0, .string x.f1.f1, .slice Ax0 x.f2.length cx0, .slice Ax1 x.f3.length cx1] 27)).alloc (.cells #[.string a.f0, .string a.f1] 23)) := ⟨_, rfl⟩
  rw [← hW0]
  have B0 : Below w.heap.size w W0 := by rw [hW0]; exact (bel_alloc (bel_alloc (Below.refl _ _) _) _)
  have Z0 : w.heap.size < W0.heap.size := by rw [hW0]; simp; try omega
  have c0_ : W0.cell? ⟨w.heap.size, 0, none⟩ = some (.int .i64 x.f0) := by rw [hW0]; first | (simp; done) | (rw [World.cell?_alloc_lt _ _ _ (by first | (simp; done) | (simp; omega))]; first | (simp; done) | (rw [World.cell?_alloc_lt _ _ _ (by first | (simp; done) | (simp; omega))]; simp))
  have c1_ : W0.cell? ⟨w.heap.size, 1, none⟩ = some (.string x.f1.f0) := by rw [hW0]; first | (simp; done) | (rw [World.cell?_alloc_lt _ _ _ (by first | (simp; done) | (simp; omega))]; first | (simp; done) | (rw [World.cell?_alloc_lt _ _ _ (by first | (simp; done) | (simp; omega))]; simp))
  have c2_ : W0.cell? ⟨w.heap.size, 2, none⟩ = some (.string x.f1.f1) := by rw [hW0]; first | (simp; done) | (rw [World.cell?_alloc_lt _ _ _ (by first | (simp; done) | (simp; omega))]; first | (simp; done) | (rw [World.cell?_alloc_lt _ _ _ (by first | (simp; done) | (simp; omega))]; simp))
  have c3_ : W0.cell? ⟨w.heap.size, 3, none⟩ = some (.slice Ax0 x.f2.length cx0) := by rw [hW0]; first | (simp; done) | (rw [World.cell?_alloc_lt _ _ _ (by first | (simp; done) | (simp; omega))]; first | (simp; done) | (rw [World.cell?_alloc_lt _ _ _ (by first | (simp; done) | (simp; omega))]; simp))
  have c4_ : W0.cell? ⟨w.heap.size, 4, none⟩ = some (.slice Ax1 x.f3.length cx1) := by rw [hW0]; first | (simp; done) | (rw [World.cell?_alloc_lt _ _ _ (by first | (simp; done) | (simp; omega))]; first | (simp; done) | (rw [World.cell?_alloc_lt _ _ _ (by first | (simp; done) | (simp; omega))]; simp))
  have Z1 : w.heap.size + 1 < W0.heap.size := by rw [hW0]; simp; try omega
  have c5_ : W0.cell? ⟨w.heap.size + 1, 0, none⟩ = some (.string a.f0) := by rw [hW0]; first | (simp; done) | (rw [World.cell?_alloc_lt _ _ _ (by first | (simp; done) | (simp; omega))]; first | (simp; done) | (rw [World.cell?_alloc_lt _ _ _ (by first | (simp; done) | (simp; omega))]; simp))
  have c6_ : W0.cell? ⟨w.heap.size + 1, 1, none⟩ = some (.string a.f1) := by rw [hW0]; first | (simp; done) | (rw [World.cell?_alloc_lt _ _ _ (by first | (simp; done) | (simp; omega))]; first | (simp; done) | (rw [World.cell?_alloc_lt _ _ _ (by first | (simp; done) | (simp; omega))]; simp))
  have HC : Aside0 (∀ W, Below W0.heap.size W0 W → W.cell? ⟨w.heap.size, 0, none⟩ = some (.int .i64 x.f0) ∧ W.cell? ⟨w.heap.size, 1, none⟩ = some (.string x.f1.f0) ∧ W.cell? ⟨w.heap.size, 2, none⟩ = some (.string x.f1.f1) ∧ W.cell? ⟨w.heap.size, 3, none⟩ = some (.slice Ax0 x.f2.length cx0) ∧ W.cell? ⟨w.heap.size, 4, none⟩ = some (.slice Ax1 x.f3.length cx1) ∧ W.cell? ⟨w.heap.size + 1, 0, none⟩ = some (.string a.f0) ∧ W.cell? ⟨w.heap.size + 1, 1, none⟩ = some (.string a.f1)) := ⟨fun W h => ⟨(h.cell (p := ⟨w.heap.size, 0, none⟩) Z0).trans c0_, (h.cell (p := ⟨w.heap.size, 1, none⟩) Z0).trans c1_, (h.cell (p := ⟨w.heap.size, 2, none⟩) Z0).trans c2_, (h.cell (p := ⟨w.heap.size, 3, none⟩) Z0).trans c3_, (h.cell (p := ⟨w.heap.size, 4, none⟩) Z0).trans c4_, (h.cell (p := ⟨w.heap.size + 1, 0, none⟩) Z1).trans c5_, (h.cell (p := ⟨w.heap.size + 1, 1, none⟩) Z1).trans c6_⟩⟩
  clear hW0 c0_ c1_ c2_ c3_ c4_ c5_ c6_
  have HB0 := Aside0.mk B0
  have hsz := B0.size
  clear B0
  obtain ⟨c0_, c1_, c2_, c3_, c4_, c5_, c6_⟩ := HC.out _ (Below.refl W0.heap.size W0)
  have zz0_ : w.heap.size < W0.heap.size := Nat.lt_of_lt_of_le Z0 (Below.refl W0.heap.size W0).size
  have zz1_ : w.heap.size + 1 < W0.heap.size := Nat.lt_of_lt_of_le Z1 (Below.refl W0.heap.size W0).size
  go_wp2_with fail
  refine (hsz_x _ _ (bel_then HB0.out (Below.refl W0.heap.size W0)) (by omega) (by omega)).mono ?_
  rintro e w1 ⟨r_x, rfl, le_x, s_x, b1⟩
  have bb1 := bel_then (Below.refl W0.heap.size W0) b1
  have B1 := bel_then (Below.refl W0.heap.size W0) bb1
  have sz1 := bb1.size
  clear c0_ c1_ c2_ c3_ c4_ c5_ c6_ zz0_ zz1_
  obtain ⟨c0_, c1_, c2_, c3_, c4_, c5_, c6_⟩ := HC.out _ B1
  have zz0_ : w.heap.size < w1.heap.size := Nat.lt_of_lt_of_le Z0 B1.size
  have zz1_ : w.heap.size + 1 < w1.heap.size := Nat.lt_of_lt_of_le Z1 B1.size
  clear b1 bb1 hsz_x
  by_cases n_x : r_x < 0
  · go_wp2
    go_ret
    exact ⟨rfl, bel_then HB0.out B1⟩
  rw [Int.not_lt] at n_x
  have f_x := s_x n_x
  clear s_x
  go_wp2_with fail
  refine (hsz_a _ _ (bel_then HB0.out B1) (by omega) (by omega)).mono ?_
  rintro e w2 ⟨r_a, rfl, le_a, s_a, b2⟩
  have bb2 := bel_then (Below.refl w1.heap.size w1) b2
  have B2 := bel_then B1 bb2
  have sz2 := bb2.size
  clear c0_ c1_ c2_ c3_ c4_ c5_ c6_ zz0_ zz1_
  obtain ⟨c0_, c1_, c2_, c3_, c4_, c5_, c6_⟩ := HC.out _ B2
  have zz0_ : w.heap.size < w2.heap.size := Nat.lt_of_lt_of_le Z0 B2.size
  have zz1_ : w.heap.size + 1 < w2.heap.size := Nat.lt_of_lt_of_le Z1 B2.size
  clear b2 bb2 hsz_a
  by_cases n_a : r_a < 0
  · go_wp2
    go_ret
    exact ⟨rfl, bel_then HB0.out B2⟩
  rw [Int.not_lt] at n_a
  have f_a := s_a n_a
  clear s_a
  have HVF0 : Hid (fitMail M0) := Lib.hid (by have h := bounce_fit f_x f_a; rw [HV0.out] at h; exact h)
  go_wp2
  have HK : Aside0 (∀ W W1, Below W.heap.size W W1 → (W.cell? ⟨w.heap.size, 0, none⟩ = some (.int .i64 x.f0) ∧ W.cell? ⟨w.heap.size, 1, none⟩ = some (.string x.f1.f0) ∧ W.cell? ⟨w.heap.size, 2, none⟩ = some (.string x.f1.f1) ∧ W.cell? ⟨w.heap.size, 3, none⟩ = some (.slice Ax0 x.f2.length cx0) ∧ W.cell? ⟨w.heap.size, 4, none⟩ = some (.slice Ax1 x.f3.length cx1) ∧ W.cell? ⟨w.heap.size + 1, 0, none⟩ = some (.string a.f0) ∧ W.cell? ⟨w.heap.size + 1, 1, none⟩ = some (.string a.f1) ∧ Below w2.heap.size w2 W) → (W1.cell? ⟨w.heap.size, 0, none⟩ = some (.int .i64 x.f0) ∧ W1.cell? ⟨w.heap.size, 1, none⟩ = some (.string x.f1.f0) ∧ W1.cell? ⟨w.heap.size, 2, none⟩ = some (.string x.f1.f1) ∧ W1.cell? ⟨w.heap.size, 3, none⟩ = some (.slice Ax0 x.f2.length cx0) ∧ W1.cell? ⟨w.heap.size, 4, none⟩ = some (.slice Ax1 x.f3.length cx1) ∧ W1.cell? ⟨w.heap.size + 1, 0, none⟩ = some (.string a.f0) ∧ W1.cell? ⟨w.heap.size + 1, 1, none⟩ = some (.string a.f1) ∧ Below w2.heap.size w2 W1)) := ⟨fun W W1 hb h => ⟨(hb.cell (World.block_lt_of_cell? W _ (h.1))).trans (h.1), (hb.cell (World.block_lt_of_cell? W _ (h.2.1))).trans (h.2.1), (hb.cell (World.block_lt_of_cell? W _ (h.2.2.1))).trans (h.2.2.1), (hb.cell (World.block_lt_of_cell? W _ (h.2.2.2.1))).trans (h.2.2.2.1), (hb.cell (World.block_lt_of_cell? W _ (h.2.2.2.2.1))).trans (h.2.2.2.2.1), (hb.cell (World.block_lt_of_cell? W _ (h.2.2.2.2.2.1))).trans (h.2.2.2.2.2.1), (hb.cell (World.block_lt_of_cell? W _ (h.2.2.2.2.2.2.1))).trans (h.2.2.2.2.2.2.1), bel_then (h.2.2.2.2.2.2.2) hb⟩⟩
  have join : Hid (∀ {goal : Prop} {G : Option Addr → Nat → Option Addr → Nat → Option Addr → Nat → Option Addr → Nat → Nat → World → Prop} (rg : Hid (∀ (D0_0 : Option Addr) (dd0_0 : Nat) (D0_1 : Option Addr) (dd0_1 : Nat) (Qx0 : Option Addr) (qx0 : Nat) (Qx1 : Option Addr) (qx1 : Nat) (g0 : Nat) (V : World), Below w2.heap.size w2 V ∧ w2.heap.size ≤ g0 ∧ Kd.R kAddr 30 V w2.heap.size (fun q => w2.heap.size ≤ q ∧ q < V.heap.size ∧ q ≠ g0) (.slice D0_0 M0.f1.length dd0_0) M0.f1 ∧ Kd.R Kd.string 9 V w2.heap.size (fun q => w2.heap.size ≤ q ∧ q < V.heap.size ∧ q ≠ g0) (.slice D0_1 M0.f2.length dd0_1) M0.f2 ∧ V.heap[g0]? = some (.cells #[.string M0.f0.f0, .string M0.f0.f1, .slice D0_0 M0.f1.length dd0_0, .slice D0_1 M0.f2.length dd0_1] 33 (0, 0)) → G D0_0 dd0_0 D0_1 dd0_1 Qx0 qx0 Qx1 qx1 g0 V) → goal) (hk : ∀ (D0_0 : Option Addr) (dd0_0 : Nat) (D0_1 : Option Addr) (dd0_1 : Nat) (Qx0 : Option Addr) (qx0 : Nat) (Qx1 : Option Addr) (qx1 : Nat) (g0 : Nat) (V : World), Below w2.heap.size w2 V ∧ w2.heap.size ≤ g0 ∧ Kd.R kAddr 30 V w2.heap.size (fun q => w2.heap.size ≤ q ∧ q < V.heap.size ∧ q ≠ g0) (.slice D0_0 M0.f1.length dd0_0) M0.f1 ∧ Kd.R Kd.string 9 V w2.heap.size (fun q => w2.heap.size ≤ q ∧ q < V.heap.size ∧ q ≠ g0) (.slice D0_1 M0.f2.length dd0_1) M0.f2 ∧ V.heap[g0]? = some (.cells #[.string M0.f0.f0, .string M0.f0.f1, .slice D0_0 M0.f1.length dd0_0, .slice D0_1 M0.f2.length dd0_1] 33 (0, 0)) → G D0_0 dd0_0 D0_1 dd0_1 Qx0 qx0 Qx1 qx1 g0 V), goal) := Lib.hid (fun f h => f (Lib.hid h))
  have HST : Aside0 ((fun W => W.cell? ⟨w.heap.size, 0, none⟩ = some (.int .i64 x.f0) ∧ W.cell? ⟨w.heap.size, 1, none⟩ = some (.string x.f1.f0) ∧ W.cell? ⟨w.heap.size, 2, none⟩ = some (.string x.f1.f1) ∧ W.cell? ⟨w.heap.size, 3, none⟩ = some (.slice Ax0 x.f2.length cx0) ∧ W.cell? ⟨w.heap.size, 4, none⟩ = some (.slice Ax1 x.f3.length cx1) ∧ W.cell? ⟨w.heap.size + 1, 0, none⟩ = some (.string a.f0) ∧ W.cell? ⟨w.heap.size + 1, 1, none⟩ = some (.string a.f1) ∧ Below w2.heap.size w2 W) (w2).drew) := ⟨⟨c0_, c1_, c2_, c3_, c4_, c5_, c6_, bel_then (Below.refl w2.heap.size w2) (drew_below0 _)⟩⟩
  clear c0_ c1_ c2_ c3_ c4_ c5_ c6_
  apply join.out
  case rg =>
    intro HKK
    refine wp_region_held_drew (S := (fun W => W.cell? ⟨w.heap.size, 0, none⟩ = some (.int .i64 x.f0) ∧ W.cell? ⟨w.heap.size, 1, none⟩ = some (.string x.f1.f0) ∧ W.cell? ⟨w.heap.size, 2, none⟩ = some (.string x.f1.f1) ∧ W.cell? ⟨w.heap.size, 3, none⟩ = some (.slice Ax0 x.f2.length cx0) ∧ W.cell? ⟨w.heap.size, 4, none⟩ = some (.slice Ax1 x.f3.length cx1) ∧ W.cell? ⟨w.heap.size + 1, 0, none⟩ = some (.string a.f0) ∧ W.cell? ⟨w.heap.size + 1, 1, none⟩ = some (.string a.f1) ∧ Below w2.heap.size w2 W)) (by kernel_rfl) ?s1 (fun hHeld => ?t1)
    case s1 => exact HST.out
    generalize World.drew _ = V0 at hHeld ⊢
    have s0_ : w2.heap.size ≤ V0.heap.size := hHeld.2.2.2.2.2.2.2.size
    refine wpAnyH_take (i := 0) (oi := { dst := some 27, op := Op.load 27 (Operand.tmp 2), type := 27, pos := "exact.go:3898", after := #[], guard := none }) (v := ?v2) rfl (by kernel_rfl) (by kernel_rfl) (by kernel_rfl) (fun _ _ _ h => h) (Or.inl ⟨by rfl, ?y2⟩) (by assumption) ?r2
    case y2 => intro w_ hSw; (try dsimp only at hSw); go_simp; (try (with_reducible rfl))
    try simp only [Act.put, List.setIfInBounds_toArray, List.set_cons_zero, List.set_cons_succ]
    refine wpAnyH_take (i := 2) (oi := { dst := some 29, op := Op.load 23 (Operand.tmp 3), type := 23, pos := "exact.go:3898", after := #[], guard := none }) (v := ?v3) rfl (by kernel_rfl) (by kernel_rfl) (by kernel_rfl) (fun _ _ _ h => h) (Or.inl ⟨by rfl, ?y3⟩) (by assumption) ?r3
    case y3 => intro w_ hSw; (try dsimp only at hSw); go_simp; (try (with_reducible rfl))
    try simp only [Act.put, List.setIfInBounds_toArray, List.set_cons_zero, List.set_cons_succ]
    refine wpAnyH_ready (rs := [1, 8]) (by kernel_rfl) (by simp) ?_
    refine AllReadyH.cons (o := { dst := some 28, op := Op.call { callee := Callee.value (Operand.func 10), args := #[Operand.tmp 27], argTypes := #[27] }, type := 38, pos := "exact.go:3898", after := #[{ on := 0, ground := Ground.data }], guard := none }) rfl (fun K hK => ?k4) (AllReadyH.cons (o := { dst := some 6, op := Op.alloc 33, type := 0, pos := "exact.go:3898", after := #[], guard := none }) rfl (fun K hK => ?k5) AllReadyH.nil)
    case k4 =>
      go_simp
      refine (hto_x _ (bel_then HB0.out (bel_then B2 hHeld.2.2.2.2.2.2.2)) f_x).mono ?_
      rintro e V1 ⟨Qx0, qx0, Qx1, qx1, rfl, gq_x0, gq_x1, b1⟩
      refine hK.out _ _ ?h6 (fun hHeld => ?j6)
      case h6 => exact HK.out _ _ b1 hHeld
      clear hK K
      try simp only [Act.put, List.setIfInBounds_toArray, List.set_cons_zero, List.set_cons_succ]
      have Tx0 := Aside0.mk gq_x0
      have Tx1 := Aside0.mk gq_x1
      clear gq_x0
      clear gq_x1
      have s1_ := b1.size
      refine wpAnyH_ready (rs := [3, 8]) (by kernel_rfl) (by simp) ?_
      refine AllReadyH.cons (o := { dst := some 30, op := Op.call { callee := Callee.value (Operand.func 11), args := #[Operand.tmp 29], argTypes := #[23] }, type := 30, pos := "exact.go:3898", after := #[{ on := 2, ground := Ground.data }, { on := 1, ground := Ground.chain }], guard := none }) rfl (fun K hK => ?k7) (AllReadyH.cons (o := { dst := some 6, op := Op.alloc 33, type := 0, pos := "exact.go:3898", after := #[], guard := none }) rfl (fun K hK => ?k8) AllReadyH.nil)
      case k7 =>
        go_simp
        refine (hto_a _ (bel_then HB0.out (bel_then B2 hHeld.2.2.2.2.2.2.2)) f_a).mono ?_
        rintro e V3 ⟨rfl, b3⟩
        refine hK.out _ _ ?h9 (fun hHeld => ?j9)
        case h9 => exact HK.out _ _ b3 hHeld
        clear hK K
        try simp only [Act.put, List.setIfInBounds_toArray, List.set_cons_zero, List.set_cons_succ]
        have s3_ := b3.size
        replace Tx0 := Aside0.mk (Kd.R_below Tx0.out b3)
        replace Tx1 := Aside0.mk (Kd.R_below Tx1.out b3)
        refine wpAnyH_ready (rs := [4, 8]) (by kernel_rfl) (by simp) ?_
        refine AllReadyH.cons (o := { dst := some 31, op := Op.call { callee := Callee.value (Operand.func 9), args := #[Operand.tmp 28, Operand.tmp 30], argTypes := #[38, 30] }, type := 34, pos := "exact.go:3898", after := #[{ on := 1, ground := Ground.data }, { on := 3, ground := Ground.data }, { on := 3, ground := Ground.chain }], guard := none }) rfl (fun K hK => ?k10) (AllReadyH.cons (o := { dst := some 6, op := Op.alloc 33, type := 0, pos := "exact.go:3898", after := #[], guard := none }) rfl (fun K hK => ?k11) AllReadyH.nil)
        case k10 =>
          go_simp
          have hcl := specBounce_any x Qx0 qx0 Qx1 qx1 a V3 f_x f_a (Kd.R_reads' Tx0.out).2.2 (Kd.R_reads' Tx1.out).2.2
          rw [HV0.out, HV1.out] at hcl
          refine hcl.mono ?_
          clear hcl
          rintro e V4 ⟨D0_0, dd0_0, D0_1, dd0_1, rfl, gu0_0, gu0_1, b4⟩
          refine hK.out _ _ ?h12 (fun hHeld => ?j12)
          case h12 => exact HK.out _ _ b4 hHeld
          clear hK K
          try simp only [Act.put, List.setIfInBounds_toArray, List.set_cons_zero, List.set_cons_succ]
          have U0_0 := Aside0.mk (Kd.R_lower (base' := w2.heap.size) (Kd.R_mono (Kd.R_bound gu0_0) (ok' := fun q => V3.heap.size ≤ q ∧ q < V4.heap.size) (fun q hq => ⟨hq.2.1, hq.2.2.1⟩)) (by have := hHeld.2.2.2.2.2.2.2.size; omega))
          have U0_1 := Aside0.mk (Kd.R_lower (base' := w2.heap.size) (Kd.R_mono (Kd.R_bound gu0_1) (ok' := fun q => V3.heap.size ≤ q ∧ q < V4.heap.size) (fun q hq => ⟨hq.2.1, hq.2.2.1⟩)) (by have := hHeld.2.2.2.2.2.2.2.size; omega))
          clear gu0_0 gu0_1
          have s4_ := b4.size
          replace Tx0 := Aside0.mk (Kd.R_below Tx0.out b4)
          replace Tx1 := Aside0.mk (Kd.R_below Tx1.out b4)
          refine wpAnyH_take (i := 5) (oi := { dst := some 26, op := Op.move (Operand.tmp 31), type := 34, pos := "exact.go:3898", after := #[{ on := 4, ground := Ground.data }], guard := none }) (v := ?v13) rfl (by kernel_rfl) (by kernel_rfl) (by kernel_rfl) (fun _ _ _ h => h) (Or.inl ⟨by rfl, ?y13⟩) (by assumption) ?r13
          case y13 => intro w_ hSw; (try dsimp only at hSw); go_simp; (try (with_reducible rfl))
          try simp only [Act.put, List.setIfInBounds_toArray, List.set_cons_zero, List.set_cons_succ]
          refine wpAnyH_take (i := 6) (oi := { dst := some 32, op := Op.extract (Operand.tmp 26) 0, type := 33, pos := "exact.go:3898", after := #[{ on := 5, ground := Ground.data }], guard := none }) (v := ?v14) rfl (by kernel_rfl) (by kernel_rfl) (by kernel_rfl) (fun _ _ _ h => h) (Or.inl ⟨by rfl, ?y14⟩) (by assumption) ?r14
          case y14 => intro w_ hSw; (try dsimp only at hSw); go_simp; (try (with_reducible rfl))
          try simp only [Act.put, List.setIfInBounds_toArray, List.set_cons_zero, List.set_cons_succ]
          refine wpAnyH_take (i := 7) (oi := { dst := some 33, op := Op.extract (Operand.tmp 26) 1, type := 4, pos := "exact.go:3898", after := #[{ on := 5, ground := Ground.data }, { on := 9, ground := Ground.gcOnly Departure.lateStores }], guard := none }) (v := ?v15) rfl (by kernel_rfl) (by kernel_rfl) (by kernel_rfl) (fun _ _ _ h => h) (Or.inl ⟨by rfl, ?y15⟩) (by assumption) ?r15
          case y15 => intro w_ hSw; (try dsimp only at hSw); go_simp; (try (with_reducible rfl))
          try simp only [Act.put, List.setIfInBounds_toArray, List.set_cons_zero, List.set_cons_succ]
          refine wpAnyH_ready (rs := [8]) (by kernel_rfl) (by simp) ?_
          refine AllReadyH.cons (o := { dst := some 6, op := Op.alloc 33, type := 0, pos := "exact.go:3898", after := #[], guard := none }) rfl (fun K hK => ?k16) AllReadyH.nil
          case k16 =>
            go_simp
            refine hK.out _ _ ?h17 (fun hHeld => ?j17)
            case h17 => exact HK.out _ _ (bel_alloc (Below.refl _ _) _) hHeld
            clear hK K
            try simp only [Act.put, List.setIfInBounds_toArray, List.set_cons_zero, List.set_cons_succ]
            generalize hV8 : World.alloc V4 _ = V8 at hHeld ⊢
            have b8 : Below V4.heap.size V4 V8 := by rw [← hV8]; exact bel_alloc (Below.refl _ _) _
            have z8 : V4.heap.size < V8.heap.size := by rw [← hV8]; simp
            have F0 := Aside0.mk (by rw [← hV8]; exact blk_new _ _ : V8.heap[V4.heap.size]? = some (.cells #[.string ⟨#[]⟩, .string ⟨#[]⟩, .slice none 0 0, .slice none 0 0] 33 (0, 0)))
            obtain ⟨g0, hg0⟩ : ∃ g, g = V4.heap.size := ⟨_, rfl⟩
            have lo0 : V4.heap.size ≤ g0 := by omega
            have al0 : w2.heap.size ≤ g0 := by omega
            have hi0 : g0 < V8.heap.size := by omega
            rw [← hg0] at F0 ⊢
            clear hV8 hg0 z8
            have s8_ := b8.size
            replace Tx0 := Aside0.mk (Kd.R_below Tx0.out b8)
            replace Tx1 := Aside0.mk (Kd.R_below Tx1.out b8)
            replace U0_0 := Aside0.mk (Kd.R_below U0_0.out b8)
            replace U0_1 := Aside0.mk (Kd.R_below U0_1.out b8)
            refine wpAnyH_ready (rs := [9]) (by kernel_rfl) (by simp) ?_
            refine AllReadyH.cons (o := { dst := none, op := Op.store 33 (Operand.tmp 6) (Operand.tmp 32), type := 0, pos := "exact.go:3898", after := #[{ on := 8, ground := Ground.data }, { on := 6, ground := Ground.data }, { on := 4, ground := Ground.chain }, { on := 0, ground := Ground.phase }, { on := 1, ground := Ground.phase }, { on := 2, ground := Ground.phase }, { on := 3, ground := Ground.phase }, { on := 4, ground := Ground.phase }, { on := 5, ground := Ground.phase }, { on := 6, ground := Ground.phase }, { on := 7, ground := Ground.textOnly Departure.lateStores }, { on := 8, ground := Ground.phase }], guard := none }) rfl (fun K hK => ?k18) AllReadyH.nil
            case k18 =>
              have hb7 := F0.out
              have v0_ : V8.cell? ⟨g0, 0, none⟩ = some (.string ⟨#[]⟩) := by simp [World.cell?, hb7]
              have v1_ : V8.cell? ⟨g0, 1, none⟩ = some (.string ⟨#[]⟩) := by simp [World.cell?, hb7]
              have v2_ : V8.cell? ⟨g0, 2, none⟩ = some (.slice none 0 0) := by simp [World.cell?, hb7]
              have v3_ : V8.cell? ⟨g0, 3, none⟩ = some (.slice none 0 0) := by simp [World.cell?, hb7]
              have u0_ : V8.frozen? ⟨g0, 0, none⟩ = false := by simp [World.frozen?, hb7]
              have u1_ : V8.frozen? ⟨g0, 1, none⟩ = false := by simp [World.frozen?, hb7]
              have u2_ : V8.frozen? ⟨g0, 2, none⟩ = false := by simp [World.frozen?, hb7]
              have u3_ : V8.frozen? ⟨g0, 3, none⟩ = false := by simp [World.frozen?, hb7]
              go_simp
              generalize hV9 : World.setCell (World.setCell (World.setCell (World.setCell V8 ⟨g0, 0, none⟩ _) ⟨g0, 1, none⟩ _) ⟨g0, 2, none⟩ _) ⟨g0, 3, none⟩ _ = V9
              have G9 : V8.grownBy V9 (some g0) := by rw [← hV9]; exact (((grown_set1 _ _ _ _).trans (grown_set1 _ _ _ _)).trans (grown_set1 _ _ _ _)).trans (grown_set1 _ _ _ _)
              have FF0 : V9.heap[g0]? = some (.cells #[.string M0.f0.f0, .string M0.f0.f1, .slice D0_0 M0.f1.length dd0_0, .slice D0_1 M0.f2.length dd0_1] 33 (0, 0)) := by rw [← hV9, blk_set1 (blk_set1 (blk_set1 (blk_set1 (F0.out) 0 _) 1 _) 2 _) 3 _]; simp
              have BB : Below w2.heap.size w2 V9 := by rw [← hV9]; exact (bel_set (bel_set (bel_set (bel_set (hHeld.2.2.2.2.2.2.2) _ al0) _ al0) _ al0) _ al0)
              clear hV9
              refine hK.out _ _ ?h19 (fun hHeld => ?j19)
              case h19 => (exact ⟨(World.cell?_of_block (G9.block _ (World.block_lt_of_cell? _ _ hHeld.1) (fun e => by have e := Option.some.inj e; (try dsimp only at e); omega))).trans hHeld.1, (World.cell?_of_block (G9.block _ (World.block_lt_of_cell? _ _ hHeld.2.1) (fun e => by have e := Option.some.inj e; (try dsimp only at e); omega))).trans hHeld.2.1, (World.cell?_of_block (G9.block _ (World.block_lt_of_cell? _ _ hHeld.2.2.1) (fun e => by have e := Option.some.inj e; (try dsimp only at e); omega))).trans hHeld.2.2.1, (World.cell?_of_block (G9.block _ (World.block_lt_of_cell? _ _ hHeld.2.2.2.1) (fun e => by have e := Option.some.inj e; (try dsimp only at e); omega))).trans hHeld.2.2.2.1, (World.cell?_of_block (G9.block _ (World.block_lt_of_cell? _ _ hHeld.2.2.2.2.1) (fun e => by have e := Option.some.inj e; (try dsimp only at e); omega))).trans hHeld.2.2.2.2.1, (World.cell?_of_block (G9.block _ (World.block_lt_of_cell? _ _ hHeld.2.2.2.2.2.1) (fun e => by have e := Option.some.inj e; (try dsimp only at e); omega))).trans hHeld.2.2.2.2.2.1, (World.cell?_of_block (G9.block _ (World.block_lt_of_cell? _ _ hHeld.2.2.2.2.2.2.1) (fun e => by have e := Option.some.inj e; (try dsimp only at e); omega))).trans hHeld.2.2.2.2.2.2.1, BB⟩)
              clear hK K
              try simp only [Act.put, List.setIfInBounds_toArray, List.set_cons_zero, List.set_cons_succ]
              replace U0_0 := Aside0.mk (Kd.R_grown U0_0.out G9 (fun q hq e => by injection e with e; have h1 := hq.1; have h2 := hq.2; omega))
              replace U0_1 := Aside0.mk (Kd.R_grown U0_1.out G9 (fun q hq e => by injection e with e; have h1 := hq.1; have h2 := hq.2; omega))
              replace F0 := Aside0.mk FF0
              have s9_ : V8.heap.size ≤ V9.heap.size := G9.size
              refine wpAnyH_take (i := 10) (oi := { dst := some 7, op := Op.assign (Operand.tmp 33), type := 4, pos := "exact.go:3898", after := #[{ on := 7, ground := Ground.data }, { on := 9, ground := Ground.chain }, { on := 0, ground := Ground.phase }, { on := 1, ground := Ground.phase }, { on := 2, ground := Ground.phase }, { on := 3, ground := Ground.phase }, { on := 4, ground := Ground.phase }, { on := 5, ground := Ground.phase }, { on := 6, ground := Ground.phase }, { on := 7, ground := Ground.phase }, { on := 8, ground := Ground.phase }, { on := 9, ground := Ground.phase }], guard := none }) (v := ?v20) rfl (by kernel_rfl) (by kernel_rfl) (by kernel_rfl) (fun _ _ _ h => h) (Or.inl ⟨by rfl, ?y20⟩) (by assumption) ?r20
              case y20 => intro w_ hSw; (try dsimp only at hSw); go_simp; (try (with_reducible rfl))
              try simp only [Act.put, List.setIfInBounds_toArray, List.set_cons_zero, List.set_cons_succ]
              refine wpAnyH_done (by kernel_rfl) ?_ _
              exact HKK.out D0_0 dd0_0 D0_1 dd0_1 Qx0 qx0 Qx1 qx1 g0 V9 ⟨hHeld.2.2.2.2.2.2.2, (by omega), Kd.R_mono U0_0.out (fun q hq => by have h1 := hq.1; have h2 := hq.2; refine ⟨?_, ?_, ?_⟩ <;> omega), Kd.R_mono U0_1.out (fun q hq => by have h1 := hq.1; have h2 := hq.2; refine ⟨?_, ?_, ?_⟩ <;> omega), F0.out⟩
        case k11 =>
          go_simp
          refine hK.out _ _ ?h21 (fun hHeld => ?j21)
          case h21 => exact HK.out _ _ (bel_alloc (Below.refl _ _) _) hHeld
          clear hK K
          try simp only [Act.put, List.setIfInBounds_toArray, List.set_cons_zero, List.set_cons_succ]
          generalize hV8 : World.alloc V3 _ = V8 at hHeld ⊢
          have b8 : Below V3.heap.size V3 V8 := by rw [← hV8]; exact bel_alloc (Below.refl _ _) _
          have z8 : V3.heap.size < V8.heap.size := by rw [← hV8]; simp
          have F0 := Aside0.mk (by rw [← hV8]; exact blk_new _ _ : V8.heap[V3.heap.size]? = some (.cells #[.string ⟨#[]⟩, .string ⟨#[]⟩, .slice none 0 0, .slice none 0 0] 33 (0, 0)))
          obtain ⟨g0, hg0⟩ : ∃ g, g = V3.heap.size := ⟨_, rfl⟩
          have lo0 : V3.heap.size ≤ g0 := by omega
          have al0 : w2.heap.size ≤ g0 := by omega
          have hi0 : g0 < V8.heap.size := by omega
          rw [← hg0] at F0 ⊢
          clear hV8 hg0 z8
          have s8_ := b8.size
          replace Tx0 := Aside0.mk (Kd.R_below Tx0.out b8)
          replace Tx1 := Aside0.mk (Kd.R_below Tx1.out b8)
          refine wpAnyH_ready (rs := [4]) (by kernel_rfl) (by simp) ?_
          refine AllReadyH.cons (o := { dst := some 31, op := Op.call { callee := Callee.value (Operand.func 9), args := #[Operand.tmp 28, Operand.tmp 30], argTypes := #[38, 30] }, type := 34, pos := "exact.go:3898", after := #[{ on := 1, ground := Ground.data }, { on := 3, ground := Ground.data }, { on := 3, ground := Ground.chain }], guard := none }) rfl (fun K hK => ?k22) AllReadyH.nil
          case k22 =>
            go_simp
            have hcl := specBounce_any x Qx0 qx0 Qx1 qx1 a V8 f_x f_a (Kd.R_reads' Tx0.out).2.2 (Kd.R_reads' Tx1.out).2.2
            rw [HV0.out, HV1.out] at hcl
            refine hcl.mono ?_
            clear hcl
            rintro e V4 ⟨D0_0, dd0_0, D0_1, dd0_1, rfl, gu0_0, gu0_1, b4⟩
            refine hK.out _ _ ?h23 (fun hHeld => ?j23)
            case h23 => exact HK.out _ _ b4 hHeld
            clear hK K
            try simp only [Act.put, List.setIfInBounds_toArray, List.set_cons_zero, List.set_cons_succ]
            have U0_0 := Aside0.mk (Kd.R_lower (base' := w2.heap.size) (Kd.R_mono (Kd.R_bound gu0_0) (ok' := fun q => V8.heap.size ≤ q ∧ q < V4.heap.size) (fun q hq => ⟨hq.2.1, hq.2.2.1⟩)) (by have := hHeld.2.2.2.2.2.2.2.size; omega))
            have U0_1 := Aside0.mk (Kd.R_lower (base' := w2.heap.size) (Kd.R_mono (Kd.R_bound gu0_1) (ok' := fun q => V8.heap.size ≤ q ∧ q < V4.heap.size) (fun q hq => ⟨hq.2.1, hq.2.2.1⟩)) (by have := hHeld.2.2.2.2.2.2.2.size; omega))
            clear gu0_0 gu0_1
            have s4_ := b4.size
            replace Tx0 := Aside0.mk (Kd.R_below Tx0.out b4)
            replace Tx1 := Aside0.mk (Kd.R_below Tx1.out b4)
            replace F0 := Aside0.mk (below_blk F0.out b4)
            refine wpAnyH_take (i := 5) (oi := { dst := some 26, op := Op.move (Operand.tmp 31), type := 34, pos := "exact.go:3898", after := #[{ on := 4, ground := Ground.data }], guard := none }) (v := ?v24) rfl (by kernel_rfl) (by kernel_rfl) (by kernel_rfl) (fun _ _ _ h => h) (Or.inl ⟨by rfl, ?y24⟩) (by assumption) ?r24
            case y24 => intro w_ hSw; (try dsimp only at hSw); go_simp; (try (with_reducible rfl))
            try simp only [Act.put, List.setIfInBounds_toArray, List.set_cons_zero, List.set_cons_succ]
            refine wpAnyH_take (i := 6) (oi := { dst := some 32, op := Op.extract (Operand.tmp 26) 0, type := 33, pos := "exact.go:3898", after := #[{ on := 5, ground := Ground.data }], guard := none }) (v := ?v25) rfl (by kernel_rfl) (by kernel_rfl) (by kernel_rfl) (fun _ _ _ h => h) (Or.inl ⟨by rfl, ?y25⟩) (by assumption) ?r25
            case y25 => intro w_ hSw; (try dsimp only at hSw); go_simp; (try (with_reducible rfl))
            try simp only [Act.put, List.setIfInBounds_toArray, List.set_cons_zero, List.set_cons_succ]
            refine wpAnyH_take (i := 7) (oi := { dst := some 33, op := Op.extract (Operand.tmp 26) 1, type := 4, pos := "exact.go:3898", after := #[{ on := 5, ground := Ground.data }, { on := 9, ground := Ground.gcOnly Departure.lateStores }], guard := none }) (v := ?v26) rfl (by kernel_rfl) (by kernel_rfl) (by kernel_rfl) (fun _ _ _ h => h) (Or.inl ⟨by rfl, ?y26⟩) (by assumption) ?r26
            case y26 => intro w_ hSw; (try dsimp only at hSw); go_simp; (try (with_reducible rfl))
            try simp only [Act.put, List.setIfInBounds_toArray, List.set_cons_zero, List.set_cons_succ]
            refine wpAnyH_ready (rs := [9]) (by kernel_rfl) (by simp) ?_
            refine AllReadyH.cons (o := { dst := none, op := Op.store 33 (Operand.tmp 6) (Operand.tmp 32), type := 0, pos := "exact.go:3898", after := #[{ on := 8, ground := Ground.data }, { on := 6, ground := Ground.data }, { on := 4, ground := Ground.chain }, { on := 0, ground := Ground.phase }, { on := 1, ground := Ground.phase }, { on := 2, ground := Ground.phase }, { on := 3, ground := Ground.phase }, { on := 4, ground := Ground.phase }, { on := 5, ground := Ground.phase }, { on := 6, ground := Ground.phase }, { on := 7, ground := Ground.textOnly Departure.lateStores }, { on := 8, ground := Ground.phase }], guard := none }) rfl (fun K hK => ?k27) AllReadyH.nil
            case k27 =>
              have hb7 := F0.out
              have v0_ : V4.cell? ⟨g0, 0, none⟩ = some (.string ⟨#[]⟩) := by simp [World.cell?, hb7]
              have v1_ : V4.cell? ⟨g0, 1, none⟩ = some (.string ⟨#[]⟩) := by simp [World.cell?, hb7]
              have v2_ : V4.cell? ⟨g0, 2, none⟩ = some (.slice none 0 0) := by simp [World.cell?, hb7]
              have v3_ : V4.cell? ⟨g0, 3, none⟩ = some (.slice none 0 0) := by simp [World.cell?, hb7]
              have u0_ : V4.frozen? ⟨g0, 0, none⟩ = false := by simp [World.frozen?, hb7]
              have u1_ : V4.frozen? ⟨g0, 1, none⟩ = false := by simp [World.frozen?, hb7]
              have u2_ : V4.frozen? ⟨g0, 2, none⟩ = false := by simp [World.frozen?, hb7]
              have u3_ : V4.frozen? ⟨g0, 3, none⟩ = false := by simp [World.frozen?, hb7]
              go_simp
              generalize hV9 : World.setCell (World.setCell (World.setCell (World.setCell V4 ⟨g0, 0, none⟩ _) ⟨g0, 1, none⟩ _) ⟨g0, 2, none⟩ _) ⟨g0, 3, none⟩ _ = V9
              have G9 : V4.grownBy V9 (some g0) := by rw [← hV9]; exact (((grown_set1 _ _ _ _).trans (grown_set1 _ _ _ _)).trans (grown_set1 _ _ _ _)).trans (grown_set1 _ _ _ _)
              have FF0 : V9.heap[g0]? = some (.cells #[.string M0.f0.f0, .string M0.f0.f1, .slice D0_0 M0.f1.length dd0_0, .slice D0_1 M0.f2.length dd0_1] 33 (0, 0)) := by rw [← hV9, blk_set1 (blk_set1 (blk_set1 (blk_set1 (F0.out) 0 _) 1 _) 2 _) 3 _]; simp
              have BB : Below w2.heap.size w2 V9 := by rw [← hV9]; exact (bel_set (bel_set (bel_set (bel_set (hHeld.2.2.2.2.2.2.2) _ al0) _ al0) _ al0) _ al0)
              clear hV9
              refine hK.out _ _ ?h28 (fun hHeld => ?j28)
              case h28 => (exact ⟨(World.cell?_of_block (G9.block _ (World.block_lt_of_cell? _ _ hHeld.1) (fun e => by have e := Option.some.inj e; (try dsimp only at e); omega))).trans hHeld.1, (World.cell?_of_block (G9.block _ (World.block_lt_of_cell? _ _ hHeld.2.1) (fun e => by have e := Option.some.inj e; (try dsimp only at e); omega))).trans hHeld.2.1, (World.cell?_of_block (G9.block _ (World.block_lt_of_cell? _ _ hHeld.2.2.1) (fun e => by have e := Option.some.inj e; (try dsimp only at e); omega))).trans hHeld.2.2.1, (World.cell?_of_block (G9.block _ (World.block_lt_of_cell? _ _ hHeld.2.2.2.1) (fun e => by have e := Option.some.inj e; (try dsimp only at e); omega))).trans hHeld.2.2.2.1, (World.cell?_of_block (G9.block _ (World.block_lt_of_cell? _ _ hHeld.2.2.2.2.1) (fun e => by have e := Option.some.inj e; (try dsimp only at e); omega))).trans hHeld.2.2.2.2.1, (World.cell?_of_block (G9.block _ (World.block_lt_of_cell? _ _ hHeld.2.2.2.2.2.1) (fun e => by have e := Option.some.inj e; (try dsimp only at e); omega))).trans hHeld.2.2.2.2.2.1, (World.cell?_of_block (G9.block _ (World.block_lt_of_cell? _ _ hHeld.2.2.2.2.2.2.1) (fun e => by have e := Option.some.inj e; (try dsimp only at e); omega))).trans hHeld.2.2.2.2.2.2.1, BB⟩)
              clear hK K
              try simp only [Act.put, List.setIfInBounds_toArray, List.set_cons_zero, List.set_cons_succ]
              replace U0_0 := Aside0.mk (Kd.R_grown U0_0.out G9 (fun q hq e => by injection e with e; have h1 := hq.1; have h2 := hq.2; omega))
              replace U0_1 := Aside0.mk (Kd.R_grown U0_1.out G9 (fun q hq e => by injection e with e; have h1 := hq.1; have h2 := hq.2; omega))
              replace F0 := Aside0.mk FF0
              have s9_ : V4.heap.size ≤ V9.heap.size := G9.size
              refine wpAnyH_take (i := 10) (oi := { dst := some 7, op := Op.assign (Operand.tmp 33), type := 4, pos := "exact.go:3898", after := #[{ on := 7, ground := Ground.data }, { on := 9, ground := Ground.chain }, { on := 0, ground := Ground.phase }, { on := 1, ground := Ground.phase }, { on := 2, ground := Ground.phase }, { on := 3, ground := Ground.phase }, { on := 4, ground := Ground.phase }, { on := 5, ground := Ground.phase }, { on := 6, ground := Ground.phase }, { on := 7, ground := Ground.phase }, { on := 8, ground := Ground.phase }, { on := 9, ground := Ground.phase }], guard := none }) (v := ?v29) rfl (by kernel_rfl) (by kernel_rfl) (by kernel_rfl) (fun _ _ _ h => h) (Or.inl ⟨by rfl, ?y29⟩) (by assumption) ?r29
              case y29 => intro w_ hSw; (try dsimp only at hSw); go_simp; (try (with_reducible rfl))
              try simp only [Act.put, List.setIfInBounds_toArray, List.set_cons_zero, List.set_cons_succ]
              refine wpAnyH_done (by kernel_rfl) ?_ _
              exact HKK.out D0_0 dd0_0 D0_1 dd0_1 Qx0 qx0 Qx1 qx1 g0 V9 ⟨hHeld.2.2.2.2.2.2.2, (by omega), Kd.R_mono U0_0.out (fun q hq => by have h1 := hq.1; have h2 := hq.2; refine ⟨?_, ?_, ?_⟩ <;> omega), Kd.R_mono U0_1.out (fun q hq => by have h1 := hq.1; have h2 := hq.2; refine ⟨?_, ?_, ?_⟩ <;> omega), F0.out⟩
      case k8 =>
        go_simp
        refine hK.out _ _ ?h30 (fun hHeld => ?j30)
        case h30 => exact HK.out _ _ (bel_alloc (Below.refl _ _) _) hHeld
        clear hK K
        try simp only [Act.put, List.setIfInBounds_toArray, List.set_cons_zero, List.set_cons_succ]
        generalize hV8 : World.alloc V1 _ = V8 at hHeld ⊢
        have b8 : Below V1.heap.size V1 V8 := by rw [← hV8]; exact bel_alloc (Below.refl _ _) _
        have z8 : V1.heap.size < V8.heap.size := by rw [← hV8]; simp
        have F0 := Aside0.mk (by rw [← hV8]; exact blk_new _ _ : V8.heap[V1.heap.size]? = some (.cells #[.string ⟨#[]⟩, .string ⟨#[]⟩, .slice none 0 0, .slice none 0 0] 33 (0, 0)))
        obtain ⟨g0, hg0⟩ : ∃ g, g = V1.heap.size := ⟨_, rfl⟩
        have lo0 : V1.heap.size ≤ g0 := by omega
        have al0 : w2.heap.size ≤ g0 := by omega
        have hi0 : g0 < V8.heap.size := by omega
        rw [← hg0] at F0 ⊢
        clear hV8 hg0 z8
        have s8_ := b8.size
        replace Tx0 := Aside0.mk (Kd.R_below Tx0.out b8)
        replace Tx1 := Aside0.mk (Kd.R_below Tx1.out b8)
        refine wpAnyH_ready (rs := [3]) (by kernel_rfl) (by simp) ?_
        refine AllReadyH.cons (o := { dst := some 30, op := Op.call { callee := Callee.value (Operand.func 11), args := #[Operand.tmp 29], argTypes := #[23] }, type := 30, pos := "exact.go:3898", after := #[{ on := 2, ground := Ground.data }, { on := 1, ground := Ground.chain }], guard := none }) rfl (fun K hK => ?k31) AllReadyH.nil
        case k31 =>
          go_simp
          refine (hto_a _ (bel_then HB0.out (bel_then B2 hHeld.2.2.2.2.2.2.2)) f_a).mono ?_
          rintro e V3 ⟨rfl, b3⟩
          refine hK.out _ _ ?h32 (fun hHeld => ?j32)
          case h32 => exact HK.out _ _ b3 hHeld
          clear hK K
          try simp only [Act.put, List.setIfInBounds_toArray, List.set_cons_zero, List.set_cons_succ]
          have s3_ := b3.size
          replace Tx0 := Aside0.mk (Kd.R_below Tx0.out b3)
          replace Tx1 := Aside0.mk (Kd.R_below Tx1.out b3)
          replace F0 := Aside0.mk (below_blk F0.out b3)
          refine wpAnyH_ready (rs := [4]) (by kernel_rfl) (by simp) ?_
          refine AllReadyH.cons (o := { dst := some 31, op := Op.call { callee := Callee.value (Operand.func 9), args := #[Operand.tmp 28, Operand.tmp 30], argTypes := #[38, 30] }, type := 34, pos := "exact.go:3898", after := #[{ on := 1, ground := Ground.data }, { on := 3, ground := Ground.data }, { on := 3, ground := Ground.chain }], guard := none }) rfl (fun K hK => ?k33) AllReadyH.nil
          case k33 =>
            go_simp
            have hcl := specBounce_any x Qx0 qx0 Qx1 qx1 a V3 f_x f_a (Kd.R_reads' Tx0.out).2.2 (Kd.R_reads' Tx1.out).2.2
            rw [HV0.out, HV1.out] at hcl
            refine hcl.mono ?_
            clear hcl
            rintro e V4 ⟨D0_0, dd0_0, D0_1, dd0_1, rfl, gu0_0, gu0_1, b4⟩
            refine hK.out _ _ ?h34 (fun hHeld => ?j34)
            case h34 => exact HK.out _ _ b4 hHeld
            clear hK K
            try simp only [Act.put, List.setIfInBounds_toArray, List.set_cons_zero, List.set_cons_succ]
            have U0_0 := Aside0.mk (Kd.R_lower (base' := w2.heap.size) (Kd.R_mono (Kd.R_bound gu0_0) (ok' := fun q => V3.heap.size ≤ q ∧ q < V4.heap.size) (fun q hq => ⟨hq.2.1, hq.2.2.1⟩)) (by have := hHeld.2.2.2.2.2.2.2.size; omega))
            have U0_1 := Aside0.mk (Kd.R_lower (base' := w2.heap.size) (Kd.R_mono (Kd.R_bound gu0_1) (ok' := fun q => V3.heap.size ≤ q ∧ q < V4.heap.size) (fun q hq => ⟨hq.2.1, hq.2.2.1⟩)) (by have := hHeld.2.2.2.2.2.2.2.size; omega))
            clear gu0_0 gu0_1
            have s4_ := b4.size
            replace Tx0 := Aside0.mk (Kd.R_below Tx0.out b4)
            replace Tx1 := Aside0.mk (Kd.R_below Tx1.out b4)
            replace F0 := Aside0.mk (below_blk F0.out b4)
            refine wpAnyH_take (i := 5) (oi := { dst := some 26, op := Op.move (Operand.tmp 31), type := 34, pos := "exact.go:3898", after := #[{ on := 4, ground := Ground.data }], guard := none }) (v := ?v35) rfl (by kernel_rfl) (by kernel_rfl) (by kernel_rfl) (fun _ _ _ h => h) (Or.inl ⟨by rfl, ?y35⟩) (by assumption) ?r35
            case y35 => intro w_ hSw; (try dsimp only at hSw); go_simp; (try (with_reducible rfl))
            try simp only [Act.put, List.setIfInBounds_toArray, List.set_cons_zero, List.set_cons_succ]
            refine wpAnyH_take (i := 6) (oi := { dst := some 32, op := Op.extract (Operand.tmp 26) 0, type := 33, pos := "exact.go:3898", after := #[{ on := 5, ground := Ground.data }], guard := none }) (v := ?v36) rfl (by kernel_rfl) (by kernel_rfl) (by kernel_rfl) (fun _ _ _ h => h) (Or.inl ⟨by rfl, ?y36⟩) (by assumption) ?r36
            case y36 => intro w_ hSw; (try dsimp only at hSw); go_simp; (try (with_reducible rfl))
            try simp only [Act.put, List.setIfInBounds_toArray, List.set_cons_zero, List.set_cons_succ]
            refine wpAnyH_take (i := 7) (oi := { dst := some 33, op := Op.extract (Operand.tmp 26) 1, type := 4, pos := "exact.go:3898", after := #[{ on := 5, ground := Ground.data }, { on := 9, ground := Ground.gcOnly Departure.lateStores }], guard := none }) (v := ?v37) rfl (by kernel_rfl) (by kernel_rfl) (by kernel_rfl) (fun _ _ _ h => h) (Or.inl ⟨by rfl, ?y37⟩) (by assumption) ?r37
            case y37 => intro w_ hSw; (try dsimp only at hSw); go_simp; (try (with_reducible rfl))
            try simp only [Act.put, List.setIfInBounds_toArray, List.set_cons_zero, List.set_cons_succ]
            refine wpAnyH_ready (rs := [9]) (by kernel_rfl) (by simp) ?_
            refine AllReadyH.cons (o := { dst := none, op := Op.store 33 (Operand.tmp 6) (Operand.tmp 32), type := 0, pos := "exact.go:3898", after := #[{ on := 8, ground := Ground.data }, { on := 6, ground := Ground.data }, { on := 4, ground := Ground.chain }, { on := 0, ground := Ground.phase }, { on := 1, ground := Ground.phase }, { on := 2, ground := Ground.phase }, { on := 3, ground := Ground.phase }, { on := 4, ground := Ground.phase }, { on := 5, ground := Ground.phase }, { on := 6, ground := Ground.phase }, { on := 7, ground := Ground.textOnly Departure.lateStores }, { on := 8, ground := Ground.phase }], guard := none }) rfl (fun K hK => ?k38) AllReadyH.nil
            case k38 =>
              have hb7 := F0.out
              have v0_ : V4.cell? ⟨g0, 0, none⟩ = some (.string ⟨#[]⟩) := by simp [World.cell?, hb7]
              have v1_ : V4.cell? ⟨g0, 1, none⟩ = some (.string ⟨#[]⟩) := by simp [World.cell?, hb7]
              have v2_ : V4.cell? ⟨g0, 2, none⟩ = some (.slice none 0 0) := by simp [World.cell?, hb7]
              have v3_ : V4.cell? ⟨g0, 3, none⟩ = some (.slice none 0 0) := by simp [World.cell?, hb7]
              have u0_ : V4.frozen? ⟨g0, 0, none⟩ = false := by simp [World.frozen?, hb7]
              have u1_ : V4.frozen? ⟨g0, 1, none⟩ = false := by simp [World.frozen?, hb7]
              have u2_ : V4.frozen? ⟨g0, 2, none⟩ = false := by simp [World.frozen?, hb7]
              have u3_ : V4.frozen? ⟨g0, 3, none⟩ = false := by simp [World.frozen?, hb7]
              go_simp
              generalize hV9 : World.setCell (World.setCell (World.setCell (World.setCell V4 ⟨g0, 0, none⟩ _) ⟨g0, 1, none⟩ _) ⟨g0, 2, none⟩ _) ⟨g0, 3, none⟩ _ = V9
              have G9 : V4.grownBy V9 (some g0) := by rw [← hV9]; exact (((grown_set1 _ _ _ _).trans (grown_set1 _ _ _ _)).trans (grown_set1 _ _ _ _)).trans (grown_set1 _ _ _ _)
              have FF0 : V9.heap[g0]? = some (.cells #[.string M0.f0.f0, .string M0.f0.f1, .slice D0_0 M0.f1.length dd0_0, .slice D0_1 M0.f2.length dd0_1] 33 (0, 0)) := by rw [← hV9, blk_set1 (blk_set1 (blk_set1 (blk_set1 (F0.out) 0 _) 1 _) 2 _) 3 _]; simp
              have BB : Below w2.heap.size w2 V9 := by rw [← hV9]; exact (bel_set (bel_set (bel_set (bel_set (hHeld.2.2.2.2.2.2.2) _ al0) _ al0) _ al0) _ al0)
              clear hV9
              refine hK.out _ _ ?h39 (fun hHeld => ?j39)
              case h39 => (exact ⟨(World.cell?_of_block (G9.block _ (World.block_lt_of_cell? _ _ hHeld.1) (fun e => by have e := Option.some.inj e; (try dsimp only at e); omega))).trans hHeld.1, (World.cell?_of_block (G9.block _ (World.block_lt_of_cell? _ _ hHeld.2.1) (fun e => by have e := Option.some.inj e; (try dsimp only at e); omega))).trans hHeld.2.1, (World.cell?_of_block (G9.block _ (World.block_lt_of_cell? _ _ hHeld.2.2.1) (fun e => by have e := Option.some.inj e; (try dsimp only at e); omega))).trans hHeld.2.2.1, (World.cell?_of_block (G9.block _ (World.block_lt_of_cell? _ _ hHeld.2.2.2.1) (fun e => by have e := Option.some.inj e; (try dsimp only at e); omega))).trans hHeld.2.2.2.1, (World.cell?_of_block (G9.block _ (World.block_lt_of_cell? _ _ hHeld.2.2.2.2.1) (fun e => by have e := Option.some.inj e; (try dsimp only at e); omega))).trans hHeld.2.2.2.2.1, (World.cell?_of_block (G9.block _ (World.block_lt_of_cell? _ _ hHeld.2.2.2.2.2.1) (fun e => by have e := Option.some.inj e; (try dsimp only at e); omega))).trans hHeld.2.2.2.2.2.1, (World.cell?_of_block (G9.block _ (World.block_lt_of_cell? _ _ hHeld.2.2.2.2.2.2.1) (fun e => by have e := Option.some.inj e; (try dsimp only at e); omega))).trans hHeld.2.2.2.2.2.2.1, BB⟩)
              clear hK K
              try simp only [Act.put, List.setIfInBounds_toArray, List.set_cons_zero, List.set_cons_succ]
              replace U0_0 := Aside0.mk (Kd.R_grown U0_0.out G9 (fun q hq e => by injection e with e; have h1 := hq.1; have h2 := hq.2; omega))
              replace U0_1 := Aside0.mk (Kd.R_grown U0_1.out G9 (fun q hq e => by injection e with e; have h1 := hq.1; have h2 := hq.2; omega))
              replace F0 := Aside0.mk FF0
              have s9_ : V4.heap.size ≤ V9.heap.size := G9.size
              refine wpAnyH_take (i := 10) (oi := { dst := some 7, op := Op.assign (Operand.tmp 33), type := 4, pos := "exact.go:3898", after := #[{ on := 7, ground := Ground.data }, { on := 9, ground := Ground.chain }, { on := 0, ground := Ground.phase }, { on := 1, ground := Ground.phase }, { on := 2, ground := Ground.phase }, { on := 3, ground := Ground.phase }, { on := 4, ground := Ground.phase }, { on := 5, ground := Ground.phase }, { on := 6, ground := Ground.phase }, { on := 7, ground := Ground.phase }, { on := 8, ground := Ground.phase }, { on := 9, ground := Ground.phase }], guard := none }) (v := ?v40) rfl (by kernel_rfl) (by kernel_rfl) (by kernel_rfl) (fun _ _ _ h => h) (Or.inl ⟨by rfl, ?y40⟩) (by assumption) ?r40
              case y40 => intro w_ hSw; (try dsimp only at hSw); go_simp; (try (with_reducible rfl))
              try simp only [Act.put, List.setIfInBounds_toArray, List.set_cons_zero, List.set_cons_succ]
              refine wpAnyH_done (by kernel_rfl) ?_ _
              exact HKK.out D0_0 dd0_0 D0_1 dd0_1 Qx0 qx0 Qx1 qx1 g0 V9 ⟨hHeld.2.2.2.2.2.2.2, (by omega), Kd.R_mono U0_0.out (fun q hq => by have h1 := hq.1; have h2 := hq.2; refine ⟨?_, ?_, ?_⟩ <;> omega), Kd.R_mono U0_1.out (fun q hq => by have h1 := hq.1; have h2 := hq.2; refine ⟨?_, ?_, ?_⟩ <;> omega), F0.out⟩
    case k5 =>
      go_simp
      refine hK.out _ _ ?h41 (fun hHeld => ?j41)
      case h41 => exact HK.out _ _ (bel_alloc (Below.refl _ _) _) hHeld
      clear hK K
      try simp only [Act.put, List.setIfInBounds_toArray, List.set_cons_zero, List.set_cons_succ]
      generalize hV8 : World.alloc V0 _ = V8 at hHeld ⊢
      have b8 : Below V0.heap.size V0 V8 := by rw [← hV8]; exact bel_alloc (Below.refl _ _) _
      have z8 : V0.heap.size < V8.heap.size := by rw [← hV8]; simp
      have F0 := Aside0.mk (by rw [← hV8]; exact blk_new _ _ : V8.heap[V0.heap.size]? = some (.cells #[.string ⟨#[]⟩, .string ⟨#[]⟩, .slice none 0 0, .slice none 0 0] 33 (0, 0)))
      obtain ⟨g0, hg0⟩ : ∃ g, g = V0.heap.size := ⟨_, rfl⟩
      have lo0 : V0.heap.size ≤ g0 := by omega
      have al0 : w2.heap.size ≤ g0 := by omega
      have hi0 : g0 < V8.heap.size := by omega
      rw [← hg0] at F0 ⊢
      clear hV8 hg0 z8
      have s8_ := b8.size
      refine wpAnyH_ready (rs := [1]) (by kernel_rfl) (by simp) ?_
      refine AllReadyH.cons (o := { dst := some 28, op := Op.call { callee := Callee.value (Operand.func 10), args := #[Operand.tmp 27], argTypes := #[27] }, type := 38, pos := "exact.go:3898", after := #[{ on := 0, ground := Ground.data }], guard := none }) rfl (fun K hK => ?k42) AllReadyH.nil
      case k42 =>
        go_simp
        refine (hto_x _ (bel_then HB0.out (bel_then B2 hHeld.2.2.2.2.2.2.2)) f_x).mono ?_
        rintro e V1 ⟨Qx0, qx0, Qx1, qx1, rfl, gq_x0, gq_x1, b1⟩
        refine hK.out _ _ ?h43 (fun hHeld => ?j43)
        case h43 => exact HK.out _ _ b1 hHeld
        clear hK K
        try simp only [Act.put, List.setIfInBounds_toArray, List.set_cons_zero, List.set_cons_succ]
        have Tx0 := Aside0.mk gq_x0
        have Tx1 := Aside0.mk gq_x1
        clear gq_x0
        clear gq_x1
        have s1_ := b1.size
        replace F0 := Aside0.mk (below_blk F0.out b1)
        refine wpAnyH_ready (rs := [3]) (by kernel_rfl) (by simp) ?_
        refine AllReadyH.cons (o := { dst := some 30, op := Op.call { callee := Callee.value (Operand.func 11), args := #[Operand.tmp 29], argTypes := #[23] }, type := 30, pos := "exact.go:3898", after := #[{ on := 2, ground := Ground.data }, { on := 1, ground := Ground.chain }], guard := none }) rfl (fun K hK => ?k44) AllReadyH.nil
        case k44 =>
          go_simp
          refine (hto_a _ (bel_then HB0.out (bel_then B2 hHeld.2.2.2.2.2.2.2)) f_a).mono ?_
          rintro e V3 ⟨rfl, b3⟩
          refine hK.out _ _ ?h45 (fun hHeld => ?j45)
          case h45 => exact HK.out _ _ b3 hHeld
          clear hK K
          try simp only [Act.put, List.setIfInBounds_toArray, List.set_cons_zero, List.set_cons_succ]
          have s3_ := b3.size
          replace F0 := Aside0.mk (below_blk F0.out b3)
          replace Tx0 := Aside0.mk (Kd.R_below Tx0.out b3)
          replace Tx1 := Aside0.mk (Kd.R_below Tx1.out b3)
          refine wpAnyH_ready (rs := [4]) (by kernel_rfl) (by simp) ?_
          refine AllReadyH.cons (o := { dst := some 31, op := Op.call { callee := Callee.value (Operand.func 9), args := #[Operand.tmp 28, Operand.tmp 30], argTypes := #[38, 30] }, type := 34, pos := "exact.go:3898", after := #[{ on := 1, ground := Ground.data }, { on := 3, ground := Ground.data }, { on := 3, ground := Ground.chain }], guard := none }) rfl (fun K hK => ?k46) AllReadyH.nil
          case k46 =>
            go_simp
            have hcl := specBounce_any x Qx0 qx0 Qx1 qx1 a V3 f_x f_a (Kd.R_reads' Tx0.out).2.2 (Kd.R_reads' Tx1.out).2.2
            rw [HV0.out, HV1.out] at hcl
            refine hcl.mono ?_
            clear hcl
            rintro e V4 ⟨D0_0, dd0_0, D0_1, dd0_1, rfl, gu0_0, gu0_1, b4⟩
            refine hK.out _ _ ?h47 (fun hHeld => ?j47)
            case h47 => exact HK.out _ _ b4 hHeld
            clear hK K
            try simp only [Act.put, List.setIfInBounds_toArray, List.set_cons_zero, List.set_cons_succ]
            have U0_0 := Aside0.mk (Kd.R_lower (base' := w2.heap.size) (Kd.R_mono (Kd.R_bound gu0_0) (ok' := fun q => V3.heap.size ≤ q ∧ q < V4.heap.size) (fun q hq => ⟨hq.2.1, hq.2.2.1⟩)) (by have := hHeld.2.2.2.2.2.2.2.size; omega))
            have U0_1 := Aside0.mk (Kd.R_lower (base' := w2.heap.size) (Kd.R_mono (Kd.R_bound gu0_1) (ok' := fun q => V3.heap.size ≤ q ∧ q < V4.heap.size) (fun q hq => ⟨hq.2.1, hq.2.2.1⟩)) (by have := hHeld.2.2.2.2.2.2.2.size; omega))
            clear gu0_0 gu0_1
            have s4_ := b4.size
            replace F0 := Aside0.mk (below_blk F0.out b4)
            replace Tx0 := Aside0.mk (Kd.R_below Tx0.out b4)
            replace Tx1 := Aside0.mk (Kd.R_below Tx1.out b4)
            refine wpAnyH_take (i := 5) (oi := { dst := some 26, op := Op.move (Operand.tmp 31), type := 34, pos := "exact.go:3898", after := #[{ on := 4, ground := Ground.data }], guard := none }) (v := ?v48) rfl (by kernel_rfl) (by kernel_rfl) (by kernel_rfl) (fun _ _ _ h => h) (Or.inl ⟨by rfl, ?y48⟩) (by assumption) ?r48
            case y48 => intro w_ hSw; (try dsimp only at hSw); go_simp; (try (with_reducible rfl))
            try simp only [Act.put, List.setIfInBounds_toArray, List.set_cons_zero, List.set_cons_succ]
            refine wpAnyH_take (i := 6) (oi := { dst := some 32, op := Op.extract (Operand.tmp 26) 0, type := 33, pos := "exact.go:3898", after := #[{ on := 5, ground := Ground.data }], guard := none }) (v := ?v49) rfl (by kernel_rfl) (by kernel_rfl) (by kernel_rfl) (fun _ _ _ h => h) (Or.inl ⟨by rfl, ?y49⟩) (by assumption) ?r49
            case y49 => intro w_ hSw; (try dsimp only at hSw); go_simp; (try (with_reducible rfl))
            try simp only [Act.put, List.setIfInBounds_toArray, List.set_cons_zero, List.set_cons_succ]
            refine wpAnyH_take (i := 7) (oi := { dst := some 33, op := Op.extract (Operand.tmp 26) 1, type := 4, pos := "exact.go:3898", after := #[{ on := 5, ground := Ground.data }, { on := 9, ground := Ground.gcOnly Departure.lateStores }], guard := none }) (v := ?v50) rfl (by kernel_rfl) (by kernel_rfl) (by kernel_rfl) (fun _ _ _ h => h) (Or.inl ⟨by rfl, ?y50⟩) (by assumption) ?r50
            case y50 => intro w_ hSw; (try dsimp only at hSw); go_simp; (try (with_reducible rfl))
            try simp only [Act.put, List.setIfInBounds_toArray, List.set_cons_zero, List.set_cons_succ]
            refine wpAnyH_ready (rs := [9]) (by kernel_rfl) (by simp) ?_
            refine AllReadyH.cons (o := { dst := none, op := Op.store 33 (Operand.tmp 6) (Operand.tmp 32), type := 0, pos := "exact.go:3898", after := #[{ on := 8, ground := Ground.data }, { on := 6, ground := Ground.data }, { on := 4, ground := Ground.chain }, { on := 0, ground := Ground.phase }, { on := 1, ground := Ground.phase }, { on := 2, ground := Ground.phase }, { on := 3, ground := Ground.phase }, { on := 4, ground := Ground.phase }, { on := 5, ground := Ground.phase }, { on := 6, ground := Ground.phase }, { on := 7, ground := Ground.textOnly Departure.lateStores }, { on := 8, ground := Ground.phase }], guard := none }) rfl (fun K hK => ?k51) AllReadyH.nil
            case k51 =>
              have hb7 := F0.out
              have v0_ : V4.cell? ⟨g0, 0, none⟩ = some (.string ⟨#[]⟩) := by simp [World.cell?, hb7]
              have v1_ : V4.cell? ⟨g0, 1, none⟩ = some (.string ⟨#[]⟩) := by simp [World.cell?, hb7]
              have v2_ : V4.cell? ⟨g0, 2, none⟩ = some (.slice none 0 0) := by simp [World.cell?, hb7]
              have v3_ : V4.cell? ⟨g0, 3, none⟩ = some (.slice none 0 0) := by simp [World.cell?, hb7]
              have u0_ : V4.frozen? ⟨g0, 0, none⟩ = false := by simp [World.frozen?, hb7]
              have u1_ : V4.frozen? ⟨g0, 1, none⟩ = false := by simp [World.frozen?, hb7]
              have u2_ : V4.frozen? ⟨g0, 2, none⟩ = false := by simp [World.frozen?, hb7]
              have u3_ : V4.frozen? ⟨g0, 3, none⟩ = false := by simp [World.frozen?, hb7]
              go_simp
              generalize hV9 : World.setCell (World.setCell (World.setCell (World.setCell V4 ⟨g0, 0, none⟩ _) ⟨g0, 1, none⟩ _) ⟨g0, 2, none⟩ _) ⟨g0, 3, none⟩ _ = V9
              have G9 : V4.grownBy V9 (some g0) := by rw [← hV9]; exact (((grown_set1 _ _ _ _).trans (grown_set1 _ _ _ _)).trans (grown_set1 _ _ _ _)).trans (grown_set1 _ _ _ _)
              have FF0 : V9.heap[g0]? = some (.cells #[.string M0.f0.f0, .string M0.f0.f1, .slice D0_0 M0.f1.length dd0_0, .slice D0_1 M0.f2.length dd0_1] 33 (0, 0)) := by rw [← hV9, blk_set1 (blk_set1 (blk_set1 (blk_set1 (F0.out) 0 _) 1 _) 2 _) 3 _]; simp
              have BB : Below w2.heap.size w2 V9 := by rw [← hV9]; exact (bel_set (bel_set (bel_set (bel_set (hHeld.2.2.2.2.2.2.2) _ al0) _ al0) _ al0) _ al0)
              clear hV9
              refine hK.out _ _ ?h52 (fun hHeld => ?j52)
              case h52 => (exact ⟨(World.cell?_of_block (G9.block _ (World.block_lt_of_cell? _ _ hHeld.1) (fun e => by have e := Option.some.inj e; (try dsimp only at e); omega))).trans hHeld.1, (World.cell?_of_block (G9.block _ (World.block_lt_of_cell? _ _ hHeld.2.1) (fun e => by have e := Option.some.inj e; (try dsimp only at e); omega))).trans hHeld.2.1, (World.cell?_of_block (G9.block _ (World.block_lt_of_cell? _ _ hHeld.2.2.1) (fun e => by have e := Option.some.inj e; (try dsimp only at e); omega))).trans hHeld.2.2.1, (World.cell?_of_block (G9.block _ (World.block_lt_of_cell? _ _ hHeld.2.2.2.1) (fun e => by have e := Option.some.inj e; (try dsimp only at e); omega))).trans hHeld.2.2.2.1, (World.cell?_of_block (G9.block _ (World.block_lt_of_cell? _ _ hHeld.2.2.2.2.1) (fun e => by have e := Option.some.inj e; (try dsimp only at e); omega))).trans hHeld.2.2.2.2.1, (World.cell?_of_block (G9.block _ (World.block_lt_of_cell? _ _ hHeld.2.2.2.2.2.1) (fun e => by have e := Option.some.inj e; (try dsimp only at e); omega))).trans hHeld.2.2.2.2.2.1, (World.cell?_of_block (G9.block _ (World.block_lt_of_cell? _ _ hHeld.2.2.2.2.2.2.1) (fun e => by have e := Option.some.inj e; (try dsimp only at e); omega))).trans hHeld.2.2.2.2.2.2.1, BB⟩)
              clear hK K
              try simp only [Act.put, List.setIfInBounds_toArray, List.set_cons_zero, List.set_cons_succ]
              replace U0_0 := Aside0.mk (Kd.R_grown U0_0.out G9 (fun q hq e => by injection e with e; have h1 := hq.1; have h2 := hq.2; omega))
              replace U0_1 := Aside0.mk (Kd.R_grown U0_1.out G9 (fun q hq e => by injection e with e; have h1 := hq.1; have h2 := hq.2; omega))
              replace F0 := Aside0.mk FF0
              have s9_ : V4.heap.size ≤ V9.heap.size := G9.size
              refine wpAnyH_take (i := 10) (oi := { dst := some 7, op := Op.assign (Operand.tmp 33), type := 4, pos := "exact.go:3898", after := #[{ on := 7, ground := Ground.data }, { on := 9, ground := Ground.chain }, { on := 0, ground := Ground.phase }, { on := 1, ground := Ground.phase }, { on := 2, ground := Ground.phase }, { on := 3, ground := Ground.phase }, { on := 4, ground := Ground.phase }, { on := 5, ground := Ground.phase }, { on := 6, ground := Ground.phase }, { on := 7, ground := Ground.phase }, { on := 8, ground := Ground.phase }, { on := 9, ground := Ground.phase }], guard := none }) (v := ?v53) rfl (by kernel_rfl) (by kernel_rfl) (by kernel_rfl) (fun _ _ _ h => h) (Or.inl ⟨by rfl, ?y53⟩) (by assumption) ?r53
              case y53 => intro w_ hSw; (try dsimp only at hSw); go_simp; (try (with_reducible rfl))
              try simp only [Act.put, List.setIfInBounds_toArray, List.set_cons_zero, List.set_cons_succ]
              refine wpAnyH_done (by kernel_rfl) ?_ _
              exact HKK.out D0_0 dd0_0 D0_1 dd0_1 Qx0 qx0 Qx1 qx1 g0 V9 ⟨hHeld.2.2.2.2.2.2.2, (by omega), Kd.R_mono U0_0.out (fun q hq => by have h1 := hq.1; have h2 := hq.2; refine ⟨?_, ?_, ?_⟩ <;> omega), Kd.R_mono U0_1.out (fun q hq => by have h1 := hq.1; have h2 := hq.2; refine ⟨?_, ?_, ?_⟩ <;> omega), F0.out⟩
  case hk =>
    intro D0_0 dd0_0 D0_1 dd0_1 Qx0 qx0 Qx1 qx1 gw0 w3 ⟨bb3, agw0, hHW0_0, hHW0_1, fgw0⟩
    clear HST HK join
    have B3 := bel_then B2 bb3
    have sz3 := bb3.size
    have HW0_0 := Aside0.mk hHW0_0
    clear hHW0_0
    have HW0_1 := Aside0.mk hHW0_1
    clear hHW0_1
    have Fgw0 := Aside0.mk fgw0
    have ubgw0 : gw0 < w3.heap.size := blk_lt fgw0
    clear fgw0
    clear zz0_ zz1_
    obtain ⟨c0_, c1_, c2_, c3_, c4_, c5_, c6_⟩ := HC.out _ B3
    have zz0_ : w.heap.size < w3.heap.size := Nat.lt_of_lt_of_le Z0 B3.size
    have zz1_ : w.heap.size + 1 < w3.heap.size := Nat.lt_of_lt_of_le Z1 B3.size
    have yFgw0_0 : w3.cell? ⟨gw0, 0, none⟩ = some (.string M0.f0.f0) := by simp [World.cell?, Fgw0.out]
    have yFgw0_1 : w3.cell? ⟨gw0, 1, none⟩ = some (.string M0.f0.f1) := by simp [World.cell?, Fgw0.out]
    have yFgw0_2 : w3.cell? ⟨gw0, 2, none⟩ = some (.slice D0_0 M0.f1.length dd0_0) := by simp [World.cell?, Fgw0.out]
    have yFgw0_3 : w3.cell? ⟨gw0, 3, none⟩ = some (.slice D0_1 M0.f2.length dd0_1) := by simp [World.cell?, Fgw0.out]
    have lFgw0 : gw0 < w3.heap.size := blk_lt Fgw0.out
    have hcall := fun (W : World) (hW : Below w3.heap.size w3 W) => hto_x W (bel_then HB0.out (bel_then B3 hW)) f_x
    go_wp2_with fail
    refine (hcall _ (Below.refl _ _)).mono ?_
    rintro e w4 ⟨Ex0, ex0, Ex1, ex1, rfl, gx_x0, gx_x1, b4⟩
    clear hcall
    have lo4 : w3.heap.size ≤ w4.heap.size := by have := b4.size; (try simp at this); omega
    have Xx0 := Aside0.mk (Kd.R_mono (Kd.R_bound gx_x0) (ok' := fun q => w3.heap.size ≤ q ∧ q < w4.heap.size) (fun q hq => ⟨by have h2 := hq.2.1; (try simp at h2); omega, hq.2.2.1⟩))
    clear gx_x0
    have Xx1 := Aside0.mk (Kd.R_mono (Kd.R_bound gx_x1) (ok' := fun q => w3.heap.size ≤ q ∧ q < w4.heap.size) (fun q hq => ⟨by have h2 := hq.2.1; (try simp at h2); omega, hq.2.2.1⟩))
    clear gx_x1
    have bb4 := bel_then (Below.refl w3.heap.size w3) b4
    have B4 := bel_then B3 bb4
    have sz4 := bb4.size
    replace HW0_0 := Aside0.mk (Kd.R_below HW0_0.out bb4)
    replace HW0_1 := Aside0.mk (Kd.R_below HW0_1.out bb4)
    replace Fgw0 := Aside0.mk (below_blk Fgw0.out bb4)
    clear c0_ c1_ c2_ c3_ c4_ c5_ c6_ zz0_ zz1_ yFgw0_0 yFgw0_1 yFgw0_2 yFgw0_3 lFgw0
    obtain ⟨c0_, c1_, c2_, c3_, c4_, c5_, c6_⟩ := HC.out _ B4
    have zz0_ : w.heap.size < w4.heap.size := Nat.lt_of_lt_of_le Z0 B4.size
    have zz1_ : w.heap.size + 1 < w4.heap.size := Nat.lt_of_lt_of_le Z1 B4.size
    have yFgw0_0 : w4.cell? ⟨gw0, 0, none⟩ = some (.string M0.f0.f0) := by simp [World.cell?, Fgw0.out]
    have yFgw0_1 : w4.cell? ⟨gw0, 1, none⟩ = some (.string M0.f0.f1) := by simp [World.cell?, Fgw0.out]
    have yFgw0_2 : w4.cell? ⟨gw0, 2, none⟩ = some (.slice D0_0 M0.f1.length dd0_0) := by simp [World.cell?, Fgw0.out]
    have yFgw0_3 : w4.cell? ⟨gw0, 3, none⟩ = some (.slice D0_1 M0.f2.length dd0_1) := by simp [World.cell?, Fgw0.out]
    have lFgw0 : gw0 < w4.heap.size := blk_lt Fgw0.out
    clear b4 bb4
    go_wp2
    generalize hW5 : World.alloc w4 _ = w5
    have bb5 : Below w4.heap.size w4 w5 := by rw [← hW5]; exact bel_alloc (Below.refl _ _) _
    have FXx := Aside0.mk (by rw [← hW5]; exact blk_new _ _ : w5.heap[w4.heap.size]? = some (.cells #[.int .i64 x.f0, .string x.f1.f0, .string x.f1.f1, .slice Ex0 x.f2.length ex0, .slice Ex1 x.f3.length ex1] 38 (0, 0)))
    have gtFXx : w4.heap.size < w5.heap.size := by rw [← hW5]; simp
    have B5 := bel_then B4 bb5
    have sz5 := bb5.size
    clear hW5
    replace HW0_0 := Aside0.mk (Kd.R_below HW0_0.out bb5)
    replace HW0_1 := Aside0.mk (Kd.R_below HW0_1.out bb5)
    replace Xx0 := Aside0.mk (Kd.R_below Xx0.out bb5)
    replace Xx1 := Aside0.mk (Kd.R_below Xx1.out bb5)
    replace Fgw0 := Aside0.mk (below_blk Fgw0.out bb5)
    clear c0_ c1_ c2_ c3_ c4_ c5_ c6_ zz0_ zz1_ yFgw0_0 yFgw0_1 yFgw0_2 yFgw0_3 lFgw0
    obtain ⟨c0_, c1_, c2_, c3_, c4_, c5_, c6_⟩ := HC.out _ B5
    have zz0_ : w.heap.size < w5.heap.size := Nat.lt_of_lt_of_le Z0 B5.size
    have zz1_ : w.heap.size + 1 < w5.heap.size := Nat.lt_of_lt_of_le Z1 B5.size
    have yFgw0_0 : w5.cell? ⟨gw0, 0, none⟩ = some (.string M0.f0.f0) := by simp [World.cell?, Fgw0.out]
    have yFgw0_1 : w5.cell? ⟨gw0, 1, none⟩ = some (.string M0.f0.f1) := by simp [World.cell?, Fgw0.out]
    have yFgw0_2 : w5.cell? ⟨gw0, 2, none⟩ = some (.slice D0_0 M0.f1.length dd0_0) := by simp [World.cell?, Fgw0.out]
    have yFgw0_3 : w5.cell? ⟨gw0, 3, none⟩ = some (.slice D0_1 M0.f2.length dd0_1) := by simp [World.cell?, Fgw0.out]
    have lFgw0 : gw0 < w5.heap.size := blk_lt Fgw0.out
    have yFXx_0 : w5.cell? ⟨w4.heap.size, 0, none⟩ = some (.int .i64 x.f0) := by simp [World.cell?, FXx.out]
    have yFXx_1 : w5.cell? ⟨w4.heap.size, 1, none⟩ = some (.string x.f1.f0) := by simp [World.cell?, FXx.out]
    have yFXx_2 : w5.cell? ⟨w4.heap.size, 2, none⟩ = some (.string x.f1.f1) := by simp [World.cell?, FXx.out]
    have yFXx_3 : w5.cell? ⟨w4.heap.size, 3, none⟩ = some (.slice Ex0 x.f2.length ex0) := by simp [World.cell?, FXx.out]
    have yFXx_4 : w5.cell? ⟨w4.heap.size, 4, none⟩ = some (.slice Ex1 x.f3.length ex1) := by simp [World.cell?, FXx.out]
    have lFXx : w4.heap.size < w5.heap.size := blk_lt FXx.out
    have HK : Aside0 (∀ W W1, Below W.heap.size W W1 → (W.cell? ⟨w.heap.size, 0, none⟩ = some (.int .i64 x.f0) ∧ W.cell? ⟨w.heap.size, 1, none⟩ = some (.string x.f1.f0) ∧ W.cell? ⟨w.heap.size, 2, none⟩ = some (.string x.f1.f1) ∧ W.cell? ⟨w.heap.size, 3, none⟩ = some (.slice Ax0 x.f2.length cx0) ∧ W.cell? ⟨w.heap.size, 4, none⟩ = some (.slice Ax1 x.f3.length cx1) ∧ W.cell? ⟨w.heap.size + 1, 0, none⟩ = some (.string a.f0) ∧ W.cell? ⟨w.heap.size + 1, 1, none⟩ = some (.string a.f1) ∧ W.cell? ⟨gw0, 0, none⟩ = some (.string M0.f0.f0) ∧ W.cell? ⟨gw0, 1, none⟩ = some (.string M0.f0.f1) ∧ W.cell? ⟨gw0, 2, none⟩ = some (.slice D0_0 M0.f1.length dd0_0) ∧ W.cell? ⟨gw0, 3, none⟩ = some (.slice D0_1 M0.f2.length dd0_1) ∧ W.cell? ⟨w4.heap.size, 0, none⟩ = some (.int .i64 x.f0) ∧ W.cell? ⟨w4.heap.size, 1, none⟩ = some (.string x.f1.f0) ∧ W.cell? ⟨w4.heap.size, 2, none⟩ = some (.string x.f1.f1) ∧ W.cell? ⟨w4.heap.size, 3, none⟩ = some (.slice Ex0 x.f2.length ex0) ∧ W.cell? ⟨w4.heap.size, 4, none⟩ = some (.slice Ex1 x.f3.length ex1) ∧ Below w5.heap.size w5 W) → (W1.cell? ⟨w.heap.size, 0, none⟩ = some (.int .i64 x.f0) ∧ W1.cell? ⟨w.heap.size, 1, none⟩ = some (.string x.f1.f0) ∧ W1.cell? ⟨w.heap.size, 2, none⟩ = some (.string x.f1.f1) ∧ W1.cell? ⟨w.heap.size, 3, none⟩ = some (.slice Ax0 x.f2.length cx0) ∧ W1.cell? ⟨w.heap.size, 4, none⟩ = some (.slice Ax1 x.f3.length cx1) ∧ W1.cell? ⟨w.heap.size + 1, 0, none⟩ = some (.string a.f0) ∧ W1.cell? ⟨w.heap.size + 1, 1, none⟩ = some (.string a.f1) ∧ W1.cell? ⟨gw0, 0, none⟩ = some (.string M0.f0.f0) ∧ W1.cell? ⟨gw0, 1, none⟩ = some (.string M0.f0.f1) ∧ W1.cell? ⟨gw0, 2, none⟩ = some (.slice D0_0 M0.f1.length dd0_0) ∧ W1.cell? ⟨gw0, 3, none⟩ = some (.slice D0_1 M0.f2.length dd0_1) ∧ W1.cell? ⟨w4.heap.size, 0, none⟩ = some (.int .i64 x.f0) ∧ W1.cell? ⟨w4.heap.size, 1, none⟩ = some (.string x.f1.f0) ∧ W1.cell? ⟨w4.heap.size, 2, none⟩ = some (.string x.f1.f1) ∧ W1.cell? ⟨w4.heap.size, 3, none⟩ = some (.slice Ex0 x.f2.length ex0) ∧ W1.cell? ⟨w4.heap.size, 4, none⟩ = some (.slice Ex1 x.f3.length ex1) ∧ Below w5.heap.size w5 W1)) := ⟨fun W W1 hb h => ⟨(hb.cell (World.block_lt_of_cell? W _ (h.1))).trans (h.1), (hb.cell (World.block_lt_of_cell? W _ (h.2.1))).trans (h.2.1), (hb.cell (World.block_lt_of_cell? W _ (h.2.2.1))).trans (h.2.2.1), (hb.cell (World.block_lt_of_cell? W _ (h.2.2.2.1))).trans (h.2.2.2.1), (hb.cell (World.block_lt_of_cell? W _ (h.2.2.2.2.1))).trans (h.2.2.2.2.1), (hb.cell (World.block_lt_of_cell? W _ (h.2.2.2.2.2.1))).trans (h.2.2.2.2.2.1), (hb.cell (World.block_lt_of_cell? W _ (h.2.2.2.2.2.2.1))).trans (h.2.2.2.2.2.2.1), (hb.cell (World.block_lt_of_cell? W _ (h.2.2.2.2.2.2.2.1))).trans (h.2.2.2.2.2.2.2.1), (hb.cell (World.block_lt_of_cell? W _ (h.2.2.2.2.2.2.2.2.1))).trans (h.2.2.2.2.2.2.2.2.1), (hb.cell (World.block_lt_of_cell? W _ (h.2.2.2.2.2.2.2.2.2.1))).trans (h.2.2.2.2.2.2.2.2.2.1), (hb.cell (World.block_lt_of_cell? W _ (h.2.2.2.2.2.2.2.2.2.2.1))).trans (h.2.2.2.2.2.2.2.2.2.2.1), (hb.cell (World.block_lt_of_cell? W _ (h.2.2.2.2.2.2.2.2.2.2.2.1))).trans (h.2.2.2.2.2.2.2.2.2.2.2.1), (hb.cell (World.block_lt_of_cell? W _ (h.2.2.2.2.2.2.2.2.2.2.2.2.1))).trans (h.2.2.2.2.2.2.2.2.2.2.2.2.1), (hb.cell (World.block_lt_of_cell? W _ (h.2.2.2.2.2.2.2.2.2.2.2.2.2.1))).trans (h.2.2.2.2.2.2.2.2.2.2.2.2.2.1), (hb.cell (World.block_lt_of_cell? W _ (h.2.2.2.2.2.2.2.2.2.2.2.2.2.2.1))).trans (h.2.2.2.2.2.2.2.2.2.2.2.2.2.2.1), (hb.cell (World.block_lt_of_cell? W _ (h.2.2.2.2.2.2.2.2.2.2.2.2.2.2.2.1))).trans (h.2.2.2.2.2.2.2.2.2.2.2.2.2.2.2.1), bel_then (h.2.2.2.2.2.2.2.2.2.2.2.2.2.2.2.2) hb⟩⟩
    have join : Hid (∀ {goal : Prop} {G : Option Addr → Nat → Option Addr → Nat → Nat → World → Prop} (rg : Hid (∀ (G0_0 : Option Addr) (gd0_0 : Nat) (G0_1 : Option Addr) (gd0_1 : Nat) (g0 : Nat) (V : World), Below w5.heap.size w5 V ∧ w5.heap.size ≤ g0 ∧ Kd.R kAddr 30 V w5.heap.size (fun q => w5.heap.size ≤ q ∧ q < V.heap.size ∧ q ≠ g0) (.slice G0_0 M0.f1.length gd0_0) M0.f1 ∧ Kd.R Kd.string 9 V w5.heap.size (fun q => w5.heap.size ≤ q ∧ q < V.heap.size ∧ q ≠ g0) (.slice G0_1 M0.f2.length gd0_1) M0.f2 ∧ V.heap[g0]? = some (.cells #[.string M0.f0.f0, .string M0.f0.f1, .slice G0_0 M0.f1.length gd0_0, .slice G0_1 M0.f2.length gd0_1] 33 (0, 0)) → G G0_0 gd0_0 G0_1 gd0_1 g0 V) → goal) (hk : ∀ (G0_0 : Option Addr) (gd0_0 : Nat) (G0_1 : Option Addr) (gd0_1 : Nat) (g0 : Nat) (V : World), Below w5.heap.size w5 V ∧ w5.heap.size ≤ g0 ∧ Kd.R kAddr 30 V w5.heap.size (fun q => w5.heap.size ≤ q ∧ q < V.heap.size ∧ q ≠ g0) (.slice G0_0 M0.f1.length gd0_0) M0.f1 ∧ Kd.R Kd.string 9 V w5.heap.size (fun q => w5.heap.size ≤ q ∧ q < V.heap.size ∧ q ≠ g0) (.slice G0_1 M0.f2.length gd0_1) M0.f2 ∧ V.heap[g0]? = some (.cells #[.string M0.f0.f0, .string M0.f0.f1, .slice G0_0 M0.f1.length gd0_0, .slice G0_1 M0.f2.length gd0_1] 33 (0, 0)) → G G0_0 gd0_0 G0_1 gd0_1 g0 V), goal) := Lib.hid (fun f h => f (Lib.hid h))
    have HST : Aside0 ((fun W => W.cell? ⟨w.heap.size, 0, none⟩ = some (.int .i64 x.f0) ∧ W.cell? ⟨w.heap.size, 1, none⟩ = some (.string x.f1.f0) ∧ W.cell? ⟨w.heap.size, 2, none⟩ = some (.string x.f1.f1) ∧ W.cell? ⟨w.heap.size, 3, none⟩ = some (.slice Ax0 x.f2.length cx0) ∧ W.cell? ⟨w.heap.size, 4, none⟩ = some (.slice Ax1 x.f3.length cx1) ∧ W.cell? ⟨w.heap.size + 1, 0, none⟩ = some (.string a.f0) ∧ W.cell? ⟨w.heap.size + 1, 1, none⟩ = some (.string a.f1) ∧ W.cell? ⟨gw0, 0, none⟩ = some (.string M0.f0.f0) ∧ W.cell? ⟨gw0, 1, none⟩ = some (.string M0.f0.f1) ∧ W.cell? ⟨gw0, 2, none⟩ = some (.slice D0_0 M0.f1.length dd0_0) ∧ W.cell? ⟨gw0, 3, none⟩ = some (.slice D0_1 M0.f2.length dd0_1) ∧ W.cell? ⟨w4.heap.size, 0, none⟩ = some (.int .i64 x.f0) ∧ W.cell? ⟨w4.heap.size, 1, none⟩ = some (.string x.f1.f0) ∧ W.cell? ⟨w4.heap.size, 2, none⟩ = some (.string x.f1.f1) ∧ W.cell? ⟨w4.heap.size, 3, none⟩ = some (.slice Ex0 x.f2.length ex0) ∧ W.cell? ⟨w4.heap.size, 4, none⟩ = some (.slice Ex1 x.f3.length ex1) ∧ Below w5.heap.size w5 W) (w5).drew) := ⟨⟨c0_, c1_, c2_, c3_, c4_, c5_, c6_, yFgw0_0, yFgw0_1, yFgw0_2, yFgw0_3, yFXx_0, yFXx_1, yFXx_2, yFXx_3, yFXx_4, bel_then (Below.refl w5.heap.size w5) (drew_below0 _)⟩⟩
    clear c0_ c1_ c2_ c3_ c4_ c5_ c6_ yFgw0_0 yFgw0_1 yFgw0_2 yFgw0_3 yFXx_0 yFXx_1 yFXx_2 yFXx_3 yFXx_4
    apply join.out
    case rg =>
      intro HKK
      refine wp_region_held_drew (S := (fun W => W.cell? ⟨w.heap.size, 0, none⟩ = some (.int .i64 x.f0) ∧ W.cell? ⟨w.heap.size, 1, none⟩ = some (.string x.f1.f0) ∧ W.cell? ⟨w.heap.size, 2, none⟩ = some (.string x.f1.f1) ∧ W.cell? ⟨w.heap.size, 3, none⟩ = some (.slice Ax0 x.f2.length cx0) ∧ W.cell? ⟨w.heap.size, 4, none⟩ = some (.slice Ax1 x.f3.length cx1) ∧ W.cell? ⟨w.heap.size + 1, 0, none⟩ = some (.string a.f0) ∧ W.cell? ⟨w.heap.size + 1, 1, none⟩ = some (.string a.f1) ∧ W.cell? ⟨gw0, 0, none⟩ = some (.string M0.f0.f0) ∧ W.cell? ⟨gw0, 1, none⟩ = some (.string M0.f0.f1) ∧ W.cell? ⟨gw0, 2, none⟩ = some (.slice D0_0 M0.f1.length dd0_0) ∧ W.cell? ⟨gw0, 3, none⟩ = some (.slice D0_1 M0.f2.length dd0_1) ∧ W.cell? ⟨w4.heap.size, 0, none⟩ = some (.int .i64 x.f0) ∧ W.cell? ⟨w4.heap.size, 1, none⟩ = some (.string x.f1.f0) ∧ W.cell? ⟨w4.heap.size, 2, none⟩ = some (.string x.f1.f1) ∧ W.cell? ⟨w4.heap.size, 3, none⟩ = some (.slice Ex0 x.f2.length ex0) ∧ W.cell? ⟨w4.heap.size, 4, none⟩ = some (.slice Ex1 x.f3.length ex1) ∧ Below w5.heap.size w5 W)) (by kernel_rfl) ?s54 (fun hHeld => ?t54)
      case s54 => exact HST.out
      generalize World.drew _ = V0 at hHeld ⊢
      have s0_ : w5.heap.size ≤ V0.heap.size := hHeld.2.2.2.2.2.2.2.2.2.2.2.2.2.2.2.2.size
      refine wpAnyH_take (i := 0) (oi := { dst := some 37, op := Op.load 38 (Operand.tmp 8), type := 38, pos := "exact.go:3900", after := #[], guard := none }) (v := ?v55) rfl (by kernel_rfl) (by kernel_rfl) (by kernel_rfl) (fun _ _ _ h => h) (Or.inl ⟨by rfl, ?y55⟩) (by assumption) ?r55
      case y55 => intro w_ hSw; (try dsimp only at hSw); go_simp; (try (with_reducible rfl))
      try simp only [Act.put, List.setIfInBounds_toArray, List.set_cons_zero, List.set_cons_succ]
      refine wpAnyH_take (i := 1) (oi := { dst := some 38, op := Op.load 23 (Operand.tmp 3), type := 23, pos := "exact.go:3900", after := #[], guard := none }) (v := ?v56) rfl (by kernel_rfl) (by kernel_rfl) (by kernel_rfl) (fun _ _ _ h => h) (Or.inl ⟨by rfl, ?y56⟩) (by assumption) ?r56
      case y56 => intro w_ hSw; (try dsimp only at hSw); go_simp; (try (with_reducible rfl))
      try simp only [Act.put, List.setIfInBounds_toArray, List.set_cons_zero, List.set_cons_succ]
      refine wpAnyH_ready (rs := [2, 7]) (by kernel_rfl) (by simp) ?_
      refine AllReadyH.cons (o := { dst := some 39, op := Op.call { callee := Callee.value (Operand.func 11), args := #[Operand.tmp 38], argTypes := #[23] }, type := 30, pos := "exact.go:3900", after := #[{ on := 1, ground := Ground.data }], guard := none }) rfl (fun K hK => ?k57) (AllReadyH.cons (o := { dst := some 9, op := Op.alloc 33, type := 0, pos := "exact.go:3900", after := #[], guard := none }) rfl (fun K hK => ?k58) AllReadyH.nil)
      case k57 =>
        go_simp
        refine (hto_a _ (bel_then HB0.out (bel_then B5 hHeld.2.2.2.2.2.2.2.2.2.2.2.2.2.2.2.2)) f_a).mono ?_
        rintro e V2 ⟨rfl, b2⟩
        refine hK.out _ _ ?h59 (fun hHeld => ?j59)
        case h59 => exact HK.out _ _ b2 hHeld
        clear hK K
        try simp only [Act.put, List.setIfInBounds_toArray, List.set_cons_zero, List.set_cons_succ]
        have s2_ := b2.size
        refine wpAnyH_ready (rs := [3, 7]) (by kernel_rfl) (by simp) ?_
        refine AllReadyH.cons (o := { dst := some 40, op := Op.call { callee := Callee.value (Operand.func 12), args := #[Operand.tmp 37, Operand.tmp 39], argTypes := #[38, 30] }, type := 34, pos := "exact.go:3900", after := #[{ on := 0, ground := Ground.data }, { on := 2, ground := Ground.data }, { on := 2, ground := Ground.chain }], guard := none }) rfl (fun K hK => ?k60) (AllReadyH.cons (o := { dst := some 9, op := Op.alloc 33, type := 0, pos := "exact.go:3900", after := #[], guard := none }) rfl (fun K hK => ?k61) AllReadyH.nil)
        case k60 =>
          go_simp
          have hcl := bounceOf_any x Ex0 ex0 Ex1 ex1 a V2 f_x f_a (Kd.C_below (Kd.R_reads' Xx0.out).2.2 hHeld.2.2.2.2.2.2.2.2.2.2.2.2.2.2.2.2) (Kd.C_below (Kd.R_reads' Xx1.out).2.2 hHeld.2.2.2.2.2.2.2.2.2.2.2.2.2.2.2.2) (HG.out.below (bel_then HB0.out (bel_then B5 hHeld.2.2.2.2.2.2.2.2.2.2.2.2.2.2.2.2)))
          rw [HV0.out, HV1.out] at hcl
          refine hcl.mono ?_
          clear hcl
          rintro e V3 ⟨G0_0, gd0_0, G0_1, gd0_1, rfl, gu0_0, gu0_1, b3⟩
          refine hK.out _ _ ?h62 (fun hHeld => ?j62)
          case h62 => exact HK.out _ _ b3 hHeld
          clear hK K
          try simp only [Act.put, List.setIfInBounds_toArray, List.set_cons_zero, List.set_cons_succ]
          have U0_0 := Aside0.mk (Kd.R_lower (base' := w5.heap.size) (Kd.R_mono (Kd.R_bound gu0_0) (ok' := fun q => V2.heap.size ≤ q ∧ q < V3.heap.size) (fun q hq => ⟨hq.2.1, hq.2.2.1⟩)) (by have := hHeld.2.2.2.2.2.2.2.2.2.2.2.2.2.2.2.2.size; omega))
          have U0_1 := Aside0.mk (Kd.R_lower (base' := w5.heap.size) (Kd.R_mono (Kd.R_bound gu0_1) (ok' := fun q => V2.heap.size ≤ q ∧ q < V3.heap.size) (fun q hq => ⟨hq.2.1, hq.2.2.1⟩)) (by have := hHeld.2.2.2.2.2.2.2.2.2.2.2.2.2.2.2.2.size; omega))
          clear gu0_0 gu0_1
          have s3_ := b3.size
          refine wpAnyH_take (i := 4) (oi := { dst := some 36, op := Op.move (Operand.tmp 40), type := 34, pos := "exact.go:3900", after := #[{ on := 3, ground := Ground.data }], guard := none }) (v := ?v63) rfl (by kernel_rfl) (by kernel_rfl) (by kernel_rfl) (fun _ _ _ h => h) (Or.inl ⟨by rfl, ?y63⟩) (by assumption) ?r63
          case y63 => intro w_ hSw; (try dsimp only at hSw); go_simp; (try (with_reducible rfl))
          try simp only [Act.put, List.setIfInBounds_toArray, List.set_cons_zero, List.set_cons_succ]
          refine wpAnyH_take (i := 5) (oi := { dst := some 41, op := Op.extract (Operand.tmp 36) 0, type := 33, pos := "exact.go:3900", after := #[{ on := 4, ground := Ground.data }], guard := none }) (v := ?v64) rfl (by kernel_rfl) (by kernel_rfl) (by kernel_rfl) (fun _ _ _ h => h) (Or.inl ⟨by rfl, ?y64⟩) (by assumption) ?r64
          case y64 => intro w_ hSw; (try dsimp only at hSw); go_simp; (try (with_reducible rfl))
          try simp only [Act.put, List.setIfInBounds_toArray, List.set_cons_zero, List.set_cons_succ]
          refine wpAnyH_take (i := 6) (oi := { dst := some 42, op := Op.extract (Operand.tmp 36) 1, type := 4, pos := "exact.go:3900", after := #[{ on := 4, ground := Ground.data }, { on := 8, ground := Ground.gcOnly Departure.lateStores }], guard := none }) (v := ?v65) rfl (by kernel_rfl) (by kernel_rfl) (by kernel_rfl) (fun _ _ _ h => h) (Or.inl ⟨by rfl, ?y65⟩) (by assumption) ?r65
          case y65 => intro w_ hSw; (try dsimp only at hSw); go_simp; (try (with_reducible rfl))
          try simp only [Act.put, List.setIfInBounds_toArray, List.set_cons_zero, List.set_cons_succ]
          refine wpAnyH_ready (rs := [7]) (by kernel_rfl) (by simp) ?_
          refine AllReadyH.cons (o := { dst := some 9, op := Op.alloc 33, type := 0, pos := "exact.go:3900", after := #[], guard := none }) rfl (fun K hK => ?k66) AllReadyH.nil
          case k66 =>
            go_simp
            refine hK.out _ _ ?h67 (fun hHeld => ?j67)
            case h67 => exact HK.out _ _ (bel_alloc (Below.refl _ _) _) hHeld
            clear hK K
            try simp only [Act.put, List.setIfInBounds_toArray, List.set_cons_zero, List.set_cons_succ]
            generalize hV7 : World.alloc V3 _ = V7 at hHeld ⊢
            have b7 : Below V3.heap.size V3 V7 := by rw [← hV7]; exact bel_alloc (Below.refl _ _) _
            have z7 : V3.heap.size < V7.heap.size := by rw [← hV7]; simp
            have F0 := Aside0.mk (by rw [← hV7]; exact blk_new _ _ : V7.heap[V3.heap.size]? = some (.cells #[.string ⟨#[]⟩, .string ⟨#[]⟩, .slice none 0 0, .slice none 0 0] 33 (0, 0)))
            obtain ⟨g0, hg0⟩ : ∃ g, g = V3.heap.size := ⟨_, rfl⟩
            have lo0 : V3.heap.size ≤ g0 := by omega
            have al0 : w5.heap.size ≤ g0 := by omega
            have hi0 : g0 < V7.heap.size := by omega
            rw [← hg0] at F0 ⊢
            clear hV7 hg0 z7
            have s7_ := b7.size
            replace U0_0 := Aside0.mk (Kd.R_below U0_0.out b7)
            replace U0_1 := Aside0.mk (Kd.R_below U0_1.out b7)
            refine wpAnyH_ready (rs := [8]) (by kernel_rfl) (by simp) ?_
            refine AllReadyH.cons (o := { dst := none, op := Op.store 33 (Operand.tmp 9) (Operand.tmp 41), type := 0, pos := "exact.go:3900", after := #[{ on := 7, ground := Ground.data }, { on := 5, ground := Ground.data }, { on := 3, ground := Ground.chain }, { on := 0, ground := Ground.phase }, { on := 1, ground := Ground.phase }, { on := 2, ground := Ground.phase }, { on := 3, ground := Ground.phase }, { on := 4, ground := Ground.phase }, { on := 5, ground := Ground.phase }, { on := 6, ground := Ground.textOnly Departure.lateStores }, { on := 7, ground := Ground.phase }], guard := none }) rfl (fun K hK => ?k68) AllReadyH.nil
            case k68 =>
              have hb7 := F0.out
              have v0_ : V7.cell? ⟨g0, 0, none⟩ = some (.string ⟨#[]⟩) := by simp [World.cell?, hb7]
              have v1_ : V7.cell? ⟨g0, 1, none⟩ = some (.string ⟨#[]⟩) := by simp [World.cell?, hb7]
              have v2_ : V7.cell? ⟨g0, 2, none⟩ = some (.slice none 0 0) := by simp [World.cell?, hb7]
              have v3_ : V7.cell? ⟨g0, 3, none⟩ = some (.slice none 0 0) := by simp [World.cell?, hb7]
              have u0_ : V7.frozen? ⟨g0, 0, none⟩ = false := by simp [World.frozen?, hb7]
              have u1_ : V7.frozen? ⟨g0, 1, none⟩ = false := by simp [World.frozen?, hb7]
              have u2_ : V7.frozen? ⟨g0, 2, none⟩ = false := by simp [World.frozen?, hb7]
              have u3_ : V7.frozen? ⟨g0, 3, none⟩ = false := by simp [World.frozen?, hb7]
              go_simp
              generalize hV8 : World.setCell (World.setCell (World.setCell (World.setCell V7 ⟨g0, 0, none⟩ _) ⟨g0, 1, none⟩ _) ⟨g0, 2, none⟩ _) ⟨g0, 3, none⟩ _ = V8
              have G8 : V7.grownBy V8 (some g0) := by rw [← hV8]; exact (((grown_set1 _ _ _ _).trans (grown_set1 _ _ _ _)).trans (grown_set1 _ _ _ _)).trans (grown_set1 _ _ _ _)
              have FF0 : V8.heap[g0]? = some (.cells #[.string M0.f0.f0, .string M0.f0.f1, .slice G0_0 M0.f1.length gd0_0, .slice G0_1 M0.f2.length gd0_1] 33 (0, 0)) := by rw [← hV8, blk_set1 (blk_set1 (blk_set1 (blk_set1 (F0.out) 0 _) 1 _) 2 _) 3 _]; simp
              have BB : Below w5.heap.size w5 V8 := by rw [← hV8]; exact (bel_set (bel_set (bel_set (bel_set (hHeld.2.2.2.2.2.2.2.2.2.2.2.2.2.2.2.2) _ al0) _ al0) _ al0) _ al0)
              clear hV8
              refine hK.out _ _ ?h69 (fun hHeld => ?j69)
              case h69 => (exact ⟨(World.cell?_of_block (G8.block _ (World.block_lt_of_cell? _ _ hHeld.1) (fun e => by have e := Option.some.inj e; (try dsimp only at e); omega))).trans hHeld.1, (World.cell?_of_block (G8.block _ (World.block_lt_of_cell? _ _ hHeld.2.1) (fun e => by have e := Option.some.inj e; (try dsimp only at e); omega))).trans hHeld.2.1, (World.cell?_of_block (G8.block _ (World.block_lt_of_cell? _ _ hHeld.2.2.1) (fun e => by have e := Option.some.inj e; (try dsimp only at e); omega))).trans hHeld.2.2.1, (World.cell?_of_block (G8.block _ (World.block_lt_of_cell? _ _ hHeld.2.2.2.1) (fun e => by have e := Option.some.inj e; (try dsimp only at e); omega))).trans hHeld.2.2.2.1, (World.cell?_of_block (G8.block _ (World.block_lt_of_cell? _ _ hHeld.2.2.2.2.1) (fun e => by have e := Option.some.inj e; (try dsimp only at e); omega))).trans hHeld.2.2.2.2.1, (World.cell?_of_block (G8.block _ (World.block_lt_of_cell? _ _ hHeld.2.2.2.2.2.1) (fun e => by have e := Option.some.inj e; (try dsimp only at e); omega))).trans hHeld.2.2.2.2.2.1, (World.cell?_of_block (G8.block _ (World.block_lt_of_cell? _ _ hHeld.2.2.2.2.2.2.1) (fun e => by have e := Option.some.inj e; (try dsimp only at e); omega))).trans hHeld.2.2.2.2.2.2.1, (World.cell?_of_block (G8.block _ (World.block_lt_of_cell? _ _ hHeld.2.2.2.2.2.2.2.1) (fun e => by have e := Option.some.inj e; (try dsimp only at e); omega))).trans hHeld.2.2.2.2.2.2.2.1, (World.cell?_of_block (G8.block _ (World.block_lt_of_cell? _ _ hHeld.2.2.2.2.2.2.2.2.1) (fun e => by have e := Option.some.inj e; (try dsimp only at e); omega))).trans hHeld.2.2.2.2.2.2.2.2.1, (World.cell?_of_block (G8.block _ (World.block_lt_of_cell? _ _ hHeld.2.2.2.2.2.2.2.2.2.1) (fun e => by have e := Option.some.inj e; (try dsimp only at e); omega))).trans hHeld.2.2.2.2.2.2.2.2.2.1, (World.cell?_of_block (G8.block _ (World.block_lt_of_cell? _ _ hHeld.2.2.2.2.2.2.2.2.2.2.1) (fun e => by have e := Option.some.inj e; (try dsimp only at e); omega))).trans hHeld.2.2.2.2.2.2.2.2.2.2.1, (World.cell?_of_block (G8.block _ (World.block_lt_of_cell? _ _ hHeld.2.2.2.2.2.2.2.2.2.2.2.1) (fun e => by have e := Option.some.inj e; (try dsimp only at e); omega))).trans hHeld.2.2.2.2.2.2.2.2.2.2.2.1, (World.cell?_of_block (G8.block _ (World.block_lt_of_cell? _ _ hHeld.2.2.2.2.2.2.2.2.2.2.2.2.1) (fun e => by have e := Option.some.inj e; (try dsimp only at e); omega))).trans hHeld.2.2.2.2.2.2.2.2.2.2.2.2.1, (World.cell?_of_block (G8.block _ (World.block_lt_of_cell? _ _ hHeld.2.2.2.2.2.2.2.2.2.2.2.2.2.1) (fun e => by have e := Option.some.inj e; (try dsimp only at e); omega))).trans hHeld.2.2.2.2.2.2.2.2.2.2.2.2.2.1, (World.cell?_of_block (G8.block _ (World.block_lt_of_cell? _ _ hHeld.2.2.2.2.2.2.2.2.2.2.2.2.2.2.1) (fun e => by have e := Option.some.inj e; (try dsimp only at e); omega))).trans hHeld.2.2.2.2.2.2.2.2.2.2.2.2.2.2.1, (World.cell?_of_block (G8.block _ (World.block_lt_of_cell? _ _ hHeld.2.2.2.2.2.2.2.2.2.2.2.2.2.2.2.1) (fun e => by have e := Option.some.inj e; (try dsimp only at e); omega))).trans hHeld.2.2.2.2.2.2.2.2.2.2.2.2.2.2.2.1, BB⟩)
              clear hK K
              try simp only [Act.put, List.setIfInBounds_toArray, List.set_cons_zero, List.set_cons_succ]
              replace U0_0 := Aside0.mk (Kd.R_grown U0_0.out G8 (fun q hq e => by injection e with e; have h1 := hq.1; have h2 := hq.2; omega))
              replace U0_1 := Aside0.mk (Kd.R_grown U0_1.out G8 (fun q hq e => by injection e with e; have h1 := hq.1; have h2 := hq.2; omega))
              replace F0 := Aside0.mk FF0
              have s8_ : V7.heap.size ≤ V8.heap.size := G8.size
              refine wpAnyH_take (i := 9) (oi := { dst := some 10, op := Op.assign (Operand.tmp 42), type := 4, pos := "exact.go:3900", after := #[{ on := 6, ground := Ground.data }, { on := 8, ground := Ground.chain }, { on := 0, ground := Ground.phase }, { on := 1, ground := Ground.phase }, { on := 2, ground := Ground.phase }, { on := 3, ground := Ground.phase }, { on := 4, ground := Ground.phase }, { on := 5, ground := Ground.phase }, { on := 6, ground := Ground.phase }, { on := 7, ground := Ground.phase }, { on := 8, ground := Ground.phase }], guard := none }) (v := ?v70) rfl (by kernel_rfl) (by kernel_rfl) (by kernel_rfl) (fun _ _ _ h => h) (Or.inl ⟨by rfl, ?y70⟩) (by assumption) ?r70
              case y70 => intro w_ hSw; (try dsimp only at hSw); go_simp; (try (with_reducible rfl))
              try simp only [Act.put, List.setIfInBounds_toArray, List.set_cons_zero, List.set_cons_succ]
              refine wpAnyH_done (by kernel_rfl) ?_ _
              exact HKK.out G0_0 gd0_0 G0_1 gd0_1 g0 V8 ⟨hHeld.2.2.2.2.2.2.2.2.2.2.2.2.2.2.2.2, (by omega), Kd.R_mono U0_0.out (fun q hq => by have h1 := hq.1; have h2 := hq.2; refine ⟨?_, ?_, ?_⟩ <;> omega), Kd.R_mono U0_1.out (fun q hq => by have h1 := hq.1; have h2 := hq.2; refine ⟨?_, ?_, ?_⟩ <;> omega), F0.out⟩
        case k61 =>
          go_simp
          refine hK.out _ _ ?h71 (fun hHeld => ?j71)
          case h71 => exact HK.out _ _ (bel_alloc (Below.refl _ _) _) hHeld
          clear hK K
          try simp only [Act.put, List.setIfInBounds_toArray, List.set_cons_zero, List.set_cons_succ]
          generalize hV7 : World.alloc V2 _ = V7 at hHeld ⊢
          have b7 : Below V2.heap.size V2 V7 := by rw [← hV7]; exact bel_alloc (Below.refl _ _) _
          have z7 : V2.heap.size < V7.heap.size := by rw [← hV7]; simp
          have F0 := Aside0.mk (by rw [← hV7]; exact blk_new _ _ : V7.heap[V2.heap.size]? = some (.cells #[.string ⟨#[]⟩, .string ⟨#[]⟩, .slice none 0 0, .slice none 0 0] 33 (0, 0)))
          obtain ⟨g0, hg0⟩ : ∃ g, g = V2.heap.size := ⟨_, rfl⟩
          have lo0 : V2.heap.size ≤ g0 := by omega
          have al0 : w5.heap.size ≤ g0 := by omega
          have hi0 : g0 < V7.heap.size := by omega
          rw [← hg0] at F0 ⊢
          clear hV7 hg0 z7
          have s7_ := b7.size
          refine wpAnyH_ready (rs := [3]) (by kernel_rfl) (by simp) ?_
          refine AllReadyH.cons (o := { dst := some 40, op := Op.call { callee := Callee.value (Operand.func 12), args := #[Operand.tmp 37, Operand.tmp 39], argTypes := #[38, 30] }, type := 34, pos := "exact.go:3900", after := #[{ on := 0, ground := Ground.data }, { on := 2, ground := Ground.data }, { on := 2, ground := Ground.chain }], guard := none }) rfl (fun K hK => ?k72) AllReadyH.nil
          case k72 =>
            go_simp
            have hcl := bounceOf_any x Ex0 ex0 Ex1 ex1 a V7 f_x f_a (Kd.C_below (Kd.R_reads' Xx0.out).2.2 hHeld.2.2.2.2.2.2.2.2.2.2.2.2.2.2.2.2) (Kd.C_below (Kd.R_reads' Xx1.out).2.2 hHeld.2.2.2.2.2.2.2.2.2.2.2.2.2.2.2.2) (HG.out.below (bel_then HB0.out (bel_then B5 hHeld.2.2.2.2.2.2.2.2.2.2.2.2.2.2.2.2)))
            rw [HV0.out, HV1.out] at hcl
            refine hcl.mono ?_
            clear hcl
            rintro e V3 ⟨G0_0, gd0_0, G0_1, gd0_1, rfl, gu0_0, gu0_1, b3⟩
            refine hK.out _ _ ?h73 (fun hHeld => ?j73)
            case h73 => exact HK.out _ _ b3 hHeld
            clear hK K
            try simp only [Act.put, List.setIfInBounds_toArray, List.set_cons_zero, List.set_cons_succ]
            have U0_0 := Aside0.mk (Kd.R_lower (base' := w5.heap.size) (Kd.R_mono (Kd.R_bound gu0_0) (ok' := fun q => V7.heap.size ≤ q ∧ q < V3.heap.size) (fun q hq => ⟨hq.2.1, hq.2.2.1⟩)) (by have := hHeld.2.2.2.2.2.2.2.2.2.2.2.2.2.2.2.2.size; omega))
            have U0_1 := Aside0.mk (Kd.R_lower (base' := w5.heap.size) (Kd.R_mono (Kd.R_bound gu0_1) (ok' := fun q => V7.heap.size ≤ q ∧ q < V3.heap.size) (fun q hq => ⟨hq.2.1, hq.2.2.1⟩)) (by have := hHeld.2.2.2.2.2.2.2.2.2.2.2.2.2.2.2.2.size; omega))
            clear gu0_0 gu0_1
            have s3_ := b3.size
            replace F0 := Aside0.mk (below_blk F0.out b3)
            refine wpAnyH_take (i := 4) (oi := { dst := some 36, op := Op.move (Operand.tmp 40), type := 34, pos := "exact.go:3900", after := #[{ on := 3, ground := Ground.data }], guard := none }) (v := ?v74) rfl (by kernel_rfl) (by kernel_rfl) (by kernel_rfl) (fun _ _ _ h => h) (Or.inl ⟨by rfl, ?y74⟩) (by assumption) ?r74
            case y74 => intro w_ hSw; (try dsimp only at hSw); go_simp; (try (with_reducible rfl))
            try simp only [Act.put, List.setIfInBounds_toArray, List.set_cons_zero, List.set_cons_succ]
            refine wpAnyH_take (i := 5) (oi := { dst := some 41, op := Op.extract (Operand.tmp 36) 0, type := 33, pos := "exact.go:3900", after := #[{ on := 4, ground := Ground.data }], guard := none }) (v := ?v75) rfl (by kernel_rfl) (by kernel_rfl) (by kernel_rfl) (fun _ _ _ h => h) (Or.inl ⟨by rfl, ?y75⟩) (by assumption) ?r75
            case y75 => intro w_ hSw; (try dsimp only at hSw); go_simp; (try (with_reducible rfl))
            try simp only [Act.put, List.setIfInBounds_toArray, List.set_cons_zero, List.set_cons_succ]
            refine wpAnyH_take (i := 6) (oi := { dst := some 42, op := Op.extract (Operand.tmp 36) 1, type := 4, pos := "exact.go:3900", after := #[{ on := 4, ground := Ground.data }, { on := 8, ground := Ground.gcOnly Departure.lateStores }], guard := none }) (v := ?v76) rfl (by kernel_rfl) (by kernel_rfl) (by kernel_rfl) (fun _ _ _ h => h) (Or.inl ⟨by rfl, ?y76⟩) (by assumption) ?r76
            case y76 => intro w_ hSw; (try dsimp only at hSw); go_simp; (try (with_reducible rfl))
            try simp only [Act.put, List.setIfInBounds_toArray, List.set_cons_zero, List.set_cons_succ]
            refine wpAnyH_ready (rs := [8]) (by kernel_rfl) (by simp) ?_
            refine AllReadyH.cons (o := { dst := none, op := Op.store 33 (Operand.tmp 9) (Operand.tmp 41), type := 0, pos := "exact.go:3900", after := #[{ on := 7, ground := Ground.data }, { on := 5, ground := Ground.data }, { on := 3, ground := Ground.chain }, { on := 0, ground := Ground.phase }, { on := 1, ground := Ground.phase }, { on := 2, ground := Ground.phase }, { on := 3, ground := Ground.phase }, { on := 4, ground := Ground.phase }, { on := 5, ground := Ground.phase }, { on := 6, ground := Ground.textOnly Departure.lateStores }, { on := 7, ground := Ground.phase }], guard := none }) rfl (fun K hK => ?k77) AllReadyH.nil
            case k77 =>
              have hb7 := F0.out
              have v0_ : V3.cell? ⟨g0, 0, none⟩ = some (.string ⟨#[]⟩) := by simp [World.cell?, hb7]
              have v1_ : V3.cell? ⟨g0, 1, none⟩ = some (.string ⟨#[]⟩) := by simp [World.cell?, hb7]
              have v2_ : V3.cell? ⟨g0, 2, none⟩ = some (.slice none 0 0) := by simp [World.cell?, hb7]
              have v3_ : V3.cell? ⟨g0, 3, none⟩ = some (.slice none 0 0) := by simp [World.cell?, hb7]
              have u0_ : V3.frozen? ⟨g0, 0, none⟩ = false := by simp [World.frozen?, hb7]
              have u1_ : V3.frozen? ⟨g0, 1, none⟩ = false := by simp [World.frozen?, hb7]
              have u2_ : V3.frozen? ⟨g0, 2, none⟩ = false := by simp [World.frozen?, hb7]
              have u3_ : V3.frozen? ⟨g0, 3, none⟩ = false := by simp [World.frozen?, hb7]
              go_simp
              generalize hV8 : World.setCell (World.setCell (World.setCell (World.setCell V3 ⟨g0, 0, none⟩ _) ⟨g0, 1, none⟩ _) ⟨g0, 2, none⟩ _) ⟨g0, 3, none⟩ _ = V8
              have G8 : V3.grownBy V8 (some g0) := by rw [← hV8]; exact (((grown_set1 _ _ _ _).trans (grown_set1 _ _ _ _)).trans (grown_set1 _ _ _ _)).trans (grown_set1 _ _ _ _)
              have FF0 : V8.heap[g0]? = some (.cells #[.string M0.f0.f0, .string M0.f0.f1, .slice G0_0 M0.f1.length gd0_0, .slice G0_1 M0.f2.length gd0_1] 33 (0, 0)) := by rw [← hV8, blk_set1 (blk_set1 (blk_set1 (blk_set1 (F0.out) 0 _) 1 _) 2 _) 3 _]; simp
              have BB : Below w5.heap.size w5 V8 := by rw [← hV8]; exact (bel_set (bel_set (bel_set (bel_set (hHeld.2.2.2.2.2.2.2.2.2.2.2.2.2.2.2.2) _ al0) _ al0) _ al0) _ al0)
              clear hV8
              refine hK.out _ _ ?h78 (fun hHeld => ?j78)
              case h78 => (exact ⟨(World.cell?_of_block (G8.block _ (World.block_lt_of_cell? _ _ hHeld.1) (fun e => by have e := Option.some.inj e; (try dsimp only at e); omega))).trans hHeld.1, (World.cell?_of_block (G8.block _ (World.block_lt_of_cell? _ _ hHeld.2.1) (fun e => by have e := Option.some.inj e; (try dsimp only at e); omega))).trans hHeld.2.1, (World.cell?_of_block (G8.block _ (World.block_lt_of_cell? _ _ hHeld.2.2.1) (fun e => by have e := Option.some.inj e; (try dsimp only at e); omega))).trans hHeld.2.2.1, (World.cell?_of_block (G8.block _ (World.block_lt_of_cell? _ _ hHeld.2.2.2.1) (fun e => by have e := Option.some.inj e; (try dsimp only at e); omega))).trans hHeld.2.2.2.1, (World.cell?_of_block (G8.block _ (World.block_lt_of_cell? _ _ hHeld.2.2.2.2.1) (fun e => by have e := Option.some.inj e; (try dsimp only at e); omega))).trans hHeld.2.2.2.2.1, (World.cell?_of_block (G8.block _ (World.block_lt_of_cell? _ _ hHeld.2.2.2.2.2.1) (fun e => by have e := Option.some.inj e; (try dsimp only at e); omega))).trans hHeld.2.2.2.2.2.1, (World.cell?_of_block (G8.block _ (World.block_lt_of_cell? _ _ hHeld.2.2.2.2.2.2.1) (fun e => by have e := Option.some.inj e; (try dsimp only at e); omega))).trans hHeld.2.2.2.2.2.2.1, (World.cell?_of_block (G8.block _ (World.block_lt_of_cell? _ _ hHeld.2.2.2.2.2.2.2.1) (fun e => by have e := Option.some.inj e; (try dsimp only at e); omega))).trans hHeld.2.2.2.2.2.2.2.1, (World.cell?_of_block (G8.block _ (World.block_lt_of_cell? _ _ hHeld.2.2.2.2.2.2.2.2.1) (fun e => by have e := Option.some.inj e; (try dsimp only at e); omega))).trans hHeld.2.2.2.2.2.2.2.2.1, (World.cell?_of_block (G8.block _ (World.block_lt_of_cell? _ _ hHeld.2.2.2.2.2.2.2.2.2.1) (fun e => by have e := Option.some.inj e; (try dsimp only at e); omega))).trans hHeld.2.2.2.2.2.2.2.2.2.1, (World.cell?_of_block (G8.block _ (World.block_lt_of_cell? _ _ hHeld.2.2.2.2.2.2.2.2.2.2.1) (fun e => by have e := Option.some.inj e; (try dsimp only at e); omega))).trans hHeld.2.2.2.2.2.2.2.2.2.2.1, (World.cell?_of_block (G8.block _ (World.block_lt_of_cell? _ _ hHeld.2.2.2.2.2.2.2.2.2.2.2.1) (fun e => by have e := Option.some.inj e; (try dsimp only at e); omega))).trans hHeld.2.2.2.2.2.2.2.2.2.2.2.1, (World.cell?_of_block (G8.block _ (World.block_lt_of_cell? _ _ hHeld.2.2.2.2.2.2.2.2.2.2.2.2.1) (fun e => by have e := Option.some.inj e; (try dsimp only at e); omega))).trans hHeld.2.2.2.2.2.2.2.2.2.2.2.2.1, (World.cell?_of_block (G8.block _ (World.block_lt_of_cell? _ _ hHeld.2.2.2.2.2.2.2.2.2.2.2.2.2.1) (fun e => by have e := Option.some.inj e; (try dsimp only at e); omega))).trans hHeld.2.2.2.2.2.2.2.2.2.2.2.2.2.1, (World.cell?_of_block (G8.block _ (World.block_lt_of_cell? _ _ hHeld.2.2.2.2.2.2.2.2.2.2.2.2.2.2.1) (fun e => by have e := Option.some.inj e; (try dsimp only at e); omega))).trans hHeld.2.2.2.2.2.2.2.2.2.2.2.2.2.2.1, (World.cell?_of_block (G8.block _ (World.block_lt_of_cell? _ _ hHeld.2.2.2.2.2.2.2.2.2.2.2.2.2.2.2.1) (fun e => by have e := Option.some.inj e; (try dsimp only at e); omega))).trans hHeld.2.2.2.2.2.2.2.2.2.2.2.2.2.2.2.1, BB⟩)
              clear hK K
              try simp only [Act.put, List.setIfInBounds_toArray, List.set_cons_zero, List.set_cons_succ]
              replace U0_0 := Aside0.mk (Kd.R_grown U0_0.out G8 (fun q hq e => by injection e with e; have h1 := hq.1; have h2 := hq.2; omega))
              replace U0_1 := Aside0.mk (Kd.R_grown U0_1.out G8 (fun q hq e => by injection e with e; have h1 := hq.1; have h2 := hq.2; omega))
              replace F0 := Aside0.mk FF0
              have s8_ : V3.heap.size ≤ V8.heap.size := G8.size
              refine wpAnyH_take (i := 9) (oi := { dst := some 10, op := Op.assign (Operand.tmp 42), type := 4, pos := "exact.go:3900", after := #[{ on := 6, ground := Ground.data }, { on := 8, ground := Ground.chain }, { on := 0, ground := Ground.phase }, { on := 1, ground := Ground.phase }, { on := 2, ground := Ground.phase }, { on := 3, ground := Ground.phase }, { on := 4, ground := Ground.phase }, { on := 5, ground := Ground.phase }, { on := 6, ground := Ground.phase }, { on := 7, ground := Ground.phase }, { on := 8, ground := Ground.phase }], guard := none }) (v := ?v79) rfl (by kernel_rfl) (by kernel_rfl) (by kernel_rfl) (fun _ _ _ h => h) (Or.inl ⟨by rfl, ?y79⟩) (by assumption) ?r79
              case y79 => intro w_ hSw; (try dsimp only at hSw); go_simp; (try (with_reducible rfl))
              try simp only [Act.put, List.setIfInBounds_toArray, List.set_cons_zero, List.set_cons_succ]
              refine wpAnyH_done (by kernel_rfl) ?_ _
              exact HKK.out G0_0 gd0_0 G0_1 gd0_1 g0 V8 ⟨hHeld.2.2.2.2.2.2.2.2.2.2.2.2.2.2.2.2, (by omega), Kd.R_mono U0_0.out (fun q hq => by have h1 := hq.1; have h2 := hq.2; refine ⟨?_, ?_, ?_⟩ <;> omega), Kd.R_mono U0_1.out (fun q hq => by have h1 := hq.1; have h2 := hq.2; refine ⟨?_, ?_, ?_⟩ <;> omega), F0.out⟩
      case k58 =>
        go_simp
        refine hK.out _ _ ?h80 (fun hHeld => ?j80)
        case h80 => exact HK.out _ _ (bel_alloc (Below.refl _ _) _) hHeld
        clear hK K
        try simp only [Act.put, List.setIfInBounds_toArray, List.set_cons_zero, List.set_cons_succ]
        generalize hV7 : World.alloc V0 _ = V7 at hHeld ⊢
        have b7 : Below V0.heap.size V0 V7 := by rw [← hV7]; exact bel_alloc (Below.refl _ _) _
        have z7 : V0.heap.size < V7.heap.size := by rw [← hV7]; simp
        have F0 := Aside0.mk (by rw [← hV7]; exact blk_new _ _ : V7.heap[V0.heap.size]? = some (.cells #[.string ⟨#[]⟩, .string ⟨#[]⟩, .slice none 0 0, .slice none 0 0] 33 (0, 0)))
        obtain ⟨g0, hg0⟩ : ∃ g, g = V0.heap.size := ⟨_, rfl⟩
        have lo0 : V0.heap.size ≤ g0 := by omega
        have al0 : w5.heap.size ≤ g0 := by omega
        have hi0 : g0 < V7.heap.size := by omega
        rw [← hg0] at F0 ⊢
        clear hV7 hg0 z7
        have s7_ := b7.size
        refine wpAnyH_ready (rs := [2]) (by kernel_rfl) (by simp) ?_
        refine AllReadyH.cons (o := { dst := some 39, op := Op.call { callee := Callee.value (Operand.func 11), args := #[Operand.tmp 38], argTypes := #[23] }, type := 30, pos := "exact.go:3900", after := #[{ on := 1, ground := Ground.data }], guard := none }) rfl (fun K hK => ?k81) AllReadyH.nil
        case k81 =>
          go_simp
          refine (hto_a _ (bel_then HB0.out (bel_then B5 hHeld.2.2.2.2.2.2.2.2.2.2.2.2.2.2.2.2)) f_a).mono ?_
          rintro e V2 ⟨rfl, b2⟩
          refine hK.out _ _ ?h82 (fun hHeld => ?j82)
          case h82 => exact HK.out _ _ b2 hHeld
          clear hK K
          try simp only [Act.put, List.setIfInBounds_toArray, List.set_cons_zero, List.set_cons_succ]
          have s2_ := b2.size
          replace F0 := Aside0.mk (below_blk F0.out b2)
          refine wpAnyH_ready (rs := [3]) (by kernel_rfl) (by simp) ?_
          refine AllReadyH.cons (o := { dst := some 40, op := Op.call { callee := Callee.value (Operand.func 12), args := #[Operand.tmp 37, Operand.tmp 39], argTypes := #[38, 30] }, type := 34, pos := "exact.go:3900", after := #[{ on := 0, ground := Ground.data }, { on := 2, ground := Ground.data }, { on := 2, ground := Ground.chain }], guard := none }) rfl (fun K hK => ?k83) AllReadyH.nil
          case k83 =>
            go_simp
            have hcl := bounceOf_any x Ex0 ex0 Ex1 ex1 a V2 f_x f_a (Kd.C_below (Kd.R_reads' Xx0.out).2.2 hHeld.2.2.2.2.2.2.2.2.2.2.2.2.2.2.2.2) (Kd.C_below (Kd.R_reads' Xx1.out).2.2 hHeld.2.2.2.2.2.2.2.2.2.2.2.2.2.2.2.2) (HG.out.below (bel_then HB0.out (bel_then B5 hHeld.2.2.2.2.2.2.2.2.2.2.2.2.2.2.2.2)))
            rw [HV0.out, HV1.out] at hcl
            refine hcl.mono ?_
            clear hcl
            rintro e V3 ⟨G0_0, gd0_0, G0_1, gd0_1, rfl, gu0_0, gu0_1, b3⟩
            refine hK.out _ _ ?h84 (fun hHeld => ?j84)
            case h84 => exact HK.out _ _ b3 hHeld
            clear hK K
            try simp only [Act.put, List.setIfInBounds_toArray, List.set_cons_zero, List.set_cons_succ]
            have U0_0 := Aside0.mk (Kd.R_lower (base' := w5.heap.size) (Kd.R_mono (Kd.R_bound gu0_0) (ok' := fun q => V2.heap.size ≤ q ∧ q < V3.heap.size) (fun q hq => ⟨hq.2.1, hq.2.2.1⟩)) (by have := hHeld.2.2.2.2.2.2.2.2.2.2.2.2.2.2.2.2.size; omega))
            have U0_1 := Aside0.mk (Kd.R_lower (base' := w5.heap.size) (Kd.R_mono (Kd.R_bound gu0_1) (ok' := fun q => V2.heap.size ≤ q ∧ q < V3.heap.size) (fun q hq => ⟨hq.2.1, hq.2.2.1⟩)) (by have := hHeld.2.2.2.2.2.2.2.2.2.2.2.2.2.2.2.2.size; omega))
            clear gu0_0 gu0_1
            have s3_ := b3.size
            replace F0 := Aside0.mk (below_blk F0.out b3)
            refine wpAnyH_take (i := 4) (oi := { dst := some 36, op := Op.move (Operand.tmp 40), type := 34, pos := "exact.go:3900", after := #[{ on := 3, ground := Ground.data }], guard := none }) (v := ?v85) rfl (by kernel_rfl) (by kernel_rfl) (by kernel_rfl) (fun _ _ _ h => h) (Or.inl ⟨by rfl, ?y85⟩) (by assumption) ?r85
            case y85 => intro w_ hSw; (try dsimp only at hSw); go_simp; (try (with_reducible rfl))
            try simp only [Act.put, List.setIfInBounds_toArray, List.set_cons_zero, List.set_cons_succ]
            refine wpAnyH_take (i := 5) (oi := { dst := some 41, op := Op.extract (Operand.tmp 36) 0, type := 33, pos := "exact.go:3900", after := #[{ on := 4, ground := Ground.data }], guard := none }) (v := ?v86) rfl (by kernel_rfl) (by kernel_rfl) (by kernel_rfl) (fun _ _ _ h => h) (Or.inl ⟨by rfl, ?y86⟩) (by assumption) ?r86
            case y86 => intro w_ hSw; (try dsimp only at hSw); go_simp; (try (with_reducible rfl))
            try simp only [Act.put, List.setIfInBounds_toArray, List.set_cons_zero, List.set_cons_succ]
            refine wpAnyH_take (i := 6) (oi := { dst := some 42, op := Op.extract (Operand.tmp 36) 1, type := 4, pos := "exact.go:3900", after := #[{ on := 4, ground := Ground.data }, { on := 8, ground := Ground.gcOnly Departure.lateStores }], guard := none }) (v := ?v87) rfl (by kernel_rfl) (by kernel_rfl) (by kernel_rfl) (fun _ _ _ h => h) (Or.inl ⟨by rfl, ?y87⟩) (by assumption) ?r87
            case y87 => intro w_ hSw; (try dsimp only at hSw); go_simp; (try (with_reducible rfl))
            try simp only [Act.put, List.setIfInBounds_toArray, List.set_cons_zero, List.set_cons_succ]
            refine wpAnyH_ready (rs := [8]) (by kernel_rfl) (by simp) ?_
            refine AllReadyH.cons (o := { dst := none, op := Op.store 33 (Operand.tmp 9) (Operand.tmp 41), type := 0, pos := "exact.go:3900", after := #[{ on := 7, ground := Ground.data }, { on := 5, ground := Ground.data }, { on := 3, ground := Ground.chain }, { on := 0, ground := Ground.phase }, { on := 1, ground := Ground.phase }, { on := 2, ground := Ground.phase }, { on := 3, ground := Ground.phase }, { on := 4, ground := Ground.phase }, { on := 5, ground := Ground.phase }, { on := 6, ground := Ground.textOnly Departure.lateStores }, { on := 7, ground := Ground.phase }], guard := none }) rfl (fun K hK => ?k88) AllReadyH.nil
            case k88 =>
              have hb7 := F0.out
              have v0_ : V3.cell? ⟨g0, 0, none⟩ = some (.string ⟨#[]⟩) := by simp [World.cell?, hb7]
              have v1_ : V3.cell? ⟨g0, 1, none⟩ = some (.string ⟨#[]⟩) := by simp [World.cell?, hb7]
              have v2_ : V3.cell? ⟨g0, 2, none⟩ = some (.slice none 0 0) := by simp [World.cell?, hb7]
              have v3_ : V3.cell? ⟨g0, 3, none⟩ = some (.slice none 0 0) := by simp [World.cell?, hb7]
              have u0_ : V3.frozen? ⟨g0, 0, none⟩ = false := by simp [World.frozen?, hb7]
              have u1_ : V3.frozen? ⟨g0, 1, none⟩ = false := by simp [World.frozen?, hb7]
              have u2_ : V3.frozen? ⟨g0, 2, none⟩ = false := by simp [World.frozen?, hb7]
              have u3_ : V3.frozen? ⟨g0, 3, none⟩ = false := by simp [World.frozen?, hb7]
              go_simp
              generalize hV8 : World.setCell (World.setCell (World.setCell (World.setCell V3 ⟨g0, 0, none⟩ _) ⟨g0, 1, none⟩ _) ⟨g0, 2, none⟩ _) ⟨g0, 3, none⟩ _ = V8
              have G8 : V3.grownBy V8 (some g0) := by rw [← hV8]; exact (((grown_set1 _ _ _ _).trans (grown_set1 _ _ _ _)).trans (grown_set1 _ _ _ _)).trans (grown_set1 _ _ _ _)
              have FF0 : V8.heap[g0]? = some (.cells #[.string M0.f0.f0, .string M0.f0.f1, .slice G0_0 M0.f1.length gd0_0, .slice G0_1 M0.f2.length gd0_1] 33 (0, 0)) := by rw [← hV8, blk_set1 (blk_set1 (blk_set1 (blk_set1 (F0.out) 0 _) 1 _) 2 _) 3 _]; simp
              have BB : Below w5.heap.size w5 V8 := by rw [← hV8]; exact (bel_set (bel_set (bel_set (bel_set (hHeld.2.2.2.2.2.2.2.2.2.2.2.2.2.2.2.2) _ al0) _ al0) _ al0) _ al0)
              clear hV8
              refine hK.out _ _ ?h89 (fun hHeld => ?j89)
              case h89 => (exact ⟨(World.cell?_of_block (G8.block _ (World.block_lt_of_cell? _ _ hHeld.1) (fun e => by have e := Option.some.inj e; (try dsimp only at e); omega))).trans hHeld.1, (World.cell?_of_block (G8.block _ (World.block_lt_of_cell? _ _ hHeld.2.1) (fun e => by have e := Option.some.inj e; (try dsimp only at e); omega))).trans hHeld.2.1, (World.cell?_of_block (G8.block _ (World.block_lt_of_cell? _ _ hHeld.2.2.1) (fun e => by have e := Option.some.inj e; (try dsimp only at e); omega))).trans hHeld.2.2.1, (World.cell?_of_block (G8.block _ (World.block_lt_of_cell? _ _ hHeld.2.2.2.1) (fun e => by have e := Option.some.inj e; (try dsimp only at e); omega))).trans hHeld.2.2.2.1, (World.cell?_of_block (G8.block _ (World.block_lt_of_cell? _ _ hHeld.2.2.2.2.1) (fun e => by have e := Option.some.inj e; (try dsimp only at e); omega))).trans hHeld.2.2.2.2.1, (World.cell?_of_block (G8.block _ (World.block_lt_of_cell? _ _ hHeld.2.2.2.2.2.1) (fun e => by have e := Option.some.inj e; (try dsimp only at e); omega))).trans hHeld.2.2.2.2.2.1, (World.cell?_of_block (G8.block _ (World.block_lt_of_cell? _ _ hHeld.2.2.2.2.2.2.1) (fun e => by have e := Option.some.inj e; (try dsimp only at e); omega))).trans hHeld.2.2.2.2.2.2.1, (World.cell?_of_block (G8.block _ (World.block_lt_of_cell? _ _ hHeld.2.2.2.2.2.2.2.1) (fun e => by have e := Option.some.inj e; (try dsimp only at e); omega))).trans hHeld.2.2.2.2.2.2.2.1, (World.cell?_of_block (G8.block _ (World.block_lt_of_cell? _ _ hHeld.2.2.2.2.2.2.2.2.1) (fun e => by have e := Option.some.inj e; (try dsimp only at e); omega))).trans hHeld.2.2.2.2.2.2.2.2.1, (World.cell?_of_block (G8.block _ (World.block_lt_of_cell? _ _ hHeld.2.2.2.2.2.2.2.2.2.1) (fun e => by have e := Option.some.inj e; (try dsimp only at e); omega))).trans hHeld.2.2.2.2.2.2.2.2.2.1, (World.cell?_of_block (G8.block _ (World.block_lt_of_cell? _ _ hHeld.2.2.2.2.2.2.2.2.2.2.1) (fun e => by have e := Option.some.inj e; (try dsimp only at e); omega))).trans hHeld.2.2.2.2.2.2.2.2.2.2.1, (World.cell?_of_block (G8.block _ (World.block_lt_of_cell? _ _ hHeld.2.2.2.2.2.2.2.2.2.2.2.1) (fun e => by have e := Option.some.inj e; (try dsimp only at e); omega))).trans hHeld.2.2.2.2.2.2.2.2.2.2.2.1, (World.cell?_of_block (G8.block _ (World.block_lt_of_cell? _ _ hHeld.2.2.2.2.2.2.2.2.2.2.2.2.1) (fun e => by have e := Option.some.inj e; (try dsimp only at e); omega))).trans hHeld.2.2.2.2.2.2.2.2.2.2.2.2.1, (World.cell?_of_block (G8.block _ (World.block_lt_of_cell? _ _ hHeld.2.2.2.2.2.2.2.2.2.2.2.2.2.1) (fun e => by have e := Option.some.inj e; (try dsimp only at e); omega))).trans hHeld.2.2.2.2.2.2.2.2.2.2.2.2.2.1, (World.cell?_of_block (G8.block _ (World.block_lt_of_cell? _ _ hHeld.2.2.2.2.2.2.2.2.2.2.2.2.2.2.1) (fun e => by have e := Option.some.inj e; (try dsimp only at e); omega))).trans hHeld.2.2.2.2.2.2.2.2.2.2.2.2.2.2.1, (World.cell?_of_block (G8.block _ (World.block_lt_of_cell? _ _ hHeld.2.2.2.2.2.2.2.2.2.2.2.2.2.2.2.1) (fun e => by have e := Option.some.inj e; (try dsimp only at e); omega))).trans hHeld.2.2.2.2.2.2.2.2.2.2.2.2.2.2.2.1, BB⟩)
              clear hK K
              try simp only [Act.put, List.setIfInBounds_toArray, List.set_cons_zero, List.set_cons_succ]
              replace U0_0 := Aside0.mk (Kd.R_grown U0_0.out G8 (fun q hq e => by injection e with e; have h1 := hq.1; have h2 := hq.2; omega))
              replace U0_1 := Aside0.mk (Kd.R_grown U0_1.out G8 (fun q hq e => by injection e with e; have h1 := hq.1; have h2 := hq.2; omega))
              replace F0 := Aside0.mk FF0
              have s8_ : V3.heap.size ≤ V8.heap.size := G8.size
              refine wpAnyH_take (i := 9) (oi := { dst := some 10, op := Op.assign (Operand.tmp 42), type := 4, pos := "exact.go:3900", after := #[{ on := 6, ground := Ground.data }, { on := 8, ground := Ground.chain }, { on := 0, ground := Ground.phase }, { on := 1, ground := Ground.phase }, { on := 2, ground := Ground.phase }, { on := 3, ground := Ground.phase }, { on := 4, ground := Ground.phase }, { on := 5, ground := Ground.phase }, { on := 6, ground := Ground.phase }, { on := 7, ground := Ground.phase }, { on := 8, ground := Ground.phase }], guard := none }) (v := ?v90) rfl (by kernel_rfl) (by kernel_rfl) (by kernel_rfl) (fun _ _ _ h => h) (Or.inl ⟨by rfl, ?y90⟩) (by assumption) ?r90
              case y90 => intro w_ hSw; (try dsimp only at hSw); go_simp; (try (with_reducible rfl))
              try simp only [Act.put, List.setIfInBounds_toArray, List.set_cons_zero, List.set_cons_succ]
              refine wpAnyH_done (by kernel_rfl) ?_ _
              exact HKK.out G0_0 gd0_0 G0_1 gd0_1 g0 V8 ⟨hHeld.2.2.2.2.2.2.2.2.2.2.2.2.2.2.2.2, (by omega), Kd.R_mono U0_0.out (fun q hq => by have h1 := hq.1; have h2 := hq.2; refine ⟨?_, ?_, ?_⟩ <;> omega), Kd.R_mono U0_1.out (fun q hq => by have h1 := hq.1; have h2 := hq.2; refine ⟨?_, ?_, ?_⟩ <;> omega), F0.out⟩
    case hk =>
      intro G0_0 gd0_0 G0_1 gd0_1 gg0 w6 ⟨bb6, agg0, hHG0_0, hHG0_1, fgg0⟩
      clear HST HK join
      have B6 := bel_then B5 bb6
      have sz6 := bb6.size
      replace HW0_0 := Aside0.mk (Kd.R_below HW0_0.out bb6)
      replace HW0_1 := Aside0.mk (Kd.R_below HW0_1.out bb6)
      replace Xx0 := Aside0.mk (Kd.R_below Xx0.out bb6)
      replace Xx1 := Aside0.mk (Kd.R_below Xx1.out bb6)
      replace Fgw0 := Aside0.mk (below_blk Fgw0.out bb6)
      replace FXx := Aside0.mk (below_blk FXx.out bb6)
      have HG0_0 := Aside0.mk hHG0_0
      clear hHG0_0
      have HG0_1 := Aside0.mk hHG0_1
      clear hHG0_1
      have Fgg0 := Aside0.mk fgg0
      have ubgg0 : gg0 < w6.heap.size := blk_lt fgg0
      clear fgg0
      clear zz0_ zz1_ lFgw0 lFXx
      obtain ⟨c0_, c1_, c2_, c3_, c4_, c5_, c6_⟩ := HC.out _ B6
      have zz0_ : w.heap.size < w6.heap.size := Nat.lt_of_lt_of_le Z0 B6.size
      have zz1_ : w.heap.size + 1 < w6.heap.size := Nat.lt_of_lt_of_le Z1 B6.size
      have yFgw0_0 : w6.cell? ⟨gw0, 0, none⟩ = some (.string M0.f0.f0) := by simp [World.cell?, Fgw0.out]
      have yFgw0_1 : w6.cell? ⟨gw0, 1, none⟩ = some (.string M0.f0.f1) := by simp [World.cell?, Fgw0.out]
      have yFgw0_2 : w6.cell? ⟨gw0, 2, none⟩ = some (.slice D0_0 M0.f1.length dd0_0) := by simp [World.cell?, Fgw0.out]
      have yFgw0_3 : w6.cell? ⟨gw0, 3, none⟩ = some (.slice D0_1 M0.f2.length dd0_1) := by simp [World.cell?, Fgw0.out]
      have lFgw0 : gw0 < w6.heap.size := blk_lt Fgw0.out
      have yFXx_0 : w6.cell? ⟨w4.heap.size, 0, none⟩ = some (.int .i64 x.f0) := by simp [World.cell?, FXx.out]
      have yFXx_1 : w6.cell? ⟨w4.heap.size, 1, none⟩ = some (.string x.f1.f0) := by simp [World.cell?, FXx.out]
      have yFXx_2 : w6.cell? ⟨w4.heap.size, 2, none⟩ = some (.string x.f1.f1) := by simp [World.cell?, FXx.out]
      have yFXx_3 : w6.cell? ⟨w4.heap.size, 3, none⟩ = some (.slice Ex0 x.f2.length ex0) := by simp [World.cell?, FXx.out]
      have yFXx_4 : w6.cell? ⟨w4.heap.size, 4, none⟩ = some (.slice Ex1 x.f3.length ex1) := by simp [World.cell?, FXx.out]
      have lFXx : w4.heap.size < w6.heap.size := blk_lt FXx.out
      have yFgg0_0 : w6.cell? ⟨gg0, 0, none⟩ = some (.string M0.f0.f0) := by simp [World.cell?, Fgg0.out]
      have yFgg0_1 : w6.cell? ⟨gg0, 1, none⟩ = some (.string M0.f0.f1) := by simp [World.cell?, Fgg0.out]
      have yFgg0_2 : w6.cell? ⟨gg0, 2, none⟩ = some (.slice G0_0 M0.f1.length gd0_0) := by simp [World.cell?, Fgg0.out]
      have yFgg0_3 : w6.cell? ⟨gg0, 3, none⟩ = some (.slice G0_1 M0.f2.length gd0_1) := by simp [World.cell?, Fgg0.out]
      have lFgg0 : gg0 < w6.heap.size := blk_lt Fgg0.out
      have hcall := fun (W : World) (hW : Below w6.heap.size w6 W) => eqMail_any M0 G0_0 gd0_0 G0_1 gd0_1 D0_0 dd0_0 D0_1 dd0_1 W HVF0.out (Kd.C_below (Kd.R_reads' HG0_0.out).2.2 hW) (Kd.C_below (Kd.R_reads' HG0_1.out).2.2 hW) (Kd.C_below (Kd.R_reads' HW0_0.out).2.2 hW) (Kd.C_below (Kd.R_reads' HW0_1.out).2.2 hW)
      go_wp2_with fail
      refine (hcall _ (Below.refl _ _)).mono ?_
      rintro e w7 ⟨rfl, b7⟩
      clear hcall
      have bb7 := bel_then (Below.refl w6.heap.size w6) b7
      have B7 := bel_then B6 bb7
      have sz7 := bb7.size
      replace HW0_0 := Aside0.mk (Kd.R_below HW0_0.out bb7)
      replace HW0_1 := Aside0.mk (Kd.R_below HW0_1.out bb7)
      replace Xx0 := Aside0.mk (Kd.R_below Xx0.out bb7)
      replace Xx1 := Aside0.mk (Kd.R_below Xx1.out bb7)
      replace HG0_0 := Aside0.mk (Kd.R_below HG0_0.out bb7)
      replace HG0_1 := Aside0.mk (Kd.R_below HG0_1.out bb7)
      replace Fgw0 := Aside0.mk (below_blk Fgw0.out bb7)
      replace FXx := Aside0.mk (below_blk FXx.out bb7)
      replace Fgg0 := Aside0.mk (below_blk Fgg0.out bb7)
      clear c0_ c1_ c2_ c3_ c4_ c5_ c6_ zz0_ zz1_ yFgw0_0 yFgw0_1 yFgw0_2 yFgw0_3 lFgw0 yFXx_0 yFXx_1 yFXx_2 yFXx_3 yFXx_4 lFXx yFgg0_0 yFgg0_1 yFgg0_2 yFgg0_3 lFgg0
      obtain ⟨c0_, c1_, c2_, c3_, c4_, c5_, c6_⟩ := HC.out _ B7
      have zz0_ : w.heap.size < w7.heap.size := Nat.lt_of_lt_of_le Z0 B7.size
      have zz1_ : w.heap.size + 1 < w7.heap.size := Nat.lt_of_lt_of_le Z1 B7.size
      have yFgw0_0 : w7.cell? ⟨gw0, 0, none⟩ = some (.string M0.f0.f0) := by simp [World.cell?, Fgw0.out]
      have yFgw0_1 : w7.cell? ⟨gw0, 1, none⟩ = some (.string M0.f0.f1) := by simp [World.cell?, Fgw0.out]
      have yFgw0_2 : w7.cell? ⟨gw0, 2, none⟩ = some (.slice D0_0 M0.f1.length dd0_0) := by simp [World.cell?, Fgw0.out]
      have yFgw0_3 : w7.cell? ⟨gw0, 3, none⟩ = some (.slice D0_1 M0.f2.length dd0_1) := by simp [World.cell?, Fgw0.out]
      have lFgw0 : gw0 < w7.heap.size := blk_lt Fgw0.out
      have yFXx_0 : w7.cell? ⟨w4.heap.size, 0, none⟩ = some (.int .i64 x.f0) := by simp [World.cell?, FXx.out]
      have yFXx_1 : w7.cell? ⟨w4.heap.size, 1, none⟩ = some (.string x.f1.f0) := by simp [World.cell?, FXx.out]
      have yFXx_2 : w7.cell? ⟨w4.heap.size, 2, none⟩ = some (.string x.f1.f1) := by simp [World.cell?, FXx.out]
      have yFXx_3 : w7.cell? ⟨w4.heap.size, 3, none⟩ = some (.slice Ex0 x.f2.length ex0) := by simp [World.cell?, FXx.out]
      have yFXx_4 : w7.cell? ⟨w4.heap.size, 4, none⟩ = some (.slice Ex1 x.f3.length ex1) := by simp [World.cell?, FXx.out]
      have lFXx : w4.heap.size < w7.heap.size := blk_lt FXx.out
      have yFgg0_0 : w7.cell? ⟨gg0, 0, none⟩ = some (.string M0.f0.f0) := by simp [World.cell?, Fgg0.out]
      have yFgg0_1 : w7.cell? ⟨gg0, 1, none⟩ = some (.string M0.f0.f1) := by simp [World.cell?, Fgg0.out]
      have yFgg0_2 : w7.cell? ⟨gg0, 2, none⟩ = some (.slice G0_0 M0.f1.length gd0_0) := by simp [World.cell?, Fgg0.out]
      have yFgg0_3 : w7.cell? ⟨gg0, 3, none⟩ = some (.slice G0_1 M0.f2.length gd0_1) := by simp [World.cell?, Fgg0.out]
      have lFgg0 : gg0 < w7.heap.size := blk_lt Fgg0.out
      clear b7 bb7
      go_wp2
      have HK : Aside0 (∀ W W1, Below W.heap.size W W1 → (W.cell? ⟨w.heap.size, 0, none⟩ = some (.int .i64 x.f0) ∧ W.cell? ⟨w.heap.size, 1, none⟩ = some (.string x.f1.f0) ∧ W.cell? ⟨w.heap.size, 2, none⟩ = some (.string x.f1.f1) ∧ W.cell? ⟨w.heap.size, 3, none⟩ = some (.slice Ax0 x.f2.length cx0) ∧ W.cell? ⟨w.heap.size, 4, none⟩ = some (.slice Ax1 x.f3.length cx1) ∧ W.cell? ⟨w.heap.size + 1, 0, none⟩ = some (.string a.f0) ∧ W.cell? ⟨w.heap.size + 1, 1, none⟩ = some (.string a.f1) ∧ W.cell? ⟨w4.heap.size, 0, none⟩ = some (.int .i64 x.f0) ∧ W.cell? ⟨w4.heap.size, 1, none⟩ = some (.string x.f1.f0) ∧ W.cell? ⟨w4.heap.size, 2, none⟩ = some (.string x.f1.f1) ∧ W.cell? ⟨w4.heap.size, 3, none⟩ = some (.slice Ex0 x.f2.length ex0) ∧ W.cell? ⟨w4.heap.size, 4, none⟩ = some (.slice Ex1 x.f3.length ex1) ∧ Below w7.heap.size w7 W) → (W1.cell? ⟨w.heap.size, 0, none⟩ = some (.int .i64 x.f0) ∧ W1.cell? ⟨w.heap.size, 1, none⟩ = some (.string x.f1.f0) ∧ W1.cell? ⟨w.heap.size, 2, none⟩ = some (.string x.f1.f1) ∧ W1.cell? ⟨w.heap.size, 3, none⟩ = some (.slice Ax0 x.f2.length cx0) ∧ W1.cell? ⟨w.heap.size, 4, none⟩ = some (.slice Ax1 x.f3.length cx1) ∧ W1.cell? ⟨w.heap.size + 1, 0, none⟩ = some (.string a.f0) ∧ W1.cell? ⟨w.heap.size + 1, 1, none⟩ = some (.string a.f1) ∧ W1.cell? ⟨w4.heap.size, 0, none⟩ = some (.int .i64 x.f0) ∧ W1.cell? ⟨w4.heap.size, 1, none⟩ = some (.string x.f1.f0) ∧ W1.cell? ⟨w4.heap.size, 2, none⟩ = some (.string x.f1.f1) ∧ W1.cell? ⟨w4.heap.size, 3, none⟩ = some (.slice Ex0 x.f2.length ex0) ∧ W1.cell? ⟨w4.heap.size, 4, none⟩ = some (.slice Ex1 x.f3.length ex1) ∧ Below w7.heap.size w7 W1)) := ⟨fun W W1 hb h => ⟨(hb.cell (World.block_lt_of_cell? W _ (h.1))).trans (h.1), (hb.cell (World.block_lt_of_cell? W _ (h.2.1))).trans (h.2.1), (hb.cell (World.block_lt_of_cell? W _ (h.2.2.1))).trans (h.2.2.1), (hb.cell (World.block_lt_of_cell? W _ (h.2.2.2.1))).trans (h.2.2.2.1), (hb.cell (World.block_lt_of_cell? W _ (h.2.2.2.2.1))).trans (h.2.2.2.2.1), (hb.cell (World.block_lt_of_cell? W _ (h.2.2.2.2.2.1))).trans (h.2.2.2.2.2.1), (hb.cell (World.block_lt_of_cell? W _ (h.2.2.2.2.2.2.1))).trans (h.2.2.2.2.2.2.1), (hb.cell (World.block_lt_of_cell? W _ (h.2.2.2.2.2.2.2.1))).trans (h.2.2.2.2.2.2.2.1), (hb.cell (World.block_lt_of_cell? W _ (h.2.2.2.2.2.2.2.2.1))).trans (h.2.2.2.2.2.2.2.2.1), (hb.cell (World.block_lt_of_cell? W _ (h.2.2.2.2.2.2.2.2.2.1))).trans (h.2.2.2.2.2.2.2.2.2.1), (hb.cell (World.block_lt_of_cell? W _ (h.2.2.2.2.2.2.2.2.2.2.1))).trans (h.2.2.2.2.2.2.2.2.2.2.1), (hb.cell (World.block_lt_of_cell? W _ (h.2.2.2.2.2.2.2.2.2.2.2.1))).trans (h.2.2.2.2.2.2.2.2.2.2.2.1), bel_then (h.2.2.2.2.2.2.2.2.2.2.2.2) hb⟩⟩
      refine wp_region_held_drew (S := (fun W => W.cell? ⟨w.heap.size, 0, none⟩ = some (.int .i64 x.f0) ∧ W.cell? ⟨w.heap.size, 1, none⟩ = some (.string x.f1.f0) ∧ W.cell? ⟨w.heap.size, 2, none⟩ = some (.string x.f1.f1) ∧ W.cell? ⟨w.heap.size, 3, none⟩ = some (.slice Ax0 x.f2.length cx0) ∧ W.cell? ⟨w.heap.size, 4, none⟩ = some (.slice Ax1 x.f3.length cx1) ∧ W.cell? ⟨w.heap.size + 1, 0, none⟩ = some (.string a.f0) ∧ W.cell? ⟨w.heap.size + 1, 1, none⟩ = some (.string a.f1) ∧ W.cell? ⟨w4.heap.size, 0, none⟩ = some (.int .i64 x.f0) ∧ W.cell? ⟨w4.heap.size, 1, none⟩ = some (.string x.f1.f0) ∧ W.cell? ⟨w4.heap.size, 2, none⟩ = some (.string x.f1.f1) ∧ W.cell? ⟨w4.heap.size, 3, none⟩ = some (.slice Ex0 x.f2.length ex0) ∧ W.cell? ⟨w4.heap.size, 4, none⟩ = some (.slice Ex1 x.f3.length ex1) ∧ Below w7.heap.size w7 W)) (by kernel_rfl) ?s91 (fun hHeld => ?t91)
      case s91 => exact ⟨c0_, c1_, c2_, c3_, c4_, c5_, c6_, yFXx_0, yFXx_1, yFXx_2, yFXx_3, yFXx_4, bel_then (Below.refl _ _) (drew_below0 w7)⟩
      refine wpAnyH_take (i := 0) (oi := { dst := some 52, op := Op.load 38 (Operand.tmp 8), type := 38, pos := "exact.go:3904", after := #[], guard := none }) (v := ?v92) rfl (by kernel_rfl) (by kernel_rfl) (by kernel_rfl) (fun _ _ _ h => h) (Or.inl ⟨by rfl, ?y92⟩) (by assumption) ?r92
      case y92 => intro w_ hSw; (try dsimp only at hSw); go_simp; (try (with_reducible rfl))
      try simp only [Act.put, List.setIfInBounds_toArray, List.set_cons_zero, List.set_cons_succ]
      refine wpAnyH_take (i := 1) (oi := { dst := some 53, op := Op.load 27 (Operand.tmp 2), type := 27, pos := "exact.go:3904", after := #[], guard := none }) (v := ?v93) rfl (by kernel_rfl) (by kernel_rfl) (by kernel_rfl) (fun _ _ _ h => h) (Or.inl ⟨by rfl, ?y93⟩) (by assumption) ?r93
      case y93 => intro w_ hSw; (try dsimp only at hSw); go_simp; (try (with_reducible rfl))
      try simp only [Act.put, List.setIfInBounds_toArray, List.set_cons_zero, List.set_cons_succ]
      refine wpAnyH_ready (rs := [2]) (by kernel_rfl) (by simp) ?_
      refine AllReadyH.cons (o := { dst := some 54, op := Op.call { callee := Callee.value (Operand.func 10), args := #[Operand.tmp 53], argTypes := #[27] }, type := 38, pos := "exact.go:3904", after := #[{ on := 1, ground := Ground.data }], guard := none }) rfl (fun K hK => ?k94) AllReadyH.nil
      case' k94 => skip
      go_simp
      refine (hto_x _ (bel_then HB0.out (bel_then B7 hHeld.2.2.2.2.2.2.2.2.2.2.2.2)) f_x).mono ?_
      rintro e wa8 ⟨Qx0, qx0, Qx1, qx1, rfl, ga_x0, ga_x1, ba⟩
      have Ca_0 := (Kd.R_reads' ga_x0).2.2
      have Ca_1 := (Kd.R_reads' ga_x1).2.2
      have hBa := bel_then hHeld.2.2.2.2.2.2.2.2.2.2.2.2 ba
      refine hK.out _ _ ?h94 (fun hHeld => ?j94)
      case h94 => exact HK.out _ _ ba hHeld
      clear hK K
      try simp only [Act.put, List.setIfInBounds_toArray, List.set_cons_zero, List.set_cons_succ]
      refine wpAnyH_ready (rs := [3]) (by kernel_rfl) (by simp) ?_
      refine AllReadyH.cons (o := { dst := some 55, op := Op.call { callee := Callee.value (Operand.func 14), args := #[Operand.tmp 52, Operand.tmp 54], argTypes := #[38, 38] }, type := 4, pos := "exact.go:3904", after := #[{ on := 0, ground := Ground.data }, { on := 2, ground := Ground.data }, { on := 2, ground := Ground.chain }], guard := none }) rfl (fun K hK => ?k95) AllReadyH.nil
      case' k95 => skip
      go_simp
      refine (eqItem_any x Ex0 ex0 Ex1 ex1 Qx0 qx0 Qx1 qx1 _ f_x (Kd.C_below (Kd.R_reads' Xx0.out).2.2 hBa) (Kd.C_below (Kd.R_reads' Xx1.out).2.2 hBa) Ca_0 Ca_1).mono ?_
      rintro e w8 ⟨rfl, bb⟩
      have hBb := bel_then hBa bb
      refine hK.out _ _ ?h95 (fun hHeld => ?j95)
      case h95 => exact HK.out _ _ bb hHeld
      clear hK K
      try simp only [Act.put, List.setIfInBounds_toArray, List.set_cons_zero, List.set_cons_succ]
      refine wpAnyH_take (i := 4) (oi := { dst := some 56, op := Op.unOp UnOp.not 4 (Operand.tmp 55), type := 4, pos := "exact.go:3904", after := #[{ on := 3, ground := Ground.data }], guard := none }) (v := ?v96) rfl (by kernel_rfl) (by kernel_rfl) (by kernel_rfl) (fun _ _ _ h => h) (Or.inl ⟨by rfl, ?y96⟩) (by assumption) ?r96
      case y96 => intro w_ hSw; (try dsimp only at hSw); go_simp; (try (with_reducible rfl))
      try simp only [Act.put, List.setIfInBounds_toArray, List.set_cons_zero, List.set_cons_succ]
      refine wpAnyH_done (by kernel_rfl) ?_ _
      clear HK c0_ c1_ c2_ c3_ c4_ c5_ c6_ yFgw0_0 yFgw0_1 yFgw0_2 yFgw0_3 yFXx_0 yFXx_1 yFXx_2 yFXx_3 yFXx_4 yFgg0_0 yFgg0_1 yFgg0_2 yFgg0_3
      have bb8 := hHeld.2.2.2.2.2.2.2.2.2.2.2.2
      have B8 := bel_then B7 bb8
      have sz8 := bb8.size
      clear hHeld
      replace HW0_0 := Aside0.mk (Kd.R_below HW0_0.out bb8)
      replace HW0_1 := Aside0.mk (Kd.R_below HW0_1.out bb8)
      replace Xx0 := Aside0.mk (Kd.R_below Xx0.out bb8)
      replace Xx1 := Aside0.mk (Kd.R_below Xx1.out bb8)
      replace HG0_0 := Aside0.mk (Kd.R_below HG0_0.out bb8)
      replace HG0_1 := Aside0.mk (Kd.R_below HG0_1.out bb8)
      replace Fgw0 := Aside0.mk (below_blk Fgw0.out bb8)
      replace FXx := Aside0.mk (below_blk FXx.out bb8)
      replace Fgg0 := Aside0.mk (below_blk Fgg0.out bb8)
      clear zz0_ zz1_ lFgw0 lFXx lFgg0
      obtain ⟨c0_, c1_, c2_, c3_, c4_, c5_, c6_⟩ := HC.out _ B8
      have zz0_ : w.heap.size < w8.heap.size := Nat.lt_of_lt_of_le Z0 B8.size
      have zz1_ : w.heap.size + 1 < w8.heap.size := Nat.lt_of_lt_of_le Z1 B8.size
      have yFgw0_0 : w8.cell? ⟨gw0, 0, none⟩ = some (.string M0.f0.f0) := by simp [World.cell?, Fgw0.out]
      have yFgw0_1 : w8.cell? ⟨gw0, 1, none⟩ = some (.string M0.f0.f1) := by simp [World.cell?, Fgw0.out]
      have yFgw0_2 : w8.cell? ⟨gw0, 2, none⟩ = some (.slice D0_0 M0.f1.length dd0_0) := by simp [World.cell?, Fgw0.out]
      have yFgw0_3 : w8.cell? ⟨gw0, 3, none⟩ = some (.slice D0_1 M0.f2.length dd0_1) := by simp [World.cell?, Fgw0.out]
      have lFgw0 : gw0 < w8.heap.size := blk_lt Fgw0.out
      have yFXx_0 : w8.cell? ⟨w4.heap.size, 0, none⟩ = some (.int .i64 x.f0) := by simp [World.cell?, FXx.out]
      have yFXx_1 : w8.cell? ⟨w4.heap.size, 1, none⟩ = some (.string x.f1.f0) := by simp [World.cell?, FXx.out]
      have yFXx_2 : w8.cell? ⟨w4.heap.size, 2, none⟩ = some (.string x.f1.f1) := by simp [World.cell?, FXx.out]
      have yFXx_3 : w8.cell? ⟨w4.heap.size, 3, none⟩ = some (.slice Ex0 x.f2.length ex0) := by simp [World.cell?, FXx.out]
      have yFXx_4 : w8.cell? ⟨w4.heap.size, 4, none⟩ = some (.slice Ex1 x.f3.length ex1) := by simp [World.cell?, FXx.out]
      have lFXx : w4.heap.size < w8.heap.size := blk_lt FXx.out
      have yFgg0_0 : w8.cell? ⟨gg0, 0, none⟩ = some (.string M0.f0.f0) := by simp [World.cell?, Fgg0.out]
      have yFgg0_1 : w8.cell? ⟨gg0, 1, none⟩ = some (.string M0.f0.f1) := by simp [World.cell?, Fgg0.out]
      have yFgg0_2 : w8.cell? ⟨gg0, 2, none⟩ = some (.slice G0_0 M0.f1.length gd0_0) := by simp [World.cell?, Fgg0.out]
      have yFgg0_3 : w8.cell? ⟨gg0, 3, none⟩ = some (.slice G0_1 M0.f2.length gd0_1) := by simp [World.cell?, Fgg0.out]
      have lFgg0 : gg0 < w8.heap.size := blk_lt Fgg0.out
      clear bb8
      go_wp2_with fail
      refine (calls_at (a := 1) rfl (markItem_any x Ex0 ex0 Ex1 ex1 1 _ _ _ f_x Xx0.out Xx1.out (by omega))).mono ?_
      rintro e w9 ⟨he, le_, _, _, t_⟩
      have hl_0 : x.f2.length ≤ 1048576 := (by have h := f_x; unfold fitItem at h; omega)
      have hl_1 : x.f3.length ≤ 1048576 := (by have h := f_x; unfold fitItem at h; omega)
      obtain ⟨k9, hk9, rfl⟩ : ∃ r : Nat, r ≤ 1099511627776 ∧ e = .returned (.int .i64 (r : Int)) := ⟨_, by omega, he⟩
      have nk9 : ¬ (k9 : Int) < 0 := by omega
      have B9 := bel_tch B8 t_ B8.size (fun q hq => by have h1 := hq.1; omega)
      have sz9 := t_.size
      replace HW0_0 := Aside0.mk (R_tch HW0_0.out t_ (fun q hq h => by have h1 := hq.1; have h2 := hq.2; have h3 := h.1; have h4 := h.2; omega))
      replace HW0_1 := Aside0.mk (R_tch HW0_1.out t_ (fun q hq h => by have h1 := hq.1; have h2 := hq.2; have h3 := h.1; have h4 := h.2; omega))
      replace HG0_0 := Aside0.mk (R_tch HG0_0.out t_ (fun q hq h => by have h1 := hq.1; have h2 := hq.2; have h3 := h.1; have h4 := h.2; omega))
      replace HG0_1 := Aside0.mk (R_tch HG0_1.out t_ (fun q hq h => by have h1 := hq.1; have h2 := hq.2; have h3 := h.1; have h4 := h.2; omega))
      replace Fgw0 := Aside0.mk ((t_.block _ (blk_lt Fgw0.out) (fun h => by have h3 := h.1; have h4 := h.2; omega)).trans Fgw0.out)
      replace FXx := Aside0.mk ((t_.block _ (blk_lt FXx.out) (fun h => by have h3 := h.1; have h4 := h.2; omega)).trans FXx.out)
      replace Fgg0 := Aside0.mk ((t_.block _ (blk_lt Fgg0.out) (fun h => by have h3 := h.1; have h4 := h.2; omega)).trans Fgg0.out)
      clear c0_ c1_ c2_ c3_ c4_ c5_ c6_ zz0_ zz1_ yFgw0_0 yFgw0_1 yFgw0_2 yFgw0_3 lFgw0 yFXx_0 yFXx_1 yFXx_2 yFXx_3 yFXx_4 lFXx yFgg0_0 yFgg0_1 yFgg0_2 yFgg0_3 lFgg0
      obtain ⟨c0_, c1_, c2_, c3_, c4_, c5_, c6_⟩ := HC.out _ B9
      have zz0_ : w.heap.size < w9.heap.size := Nat.lt_of_lt_of_le Z0 B9.size
      have zz1_ : w.heap.size + 1 < w9.heap.size := Nat.lt_of_lt_of_le Z1 B9.size
      have yFgw0_0 : w9.cell? ⟨gw0, 0, none⟩ = some (.string M0.f0.f0) := by simp [World.cell?, Fgw0.out]
      have yFgw0_1 : w9.cell? ⟨gw0, 1, none⟩ = some (.string M0.f0.f1) := by simp [World.cell?, Fgw0.out]
      have yFgw0_2 : w9.cell? ⟨gw0, 2, none⟩ = some (.slice D0_0 M0.f1.length dd0_0) := by simp [World.cell?, Fgw0.out]
      have yFgw0_3 : w9.cell? ⟨gw0, 3, none⟩ = some (.slice D0_1 M0.f2.length dd0_1) := by simp [World.cell?, Fgw0.out]
      have lFgw0 : gw0 < w9.heap.size := blk_lt Fgw0.out
      have yFXx_0 : w9.cell? ⟨w4.heap.size, 0, none⟩ = some (.int .i64 x.f0) := by simp [World.cell?, FXx.out]
      have yFXx_1 : w9.cell? ⟨w4.heap.size, 1, none⟩ = some (.string x.f1.f0) := by simp [World.cell?, FXx.out]
      have yFXx_2 : w9.cell? ⟨w4.heap.size, 2, none⟩ = some (.string x.f1.f1) := by simp [World.cell?, FXx.out]
      have yFXx_3 : w9.cell? ⟨w4.heap.size, 3, none⟩ = some (.slice Ex0 x.f2.length ex0) := by simp [World.cell?, FXx.out]
      have yFXx_4 : w9.cell? ⟨w4.heap.size, 4, none⟩ = some (.slice Ex1 x.f3.length ex1) := by simp [World.cell?, FXx.out]
      have lFXx : w4.heap.size < w9.heap.size := blk_lt FXx.out
      have yFgg0_0 : w9.cell? ⟨gg0, 0, none⟩ = some (.string M0.f0.f0) := by simp [World.cell?, Fgg0.out]
      have yFgg0_1 : w9.cell? ⟨gg0, 1, none⟩ = some (.string M0.f0.f1) := by simp [World.cell?, Fgg0.out]
      have yFgg0_2 : w9.cell? ⟨gg0, 2, none⟩ = some (.slice G0_0 M0.f1.length gd0_0) := by simp [World.cell?, Fgg0.out]
      have yFgg0_3 : w9.cell? ⟨gg0, 3, none⟩ = some (.slice G0_1 M0.f2.length gd0_1) := by simp [World.cell?, Fgg0.out]
      have lFgg0 : gg0 < w9.heap.size := blk_lt Fgg0.out
      clear he t_ le_ hl_0 hl_1
      clear Xx0 Xx1 FXx
      have hcall := fun (W : World) (hW : Below w9.heap.size w9 W) => eqMail_any M0 G0_0 gd0_0 G0_1 gd0_1 D0_0 dd0_0 D0_1 dd0_1 W HVF0.out (Kd.C_below (Kd.R_reads' HG0_0.out).2.2 hW) (Kd.C_below (Kd.R_reads' HG0_1.out).2.2 hW) (Kd.C_below (Kd.R_reads' HW0_0.out).2.2 hW) (Kd.C_below (Kd.R_reads' HW0_1.out).2.2 hW)
      go_wp2_with fail
      refine (hcall _ (Below.refl _ _)).mono ?_
      rintro e w10 ⟨rfl, b10⟩
      clear hcall
      have bb10 := bel_then (Below.refl w9.heap.size w9) b10
      have B10 := bel_then B9 bb10
      have sz10 := bb10.size
      replace HW0_0 := Aside0.mk (Kd.R_below HW0_0.out bb10)
      replace HW0_1 := Aside0.mk (Kd.R_below HW0_1.out bb10)
      replace HG0_0 := Aside0.mk (Kd.R_below HG0_0.out bb10)
      replace HG0_1 := Aside0.mk (Kd.R_below HG0_1.out bb10)
      replace Fgw0 := Aside0.mk (below_blk Fgw0.out bb10)
      replace Fgg0 := Aside0.mk (below_blk Fgg0.out bb10)
      clear c0_ c1_ c2_ c3_ c4_ c5_ c6_ zz0_ zz1_ yFgw0_0 yFgw0_1 yFgw0_2 yFgw0_3 lFgw0 yFXx_0 yFXx_1 yFXx_2 yFXx_3 yFXx_4 lFXx yFgg0_0 yFgg0_1 yFgg0_2 yFgg0_3 lFgg0
      obtain ⟨c0_, c1_, c2_, c3_, c4_, c5_, c6_⟩ := HC.out _ B10
      have zz0_ : w.heap.size < w10.heap.size := Nat.lt_of_lt_of_le Z0 B10.size
      have zz1_ : w.heap.size + 1 < w10.heap.size := Nat.lt_of_lt_of_le Z1 B10.size
      have yFgw0_0 : w10.cell? ⟨gw0, 0, none⟩ = some (.string M0.f0.f0) := by simp [World.cell?, Fgw0.out]
      have yFgw0_1 : w10.cell? ⟨gw0, 1, none⟩ = some (.string M0.f0.f1) := by simp [World.cell?, Fgw0.out]
      have yFgw0_2 : w10.cell? ⟨gw0, 2, none⟩ = some (.slice D0_0 M0.f1.length dd0_0) := by simp [World.cell?, Fgw0.out]
      have yFgw0_3 : w10.cell? ⟨gw0, 3, none⟩ = some (.slice D0_1 M0.f2.length dd0_1) := by simp [World.cell?, Fgw0.out]
      have lFgw0 : gw0 < w10.heap.size := blk_lt Fgw0.out
      have yFgg0_0 : w10.cell? ⟨gg0, 0, none⟩ = some (.string M0.f0.f0) := by simp [World.cell?, Fgg0.out]
      have yFgg0_1 : w10.cell? ⟨gg0, 1, none⟩ = some (.string M0.f0.f1) := by simp [World.cell?, Fgg0.out]
      have yFgg0_2 : w10.cell? ⟨gg0, 2, none⟩ = some (.slice G0_0 M0.f1.length gd0_0) := by simp [World.cell?, Fgg0.out]
      have yFgg0_3 : w10.cell? ⟨gg0, 3, none⟩ = some (.slice G0_1 M0.f2.length gd0_1) := by simp [World.cell?, Fgg0.out]
      have lFgg0 : gg0 < w10.heap.size := blk_lt Fgg0.out
      clear b10 bb10
      have hl0_0 : M0.f1.length ≤ 1048576 := (by have h := HVF0.out; unfold fitMail at h; omega)
      have hl0_1 : M0.f2.length ≤ 1048576 := (by have h := HVF0.out; unfold fitMail at h; omega)
      go_wp2_with fail
      refine (calls_at (a := 1) rfl (markMail_any M0 G0_0 gd0_0 G0_1 gd0_1 1 _ _ _ HVF0.out HG0_0.out HG0_1.out (by omega))).mono ?_
      rintro e w11 ⟨he, le_, m_0, m_1, t_⟩
      obtain ⟨m11, hm11, rfl⟩ : ∃ r : Nat, r = 1 + 2 * M0.f1.length + 1 * M0.f2.length ∧ e = .returned (.int .i64 (r : Int)) := ⟨_, rfl, he⟩
      have hb11 : m11 ≤ 1099511627776 := by omega
      have nk11 : ¬ (m11 : Int) < 0 := by omega
      have RV0 := Lib.hid hm11
      clear hm11
      have B11 := bel_tch B10 t_ B10.size (fun q hq => by have h1 := hq.1; omega)
      have sz11 := t_.size
      replace HW0_0 := Aside0.mk (R_tch HW0_0.out t_ (fun q hq h => by have h1 := hq.1; have h2 := hq.2; have h3 := h.1; have h4 := h.2; omega))
      replace HW0_1 := Aside0.mk (R_tch HW0_1.out t_ (fun q hq h => by have h1 := hq.1; have h2 := hq.2; have h3 := h.1; have h4 := h.2; omega))
      replace Fgw0 := Aside0.mk ((t_.block _ (blk_lt Fgw0.out) (fun h => by have h3 := h.1; have h4 := h.2; omega)).trans Fgw0.out)
      replace Fgg0 := Aside0.mk ((t_.block _ (blk_lt Fgg0.out) (fun h => by have h3 := h.1; have h4 := h.2; omega)).trans Fgg0.out)
      clear c0_ c1_ c2_ c3_ c4_ c5_ c6_ zz0_ zz1_ yFgw0_0 yFgw0_1 yFgw0_2 yFgw0_3 lFgw0 yFgg0_0 yFgg0_1 yFgg0_2 yFgg0_3 lFgg0
      obtain ⟨c0_, c1_, c2_, c3_, c4_, c5_, c6_⟩ := HC.out _ B11
      have zz0_ : w.heap.size < w11.heap.size := Nat.lt_of_lt_of_le Z0 B11.size
      have zz1_ : w.heap.size + 1 < w11.heap.size := Nat.lt_of_lt_of_le Z1 B11.size
      have yFgw0_0 : w11.cell? ⟨gw0, 0, none⟩ = some (.string M0.f0.f0) := by simp [World.cell?, Fgw0.out]
      have yFgw0_1 : w11.cell? ⟨gw0, 1, none⟩ = some (.string M0.f0.f1) := by simp [World.cell?, Fgw0.out]
      have yFgw0_2 : w11.cell? ⟨gw0, 2, none⟩ = some (.slice D0_0 M0.f1.length dd0_0) := by simp [World.cell?, Fgw0.out]
      have yFgw0_3 : w11.cell? ⟨gw0, 3, none⟩ = some (.slice D0_1 M0.f2.length dd0_1) := by simp [World.cell?, Fgw0.out]
      have lFgw0 : gw0 < w11.heap.size := blk_lt Fgw0.out
      have yFgg0_0 : w11.cell? ⟨gg0, 0, none⟩ = some (.string M0.f0.f0) := by simp [World.cell?, Fgg0.out]
      have yFgg0_1 : w11.cell? ⟨gg0, 1, none⟩ = some (.string M0.f0.f1) := by simp [World.cell?, Fgg0.out]
      have yFgg0_2 : w11.cell? ⟨gg0, 2, none⟩ = some (.slice G0_0 M0.f1.length gd0_0) := by simp [World.cell?, Fgg0.out]
      have yFgg0_3 : w11.cell? ⟨gg0, 3, none⟩ = some (.slice G0_1 M0.f2.length gd0_1) := by simp [World.cell?, Fgg0.out]
      have lFgg0 : gg0 < w11.heap.size := blk_lt Fgg0.out
      replace HG0_0 := Aside0.mk m_0
      replace HG0_1 := Aside0.mk m_1
      clear he t_ m_0 m_1 le_
      have hC0 := (Kd.R_reads' HG0_0.out).2.2
      rw [mksAddr_length] at hC0
      have hC1 := (Kd.R_reads' HG0_1.out).2.2
      rw [mksString_length] at hC1
      have hcall := fun (W : World) (hW : Below w11.heap.size w11 W) => calls_at (a := 1) rfl (heldMail_any M0 G0_0 gd0_0 G0_1 gd0_1 1 W hl0_0 hl0_1 (Kd.C_below hC0 hW) (Kd.C_below hC1 hW) (by omega))
      go_wp2_with fail
      refine (hcall _ (Below.refl _ _)).mono ?_
      rintro e w12 ⟨he, b12⟩
      clear hcall
      obtain rfl : e = .returned (.int .i64 (m11 : Int)) := by rw [he, RV0.out]
      have bb12 := bel_then (Below.refl w11.heap.size w11) b12
      have B12 := bel_then B11 bb12
      have sz12 := bb12.size
      replace HW0_0 := Aside0.mk (Kd.R_below HW0_0.out bb12)
      replace HW0_1 := Aside0.mk (Kd.R_below HW0_1.out bb12)
      replace HG0_0 := Aside0.mk (Kd.R_below HG0_0.out bb12)
      replace HG0_1 := Aside0.mk (Kd.R_below HG0_1.out bb12)
      replace Fgw0 := Aside0.mk (below_blk Fgw0.out bb12)
      replace Fgg0 := Aside0.mk (below_blk Fgg0.out bb12)
      clear c0_ c1_ c2_ c3_ c4_ c5_ c6_ zz0_ zz1_ yFgw0_0 yFgw0_1 yFgw0_2 yFgw0_3 lFgw0 yFgg0_0 yFgg0_1 yFgg0_2 yFgg0_3 lFgg0
      obtain ⟨c0_, c1_, c2_, c3_, c4_, c5_, c6_⟩ := HC.out _ B12
      have zz0_ : w.heap.size < w12.heap.size := Nat.lt_of_lt_of_le Z0 B12.size
      have zz1_ : w.heap.size + 1 < w12.heap.size := Nat.lt_of_lt_of_le Z1 B12.size
      have yFgw0_0 : w12.cell? ⟨gw0, 0, none⟩ = some (.string M0.f0.f0) := by simp [World.cell?, Fgw0.out]
      have yFgw0_1 : w12.cell? ⟨gw0, 1, none⟩ = some (.string M0.f0.f1) := by simp [World.cell?, Fgw0.out]
      have yFgw0_2 : w12.cell? ⟨gw0, 2, none⟩ = some (.slice D0_0 M0.f1.length dd0_0) := by simp [World.cell?, Fgw0.out]
      have yFgw0_3 : w12.cell? ⟨gw0, 3, none⟩ = some (.slice D0_1 M0.f2.length dd0_1) := by simp [World.cell?, Fgw0.out]
      have lFgw0 : gw0 < w12.heap.size := blk_lt Fgw0.out
      have yFgg0_0 : w12.cell? ⟨gg0, 0, none⟩ = some (.string M0.f0.f0) := by simp [World.cell?, Fgg0.out]
      have yFgg0_1 : w12.cell? ⟨gg0, 1, none⟩ = some (.string M0.f0.f1) := by simp [World.cell?, Fgg0.out]
      have yFgg0_2 : w12.cell? ⟨gg0, 2, none⟩ = some (.slice G0_0 M0.f1.length gd0_0) := by simp [World.cell?, Fgg0.out]
      have yFgg0_3 : w12.cell? ⟨gg0, 3, none⟩ = some (.slice G0_1 M0.f2.length gd0_1) := by simp [World.cell?, Fgg0.out]
      have lFgg0 : gg0 < w12.heap.size := blk_lt Fgg0.out
      clear he b12 bb12 hC0 hC1
      go_wp2
      have HK : Aside0 (∀ W W1, Below W.heap.size W W1 → (W.cell? ⟨w.heap.size, 0, none⟩ = some (.int .i64 x.f0) ∧ W.cell? ⟨w.heap.size, 1, none⟩ = some (.string x.f1.f0) ∧ W.cell? ⟨w.heap.size, 2, none⟩ = some (.string x.f1.f1) ∧ W.cell? ⟨w.heap.size, 3, none⟩ = some (.slice Ax0 x.f2.length cx0) ∧ W.cell? ⟨w.heap.size, 4, none⟩ = some (.slice Ax1 x.f3.length cx1) ∧ W.cell? ⟨w.heap.size + 1, 0, none⟩ = some (.string a.f0) ∧ W.cell? ⟨w.heap.size + 1, 1, none⟩ = some (.string a.f1) ∧ W.cell? ⟨gw0, 0, none⟩ = some (.string M0.f0.f0) ∧ W.cell? ⟨gw0, 1, none⟩ = some (.string M0.f0.f1) ∧ W.cell? ⟨gw0, 2, none⟩ = some (.slice D0_0 M0.f1.length dd0_0) ∧ W.cell? ⟨gw0, 3, none⟩ = some (.slice D0_1 M0.f2.length dd0_1) ∧ W.cell? ⟨gg0, 0, none⟩ = some (.string M0.f0.f0) ∧ W.cell? ⟨gg0, 1, none⟩ = some (.string M0.f0.f1) ∧ W.cell? ⟨gg0, 2, none⟩ = some (.slice G0_0 M0.f1.length gd0_0) ∧ W.cell? ⟨gg0, 3, none⟩ = some (.slice G0_1 M0.f2.length gd0_1) ∧ Below w12.heap.size w12 W) → (W1.cell? ⟨w.heap.size, 0, none⟩ = some (.int .i64 x.f0) ∧ W1.cell? ⟨w.heap.size, 1, none⟩ = some (.string x.f1.f0) ∧ W1.cell? ⟨w.heap.size, 2, none⟩ = some (.string x.f1.f1) ∧ W1.cell? ⟨w.heap.size, 3, none⟩ = some (.slice Ax0 x.f2.length cx0) ∧ W1.cell? ⟨w.heap.size, 4, none⟩ = some (.slice Ax1 x.f3.length cx1) ∧ W1.cell? ⟨w.heap.size + 1, 0, none⟩ = some (.string a.f0) ∧ W1.cell? ⟨w.heap.size + 1, 1, none⟩ = some (.string a.f1) ∧ W1.cell? ⟨gw0, 0, none⟩ = some (.string M0.f0.f0) ∧ W1.cell? ⟨gw0, 1, none⟩ = some (.string M0.f0.f1) ∧ W1.cell? ⟨gw0, 2, none⟩ = some (.slice D0_0 M0.f1.length dd0_0) ∧ W1.cell? ⟨gw0, 3, none⟩ = some (.slice D0_1 M0.f2.length dd0_1) ∧ W1.cell? ⟨gg0, 0, none⟩ = some (.string M0.f0.f0) ∧ W1.cell? ⟨gg0, 1, none⟩ = some (.string M0.f0.f1) ∧ W1.cell? ⟨gg0, 2, none⟩ = some (.slice G0_0 M0.f1.length gd0_0) ∧ W1.cell? ⟨gg0, 3, none⟩ = some (.slice G0_1 M0.f2.length gd0_1) ∧ Below w12.heap.size w12 W1)) := ⟨fun W W1 hb h => ⟨(hb.cell (World.block_lt_of_cell? W _ (h.1))).trans (h.1), (hb.cell (World.block_lt_of_cell? W _ (h.2.1))).trans (h.2.1), (hb.cell (World.block_lt_of_cell? W _ (h.2.2.1))).trans (h.2.2.1), (hb.cell (World.block_lt_of_cell? W _ (h.2.2.2.1))).trans (h.2.2.2.1), (hb.cell (World.block_lt_of_cell? W _ (h.2.2.2.2.1))).trans (h.2.2.2.2.1), (hb.cell (World.block_lt_of_cell? W _ (h.2.2.2.2.2.1))).trans (h.2.2.2.2.2.1), (hb.cell (World.block_lt_of_cell? W _ (h.2.2.2.2.2.2.1))).trans (h.2.2.2.2.2.2.1), (hb.cell (World.block_lt_of_cell? W _ (h.2.2.2.2.2.2.2.1))).trans (h.2.2.2.2.2.2.2.1), (hb.cell (World.block_lt_of_cell? W _ (h.2.2.2.2.2.2.2.2.1))).trans (h.2.2.2.2.2.2.2.2.1), (hb.cell (World.block_lt_of_cell? W _ (h.2.2.2.2.2.2.2.2.2.1))).trans (h.2.2.2.2.2.2.2.2.2.1), (hb.cell (World.block_lt_of_cell? W _ (h.2.2.2.2.2.2.2.2.2.2.1))).trans (h.2.2.2.2.2.2.2.2.2.2.1), (hb.cell (World.block_lt_of_cell? W _ (h.2.2.2.2.2.2.2.2.2.2.2.1))).trans (h.2.2.2.2.2.2.2.2.2.2.2.1), (hb.cell (World.block_lt_of_cell? W _ (h.2.2.2.2.2.2.2.2.2.2.2.2.1))).trans (h.2.2.2.2.2.2.2.2.2.2.2.2.1), (hb.cell (World.block_lt_of_cell? W _ (h.2.2.2.2.2.2.2.2.2.2.2.2.2.1))).trans (h.2.2.2.2.2.2.2.2.2.2.2.2.2.1), (hb.cell (World.block_lt_of_cell? W _ (h.2.2.2.2.2.2.2.2.2.2.2.2.2.2.1))).trans (h.2.2.2.2.2.2.2.2.2.2.2.2.2.2.1), bel_then (h.2.2.2.2.2.2.2.2.2.2.2.2.2.2.2) hb⟩⟩
      have join : Hid (∀ {goal : Prop} {G : Option Addr → Nat → Option Addr → Nat → Option Addr → Nat → Option Addr → Nat → Nat → World → Prop} (rg : Hid (∀ (H0_0 : Option Addr) (hd0_0 : Nat) (H0_1 : Option Addr) (hd0_1 : Nat) (Qx0 : Option Addr) (qx0 : Nat) (Qx1 : Option Addr) (qx1 : Nat) (g0 : Nat) (V : World), Below w12.heap.size w12 V ∧ w12.heap.size ≤ g0 ∧ Kd.R kAddr 30 V w12.heap.size (fun q => w12.heap.size ≤ q ∧ q < V.heap.size ∧ q ≠ g0) (.slice H0_0 M0.f1.length hd0_0) M0.f1 ∧ Kd.R Kd.string 9 V w12.heap.size (fun q => w12.heap.size ≤ q ∧ q < V.heap.size ∧ q ≠ g0) (.slice H0_1 M0.f2.length hd0_1) M0.f2 ∧ V.heap[g0]? = some (.cells #[.string M0.f0.f0, .string M0.f0.f1, .slice H0_0 M0.f1.length hd0_0, .slice H0_1 M0.f2.length hd0_1] 33 (0, 0)) → G H0_0 hd0_0 H0_1 hd0_1 Qx0 qx0 Qx1 qx1 g0 V) → goal) (hk : ∀ (H0_0 : Option Addr) (hd0_0 : Nat) (H0_1 : Option Addr) (hd0_1 : Nat) (Qx0 : Option Addr) (qx0 : Nat) (Qx1 : Option Addr) (qx1 : Nat) (g0 : Nat) (V : World), Below w12.heap.size w12 V ∧ w12.heap.size ≤ g0 ∧ Kd.R kAddr 30 V w12.heap.size (fun q => w12.heap.size ≤ q ∧ q < V.heap.size ∧ q ≠ g0) (.slice H0_0 M0.f1.length hd0_0) M0.f1 ∧ Kd.R Kd.string 9 V w12.heap.size (fun q => w12.heap.size ≤ q ∧ q < V.heap.size ∧ q ≠ g0) (.slice H0_1 M0.f2.length hd0_1) M0.f2 ∧ V.heap[g0]? = some (.cells #[.string M0.f0.f0, .string M0.f0.f1, .slice H0_0 M0.f1.length hd0_0, .slice H0_1 M0.f2.length hd0_1] 33 (0, 0)) → G H0_0 hd0_0 H0_1 hd0_1 Qx0 qx0 Qx1 qx1 g0 V), goal) := Lib.hid (fun f h => f (Lib.hid h))
      have HST : Aside0 ((fun W => W.cell? ⟨w.heap.size, 0, none⟩ = some (.int .i64 x.f0) ∧ W.cell? ⟨w.heap.size, 1, none⟩ = some (.string x.f1.f0) ∧ W.cell? ⟨w.heap.size, 2, none⟩ = some (.string x.f1.f1) ∧ W.cell? ⟨w.heap.size, 3, none⟩ = some (.slice Ax0 x.f2.length cx0) ∧ W.cell? ⟨w.heap.size, 4, none⟩ = some (.slice Ax1 x.f3.length cx1) ∧ W.cell? ⟨w.heap.size + 1, 0, none⟩ = some (.string a.f0) ∧ W.cell? ⟨w.heap.size + 1, 1, none⟩ = some (.string a.f1) ∧ W.cell? ⟨gw0, 0, none⟩ = some (.string M0.f0.f0) ∧ W.cell? ⟨gw0, 1, none⟩ = some (.string M0.f0.f1) ∧ W.cell? ⟨gw0, 2, none⟩ = some (.slice D0_0 M0.f1.length dd0_0) ∧ W.cell? ⟨gw0, 3, none⟩ = some (.slice D0_1 M0.f2.length dd0_1) ∧ W.cell? ⟨gg0, 0, none⟩ = some (.string M0.f0.f0) ∧ W.cell? ⟨gg0, 1, none⟩ = some (.string M0.f0.f1) ∧ W.cell? ⟨gg0, 2, none⟩ = some (.slice G0_0 M0.f1.length gd0_0) ∧ W.cell? ⟨gg0, 3, none⟩ = some (.slice G0_1 M0.f2.length gd0_1) ∧ Below w12.heap.size w12 W) (w12).drew) := ⟨⟨c0_, c1_, c2_, c3_, c4_, c5_, c6_, yFgw0_0, yFgw0_1, yFgw0_2, yFgw0_3, yFgg0_0, yFgg0_1, yFgg0_2, yFgg0_3, bel_then (Below.refl w12.heap.size w12) (drew_below0 _)⟩⟩
      clear c0_ c1_ c2_ c3_ c4_ c5_ c6_ yFgw0_0 yFgw0_1 yFgw0_2 yFgw0_3 yFgg0_0 yFgg0_1 yFgg0_2 yFgg0_3
      apply join.out
      case rg =>
        intro HKK
        refine wp_region_held_drew (S := (fun W => W.cell? ⟨w.heap.size, 0, none⟩ = some (.int .i64 x.f0) ∧ W.cell? ⟨w.heap.size, 1, none⟩ = some (.string x.f1.f0) ∧ W.cell? ⟨w.heap.size, 2, none⟩ = some (.string x.f1.f1) ∧ W.cell? ⟨w.heap.size, 3, none⟩ = some (.slice Ax0 x.f2.length cx0) ∧ W.cell? ⟨w.heap.size, 4, none⟩ = some (.slice Ax1 x.f3.length cx1) ∧ W.cell? ⟨w.heap.size + 1, 0, none⟩ = some (.string a.f0) ∧ W.cell? ⟨w.heap.size + 1, 1, none⟩ = some (.string a.f1) ∧ W.cell? ⟨gw0, 0, none⟩ = some (.string M0.f0.f0) ∧ W.cell? ⟨gw0, 1, none⟩ = some (.string M0.f0.f1) ∧ W.cell? ⟨gw0, 2, none⟩ = some (.slice D0_0 M0.f1.length dd0_0) ∧ W.cell? ⟨gw0, 3, none⟩ = some (.slice D0_1 M0.f2.length dd0_1) ∧ W.cell? ⟨gg0, 0, none⟩ = some (.string M0.f0.f0) ∧ W.cell? ⟨gg0, 1, none⟩ = some (.string M0.f0.f1) ∧ W.cell? ⟨gg0, 2, none⟩ = some (.slice G0_0 M0.f1.length gd0_0) ∧ W.cell? ⟨gg0, 3, none⟩ = some (.slice G0_1 M0.f2.length gd0_1) ∧ Below w12.heap.size w12 W)) (by kernel_rfl) ?s97 (fun hHeld => ?t97)
        case s97 => exact HST.out
        generalize World.drew _ = V0 at hHeld ⊢
        have s0_ : w12.heap.size ≤ V0.heap.size := hHeld.2.2.2.2.2.2.2.2.2.2.2.2.2.2.2.size
        refine wpAnyH_take (i := 0) (oi := { dst := some 85, op := Op.load 27 (Operand.tmp 2), type := 27, pos := "exact.go:3922", after := #[], guard := none }) (v := ?v98) rfl (by kernel_rfl) (by kernel_rfl) (by kernel_rfl) (fun _ _ _ h => h) (Or.inl ⟨by rfl, ?y98⟩) (by assumption) ?r98
        case y98 => intro w_ hSw; (try dsimp only at hSw); go_simp; (try (with_reducible rfl))
        try simp only [Act.put, List.setIfInBounds_toArray, List.set_cons_zero, List.set_cons_succ]
        refine wpAnyH_take (i := 2) (oi := { dst := some 87, op := Op.load 23 (Operand.tmp 3), type := 23, pos := "exact.go:3922", after := #[], guard := none }) (v := ?v99) rfl (by kernel_rfl) (by kernel_rfl) (by kernel_rfl) (fun _ _ _ h => h) (Or.inl ⟨by rfl, ?y99⟩) (by assumption) ?r99
        case y99 => intro w_ hSw; (try dsimp only at hSw); go_simp; (try (with_reducible rfl))
        try simp only [Act.put, List.setIfInBounds_toArray, List.set_cons_zero, List.set_cons_succ]
        refine wpAnyH_ready (rs := [1, 8]) (by kernel_rfl) (by simp) ?_
        refine AllReadyH.cons (o := { dst := some 86, op := Op.call { callee := Callee.value (Operand.func 10), args := #[Operand.tmp 85], argTypes := #[27] }, type := 38, pos := "exact.go:3922", after := #[{ on := 0, ground := Ground.data }], guard := none }) rfl (fun K hK => ?k100) (AllReadyH.cons (o := { dst := some 14, op := Op.alloc 33, type := 0, pos := "exact.go:3922", after := #[], guard := none }) rfl (fun K hK => ?k101) AllReadyH.nil)
        case k100 =>
          go_simp
          refine (hto_x _ (bel_then HB0.out (bel_then B12 hHeld.2.2.2.2.2.2.2.2.2.2.2.2.2.2.2)) f_x).mono ?_
          rintro e V1 ⟨Qx0, qx0, Qx1, qx1, rfl, gq_x0, gq_x1, b1⟩
          refine hK.out _ _ ?h102 (fun hHeld => ?j102)
          case h102 => exact HK.out _ _ b1 hHeld
          clear hK K
          try simp only [Act.put, List.setIfInBounds_toArray, List.set_cons_zero, List.set_cons_succ]
          have Tx0 := Aside0.mk gq_x0
          have Tx1 := Aside0.mk gq_x1
          clear gq_x0
          clear gq_x1
          have s1_ := b1.size
          refine wpAnyH_ready (rs := [3, 8]) (by kernel_rfl) (by simp) ?_
          refine AllReadyH.cons (o := { dst := some 88, op := Op.call { callee := Callee.value (Operand.func 11), args := #[Operand.tmp 87], argTypes := #[23] }, type := 30, pos := "exact.go:3922", after := #[{ on := 2, ground := Ground.data }, { on := 1, ground := Ground.chain }], guard := none }) rfl (fun K hK => ?k103) (AllReadyH.cons (o := { dst := some 14, op := Op.alloc 33, type := 0, pos := "exact.go:3922", after := #[], guard := none }) rfl (fun K hK => ?k104) AllReadyH.nil)
          case k103 =>
            go_simp
            refine (hto_a _ (bel_then HB0.out (bel_then B12 hHeld.2.2.2.2.2.2.2.2.2.2.2.2.2.2.2)) f_a).mono ?_
            rintro e V3 ⟨rfl, b3⟩
            refine hK.out _ _ ?h105 (fun hHeld => ?j105)
            case h105 => exact HK.out _ _ b3 hHeld
            clear hK K
            try simp only [Act.put, List.setIfInBounds_toArray, List.set_cons_zero, List.set_cons_succ]
            have s3_ := b3.size
            replace Tx0 := Aside0.mk (Kd.R_below Tx0.out b3)
            replace Tx1 := Aside0.mk (Kd.R_below Tx1.out b3)
            refine wpAnyH_ready (rs := [4, 8]) (by kernel_rfl) (by simp) ?_
            refine AllReadyH.cons (o := { dst := some 89, op := Op.call { callee := Callee.value (Operand.func 12), args := #[Operand.tmp 86, Operand.tmp 88], argTypes := #[38, 30] }, type := 34, pos := "exact.go:3922", after := #[{ on := 1, ground := Ground.data }, { on := 3, ground := Ground.data }, { on := 3, ground := Ground.chain }], guard := none }) rfl (fun K hK => ?k106) (AllReadyH.cons (o := { dst := some 14, op := Op.alloc 33, type := 0, pos := "exact.go:3922", after := #[], guard := none }) rfl (fun K hK => ?k107) AllReadyH.nil)
            case k106 =>
              go_simp
              have hcl := bounceOf_any x Qx0 qx0 Qx1 qx1 a V3 f_x f_a (Kd.R_reads' Tx0.out).2.2 (Kd.R_reads' Tx1.out).2.2 (HG.out.below (bel_then HB0.out (bel_then B12 hHeld.2.2.2.2.2.2.2.2.2.2.2.2.2.2.2)))
              rw [HV0.out, HV1.out] at hcl
              refine hcl.mono ?_
              clear hcl
              rintro e V4 ⟨H0_0, hd0_0, H0_1, hd0_1, rfl, gu0_0, gu0_1, b4⟩
              refine hK.out _ _ ?h108 (fun hHeld => ?j108)
              case h108 => exact HK.out _ _ b4 hHeld
              clear hK K
              try simp only [Act.put, List.setIfInBounds_toArray, List.set_cons_zero, List.set_cons_succ]
              have U0_0 := Aside0.mk (Kd.R_lower (base' := w12.heap.size) (Kd.R_mono (Kd.R_bound gu0_0) (ok' := fun q => V3.heap.size ≤ q ∧ q < V4.heap.size) (fun q hq => ⟨hq.2.1, hq.2.2.1⟩)) (by have := hHeld.2.2.2.2.2.2.2.2.2.2.2.2.2.2.2.size; omega))
              have U0_1 := Aside0.mk (Kd.R_lower (base' := w12.heap.size) (Kd.R_mono (Kd.R_bound gu0_1) (ok' := fun q => V3.heap.size ≤ q ∧ q < V4.heap.size) (fun q hq => ⟨hq.2.1, hq.2.2.1⟩)) (by have := hHeld.2.2.2.2.2.2.2.2.2.2.2.2.2.2.2.size; omega))
              clear gu0_0 gu0_1
              have s4_ := b4.size
              replace Tx0 := Aside0.mk (Kd.R_below Tx0.out b4)
              replace Tx1 := Aside0.mk (Kd.R_below Tx1.out b4)
              refine wpAnyH_take (i := 5) (oi := { dst := some 84, op := Op.move (Operand.tmp 89), type := 34, pos := "exact.go:3922", after := #[{ on := 4, ground := Ground.data }], guard := none }) (v := ?v109) rfl (by kernel_rfl) (by kernel_rfl) (by kernel_rfl) (fun _ _ _ h => h) (Or.inl ⟨by rfl, ?y109⟩) (by assumption) ?r109
              case y109 => intro w_ hSw; (try dsimp only at hSw); go_simp; (try (with_reducible rfl))
              try simp only [Act.put, List.setIfInBounds_toArray, List.set_cons_zero, List.set_cons_succ]
              refine wpAnyH_take (i := 6) (oi := { dst := some 90, op := Op.extract (Operand.tmp 84) 0, type := 33, pos := "exact.go:3922", after := #[{ on := 5, ground := Ground.data }], guard := none }) (v := ?v110) rfl (by kernel_rfl) (by kernel_rfl) (by kernel_rfl) (fun _ _ _ h => h) (Or.inl ⟨by rfl, ?y110⟩) (by assumption) ?r110
              case y110 => intro w_ hSw; (try dsimp only at hSw); go_simp; (try (with_reducible rfl))
              try simp only [Act.put, List.setIfInBounds_toArray, List.set_cons_zero, List.set_cons_succ]
              refine wpAnyH_take (i := 7) (oi := { dst := some 91, op := Op.extract (Operand.tmp 84) 1, type := 4, pos := "exact.go:3922", after := #[{ on := 5, ground := Ground.data }, { on := 9, ground := Ground.gcOnly Departure.lateStores }], guard := none }) (v := ?v111) rfl (by kernel_rfl) (by kernel_rfl) (by kernel_rfl) (fun _ _ _ h => h) (Or.inl ⟨by rfl, ?y111⟩) (by assumption) ?r111
              case y111 => intro w_ hSw; (try dsimp only at hSw); go_simp; (try (with_reducible rfl))
              try simp only [Act.put, List.setIfInBounds_toArray, List.set_cons_zero, List.set_cons_succ]
              refine wpAnyH_ready (rs := [8]) (by kernel_rfl) (by simp) ?_
              refine AllReadyH.cons (o := { dst := some 14, op := Op.alloc 33, type := 0, pos := "exact.go:3922", after := #[], guard := none }) rfl (fun K hK => ?k112) AllReadyH.nil
              case k112 =>
                go_simp
                refine hK.out _ _ ?h113 (fun hHeld => ?j113)
                case h113 => exact HK.out _ _ (bel_alloc (Below.refl _ _) _) hHeld
                clear hK K
                try simp only [Act.put, List.setIfInBounds_toArray, List.set_cons_zero, List.set_cons_succ]
                generalize hV8 : World.alloc V4 _ = V8 at hHeld ⊢
                have b8 : Below V4.heap.size V4 V8 := by rw [← hV8]; exact bel_alloc (Below.refl _ _) _
                have z8 : V4.heap.size < V8.heap.size := by rw [← hV8]; simp
                have F0 := Aside0.mk (by rw [← hV8]; exact blk_new _ _ : V8.heap[V4.heap.size]? = some (.cells #[.string ⟨#[]⟩, .string ⟨#[]⟩, .slice none 0 0, .slice none 0 0] 33 (0, 0)))
                obtain ⟨g0, hg0⟩ : ∃ g, g = V4.heap.size := ⟨_, rfl⟩
                have lo0 : V4.heap.size ≤ g0 := by omega
                have al0 : w12.heap.size ≤ g0 := by omega
                have hi0 : g0 < V8.heap.size := by omega
                rw [← hg0] at F0 ⊢
                clear hV8 hg0 z8
                have s8_ := b8.size
                replace Tx0 := Aside0.mk (Kd.R_below Tx0.out b8)
                replace Tx1 := Aside0.mk (Kd.R_below Tx1.out b8)
                replace U0_0 := Aside0.mk (Kd.R_below U0_0.out b8)
                replace U0_1 := Aside0.mk (Kd.R_below U0_1.out b8)
                refine wpAnyH_ready (rs := [9]) (by kernel_rfl) (by simp) ?_
                refine AllReadyH.cons (o := { dst := none, op := Op.store 33 (Operand.tmp 14) (Operand.tmp 90), type := 0, pos := "exact.go:3922", after := #[{ on := 8, ground := Ground.data }, { on := 6, ground := Ground.data }, { on := 4, ground := Ground.chain }, { on := 0, ground := Ground.phase }, { on := 1, ground := Ground.phase }, { on := 2, ground := Ground.phase }, { on := 3, ground := Ground.phase }, { on := 4, ground := Ground.phase }, { on := 5, ground := Ground.phase }, { on := 6, ground := Ground.phase }, { on := 7, ground := Ground.textOnly Departure.lateStores }, { on := 8, ground := Ground.phase }], guard := none }) rfl (fun K hK => ?k114) AllReadyH.nil
                case k114 =>
                  have hb7 := F0.out
                  have v0_ : V8.cell? ⟨g0, 0, none⟩ = some (.string ⟨#[]⟩) := by simp [World.cell?, hb7]
                  have v1_ : V8.cell? ⟨g0, 1, none⟩ = some (.string ⟨#[]⟩) := by simp [World.cell?, hb7]
                  have v2_ : V8.cell? ⟨g0, 2, none⟩ = some (.slice none 0 0) := by simp [World.cell?, hb7]
                  have v3_ : V8.cell? ⟨g0, 3, none⟩ = some (.slice none 0 0) := by simp [World.cell?, hb7]
                  have u0_ : V8.frozen? ⟨g0, 0, none⟩ = false := by simp [World.frozen?, hb7]
                  have u1_ : V8.frozen? ⟨g0, 1, none⟩ = false := by simp [World.frozen?, hb7]
                  have u2_ : V8.frozen? ⟨g0, 2, none⟩ = false := by simp [World.frozen?, hb7]
                  have u3_ : V8.frozen? ⟨g0, 3, none⟩ = false := by simp [World.frozen?, hb7]
                  go_simp
                  generalize hV9 : World.setCell (World.setCell (World.setCell (World.setCell V8 ⟨g0, 0, none⟩ _) ⟨g0, 1, none⟩ _) ⟨g0, 2, none⟩ _) ⟨g0, 3, none⟩ _ = V9
                  have G9 : V8.grownBy V9 (some g0) := by rw [← hV9]; exact (((grown_set1 _ _ _ _).trans (grown_set1 _ _ _ _)).trans (grown_set1 _ _ _ _)).trans (grown_set1 _ _ _ _)
                  have FF0 : V9.heap[g0]? = some (.cells #[.string M0.f0.f0, .string M0.f0.f1, .slice H0_0 M0.f1.length hd0_0, .slice H0_1 M0.f2.length hd0_1] 33 (0, 0)) := by rw [← hV9, blk_set1 (blk_set1 (blk_set1 (blk_set1 (F0.out) 0 _) 1 _) 2 _) 3 _]; simp
                  have BB : Below w12.heap.size w12 V9 := by rw [← hV9]; exact (bel_set (bel_set (bel_set (bel_set (hHeld.2.2.2.2.2.2.2.2.2.2.2.2.2.2.2) _ al0) _ al0) _ al0) _ al0)
                  clear hV9
                  refine hK.out _ _ ?h115 (fun hHeld => ?j115)
                  case h115 => (exact ⟨(World.cell?_of_block (G9.block _ (World.block_lt_of_cell? _ _ hHeld.1) (fun e => by have e := Option.some.inj e; (try dsimp only at e); omega))).trans hHeld.1, (World.cell?_of_block (G9.block _ (World.block_lt_of_cell? _ _ hHeld.2.1) (fun e => by have e := Option.some.inj e; (try dsimp only at e); omega))).trans hHeld.2.1, (World.cell?_of_block (G9.block _ (World.block_lt_of_cell? _ _ hHeld.2.2.1) (fun e => by have e := Option.some.inj e; (try dsimp only at e); omega))).trans hHeld.2.2.1, (World.cell?_of_block (G9.block _ (World.block_lt_of_cell? _ _ hHeld.2.2.2.1) (fun e => by have e := Option.some.inj e; (try dsimp only at e); omega))).trans hHeld.2.2.2.1, (World.cell?_of_block (G9.block _ (World.block_lt_of_cell? _ _ hHeld.2.2.2.2.1) (fun e => by have e := Option.some.inj e; (try dsimp only at e); omega))).trans hHeld.2.2.2.2.1, (World.cell?_of_block (G9.block _ (World.block_lt_of_cell? _ _ hHeld.2.2.2.2.2.1) (fun e => by have e := Option.some.inj e; (try dsimp only at e); omega))).trans hHeld.2.2.2.2.2.1, (World.cell?_of_block (G9.block _ (World.block_lt_of_cell? _ _ hHeld.2.2.2.2.2.2.1) (fun e => by have e := Option.some.inj e; (try dsimp only at e); omega))).trans hHeld.2.2.2.2.2.2.1, (World.cell?_of_block (G9.block _ (World.block_lt_of_cell? _ _ hHeld.2.2.2.2.2.2.2.1) (fun e => by have e := Option.some.inj e; (try dsimp only at e); omega))).trans hHeld.2.2.2.2.2.2.2.1, (World.cell?_of_block (G9.block _ (World.block_lt_of_cell? _ _ hHeld.2.2.2.2.2.2.2.2.1) (fun e => by have e := Option.some.inj e; (try dsimp only at e); omega))).trans hHeld.2.2.2.2.2.2.2.2.1, (World.cell?_of_block (G9.block _ (World.block_lt_of_cell? _ _ hHeld.2.2.2.2.2.2.2.2.2.1) (fun e => by have e := Option.some.inj e; (try dsimp only at e); omega))).trans hHeld.2.2.2.2.2.2.2.2.2.1, (World.cell?_of_block (G9.block _ (World.block_lt_of_cell? _ _ hHeld.2.2.2.2.2.2.2.2.2.2.1) (fun e => by have e := Option.some.inj e; (try dsimp only at e); omega))).trans hHeld.2.2.2.2.2.2.2.2.2.2.1, (World.cell?_of_block (G9.block _ (World.block_lt_of_cell? _ _ hHeld.2.2.2.2.2.2.2.2.2.2.2.1) (fun e => by have e := Option.some.inj e; (try dsimp only at e); omega))).trans hHeld.2.2.2.2.2.2.2.2.2.2.2.1, (World.cell?_of_block (G9.block _ (World.block_lt_of_cell? _ _ hHeld.2.2.2.2.2.2.2.2.2.2.2.2.1) (fun e => by have e := Option.some.inj e; (try dsimp only at e); omega))).trans hHeld.2.2.2.2.2.2.2.2.2.2.2.2.1, (World.cell?_of_block (G9.block _ (World.block_lt_of_cell? _ _ hHeld.2.2.2.2.2.2.2.2.2.2.2.2.2.1) (fun e => by have e := Option.some.inj e; (try dsimp only at e); omega))).trans hHeld.2.2.2.2.2.2.2.2.2.2.2.2.2.1, (World.cell?_of_block (G9.block _ (World.block_lt_of_cell? _ _ hHeld.2.2.2.2.2.2.2.2.2.2.2.2.2.2.1) (fun e => by have e := Option.some.inj e; (try dsimp only at e); omega))).trans hHeld.2.2.2.2.2.2.2.2.2.2.2.2.2.2.1, BB⟩)
                  clear hK K
                  try simp only [Act.put, List.setIfInBounds_toArray, List.set_cons_zero, List.set_cons_succ]
                  replace U0_0 := Aside0.mk (Kd.R_grown U0_0.out G9 (fun q hq e => by injection e with e; have h1 := hq.1; have h2 := hq.2; omega))
                  replace U0_1 := Aside0.mk (Kd.R_grown U0_1.out G9 (fun q hq e => by injection e with e; have h1 := hq.1; have h2 := hq.2; omega))
                  replace F0 := Aside0.mk FF0
                  have s9_ : V8.heap.size ≤ V9.heap.size := G9.size
                  refine wpAnyH_take (i := 10) (oi := { dst := some 15, op := Op.assign (Operand.tmp 91), type := 4, pos := "exact.go:3922", after := #[{ on := 7, ground := Ground.data }, { on := 9, ground := Ground.chain }, { on := 0, ground := Ground.phase }, { on := 1, ground := Ground.phase }, { on := 2, ground := Ground.phase }, { on := 3, ground := Ground.phase }, { on := 4, ground := Ground.phase }, { on := 5, ground := Ground.phase }, { on := 6, ground := Ground.phase }, { on := 7, ground := Ground.phase }, { on := 8, ground := Ground.phase }, { on := 9, ground := Ground.phase }], guard := none }) (v := ?v116) rfl (by kernel_rfl) (by kernel_rfl) (by kernel_rfl) (fun _ _ _ h => h) (Or.inl ⟨by rfl, ?y116⟩) (by assumption) ?r116
                  case y116 => intro w_ hSw; (try dsimp only at hSw); go_simp; (try (with_reducible rfl))
                  try simp only [Act.put, List.setIfInBounds_toArray, List.set_cons_zero, List.set_cons_succ]
                  refine wpAnyH_done (by kernel_rfl) ?_ _
                  exact HKK.out H0_0 hd0_0 H0_1 hd0_1 Qx0 qx0 Qx1 qx1 g0 V9 ⟨hHeld.2.2.2.2.2.2.2.2.2.2.2.2.2.2.2, (by omega), Kd.R_mono U0_0.out (fun q hq => by have h1 := hq.1; have h2 := hq.2; refine ⟨?_, ?_, ?_⟩ <;> omega), Kd.R_mono U0_1.out (fun q hq => by have h1 := hq.1; have h2 := hq.2; refine ⟨?_, ?_, ?_⟩ <;> omega), F0.out⟩
            case k107 =>
              go_simp
              refine hK.out _ _ ?h117 (fun hHeld => ?j117)
              case h117 => exact HK.out _ _ (bel_alloc (Below.refl _ _) _) hHeld
              clear hK K
              try simp only [Act.put, List.setIfInBounds_toArray, List.set_cons_zero, List.set_cons_succ]
              generalize hV8 : World.alloc V3 _ = V8 at hHeld ⊢
              have b8 : Below V3.heap.size V3 V8 := by rw [← hV8]; exact bel_alloc (Below.refl _ _) _
              have z8 : V3.heap.size < V8.heap.size := by rw [← hV8]; simp
              have F0 := Aside0.mk (by rw [← hV8]; exact blk_new _ _ : V8.heap[V3.heap.size]? = some (.cells #[.string ⟨#[]⟩, .string ⟨#[]⟩, .slice none 0 0, .slice none 0 0] 33 (0, 0)))
              obtain ⟨g0, hg0⟩ : ∃ g, g = V3.heap.size := ⟨_, rfl⟩
              have lo0 : V3.heap.size ≤ g0 := by omega
              have al0 : w12.heap.size ≤ g0 := by omega
              have hi0 : g0 < V8.heap.size := by omega
              rw [← hg0] at F0 ⊢
              clear hV8 hg0 z8
              have s8_ := b8.size
              replace Tx0 := Aside0.mk (Kd.R_below Tx0.out b8)
              replace Tx1 := Aside0.mk (Kd.R_below Tx1.out b8)
              refine wpAnyH_ready (rs := [4]) (by kernel_rfl) (by simp) ?_
              refine AllReadyH.cons (o := { dst := some 89, op := Op.call { callee := Callee.value (Operand.func 12), args := #[Operand.tmp 86, Operand.tmp 88], argTypes := #[38, 30] }, type := 34, pos := "exact.go:3922", after := #[{ on := 1, ground := Ground.data }, { on := 3, ground := Ground.data }, { on := 3, ground := Ground.chain }], guard := none }) rfl (fun K hK => ?k118) AllReadyH.nil
              case k118 =>
                go_simp
                have hcl := bounceOf_any x Qx0 qx0 Qx1 qx1 a V8 f_x f_a (Kd.R_reads' Tx0.out).2.2 (Kd.R_reads' Tx1.out).2.2 (HG.out.below (bel_then HB0.out (bel_then B12 hHeld.2.2.2.2.2.2.2.2.2.2.2.2.2.2.2)))
                rw [HV0.out, HV1.out] at hcl
                refine hcl.mono ?_
                clear hcl
                rintro e V4 ⟨H0_0, hd0_0, H0_1, hd0_1, rfl, gu0_0, gu0_1, b4⟩
                refine hK.out _ _ ?h119 (fun hHeld => ?j119)
                case h119 => exact HK.out _ _ b4 hHeld
                clear hK K
                try simp only [Act.put, List.setIfInBounds_toArray, List.set_cons_zero, List.set_cons_succ]
                have U0_0 := Aside0.mk (Kd.R_lower (base' := w12.heap.size) (Kd.R_mono (Kd.R_bound gu0_0) (ok' := fun q => V8.heap.size ≤ q ∧ q < V4.heap.size) (fun q hq => ⟨hq.2.1, hq.2.2.1⟩)) (by have := hHeld.2.2.2.2.2.2.2.2.2.2.2.2.2.2.2.size; omega))
                have U0_1 := Aside0.mk (Kd.R_lower (base' := w12.heap.size) (Kd.R_mono (Kd.R_bound gu0_1) (ok' := fun q => V8.heap.size ≤ q ∧ q < V4.heap.size) (fun q hq => ⟨hq.2.1, hq.2.2.1⟩)) (by have := hHeld.2.2.2.2.2.2.2.2.2.2.2.2.2.2.2.size; omega))
                clear gu0_0 gu0_1
                have s4_ := b4.size
                replace Tx0 := Aside0.mk (Kd.R_below Tx0.out b4)
                replace Tx1 := Aside0.mk (Kd.R_below Tx1.out b4)
                replace F0 := Aside0.mk (below_blk F0.out b4)
                refine wpAnyH_take (i := 5) (oi := { dst := some 84, op := Op.move (Operand.tmp 89), type := 34, pos := "exact.go:3922", after := #[{ on := 4, ground := Ground.data }], guard := none }) (v := ?v120) rfl (by kernel_rfl) (by kernel_rfl) (by kernel_rfl) (fun _ _ _ h => h) (Or.inl ⟨by rfl, ?y120⟩) (by assumption) ?r120
                case y120 => intro w_ hSw; (try dsimp only at hSw); go_simp; (try (with_reducible rfl))
                try simp only [Act.put, List.setIfInBounds_toArray, List.set_cons_zero, List.set_cons_succ]
                refine wpAnyH_take (i := 6) (oi := { dst := some 90, op := Op.extract (Operand.tmp 84) 0, type := 33, pos := "exact.go:3922", after := #[{ on := 5, ground := Ground.data }], guard := none }) (v := ?v121) rfl (by kernel_rfl) (by kernel_rfl) (by kernel_rfl) (fun _ _ _ h => h) (Or.inl ⟨by rfl, ?y121⟩) (by assumption) ?r121
                case y121 => intro w_ hSw; (try dsimp only at hSw); go_simp; (try (with_reducible rfl))
                try simp only [Act.put, List.setIfInBounds_toArray, List.set_cons_zero, List.set_cons_succ]
                refine wpAnyH_take (i := 7) (oi := { dst := some 91, op := Op.extract (Operand.tmp 84) 1, type := 4, pos := "exact.go:3922", after := #[{ on := 5, ground := Ground.data }, { on := 9, ground := Ground.gcOnly Departure.lateStores }], guard := none }) (v := ?v122) rfl (by kernel_rfl) (by kernel_rfl) (by kernel_rfl) (fun _ _ _ h => h) (Or.inl ⟨by rfl, ?y122⟩) (by assumption) ?r122
                case y122 => intro w_ hSw; (try dsimp only at hSw); go_simp; (try (with_reducible rfl))
                try simp only [Act.put, List.setIfInBounds_toArray, List.set_cons_zero, List.set_cons_succ]
                refine wpAnyH_ready (rs := [9]) (by kernel_rfl) (by simp) ?_
                refine AllReadyH.cons (o := { dst := none, op := Op.store 33 (Operand.tmp 14) (Operand.tmp 90), type := 0, pos := "exact.go:3922", after := #[{ on := 8, ground := Ground.data }, { on := 6, ground := Ground.data }, { on := 4, ground := Ground.chain }, { on := 0, ground := Ground.phase }, { on := 1, ground := Ground.phase }, { on := 2, ground := Ground.phase }, { on := 3, ground := Ground.phase }, { on := 4, ground := Ground.phase }, { on := 5, ground := Ground.phase }, { on := 6, ground := Ground.phase }, { on := 7, ground := Ground.textOnly Departure.lateStores }, { on := 8, ground := Ground.phase }], guard := none }) rfl (fun K hK => ?k123) AllReadyH.nil
                case k123 =>
                  have hb7 := F0.out
                  have v0_ : V4.cell? ⟨g0, 0, none⟩ = some (.string ⟨#[]⟩) := by simp [World.cell?, hb7]
                  have v1_ : V4.cell? ⟨g0, 1, none⟩ = some (.string ⟨#[]⟩) := by simp [World.cell?, hb7]
                  have v2_ : V4.cell? ⟨g0, 2, none⟩ = some (.slice none 0 0) := by simp [World.cell?, hb7]
                  have v3_ : V4.cell? ⟨g0, 3, none⟩ = some (.slice none 0 0) := by simp [World.cell?, hb7]
                  have u0_ : V4.frozen? ⟨g0, 0, none⟩ = false := by simp [World.frozen?, hb7]
                  have u1_ : V4.frozen? ⟨g0, 1, none⟩ = false := by simp [World.frozen?, hb7]
                  have u2_ : V4.frozen? ⟨g0, 2, none⟩ = false := by simp [World.frozen?, hb7]
                  have u3_ : V4.frozen? ⟨g0, 3, none⟩ = false := by simp [World.frozen?, hb7]
                  go_simp
                  generalize hV9 : World.setCell (World.setCell (World.setCell (World.setCell V4 ⟨g0, 0, none⟩ _) ⟨g0, 1, none⟩ _) ⟨g0, 2, none⟩ _) ⟨g0, 3, none⟩ _ = V9
                  have G9 : V4.grownBy V9 (some g0) := by rw [← hV9]; exact (((grown_set1 _ _ _ _).trans (grown_set1 _ _ _ _)).trans (grown_set1 _ _ _ _)).trans (grown_set1 _ _ _ _)
                  have FF0 : V9.heap[g0]? = some (.cells #[.string M0.f0.f0, .string M0.f0.f1, .slice H0_0 M0.f1.length hd0_0, .slice H0_1 M0.f2.length hd0_1] 33 (0, 0)) := by rw [← hV9, blk_set1 (blk_set1 (blk_set1 (blk_set1 (F0.out) 0 _) 1 _) 2 _) 3 _]; simp
                  have BB : Below w12.heap.size w12 V9 := by rw [← hV9]; exact (bel_set (bel_set (bel_set (bel_set (hHeld.2.2.2.2.2.2.2.2.2.2.2.2.2.2.2) _ al0) _ al0) _ al0) _ al0)
                  clear hV9
                  refine hK.out _ _ ?h124 (fun hHeld => ?j124)
                  case h124 => (exact ⟨(World.cell?_of_block (G9.block _ (World.block_lt_of_cell? _ _ hHeld.1) (fun e => by have e := Option.some.inj e; (try dsimp only at e); omega))).trans hHeld.1, (World.cell?_of_block (G9.block _ (World.block_lt_of_cell? _ _ hHeld.2.1) (fun e => by have e := Option.some.inj e; (try dsimp only at e); omega))).trans hHeld.2.1, (World.cell?_of_block (G9.block _ (World.block_lt_of_cell? _ _ hHeld.2.2.1) (fun e => by have e := Option.some.inj e; (try dsimp only at e); omega))).trans hHeld.2.2.1, (World.cell?_of_block (G9.block _ (World.block_lt_of_cell? _ _ hHeld.2.2.2.1) (fun e => by have e := Option.some.inj e; (try dsimp only at e); omega))).trans hHeld.2.2.2.1, (World.cell?_of_block (G9.block _ (World.block_lt_of_cell? _ _ hHeld.2.2.2.2.1) (fun e => by have e := Option.some.inj e; (try dsimp only at e); omega))).trans hHeld.2.2.2.2.1, (World.cell?_of_block (G9.block _ (World.block_lt_of_cell? _ _ hHeld.2.2.2.2.2.1) (fun e => by have e := Option.some.inj e; (try dsimp only at e); omega))).trans hHeld.2.2.2.2.2.1, (World.cell?_of_block (G9.block _ (World.block_lt_of_cell? _ _ hHeld.2.2.2.2.2.2.1) (fun e => by have e := Option.some.inj e; (try dsimp only at e); omega))).trans hHeld.2.2.2.2.2.2.1, (World.cell?_of_block (G9.block _ (World.block_lt_of_cell? _ _ hHeld.2.2.2.2.2.2.2.1) (fun e => by have e := Option.some.inj e; (try dsimp only at e); omega))).trans hHeld.2.2.2.2.2.2.2.1, (World.cell?_of_block (G9.block _ (World.block_lt_of_cell? _ _ hHeld.2.2.2.2.2.2.2.2.1) (fun e => by have e := Option.some.inj e; (try dsimp only at e); omega))).trans hHeld.2.2.2.2.2.2.2.2.1, (World.cell?_of_block (G9.block _ (World.block_lt_of_cell? _ _ hHeld.2.2.2.2.2.2.2.2.2.1) (fun e => by have e := Option.some.inj e; (try dsimp only at e); omega))).trans hHeld.2.2.2.2.2.2.2.2.2.1, (World.cell?_of_block (G9.block _ (World.block_lt_of_cell? _ _ hHeld.2.2.2.2.2.2.2.2.2.2.1) (fun e => by have e := Option.some.inj e; (try dsimp only at e); omega))).trans hHeld.2.2.2.2.2.2.2.2.2.2.1, (World.cell?_of_block (G9.block _ (World.block_lt_of_cell? _ _ hHeld.2.2.2.2.2.2.2.2.2.2.2.1) (fun e => by have e := Option.some.inj e; (try dsimp only at e); omega))).trans hHeld.2.2.2.2.2.2.2.2.2.2.2.1, (World.cell?_of_block (G9.block _ (World.block_lt_of_cell? _ _ hHeld.2.2.2.2.2.2.2.2.2.2.2.2.1) (fun e => by have e := Option.some.inj e; (try dsimp only at e); omega))).trans hHeld.2.2.2.2.2.2.2.2.2.2.2.2.1, (World.cell?_of_block (G9.block _ (World.block_lt_of_cell? _ _ hHeld.2.2.2.2.2.2.2.2.2.2.2.2.2.1) (fun e => by have e := Option.some.inj e; (try dsimp only at e); omega))).trans hHeld.2.2.2.2.2.2.2.2.2.2.2.2.2.1, (World.cell?_of_block (G9.block _ (World.block_lt_of_cell? _ _ hHeld.2.2.2.2.2.2.2.2.2.2.2.2.2.2.1) (fun e => by have e := Option.some.inj e; (try dsimp only at e); omega))).trans hHeld.2.2.2.2.2.2.2.2.2.2.2.2.2.2.1, BB⟩)
                  clear hK K
                  try simp only [Act.put, List.setIfInBounds_toArray, List.set_cons_zero, List.set_cons_succ]
                  replace U0_0 := Aside0.mk (Kd.R_grown U0_0.out G9 (fun q hq e => by injection e with e; have h1 := hq.1; have h2 := hq.2; omega))
                  replace U0_1 := Aside0.mk (Kd.R_grown U0_1.out G9 (fun q hq e => by injection e with e; have h1 := hq.1; have h2 := hq.2; omega))
                  replace F0 := Aside0.mk FF0
                  have s9_ : V4.heap.size ≤ V9.heap.size := G9.size
                  refine wpAnyH_take (i := 10) (oi := { dst := some 15, op := Op.assign (Operand.tmp 91), type := 4, pos := "exact.go:3922", after := #[{ on := 7, ground := Ground.data }, { on := 9, ground := Ground.chain }, { on := 0, ground := Ground.phase }, { on := 1, ground := Ground.phase }, { on := 2, ground := Ground.phase }, { on := 3, ground := Ground.phase }, { on := 4, ground := Ground.phase }, { on := 5, ground := Ground.phase }, { on := 6, ground := Ground.phase }, { on := 7, ground := Ground.phase }, { on := 8, ground := Ground.phase }, { on := 9, ground := Ground.phase }], guard := none }) (v := ?v125) rfl (by kernel_rfl) (by kernel_rfl) (by kernel_rfl) (fun _ _ _ h => h) (Or.inl ⟨by rfl, ?y125⟩) (by assumption) ?r125
                  case y125 => intro w_ hSw; (try dsimp only at hSw); go_simp; (try (with_reducible rfl))
                  try simp only [Act.put, List.setIfInBounds_toArray, List.set_cons_zero, List.set_cons_succ]
                  refine wpAnyH_done (by kernel_rfl) ?_ _
                  exact HKK.out H0_0 hd0_0 H0_1 hd0_1 Qx0 qx0 Qx1 qx1 g0 V9 ⟨hHeld.2.2.2.2.2.2.2.2.2.2.2.2.2.2.2, (by omega), Kd.R_mono U0_0.out (fun q hq => by have h1 := hq.1; have h2 := hq.2; refine ⟨?_, ?_, ?_⟩ <;> omega), Kd.R_mono U0_1.out (fun q hq => by have h1 := hq.1; have h2 := hq.2; refine ⟨?_, ?_, ?_⟩ <;> omega), F0.out⟩
          case k104 =>
            go_simp
            refine hK.out _ _ ?h126 (fun hHeld => ?j126)
            case h126 => exact HK.out _ _ (bel_alloc (Below.refl _ _) _) hHeld
            clear hK K
            try simp only [Act.put, List.setIfInBounds_toArray, List.set_cons_zero, List.set_cons_succ]
            generalize hV8 : World.alloc V1 _ = V8 at hHeld ⊢
            have b8 : Below V1.heap.size V1 V8 := by rw [← hV8]; exact bel_alloc (Below.refl _ _) _
            have z8 : V1.heap.size < V8.heap.size := by rw [← hV8]; simp
            have F0 := Aside0.mk (by rw [← hV8]; exact blk_new _ _ : V8.heap[V1.heap.size]? = some (.cells #[.string ⟨#[]⟩, .string ⟨#[]⟩, .slice none 0 0, .slice none 0 0] 33 (0, 0)))
            obtain ⟨g0, hg0⟩ : ∃ g, g = V1.heap.size := ⟨_, rfl⟩
            have lo0 : V1.heap.size ≤ g0 := by omega
            have al0 : w12.heap.size ≤ g0 := by omega
            have hi0 : g0 < V8.heap.size := by omega
            rw [← hg0] at F0 ⊢
            clear hV8 hg0 z8
            have s8_ := b8.size
            replace Tx0 := Aside0.mk (Kd.R_below Tx0.out b8)
            replace Tx1 := Aside0.mk (Kd.R_below Tx1.out b8)
            refine wpAnyH_ready (rs := [3]) (by kernel_rfl) (by simp) ?_
            refine AllReadyH.cons (o := { dst := some 88, op := Op.call { callee := Callee.value (Operand.func 11), args := #[Operand.tmp 87], argTypes := #[23] }, type := 30, pos := "exact.go:3922", after := #[{ on := 2, ground := Ground.data }, { on := 1, ground := Ground.chain }], guard := none }) rfl (fun K hK => ?k127) AllReadyH.nil
            case k127 =>
              go_simp
              refine (hto_a _ (bel_then HB0.out (bel_then B12 hHeld.2.2.2.2.2.2.2.2.2.2.2.2.2.2.2)) f_a).mono ?_
              rintro e V3 ⟨rfl, b3⟩
              refine hK.out _ _ ?h128 (fun hHeld => ?j128)
              case h128 => exact HK.out _ _ b3 hHeld
              clear hK K
              try simp only [Act.put, List.setIfInBounds_toArray, List.set_cons_zero, List.set_cons_succ]
              have s3_ := b3.size
              replace Tx0 := Aside0.mk (Kd.R_below Tx0.out b3)
              replace Tx1 := Aside0.mk (Kd.R_below Tx1.out b3)
              replace F0 := Aside0.mk (below_blk F0.out b3)
              refine wpAnyH_ready (rs := [4]) (by kernel_rfl) (by simp) ?_
              refine AllReadyH.cons (o := { dst := some 89, op := Op.call { callee := Callee.value (Operand.func 12), args := #[Operand.tmp 86, Operand.tmp 88], argTypes := #[38, 30] }, type := 34, pos := "exact.go:3922", after := #[{ on := 1, ground := Ground.data }, { on := 3, ground := Ground.data }, { on := 3, ground := Ground.chain }], guard := none }) rfl (fun K hK => ?k129) AllReadyH.nil
              case k129 =>
                go_simp
                have hcl := bounceOf_any x Qx0 qx0 Qx1 qx1 a V3 f_x f_a (Kd.R_reads' Tx0.out).2.2 (Kd.R_reads' Tx1.out).2.2 (HG.out.below (bel_then HB0.out (bel_then B12 hHeld.2.2.2.2.2.2.2.2.2.2.2.2.2.2.2)))
                rw [HV0.out, HV1.out] at hcl
                refine hcl.mono ?_
                clear hcl
                rintro e V4 ⟨H0_0, hd0_0, H0_1, hd0_1, rfl, gu0_0, gu0_1, b4⟩
                refine hK.out _ _ ?h130 (fun hHeld => ?j130)
                case h130 => exact HK.out _ _ b4 hHeld
                clear hK K
                try simp only [Act.put, List.setIfInBounds_toArray, List.set_cons_zero, List.set_cons_succ]
                have U0_0 := Aside0.mk (Kd.R_lower (base' := w12.heap.size) (Kd.R_mono (Kd.R_bound gu0_0) (ok' := fun q => V3.heap.size ≤ q ∧ q < V4.heap.size) (fun q hq => ⟨hq.2.1, hq.2.2.1⟩)) (by have := hHeld.2.2.2.2.2.2.2.2.2.2.2.2.2.2.2.size; omega))
                have U0_1 := Aside0.mk (Kd.R_lower (base' := w12.heap.size) (Kd.R_mono (Kd.R_bound gu0_1) (ok' := fun q => V3.heap.size ≤ q ∧ q < V4.heap.size) (fun q hq => ⟨hq.2.1, hq.2.2.1⟩)) (by have := hHeld.2.2.2.2.2.2.2.2.2.2.2.2.2.2.2.size; omega))
                clear gu0_0 gu0_1
                have s4_ := b4.size
                replace Tx0 := Aside0.mk (Kd.R_below Tx0.out b4)
                replace Tx1 := Aside0.mk (Kd.R_below Tx1.out b4)
                replace F0 := Aside0.mk (below_blk F0.out b4)
                refine wpAnyH_take (i := 5) (oi := { dst := some 84, op := Op.move (Operand.tmp 89), type := 34, pos := "exact.go:3922", after := #[{ on := 4, ground := Ground.data }], guard := none }) (v := ?v131) rfl (by kernel_rfl) (by kernel_rfl) (by kernel_rfl) (fun _ _ _ h => h) (Or.inl ⟨by rfl, ?y131⟩) (by assumption) ?r131
                case y131 => intro w_ hSw; (try dsimp only at hSw); go_simp; (try (with_reducible rfl))
                try simp only [Act.put, List.setIfInBounds_toArray, List.set_cons_zero, List.set_cons_succ]
                refine wpAnyH_take (i := 6) (oi := { dst := some 90, op := Op.extract (Operand.tmp 84) 0, type := 33, pos := "exact.go:3922", after := #[{ on := 5, ground := Ground.data }], guard := none }) (v := ?v132) rfl (by kernel_rfl) (by kernel_rfl) (by kernel_rfl) (fun _ _ _ h => h) (Or.inl ⟨by rfl, ?y132⟩) (by assumption) ?r132
                case y132 => intro w_ hSw; (try dsimp only at hSw); go_simp; (try (with_reducible rfl))
                try simp only [Act.put, List.setIfInBounds_toArray, List.set_cons_zero, List.set_cons_succ]
                refine wpAnyH_take (i := 7) (oi := { dst := some 91, op := Op.extract (Operand.tmp 84) 1, type := 4, pos := "exact.go:3922", after := #[{ on := 5, ground := Ground.data }, { on := 9, ground := Ground.gcOnly Departure.lateStores }], guard := none }) (v := ?v133) rfl (by kernel_rfl) (by kernel_rfl) (by kernel_rfl) (fun _ _ _ h => h) (Or.inl ⟨by rfl, ?y133⟩) (by assumption) ?r133
                case y133 => intro w_ hSw; (try dsimp only at hSw); go_simp; (try (with_reducible rfl))
                try simp only [Act.put, List.setIfInBounds_toArray, List.set_cons_zero, List.set_cons_succ]
                refine wpAnyH_ready (rs := [9]) (by kernel_rfl) (by simp) ?_
                refine AllReadyH.cons (o := { dst := none, op := Op.store 33 (Operand.tmp 14) (Operand.tmp 90), type := 0, pos := "exact.go:3922", after := #[{ on := 8, ground := Ground.data }, { on := 6, ground := Ground.data }, { on := 4, ground := Ground.chain }, { on := 0, ground := Ground.phase }, { on := 1, ground := Ground.phase }, { on := 2, ground := Ground.phase }, { on := 3, ground := Ground.phase }, { on := 4, ground := Ground.phase }, { on := 5, ground := Ground.phase }, { on := 6, ground := Ground.phase }, { on := 7, ground := Ground.textOnly Departure.lateStores }, { on := 8, ground := Ground.phase }], guard := none }) rfl (fun K hK => ?k134) AllReadyH.nil
                case k134 =>
                  have hb7 := F0.out
                  have v0_ : V4.cell? ⟨g0, 0, none⟩ = some (.string ⟨#[]⟩) := by simp [World.cell?, hb7]
                  have v1_ : V4.cell? ⟨g0, 1, none⟩ = some (.string ⟨#[]⟩) := by simp [World.cell?, hb7]
                  have v2_ : V4.cell? ⟨g0, 2, none⟩ = some (.slice none 0 0) := by simp [World.cell?, hb7]
                  have v3_ : V4.cell? ⟨g0, 3, none⟩ = some (.slice none 0 0) := by simp [World.cell?, hb7]
                  have u0_ : V4.frozen? ⟨g0, 0, none⟩ = false := by simp [World.frozen?, hb7]
                  have u1_ : V4.frozen? ⟨g0, 1, none⟩ = false := by simp [World.frozen?, hb7]
                  have u2_ : V4.frozen? ⟨g0, 2, none⟩ = false := by simp [World.frozen?, hb7]
                  have u3_ : V4.frozen? ⟨g0, 3, none⟩ = false := by simp [World.frozen?, hb7]
                  go_simp
                  generalize hV9 : World.setCell (World.setCell (World.setCell (World.setCell V4 ⟨g0, 0, none⟩ _) ⟨g0, 1, none⟩ _) ⟨g0, 2, none⟩ _) ⟨g0, 3, none⟩ _ = V9
                  have G9 : V4.grownBy V9 (some g0) := by rw [← hV9]; exact (((grown_set1 _ _ _ _).trans (grown_set1 _ _ _ _)).trans (grown_set1 _ _ _ _)).trans (grown_set1 _ _ _ _)
                  have FF0 : V9.heap[g0]? = some (.cells #[.string M0.f0.f0, .string M0.f0.f1, .slice H0_0 M0.f1.length hd0_0, .slice H0_1 M0.f2.length hd0_1] 33 (0, 0)) := by rw [← hV9, blk_set1 (blk_set1 (blk_set1 (blk_set1 (F0.out) 0 _) 1 _) 2 _) 3 _]; simp
                  have BB : Below w12.heap.size w12 V9 := by rw [← hV9]; exact (bel_set (bel_set (bel_set (bel_set (hHeld.2.2.2.2.2.2.2.2.2.2.2.2.2.2.2) _ al0) _ al0) _ al0) _ al0)
                  clear hV9
                  refine hK.out _ _ ?h135 (fun hHeld => ?j135)
                  case h135 => (exact ⟨(World.cell?_of_block (G9.block _ (World.block_lt_of_cell? _ _ hHeld.1) (fun e => by have e := Option.some.inj e; (try dsimp only at e); omega))).trans hHeld.1, (World.cell?_of_block (G9.block _ (World.block_lt_of_cell? _ _ hHeld.2.1) (fun e => by have e := Option.some.inj e; (try dsimp only at e); omega))).trans hHeld.2.1, (World.cell?_of_block (G9.block _ (World.block_lt_of_cell? _ _ hHeld.2.2.1) (fun e => by have e := Option.some.inj e; (try dsimp only at e); omega))).trans hHeld.2.2.1, (World.cell?_of_block (G9.block _ (World.block_lt_of_cell? _ _ hHeld.2.2.2.1) (fun e => by have e := Option.some.inj e; (try dsimp only at e); omega))).trans hHeld.2.2.2.1, (World.cell?_of_block (G9.block _ (World.block_lt_of_cell? _ _ hHeld.2.2.2.2.1) (fun e => by have e := Option.some.inj e; (try dsimp only at e); omega))).trans hHeld.2.2.2.2.1, (World.cell?_of_block (G9.block _ (World.block_lt_of_cell? _ _ hHeld.2.2.2.2.2.1) (fun e => by have e := Option.some.inj e; (try dsimp only at e); omega))).trans hHeld.2.2.2.2.2.1, (World.cell?_of_block (G9.block _ (World.block_lt_of_cell? _ _ hHeld.2.2.2.2.2.2.1) (fun e => by have e := Option.some.inj e; (try dsimp only at e); omega))).trans hHeld.2.2.2.2.2.2.1, (World.cell?_of_block (G9.block _ (World.block_lt_of_cell? _ _ hHeld.2.2.2.2.2.2.2.1) (fun e => by have e := Option.some.inj e; (try dsimp only at e); omega))).trans hHeld.2.2.2.2.2.2.2.1, (World.cell?_of_block (G9.block _ (World.block_lt_of_cell? _ _ hHeld.2.2.2.2.2.2.2.2.1) (fun e => by have e := Option.some.inj e; (try dsimp only at e); omega))).trans hHeld.2.2.2.2.2.2.2.2.1, (World.cell?_of_block (G9.block _ (World.block_lt_of_cell? _ _ hHeld.2.2.2.2.2.2.2.2.2.1) (fun e => by have e := Option.some.inj e; (try dsimp only at e); omega))).trans hHeld.2.2.2.2.2.2.2.2.2.1, (World.cell?_of_block (G9.block _ (World.block_lt_of_cell? _ _ hHeld.2.2.2.2.2.2.2.2.2.2.1) (fun e => by have e := Option.some.inj e; (try dsimp only at e); omega))).trans hHeld.2.2.2.2.2.2.2.2.2.2.1, (World.cell?_of_block (G9.block _ (World.block_lt_of_cell? _ _ hHeld.2.2.2.2.2.2.2.2.2.2.2.1) (fun e => by have e := Option.some.inj e; (try dsimp only at e); omega))).trans hHeld.2.2.2.2.2.2.2.2.2.2.2.1, (World.cell?_of_block (G9.block _ (World.block_lt_of_cell? _ _ hHeld.2.2.2.2.2.2.2.2.2.2.2.2.1) (fun e => by have e := Option.some.inj e; (try dsimp only at e); omega))).trans hHeld.2.2.2.2.2.2.2.2.2.2.2.2.1, (World.cell?_of_block (G9.block _ (World.block_lt_of_cell? _ _ hHeld.2.2.2.2.2.2.2.2.2.2.2.2.2.1) (fun e => by have e := Option.some.inj e; (try dsimp only at e); omega))).trans hHeld.2.2.2.2.2.2.2.2.2.2.2.2.2.1, (World.cell?_of_block (G9.block _ (World.block_lt_of_cell? _ _ hHeld.2.2.2.2.2.2.2.2.2.2.2.2.2.2.1) (fun e => by have e := Option.some.inj e; (try dsimp only at e); omega))).trans hHeld.2.2.2.2.2.2.2.2.2.2.2.2.2.2.1, BB⟩)
                  clear hK K
                  try simp only [Act.put, List.setIfInBounds_toArray, List.set_cons_zero, List.set_cons_succ]
                  replace U0_0 := Aside0.mk (Kd.R_grown U0_0.out G9 (fun q hq e => by injection e with e; have h1 := hq.1; have h2 := hq.2; omega))
                  replace U0_1 := Aside0.mk (Kd.R_grown U0_1.out G9 (fun q hq e => by injection e with e; have h1 := hq.1; have h2 := hq.2; omega))
                  replace F0 := Aside0.mk FF0
                  have s9_ : V4.heap.size ≤ V9.heap.size := G9.size
                  refine wpAnyH_take (i := 10) (oi := { dst := some 15, op := Op.assign (Operand.tmp 91), type := 4, pos := "exact.go:3922", after := #[{ on := 7, ground := Ground.data }, { on := 9, ground := Ground.chain }, { on := 0, ground := Ground.phase }, { on := 1, ground := Ground.phase }, { on := 2, ground := Ground.phase }, { on := 3, ground := Ground.phase }, { on := 4, ground := Ground.phase }, { on := 5, ground := Ground.phase }, { on := 6, ground := Ground.phase }, { on := 7, ground := Ground.phase }, { on := 8, ground := Ground.phase }, { on := 9, ground := Ground.phase }], guard := none }) (v := ?v136) rfl (by kernel_rfl) (by kernel_rfl) (by kernel_rfl) (fun _ _ _ h => h) (Or.inl ⟨by rfl, ?y136⟩) (by assumption) ?r136
                  case y136 => intro w_ hSw; (try dsimp only at hSw); go_simp; (try (with_reducible rfl))
                  try simp only [Act.put, List.setIfInBounds_toArray, List.set_cons_zero, List.set_cons_succ]
                  refine wpAnyH_done (by kernel_rfl) ?_ _
                  exact HKK.out H0_0 hd0_0 H0_1 hd0_1 Qx0 qx0 Qx1 qx1 g0 V9 ⟨hHeld.2.2.2.2.2.2.2.2.2.2.2.2.2.2.2, (by omega), Kd.R_mono U0_0.out (fun q hq => by have h1 := hq.1; have h2 := hq.2; refine ⟨?_, ?_, ?_⟩ <;> omega), Kd.R_mono U0_1.out (fun q hq => by have h1 := hq.1; have h2 := hq.2; refine ⟨?_, ?_, ?_⟩ <;> omega), F0.out⟩
        case k101 =>
          go_simp
          refine hK.out _ _ ?h137 (fun hHeld => ?j137)
          case h137 => exact HK.out _ _ (bel_alloc (Below.refl _ _) _) hHeld
          clear hK K
          try simp only [Act.put, List.setIfInBounds_toArray, List.set_cons_zero, List.set_cons_succ]
          generalize hV8 : World.alloc V0 _ = V8 at hHeld ⊢
          have b8 : Below V0.heap.size V0 V8 := by rw [← hV8]; exact bel_alloc (Below.refl _ _) _
          have z8 : V0.heap.size < V8.heap.size := by rw [← hV8]; simp
          have F0 := Aside0.mk (by rw [← hV8]; exact blk_new _ _ : V8.heap[V0.heap.size]? = some (.cells #[.string ⟨#[]⟩, .string ⟨#[]⟩, .slice none 0 0, .slice none 0 0] 33 (0, 0)))
          obtain ⟨g0, hg0⟩ : ∃ g, g = V0.heap.size := ⟨_, rfl⟩
          have lo0 : V0.heap.size ≤ g0 := by omega
          have al0 : w12.heap.size ≤ g0 := by omega
          have hi0 : g0 < V8.heap.size := by omega
          rw [← hg0] at F0 ⊢
          clear hV8 hg0 z8
          have s8_ := b8.size
          refine wpAnyH_ready (rs := [1]) (by kernel_rfl) (by simp) ?_
          refine AllReadyH.cons (o := { dst := some 86, op := Op.call { callee := Callee.value (Operand.func 10), args := #[Operand.tmp 85], argTypes := #[27] }, type := 38, pos := "exact.go:3922", after := #[{ on := 0, ground := Ground.data }], guard := none }) rfl (fun K hK => ?k138) AllReadyH.nil
          case k138 =>
            go_simp
            refine (hto_x _ (bel_then HB0.out (bel_then B12 hHeld.2.2.2.2.2.2.2.2.2.2.2.2.2.2.2)) f_x).mono ?_
            rintro e V1 ⟨Qx0, qx0, Qx1, qx1, rfl, gq_x0, gq_x1, b1⟩
            refine hK.out _ _ ?h139 (fun hHeld => ?j139)
            case h139 => exact HK.out _ _ b1 hHeld
            clear hK K
            try simp only [Act.put, List.setIfInBounds_toArray, List.set_cons_zero, List.set_cons_succ]
            have Tx0 := Aside0.mk gq_x0
            have Tx1 := Aside0.mk gq_x1
            clear gq_x0
            clear gq_x1
            have s1_ := b1.size
            replace F0 := Aside0.mk (below_blk F0.out b1)
            refine wpAnyH_ready (rs := [3]) (by kernel_rfl) (by simp) ?_
            refine AllReadyH.cons (o := { dst := some 88, op := Op.call { callee := Callee.value (Operand.func 11), args := #[Operand.tmp 87], argTypes := #[23] }, type := 30, pos := "exact.go:3922", after := #[{ on := 2, ground := Ground.data }, { on := 1, ground := Ground.chain }], guard := none }) rfl (fun K hK => ?k140) AllReadyH.nil
            case k140 =>
              go_simp
              refine (hto_a _ (bel_then HB0.out (bel_then B12 hHeld.2.2.2.2.2.2.2.2.2.2.2.2.2.2.2)) f_a).mono ?_
              rintro e V3 ⟨rfl, b3⟩
              refine hK.out _ _ ?h141 (fun hHeld => ?j141)
              case h141 => exact HK.out _ _ b3 hHeld
              clear hK K
              try simp only [Act.put, List.setIfInBounds_toArray, List.set_cons_zero, List.set_cons_succ]
              have s3_ := b3.size
              replace F0 := Aside0.mk (below_blk F0.out b3)
              replace Tx0 := Aside0.mk (Kd.R_below Tx0.out b3)
              replace Tx1 := Aside0.mk (Kd.R_below Tx1.out b3)
              refine wpAnyH_ready (rs := [4]) (by kernel_rfl) (by simp) ?_
              refine AllReadyH.cons (o := { dst := some 89, op := Op.call { callee := Callee.value (Operand.func 12), args := #[Operand.tmp 86, Operand.tmp 88], argTypes := #[38, 30] }, type := 34, pos := "exact.go:3922", after := #[{ on := 1, ground := Ground.data }, { on := 3, ground := Ground.data }, { on := 3, ground := Ground.chain }], guard := none }) rfl (fun K hK => ?k142) AllReadyH.nil
              case k142 =>
                go_simp
                have hcl := bounceOf_any x Qx0 qx0 Qx1 qx1 a V3 f_x f_a (Kd.R_reads' Tx0.out).2.2 (Kd.R_reads' Tx1.out).2.2 (HG.out.below (bel_then HB0.out (bel_then B12 hHeld.2.2.2.2.2.2.2.2.2.2.2.2.2.2.2)))
                rw [HV0.out, HV1.out] at hcl
                refine hcl.mono ?_
                clear hcl
                rintro e V4 ⟨H0_0, hd0_0, H0_1, hd0_1, rfl, gu0_0, gu0_1, b4⟩
                refine hK.out _ _ ?h143 (fun hHeld => ?j143)
                case h143 => exact HK.out _ _ b4 hHeld
                clear hK K
                try simp only [Act.put, List.setIfInBounds_toArray, List.set_cons_zero, List.set_cons_succ]
                have U0_0 := Aside0.mk (Kd.R_lower (base' := w12.heap.size) (Kd.R_mono (Kd.R_bound gu0_0) (ok' := fun q => V3.heap.size ≤ q ∧ q < V4.heap.size) (fun q hq => ⟨hq.2.1, hq.2.2.1⟩)) (by have := hHeld.2.2.2.2.2.2.2.2.2.2.2.2.2.2.2.size; omega))
                have U0_1 := Aside0.mk (Kd.R_lower (base' := w12.heap.size) (Kd.R_mono (Kd.R_bound gu0_1) (ok' := fun q => V3.heap.size ≤ q ∧ q < V4.heap.size) (fun q hq => ⟨hq.2.1, hq.2.2.1⟩)) (by have := hHeld.2.2.2.2.2.2.2.2.2.2.2.2.2.2.2.size; omega))
                clear gu0_0 gu0_1
                have s4_ := b4.size
                replace F0 := Aside0.mk (below_blk F0.out b4)
                replace Tx0 := Aside0.mk (Kd.R_below Tx0.out b4)
                replace Tx1 := Aside0.mk (Kd.R_below Tx1.out b4)
                refine wpAnyH_take (i := 5) (oi := { dst := some 84, op := Op.move (Operand.tmp 89), type := 34, pos := "exact.go:3922", after := #[{ on := 4, ground := Ground.data }], guard := none }) (v := ?v144) rfl (by kernel_rfl) (by kernel_rfl) (by kernel_rfl) (fun _ _ _ h => h) (Or.inl ⟨by rfl, ?y144⟩) (by assumption) ?r144
                case y144 => intro w_ hSw; (try dsimp only at hSw); go_simp; (try (with_reducible rfl))
                try simp only [Act.put, List.setIfInBounds_toArray, List.set_cons_zero, List.set_cons_succ]
                refine wpAnyH_take (i := 6) (oi := { dst := some 90, op := Op.extract (Operand.tmp 84) 0, type := 33, pos := "exact.go:3922", after := #[{ on := 5, ground := Ground.data }], guard := none }) (v := ?v145) rfl (by kernel_rfl) (by kernel_rfl) (by kernel_rfl) (fun _ _ _ h => h) (Or.inl ⟨by rfl, ?y145⟩) (by assumption) ?r145
                case y145 => intro w_ hSw; (try dsimp only at hSw); go_simp; (try (with_reducible rfl))
                try simp only [Act.put, List.setIfInBounds_toArray, List.set_cons_zero, List.set_cons_succ]
                refine wpAnyH_take (i := 7) (oi := { dst := some 91, op := Op.extract (Operand.tmp 84) 1, type := 4, pos := "exact.go:3922", after := #[{ on := 5, ground := Ground.data }, { on := 9, ground := Ground.gcOnly Departure.lateStores }], guard := none }) (v := ?v146) rfl (by kernel_rfl) (by kernel_rfl) (by kernel_rfl) (fun _ _ _ h => h) (Or.inl ⟨by rfl, ?y146⟩) (by assumption) ?r146
                case y146 => intro w_ hSw; (try dsimp only at hSw); go_simp; (try (with_reducible rfl))
                try simp only [Act.put, List.setIfInBounds_toArray, List.set_cons_zero, List.set_cons_succ]
                refine wpAnyH_ready (rs := [9]) (by kernel_rfl) (by simp) ?_
                refine AllReadyH.cons (o := { dst := none, op := Op.store 33 (Operand.tmp 14) (Operand.tmp 90), type := 0, pos := "exact.go:3922", after := #[{ on := 8, ground := Ground.data }, { on := 6, ground := Ground.data }, { on := 4, ground := Ground.chain }, { on := 0, ground := Ground.phase }, { on := 1, ground := Ground.phase }, { on := 2, ground := Ground.phase }, { on := 3, ground := Ground.phase }, { on := 4, ground := Ground.phase }, { on := 5, ground := Ground.phase }, { on := 6, ground := Ground.phase }, { on := 7, ground := Ground.textOnly Departure.lateStores }, { on := 8, ground := Ground.phase }], guard := none }) rfl (fun K hK => ?k147) AllReadyH.nil
                case k147 =>
                  have hb7 := F0.out
                  have v0_ : V4.cell? ⟨g0, 0, none⟩ = some (.string ⟨#[]⟩) := by simp [World.cell?, hb7]
                  have v1_ : V4.cell? ⟨g0, 1, none⟩ = some (.string ⟨#[]⟩) := by simp [World.cell?, hb7]
                  have v2_ : V4.cell? ⟨g0, 2, none⟩ = some (.slice none 0 0) := by simp [World.cell?, hb7]
                  have v3_ : V4.cell? ⟨g0, 3, none⟩ = some (.slice none 0 0) := by simp [World.cell?, hb7]
                  have u0_ : V4.frozen? ⟨g0, 0, none⟩ = false := by simp [World.frozen?, hb7]
                  have u1_ : V4.frozen? ⟨g0, 1, none⟩ = false := by simp [World.frozen?, hb7]
                  have u2_ : V4.frozen? ⟨g0, 2, none⟩ = false := by simp [World.frozen?, hb7]
                  have u3_ : V4.frozen? ⟨g0, 3, none⟩ = false := by simp [World.frozen?, hb7]
                  go_simp
                  generalize hV9 : World.setCell (World.setCell (World.setCell (World.setCell V4 ⟨g0, 0, none⟩ _) ⟨g0, 1, none⟩ _) ⟨g0, 2, none⟩ _) ⟨g0, 3, none⟩ _ = V9
                  have G9 : V4.grownBy V9 (some g0) := by rw [← hV9]; exact (((grown_set1 _ _ _ _).trans (grown_set1 _ _ _ _)).trans (grown_set1 _ _ _ _)).trans (grown_set1 _ _ _ _)
                  have FF0 : V9.heap[g0]? = some (.cells #[.string M0.f0.f0, .string M0.f0.f1, .slice H0_0 M0.f1.length hd0_0, .slice H0_1 M0.f2.length hd0_1] 33 (0, 0)) := by rw [← hV9, blk_set1 (blk_set1 (blk_set1 (blk_set1 (F0.out) 0 _) 1 _) 2 _) 3 _]; simp
                  have BB : Below w12.heap.size w12 V9 := by rw [← hV9]; exact (bel_set (bel_set (bel_set (bel_set (hHeld.2.2.2.2.2.2.2.2.2.2.2.2.2.2.2) _ al0) _ al0) _ al0) _ al0)
                  clear hV9
                  refine hK.out _ _ ?h148 (fun hHeld => ?j148)
                  case h148 => (exact ⟨(World.cell?_of_block (G9.block _ (World.block_lt_of_cell? _ _ hHeld.1) (fun e => by have e := Option.some.inj e; (try dsimp only at e); omega))).trans hHeld.1, (World.cell?_of_block (G9.block _ (World.block_lt_of_cell? _ _ hHeld.2.1) (fun e => by have e := Option.some.inj e; (try dsimp only at e); omega))).trans hHeld.2.1, (World.cell?_of_block (G9.block _ (World.block_lt_of_cell? _ _ hHeld.2.2.1) (fun e => by have e := Option.some.inj e; (try dsimp only at e); omega))).trans hHeld.2.2.1, (World.cell?_of_block (G9.block _ (World.block_lt_of_cell? _ _ hHeld.2.2.2.1) (fun e => by have e := Option.some.inj e; (try dsimp only at e); omega))).trans hHeld.2.2.2.1, (World.cell?_of_block (G9.block _ (World.block_lt_of_cell? _ _ hHeld.2.2.2.2.1) (fun e => by have e := Option.some.inj e; (try dsimp only at e); omega))).trans hHeld.2.2.2.2.1, (World.cell?_of_block (G9.block _ (World.block_lt_of_cell? _ _ hHeld.2.2.2.2.2.1) (fun e => by have e := Option.some.inj e; (try dsimp only at e); omega))).trans hHeld.2.2.2.2.2.1, (World.cell?_of_block (G9.block _ (World.block_lt_of_cell? _ _ hHeld.2.2.2.2.2.2.1) (fun e => by have e := Option.some.inj e; (try dsimp only at e); omega))).trans hHeld.2.2.2.2.2.2.1, (World.cell?_of_block (G9.block _ (World.block_lt_of_cell? _ _ hHeld.2.2.2.2.2.2.2.1) (fun e => by have e := Option.some.inj e; (try dsimp only at e); omega))).trans hHeld.2.2.2.2.2.2.2.1, (World.cell?_of_block (G9.block _ (World.block_lt_of_cell? _ _ hHeld.2.2.2.2.2.2.2.2.1) (fun e => by have e := Option.some.inj e; (try dsimp only at e); omega))).trans hHeld.2.2.2.2.2.2.2.2.1, (World.cell?_of_block (G9.block _ (World.block_lt_of_cell? _ _ hHeld.2.2.2.2.2.2.2.2.2.1) (fun e => by have e := Option.some.inj e; (try dsimp only at e); omega))).trans hHeld.2.2.2.2.2.2.2.2.2.1, (World.cell?_of_block (G9.block _ (World.block_lt_of_cell? _ _ hHeld.2.2.2.2.2.2.2.2.2.2.1) (fun e => by have e := Option.some.inj e; (try dsimp only at e); omega))).trans hHeld.2.2.2.2.2.2.2.2.2.2.1, (World.cell?_of_block (G9.block _ (World.block_lt_of_cell? _ _ hHeld.2.2.2.2.2.2.2.2.2.2.2.1) (fun e => by have e := Option.some.inj e; (try dsimp only at e); omega))).trans hHeld.2.2.2.2.2.2.2.2.2.2.2.1, (World.cell?_of_block (G9.block _ (World.block_lt_of_cell? _ _ hHeld.2.2.2.2.2.2.2.2.2.2.2.2.1) (fun e => by have e := Option.some.inj e; (try dsimp only at e); omega))).trans hHeld.2.2.2.2.2.2.2.2.2.2.2.2.1, (World.cell?_of_block (G9.block _ (World.block_lt_of_cell? _ _ hHeld.2.2.2.2.2.2.2.2.2.2.2.2.2.1) (fun e => by have e := Option.some.inj e; (try dsimp only at e); omega))).trans hHeld.2.2.2.2.2.2.2.2.2.2.2.2.2.1, (World.cell?_of_block (G9.block _ (World.block_lt_of_cell? _ _ hHeld.2.2.2.2.2.2.2.2.2.2.2.2.2.2.1) (fun e => by have e := Option.some.inj e; (try dsimp only at e); omega))).trans hHeld.2.2.2.2.2.2.2.2.2.2.2.2.2.2.1, BB⟩)
                  clear hK K
                  try simp only [Act.put, List.setIfInBounds_toArray, List.set_cons_zero, List.set_cons_succ]
                  replace U0_0 := Aside0.mk (Kd.R_grown U0_0.out G9 (fun q hq e => by injection e with e; have h1 := hq.1; have h2 := hq.2; omega))
                  replace U0_1 := Aside0.mk (Kd.R_grown U0_1.out G9 (fun q hq e => by injection e with e; have h1 := hq.1; have h2 := hq.2; omega))
                  replace F0 := Aside0.mk FF0
                  have s9_ : V4.heap.size ≤ V9.heap.size := G9.size
                  refine wpAnyH_take (i := 10) (oi := { dst := some 15, op := Op.assign (Operand.tmp 91), type := 4, pos := "exact.go:3922", after := #[{ on := 7, ground := Ground.data }, { on := 9, ground := Ground.chain }, { on := 0, ground := Ground.phase }, { on := 1, ground := Ground.phase }, { on := 2, ground := Ground.phase }, { on := 3, ground := Ground.phase }, { on := 4, ground := Ground.phase }, { on := 5, ground := Ground.phase }, { on := 6, ground := Ground.phase }, { on := 7, ground := Ground.phase }, { on := 8, ground := Ground.phase }, { on := 9, ground := Ground.phase }], guard := none }) (v := ?v149) rfl (by kernel_rfl) (by kernel_rfl) (by kernel_rfl) (fun _ _ _ h => h) (Or.inl ⟨by rfl, ?y149⟩) (by assumption) ?r149
                  case y149 => intro w_ hSw; (try dsimp only at hSw); go_simp; (try (with_reducible rfl))
                  try simp only [Act.put, List.setIfInBounds_toArray, List.set_cons_zero, List.set_cons_succ]
                  refine wpAnyH_done (by kernel_rfl) ?_ _
                  exact HKK.out H0_0 hd0_0 H0_1 hd0_1 Qx0 qx0 Qx1 qx1 g0 V9 ⟨hHeld.2.2.2.2.2.2.2.2.2.2.2.2.2.2.2, (by omega), Kd.R_mono U0_0.out (fun q hq => by have h1 := hq.1; have h2 := hq.2; refine ⟨?_, ?_, ?_⟩ <;> omega), Kd.R_mono U0_1.out (fun q hq => by have h1 := hq.1; have h2 := hq.2; refine ⟨?_, ?_, ?_⟩ <;> omega), F0.out⟩
      case hk =>
        intro H0_0 hd0_0 H0_1 hd0_1 Qx0 qx0 Qx1 qx1 gh0 w13 ⟨bb13, agh0, hHH0_0, hHH0_1, fgh0⟩
        clear HST HK join
        have B13 := bel_then B12 bb13
        have sz13 := bb13.size
        replace HW0_0 := Aside0.mk (Kd.R_below HW0_0.out bb13)
        replace HW0_1 := Aside0.mk (Kd.R_below HW0_1.out bb13)
        replace HG0_0 := Aside0.mk (Kd.R_below HG0_0.out bb13)
        replace HG0_1 := Aside0.mk (Kd.R_below HG0_1.out bb13)
        replace Fgw0 := Aside0.mk (below_blk Fgw0.out bb13)
        replace Fgg0 := Aside0.mk (below_blk Fgg0.out bb13)
        have HH0_0 := Aside0.mk hHH0_0
        clear hHH0_0
        have HH0_1 := Aside0.mk hHH0_1
        clear hHH0_1
        have Fgh0 := Aside0.mk fgh0
        have ubgh0 : gh0 < w13.heap.size := blk_lt fgh0
        clear fgh0
        clear zz0_ zz1_ lFgw0 lFgg0
        obtain ⟨c0_, c1_, c2_, c3_, c4_, c5_, c6_⟩ := HC.out _ B13
        have zz0_ : w.heap.size < w13.heap.size := Nat.lt_of_lt_of_le Z0 B13.size
        have zz1_ : w.heap.size + 1 < w13.heap.size := Nat.lt_of_lt_of_le Z1 B13.size
        have yFgw0_0 : w13.cell? ⟨gw0, 0, none⟩ = some (.string M0.f0.f0) := by simp [World.cell?, Fgw0.out]
        have yFgw0_1 : w13.cell? ⟨gw0, 1, none⟩ = some (.string M0.f0.f1) := by simp [World.cell?, Fgw0.out]
        have yFgw0_2 : w13.cell? ⟨gw0, 2, none⟩ = some (.slice D0_0 M0.f1.length dd0_0) := by simp [World.cell?, Fgw0.out]
        have yFgw0_3 : w13.cell? ⟨gw0, 3, none⟩ = some (.slice D0_1 M0.f2.length dd0_1) := by simp [World.cell?, Fgw0.out]
        have lFgw0 : gw0 < w13.heap.size := blk_lt Fgw0.out
        have yFgg0_0 : w13.cell? ⟨gg0, 0, none⟩ = some (.string M0.f0.f0) := by simp [World.cell?, Fgg0.out]
        have yFgg0_1 : w13.cell? ⟨gg0, 1, none⟩ = some (.string M0.f0.f1) := by simp [World.cell?, Fgg0.out]
        have yFgg0_2 : w13.cell? ⟨gg0, 2, none⟩ = some (.slice G0_0 M0.f1.length gd0_0) := by simp [World.cell?, Fgg0.out]
        have yFgg0_3 : w13.cell? ⟨gg0, 3, none⟩ = some (.slice G0_1 M0.f2.length gd0_1) := by simp [World.cell?, Fgg0.out]
        have lFgg0 : gg0 < w13.heap.size := blk_lt Fgg0.out
        have yFgh0_0 : w13.cell? ⟨gh0, 0, none⟩ = some (.string M0.f0.f0) := by simp [World.cell?, Fgh0.out]
        have yFgh0_1 : w13.cell? ⟨gh0, 1, none⟩ = some (.string M0.f0.f1) := by simp [World.cell?, Fgh0.out]
        have yFgh0_2 : w13.cell? ⟨gh0, 2, none⟩ = some (.slice H0_0 M0.f1.length hd0_0) := by simp [World.cell?, Fgh0.out]
        have yFgh0_3 : w13.cell? ⟨gh0, 3, none⟩ = some (.slice H0_1 M0.f2.length hd0_1) := by simp [World.cell?, Fgh0.out]
        have lFgh0 : gh0 < w13.heap.size := blk_lt Fgh0.out
        have hcall := fun (W : World) (hW : Below w13.heap.size w13 W) => eqMail_any M0 H0_0 hd0_0 H0_1 hd0_1 D0_0 dd0_0 D0_1 dd0_1 W HVF0.out (Kd.C_below (Kd.R_reads' HH0_0.out).2.2 hW) (Kd.C_below (Kd.R_reads' HH0_1.out).2.2 hW) (Kd.C_below (Kd.R_reads' HW0_0.out).2.2 hW) (Kd.C_below (Kd.R_reads' HW0_1.out).2.2 hW)
        go_wp2_with fail
        refine (hcall _ (Below.refl _ _)).mono ?_
        rintro e w14 ⟨rfl, b14⟩
        clear hcall
        have bb14 := bel_then (Below.refl w13.heap.size w13) b14
        have B14 := bel_then B13 bb14
        have sz14 := bb14.size
        replace HW0_0 := Aside0.mk (Kd.R_below HW0_0.out bb14)
        replace HW0_1 := Aside0.mk (Kd.R_below HW0_1.out bb14)
        replace HG0_0 := Aside0.mk (Kd.R_below HG0_0.out bb14)
        replace HG0_1 := Aside0.mk (Kd.R_below HG0_1.out bb14)
        replace HH0_0 := Aside0.mk (Kd.R_below HH0_0.out bb14)
        replace HH0_1 := Aside0.mk (Kd.R_below HH0_1.out bb14)
        replace Fgw0 := Aside0.mk (below_blk Fgw0.out bb14)
        replace Fgg0 := Aside0.mk (below_blk Fgg0.out bb14)
        replace Fgh0 := Aside0.mk (below_blk Fgh0.out bb14)
        clear c0_ c1_ c2_ c3_ c4_ c5_ c6_ zz0_ zz1_ yFgw0_0 yFgw0_1 yFgw0_2 yFgw0_3 lFgw0 yFgg0_0 yFgg0_1 yFgg0_2 yFgg0_3 lFgg0 yFgh0_0 yFgh0_1 yFgh0_2 yFgh0_3 lFgh0
        obtain ⟨c0_, c1_, c2_, c3_, c4_, c5_, c6_⟩ := HC.out _ B14
        have zz0_ : w.heap.size < w14.heap.size := Nat.lt_of_lt_of_le Z0 B14.size
        have zz1_ : w.heap.size + 1 < w14.heap.size := Nat.lt_of_lt_of_le Z1 B14.size
        have yFgw0_0 : w14.cell? ⟨gw0, 0, none⟩ = some (.string M0.f0.f0) := by simp [World.cell?, Fgw0.out]
        have yFgw0_1 : w14.cell? ⟨gw0, 1, none⟩ = some (.string M0.f0.f1) := by simp [World.cell?, Fgw0.out]
        have yFgw0_2 : w14.cell? ⟨gw0, 2, none⟩ = some (.slice D0_0 M0.f1.length dd0_0) := by simp [World.cell?, Fgw0.out]
        have yFgw0_3 : w14.cell? ⟨gw0, 3, none⟩ = some (.slice D0_1 M0.f2.length dd0_1) := by simp [World.cell?, Fgw0.out]
        have lFgw0 : gw0 < w14.heap.size := blk_lt Fgw0.out
        have yFgg0_0 : w14.cell? ⟨gg0, 0, none⟩ = some (.string M0.f0.f0) := by simp [World.cell?, Fgg0.out]
        have yFgg0_1 : w14.cell? ⟨gg0, 1, none⟩ = some (.string M0.f0.f1) := by simp [World.cell?, Fgg0.out]
        have yFgg0_2 : w14.cell? ⟨gg0, 2, none⟩ = some (.slice G0_0 M0.f1.length gd0_0) := by simp [World.cell?, Fgg0.out]
        have yFgg0_3 : w14.cell? ⟨gg0, 3, none⟩ = some (.slice G0_1 M0.f2.length gd0_1) := by simp [World.cell?, Fgg0.out]
        have lFgg0 : gg0 < w14.heap.size := blk_lt Fgg0.out
        have yFgh0_0 : w14.cell? ⟨gh0, 0, none⟩ = some (.string M0.f0.f0) := by simp [World.cell?, Fgh0.out]
        have yFgh0_1 : w14.cell? ⟨gh0, 1, none⟩ = some (.string M0.f0.f1) := by simp [World.cell?, Fgh0.out]
        have yFgh0_2 : w14.cell? ⟨gh0, 2, none⟩ = some (.slice H0_0 M0.f1.length hd0_0) := by simp [World.cell?, Fgh0.out]
        have yFgh0_3 : w14.cell? ⟨gh0, 3, none⟩ = some (.slice H0_1 M0.f2.length hd0_1) := by simp [World.cell?, Fgh0.out]
        have lFgh0 : gh0 < w14.heap.size := blk_lt Fgh0.out
        clear b14 bb14
        have hC0 := (Kd.R_reads' HG0_0.out).2.2
        rw [mksAddr_length] at hC0
        have hC1 := (Kd.R_reads' HG0_1.out).2.2
        rw [mksString_length] at hC1
        have hcall := fun (W : World) (hW : Below w14.heap.size w14 W) => calls_at (a := 1) rfl (heldMail_any M0 G0_0 gd0_0 G0_1 gd0_1 1 W hl0_0 hl0_1 (Kd.C_below hC0 hW) (Kd.C_below hC1 hW) (by omega))
        go_wp2_with fail
        refine (hcall _ (Below.refl _ _)).mono ?_
        rintro e w15 ⟨he, b15⟩
        clear hcall
        obtain rfl : e = .returned (.int .i64 (m11 : Int)) := by rw [he, RV0.out]
        have bb15 := bel_then (Below.refl w14.heap.size w14) b15
        have B15 := bel_then B14 bb15
        have sz15 := bb15.size
        replace HW0_0 := Aside0.mk (Kd.R_below HW0_0.out bb15)
        replace HW0_1 := Aside0.mk (Kd.R_below HW0_1.out bb15)
        replace HG0_0 := Aside0.mk (Kd.R_below HG0_0.out bb15)
        replace HG0_1 := Aside0.mk (Kd.R_below HG0_1.out bb15)
        replace HH0_0 := Aside0.mk (Kd.R_below HH0_0.out bb15)
        replace HH0_1 := Aside0.mk (Kd.R_below HH0_1.out bb15)
        replace Fgw0 := Aside0.mk (below_blk Fgw0.out bb15)
        replace Fgg0 := Aside0.mk (below_blk Fgg0.out bb15)
        replace Fgh0 := Aside0.mk (below_blk Fgh0.out bb15)
        clear c0_ c1_ c2_ c3_ c4_ c5_ c6_ zz0_ zz1_ yFgw0_0 yFgw0_1 yFgw0_2 yFgw0_3 lFgw0 yFgg0_0 yFgg0_1 yFgg0_2 yFgg0_3 lFgg0 yFgh0_0 yFgh0_1 yFgh0_2 yFgh0_3 lFgh0
        obtain ⟨c0_, c1_, c2_, c3_, c4_, c5_, c6_⟩ := HC.out _ B15
        have zz0_ : w.heap.size < w15.heap.size := Nat.lt_of_lt_of_le Z0 B15.size
        have zz1_ : w.heap.size + 1 < w15.heap.size := Nat.lt_of_lt_of_le Z1 B15.size
        have yFgw0_0 : w15.cell? ⟨gw0, 0, none⟩ = some (.string M0.f0.f0) := by simp [World.cell?, Fgw0.out]
        have yFgw0_1 : w15.cell? ⟨gw0, 1, none⟩ = some (.string M0.f0.f1) := by simp [World.cell?, Fgw0.out]
        have yFgw0_2 : w15.cell? ⟨gw0, 2, none⟩ = some (.slice D0_0 M0.f1.length dd0_0) := by simp [World.cell?, Fgw0.out]
        have yFgw0_3 : w15.cell? ⟨gw0, 3, none⟩ = some (.slice D0_1 M0.f2.length dd0_1) := by simp [World.cell?, Fgw0.out]
        have lFgw0 : gw0 < w15.heap.size := blk_lt Fgw0.out
        have yFgg0_0 : w15.cell? ⟨gg0, 0, none⟩ = some (.string M0.f0.f0) := by simp [World.cell?, Fgg0.out]
        have yFgg0_1 : w15.cell? ⟨gg0, 1, none⟩ = some (.string M0.f0.f1) := by simp [World.cell?, Fgg0.out]
        have yFgg0_2 : w15.cell? ⟨gg0, 2, none⟩ = some (.slice G0_0 M0.f1.length gd0_0) := by simp [World.cell?, Fgg0.out]
        have yFgg0_3 : w15.cell? ⟨gg0, 3, none⟩ = some (.slice G0_1 M0.f2.length gd0_1) := by simp [World.cell?, Fgg0.out]
        have lFgg0 : gg0 < w15.heap.size := blk_lt Fgg0.out
        have yFgh0_0 : w15.cell? ⟨gh0, 0, none⟩ = some (.string M0.f0.f0) := by simp [World.cell?, Fgh0.out]
        have yFgh0_1 : w15.cell? ⟨gh0, 1, none⟩ = some (.string M0.f0.f1) := by simp [World.cell?, Fgh0.out]
        have yFgh0_2 : w15.cell? ⟨gh0, 2, none⟩ = some (.slice H0_0 M0.f1.length hd0_0) := by simp [World.cell?, Fgh0.out]
        have yFgh0_3 : w15.cell? ⟨gh0, 3, none⟩ = some (.slice H0_1 M0.f2.length hd0_1) := by simp [World.cell?, Fgh0.out]
        have lFgh0 : gh0 < w15.heap.size := blk_lt Fgh0.out
        clear he b15 bb15 hC0 hC1
        go_wp2
        go_ret
        exact ⟨rfl, bel_then HB0.out B15⟩
end Go.Proofs.YtejiifmopopflaaDoor
