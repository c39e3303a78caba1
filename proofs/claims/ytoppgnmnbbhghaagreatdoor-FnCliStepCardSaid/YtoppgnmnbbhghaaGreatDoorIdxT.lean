/- slices.IndexFunc and slices.ContainsFunc over the program's element types: contracts. -/
import Derived.Test.YtoppgnmnbbhghaaGreatDoorKit0
import Derived.Test.YtoppgnmnbbhghaaGreatDoorIdx
import Derived.Shelf.Abstract
namespace Go.Proofs.YtoppgnmnbbhghaaGreatDoor
open Go.RowKit Go.Proofs.YtoppgnmnbbhghaaGreatDoorW.PrintWords
set_option linter.unusedVariables false
set_option linter.unusedSimpArgs false
/-- What a predicate over such elements owes. -/
def PredString (g : Nat) (lb : Array Value) (p : ByteArray → Bool) (xs : List ByteArray) (w : World) : Prop :=
  ∀ W x , x ∈ xs → Below w.heap.size w W → Calls Tryz.prog g (#[.string x] ++ lb) W fun e w' => e = .returned (.bool (p x)) ∧ Below W.heap.size W w'

set_option maxRecDepth 100000 in
set_option maxHeartbeats 1000000 in
theorem IndexFunc_String (g : Nat) (lb : Array Value) (p : ByteArray → Bool) (eg : ∀ args w, (callFunc g args).run Tryz.prog w = .ok (.enter g args) w) (A : Option Addr) (c : Nat) (xs : List ByteArray) (w : World)
    (hr : Kd.C Kd.string w A xs.length xs) (hlen : xs.length ≤ 4611686018427387904) (hp : PredString g lb p xs w) :
    Calls Tryz.prog 163 #[.slice A xs.length c, .func (.func g) #[] lb] w fun e w' => e = .returned (.int .i64 (idx p xs)) ∧ Below w.heap.size w w' := by
  go_enter Tryz.func163, Tryz.ntmps163
  go_wp2
  go_loopg [5, 8] (xs.length) (fun gg _ s8 wr => ∃ k : Nat, k ≤ xs.length ∧ xs.length - k ≤ gg ∧ s8 = .int .i64 k ∧ Aside (Below w.heap.size w wr) ∧ Aside (∀ j, j < k → p (xs.getD j (⟨#[]⟩ : ByteArray)) = false))
  case atStart => exact ⟨0, Nat.zero_le _, by omega, rfl, Below.refl _ w, fun j hj => absurd hj (Nat.not_lt_zero _)⟩
  case round =>
    obtain ⟨k, hk, hg, rfl, BW, H⟩ := hrel
    by_cases hlt : k < xs.length
    · obtain ⟨ad, e1, p0⟩ := at_Str (Kd.C_below hr BW.out) k hlt
      subst e1
      have hm := getD_mem xs (⟨#[]⟩ : ByteArray) hlt
      generalize hy : xs.getD k (⟨#[]⟩ : ByteArray) = y at p0 hm
      have hcall := hp wr y  hm BW.out 
      have HY := Lib.hid hy
      clear hy hp hr 
      cases hq : p y
      all_goals
        rw [hq] at hcall
        have HQ := Lib.hid hq
        clear hq
        go_wp2_with (go_at_fn g; refine hcall.mono ?_; rintro e w' ⟨rfl, hb'⟩)
      · go_roundg (xs.length - (k + 1))
        case measure => omega
        case rel => exact ⟨k + 1, by omega, by omega, by go_num, BW.out.trans (hb'.mono BW.out.size), fun j hj => by
          by_cases e : j = k
          · subst e; rw [HY.out]; exact HQ.out
          · exact H.out j (by omega)⟩
      · go_ret
        refine ⟨?_, BW.out.trans (hb'.mono BW.out.size)⟩
        rw [idx_hit p xs (⟨#[]⟩ : ByteArray) k hlt (by rw [HY.out]; exact HQ.out) H.out]
        rfl
    · go_wp2
      go_ret
      refine ⟨?_, BW.out⟩
      rw [idx_miss p xs (⟨#[]⟩ : ByteArray) (fun j hj => H.out j (by omega))]
      rfl
set_option maxRecDepth 100000 in
theorem ContainsFunc_String (g : Nat) (lb : Array Value) (p : ByteArray → Bool) (eg : ∀ args w, (callFunc g args).run Tryz.prog w = .ok (.enter g args) w) (A : Option Addr) (c : Nat) (xs : List ByteArray) (w : World)
    (hr : Kd.C Kd.string w A xs.length xs) (hlen : xs.length ≤ 4611686018427387904) (hp : PredString g lb p xs w) :
    Calls Tryz.prog 137 #[.slice A xs.length c, .func (.func g) #[] lb] w fun e w' => e = .returned (.bool (xs.any p)) ∧ Below w.heap.size w w' := by
  have hcall := IndexFunc_String g lb p eg A c xs w hr hlen hp
  have HI := Lib.hid (idx_any p xs)
  clear hr hp
  generalize idx p xs = i at hcall HI
  go_enter Tryz.func137, Tryz.ntmps137
  go_wp2_with (go_at_call 163; refine hcall.mono ?_; rintro e w' ⟨rfl, hb'⟩)
  go_ret
  exact ⟨retb HI.out, hb'⟩
/-- What a predicate over such elements owes. -/
def PredInt (g : Nat) (lb : Array Value) (p : Int → Bool) (xs : List Int) (w : World) : Prop :=
  ∀ W x , x ∈ xs → Below w.heap.size w W → Calls Tryz.prog g (#[.int .i64 x] ++ lb) W fun e w' => e = .returned (.bool (p x)) ∧ Below W.heap.size W w'

set_option maxRecDepth 100000 in
set_option maxHeartbeats 1000000 in
theorem IndexFunc_Int (g : Nat) (lb : Array Value) (p : Int → Bool) (eg : ∀ args w, (callFunc g args).run Tryz.prog w = .ok (.enter g args) w) (A : Option Addr) (c : Nat) (xs : List Int) (w : World)
    (hr : Kd.C (Kd.int .i64) w A xs.length xs) (hlen : xs.length ≤ 4611686018427387904) (hp : PredInt g lb p xs w) :
    Calls Tryz.prog 89 #[.slice A xs.length c, .func (.func g) #[] lb] w fun e w' => e = .returned (.int .i64 (idx p xs)) ∧ Below w.heap.size w w' := by
  go_enter Tryz.func89, Tryz.ntmps89
  go_wp2
  go_loopg [5, 8] (xs.length) (fun gg _ s8 wr => ∃ k : Nat, k ≤ xs.length ∧ xs.length - k ≤ gg ∧ s8 = .int .i64 k ∧ Aside (Below w.heap.size w wr) ∧ Aside (∀ j, j < k → p (xs.getD j (0 : Int)) = false))
  case atStart => exact ⟨0, Nat.zero_le _, by omega, rfl, Below.refl _ w, fun j hj => absurd hj (Nat.not_lt_zero _)⟩
  case round =>
    obtain ⟨k, hk, hg, rfl, BW, H⟩ := hrel
    by_cases hlt : k < xs.length
    · obtain ⟨ad, e1, p0⟩ := at_Int (Kd.C_below hr BW.out) k hlt
      subst e1
      have hm := getD_mem xs (0 : Int) hlt
      generalize hy : xs.getD k (0 : Int) = y at p0 hm
      have hcall := hp wr y  hm BW.out 
      have HY := Lib.hid hy
      clear hy hp hr 
      cases hq : p y
      all_goals
        rw [hq] at hcall
        have HQ := Lib.hid hq
        clear hq
        go_wp2_with (go_at_fn g; refine hcall.mono ?_; rintro e w' ⟨rfl, hb'⟩)
      · go_roundg (xs.length - (k + 1))
        case measure => omega
        case rel => exact ⟨k + 1, by omega, by omega, by go_num, BW.out.trans (hb'.mono BW.out.size), fun j hj => by
          by_cases e : j = k
          · subst e; rw [HY.out]; exact HQ.out
          · exact H.out j (by omega)⟩
      · go_ret
        refine ⟨?_, BW.out.trans (hb'.mono BW.out.size)⟩
        rw [idx_hit p xs (0 : Int) k hlt (by rw [HY.out]; exact HQ.out) H.out]
        rfl
    · go_wp2
      go_ret
      refine ⟨?_, BW.out⟩
      rw [idx_miss p xs (0 : Int) (fun j hj => H.out j (by omega))]
      rfl
set_option maxRecDepth 100000 in
theorem ContainsFunc_Int (g : Nat) (lb : Array Value) (p : Int → Bool) (eg : ∀ args w, (callFunc g args).run Tryz.prog w = .ok (.enter g args) w) (A : Option Addr) (c : Nat) (xs : List Int) (w : World)
    (hr : Kd.C (Kd.int .i64) w A xs.length xs) (hlen : xs.length ≤ 4611686018427387904) (hp : PredInt g lb p xs w) :
    Calls Tryz.prog 41 #[.slice A xs.length c, .func (.func g) #[] lb] w fun e w' => e = .returned (.bool (xs.any p)) ∧ Below w.heap.size w w' := by
  have hcall := IndexFunc_Int g lb p eg A c xs w hr hlen hp
  have HI := Lib.hid (idx_any p xs)
  clear hr hp
  generalize idx p xs = i at hcall HI
  go_enter Tryz.func41, Tryz.ntmps41
  go_wp2_with (go_at_call 89; refine hcall.mono ?_; rintro e w' ⟨rfl, hb'⟩)
  go_ret
  exact ⟨retb HI.out, hb'⟩
/-- What a predicate over such elements owes. -/
def PredAddr (g : Nat) (lb : Array Value) (p : SAddr → Bool) (xs : List SAddr) (w : World) : Prop :=
  ∀ W x , x ∈ xs → Below w.heap.size w W → Calls Tryz.prog g (#[.agg #[.string x.f0, .string x.f1]] ++ lb) W fun e w' => e = .returned (.bool (p x)) ∧ Below W.heap.size W w'

set_option maxRecDepth 100000 in
set_option maxHeartbeats 1000000 in
theorem IndexFunc_Addr (g : Nat) (lb : Array Value) (p : SAddr → Bool) (eg : ∀ args w, (callFunc g args).run Tryz.prog w = .ok (.enter g args) w) (A : Option Addr) (c : Nat) (xs : List SAddr) (w : World)
    (hr : Kd.C kAddr w A xs.length xs) (hlen : xs.length ≤ 4611686018427387904) (hp : PredAddr g lb p xs w) :
    Calls Tryz.prog 136 #[.slice A xs.length c, .func (.func g) #[] lb] w fun e w' => e = .returned (.int .i64 (idx p xs)) ∧ Below w.heap.size w w' := by
  go_enter Tryz.func136, Tryz.ntmps136
  go_wp2
  go_loopg [5, 8] (xs.length) (fun gg _ s8 wr => ∃ k : Nat, k ≤ xs.length ∧ xs.length - k ≤ gg ∧ s8 = .int .i64 k ∧ Aside (Below w.heap.size w wr) ∧ Aside (∀ j, j < k → p (xs.getD j zAddr) = false))
  case atStart => exact ⟨0, Nat.zero_le _, by omega, rfl, Below.refl _ w, fun j hj => absurd hj (Nat.not_lt_zero _)⟩
  case round =>
    obtain ⟨k, hk, hg, rfl, BW, H⟩ := hrel
    by_cases hlt : k < xs.length
    · obtain ⟨ad, e1, p0, p1⟩ := at_Addr (Kd.C_below hr BW.out) k hlt
      subst e1
      have hm := getD_mem xs zAddr hlt
      generalize hy : xs.getD k zAddr = y at p0 p1 hm
      have hcall := hp wr y  hm BW.out 
      have HY := Lib.hid hy
      clear hy hp hr 
      cases hq : p y
      all_goals
        rw [hq] at hcall
        have HQ := Lib.hid hq
        clear hq
        go_wp2_with (go_at_fn g; refine hcall.mono ?_; rintro e w' ⟨rfl, hb'⟩)
      · go_roundg (xs.length - (k + 1))
        case measure => omega
        case rel => exact ⟨k + 1, by omega, by omega, by go_num, BW.out.trans (hb'.mono BW.out.size), fun j hj => by
          by_cases e : j = k
          · subst e; rw [HY.out]; exact HQ.out
          · exact H.out j (by omega)⟩
      · go_ret
        refine ⟨?_, BW.out.trans (hb'.mono BW.out.size)⟩
        rw [idx_hit p xs zAddr k hlt (by rw [HY.out]; exact HQ.out) H.out]
        rfl
    · go_wp2
      go_ret
      refine ⟨?_, BW.out⟩
      rw [idx_miss p xs zAddr (fun j hj => H.out j (by omega))]
      rfl
set_option maxRecDepth 100000 in
theorem ContainsFunc_Addr (g : Nat) (lb : Array Value) (p : SAddr → Bool) (eg : ∀ args w, (callFunc g args).run Tryz.prog w = .ok (.enter g args) w) (A : Option Addr) (c : Nat) (xs : List SAddr) (w : World)
    (hr : Kd.C kAddr w A xs.length xs) (hlen : xs.length ≤ 4611686018427387904) (hp : PredAddr g lb p xs w) :
    Calls Tryz.prog 86 #[.slice A xs.length c, .func (.func g) #[] lb] w fun e w' => e = .returned (.bool (xs.any p)) ∧ Below w.heap.size w w' := by
  have hcall := IndexFunc_Addr g lb p eg A c xs w hr hlen hp
  have HI := Lib.hid (idx_any p xs)
  clear hr hp
  generalize idx p xs = i at hcall HI
  go_enter Tryz.func86, Tryz.ntmps86
  go_wp2_with (go_at_call 136; refine hcall.mono ?_; rintro e w' ⟨rfl, hb'⟩)
  go_ret
  exact ⟨retb HI.out, hb'⟩
/-- What a predicate over such elements owes. -/
def PredRcpt (g : Nat) (lb : Array Value) (p : SRcpt → Bool) (xs : List SRcpt) (w : World) : Prop :=
  ∀ W x , x ∈ xs → Below w.heap.size w W → Calls Tryz.prog g (#[.agg #[.string x.f0.f0, .string x.f0.f1, .int .i64 x.f1, .int .i64 x.f2]] ++ lb) W fun e w' => e = .returned (.bool (p x)) ∧ Below W.heap.size W w'

set_option maxRecDepth 100000 in
set_option maxHeartbeats 1000000 in
theorem IndexFunc_Rcpt (g : Nat) (lb : Array Value) (p : SRcpt → Bool) (eg : ∀ args w, (callFunc g args).run Tryz.prog w = .ok (.enter g args) w) (A : Option Addr) (c : Nat) (xs : List SRcpt) (w : World)
    (hr : Kd.C kRcpt w A xs.length xs) (hlen : xs.length ≤ 4611686018427387904) (hp : PredRcpt g lb p xs w) :
    Calls Tryz.prog 100 #[.slice A xs.length c, .func (.func g) #[] lb] w fun e w' => e = .returned (.int .i64 (idx p xs)) ∧ Below w.heap.size w w' := by
  go_enter Tryz.func100, Tryz.ntmps100
  go_wp2
  go_loopg [5, 8] (xs.length) (fun gg _ s8 wr => ∃ k : Nat, k ≤ xs.length ∧ xs.length - k ≤ gg ∧ s8 = .int .i64 k ∧ Aside (Below w.heap.size w wr) ∧ Aside (∀ j, j < k → p (xs.getD j zRcpt) = false))
  case atStart => exact ⟨0, Nat.zero_le _, by omega, rfl, Below.refl _ w, fun j hj => absurd hj (Nat.not_lt_zero _)⟩
  case round =>
    obtain ⟨k, hk, hg, rfl, BW, H⟩ := hrel
    by_cases hlt : k < xs.length
    · obtain ⟨ad, e1, p0, p1, p2, p3⟩ := at_Rcpt (Kd.C_below hr BW.out) k hlt
      subst e1
      have hm := getD_mem xs zRcpt hlt
      generalize hy : xs.getD k zRcpt = y at p0 p1 p2 p3 hm
      have hcall := hp wr y  hm BW.out 
      have HY := Lib.hid hy
      clear hy hp hr 
      cases hq : p y
      all_goals
        rw [hq] at hcall
        have HQ := Lib.hid hq
        clear hq
        go_wp2_with (go_at_fn g; refine hcall.mono ?_; rintro e w' ⟨rfl, hb'⟩)
      · go_roundg (xs.length - (k + 1))
        case measure => omega
        case rel => exact ⟨k + 1, by omega, by omega, by go_num, BW.out.trans (hb'.mono BW.out.size), fun j hj => by
          by_cases e : j = k
          · subst e; rw [HY.out]; exact HQ.out
          · exact H.out j (by omega)⟩
      · go_ret
        refine ⟨?_, BW.out.trans (hb'.mono BW.out.size)⟩
        rw [idx_hit p xs zRcpt k hlt (by rw [HY.out]; exact HQ.out) H.out]
        rfl
    · go_wp2
      go_ret
      refine ⟨?_, BW.out⟩
      rw [idx_miss p xs zRcpt (fun j hj => H.out j (by omega))]
      rfl
set_option maxRecDepth 100000 in
theorem ContainsFunc_Rcpt (g : Nat) (lb : Array Value) (p : SRcpt → Bool) (eg : ∀ args w, (callFunc g args).run Tryz.prog w = .ok (.enter g args) w) (A : Option Addr) (c : Nat) (xs : List SRcpt) (w : World)
    (hr : Kd.C kRcpt w A xs.length xs) (hlen : xs.length ≤ 4611686018427387904) (hp : PredRcpt g lb p xs w) :
    Calls Tryz.prog 56 #[.slice A xs.length c, .func (.func g) #[] lb] w fun e w' => e = .returned (.bool (xs.any p)) ∧ Below w.heap.size w w' := by
  have hcall := IndexFunc_Rcpt g lb p eg A c xs w hr hlen hp
  have HI := Lib.hid (idx_any p xs)
  clear hr hp
  generalize idx p xs = i at hcall HI
  go_enter Tryz.func56, Tryz.ntmps56
  go_wp2_with (go_at_call 100; refine hcall.mono ?_; rintro e w' ⟨rfl, hb'⟩)
  go_ret
  exact ⟨retb HI.out, hb'⟩




end Go.Proofs.YtoppgnmnbbhghaaGreatDoor
