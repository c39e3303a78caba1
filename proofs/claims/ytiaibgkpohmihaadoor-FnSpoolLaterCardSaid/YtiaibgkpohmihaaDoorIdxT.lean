/- slices.IndexFunc and slices.ContainsFunc over the program's element types: contracts. -/
import Derived.Test.YtiaibgkpohmihaaDoorKit0
import Derived.Test.YtiaibgkpohmihaaDoorIdx
import Derived.Shelf.Abstract
namespace Go.Proofs.YtiaibgkpohmihaaDoor
open Go.RowKit Go.Proofs.YtiaibgkpohmihaaDoorW.PrintWords
set_option linter.unusedVariables false
set_option linter.unusedSimpArgs false
/-- What a predicate over such elements owes. -/
def PredString (g : Nat) (lb : Array Value) (p : ByteArray → Bool) (xs : List ByteArray) (w : World) : Prop :=
 ∀ W x , x ∈ xs → Below w.heap.size w W → Calls Tryd.prog g (#[.string x] ++ lb) W fun e w' => e = .returned (.bool (p x)) ∧ Below W.heap.size W w'

set_option maxRecDepth 100000 in
set_option maxHeartbeats 1000000 in
theorem IndexFunc_String (g : Nat) (lb : Array Value) (p : ByteArray → Bool) (eg : ∀ args w, (callFunc g args).run Tryd.prog w = .ok (.enter g args) w) (A : Option Addr) (c : Nat) (xs : List ByteArray) (w : World)
  (hr : Kd.C Kd.string w A xs.length xs) (hlen : xs.length ≤ 4611686018427387904) (hp : PredString g lb p xs w) :
  Calls Tryd.prog 94 #[.slice A xs.length c, .func (.func g) #[] lb] w fun e w' => e = .returned (.int .i64 (idx p xs)) ∧ Below w.heap.size w w' := by
 go_enter Tryd.func94, Tryd.ntmps94
 go_wp2
 go_loopg [5, 8] (xs.length) (fun gg _ s8 wr => ∃ k : Nat, k ≤ xs.length ∧ xs.length - k ≤ gg ∧ s8 = .int .i64 k ∧ Aside (Below w.heap.size w wr) ∧ Aside (∀ j, j < k → p (xs.getD j (⟨#[]⟩ : ByteArray)) = false))
 case atStart => exact ⟨0, Nat.zero_le _, by omega, rfl, Below.refl _ w, fun j hj => absurd hj (Nat.not_lt_zero _)⟩
 case round =>
  obtain ⟨k, hk, hg, rfl, BW, H⟩ := hrel
  by_cases hlt : k < xs.length
  ·obtain ⟨ad, e1, p0⟩ := at_Str (Kd.C_below hr BW.out) k hlt
   subst e1
   have hm := getD_mem xs (⟨#[]⟩ : ByteArray) hlt
   generalize hy : xs.getD k (⟨#[]⟩ : ByteArray) = y at p0 hm
   have hcall := hp wr y  hm BW.out 
   have HY := Lib.hid hy
   clear hy hp hr 
   cases hq : p y
   all_goals
    rw [hq] at hcall
    have HQ := Lib.hid hq
    clear hq
    go_wp2_with (go_at_fn g; refine hcall.mono ?_; rintro e w' ⟨rfl, hb'⟩)
   ·go_roundg (xs.length - (k + 1))
    case measure => omega
    case rel => exact ⟨k + 1, by omega, by omega, by go_num, BW.out.trans (hb'.mono BW.out.size), fun j hj => by
     by_cases e : j = k
     ·subst e; rw [HY.out]; exact HQ.out
     ·exact H.out j (by omega)⟩
   ·go_ret
    refine ⟨?_, BW.out.trans (hb'.mono BW.out.size)⟩
    rw [idx_hit p xs (⟨#[]⟩ : ByteArray) k hlt (by rw [HY.out]; exact HQ.out) H.out]
    rfl
  ·go_wp2
   go_ret
   refine ⟨?_, BW.out⟩
   rw [idx_miss p xs (⟨#[]⟩ : ByteArray) (fun j hj => H.out j (by omega))]
   rfl
set_option maxRecDepth 100000 in
theorem ContainsFunc_String (g : Nat) (lb : Array Value) (p : ByteArray → Bool) (eg : ∀ args w, (callFunc g args).run Tryd.prog w = .ok (.enter g args) w) (A : Option Addr) (c : Nat) (xs : List ByteArray) (w : World)
  (hr : Kd.C Kd.string w A xs.length xs) (hlen : xs.length ≤ 4611686018427387904) (hp : PredString g lb p xs w) :
  Calls Tryd.prog 75 #[.slice A xs.length c, .func (.func g) #[] lb] w fun e w' => e = .returned (.bool (xs.any p)) ∧ Below w.heap.size w w' := by
 have hcall := IndexFunc_String g lb p eg A c xs w hr hlen hp
 have HI := Lib.hid (idx_any p xs)
 clear hr hp
 generalize idx p xs = i at hcall HI
 go_enter Tryd.func75, Tryd.ntmps75
 go_wp2_with (go_at_call 94; refine hcall.mono ?_; rintro e w' ⟨rfl, hb'⟩)
 go_ret
 exact ⟨retb HI.out, hb'⟩

/-- What a predicate over such elements owes. -/
def PredAddr (g : Nat) (lb : Array Value) (p : SAddr → Bool) (xs : List SAddr) (w : World) : Prop :=
 ∀ W x , x ∈ xs → Below w.heap.size w W → Calls Tryd.prog g (#[.agg #[.string x.f0, .string x.f1]] ++ lb) W fun e w' => e = .returned (.bool (p x)) ∧ Below W.heap.size W w'

set_option maxRecDepth 100000 in
set_option maxHeartbeats 1000000 in
theorem IndexFunc_Addr (g : Nat) (lb : Array Value) (p : SAddr → Bool) (eg : ∀ args w, (callFunc g args).run Tryd.prog w = .ok (.enter g args) w) (A : Option Addr) (c : Nat) (xs : List SAddr) (w : World)
  (hr : Kd.C kAddr w A xs.length xs) (hlen : xs.length ≤ 4611686018427387904) (hp : PredAddr g lb p xs w) :
  Calls Tryd.prog 74 #[.slice A xs.length c, .func (.func g) #[] lb] w fun e w' => e = .returned (.int .i64 (idx p xs)) ∧ Below w.heap.size w w' := by
 go_enter Tryd.func74, Tryd.ntmps74
 go_wp2
 go_loopg [5, 8] (xs.length) (fun gg _ s8 wr => ∃ k : Nat, k ≤ xs.length ∧ xs.length - k ≤ gg ∧ s8 = .int .i64 k ∧ Aside (Below w.heap.size w wr) ∧ Aside (∀ j, j < k → p (xs.getD j zAddr) = false))
 case atStart => exact ⟨0, Nat.zero_le _, by omega, rfl, Below.refl _ w, fun j hj => absurd hj (Nat.not_lt_zero _)⟩
 case round =>
  obtain ⟨k, hk, hg, rfl, BW, H⟩ := hrel
  by_cases hlt : k < xs.length
  ·obtain ⟨ad, e1, p0, p1⟩ := at_Addr (Kd.C_below hr BW.out) k hlt
   subst e1
   have hm := getD_mem xs zAddr hlt
   generalize hy : xs.getD k zAddr = y at p0 p1 hm
   have hcall := hp wr y  hm BW.out 
   have HY := Lib.hid hy
   clear hy hp hr 
   cases hq : p y
   all_goals
    rw [hq] at hcall
    have HQ := Lib.hid hq
    clear hq
    go_wp2_with (go_at_fn g; refine hcall.mono ?_; rintro e w' ⟨rfl, hb'⟩)
   ·go_roundg (xs.length - (k + 1))
    case measure => omega
    case rel => exact ⟨k + 1, by omega, by omega, by go_num, BW.out.trans (hb'.mono BW.out.size), fun j hj => by
     by_cases e : j = k
     ·subst e; rw [HY.out]; exact HQ.out
     ·exact H.out j (by omega)⟩
   ·go_ret
    refine ⟨?_, BW.out.trans (hb'.mono BW.out.size)⟩
    rw [idx_hit p xs zAddr k hlt (by rw [HY.out]; exact HQ.out) H.out]
    rfl
  ·go_wp2
   go_ret
   refine ⟨?_, BW.out⟩
   rw [idx_miss p xs zAddr (fun j hj => H.out j (by omega))]
   rfl
set_option maxRecDepth 100000 in
theorem ContainsFunc_Addr (g : Nat) (lb : Array Value) (p : SAddr → Bool) (eg : ∀ args w, (callFunc g args).run Tryd.prog w = .ok (.enter g args) w) (A : Option Addr) (c : Nat) (xs : List SAddr) (w : World)
  (hr : Kd.C kAddr w A xs.length xs) (hlen : xs.length ≤ 4611686018427387904) (hp : PredAddr g lb p xs w) :
  Calls Tryd.prog 43 #[.slice A xs.length c, .func (.func g) #[] lb] w fun e w' => e = .returned (.bool (xs.any p)) ∧ Below w.heap.size w w' := by
 have hcall := IndexFunc_Addr g lb p eg A c xs w hr hlen hp
 have HI := Lib.hid (idx_any p xs)
 clear hr hp
 generalize idx p xs = i at hcall HI
 go_enter Tryd.func43, Tryd.ntmps43
 go_wp2_with (go_at_call 74; refine hcall.mono ?_; rintro e w' ⟨rfl, hb'⟩)
 go_ret
 exact ⟨retb HI.out, hb'⟩
/-- What a predicate over such elements owes. -/
def PredRcpt (g : Nat) (lb : Array Value) (p : SRcpt → Bool) (xs : List SRcpt) (w : World) : Prop :=
 ∀ W x , x ∈ xs → Below w.heap.size w W → Calls Tryd.prog g (#[.agg #[.string x.f0.f0, .string x.f0.f1, .int .i64 x.f1, .int .i64 x.f2]] ++ lb) W fun e w' => e = .returned (.bool (p x)) ∧ Below W.heap.size W w'

set_option maxRecDepth 100000 in
set_option maxHeartbeats 1000000 in
theorem IndexFunc_Rcpt (g : Nat) (lb : Array Value) (p : SRcpt → Bool) (eg : ∀ args w, (callFunc g args).run Tryd.prog w = .ok (.enter g args) w) (A : Option Addr) (c : Nat) (xs : List SRcpt) (w : World)
  (hr : Kd.C kRcpt w A xs.length xs) (hlen : xs.length ≤ 4611686018427387904) (hp : PredRcpt g lb p xs w) :
  Calls Tryd.prog 82 #[.slice A xs.length c, .func (.func g) #[] lb] w fun e w' => e = .returned (.int .i64 (idx p xs)) ∧ Below w.heap.size w w' := by
 go_enter Tryd.func82, Tryd.ntmps82
 go_wp2
 go_loopg [5, 8] (xs.length) (fun gg _ s8 wr => ∃ k : Nat, k ≤ xs.length ∧ xs.length - k ≤ gg ∧ s8 = .int .i64 k ∧ Aside (Below w.heap.size w wr) ∧ Aside (∀ j, j < k → p (xs.getD j zRcpt) = false))
 case atStart => exact ⟨0, Nat.zero_le _, by omega, rfl, Below.refl _ w, fun j hj => absurd hj (Nat.not_lt_zero _)⟩
 case round =>
  obtain ⟨k, hk, hg, rfl, BW, H⟩ := hrel
  by_cases hlt : k < xs.length
  ·obtain ⟨ad, e1, p0, p1, p2, p3⟩ := at_Rcpt (Kd.C_below hr BW.out) k hlt
   subst e1
   have hm := getD_mem xs zRcpt hlt
   generalize hy : xs.getD k zRcpt = y at p0 p1 p2 p3 hm
   have hcall := hp wr y  hm BW.out 
   have HY := Lib.hid hy
   clear hy hp hr 
   cases hq : p y
   all_goals
    rw [hq] at hcall
    have HQ := Lib.hid hq
    clear hq
    go_wp2_with (go_at_fn g; refine hcall.mono ?_; rintro e w' ⟨rfl, hb'⟩)
   ·go_roundg (xs.length - (k + 1))
    case measure => omega
    case rel => exact ⟨k + 1, by omega, by omega, by go_num, BW.out.trans (hb'.mono BW.out.size), fun j hj => by
     by_cases e : j = k
     ·subst e; rw [HY.out]; exact HQ.out
     ·exact H.out j (by omega)⟩
   ·go_ret
    refine ⟨?_, BW.out.trans (hb'.mono BW.out.size)⟩
    rw [idx_hit p xs zRcpt k hlt (by rw [HY.out]; exact HQ.out) H.out]
    rfl
  ·go_wp2
   go_ret
   refine ⟨?_, BW.out⟩
   rw [idx_miss p xs zRcpt (fun j hj => H.out j (by omega))]
   rfl

/-- What a predicate over such elements owes. -/
def PredItem (g : Nat) (lb : Array Value) (p : SItem → Bool) (xs : List SItem) (w : World) : Prop :=
 ∀ W x (A0 : Option Addr) (c0 : Nat) (A1 : Option Addr) (c1 : Nat), x ∈ xs → Below w.heap.size w W → Kd.C kRcpt W A0 x.f2.length x.f2 → Kd.C Kd.string W A1 x.f3.length x.f3 → Calls Tryd.prog g (#[.agg #[.int .i64 x.f0, .string x.f1.f0, .string x.f1.f1, .slice A0 x.f2.length c0, .slice A1 x.f3.length c1]] ++ lb) W fun e w' => e = .returned (.bool (p x)) ∧ Below W.heap.size W w'

set_option maxRecDepth 100000 in
set_option maxHeartbeats 1000000 in
theorem IndexFunc_Item (g : Nat) (lb : Array Value) (p : SItem → Bool) (eg : ∀ args w, (callFunc g args).run Tryd.prog w = .ok (.enter g args) w) (A : Option Addr) (c : Nat) (xs : List SItem) (w : World)
  (hr : Kd.C kItem w A xs.length xs) (hlen : xs.length ≤ 4611686018427387904) (hp : PredItem g lb p xs w) :
  Calls Tryd.prog 80 #[.slice A xs.length c, .func (.func g) #[] lb] w fun e w' => e = .returned (.int .i64 (idx p xs)) ∧ Below w.heap.size w w' := by
 go_enter Tryd.func80, Tryd.ntmps80
 go_wp2
 go_loopg [5, 8] (xs.length) (fun gg _ s8 wr => ∃ k : Nat, k ≤ xs.length ∧ xs.length - k ≤ gg ∧ s8 = .int .i64 k ∧ Aside (Below w.heap.size w wr) ∧ Aside (∀ j, j < k → p (xs.getD j zItem) = false))
 case atStart => exact ⟨0, Nat.zero_le _, by omega, rfl, Below.refl _ w, fun j hj => absurd hj (Nat.not_lt_zero _)⟩
 case round =>
  obtain ⟨k, hk, hg, rfl, BW, H⟩ := hrel
  by_cases hlt : k < xs.length
  ·obtain ⟨ad, A0, c0, A1, c1, e1, p0, p1, p2, p3, p4, l0, q0, l1, q1⟩ := at_Item (Kd.C_below hr BW.out) k hlt
   subst e1
   have hm := getD_mem xs zItem hlt
   generalize hy : xs.getD k zItem = y at p0 p1 p2 p3 p4 q0 l0 q1 l1 hm
   have hcall := hp wr y A0 c0 A1 c1 hm BW.out q0 q1
   have HY := Lib.hid hy
   clear hy hp hr q0 l0 q1 l1
   cases hq : p y
   all_goals
    rw [hq] at hcall
    have HQ := Lib.hid hq
    clear hq
    go_wp2_with (go_at_fn g; refine hcall.mono ?_; rintro e w' ⟨rfl, hb'⟩)
   ·go_roundg (xs.length - (k + 1))
    case measure => omega
    case rel => exact ⟨k + 1, by omega, by omega, by go_num, BW.out.trans (hb'.mono BW.out.size), fun j hj => by
     by_cases e : j = k
     ·subst e; rw [HY.out]; exact HQ.out
     ·exact H.out j (by omega)⟩
   ·go_ret
    refine ⟨?_, BW.out.trans (hb'.mono BW.out.size)⟩
    rw [idx_hit p xs zItem k hlt (by rw [HY.out]; exact HQ.out) H.out]
    rfl
  ·go_wp2
   go_ret
   refine ⟨?_, BW.out⟩
   rw [idx_miss p xs zItem (fun j hj => H.out j (by omega))]
   rfl

end Go.Proofs.YtiaibgkpohmihaaDoor
