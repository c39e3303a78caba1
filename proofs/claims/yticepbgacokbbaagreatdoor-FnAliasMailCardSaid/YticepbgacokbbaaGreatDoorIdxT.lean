/- slices.IndexFunc and slices.ContainsFunc over the program's element types: contracts. -/
import Derived.Test.YticepbgacokbbaaGreatDoorKit0
import Derived.Test.YticepbgacokbbaaGreatDoorIdx
import Derived.Shelf.Abstract
namespace Go.Proofs.YticepbgacokbbaaGreatDoor
open Go.RowKit Go.Proofs.YticepbgacokbbaaGreatDoorW.PrintWords
set_option linter.unusedVariables false
set_option linter.unusedSimpArgs false
/-- What a predicate over such elements owes. -/
def PredString (g : Nat) (lb : Array Value) (p : ByteArray → Bool) (xs : List ByteArray) (w : World) : Prop :=
 ∀ W x , x ∈ xs → Below w.heap.size w W → Calls Tryz.prog g (#[.string x] ++ lb) W fun e w' => e = .returned (.bool (p x)) ∧ Below W.heap.size W w'

set_option maxRecDepth 100000 in
set_option maxHeartbeats 1000000 in
theorem IndexFunc_String (g : Nat) (lb : Array Value) (p : ByteArray → Bool) (eg : ∀ args w, (callFunc g args).run Tryz.prog w = .ok (.enter g args) w) (A : Option Addr) (c : Nat) (xs : List ByteArray) (w : World)
  (hr : Kd.C Kd.string w A xs.length xs) (hlen : xs.length ≤ 4611686018427387904) (hp : PredString g lb p xs w) :
  Calls Tryz.prog 95 #[.slice A xs.length c, .func (.func g) #[] lb] w fun e w' => e = .returned (.int .i64 (idx p xs)) ∧ Below w.heap.size w w' := by
 go_enter Tryz.func95, Tryz.ntmps95
 go_wp2
 go_loopg [5, 8] (xs.length) (fun gg _ s8 wr => ∃ k : Nat, k ≤ xs.length ∧ xs.length - k ≤ gg ∧ s8 = .int .i64 k ∧ Aside (Below w.heap.size w wr) ∧ Aside (∀ j, j < k → p (xs.getD j (⟨#[]⟩ : ByteArray)) = false))
 case atStart => exact ⟨0, Nat.zero_le _, by omega, rfl, Below.refl _ w, fun j hj => absurd hj (Nat.not_lt_zero _)⟩
 case round =>
  obtain ⟨k, hk, hg, rfl, BW, H⟩ := hrel
  by_cases hlt : k < xs.length
  ·obtain ⟨ad, e1, p0⟩ := at_Str (Kd.C_below hr BW.out) k hlt
   subst e1
   have hm := getD_mem xs (⟨#[]⟩ : ByteArray) hlt
   generalize hy : xs.getD k (⟨#[]⟩ : ByteArray) = y at p0 hm
   have hcall := hp wr y  hm BW.out 
   have HY := Lib.hid hy
   clear hy hp hr 
   cases hq : p y
   all_goals
    rw [hq] at hcall
    have HQ := Lib.hid hq
    clear hq
    go_wp2_with (go_at_fn g; refine hcall.mono ?_; rintro e w' ⟨rfl, hb'⟩)
   ·go_roundg (xs.length - (k + 1))
    case measure => omega
    case rel => exact ⟨k + 1, by omega, by omega, by go_num, BW.out.trans (hb'.mono BW.out.size), fun j hj => by
     by_cases e : j = k
     ·subst e; rw [HY.out]; exact HQ.out
     ·exact H.out j (by omega)⟩
   ·go_ret
    refine ⟨?_, BW.out.trans (hb'.mono BW.out.size)⟩
    rw [idx_hit p xs (⟨#[]⟩ : ByteArray) k hlt (by rw [HY.out]; exact HQ.out) H.out]
    rfl
  ·go_wp2
   go_ret
   refine ⟨?_, BW.out⟩
   rw [idx_miss p xs (⟨#[]⟩ : ByteArray) (fun j hj => H.out j (by omega))]
   rfl
set_option maxRecDepth 100000 in
theorem ContainsFunc_String (g : Nat) (lb : Array Value) (p : ByteArray → Bool) (eg : ∀ args w, (callFunc g args).run Tryz.prog w = .ok (.enter g args) w) (A : Option Addr) (c : Nat) (xs : List ByteArray) (w : World)
  (hr : Kd.C Kd.string w A xs.length xs) (hlen : xs.length ≤ 4611686018427387904) (hp : PredString g lb p xs w) :
  Calls Tryz.prog 78 #[.slice A xs.length c, .func (.func g) #[] lb] w fun e w' => e = .returned (.bool (xs.any p)) ∧ Below w.heap.size w w' := by
 have hcall := IndexFunc_String g lb p eg A c xs w hr hlen hp
 have HI := Lib.hid (idx_any p xs)
 clear hr hp
 generalize idx p xs = i at hcall HI
 go_enter Tryz.func78, Tryz.ntmps78
 go_wp2_with (go_at_call 95; refine hcall.mono ?_; rintro e w' ⟨rfl, hb'⟩)
 go_ret
 exact ⟨retb HI.out, hb'⟩

/-- What a predicate over such elements owes. -/
def PredAddr (g : Nat) (lb : Array Value) (p : SAddr → Bool) (xs : List SAddr) (w : World) : Prop :=
 ∀ W x , x ∈ xs → Below w.heap.size w W → Calls Tryz.prog g (#[.agg #[.string x.f0, .string x.f1]] ++ lb) W fun e w' => e = .returned (.bool (p x)) ∧ Below W.heap.size W w'

set_option maxRecDepth 100000 in
set_option maxHeartbeats 1000000 in
theorem IndexFunc_Addr (g : Nat) (lb : Array Value) (p : SAddr → Bool) (eg : ∀ args w, (callFunc g args).run Tryz.prog w = .ok (.enter g args) w) (A : Option Addr) (c : Nat) (xs : List SAddr) (w : World)
  (hr : Kd.C kAddr w A xs.length xs) (hlen : xs.length ≤ 4611686018427387904) (hp : PredAddr g lb p xs w) :
  Calls Tryz.prog 77 #[.slice A xs.length c, .func (.func g) #[] lb] w fun e w' => e = .returned (.int .i64 (idx p xs)) ∧ Below w.heap.size w w' := by
 go_enter Tryz.func77, Tryz.ntmps77
 go_wp2
 go_loopg [5, 8] (xs.length) (fun gg _ s8 wr => ∃ k : Nat, k ≤ xs.length ∧ xs.length - k ≤ gg ∧ s8 = .int .i64 k ∧ Aside (Below w.heap.size w wr) ∧ Aside (∀ j, j < k → p (xs.getD j zAddr) = false))
 case atStart => exact ⟨0, Nat.zero_le _, by omega, rfl, Below.refl _ w, fun j hj => absurd hj (Nat.not_lt_zero _)⟩
 case round =>
  obtain ⟨k, hk, hg, rfl, BW, H⟩ := hrel
  by_cases hlt : k < xs.length
  ·obtain ⟨ad, e1, p0, p1⟩ := at_Addr (Kd.C_below hr BW.out) k hlt
   subst e1
   have hm := getD_mem xs zAddr hlt
   generalize hy : xs.getD k zAddr = y at p0 p1 hm
   have hcall := hp wr y  hm BW.out 
   have HY := Lib.hid hy
   clear hy hp hr 
   cases hq : p y
   all_goals
    rw [hq] at hcall
    have HQ := Lib.hid hq
    clear hq
    go_wp2_with (go_at_fn g; refine hcall.mono ?_; rintro e w' ⟨rfl, hb'⟩)
   ·go_roundg (xs.length - (k + 1))
    case measure => omega
    case rel => exact ⟨k + 1, by omega, by omega, by go_num, BW.out.trans (hb'.mono BW.out.size), fun j hj => by
     by_cases e : j = k
     ·subst e; rw [HY.out]; exact HQ.out
     ·exact H.out j (by omega)⟩
   ·go_ret
    refine ⟨?_, BW.out.trans (hb'.mono BW.out.size)⟩
    rw [idx_hit p xs zAddr k hlt (by rw [HY.out]; exact HQ.out) H.out]
    rfl
  ·go_wp2
   go_ret
   refine ⟨?_, BW.out⟩
   rw [idx_miss p xs zAddr (fun j hj => H.out j (by omega))]
   rfl
set_option maxRecDepth 100000 in
theorem ContainsFunc_Addr (g : Nat) (lb : Array Value) (p : SAddr → Bool) (eg : ∀ args w, (callFunc g args).run Tryz.prog w = .ok (.enter g args) w) (A : Option Addr) (c : Nat) (xs : List SAddr) (w : World)
  (hr : Kd.C kAddr w A xs.length xs) (hlen : xs.length ≤ 4611686018427387904) (hp : PredAddr g lb p xs w) :
  Calls Tryz.prog 40 #[.slice A xs.length c, .func (.func g) #[] lb] w fun e w' => e = .returned (.bool (xs.any p)) ∧ Below w.heap.size w w' := by
 have hcall := IndexFunc_Addr g lb p eg A c xs w hr hlen hp
 have HI := Lib.hid (idx_any p xs)
 clear hr hp
 generalize idx p xs = i at hcall HI
 go_enter Tryz.func40, Tryz.ntmps40
 go_wp2_with (go_at_call 77; refine hcall.mono ?_; rintro e w' ⟨rfl, hb'⟩)
 go_ret
 exact ⟨retb HI.out, hb'⟩


end Go.Proofs.YticepbgacokbbaaGreatDoor
