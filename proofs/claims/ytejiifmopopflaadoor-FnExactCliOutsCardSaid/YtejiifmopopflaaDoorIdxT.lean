/- slices.IndexFunc and slices.ContainsFunc over the program's element types: contracts. -/
import Derived.Test.YtejiifmopopflaaDoorKit0
import Derived.Test.YtejiifmopopflaaDoorIdx
import Derived.Shelf.Abstract
namespace Go.Proofs.YtejiifmopopflaaDoor
open Go.RowKit Go.Proofs.YtejiifmopopflaaDoorW.PrintWords
set_option linter.unusedVariables false
set_option linter.unusedSimpArgs false
/-- What a predicate over such elements owes. -/
def PredString (g : Nat) (lb : Array Value) (p : ByteArray → Bool) (xs : List ByteArray) (w : World) : Prop :=
  ∀ W x , x ∈ xs → Below w.heap.size w W → Calls Tryd.prog g (#[.string x] ++ lb) W fun e w' => e = .returned (.bool (p x)) ∧ Below W.heap.size W w'

set_option maxRecDepth 100000 in
set_option maxHeartbeats 1000000 in
theorem IndexFunc_String (g : Nat) (lb : Array Value) (p : ByteArray → Bool) (eg : ∀ args w, (callFunc g args).run Tryd.prog w = .ok (.enter g args) w) (A : Option Addr) (c : Nat) (xs : List ByteArray) (w : World)
    (hr : Kd.C Kd.string w A xs.length xs) (hlen : xs.length ≤ 4611686018427387904) (hp : PredString g lb p xs w) :
    Calls Tryd.prog 126 #[.slice A xs.length c, .func (.func g) #[] lb] w fun e w' => e = .returned (.int .i64 (idx p xs)) ∧ Below w.heap.size w w' := by
  go_enter Tryd.func126, Tryd.ntmps126
  go_wp2
  go_loopg [5, 8] (xs.length) (fun gg _ s8 wr => ∃ k : Nat, k ≤ xs.length ∧ xs.length - k ≤ gg ∧ s8 = .int .i64 k ∧ Aside (Below w.heap.size w wr) ∧ Aside (∀ j, j < k → p (xs.getD j (⟨#[]⟩ : ByteArray)) = false))
  case atStart => exact ⟨0, Nat.zero_le _, by omega, rfl, Below.refl _ w, fun j hj => absurd hj (Nat.not_lt_zero _)⟩
  case round =>
    obtain ⟨k, hk, hg, rfl, BW, H⟩ := hrel
    by_cases hlt : k < xs.length
    · obtain ⟨ad, e1, p0⟩ := at_Str (Kd.C_below hr BW.out) k hlt
      subst e1
      have hm := getD_mem xs (⟨#[]⟩ : ByteArray) hlt
      generalize hy : xs.getD k (⟨#[]⟩ : ByteArray) = y at p0 hm
      have hcall := hp wr y  hm BW.out 
      have HY := Lib.hid hy
      clear hy hp hr 
      cases hq : p y
      all_goals
        rw [hq] at hcall
        have HQ := Lib.hid hq
        clear hq
        go_wp2_with (go_at_fn g; refine hcall.mono ?_; rintro e w' ⟨rfl, hb'⟩)
      · go_roundg (xs.length - (k + 1))
        case measure => omega
        case rel => exact ⟨k + 1, by omega, by omega, by go_num, BW.out.trans (hb'.mono BW.out.size), fun j hj => by
          by_cases e : j = k
          · subst e; rw [HY.out]; exact HQ.out
          · exact H.out j (by omega)⟩
      · go_ret
        refine ⟨?_, BW.out.trans (hb'.mono BW.out.size)⟩
        rw [idx_hit p xs (⟨#[]⟩ : ByteArray) k hlt (by rw [HY.out]; exact HQ.out) H.out]
        rfl
    · go_wp2
      go_ret
      refine ⟨?_, BW.out⟩
      rw [idx_miss p xs (⟨#[]⟩ : ByteArray) (fun j hj => H.out j (by omega))]
      rfl
set_option maxRecDepth 100000 in
theorem ContainsFunc_String (g : Nat) (lb : Array Value) (p : ByteArray → Bool) (eg : ∀ args w, (callFunc g args).run Tryd.prog w = .ok (.enter g args) w) (A : Option Addr) (c : Nat) (xs : List ByteArray) (w : World)
    (hr : Kd.C Kd.string w A xs.length xs) (hlen : xs.length ≤ 4611686018427387904) (hp : PredString g lb p xs w) :
    Calls Tryd.prog 86 #[.slice A xs.length c, .func (.func g) #[] lb] w fun e w' => e = .returned (.bool (xs.any p)) ∧ Below w.heap.size w w' := by
  have hcall := IndexFunc_String g lb p eg A c xs w hr hlen hp
  have HI := Lib.hid (idx_any p xs)
  clear hr hp
  generalize idx p xs = i at hcall HI
  go_enter Tryd.func86, Tryd.ntmps86
  go_wp2_with (go_at_call 126; refine hcall.mono ?_; rintro e w' ⟨rfl, hb'⟩)
  go_ret
  exact ⟨retb HI.out, hb'⟩
/-- What a predicate over such elements owes. -/
def PredInt (g : Nat) (lb : Array Value) (p : Int → Bool) (xs : List Int) (w : World) : Prop :=
  ∀ W x , x ∈ xs → Below w.heap.size w W → Calls Tryd.prog g (#[.int .i64 x] ++ lb) W fun e w' => e = .returned (.bool (p x)) ∧ Below W.heap.size W w'

set_option maxRecDepth 100000 in
set_option maxHeartbeats 1000000 in
theorem IndexFunc_Int (g : Nat) (lb : Array Value) (p : Int → Bool) (eg : ∀ args w, (callFunc g args).run Tryd.prog w = .ok (.enter g args) w) (A : Option Addr) (c : Nat) (xs : List Int) (w : World)
    (hr : Kd.C (Kd.int .i64) w A xs.length xs) (hlen : xs.length ≤ 4611686018427387904) (hp : PredInt g lb p xs w) :
    Calls Tryd.prog 139 #[.slice A xs.length c, .func (.func g) #[] lb] w fun e w' => e = .returned (.int .i64 (idx p xs)) ∧ Below w.heap.size w w' := by
  go_enter Tryd.func139, Tryd.ntmps139
  go_wp2
  go_loopg [5, 8] (xs.length) (fun gg _ s8 wr => ∃ k : Nat, k ≤ xs.length ∧ xs.length - k ≤ gg ∧ s8 = .int .i64 k ∧ Aside (Below w.heap.size w wr) ∧ Aside (∀ j, j < k → p (xs.getD j (0 : Int)) = false))
  case atStart => exact ⟨0, Nat.zero_le _, by omega, rfl, Below.refl _ w, fun j hj => absurd hj (Nat.not_lt_zero _)⟩
  case round =>
    obtain ⟨k, hk, hg, rfl, BW, H⟩ := hrel
    by_cases hlt : k < xs.length
    · obtain ⟨ad, e1, p0⟩ := at_Int (Kd.C_below hr BW.out) k hlt
      subst e1
      have hm := getD_mem xs (0 : Int) hlt
      generalize hy : xs.getD k (0 : Int) = y at p0 hm
      have hcall := hp wr y  hm BW.out 
      have HY := Lib.hid hy
      clear hy hp hr 
      cases hq : p y
      all_goals
        rw [hq] at hcall
        have HQ := Lib.hid hq
        clear hq
        go_wp2_with (go_at_fn g; refine hcall.mono ?_; rintro e w' ⟨rfl, hb'⟩)
      · go_roundg (xs.length - (k + 1))
        case measure => omega
        case rel => exact ⟨k + 1, by omega, by omega, by go_num, BW.out.trans (hb'.mono BW.out.size), fun j hj => by
          by_cases e : j = k
          · subst e; rw [HY.out]; exact HQ.out
          · exact H.out j (by omega)⟩
      · go_ret
        refine ⟨?_, BW.out.trans (hb'.mono BW.out.size)⟩
        rw [idx_hit p xs (0 : Int) k hlt (by rw [HY.out]; exact HQ.out) H.out]
        rfl
    · go_wp2
      go_ret
      refine ⟨?_, BW.out⟩
      rw [idx_miss p xs (0 : Int) (fun j hj => H.out j (by omega))]
      rfl
set_option maxRecDepth 100000 in
theorem ContainsFunc_Int (g : Nat) (lb : Array Value) (p : Int → Bool) (eg : ∀ args w, (callFunc g args).run Tryd.prog w = .ok (.enter g args) w) (A : Option Addr) (c : Nat) (xs : List Int) (w : World)
    (hr : Kd.C (Kd.int .i64) w A xs.length xs) (hlen : xs.length ≤ 4611686018427387904) (hp : PredInt g lb p xs w) :
    Calls Tryd.prog 117 #[.slice A xs.length c, .func (.func g) #[] lb] w fun e w' => e = .returned (.bool (xs.any p)) ∧ Below w.heap.size w w' := by
  have hcall := IndexFunc_Int g lb p eg A c xs w hr hlen hp
  have HI := Lib.hid (idx_any p xs)
  clear hr hp
  generalize idx p xs = i at hcall HI
  go_enter Tryd.func117, Tryd.ntmps117
  go_wp2_with (go_at_call 139; refine hcall.mono ?_; rintro e w' ⟨rfl, hb'⟩)
  go_ret
  exact ⟨retb HI.out, hb'⟩
/-- What a predicate over such elements owes. -/
def PredAddr (g : Nat) (lb : Array Value) (p : SAddr → Bool) (xs : List SAddr) (w : World) : Prop :=
  ∀ W x , x ∈ xs → Below w.heap.size w W → Calls Tryd.prog g (#[.agg #[.string x.f0, .string x.f1]] ++ lb) W fun e w' => e = .returned (.bool (p x)) ∧ Below W.heap.size W w'

set_option maxRecDepth 100000 in
set_option maxHeartbeats 1000000 in
theorem IndexFunc_Addr (g : Nat) (lb : Array Value) (p : SAddr → Bool) (eg : ∀ args w, (callFunc g args).run Tryd.prog w = .ok (.enter g args) w) (A : Option Addr) (c : Nat) (xs : List SAddr) (w : World)
    (hr : Kd.C kAddr w A xs.length xs) (hlen : xs.length ≤ 4611686018427387904) (hp : PredAddr g lb p xs w) :
    Calls Tryd.prog 152 #[.slice A xs.length c, .func (.func g) #[] lb] w fun e w' => e = .returned (.int .i64 (idx p xs)) ∧ Below w.heap.size w w' := by
  go_enter Tryd.func152, Tryd.ntmps152
  go_wp2
  go_loopg [5, 8] (xs.length) (fun gg _ s8 wr => ∃ k : Nat, k ≤ xs.length ∧ xs.length - k ≤ gg ∧ s8 = .int .i64 k ∧ Aside (Below w.heap.size w wr) ∧ Aside (∀ j, j < k → p (xs.getD j zAddr) = false))
  case atStart => exact ⟨0, Nat.zero_le _, by omega, rfl, Below.refl _ w, fun j hj => absurd hj (Nat.not_lt_zero _)⟩
  case round =>
    obtain ⟨k, hk, hg, rfl, BW, H⟩ := hrel
    by_cases hlt : k < xs.length
    · obtain ⟨ad, e1, p0, p1⟩ := at_Addr (Kd.C_below hr BW.out) k hlt
      subst e1
      have hm := getD_mem xs zAddr hlt
      generalize hy : xs.getD k zAddr = y at p0 p1 hm
      have hcall := hp wr y  hm BW.out 
      have HY := Lib.hid hy
      clear hy hp hr 
      cases hq : p y
      all_goals
        rw [hq] at hcall
        have HQ := Lib.hid hq
        clear hq
        go_wp2_with (go_at_fn g; refine hcall.mono ?_; rintro e w' ⟨rfl, hb'⟩)
      · go_roundg (xs.length - (k + 1))
        case measure => omega
        case rel => exact ⟨k + 1, by omega, by omega, by go_num, BW.out.trans (hb'.mono BW.out.size), fun j hj => by
          by_cases e : j = k
          · subst e; rw [HY.out]; exact HQ.out
          · exact H.out j (by omega)⟩
      · go_ret
        refine ⟨?_, BW.out.trans (hb'.mono BW.out.size)⟩
        rw [idx_hit p xs zAddr k hlt (by rw [HY.out]; exact HQ.out) H.out]
        rfl
    · go_wp2
      go_ret
      refine ⟨?_, BW.out⟩
      rw [idx_miss p xs zAddr (fun j hj => H.out j (by omega))]
      rfl
set_option maxRecDepth 100000 in
theorem ContainsFunc_Addr (g : Nat) (lb : Array Value) (p : SAddr → Bool) (eg : ∀ args w, (callFunc g args).run Tryd.prog w = .ok (.enter g args) w) (A : Option Addr) (c : Nat) (xs : List SAddr) (w : World)
    (hr : Kd.C kAddr w A xs.length xs) (hlen : xs.length ≤ 4611686018427387904) (hp : PredAddr g lb p xs w) :
    Calls Tryd.prog 138 #[.slice A xs.length c, .func (.func g) #[] lb] w fun e w' => e = .returned (.bool (xs.any p)) ∧ Below w.heap.size w w' := by
  have hcall := IndexFunc_Addr g lb p eg A c xs w hr hlen hp
  have HI := Lib.hid (idx_any p xs)
  clear hr hp
  generalize idx p xs = i at hcall HI
  go_enter Tryd.func138, Tryd.ntmps138
  go_wp2_with (go_at_call 152; refine hcall.mono ?_; rintro e w' ⟨rfl, hb'⟩)
  go_ret
  exact ⟨retb HI.out, hb'⟩
/-- What a predicate over such elements owes. -/
def PredWay (g : Nat) (lb : Array Value) (p : SWay → Bool) (xs : List SWay) (w : World) : Prop :=
  ∀ W x , x ∈ xs → Below w.heap.size w W → Calls Tryd.prog g (#[.agg #[.string x.f0, .string x.f1]] ++ lb) W fun e w' => e = .returned (.bool (p x)) ∧ Below W.heap.size W w'

set_option maxRecDepth 100000 in
set_option maxHeartbeats 1000000 in
theorem IndexFunc_Way (g : Nat) (lb : Array Value) (p : SWay → Bool) (eg : ∀ args w, (callFunc g args).run Tryd.prog w = .ok (.enter g args) w) (A : Option Addr) (c : Nat) (xs : List SWay) (w : World)
    (hr : Kd.C kWay w A xs.length xs) (hlen : xs.length ≤ 4611686018427387904) (hp : PredWay g lb p xs w) :
    Calls Tryd.prog 127 #[.slice A xs.length c, .func (.func g) #[] lb] w fun e w' => e = .returned (.int .i64 (idx p xs)) ∧ Below w.heap.size w w' := by
  go_enter Tryd.func127, Tryd.ntmps127
  go_wp2
  go_loopg [5, 8] (xs.length) (fun gg _ s8 wr => ∃ k : Nat, k ≤ xs.length ∧ xs.length - k ≤ gg ∧ s8 = .int .i64 k ∧ Aside (Below w.heap.size w wr) ∧ Aside (∀ j, j < k → p (xs.getD j zWay) = false))
  case atStart => exact ⟨0, Nat.zero_le _, by omega, rfl, Below.refl _ w, fun j hj => absurd hj (Nat.not_lt_zero _)⟩
  case round =>
    obtain ⟨k, hk, hg, rfl, BW, H⟩ := hrel
    by_cases hlt : k < xs.length
    · obtain ⟨ad, e1, p0, p1⟩ := at_Way (Kd.C_below hr BW.out) k hlt
      subst e1
      have hm := getD_mem xs zWay hlt
      generalize hy : xs.getD k zWay = y at p0 p1 hm
      have hcall := hp wr y  hm BW.out 
      have HY := Lib.hid hy
      clear hy hp hr 
      cases hq : p y
      all_goals
        rw [hq] at hcall
        have HQ := Lib.hid hq
        clear hq
        go_wp2_with (go_at_fn g; refine hcall.mono ?_; rintro e w' ⟨rfl, hb'⟩)
      · go_roundg (xs.length - (k + 1))
        case measure => omega
        case rel => exact ⟨k + 1, by omega, by omega, by go_num, BW.out.trans (hb'.mono BW.out.size), fun j hj => by
          by_cases e : j = k
          · subst e; rw [HY.out]; exact HQ.out
          · exact H.out j (by omega)⟩
      · go_ret
        refine ⟨?_, BW.out.trans (hb'.mono BW.out.size)⟩
        rw [idx_hit p xs zWay k hlt (by rw [HY.out]; exact HQ.out) H.out]
        rfl
    · go_wp2
      go_ret
      refine ⟨?_, BW.out⟩
      rw [idx_miss p xs zWay (fun j hj => H.out j (by omega))]
      rfl
set_option maxRecDepth 100000 in
theorem ContainsFunc_Way (g : Nat) (lb : Array Value) (p : SWay → Bool) (eg : ∀ args w, (callFunc g args).run Tryd.prog w = .ok (.enter g args) w) (A : Option Addr) (c : Nat) (xs : List SWay) (w : World)
    (hr : Kd.C kWay w A xs.length xs) (hlen : xs.length ≤ 4611686018427387904) (hp : PredWay g lb p xs w) :
    Calls Tryd.prog 87 #[.slice A xs.length c, .func (.func g) #[] lb] w fun e w' => e = .returned (.bool (xs.any p)) ∧ Below w.heap.size w w' := by
  have hcall := IndexFunc_Way g lb p eg A c xs w hr hlen hp
  have HI := Lib.hid (idx_any p xs)
  clear hr hp
  generalize idx p xs = i at hcall HI
  go_enter Tryd.func87, Tryd.ntmps87
  go_wp2_with (go_at_call 127; refine hcall.mono ?_; rintro e w' ⟨rfl, hb'⟩)
  go_ret
  exact ⟨retb HI.out, hb'⟩






/-- What a predicate over such elements owes. -/
def PredGot (g : Nat) (lb : Array Value) (p : SGot → Bool) (xs : List SGot) (w : World) : Prop :=
  ∀ W x (A0 : Option Addr) (c0 : Nat), x ∈ xs → Below w.heap.size w W → Kd.C Kd.string W A0 x.f1.length x.f1 → Calls Tryd.prog g (#[.agg #[.string x.f0.f0, .string x.f0.f1, .slice A0 x.f1.length c0]] ++ lb) W fun e w' => e = .returned (.bool (p x)) ∧ Below W.heap.size W w'

set_option maxRecDepth 100000 in
set_option maxHeartbeats 1000000 in
theorem IndexFunc_Got (g : Nat) (lb : Array Value) (p : SGot → Bool) (eg : ∀ args w, (callFunc g args).run Tryd.prog w = .ok (.enter g args) w) (A : Option Addr) (c : Nat) (xs : List SGot) (w : World)
    (hr : Kd.C kGot w A xs.length xs) (hlen : xs.length ≤ 4611686018427387904) (hp : PredGot g lb p xs w) :
    Calls Tryd.prog 131 #[.slice A xs.length c, .func (.func g) #[] lb] w fun e w' => e = .returned (.int .i64 (idx p xs)) ∧ Below w.heap.size w w' := by
  go_enter Tryd.func131, Tryd.ntmps131
  go_wp2
  go_loopg [5, 8] (xs.length) (fun gg _ s8 wr => ∃ k : Nat, k ≤ xs.length ∧ xs.length - k ≤ gg ∧ s8 = .int .i64 k ∧ Aside (Below w.heap.size w wr) ∧ Aside (∀ j, j < k → p (xs.getD j zGot) = false))
  case atStart => exact ⟨0, Nat.zero_le _, by omega, rfl, Below.refl _ w, fun j hj => absurd hj (Nat.not_lt_zero _)⟩
  case round =>
    obtain ⟨k, hk, hg, rfl, BW, H⟩ := hrel
    by_cases hlt : k < xs.length
    · obtain ⟨ad, A0, c0, e1, p0, p1, p2, l0, q0⟩ := at_Got (Kd.C_below hr BW.out) k hlt
      subst e1
      have hm := getD_mem xs zGot hlt
      generalize hy : xs.getD k zGot = y at p0 p1 p2 q0 l0 hm
      have hcall := hp wr y A0 c0 hm BW.out q0
      have HY := Lib.hid hy
      clear hy hp hr q0 l0
      cases hq : p y
      all_goals
        rw [hq] at hcall
        have HQ := Lib.hid hq
        clear hq
        go_wp2_with (go_at_fn g; refine hcall.mono ?_; rintro e w' ⟨rfl, hb'⟩)
      · go_roundg (xs.length - (k + 1))
        case measure => omega
        case rel => exact ⟨k + 1, by omega, by omega, by go_num, BW.out.trans (hb'.mono BW.out.size), fun j hj => by
          by_cases e : j = k
          · subst e; rw [HY.out]; exact HQ.out
          · exact H.out j (by omega)⟩
      · go_ret
        refine ⟨?_, BW.out.trans (hb'.mono BW.out.size)⟩
        rw [idx_hit p xs zGot k hlt (by rw [HY.out]; exact HQ.out) H.out]
        rfl
    · go_wp2
      go_ret
      refine ⟨?_, BW.out⟩
      rw [idx_miss p xs zGot (fun j hj => H.out j (by omega))]
      rfl
set_option maxRecDepth 100000 in
theorem ContainsFunc_Got (g : Nat) (lb : Array Value) (p : SGot → Bool) (eg : ∀ args w, (callFunc g args).run Tryd.prog w = .ok (.enter g args) w) (A : Option Addr) (c : Nat) (xs : List SGot) (w : World)
    (hr : Kd.C kGot w A xs.length xs) (hlen : xs.length ≤ 4611686018427387904) (hp : PredGot g lb p xs w) :
    Calls Tryd.prog 93 #[.slice A xs.length c, .func (.func g) #[] lb] w fun e w' => e = .returned (.bool (xs.any p)) ∧ Below w.heap.size w w' := by
  have hcall := IndexFunc_Got g lb p eg A c xs w hr hlen hp
  have HI := Lib.hid (idx_any p xs)
  clear hr hp
  generalize idx p xs = i at hcall HI
  go_enter Tryd.func93, Tryd.ntmps93
  go_wp2_with (go_at_call 131; refine hcall.mono ?_; rintro e w' ⟨rfl, hb'⟩)
  go_ret
  exact ⟨retb HI.out, hb'⟩



end Go.Proofs.YtejiifmopopflaaDoor
