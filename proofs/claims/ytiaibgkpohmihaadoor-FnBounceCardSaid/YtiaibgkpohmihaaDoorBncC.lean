/- MarkOf and AddrPut of the program: contracts. -/
import Derived.Test.YtiaibgkpohmihaaDoorReg
import Derived.Test.YtiaibgkpohmihaaDoorBncQ
import Derived.Test.YtiaibgkpohmihaaDoorBlk
import Derived.Test.YtiaibgkpohmihaaDoorMailB
namespace Go.Proofs.YtiaibgkpohmihaaDoor
open Go.RowKit Go.Proofs.YtiaibgkpohmihaaDoorW.PrintWords
set_option linter.unusedVariables false
set_option linter.unusedSimpArgs false

set_option maxRecDepth 100000 in
theorem markOf_any (A : Option Addr) (c : Nat) (xs : List ByteArray) (w : World) (hr : Kd.C Kd.string w A xs.length xs) (hlen : xs.length ≤ 1048576) (hx : ∀ x ∈ xs, x.size < 4294967281) (ho : bodyOk xs = true) :
  Calls Tryd.prog 12 #[.slice A xs.length c] w fun e w' => e = .returned (.string (markOf xs)) ∧ Below w.heap.size w w' := by
 have h1 := isBody_any A c xs w hr (by omega) hx
 rw [ho] at h1
 have h2 := fun W (hW : Below w.heap.size w W) => mark_any A c xs W (Kd.C_below hr hW) hlen
 clear hr hx ho
 generalize markOf xs = k at h2
 generalize xs.length = n at h1 h2
 go_enter Tryd.func12, Tryd.ntmps12
 go_wp2_with fail
 refine Calls.mono h1 ?_
 rintro e w1 ⟨rfl, b1⟩
 go_wp2_with fail
 refine Calls.mono (h2 w1 b1) ?_
 rintro e w2 ⟨rfl, b2⟩
 go_wp2
 go_ret
 exact ⟨rfl, bel_then b1 b2⟩
set_option maxRecDepth 100000 in
theorem addrPut_any (a : SAddr) (w : World) (ha : fitAddr a) (ho : addr a.f0.data.toList a.f1.data.toList = true) (hG : Glob w) :
  Calls Tryd.prog 11 #[.agg #[.string a.f0, .string a.f1]] w fun e w' => e = .returned (.string (textS a.f0 a.f1)) ∧ Below w.heap.size w w' := by
 have h1 := fun W (hW : Below w.heap.size w W) => sender_any a.f0 a.f1 W (by have := ha.1; omega) (by have := ha.2; omega) (hG.below hW)
 have h2 := fun W => text_any a.f0 a.f1 W ha.1 ha.2
 simp only [ho, Bool.or_true] at h1
 clear hG ha ho
 generalize textS a.f0 a.f1 = k at h2
 go_enter Tryd.func11, Tryd.ntmps11
 go_wp2_with fail
 obtain ⟨W0, hW0⟩ : ∃ W, W = w.alloc (.cells #[.string a.f0, .string a.f1] 24) := ⟨_, rfl⟩
 rw [← hW0]
 have B0 : Below w.heap.size w W0 := by rw [hW0]; exact bel_alloc (Below.refl _ _) _
 have F1 : Aside0 (W0.heap[w.heap.size]? = some (.cells #[.string a.f0, .string a.f1] 24 (0, 0))) := ⟨by rw [hW0]; exact blk_new _ _⟩
 clear hW0
 refine Calls.mono (h1 W0 B0) ?_
 rintro e w1 ⟨rfl, b1⟩
 replace F1 := Aside0.mk (below_blk F1.out b1)
 have c0_ : w1.cell? ⟨w.heap.size, 0, none⟩ = some (.string a.f0) := clq F1.out 0 rfl
 have c1_ : w1.cell? ⟨w.heap.size, 1, none⟩ = some (.string a.f1) := clq F1.out 1 rfl
 go_wp2_with fail
 refine Calls.mono (h2 w1) ?_
 rintro e w2 ⟨rfl, b2⟩
 go_wp2
 go_ret
 exact ⟨rfl, bel_then (bel_then B0 b1) b2⟩

end Go.Proofs.YtiaibgkpohmihaaDoor
