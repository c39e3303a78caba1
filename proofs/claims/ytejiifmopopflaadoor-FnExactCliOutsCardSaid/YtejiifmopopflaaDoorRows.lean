/-
  NARROWER THAN 'FOR EVERY INPUT', by the rows' own cells (each row's printed sentence says how): FnExactBounceOf: laid · FnExactCliNew: laid · FnExactCliOuts: laid · FnHostNew: laid.
  DERIVED. THE GIVEN ROWS OF THIS SEAT. 4 by the template 'for every input the law returns true; each argument reads behind the call as it read before'; 0 by the template 'total and deterministic' (their statements: YtejiifmopopflaaDoorTotals.lean).
  GIVEN WITH THE SEED: the statements are not yours to turn. If you find one false, say at which input.
  Laid BY PROGRAM, IN A SANDBOX (cutbox-rows.mjs): the forced cells as the released guide's own fill.sh prints them over the translation 6051687340a7e2b8… (all of the seat's roots in one cut). By AI agents, Wed Nov 11 2026. No macro, syntax, notation, axiom, sorry.
-/
import Derived.Test.YtejiifmopopflaaDoorChecked
import GoSem.PinnedTables
import GoSem.Claim
import GoSem.ClaimJoined
import GoSem.ClaimMapViews
import Derived.JoinedTies
import Derived.KernelRfl
namespace Go.Proofs.YtejiifmopopflaaDoor
/- THE CELL 'sum', in the pinned program and in every row, IS THE sha256 OF THE DUMP (.gsa) THAT YtejiifmopopflaaDoorProg.lean LOADS. Nothing in Lean hashes anything: it is a label: what it is worth is what the hold of that sum in a sandbox is worth. -/
noncomputable def Tryd.pinned : Pinned := { name := "ytejiifmopopflaadoor", sum := "6051687340a7e2b82b68c98c83ffdc3fa21fd213eb98acc83b5559aa31af9de1", checked := Tryd.checked }
namespace Rows
def none {H : Type} : Left H := { results := [], args := [] }

/- WHAT THE LISTED PACKAGE-LEVEL VARIABLES READ AS WHEN THE CALL BEGINS. Each datum BY PROGRAM (the guide's laid-datum.mjs) off the statement by which the dump's own 'gosem.cut.vars' lays the variable. In a bare row this is a premise. The card (YtejiifmopopflaaDoorCards.lean) ties it to the program's text. -/
def laid_unicode_utf8_acceptRanges {H : Type} : DataW H := .agg [.agg [.lit (.int .u8 128), .lit (.int .u8 191)], .agg [.lit (.int .u8 160), .lit (.int .u8 191)], .agg [.lit (.int .u8 128), .lit (.int .u8 159)], .agg [.lit (.int .u8 144), .lit (.int .u8 191)], .agg [.lit (.int .u8 128), .lit (.int .u8 143)], .agg [.lit (.int .u8 0), .lit (.int .u8 0)], .agg [.lit (.int .u8 0), .lit (.int .u8 0)], .agg [.lit (.int .u8 0), .lit (.int .u8 0)], .agg [.lit (.int .u8 0), .lit (.int .u8 0)], .agg [.lit (.int .u8 0), .lit (.int .u8 0)], .agg [.lit (.int .u8 0), .lit (.int .u8 0)], .agg [.lit (.int .u8 0), .lit (.int .u8 0)], .agg [.lit (.int .u8 0), .lit (.int .u8 0)], .agg [.lit (.int .u8 0), .lit (.int .u8 0)], .agg [.lit (.int .u8 0), .lit (.int .u8 0)], .agg [.lit (.int .u8 0), .lit (.int .u8 0)]]
/-- One of Go's own tables, pinned by name: the form's constant. -/
def laid_unicode_utf8_first : DataW Unit := Go.Pinned.utf8First

/-- 'laws.FnExactBounceOf': WHATEVER THE INPUT: true; the input reads as it did. -/
def fnExactBounceOfSpec : ChangeSpec := { name := "fnExactBounceOf", fn := fun _ => fun
  | [d1, d2] => { results := [.lit (.bool true)], args := [d1, d2] }
  | _ => none }
def fnExactBounceOfRow : OpenClaim := { program := "ytejiifmopopflaadoor", sum := "6051687340a7e2b82b68c98c83ffdc3fa21fd213eb98acc83b5559aa31af9de1", func := "loop.example/satchel/laws.FnExactBounceOf", spec := "fnExactBounceOf", inPlace := ["internal/bytealg.IndexByteString", "internal/bytealg.IndexString", "internal/bytealg.CountString"], unfollowed := true, recurses := true, named := ["unicode/utf8.first", "unicode/utf8.acceptRanges", "internal/bytealg.MaxLen"], plainKeys := false, apart := false, laid := [("unicode/utf8.acceptRanges", laid_unicode_utf8_acceptRanges), ("unicode/utf8.first", laid_unicode_utf8_first)] }
def FnExactBounceOfSaid : Prop := fnExactBounceOfRow.holds Tryd.pinned (OpenSpec.ofChange fnExactBounceOfSpec)

/-- ITS FALSE NEIGHBOUR: 'it returns false'. Refute it at one input. -/
def fnExactBounceOfWrong : ChangeSpec := { name := "fnExactBounceOf", fn := fun _ => fun
  | [d1, d2] => { results := [.lit (.bool false)], args := [d1, d2] }
  | _ => none }
def FnExactBounceOfWrongFalsely : Prop := fnExactBounceOfRow.holds Tryd.pinned (OpenSpec.ofChange fnExactBounceOfWrong)

/-- 'laws.FnExactCliNew': WHATEVER THE INPUT: true; the input reads as it did. -/
def fnExactCliNewSpec : ChangeSpec := { name := "fnExactCliNew", fn := fun _ => fun
  | [d1, d2] => { results := [.lit (.bool true)], args := [d1, d2] }
  | _ => none }
def fnExactCliNewRow : OpenClaim := { program := "ytejiifmopopflaadoor", sum := "6051687340a7e2b82b68c98c83ffdc3fa21fd213eb98acc83b5559aa31af9de1", func := "loop.example/satchel/laws.FnExactCliNew", spec := "fnExactCliNew", inPlace := ["internal/bytealg.CountString", "internal/bytealg.IndexByteString", "internal/bytealg.IndexString"], unfollowed := true, recurses := true, named := ["unicode/utf8.first", "unicode/utf8.acceptRanges", "internal/bytealg.MaxLen"], plainKeys := false, apart := false, laid := [("unicode/utf8.acceptRanges", laid_unicode_utf8_acceptRanges), ("unicode/utf8.first", laid_unicode_utf8_first)] }
def FnExactCliNewSaid : Prop := fnExactCliNewRow.holds Tryd.pinned (OpenSpec.ofChange fnExactCliNewSpec)

/-- ITS FALSE NEIGHBOUR: 'it returns false'. Refute it at one input. -/
def fnExactCliNewWrong : ChangeSpec := { name := "fnExactCliNew", fn := fun _ => fun
  | [d1, d2] => { results := [.lit (.bool false)], args := [d1, d2] }
  | _ => none }
def FnExactCliNewWrongFalsely : Prop := fnExactCliNewRow.holds Tryd.pinned (OpenSpec.ofChange fnExactCliNewWrong)

/-- 'laws.FnExactCliOuts': WHATEVER THE INPUT: true; the input reads as it did. -/
def fnExactCliOutsSpec : ChangeSpec := { name := "fnExactCliOuts", fn := fun _ => fun
  | [d] => { results := [.lit (.bool true)], args := [d] }
  | _ => none }
def fnExactCliOutsRow : OpenClaim := { program := "ytejiifmopopflaadoor", sum := "6051687340a7e2b82b68c98c83ffdc3fa21fd213eb98acc83b5559aa31af9de1", func := "loop.example/satchel/laws.FnExactCliOuts", spec := "fnExactCliOuts", inPlace := ["internal/bytealg.CountString", "internal/bytealg.IndexByteString", "internal/bytealg.IndexString"], unfollowed := true, recurses := true, named := ["unicode/utf8.first", "unicode/utf8.acceptRanges", "internal/bytealg.MaxLen"], plainKeys := false, apart := false, laid := [("unicode/utf8.acceptRanges", laid_unicode_utf8_acceptRanges), ("unicode/utf8.first", laid_unicode_utf8_first)] }
def FnExactCliOutsSaid : Prop := fnExactCliOutsRow.holds Tryd.pinned (OpenSpec.ofChange fnExactCliOutsSpec)

/-- ITS FALSE NEIGHBOUR: 'it returns false'. Refute it at one input. -/
def fnExactCliOutsWrong : ChangeSpec := { name := "fnExactCliOuts", fn := fun _ => fun
  | [d] => { results := [.lit (.bool false)], args := [d] }
  | _ => none }
def FnExactCliOutsWrongFalsely : Prop := fnExactCliOutsRow.holds Tryd.pinned (OpenSpec.ofChange fnExactCliOutsWrong)

/-- 'laws.FnHostNew': WHATEVER THE INPUT: true; the input reads as it did. -/
def fnHostNewSpec : ChangeSpec := { name := "fnHostNew", fn := fun _ => fun
  | [d] => { results := [.lit (.bool true)], args := [d] }
  | _ => none }
def fnHostNewRow : OpenClaim := { program := "ytejiifmopopflaadoor", sum := "6051687340a7e2b82b68c98c83ffdc3fa21fd213eb98acc83b5559aa31af9de1", func := "loop.example/satchel/laws.FnHostNew", spec := "fnHostNew", inPlace := ["internal/bytealg.CountString", "internal/bytealg.IndexByteString", "internal/bytealg.IndexString", "internal/bytealg.abigen_runtime_cmpstring"], unfollowed := true, recurses := true, named := ["unicode/utf8.first", "unicode/utf8.acceptRanges", "internal/bytealg.MaxLen"], plainKeys := false, apart := false, laid := [("unicode/utf8.acceptRanges", laid_unicode_utf8_acceptRanges), ("unicode/utf8.first", laid_unicode_utf8_first)] }
def FnHostNewSaid : Prop := fnHostNewRow.holds Tryd.pinned (OpenSpec.ofChange fnHostNewSpec)

/-- ITS FALSE NEIGHBOUR: 'it returns false'. Refute it at one input. -/
def fnHostNewWrong : ChangeSpec := { name := "fnHostNew", fn := fun _ => fun
  | [d] => { results := [.lit (.bool false)], args := [d] }
  | _ => none }
def FnHostNewWrongFalsely : Prop := fnHostNewRow.holds Tryd.pinned (OpenSpec.ofChange fnHostNewWrong)

/- THE SECOND FORM. 'bulk': how many values and letters a reading holds, each counted each time it is reached (what is shared counts as often as it is met; a slice's spare places count too). A statement '..UptoSaid' is the law's where the arguments, and the package variables that the reading takes, are together of bulk at most 1048576: NARROWER than '..Said'. Prove '..Said' where nothing that the law and all that it calls make is longer than what came in: it says more and counts as full. Else prove '..UptoSaid'. A law counts once. -/
mutual
def uptoBulk {H : Type} : DataW H → Nat
  | .lit (.string bytes) => bytes.length + 1
  | .lit _ => 1
  | .nil => 1
  | .ptr d => uptoBulk d + 1
  | .slice elems spare => uptoBulkAll elems + uptoBulkAll spare + 1
  | .agg parts => uptoBulkAll parts + 1
  | .iface _ d => uptoBulk d + 1
  | .map entries => uptoBulkEntries entries + 1
  | .held _ => 1
def uptoBulkAll {H : Type} : List (DataW H) → Nat
  | [] => 0
  | d :: r => uptoBulk d + uptoBulkAll r
def uptoBulkEntries {H : Type} : List (Lit × DataW H) → Nat
  | [] => 0
  | x :: r => uptoBulkEntry x + uptoBulkEntries r
def uptoBulkEntry {H : Type} : Lit × DataW H → Nat
  | (.string bytes, d) => bytes.length + uptoBulk d + 1
  | (_, d) => uptoBulk d + 1
 end
def uptoSmall : (H : Type) → List (DataW H) → Bool := fun _ ds => decide (uptoBulkAll ds ≤ 1048576)
def OpenSpec.upto (s : _root_.Go.ChangeSpec) : _root_.Go.OpenSpec := { _root_.Go.OpenSpec.ofChange s with cond := some uptoSmall }

/-- 'laws.FnExactBounceOf', WHERE WHAT IT READS IS OF BULK AT MOST 1048576: true; the input reads as it did. -/
def fnExactBounceOfUptoRow : OpenClaim := { program := "ytejiifmopopflaadoor", sum := "6051687340a7e2b82b68c98c83ffdc3fa21fd213eb98acc83b5559aa31af9de1", func := "loop.example/satchel/laws.FnExactBounceOf", spec := "fnExactBounceOf", inPlace := ["internal/bytealg.IndexByteString", "internal/bytealg.IndexString", "internal/bytealg.CountString"], unfollowed := true, recurses := true, named := ["unicode/utf8.first", "unicode/utf8.acceptRanges", "internal/bytealg.MaxLen"], plainKeys := false, apart := false, laid := [("unicode/utf8.acceptRanges", laid_unicode_utf8_acceptRanges), ("unicode/utf8.first", laid_unicode_utf8_first)], narrowed := true }
def FnExactBounceOfUptoSaid : Prop := fnExactBounceOfUptoRow.holds Tryd.pinned (OpenSpec.upto fnExactBounceOfSpec)

/-- 'laws.FnExactCliNew', WHERE WHAT IT READS IS OF BULK AT MOST 1048576: true; the input reads as it did. -/
def fnExactCliNewUptoRow : OpenClaim := { program := "ytejiifmopopflaadoor", sum := "6051687340a7e2b82b68c98c83ffdc3fa21fd213eb98acc83b5559aa31af9de1", func := "loop.example/satchel/laws.FnExactCliNew", spec := "fnExactCliNew", inPlace := ["internal/bytealg.CountString", "internal/bytealg.IndexByteString", "internal/bytealg.IndexString"], unfollowed := true, recurses := true, named := ["unicode/utf8.first", "unicode/utf8.acceptRanges", "internal/bytealg.MaxLen"], plainKeys := false, apart := false, laid := [("unicode/utf8.acceptRanges", laid_unicode_utf8_acceptRanges), ("unicode/utf8.first", laid_unicode_utf8_first)], narrowed := true }
def FnExactCliNewUptoSaid : Prop := fnExactCliNewUptoRow.holds Tryd.pinned (OpenSpec.upto fnExactCliNewSpec)

/-- 'laws.FnExactCliOuts', WHERE WHAT IT READS IS OF BULK AT MOST 1048576: true; the input reads as it did. -/
def fnExactCliOutsUptoRow : OpenClaim := { program := "ytejiifmopopflaadoor", sum := "6051687340a7e2b82b68c98c83ffdc3fa21fd213eb98acc83b5559aa31af9de1", func := "loop.example/satchel/laws.FnExactCliOuts", spec := "fnExactCliOuts", inPlace := ["internal/bytealg.CountString", "internal/bytealg.IndexByteString", "internal/bytealg.IndexString"], unfollowed := true, recurses := true, named := ["unicode/utf8.first", "unicode/utf8.acceptRanges", "internal/bytealg.MaxLen"], plainKeys := false, apart := false, laid := [("unicode/utf8.acceptRanges", laid_unicode_utf8_acceptRanges), ("unicode/utf8.first", laid_unicode_utf8_first)], narrowed := true }
def FnExactCliOutsUptoSaid : Prop := fnExactCliOutsUptoRow.holds Tryd.pinned (OpenSpec.upto fnExactCliOutsSpec)

/-- 'laws.FnHostNew', WHERE WHAT IT READS IS OF BULK AT MOST 1048576: true; the input reads as it did. -/
def fnHostNewUptoRow : OpenClaim := { program := "ytejiifmopopflaadoor", sum := "6051687340a7e2b82b68c98c83ffdc3fa21fd213eb98acc83b5559aa31af9de1", func := "loop.example/satchel/laws.FnHostNew", spec := "fnHostNew", inPlace := ["internal/bytealg.CountString", "internal/bytealg.IndexByteString", "internal/bytealg.IndexString", "internal/bytealg.abigen_runtime_cmpstring"], unfollowed := true, recurses := true, named := ["unicode/utf8.first", "unicode/utf8.acceptRanges", "internal/bytealg.MaxLen"], plainKeys := false, apart := false, laid := [("unicode/utf8.acceptRanges", laid_unicode_utf8_acceptRanges), ("unicode/utf8.first", laid_unicode_utf8_first)], narrowed := true }
def FnHostNewUptoSaid : Prop := fnHostNewUptoRow.holds Tryd.pinned (OpenSpec.upto fnHostNewSpec)

end Rows
end Go.Proofs.YtejiifmopopflaaDoor
