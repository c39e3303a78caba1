/-
  NARROWER THAN 'FOR EVERY INPUT', by the rows' own cells (each row's printed sentence says how): FnAliasRound: laid · FnAliasParts: laid · FnAliasFor: laid · FnAliasFlat: laid · FnExactAliasFor: laid · FnExactAliasRound: laid · FnExactAliasFlat: laid.
  DERIVED. THE GIVEN ROWS OF THIS SEAT. 7 by the template 'for every input the law returns true; each argument reads behind the call as it read before'; 0 by the template 'total and deterministic' (their statements: YticepbgacokbbaaDoorTotals.lean).
  GIVEN WITH THE SEED: the statements are not yours to turn. If you find one false, say at which input.
  Laid BY PROGRAM, IN A SANDBOX (cutbox-rows.mjs): the forced cells as the released guide's own fill.sh prints them over the translation d106d5fcb199b293… (all of the seat's roots in one cut). By AI agents, Wed Nov 11 2026. No macro, syntax, notation, axiom, sorry.
-/
import Derived.Test.YticepbgacokbbaaDoorChecked
import GoSem.PinnedTables
import GoSem.Claim
import GoSem.ClaimJoined
import GoSem.ClaimMapViews
import Derived.JoinedTies
import Derived.KernelRfl
namespace Go.Proofs.YticepbgacokbbaaDoor
/- THE CELL 'sum', in the pinned program and in every row, IS THE sha256 OF THE DUMP (.gsa) THAT YticepbgacokbbaaDoorProg.lean LOADS. Nothing in Lean hashes anything: it is a label: what it is worth is what the hold of that sum in a sandbox is worth. -/
noncomputable def Tryd.pinned : Pinned := { name := "yticepbgacokbbaadoor", sum := "d106d5fcb199b293e8a9ee96a527c411308c25f2ba1d6a19e2f2f37885999c17", checked := Tryd.checked }
namespace Rows
def none {H : Type} : Left H := { results := [], args := [] }

/- WHAT THE LISTED PACKAGE-LEVEL VARIABLES READ AS WHEN THE CALL BEGINS. Each datum BY PROGRAM (the guide's laid-datum.mjs) off the statement by which the dump's own 'gosem.cut.vars' lays the variable. In a bare row this is a premise. The card (YticepbgacokbbaaDoorCards.lean) ties it to the program's text. -/
def laid_unicode_utf8_acceptRanges {H : Type} : DataW H := .agg [.agg [.lit (.int .u8 128), .lit (.int .u8 191)], .agg [.lit (.int .u8 160), .lit (.int .u8 191)], .agg [.lit (.int .u8 128), .lit (.int .u8 159)], .agg [.lit (.int .u8 144), .lit (.int .u8 191)], .agg [.lit (.int .u8 128), .lit (.int .u8 143)], .agg [.lit (.int .u8 0), .lit (.int .u8 0)], .agg [.lit (.int .u8 0), .lit (.int .u8 0)], .agg [.lit (.int .u8 0), .lit (.int .u8 0)], .agg [.lit (.int .u8 0), .lit (.int .u8 0)], .agg [.lit (.int .u8 0), .lit (.int .u8 0)], .agg [.lit (.int .u8 0), .lit (.int .u8 0)], .agg [.lit (.int .u8 0), .lit (.int .u8 0)], .agg [.lit (.int .u8 0), .lit (.int .u8 0)], .agg [.lit (.int .u8 0), .lit (.int .u8 0)], .agg [.lit (.int .u8 0), .lit (.int .u8 0)], .agg [.lit (.int .u8 0), .lit (.int .u8 0)]]
/-- One of Go's own tables, pinned by name: the form's constant. -/
def laid_unicode_utf8_first : DataW Unit := Go.Pinned.utf8First

/-- 'laws.FnAliasRound': WHATEVER THE INPUT: true; the input reads as it did. -/
def fnAliasRoundSpec : ChangeSpec := { name := "fnAliasRound", fn := fun _ => fun
  | [d] => { results := [.lit (.bool true)], args := [d] }
  | _ => none }
def fnAliasRoundRow : OpenClaim := { program := "yticepbgacokbbaadoor", sum := "d106d5fcb199b293e8a9ee96a527c411308c25f2ba1d6a19e2f2f37885999c17", func := "loop.example/satchel/laws.FnAliasRound", spec := "fnAliasRound", inPlace := ["internal/bytealg.IndexByteString", "internal/bytealg.IndexString", "internal/bytealg.CountString", "internal/bytealg.abigen_runtime_cmpstring"], unfollowed := true, recurses := true, named := ["unicode/utf8.first", "unicode/utf8.acceptRanges", "internal/bytealg.MaxLen"], plainKeys := false, apart := false, laid := [("unicode/utf8.acceptRanges", laid_unicode_utf8_acceptRanges), ("unicode/utf8.first", laid_unicode_utf8_first)] }
def FnAliasRoundSaid : Prop := fnAliasRoundRow.holds Tryd.pinned (OpenSpec.ofChange fnAliasRoundSpec)

/-- ITS FALSE NEIGHBOUR: 'it returns false'. Refute it at one input. -/
def fnAliasRoundWrong : ChangeSpec := { name := "fnAliasRound", fn := fun _ => fun
  | [d] => { results := [.lit (.bool false)], args := [d] }
  | _ => none }
def FnAliasRoundWrongFalsely : Prop := fnAliasRoundRow.holds Tryd.pinned (OpenSpec.ofChange fnAliasRoundWrong)

/-- 'laws.FnAliasParts': WHATEVER THE INPUT: true; the input reads as it did. -/
def fnAliasPartsSpec : ChangeSpec := { name := "fnAliasParts", fn := fun _ => fun
  | [d] => { results := [.lit (.bool true)], args := [d] }
  | _ => none }
def fnAliasPartsRow : OpenClaim := { program := "yticepbgacokbbaadoor", sum := "d106d5fcb199b293e8a9ee96a527c411308c25f2ba1d6a19e2f2f37885999c17", func := "loop.example/satchel/laws.FnAliasParts", spec := "fnAliasParts", inPlace := ["internal/bytealg.IndexByteString", "internal/bytealg.IndexString", "internal/bytealg.CountString", "internal/bytealg.abigen_runtime_cmpstring"], unfollowed := true, recurses := true, named := ["unicode/utf8.first", "unicode/utf8.acceptRanges", "internal/bytealg.MaxLen"], plainKeys := false, apart := false, laid := [("unicode/utf8.acceptRanges", laid_unicode_utf8_acceptRanges), ("unicode/utf8.first", laid_unicode_utf8_first)] }
def FnAliasPartsSaid : Prop := fnAliasPartsRow.holds Tryd.pinned (OpenSpec.ofChange fnAliasPartsSpec)

/-- ITS FALSE NEIGHBOUR: 'it returns false'. Refute it at one input. -/
def fnAliasPartsWrong : ChangeSpec := { name := "fnAliasParts", fn := fun _ => fun
  | [d] => { results := [.lit (.bool false)], args := [d] }
  | _ => none }
def FnAliasPartsWrongFalsely : Prop := fnAliasPartsRow.holds Tryd.pinned (OpenSpec.ofChange fnAliasPartsWrong)

/-- 'laws.FnAliasFor': WHATEVER THE INPUT: true; the input reads as it did. -/
def fnAliasForSpec : ChangeSpec := { name := "fnAliasFor", fn := fun _ => fun
  | [d] => { results := [.lit (.bool true)], args := [d] }
  | _ => none }
def fnAliasForRow : OpenClaim := { program := "yticepbgacokbbaadoor", sum := "d106d5fcb199b293e8a9ee96a527c411308c25f2ba1d6a19e2f2f37885999c17", func := "loop.example/satchel/laws.FnAliasFor", spec := "fnAliasFor", inPlace := ["internal/bytealg.IndexByteString", "internal/bytealg.IndexString", "internal/bytealg.CountString", "internal/bytealg.abigen_runtime_cmpstring"], unfollowed := true, recurses := true, named := ["unicode/utf8.first", "unicode/utf8.acceptRanges", "internal/bytealg.MaxLen"], plainKeys := false, apart := false, laid := [("unicode/utf8.acceptRanges", laid_unicode_utf8_acceptRanges), ("unicode/utf8.first", laid_unicode_utf8_first)] }
def FnAliasForSaid : Prop := fnAliasForRow.holds Tryd.pinned (OpenSpec.ofChange fnAliasForSpec)

/-- ITS FALSE NEIGHBOUR: 'it returns false'. Refute it at one input. -/
def fnAliasForWrong : ChangeSpec := { name := "fnAliasFor", fn := fun _ => fun
  | [d] => { results := [.lit (.bool false)], args := [d] }
  | _ => none }
def FnAliasForWrongFalsely : Prop := fnAliasForRow.holds Tryd.pinned (OpenSpec.ofChange fnAliasForWrong)

/-- 'laws.FnAliasFlat': WHATEVER THE INPUT: true; the input reads as it did. -/
def fnAliasFlatSpec : ChangeSpec := { name := "fnAliasFlat", fn := fun _ => fun
  | [d] => { results := [.lit (.bool true)], args := [d] }
  | _ => none }
def fnAliasFlatRow : OpenClaim := { program := "yticepbgacokbbaadoor", sum := "d106d5fcb199b293e8a9ee96a527c411308c25f2ba1d6a19e2f2f37885999c17", func := "loop.example/satchel/laws.FnAliasFlat", spec := "fnAliasFlat", inPlace := ["internal/bytealg.IndexByteString", "internal/bytealg.IndexString", "internal/bytealg.CountString", "internal/bytealg.abigen_runtime_cmpstring"], unfollowed := true, recurses := true, named := ["unicode/utf8.first", "unicode/utf8.acceptRanges", "internal/bytealg.MaxLen"], plainKeys := false, apart := false, laid := [("unicode/utf8.acceptRanges", laid_unicode_utf8_acceptRanges), ("unicode/utf8.first", laid_unicode_utf8_first)] }
def FnAliasFlatSaid : Prop := fnAliasFlatRow.holds Tryd.pinned (OpenSpec.ofChange fnAliasFlatSpec)

/-- ITS FALSE NEIGHBOUR: 'it returns false'. Refute it at one input. -/
def fnAliasFlatWrong : ChangeSpec := { name := "fnAliasFlat", fn := fun _ => fun
  | [d] => { results := [.lit (.bool false)], args := [d] }
  | _ => none }
def FnAliasFlatWrongFalsely : Prop := fnAliasFlatRow.holds Tryd.pinned (OpenSpec.ofChange fnAliasFlatWrong)

/-- 'laws.FnExactAliasFor': WHATEVER THE INPUT: true; the input reads as it did. -/
def fnExactAliasForSpec : ChangeSpec := { name := "fnExactAliasFor", fn := fun _ => fun
  | [d1, d2] => { results := [.lit (.bool true)], args := [d1, d2] }
  | _ => none }
def fnExactAliasForRow : OpenClaim := { program := "yticepbgacokbbaadoor", sum := "d106d5fcb199b293e8a9ee96a527c411308c25f2ba1d6a19e2f2f37885999c17", func := "loop.example/satchel/laws.FnExactAliasFor", spec := "fnExactAliasFor", inPlace := ["internal/bytealg.IndexByteString", "internal/bytealg.IndexString", "internal/bytealg.CountString", "internal/bytealg.abigen_runtime_cmpstring"], unfollowed := true, recurses := true, named := ["unicode/utf8.first", "unicode/utf8.acceptRanges", "internal/bytealg.MaxLen"], plainKeys := false, apart := false, laid := [("unicode/utf8.acceptRanges", laid_unicode_utf8_acceptRanges), ("unicode/utf8.first", laid_unicode_utf8_first)] }
def FnExactAliasForSaid : Prop := fnExactAliasForRow.holds Tryd.pinned (OpenSpec.ofChange fnExactAliasForSpec)

/-- ITS FALSE NEIGHBOUR: 'it returns false'. Refute it at one input. -/
def fnExactAliasForWrong : ChangeSpec := { name := "fnExactAliasFor", fn := fun _ => fun
  | [d1, d2] => { results := [.lit (.bool false)], args := [d1, d2] }
  | _ => none }
def FnExactAliasForWrongFalsely : Prop := fnExactAliasForRow.holds Tryd.pinned (OpenSpec.ofChange fnExactAliasForWrong)

/-- 'laws.FnExactAliasRound': WHATEVER THE INPUT: true; the input reads as it did. -/
def fnExactAliasRoundSpec : ChangeSpec := { name := "fnExactAliasRound", fn := fun _ => fun
  | [d] => { results := [.lit (.bool true)], args := [d] }
  | _ => none }
def fnExactAliasRoundRow : OpenClaim := { program := "yticepbgacokbbaadoor", sum := "d106d5fcb199b293e8a9ee96a527c411308c25f2ba1d6a19e2f2f37885999c17", func := "loop.example/satchel/laws.FnExactAliasRound", spec := "fnExactAliasRound", inPlace := ["internal/bytealg.IndexByteString", "internal/bytealg.IndexString", "internal/bytealg.CountString", "internal/bytealg.abigen_runtime_cmpstring"], unfollowed := true, recurses := true, named := ["unicode/utf8.first", "unicode/utf8.acceptRanges", "internal/bytealg.MaxLen"], plainKeys := false, apart := false, laid := [("unicode/utf8.acceptRanges", laid_unicode_utf8_acceptRanges), ("unicode/utf8.first", laid_unicode_utf8_first)] }
def FnExactAliasRoundSaid : Prop := fnExactAliasRoundRow.holds Tryd.pinned (OpenSpec.ofChange fnExactAliasRoundSpec)

/-- ITS FALSE NEIGHBOUR: 'it returns false'. Refute it at one input. -/
def fnExactAliasRoundWrong : ChangeSpec := { name := "fnExactAliasRound", fn := fun _ => fun
  | [d] => { results := [.lit (.bool false)], args := [d] }
  | _ => none }
def FnExactAliasRoundWrongFalsely : Prop := fnExactAliasRoundRow.holds Tryd.pinned (OpenSpec.ofChange fnExactAliasRoundWrong)

/-- 'laws.FnExactAliasFlat': WHATEVER THE INPUT: true; the input reads as it did. -/
def fnExactAliasFlatSpec : ChangeSpec := { name := "fnExactAliasFlat", fn := fun _ => fun
  | [d] => { results := [.lit (.bool true)], args := [d] }
  | _ => none }
def fnExactAliasFlatRow : OpenClaim := { program := "yticepbgacokbbaadoor", sum := "d106d5fcb199b293e8a9ee96a527c411308c25f2ba1d6a19e2f2f37885999c17", func := "loop.example/satchel/laws.FnExactAliasFlat", spec := "fnExactAliasFlat", inPlace := ["internal/bytealg.IndexByteString", "internal/bytealg.IndexString", "internal/bytealg.CountString", "internal/bytealg.abigen_runtime_cmpstring"], unfollowed := true, recurses := true, named := ["unicode/utf8.first", "unicode/utf8.acceptRanges", "internal/bytealg.MaxLen"], plainKeys := false, apart := false, laid := [("unicode/utf8.acceptRanges", laid_unicode_utf8_acceptRanges), ("unicode/utf8.first", laid_unicode_utf8_first)] }
def FnExactAliasFlatSaid : Prop := fnExactAliasFlatRow.holds Tryd.pinned (OpenSpec.ofChange fnExactAliasFlatSpec)

/-- ITS FALSE NEIGHBOUR: 'it returns false'. Refute it at one input. -/
def fnExactAliasFlatWrong : ChangeSpec := { name := "fnExactAliasFlat", fn := fun _ => fun
  | [d] => { results := [.lit (.bool false)], args := [d] }
  | _ => none }
def FnExactAliasFlatWrongFalsely : Prop := fnExactAliasFlatRow.holds Tryd.pinned (OpenSpec.ofChange fnExactAliasFlatWrong)

/- THE SECOND FORM. 'bulk': how many values and letters a reading holds, each counted each time it is reached (what is shared counts as often as it is met; a slice's spare places count too). A statement '..UptoSaid' is the law's where the arguments, and the package variables that the reading takes, are together of bulk at most 1048576: NARROWER than '..Said'. Prove '..Said' where nothing that the law and all that it calls make is longer than what came in: it says more and counts as full. Else prove '..UptoSaid'. A law counts once. -/
mutual
def uptoBulk {H : Type} : DataW H → Nat
  | .lit (.string bytes) => bytes.length + 1
  | .lit _ => 1
  | .nil => 1
  | .ptr d => uptoBulk d + 1
  | .slice elems spare => uptoBulkAll elems + uptoBulkAll spare + 1
  | .agg parts => uptoBulkAll parts + 1
  | .iface _ d => uptoBulk d + 1
  | .map entries => uptoBulkEntries entries + 1
  | .held _ => 1
def uptoBulkAll {H : Type} : List (DataW H) → Nat
  | [] => 0
  | d :: r => uptoBulk d + uptoBulkAll r
def uptoBulkEntries {H : Type} : List (Lit × DataW H) → Nat
  | [] => 0
  | x :: r => uptoBulkEntry x + uptoBulkEntries r
def uptoBulkEntry {H : Type} : Lit × DataW H → Nat
  | (.string bytes, d) => bytes.length + uptoBulk d + 1
  | (_, d) => uptoBulk d + 1
 end
def uptoSmall : (H : Type) → List (DataW H) → Bool := fun _ ds => decide (uptoBulkAll ds ≤ 1048576)
def OpenSpec.upto (s : _root_.Go.ChangeSpec) : _root_.Go.OpenSpec := { _root_.Go.OpenSpec.ofChange s with cond := some uptoSmall }

/-- 'laws.FnAliasRound', WHERE WHAT IT READS IS OF BULK AT MOST 1048576: true; the input reads as it did. -/
def fnAliasRoundUptoRow : OpenClaim := { program := "yticepbgacokbbaadoor", sum := "d106d5fcb199b293e8a9ee96a527c411308c25f2ba1d6a19e2f2f37885999c17", func := "loop.example/satchel/laws.FnAliasRound", spec := "fnAliasRound", inPlace := ["internal/bytealg.IndexByteString", "internal/bytealg.IndexString", "internal/bytealg.CountString", "internal/bytealg.abigen_runtime_cmpstring"], unfollowed := true, recurses := true, named := ["unicode/utf8.first", "unicode/utf8.acceptRanges", "internal/bytealg.MaxLen"], plainKeys := false, apart := false, laid := [("unicode/utf8.acceptRanges", laid_unicode_utf8_acceptRanges), ("unicode/utf8.first", laid_unicode_utf8_first)], narrowed := true }
def FnAliasRoundUptoSaid : Prop := fnAliasRoundUptoRow.holds Tryd.pinned (OpenSpec.upto fnAliasRoundSpec)

/-- 'laws.FnAliasParts', WHERE WHAT IT READS IS OF BULK AT MOST 1048576: true; the input reads as it did. -/
def fnAliasPartsUptoRow : OpenClaim := { program := "yticepbgacokbbaadoor", sum := "d106d5fcb199b293e8a9ee96a527c411308c25f2ba1d6a19e2f2f37885999c17", func := "loop.example/satchel/laws.FnAliasParts", spec := "fnAliasParts", inPlace := ["internal/bytealg.IndexByteString", "internal/bytealg.IndexString", "internal/bytealg.CountString", "internal/bytealg.abigen_runtime_cmpstring"], unfollowed := true, recurses := true, named := ["unicode/utf8.first", "unicode/utf8.acceptRanges", "internal/bytealg.MaxLen"], plainKeys := false, apart := false, laid := [("unicode/utf8.acceptRanges", laid_unicode_utf8_acceptRanges), ("unicode/utf8.first", laid_unicode_utf8_first)], narrowed := true }
def FnAliasPartsUptoSaid : Prop := fnAliasPartsUptoRow.holds Tryd.pinned (OpenSpec.upto fnAliasPartsSpec)

/-- 'laws.FnAliasFor', WHERE WHAT IT READS IS OF BULK AT MOST 1048576: true; the input reads as it did. -/
def fnAliasForUptoRow : OpenClaim := { program := "yticepbgacokbbaadoor", sum := "d106d5fcb199b293e8a9ee96a527c411308c25f2ba1d6a19e2f2f37885999c17", func := "loop.example/satchel/laws.FnAliasFor", spec := "fnAliasFor", inPlace := ["internal/bytealg.IndexByteString", "internal/bytealg.IndexString", "internal/bytealg.CountString", "internal/bytealg.abigen_runtime_cmpstring"], unfollowed := true, recurses := true, named := ["unicode/utf8.first", "unicode/utf8.acceptRanges", "internal/bytealg.MaxLen"], plainKeys := false, apart := false, laid := [("unicode/utf8.acceptRanges", laid_unicode_utf8_acceptRanges), ("unicode/utf8.first", laid_unicode_utf8_first)], narrowed := true }
def FnAliasForUptoSaid : Prop := fnAliasForUptoRow.holds Tryd.pinned (OpenSpec.upto fnAliasForSpec)

/-- 'laws.FnAliasFlat', WHERE WHAT IT READS IS OF BULK AT MOST 1048576: true; the input reads as it did. -/
def fnAliasFlatUptoRow : OpenClaim := { program := "yticepbgacokbbaadoor", sum := "d106d5fcb199b293e8a9ee96a527c411308c25f2ba1d6a19e2f2f37885999c17", func := "loop.example/satchel/laws.FnAliasFlat", spec := "fnAliasFlat", inPlace := ["internal/bytealg.IndexByteString", "internal/bytealg.IndexString", "internal/bytealg.CountString", "internal/bytealg.abigen_runtime_cmpstring"], unfollowed := true, recurses := true, named := ["unicode/utf8.first", "unicode/utf8.acceptRanges", "internal/bytealg.MaxLen"], plainKeys := false, apart := false, laid := [("unicode/utf8.acceptRanges", laid_unicode_utf8_acceptRanges), ("unicode/utf8.first", laid_unicode_utf8_first)], narrowed := true }
def FnAliasFlatUptoSaid : Prop := fnAliasFlatUptoRow.holds Tryd.pinned (OpenSpec.upto fnAliasFlatSpec)

/-- 'laws.FnExactAliasFor', WHERE WHAT IT READS IS OF BULK AT MOST 1048576: true; the input reads as it did. -/
def fnExactAliasForUptoRow : OpenClaim := { program := "yticepbgacokbbaadoor", sum := "d106d5fcb199b293e8a9ee96a527c411308c25f2ba1d6a19e2f2f37885999c17", func := "loop.example/satchel/laws.FnExactAliasFor", spec := "fnExactAliasFor", inPlace := ["internal/bytealg.IndexByteString", "internal/bytealg.IndexString", "internal/bytealg.CountString", "internal/bytealg.abigen_runtime_cmpstring"], unfollowed := true, recurses := true, named := ["unicode/utf8.first", "unicode/utf8.acceptRanges", "internal/bytealg.MaxLen"], plainKeys := false, apart := false, laid := [("unicode/utf8.acceptRanges", laid_unicode_utf8_acceptRanges), ("unicode/utf8.first", laid_unicode_utf8_first)], narrowed := true }
def FnExactAliasForUptoSaid : Prop := fnExactAliasForUptoRow.holds Tryd.pinned (OpenSpec.upto fnExactAliasForSpec)

/-- 'laws.FnExactAliasRound', WHERE WHAT IT READS IS OF BULK AT MOST 1048576: true; the input reads as it did. -/
def fnExactAliasRoundUptoRow : OpenClaim := { program := "yticepbgacokbbaadoor", sum := "d106d5fcb199b293e8a9ee96a527c411308c25f2ba1d6a19e2f2f37885999c17", func := "loop.example/satchel/laws.FnExactAliasRound", spec := "fnExactAliasRound", inPlace := ["internal/bytealg.IndexByteString", "internal/bytealg.IndexString", "internal/bytealg.CountString", "internal/bytealg.abigen_runtime_cmpstring"], unfollowed := true, recurses := true, named := ["unicode/utf8.first", "unicode/utf8.acceptRanges", "internal/bytealg.MaxLen"], plainKeys := false, apart := false, laid := [("unicode/utf8.acceptRanges", laid_unicode_utf8_acceptRanges), ("unicode/utf8.first", laid_unicode_utf8_first)], narrowed := true }
def FnExactAliasRoundUptoSaid : Prop := fnExactAliasRoundUptoRow.holds Tryd.pinned (OpenSpec.upto fnExactAliasRoundSpec)

/-- 'laws.FnExactAliasFlat', WHERE WHAT IT READS IS OF BULK AT MOST 1048576: true; the input reads as it did. -/
def fnExactAliasFlatUptoRow : OpenClaim := { program := "yticepbgacokbbaadoor", sum := "d106d5fcb199b293e8a9ee96a527c411308c25f2ba1d6a19e2f2f37885999c17", func := "loop.example/satchel/laws.FnExactAliasFlat", spec := "fnExactAliasFlat", inPlace := ["internal/bytealg.IndexByteString", "internal/bytealg.IndexString", "internal/bytealg.CountString", "internal/bytealg.abigen_runtime_cmpstring"], unfollowed := true, recurses := true, named := ["unicode/utf8.first", "unicode/utf8.acceptRanges", "internal/bytealg.MaxLen"], plainKeys := false, apart := false, laid := [("unicode/utf8.acceptRanges", laid_unicode_utf8_acceptRanges), ("unicode/utf8.first", laid_unicode_utf8_first)], narrowed := true }
def FnExactAliasFlatUptoSaid : Prop := fnExactAliasFlatUptoRow.holds Tryd.pinned (OpenSpec.upto fnExactAliasFlatSpec)

end Rows
end Go.Proofs.YticepbgacokbbaaDoor
