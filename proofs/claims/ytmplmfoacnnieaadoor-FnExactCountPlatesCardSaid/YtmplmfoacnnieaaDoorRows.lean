/-
  NARROWER THAN 'FOR EVERY INPUT', by the rows' own cells (each row's printed sentence says how): FnExactIsPlate: laid · FnExactParseScheme: laid · FnExactCountPlates: laid · FnExactIsScheme: laid · FnExactSchemeText: laid · FnExactAddWord: laid · FnExactWordsIn: laid.
  DERIVED. THE GIVEN ROWS OF THIS SEAT. 7 by the template 'for every input the law returns true; each argument reads behind the call as it read before'; 0 by the template 'total and deterministic' (their statements: YtmplmfoacnnieaaDoorTotals.lean).
  GIVEN WITH THE SEED: the statements are not yours to turn. If you find one false, say at which input.
  Laid BY PROGRAM, IN A SANDBOX (cutbox-rows.mjs): the forced cells as the released guide's own fill.sh prints them over the translation e689703a479faf5b… (all of the seat's roots in one cut). By AI agents, Wed Nov 11 2026. No macro, syntax, notation, axiom, sorry.
-/
import Derived.Test.YtmplmfoacnnieaaDoorChecked
import GoSem.PinnedTables
import GoSem.Claim
import GoSem.ClaimJoined
import GoSem.ClaimMapViews
import Derived.JoinedTies
import Derived.KernelRfl
namespace Go.Proofs.YtmplmfoacnnieaaDoor
/- THE CELL 'sum', in the pinned program and in every row, IS THE sha256 OF THE DUMP (.gsa) THAT YtmplmfoacnnieaaDoorProg.lean LOADS. Nothing in Lean hashes anything: it is a label: what it is worth is what the hold of that sum in a sandbox is worth. -/
noncomputable def Tryd.pinned : Pinned := { name := "ytmplmfoacnnieaadoor", sum := "e689703a479faf5b880d512f420a836f217e5e2b5e136ccf47dc1eb5be1262c9", checked := Tryd.checked }
namespace Rows
def none {H : Type} : Left H := { results := [], args := [] }

/- WHAT THE LISTED PACKAGE-LEVEL VARIABLES READ AS WHEN THE CALL BEGINS. Each datum BY PROGRAM (the guide's laid-datum.mjs) off the statement by which the dump's own 'gosem.cut.vars' lays the variable. In a bare row this is a premise. The card (YtmplmfoacnnieaaDoorCards.lean) ties it to the program's text. -/
def laid_unicode_utf8_acceptRanges {H : Type} : DataW H := .agg [.agg [.lit (.int .u8 128), .lit (.int .u8 191)], .agg [.lit (.int .u8 160), .lit (.int .u8 191)], .agg [.lit (.int .u8 128), .lit (.int .u8 159)], .agg [.lit (.int .u8 144), .lit (.int .u8 191)], .agg [.lit (.int .u8 128), .lit (.int .u8 143)], .agg [.lit (.int .u8 0), .lit (.int .u8 0)], .agg [.lit (.int .u8 0), .lit (.int .u8 0)], .agg [.lit (.int .u8 0), .lit (.int .u8 0)], .agg [.lit (.int .u8 0), .lit (.int .u8 0)], .agg [.lit (.int .u8 0), .lit (.int .u8 0)], .agg [.lit (.int .u8 0), .lit (.int .u8 0)], .agg [.lit (.int .u8 0), .lit (.int .u8 0)], .agg [.lit (.int .u8 0), .lit (.int .u8 0)], .agg [.lit (.int .u8 0), .lit (.int .u8 0)], .agg [.lit (.int .u8 0), .lit (.int .u8 0)], .agg [.lit (.int .u8 0), .lit (.int .u8 0)]]
/-- One of Go's own tables, pinned by name: the form's constant. -/
def laid_unicode_utf8_first : DataW Unit := Go.Pinned.utf8First

/-- 'laws.FnExactIsPlate': WHATEVER THE INPUT: true; the input reads as it did. -/
def fnExactIsPlateSpec : ChangeSpec := { name := "fnExactIsPlate", fn := fun _ => fun
  | [d1, d2] => { results := [.lit (.bool true)], args := [d1, d2] }
  | _ => none }
def fnExactIsPlateRow : OpenClaim := { program := "ytmplmfoacnnieaadoor", sum := "e689703a479faf5b880d512f420a836f217e5e2b5e136ccf47dc1eb5be1262c9", func := "loop.example/g01395/laws.FnExactIsPlate", spec := "fnExactIsPlate", inPlace := ["internal/bytealg.IndexByteString", "internal/bytealg.IndexString"], unfollowed := true, recurses := true, named := ["unicode/utf8.first", "unicode/utf8.acceptRanges", "internal/bytealg.MaxLen"], apart := false, laid := [("unicode/utf8.acceptRanges", laid_unicode_utf8_acceptRanges), ("unicode/utf8.first", laid_unicode_utf8_first)] }
def FnExactIsPlateSaid : Prop := fnExactIsPlateRow.holds Tryd.pinned (OpenSpec.ofChange fnExactIsPlateSpec)

/-- ITS FALSE NEIGHBOUR: 'it returns false'. Refute it at one input. -/
def fnExactIsPlateWrong : ChangeSpec := { name := "fnExactIsPlate", fn := fun _ => fun
  | [d1, d2] => { results := [.lit (.bool false)], args := [d1, d2] }
  | _ => none }
def FnExactIsPlateWrongFalsely : Prop := fnExactIsPlateRow.holds Tryd.pinned (OpenSpec.ofChange fnExactIsPlateWrong)

/-- 'laws.FnExactParseScheme': WHATEVER THE INPUT: true; the input reads as it did. -/
def fnExactParseSchemeSpec : ChangeSpec := { name := "fnExactParseScheme", fn := fun _ => fun
  | [d] => { results := [.lit (.bool true)], args := [d] }
  | _ => none }
def fnExactParseSchemeRow : OpenClaim := { program := "ytmplmfoacnnieaadoor", sum := "e689703a479faf5b880d512f420a836f217e5e2b5e136ccf47dc1eb5be1262c9", func := "loop.example/g01395/laws.FnExactParseScheme", spec := "fnExactParseScheme", inPlace := ["internal/bytealg.CountString", "internal/bytealg.IndexByteString", "internal/bytealg.IndexString"], unfollowed := true, recurses := true, named := ["unicode/utf8.first", "unicode/utf8.acceptRanges", "internal/bytealg.MaxLen"], apart := false, laid := [("unicode/utf8.acceptRanges", laid_unicode_utf8_acceptRanges), ("unicode/utf8.first", laid_unicode_utf8_first)] }
def FnExactParseSchemeSaid : Prop := fnExactParseSchemeRow.holds Tryd.pinned (OpenSpec.ofChange fnExactParseSchemeSpec)

/-- ITS FALSE NEIGHBOUR: 'it returns false'. Refute it at one input. -/
def fnExactParseSchemeWrong : ChangeSpec := { name := "fnExactParseScheme", fn := fun _ => fun
  | [d] => { results := [.lit (.bool false)], args := [d] }
  | _ => none }
def FnExactParseSchemeWrongFalsely : Prop := fnExactParseSchemeRow.holds Tryd.pinned (OpenSpec.ofChange fnExactParseSchemeWrong)

/-- 'laws.FnExactCountPlates': WHATEVER THE INPUT: true; the input reads as it did. -/
def fnExactCountPlatesSpec : ChangeSpec := { name := "fnExactCountPlates", fn := fun _ => fun
  | [d] => { results := [.lit (.bool true)], args := [d] }
  | _ => none }
def fnExactCountPlatesRow : OpenClaim := { program := "ytmplmfoacnnieaadoor", sum := "e689703a479faf5b880d512f420a836f217e5e2b5e136ccf47dc1eb5be1262c9", func := "loop.example/g01395/laws.FnExactCountPlates", spec := "fnExactCountPlates", inPlace := ["internal/bytealg.IndexByteString", "internal/bytealg.IndexString"], unfollowed := true, recurses := true, named := ["unicode/utf8.first", "unicode/utf8.acceptRanges", "internal/bytealg.MaxLen"], apart := false, laid := [("unicode/utf8.acceptRanges", laid_unicode_utf8_acceptRanges), ("unicode/utf8.first", laid_unicode_utf8_first)] }
def FnExactCountPlatesSaid : Prop := fnExactCountPlatesRow.holds Tryd.pinned (OpenSpec.ofChange fnExactCountPlatesSpec)

/-- ITS FALSE NEIGHBOUR: 'it returns false'. Refute it at one input. -/
def fnExactCountPlatesWrong : ChangeSpec := { name := "fnExactCountPlates", fn := fun _ => fun
  | [d] => { results := [.lit (.bool false)], args := [d] }
  | _ => none }
def FnExactCountPlatesWrongFalsely : Prop := fnExactCountPlatesRow.holds Tryd.pinned (OpenSpec.ofChange fnExactCountPlatesWrong)

/-- 'laws.FnExactIsScheme': WHATEVER THE INPUT: true; the input reads as it did. -/
def fnExactIsSchemeSpec : ChangeSpec := { name := "fnExactIsScheme", fn := fun _ => fun
  | [d] => { results := [.lit (.bool true)], args := [d] }
  | _ => none }
def fnExactIsSchemeRow : OpenClaim := { program := "ytmplmfoacnnieaadoor", sum := "e689703a479faf5b880d512f420a836f217e5e2b5e136ccf47dc1eb5be1262c9", func := "loop.example/g01395/laws.FnExactIsScheme", spec := "fnExactIsScheme", inPlace := ["internal/bytealg.IndexByteString", "internal/bytealg.IndexString"], unfollowed := true, recurses := true, named := ["unicode/utf8.first", "unicode/utf8.acceptRanges", "internal/bytealg.MaxLen"], apart := false, laid := [("unicode/utf8.acceptRanges", laid_unicode_utf8_acceptRanges), ("unicode/utf8.first", laid_unicode_utf8_first)] }
def FnExactIsSchemeSaid : Prop := fnExactIsSchemeRow.holds Tryd.pinned (OpenSpec.ofChange fnExactIsSchemeSpec)

/-- ITS FALSE NEIGHBOUR: 'it returns false'. Refute it at one input. -/
def fnExactIsSchemeWrong : ChangeSpec := { name := "fnExactIsScheme", fn := fun _ => fun
  | [d] => { results := [.lit (.bool false)], args := [d] }
  | _ => none }
def FnExactIsSchemeWrongFalsely : Prop := fnExactIsSchemeRow.holds Tryd.pinned (OpenSpec.ofChange fnExactIsSchemeWrong)

/-- 'laws.FnExactSchemeText': WHATEVER THE INPUT: true; the input reads as it did. -/
def fnExactSchemeTextSpec : ChangeSpec := { name := "fnExactSchemeText", fn := fun _ => fun
  | [d] => { results := [.lit (.bool true)], args := [d] }
  | _ => none }
def fnExactSchemeTextRow : OpenClaim := { program := "ytmplmfoacnnieaadoor", sum := "e689703a479faf5b880d512f420a836f217e5e2b5e136ccf47dc1eb5be1262c9", func := "loop.example/g01395/laws.FnExactSchemeText", spec := "fnExactSchemeText", inPlace := ["internal/bytealg.IndexByteString", "internal/bytealg.IndexString"], unfollowed := true, recurses := true, named := ["unicode/utf8.first", "unicode/utf8.acceptRanges", "internal/bytealg.MaxLen"], apart := false, laid := [("unicode/utf8.acceptRanges", laid_unicode_utf8_acceptRanges), ("unicode/utf8.first", laid_unicode_utf8_first)] }
def FnExactSchemeTextSaid : Prop := fnExactSchemeTextRow.holds Tryd.pinned (OpenSpec.ofChange fnExactSchemeTextSpec)

/-- ITS FALSE NEIGHBOUR: 'it returns false'. Refute it at one input. -/
def fnExactSchemeTextWrong : ChangeSpec := { name := "fnExactSchemeText", fn := fun _ => fun
  | [d] => { results := [.lit (.bool false)], args := [d] }
  | _ => none }
def FnExactSchemeTextWrongFalsely : Prop := fnExactSchemeTextRow.holds Tryd.pinned (OpenSpec.ofChange fnExactSchemeTextWrong)

/-- 'laws.FnExactAddWord': WHATEVER THE INPUT: true; the input reads as it did. -/
def fnExactAddWordSpec : ChangeSpec := { name := "fnExactAddWord", fn := fun _ => fun
  | [d1, d2] => { results := [.lit (.bool true)], args := [d1, d2] }
  | _ => none }
def fnExactAddWordRow : OpenClaim := { program := "ytmplmfoacnnieaadoor", sum := "e689703a479faf5b880d512f420a836f217e5e2b5e136ccf47dc1eb5be1262c9", func := "loop.example/g01395/laws.FnExactAddWord", spec := "fnExactAddWord", inPlace := ["internal/bytealg.IndexByteString", "internal/bytealg.IndexString"], unfollowed := true, recurses := true, named := ["unicode/utf8.first", "unicode/utf8.acceptRanges", "internal/bytealg.MaxLen"], apart := false, laid := [("unicode/utf8.acceptRanges", laid_unicode_utf8_acceptRanges), ("unicode/utf8.first", laid_unicode_utf8_first)] }
def FnExactAddWordSaid : Prop := fnExactAddWordRow.holds Tryd.pinned (OpenSpec.ofChange fnExactAddWordSpec)

/-- ITS FALSE NEIGHBOUR: 'it returns false'. Refute it at one input. -/
def fnExactAddWordWrong : ChangeSpec := { name := "fnExactAddWord", fn := fun _ => fun
  | [d1, d2] => { results := [.lit (.bool false)], args := [d1, d2] }
  | _ => none }
def FnExactAddWordWrongFalsely : Prop := fnExactAddWordRow.holds Tryd.pinned (OpenSpec.ofChange fnExactAddWordWrong)

/-- 'laws.FnExactWordsIn': WHATEVER THE INPUT: true; the input reads as it did. -/
def fnExactWordsInSpec : ChangeSpec := { name := "fnExactWordsIn", fn := fun _ => fun
  | [d1, d2] => { results := [.lit (.bool true)], args := [d1, d2] }
  | _ => none }
def fnExactWordsInRow : OpenClaim := { program := "ytmplmfoacnnieaadoor", sum := "e689703a479faf5b880d512f420a836f217e5e2b5e136ccf47dc1eb5be1262c9", func := "loop.example/g01395/laws.FnExactWordsIn", spec := "fnExactWordsIn", inPlace := ["internal/bytealg.IndexByteString", "internal/bytealg.IndexString"], unfollowed := true, recurses := true, named := ["unicode/utf8.first", "unicode/utf8.acceptRanges", "internal/bytealg.MaxLen"], apart := false, laid := [("unicode/utf8.acceptRanges", laid_unicode_utf8_acceptRanges), ("unicode/utf8.first", laid_unicode_utf8_first)] }
def FnExactWordsInSaid : Prop := fnExactWordsInRow.holds Tryd.pinned (OpenSpec.ofChange fnExactWordsInSpec)

/-- ITS FALSE NEIGHBOUR: 'it returns false'. Refute it at one input. -/
def fnExactWordsInWrong : ChangeSpec := { name := "fnExactWordsIn", fn := fun _ => fun
  | [d1, d2] => { results := [.lit (.bool false)], args := [d1, d2] }
  | _ => none }
def FnExactWordsInWrongFalsely : Prop := fnExactWordsInRow.holds Tryd.pinned (OpenSpec.ofChange fnExactWordsInWrong)

/- THE SECOND FORM. 'bulk': how many values and letters a reading holds, each counted each time it is reached (what is shared counts as often as it is met; a slice's spare places count too). A statement '..UptoSaid' is the law's where the arguments, and the package variables that the reading takes, are together of bulk at most 1048576: NARROWER than '..Said'. Prove '..Said' where nothing that the law and all that it calls make is longer than what came in: it says more and counts as full. Else prove '..UptoSaid'. A law counts once. -/
mutual
def uptoBulk {H : Type} : DataW H → Nat
  | .lit (.string bytes) => bytes.length + 1
  | .lit _ => 1
  | .nil => 1
  | .ptr d => uptoBulk d + 1
  | .slice elems spare => uptoBulkAll elems + uptoBulkAll spare + 1
  | .agg parts => uptoBulkAll parts + 1
  | .iface _ d => uptoBulk d + 1
  | .map entries => uptoBulkEntries entries + 1
  | .held _ => 1
def uptoBulkAll {H : Type} : List (DataW H) → Nat
  | [] => 0
  | d :: r => uptoBulk d + uptoBulkAll r
def uptoBulkEntries {H : Type} : List (Lit × DataW H) → Nat
  | [] => 0
  | x :: r => uptoBulkEntry x + uptoBulkEntries r
def uptoBulkEntry {H : Type} : Lit × DataW H → Nat
  | (.string bytes, d) => bytes.length + uptoBulk d + 1
  | (_, d) => uptoBulk d + 1
 end
def uptoSmall : (H : Type) → List (DataW H) → Bool := fun _ ds => decide (uptoBulkAll ds ≤ 1048576)
def OpenSpec.upto (s : _root_.Go.ChangeSpec) : _root_.Go.OpenSpec := { _root_.Go.OpenSpec.ofChange s with cond := some uptoSmall }

/-- 'laws.FnExactIsPlate', WHERE WHAT IT READS IS OF BULK AT MOST 1048576: true; the input reads as it did. -/
def fnExactIsPlateUptoRow : OpenClaim := { program := "ytmplmfoacnnieaadoor", sum := "e689703a479faf5b880d512f420a836f217e5e2b5e136ccf47dc1eb5be1262c9", func := "loop.example/g01395/laws.FnExactIsPlate", spec := "fnExactIsPlate", inPlace := ["internal/bytealg.IndexByteString", "internal/bytealg.IndexString"], unfollowed := true, recurses := true, named := ["unicode/utf8.first", "unicode/utf8.acceptRanges", "internal/bytealg.MaxLen"], apart := false, laid := [("unicode/utf8.acceptRanges", laid_unicode_utf8_acceptRanges), ("unicode/utf8.first", laid_unicode_utf8_first)], narrowed := true }
def FnExactIsPlateUptoSaid : Prop := fnExactIsPlateUptoRow.holds Tryd.pinned (OpenSpec.upto fnExactIsPlateSpec)

/-- 'laws.FnExactParseScheme', WHERE WHAT IT READS IS OF BULK AT MOST 1048576: true; the input reads as it did. -/
def fnExactParseSchemeUptoRow : OpenClaim := { program := "ytmplmfoacnnieaadoor", sum := "e689703a479faf5b880d512f420a836f217e5e2b5e136ccf47dc1eb5be1262c9", func := "loop.example/g01395/laws.FnExactParseScheme", spec := "fnExactParseScheme", inPlace := ["internal/bytealg.CountString", "internal/bytealg.IndexByteString", "internal/bytealg.IndexString"], unfollowed := true, recurses := true, named := ["unicode/utf8.first", "unicode/utf8.acceptRanges", "internal/bytealg.MaxLen"], apart := false, laid := [("unicode/utf8.acceptRanges", laid_unicode_utf8_acceptRanges), ("unicode/utf8.first", laid_unicode_utf8_first)], narrowed := true }
def FnExactParseSchemeUptoSaid : Prop := fnExactParseSchemeUptoRow.holds Tryd.pinned (OpenSpec.upto fnExactParseSchemeSpec)

/-- 'laws.FnExactCountPlates', WHERE WHAT IT READS IS OF BULK AT MOST 1048576: true; the input reads as it did. -/
def fnExactCountPlatesUptoRow : OpenClaim := { program := "ytmplmfoacnnieaadoor", sum := "e689703a479faf5b880d512f420a836f217e5e2b5e136ccf47dc1eb5be1262c9", func := "loop.example/g01395/laws.FnExactCountPlates", spec := "fnExactCountPlates", inPlace := ["internal/bytealg.IndexByteString", "internal/bytealg.IndexString"], unfollowed := true, recurses := true, named := ["unicode/utf8.first", "unicode/utf8.acceptRanges", "internal/bytealg.MaxLen"], apart := false, laid := [("unicode/utf8.acceptRanges", laid_unicode_utf8_acceptRanges), ("unicode/utf8.first", laid_unicode_utf8_first)], narrowed := true }
def FnExactCountPlatesUptoSaid : Prop := fnExactCountPlatesUptoRow.holds Tryd.pinned (OpenSpec.upto fnExactCountPlatesSpec)

/-- 'laws.FnExactIsScheme', WHERE WHAT IT READS IS OF BULK AT MOST 1048576: true; the input reads as it did. -/
def fnExactIsSchemeUptoRow : OpenClaim := { program := "ytmplmfoacnnieaadoor", sum := "e689703a479faf5b880d512f420a836f217e5e2b5e136ccf47dc1eb5be1262c9", func := "loop.example/g01395/laws.FnExactIsScheme", spec := "fnExactIsScheme", inPlace := ["internal/bytealg.IndexByteString", "internal/bytealg.IndexString"], unfollowed := true, recurses := true, named := ["unicode/utf8.first", "unicode/utf8.acceptRanges", "internal/bytealg.MaxLen"], apart := false, laid := [("unicode/utf8.acceptRanges", laid_unicode_utf8_acceptRanges), ("unicode/utf8.first", laid_unicode_utf8_first)], narrowed := true }
def FnExactIsSchemeUptoSaid : Prop := fnExactIsSchemeUptoRow.holds Tryd.pinned (OpenSpec.upto fnExactIsSchemeSpec)

/-- 'laws.FnExactSchemeText', WHERE WHAT IT READS IS OF BULK AT MOST 1048576: true; the input reads as it did. -/
def fnExactSchemeTextUptoRow : OpenClaim := { program := "ytmplmfoacnnieaadoor", sum := "e689703a479faf5b880d512f420a836f217e5e2b5e136ccf47dc1eb5be1262c9", func := "loop.example/g01395/laws.FnExactSchemeText", spec := "fnExactSchemeText", inPlace := ["internal/bytealg.IndexByteString", "internal/bytealg.IndexString"], unfollowed := true, recurses := true, named := ["unicode/utf8.first", "unicode/utf8.acceptRanges", "internal/bytealg.MaxLen"], apart := false, laid := [("unicode/utf8.acceptRanges", laid_unicode_utf8_acceptRanges), ("unicode/utf8.first", laid_unicode_utf8_first)], narrowed := true }
def FnExactSchemeTextUptoSaid : Prop := fnExactSchemeTextUptoRow.holds Tryd.pinned (OpenSpec.upto fnExactSchemeTextSpec)

/-- 'laws.FnExactAddWord', WHERE WHAT IT READS IS OF BULK AT MOST 1048576: true; the input reads as it did. -/
def fnExactAddWordUptoRow : OpenClaim := { program := "ytmplmfoacnnieaadoor", sum := "e689703a479faf5b880d512f420a836f217e5e2b5e136ccf47dc1eb5be1262c9", func := "loop.example/g01395/laws.FnExactAddWord", spec := "fnExactAddWord", inPlace := ["internal/bytealg.IndexByteString", "internal/bytealg.IndexString"], unfollowed := true, recurses := true, named := ["unicode/utf8.first", "unicode/utf8.acceptRanges", "internal/bytealg.MaxLen"], apart := false, laid := [("unicode/utf8.acceptRanges", laid_unicode_utf8_acceptRanges), ("unicode/utf8.first", laid_unicode_utf8_first)], narrowed := true }
def FnExactAddWordUptoSaid : Prop := fnExactAddWordUptoRow.holds Tryd.pinned (OpenSpec.upto fnExactAddWordSpec)

/-- 'laws.FnExactWordsIn', WHERE WHAT IT READS IS OF BULK AT MOST 1048576: true; the input reads as it did. -/
def fnExactWordsInUptoRow : OpenClaim := { program := "ytmplmfoacnnieaadoor", sum := "e689703a479faf5b880d512f420a836f217e5e2b5e136ccf47dc1eb5be1262c9", func := "loop.example/g01395/laws.FnExactWordsIn", spec := "fnExactWordsIn", inPlace := ["internal/bytealg.IndexByteString", "internal/bytealg.IndexString"], unfollowed := true, recurses := true, named := ["unicode/utf8.first", "unicode/utf8.acceptRanges", "internal/bytealg.MaxLen"], apart := false, laid := [("unicode/utf8.acceptRanges", laid_unicode_utf8_acceptRanges), ("unicode/utf8.first", laid_unicode_utf8_first)], narrowed := true }
def FnExactWordsInUptoSaid : Prop := fnExactWordsInUptoRow.holds Tryd.pinned (OpenSpec.upto fnExactWordsInSpec)

end Rows
end Go.Proofs.YtmplmfoacnnieaaDoor
