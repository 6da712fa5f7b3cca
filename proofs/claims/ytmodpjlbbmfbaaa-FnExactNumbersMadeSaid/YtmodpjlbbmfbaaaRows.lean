/-
  No cell of these rows narrows 'for every input' (looked for: loops, veiled, ifaces, maps, wideKeys, modest, calm, conditions, laid).
  DERIVED. THE GIVEN ROWS OF THIS SEAT. 6 by the template 'for every input the law returns true; each argument reads behind the call as it read before'; 0 by the template 'total and deterministic' (their statements: YtmodpjlbbmfbaaaTotals.lean).
  GIVEN WITH THE SEED: the statements are not yours to turn. If you find one false, say at which input.
  Laid BY PROGRAM, IN A SANDBOX (cutbox-rows.mjs): the forced cells as the released guide's own fill.sh prints them over the translation 19faa5b8418e5caf… (all of the seat's roots in one cut). By AI agents, Wed Nov 11 2026. No macro, syntax, notation, axiom, sorry.
-/
import Derived.Test.YtmodpjlbbmfbaaaChecked
import GoSem.Claim
import GoSem.ClaimJoined
import GoSem.ClaimMapViews
import Derived.JoinedTies
import Derived.KernelRfl
namespace Go.Proofs.Ytmodpjlbbmfbaaa
/- THE CELL 'sum', in the pinned program and in every row, IS THE sha256 OF THE DUMP (.gsa) THAT YtmodpjlbbmfbaaaProg.lean LOADS. Nothing in Lean hashes anything: it is a label: what it is worth is what the hold of that sum in a sandbox is worth. -/
noncomputable def Try.pinned : Pinned := { name := "ytmodpjlbbmfbaaa", sum := "19faa5b8418e5caf18aab195115f5083ab7a9cded0330b68b37de146f9e8b746", checked := Try.checked }
namespace Rows
def none {H : Type} : Left H := { results := [], args := [] }

/-- 'laws.FnExactCountPlain': WHATEVER THE INPUT: true; the input reads as it did. -/
def fnExactCountPlainSpec : ChangeSpec := { name := "fnExactCountPlain", fn := fun _ => fun
  | [d1, d2] => { results := [.lit (.bool true)], args := [d1, d2] }
  | _ => none }
def fnExactCountPlainRow : OpenClaim := { program := "ytmodpjlbbmfbaaa", sum := "19faa5b8418e5caf18aab195115f5083ab7a9cded0330b68b37de146f9e8b746", func := "loop.example/g01395/laws.FnExactCountPlain", spec := "fnExactCountPlain", unfollowed := true, recurses := true, apart := false }
def FnExactCountPlainSaid : Prop := fnExactCountPlainRow.holds Try.pinned (OpenSpec.ofChange fnExactCountPlainSpec)

/-- ITS FALSE NEIGHBOUR: 'it returns false'. Refute it at one input. -/
def fnExactCountPlainWrong : ChangeSpec := { name := "fnExactCountPlain", fn := fun _ => fun
  | [d1, d2] => { results := [.lit (.bool false)], args := [d1, d2] }
  | _ => none }
def FnExactCountPlainWrongFalsely : Prop := fnExactCountPlainRow.holds Try.pinned (OpenSpec.ofChange fnExactCountPlainWrong)

/-- 'laws.FnExactCountNumbers': WHATEVER THE INPUT: true; the input reads as it did. -/
def fnExactCountNumbersSpec : ChangeSpec := { name := "fnExactCountNumbers", fn := fun _ => fun
  | [d] => { results := [.lit (.bool true)], args := [d] }
  | _ => none }
def fnExactCountNumbersRow : OpenClaim := { program := "ytmodpjlbbmfbaaa", sum := "19faa5b8418e5caf18aab195115f5083ab7a9cded0330b68b37de146f9e8b746", func := "loop.example/g01395/laws.FnExactCountNumbers", spec := "fnExactCountNumbers", unfollowed := true, recurses := true, apart := false }
def FnExactCountNumbersSaid : Prop := fnExactCountNumbersRow.holds Try.pinned (OpenSpec.ofChange fnExactCountNumbersSpec)

/-- ITS FALSE NEIGHBOUR: 'it returns false'. Refute it at one input. -/
def fnExactCountNumbersWrong : ChangeSpec := { name := "fnExactCountNumbers", fn := fun _ => fun
  | [d] => { results := [.lit (.bool false)], args := [d] }
  | _ => none }
def FnExactCountNumbersWrongFalsely : Prop := fnExactCountNumbersRow.holds Try.pinned (OpenSpec.ofChange fnExactCountNumbersWrong)

/-- 'laws.FnExactLeastNotMade': WHATEVER THE INPUT: true; the input reads as it did. -/
def fnExactLeastNotMadeSpec : ChangeSpec := { name := "fnExactLeastNotMade", fn := fun _ => fun
  | [d] => { results := [.lit (.bool true)], args := [d] }
  | _ => none }
def fnExactLeastNotMadeRow : OpenClaim := { program := "ytmodpjlbbmfbaaa", sum := "19faa5b8418e5caf18aab195115f5083ab7a9cded0330b68b37de146f9e8b746", func := "loop.example/g01395/laws.FnExactLeastNotMade", spec := "fnExactLeastNotMade", unfollowed := true, recurses := true, apart := false }
def FnExactLeastNotMadeSaid : Prop := fnExactLeastNotMadeRow.holds Try.pinned (OpenSpec.ofChange fnExactLeastNotMadeSpec)

/-- ITS FALSE NEIGHBOUR: 'it returns false'. Refute it at one input. -/
def fnExactLeastNotMadeWrong : ChangeSpec := { name := "fnExactLeastNotMade", fn := fun _ => fun
  | [d] => { results := [.lit (.bool false)], args := [d] }
  | _ => none }
def FnExactLeastNotMadeWrongFalsely : Prop := fnExactLeastNotMadeRow.holds Try.pinned (OpenSpec.ofChange fnExactLeastNotMadeWrong)

/-- 'laws.FnExactMostWays': WHATEVER THE INPUT: true; the input reads as it did. -/
def fnExactMostWaysSpec : ChangeSpec := { name := "fnExactMostWays", fn := fun _ => fun
  | [d] => { results := [.lit (.bool true)], args := [d] }
  | _ => none }
def fnExactMostWaysRow : OpenClaim := { program := "ytmodpjlbbmfbaaa", sum := "19faa5b8418e5caf18aab195115f5083ab7a9cded0330b68b37de146f9e8b746", func := "loop.example/g01395/laws.FnExactMostWays", spec := "fnExactMostWays", unfollowed := true, recurses := true, apart := false }
def FnExactMostWaysSaid : Prop := fnExactMostWaysRow.holds Try.pinned (OpenSpec.ofChange fnExactMostWaysSpec)

/-- ITS FALSE NEIGHBOUR: 'it returns false'. Refute it at one input. -/
def fnExactMostWaysWrong : ChangeSpec := { name := "fnExactMostWays", fn := fun _ => fun
  | [d] => { results := [.lit (.bool false)], args := [d] }
  | _ => none }
def FnExactMostWaysWrongFalsely : Prop := fnExactMostWaysRow.holds Try.pinned (OpenSpec.ofChange fnExactMostWaysWrong)

/-- 'laws.FnExactNearestMade': WHATEVER THE INPUT: true; the input reads as it did. -/
def fnExactNearestMadeSpec : ChangeSpec := { name := "fnExactNearestMade", fn := fun _ => fun
  | [d1, d2] => { results := [.lit (.bool true)], args := [d1, d2] }
  | _ => none }
def fnExactNearestMadeRow : OpenClaim := { program := "ytmodpjlbbmfbaaa", sum := "19faa5b8418e5caf18aab195115f5083ab7a9cded0330b68b37de146f9e8b746", func := "loop.example/g01395/laws.FnExactNearestMade", spec := "fnExactNearestMade", unfollowed := true, recurses := true, apart := false }
def FnExactNearestMadeSaid : Prop := fnExactNearestMadeRow.holds Try.pinned (OpenSpec.ofChange fnExactNearestMadeSpec)

/-- ITS FALSE NEIGHBOUR: 'it returns false'. Refute it at one input. -/
def fnExactNearestMadeWrong : ChangeSpec := { name := "fnExactNearestMade", fn := fun _ => fun
  | [d1, d2] => { results := [.lit (.bool false)], args := [d1, d2] }
  | _ => none }
def FnExactNearestMadeWrongFalsely : Prop := fnExactNearestMadeRow.holds Try.pinned (OpenSpec.ofChange fnExactNearestMadeWrong)

/-- 'laws.FnExactNumbersMade': WHATEVER THE INPUT: true; the input reads as it did. -/
def fnExactNumbersMadeSpec : ChangeSpec := { name := "fnExactNumbersMade", fn := fun _ => fun
  | [d] => { results := [.lit (.bool true)], args := [d] }
  | _ => none }
def fnExactNumbersMadeRow : OpenClaim := { program := "ytmodpjlbbmfbaaa", sum := "19faa5b8418e5caf18aab195115f5083ab7a9cded0330b68b37de146f9e8b746", func := "loop.example/g01395/laws.FnExactNumbersMade", spec := "fnExactNumbersMade", unfollowed := true, recurses := true, apart := false }
def FnExactNumbersMadeSaid : Prop := fnExactNumbersMadeRow.holds Try.pinned (OpenSpec.ofChange fnExactNumbersMadeSpec)

/-- ITS FALSE NEIGHBOUR: 'it returns false'. Refute it at one input. -/
def fnExactNumbersMadeWrong : ChangeSpec := { name := "fnExactNumbersMade", fn := fun _ => fun
  | [d] => { results := [.lit (.bool false)], args := [d] }
  | _ => none }
def FnExactNumbersMadeWrongFalsely : Prop := fnExactNumbersMadeRow.holds Try.pinned (OpenSpec.ofChange fnExactNumbersMadeWrong)

/- THE SECOND FORM. 'bulk': how many values and letters a reading holds, each counted each time it is reached (what is shared counts as often as it is met; a slice's spare places count too). A statement '..UptoSaid' is the law's where the arguments, and the package variables that the reading takes, are together of bulk at most 1048576: NARROWER than '..Said'. Prove '..Said' where nothing that the law and all that it calls make is longer than what came in: it says more and counts as full. Else prove '..UptoSaid'. A law counts once. -/
mutual
def uptoBulk {H : Type} : DataW H → Nat
  | .lit (.string bytes) => bytes.length + 1
  | .lit _ => 1
  | .nil => 1
  | .ptr d => uptoBulk d + 1
  | .slice elems spare => uptoBulkAll elems + uptoBulkAll spare + 1
  | .agg parts => uptoBulkAll parts + 1
  | .iface _ d => uptoBulk d + 1
  | .map entries => uptoBulkEntries entries + 1
  | .held _ => 1
def uptoBulkAll {H : Type} : List (DataW H) → Nat
  | [] => 0
  | d :: r => uptoBulk d + uptoBulkAll r
def uptoBulkEntries {H : Type} : List (Lit × DataW H) → Nat
  | [] => 0
  | x :: r => uptoBulkEntry x + uptoBulkEntries r
def uptoBulkEntry {H : Type} : Lit × DataW H → Nat
  | (.string bytes, d) => bytes.length + uptoBulk d + 1
  | (_, d) => uptoBulk d + 1
 end
def uptoSmall : (H : Type) → List (DataW H) → Bool := fun _ ds => decide (uptoBulkAll ds ≤ 1048576)
def OpenSpec.upto (s : _root_.Go.ChangeSpec) : _root_.Go.OpenSpec := { _root_.Go.OpenSpec.ofChange s with cond := some uptoSmall }

/-- 'laws.FnExactCountPlain', WHERE WHAT IT READS IS OF BULK AT MOST 1048576: true; the input reads as it did. -/
def fnExactCountPlainUptoRow : OpenClaim := { program := "ytmodpjlbbmfbaaa", sum := "19faa5b8418e5caf18aab195115f5083ab7a9cded0330b68b37de146f9e8b746", func := "loop.example/g01395/laws.FnExactCountPlain", spec := "fnExactCountPlain", unfollowed := true, recurses := true, apart := false, narrowed := true }
def FnExactCountPlainUptoSaid : Prop := fnExactCountPlainUptoRow.holds Try.pinned (OpenSpec.upto fnExactCountPlainSpec)

/-- 'laws.FnExactCountNumbers', WHERE WHAT IT READS IS OF BULK AT MOST 1048576: true; the input reads as it did. -/
def fnExactCountNumbersUptoRow : OpenClaim := { program := "ytmodpjlbbmfbaaa", sum := "19faa5b8418e5caf18aab195115f5083ab7a9cded0330b68b37de146f9e8b746", func := "loop.example/g01395/laws.FnExactCountNumbers", spec := "fnExactCountNumbers", unfollowed := true, recurses := true, apart := false, narrowed := true }
def FnExactCountNumbersUptoSaid : Prop := fnExactCountNumbersUptoRow.holds Try.pinned (OpenSpec.upto fnExactCountNumbersSpec)

/-- 'laws.FnExactLeastNotMade', WHERE WHAT IT READS IS OF BULK AT MOST 1048576: true; the input reads as it did. -/
def fnExactLeastNotMadeUptoRow : OpenClaim := { program := "ytmodpjlbbmfbaaa", sum := "19faa5b8418e5caf18aab195115f5083ab7a9cded0330b68b37de146f9e8b746", func := "loop.example/g01395/laws.FnExactLeastNotMade", spec := "fnExactLeastNotMade", unfollowed := true, recurses := true, apart := false, narrowed := true }
def FnExactLeastNotMadeUptoSaid : Prop := fnExactLeastNotMadeUptoRow.holds Try.pinned (OpenSpec.upto fnExactLeastNotMadeSpec)

/-- 'laws.FnExactMostWays', WHERE WHAT IT READS IS OF BULK AT MOST 1048576: true; the input reads as it did. -/
def fnExactMostWaysUptoRow : OpenClaim := { program := "ytmodpjlbbmfbaaa", sum := "19faa5b8418e5caf18aab195115f5083ab7a9cded0330b68b37de146f9e8b746", func := "loop.example/g01395/laws.FnExactMostWays", spec := "fnExactMostWays", unfollowed := true, recurses := true, apart := false, narrowed := true }
def FnExactMostWaysUptoSaid : Prop := fnExactMostWaysUptoRow.holds Try.pinned (OpenSpec.upto fnExactMostWaysSpec)

/-- 'laws.FnExactNearestMade', WHERE WHAT IT READS IS OF BULK AT MOST 1048576: true; the input reads as it did. -/
def fnExactNearestMadeUptoRow : OpenClaim := { program := "ytmodpjlbbmfbaaa", sum := "19faa5b8418e5caf18aab195115f5083ab7a9cded0330b68b37de146f9e8b746", func := "loop.example/g01395/laws.FnExactNearestMade", spec := "fnExactNearestMade", unfollowed := true, recurses := true, apart := false, narrowed := true }
def FnExactNearestMadeUptoSaid : Prop := fnExactNearestMadeUptoRow.holds Try.pinned (OpenSpec.upto fnExactNearestMadeSpec)

/-- 'laws.FnExactNumbersMade', WHERE WHAT IT READS IS OF BULK AT MOST 1048576: true; the input reads as it did. -/
def fnExactNumbersMadeUptoRow : OpenClaim := { program := "ytmodpjlbbmfbaaa", sum := "19faa5b8418e5caf18aab195115f5083ab7a9cded0330b68b37de146f9e8b746", func := "loop.example/g01395/laws.FnExactNumbersMade", spec := "fnExactNumbersMade", unfollowed := true, recurses := true, apart := false, narrowed := true }
def FnExactNumbersMadeUptoSaid : Prop := fnExactNumbersMadeUptoRow.holds Try.pinned (OpenSpec.upto fnExactNumbersMadeSpec)

end Rows
end Go.Proofs.Ytmodpjlbbmfbaaa
