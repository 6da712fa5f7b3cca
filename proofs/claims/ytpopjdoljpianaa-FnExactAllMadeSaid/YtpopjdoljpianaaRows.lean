/-
  No cell of these rows narrows 'for every input' (looked for: loops, veiled, ifaces, maps, wideKeys, modest, calm, conditions, laid).
  DERIVED. THE GIVEN ROWS OF THIS SEAT. 11 by the template 'for every input the law returns true; each argument reads behind the call as it read before'; 0 by the template 'total and deterministic' (their statements: YtpopjdoljpianaaTotals.lean).
  GIVEN WITH THE SEED: the statements are not yours to turn. If you find one false, say at which input.
  Laid BY PROGRAM, IN A SANDBOX (cutbox-rows.mjs): the forced cells as the released guide's own fill.sh prints them over the translation 4f9c789c9e1326a2… (all of the seat's roots in one cut). By AI agents, Wed Nov 11 2026. No macro, syntax, notation, axiom, sorry.
-/
import Derived.Test.YtpopjdoljpianaaChecked
import GoSem.Claim
import GoSem.ClaimJoined
import GoSem.ClaimMapViews
import Derived.JoinedTies
import Derived.KernelRfl
namespace Go.Proofs.Ytpopjdoljpianaa
/- THE CELL 'sum', in the pinned program and in every row, IS THE sha256 OF THE DUMP (.gsa) THAT YtpopjdoljpianaaProg.lean LOADS. Nothing in Lean hashes anything: it is a label: what it is worth is what the hold of that sum in a sandbox is worth. -/
noncomputable def Try.pinned : Pinned := { name := "ytpopjdoljpianaa", sum := "4f9c789c9e1326a2833a1326757beed8795f51d236de0acc149895f0f100aa42", checked := Try.checked }
namespace Rows
def none {H : Type} : Left H := { results := [], args := [] }

/-- 'laws.FnExactIsSigned': WHATEVER THE INPUT: true; the input reads as it did. -/
def fnExactIsSignedSpec : ChangeSpec := { name := "fnExactIsSigned", fn := fun _ => fun
  | [d] => { results := [.lit (.bool true)], args := [d] }
  | _ => none }
def fnExactIsSignedRow : OpenClaim := { program := "ytpopjdoljpianaa", sum := "4f9c789c9e1326a2833a1326757beed8795f51d236de0acc149895f0f100aa42", func := "loop.example/g01395/laws.FnExactIsSigned", spec := "fnExactIsSigned", unfollowed := true, recurses := true, apart := false }
def FnExactIsSignedSaid : Prop := fnExactIsSignedRow.holds Try.pinned (OpenSpec.ofChange fnExactIsSignedSpec)

/-- ITS FALSE NEIGHBOUR: 'it returns false'. Refute it at one input. -/
def fnExactIsSignedWrong : ChangeSpec := { name := "fnExactIsSigned", fn := fun _ => fun
  | [d] => { results := [.lit (.bool false)], args := [d] }
  | _ => none }
def FnExactIsSignedWrongFalsely : Prop := fnExactIsSignedRow.holds Try.pinned (OpenSpec.ofChange fnExactIsSignedWrong)

/-- 'laws.FnExactDigitsOfSigned': WHATEVER THE INPUT: true; the input reads as it did. -/
def fnExactDigitsOfSignedSpec : ChangeSpec := { name := "fnExactDigitsOfSigned", fn := fun _ => fun
  | [d] => { results := [.lit (.bool true)], args := [d] }
  | _ => none }
def fnExactDigitsOfSignedRow : OpenClaim := { program := "ytpopjdoljpianaa", sum := "4f9c789c9e1326a2833a1326757beed8795f51d236de0acc149895f0f100aa42", func := "loop.example/g01395/laws.FnExactDigitsOfSigned", spec := "fnExactDigitsOfSigned", unfollowed := true, recurses := true, apart := false }
def FnExactDigitsOfSignedSaid : Prop := fnExactDigitsOfSignedRow.holds Try.pinned (OpenSpec.ofChange fnExactDigitsOfSignedSpec)

/-- ITS FALSE NEIGHBOUR: 'it returns false'. Refute it at one input. -/
def fnExactDigitsOfSignedWrong : ChangeSpec := { name := "fnExactDigitsOfSigned", fn := fun _ => fun
  | [d] => { results := [.lit (.bool false)], args := [d] }
  | _ => none }
def FnExactDigitsOfSignedWrongFalsely : Prop := fnExactDigitsOfSignedRow.holds Try.pinned (OpenSpec.ofChange fnExactDigitsOfSignedWrong)

/-- 'laws.FnExactValueOfSigned': WHATEVER THE INPUT: true; the input reads as it did. -/
def fnExactValueOfSignedSpec : ChangeSpec := { name := "fnExactValueOfSigned", fn := fun _ => fun
  | [d] => { results := [.lit (.bool true)], args := [d] }
  | _ => none }
def fnExactValueOfSignedRow : OpenClaim := { program := "ytpopjdoljpianaa", sum := "4f9c789c9e1326a2833a1326757beed8795f51d236de0acc149895f0f100aa42", func := "loop.example/g01395/laws.FnExactValueOfSigned", spec := "fnExactValueOfSigned", unfollowed := true, recurses := true, apart := false }
def FnExactValueOfSignedSaid : Prop := fnExactValueOfSignedRow.holds Try.pinned (OpenSpec.ofChange fnExactValueOfSignedSpec)

/-- ITS FALSE NEIGHBOUR: 'it returns false'. Refute it at one input. -/
def fnExactValueOfSignedWrong : ChangeSpec := { name := "fnExactValueOfSigned", fn := fun _ => fun
  | [d] => { results := [.lit (.bool false)], args := [d] }
  | _ => none }
def FnExactValueOfSignedWrongFalsely : Prop := fnExactValueOfSignedRow.holds Try.pinned (OpenSpec.ofChange fnExactValueOfSignedWrong)

/-- 'laws.FnExactCountSigns': WHATEVER THE INPUT: true; the input reads as it did. -/
def fnExactCountSignsSpec : ChangeSpec := { name := "fnExactCountSigns", fn := fun _ => fun
  | [d] => { results := [.lit (.bool true)], args := [d] }
  | _ => none }
def fnExactCountSignsRow : OpenClaim := { program := "ytpopjdoljpianaa", sum := "4f9c789c9e1326a2833a1326757beed8795f51d236de0acc149895f0f100aa42", func := "loop.example/g01395/laws.FnExactCountSigns", spec := "fnExactCountSigns", unfollowed := true, recurses := true, apart := false }
def FnExactCountSignsSaid : Prop := fnExactCountSignsRow.holds Try.pinned (OpenSpec.ofChange fnExactCountSignsSpec)

/-- ITS FALSE NEIGHBOUR: 'it returns false'. Refute it at one input. -/
def fnExactCountSignsWrong : ChangeSpec := { name := "fnExactCountSigns", fn := fun _ => fun
  | [d] => { results := [.lit (.bool false)], args := [d] }
  | _ => none }
def FnExactCountSignsWrongFalsely : Prop := fnExactCountSignsRow.holds Try.pinned (OpenSpec.ofChange fnExactCountSignsWrong)

/-- 'laws.FnExactJoinSigned': WHATEVER THE INPUT: true; the input reads as it did. -/
def fnExactJoinSignedSpec : ChangeSpec := { name := "fnExactJoinSigned", fn := fun _ => fun
  | [d1, d2, d3] => { results := [.lit (.bool true)], args := [d1, d2, d3] }
  | _ => none }
def fnExactJoinSignedRow : OpenClaim := { program := "ytpopjdoljpianaa", sum := "4f9c789c9e1326a2833a1326757beed8795f51d236de0acc149895f0f100aa42", func := "loop.example/g01395/laws.FnExactJoinSigned", spec := "fnExactJoinSigned", unfollowed := true, recurses := true, apart := false }
def FnExactJoinSignedSaid : Prop := fnExactJoinSignedRow.holds Try.pinned (OpenSpec.ofChange fnExactJoinSignedSpec)

/-- ITS FALSE NEIGHBOUR: 'it returns false'. Refute it at one input. -/
def fnExactJoinSignedWrong : ChangeSpec := { name := "fnExactJoinSigned", fn := fun _ => fun
  | [d1, d2, d3] => { results := [.lit (.bool false)], args := [d1, d2, d3] }
  | _ => none }
def FnExactJoinSignedWrongFalsely : Prop := fnExactJoinSignedRow.holds Try.pinned (OpenSpec.ofChange fnExactJoinSignedWrong)

/-- 'laws.FnExactCountMade': WHATEVER THE INPUT: true; the input reads as it did. -/
def fnExactCountMadeSpec : ChangeSpec := { name := "fnExactCountMade", fn := fun _ => fun
  | [d1, d2] => { results := [.lit (.bool true)], args := [d1, d2] }
  | _ => none }
def fnExactCountMadeRow : OpenClaim := { program := "ytpopjdoljpianaa", sum := "4f9c789c9e1326a2833a1326757beed8795f51d236de0acc149895f0f100aa42", func := "loop.example/g01395/laws.FnExactCountMade", spec := "fnExactCountMade", unfollowed := true, recurses := true, apart := false }
def FnExactCountMadeSaid : Prop := fnExactCountMadeRow.holds Try.pinned (OpenSpec.ofChange fnExactCountMadeSpec)

/-- ITS FALSE NEIGHBOUR: 'it returns false'. Refute it at one input. -/
def fnExactCountMadeWrong : ChangeSpec := { name := "fnExactCountMade", fn := fun _ => fun
  | [d1, d2] => { results := [.lit (.bool false)], args := [d1, d2] }
  | _ => none }
def FnExactCountMadeWrongFalsely : Prop := fnExactCountMadeRow.holds Try.pinned (OpenSpec.ofChange fnExactCountMadeWrong)

/-- 'laws.FnExactFirstMade': WHATEVER THE INPUT: true; the input reads as it did. -/
def fnExactFirstMadeSpec : ChangeSpec := { name := "fnExactFirstMade", fn := fun _ => fun
  | [d1, d2] => { results := [.lit (.bool true)], args := [d1, d2] }
  | _ => none }
def fnExactFirstMadeRow : OpenClaim := { program := "ytpopjdoljpianaa", sum := "4f9c789c9e1326a2833a1326757beed8795f51d236de0acc149895f0f100aa42", func := "loop.example/g01395/laws.FnExactFirstMade", spec := "fnExactFirstMade", unfollowed := true, recurses := true, apart := false }
def FnExactFirstMadeSaid : Prop := fnExactFirstMadeRow.holds Try.pinned (OpenSpec.ofChange fnExactFirstMadeSpec)

/-- ITS FALSE NEIGHBOUR: 'it returns false'. Refute it at one input. -/
def fnExactFirstMadeWrong : ChangeSpec := { name := "fnExactFirstMade", fn := fun _ => fun
  | [d1, d2] => { results := [.lit (.bool false)], args := [d1, d2] }
  | _ => none }
def FnExactFirstMadeWrongFalsely : Prop := fnExactFirstMadeRow.holds Try.pinned (OpenSpec.ofChange fnExactFirstMadeWrong)

/-- 'laws.FnExactAllMade': WHATEVER THE INPUT: true; the input reads as it did. -/
def fnExactAllMadeSpec : ChangeSpec := { name := "fnExactAllMade", fn := fun _ => fun
  | [d1, d2] => { results := [.lit (.bool true)], args := [d1, d2] }
  | _ => none }
def fnExactAllMadeRow : OpenClaim := { program := "ytpopjdoljpianaa", sum := "4f9c789c9e1326a2833a1326757beed8795f51d236de0acc149895f0f100aa42", func := "loop.example/g01395/laws.FnExactAllMade", spec := "fnExactAllMade", unfollowed := true, recurses := true, apart := false }
def FnExactAllMadeSaid : Prop := fnExactAllMadeRow.holds Try.pinned (OpenSpec.ofChange fnExactAllMadeSpec)

/-- ITS FALSE NEIGHBOUR: 'it returns false'. Refute it at one input. -/
def fnExactAllMadeWrong : ChangeSpec := { name := "fnExactAllMade", fn := fun _ => fun
  | [d1, d2] => { results := [.lit (.bool false)], args := [d1, d2] }
  | _ => none }
def FnExactAllMadeWrongFalsely : Prop := fnExactAllMadeRow.holds Try.pinned (OpenSpec.ofChange fnExactAllMadeWrong)

/-- 'laws.FnExactFewestSigns': WHATEVER THE INPUT: true; the input reads as it did. -/
def fnExactFewestSignsSpec : ChangeSpec := { name := "fnExactFewestSigns", fn := fun _ => fun
  | [d1, d2] => { results := [.lit (.bool true)], args := [d1, d2] }
  | _ => none }
def fnExactFewestSignsRow : OpenClaim := { program := "ytpopjdoljpianaa", sum := "4f9c789c9e1326a2833a1326757beed8795f51d236de0acc149895f0f100aa42", func := "loop.example/g01395/laws.FnExactFewestSigns", spec := "fnExactFewestSigns", unfollowed := true, recurses := true, apart := false }
def FnExactFewestSignsSaid : Prop := fnExactFewestSignsRow.holds Try.pinned (OpenSpec.ofChange fnExactFewestSignsSpec)

/-- ITS FALSE NEIGHBOUR: 'it returns false'. Refute it at one input. -/
def fnExactFewestSignsWrong : ChangeSpec := { name := "fnExactFewestSigns", fn := fun _ => fun
  | [d1, d2] => { results := [.lit (.bool false)], args := [d1, d2] }
  | _ => none }
def FnExactFewestSignsWrongFalsely : Prop := fnExactFewestSignsRow.holds Try.pinned (OpenSpec.ofChange fnExactFewestSignsWrong)

/-- 'laws.FnExactFirstFewestSigns': WHATEVER THE INPUT: true; the input reads as it did. -/
def fnExactFirstFewestSignsSpec : ChangeSpec := { name := "fnExactFirstFewestSigns", fn := fun _ => fun
  | [d1, d2] => { results := [.lit (.bool true)], args := [d1, d2] }
  | _ => none }
def fnExactFirstFewestSignsRow : OpenClaim := { program := "ytpopjdoljpianaa", sum := "4f9c789c9e1326a2833a1326757beed8795f51d236de0acc149895f0f100aa42", func := "loop.example/g01395/laws.FnExactFirstFewestSigns", spec := "fnExactFirstFewestSigns", unfollowed := true, recurses := true, apart := false }
def FnExactFirstFewestSignsSaid : Prop := fnExactFirstFewestSignsRow.holds Try.pinned (OpenSpec.ofChange fnExactFirstFewestSignsSpec)

/-- ITS FALSE NEIGHBOUR: 'it returns false'. Refute it at one input. -/
def fnExactFirstFewestSignsWrong : ChangeSpec := { name := "fnExactFirstFewestSigns", fn := fun _ => fun
  | [d1, d2] => { results := [.lit (.bool false)], args := [d1, d2] }
  | _ => none }
def FnExactFirstFewestSignsWrongFalsely : Prop := fnExactFirstFewestSignsRow.holds Try.pinned (OpenSpec.ofChange fnExactFirstFewestSignsWrong)

/-- 'laws.FnExactFirstPlain': WHATEVER THE INPUT: true; the input reads as it did. -/
def fnExactFirstPlainSpec : ChangeSpec := { name := "fnExactFirstPlain", fn := fun _ => fun
  | [d1, d2] => { results := [.lit (.bool true)], args := [d1, d2] }
  | _ => none }
def fnExactFirstPlainRow : OpenClaim := { program := "ytpopjdoljpianaa", sum := "4f9c789c9e1326a2833a1326757beed8795f51d236de0acc149895f0f100aa42", func := "loop.example/g01395/laws.FnExactFirstPlain", spec := "fnExactFirstPlain", unfollowed := true, recurses := true, apart := false }
def FnExactFirstPlainSaid : Prop := fnExactFirstPlainRow.holds Try.pinned (OpenSpec.ofChange fnExactFirstPlainSpec)

/-- ITS FALSE NEIGHBOUR: 'it returns false'. Refute it at one input. -/
def fnExactFirstPlainWrong : ChangeSpec := { name := "fnExactFirstPlain", fn := fun _ => fun
  | [d1, d2] => { results := [.lit (.bool false)], args := [d1, d2] }
  | _ => none }
def FnExactFirstPlainWrongFalsely : Prop := fnExactFirstPlainRow.holds Try.pinned (OpenSpec.ofChange fnExactFirstPlainWrong)

/- THE SECOND FORM. 'bulk': how many values and letters a reading holds, each counted each time it is reached (what is shared counts as often as it is met; a slice's spare places count too). A statement '..UptoSaid' is the law's where the arguments, and the package variables that the reading takes, are together of bulk at most 1048576: NARROWER than '..Said'. Prove '..Said' where nothing that the law and all that it calls make is longer than what came in: it says more and counts as full. Else prove '..UptoSaid'. A law counts once. -/
mutual
def uptoBulk {H : Type} : DataW H → Nat
  | .lit (.string bytes) => bytes.length + 1
  | .lit _ => 1
  | .nil => 1
  | .ptr d => uptoBulk d + 1
  | .slice elems spare => uptoBulkAll elems + uptoBulkAll spare + 1
  | .agg parts => uptoBulkAll parts + 1
  | .iface _ d => uptoBulk d + 1
  | .map entries => uptoBulkEntries entries + 1
  | .held _ => 1
def uptoBulkAll {H : Type} : List (DataW H) → Nat
  | [] => 0
  | d :: r => uptoBulk d + uptoBulkAll r
def uptoBulkEntries {H : Type} : List (Lit × DataW H) → Nat
  | [] => 0
  | x :: r => uptoBulkEntry x + uptoBulkEntries r
def uptoBulkEntry {H : Type} : Lit × DataW H → Nat
  | (.string bytes, d) => bytes.length + uptoBulk d + 1
  | (_, d) => uptoBulk d + 1
 end
def uptoSmall : (H : Type) → List (DataW H) → Bool := fun _ ds => decide (uptoBulkAll ds ≤ 1048576)
def OpenSpec.upto (s : _root_.Go.ChangeSpec) : _root_.Go.OpenSpec := { _root_.Go.OpenSpec.ofChange s with cond := some uptoSmall }

/-- 'laws.FnExactIsSigned', WHERE WHAT IT READS IS OF BULK AT MOST 1048576: true; the input reads as it did. -/
def fnExactIsSignedUptoRow : OpenClaim := { program := "ytpopjdoljpianaa", sum := "4f9c789c9e1326a2833a1326757beed8795f51d236de0acc149895f0f100aa42", func := "loop.example/g01395/laws.FnExactIsSigned", spec := "fnExactIsSigned", unfollowed := true, recurses := true, apart := false, narrowed := true }
def FnExactIsSignedUptoSaid : Prop := fnExactIsSignedUptoRow.holds Try.pinned (OpenSpec.upto fnExactIsSignedSpec)

/-- 'laws.FnExactDigitsOfSigned', WHERE WHAT IT READS IS OF BULK AT MOST 1048576: true; the input reads as it did. -/
def fnExactDigitsOfSignedUptoRow : OpenClaim := { program := "ytpopjdoljpianaa", sum := "4f9c789c9e1326a2833a1326757beed8795f51d236de0acc149895f0f100aa42", func := "loop.example/g01395/laws.FnExactDigitsOfSigned", spec := "fnExactDigitsOfSigned", unfollowed := true, recurses := true, apart := false, narrowed := true }
def FnExactDigitsOfSignedUptoSaid : Prop := fnExactDigitsOfSignedUptoRow.holds Try.pinned (OpenSpec.upto fnExactDigitsOfSignedSpec)

/-- 'laws.FnExactValueOfSigned', WHERE WHAT IT READS IS OF BULK AT MOST 1048576: true; the input reads as it did. -/
def fnExactValueOfSignedUptoRow : OpenClaim := { program := "ytpopjdoljpianaa", sum := "4f9c789c9e1326a2833a1326757beed8795f51d236de0acc149895f0f100aa42", func := "loop.example/g01395/laws.FnExactValueOfSigned", spec := "fnExactValueOfSigned", unfollowed := true, recurses := true, apart := false, narrowed := true }
def FnExactValueOfSignedUptoSaid : Prop := fnExactValueOfSignedUptoRow.holds Try.pinned (OpenSpec.upto fnExactValueOfSignedSpec)

/-- 'laws.FnExactCountSigns', WHERE WHAT IT READS IS OF BULK AT MOST 1048576: true; the input reads as it did. -/
def fnExactCountSignsUptoRow : OpenClaim := { program := "ytpopjdoljpianaa", sum := "4f9c789c9e1326a2833a1326757beed8795f51d236de0acc149895f0f100aa42", func := "loop.example/g01395/laws.FnExactCountSigns", spec := "fnExactCountSigns", unfollowed := true, recurses := true, apart := false, narrowed := true }
def FnExactCountSignsUptoSaid : Prop := fnExactCountSignsUptoRow.holds Try.pinned (OpenSpec.upto fnExactCountSignsSpec)

/-- 'laws.FnExactJoinSigned', WHERE WHAT IT READS IS OF BULK AT MOST 1048576: true; the input reads as it did. -/
def fnExactJoinSignedUptoRow : OpenClaim := { program := "ytpopjdoljpianaa", sum := "4f9c789c9e1326a2833a1326757beed8795f51d236de0acc149895f0f100aa42", func := "loop.example/g01395/laws.FnExactJoinSigned", spec := "fnExactJoinSigned", unfollowed := true, recurses := true, apart := false, narrowed := true }
def FnExactJoinSignedUptoSaid : Prop := fnExactJoinSignedUptoRow.holds Try.pinned (OpenSpec.upto fnExactJoinSignedSpec)

/-- 'laws.FnExactCountMade', WHERE WHAT IT READS IS OF BULK AT MOST 1048576: true; the input reads as it did. -/
def fnExactCountMadeUptoRow : OpenClaim := { program := "ytpopjdoljpianaa", sum := "4f9c789c9e1326a2833a1326757beed8795f51d236de0acc149895f0f100aa42", func := "loop.example/g01395/laws.FnExactCountMade", spec := "fnExactCountMade", unfollowed := true, recurses := true, apart := false, narrowed := true }
def FnExactCountMadeUptoSaid : Prop := fnExactCountMadeUptoRow.holds Try.pinned (OpenSpec.upto fnExactCountMadeSpec)

/-- 'laws.FnExactFirstMade', WHERE WHAT IT READS IS OF BULK AT MOST 1048576: true; the input reads as it did. -/
def fnExactFirstMadeUptoRow : OpenClaim := { program := "ytpopjdoljpianaa", sum := "4f9c789c9e1326a2833a1326757beed8795f51d236de0acc149895f0f100aa42", func := "loop.example/g01395/laws.FnExactFirstMade", spec := "fnExactFirstMade", unfollowed := true, recurses := true, apart := false, narrowed := true }
def FnExactFirstMadeUptoSaid : Prop := fnExactFirstMadeUptoRow.holds Try.pinned (OpenSpec.upto fnExactFirstMadeSpec)

/-- 'laws.FnExactAllMade', WHERE WHAT IT READS IS OF BULK AT MOST 1048576: true; the input reads as it did. -/
def fnExactAllMadeUptoRow : OpenClaim := { program := "ytpopjdoljpianaa", sum := "4f9c789c9e1326a2833a1326757beed8795f51d236de0acc149895f0f100aa42", func := "loop.example/g01395/laws.FnExactAllMade", spec := "fnExactAllMade", unfollowed := true, recurses := true, apart := false, narrowed := true }
def FnExactAllMadeUptoSaid : Prop := fnExactAllMadeUptoRow.holds Try.pinned (OpenSpec.upto fnExactAllMadeSpec)

/-- 'laws.FnExactFewestSigns', WHERE WHAT IT READS IS OF BULK AT MOST 1048576: true; the input reads as it did. -/
def fnExactFewestSignsUptoRow : OpenClaim := { program := "ytpopjdoljpianaa", sum := "4f9c789c9e1326a2833a1326757beed8795f51d236de0acc149895f0f100aa42", func := "loop.example/g01395/laws.FnExactFewestSigns", spec := "fnExactFewestSigns", unfollowed := true, recurses := true, apart := false, narrowed := true }
def FnExactFewestSignsUptoSaid : Prop := fnExactFewestSignsUptoRow.holds Try.pinned (OpenSpec.upto fnExactFewestSignsSpec)

/-- 'laws.FnExactFirstFewestSigns', WHERE WHAT IT READS IS OF BULK AT MOST 1048576: true; the input reads as it did. -/
def fnExactFirstFewestSignsUptoRow : OpenClaim := { program := "ytpopjdoljpianaa", sum := "4f9c789c9e1326a2833a1326757beed8795f51d236de0acc149895f0f100aa42", func := "loop.example/g01395/laws.FnExactFirstFewestSigns", spec := "fnExactFirstFewestSigns", unfollowed := true, recurses := true, apart := false, narrowed := true }
def FnExactFirstFewestSignsUptoSaid : Prop := fnExactFirstFewestSignsUptoRow.holds Try.pinned (OpenSpec.upto fnExactFirstFewestSignsSpec)

/-- 'laws.FnExactFirstPlain', WHERE WHAT IT READS IS OF BULK AT MOST 1048576: true; the input reads as it did. -/
def fnExactFirstPlainUptoRow : OpenClaim := { program := "ytpopjdoljpianaa", sum := "4f9c789c9e1326a2833a1326757beed8795f51d236de0acc149895f0f100aa42", func := "loop.example/g01395/laws.FnExactFirstPlain", spec := "fnExactFirstPlain", unfollowed := true, recurses := true, apart := false, narrowed := true }
def FnExactFirstPlainUptoSaid : Prop := fnExactFirstPlainUptoRow.holds Try.pinned (OpenSpec.upto fnExactFirstPlainSpec)

end Rows
end Go.Proofs.Ytpopjdoljpianaa
