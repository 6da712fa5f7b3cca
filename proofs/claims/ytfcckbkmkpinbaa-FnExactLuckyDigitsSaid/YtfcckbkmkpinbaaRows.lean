/-
  No cell of these rows narrows 'for every input' (looked for: loops, veiled, ifaces, maps, wideKeys, modest, calm, conditions, laid).
  DERIVED. THE GIVEN ROWS OF THIS SEAT. 9 by the template 'for every input the law returns true; each argument reads behind the call as it read before'; 0 by the template 'total and deterministic' (their statements: YtfcckbkmkpinbaaTotals.lean).
  GIVEN WITH THE SEED: the statements are not yours to turn. If you find one false, say at which input.
  Laid BY PROGRAM, IN A SANDBOX (cutbox-rows.mjs): the forced cells as the released guide's own fill.sh prints them over the translation 0c98162b4ed24522… (all of the seat's roots in one cut). By AI agents, Wed Nov 11 2026. No macro, syntax, notation, axiom, sorry.
-/
import Derived.Test.YtfcckbkmkpinbaaChecked
import GoSem.Claim
import GoSem.ClaimJoined
import GoSem.ClaimMapViews
import Derived.JoinedTies
import Derived.KernelRfl
namespace Go.Proofs.Ytfcckbkmkpinbaa
/- THE CELL 'sum', in the pinned program and in every row, IS THE sha256 OF THE DUMP (.gsa) THAT YtfcckbkmkpinbaaProg.lean LOADS. Nothing in Lean hashes anything: it is a label: what it is worth is what the hold of that sum in a sandbox is worth. -/
noncomputable def Try.pinned : Pinned := { name := "ytfcckbkmkpinbaa", sum := "0c98162b4ed24522b30ff0dc57d4c84ba033b28bec22e71974c3135d2182cde8", checked := Try.checked }
namespace Rows
def none {H : Type} : Left H := { results := [], args := [] }

/-- 'laws.FnExactCountLucky': WHATEVER THE INPUT: true; the input reads as it did. -/
def fnExactCountLuckySpec : ChangeSpec := { name := "fnExactCountLucky", fn := fun _ => fun
  | [d] => { results := [.lit (.bool true)], args := [d] }
  | _ => none }
def fnExactCountLuckyRow : OpenClaim := { program := "ytfcckbkmkpinbaa", sum := "0c98162b4ed24522b30ff0dc57d4c84ba033b28bec22e71974c3135d2182cde8", func := "loop.example/g01395/laws.FnExactCountLucky", spec := "fnExactCountLucky", apart := false }
def FnExactCountLuckySaid : Prop := fnExactCountLuckyRow.holds Try.pinned (OpenSpec.ofChange fnExactCountLuckySpec)

/-- ITS FALSE NEIGHBOUR: 'it returns false'. Refute it at one input. -/
def fnExactCountLuckyWrong : ChangeSpec := { name := "fnExactCountLucky", fn := fun _ => fun
  | [d] => { results := [.lit (.bool false)], args := [d] }
  | _ => none }
def FnExactCountLuckyWrongFalsely : Prop := fnExactCountLuckyRow.holds Try.pinned (OpenSpec.ofChange fnExactCountLuckyWrong)

/-- 'laws.FnExactSumsOfLucky': WHATEVER THE INPUT: true; the input reads as it did. -/
def fnExactSumsOfLuckySpec : ChangeSpec := { name := "fnExactSumsOfLucky", fn := fun _ => fun
  | [d] => { results := [.lit (.bool true)], args := [d] }
  | _ => none }
def fnExactSumsOfLuckyRow : OpenClaim := { program := "ytfcckbkmkpinbaa", sum := "0c98162b4ed24522b30ff0dc57d4c84ba033b28bec22e71974c3135d2182cde8", func := "loop.example/g01395/laws.FnExactSumsOfLucky", spec := "fnExactSumsOfLucky", apart := false }
def FnExactSumsOfLuckySaid : Prop := fnExactSumsOfLuckyRow.holds Try.pinned (OpenSpec.ofChange fnExactSumsOfLuckySpec)

/-- ITS FALSE NEIGHBOUR: 'it returns false'. Refute it at one input. -/
def fnExactSumsOfLuckyWrong : ChangeSpec := { name := "fnExactSumsOfLucky", fn := fun _ => fun
  | [d] => { results := [.lit (.bool false)], args := [d] }
  | _ => none }
def FnExactSumsOfLuckyWrongFalsely : Prop := fnExactSumsOfLuckyRow.holds Try.pinned (OpenSpec.ofChange fnExactSumsOfLuckyWrong)

/-- 'laws.FnExactLuckyDigits': WHATEVER THE INPUT: true; the input reads as it did. -/
def fnExactLuckyDigitsSpec : ChangeSpec := { name := "fnExactLuckyDigits", fn := fun _ => fun
  | [d] => { results := [.lit (.bool true)], args := [d] }
  | _ => none }
def fnExactLuckyDigitsRow : OpenClaim := { program := "ytfcckbkmkpinbaa", sum := "0c98162b4ed24522b30ff0dc57d4c84ba033b28bec22e71974c3135d2182cde8", func := "loop.example/g01395/laws.FnExactLuckyDigits", spec := "fnExactLuckyDigits", recurses := true, apart := false }
def FnExactLuckyDigitsSaid : Prop := fnExactLuckyDigitsRow.holds Try.pinned (OpenSpec.ofChange fnExactLuckyDigitsSpec)

/-- ITS FALSE NEIGHBOUR: 'it returns false'. Refute it at one input. -/
def fnExactLuckyDigitsWrong : ChangeSpec := { name := "fnExactLuckyDigits", fn := fun _ => fun
  | [d] => { results := [.lit (.bool false)], args := [d] }
  | _ => none }
def FnExactLuckyDigitsWrongFalsely : Prop := fnExactLuckyDigitsRow.holds Try.pinned (OpenSpec.ofChange fnExactLuckyDigitsWrong)

/-- 'laws.FnExactRankOfLucky': WHATEVER THE INPUT: true; the input reads as it did. -/
def fnExactRankOfLuckySpec : ChangeSpec := { name := "fnExactRankOfLucky", fn := fun _ => fun
  | [d] => { results := [.lit (.bool true)], args := [d] }
  | _ => none }
def fnExactRankOfLuckyRow : OpenClaim := { program := "ytfcckbkmkpinbaa", sum := "0c98162b4ed24522b30ff0dc57d4c84ba033b28bec22e71974c3135d2182cde8", func := "loop.example/g01395/laws.FnExactRankOfLucky", spec := "fnExactRankOfLucky", apart := false }
def FnExactRankOfLuckySaid : Prop := fnExactRankOfLuckyRow.holds Try.pinned (OpenSpec.ofChange fnExactRankOfLuckySpec)

/-- ITS FALSE NEIGHBOUR: 'it returns false'. Refute it at one input. -/
def fnExactRankOfLuckyWrong : ChangeSpec := { name := "fnExactRankOfLucky", fn := fun _ => fun
  | [d] => { results := [.lit (.bool false)], args := [d] }
  | _ => none }
def FnExactRankOfLuckyWrongFalsely : Prop := fnExactRankOfLuckyRow.holds Try.pinned (OpenSpec.ofChange fnExactRankOfLuckyWrong)

/-- 'laws.FnExactLuckyOfRank': WHATEVER THE INPUT: true; the input reads as it did. -/
def fnExactLuckyOfRankSpec : ChangeSpec := { name := "fnExactLuckyOfRank", fn := fun _ => fun
  | [d1, d2] => { results := [.lit (.bool true)], args := [d1, d2] }
  | _ => none }
def fnExactLuckyOfRankRow : OpenClaim := { program := "ytfcckbkmkpinbaa", sum := "0c98162b4ed24522b30ff0dc57d4c84ba033b28bec22e71974c3135d2182cde8", func := "loop.example/g01395/laws.FnExactLuckyOfRank", spec := "fnExactLuckyOfRank", recurses := true, apart := false }
def FnExactLuckyOfRankSaid : Prop := fnExactLuckyOfRankRow.holds Try.pinned (OpenSpec.ofChange fnExactLuckyOfRankSpec)

/-- ITS FALSE NEIGHBOUR: 'it returns false'. Refute it at one input. -/
def fnExactLuckyOfRankWrong : ChangeSpec := { name := "fnExactLuckyOfRank", fn := fun _ => fun
  | [d1, d2] => { results := [.lit (.bool false)], args := [d1, d2] }
  | _ => none }
def FnExactLuckyOfRankWrongFalsely : Prop := fnExactLuckyOfRankRow.holds Try.pinned (OpenSpec.ofChange fnExactLuckyOfRankWrong)

/-- 'laws.FnExactCountLuckyBetween': WHATEVER THE INPUT: true; the input reads as it did. -/
def fnExactCountLuckyBetweenSpec : ChangeSpec := { name := "fnExactCountLuckyBetween", fn := fun _ => fun
  | [d1, d2] => { results := [.lit (.bool true)], args := [d1, d2] }
  | _ => none }
def fnExactCountLuckyBetweenRow : OpenClaim := { program := "ytfcckbkmkpinbaa", sum := "0c98162b4ed24522b30ff0dc57d4c84ba033b28bec22e71974c3135d2182cde8", func := "loop.example/g01395/laws.FnExactCountLuckyBetween", spec := "fnExactCountLuckyBetween", apart := false }
def FnExactCountLuckyBetweenSaid : Prop := fnExactCountLuckyBetweenRow.holds Try.pinned (OpenSpec.ofChange fnExactCountLuckyBetweenSpec)

/-- ITS FALSE NEIGHBOUR: 'it returns false'. Refute it at one input. -/
def fnExactCountLuckyBetweenWrong : ChangeSpec := { name := "fnExactCountLuckyBetween", fn := fun _ => fun
  | [d1, d2] => { results := [.lit (.bool false)], args := [d1, d2] }
  | _ => none }
def FnExactCountLuckyBetweenWrongFalsely : Prop := fnExactCountLuckyBetweenRow.holds Try.pinned (OpenSpec.ofChange fnExactCountLuckyBetweenWrong)

/-- 'laws.FnExactLastLucky': WHATEVER THE INPUT: true; the input reads as it did. -/
def fnExactLastLuckySpec : ChangeSpec := { name := "fnExactLastLucky", fn := fun _ => fun
  | [d] => { results := [.lit (.bool true)], args := [d] }
  | _ => none }
def fnExactLastLuckyRow : OpenClaim := { program := "ytfcckbkmkpinbaa", sum := "0c98162b4ed24522b30ff0dc57d4c84ba033b28bec22e71974c3135d2182cde8", func := "loop.example/g01395/laws.FnExactLastLucky", spec := "fnExactLastLucky", recurses := true, apart := false }
def FnExactLastLuckySaid : Prop := fnExactLastLuckyRow.holds Try.pinned (OpenSpec.ofChange fnExactLastLuckySpec)

/-- ITS FALSE NEIGHBOUR: 'it returns false'. Refute it at one input. -/
def fnExactLastLuckyWrong : ChangeSpec := { name := "fnExactLastLucky", fn := fun _ => fun
  | [d] => { results := [.lit (.bool false)], args := [d] }
  | _ => none }
def FnExactLastLuckyWrongFalsely : Prop := fnExactLastLuckyRow.holds Try.pinned (OpenSpec.ofChange fnExactLastLuckyWrong)

/-- 'laws.FnExactNextLucky': WHATEVER THE INPUT: true; the input reads as it did. -/
def fnExactNextLuckySpec : ChangeSpec := { name := "fnExactNextLucky", fn := fun _ => fun
  | [d] => { results := [.lit (.bool true)], args := [d] }
  | _ => none }
def fnExactNextLuckyRow : OpenClaim := { program := "ytfcckbkmkpinbaa", sum := "0c98162b4ed24522b30ff0dc57d4c84ba033b28bec22e71974c3135d2182cde8", func := "loop.example/g01395/laws.FnExactNextLucky", spec := "fnExactNextLucky", recurses := true, apart := false }
def FnExactNextLuckySaid : Prop := fnExactNextLuckyRow.holds Try.pinned (OpenSpec.ofChange fnExactNextLuckySpec)

/-- ITS FALSE NEIGHBOUR: 'it returns false'. Refute it at one input. -/
def fnExactNextLuckyWrong : ChangeSpec := { name := "fnExactNextLucky", fn := fun _ => fun
  | [d] => { results := [.lit (.bool false)], args := [d] }
  | _ => none }
def FnExactNextLuckyWrongFalsely : Prop := fnExactNextLuckyRow.holds Try.pinned (OpenSpec.ofChange fnExactNextLuckyWrong)

/-- 'laws.FnExactGapsAround': WHATEVER THE INPUT: true; the input reads as it did. -/
def fnExactGapsAroundSpec : ChangeSpec := { name := "fnExactGapsAround", fn := fun _ => fun
  | [d] => { results := [.lit (.bool true)], args := [d] }
  | _ => none }
def fnExactGapsAroundRow : OpenClaim := { program := "ytfcckbkmkpinbaa", sum := "0c98162b4ed24522b30ff0dc57d4c84ba033b28bec22e71974c3135d2182cde8", func := "loop.example/g01395/laws.FnExactGapsAround", spec := "fnExactGapsAround", recurses := true, apart := false }
def FnExactGapsAroundSaid : Prop := fnExactGapsAroundRow.holds Try.pinned (OpenSpec.ofChange fnExactGapsAroundSpec)

/-- ITS FALSE NEIGHBOUR: 'it returns false'. Refute it at one input. -/
def fnExactGapsAroundWrong : ChangeSpec := { name := "fnExactGapsAround", fn := fun _ => fun
  | [d] => { results := [.lit (.bool false)], args := [d] }
  | _ => none }
def FnExactGapsAroundWrongFalsely : Prop := fnExactGapsAroundRow.holds Try.pinned (OpenSpec.ofChange fnExactGapsAroundWrong)

/- THE SECOND FORM. 'bulk': how many values and letters a reading holds, each counted each time it is reached (what is shared counts as often as it is met; a slice's spare places count too). A statement '..UptoSaid' is the law's where the arguments, and the package variables that the reading takes, are together of bulk at most 1048576: NARROWER than '..Said'. Prove '..Said' where nothing that the law and all that it calls make is longer than what came in: it says more and counts as full. Else prove '..UptoSaid'. A law counts once. -/
mutual
def uptoBulk {H : Type} : DataW H → Nat
  | .lit (.string bytes) => bytes.length + 1
  | .lit _ => 1
  | .nil => 1
  | .ptr d => uptoBulk d + 1
  | .slice elems spare => uptoBulkAll elems + uptoBulkAll spare + 1
  | .agg parts => uptoBulkAll parts + 1
  | .iface _ d => uptoBulk d + 1
  | .map entries => uptoBulkEntries entries + 1
  | .held _ => 1
def uptoBulkAll {H : Type} : List (DataW H) → Nat
  | [] => 0
  | d :: r => uptoBulk d + uptoBulkAll r
def uptoBulkEntries {H : Type} : List (Lit × DataW H) → Nat
  | [] => 0
  | x :: r => uptoBulkEntry x + uptoBulkEntries r
def uptoBulkEntry {H : Type} : Lit × DataW H → Nat
  | (.string bytes, d) => bytes.length + uptoBulk d + 1
  | (_, d) => uptoBulk d + 1
 end
def uptoSmall : (H : Type) → List (DataW H) → Bool := fun _ ds => decide (uptoBulkAll ds ≤ 1048576)
def OpenSpec.upto (s : _root_.Go.ChangeSpec) : _root_.Go.OpenSpec := { _root_.Go.OpenSpec.ofChange s with cond := some uptoSmall }

/-- 'laws.FnExactCountLucky', WHERE WHAT IT READS IS OF BULK AT MOST 1048576: true; the input reads as it did. -/
def fnExactCountLuckyUptoRow : OpenClaim := { program := "ytfcckbkmkpinbaa", sum := "0c98162b4ed24522b30ff0dc57d4c84ba033b28bec22e71974c3135d2182cde8", func := "loop.example/g01395/laws.FnExactCountLucky", spec := "fnExactCountLucky", apart := false, narrowed := true }
def FnExactCountLuckyUptoSaid : Prop := fnExactCountLuckyUptoRow.holds Try.pinned (OpenSpec.upto fnExactCountLuckySpec)

/-- 'laws.FnExactSumsOfLucky', WHERE WHAT IT READS IS OF BULK AT MOST 1048576: true; the input reads as it did. -/
def fnExactSumsOfLuckyUptoRow : OpenClaim := { program := "ytfcckbkmkpinbaa", sum := "0c98162b4ed24522b30ff0dc57d4c84ba033b28bec22e71974c3135d2182cde8", func := "loop.example/g01395/laws.FnExactSumsOfLucky", spec := "fnExactSumsOfLucky", apart := false, narrowed := true }
def FnExactSumsOfLuckyUptoSaid : Prop := fnExactSumsOfLuckyUptoRow.holds Try.pinned (OpenSpec.upto fnExactSumsOfLuckySpec)

/-- 'laws.FnExactLuckyDigits', WHERE WHAT IT READS IS OF BULK AT MOST 1048576: true; the input reads as it did. -/
def fnExactLuckyDigitsUptoRow : OpenClaim := { program := "ytfcckbkmkpinbaa", sum := "0c98162b4ed24522b30ff0dc57d4c84ba033b28bec22e71974c3135d2182cde8", func := "loop.example/g01395/laws.FnExactLuckyDigits", spec := "fnExactLuckyDigits", recurses := true, apart := false, narrowed := true }
def FnExactLuckyDigitsUptoSaid : Prop := fnExactLuckyDigitsUptoRow.holds Try.pinned (OpenSpec.upto fnExactLuckyDigitsSpec)

/-- 'laws.FnExactRankOfLucky', WHERE WHAT IT READS IS OF BULK AT MOST 1048576: true; the input reads as it did. -/
def fnExactRankOfLuckyUptoRow : OpenClaim := { program := "ytfcckbkmkpinbaa", sum := "0c98162b4ed24522b30ff0dc57d4c84ba033b28bec22e71974c3135d2182cde8", func := "loop.example/g01395/laws.FnExactRankOfLucky", spec := "fnExactRankOfLucky", apart := false, narrowed := true }
def FnExactRankOfLuckyUptoSaid : Prop := fnExactRankOfLuckyUptoRow.holds Try.pinned (OpenSpec.upto fnExactRankOfLuckySpec)

/-- 'laws.FnExactLuckyOfRank', WHERE WHAT IT READS IS OF BULK AT MOST 1048576: true; the input reads as it did. -/
def fnExactLuckyOfRankUptoRow : OpenClaim := { program := "ytfcckbkmkpinbaa", sum := "0c98162b4ed24522b30ff0dc57d4c84ba033b28bec22e71974c3135d2182cde8", func := "loop.example/g01395/laws.FnExactLuckyOfRank", spec := "fnExactLuckyOfRank", recurses := true, apart := false, narrowed := true }
def FnExactLuckyOfRankUptoSaid : Prop := fnExactLuckyOfRankUptoRow.holds Try.pinned (OpenSpec.upto fnExactLuckyOfRankSpec)

/-- 'laws.FnExactCountLuckyBetween', WHERE WHAT IT READS IS OF BULK AT MOST 1048576: true; the input reads as it did. -/
def fnExactCountLuckyBetweenUptoRow : OpenClaim := { program := "ytfcckbkmkpinbaa", sum := "0c98162b4ed24522b30ff0dc57d4c84ba033b28bec22e71974c3135d2182cde8", func := "loop.example/g01395/laws.FnExactCountLuckyBetween", spec := "fnExactCountLuckyBetween", apart := false, narrowed := true }
def FnExactCountLuckyBetweenUptoSaid : Prop := fnExactCountLuckyBetweenUptoRow.holds Try.pinned (OpenSpec.upto fnExactCountLuckyBetweenSpec)

/-- 'laws.FnExactLastLucky', WHERE WHAT IT READS IS OF BULK AT MOST 1048576: true; the input reads as it did. -/
def fnExactLastLuckyUptoRow : OpenClaim := { program := "ytfcckbkmkpinbaa", sum := "0c98162b4ed24522b30ff0dc57d4c84ba033b28bec22e71974c3135d2182cde8", func := "loop.example/g01395/laws.FnExactLastLucky", spec := "fnExactLastLucky", recurses := true, apart := false, narrowed := true }
def FnExactLastLuckyUptoSaid : Prop := fnExactLastLuckyUptoRow.holds Try.pinned (OpenSpec.upto fnExactLastLuckySpec)

/-- 'laws.FnExactNextLucky', WHERE WHAT IT READS IS OF BULK AT MOST 1048576: true; the input reads as it did. -/
def fnExactNextLuckyUptoRow : OpenClaim := { program := "ytfcckbkmkpinbaa", sum := "0c98162b4ed24522b30ff0dc57d4c84ba033b28bec22e71974c3135d2182cde8", func := "loop.example/g01395/laws.FnExactNextLucky", spec := "fnExactNextLucky", recurses := true, apart := false, narrowed := true }
def FnExactNextLuckyUptoSaid : Prop := fnExactNextLuckyUptoRow.holds Try.pinned (OpenSpec.upto fnExactNextLuckySpec)

/-- 'laws.FnExactGapsAround', WHERE WHAT IT READS IS OF BULK AT MOST 1048576: true; the input reads as it did. -/
def fnExactGapsAroundUptoRow : OpenClaim := { program := "ytfcckbkmkpinbaa", sum := "0c98162b4ed24522b30ff0dc57d4c84ba033b28bec22e71974c3135d2182cde8", func := "loop.example/g01395/laws.FnExactGapsAround", spec := "fnExactGapsAround", recurses := true, apart := false, narrowed := true }
def FnExactGapsAroundUptoSaid : Prop := fnExactGapsAroundUptoRow.holds Try.pinned (OpenSpec.upto fnExactGapsAroundSpec)

end Rows
end Go.Proofs.Ytfcckbkmkpinbaa
