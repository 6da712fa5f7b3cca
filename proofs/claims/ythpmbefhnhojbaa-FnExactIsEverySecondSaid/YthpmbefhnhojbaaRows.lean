/-
  No cell of these rows narrows 'for every input' (looked for: loops, veiled, ifaces, maps, wideKeys, modest, calm, conditions, laid).
  DERIVED. THE GIVEN ROWS OF THIS SEAT. 12 by the template 'for every input the law returns true; each argument reads behind the call as it read before'; 0 by the template 'total and deterministic' (their statements: YthpmbefhnhojbaaTotals.lean).
  GIVEN WITH THE SEED: the statements are not yours to turn. If you find one false, say at which input.
  Laid BY PROGRAM, IN A SANDBOX (cutbox-rows.mjs): the forced cells as the released guide's own fill.sh prints them over the translation e08b0229367cffa6… (all of the seat's roots in one cut). By AI agents, Wed Nov 11 2026. No macro, syntax, notation, axiom, sorry.
-/
import Derived.Test.YthpmbefhnhojbaaChecked
import GoSem.Claim
import GoSem.ClaimJoined
import GoSem.ClaimMapViews
import Derived.JoinedTies
import Derived.KernelRfl
namespace Go.Proofs.Ythpmbefhnhojbaa
/- THE CELL 'sum', in the pinned program and in every row, IS THE sha256 OF THE DUMP (.gsa) THAT YthpmbefhnhojbaaProg.lean LOADS. Nothing in Lean hashes anything: it is a label: what it is worth is what the hold of that sum in a sandbox is worth. -/
noncomputable def Try.pinned : Pinned := { name := "ythpmbefhnhojbaa", sum := "e08b0229367cffa64716dec12a2b38b6d838c0838e1545034d94d2977c81e66a", checked := Try.checked }
namespace Rows
def none {H : Type} : Left H := { results := [], args := [] }

/-- 'laws.FnExactConstants': WHATEVER THE INPUT: true; the input reads as it did. -/
def fnExactConstantsSpec : ChangeSpec := { name := "fnExactConstants", fn := fun _ => fun
  | [] => { results := [.lit (.bool true)], args := [] }
  | _ => none }
def fnExactConstantsRow : OpenClaim := { program := "ythpmbefhnhojbaa", sum := "e08b0229367cffa64716dec12a2b38b6d838c0838e1545034d94d2977c81e66a", func := "loop.example/g01395/laws.FnExactConstants", spec := "fnExactConstants", apart := false }
def FnExactConstantsSaid : Prop := fnExactConstantsRow.holds Try.pinned (OpenSpec.ofChange fnExactConstantsSpec)

/-- ITS FALSE NEIGHBOUR: 'it returns false'. Refute it at one input. -/
def fnExactConstantsWrong : ChangeSpec := { name := "fnExactConstants", fn := fun _ => fun
  | [] => { results := [.lit (.bool false)], args := [] }
  | _ => none }
def FnExactConstantsWrongFalsely : Prop := fnExactConstantsRow.holds Try.pinned (OpenSpec.ofChange fnExactConstantsWrong)

/-- 'laws.FnExactIsTicket': WHATEVER THE INPUT: true; the input reads as it did. -/
def fnExactIsTicketSpec : ChangeSpec := { name := "fnExactIsTicket", fn := fun _ => fun
  | [d] => { results := [.lit (.bool true)], args := [d] }
  | _ => none }
def fnExactIsTicketRow : OpenClaim := { program := "ythpmbefhnhojbaa", sum := "e08b0229367cffa64716dec12a2b38b6d838c0838e1545034d94d2977c81e66a", func := "loop.example/g01395/laws.FnExactIsTicket", spec := "fnExactIsTicket", apart := false }
def FnExactIsTicketSaid : Prop := fnExactIsTicketRow.holds Try.pinned (OpenSpec.ofChange fnExactIsTicketSpec)

/-- ITS FALSE NEIGHBOUR: 'it returns false'. Refute it at one input. -/
def fnExactIsTicketWrong : ChangeSpec := { name := "fnExactIsTicket", fn := fun _ => fun
  | [d] => { results := [.lit (.bool false)], args := [d] }
  | _ => none }
def FnExactIsTicketWrongFalsely : Prop := fnExactIsTicketRow.holds Try.pinned (OpenSpec.ofChange fnExactIsTicketWrong)

/-- 'laws.FnExactSwapHalves': WHATEVER THE INPUT: true; the input reads as it did. -/
def fnExactSwapHalvesSpec : ChangeSpec := { name := "fnExactSwapHalves", fn := fun _ => fun
  | [d] => { results := [.lit (.bool true)], args := [d] }
  | _ => none }
def fnExactSwapHalvesRow : OpenClaim := { program := "ythpmbefhnhojbaa", sum := "e08b0229367cffa64716dec12a2b38b6d838c0838e1545034d94d2977c81e66a", func := "loop.example/g01395/laws.FnExactSwapHalves", spec := "fnExactSwapHalves", apart := false }
def FnExactSwapHalvesSaid : Prop := fnExactSwapHalvesRow.holds Try.pinned (OpenSpec.ofChange fnExactSwapHalvesSpec)

/-- ITS FALSE NEIGHBOUR: 'it returns false'. Refute it at one input. -/
def fnExactSwapHalvesWrong : ChangeSpec := { name := "fnExactSwapHalves", fn := fun _ => fun
  | [d] => { results := [.lit (.bool false)], args := [d] }
  | _ => none }
def FnExactSwapHalvesWrongFalsely : Prop := fnExactSwapHalvesRow.holds Try.pinned (OpenSpec.ofChange fnExactSwapHalvesWrong)

/-- 'laws.FnExactIsEverySecond': WHATEVER THE INPUT: true; the input reads as it did. -/
def fnExactIsEverySecondSpec : ChangeSpec := { name := "fnExactIsEverySecond", fn := fun _ => fun
  | [d] => { results := [.lit (.bool true)], args := [d] }
  | _ => none }
def fnExactIsEverySecondRow : OpenClaim := { program := "ythpmbefhnhojbaa", sum := "e08b0229367cffa64716dec12a2b38b6d838c0838e1545034d94d2977c81e66a", func := "loop.example/g01395/laws.FnExactIsEverySecond", spec := "fnExactIsEverySecond", apart := false }
def FnExactIsEverySecondSaid : Prop := fnExactIsEverySecondRow.holds Try.pinned (OpenSpec.ofChange fnExactIsEverySecondSpec)

/-- ITS FALSE NEIGHBOUR: 'it returns false'. Refute it at one input. -/
def fnExactIsEverySecondWrong : ChangeSpec := { name := "fnExactIsEverySecond", fn := fun _ => fun
  | [d] => { results := [.lit (.bool false)], args := [d] }
  | _ => none }
def FnExactIsEverySecondWrongFalsely : Prop := fnExactIsEverySecondRow.holds Try.pinned (OpenSpec.ofChange fnExactIsEverySecondWrong)

/-- 'laws.FnExactFirstLuckyOf': WHATEVER THE INPUT: true; the input reads as it did. -/
def fnExactFirstLuckyOfSpec : ChangeSpec := { name := "fnExactFirstLuckyOf", fn := fun _ => fun
  | [d1, d2] => { results := [.lit (.bool true)], args := [d1, d2] }
  | _ => none }
def fnExactFirstLuckyOfRow : OpenClaim := { program := "ythpmbefhnhojbaa", sum := "e08b0229367cffa64716dec12a2b38b6d838c0838e1545034d94d2977c81e66a", func := "loop.example/g01395/laws.FnExactFirstLuckyOf", spec := "fnExactFirstLuckyOf", recurses := true, apart := false }
def FnExactFirstLuckyOfSaid : Prop := fnExactFirstLuckyOfRow.holds Try.pinned (OpenSpec.ofChange fnExactFirstLuckyOfSpec)

/-- ITS FALSE NEIGHBOUR: 'it returns false'. Refute it at one input. -/
def fnExactFirstLuckyOfWrong : ChangeSpec := { name := "fnExactFirstLuckyOf", fn := fun _ => fun
  | [d1, d2] => { results := [.lit (.bool false)], args := [d1, d2] }
  | _ => none }
def FnExactFirstLuckyOfWrongFalsely : Prop := fnExactFirstLuckyOfRow.holds Try.pinned (OpenSpec.ofChange fnExactFirstLuckyOfWrong)

/-- 'laws.FnExactNinesTicket': WHATEVER THE INPUT: true; the input reads as it did. -/
def fnExactNinesTicketSpec : ChangeSpec := { name := "fnExactNinesTicket", fn := fun _ => fun
  | [d] => { results := [.lit (.bool true)], args := [d] }
  | _ => none }
def fnExactNinesTicketRow : OpenClaim := { program := "ythpmbefhnhojbaa", sum := "e08b0229367cffa64716dec12a2b38b6d838c0838e1545034d94d2977c81e66a", func := "loop.example/g01395/laws.FnExactNinesTicket", spec := "fnExactNinesTicket", recurses := true, apart := false }
def FnExactNinesTicketSaid : Prop := fnExactNinesTicketRow.holds Try.pinned (OpenSpec.ofChange fnExactNinesTicketSpec)

/-- ITS FALSE NEIGHBOUR: 'it returns false'. Refute it at one input. -/
def fnExactNinesTicketWrong : ChangeSpec := { name := "fnExactNinesTicket", fn := fun _ => fun
  | [d] => { results := [.lit (.bool false)], args := [d] }
  | _ => none }
def FnExactNinesTicketWrongFalsely : Prop := fnExactNinesTicketRow.holds Try.pinned (OpenSpec.ofChange fnExactNinesTicketWrong)

/-- 'laws.FnExactNumberOfTicket': WHATEVER THE INPUT: true; the input reads as it did. -/
def fnExactNumberOfTicketSpec : ChangeSpec := { name := "fnExactNumberOfTicket", fn := fun _ => fun
  | [d] => { results := [.lit (.bool true)], args := [d] }
  | _ => none }
def fnExactNumberOfTicketRow : OpenClaim := { program := "ythpmbefhnhojbaa", sum := "e08b0229367cffa64716dec12a2b38b6d838c0838e1545034d94d2977c81e66a", func := "loop.example/g01395/laws.FnExactNumberOfTicket", spec := "fnExactNumberOfTicket", apart := false }
def FnExactNumberOfTicketSaid : Prop := fnExactNumberOfTicketRow.holds Try.pinned (OpenSpec.ofChange fnExactNumberOfTicketSpec)

/-- ITS FALSE NEIGHBOUR: 'it returns false'. Refute it at one input. -/
def fnExactNumberOfTicketWrong : ChangeSpec := { name := "fnExactNumberOfTicket", fn := fun _ => fun
  | [d] => { results := [.lit (.bool false)], args := [d] }
  | _ => none }
def FnExactNumberOfTicketWrongFalsely : Prop := fnExactNumberOfTicketRow.holds Try.pinned (OpenSpec.ofChange fnExactNumberOfTicketWrong)

/-- 'laws.FnExactTurnTicket': WHATEVER THE INPUT: true; the input reads as it did. -/
def fnExactTurnTicketSpec : ChangeSpec := { name := "fnExactTurnTicket", fn := fun _ => fun
  | [d] => { results := [.lit (.bool true)], args := [d] }
  | _ => none }
def fnExactTurnTicketRow : OpenClaim := { program := "ythpmbefhnhojbaa", sum := "e08b0229367cffa64716dec12a2b38b6d838c0838e1545034d94d2977c81e66a", func := "loop.example/g01395/laws.FnExactTurnTicket", spec := "fnExactTurnTicket", apart := false }
def FnExactTurnTicketSaid : Prop := fnExactTurnTicketRow.holds Try.pinned (OpenSpec.ofChange fnExactTurnTicketSpec)

/-- ITS FALSE NEIGHBOUR: 'it returns false'. Refute it at one input. -/
def fnExactTurnTicketWrong : ChangeSpec := { name := "fnExactTurnTicket", fn := fun _ => fun
  | [d] => { results := [.lit (.bool false)], args := [d] }
  | _ => none }
def FnExactTurnTicketWrongFalsely : Prop := fnExactTurnTicketRow.holds Try.pinned (OpenSpec.ofChange fnExactTurnTicketWrong)

/-- 'laws.FnExactCountTickets': WHATEVER THE INPUT: true; the input reads as it did. -/
def fnExactCountTicketsSpec : ChangeSpec := { name := "fnExactCountTickets", fn := fun _ => fun
  | [d1, d2, d3] => { results := [.lit (.bool true)], args := [d1, d2, d3] }
  | _ => none }
def fnExactCountTicketsRow : OpenClaim := { program := "ythpmbefhnhojbaa", sum := "e08b0229367cffa64716dec12a2b38b6d838c0838e1545034d94d2977c81e66a", func := "loop.example/g01395/laws.FnExactCountTickets", spec := "fnExactCountTickets", apart := false }
def FnExactCountTicketsSaid : Prop := fnExactCountTicketsRow.holds Try.pinned (OpenSpec.ofChange fnExactCountTicketsSpec)

/-- ITS FALSE NEIGHBOUR: 'it returns false'. Refute it at one input. -/
def fnExactCountTicketsWrong : ChangeSpec := { name := "fnExactCountTickets", fn := fun _ => fun
  | [d1, d2, d3] => { results := [.lit (.bool false)], args := [d1, d2, d3] }
  | _ => none }
def FnExactCountTicketsWrongFalsely : Prop := fnExactCountTicketsRow.holds Try.pinned (OpenSpec.ofChange fnExactCountTicketsWrong)

/-- 'laws.FnExactHalfSums': WHATEVER THE INPUT: true; the input reads as it did. -/
def fnExactHalfSumsSpec : ChangeSpec := { name := "fnExactHalfSums", fn := fun _ => fun
  | [d] => { results := [.lit (.bool true)], args := [d] }
  | _ => none }
def fnExactHalfSumsRow : OpenClaim := { program := "ythpmbefhnhojbaa", sum := "e08b0229367cffa64716dec12a2b38b6d838c0838e1545034d94d2977c81e66a", func := "loop.example/g01395/laws.FnExactHalfSums", spec := "fnExactHalfSums", apart := false }
def FnExactHalfSumsSaid : Prop := fnExactHalfSumsRow.holds Try.pinned (OpenSpec.ofChange fnExactHalfSumsSpec)

/-- ITS FALSE NEIGHBOUR: 'it returns false'. Refute it at one input. -/
def fnExactHalfSumsWrong : ChangeSpec := { name := "fnExactHalfSums", fn := fun _ => fun
  | [d] => { results := [.lit (.bool false)], args := [d] }
  | _ => none }
def FnExactHalfSumsWrongFalsely : Prop := fnExactHalfSumsRow.holds Try.pinned (OpenSpec.ofChange fnExactHalfSumsWrong)

/-- 'laws.FnExactCountLuckyOf': WHATEVER THE INPUT: true; the input reads as it did. -/
def fnExactCountLuckyOfSpec : ChangeSpec := { name := "fnExactCountLuckyOf", fn := fun _ => fun
  | [d1, d2] => { results := [.lit (.bool true)], args := [d1, d2] }
  | _ => none }
def fnExactCountLuckyOfRow : OpenClaim := { program := "ythpmbefhnhojbaa", sum := "e08b0229367cffa64716dec12a2b38b6d838c0838e1545034d94d2977c81e66a", func := "loop.example/g01395/laws.FnExactCountLuckyOf", spec := "fnExactCountLuckyOf", apart := false }
def FnExactCountLuckyOfSaid : Prop := fnExactCountLuckyOfRow.holds Try.pinned (OpenSpec.ofChange fnExactCountLuckyOfSpec)

/-- ITS FALSE NEIGHBOUR: 'it returns false'. Refute it at one input. -/
def fnExactCountLuckyOfWrong : ChangeSpec := { name := "fnExactCountLuckyOf", fn := fun _ => fun
  | [d1, d2] => { results := [.lit (.bool false)], args := [d1, d2] }
  | _ => none }
def FnExactCountLuckyOfWrongFalsely : Prop := fnExactCountLuckyOfRow.holds Try.pinned (OpenSpec.ofChange fnExactCountLuckyOfWrong)

/-- 'laws.FnExactIsLucky': WHATEVER THE INPUT: true; the input reads as it did. -/
def fnExactIsLuckySpec : ChangeSpec := { name := "fnExactIsLucky", fn := fun _ => fun
  | [d] => { results := [.lit (.bool true)], args := [d] }
  | _ => none }
def fnExactIsLuckyRow : OpenClaim := { program := "ythpmbefhnhojbaa", sum := "e08b0229367cffa64716dec12a2b38b6d838c0838e1545034d94d2977c81e66a", func := "loop.example/g01395/laws.FnExactIsLucky", spec := "fnExactIsLucky", apart := false }
def FnExactIsLuckySaid : Prop := fnExactIsLuckyRow.holds Try.pinned (OpenSpec.ofChange fnExactIsLuckySpec)

/-- ITS FALSE NEIGHBOUR: 'it returns false'. Refute it at one input. -/
def fnExactIsLuckyWrong : ChangeSpec := { name := "fnExactIsLucky", fn := fun _ => fun
  | [d] => { results := [.lit (.bool false)], args := [d] }
  | _ => none }
def FnExactIsLuckyWrongFalsely : Prop := fnExactIsLuckyRow.holds Try.pinned (OpenSpec.ofChange fnExactIsLuckyWrong)

/- THE SECOND FORM. 'bulk': how many values and letters a reading holds, each counted each time it is reached (what is shared counts as often as it is met; a slice's spare places count too). A statement '..UptoSaid' is the law's where the arguments, and the package variables that the reading takes, are together of bulk at most 1048576: NARROWER than '..Said'. Prove '..Said' where nothing that the law and all that it calls make is longer than what came in: it says more and counts as full. Else prove '..UptoSaid'. A law counts once. -/
mutual
def uptoBulk {H : Type} : DataW H → Nat
  | .lit (.string bytes) => bytes.length + 1
  | .lit _ => 1
  | .nil => 1
  | .ptr d => uptoBulk d + 1
  | .slice elems spare => uptoBulkAll elems + uptoBulkAll spare + 1
  | .agg parts => uptoBulkAll parts + 1
  | .iface _ d => uptoBulk d + 1
  | .map entries => uptoBulkEntries entries + 1
  | .held _ => 1
def uptoBulkAll {H : Type} : List (DataW H) → Nat
  | [] => 0
  | d :: r => uptoBulk d + uptoBulkAll r
def uptoBulkEntries {H : Type} : List (Lit × DataW H) → Nat
  | [] => 0
  | x :: r => uptoBulkEntry x + uptoBulkEntries r
def uptoBulkEntry {H : Type} : Lit × DataW H → Nat
  | (.string bytes, d) => bytes.length + uptoBulk d + 1
  | (_, d) => uptoBulk d + 1
 end
def uptoSmall : (H : Type) → List (DataW H) → Bool := fun _ ds => decide (uptoBulkAll ds ≤ 1048576)
def OpenSpec.upto (s : _root_.Go.ChangeSpec) : _root_.Go.OpenSpec := { _root_.Go.OpenSpec.ofChange s with cond := some uptoSmall }

/-- 'laws.FnExactConstants', WHERE WHAT IT READS IS OF BULK AT MOST 1048576: true; the input reads as it did. -/
def fnExactConstantsUptoRow : OpenClaim := { program := "ythpmbefhnhojbaa", sum := "e08b0229367cffa64716dec12a2b38b6d838c0838e1545034d94d2977c81e66a", func := "loop.example/g01395/laws.FnExactConstants", spec := "fnExactConstants", apart := false, narrowed := true }
def FnExactConstantsUptoSaid : Prop := fnExactConstantsUptoRow.holds Try.pinned (OpenSpec.upto fnExactConstantsSpec)

/-- 'laws.FnExactIsTicket', WHERE WHAT IT READS IS OF BULK AT MOST 1048576: true; the input reads as it did. -/
def fnExactIsTicketUptoRow : OpenClaim := { program := "ythpmbefhnhojbaa", sum := "e08b0229367cffa64716dec12a2b38b6d838c0838e1545034d94d2977c81e66a", func := "loop.example/g01395/laws.FnExactIsTicket", spec := "fnExactIsTicket", apart := false, narrowed := true }
def FnExactIsTicketUptoSaid : Prop := fnExactIsTicketUptoRow.holds Try.pinned (OpenSpec.upto fnExactIsTicketSpec)

/-- 'laws.FnExactSwapHalves', WHERE WHAT IT READS IS OF BULK AT MOST 1048576: true; the input reads as it did. -/
def fnExactSwapHalvesUptoRow : OpenClaim := { program := "ythpmbefhnhojbaa", sum := "e08b0229367cffa64716dec12a2b38b6d838c0838e1545034d94d2977c81e66a", func := "loop.example/g01395/laws.FnExactSwapHalves", spec := "fnExactSwapHalves", apart := false, narrowed := true }
def FnExactSwapHalvesUptoSaid : Prop := fnExactSwapHalvesUptoRow.holds Try.pinned (OpenSpec.upto fnExactSwapHalvesSpec)

/-- 'laws.FnExactIsEverySecond', WHERE WHAT IT READS IS OF BULK AT MOST 1048576: true; the input reads as it did. -/
def fnExactIsEverySecondUptoRow : OpenClaim := { program := "ythpmbefhnhojbaa", sum := "e08b0229367cffa64716dec12a2b38b6d838c0838e1545034d94d2977c81e66a", func := "loop.example/g01395/laws.FnExactIsEverySecond", spec := "fnExactIsEverySecond", apart := false, narrowed := true }
def FnExactIsEverySecondUptoSaid : Prop := fnExactIsEverySecondUptoRow.holds Try.pinned (OpenSpec.upto fnExactIsEverySecondSpec)

/-- 'laws.FnExactFirstLuckyOf', WHERE WHAT IT READS IS OF BULK AT MOST 1048576: true; the input reads as it did. -/
def fnExactFirstLuckyOfUptoRow : OpenClaim := { program := "ythpmbefhnhojbaa", sum := "e08b0229367cffa64716dec12a2b38b6d838c0838e1545034d94d2977c81e66a", func := "loop.example/g01395/laws.FnExactFirstLuckyOf", spec := "fnExactFirstLuckyOf", recurses := true, apart := false, narrowed := true }
def FnExactFirstLuckyOfUptoSaid : Prop := fnExactFirstLuckyOfUptoRow.holds Try.pinned (OpenSpec.upto fnExactFirstLuckyOfSpec)

/-- 'laws.FnExactNinesTicket', WHERE WHAT IT READS IS OF BULK AT MOST 1048576: true; the input reads as it did. -/
def fnExactNinesTicketUptoRow : OpenClaim := { program := "ythpmbefhnhojbaa", sum := "e08b0229367cffa64716dec12a2b38b6d838c0838e1545034d94d2977c81e66a", func := "loop.example/g01395/laws.FnExactNinesTicket", spec := "fnExactNinesTicket", recurses := true, apart := false, narrowed := true }
def FnExactNinesTicketUptoSaid : Prop := fnExactNinesTicketUptoRow.holds Try.pinned (OpenSpec.upto fnExactNinesTicketSpec)

/-- 'laws.FnExactNumberOfTicket', WHERE WHAT IT READS IS OF BULK AT MOST 1048576: true; the input reads as it did. -/
def fnExactNumberOfTicketUptoRow : OpenClaim := { program := "ythpmbefhnhojbaa", sum := "e08b0229367cffa64716dec12a2b38b6d838c0838e1545034d94d2977c81e66a", func := "loop.example/g01395/laws.FnExactNumberOfTicket", spec := "fnExactNumberOfTicket", apart := false, narrowed := true }
def FnExactNumberOfTicketUptoSaid : Prop := fnExactNumberOfTicketUptoRow.holds Try.pinned (OpenSpec.upto fnExactNumberOfTicketSpec)

/-- 'laws.FnExactTurnTicket', WHERE WHAT IT READS IS OF BULK AT MOST 1048576: true; the input reads as it did. -/
def fnExactTurnTicketUptoRow : OpenClaim := { program := "ythpmbefhnhojbaa", sum := "e08b0229367cffa64716dec12a2b38b6d838c0838e1545034d94d2977c81e66a", func := "loop.example/g01395/laws.FnExactTurnTicket", spec := "fnExactTurnTicket", apart := false, narrowed := true }
def FnExactTurnTicketUptoSaid : Prop := fnExactTurnTicketUptoRow.holds Try.pinned (OpenSpec.upto fnExactTurnTicketSpec)

/-- 'laws.FnExactCountTickets', WHERE WHAT IT READS IS OF BULK AT MOST 1048576: true; the input reads as it did. -/
def fnExactCountTicketsUptoRow : OpenClaim := { program := "ythpmbefhnhojbaa", sum := "e08b0229367cffa64716dec12a2b38b6d838c0838e1545034d94d2977c81e66a", func := "loop.example/g01395/laws.FnExactCountTickets", spec := "fnExactCountTickets", apart := false, narrowed := true }
def FnExactCountTicketsUptoSaid : Prop := fnExactCountTicketsUptoRow.holds Try.pinned (OpenSpec.upto fnExactCountTicketsSpec)

/-- 'laws.FnExactHalfSums', WHERE WHAT IT READS IS OF BULK AT MOST 1048576: true; the input reads as it did. -/
def fnExactHalfSumsUptoRow : OpenClaim := { program := "ythpmbefhnhojbaa", sum := "e08b0229367cffa64716dec12a2b38b6d838c0838e1545034d94d2977c81e66a", func := "loop.example/g01395/laws.FnExactHalfSums", spec := "fnExactHalfSums", apart := false, narrowed := true }
def FnExactHalfSumsUptoSaid : Prop := fnExactHalfSumsUptoRow.holds Try.pinned (OpenSpec.upto fnExactHalfSumsSpec)

/-- 'laws.FnExactCountLuckyOf', WHERE WHAT IT READS IS OF BULK AT MOST 1048576: true; the input reads as it did. -/
def fnExactCountLuckyOfUptoRow : OpenClaim := { program := "ythpmbefhnhojbaa", sum := "e08b0229367cffa64716dec12a2b38b6d838c0838e1545034d94d2977c81e66a", func := "loop.example/g01395/laws.FnExactCountLuckyOf", spec := "fnExactCountLuckyOf", apart := false, narrowed := true }
def FnExactCountLuckyOfUptoSaid : Prop := fnExactCountLuckyOfUptoRow.holds Try.pinned (OpenSpec.upto fnExactCountLuckyOfSpec)

/-- 'laws.FnExactIsLucky', WHERE WHAT IT READS IS OF BULK AT MOST 1048576: true; the input reads as it did. -/
def fnExactIsLuckyUptoRow : OpenClaim := { program := "ythpmbefhnhojbaa", sum := "e08b0229367cffa64716dec12a2b38b6d838c0838e1545034d94d2977c81e66a", func := "loop.example/g01395/laws.FnExactIsLucky", spec := "fnExactIsLucky", apart := false, narrowed := true }
def FnExactIsLuckyUptoSaid : Prop := fnExactIsLuckyUptoRow.holds Try.pinned (OpenSpec.upto fnExactIsLuckySpec)

end Rows
end Go.Proofs.Ythpmbefhnhojbaa
