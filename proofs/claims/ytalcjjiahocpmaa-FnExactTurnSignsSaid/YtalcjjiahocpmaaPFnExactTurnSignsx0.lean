-- Laid by a program of this session (wip/myprint.py) out of the translation; some contracts in it are the session's own.
import Derived.Test.YtalcjjiahocpmaaProg
import Derived.Below
import Derived.Deep.Draws
import Derived.Deep.AppendLies
import Derived.Maps.AppendAt
import Derived.OwnWalk
import Derived.Laws.BytesArg
import Derived.Laws.MakeOwn
import Derived.Laws.OwnMore
import Derived.Deep.OwnRows
import Derived.Tactics
import Derived.Lib.ConvBytes
import Derived.Laws.Slices
import Derived.WalkKit
import Derived.KernelRfl
import Derived.RowKit3
import Derived.Deep.LoopGhost
import Derived.Deep.QuietTactic
import Derived.BigQuiet
import Derived.WideLaws
import Derived.Deep.DeepCutAuto
import Derived.Deep.CutBlock
import Derived.Deep.RegionHeld3
import Derived.Laws.Rows
import Derived.Lib.AppendStr
import Derived.ArgAppend
import Derived.Laws.IdiomCopy
import Derived.OrdersHeld
import Derived.Laws.BitsLemmas
import Derived.RowKit
import Derived.Test.YtalcjjiahocpmaaRepD
import Derived.Laws.EntriesVeiled
import Derived.Laws.IdiomStrings
import Derived.Lib.SliceRun
import Derived.Tactics2
import Derived.Shelf.Abstract
import Derived.Deep.RegionHeld3
import Derived.Lib.MinMax
import Derived.Test.YtalcjjiahocpmaaWWords
import Derived.Test.YtalcjjiahocpmaaWLast
import Derived.Test.YtalcjjiahocpmaaWTab
import Derived.Test.YtalcjjiahocpmaaWFour
import Derived.Test.YtalcjjiahocpmaaWQPut
import Derived.Test.YtalcjjiahocpmaaWApart
import Derived.Test.YtalcjjiahocpmaaWArr
import Derived.Test.YtalcjjiahocpmaaWZeros
import Derived.Test.YtalcjjiahocpmaaWFoot
import Derived.Test.YtalcjjiahocpmaaWKept
import Derived.Test.YtalcjjiahocpmaaWShare
import Derived.Test.YtalcjjiahocpmaaWN
import Derived.Test.YtalcjjiahocpmaaWFootNe
import Derived.Test.YtalcjjiahocpmaaWAt
import Derived.Test.YtalcjjiahocpmaaWEqStruct
import Derived.Test.YtalcjjiahocpmaaWRepsOne
import Derived.Test.YtalcjjiahocpmaaWInv
import Derived.Test.YtalcjjiahocpmaaWInvWords
import Derived.Test.YtalcjjiahocpmaaWGuard
import Derived.Test.YtalcjjiahocpmaaWNEv
import Derived.Test.YtalcjjiahocpmaaWMore
namespace Go.Proofs.Ytalcjjiahocpmaa.PFnExactTurnSigns
open Go.RowKit Go.Proofs.YtalcjjiahocpmaaW.PrintWords Go.Proofs.YtalcjjiahocpmaaW.PrintLast Go.Proofs.YtalcjjiahocpmaaW.PrintMore
attribute [local go_sem] max2_int min2_int max_two min_two max_three min_three max_four min_four   -- for this text's walks alone
set_option linter.unusedVariables false
set_option linter.unusedSimpArgs false



def errW : Option Int → Value
  | none => .nilIface
  | some c => .iface 0 (.int .i64 c)
theorem errW_none : errW none = .nilIface := rfl
theorem errW_some (c : Int) : errW (some c) = .iface 0 (.int .i64 c) := rfl

-- the values' own types

end Go.Proofs.Ytalcjjiahocpmaa.PFnExactTurnSigns
