-- Laid by a program of this session (wip/myprint.py) out of the translation; some contracts in it are the session's own.
import Derived.Test.YteikimciamlfbaaProg
import Derived.Below
import Derived.Deep.Draws
import Derived.Deep.AppendLies
import Derived.Maps.AppendAt
import Derived.OwnWalk
import Derived.Laws.BytesArg
import Derived.Laws.MakeOwn
import Derived.Laws.OwnMore
import Derived.Deep.OwnRows
import Derived.Tactics
import Derived.Lib.ConvBytes
import Derived.Laws.Slices
import Derived.WalkKit
import Derived.KernelRfl
import Derived.RowKit3
import Derived.Deep.LoopGhost
import Derived.Deep.QuietTactic
import Derived.BigQuiet
import Derived.WideLaws
import Derived.Deep.DeepCutAuto
import Derived.Deep.CutBlock
import Derived.Deep.RegionHeld3
import Derived.Laws.Rows
import Derived.Lib.AppendStr
import Derived.ArgAppend
import Derived.Laws.IdiomCopy
import Derived.OrdersHeld
import Derived.Laws.BitsLemmas
import Derived.RowKit
import Derived.Laws.IdiomStrings
import Derived.Test.YteikimciamlfbaaWWords
import Derived.Test.YteikimciamlfbaaWLast
import Derived.Test.YteikimciamlfbaaWTab
import Derived.Test.YteikimciamlfbaaWFour
import Derived.Test.YteikimciamlfbaaWQPut
import Derived.Test.YteikimciamlfbaaWApart
import Derived.Test.YteikimciamlfbaaWArr
import Derived.Test.YteikimciamlfbaaWZeros
import Derived.Test.YteikimciamlfbaaWFoot
import Derived.Test.YteikimciamlfbaaWKept
import Derived.Test.YteikimciamlfbaaWShare
import Derived.Test.YteikimciamlfbaaWN
import Derived.Test.YteikimciamlfbaaWFootNe
import Derived.Test.YteikimciamlfbaaWAt
import Derived.Test.YteikimciamlfbaaWEqStruct
import Derived.Test.YteikimciamlfbaaWRepsOne
import Derived.Test.YteikimciamlfbaaWInv
import Derived.Test.YteikimciamlfbaaWInvWords
import Derived.Test.YteikimciamlfbaaWGuard
import Derived.Test.YteikimciamlfbaaWNEv
import Derived.Test.YteikimciamlfbaaWMore
namespace Go.Proofs.Yteikimciamlfbaa.PFnExactPatternOf
open Go.RowKit Go.Proofs.YteikimciamlfbaaW.PrintWords Go.Proofs.YteikimciamlfbaaW.PrintLast Go.Proofs.YteikimciamlfbaaW.PrintMore
attribute [local go_sem] max2_int min2_int max_two min_two max_three min_three max_four min_four   -- for this text's walks alone
set_option linter.unusedVariables false
set_option linter.unusedSimpArgs false



def errW : Option Int → Value
  | none => .nilIface
  | some c => .iface 0 (.int .i64 c)
theorem errW_none : errW none = .nilIface := rfl
theorem errW_some (c : Int) : errW (some c) = .iface 0 (.int .i64 c) := rfl

-- the values' own types

end Go.Proofs.Yteikimciamlfbaa.PFnExactPatternOf
