-- Laid by a program of this session (wip/myprint.py) out of the translation; some contracts in it are the session's own.
import Derived.Test.YtfcckbkmkpinbaaProg
import Derived.Below
import Derived.Deep.Draws
import Derived.Deep.AppendLies
import Derived.Maps.AppendAt
import Derived.OwnWalk
import Derived.Laws.BytesArg
import Derived.Laws.MakeOwn
import Derived.Laws.OwnMore
import Derived.Deep.OwnRows
import Derived.Tactics
import Derived.Lib.ConvBytes
import Derived.Laws.Slices
import Derived.WalkKit
import Derived.KernelRfl
import Derived.RowKit3
import Derived.Deep.LoopGhost
import Derived.Deep.QuietTactic
import Derived.BigQuiet
import Derived.WideLaws
import Derived.Deep.DeepCutAuto
import Derived.Deep.CutBlock
import Derived.Deep.RegionHeld3
import Derived.Laws.Rows
import Derived.Lib.AppendStr
import Derived.ArgAppend
import Derived.Laws.IdiomCopy
import Derived.OrdersHeld
import Derived.Laws.BitsLemmas
import Derived.RowKit
import Derived.Test.YtfcckbkmkpinbaaWWords
import Derived.Test.YtfcckbkmkpinbaaWLast
import Derived.Test.YtfcckbkmkpinbaaWTab
import Derived.Test.YtfcckbkmkpinbaaWFour
import Derived.Test.YtfcckbkmkpinbaaWQPut
import Derived.Test.YtfcckbkmkpinbaaWApart
import Derived.Test.YtfcckbkmkpinbaaWArr
import Derived.Test.YtfcckbkmkpinbaaWZeros
import Derived.Test.YtfcckbkmkpinbaaWFoot
import Derived.Test.YtfcckbkmkpinbaaWKept
import Derived.Test.YtfcckbkmkpinbaaWShare
import Derived.Test.YtfcckbkmkpinbaaWN
import Derived.Test.YtfcckbkmkpinbaaWFootNe
import Derived.Test.YtfcckbkmkpinbaaWAt
import Derived.Test.YtfcckbkmkpinbaaWEqStruct
import Derived.Test.YtfcckbkmkpinbaaWRepsOne
import Derived.Test.YtfcckbkmkpinbaaWInv
import Derived.Test.YtfcckbkmkpinbaaWInvWords
import Derived.Test.YtfcckbkmkpinbaaWGuard
import Derived.Test.YtfcckbkmkpinbaaWNEv
import Derived.Test.YtfcckbkmkpinbaaWMore
namespace Go.Proofs.Ytfcckbkmkpinbaa.PFnExactLuckyDigits
open Go.RowKit Go.Proofs.YtfcckbkmkpinbaaW.PrintWords Go.Proofs.YtfcckbkmkpinbaaW.PrintLast Go.Proofs.YtfcckbkmkpinbaaW.PrintMore
attribute [local go_sem] max2_int min2_int max_two min_two max_three min_three max_four min_four   -- for this text's walks alone
set_option linter.unusedVariables false
set_option linter.unusedSimpArgs false



def errW : Option Int → Value
  | none => .nilIface
  | some c => .iface 0 (.int .i64 c)
theorem errW_none : errW none = .nilIface := rfl
theorem errW_some (c : Int) : errW (some c) = .iface 0 (.int .i64 c) := rfl

theorem info3 : (Try.prog.info? 3).map (fun i => (i.zero, i.size, i.bytes)) = some (some (.int .i64 0), 1, 8) := by kernel_rfl
theorem info5 : (Try.prog.info? 5).map (fun i => (i.zero, i.size, i.bytes)) = some (some (.int .u8 0), 1, 1) := by kernel_rfl
-- the values' own types

end Go.Proofs.Ytfcckbkmkpinbaa.PFnExactLuckyDigits
