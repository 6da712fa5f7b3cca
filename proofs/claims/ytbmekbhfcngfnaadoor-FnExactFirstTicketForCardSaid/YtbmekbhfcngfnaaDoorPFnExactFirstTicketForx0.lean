-- Laid by a program of this session (wip/myprint.py) out of the translation; some contracts in it are the session's own.
import Derived.Test.YtbmekbhfcngfnaaDoorProg
import Derived.Below
import Derived.Deep.Draws
import Derived.Deep.AppendLies
import Derived.Maps.AppendAt
import Derived.OwnWalk
import Derived.Laws.BytesArg
import Derived.Laws.MakeOwn
import Derived.Laws.OwnMore
import Derived.Deep.OwnRows
import Derived.Tactics
import Derived.Lib.ConvBytes
import Derived.Laws.Slices
import Derived.WalkKit
import Derived.KernelRfl
import Derived.RowKit3
import Derived.Deep.LoopGhost
import Derived.Deep.QuietTactic
import Derived.BigQuiet
import Derived.WideLaws
import Derived.Deep.DeepCutAuto
import Derived.Deep.CutBlock
import Derived.Deep.RegionHeld3
import Derived.Laws.Rows
import Derived.Lib.AppendStr
import Derived.ArgAppend
import Derived.Laws.IdiomCopy
import Derived.OrdersHeld
import Derived.Laws.BitsLemmas
import Derived.RowKit
import Derived.Test.YtbmekbhfcngfnaaDoorPad
import Derived.Laws.EntriesVeiled
import Derived.Laws.IdiomStrings
import Derived.Lib.SliceRun
import Derived.Tactics2
import Derived.Shelf.Abstract
import Derived.Deep.RegionHeld3
import Derived.Lib.MinMax
import Derived.Test.YtbmekbhfcngfnaaDoorWWords
import Derived.Test.YtbmekbhfcngfnaaDoorWLast
import Derived.Test.YtbmekbhfcngfnaaDoorWTab
import Derived.Test.YtbmekbhfcngfnaaDoorWFour
import Derived.Test.YtbmekbhfcngfnaaDoorWQPut
import Derived.Test.YtbmekbhfcngfnaaDoorWApart
import Derived.Test.YtbmekbhfcngfnaaDoorWArr
import Derived.Test.YtbmekbhfcngfnaaDoorWZeros
import Derived.Test.YtbmekbhfcngfnaaDoorWFoot
import Derived.Test.YtbmekbhfcngfnaaDoorWKept
import Derived.Test.YtbmekbhfcngfnaaDoorWShare
import Derived.Test.YtbmekbhfcngfnaaDoorWN
import Derived.Test.YtbmekbhfcngfnaaDoorWFootNe
import Derived.Test.YtbmekbhfcngfnaaDoorWAt
import Derived.Test.YtbmekbhfcngfnaaDoorWEqStruct
import Derived.Test.YtbmekbhfcngfnaaDoorWRepsOne
import Derived.Test.YtbmekbhfcngfnaaDoorWInv
import Derived.Test.YtbmekbhfcngfnaaDoorWInvWords
import Derived.Test.YtbmekbhfcngfnaaDoorWGuard
import Derived.Test.YtbmekbhfcngfnaaDoorWNEv
import Derived.Test.YtbmekbhfcngfnaaDoorWMore
namespace Go.Proofs.YtbmekbhfcngfnaaDoor.PFnExactFirstTicketFor
open Go.RowKit Go.Proofs.YtbmekbhfcngfnaaDoorW.PrintWords Go.Proofs.YtbmekbhfcngfnaaDoorW.PrintLast Go.Proofs.YtbmekbhfcngfnaaDoorW.PrintMore
attribute [local go_sem] max2_int min2_int max_two min_two max_three min_three max_four min_four   -- for this text's walks alone
set_option linter.unusedVariables false
set_option linter.unusedSimpArgs false



def errW : Option Int → Value
  | none => .nilIface
  | some c => .iface 0 (.int .i64 c)
theorem errW_none : errW none = .nilIface := rfl
theorem errW_some (c : Int) : errW (some c) = .iface 0 (.int .i64 c) := rfl

theorem info5 : (Tryd.prog.info? 5).map (fun i => (i.zero, i.size, i.bytes)) = some (some (.int .u8 0), 1, 1) := by kernel_rfl
theorem info9 : (Tryd.prog.info? 9).map (fun i => (i.zero, i.size, i.bytes)) = some (some (.string ⟨#[]⟩), 1, 16) := by kernel_rfl
-- the values' own types

end Go.Proofs.YtbmekbhfcngfnaaDoor.PFnExactFirstTicketFor
