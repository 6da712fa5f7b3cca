-- Laid by a program of this session (wip/myprint.py) out of the translation; some contracts in it are the session's own.
import Derived.Test.YtmodpjlbbmfbaaaProg
import Derived.Below
import Derived.Deep.Draws
import Derived.Deep.AppendLies
import Derived.Maps.AppendAt
import Derived.OwnWalk
import Derived.Laws.BytesArg
import Derived.Laws.MakeOwn
import Derived.Laws.OwnMore
import Derived.Deep.OwnRows
import Derived.Tactics
import Derived.Lib.ConvBytes
import Derived.Laws.Slices
import Derived.WalkKit
import Derived.KernelRfl
import Derived.RowKit3
import Derived.Deep.LoopGhost
import Derived.Deep.QuietTactic
import Derived.BigQuiet
import Derived.WideLaws
import Derived.Deep.DeepCutAuto
import Derived.Deep.CutBlock
import Derived.Deep.RegionHeld3
import Derived.Laws.Rows
import Derived.Lib.AppendStr
import Derived.ArgAppend
import Derived.Laws.IdiomCopy
import Derived.OrdersHeld
import Derived.Laws.BitsLemmas
import Derived.RowKit
import Derived.Laws.EntriesVeiled
import Derived.Laws.IdiomStrings
import Derived.Lib.SliceRun
import Derived.Tactics2
import Derived.Shelf.Abstract
import Derived.Deep.RegionHeld3
import Derived.Lib.MinMax
import Derived.Maps.Own
import Derived.Maps.OwnOps
import Derived.Maps.OwnSet
import Derived.Maps.RangeWalk
import Derived.Maps.Ext
import Derived.Test.YtmodpjlbbmfbaaaWWords
import Derived.Test.YtmodpjlbbmfbaaaWLast
import Derived.Test.YtmodpjlbbmfbaaaWTab
import Derived.Test.YtmodpjlbbmfbaaaWFour
import Derived.Test.YtmodpjlbbmfbaaaWQPut
import Derived.Test.YtmodpjlbbmfbaaaWApart
import Derived.Test.YtmodpjlbbmfbaaaWArr
import Derived.Test.YtmodpjlbbmfbaaaWZeros
import Derived.Test.YtmodpjlbbmfbaaaWFoot
import Derived.Test.YtmodpjlbbmfbaaaWKept
import Derived.Test.YtmodpjlbbmfbaaaWShare
import Derived.Test.YtmodpjlbbmfbaaaWN
import Derived.Test.YtmodpjlbbmfbaaaWFootNe
import Derived.Test.YtmodpjlbbmfbaaaWAt
import Derived.Test.YtmodpjlbbmfbaaaWEqStruct
import Derived.Test.YtmodpjlbbmfbaaaWRepsOne
import Derived.Test.YtmodpjlbbmfbaaaWInv
import Derived.Test.YtmodpjlbbmfbaaaWInvWords
import Derived.Test.YtmodpjlbbmfbaaaWGuard
import Derived.Test.YtmodpjlbbmfbaaaWNEv
import Derived.Test.YtmodpjlbbmfbaaaWMore
namespace Go.Proofs.Ytmodpjlbbmfbaaa.PFnExactMostWays
open Go.RowKit Go.Proofs.YtmodpjlbbmfbaaaW.PrintWords Go.Proofs.YtmodpjlbbmfbaaaW.PrintLast Go.Proofs.YtmodpjlbbmfbaaaW.PrintMore
attribute [local go_sem] max2_int min2_int max_two min_two max_three min_three max_four min_four   -- for this text's walks alone
set_option linter.unusedVariables false
set_option linter.unusedSimpArgs false



def errW : Option Int → Value
  | none => .nilIface
  | some c => .iface 0 (.int .i64 c)
theorem errW_none : errW none = .nilIface := rfl
theorem errW_some (c : Int) : errW (some c) = .iface 0 (.int .i64 c) := rfl

theorem info3 : (Try.prog.info? 3).map (fun i => (i.zero, i.size, i.bytes)) = some (some (.int .i64 0), 1, 8) := by kernel_rfl
theorem info5 : (Try.prog.info? 5).map (fun i => (i.zero, i.size, i.bytes)) = some (some (.int .u8 0), 1, 1) := by kernel_rfl
theorem info9 : (Try.prog.info? 9).map (fun i => (i.zero, i.size, i.bytes)) = some (some (.string ⟨#[]⟩), 1, 16) := by kernel_rfl
-- the values' own types

end Go.Proofs.Ytmodpjlbbmfbaaa.PFnExactMostWays
