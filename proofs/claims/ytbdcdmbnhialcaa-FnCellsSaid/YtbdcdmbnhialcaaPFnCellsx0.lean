-- laid by a program of this session out of the translation's own print: Lean checks it
import Derived.Test.YtbdcdmbnhialcaaProg
import Derived.Test.YtbdcdmbnhialcaaOp
import Derived.Below
import Derived.Deep.Draws
import Derived.Deep.AppendLies
import Derived.Maps.AppendAt
import Derived.OwnWalk
import Derived.Laws.BytesArg
import Derived.Laws.MakeOwn
import Derived.Laws.OwnMore
import Derived.Deep.OwnRows
import Derived.Tactics
import Derived.Lib.ConvBytes
import Derived.Laws.Slices
import Derived.WalkKit
import Derived.KernelRfl
import Derived.RowKit3
import Derived.Deep.LoopGhost
import Derived.Deep.QuietTactic
import Derived.BigQuiet
import Derived.WideLaws
import Derived.Deep.DeepCutAuto
import Derived.Deep.CutBlock
import Derived.Deep.RegionHeld3
import Derived.Laws.Rows
import Derived.Lib.AppendStr
import Derived.ArgAppend
import Derived.Laws.IdiomCopy
import Derived.OrdersHeld
import Derived.Laws.BitsLemmas
import Derived.RowKit
import Derived.Test.YtbdcdmbnhialcaaWApart
import Derived.Test.YtbdcdmbnhialcaaWArr
import Derived.Test.YtbdcdmbnhialcaaWAt
import Derived.Test.YtbdcdmbnhialcaaWEqStruct
import Derived.Test.YtbdcdmbnhialcaaWFoot
import Derived.Test.YtbdcdmbnhialcaaWFootNe
import Derived.Test.YtbdcdmbnhialcaaWFour
import Derived.Test.YtbdcdmbnhialcaaWGuard
import Derived.Test.YtbdcdmbnhialcaaWInv
import Derived.Test.YtbdcdmbnhialcaaWInvWords
import Derived.Test.YtbdcdmbnhialcaaWKept
import Derived.Test.YtbdcdmbnhialcaaWLast
import Derived.Test.YtbdcdmbnhialcaaWMore
import Derived.Test.YtbdcdmbnhialcaaWN
import Derived.Test.YtbdcdmbnhialcaaWNEv
import Derived.Test.YtbdcdmbnhialcaaWQPut
import Derived.Test.YtbdcdmbnhialcaaWRepsOne
import Derived.Test.YtbdcdmbnhialcaaWShare
import Derived.Test.YtbdcdmbnhialcaaWTab
import Derived.Test.YtbdcdmbnhialcaaWWords
import Derived.Test.YtbdcdmbnhialcaaWZeros
namespace Go.Proofs.Ytbdcdmbnhialcaa.PFnCells
open Go.RowKit Go.Proofs.YtbdcdmbnhialcaaW.PrintWords Go.Proofs.YtbdcdmbnhialcaaW.PrintLast Go.Proofs.YtbdcdmbnhialcaaW.PrintMore
attribute [local go_sem] max2_int min2_int max_two min_two max_three min_three max_four min_four   -- for this text's walks alone
set_option linter.unusedVariables false
set_option linter.unusedSimpArgs false



def errW : Option Int → Value
  | none => .nilIface
  | some c => .iface 0 (.int .i64 c)
theorem errW_none : errW none = .nilIface := rfl
theorem errW_some (c : Int) : errW (some c) = .iface 0 (.int .i64 c) := rfl

theorem info3 : (Try.prog.info? 3).map (fun i => (i.zero, i.size, i.bytes)) = some (some (.int .i64 0), 1, 8) := by kernel_rfl
-- the values' own types

end Go.Proofs.Ytbdcdmbnhialcaa.PFnCells
