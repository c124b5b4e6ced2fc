-- laid by a program of this session out of the translation's own print: Lean checks it
import Derived.Test.YtpikcebippnemabProg
import Derived.Test.YtpikcebippnemabOp
import Derived.Below
import Derived.Deep.Draws
import Derived.Deep.AppendLies
import Derived.Maps.AppendAt
import Derived.OwnWalk
import Derived.Laws.BytesArg
import Derived.Laws.MakeOwn
import Derived.Laws.OwnMore
import Derived.Deep.OwnRows
import Derived.Tactics
import Derived.Lib.ConvBytes
import Derived.Laws.Slices
import Derived.WalkKit
import Derived.KernelRfl
import Derived.RowKit3
import Derived.Deep.LoopGhost
import Derived.Deep.QuietTactic
import Derived.BigQuiet
import Derived.WideLaws
import Derived.Deep.DeepCutAuto
import Derived.Deep.CutBlock
import Derived.Deep.RegionHeld3
import Derived.Laws.Rows
import Derived.Lib.AppendStr
import Derived.ArgAppend
import Derived.Laws.IdiomCopy
import Derived.OrdersHeld
import Derived.Laws.BitsLemmas
import Derived.RowKit
import Derived.Test.YtpikcebippnemabWApart
import Derived.Test.YtpikcebippnemabWArr
import Derived.Test.YtpikcebippnemabWAt
import Derived.Test.YtpikcebippnemabWEqStruct
import Derived.Test.YtpikcebippnemabWFoot
import Derived.Test.YtpikcebippnemabWFootNe
import Derived.Test.YtpikcebippnemabWFour
import Derived.Test.YtpikcebippnemabWGuard
import Derived.Test.YtpikcebippnemabWInv
import Derived.Test.YtpikcebippnemabWInvWords
import Derived.Test.YtpikcebippnemabWKept
import Derived.Test.YtpikcebippnemabWLast
import Derived.Test.YtpikcebippnemabWMore
import Derived.Test.YtpikcebippnemabWN
import Derived.Test.YtpikcebippnemabWNEv
import Derived.Test.YtpikcebippnemabWQPut
import Derived.Test.YtpikcebippnemabWRepsOne
import Derived.Test.YtpikcebippnemabWShare
import Derived.Test.YtpikcebippnemabWTab
import Derived.Test.YtpikcebippnemabWWords
import Derived.Test.YtpikcebippnemabWZeros
namespace Go.Proofs.Ytpikcebippnemab.PFnExactSameWord
open Go.RowKit Go.Proofs.YtpikcebippnemabW.PrintWords Go.Proofs.YtpikcebippnemabW.PrintLast Go.Proofs.YtpikcebippnemabW.PrintMore
attribute [local go_sem] max2_int min2_int max_two min_two max_three min_three max_four min_four   -- for this text's walks alone
set_option linter.unusedVariables false
set_option linter.unusedSimpArgs false



def errW : Option Int → Value
  | none => .nilIface
  | some c => .iface 0 (.int .i64 c)
theorem errW_none : errW none = .nilIface := rfl
theorem errW_some (c : Int) : errW (some c) = .iface 0 (.int .i64 c) := rfl

theorem info5 : (Try.prog.info? 5).map (fun i => (i.zero, i.size, i.bytes)) = some (some (.int .u8 0), 1, 1) := by kernel_rfl
-- the values' own types

end Go.Proofs.Ytpikcebippnemab.PFnExactSameWord
