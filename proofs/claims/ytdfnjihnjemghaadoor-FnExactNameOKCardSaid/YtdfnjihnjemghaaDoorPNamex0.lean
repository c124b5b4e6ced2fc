-- laid by a program of this session out of the translation's own print: Lean checks it
import Derived.Test.YtdfnjihnjemghaaDoorProg
import Derived.Test.YtdfnjihnjemghaaDoorOp
import Derived.Below
import Derived.Deep.Draws
import Derived.Deep.AppendLies
import Derived.Maps.AppendAt
import Derived.OwnWalk
import Derived.Laws.BytesArg
import Derived.Laws.MakeOwn
import Derived.Laws.OwnMore
import Derived.Deep.OwnRows
import Derived.Tactics
import Derived.Lib.ConvBytes
import Derived.Laws.Slices
import Derived.WalkKit
import Derived.KernelRfl
import Derived.RowKit3
import Derived.Deep.LoopGhost
import Derived.Deep.QuietTactic
import Derived.BigQuiet
import Derived.WideLaws
import Derived.Deep.DeepCutAuto
import Derived.Deep.CutBlock
import Derived.Deep.RegionHeld3
import Derived.Laws.Rows
import Derived.Lib.AppendStr
import Derived.ArgAppend
import Derived.Laws.IdiomCopy
import Derived.OrdersHeld
import Derived.Laws.BitsLemmas
import Derived.RowKit
import Derived.Shelf.Strings.SlTrimAscii
import Derived.Test.YtdfnjihnjemghaaDoorWApart
import Derived.Test.YtdfnjihnjemghaaDoorWArr
import Derived.Test.YtdfnjihnjemghaaDoorWAt
import Derived.Test.YtdfnjihnjemghaaDoorWEqStruct
import Derived.Test.YtdfnjihnjemghaaDoorWFoot
import Derived.Test.YtdfnjihnjemghaaDoorWFootNe
import Derived.Test.YtdfnjihnjemghaaDoorWFour
import Derived.Test.YtdfnjihnjemghaaDoorWGuard
import Derived.Test.YtdfnjihnjemghaaDoorWInv
import Derived.Test.YtdfnjihnjemghaaDoorWInvWords
import Derived.Test.YtdfnjihnjemghaaDoorWKept
import Derived.Test.YtdfnjihnjemghaaDoorWLast
import Derived.Test.YtdfnjihnjemghaaDoorWMore
import Derived.Test.YtdfnjihnjemghaaDoorWN
import Derived.Test.YtdfnjihnjemghaaDoorWNEv
import Derived.Test.YtdfnjihnjemghaaDoorWQPut
import Derived.Test.YtdfnjihnjemghaaDoorWRepsOne
import Derived.Test.YtdfnjihnjemghaaDoorWShare
import Derived.Test.YtdfnjihnjemghaaDoorWTab
import Derived.Test.YtdfnjihnjemghaaDoorWWords
import Derived.Test.YtdfnjihnjemghaaDoorWZeros
namespace Go.Proofs.YtdfnjihnjemghaaDoor.PName
open Go.RowKit Go.Proofs.YtdfnjihnjemghaaDoorW.PrintWords Go.Proofs.YtdfnjihnjemghaaDoorW.PrintLast Go.Proofs.YtdfnjihnjemghaaDoorW.PrintMore
attribute [local go_sem] max2_int min2_int max_two min_two max_three min_three max_four min_four   -- for this text's walks alone
set_option linter.unusedVariables false
set_option linter.unusedSimpArgs false



def errW : Option Int → Value
  | none => .nilIface
  | some c => .iface 0 (.int .i64 c)
theorem errW_none : errW none = .nilIface := rfl
theorem errW_some (c : Int) : errW (some c) = .iface 0 (.int .i64 c) := rfl

-- the values' own types

end Go.Proofs.YtdfnjihnjemghaaDoor.PName
