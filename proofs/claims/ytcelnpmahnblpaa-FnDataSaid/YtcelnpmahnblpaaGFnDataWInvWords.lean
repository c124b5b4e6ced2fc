-- trimmed by a program of this session to what this claim's texts use

import Derived.Test.YtcelnpmahnblpaaGFnDataWInv
import Derived.Test.YtcelnpmahnblpaaGFnDataWFootNe
namespace Go.Proofs.YtcelnpmahnblpaaW.PrintWords
open Go.RowKit
end Go.Proofs.YtcelnpmahnblpaaW.PrintWords
namespace Go.Proofs.YtcelnpmahnblpaaW.PrintLast
section
variable {ops : Array Oper} {a : Act} {o og : Oper} {g : Nat} {t : Tmp} {u : Bool}
end
end Go.Proofs.YtcelnpmahnblpaaW.PrintLast
