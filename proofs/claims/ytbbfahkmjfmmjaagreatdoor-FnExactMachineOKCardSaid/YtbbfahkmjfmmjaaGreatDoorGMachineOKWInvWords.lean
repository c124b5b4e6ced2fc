-- trimmed by a program of this session to what this claim's texts use

import Derived.Test.YtbbfahkmjfmmjaaGreatDoorGMachineOKWInv
import Derived.Test.YtbbfahkmjfmmjaaGreatDoorGMachineOKWFootNe
namespace Go.Proofs.YtbbfahkmjfmmjaaGreatDoorW.PrintWords
open Go.RowKit
end Go.Proofs.YtbbfahkmjfmmjaaGreatDoorW.PrintWords
namespace Go.Proofs.YtbbfahkmjfmmjaaGreatDoorW.PrintLast
section
variable {ops : Array Oper} {a : Act} {o og : Oper} {g : Nat} {t : Tmp} {u : Bool}
end
end Go.Proofs.YtbbfahkmjfmmjaaGreatDoorW.PrintLast
