-- trimmed by a program of this session to what this claim's texts use

import Derived.Test.YtbbfahkmjfmmjaaDoorGCodeLinesWInv
import Derived.Test.YtbbfahkmjfmmjaaDoorGCodeLinesWFootNe
namespace Go.Proofs.YtbbfahkmjfmmjaaDoorW.PrintWords
open Go.RowKit
end Go.Proofs.YtbbfahkmjfmmjaaDoorW.PrintWords
namespace Go.Proofs.YtbbfahkmjfmmjaaDoorW.PrintLast
section
variable {ops : Array Oper} {a : Act} {o og : Oper} {g : Nat} {t : Tmp} {u : Bool}
end
end Go.Proofs.YtbbfahkmjfmmjaaDoorW.PrintLast
