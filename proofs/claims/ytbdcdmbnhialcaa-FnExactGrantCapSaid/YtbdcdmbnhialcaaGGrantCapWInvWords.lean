-- trimmed by a program of this session to what this claim's texts use

import Derived.Test.YtbdcdmbnhialcaaGGrantCapWInv
import Derived.Test.YtbdcdmbnhialcaaGGrantCapWFootNe
namespace Go.Proofs.YtbdcdmbnhialcaaW.PrintWords
open Go.RowKit
end Go.Proofs.YtbdcdmbnhialcaaW.PrintWords
namespace Go.Proofs.YtbdcdmbnhialcaaW.PrintLast
section
variable {ops : Array Oper} {a : Act} {o og : Oper} {g : Nat} {t : Tmp} {u : Bool}
end
end Go.Proofs.YtbdcdmbnhialcaaW.PrintLast
