-- trimmed by a program of this session to what this claim's texts use

import Derived.Test.YthmcanjeeljnhaaGTreeOfWInv
import Derived.Test.YthmcanjeeljnhaaGTreeOfWFootNe
namespace Go.Proofs.YthmcanjeeljnhaaW.PrintWords
open Go.RowKit
end Go.Proofs.YthmcanjeeljnhaaW.PrintWords
namespace Go.Proofs.YthmcanjeeljnhaaW.PrintLast
section
variable {ops : Array Oper} {a : Act} {o og : Oper} {g : Nat} {t : Tmp} {u : Bool}
end
end Go.Proofs.YthmcanjeeljnhaaW.PrintLast
