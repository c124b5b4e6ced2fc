-- trimmed by a program of this session to what this claim's texts use

import Derived.Test.YthmcanjeeljnhaaGTreeOfWWords
namespace Go.Proofs.YthmcanjeeljnhaaW.PrintWords
open Go.RowKit
section
variable {P : Program} {ops : Array Oper} {rest : List Oper} {o : Oper} {a : Act} {Q : Exit → Act → World → Prop} {W : World}
end
end Go.Proofs.YthmcanjeeljnhaaW.PrintWords
