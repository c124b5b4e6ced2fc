-- trimmed by a program of this session to what this claim's texts use

import Derived.Test.YthmcanjeeljnhaaGTreeOfWWords
import Derived.Laws.StructEq
namespace Go.Proofs.YthmcanjeeljnhaaW.PrintWords
open Go.RowKit
section
variable {P : Program} {d : Nat} {xs ys : Array Value} {f : Field} {fs : List Field} {a b : Value} {r s : Bool} {w : World}
end
end Go.Proofs.YthmcanjeeljnhaaW.PrintWords
