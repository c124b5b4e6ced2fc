import Derived.Test.YthmcanjeeljnhaaGFnTreeItemsWInv
import Derived.Test.YthmcanjeeljnhaaGFnTreeItemsWFootNe
namespace Go.Proofs.YthmcanjeeljnhaaW.PrintWords
open Go.RowKit
end Go.Proofs.YthmcanjeeljnhaaW.PrintWords
namespace Go.Proofs.YthmcanjeeljnhaaW.PrintLast
section
variable {ops:Array Oper} {a:Act} {o og:Oper} {g:Nat} {t:Tmp} {u:Bool}
end
end Go.Proofs.YthmcanjeeljnhaaW.PrintLast
