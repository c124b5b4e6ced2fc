import Derived.Test.YtmjkehfbgaafjaaGreatDoorGSameMachineWInv
import Derived.Test.YtmjkehfbgaafjaaGreatDoorGSameMachineWFootNe
namespace Go.Proofs.YtmjkehfbgaafjaaGreatDoorW.PrintWords
open Go.RowKit
end Go.Proofs.YtmjkehfbgaafjaaGreatDoorW.PrintWords
namespace Go.Proofs.YtmjkehfbgaafjaaGreatDoorW.PrintLast
section
variable {ops:Array Oper} {a:Act} {o og:Oper} {g:Nat} {t:Tmp} {u:Bool}
end
end Go.Proofs.YtmjkehfbgaafjaaGreatDoorW.PrintLast
