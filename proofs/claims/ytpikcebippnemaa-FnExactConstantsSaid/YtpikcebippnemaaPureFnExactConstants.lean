/- The law FnExactConstants answers true: each constant of the program is the reference's. No condition. -/
import Derived.Test.YtpikcebippnemaaPFnExactConstantsx1
namespace Go.Proofs.Ytpikcebippnemaa.Pure
open Go.RowKit Go.Proofs.Ytpikcebippnemaa.PFnExactConstants Go.Proofs.YtpikcebippnemaaW.PrintWords Go.Proofs.YtpikcebippnemaaW.PrintLast

theorem FnExactConstants : laws_FnExactConstants.Pure := by
  unfold laws_FnExactConstants.Pure laws_FnExactConstants.f
  rfl
end Go.Proofs.Ytpikcebippnemaa.Pure
