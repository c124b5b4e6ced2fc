/- The law FnExactNewMachine answers true: a new machine is the reference's, and in new memory. No condition. -/
import Derived.Test.YtbbfahkmjfmmjaaDoorPNewMx11
namespace Go.Proofs.YtbbfahkmjfmmjaaDoor.Pure
open Go.RowKit Go.Proofs.YtbbfahkmjfmmjaaDoor.PNewM Go.Proofs.YtbbfahkmjfmmjaaDoorW.PrintWords Go.Proofs.YtbbfahkmjfmmjaaDoorW.PrintLast
set_option linter.unusedSimpArgs false
set_option linter.unusedVariables false

theorem FnExactNewMachine : laws_FnExactNewMachine.Pure := ⟨400, by decide +kernel⟩
end Go.Proofs.YtbbfahkmjfmmjaaDoor.Pure
