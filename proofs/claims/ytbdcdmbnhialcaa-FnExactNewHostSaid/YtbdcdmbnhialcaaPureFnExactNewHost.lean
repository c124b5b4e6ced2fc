/- The law FnExactNewHost answers true: a new host is the reference's, and in new memory. No condition. -/
import Derived.Test.YtbdcdmbnhialcaaPFnExactNewHostx4
namespace Go.Proofs.Ytbdcdmbnhialcaa.Pure
open Go.RowKit Go.Proofs.Ytbdcdmbnhialcaa.PFnExactNewHost Go.Proofs.YtbdcdmbnhialcaaW.PrintWords Go.Proofs.YtbdcdmbnhialcaaW.PrintLast
set_option linter.unusedSimpArgs false
set_option linter.unusedVariables false

theorem FnExactNewHost : laws_FnExactNewHost.Pure := ⟨60, by decide +kernel⟩
end Go.Proofs.Ytbdcdmbnhialcaa.Pure
