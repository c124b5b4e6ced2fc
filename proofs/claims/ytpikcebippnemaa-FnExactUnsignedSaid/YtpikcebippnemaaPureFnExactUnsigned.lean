/- The law FnExactUnsigned answers true for every number. No condition. -/
import Derived.Test.YtpikcebippnemaaPFnExactUnsignedx1
namespace Go.Proofs.Ytpikcebippnemaa.Pure
open Go.RowKit Go.Proofs.Ytpikcebippnemaa.PFnExactUnsigned Go.Proofs.YtpikcebippnemaaW.PrintWords Go.Proofs.YtpikcebippnemaaW.PrintLast
set_option linter.unusedSimpArgs false
set_option linter.unusedVariables false

theorem FnExactUnsigned : laws_FnExactUnsigned.Pure := by
  intro a0 h
  simp [Lit.wf, IntKind.min, IntKind.max, IntKind.signed, IntKind.bits] at h
  have e : (wrap64 (wrap32 a0) == a0) = decide (-2147483648 ≤ a0 ∧ a0 ≤ 2147483647) := by
    rw [Bool.eq_iff_iff]
    simp only [beq_iff_eq, decide_eq_true_eq]
    unfold wrap64 wrap32
    omega
  simp only [laws_FnExactUnsigned.f, spec_Unsigned.f, spec_l01Cell.f, spec_l01In.f, spec_l01Unsigned.f, impl_Unsigned.f, impl_CellOK.f, impl_WrapCell.f, impl_unsigned.f, Option.bind_some, e]
  by_cases h1 : a0 ≥ -2147483648
  · by_cases h2 : a0 ≤ 2147483647 <;> simp [h1, h2]
  · simp [h1]
end Go.Proofs.Ytpikcebippnemaa.Pure
