/- The law FnExactTakesOf answers true for every number: the digits of the program's text are the reference's list. No condition. -/
import Derived.Test.YtpikcebippnemaaPFnExactTakesOfx1
namespace Go.Proofs.Ytpikcebippnemaa.Pure
open Go.RowKit Go.Proofs.Ytpikcebippnemaa.PFnExactTakesOf Go.Proofs.YtpikcebippnemaaW.PrintWords Go.Proofs.YtpikcebippnemaaW.PrintLast
set_option linter.unusedSimpArgs false
set_option linter.unusedVariables false

theorem takes_at : ∀ i : Fin 52, laws_FnExactTakesOf.f ((i.val : Int) + 1) = some true := by
  decide +kernel

theorem FnExactTakesOf : laws_FnExactTakesOf.Pure := by
  intro a0 _
  by_cases h : 1 ≤ a0 ∧ a0 ≤ 52
  · obtain ⟨i, rfl⟩ : ∃ i : Fin 52, a0 = (i.val : Int) + 1 := ⟨⟨(a0 - 1).toNat, by omega⟩, by simp; omega⟩
    exact takes_at i
  · simp only [laws_FnExactTakesOf.f, spec_TakesOf.f, spec_l05Prim.f, spec_l01In.f, impl_TakesOf.f, impl_in.f]
    by_cases h1 : 1 ≤ a0
    · have h2 : ¬ a0 ≤ 52 := by omega
      have h3 : a0 ≥ 1 := h1
      simp [h1, h2, h3]
    · have h3 : ¬ a0 ≥ 1 := h1
      simp [h1]
end Go.Proofs.Ytpikcebippnemaa.Pure
