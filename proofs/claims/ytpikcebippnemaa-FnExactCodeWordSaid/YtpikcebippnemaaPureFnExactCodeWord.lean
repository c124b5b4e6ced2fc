/- The law FnExactCodeWord answers true for every number: the word of a code is read out of the same list, in the same range. No condition. -/
import Derived.Test.YtpikcebippnemaaPFnExactCodeWordx1
namespace Go.Proofs.Ytpikcebippnemaa.Pure
open Go.RowKit Go.Proofs.Ytpikcebippnemaa.PFnExactCodeWord Go.Proofs.YtpikcebippnemaaW.PrintWords Go.Proofs.YtpikcebippnemaaW.PrintLast
set_option linter.unusedSimpArgs false
set_option linter.unusedVariables false

theorem word_at : ∀ i : Fin 19, laws_FnExactCodeWord.f (i.val : Int) = some true := by
  decide +kernel

theorem FnExactCodeWord : laws_FnExactCodeWord.Pure := by
  intro a0 _
  by_cases h : 0 ≤ a0 ∧ a0 < 19
  · obtain ⟨i, rfl⟩ : ∃ i : Fin 19, a0 = (i.val : Int) := ⟨⟨a0.toNat, by omega⟩, by simp; omega⟩
    exact word_at i
  · simp only [laws_FnExactCodeWord.f, spec_CodeWord.f, impl_CodeWord.f, impl_in.f, Option.bind_some]
    by_cases h1 : 0 ≤ a0
    · have h2 : ¬ a0 ≤ 18 := by omega
      have h3 : 19 ≤ a0 := by omega
      have h4 : ¬ a0 < 0 := by omega
      simp [h1, h2, h3, h4]
    · have h4 : a0 < 0 := by omega
      simp [h1, h4]
end Go.Proofs.Ytpikcebippnemaa.Pure
