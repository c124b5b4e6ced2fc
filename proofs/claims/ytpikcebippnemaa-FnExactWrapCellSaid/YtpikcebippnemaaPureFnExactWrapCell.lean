/- The law FnExactWrapCell answers true for every number: both ways to the lowest 32 bits agree. No condition. -/
import Derived.Test.YtpikcebippnemaaPFnExactWrapCellx1
namespace Go.Proofs.Ytpikcebippnemaa.Pure
open Go.RowKit Go.Proofs.Ytpikcebippnemaa.PFnExactWrapCell Go.Proofs.YtpikcebippnemaaW.PrintWords Go.Proofs.YtpikcebippnemaaW.PrintLast

theorem FnExactWrapCell : laws_FnExactWrapCell.Pure := by
  intro a0 _
  have e : wrap64 (wrap32 a0) = wrap64 (wrap32 (IntKind.u64.wrap a0 % 4294967296)) := by
    simp [IntKind.wrap, IntKind.bits, IntKind.signed]
    unfold wrap64 wrap32
    omega
  simp [laws_FnExactWrapCell.f, spec_WrapCell.f, spec_l01Wrap.f, impl_WrapCell.f, e]
end Go.Proofs.Ytpikcebippnemaa.Pure
