-- laid by a program of this session out of the translation's own print: Lean checks it
import Derived.Test.YthmcanjeeljnhaaPTJx0
import Derived.Test.YthmcanjeeljnhaaPTJx11
namespace Go.Proofs.Ythmcanjeeljnhaa.PTJ
open Go.RowKit Go.Proofs.YthmcanjeeljnhaaW.PrintWords Go.Proofs.YthmcanjeeljnhaaW.PrintLast Go.Proofs.YthmcanjeeljnhaaW.PrintMore
attribute [local go_sem] max2_int min2_int max_two min_two max_three min_three max_four min_four -- for this text's walks alone
set_option linter.unusedVariables false
set_option maxHeartbeats 8000000
set_option maxRecDepth 100000
set_option linter.unusedSimpArgs false

/-! ### impl_isLong_Node: function 29 -/
def impl_isLong_Node.f (k:Nat) (l0:List (List (S53))):Option (Bool):=(slices_ContainsFunc_Node_at_impl_isLong_Node_1.f k l0).bind fun t648=>(some t648)
theorem impl_isLong_Node.mono: ∀a0 k,LeO (impl_isLong_Node.f k a0) (impl_isLong_Node.f (k+1) a0):=by
 intro a0 k;unfold impl_isLong_Node.f;repeat' first
 |(with_reducible first|apply slices_ContainsFunc_Node_at_impl_isLong_Node_1.mono|exact LeO.refl _|exact LeO.none _|refine LeO.ite ?_ ?_|refine LeO.bind ?_ (fun _=> ?_))
 |apply slices_ContainsFunc_Node_at_impl_isLong_Node_1.mono|exact LeO.none _|refine LeO.ite ?_ ?_|refine LeO.bind ?_ (fun _=> ?_)
theorem impl_isLong_Node.calls (k:Nat) A0 c0 l0 (r:Bool) (w:World) (hr0:Kd.C (Kd.slice 53 k53) w A0 l0.length l0) (hc0:l0.length≤c0) (h:impl_isLong_Node.f k l0=some r):
  Calls Try.prog 29 #[.slice A0 l0.length c0] w fun e w'=>e= .returned (.bool r)∧Drawn0 w w':=by
 have HR0:=am_ hr0;have HC0:=am_ hc0;clear hr0 hc0;have H:=h;clear h;rw [impl_isLong_Node.f]at H;replace H:=Option.bind_eq_some_iff.mp H;obtain⟨t648,A20,H⟩:=H;replace H:(some t648)=some r:=H;have A2:=am_ A20;clear A20;obtain rfl:=Option.some.inj H;go_enter Try.func29,Try.ntmps29;go_wp2_with (first|((with_reducible refine gate_callee (f:=41) rfl ?_);refine goesL_ (some 4) rfl rfl Try.func41 (by kernel_rfl) rfl #[.slice A0 l0.length c0,.func (.func 42) #[] #[]] rfl yk0_ ?_;(with_reducible refine(slices_ContainsFunc_Node_at_impl_isLong_Node_1.calls k _ _ l0 t648 _ ?side1 HC0.out A2.out).mono ?_);(case side1=>repeat(first|exact HR0.out|(with_reducible refine Kd.C_alloc ?_ _)|(with_reducible refine Kd.C_drewN ?_ _)|(with_reducible refine Kd.C_drew ?_)));rintro e w' ⟨rfl,⟨nd,rfl⟩⟩;refine⟨_,rfl,?_⟩));go_ret;exact⟨by first|rfl|(simp;done)|(simp [*];done),by repeat(first|exact Drawn0.refl _|apply Drawn0.step)⟩

end Go.Proofs.Ythmcanjeeljnhaa.PTJ
