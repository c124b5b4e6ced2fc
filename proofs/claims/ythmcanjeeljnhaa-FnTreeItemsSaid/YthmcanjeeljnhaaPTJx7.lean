-- laid by a program of this session out of the translation's own print: Lean checks it
import Derived.Test.YthmcanjeeljnhaaPTJx0
import Derived.Test.YthmcanjeeljnhaaPTJx5
import Derived.Test.YthmcanjeeljnhaaPTJx6
namespace Go.Proofs.Ythmcanjeeljnhaa.PTJ
open Go.RowKit Go.Proofs.YthmcanjeeljnhaaW.PrintWords Go.Proofs.YthmcanjeeljnhaaW.PrintLast Go.Proofs.YthmcanjeeljnhaaW.PrintMore
attribute [local go_sem] max2_int min2_int max_two min_two max_three min_three max_four min_four -- for this text's walks alone
set_option linter.unusedVariables false
set_option maxHeartbeats 8000000
set_option maxRecDepth 100000
set_option linter.unusedSimpArgs false

/-! ### impl_CheckItems: function 23 -/
def impl_CheckItems.f (k:Nat) (l0:List (S44)):Option (Int × Int):=(impl_itemsCode.f k l0).bind fun t281=>(if t281=0 then((impl_checkItems.f k l0).bind fun t282=>(if t282≥0 then(some (t282,12))else(some (0,0))))else(some (0,t281)))
theorem impl_CheckItems.mono: ∀a0 k,LeO (impl_CheckItems.f k a0) (impl_CheckItems.f (k+1) a0):=by
 intro a0 k;unfold impl_CheckItems.f;repeat' first
 |(with_reducible first|apply impl_checkItems.mono|apply impl_itemsCode.mono|exact LeO.refl _|exact LeO.none _|refine LeO.ite ?_ ?_|refine LeO.bind ?_ (fun _=> ?_))
 |apply impl_checkItems.mono|apply impl_itemsCode.mono|exact LeO.none _|refine LeO.ite ?_ ?_|refine LeO.bind ?_ (fun _=> ?_)
theorem impl_CheckItems.calls (k:Nat) A0 c0 l0 (r1:Int) (r2:Int) (w:World) (hr0:Kd.C k44 w A0 l0.length l0) (hc0:l0.length≤c0) (h:impl_CheckItems.f k l0=some (r1,r2)):
  Calls Try.prog 23 #[.slice A0 l0.length c0] w fun e w'=>e= .returned (.tuple #[.int .i64 r1,.int .i64 r2])∧Below w.heap.size w w':=by
 have HR0:=am_ hr0;have HC0:=am_ hc0;clear hr0 hc0;have HB:=am_ (Below.refl w.heap.size w);have H:=h;clear h;rw [impl_CheckItems.f]at H;replace H:=Option.bind_eq_some_iff.mp H;obtain⟨t281,A20,H⟩:=H;try dsimp only at H
 have A2:=am_ A20;clear A20;by_cases c3:t281=0
 ·rw [if_pos c3]at H;have c3b0:(t281==0)=true:=beq_iff_eq.mpr c3;have c3b1:(t281 !=0)=false:=bne_eq_false_iff_eq.mpr c3;clear c3;replace H:=Option.bind_eq_some_iff.mp H;obtain⟨t282,A40,H⟩:=H;try dsimp only at H
  have A4:=am_ A40;clear A40;by_cases c5:t282≥0
  ·rw [if_pos c5]at H;have c5b0:decide (0≤t282)=true:=decide_eq_true c5;clear c5;simp only [Option.some.injEq,Prod.mk.injEq]at H;obtain⟨rfl,rfl⟩:=H;go_enter Try.func23,Try.ntmps23;go_wp2_with (first|((with_reducible refine gate_callee (f:=36) rfl ?_);refine goesL_ (some 7) rfl rfl Try.func36 (by kernel_rfl) rfl #[.slice A0 l0.length c0] rfl yk0_ ?_;(with_reducible refine(impl_itemsCode.calls k (fun k_=>k_<w.heap.size) _ _ l0 t281 _ ?side1 A2.out).mono ?_);(case side1=>exact Kd.V_mk HC0.out (Kd.F_below (Kd.C_F k44_heap HR0.out) ybl_));rintro e w6 ⟨rfl,hb⟩;refine⟨_,rfl,?_⟩;replace HB:=yst_ hb;(try clear hb))|((with_reducible refine gate_callee (f:=37) rfl ?_);refine goesL_ (some 12) rfl rfl Try.func37 (by kernel_rfl) rfl #[.slice A0 l0.length c0] rfl yk0_ ?_;(with_reducible refine(impl_checkItems.calls k _ _ l0 t282 _ ?side1 HC0.out A4.out).mono ?_);(case side1=>exact ycb_ HR0 HB);rintro e w7 ⟨rfl,hb⟩;refine⟨_,rfl,?_⟩;replace HB:=yst_ hb;(try clear hb)));go_ret2;exact⟨yk1_,ybl_⟩
  ·rw [if_neg c5]at H;have c5b0:decide (0≤t282)=false:=decide_eq_false c5;clear c5;simp only [Option.some.injEq,Prod.mk.injEq]at H;obtain⟨rfl,rfl⟩:=H;go_enter Try.func23,Try.ntmps23;go_wp2_with (first|((with_reducible refine gate_callee (f:=36) rfl ?_);refine goesL_ (some 7) rfl rfl Try.func36 (by kernel_rfl) rfl #[.slice A0 l0.length c0] rfl yk0_ ?_;(with_reducible refine(impl_itemsCode.calls k (fun k_=>k_<w.heap.size) _ _ l0 t281 _ ?side1 A2.out).mono ?_);(case side1=>exact Kd.V_mk HC0.out (Kd.F_below (Kd.C_F k44_heap HR0.out) ybl_));rintro e w8 ⟨rfl,hb⟩;refine⟨_,rfl,?_⟩;replace HB:=yst_ hb;(try clear hb))|((with_reducible refine gate_callee (f:=37) rfl ?_);refine goesL_ (some 12) rfl rfl Try.func37 (by kernel_rfl) rfl #[.slice A0 l0.length c0] rfl yk0_ ?_;(with_reducible refine(impl_checkItems.calls k _ _ l0 t282 _ ?side1 HC0.out A4.out).mono ?_);(case side1=>exact ycb_ HR0 HB);rintro e w9 ⟨rfl,hb⟩;refine⟨_,rfl,?_⟩;replace HB:=yst_ hb;(try clear hb)));go_ret2;exact⟨yk1_,ybl_⟩
 ·rw [if_neg c3]at H;have c3b0:(t281==0)=false:=beq_eq_false_iff_ne.mpr c3;have c3b1:(t281 !=0)=true:=bne_iff_ne.mpr c3;simp only [Option.some.injEq,Prod.mk.injEq]at H;obtain⟨rfl,rfl⟩:=H;go_enter Try.func23,Try.ntmps23;go_wp2_with (first|((with_reducible refine gate_callee (f:=36) rfl ?_);refine goesL_ (some 7) rfl rfl Try.func36 (by kernel_rfl) rfl #[.slice A0 l0.length c0] rfl yk0_ ?_;(with_reducible refine(impl_itemsCode.calls k (fun k_=>k_<w.heap.size) _ _ l0 t281 _ ?side1 A2.out).mono ?_);(case side1=>exact Kd.V_mk HC0.out (Kd.F_below (Kd.C_F k44_heap HR0.out) ybl_));rintro e w10 ⟨rfl,hb⟩;refine⟨_,rfl,?_⟩;replace HB:=yst_ hb;(try clear hb)));go_ret2;exact⟨yk1_,ybl_⟩

end Go.Proofs.Ythmcanjeeljnhaa.PTJ
