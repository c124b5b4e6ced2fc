-- laid by a program of this session out of the translation's own print: Lean checks it
import Derived.Test.YthmcanjeeljnhaaPTJx0
import Derived.Test.YthmcanjeeljnhaaPTJx1
import Derived.Test.YthmcanjeeljnhaaPTJx4
import Derived.Test.YthmcanjeeljnhaaPTJx9
import Derived.Test.YthmcanjeeljnhaaPTJx11
import Derived.Test.YthmcanjeeljnhaaPTJx14
import Derived.Test.YthmcanjeeljnhaaPTJx15
namespace Go.Proofs.Ythmcanjeeljnhaa.PTJ
open Go.RowKit Go.Proofs.YthmcanjeeljnhaaW.PrintWords Go.Proofs.YthmcanjeeljnhaaW.PrintLast Go.Proofs.YthmcanjeeljnhaaW.PrintMore
attribute [local go_sem] max2_int min2_int max_two min_two max_three min_three max_four min_four -- for this text's walks alone
set_option linter.unusedVariables false
set_option maxHeartbeats 8000000
set_option maxRecDepth 100000
set_option linter.unusedSimpArgs false

attribute [local go_sem high] eqA44
/-! ### spec_DoubtItems: function 16 -/
def spec_DoubtItems.f (k:Nat) (l0:List Int):Option ((List (S44))):=(spec_l00Source.f l0).bind fun bt804=>((spec_l00Src_anyItems.f k bt804.1 bt804.2.1 bt804.2.2).bind fun bt808=>(if 0≤(mn (bt808.1.length:Int) 60)then(if(mn (bt808.1.length:Int) 60)≤(bt808.1.length:Int)then(some (bt808.1.take ((mn (bt808.1.length:Int) 60):Int).toNat))else(none))else(none)))
theorem spec_DoubtItems.mono: ∀a0 k,LeO (spec_DoubtItems.f k a0) (spec_DoubtItems.f (k+1) a0):=by
 intro a0 k;unfold spec_DoubtItems.f;repeat' first
 |(with_reducible first|apply spec_l00Src_anyItems.mono|exact LeO.refl _|exact LeO.none _|refine LeO.ite ?_ ?_|refine LeO.bind ?_ (fun _=> ?_))
 |apply spec_l00Src_anyItems.mono|exact LeO.none _|refine LeO.ite ?_ ?_|refine LeO.bind ?_ (fun _=> ?_)
theorem spec_DoubtItems.calls (k:Nat) A0 c0 l0 (r:List (S44)) (w:World) (hr0:Kd.C (Kd.int .u8) w A0 l0.length l0) (hc0:l0.length≤c0) (h:spec_DoubtItems.f k l0=some r):
  Calls Try.prog 16 #[.slice A0 l0.length c0] w fun e w'=> ∃v0_:Value,e= .returned (v0_)∧Kd.R k44 44 w' w.heap.size (fun _=>True) v0_ r∧Below w.heap.size w w':=by
 have HR0:=am_ hr0;have HC0:=am_ hc0;clear hr0 hc0;have HB:=am_ (Below.refl w.heap.size w);have H:=h;clear h;rw [spec_DoubtItems.f]at H;replace H:=Option.bind_eq_some_iff.mp H;obtain⟨⟨t804,t805,t806⟩,A20,H⟩:=H;try dsimp only at H
 have A2:=am_ A20;clear A20;replace H:=Option.bind_eq_some_iff.mp H;obtain⟨⟨t808,t811,t812⟩,A30,H⟩:=H;try dsimp only at H
 have A3:=am_ A30;clear A30;obtain⟨ji4,hji4⟩: ∃j_:Int,(mn (t808.length:Int) 60)=j_:=⟨_,rfl⟩
 replace H:(if 0≤(ji4)then(if(ji4)≤(t808.length:Int)then(some (t808.take ((ji4):Int).toNat))else(none))else(none))=some r:=by first|(rw [hji4]at H;exact H)|(simp only [hji4]at H⊢;exact H)
 (try rw [hji4]at A2);(try rw [hji4]at A3);(try(have hji4h:ji4≤60:=by(rw [←hji4];unfold mn;(repeat' split)<;>omega)));(try(have hji4g:ji4≤64:=by omega));(try(have hji4l:0≤ji4:=by(rw [←hji4];unfold mn;(repeat' split)<;>omega)));(try(have hji4m:0≤ji4:=by omega));have hji4_:(if 60<(t808.length:Int)then 60 else(t808.length:Int))=ji4:=hji4;by_cases c5:0≤(ji4)
 ·rw [if_pos c5]at H;have c5b0:=eq_true c5;have c5b1:decide (0≤(ji4))=true:=decide_eq_true c5;clear c5;by_cases c6:(ji4)≤(t808.length:Int)
  ·rw [if_pos c6]at H;have c6b0:=eq_true c6;have c6b1:decide ((ji4)≤(t808.length:Int))=true:=decide_eq_true c6;clear c6;obtain⟨y813,hy813⟩: ∃y_:List (S44),y_=(t808.take ((ji4):Int).toNat):=⟨_,rfl⟩
   replace H:(some y813)=some r:=by first|(rw [hy813];with_reducible exact H)|(have H2_:=(Option.bind_some _ _).symm.trans H;rw [hy813];with_reducible exact H2_)|(have H2_:=(Option.bind_some _ _).symm.trans H;with_reducible exact H2_)|with_reducible exact H|(rw [hy813];exact H)|exact H
   have Ny813:=am_ hy813;clear hy813;obtain rfl:=Option.some.inj H;go_enter Try.func16,Try.ntmps16;go_wp2_with (first|((with_reducible refine gate_callee (f:=27) rfl ?_);refine goesL_ (some 5) rfl rfl Try.func27 (by kernel_rfl) rfl #[.slice A0 l0.length c0] rfl yk0_ ?_;(with_reducible refine(spec_l00Source.calls _ _ l0 t804 t805 t806 w _ ?side1 HR0.out HC0.out A2.out).mono ?_);(case side1=>exact ybl_);rintro e w7 ⟨g807,rfl,hi,hb,hb2⟩;refine⟨_,rfl,?_⟩;replace HB:=am_ (hb);have HI807:=am_ (hi);(try clear hb);(try clear hb2);(try clear hi))|((with_reducible refine gate_callee (f:=31) rfl ?_);refine goesL_ (some 6) rfl rfl Try.func31 (by kernel_rfl) rfl #[.pointer (some ⟨g807,0,none⟩)] rfl yk0_ ?_;(with_reducible refine(spec_l00Src_anyItems.calls k g807 t804 t805 t806 t808 t811 t812 w _ ?side1 ?side2 A3.out).mono ?_);(case side1=>exact(by repeat(first|(with_reducible first|exact HI807.out|apply IsS69.alloc|apply IsS69.drewN|apply IsS69.drew|apply IsS69.set_1|apply IsS69.set_2)|exact HI807.out)));(case side2=>exact(by repeat(first|(with_reducible first|exact HB.out|apply below_alloc|apply pw_below_drewN|apply below_drew1|refine below_set ?_ (IsS69.ge HI807.out))|exact HB.out)));rintro e w8 ⟨v809,rfl,ho0,hi,hb,hk⟩;refine⟨_,rfl,?_⟩;have HO810:=am_ (Kd.R_lower ho0 (below_size (by repeat(first|(with_reducible first|exact HB.out|apply below_alloc|apply pw_below_drewN|apply below_drew1|refine below_set ?_ (IsS69.ge HI807.out))|exact HB.out))));replace HB:=am_ (hb);replace HI807:=am_ (hi);(try clear hb);(try clear hk);(try clear hi);(try clear ho0);obtain⟨Ao9,co9,eo9⟩:=Kd.R_slice HO810.out;subst eo9;have q10:((ji4):Int)≤((t808.length:Int):Int):=of_decide_eq_true yqv0_;obtain⟨i010,hi010,_,hsz10,_⟩:=info_parts info44;have hcut10:=cut_to (P:=Try.prog) 27 44 .i64 Try.underlying27 hi010 Ao9 t808.length co9 (ji4) (of_decide_eq_true yqv0_) q10 (Kd.R_reads' HO810.out).2.1;have hr10:=Kd.R_take (m:=((ji4):Int).toNat) HO810.out (by omega);have hy10:y813.length=((ji4):Int).toNat:=(by rw [Ny813.out,List.length_take];omega);rw [←Ny813.out]at hr10;rw [←hy10]at hr10 hcut10;clear hy10 hi010 hsz10 HO810;have HO815:=am_ hr10;clear hr10;replace q10:=eq_true q10));go_ret;exact⟨_,by first|rfl|(simp [errW_none,errW_some]<;>rfl)|(simp only [←hji4];first|rfl|(simp [errW_none,errW_some]<;>rfl))|(simp [*,errW_none,errW_some]<;>rfl),by(with_reducible repeat(first|apply Kd.R_alloc|apply Kd.R_drewN|apply Kd.R_drew));exact HO815.out,by repeat(first|(with_reducible first|exact HB.out|apply below_alloc|apply pw_below_drewN|apply below_drew1|refine below_set ?_ (IsS69.ge HI807.out))|exact HB.out)⟩
  ·rw [if_neg c6]at H;exact absurd H (by simp)
 ·rw [if_neg c5]at H;exact absurd H (by simp)

/-! ### slices_Equal_Item: function 32 -/
def slices_Equal_Item.l0:Nat→List (S44)→List (S44)→Int→Int→Option (Bool)
 |0,_,_,_,_=>none
 |k+1,x0,x1,x12,x13=>if x13<x12 then(if 0≤x13 then(if x13<(x0.length:Int)then(if x13<(x1.length:Int)then(if(!(((rd_T44 x0 x13).f0)==((rd_T44 x1 x13).f0))||(!(((rd_T44 x0 x13).f1)==((rd_T44 x1 x13).f1))))=true then(some false)else(slices_Equal_Item.l0 k x0 x1 x12 (wrap64 (x13+1))))else(none))else(none))else(none))else(some true)
def slices_Equal_Item.f (k:Nat) (l0 l1:List (S44)):Option (Bool):=if(l0.length:Int)=(l1.length:Int)then(slices_Equal_Item.l0 k l0 l1 (l0.length:Int) 0)else(some false)
theorem slices_Equal_Item.mono_l: ∀k,(∀y0 y1 y2 y3,LeO (slices_Equal_Item.l0 k y0 y1 y2 y3) (slices_Equal_Item.l0 (k+1) y0 y1 y2 y3))
 |0=>fun _ _ _ _ r h=>by simp [slices_Equal_Item.l0]at h
 |k+1=>by
  have ih0:=slices_Equal_Item.mono_l k
  ·intro y0 y1 y2 y3;unfold slices_Equal_Item.l0;repeat' first
   |(with_reducible first|apply ih0|exact LeO.refl _|exact LeO.none _|refine LeO.ite ?_ ?_|refine LeO.bind ?_ (fun _=> ?_))
   |apply ih0|exact LeO.none _|refine LeO.ite ?_ ?_|refine LeO.bind ?_ (fun _=> ?_)
theorem slices_Equal_Item.mono: ∀a0 a1 k,LeO (slices_Equal_Item.f k a0 a1) (slices_Equal_Item.f (k+1) a0 a1):=by
 intro a0 a1 k;have ih0:=slices_Equal_Item.mono_l k;unfold slices_Equal_Item.f;repeat' first
 |(with_reducible first|apply ih0|exact LeO.refl _|exact LeO.none _|refine LeO.ite ?_ ?_|refine LeO.bind ?_ (fun _=> ?_))
 |apply ih0|exact LeO.none _|refine LeO.ite ?_ ?_|refine LeO.bind ?_ (fun _=> ?_)
theorem slices_Equal_Item.calls (k:Nat) A0 c0 l0 A1 c1 l1 (r:Bool) (w:World) (hr0:Kd.C k44 w A0 l0.length l0) (hc0:l0.length≤c0) (hr1:Kd.C k44 w A1 l1.length l1) (hc1:l1.length≤c1) (h:slices_Equal_Item.f k l0 l1=some r):
  Calls Try.prog 32 #[.slice A0 l0.length c0,.slice A1 l1.length c1] w fun e w'=>e= .returned (.bool r)∧Drawn0 w w':=by
 have hu44:=Try.underlying44;have HR0:=am_ hr0;have HC0:=am_ hc0;clear hr0 hc0;have HR1:=am_ hr1;have HC1:=am_ hc1;clear hr1 hc1;have H:=h;clear h;rw [slices_Equal_Item.f]at H;by_cases c3:(l0.length:Int)=(l1.length:Int)
 ·rw [if_pos c3]at H;have c3b0:((l0.length:Int)==(l1.length:Int))=true:=beq_iff_eq.mpr c3;have c3b1:((l0.length:Int) !=(l1.length:Int))=false:=bne_eq_false_iff_eq.mpr c3;have c3b2:(l0.length==l1.length)=true:=by first|simpa using c3|(simp at c3⊢;omega)
  clear c3;have H':=am_ H;clear H;go_enter Try.func32,Try.ntmps32;go_wp2;repeat(go_quiet (fail);try go_wp2)
  go_loopg [13] k (fun kq v13 w'=> ∃(x13_1:Int),v13= .int .i64 x13_1∧Aside0 (slices_Equal_Item.l0 kq l0 l1 (l0.length:Int) x13_1=some r)∧Aside0 (kq≤k)∧Drawn0 w w')
  case atStart=>exact⟨(0),(by first|rfl|(simp;done)|(simp [*];done)),H',⟨Nat.le_refl _⟩,by repeat(first|exact Drawn0.refl _|apply Drawn0.step)⟩
  case round=>
   clear H';try clear c1
   try clear p2
   try clear c3
   try clear c3b0
   try clear c3b1
   try clear c3b2
   obtain⟨x13_1,rfl,HA,HK1,⟨m1,rfl⟩⟩:=hrel;cases gk with
   |zero=>exact absurd HA.out (by simp [slices_Equal_Item.l0])
   |succ k1=>
    have H:=HA.out;clear HA;simp only [slices_Equal_Item.l0]at H;by_cases c4:x13_1<(l0.length:Int)
    ·rw [if_pos c4]at H;have c4b0:decide (x13_1<(l0.length:Int))=true:=decide_eq_true c4;clear c4;by_cases c5:0≤x13_1
     ·rw [if_pos c5]at H;have c5b0:decide (0≤x13_1)=true:=decide_eq_true c5;clear c5;by_cases c6:x13_1<(l0.length:Int)
      ·rw [if_pos c6]at H;have c6b0:decide (x13_1<(l0.length:Int))=true:=decide_eq_true c6;clear c6;by_cases c7:x13_1<(l1.length:Int)
       ·rw [if_pos c7]at H;have c7b0:decide (x13_1<(l1.length:Int))=true:=decide_eq_true c7;clear c7;by_cases c8:(!(((rd_T44 l0 x13_1).f0)==((rd_T44 l1 x13_1).f0))||(!(((rd_T44 l0 x13_1).f1)==((rd_T44 l1 x13_1).f1))))=true
        ·rw [if_pos c8]at H;have c8b0:(!(((rd_T44 l0 x13_1).f0)==((rd_T44 l1 x13_1).f0))||(!(((rd_T44 l0 x13_1).f1)==((rd_T44 l1 x13_1).f1))))=true:=c8;clear c8;obtain rfl:=Option.some.inj H;have p816:0≤(x13_1:Int):=of_decide_eq_true yqv0_;have q816:x13_1<(l0.length:Int):=of_decide_eq_true yqv0_;obtain⟨ad816,e816,hx816_0,hx816_1⟩:=at_T44 HR0.out x13_1 p816 q816;cases e816;replace p816:=eq_true p816;replace q816:=eq_true q816;have p817:0≤(x13_1:Int):=of_decide_eq_true yqv0_;have q817:x13_1<(l1.length:Int):=of_decide_eq_true yqv0_;obtain⟨ad817,e817,hx817_0,hx817_1⟩:=at_T44 HR1.out x13_1 p817 q817;cases e817;replace p817:=eq_true p817;replace q817:=eq_true q817;go_wp2;repeat(go_quiet (fail);try go_wp2)
         go_ret
         exact⟨by first|rfl|(simp;done)|(simp [*];done),by repeat(first|exact Drawn0.refl _|apply Drawn0.step)⟩
        ·rw [if_neg c8]at H;have c8b0:(!(((rd_T44 l0 x13_1).f0)==((rd_T44 l1 x13_1).f0))||(!(((rd_T44 l0 x13_1).f1)==((rd_T44 l1 x13_1).f1))))=false:=by simpa using c8
         clear c8;have H':=am_ H;clear H;have p816:0≤(x13_1:Int):=of_decide_eq_true yqv0_;have q816:x13_1<(l0.length:Int):=of_decide_eq_true yqv0_;obtain⟨ad816,e816,hx816_0,hx816_1⟩:=at_T44 HR0.out x13_1 p816 q816;cases e816;replace p816:=eq_true p816;replace q816:=eq_true q816;have p817:0≤(x13_1:Int):=of_decide_eq_true yqv0_;have q817:x13_1<(l1.length:Int):=of_decide_eq_true yqv0_;obtain⟨ad817,e817,hx817_0,hx817_1⟩:=at_T44 HR1.out x13_1 p817 q817;cases e817;replace p817:=eq_true p817;replace q817:=eq_true q817;go_wp2;repeat(go_quiet (fail);try go_wp2)
         go_roundg k1
         case measure=>have:=HK1.out;omega
         case rel=>exact⟨(wrap64 (x13_1+1)),(by first|rfl|(simp;done)|(simp [*];done)),H',⟨by have:=HK1.out;omega⟩,by repeat(first|exact Drawn0.refl _|apply Drawn0.step)⟩
       ·rw [if_neg c7]at H;exact absurd H (by simp)
      ·rw [if_neg c6]at H;exact absurd H (by simp)
     ·rw [if_neg c5]at H;exact absurd H (by simp)
    ·rw [if_neg c4]at H;have c4b0:decide (x13_1<(l0.length:Int))=false:=decide_eq_false c4;clear c4;obtain rfl:=Option.some.inj H;go_wp2;repeat(go_quiet (fail);try go_wp2)
     go_ret
     exact⟨by first|rfl|(simp;done)|(simp [*];done),by repeat(first|exact Drawn0.refl _|apply Drawn0.step)⟩
 ·rw [if_neg c3]at H;have c3b0:((l0.length:Int)==(l1.length:Int))=false:=beq_eq_false_iff_ne.mpr c3;have c3b1:((l0.length:Int) !=(l1.length:Int))=true:=bne_iff_ne.mpr c3;have c3b2:(l0.length==l1.length)=false:=by first|simpa using c3|(simp at c3⊢;omega)
  obtain rfl:=Option.some.inj H;go_enter Try.func32,Try.ntmps32;go_wp2;repeat(go_quiet (fail);try go_wp2)
  go_ret
  exact⟨by first|rfl|(simp;done)|(simp [*];done),by repeat(first|exact Drawn0.refl _|apply Drawn0.step)⟩

/-! ### impl_SameTree: function 17 -/
def impl_SameTree.f (k:Nat) (l0 l1:List (S53)):Option (Bool):=(impl_ItemsOf.f k l0).bind fun bt818=>((impl_ItemsOf.f k l1).bind fun bt822=>(if bt818.2=0 then(if bt822.2=0 then((slices_Equal_Item.f k bt818.1 bt822.1).bind fun t826=>(some t826))else(some false))else(some false)))
theorem impl_SameTree.mono: ∀a0 a1 k,LeO (impl_SameTree.f k a0 a1) (impl_SameTree.f (k+1) a0 a1):=by
 intro a0 a1 k;unfold impl_SameTree.f;repeat' first
 |(with_reducible first|apply impl_ItemsOf.mono|apply slices_Equal_Item.mono|exact LeO.refl _|exact LeO.none _|refine LeO.ite ?_ ?_|refine LeO.bind ?_ (fun _=> ?_))
 |apply impl_ItemsOf.mono|apply slices_Equal_Item.mono|exact LeO.none _|refine LeO.ite ?_ ?_|refine LeO.bind ?_ (fun _=> ?_)
theorem impl_SameTree.calls (k:Nat) A0 c0 l0 A1 c1 l1 (r:Bool) (w:World) (hr0:Kd.C k53 w A0 l0.length l0) (hc0:l0.length≤c0) (hr1:Kd.C k53 w A1 l1.length l1) (hc1:l1.length≤c1) (h:impl_SameTree.f k l0 l1=some r):
  Calls Try.prog 17 #[.slice A0 l0.length c0,.slice A1 l1.length c1] w fun e w'=>e= .returned (.bool r)∧Below w.heap.size w w':=by
 have HR0:=am_ hr0;have HC0:=am_ hc0;clear hr0 hc0;have HR1:=am_ hr1;have HC1:=am_ hc1;clear hr1 hc1;have HB:=am_ (Below.refl w.heap.size w);have H:=h;clear h;rw [impl_SameTree.f]at H;replace H:=Option.bind_eq_some_iff.mp H;obtain⟨⟨t818,t821⟩,A30,H⟩:=H;try dsimp only at H
 have A3:=am_ A30;clear A30;replace H:=Option.bind_eq_some_iff.mp H;obtain⟨⟨t822,t825⟩,A40,H⟩:=H;try dsimp only at H
 have A4:=am_ A40;clear A40;by_cases c5:t821=0
 ·rw [if_pos c5]at H;have c5b0:(t821==0)=true:=beq_iff_eq.mpr c5;have c5b1:(t821 !=0)=false:=bne_eq_false_iff_eq.mpr c5;clear c5;by_cases c6:t825=0
  ·rw [if_pos c6]at H;have c6b0:(t825==0)=true:=beq_iff_eq.mpr c6;have c6b1:(t825 !=0)=false:=bne_eq_false_iff_eq.mpr c6;clear c6;replace H:=Option.bind_eq_some_iff.mp H;obtain⟨t826,A70,H⟩:=H;replace H:(some t826)=some r:=H;have A7:=am_ A70;clear A70;obtain rfl:=Option.some.inj H;go_enter Try.func17,Try.ntmps17;go_wp2_with (first|((with_reducible refine gate_callee (f:=15) rfl ?_);refine goesL_ (some 11) rfl rfl Try.func15 (by kernel_rfl) rfl #[.slice A0 l0.length c0] rfl yk0_ ?_;(with_reducible refine(impl_ItemsOf.calls k (fun k_=>k_<w.heap.size) _ _ l0 t818 t821 _ ?side1 A3.out).mono ?_);(case side1=>exact Kd.V_mk HC0.out (Kd.F_below (Kd.C_F k53_heap HR0.out) ybl_));rintro e w8 ⟨v819,rfl,ho0,hb⟩;refine⟨_,rfl,?_⟩;have HO820:=am_ (Kd.R_lower (Kd.R_mono (ok':=fun k_=>True) ho0 (fun _ hk_=>trivial)) (below_size ybl_));replace HB:=yst_ hb;(try clear hb);(try clear ho0))|((with_reducible refine gate_callee (f:=15) rfl ?_);refine goesL_ (some 16) rfl rfl Try.func15 (by kernel_rfl) rfl #[.slice A1 l1.length c1] rfl yk0_ ?_;(with_reducible refine(impl_ItemsOf.calls k (fun k_=>k_<w.heap.size) _ _ l1 t822 t825 _ ?side1 A4.out).mono ?_);(case side1=>exact Kd.V_mk HC1.out (Kd.F_below (Kd.C_F k53_heap HR1.out) ybl_));rintro e w9 ⟨v823,rfl,ho0,hb⟩;refine⟨_,rfl,?_⟩;have HO824:=am_ (Kd.R_lower (Kd.R_new' (Kd.R_mono (ok':=fun k_=>True) ho0 (fun _ hk_=>trivial)) (Kd.R_lt (yru_ HO820))) (below_size ybl_));replace HO820:=am_ (Kd.R_elder' (yru_ HO820) (Kd.R_base ho0) hb);replace HB:=yst_ hb;(try clear hb);(try clear ho0);obtain⟨Ao10,co10,eo10⟩:=Kd.R_slice HO820.out;subst eo10;obtain⟨Ao11,co11,eo11⟩:=Kd.R_slice HO824.out;subst eo11)|(go_at_call 32;(with_reducible refine(slices_Equal_Item.calls k _ _ t818 _ _ t822 t826 _ ?side1 (Kd.R_reads' HO820.out).2.1 ?side3 (Kd.R_reads' HO824.out).2.1 A7.out).mono ?_);(case side1=>repeat(first|exact(Kd.R_reads' HO820.out).2.2|(with_reducible refine Kd.C_alloc ?_ _)|(with_reducible refine Kd.C_drewN ?_ _)|(with_reducible refine Kd.C_drew ?_)));(case side3=>repeat(first|exact(Kd.R_reads' HO824.out).2.2|(with_reducible refine Kd.C_alloc ?_ _)|(with_reducible refine Kd.C_drewN ?_ _)|(with_reducible refine Kd.C_drew ?_)));rintro e w' ⟨rfl,⟨nd,rfl⟩⟩));go_ret;exact⟨yk1_,ybl_⟩
  ·rw [if_neg c6]at H;have c6b0:(t825==0)=false:=beq_eq_false_iff_ne.mpr c6;have c6b1:(t825 !=0)=true:=bne_iff_ne.mpr c6;obtain rfl:=Option.some.inj H;go_enter Try.func17,Try.ntmps17;go_wp2_with (first|((with_reducible refine gate_callee (f:=15) rfl ?_);refine goesL_ (some 11) rfl rfl Try.func15 (by kernel_rfl) rfl #[.slice A0 l0.length c0] rfl yk0_ ?_;(with_reducible refine(impl_ItemsOf.calls k (fun k_=>k_<w.heap.size) _ _ l0 t818 t821 _ ?side1 A3.out).mono ?_);(case side1=>exact Kd.V_mk HC0.out (Kd.F_below (Kd.C_F k53_heap HR0.out) ybl_));rintro e w12 ⟨v819,rfl,ho0,hb⟩;refine⟨_,rfl,?_⟩;have HO820:=am_ (Kd.R_lower (Kd.R_mono (ok':=fun k_=>True) ho0 (fun _ hk_=>trivial)) (below_size ybl_));replace HB:=yst_ hb;(try clear hb);(try clear ho0);clear HO820)|((with_reducible refine gate_callee (f:=15) rfl ?_);refine goesL_ (some 16) rfl rfl Try.func15 (by kernel_rfl) rfl #[.slice A1 l1.length c1] rfl yk0_ ?_;(with_reducible refine(impl_ItemsOf.calls k (fun k_=>k_<w.heap.size) _ _ l1 t822 t825 _ ?side1 A4.out).mono ?_);(case side1=>exact Kd.V_mk HC1.out (Kd.F_below (Kd.C_F k53_heap HR1.out) ybl_));rintro e w13 ⟨v823,rfl,ho0,hb⟩;refine⟨_,rfl,?_⟩;have HO824:=am_ (Kd.R_lower (Kd.R_mono (ok':=fun k_=>True) ho0 (fun _ hk_=>trivial)) (below_size ybl_));replace HB:=yst_ hb;(try clear hb);(try clear ho0)));go_ret;exact⟨yk1_,ybl_⟩
 ·rw [if_neg c5]at H;have c5b0:(t821==0)=false:=beq_eq_false_iff_ne.mpr c5;have c5b1:(t821 !=0)=true:=bne_iff_ne.mpr c5;obtain rfl:=Option.some.inj H;go_enter Try.func17,Try.ntmps17;go_wp2_with (first|((with_reducible refine gate_callee (f:=15) rfl ?_);refine goesL_ (some 11) rfl rfl Try.func15 (by kernel_rfl) rfl #[.slice A0 l0.length c0] rfl yk0_ ?_;(with_reducible refine(impl_ItemsOf.calls k (fun k_=>k_<w.heap.size) _ _ l0 t818 t821 _ ?side1 A3.out).mono ?_);(case side1=>exact Kd.V_mk HC0.out (Kd.F_below (Kd.C_F k53_heap HR0.out) ybl_));rintro e w14 ⟨v819,rfl,ho0,hb⟩;refine⟨_,rfl,?_⟩;have HO820:=am_ (Kd.R_lower (Kd.R_mono (ok':=fun k_=>True) ho0 (fun _ hk_=>trivial)) (below_size ybl_));replace HB:=yst_ hb;(try clear hb);(try clear ho0);clear HO820)|((with_reducible refine gate_callee (f:=15) rfl ?_);refine goesL_ (some 16) rfl rfl Try.func15 (by kernel_rfl) rfl #[.slice A1 l1.length c1] rfl yk0_ ?_;(with_reducible refine(impl_ItemsOf.calls k (fun k_=>k_<w.heap.size) _ _ l1 t822 t825 _ ?side1 A4.out).mono ?_);(case side1=>exact Kd.V_mk HC1.out (Kd.F_below (Kd.C_F k53_heap HR1.out) ybl_));rintro e w15 ⟨v823,rfl,ho0,hb⟩;refine⟨_,rfl,?_⟩;have HO824:=am_ (Kd.R_lower (Kd.R_mono (ok':=fun k_=>True) ho0 (fun _ hk_=>trivial)) (below_size ybl_));replace HB:=yst_ hb;(try clear hb);(try clear ho0)));go_ret;exact⟨yk1_,ybl_⟩

/-! ### laws_sameItems: function 18 -/
def laws_sameItems.l0:Nat→List (S44)→List (S44)→Int→Option (Bool)
 |0,_,_,_=>none
 |k+1,x0,x1,x5=>if x5<(x0.length:Int)then(if 0≤x5 then(if x5<(x1.length:Int)then(if(!(((rd_T44 x0 x5).f0)==((rd_T44 x1 x5).f0))||(!(((rd_T44 x0 x5).f1)==((rd_T44 x1 x5).f1))))=true then(some false)else(laws_sameItems.l0 k x0 x1 (wrap64 (x5+1))))else(none))else(none))else(some true)
def laws_sameItems.f (k:Nat) (l0 l1:List (S44)):Option (Bool):=if(l0.length:Int)=(l1.length:Int)then(laws_sameItems.l0 k l0 l1 0)else(some false)
theorem laws_sameItems.mono_l: ∀k,(∀y0 y1 y2,LeO (laws_sameItems.l0 k y0 y1 y2) (laws_sameItems.l0 (k+1) y0 y1 y2))
 |0=>fun _ _ _ r h=>by simp [laws_sameItems.l0]at h
 |k+1=>by
  have ih0:=laws_sameItems.mono_l k
  ·intro y0 y1 y2;unfold laws_sameItems.l0;repeat' first
   |(with_reducible first|apply ih0|exact LeO.refl _|exact LeO.none _|refine LeO.ite ?_ ?_|refine LeO.bind ?_ (fun _=> ?_))
   |apply ih0|exact LeO.none _|refine LeO.ite ?_ ?_|refine LeO.bind ?_ (fun _=> ?_)
theorem laws_sameItems.mono: ∀a0 a1 k,LeO (laws_sameItems.f k a0 a1) (laws_sameItems.f (k+1) a0 a1):=by
 intro a0 a1 k;have ih0:=laws_sameItems.mono_l k;unfold laws_sameItems.f;repeat' first
 |(with_reducible first|apply ih0|exact LeO.refl _|exact LeO.none _|refine LeO.ite ?_ ?_|refine LeO.bind ?_ (fun _=> ?_))
 |apply ih0|exact LeO.none _|refine LeO.ite ?_ ?_|refine LeO.bind ?_ (fun _=> ?_)
theorem laws_sameItems.calls (k:Nat) A0 c0 l0 A1 c1 l1 (r:Bool) (w:World) (hr0:Kd.C k44 w A0 l0.length l0) (hc0:l0.length≤c0) (hr1:Kd.C k44 w A1 l1.length l1) (hc1:l1.length≤c1) (h:laws_sameItems.f k l0 l1=some r):
  Calls Try.prog 18 #[.slice A0 l0.length c0,.slice A1 l1.length c1] w fun e w'=>e= .returned (.bool r)∧Drawn0 w w':=by
 have hu44:=Try.underlying44;have HR0:=am_ hr0;have HC0:=am_ hc0;clear hr0 hc0;have HR1:=am_ hr1;have HC1:=am_ hc1;clear hr1 hc1;have H:=h;clear h;rw [laws_sameItems.f]at H;by_cases c3:(l0.length:Int)=(l1.length:Int)
 ·rw [if_pos c3]at H;have c3b0:((l0.length:Int)==(l1.length:Int))=true:=beq_iff_eq.mpr c3;have c3b1:((l0.length:Int) !=(l1.length:Int))=false:=bne_eq_false_iff_eq.mpr c3;have c3b2:(l0.length==l1.length)=true:=by first|simpa using c3|(simp at c3⊢;omega)
  clear c3;have H':=am_ H;clear H;go_enter Try.func18,Try.ntmps18;go_wp2;repeat(go_quiet (fail);try go_wp2)
  go_loopg [5] k (fun kq v5 w'=> ∃(x5_1:Int),v5= .int .i64 x5_1∧Aside0 (laws_sameItems.l0 kq l0 l1 x5_1=some r)∧Aside0 (kq≤k)∧Drawn0 w w')
  case atStart=>exact⟨(0),(by first|rfl|(simp;done)|(simp [*];done)),H',⟨Nat.le_refl _⟩,by repeat(first|exact Drawn0.refl _|apply Drawn0.step)⟩
  case round=>
   clear H';try clear c1
   try clear p2
   try clear c3
   try clear c3b0
   try clear c3b1
   try clear c3b2
   obtain⟨x5_1,rfl,HA,HK1,⟨m1,rfl⟩⟩:=hrel;cases gk with
   |zero=>exact absurd HA.out (by simp [laws_sameItems.l0])
   |succ k1=>
    have H:=HA.out;clear HA;simp only [laws_sameItems.l0]at H;by_cases c4:x5_1<(l0.length:Int)
    ·rw [if_pos c4]at H;have c4b0:decide (x5_1<(l0.length:Int))=true:=decide_eq_true c4;clear c4;by_cases c5:0≤x5_1
     ·rw [if_pos c5]at H;have c5b0:decide (0≤x5_1)=true:=decide_eq_true c5;clear c5;by_cases c6:x5_1<(l1.length:Int)
      ·rw [if_pos c6]at H;have c6b0:decide (x5_1<(l1.length:Int))=true:=decide_eq_true c6;clear c6;by_cases c7:(!(((rd_T44 l0 x5_1).f0)==((rd_T44 l1 x5_1).f0))||(!(((rd_T44 l0 x5_1).f1)==((rd_T44 l1 x5_1).f1))))=true
       ·rw [if_pos c7]at H;have c7b0:(!(((rd_T44 l0 x5_1).f0)==((rd_T44 l1 x5_1).f0))||(!(((rd_T44 l0 x5_1).f1)==((rd_T44 l1 x5_1).f1))))=true:=c7;clear c7;obtain rfl:=Option.some.inj H;have p827:0≤(x5_1:Int):=of_decide_eq_true yqv0_;have q827:x5_1<(l0.length:Int):=of_decide_eq_true yqv0_;obtain⟨ad827,e827,hx827_0,hx827_1⟩:=at_T44 HR0.out x5_1 p827 q827;cases e827;replace p827:=eq_true p827;replace q827:=eq_true q827;have p828:0≤(x5_1:Int):=of_decide_eq_true yqv0_;have q828:x5_1<(l1.length:Int):=of_decide_eq_true yqv0_;obtain⟨ad828,e828,hx828_0,hx828_1⟩:=at_T44 HR1.out x5_1 p828 q828;cases e828;replace p828:=eq_true p828;replace q828:=eq_true q828;go_wp2;repeat(go_quiet (fail);try go_wp2)
        go_ret
        exact⟨by first|rfl|(simp;done)|(simp [*];done),by repeat(first|exact Drawn0.refl _|apply Drawn0.step)⟩
       ·rw [if_neg c7]at H;have c7b0:(!(((rd_T44 l0 x5_1).f0)==((rd_T44 l1 x5_1).f0))||(!(((rd_T44 l0 x5_1).f1)==((rd_T44 l1 x5_1).f1))))=false:=by simpa using c7
        clear c7;have H':=am_ H;clear H;have p827:0≤(x5_1:Int):=of_decide_eq_true yqv0_;have q827:x5_1<(l0.length:Int):=of_decide_eq_true yqv0_;obtain⟨ad827,e827,hx827_0,hx827_1⟩:=at_T44 HR0.out x5_1 p827 q827;cases e827;replace p827:=eq_true p827;replace q827:=eq_true q827;have p828:0≤(x5_1:Int):=of_decide_eq_true yqv0_;have q828:x5_1<(l1.length:Int):=of_decide_eq_true yqv0_;obtain⟨ad828,e828,hx828_0,hx828_1⟩:=at_T44 HR1.out x5_1 p828 q828;cases e828;replace p828:=eq_true p828;replace q828:=eq_true q828;go_wp2;repeat(go_quiet (fail);try go_wp2)
        go_roundg k1
        case measure=>have:=HK1.out;omega
        case rel=>exact⟨(wrap64 (x5_1+1)),(by first|rfl|(simp;done)|(simp [*];done)),H',⟨by have:=HK1.out;omega⟩,by repeat(first|exact Drawn0.refl _|apply Drawn0.step)⟩
      ·rw [if_neg c6]at H;exact absurd H (by simp)
     ·rw [if_neg c5]at H;exact absurd H (by simp)
    ·rw [if_neg c4]at H;have c4b0:decide (x5_1<(l0.length:Int))=false:=decide_eq_false c4;clear c4;obtain rfl:=Option.some.inj H;go_wp2;repeat(go_quiet (fail);try go_wp2)
     go_ret
     exact⟨by first|rfl|(simp;done)|(simp [*];done),by repeat(first|exact Drawn0.refl _|apply Drawn0.step)⟩
 ·rw [if_neg c3]at H;have c3b0:((l0.length:Int)==(l1.length:Int))=false:=beq_eq_false_iff_ne.mpr c3;have c3b1:((l0.length:Int) !=(l1.length:Int))=true:=bne_iff_ne.mpr c3;have c3b2:(l0.length==l1.length)=false:=by first|simpa using c3|(simp at c3⊢;omega)
  obtain rfl:=Option.some.inj H;go_enter Try.func18,Try.ntmps18;go_wp2;repeat(go_quiet (fail);try go_wp2)
  go_ret
  exact⟨by first|rfl|(simp;done)|(simp [*];done),by repeat(first|exact Drawn0.refl _|apply Drawn0.step)⟩

/-! ### laws_FnTreeItems: function 4 -/
def laws_FnTreeItems.f (k:Nat) (l0 l1:List Int):Option (Bool):=if(l0.length:Int)>1048576 then(some true)else(if(l1.length:Int)>1048576 then(some true)else((spec_ItemsDrawn.f k l0).bind fun t829=>((impl_TreeOf.f k t829).bind fun bt832=>((spec_TreeOf.f k t829).bind fun bt836=>((impl_ItemsOf.f k bt832.1).bind fun bt840=>((spec_DoubtItems.f k l1).bind fun t844=>((impl_TreeOf.f k t844).bind fun bt847=>((spec_DoubtItems.f k l1).bind fun t851=>((spec_TreeOf.f k t851).bind fun bt854=>(if bt832.2=0 then((impl_SameTree.f k bt832.1 bt836.1).bind fun t858=>(if t858=true then(if bt840.2=0 then((laws_sameItems.f k bt840.1 t829).bind fun t859=>(if t859=true then(some (bt847.2==bt854.2))else(some false)))else(some false))else(some false)))else(some false)))))))))))
theorem laws_FnTreeItems.mono: ∀a0 a1 k,LeO (laws_FnTreeItems.f k a0 a1) (laws_FnTreeItems.f (k+1) a0 a1):=by
 intro a0 a1 k;unfold laws_FnTreeItems.f;repeat' first
 |(with_reducible first|apply impl_ItemsOf.mono|apply impl_SameTree.mono|apply impl_TreeOf.mono|apply laws_sameItems.mono|apply spec_DoubtItems.mono|apply spec_ItemsDrawn.mono|apply spec_TreeOf.mono|exact LeO.refl _|exact LeO.none _|refine LeO.ite ?_ ?_|refine LeO.bind ?_ (fun _=> ?_))
 |apply impl_ItemsOf.mono|apply impl_SameTree.mono|apply impl_TreeOf.mono|apply laws_sameItems.mono|apply spec_DoubtItems.mono|apply spec_ItemsDrawn.mono|apply spec_TreeOf.mono|exact LeO.none _|refine LeO.ite ?_ ?_|refine LeO.bind ?_ (fun _=> ?_)
theorem laws_FnTreeItems.calls (k:Nat) A0 c0 l0 A1 c1 l1 (w:World) (hr0:Kd.C (Kd.int .u8) w A0 l0.length l0) (hc0:l0.length≤c0) (hr1:Kd.C (Kd.int .u8) w A1 l1.length l1) (hc1:l1.length≤c1) (h:laws_FnTreeItems.f k l0 l1=some true):
  Calls Try.prog 4 #[.slice A0 l0.length c0,.slice A1 l1.length c1] w fun e w'=>e= .returned (.bool true)∧Below w.heap.size w w':=by
 have HR0:=am_ hr0;have HC0:=am_ hc0;clear hr0 hc0;have HR1:=am_ hr1;have HC1:=am_ hc1;clear hr1 hc1;have HB:=am_ (Below.refl w.heap.size w);have H:=h;clear h;rw [laws_FnTreeItems.f]at H;by_cases c3:(l0.length:Int)>1048576
 ·rw [if_pos c3]at H;have c3b0:decide (1048576<(l0.length:Int))=true:=decide_eq_true c3;have c3b1:decide (1048576<l0.length)=true:=decide_eq_true (by omega);clear c3;clear H;go_enter Try.func4,Try.ntmps4;go_wp2;all_goals go_ret
  exact⟨yk1_,ybl_⟩;all_goals (exfalso;simp only [beq_iff_eq,decide_eq_decide,decide_eq_true_eq,decide_eq_false_iff_not]at*;omega)
 ·rw [if_neg c3]at H;have c3b0:decide (1048576<(l0.length:Int))=false:=decide_eq_false c3;have c3b1:decide (1048576<l0.length)=false:=decide_eq_false (by omega);clear c3;by_cases c4:(l1.length:Int)>1048576
  ·rw [if_pos c4]at H;have c4b0:decide (1048576<(l1.length:Int))=true:=decide_eq_true c4;have c4b1:decide (1048576<l1.length)=true:=decide_eq_true (by omega);clear c4;clear H;go_enter Try.func4,Try.ntmps4;go_wp2;all_goals go_ret
   exact⟨yk1_,ybl_⟩;all_goals (exfalso;simp only [beq_iff_eq,decide_eq_decide,decide_eq_true_eq,decide_eq_false_iff_not]at*;omega)
  ·rw [if_neg c4]at H;have c4b0:decide (1048576<(l1.length:Int))=false:=decide_eq_false c4;have c4b1:decide (1048576<l1.length)=false:=decide_eq_false (by omega);clear c4;replace H:=Option.bind_eq_some_iff.mp H;obtain⟨t829,A50,H⟩:=H;try dsimp only at H
   have A5:=am_ A50;clear A50;replace H:=Option.bind_eq_some_iff.mp H;obtain⟨⟨t832,t833⟩,A60,H⟩:=H;try dsimp only at H
   have A6:=am_ A60;clear A60;replace H:=Option.bind_eq_some_iff.mp H;obtain⟨⟨t836,t837⟩,A70,H⟩:=H;try dsimp only at H
   have A7:=am_ A70;clear A70;replace H:=Option.bind_eq_some_iff.mp H;obtain⟨⟨t840,t843⟩,A80,H⟩:=H;try dsimp only at H
   have A8:=am_ A80;clear A80;replace H:=Option.bind_eq_some_iff.mp H;obtain⟨t844,A90,H⟩:=H;try dsimp only at H
   have A9:=am_ A90;clear A90;replace H:=Option.bind_eq_some_iff.mp H;obtain⟨⟨t847,t848⟩,A100,H⟩:=H;try dsimp only at H
   have A10:=am_ A100;clear A100;replace H:=Option.bind_eq_some_iff.mp H;obtain⟨t851,A110,H⟩:=H;try dsimp only at H
   have A11:=am_ A110;clear A110;replace H:=Option.bind_eq_some_iff.mp H;obtain⟨⟨t854,t855⟩,A120,H⟩:=H;try dsimp only at H
   have A12:=am_ A120;clear A120;by_cases c13:t833=0
   ·rw [if_pos c13]at H;have c13b0:(t833==0)=true:=beq_iff_eq.mpr c13;have c13b1:(t833 !=0)=false:=bne_eq_false_iff_eq.mpr c13;clear c13;replace H:=Option.bind_eq_some_iff.mp H;obtain⟨t858,A140,H⟩:=H;try dsimp only at H
    have A14:=am_ A140;clear A140;by_cases c15:t858=true
    ·subst c15;rw [if_pos rfl]at H;by_cases c16:t843=0
     ·rw [if_pos c16]at H;have c16b0:(t843==0)=true:=beq_iff_eq.mpr c16;have c16b1:(t843 !=0)=false:=bne_eq_false_iff_eq.mpr c16;clear c16;replace H:=Option.bind_eq_some_iff.mp H;obtain⟨t859,A170,H⟩:=H;try dsimp only at H
      have A17:=am_ A170;clear A170;by_cases c18:t859=true
      ·subst c18;rw [if_pos rfl]at H;have Hr_:=Option.some.inj H;go_enter Try.func4,Try.ntmps4;go_wp2_with (first|((with_reducible refine gate_callee (f:=14) rfl ?_);refine goesL_ (some 25) rfl rfl Try.func14 (by kernel_rfl) rfl #[.slice A0 l0.length c0] rfl yk0_ ?_;(with_reducible refine(spec_ItemsDrawn.calls k _ _ l0 t829 _ ?side1 HC0.out A5.out).mono ?_);(case side1=>repeat(first|exact HR0.out|(with_reducible refine Kd.C_alloc ?_ _)|(with_reducible refine Kd.C_drewN ?_ _)|(with_reducible refine Kd.C_drew ?_)));rintro e w19 ⟨v830,rfl,ho0,hb⟩;refine⟨_,rfl,?_⟩;have HO831:=am_ (Kd.R_lower ho0 (below_size ybl_));replace HB:=yst_ hb;(try clear hb);(try clear ho0);obtain⟨Ao20,co20,eo20⟩:=Kd.R_slice HO831.out;subst eo20)|((with_reducible refine gate_callee (f:=8) rfl ?_);refine goesL_ (some 28) rfl rfl Try.func8 (by kernel_rfl) rfl #[.slice Ao20 t829.length co20] rfl yk0_ ?_;(with_reducible refine(impl_TreeOf.calls k _ _ t829 t832 t833 _ ?side1 (Kd.R_reads' HO831.out).2.1 A6.out).mono ?_);(case side1=>repeat(first|exact(Kd.R_reads' HO831.out).2.2|(with_reducible refine Kd.C_alloc ?_ _)|(with_reducible refine Kd.C_drewN ?_ _)|(with_reducible refine Kd.C_drew ?_)));rintro e w21 ⟨v834,rfl,ho0,hb⟩;refine⟨_,rfl,?_⟩;replace HO831:=am_ (Kd.R_below (yru_ HO831) hb);have HO835:=am_ (Kd.R_lower ho0 (below_size ybl_));replace HB:=yst_ hb;(try clear hb);(try clear ho0))|((with_reducible refine gate_callee (f:=6) rfl ?_);refine goesL_ (some 33) rfl rfl Try.func6 (by kernel_rfl) rfl #[.slice Ao20 t829.length co20] rfl yk0_ ?_;(with_reducible refine(spec_TreeOf.calls k _ _ t829 t836 t837 _ ?side1 (Kd.R_reads' HO831.out).2.1 A7.out).mono ?_);(case side1=>repeat(first|exact(Kd.R_reads' HO831.out).2.2|(with_reducible refine Kd.C_alloc ?_ _)|(with_reducible refine Kd.C_drewN ?_ _)|(with_reducible refine Kd.C_drew ?_)));rintro e w22 ⟨v838,rfl,ho0,hb⟩;refine⟨_,rfl,?_⟩;replace HO831:=am_ (Kd.R_below (yru_ HO831) hb);have HO839:=am_ (Kd.R_lower (Kd.R_new' ho0 (Kd.R_lt (yru_ HO835))) (below_size ybl_));replace HO835:=am_ (Kd.R_elder' (yru_ HO835) (Kd.R_base ho0) hb);replace HB:=yst_ hb;(try clear hb);(try clear ho0);obtain⟨Ao23,co23,eo23⟩:=Kd.R_slice HO835.out;subst eo23)|((with_reducible refine gate_callee (f:=15) rfl ?_);refine goesL_ (some 38) rfl rfl Try.func15 (by kernel_rfl) rfl #[.slice Ao23 t832.length co23] rfl yk0_ ?_;(with_reducible refine(impl_ItemsOf.calls k (fun k_=>((True∧some k_≠(v838:Value).ownBlock)∧some k_≠(.slice Ao20 t829.length co20:Value).ownBlock)) _ _ t832 t840 t843 _ ?side1 A8.out).mono ?_);(case side1=>exact Kd.R_V (Kd.R_apart' (HO835.out) (Kd.R_typed HO831.out) (by decide)));rintro e w24 ⟨v841,rfl,ho0,hb⟩;refine⟨_,rfl,?_⟩;replace HO835:=am_ (Kd.R_below (yru_ HO835) hb);replace HO839:=am_ (Kd.R_below (yru_ HO839) hb);have HO842:=am_ (Kd.R_lower (Kd.R_new' (Kd.R_mono (ok':=fun k_=>True) ho0 (fun _ hk_=>trivial)) (Kd.R_lt (yru_ HO831))) (below_size ybl_));replace HO831:=am_ (Kd.R_elder' (yru_ HO831) (Kd.R_base ho0) hb);replace HB:=yst_ hb;(try clear hb);(try clear ho0))|((with_reducible refine gate_callee (f:=16) rfl ?_);refine goesL_ (some 43) rfl rfl Try.func16 (by kernel_rfl) rfl #[.slice A1 l1.length c1] rfl yk0_ ?_;(with_reducible refine(spec_DoubtItems.calls k _ _ l1 t844 _ ?side1 HC1.out A9.out).mono ?_);(case side1=>exact ycb_ HR1 HB);rintro e w25 ⟨v845,rfl,ho0,hb⟩;refine⟨_,rfl,?_⟩;replace HO835:=am_ (Kd.R_below (yru_ HO835) hb);replace HO839:=am_ (Kd.R_below (yru_ HO839) hb);have HO846:=am_ (Kd.R_lower (Kd.R_new' (Kd.R_new' ho0 (Kd.R_lt (yru_ HO831))) (Kd.R_lt (yru_ HO842))) (below_size ybl_));replace HO831:=am_ (Kd.R_elder' (yru_ HO831) (Kd.R_base ho0) hb);replace HO842:=am_ (Kd.R_elder' (yru_ HO842) (Kd.R_base ho0) hb);replace HB:=yst_ hb;(try clear hb);(try clear ho0);obtain⟨Ao26,co26,eo26⟩:=Kd.R_slice HO846.out;subst eo26)|((with_reducible refine gate_callee (f:=8) rfl ?_);refine goesL_ (some 44) rfl rfl Try.func8 (by kernel_rfl) rfl #[.slice Ao26 t844.length co26] rfl yk0_ ?_;(with_reducible refine(impl_TreeOf.calls k _ _ t844 t847 t848 _ ?side1 (Kd.R_reads' HO846.out).2.1 A10.out).mono ?_);(case side1=>repeat(first|exact(Kd.R_reads' HO846.out).2.2|(with_reducible refine Kd.C_alloc ?_ _)|(with_reducible refine Kd.C_drewN ?_ _)|(with_reducible refine Kd.C_drew ?_)));rintro e w27 ⟨v849,rfl,ho0,hb⟩;refine⟨_,rfl,?_⟩;replace HO831:=am_ (Kd.R_below (yru_ HO831) hb);replace HO842:=am_ (Kd.R_below (yru_ HO842) hb);replace HO846:=am_ (Kd.R_below (yru_ HO846) hb);have HO850:=am_ (Kd.R_lower (Kd.R_new' (Kd.R_new' ho0 (Kd.R_lt (yru_ HO835))) (Kd.R_lt (yru_ HO839))) (below_size ybl_));replace HO835:=am_ (Kd.R_elder' (yru_ HO835) (Kd.R_base ho0) hb);replace HO839:=am_ (Kd.R_elder' (yru_ HO839) (Kd.R_base ho0) hb);replace HB:=yst_ hb;(try clear hb);(try clear ho0);replace HO831:=am_ (Kd.R_mono (ok':=fun k_=>some k_≠(v841:Value).ownBlock) HO831.out (fun k_ hk_=>hk_.1.2));replace HO835:=am_ (Kd.R_mono (ok':=fun k_=>some k_≠(v838:Value).ownBlock) HO835.out (fun k_ hk_=>hk_.1.2));replace HO839:=am_ (Kd.R_mono (ok':=fun k_=>some k_≠(.slice Ao23 t832.length co23:Value).ownBlock) HO839.out (fun k_ hk_=>hk_.1.2));replace HO842:=am_ (Kd.R_mono (ok':=fun k_=>some k_≠(.slice Ao20 t829.length co20:Value).ownBlock) HO842.out (fun k_ hk_=>hk_.1.2));clear HO846;clear HO850)|((with_reducible refine gate_callee (f:=16) rfl ?_);refine goesL_ (some 49) rfl rfl Try.func16 (by kernel_rfl) rfl #[.slice A1 l1.length c1] rfl yk0_ ?_;(with_reducible refine(spec_DoubtItems.calls k _ _ l1 t851 _ ?side1 HC1.out A11.out).mono ?_);(case side1=>exact ycb_ HR1 HB);rintro e w28 ⟨v852,rfl,ho0,hb⟩;refine⟨_,rfl,?_⟩;replace HO835:=am_ (Kd.R_below (yru_ HO835) hb);replace HO839:=am_ (Kd.R_below (yru_ HO839) hb);have HO853:=am_ (Kd.R_lower (Kd.R_new' (Kd.R_new' ho0 (Kd.R_lt (yru_ HO831))) (Kd.R_lt (yru_ HO842))) (below_size ybl_));replace HO831:=am_ (Kd.R_elder' (yru_ HO831) (Kd.R_base ho0) hb);replace HO842:=am_ (Kd.R_elder' (yru_ HO842) (Kd.R_base ho0) hb);replace HB:=yst_ hb;(try clear hb);(try clear ho0);obtain⟨Ao29,co29,eo29⟩:=Kd.R_slice HO853.out;subst eo29)|((with_reducible refine gate_callee (f:=6) rfl ?_);refine goesL_ (some 50) rfl rfl Try.func6 (by kernel_rfl) rfl #[.slice Ao29 t851.length co29] rfl yk0_ ?_;(with_reducible refine(spec_TreeOf.calls k _ _ t851 t854 t855 _ ?side1 (Kd.R_reads' HO853.out).2.1 A12.out).mono ?_);(case side1=>repeat(first|exact(Kd.R_reads' HO853.out).2.2|(with_reducible refine Kd.C_alloc ?_ _)|(with_reducible refine Kd.C_drewN ?_ _)|(with_reducible refine Kd.C_drew ?_)));rintro e w30 ⟨v856,rfl,ho0,hb⟩;refine⟨_,rfl,?_⟩;replace HO831:=am_ (Kd.R_below (yru_ HO831) hb);replace HO842:=am_ (Kd.R_below (yru_ HO842) hb);replace HO853:=am_ (Kd.R_below (yru_ HO853) hb);have HO857:=am_ (Kd.R_lower (Kd.R_new' (Kd.R_new' ho0 (Kd.R_lt (yru_ HO835))) (Kd.R_lt (yru_ HO839))) (below_size ybl_));replace HO835:=am_ (Kd.R_elder' (yru_ HO835) (Kd.R_base ho0) hb);replace HO839:=am_ (Kd.R_elder' (yru_ HO839) (Kd.R_base ho0) hb);replace HB:=yst_ hb;(try clear hb);(try clear ho0);replace HO831:=am_ (Kd.R_mono (ok':=fun k_=>some k_≠(v841:Value).ownBlock) HO831.out (fun k_ hk_=>hk_.1));replace HO835:=am_ (Kd.R_mono (ok':=fun k_=>some k_≠(v838:Value).ownBlock) HO835.out (fun k_ hk_=>hk_.1));replace HO839:=am_ (Kd.R_mono (ok':=fun k_=>some k_≠(.slice Ao23 t832.length co23:Value).ownBlock) HO839.out (fun k_ hk_=>hk_.1));replace HO842:=am_ (Kd.R_mono (ok':=fun k_=>some k_≠(.slice Ao20 t829.length co20:Value).ownBlock) HO842.out (fun k_ hk_=>hk_.1));clear HO853;clear HO857;obtain⟨Ao31,co31,eo31⟩:=Kd.R_slice HO839.out;subst eo31)|(go_at_call 17;(with_reducible refine(impl_SameTree.calls k _ _ t832 _ _ t836 true _ ?side1 (Kd.R_reads' HO835.out).2.1 ?side3 (Kd.R_reads' HO839.out).2.1 A14.out).mono ?_);(case side1=>repeat(first|exact(Kd.R_reads' HO835.out).2.2|(with_reducible refine Kd.C_alloc ?_ _)|(with_reducible refine Kd.C_drewN ?_ _)|(with_reducible refine Kd.C_drew ?_)));(case side3=>repeat(first|exact(Kd.R_reads' HO839.out).2.2|(with_reducible refine Kd.C_alloc ?_ _)|(with_reducible refine Kd.C_drewN ?_ _)|(with_reducible refine Kd.C_drew ?_)));rintro e w32 ⟨rfl,hb⟩;replace HO831:=am_ (Kd.R_below (yru_ HO831) hb);replace HO835:=am_ (Kd.R_below (yru_ HO835) hb);replace HO839:=am_ (Kd.R_below (yru_ HO839) hb);replace HO842:=am_ (Kd.R_below (yru_ HO842) hb);replace HB:=yst_ hb;(try clear hb);clear HO835;clear HO839;obtain⟨Ao33,co33,eo33⟩:=Kd.R_slice HO842.out;subst eo33)|(go_at_call 18;(with_reducible refine(laws_sameItems.calls k _ _ t840 _ _ t829 true _ ?side1 (Kd.R_reads' HO842.out).2.1 ?side3 (Kd.R_reads' HO831.out).2.1 A17.out).mono ?_);(case side1=>repeat(first|exact(Kd.R_reads' HO842.out).2.2|(with_reducible refine Kd.C_alloc ?_ _)|(with_reducible refine Kd.C_drewN ?_ _)|(with_reducible refine Kd.C_drew ?_)));(case side3=>repeat(first|exact(Kd.R_reads' HO831.out).2.2|(with_reducible refine Kd.C_alloc ?_ _)|(with_reducible refine Kd.C_drewN ?_ _)|(with_reducible refine Kd.C_drew ?_)));rintro e w' ⟨rfl,⟨nd,rfl⟩⟩));all_goals go_ret
       exact⟨yk1_,ybl_⟩;all_goals (exfalso;simp only [beq_iff_eq,decide_eq_decide,decide_eq_true_eq,decide_eq_false_iff_not]at*;omega)
      ·replace c18:=Bool.eq_false_iff.mpr c18;subst c18;rw [if_neg (show¬(false=true) by decide)]at H;exact absurd (Option.some.inj H) (by decide)
     ·rw [if_neg c16]at H;have c16b0:(t843==0)=false:=beq_eq_false_iff_ne.mpr c16;have c16b1:(t843 !=0)=true:=bne_iff_ne.mpr c16;exact absurd (Option.some.inj H) (by decide)
    ·replace c15:=Bool.eq_false_iff.mpr c15;subst c15;rw [if_neg (show¬(false=true) by decide)]at H;exact absurd (Option.some.inj H) (by decide)
   ·rw [if_neg c13]at H;have c13b0:(t833==0)=false:=beq_eq_false_iff_ne.mpr c13;have c13b1:(t833 !=0)=true:=bne_iff_ne.mpr c13;exact absurd (Option.some.inj H) (by decide)

/-- THE ONE PURE STATEMENT of laws_FnTreeItems: yours. -/
def laws_FnTreeItems.Pure:Prop:= ∀(l0:List Int) (l1:List Int),l0.length≤maxLen→l0.length*1≤140737488351232→(∀x∈l0,(Lit.int .u8 x).wf=true)→l1.length≤maxLen→l1.length*1≤140737488351232→(∀x∈l1,(Lit.int .u8 x).wf=true)→ ∃k,laws_FnTreeItems.f k l0 l1=some true
theorem laws_FnTreeItems.walk (P:laws_FnTreeItems.Pure) (a0:Option Addr) (len0 cap0:Nat) (z0:List Int) (a1:Option Addr) (len1 cap1:Nat) (z1:List Int) (w:World) (w0:(a0=none∧len0=0∧cap0=0∧z0= [])∨ ∃x,a0=some x∧len0≤cap0∧cap0≤maxLen∧z0.length=cap0∧(∀i,i<z0.length→w.cell? (x.add i)=some (.int .u8 (z0.getD i 0)))∧ ∀n∈z0,(Lit.int .u8 n).wf=true) (y0:len0*1≤140737488351232) (w1:(a1=none∧len1=0∧cap1=0∧z1= [])∨ ∃x,a1=some x∧len1≤cap1∧cap1≤maxLen∧z1.length=cap1∧(∀i,i<z1.length→w.cell? (x.add i)=some (.int .u8 (z1.getD i 0)))∧ ∀n∈z1,(Lit.int .u8 n).wf=true) (y1:len1*1≤140737488351232):
  Calls Try.prog 4 #[.slice a0 len0 cap0,.slice a1 len1 cap1] w fun e w'=>e= .returned (.bool true)∧Below w.heap.size w w':=by
 obtain⟨l0,rfl,hr0,hm0,hw0,hc0⟩:=ReadsInt.ofRowC w0;obtain⟨l1,rfl,hr1,hm1,hw1,hc1⟩:=ReadsInt.ofRowC w1;obtain⟨k,h⟩:=P l0 l1 hm0 y0 hw0 hm1 y1 hw1;refine(laws_FnTreeItems.calls k _ _ l0 _ _ l1 w (Kd.C_of_reads (d:=(0:Int)) (h1:=fun _=>rfl) hr0) hc0 (Kd.C_of_reads (d:=(0:Int)) (h1:=fun _=>rfl) hr1) hc1 h).mono ?_;rintro e w' ⟨rfl,hd⟩;exact⟨rfl,hd⟩

end Go.Proofs.Ythmcanjeeljnhaa.PTJ
