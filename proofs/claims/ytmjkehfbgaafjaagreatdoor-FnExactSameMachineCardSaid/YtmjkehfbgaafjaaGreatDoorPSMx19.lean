-- laid by a program of this session out of the translation's own print: Lean checks it
import Derived.Test.YtmjkehfbgaafjaaGreatDoorPSMx0
import Derived.Test.YtmjkehfbgaafjaaGreatDoorPSMx17
import Derived.Test.YtmjkehfbgaafjaaGreatDoorPSMx18
namespace Go.Proofs.YtmjkehfbgaafjaaGreatDoor.PSM
open Go.RowKit Go.Proofs.YtmjkehfbgaafjaaGreatDoorW.PrintWords Go.Proofs.YtmjkehfbgaafjaaGreatDoorW.PrintLast Go.Proofs.YtmjkehfbgaafjaaGreatDoorW.PrintMore
open Option renaming bind_eq_some_iff→ob
open Bool renaming eq_false_iff→bf
attribute [local go_sem] max2_int min2_int max_two min_two max_three min_three max_four min_four -- for this text's walks alone
set_option linter.unusedVariables false
set_option maxHeartbeats 8000000
set_option maxRecDepth 100000
set_option linter.unusedSimpArgs false

/-! ### impl_WordOK: function 82 -/
def impl_WordOK.l0:Nat→ByteArray→Int→Int→Option (Bool)
 |0,_,_,_=>none
 |k+1,x0,x5,x6=>if x6<x5 then(if 0≤x6 then(if x6<(x0.size:Int)then(if(bt x0 x6)<33 then(some false)else(if(bt x0 x6)>126 then(some false)else(impl_WordOK.l0 k x0 x5 (wrap64 (x6+1)))))else(none))else(none))else((impl_in.f (x0.size:Int) 1 12).bind fun t422=>(some t422))
def impl_WordOK.f (k:Nat) (a0:ByteArray):Option (Bool):=impl_WordOK.l0 k a0 (a0.size:Int) 0
theorem impl_WordOK.mono_l: ∀k,(∀y0 y1 y2,LeO (impl_WordOK.l0 k y0 y1 y2) (impl_WordOK.l0 (k+1) y0 y1 y2))
 |0=>fun _ _ _ r h=>by simp [impl_WordOK.l0]at h
 |k+1=>by
  have ih0:=impl_WordOK.mono_l k
  ·intro y0 y1 y2;unfold impl_WordOK.l0;repeat' first
   |(with_reducible first|apply ih0|exact LeO.refl _|exact LeO.none _|refine LeO.ite ?_ ?_|refine LeO.bind ?_ (fun _=> ?_))
   |apply ih0|exact LeO.none _|refine LeO.ite ?_ ?_|refine LeO.bind ?_ (fun _=> ?_)
theorem impl_WordOK.mono: ∀a0 k,LeO (impl_WordOK.f k a0) (impl_WordOK.f (k+1) a0):=by
 intro a0 k;have ih0:=impl_WordOK.mono_l k;unfold impl_WordOK.f;repeat' first
 |(with_reducible first|apply ih0|exact LeO.refl _|exact LeO.none _|refine LeO.ite ?_ ?_|refine LeO.bind ?_ (fun _=> ?_))
 |apply ih0|exact LeO.none _|refine LeO.ite ?_ ?_|refine LeO.bind ?_ (fun _=> ?_)
theorem impl_WordOK.calls (k:Nat) (a0:ByteArray) (r:Bool) (w:World) (h:impl_WordOK.f k a0=some r):
  Calls Tryz.prog 82 #[.string a0] w fun e w'=>e= .returned (.bool r)∧Drawn0 w w':=by
 have H:=h;clear h;rw [impl_WordOK.f]at H;have H':=am_ H;clear H;go_enter Tryz.func82,Tryz.ntmps82;go_wp2;go_loopg [6] k (fun kq v6 w'=> ∃(x6_1:Int),v6= .int .i64 x6_1∧Aside0 (impl_WordOK.l0 kq a0 (a0.size:Int) x6_1=some r)∧Aside0 (kq≤k)∧Drawn0 w w');case atStart=>exact⟨(0),(by first|rfl|(simp;done)|(simp [*];done)),H',⟨Nat.le_refl _⟩,by repeat(first|exact Drawn0.refl _|apply Drawn0.step)⟩
 case round=>
  clear H';obtain⟨x6_1,rfl,HA,HK1,⟨m1,rfl⟩⟩:=hrel;cases gk with
  |zero=>exact absurd HA.out (by simp [impl_WordOK.l0])
  |succ k1=>
   have H:=HA.out;clear HA;simp only [impl_WordOK.l0]at H;by_cases c2:x6_1<(a0.size:Int)
   ·rw [if_pos c2]at H;have c2b0:decide (x6_1<(a0.size:Int))=true:=decide_eq_true c2;clear c2;by_cases c3:0≤x6_1
    ·rw [if_pos c3]at H;have c3b0:decide (0≤x6_1)=true:=decide_eq_true c3;clear c3;by_cases c4:x6_1<(a0.size:Int)
     ·rw [if_pos c4]at H;have c4b0:decide (x6_1<(a0.size:Int))=true:=decide_eq_true c4;clear c4;by_cases c6:(bt a0 x6_1)<33
      ·rw [if_pos c6]at H;have c6b0:decide ((bt a0 x6_1)<33)=true:=decide_eq_true c6;clear c6;obtain rfl:=Option.some.inj H;have p5:0≤(x6_1:Int):=of_decide_eq_true yqv12_;have q5:x6_1<(a0.size:Int):=of_decide_eq_true yqv12_;have hx5:=bt_at a0 x6_1;replace p5:=eq_true p5;replace q5:=eq_true q5;go_wp2;go_ret;exact⟨by first|rfl|(simp;done)|(simp [*];done),by repeat(first|exact Drawn0.refl _|apply Drawn0.step)⟩
      ·rw [if_neg c6]at H;have c6b0:decide ((bt a0 x6_1)<33)=false:=decide_eq_false c6;clear c6;by_cases c8:(bt a0 x6_1)>126
       ·rw [if_pos c8]at H;have c8b0:decide (126<(bt a0 x6_1))=true:=decide_eq_true c8;clear c8;obtain rfl:=Option.some.inj H;have p5:0≤(x6_1:Int):=of_decide_eq_true yqv12_;have q5:x6_1<(a0.size:Int):=of_decide_eq_true yqv12_;have hx5:=bt_at a0 x6_1;replace p5:=eq_true p5;replace q5:=eq_true q5;have p7:0≤(x6_1:Int):=of_decide_eq_true yqv12_;have q7:x6_1<(a0.size:Int):=of_decide_eq_true yqv12_;have hx7:=bt_at a0 x6_1;replace p7:=eq_true p7;replace q7:=eq_true q7;go_wp2;go_ret;exact⟨by first|rfl|(simp;done)|(simp [*];done),by repeat(first|exact Drawn0.refl _|apply Drawn0.step)⟩
       ·rw [if_neg c8]at H;have c8b0:decide (126<(bt a0 x6_1))=false:=decide_eq_false c8;clear c8;have H':=am_ H;clear H;have p5:0≤(x6_1:Int):=of_decide_eq_true yqv12_;have q5:x6_1<(a0.size:Int):=of_decide_eq_true yqv12_;have hx5:=bt_at a0 x6_1;replace p5:=eq_true p5;replace q5:=eq_true q5;have p7:0≤(x6_1:Int):=of_decide_eq_true yqv12_;have q7:x6_1<(a0.size:Int):=of_decide_eq_true yqv12_;have hx7:=bt_at a0 x6_1;replace p7:=eq_true p7;replace q7:=eq_true q7;go_wp2;go_roundg k1;case measure=>have:=HK1.out;omega
        case rel=>exact⟨(wrap64 (x6_1+1)),(by first|rfl|(simp;done)|(simp [*];done)),H',⟨by have:=HK1.out;omega⟩,by repeat(first|exact Drawn0.refl _|apply Drawn0.step)⟩
     ·rw [if_neg c4]at H;exact absurd H (by simp)
    ·rw [if_neg c3]at H;exact absurd H (by simp)
   ·rw [if_neg c2]at H;have c2b0:decide (x6_1<(a0.size:Int))=false:=decide_eq_false c2;clear c2;replace H:=ob.mp H;obtain⟨t422,A90,H⟩:=H;replace H:(some t422)=some r:=H;have A9:=am_ A90;clear A90;obtain rfl:=Option.some.inj H;go_wp2_with (first|((with_reducible refine gate_callee (f:=27) rfl ?_);refine goesL_ (some 22) rfl rfl Tryz.func27 (by kernel_rfl) rfl #[.int .i64 (a0.size:Int),.int .i64 1,.int .i64 12] rfl yk1_ ?_;(with_reducible refine(impl_in.calls (a0.size:Int) 1 12 t422 _ A9.out).mono ?_);rintro e w' ⟨rfl,⟨nd,rfl⟩⟩;refine⟨_,rfl,?_⟩));go_ret;exact⟨by first|rfl|(simp;done)|(simp [*];done),by repeat(first|exact Drawn0.refl _|apply Drawn0.step)⟩

/-! ### impl_Word_isScript: function 51 -/
def impl_Word_isScript.f (k:Nat) (a0_0:ByteArray) (a0_1 a0_2:Int):Option (Bool):=if a0_1=6 then((impl_WordOK.f k a0_0).bind fun t424=>(if t424=true then((impl_in.f a0_2 0 399).bind fun t425=>(some t425))else(some false)))else(if a0_1=7 then((impl_WordOK.f k a0_0).bind fun t426=>(if t426=true then((impl_in.f a0_2 4096 4223).bind fun t427=>(if t427=true then(some ((Int.tmod a0_2 4)==0))else(some false)))else(some false)))else(if a0_1=8 then((impl_WordOK.f k a0_0).bind fun t428=>(if t428=true then((impl_CellOK.f a0_2).bind fun t429=>(some t429))else(some false)))else(some false)))
theorem impl_Word_isScript.mono: ∀a0 a1 a2 k,LeO (impl_Word_isScript.f k a0 a1 a2) (impl_Word_isScript.f (k+1) a0 a1 a2):=by
 intro a0 a1 a2 k;unfold impl_Word_isScript.f;repeat' first
 |(with_reducible first|apply impl_WordOK.mono|exact LeO.refl _|exact LeO.none _|refine LeO.ite ?_ ?_|refine LeO.bind ?_ (fun _=> ?_))
 |apply impl_WordOK.mono|exact LeO.none _|refine LeO.ite ?_ ?_|refine LeO.bind ?_ (fun _=> ?_)
theorem impl_Word_isScript.calls (k:Nat) (a0_0:ByteArray) (a0_1 a0_2:Int) (r:Bool) (w:World) (h:impl_Word_isScript.f k a0_0 a0_1 a0_2=some r):
  Calls Tryz.prog 51 #[.agg #[.string a0_0,.int .i64 a0_1,.int .i64 a0_2]] w fun e w'=>e= .returned (.bool r)∧Below w.heap.size w w':=by
 have hu75:=Tryz.underlying75;have HB:=am_ (Below.refl w.heap.size w);have H:=h;clear h;rw [impl_Word_isScript.f]at H;by_cases c2:a0_1=6
 ·rw [if_pos c2]at H;have c2b0:(a0_1==6)=true:=beq_iff_eq.mpr c2;have c2b1:(a0_1 !=6)=false:=bne_eq_false_iff_eq.mpr c2;clear c2;replace H:=ob.mp H;obtain⟨t424,A30,H⟩:=H;try dsimp only at H
  have A3:=am_ A30;clear A30;by_cases c4:t424=true
  ·subst c4;rw [if_pos rfl]at H;replace H:=ob.mp H;obtain⟨t425,A50,H⟩:=H;replace H:(some t425)=some r:=H;have A5:=am_ A50;clear A50;obtain rfl:=Option.some.inj H;go_enter Tryz.func51,Tryz.ntmps51;go_wp2_with (first|((with_reducible refine gate_dst (N:=1) rfl ?_);refine box_event ?hg (N:=1) ?hd (cs:= #[.string a0_0,.int .i64 a0_1,.int .i64 a0_2]) (t:=75) ?hr ?_;(case hd=>rfl);(case hg=>rfl);(case hr=>first|(go_simp;done)|(go_simp;rfl));intro gb423 hg w6 hbox hb;have BK423:=am_ (hbox);have GW423:=am_ ((ybsz_ hg:w.heap.size≤gb423));replace HB:=yst_ hb;clear hb hbox hg;have hcz7:=ye3_ BK423;have hfz7:=yf3_ BK423)|((with_reducible refine gate_callee (f:=82) rfl ?_);refine goesL_ (some 9) rfl rfl Tryz.func82 (by kernel_rfl) rfl #[.string a0_0] rfl yk1_ ?_;(with_reducible refine(impl_WordOK.calls k a0_0 true _ A3.out).mono ?_);rintro e w' ⟨rfl,⟨nd,rfl⟩⟩;refine⟨_,rfl,?_⟩)|(go_at_call 27;(with_reducible refine(impl_in.calls a0_2 0 399 t425 _ A5.out).mono ?_);rintro e w' ⟨rfl,⟨nd,rfl⟩⟩));go_ret;exact⟨yk0_,ybl_⟩
  ·replace c4:=bf.mpr c4;subst c4;rw [if_neg (show¬(false=true) by decide)]at H;obtain rfl:=Option.some.inj H;go_enter Tryz.func51,Tryz.ntmps51;go_wp2_with (first|((with_reducible refine gate_dst (N:=1) rfl ?_);refine box_event ?hg (N:=1) ?hd (cs:= #[.string a0_0,.int .i64 a0_1,.int .i64 a0_2]) (t:=75) ?hr ?_;(case hd=>rfl);(case hg=>rfl);(case hr=>first|(go_simp;done)|(go_simp;rfl));intro gb423 hg w8 hbox hb;have BK423:=am_ (hbox);have GW423:=am_ ((ybsz_ hg:w.heap.size≤gb423));replace HB:=yst_ hb;clear hb hbox hg;have hcz9:=ye3_ BK423;have hfz9:=yf3_ BK423)|((with_reducible refine gate_callee (f:=82) rfl ?_);refine goesL_ (some 9) rfl rfl Tryz.func82 (by kernel_rfl) rfl #[.string a0_0] rfl yk1_ ?_;(with_reducible refine(impl_WordOK.calls k a0_0 false _ A3.out).mono ?_);rintro e w' ⟨rfl,⟨nd,rfl⟩⟩;refine⟨_,rfl,?_⟩));go_ret;exact⟨yk0_,ybl_⟩
 ·rw [if_neg c2]at H;have c2b0:(a0_1==6)=false:=beq_eq_false_iff_ne.mpr c2;have c2b1:(a0_1 !=6)=true:=bne_iff_ne.mpr c2;by_cases c10:a0_1=7
  ·rw [if_pos c10]at H;have c10b0:(a0_1==7)=true:=beq_iff_eq.mpr c10;have c10b1:(a0_1 !=7)=false:=bne_eq_false_iff_eq.mpr c10;clear c10;replace H:=ob.mp H;obtain⟨t426,A110,H⟩:=H;try dsimp only at H
   have A11:=am_ A110;clear A110;by_cases c12:t426=true
   ·subst c12;rw [if_pos rfl]at H;replace H:=ob.mp H;obtain⟨t427,A130,H⟩:=H;try dsimp only at H
    have A13:=am_ A130;clear A130;by_cases c14:t427=true
    ·subst c14;rw [if_pos rfl]at H;obtain rfl:=Option.some.inj H;go_enter Tryz.func51,Tryz.ntmps51;go_wp2_with (first|((with_reducible refine gate_dst (N:=1) rfl ?_);refine box_event ?hg (N:=1) ?hd (cs:= #[.string a0_0,.int .i64 a0_1,.int .i64 a0_2]) (t:=75) ?hr ?_;(case hd=>rfl);(case hg=>rfl);(case hr=>first|(go_simp;done)|(go_simp;rfl));intro gb423 hg w15 hbox hb;have BK423:=am_ (hbox);have GW423:=am_ ((ybsz_ hg:w.heap.size≤gb423));replace HB:=yst_ hb;clear hb hbox hg;have hcz16:=ye3_ BK423;have hfz16:=yf3_ BK423)|((with_reducible refine gate_callee (f:=82) rfl ?_);refine goesL_ (some 19) rfl rfl Tryz.func82 (by kernel_rfl) rfl #[.string a0_0] rfl yk1_ ?_;(with_reducible refine(impl_WordOK.calls k a0_0 true _ A11.out).mono ?_);rintro e w' ⟨rfl,⟨nd,rfl⟩⟩;refine⟨_,rfl,?_⟩)|(go_at_call 27;(with_reducible refine(impl_in.calls a0_2 4096 4223 true _ A13.out).mono ?_);rintro e w' ⟨rfl,⟨nd,rfl⟩⟩));go_ret;exact⟨yk0_,ybl_⟩
    ·replace c14:=bf.mpr c14;subst c14;rw [if_neg (show¬(false=true) by decide)]at H;obtain rfl:=Option.some.inj H;go_enter Tryz.func51,Tryz.ntmps51;go_wp2_with (first|((with_reducible refine gate_dst (N:=1) rfl ?_);refine box_event ?hg (N:=1) ?hd (cs:= #[.string a0_0,.int .i64 a0_1,.int .i64 a0_2]) (t:=75) ?hr ?_;(case hd=>rfl);(case hg=>rfl);(case hr=>first|(go_simp;done)|(go_simp;rfl));intro gb423 hg w17 hbox hb;have BK423:=am_ (hbox);have GW423:=am_ ((ybsz_ hg:w.heap.size≤gb423));replace HB:=yst_ hb;clear hb hbox hg;have hcz18:=ye3_ BK423;have hfz18:=yf3_ BK423)|((with_reducible refine gate_callee (f:=82) rfl ?_);refine goesL_ (some 19) rfl rfl Tryz.func82 (by kernel_rfl) rfl #[.string a0_0] rfl yk1_ ?_;(with_reducible refine(impl_WordOK.calls k a0_0 true _ A11.out).mono ?_);rintro e w' ⟨rfl,⟨nd,rfl⟩⟩;refine⟨_,rfl,?_⟩)|(go_at_call 27;(with_reducible refine(impl_in.calls a0_2 4096 4223 false _ A13.out).mono ?_);rintro e w' ⟨rfl,⟨nd,rfl⟩⟩));go_ret;exact⟨yk0_,ybl_⟩
   ·replace c12:=bf.mpr c12;subst c12;rw [if_neg (show¬(false=true) by decide)]at H;obtain rfl:=Option.some.inj H;go_enter Tryz.func51,Tryz.ntmps51;go_wp2_with (first|((with_reducible refine gate_dst (N:=1) rfl ?_);refine box_event ?hg (N:=1) ?hd (cs:= #[.string a0_0,.int .i64 a0_1,.int .i64 a0_2]) (t:=75) ?hr ?_;(case hd=>rfl);(case hg=>rfl);(case hr=>first|(go_simp;done)|(go_simp;rfl));intro gb423 hg w19 hbox hb;have BK423:=am_ (hbox);have GW423:=am_ ((ybsz_ hg:w.heap.size≤gb423));replace HB:=yst_ hb;clear hb hbox hg;have hcz20:=ye3_ BK423;have hfz20:=yf3_ BK423)|((with_reducible refine gate_callee (f:=82) rfl ?_);refine goesL_ (some 19) rfl rfl Tryz.func82 (by kernel_rfl) rfl #[.string a0_0] rfl yk1_ ?_;(with_reducible refine(impl_WordOK.calls k a0_0 false _ A11.out).mono ?_);rintro e w' ⟨rfl,⟨nd,rfl⟩⟩;refine⟨_,rfl,?_⟩));go_ret;exact⟨yk0_,ybl_⟩
  ·rw [if_neg c10]at H;have c10b0:(a0_1==7)=false:=beq_eq_false_iff_ne.mpr c10;have c10b1:(a0_1 !=7)=true:=bne_iff_ne.mpr c10;by_cases c21:a0_1=8
   ·rw [if_pos c21]at H;have c21b0:(a0_1==8)=true:=beq_iff_eq.mpr c21;have c21b1:(a0_1 !=8)=false:=bne_eq_false_iff_eq.mpr c21;clear c21;replace H:=ob.mp H;obtain⟨t428,A220,H⟩:=H;try dsimp only at H
    have A22:=am_ A220;clear A220;by_cases c23:t428=true
    ·subst c23;rw [if_pos rfl]at H;replace H:=ob.mp H;obtain⟨t429,A240,H⟩:=H;replace H:(some t429)=some r:=H;have A24:=am_ A240;clear A240;obtain rfl:=Option.some.inj H;go_enter Tryz.func51,Tryz.ntmps51;go_wp2_with (first|((with_reducible refine gate_dst (N:=1) rfl ?_);refine box_event ?hg (N:=1) ?hd (cs:= #[.string a0_0,.int .i64 a0_1,.int .i64 a0_2]) (t:=75) ?hr ?_;(case hd=>rfl);(case hg=>rfl);(case hr=>first|(go_simp;done)|(go_simp;rfl));intro gb423 hg w25 hbox hb;have BK423:=am_ (hbox);have GW423:=am_ ((ybsz_ hg:w.heap.size≤gb423));replace HB:=yst_ hb;clear hb hbox hg;have hcz26:=ye3_ BK423;have hfz26:=yf3_ BK423)|(go_at_call 82;(with_reducible refine(impl_WordOK.calls k a0_0 true _ A22.out).mono ?_);rintro e w' ⟨rfl,⟨nd,rfl⟩⟩)|(go_at_call 54;(with_reducible refine(impl_CellOK.calls a0_2 t429 _ A24.out).mono ?_);rintro e w' ⟨rfl,⟨nd,rfl⟩⟩));go_ret;exact⟨yk0_,ybl_⟩
    ·replace c23:=bf.mpr c23;subst c23;rw [if_neg (show¬(false=true) by decide)]at H;obtain rfl:=Option.some.inj H;go_enter Tryz.func51,Tryz.ntmps51;go_wp2_with (first|((with_reducible refine gate_dst (N:=1) rfl ?_);refine box_event ?hg (N:=1) ?hd (cs:= #[.string a0_0,.int .i64 a0_1,.int .i64 a0_2]) (t:=75) ?hr ?_;(case hd=>rfl);(case hg=>rfl);(case hr=>first|(go_simp;done)|(go_simp;rfl));intro gb423 hg w27 hbox hb;have BK423:=am_ (hbox);have GW423:=am_ ((ybsz_ hg:w.heap.size≤gb423));replace HB:=yst_ hb;clear hb hbox hg;have hcz28:=ye3_ BK423;have hfz28:=yf3_ BK423)|(go_at_call 82;(with_reducible refine(impl_WordOK.calls k a0_0 false _ A22.out).mono ?_);rintro e w' ⟨rfl,⟨nd,rfl⟩⟩));go_ret;exact⟨yk0_,ybl_⟩
   ·rw [if_neg c21]at H;have c21b0:(a0_1==8)=false:=beq_eq_false_iff_ne.mpr c21;have c21b1:(a0_1 !=8)=true:=bne_iff_ne.mpr c21;obtain rfl:=Option.some.inj H;go_enter Tryz.func51,Tryz.ntmps51;go_wp2_with (first|((with_reducible refine gate_dst (N:=1) rfl ?_);refine box_event ?hg (N:=1) ?hd (cs:= #[.string a0_0,.int .i64 a0_1,.int .i64 a0_2]) (t:=75) ?hr ?_;(case hd=>rfl);(case hg=>rfl);(case hr=>first|(go_simp;done)|(go_simp;rfl));intro gb423 hg w29 hbox hb;have BK423:=am_ (hbox);have GW423:=am_ ((ybsz_ hg:w.heap.size≤gb423));replace HB:=yst_ hb;clear hb hbox hg;have hcz30:=ye3_ BK423;have hfz30:=yf3_ BK423));go_ret;exact⟨yk0_,ybl_⟩

/-! ### impl_DictOK_1: function 50 -/
def impl_DictOK_1.f (k:Nat) (a0_0:ByteArray) (a0_1 a0_2:Int):Option (Bool):=(impl_Word_isScript.f k a0_0 a0_1 a0_2).bind fun t431=>(some (!t431))
theorem impl_DictOK_1.mono: ∀a0 a1 a2 k,LeO (impl_DictOK_1.f k a0 a1 a2) (impl_DictOK_1.f (k+1) a0 a1 a2):=by
 intro a0 a1 a2 k;unfold impl_DictOK_1.f;repeat' first
 |(with_reducible first|apply impl_Word_isScript.mono|exact LeO.refl _|exact LeO.none _|refine LeO.ite ?_ ?_|refine LeO.bind ?_ (fun _=> ?_))
 |apply impl_Word_isScript.mono|exact LeO.none _|refine LeO.ite ?_ ?_|refine LeO.bind ?_ (fun _=> ?_)
theorem impl_DictOK_1.calls (k:Nat) (a0_0:ByteArray) (a0_1 a0_2:Int) (r:Bool) (w:World) (h:impl_DictOK_1.f k a0_0 a0_1 a0_2=some r):
  Calls Tryz.prog 50 #[.agg #[.string a0_0,.int .i64 a0_1,.int .i64 a0_2]] w fun e w'=>e= .returned (.bool r)∧Below w.heap.size w w':=by
 have hu75:=Tryz.underlying75;have HB:=am_ (Below.refl w.heap.size w);have H:=h;clear h;rw [impl_DictOK_1.f]at H;replace H:=ob.mp H;obtain⟨t431,A20,H⟩:=H;replace H:(some (!t431))=some r:=H;have A2:=am_ A20;clear A20;obtain rfl:=Option.some.inj H;go_enter Tryz.func50,Tryz.ntmps50;go_wp2_with (first|((with_reducible refine gate_dst (N:=1) rfl ?_);refine box_event ?hg (N:=1) ?hd (cs:= #[.string a0_0,.int .i64 a0_1,.int .i64 a0_2]) (t:=75) ?hr ?_;(case hd=>rfl);(case hg=>rfl);(case hr=>first|(go_simp;done)|(go_simp;rfl));intro gb430 hg w3 hbox hb;have BK430:=am_ (hbox);have GW430:=am_ ((ybsz_ hg:w.heap.size≤gb430));replace HB:=yst_ hb;clear hb hbox hg;have hcz4:=ye3_ BK430;have hfz4:=yf3_ BK430)|((with_reducible refine gate_callee (f:=51) rfl ?_);refine goesL_ (some 4) rfl rfl Tryz.func51 (by kernel_rfl) rfl #[.agg #[.string a0_0,.int .i64 a0_1,.int .i64 a0_2]] rfl yk1_ ?_;(with_reducible refine(impl_Word_isScript.calls k a0_0 a0_1 a0_2 t431 _ A2.out).mono ?_);rintro e w5 ⟨rfl,hb⟩;refine⟨_,rfl,?_⟩;replace HB:=yst_ hb;(try clear hb)));go_ret;exact⟨yk0_,ybl_⟩

/-! ### slices_IndexFunc_Word_at_impl_DictOK_1: function 154 -/
def slices_IndexFunc_Word_at_impl_DictOK_1.l0:Nat→List (S75)→Int→Int→Option (Int)
 |0,_,_,_=>none
 |k+1,x0,x7,x8=>if x8<x7 then(if 0≤x8 then(if x8<(x0.length:Int)then((impl_DictOK_1.f k ((rd_T75 x0 x8).f0) ((rd_T75 x0 x8).f1) ((rd_T75 x0 x8).f2)).bind fun t433=>(if t433=true then(some x8)else(slices_IndexFunc_Word_at_impl_DictOK_1.l0 k x0 x7 (wrap64 (x8+1)))))else(none))else(none))else(some (-1))
def slices_IndexFunc_Word_at_impl_DictOK_1.f (k:Nat) (l0:List (S75)):Option (Int):=slices_IndexFunc_Word_at_impl_DictOK_1.l0 k l0 (l0.length:Int) 0
theorem slices_IndexFunc_Word_at_impl_DictOK_1.mono_l: ∀k,(∀y0 y1 y2,LeO (slices_IndexFunc_Word_at_impl_DictOK_1.l0 k y0 y1 y2) (slices_IndexFunc_Word_at_impl_DictOK_1.l0 (k+1) y0 y1 y2))
 |0=>fun _ _ _ r h=>by simp [slices_IndexFunc_Word_at_impl_DictOK_1.l0]at h
 |k+1=>by
  have ih0:=slices_IndexFunc_Word_at_impl_DictOK_1.mono_l k
  ·intro y0 y1 y2;unfold slices_IndexFunc_Word_at_impl_DictOK_1.l0;repeat' first
   |(with_reducible first|apply ih0|apply impl_DictOK_1.mono|exact LeO.refl _|exact LeO.none _|refine LeO.ite ?_ ?_|refine LeO.bind ?_ (fun _=> ?_))
   |apply ih0|apply impl_DictOK_1.mono|exact LeO.none _|refine LeO.ite ?_ ?_|refine LeO.bind ?_ (fun _=> ?_)
theorem slices_IndexFunc_Word_at_impl_DictOK_1.mono: ∀a0 k,LeO (slices_IndexFunc_Word_at_impl_DictOK_1.f k a0) (slices_IndexFunc_Word_at_impl_DictOK_1.f (k+1) a0):=by
 intro a0 k;have ih0:=slices_IndexFunc_Word_at_impl_DictOK_1.mono_l k;unfold slices_IndexFunc_Word_at_impl_DictOK_1.f;repeat' first
 |(with_reducible first|apply ih0|apply impl_DictOK_1.mono|exact LeO.refl _|exact LeO.none _|refine LeO.ite ?_ ?_|refine LeO.bind ?_ (fun _=> ?_))
 |apply ih0|apply impl_DictOK_1.mono|exact LeO.none _|refine LeO.ite ?_ ?_|refine LeO.bind ?_ (fun _=> ?_)
theorem slices_IndexFunc_Word_at_impl_DictOK_1.calls (k:Nat) A0 c0 l0 (r:Int) (w:World) (hr0:Kd.C k75 w A0 l0.length l0) (hc0:l0.length≤c0) (h:slices_IndexFunc_Word_at_impl_DictOK_1.f k l0=some r):
  Calls Tryz.prog 81 #[.slice A0 l0.length c0,.func (.func 50) #[] #[]] w fun e w'=>e= .returned (.int .i64 r)∧Below w.heap.size w w':=by
 have hu75:=Tryz.underlying75;have HR0:=am_ hr0;have HC0:=am_ hc0;clear hr0 hc0;have HB:=am_ (Below.refl w.heap.size w);have H:=h;clear h;rw [slices_IndexFunc_Word_at_impl_DictOK_1.f]at H;have H':=am_ H;clear H;go_enter Tryz.func81,Tryz.ntmps81;go_wp2;go_loopg [8] k (fun kq v8 w'=> ∃(x8_1:Int),v8= .int .i64 x8_1∧Aside0 (slices_IndexFunc_Word_at_impl_DictOK_1.l0 kq l0 (l0.length:Int) x8_1=some r)∧Aside0 (kq≤k)∧Aside0 (Below w.heap.size w w'));case atStart=>exact⟨(0),(by first|rfl|(simp;done)|(simp [*];done)),H',⟨Nat.le_refl _⟩,⟨ybl_⟩⟩
 case round=>
  clear H';try clear p2
  obtain⟨x8_1,rfl,HA,HK1,HB⟩:=hrel;cases gk with
  |zero=>exact absurd HA.out (by simp [slices_IndexFunc_Word_at_impl_DictOK_1.l0])
  |succ k1=>
   have H:=HA.out;clear HA;simp only [slices_IndexFunc_Word_at_impl_DictOK_1.l0]at H;by_cases c3:x8_1<(l0.length:Int)
   ·rw [if_pos c3]at H;have c3b0:decide (x8_1<(l0.length:Int))=true:=decide_eq_true c3;clear c3;by_cases c4:0≤x8_1
    ·rw [if_pos c4]at H;have c4b0:decide (0≤x8_1)=true:=decide_eq_true c4;clear c4;by_cases c5:x8_1<(l0.length:Int)
     ·rw [if_pos c5]at H;have c5b0:decide (x8_1<(l0.length:Int))=true:=decide_eq_true c5;clear c5;replace H:=ob.mp H;obtain⟨t433,A60,H⟩:=H;try dsimp only at H
      have A6:=am_ A60;clear A60;by_cases c7:t433=true
      ·subst c7;rw [if_pos rfl]at H;obtain rfl:=Option.some.inj H;have p432:0≤(x8_1:Int):=of_decide_eq_true yqv12_;have q432:x8_1<(l0.length:Int):=of_decide_eq_true yqv12_;obtain⟨ad432,e432,hx432_0,hx432_1,hx432_2⟩:=at_T75 HR0.out x8_1 p432 q432;cases e432;replace hx432_0:=ycst_ HB hx432_0;replace hx432_1:=ycst_ HB hx432_1;replace hx432_2:=ycst_ HB hx432_2;replace p432:=eq_true p432;replace q432:=eq_true q432;go_wp2_with (first|((with_reducible refine Go.Proofs.YtmjkehfbgaafjaaGreatDoorO.gate_tmp (t:=11) rfl ?_);refine Go.Proofs.YtmjkehfbgaafjaaGreatDoorO.goesT_ (some 16) rfl rfl (.tmp 11) rfl Tryz.func50 (by kernel_rfl) rfl #[.agg #[.string ((rd_T75 l0 x8_1).f0),.int .i64 ((rd_T75 l0 x8_1).f1),.int .i64 ((rd_T75 l0 x8_1).f2)]] rfl yk1_ ?_;(with_reducible refine(impl_DictOK_1.calls k1 ((rd_T75 l0 x8_1).f0) ((rd_T75 l0 x8_1).f1) ((rd_T75 l0 x8_1).f2) true _ A6.out).mono ?_);rintro e w8 ⟨rfl,hb⟩;refine⟨_,rfl,?_⟩;replace HB:=yst_ hb;(try clear hb)));go_ret;exact⟨yk0_,ybl_⟩
      ·replace c7:=bf.mpr c7;subst c7;rw [if_neg (show¬(false=true) by decide)]at H;have H':=am_ H;clear H;have p432:0≤(x8_1:Int):=of_decide_eq_true yqv12_;have q432:x8_1<(l0.length:Int):=of_decide_eq_true yqv12_;obtain⟨ad432,e432,hx432_0,hx432_1,hx432_2⟩:=at_T75 HR0.out x8_1 p432 q432;cases e432;replace hx432_0:=ycst_ HB hx432_0;replace hx432_1:=ycst_ HB hx432_1;replace hx432_2:=ycst_ HB hx432_2;replace p432:=eq_true p432;replace q432:=eq_true q432;go_wp2_with (first|((with_reducible refine Go.Proofs.YtmjkehfbgaafjaaGreatDoorO.gate_tmp (t:=11) rfl ?_);refine Go.Proofs.YtmjkehfbgaafjaaGreatDoorO.goesT_ (some 16) rfl rfl (.tmp 11) rfl Tryz.func50 (by kernel_rfl) rfl #[.agg #[.string ((rd_T75 l0 x8_1).f0),.int .i64 ((rd_T75 l0 x8_1).f1),.int .i64 ((rd_T75 l0 x8_1).f2)]] rfl yk1_ ?_;(with_reducible refine(impl_DictOK_1.calls k1 ((rd_T75 l0 x8_1).f0) ((rd_T75 l0 x8_1).f1) ((rd_T75 l0 x8_1).f2) false _ A6.out).mono ?_);rintro e w9 ⟨rfl,hb⟩;refine⟨_,rfl,?_⟩;replace HB:=yst_ hb;(try clear hb)));go_roundg k1;case measure=>have:=HK1.out;omega
       case rel=>exact⟨(wrap64 (x8_1+1)),(by first|rfl|(simp;done)|(simp [*];done)),H',⟨by have:=HK1.out;omega⟩,⟨ybl_⟩⟩
     ·rw [if_neg c5]at H;exact absurd H (by simp)
    ·rw [if_neg c4]at H;exact absurd H (by simp)
   ·rw [if_neg c3]at H;have c3b0:decide (x8_1<(l0.length:Int))=false:=decide_eq_false c3;clear c3;obtain rfl:=Option.some.inj H;go_wp2;go_ret;exact⟨yk0_,ybl_⟩

/-! ### slices_ContainsFunc_Word_at_impl_DictOK_1: function 153 -/
def slices_ContainsFunc_Word_at_impl_DictOK_1.f (k:Nat) (l0:List (S75)):Option (Bool):=(slices_IndexFunc_Word_at_impl_DictOK_1.f k l0).bind fun t434=>(some (decide (t434≥0)))
theorem slices_ContainsFunc_Word_at_impl_DictOK_1.mono: ∀a0 k,LeO (slices_ContainsFunc_Word_at_impl_DictOK_1.f k a0) (slices_ContainsFunc_Word_at_impl_DictOK_1.f (k+1) a0):=by
 intro a0 k;unfold slices_ContainsFunc_Word_at_impl_DictOK_1.f;repeat' first
 |(with_reducible first|apply slices_IndexFunc_Word_at_impl_DictOK_1.mono|exact LeO.refl _|exact LeO.none _|refine LeO.ite ?_ ?_|refine LeO.bind ?_ (fun _=> ?_))
 |apply slices_IndexFunc_Word_at_impl_DictOK_1.mono|exact LeO.none _|refine LeO.ite ?_ ?_|refine LeO.bind ?_ (fun _=> ?_)
theorem slices_ContainsFunc_Word_at_impl_DictOK_1.calls (k:Nat) A0 c0 l0 (r:Bool) (w:World) (hr0:Kd.C k75 w A0 l0.length l0) (hc0:l0.length≤c0) (h:slices_ContainsFunc_Word_at_impl_DictOK_1.f k l0=some r):
  Calls Tryz.prog 49 #[.slice A0 l0.length c0,.func (.func 50) #[] #[]] w fun e w'=>e= .returned (.bool r)∧Below w.heap.size w w':=by
 have HR0:=am_ hr0;have HC0:=am_ hc0;clear hr0 hc0;have HB:=am_ (Below.refl w.heap.size w);have H:=h;clear h;rw [slices_ContainsFunc_Word_at_impl_DictOK_1.f]at H;replace H:=ob.mp H;obtain⟨t434,A30,H⟩:=H;replace H:(some (decide (t434≥0)))=some r:=H;have A3:=am_ A30;clear A30;obtain rfl:=Option.some.inj H;go_enter Tryz.func49,Tryz.ntmps49;go_wp2_with (first|((with_reducible refine gate_callee (f:=81) rfl ?_);refine goesL_ (some 7) rfl rfl Tryz.func81 (by kernel_rfl) rfl #[.slice A0 l0.length c0,.func (.func 50) #[] #[]] rfl yk1_ ?_;(with_reducible refine(slices_IndexFunc_Word_at_impl_DictOK_1.calls k _ _ l0 t434 _ ?s1 HC0.out A3.out).mono ?_);(case s1=>repeat(first|exact HR0.out|(with_reducible refine Kd.C_alloc ?_ _)|(with_reducible refine Kd.C_drewN ?_ _)|(with_reducible refine Kd.C_drew ?_)));rintro e w4 ⟨rfl,hb⟩;refine⟨_,rfl,?_⟩;replace HB:=yst_ hb;(try clear hb)));go_ret;exact⟨yk0_,ybl_⟩

/-! ### impl_DictOK: function 23 -/
def impl_DictOK.f (k:Nat) (l0:List (S75)):Option (Bool):=if(l0.length:Int)≤103 then((impl_KernelSame.f k l0).bind fun t435=>(if t435=true then(if 83≤(l0.length:Int)then((slices_ContainsFunc_Word_at_impl_DictOK_1.f k (l0.drop 83)).bind fun t440=>(some (!t440)))else(none))else(some false)))else(some false)
theorem impl_DictOK.mono: ∀a0 k,LeO (impl_DictOK.f k a0) (impl_DictOK.f (k+1) a0):=by
 intro a0 k;unfold impl_DictOK.f;repeat' first
 |(with_reducible first|apply impl_KernelSame.mono|apply slices_ContainsFunc_Word_at_impl_DictOK_1.mono|exact LeO.refl _|exact LeO.none _|refine LeO.ite ?_ ?_|refine LeO.bind ?_ (fun _=> ?_))
 |apply impl_KernelSame.mono|apply slices_ContainsFunc_Word_at_impl_DictOK_1.mono|exact LeO.none _|refine LeO.ite ?_ ?_|refine LeO.bind ?_ (fun _=> ?_)
theorem impl_DictOK.calls (k:Nat) A0 c0 l0 (r:Bool) (w:World) (hr0:Kd.C k75 w A0 l0.length l0) (hc0:l0.length≤c0) (h:impl_DictOK.f k l0=some r) (hG:GlobOK w:=by first|exact HGL.out|exact GlobOK.below HGL.out HB.out|exact GlobOK.below HGL.out ybl_|(repeat(first|exact HGL.out|apply GlobOK.drewN|apply GlobOK.drew|apply GlobOK.alloc))):
  Calls Tryz.prog 23 #[.slice A0 l0.length c0] w fun e w'=>e= .returned (.bool r)∧Below w.heap.size w w':=by
 have HGL:=am_ hG;clear hG;have HR0:=am_ hr0;have HC0:=am_ hc0;clear hr0 hc0;have HB:=am_ (Below.refl w.heap.size w);have H:=h;clear h;rw [impl_DictOK.f]at H;by_cases c2:(l0.length:Int)≤103
 ·rw [if_pos c2]at H;have c2b0:decide ((l0.length:Int)≤103)=true:=decide_eq_true c2;have c2b1:decide (l0.length≤103)=true:=decide_eq_true (by omega);clear c2;replace H:=ob.mp H;obtain⟨t435,A30,H⟩:=H;try dsimp only at H
  have A3:=am_ A30;clear A30;by_cases c4:t435=true
  ·subst c4;rw [if_pos rfl]at H;by_cases c5:83≤(l0.length:Int)
   ·rw [if_pos c5]at H;have c5b0:=eq_true c5;have c5b1:decide (83≤(l0.length:Int))=true:=decide_eq_true c5;clear c5;obtain⟨y436,hy436⟩: ∃y_:List (S75),y_=(l0.drop 83):=⟨_,rfl⟩
    replace H:((slices_ContainsFunc_Word_at_impl_DictOK_1.f k y436).bind fun t440=>(some (!t440)))=some r:=by first|(rw [hy436];with_reducible exact H)|(have H2_:=(Option.bind_some _ _).symm.trans H;rw [hy436];with_reducible exact H2_)|(have H2_:=(Option.bind_some _ _).symm.trans H;with_reducible exact H2_)|with_reducible exact H|(rw [hy436];exact H)|exact H
    have Ny436:=am_ hy436;clear hy436;replace H:=ob.mp H;obtain⟨t440,A60,H⟩:=H;replace H:(some (!t440))=some r:=H;have A6:=am_ A60;clear A60;obtain rfl:=Option.some.inj H;go_enter Tryz.func23,Tryz.ntmps23;go_wp2_with (first|(go_at_call 48;(with_reducible refine(impl_KernelSame.calls k (fun k_=>k_<w.heap.size) _ _ l0 true _ ?s1 A3.out).mono ?_);(case s1=>exact Kd.V_mk HC0.out (Kd.F_below (Kd.C_F k75_heap HR0.out) ybl_));rintro e w7 ⟨rfl,hb⟩;replace HB:=yst_ hb;(try clear hb);have q8:(83:Int)≤((l0.length:Int):Int):=of_decide_eq_true yqv12_;obtain⟨i08,hi08,_,hsz8,_⟩:=info_parts info75;have hroom8:l0.length≤c0:=HC0.out;have hC8:Kd.C k75 _ A0 l0.length l0:=HR0.out;have hcut8:=cut_from (P:=Tryz.prog) 35 75 .i64 Tryz.underlying35 hi08 3 hsz8 A0 l0.length c0 83 (by omega) q8;have hr8:=Kd.C_drop (m:=(83:Int).toNat) (c:=c0) hC8 (by omega) hroom8;obtain⟨A8,hA8⟩: ∃A1,A1=(if c0=(83:Int).toNat then A0 else(A0:Option Addr).map (·.add ((83:Int).toNat*3))):=⟨_,rfl⟩;obtain⟨c8,hc8⟩: ∃c1,c1=c0 - (83:Int).toNat:=⟨_,rfl⟩;have hy8:y436.length=l0.length - (83:Int).toNat:=(by rw [Ny436.out,List.length_drop]<;>omega);rw [show (l0).drop (83:Int).toNat=y436 from Ny436.out.symm]at hr8;replace hr8:Kd.C k75 _ A8 y436.length y436:=(by rw [hA8];exact hr8);rw [←hy8,←hA8,←hc8]at hcut8;have HR439:=am_ hr8;have HC439:=am_ (show y436.length≤c8 from by rw [hy8,hc8];exact Nat.sub_le_sub_right hroom8 _);clear hr8 hC8 hroom8 hi08 hsz8 hc8;have KY8:=am_ hy8;have KA8:=am_ hA8;clear hy8 hA8;replace q8:=eq_true q8)|(go_at_call 49;(with_reducible refine(slices_ContainsFunc_Word_at_impl_DictOK_1.calls k _ _ y436 t440 _ ?s1 HC439.out A6.out).mono ?_);(case s1=>exact ycb_ HR439 HB);rintro e w9 ⟨rfl,hb⟩;replace HB:=yst_ hb;(try clear hb)));go_ret;exact⟨yk0_,ybl_⟩
   ·rw [if_neg c5]at H;exact absurd H (by simp)
  ·replace c4:=bf.mpr c4;subst c4;rw [if_neg (show¬(false=true) by decide)]at H;obtain rfl:=Option.some.inj H;go_enter Tryz.func23,Tryz.ntmps23;go_wp2_with (first|(go_at_call 48;(with_reducible refine(impl_KernelSame.calls k (fun k_=>k_<w.heap.size) _ _ l0 false _ ?s1 A3.out).mono ?_);(case s1=>exact Kd.V_mk HC0.out (Kd.F_below (Kd.C_F k75_heap HR0.out) ybl_));rintro e w10 ⟨rfl,hb⟩;replace HB:=yst_ hb;(try clear hb)));go_ret;exact⟨yk0_,ybl_⟩
 ·rw [if_neg c2]at H;have c2b0:decide ((l0.length:Int)≤103)=false:=decide_eq_false c2;have c2b1:decide (l0.length≤103)=false:=decide_eq_false (by omega);clear c2;obtain rfl:=Option.some.inj H;go_enter Tryz.func23,Tryz.ntmps23;go_wp2;go_ret;exact⟨yk0_,ybl_⟩

-- NOT PRINTED: function 83 (slices_IndexFunc_int)

-- NOT PRINTED: function 52 (slices_ContainsFunc_int)

/-! ### impl_areCells_1: function 53 -/
def impl_areCells_1.f (a0:Int):Option (Bool):=(impl_CellOK.f a0).bind fun t441=>(some (!t441))
theorem impl_areCells_1.calls (a0:Int) (r:Bool) (w:World) (h:impl_areCells_1.f a0=some r):
  Calls Tryz.prog 53 #[.int .i64 a0] w fun e w'=>e= .returned (.bool r)∧Drawn0 w w':=by
 have H:=h;clear h;rw [impl_areCells_1.f]at H;replace H:=ob.mp H;obtain⟨t441,A20,H⟩:=H;replace H:(some (!t441))=some r:=H;have A2:=am_ A20;clear A20;obtain rfl:=Option.some.inj H;go_enter Tryz.func53,Tryz.ntmps53;go_wp2_with (first|((with_reducible refine gate_callee (f:=54) rfl ?_);refine goesL_ (some 4) rfl rfl Tryz.func54 (by kernel_rfl) rfl #[.int .i64 a0] rfl yk1_ ?_;(with_reducible refine(impl_CellOK.calls a0 t441 _ A2.out).mono ?_);rintro e w' ⟨rfl,⟨nd,rfl⟩⟩;refine⟨_,rfl,?_⟩));go_ret;exact⟨by first|rfl|(simp;done)|(simp [*];done),by repeat(first|exact Drawn0.refl _|apply Drawn0.step)⟩

/-! ### slices_IndexFunc_int_at_impl_areCells_1: function 156 -/
def slices_IndexFunc_int_at_impl_areCells_1.l0:Nat→List Int→Int→Int→Option (Int)
 |0,_,_,_=>none
 |k+1,x0,x7,x8=>if x8<x7 then(if 0≤x8 then(if x8<(x0.length:Int)then((impl_areCells_1.f (rd x0 x8)).bind fun t443=>(if t443=true then(some x8)else(slices_IndexFunc_int_at_impl_areCells_1.l0 k x0 x7 (wrap64 (x8+1)))))else(none))else(none))else(some (-1))
def slices_IndexFunc_int_at_impl_areCells_1.f (k:Nat) (l0:List Int):Option (Int):=slices_IndexFunc_int_at_impl_areCells_1.l0 k l0 (l0.length:Int) 0
theorem slices_IndexFunc_int_at_impl_areCells_1.mono_l: ∀k,(∀y0 y1 y2,LeO (slices_IndexFunc_int_at_impl_areCells_1.l0 k y0 y1 y2) (slices_IndexFunc_int_at_impl_areCells_1.l0 (k+1) y0 y1 y2))
 |0=>fun _ _ _ r h=>by simp [slices_IndexFunc_int_at_impl_areCells_1.l0]at h
 |k+1=>by
  have ih0:=slices_IndexFunc_int_at_impl_areCells_1.mono_l k
  ·intro y0 y1 y2;unfold slices_IndexFunc_int_at_impl_areCells_1.l0;repeat' first
   |(with_reducible first|apply ih0|exact LeO.refl _|exact LeO.none _|refine LeO.ite ?_ ?_|refine LeO.bind ?_ (fun _=> ?_))
   |apply ih0|exact LeO.none _|refine LeO.ite ?_ ?_|refine LeO.bind ?_ (fun _=> ?_)
theorem slices_IndexFunc_int_at_impl_areCells_1.mono: ∀a0 k,LeO (slices_IndexFunc_int_at_impl_areCells_1.f k a0) (slices_IndexFunc_int_at_impl_areCells_1.f (k+1) a0):=by
 intro a0 k;have ih0:=slices_IndexFunc_int_at_impl_areCells_1.mono_l k;unfold slices_IndexFunc_int_at_impl_areCells_1.f;repeat' first
 |(with_reducible first|apply ih0|exact LeO.refl _|exact LeO.none _|refine LeO.ite ?_ ?_|refine LeO.bind ?_ (fun _=> ?_))
 |apply ih0|exact LeO.none _|refine LeO.ite ?_ ?_|refine LeO.bind ?_ (fun _=> ?_)
theorem slices_IndexFunc_int_at_impl_areCells_1.calls (k:Nat) A0 c0 l0 (r:Int) (w:World) (hr0:Kd.C (Kd.int .i64) w A0 l0.length l0) (hc0:l0.length≤c0) (h:slices_IndexFunc_int_at_impl_areCells_1.f k l0=some r):
  Calls Tryz.prog 83 #[.slice A0 l0.length c0,.func (.func 53) #[] #[]] w fun e w'=>e= .returned (.int .i64 r)∧Drawn0 w w':=by
 have HR0:=am_ hr0;have HC0:=am_ hc0;clear hr0 hc0;have H:=h;clear h;rw [slices_IndexFunc_int_at_impl_areCells_1.f]at H;have H':=am_ H;clear H;go_enter Tryz.func83,Tryz.ntmps83;go_wp2;go_loopg [8] k (fun kq v8 w'=> ∃(x8_1:Int),v8= .int .i64 x8_1∧Aside0 (slices_IndexFunc_int_at_impl_areCells_1.l0 kq l0 (l0.length:Int) x8_1=some r)∧Aside0 (kq≤k)∧Drawn0 w w');case atStart=>exact⟨(0),(by first|rfl|(simp;done)|(simp [*];done)),H',⟨Nat.le_refl _⟩,by repeat(first|exact Drawn0.refl _|apply Drawn0.step)⟩
 case round=>
  clear H';try clear p2
  obtain⟨x8_1,rfl,HA,HK1,⟨m1,rfl⟩⟩:=hrel;cases gk with
  |zero=>exact absurd HA.out (by simp [slices_IndexFunc_int_at_impl_areCells_1.l0])
  |succ k1=>
   have H:=HA.out;clear HA;simp only [slices_IndexFunc_int_at_impl_areCells_1.l0]at H;by_cases c3:x8_1<(l0.length:Int)
   ·rw [if_pos c3]at H;have c3b0:decide (x8_1<(l0.length:Int))=true:=decide_eq_true c3;clear c3;by_cases c4:0≤x8_1
    ·rw [if_pos c4]at H;have c4b0:decide (0≤x8_1)=true:=decide_eq_true c4;clear c4;by_cases c5:x8_1<(l0.length:Int)
     ·rw [if_pos c5]at H;have c5b0:decide (x8_1<(l0.length:Int))=true:=decide_eq_true c5;clear c5;replace H:=ob.mp H;obtain⟨t443,A60,H⟩:=H;try dsimp only at H
      have A6:=am_ A60;clear A60;by_cases c7:t443=true
      ·subst c7;rw [if_pos rfl]at H;obtain rfl:=Option.some.inj H;have p442:0≤(x8_1:Int):=of_decide_eq_true yqv12_;have q442:x8_1<(l0.length:Int):=of_decide_eq_true yqv12_;obtain⟨ad442,e442,hx442_0⟩:=Kd.at_int HR0.out x8_1 p442 q442;cases e442;replace p442:=eq_true p442;replace q442:=eq_true q442;go_wp2_with (first|((with_reducible refine Go.Proofs.YtmjkehfbgaafjaaGreatDoorO.gate_tmp (t:=11) rfl ?_);refine Go.Proofs.YtmjkehfbgaafjaaGreatDoorO.goesT_ (some 16) rfl rfl (.tmp 11) rfl Tryz.func53 (by kernel_rfl) rfl #[.int .i64 (rd l0 x8_1)] rfl yk1_ ?_;(with_reducible refine(impl_areCells_1.calls (rd l0 x8_1) true _ A6.out).mono ?_);rintro e w' ⟨rfl,⟨nd,rfl⟩⟩;refine⟨_,rfl,?_⟩));go_ret;exact⟨by first|rfl|(simp;done)|(simp [*];done),by repeat(first|exact Drawn0.refl _|apply Drawn0.step)⟩
      ·replace c7:=bf.mpr c7;subst c7;rw [if_neg (show¬(false=true) by decide)]at H;have H':=am_ H;clear H;have p442:0≤(x8_1:Int):=of_decide_eq_true yqv12_;have q442:x8_1<(l0.length:Int):=of_decide_eq_true yqv12_;obtain⟨ad442,e442,hx442_0⟩:=Kd.at_int HR0.out x8_1 p442 q442;cases e442;replace p442:=eq_true p442;replace q442:=eq_true q442;go_wp2_with (first|((with_reducible refine Go.Proofs.YtmjkehfbgaafjaaGreatDoorO.gate_tmp (t:=11) rfl ?_);refine Go.Proofs.YtmjkehfbgaafjaaGreatDoorO.goesT_ (some 16) rfl rfl (.tmp 11) rfl Tryz.func53 (by kernel_rfl) rfl #[.int .i64 (rd l0 x8_1)] rfl yk1_ ?_;(with_reducible refine(impl_areCells_1.calls (rd l0 x8_1) false _ A6.out).mono ?_);rintro e w' ⟨rfl,⟨nd,rfl⟩⟩;refine⟨_,rfl,?_⟩));go_roundg k1;case measure=>have:=HK1.out;omega
       case rel=>exact⟨(wrap64 (x8_1+1)),(by first|rfl|(simp;done)|(simp [*];done)),H',⟨by have:=HK1.out;omega⟩,by repeat(first|exact Drawn0.refl _|apply Drawn0.step)⟩
     ·rw [if_neg c5]at H;exact absurd H (by simp)
    ·rw [if_neg c4]at H;exact absurd H (by simp)
   ·rw [if_neg c3]at H;have c3b0:decide (x8_1<(l0.length:Int))=false:=decide_eq_false c3;clear c3;obtain rfl:=Option.some.inj H;go_wp2;go_ret;exact⟨by first|rfl|(simp;done)|(simp [*];done),by repeat(first|exact Drawn0.refl _|apply Drawn0.step)⟩

/-! ### slices_ContainsFunc_int_at_impl_areCells_1: function 155 -/
def slices_ContainsFunc_int_at_impl_areCells_1.f (k:Nat) (l0:List Int):Option (Bool):=(slices_IndexFunc_int_at_impl_areCells_1.f k l0).bind fun t444=>(some (decide (t444≥0)))
theorem slices_ContainsFunc_int_at_impl_areCells_1.mono: ∀a0 k,LeO (slices_ContainsFunc_int_at_impl_areCells_1.f k a0) (slices_ContainsFunc_int_at_impl_areCells_1.f (k+1) a0):=by
 intro a0 k;unfold slices_ContainsFunc_int_at_impl_areCells_1.f;repeat' first
 |(with_reducible first|apply slices_IndexFunc_int_at_impl_areCells_1.mono|exact LeO.refl _|exact LeO.none _|refine LeO.ite ?_ ?_|refine LeO.bind ?_ (fun _=> ?_))
 |apply slices_IndexFunc_int_at_impl_areCells_1.mono|exact LeO.none _|refine LeO.ite ?_ ?_|refine LeO.bind ?_ (fun _=> ?_)
theorem slices_ContainsFunc_int_at_impl_areCells_1.calls (k:Nat) A0 c0 l0 (r:Bool) (w:World) (hr0:Kd.C (Kd.int .i64) w A0 l0.length l0) (hc0:l0.length≤c0) (h:slices_ContainsFunc_int_at_impl_areCells_1.f k l0=some r):
  Calls Tryz.prog 52 #[.slice A0 l0.length c0,.func (.func 53) #[] #[]] w fun e w'=>e= .returned (.bool r)∧Drawn0 w w':=by
 have HR0:=am_ hr0;have HC0:=am_ hc0;clear hr0 hc0;have H:=h;clear h;rw [slices_ContainsFunc_int_at_impl_areCells_1.f]at H;replace H:=ob.mp H;obtain⟨t444,A30,H⟩:=H;replace H:(some (decide (t444≥0)))=some r:=H;have A3:=am_ A30;clear A30;obtain rfl:=Option.some.inj H;go_enter Tryz.func52,Tryz.ntmps52;go_wp2_with (first|((with_reducible refine gate_callee (f:=83) rfl ?_);refine goesL_ (some 7) rfl rfl Tryz.func83 (by kernel_rfl) rfl #[.slice A0 l0.length c0,.func (.func 53) #[] #[]] rfl yk1_ ?_;(with_reducible refine(slices_IndexFunc_int_at_impl_areCells_1.calls k _ _ l0 t444 _ ?s1 HC0.out A3.out).mono ?_);(case s1=>repeat(first|exact HR0.out|(with_reducible refine Kd.C_alloc ?_ _)|(with_reducible refine Kd.C_drewN ?_ _)|(with_reducible refine Kd.C_drew ?_)));rintro e w' ⟨rfl,⟨nd,rfl⟩⟩;refine⟨_,rfl,?_⟩));go_ret;exact⟨by first|rfl|(simp;done)|(simp [*];done),by repeat(first|exact Drawn0.refl _|apply Drawn0.step)⟩

/-! ### impl_areCells: function 24 -/
def impl_areCells.f (k:Nat) (l0:List Int) (a1:Int):Option (Bool):=if(l0.length:Int)≤a1 then((slices_ContainsFunc_int_at_impl_areCells_1.f k l0).bind fun t445=>(some (!t445)))else(some false)
theorem impl_areCells.mono: ∀a0 a1 k,LeO (impl_areCells.f k a0 a1) (impl_areCells.f (k+1) a0 a1):=by
 intro a0 a1 k;unfold impl_areCells.f;repeat' first
 |(with_reducible first|apply slices_ContainsFunc_int_at_impl_areCells_1.mono|exact LeO.refl _|exact LeO.none _|refine LeO.ite ?_ ?_|refine LeO.bind ?_ (fun _=> ?_))
 |apply slices_ContainsFunc_int_at_impl_areCells_1.mono|exact LeO.none _|refine LeO.ite ?_ ?_|refine LeO.bind ?_ (fun _=> ?_)
theorem impl_areCells.calls (k:Nat) A0 c0 l0 (a1:Int) (r:Bool) (w:World) (hr0:Kd.C (Kd.int .i64) w A0 l0.length l0) (hc0:l0.length≤c0) (h:impl_areCells.f k l0 a1=some r):
  Calls Tryz.prog 24 #[.slice A0 l0.length c0,.int .i64 a1] w fun e w'=>e= .returned (.bool r)∧Drawn0 w w':=by
 have HR0:=am_ hr0;have HC0:=am_ hc0;clear hr0 hc0;have H:=h;clear h;rw [impl_areCells.f]at H;by_cases c3:(l0.length:Int)≤a1
 ·rw [if_pos c3]at H;have c3b0:decide ((l0.length:Int)≤a1)=true:=decide_eq_true c3;clear c3;replace H:=ob.mp H;obtain⟨t445,A40,H⟩:=H;replace H:(some (!t445))=some r:=H;have A4:=am_ A40;clear A40;obtain rfl:=Option.some.inj H;go_enter Tryz.func24,Tryz.ntmps24;go_wp2_with (first|(go_at_call 52;(with_reducible refine(slices_ContainsFunc_int_at_impl_areCells_1.calls k _ _ l0 t445 _ ?s1 HC0.out A4.out).mono ?_);(case s1=>repeat(first|exact HR0.out|(with_reducible refine Kd.C_alloc ?_ _)|(with_reducible refine Kd.C_drewN ?_ _)|(with_reducible refine Kd.C_drew ?_)));rintro e w' ⟨rfl,⟨nd,rfl⟩⟩));go_ret;exact⟨by first|rfl|(simp;done)|(simp [*];done),by repeat(first|exact Drawn0.refl _|apply Drawn0.step)⟩
 ·rw [if_neg c3]at H;have c3b0:decide ((l0.length:Int)≤a1)=false:=decide_eq_false c3;clear c3;obtain rfl:=Option.some.inj H;go_enter Tryz.func24,Tryz.ntmps24;go_wp2;go_ret;exact⟨by first|rfl|(simp;done)|(simp [*];done),by repeat(first|exact Drawn0.refl _|apply Drawn0.step)⟩

/-! ### impl_isBase: function 55 -/
def impl_isBase.f (a0:Int):Option (Bool):=(impl_in.f a0 2 16).bind fun t446=>(some t446)
theorem impl_isBase.calls (a0:Int) (r:Bool) (w:World) (h:impl_isBase.f a0=some r):
  Calls Tryz.prog 55 #[.int .i64 a0] w fun e w'=>e= .returned (.bool r)∧Drawn0 w w':=by
 have H:=h;clear h;rw [impl_isBase.f]at H;replace H:=ob.mp H;obtain⟨t446,A20,H⟩:=H;replace H:(some t446)=some r:=H;have A2:=am_ A20;clear A20;obtain rfl:=Option.some.inj H;go_enter Tryz.func55,Tryz.ntmps55;go_wp2_with (first|((with_reducible refine gate_callee (f:=27) rfl ?_);refine goesL_ (some 4) rfl rfl Tryz.func27 (by kernel_rfl) rfl #[.int .i64 a0,.int .i64 2,.int .i64 16] rfl yk1_ ?_;(with_reducible refine(impl_in.calls a0 2 16 t446 _ A2.out).mono ?_);rintro e w' ⟨rfl,⟨nd,rfl⟩⟩;refine⟨_,rfl,?_⟩));go_ret;exact⟨by first|rfl|(simp;done)|(simp [*];done),by repeat(first|exact Drawn0.refl _|apply Drawn0.step)⟩

end Go.Proofs.YtmjkehfbgaafjaaGreatDoor.PSM
