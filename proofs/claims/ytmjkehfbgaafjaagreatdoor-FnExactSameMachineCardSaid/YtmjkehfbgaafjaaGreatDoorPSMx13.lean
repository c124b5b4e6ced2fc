-- laid by a program of this session out of the translation's own print: Lean checks it
import Derived.Test.YtmjkehfbgaafjaaGreatDoorPSMx0
import Derived.Test.YtmjkehfbgaafjaaGreatDoorPSMx10
namespace Go.Proofs.YtmjkehfbgaafjaaGreatDoor.PSM
open Go.RowKit Go.Proofs.YtmjkehfbgaafjaaGreatDoorW.PrintWords Go.Proofs.YtmjkehfbgaafjaaGreatDoorW.PrintLast Go.Proofs.YtmjkehfbgaafjaaGreatDoorW.PrintMore
open Option renaming bind_eq_some_iff→ob
open Bool renaming eq_false_iff→bf
attribute [local go_sem] max2_int min2_int max_two min_two max_three min_three max_four min_four -- for this text's walks alone
set_option linter.unusedVariables false
set_option maxHeartbeats 8000000
set_option maxRecDepth 100000
set_option linter.unusedSimpArgs false

/-! ### spec_l08Calls: function 42 -/
def spec_l08Calls.l0:Nat→Int→Int→List (S75)→List Int→List Int→List Int→List Int→Int→Int→ByteArray→List Bool→List Int→List Int→Int→List (S88)→List (S63)→Int→Int→Option (Bool)
 |0,_,_,_,_,_,_,_,_,_,_,_,_,_,_,_,_,_,_=>none
 |k+1,x3,x4,x344000,x344001,x344002,x344003,x344004,x344005,x344006,x344007,x344008,x344009,x344010,x344011,x344012,x344013,x344014,x344015=>if x4<(x344013.length:Int)then(if 0≤x4 then((spec_l01In.f ((rd_T63 x344013 x4).f0) 0 2147483647).bind fun t347=>(if t347=true then((spec_l01In.f ((rd_T63 x344013 x4).f1) x3 (x344003.length:Int)).bind fun t348=>(if t348=true then(if(rd_T63 x344013 x4).f3=true then((spec_l01In.f ((rd_T63 x344013 x4).f2) 0 31).bind fun t349=>(if t349=true then(if((rd_T63 x344013 x4).f3=true)then(spec_l08Calls.l0 k ((rd_T63 x344013 x4).f1) (wrap64 (x4+1)) x344000 x344001 x344002 x344003 x344004 x344005 x344006 x344007 x344008 x344009 x344010 x344011 x344012 x344013 x344014 x344015)else(if((rd_T63 x344013 x4).f2)=0 then(spec_l08Calls.l0 k ((rd_T63 x344013 x4).f1) (wrap64 (x4+1)) x344000 x344001 x344002 x344003 x344004 x344005 x344006 x344007 x344008 x344009 x344010 x344011 x344012 x344013 x344014 x344015)else(some false)))else(some false)))else(if((rd_T63 x344013 x4).f3=true)then(spec_l08Calls.l0 k ((rd_T63 x344013 x4).f1) (wrap64 (x4+1)) x344000 x344001 x344002 x344003 x344004 x344005 x344006 x344007 x344008 x344009 x344010 x344011 x344012 x344013 x344014 x344015)else(if((rd_T63 x344013 x4).f2)=0 then(spec_l08Calls.l0 k ((rd_T63 x344013 x4).f1) (wrap64 (x4+1)) x344000 x344001 x344002 x344003 x344004 x344005 x344006 x344007 x344008 x344009 x344010 x344011 x344012 x344013 x344014 x344015)else(some false))))else(some false)))else(some false)))else(none))else(if(x344013.length:Int)=0 then(some true)else(if 0≤(wrap64 ((x344013.length:Int) - 1))then(if(wrap64 ((x344013.length:Int) - 1))<(x344013.length:Int)then(some (!((rd_T63 x344013 (wrap64 ((x344013.length:Int) - 1))).f3)))else(none))else(none)))
def spec_l08Calls.f (k:Nat) (l0_0:List (S75)) (l0_1 l0_2 l0_3 l0_4:List Int) (a0_5 a0_6:Int) (a0_7:ByteArray) (l0_8:List Bool) (l0_9 l0_10:List Int) (a0_11:Int) (l0_12:List (S88)) (l0_13:List (S63)) (a0_14 a0_15:Int):Option (Bool):=if(l0_13.length:Int)>16 then(some false)else(spec_l08Calls.l0 k 0 0 l0_0 l0_1 l0_2 l0_3 l0_4 a0_5 a0_6 a0_7 l0_8 l0_9 l0_10 a0_11 l0_12 l0_13 a0_14 a0_15)
theorem spec_l08Calls.mono_l: ∀k,(∀y0 y1 y2 y3 y4 y5 y6 y7 y8 y9 y10 y11 y12 y13 y14 y15 y16 y17,LeO (spec_l08Calls.l0 k y0 y1 y2 y3 y4 y5 y6 y7 y8 y9 y10 y11 y12 y13 y14 y15 y16 y17) (spec_l08Calls.l0 (k+1) y0 y1 y2 y3 y4 y5 y6 y7 y8 y9 y10 y11 y12 y13 y14 y15 y16 y17))
 |0=>fun _ _ _ _ _ _ _ _ _ _ _ _ _ _ _ _ _ _ r h=>by simp [spec_l08Calls.l0]at h
 |k+1=>by
  have ih0:=spec_l08Calls.mono_l k
  ·intro y0 y1 y2 y3 y4 y5 y6 y7 y8 y9 y10 y11 y12 y13 y14 y15 y16 y17;unfold spec_l08Calls.l0;repeat' first
   |(with_reducible first|apply ih0|exact LeO.refl _|exact LeO.none _|refine LeO.ite ?_ ?_|refine LeO.bind ?_ (fun _=> ?_))
   |apply ih0|exact LeO.none _|refine LeO.ite ?_ ?_|refine LeO.bind ?_ (fun _=> ?_)
theorem spec_l08Calls.mono: ∀a0 a1 a2 a3 a4 a5 a6 a7 a8 a9 a10 a11 a12 a13 a14 a15 k,LeO (spec_l08Calls.f k a0 a1 a2 a3 a4 a5 a6 a7 a8 a9 a10 a11 a12 a13 a14 a15) (spec_l08Calls.f (k+1) a0 a1 a2 a3 a4 a5 a6 a7 a8 a9 a10 a11 a12 a13 a14 a15):=by
 intro a0 a1 a2 a3 a4 a5 a6 a7 a8 a9 a10 a11 a12 a13 a14 a15 k;have ih0:=spec_l08Calls.mono_l k;unfold spec_l08Calls.f;repeat' first
 |(with_reducible first|apply ih0|exact LeO.refl _|exact LeO.none _|refine LeO.ite ?_ ?_|refine LeO.bind ?_ (fun _=> ?_))
 |apply ih0|exact LeO.none _|refine LeO.ite ?_ ?_|refine LeO.bind ?_ (fun _=> ?_)
theorem spec_l08Calls.calls (k:Nat) A0_0 c0_0 l0_0 A0_1 c0_1 l0_1 A0_2 c0_2 l0_2 A0_3 c0_3 l0_3 A0_4 c0_4 l0_4 (a0_5:Int) (a0_6:Int) (a0_7:ByteArray) A0_8 c0_8 l0_8 A0_9 c0_9 l0_9 A0_10 c0_10 l0_10 (a0_11:Int) A0_12 c0_12 l0_12 A0_13 c0_13 l0_13 (a0_14:Int) (a0_15:Int) (r:Bool) (w:World) (hr0_0:Kd.C k75 w A0_0 l0_0.length l0_0) (hc0_0:l0_0.length≤c0_0) (hr0_1:Kd.C (Kd.int .i64) w A0_1 l0_1.length l0_1) (hc0_1:l0_1.length≤c0_1) (hr0_2:Kd.C (Kd.int .i64) w A0_2 l0_2.length l0_2) (hc0_2:l0_2.length≤c0_2) (hr0_3:Kd.C (Kd.int .i64) w A0_3 l0_3.length l0_3) (hc0_3:l0_3.length≤c0_3) (hr0_4:Kd.C (Kd.int .i64) w A0_4 l0_4.length l0_4) (hc0_4:l0_4.length≤c0_4) (hr0_8:Kd.C Kd.bool w A0_8 l0_8.length l0_8) (hc0_8:l0_8.length≤c0_8) (hr0_9:Kd.C (Kd.int .i64) w A0_9 l0_9.length l0_9) (hc0_9:l0_9.length≤c0_9) (hr0_10:Kd.C (Kd.int .i64) w A0_10 l0_10.length l0_10) (hc0_10:l0_10.length≤c0_10) (hr0_12:Kd.C k88 w A0_12 l0_12.length l0_12) (hc0_12:l0_12.length≤c0_12) (hr0_13:Kd.C k63 w A0_13 l0_13.length l0_13) (hc0_13:l0_13.length≤c0_13) (h:spec_l08Calls.f k l0_0 l0_1 l0_2 l0_3 l0_4 a0_5 a0_6 a0_7 l0_8 l0_9 l0_10 a0_11 l0_12 l0_13 a0_14 a0_15=some r):
  Calls Tryz.prog 42 #[.agg #[.slice A0_0 l0_0.length c0_0,.slice A0_1 l0_1.length c0_1,.slice A0_2 l0_2.length c0_2,.slice A0_3 l0_3.length c0_3,.slice A0_4 l0_4.length c0_4,.int .i64 a0_5,.int .i64 a0_6,.string a0_7,.slice A0_8 l0_8.length c0_8,.slice A0_9 l0_9.length c0_9,.slice A0_10 l0_10.length c0_10,.int .i64 a0_11,.slice A0_12 l0_12.length c0_12,.slice A0_13 l0_13.length c0_13,.int .i64 a0_14,.int .i64 a0_15]] w fun e w'=>e= .returned (.bool r)∧Below w.heap.size w w':=by
 have hu42:=Tryz.underlying42;have hu63:=Tryz.underlying63;have HR0_0:=am_ hr0_0;have HC0_0:=am_ hc0_0;clear hr0_0 hc0_0;have HR0_1:=am_ hr0_1;have HC0_1:=am_ hc0_1;clear hr0_1 hc0_1;have HR0_2:=am_ hr0_2;have HC0_2:=am_ hc0_2;clear hr0_2 hc0_2;have HR0_3:=am_ hr0_3;have HC0_3:=am_ hc0_3;clear hr0_3 hc0_3;have HR0_4:=am_ hr0_4;have HC0_4:=am_ hc0_4;clear hr0_4 hc0_4;have HR0_8:=am_ hr0_8;have HC0_8:=am_ hc0_8;clear hr0_8 hc0_8;have HR0_9:=am_ hr0_9;have HC0_9:=am_ hc0_9;clear hr0_9 hc0_9;have HR0_10:=am_ hr0_10;have HC0_10:=am_ hc0_10;clear hr0_10 hc0_10;have HR0_12:=am_ hr0_12;have HC0_12:=am_ hc0_12;clear hr0_12 hc0_12;have HR0_13:=am_ hr0_13;have HC0_13:=am_ hc0_13;clear hr0_13 hc0_13;have HB:=am_ (Below.refl w.heap.size w);have H:=h;clear h;rw [spec_l08Calls.f]at H;by_cases c2:(l0_13.length:Int)>16
 ·rw [if_pos c2]at H;have c2b0:decide (16<(l0_13.length:Int))=true:=decide_eq_true c2;have c2b1:decide (16<l0_13.length)=true:=decide_eq_true (by omega);clear c2;obtain rfl:=Option.some.inj H;go_enter Tryz.func42,Tryz.ntmps42;go_wp2_with (first|((with_reducible refine gate_dst (N:=1) rfl ?_);(try(refine gate_guard (by rfl) ?_;dsimp only));refine box_event ?hg (N:=1) ?hd (cs:= #[.slice A0_0 l0_0.length c0_0,.slice A0_1 l0_1.length c0_1,.slice A0_2 l0_2.length c0_2,.slice A0_3 l0_3.length c0_3,.slice A0_4 l0_4.length c0_4,.int .i64 a0_5,.int .i64 a0_6,.string a0_7,.slice A0_8 l0_8.length c0_8,.slice A0_9 l0_9.length c0_9,.slice A0_10 l0_10.length c0_10,.int .i64 a0_11,.slice A0_12 l0_12.length c0_12,.slice A0_13 l0_13.length c0_13,.int .i64 a0_14,.int .i64 a0_15]) (t:=42) ?hr ?_;(case hd=>rfl);(case hg=>rfl);(case hr=>first|(go_simp;done)|(go_simp;rfl));intro gb343 hg w3 hbox hb;have BK343:=am_ (hbox);have GW343:=am_ ((ybsz_ hg:w.heap.size≤gb343));replace HB:=yst_ hb;clear hb hbox hg;have hcz4:=ye16_ BK343;have hfz4:=yf16_ BK343));go_ret;exact⟨yk0_,ybl_⟩
 ·rw [if_neg c2]at H;have c2b0:decide (16<(l0_13.length:Int))=false:=decide_eq_false c2;have c2b1:decide (16<l0_13.length)=false:=decide_eq_false (by omega);clear c2;have H':=am_ H;clear H;go_enter Tryz.func42,Tryz.ntmps42;go_wp2_with (first|((with_reducible refine gate_dst (N:=1) rfl ?_);(try(refine gate_guard (by rfl) ?_;dsimp only));refine box_event ?hg (N:=1) ?hd (cs:= #[.slice A0_0 l0_0.length c0_0,.slice A0_1 l0_1.length c0_1,.slice A0_2 l0_2.length c0_2,.slice A0_3 l0_3.length c0_3,.slice A0_4 l0_4.length c0_4,.int .i64 a0_5,.int .i64 a0_6,.string a0_7,.slice A0_8 l0_8.length c0_8,.slice A0_9 l0_9.length c0_9,.slice A0_10 l0_10.length c0_10,.int .i64 a0_11,.slice A0_12 l0_12.length c0_12,.slice A0_13 l0_13.length c0_13,.int .i64 a0_14,.int .i64 a0_15]) (t:=42) ?hr ?_;(case hd=>rfl);(case hg=>rfl);(case hr=>first|(go_simp;done)|(go_simp;rfl));intro gb343 hg w5 hbox hb;have BK343:=am_ (hbox);have GW343:=am_ ((ybsz_ hg:w.heap.size≤gb343));replace HB:=yst_ hb;clear hb hbox hg;have hcz6:=ye16_ BK343;have hfz6:=yf16_ BK343));go_loopg [3,4] k (fun kq v3 v4 w'=> ∃(x3_1:Int) (x4_1:Int),v3= .int .i64 x3_1∧v4= .int .i64 x4_1∧Aside0 (spec_l08Calls.l0 kq x3_1 x4_1 l0_0 l0_1 l0_2 l0_3 l0_4 a0_5 a0_6 a0_7 l0_8 l0_9 l0_10 a0_11 l0_12 l0_13 a0_14 a0_15=some r)∧Aside0 (kq≤k)∧Aside0 (w'.heap[gb343]?=some (.cells #[(.slice A0_0 l0_0.length c0_0),(.slice A0_1 l0_1.length c0_1),(.slice A0_2 l0_2.length c0_2),(.slice A0_3 l0_3.length c0_3),(.slice A0_4 l0_4.length c0_4),.int .i64 a0_5,.int .i64 a0_6,.string a0_7,(.slice A0_8 l0_8.length c0_8),(.slice A0_9 l0_9.length c0_9),(.slice A0_10 l0_10.length c0_10),.int .i64 a0_11,(.slice A0_12 l0_12.length c0_12),(.slice A0_13 l0_13.length c0_13),.int .i64 a0_14,.int .i64 a0_15] 42 (0,0)))∧Aside0 (Below w.heap.size w w'));case atStart=>exact⟨(0),(0),(by first|rfl|(simp;done)|(simp [*];done)),(by first|rfl|(simp;done)|(simp [*];done)),H',⟨Nat.le_refl _⟩,⟨(ybu_ BK343)⟩,⟨ybl_⟩⟩
  case round=>
   clear H';try clear c2
   try clear c2b0
   try clear c2b1
   try clear p2
   try clear c4
   try clear hcz4
   try clear hcz4
   try clear hcz4
   try clear hcz4
   try clear hcz4
   try clear hcz4
   try clear hcz4
   try clear hcz4
   try clear hcz4
   try clear hcz4
   try clear hcz4
   try clear hcz4
   try clear hcz4
   try clear hcz4
   try clear hcz4
   try clear hcz4
   try clear hcz6
   try clear hcz6
   try clear hcz6
   try clear hcz6
   try clear hcz6
   try clear hcz6
   try clear hcz6
   try clear hcz6
   try clear hcz6
   try clear hcz6
   try clear hcz6
   try clear hcz6
   try clear hcz6
   try clear hcz6
   try clear hcz6
   try clear hcz6
   try clear hfz4
   try clear hfz4
   try clear hfz4
   try clear hfz4
   try clear hfz4
   try clear hfz4
   try clear hfz4
   try clear hfz4
   try clear hfz4
   try clear hfz4
   try clear hfz4
   try clear hfz4
   try clear hfz4
   try clear hfz4
   try clear hfz4
   try clear hfz4
   try clear hfz6
   try clear hfz6
   try clear hfz6
   try clear hfz6
   try clear hfz6
   try clear hfz6
   try clear hfz6
   try clear hfz6
   try clear hfz6
   try clear hfz6
   try clear hfz6
   try clear hfz6
   try clear hfz6
   try clear hfz6
   try clear hfz6
   try clear hfz6
   obtain⟨x3_1,x4_1,rfl,rfl,HA,HK1,BK343,HB⟩:=hrel;cases gk with
   |zero=>exact absurd HA.out (by simp [spec_l08Calls.l0])
   |succ k1=>
    have H:=HA.out;clear HA;simp only [spec_l08Calls.l0]at H;by_cases c7:x4_1<(l0_13.length:Int)
    ·rw [if_pos c7]at H;have c7b0:decide (x4_1<(l0_13.length:Int))=true:=decide_eq_true c7;clear c7;by_cases c8:0≤x4_1
     ·rw [if_pos c8]at H;have c8b0:decide (0≤x4_1)=true:=decide_eq_true c8;clear c8;replace H:=ob.mp H;obtain⟨t347,A90,H⟩:=H;try dsimp only at H
      have A9:=am_ A90;clear A90;by_cases c10:t347=true
      ·subst c10;rw [if_pos rfl]at H;replace H:=ob.mp H;obtain⟨t348,A110,H⟩:=H;try dsimp only at H
       have A11:=am_ A110;clear A110;by_cases c12:t348=true
       ·subst c12;rw [if_pos rfl]at H;obtain⟨bq13,hbq13⟩: ∃b_:Bool,b_=((rd_T63 l0_13 x4_1).f3):=⟨_,rfl⟩
        replace H:(if bq13=true then((spec_l01In.f ((rd_T63 l0_13 x4_1).f2) 0 31).bind fun t349=>(if t349=true then(if(bq13=true)then(spec_l08Calls.l0 k1 ((rd_T63 l0_13 x4_1).f1) (wrap64 (x4_1+1)) l0_0 l0_1 l0_2 l0_3 l0_4 a0_5 a0_6 a0_7 l0_8 l0_9 l0_10 a0_11 l0_12 l0_13 a0_14 a0_15)else(if((rd_T63 l0_13 x4_1).f2)=0 then(spec_l08Calls.l0 k1 ((rd_T63 l0_13 x4_1).f1) (wrap64 (x4_1+1)) l0_0 l0_1 l0_2 l0_3 l0_4 a0_5 a0_6 a0_7 l0_8 l0_9 l0_10 a0_11 l0_12 l0_13 a0_14 a0_15)else(some false)))else(some false)))else(if(bq13=true)then(spec_l08Calls.l0 k1 ((rd_T63 l0_13 x4_1).f1) (wrap64 (x4_1+1)) l0_0 l0_1 l0_2 l0_3 l0_4 a0_5 a0_6 a0_7 l0_8 l0_9 l0_10 a0_11 l0_12 l0_13 a0_14 a0_15)else(if((rd_T63 l0_13 x4_1).f2)=0 then(spec_l08Calls.l0 k1 ((rd_T63 l0_13 x4_1).f1) (wrap64 (x4_1+1)) l0_0 l0_1 l0_2 l0_3 l0_4 a0_5 a0_6 a0_7 l0_8 l0_9 l0_10 a0_11 l0_12 l0_13 a0_14 a0_15)else(some false))))=some r:=by rw [←hbq13]at H;exact H
        have Nbq13:=am_ hbq13;clear hbq13;by_cases c14:bq13=true
        ·subst c14;rw [if_pos rfl]at H;replace H:=ob.mp H;obtain⟨t349,A150,H⟩:=H;try dsimp only at H
         have A15:=am_ A150;clear A150;by_cases c16:t349=true
         ·subst c16;rw [if_pos rfl]at H;by_cases c17:(true=true)
          ·clear c17;rw [if_pos rfl]at H;have H':=am_ H;clear H;have hcz18:=ye16_ BK343;have hfz18:=yf16_ BK343;have p345:0≤(x4_1:Int):=of_decide_eq_true yqv12_;have q345:x4_1<(l0_13.length:Int):=of_decide_eq_true yqv12_;obtain⟨ad345,e345,hx345_0,hx345_1,hx345_2,hx345_3⟩:=at_T63 HR0_13.out x4_1 p345 q345;(try rw [←Nbq13.out]at hx345_3);cases e345;replace hx345_0:=ycst_ HB hx345_0;replace hx345_1:=ycst_ HB hx345_1;replace hx345_2:=ycst_ HB hx345_2;replace hx345_3:=ycst_ HB hx345_3;replace p345:=eq_true p345;replace q345:=eq_true q345;go_wp2_with (first|((with_reducible refine gate_dst (N:=5) rfl ?_);(try(refine gate_guard (by rfl) ?_;dsimp only));refine box_event ?hg (N:=5) ?hd (cs:= #[.int .i64 0,.int .i64 0,.int .i64 0,.bool false]) (t:=63) ?hr ?_;(case hd=>rfl);(case hg=>rfl);(case hr=>first|(go_simp;done)|(go_simp;rfl));intro gb346 hg w19 hbox hb;have BK346:=am_ (hbox);have GW346:=am_ ((ybsz_ hg:w.heap.size≤gb346));replace HB:=yst_ hb;have NB343_346:=am_ (ybne_ hg BK343);have NB346_343:=am_ ((ybne_ hg BK343).symm);replace BK343:=am_ (ybb_ BK343 hb);clear hb hbox hg;have hnb20:=NB346_343.out;have hnc20:=NB343_346.out;have hcz21:=ye4_ BK346;have hfz21:=yf4_ BK346)|((with_reducible refine gate_callee (f:=43) rfl ?_);refine goesL_ (some 24) rfl rfl Tryz.func43 (by kernel_rfl) rfl #[.int .i64 ((rd_T63 l0_13 x4_1).f0),.int .i64 0,.int .i64 2147483647] rfl yk1_ ?_;(with_reducible refine(spec_l01In.calls ((rd_T63 l0_13 x4_1).f0) 0 2147483647 true _ A9.out).mono ?_);rintro e w' ⟨rfl,⟨nd,rfl⟩⟩;refine⟨_,rfl,?_⟩;have hcz22:=ye16_ BK343;have hfz22:=yf16_ BK343)|(go_at_call 43;(with_reducible refine(spec_l01In.calls ((rd_T63 l0_13 x4_1).f1) x3_1 (l0_3.length:Int) true _ A11.out).mono ?_);rintro e w' ⟨rfl,⟨nd,rfl⟩⟩)|(go_at_call 43;(with_reducible refine(spec_l01In.calls ((rd_T63 l0_13 x4_1).f2) 0 31 true _ A15.out).mono ?_);rintro e w' ⟨rfl,⟨nd,rfl⟩⟩));go_roundg k1;case measure=>have:=HK1.out;omega
           case rel=>exact⟨((rd_T63 l0_13 x4_1).f1),(wrap64 (x4_1+1)),(by first|rfl|(simp;done)|(simp [*];done)),(by first|rfl|(simp;done)|(simp [*];done)),H',⟨by have:=HK1.out;omega⟩,⟨(ybf_ BK343)⟩,⟨(ybl_)⟩⟩
          ·exact absurd rfl c17
         ·replace c16:=bf.mpr c16;subst c16;rw [if_neg (show¬(false=true) by decide)]at H;obtain rfl:=Option.some.inj H;have hcz34:=ye16_ BK343;have hfz34:=yf16_ BK343;have p345:0≤(x4_1:Int):=of_decide_eq_true yqv12_;have q345:x4_1<(l0_13.length:Int):=of_decide_eq_true yqv12_;obtain⟨ad345,e345,hx345_0,hx345_1,hx345_2,hx345_3⟩:=at_T63 HR0_13.out x4_1 p345 q345;(try rw [←Nbq13.out]at hx345_3);cases e345;replace hx345_0:=ycst_ HB hx345_0;replace hx345_1:=ycst_ HB hx345_1;replace hx345_2:=ycst_ HB hx345_2;replace hx345_3:=ycst_ HB hx345_3;replace p345:=eq_true p345;replace q345:=eq_true q345;go_wp2_with (first|((with_reducible refine gate_dst (N:=5) rfl ?_);(try(refine gate_guard (by rfl) ?_;dsimp only));refine box_event ?hg (N:=5) ?hd (cs:= #[.int .i64 0,.int .i64 0,.int .i64 0,.bool false]) (t:=63) ?hr ?_;(case hd=>rfl);(case hg=>rfl);(case hr=>first|(go_simp;done)|(go_simp;rfl));intro gb346 hg w35 hbox hb;have BK346:=am_ (hbox);have GW346:=am_ ((ybsz_ hg:w.heap.size≤gb346));replace HB:=yst_ hb;have NB343_346:=am_ (ybne_ hg BK343);have NB346_343:=am_ ((ybne_ hg BK343).symm);replace BK343:=am_ (ybb_ BK343 hb);clear hb hbox hg;have hnb36:=NB346_343.out;have hnc36:=NB343_346.out;have hcz37:=ye4_ BK346;have hfz37:=yf4_ BK346)|((with_reducible refine gate_callee (f:=43) rfl ?_);refine goesL_ (some 24) rfl rfl Tryz.func43 (by kernel_rfl) rfl #[.int .i64 ((rd_T63 l0_13 x4_1).f0),.int .i64 0,.int .i64 2147483647] rfl yk1_ ?_;(with_reducible refine(spec_l01In.calls ((rd_T63 l0_13 x4_1).f0) 0 2147483647 true _ A9.out).mono ?_);rintro e w' ⟨rfl,⟨nd,rfl⟩⟩;refine⟨_,rfl,?_⟩;have hcz38:=ye16_ BK343;have hfz38:=yf16_ BK343)|(go_at_call 43;(with_reducible refine(spec_l01In.calls ((rd_T63 l0_13 x4_1).f1) x3_1 (l0_3.length:Int) true _ A11.out).mono ?_);rintro e w' ⟨rfl,⟨nd,rfl⟩⟩)|(go_at_call 43;(with_reducible refine(spec_l01In.calls ((rd_T63 l0_13 x4_1).f2) 0 31 false _ A15.out).mono ?_);rintro e w' ⟨rfl,⟨nd,rfl⟩⟩));go_ret;exact⟨yk0_,ybl_⟩
        ·replace c14:=bf.mpr c14;subst c14;rw [if_neg (show¬(false=true) by decide)]at H;by_cases c39:(false=true)
         ·exact absurd c39 (by decide)
         ·clear c39;rw [if_neg (show¬(false=true) by decide)]at H;by_cases c45:((rd_T63 l0_13 x4_1).f2)=0
          ·rw [if_pos c45]at H;have c45b0:(((rd_T63 l0_13 x4_1).f2)==0)=true:=beq_iff_eq.mpr c45;have c45b1:(((rd_T63 l0_13 x4_1).f2) !=0)=false:=bne_eq_false_iff_eq.mpr c45;clear c45;have H':=am_ H;clear H;have hcz46:=ye16_ BK343;have hfz46:=yf16_ BK343;have p345:0≤(x4_1:Int):=of_decide_eq_true yqv12_;have q345:x4_1<(l0_13.length:Int):=of_decide_eq_true yqv12_;obtain⟨ad345,e345,hx345_0,hx345_1,hx345_2,hx345_3⟩:=at_T63 HR0_13.out x4_1 p345 q345;(try rw [←Nbq13.out]at hx345_3);cases e345;replace hx345_0:=ycst_ HB hx345_0;replace hx345_1:=ycst_ HB hx345_1;replace hx345_2:=ycst_ HB hx345_2;replace hx345_3:=ycst_ HB hx345_3;replace p345:=eq_true p345;replace q345:=eq_true q345;go_wp2_with (first|((with_reducible refine gate_dst (N:=5) rfl ?_);(try(refine gate_guard (by rfl) ?_;dsimp only));refine box_event ?hg (N:=5) ?hd (cs:= #[.int .i64 0,.int .i64 0,.int .i64 0,.bool false]) (t:=63) ?hr ?_;(case hd=>rfl);(case hg=>rfl);(case hr=>first|(go_simp;done)|(go_simp;rfl));intro gb346 hg w47 hbox hb;have BK346:=am_ (hbox);have GW346:=am_ ((ybsz_ hg:w.heap.size≤gb346));replace HB:=yst_ hb;have NB343_346:=am_ (ybne_ hg BK343);have NB346_343:=am_ ((ybne_ hg BK343).symm);replace BK343:=am_ (ybb_ BK343 hb);clear hb hbox hg;have hnb48:=NB346_343.out;have hnc48:=NB343_346.out;have hcz49:=ye4_ BK346;have hfz49:=yf4_ BK346)|((with_reducible refine gate_callee (f:=43) rfl ?_);refine goesL_ (some 24) rfl rfl Tryz.func43 (by kernel_rfl) rfl #[.int .i64 ((rd_T63 l0_13 x4_1).f0),.int .i64 0,.int .i64 2147483647] rfl yk1_ ?_;(with_reducible refine(spec_l01In.calls ((rd_T63 l0_13 x4_1).f0) 0 2147483647 true _ A9.out).mono ?_);rintro e w' ⟨rfl,⟨nd,rfl⟩⟩;refine⟨_,rfl,?_⟩;have hcz50:=ye16_ BK343;have hfz50:=yf16_ BK343)|(go_at_call 43;(with_reducible refine(spec_l01In.calls ((rd_T63 l0_13 x4_1).f1) x3_1 (l0_3.length:Int) true _ A11.out).mono ?_);rintro e w' ⟨rfl,⟨nd,rfl⟩⟩));go_roundg k1;case measure=>have:=HK1.out;omega
           case rel=>exact⟨((rd_T63 l0_13 x4_1).f1),(wrap64 (x4_1+1)),(by first|rfl|(simp;done)|(simp [*];done)),(by first|rfl|(simp;done)|(simp [*];done)),H',⟨by have:=HK1.out;omega⟩,⟨(ybf_ BK343)⟩,⟨(ybl_)⟩⟩
          ·rw [if_neg c45]at H;have c45b0:(((rd_T63 l0_13 x4_1).f2)==0)=false:=beq_eq_false_iff_ne.mpr c45;have c45b1:(((rd_T63 l0_13 x4_1).f2) !=0)=true:=bne_iff_ne.mpr c45;obtain rfl:=Option.some.inj H;have hcz51:=ye16_ BK343;have hfz51:=yf16_ BK343;have p345:0≤(x4_1:Int):=of_decide_eq_true yqv12_;have q345:x4_1<(l0_13.length:Int):=of_decide_eq_true yqv12_;obtain⟨ad345,e345,hx345_0,hx345_1,hx345_2,hx345_3⟩:=at_T63 HR0_13.out x4_1 p345 q345;(try rw [←Nbq13.out]at hx345_3);cases e345;replace hx345_0:=ycst_ HB hx345_0;replace hx345_1:=ycst_ HB hx345_1;replace hx345_2:=ycst_ HB hx345_2;replace hx345_3:=ycst_ HB hx345_3;replace p345:=eq_true p345;replace q345:=eq_true q345;go_wp2_with (first|((with_reducible refine gate_dst (N:=5) rfl ?_);(try(refine gate_guard (by rfl) ?_;dsimp only));refine box_event ?hg (N:=5) ?hd (cs:= #[.int .i64 0,.int .i64 0,.int .i64 0,.bool false]) (t:=63) ?hr ?_;(case hd=>rfl);(case hg=>rfl);(case hr=>first|(go_simp;done)|(go_simp;rfl));intro gb346 hg w52 hbox hb;have BK346:=am_ (hbox);have GW346:=am_ ((ybsz_ hg:w.heap.size≤gb346));replace HB:=yst_ hb;have NB343_346:=am_ (ybne_ hg BK343);have NB346_343:=am_ ((ybne_ hg BK343).symm);replace BK343:=am_ (ybb_ BK343 hb);clear hb hbox hg;have hnb53:=NB346_343.out;have hnc53:=NB343_346.out;have hcz54:=ye4_ BK346;have hfz54:=yf4_ BK346)|((with_reducible refine gate_callee (f:=43) rfl ?_);refine goesL_ (some 24) rfl rfl Tryz.func43 (by kernel_rfl) rfl #[.int .i64 ((rd_T63 l0_13 x4_1).f0),.int .i64 0,.int .i64 2147483647] rfl yk1_ ?_;(with_reducible refine(spec_l01In.calls ((rd_T63 l0_13 x4_1).f0) 0 2147483647 true _ A9.out).mono ?_);rintro e w' ⟨rfl,⟨nd,rfl⟩⟩;refine⟨_,rfl,?_⟩;have hcz55:=ye16_ BK343;have hfz55:=yf16_ BK343)|(go_at_call 43;(with_reducible refine(spec_l01In.calls ((rd_T63 l0_13 x4_1).f1) x3_1 (l0_3.length:Int) true _ A11.out).mono ?_);rintro e w' ⟨rfl,⟨nd,rfl⟩⟩));go_ret;exact⟨yk0_,ybl_⟩
       ·replace c12:=bf.mpr c12;subst c12;rw [if_neg (show¬(false=true) by decide)]at H;obtain rfl:=Option.some.inj H;have hcz56:=ye16_ BK343;have hfz56:=yf16_ BK343;have p345:0≤(x4_1:Int):=of_decide_eq_true yqv12_;have q345:x4_1<(l0_13.length:Int):=of_decide_eq_true yqv12_;obtain⟨ad345,e345,hx345_0,hx345_1,hx345_2,hx345_3⟩:=at_T63 HR0_13.out x4_1 p345 q345;cases e345;replace hx345_0:=ycst_ HB hx345_0;replace hx345_1:=ycst_ HB hx345_1;replace hx345_2:=ycst_ HB hx345_2;replace hx345_3:=ycst_ HB hx345_3;replace p345:=eq_true p345;replace q345:=eq_true q345;go_wp2_with (first|((with_reducible refine gate_dst (N:=5) rfl ?_);(try(refine gate_guard (by rfl) ?_;dsimp only));refine box_event ?hg (N:=5) ?hd (cs:= #[.int .i64 0,.int .i64 0,.int .i64 0,.bool false]) (t:=63) ?hr ?_;(case hd=>rfl);(case hg=>rfl);(case hr=>first|(go_simp;done)|(go_simp;rfl));intro gb346 hg w57 hbox hb;have BK346:=am_ (hbox);have GW346:=am_ ((ybsz_ hg:w.heap.size≤gb346));replace HB:=yst_ hb;have NB343_346:=am_ (ybne_ hg BK343);have NB346_343:=am_ ((ybne_ hg BK343).symm);replace BK343:=am_ (ybb_ BK343 hb);clear hb hbox hg;have hnb58:=NB346_343.out;have hnc58:=NB343_346.out;have hcz59:=ye4_ BK346;have hfz59:=yf4_ BK346)|((with_reducible refine gate_callee (f:=43) rfl ?_);refine goesL_ (some 24) rfl rfl Tryz.func43 (by kernel_rfl) rfl #[.int .i64 ((rd_T63 l0_13 x4_1).f0),.int .i64 0,.int .i64 2147483647] rfl yk1_ ?_;(with_reducible refine(spec_l01In.calls ((rd_T63 l0_13 x4_1).f0) 0 2147483647 true _ A9.out).mono ?_);rintro e w' ⟨rfl,⟨nd,rfl⟩⟩;refine⟨_,rfl,?_⟩;have hcz60:=ye16_ BK343;have hfz60:=yf16_ BK343)|(go_at_call 43;(with_reducible refine(spec_l01In.calls ((rd_T63 l0_13 x4_1).f1) x3_1 (l0_3.length:Int) false _ A11.out).mono ?_);rintro e w' ⟨rfl,⟨nd,rfl⟩⟩));go_ret;exact⟨yk0_,ybl_⟩
      ·replace c10:=bf.mpr c10;subst c10;rw [if_neg (show¬(false=true) by decide)]at H;obtain rfl:=Option.some.inj H;have hcz61:=ye16_ BK343;have hfz61:=yf16_ BK343;have p345:0≤(x4_1:Int):=of_decide_eq_true yqv12_;have q345:x4_1<(l0_13.length:Int):=of_decide_eq_true yqv12_;obtain⟨ad345,e345,hx345_0,hx345_1,hx345_2,hx345_3⟩:=at_T63 HR0_13.out x4_1 p345 q345;cases e345;replace hx345_0:=ycst_ HB hx345_0;replace hx345_1:=ycst_ HB hx345_1;replace hx345_2:=ycst_ HB hx345_2;replace hx345_3:=ycst_ HB hx345_3;replace p345:=eq_true p345;replace q345:=eq_true q345;go_wp2_with (first|((with_reducible refine gate_dst (N:=5) rfl ?_);(try(refine gate_guard (by rfl) ?_;dsimp only));refine box_event ?hg (N:=5) ?hd (cs:= #[.int .i64 0,.int .i64 0,.int .i64 0,.bool false]) (t:=63) ?hr ?_;(case hd=>rfl);(case hg=>rfl);(case hr=>first|(go_simp;done)|(go_simp;rfl));intro gb346 hg w62 hbox hb;have BK346:=am_ (hbox);have GW346:=am_ ((ybsz_ hg:w.heap.size≤gb346));replace HB:=yst_ hb;have NB343_346:=am_ (ybne_ hg BK343);have NB346_343:=am_ ((ybne_ hg BK343).symm);replace BK343:=am_ (ybb_ BK343 hb);clear hb hbox hg;have hnb63:=NB346_343.out;have hnc63:=NB343_346.out;have hcz64:=ye4_ BK346;have hfz64:=yf4_ BK346)|((with_reducible refine gate_callee (f:=43) rfl ?_);refine goesL_ (some 24) rfl rfl Tryz.func43 (by kernel_rfl) rfl #[.int .i64 ((rd_T63 l0_13 x4_1).f0),.int .i64 0,.int .i64 2147483647] rfl yk1_ ?_;(with_reducible refine(spec_l01In.calls ((rd_T63 l0_13 x4_1).f0) 0 2147483647 false _ A9.out).mono ?_);rintro e w' ⟨rfl,⟨nd,rfl⟩⟩;refine⟨_,rfl,?_⟩));go_ret;exact⟨yk0_,ybl_⟩
     ·rw [if_neg c8]at H;exact absurd H (by simp)
    ·rw [if_neg c7]at H;have c7b0:decide (x4_1<(l0_13.length:Int))=false:=decide_eq_false c7;clear c7;by_cases c65:(l0_13.length:Int)=0
     ·rw [if_pos c65]at H;have c65b0:((l0_13.length:Int)==0)=true:=beq_iff_eq.mpr c65;have c65b1:((l0_13.length:Int) !=0)=false:=bne_eq_false_iff_eq.mpr c65;clear c65;obtain rfl:=Option.some.inj H;have hcz66:=ye16_ BK343;have hfz66:=yf16_ BK343;go_wp2;go_ret;exact⟨yk0_,ybl_⟩
     ·rw [if_neg c65]at H;have c65b0:((l0_13.length:Int)==0)=false:=beq_eq_false_iff_ne.mpr c65;have c65b1:((l0_13.length:Int) !=0)=true:=bne_iff_ne.mpr c65;have c65b2: ¬(l0_13= []):=fun h_=>c65 (by rw [h_];rfl)
      obtain⟨ji67,hji67⟩: ∃j_:Int,(wrap64 ((l0_13.length:Int) - 1))=j_:=⟨_,rfl⟩
      replace H:(if 0≤(ji67)then(if(ji67)<(l0_13.length:Int)then(some (!((rd_T63 l0_13 (ji67)).f3)))else(none))else(none))=some r:=by first|(rw [hji67]at H;exact H)|(simp only [hji67]at H⊢;exact H)
      have hji67w:(IntKind.i64.wrap ((l0_13.length:Int) - 1))=ji67:=(i64_w _).trans hji67;by_cases c68:0≤(ji67)
      ·rw [if_pos c68]at H;have c68b0:decide (0≤(ji67))=true:=decide_eq_true c68;clear c68;by_cases c69:(ji67)<(l0_13.length:Int)
       ·rw [if_pos c69]at H;have c69b0:decide ((ji67)<(l0_13.length:Int))=true:=decide_eq_true c69;clear c69;obtain rfl:=Option.some.inj H;have hcz70:=ye16_ BK343;have hfz70:=yf16_ BK343;have p344:0≤((ji67):Int):=of_decide_eq_true yqv12_;have q344:(ji67)<(l0_13.length:Int):=of_decide_eq_true yqv12_;obtain⟨ad344,e344,hx344_0,hx344_1,hx344_2,hx344_3⟩:=at_T63 HR0_13.out (ji67) p344 q344;cases e344;replace hx344_0:=ycst_ HB hx344_0;replace hx344_1:=ycst_ HB hx344_1;replace hx344_2:=ycst_ HB hx344_2;replace hx344_3:=ycst_ HB hx344_3;replace p344:=eq_true p344;replace q344:=eq_true q344;go_wp2;go_ret;exact⟨by first|rfl|(simp [errW_none,errW_some]<;>rfl)|(simp only [←hji67];first|rfl|(simp [errW_none,errW_some]<;>rfl))|(simp [*,errW_none,errW_some]<;>rfl),ybl_⟩
       ·rw [if_neg c69]at H;exact absurd H (by simp)
      ·rw [if_neg c68]at H;exact absurd H (by simp)

end Go.Proofs.YtmjkehfbgaafjaaGreatDoor.PSM
