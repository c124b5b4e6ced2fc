-- laid by a program of this session out of the translation's own print: Lean checks it
import Derived.Test.YthmcanjeeljnhaaPTJx0
namespace Go.Proofs.Ythmcanjeeljnhaa.PTJ
open Go.RowKit Go.Proofs.YthmcanjeeljnhaaW.PrintWords Go.Proofs.YthmcanjeeljnhaaW.PrintLast Go.Proofs.YthmcanjeeljnhaaW.PrintMore
attribute [local go_sem] max2_int min2_int max_two min_two max_three min_three max_four min_four -- for this text's walks alone
set_option linter.unusedVariables false
set_option maxHeartbeats 8000000
set_option maxRecDepth 100000
set_option linter.unusedSimpArgs false

/-! ### spec_l01In: function 46 -/
def spec_l01In.f (a0 a1 a2:Int):Option (Bool):=if a0≥a1 then(some (decide (a0≤a2)))else(some false)
theorem spec_l01In.calls (a0 a1 a2:Int) (r:Bool) (w:World) (h:spec_l01In.f a0 a1 a2=some r):
  Calls Try.prog 46 #[.int .i64 a0,.int .i64 a1,.int .i64 a2] w fun e w'=>e= .returned (.bool r)∧Drawn0 w w':=by
 have H:=h;clear h;rw [spec_l01In.f]at H;by_cases c4:a0≥a1
 ·rw [if_pos c4]at H;have c4b0:decide (a1≤a0)=true:=decide_eq_true c4;clear c4;obtain rfl:=Option.some.inj H;go_enter Try.func46,Try.ntmps46;go_wp2;go_ret;exact⟨by first|rfl|(simp;done)|(simp [*];done),by repeat(first|exact Drawn0.refl _|apply Drawn0.step)⟩
 ·rw [if_neg c4]at H;have c4b0:decide (a1≤a0)=false:=decide_eq_false c4;clear c4;obtain rfl:=Option.some.inj H;go_enter Try.func46,Try.ntmps46;go_wp2;go_ret;exact⟨by first|rfl|(simp;done)|(simp [*];done),by repeat(first|exact Drawn0.refl _|apply Drawn0.step)⟩

/-! ### spec_l01Cell: function 47 -/
def spec_l01Cell.f (a0:Int):Option (Bool):=(spec_l01In.f a0 (-2147483648) 2147483647).bind fun t101=>(some t101)
theorem spec_l01Cell.calls (a0:Int) (r:Bool) (w:World) (h:spec_l01Cell.f a0=some r):
  Calls Try.prog 47 #[.int .i64 a0] w fun e w'=>e= .returned (.bool r)∧Drawn0 w w':=by
 have H:=h;clear h;rw [spec_l01Cell.f]at H;replace H:=Option.bind_eq_some_iff.mp H;obtain⟨t101,A20,H⟩:=H;replace H:(some t101)=some r:=H;have A2:=am_ A20;clear A20;obtain rfl:=Option.some.inj H;go_enter Try.func47,Try.ntmps47;go_wp2_with (first|((with_reducible refine gate_callee (f:=46) rfl ?_);refine goesL_ (some 4) rfl rfl Try.func46 (by kernel_rfl) rfl #[.int .i64 a0,.int .i64 (-2147483648),.int .i64 2147483647] rfl yk0_ ?_;(with_reducible refine(spec_l01In.calls a0 (-2147483648) 2147483647 t101 _ A2.out).mono ?_);rintro e w' ⟨rfl,⟨nd,rfl⟩⟩;refine⟨_,rfl,?_⟩));go_ret;exact⟨by first|rfl|(simp;done)|(simp [*];done),by repeat(first|exact Drawn0.refl _|apply Drawn0.step)⟩

/-! ### spec_ItemOK: function 33 -/
def spec_ItemOK.f (a0_0 a0_1:Int):Option (Bool):=if a0_0=1 then((spec_l01In.f a0_1 1 103).bind fun t103=>(some t103))else(if a0_0=2 then((spec_l01Cell.f a0_1).bind fun t104=>(some t104))else((spec_l01In.f a0_0 3 13).bind fun t105=>(if t105=true then(some (a0_1==0))else(some false))))
theorem spec_ItemOK.calls (a0_0 a0_1:Int) (r:Bool) (w:World) (h:spec_ItemOK.f a0_0 a0_1=some r):
  Calls Try.prog 33 #[.agg #[.int .i64 a0_0,.int .i64 a0_1]] w fun e w'=>e= .returned (.bool r)∧Below w.heap.size w w':=by
 have hu44:=Try.underlying44;have HB:=am_ (Below.refl w.heap.size w);have H:=h;clear h;rw [spec_ItemOK.f]at H;by_cases c2:a0_0=1
 ·rw [if_pos c2]at H;have c2b0:(a0_0==1)=true:=beq_iff_eq.mpr c2;have c2b1:(a0_0 !=1)=false:=bne_eq_false_iff_eq.mpr c2;clear c2;replace H:=Option.bind_eq_some_iff.mp H;obtain⟨t103,A30,H⟩:=H;replace H:(some t103)=some r:=H;have A3:=am_ A30;clear A30;obtain rfl:=Option.some.inj H;go_enter Try.func33,Try.ntmps33;go_wp2_with (first|((with_reducible refine gate_dst (N:=1) rfl ?_);refine box_event ?hg (N:=1) ?hd (cs:= #[.int .i64 a0_0,.int .i64 a0_1]) (t:=44) ?hr ?_;(case hd=>rfl);(case hg=>rfl);(case hr=>first|(go_simp;done)|(go_simp;rfl));intro gb102 hg w4 hbox hb;have BK102:=am_ (hbox);have GW102:=am_ ((ybsz_ hg:w.heap.size≤gb102));have GE102:=GW102;replace HB:=yst_ hb;clear hb hbox hg;have hcz5_0:w4.cell? ⟨gb102,0,none⟩=some (.int .i64 a0_0):=(blk_cell BK102.out 0).trans rfl;have hcz5_1:w4.cell? ⟨gb102,1,none⟩=some (.int .i64 a0_1):=(blk_cell BK102.out 1).trans rfl;have hfz5_0:=blk_frozen BK102.out 0;have hfz5_1:=blk_frozen BK102.out 1)|((with_reducible refine gate_callee (f:=46) rfl ?_);refine goesL_ (some 9) rfl rfl Try.func46 (by kernel_rfl) rfl #[.int .i64 a0_1,.int .i64 1,.int .i64 103] rfl yk0_ ?_;(with_reducible refine(spec_l01In.calls a0_1 1 103 t103 _ A3.out).mono ?_);rintro e w' ⟨rfl,⟨nd,rfl⟩⟩;refine⟨_,rfl,?_⟩));go_ret;exact⟨yk1_,ybl_⟩
 ·rw [if_neg c2]at H;have c2b0:(a0_0==1)=false:=beq_eq_false_iff_ne.mpr c2;have c2b1:(a0_0 !=1)=true:=bne_iff_ne.mpr c2;by_cases c6:a0_0=2
  ·rw [if_pos c6]at H;have c6b0:(a0_0==2)=true:=beq_iff_eq.mpr c6;have c6b1:(a0_0 !=2)=false:=bne_eq_false_iff_eq.mpr c6;clear c6;replace H:=Option.bind_eq_some_iff.mp H;obtain⟨t104,A70,H⟩:=H;replace H:(some t104)=some r:=H;have A7:=am_ A70;clear A70;obtain rfl:=Option.some.inj H;go_enter Try.func33,Try.ntmps33;go_wp2_with (first|((with_reducible refine gate_dst (N:=1) rfl ?_);refine box_event ?hg (N:=1) ?hd (cs:= #[.int .i64 a0_0,.int .i64 a0_1]) (t:=44) ?hr ?_;(case hd=>rfl);(case hg=>rfl);(case hr=>first|(go_simp;done)|(go_simp;rfl));intro gb102 hg w8 hbox hb;have BK102:=am_ (hbox);have GW102:=am_ ((ybsz_ hg:w.heap.size≤gb102));have GE102:=GW102;replace HB:=yst_ hb;clear hb hbox hg;have hcz9_0:w8.cell? ⟨gb102,0,none⟩=some (.int .i64 a0_0):=(blk_cell BK102.out 0).trans rfl;have hcz9_1:w8.cell? ⟨gb102,1,none⟩=some (.int .i64 a0_1):=(blk_cell BK102.out 1).trans rfl;have hfz9_0:=blk_frozen BK102.out 0;have hfz9_1:=blk_frozen BK102.out 1)|((with_reducible refine gate_callee (f:=47) rfl ?_);refine goesL_ (some 14) rfl rfl Try.func47 (by kernel_rfl) rfl #[.int .i64 a0_1] rfl yk0_ ?_;(with_reducible refine(spec_l01Cell.calls a0_1 t104 _ A7.out).mono ?_);rintro e w' ⟨rfl,⟨nd,rfl⟩⟩;refine⟨_,rfl,?_⟩));go_ret;exact⟨yk1_,ybl_⟩
  ·rw [if_neg c6]at H;have c6b0:(a0_0==2)=false:=beq_eq_false_iff_ne.mpr c6;have c6b1:(a0_0 !=2)=true:=bne_iff_ne.mpr c6;replace H:=Option.bind_eq_some_iff.mp H;obtain⟨t105,A100,H⟩:=H;try dsimp only at H
   have A10:=am_ A100;clear A100;by_cases c11:t105=true
   ·subst c11;rw [if_pos rfl]at H;obtain rfl:=Option.some.inj H;go_enter Try.func33,Try.ntmps33;go_wp2_with (first|((with_reducible refine gate_dst (N:=1) rfl ?_);refine box_event ?hg (N:=1) ?hd (cs:= #[.int .i64 a0_0,.int .i64 a0_1]) (t:=44) ?hr ?_;(case hd=>rfl);(case hg=>rfl);(case hr=>first|(go_simp;done)|(go_simp;rfl));intro gb102 hg w12 hbox hb;have BK102:=am_ (hbox);have GW102:=am_ ((ybsz_ hg:w.heap.size≤gb102));have GE102:=GW102;replace HB:=yst_ hb;clear hb hbox hg;have hcz13_0:w12.cell? ⟨gb102,0,none⟩=some (.int .i64 a0_0):=(blk_cell BK102.out 0).trans rfl;have hcz13_1:w12.cell? ⟨gb102,1,none⟩=some (.int .i64 a0_1):=(blk_cell BK102.out 1).trans rfl;have hfz13_0:=blk_frozen BK102.out 0;have hfz13_1:=blk_frozen BK102.out 1)|((with_reducible refine gate_callee (f:=46) rfl ?_);refine goesL_ (some 17) rfl rfl Try.func46 (by kernel_rfl) rfl #[.int .i64 a0_0,.int .i64 3,.int .i64 13] rfl yk0_ ?_;(with_reducible refine(spec_l01In.calls a0_0 3 13 true _ A10.out).mono ?_);rintro e w' ⟨rfl,⟨nd,rfl⟩⟩;refine⟨_,rfl,?_⟩));go_ret;exact⟨yk1_,ybl_⟩
   ·replace c11:=Bool.eq_false_iff.mpr c11;subst c11;rw [if_neg (show¬(false=true) by decide)]at H;obtain rfl:=Option.some.inj H;go_enter Try.func33,Try.ntmps33;go_wp2_with (first|((with_reducible refine gate_dst (N:=1) rfl ?_);refine box_event ?hg (N:=1) ?hd (cs:= #[.int .i64 a0_0,.int .i64 a0_1]) (t:=44) ?hr ?_;(case hd=>rfl);(case hg=>rfl);(case hr=>first|(go_simp;done)|(go_simp;rfl));intro gb102 hg w14 hbox hb;have BK102:=am_ (hbox);have GW102:=am_ ((ybsz_ hg:w.heap.size≤gb102));have GE102:=GW102;replace HB:=yst_ hb;clear hb hbox hg;have hcz15_0:w14.cell? ⟨gb102,0,none⟩=some (.int .i64 a0_0):=(blk_cell BK102.out 0).trans rfl;have hcz15_1:w14.cell? ⟨gb102,1,none⟩=some (.int .i64 a0_1):=(blk_cell BK102.out 1).trans rfl;have hfz15_0:=blk_frozen BK102.out 0;have hfz15_1:=blk_frozen BK102.out 1)|((with_reducible refine gate_callee (f:=46) rfl ?_);refine goesL_ (some 17) rfl rfl Try.func46 (by kernel_rfl) rfl #[.int .i64 a0_0,.int .i64 3,.int .i64 13] rfl yk0_ ?_;(with_reducible refine(spec_l01In.calls a0_0 3 13 false _ A10.out).mono ?_);rintro e w' ⟨rfl,⟨nd,rfl⟩⟩;refine⟨_,rfl,?_⟩));go_ret;exact⟨yk1_,ybl_⟩

/-! ### spec_l07Ask: function 19 -/
def spec_l07Ask.l0:Nat→List (S44)→Int→Option (Int)
 |0,_,_=>none
 |k+1,x0,x3=>if x3<(x0.length:Int)then(if 0≤x3 then((spec_ItemOK.f ((rd_T44 x0 x3).f0) ((rd_T44 x0 x3).f1)).bind fun t107=>(if t107=true then(spec_l07Ask.l0 k x0 (wrap64 (x3+1)))else(some 1)))else(none))else(some 0)
def spec_l07Ask.f (k:Nat) (l0:List (S44)):Option (Int):=if(l0.length:Int)>4096 then(some 2)else(if(l0.length:Int)>60 then(some 6)else(spec_l07Ask.l0 k l0 0))
theorem spec_l07Ask.mono_l: ∀k,(∀y0 y1,LeO (spec_l07Ask.l0 k y0 y1) (spec_l07Ask.l0 (k+1) y0 y1))
 |0=>fun _ _ r h=>by simp [spec_l07Ask.l0]at h
 |k+1=>by
  have ih0:=spec_l07Ask.mono_l k
  ·intro y0 y1;unfold spec_l07Ask.l0;repeat' first
   |(with_reducible first|apply ih0|exact LeO.refl _|exact LeO.none _|refine LeO.ite ?_ ?_|refine LeO.bind ?_ (fun _=> ?_))
   |apply ih0|exact LeO.none _|refine LeO.ite ?_ ?_|refine LeO.bind ?_ (fun _=> ?_)
theorem spec_l07Ask.mono: ∀a0 k,LeO (spec_l07Ask.f k a0) (spec_l07Ask.f (k+1) a0):=by
 intro a0 k;have ih0:=spec_l07Ask.mono_l k;unfold spec_l07Ask.f;repeat' first
 |(with_reducible first|apply ih0|exact LeO.refl _|exact LeO.none _|refine LeO.ite ?_ ?_|refine LeO.bind ?_ (fun _=> ?_))
 |apply ih0|exact LeO.none _|refine LeO.ite ?_ ?_|refine LeO.bind ?_ (fun _=> ?_)
theorem spec_l07Ask.calls (k:Nat) A0 c0 l0 (r:Int) (w:World) (hr0:Kd.C k44 w A0 l0.length l0) (hc0:l0.length≤c0) (h:spec_l07Ask.f k l0=some r):
  Calls Try.prog 19 #[.slice A0 l0.length c0] w fun e w'=>e= .returned (.int .i64 r)∧Below w.heap.size w w':=by
 have hu44:=Try.underlying44;have HR0:=am_ hr0;have HC0:=am_ hc0;clear hr0 hc0;have HB:=am_ (Below.refl w.heap.size w);have H:=h;clear h;rw [spec_l07Ask.f]at H;by_cases c2:(l0.length:Int)>4096
 ·rw [if_pos c2]at H;have c2b0:decide (4096<(l0.length:Int))=true:=decide_eq_true c2;have c2b1:decide (4096<l0.length)=true:=decide_eq_true (by omega);clear c2;obtain rfl:=Option.some.inj H;go_enter Try.func19,Try.ntmps19;go_wp2;go_ret;exact⟨yk1_,ybl_⟩
 ·rw [if_neg c2]at H;have c2b0:decide (4096<(l0.length:Int))=false:=decide_eq_false c2;have c2b1:decide (4096<l0.length)=false:=decide_eq_false (by omega);clear c2;by_cases c3:(l0.length:Int)>60
  ·rw [if_pos c3]at H;have c3b0:decide (60<(l0.length:Int))=true:=decide_eq_true c3;have c3b1:decide (60<l0.length)=true:=decide_eq_true (by omega);clear c3;obtain rfl:=Option.some.inj H;go_enter Try.func19,Try.ntmps19;go_wp2;go_ret;exact⟨yk1_,ybl_⟩
  ·rw [if_neg c3]at H;have c3b0:decide (60<(l0.length:Int))=false:=decide_eq_false c3;have c3b1:decide (60<l0.length)=false:=decide_eq_false (by omega);clear c3;have H':=am_ H;clear H;go_enter Try.func19,Try.ntmps19;go_wp2;go_loopg [3] k (fun kq v3 w'=> ∃(x3_1:Int),v3= .int .i64 x3_1∧Aside0 (spec_l07Ask.l0 kq l0 x3_1=some r)∧Aside0 (kq≤k)∧Aside0 (Below w.heap.size w w'));case atStart=>exact⟨(0),(by first|rfl|(simp;done)|(simp [*];done)),H',⟨Nat.le_refl _⟩,⟨ybl_⟩⟩
   case round=>
    clear H';try clear c1
    try clear c2
    try clear c2b0
    try clear c2b1
    try clear p2
    try clear c3
    try clear c3b0
    try clear c3b1
    obtain⟨x3_1,rfl,HA,HK1,HB⟩:=hrel;cases gk with
    |zero=>exact absurd HA.out (by simp [spec_l07Ask.l0])
    |succ k1=>
     have H:=HA.out;clear HA;simp only [spec_l07Ask.l0]at H;by_cases c4:x3_1<(l0.length:Int)
     ·rw [if_pos c4]at H;have c4b0:decide (x3_1<(l0.length:Int))=true:=decide_eq_true c4;clear c4;by_cases c5:0≤x3_1
      ·rw [if_pos c5]at H;have c5b0:decide (0≤x3_1)=true:=decide_eq_true c5;clear c5;replace H:=Option.bind_eq_some_iff.mp H;obtain⟨t107,A60,H⟩:=H;try dsimp only at H
       have A6:=am_ A60;clear A60;by_cases c7:t107=true
       ·subst c7;rw [if_pos rfl]at H;have H':=am_ H;clear H;have p106:0≤(x3_1:Int):=of_decide_eq_true yqv0_;have q106:x3_1<(l0.length:Int):=of_decide_eq_true yqv0_;obtain⟨ad106,e106,hx106_0,hx106_1⟩:=at_T44 HR0.out x3_1 p106 q106;cases e106;replace hx106_0:=ycst_ HB hx106_0;replace hx106_1:=ycst_ HB hx106_1;replace p106:=eq_true p106;replace q106:=eq_true q106;go_wp2_with (first|((with_reducible refine gate_callee (f:=33) rfl ?_);refine goesL_ (some 20) rfl rfl Try.func33 (by kernel_rfl) rfl #[.agg #[.int .i64 ((rd_T44 l0 x3_1).f0),.int .i64 ((rd_T44 l0 x3_1).f1)]] rfl yk0_ ?_;(with_reducible refine(spec_ItemOK.calls ((rd_T44 l0 x3_1).f0) ((rd_T44 l0 x3_1).f1) true _ A6.out).mono ?_);rintro e w8 ⟨rfl,hb⟩;refine⟨_,rfl,?_⟩;replace HB:=yst_ hb;(try clear hb)));go_roundg k1;case measure=>have:=HK1.out;omega
        case rel=>exact⟨(wrap64 (x3_1+1)),(by first|rfl|(simp;done)|(simp [*];done)),H',⟨by have:=HK1.out;omega⟩,⟨ybl_⟩⟩
       ·replace c7:=Bool.eq_false_iff.mpr c7;subst c7;rw [if_neg (show¬(false=true) by decide)]at H;obtain rfl:=Option.some.inj H;have p106:0≤(x3_1:Int):=of_decide_eq_true yqv0_;have q106:x3_1<(l0.length:Int):=of_decide_eq_true yqv0_;obtain⟨ad106,e106,hx106_0,hx106_1⟩:=at_T44 HR0.out x3_1 p106 q106;cases e106;replace hx106_0:=ycst_ HB hx106_0;replace hx106_1:=ycst_ HB hx106_1;replace p106:=eq_true p106;replace q106:=eq_true q106;go_wp2_with (first|((with_reducible refine gate_callee (f:=33) rfl ?_);refine goesL_ (some 20) rfl rfl Try.func33 (by kernel_rfl) rfl #[.agg #[.int .i64 ((rd_T44 l0 x3_1).f0),.int .i64 ((rd_T44 l0 x3_1).f1)]] rfl yk0_ ?_;(with_reducible refine(spec_ItemOK.calls ((rd_T44 l0 x3_1).f0) ((rd_T44 l0 x3_1).f1) false _ A6.out).mono ?_);rintro e w9 ⟨rfl,hb⟩;refine⟨_,rfl,?_⟩;replace HB:=yst_ hb;(try clear hb)));go_ret;exact⟨yk1_,ybl_⟩
      ·rw [if_neg c5]at H;exact absurd H (by simp)
     ·rw [if_neg c4]at H;have c4b0:decide (x3_1<(l0.length:Int))=false:=decide_eq_false c4;clear c4;obtain rfl:=Option.some.inj H;go_wp2;go_ret;exact⟨yk1_,ybl_⟩

end Go.Proofs.Ythmcanjeeljnhaa.PTJ
