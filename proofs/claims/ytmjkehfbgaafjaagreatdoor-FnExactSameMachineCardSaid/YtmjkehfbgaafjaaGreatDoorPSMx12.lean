-- laid by a program of this session out of the translation's own print: Lean checks it
import Derived.Test.YtmjkehfbgaafjaaGreatDoorPSMx0
import Derived.Test.YtmjkehfbgaafjaaGreatDoorPSMx10
import Derived.Test.YtmjkehfbgaafjaaGreatDoorPSMx11
namespace Go.Proofs.YtmjkehfbgaafjaaGreatDoor.PSM
open Go.RowKit Go.Proofs.YtmjkehfbgaafjaaGreatDoorW.PrintWords Go.Proofs.YtmjkehfbgaafjaaGreatDoorW.PrintLast Go.Proofs.YtmjkehfbgaafjaaGreatDoorW.PrintMore
open Option renaming bind_eq_some_iff→ob
open Bool renaming eq_false_iff→bf
attribute [local go_sem] max2_int min2_int max_two min_two max_three min_three max_four min_four -- for this text's walks alone
set_option linter.unusedVariables false
set_option maxHeartbeats 8000000
set_option maxRecDepth 100000
set_option linter.unusedSimpArgs false

/-! ### spec_l06OK: function 41 -/
mutual
def spec_l06OK.j0:Nat→Bool→List Bool→List Int→List Int→Int→List (S88)→Option (Bool)
 |0,_,_,_,_,_,_=>none
 |k+1,x43,x338000,x338001,x338002,x338003,x338004=>if x43=true then(some false)else(spec_l06OK.l0 k 0 x338000 x338001 x338002 x338003 x338004)
def spec_l06OK.l0:Nat→Int→List Bool→List Int→List Int→Int→List (S88)→Option (Bool)
 |0,_,_,_,_,_,_=>none
 |k+1,x3,x338000,x338001,x338002,x338003,x338004=>if x3<(x338004.length:Int)then(if 0≤x3 then((spec_l06Deed.f ((rd_T88 x338004 x3).f0) ((rd_T88 x338004 x3).f1) ((rd_T88 x338004 x3).f2) ((rd_T88 x338004 x3).f3)).bind fun t342=>(if t342=true then(spec_l06OK.l0 k (wrap64 (x3+1)) x338000 x338001 x338002 x338003 x338004)else(some false)))else(none))else(some true)
end
def spec_l06OK.f (k:Nat) (l0_0:List Bool) (l0_1 l0_2:List Int) (a0_3:Int) (l0_4:List (S88)):Option (Bool):=if(l0_0.length:Int)=4 then(if(l0_1.length:Int)=8 then(if(l0_2.length:Int)>20 then(spec_l06OK.j0 k true l0_0 l0_1 l0_2 a0_3 l0_4)else(if(l0_4.length:Int)>40 then(spec_l06OK.j0 k true l0_0 l0_1 l0_2 a0_3 l0_4)else((spec_l03Cells.f k l0_1).bind fun t338=>(if t338=true then((spec_l03Cells.f k l0_2).bind fun t339=>(if t339=true then((spec_l01In.f a0_3 0 2147483647).bind fun t340=>(spec_l06OK.j0 k (!t340) l0_0 l0_1 l0_2 a0_3 l0_4))else(spec_l06OK.j0 k true l0_0 l0_1 l0_2 a0_3 l0_4)))else(spec_l06OK.j0 k true l0_0 l0_1 l0_2 a0_3 l0_4)))))else(spec_l06OK.j0 k true l0_0 l0_1 l0_2 a0_3 l0_4))else(spec_l06OK.j0 k true l0_0 l0_1 l0_2 a0_3 l0_4)
theorem spec_l06OK.mono_l: ∀k,(∀y0 y1 y2 y3 y4 y5,LeO (spec_l06OK.j0 k y0 y1 y2 y3 y4 y5) (spec_l06OK.j0 (k+1) y0 y1 y2 y3 y4 y5))∧(∀y0 y1 y2 y3 y4 y5,LeO (spec_l06OK.l0 k y0 y1 y2 y3 y4 y5) (spec_l06OK.l0 (k+1) y0 y1 y2 y3 y4 y5))
 |0=>⟨fun _ _ _ _ _ _ r h=>by simp [spec_l06OK.j0]at h,fun _ _ _ _ _ _ r h=>by simp [spec_l06OK.l0]at h⟩
 |k+1=>by
  obtain⟨ih0,ih1⟩:=spec_l06OK.mono_l k;refine⟨?_,?_⟩
  ·intro y0 y1 y2 y3 y4 y5;unfold spec_l06OK.j0;repeat' first
   |(with_reducible first|apply ih0|apply ih1|apply spec_l03Cells.mono|exact LeO.refl _|exact LeO.none _|refine LeO.ite ?_ ?_|refine LeO.bind ?_ (fun _=> ?_))
   |apply ih0|apply ih1|apply spec_l03Cells.mono|exact LeO.none _|refine LeO.ite ?_ ?_|refine LeO.bind ?_ (fun _=> ?_)
  ·intro y0 y1 y2 y3 y4 y5;unfold spec_l06OK.l0;repeat' first
   |(with_reducible first|apply ih0|apply ih1|apply spec_l03Cells.mono|exact LeO.refl _|exact LeO.none _|refine LeO.ite ?_ ?_|refine LeO.bind ?_ (fun _=> ?_))
   |apply ih0|apply ih1|apply spec_l03Cells.mono|exact LeO.none _|refine LeO.ite ?_ ?_|refine LeO.bind ?_ (fun _=> ?_)
theorem spec_l06OK.mono: ∀a0 a1 a2 a3 a4 k,LeO (spec_l06OK.f k a0 a1 a2 a3 a4) (spec_l06OK.f (k+1) a0 a1 a2 a3 a4):=by
 intro a0 a1 a2 a3 a4 k;obtain⟨ih0,ih1⟩:=spec_l06OK.mono_l k;unfold spec_l06OK.f;repeat' first
 |(with_reducible first|apply ih0|apply ih1|apply spec_l03Cells.mono|exact LeO.refl _|exact LeO.none _|refine LeO.ite ?_ ?_|refine LeO.bind ?_ (fun _=> ?_))
 |apply ih0|apply ih1|apply spec_l03Cells.mono|exact LeO.none _|refine LeO.ite ?_ ?_|refine LeO.bind ?_ (fun _=> ?_)
theorem spec_l06OK.calls (k:Nat) A0_0 c0_0 l0_0 A0_1 c0_1 l0_1 A0_2 c0_2 l0_2 (a0_3:Int) A0_4 c0_4 l0_4 (r:Bool) (w:World) (hr0_0:Kd.C Kd.bool w A0_0 l0_0.length l0_0) (hc0_0:l0_0.length≤c0_0) (hr0_1:Kd.C (Kd.int .i64) w A0_1 l0_1.length l0_1) (hc0_1:l0_1.length≤c0_1) (hr0_2:Kd.C (Kd.int .i64) w A0_2 l0_2.length l0_2) (hc0_2:l0_2.length≤c0_2) (hr0_4:Kd.C k88 w A0_4 l0_4.length l0_4) (hc0_4:l0_4.length≤c0_4) (h:spec_l06OK.f k l0_0 l0_1 l0_2 a0_3 l0_4=some r):
  Calls Tryz.prog 41 #[.agg #[.slice A0_0 l0_0.length c0_0,.slice A0_1 l0_1.length c0_1,.slice A0_2 l0_2.length c0_2,.int .i64 a0_3,.slice A0_4 l0_4.length c0_4]] w fun e w'=>e= .returned (.bool r)∧Below w.heap.size w w':=by
 have hu39:=Tryz.underlying39;have hu88:=Tryz.underlying88;have HR0_0:=am_ hr0_0;have HC0_0:=am_ hc0_0;clear hr0_0 hc0_0;have HR0_1:=am_ hr0_1;have HC0_1:=am_ hc0_1;clear hr0_1 hc0_1;have HR0_2:=am_ hr0_2;have HC0_2:=am_ hc0_2;clear hr0_2 hc0_2;have HR0_4:=am_ hr0_4;have HC0_4:=am_ hc0_4;clear hr0_4 hc0_4;have HB:=am_ (Below.refl w.heap.size w);have H:=h;clear h;rw [spec_l06OK.f]at H;have HC2:=am_ H;clear H;go_enter Tryz.func41,Tryz.ntmps41;go_upto_region 1 with (first|((with_reducible refine gate_dst (N:=1) rfl ?_);(try(refine gate_guard (by rfl) ?_;dsimp only));refine box_event ?hg (N:=1) ?hd (cs:= #[.slice A0_0 l0_0.length c0_0,.slice A0_1 l0_1.length c0_1,.slice A0_2 l0_2.length c0_2,.int .i64 a0_3,.slice A0_4 l0_4.length c0_4]) (t:=39) ?hr ?_;(case hd=>rfl);(case hg=>rfl);(case hr=>first|(go_simp;done)|(go_simp;rfl));intro gb337 hg w3 hbox hb;have BK337:=am_ (hbox);have GW337:=am_ ((ybsz_ hg:w.heap.size≤gb337));replace HB:=yst_ hb;clear hb hbox hg))
 (try simp only [Act.put,List.setIfInBounds_toArray,List.set_cons_zero,List.set_cons_succ]);go_cut [43] (fun v43 wc=> ∃(kq:Nat) (x43_1:Bool),v43= .bool x43_1∧Aside0 (spec_l06OK.j0 kq x43_1 l0_0 l0_1 l0_2 a0_3 l0_4=some r)∧Aside0 (kq≤k)∧Aside0 (wc.heap[gb337]?=some (.cells #[(.slice A0_0 l0_0.length c0_0),(.slice A0_1 l0_1.length c0_1),(.slice A0_2 l0_2.length c0_2),.int .i64 a0_3,(.slice A0_4 l0_4.length c0_4)] 39 (0,0)))∧Aside0 (Below w.heap.size w wc));case first=>
  have H:=HC2.out;clear HC2;by_cases c4:(l0_0.length:Int)=4
  ·rw [if_pos c4]at H;have c4b0:((l0_0.length:Int)==4)=true:=beq_iff_eq.mpr c4;have c4b1:((l0_0.length:Int) !=4)=false:=bne_eq_false_iff_eq.mpr c4;clear c4;(first|rw [c4b0]|(simp only [i64_w,i32_w];rw [c4b0])|skip);by_cases c5:(l0_1.length:Int)=8
   ·rw [if_pos c5]at H;have c5b0:((l0_1.length:Int)==8)=true:=beq_iff_eq.mpr c5;have c5b1:((l0_1.length:Int) !=8)=false:=bne_eq_false_iff_eq.mpr c5;clear c5;by_cases c6:(l0_2.length:Int)>20
    ·rw [if_pos c6]at H;have c6b0:decide (20<(l0_2.length:Int))=true:=decide_eq_true c6;have c6b1:decide (20<l0_2.length)=true:=decide_eq_true (by omega);clear c6;have H':=am_ H;clear H;have hcz7:=ye5_ BK337;have hfz7:=yf5_ BK337;go_wp2;go_meet;case rel=>exact⟨_,(true),(by first|rfl|(simp;done)|(simp [*];done)),H',⟨by first|omega|exact Nat.le_refl _⟩,⟨(ybu_ BK337)⟩,⟨ybl_⟩⟩
    ·rw [if_neg c6]at H;have c6b0:decide (20<(l0_2.length:Int))=false:=decide_eq_false c6;have c6b1:decide (20<l0_2.length)=false:=decide_eq_false (by omega);clear c6;by_cases c8:(l0_4.length:Int)>40
     ·rw [if_pos c8]at H;have c8b0:decide (40<(l0_4.length:Int))=true:=decide_eq_true c8;have c8b1:decide (40<l0_4.length)=true:=decide_eq_true (by omega);clear c8;have H':=am_ H;clear H;have hcz9:=ye5_ BK337;have hfz9:=yf5_ BK337;go_wp2;go_meet;case rel=>exact⟨_,(true),(by first|rfl|(simp;done)|(simp [*];done)),H',⟨by first|omega|exact Nat.le_refl _⟩,⟨(ybu_ BK337)⟩,⟨ybl_⟩⟩
     ·rw [if_neg c8]at H;have c8b0:decide (40<(l0_4.length:Int))=false:=decide_eq_false c8;have c8b1:decide (40<l0_4.length)=false:=decide_eq_false (by omega);clear c8;replace H:=ob.mp H;obtain⟨t338,A100,H⟩:=H;try dsimp only at H
      have A10:=am_ A100;clear A100;by_cases c11:t338=true
      ·subst c11;rw [if_pos rfl]at H;replace H:=ob.mp H;obtain⟨t339,A120,H⟩:=H;try dsimp only at H
       have A12:=am_ A120;clear A120;by_cases c13:t339=true
       ·subst c13;rw [if_pos rfl]at H;replace H:=ob.mp H;obtain⟨t340,A140,H⟩:=H;try dsimp only at H
        have A14:=am_ A140;clear A140;have H':=am_ H;clear H;have hcz15:=ye5_ BK337;have hfz15:=yf5_ BK337;go_wp2_with (first|(go_at_call 39;(with_reducible refine(spec_l03Cells.calls k _ _ l0_1 true _ ?s1 HC0_1.out A10.out).mono ?_);(case s1=>exact ycb_ HR0_1 HB);rintro e w' ⟨rfl,⟨nd,rfl⟩⟩)|(go_at_call 39;(with_reducible refine(spec_l03Cells.calls k _ _ l0_2 true _ ?s1 HC0_2.out A12.out).mono ?_);(case s1=>exact yscq_ HR0_2);rintro e w' ⟨rfl,⟨nd,rfl⟩⟩)|(go_at_call 43;(with_reducible refine(spec_l01In.calls a0_3 0 2147483647 t340 _ A14.out).mono ?_);rintro e w' ⟨rfl,⟨nd,rfl⟩⟩));go_meet;case rel=>exact⟨_,(!t340),(by first|rfl|(simp;done)|(simp [*];done)),H',⟨by first|omega|exact Nat.le_refl _⟩,⟨(ybu_ BK337)⟩,⟨ybl_⟩⟩
       ·replace c13:=bf.mpr c13;subst c13;rw [if_neg (show¬(false=true) by decide)]at H;have H':=am_ H;clear H;have hcz16:=ye5_ BK337;have hfz16:=yf5_ BK337;go_wp2_with (first|(go_at_call 39;(with_reducible refine(spec_l03Cells.calls k _ _ l0_1 true _ ?s1 HC0_1.out A10.out).mono ?_);(case s1=>exact ycb_ HR0_1 HB);rintro e w' ⟨rfl,⟨nd,rfl⟩⟩)|(go_at_call 39;(with_reducible refine(spec_l03Cells.calls k _ _ l0_2 false _ ?s1 HC0_2.out A12.out).mono ?_);(case s1=>exact yscq_ HR0_2);rintro e w' ⟨rfl,⟨nd,rfl⟩⟩));go_meet;case rel=>exact⟨_,(true),(by first|rfl|(simp;done)|(simp [*];done)),H',⟨by first|omega|exact Nat.le_refl _⟩,⟨(ybu_ BK337)⟩,⟨ybl_⟩⟩
      ·replace c11:=bf.mpr c11;subst c11;rw [if_neg (show¬(false=true) by decide)]at H;have H':=am_ H;clear H;have hcz17:=ye5_ BK337;have hfz17:=yf5_ BK337;go_wp2_with (first|(go_at_call 39;(with_reducible refine(spec_l03Cells.calls k _ _ l0_1 false _ ?s1 HC0_1.out A10.out).mono ?_);(case s1=>exact ycb_ HR0_1 HB);rintro e w' ⟨rfl,⟨nd,rfl⟩⟩));go_meet;case rel=>exact⟨_,(true),(by first|rfl|(simp;done)|(simp [*];done)),H',⟨by first|omega|exact Nat.le_refl _⟩,⟨(ybu_ BK337)⟩,⟨ybl_⟩⟩
   ·rw [if_neg c5]at H;have c5b0:((l0_1.length:Int)==8)=false:=beq_eq_false_iff_ne.mpr c5;have c5b1:((l0_1.length:Int) !=8)=true:=bne_iff_ne.mpr c5;have H':=am_ H;clear H;have hcz18:=ye5_ BK337;have hfz18:=yf5_ BK337;go_wp2;go_meet;case rel=>exact⟨_,(true),(by first|rfl|(simp;done)|(simp [*];done)),H',⟨by first|omega|exact Nat.le_refl _⟩,⟨(ybu_ BK337)⟩,⟨ybl_⟩⟩
  ·rw [if_neg c4]at H;have c4b0:((l0_0.length:Int)==4)=false:=beq_eq_false_iff_ne.mpr c4;have c4b1:((l0_0.length:Int) !=4)=true:=bne_iff_ne.mpr c4;(first|rw [c4b0]|(simp only [i64_w,i32_w];rw [c4b0])|skip);have H':=am_ H;clear H;have hcz19:=ye5_ BK337;have hfz19:=yf5_ BK337;go_wp2;go_meet;case rel=>exact⟨_,(true),(by first|rfl|(simp;done)|(simp [*];done)),H',⟨by first|omega|exact Nat.le_refl _⟩,⟨(ybu_ BK337)⟩,⟨ybl_⟩⟩
 case rest=>
  clear HC2;obtain⟨kq,x43_1,rfl,HA,HJ1,BK337,HB⟩:=hcut;cases kq with
  |zero=>exact absurd HA.out (by simp [spec_l06OK.j0])
  |succ kj1=>
   have H:=HA.out;clear HA;simp only [spec_l06OK.j0]at H;by_cases c20:x43_1=true
   ·subst c20;rw [if_pos rfl]at H;obtain rfl:=Option.some.inj H;go_wp2;go_ret;exact⟨yk0_,ybl_⟩
   ·replace c20:=bf.mpr c20;subst c20;rw [if_neg (show¬(false=true) by decide)]at H;have H':=am_ H;clear H;go_wp2;go_loopg [3] kj1 (fun kq v3 w'=> ∃(x3_2:Int),v3= .int .i64 x3_2∧Aside0 (spec_l06OK.l0 kq x3_2 l0_0 l0_1 l0_2 a0_3 l0_4=some r)∧Aside0 (kq≤kj1)∧Aside0 (w'.heap[gb337]?=some (.cells #[(.slice A0_0 l0_0.length c0_0),(.slice A0_1 l0_1.length c0_1),(.slice A0_2 l0_2.length c0_2),.int .i64 a0_3,(.slice A0_4 l0_4.length c0_4)] 39 (0,0)))∧Aside0 (Below w.heap.size w w'));case atStart=>exact⟨(0),(by first|rfl|(simp;done)|(simp [*];done)),H',⟨Nat.le_refl _⟩,⟨(ybu_ BK337)⟩,⟨ybl_⟩⟩
    case round=>
     clear H';obtain⟨x3_2,rfl,HA,HK2,BK337,HB⟩:=hrel;cases gk with
     |zero=>exact absurd HA.out (by simp [spec_l06OK.l0])
     |succ k2=>
      have H:=HA.out;clear HA;simp only [spec_l06OK.l0]at H;by_cases c21:x3_2<(l0_4.length:Int)
      ·rw [if_pos c21]at H;have c21b0:decide (x3_2<(l0_4.length:Int))=true:=decide_eq_true c21;clear c21;by_cases c22:0≤x3_2
       ·rw [if_pos c22]at H;have c22b0:decide (0≤x3_2)=true:=decide_eq_true c22;clear c22;replace H:=ob.mp H;obtain⟨t342,A230,H⟩:=H;try dsimp only at H
        have A23:=am_ A230;clear A230;by_cases c24:t342=true
        ·subst c24;rw [if_pos rfl]at H;have H':=am_ H;clear H;have hcz25:=ye5_ BK337;have hfz25:=yf5_ BK337;have p341:0≤(x3_2:Int):=of_decide_eq_true yqv12_;have q341:x3_2<(l0_4.length:Int):=of_decide_eq_true yqv12_;obtain⟨ad341,e341,hx341_0,hx341_1,hx341_2,hx341_3⟩:=at_T88 HR0_4.out x3_2 p341 q341;cases e341;replace hx341_0:=ycst_ HB hx341_0;replace hx341_1:=ycst_ HB hx341_1;replace hx341_2:=ycst_ HB hx341_2;replace hx341_3:=ycst_ HB hx341_3;replace p341:=eq_true p341;replace q341:=eq_true q341;go_wp2_with (first|((with_reducible refine gate_callee (f:=77) rfl ?_);refine goesL_ (some 56) rfl rfl Tryz.func77 (by kernel_rfl) rfl #[.agg #[.int .i64 ((rd_T88 l0_4 x3_2).f0),.int .i64 ((rd_T88 l0_4 x3_2).f1),.int .i64 ((rd_T88 l0_4 x3_2).f2),.int .i64 ((rd_T88 l0_4 x3_2).f3)]] rfl yk1_ ?_;(with_reducible refine(spec_l06Deed.calls ((rd_T88 l0_4 x3_2).f0) ((rd_T88 l0_4 x3_2).f1) ((rd_T88 l0_4 x3_2).f2) ((rd_T88 l0_4 x3_2).f3) true _ A23.out).mono ?_);rintro e w26 ⟨rfl,hb⟩;refine⟨_,rfl,?_⟩;replace BK337:=am_ (ybb_ BK337 hb);replace HB:=yst_ hb;(try clear hb)));go_roundg k2;case measure=>have:=HJ1.out;have:=HK2.out;omega
         case rel=>exact⟨(wrap64 (x3_2+1)),(by first|rfl|(simp;done)|(simp [*];done)),H',⟨by have:=HJ1.out;have:=HK2.out;omega⟩,⟨(ybu_ BK337)⟩,⟨ybl_⟩⟩
        ·replace c24:=bf.mpr c24;subst c24;rw [if_neg (show¬(false=true) by decide)]at H;obtain rfl:=Option.some.inj H;have hcz27:=ye5_ BK337;have hfz27:=yf5_ BK337;have p341:0≤(x3_2:Int):=of_decide_eq_true yqv12_;have q341:x3_2<(l0_4.length:Int):=of_decide_eq_true yqv12_;obtain⟨ad341,e341,hx341_0,hx341_1,hx341_2,hx341_3⟩:=at_T88 HR0_4.out x3_2 p341 q341;cases e341;replace hx341_0:=ycst_ HB hx341_0;replace hx341_1:=ycst_ HB hx341_1;replace hx341_2:=ycst_ HB hx341_2;replace hx341_3:=ycst_ HB hx341_3;replace p341:=eq_true p341;replace q341:=eq_true q341;go_wp2_with (first|((with_reducible refine gate_callee (f:=77) rfl ?_);refine goesL_ (some 56) rfl rfl Tryz.func77 (by kernel_rfl) rfl #[.agg #[.int .i64 ((rd_T88 l0_4 x3_2).f0),.int .i64 ((rd_T88 l0_4 x3_2).f1),.int .i64 ((rd_T88 l0_4 x3_2).f2),.int .i64 ((rd_T88 l0_4 x3_2).f3)]] rfl yk1_ ?_;(with_reducible refine(spec_l06Deed.calls ((rd_T88 l0_4 x3_2).f0) ((rd_T88 l0_4 x3_2).f1) ((rd_T88 l0_4 x3_2).f2) ((rd_T88 l0_4 x3_2).f3) false _ A23.out).mono ?_);rintro e w28 ⟨rfl,hb⟩;refine⟨_,rfl,?_⟩;replace BK337:=am_ (ybb_ BK337 hb);replace HB:=yst_ hb;(try clear hb)));go_ret;exact⟨yk0_,ybl_⟩
       ·rw [if_neg c22]at H;exact absurd H (by simp)
      ·rw [if_neg c21]at H;have c21b0:decide (x3_2<(l0_4.length:Int))=false:=decide_eq_false c21;clear c21;obtain rfl:=Option.some.inj H;have hcz29:=ye5_ BK337;have hfz29:=yf5_ BK337;go_wp2;go_ret;exact⟨yk0_,ybl_⟩

end Go.Proofs.YtmjkehfbgaafjaaGreatDoor.PSM
