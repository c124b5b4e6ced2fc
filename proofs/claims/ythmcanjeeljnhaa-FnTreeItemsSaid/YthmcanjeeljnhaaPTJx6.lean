-- laid by a program of this session out of the translation's own print: Lean checks it
import Derived.Test.YthmcanjeeljnhaaPTJx0
import Derived.Test.YthmcanjeeljnhaaPTJx5
namespace Go.Proofs.Ythmcanjeeljnhaa.PTJ
open Go.RowKit Go.Proofs.YthmcanjeeljnhaaW.PrintWords Go.Proofs.YthmcanjeeljnhaaW.PrintLast Go.Proofs.YthmcanjeeljnhaaW.PrintMore
attribute [local go_sem] max2_int min2_int max_two min_two max_three min_three max_four min_four -- for this text's walks alone
set_option linter.unusedVariables false
set_option maxHeartbeats 8000000
set_option maxRecDepth 100000
set_option linter.unusedSimpArgs false

/-! ### impl_fit: function 64 -/
/-- A call of a function value that has captured variables, in a plain region. -/
theorem goesC_ {P:Program} {ops:Array Oper} {Q:Exit→Act→World→Prop} {rest:List Oper} {oi:Oper} {a:Act} {w:World} (N:Option Tmp) (hd:oi.dst=N) (hg:oi.guard=none) {f:FuncId} {fn:Func} {asx:Array Operand} {ts:Array TypeId} (c:Operand) (fr:Array Value) (hc:a.eval c= .func (.func f) #[] fr) (hf:P.funcs[f]?=some fn) (hname:(fn.name== "runtime.NumGoroutine")=false) (hb:fn.body.isSome=true) (args:Array Value)
  (hop:oi.op= .call {callee:= .value c,args:=asx,argTypes:=ts}) (hargs:asx.map a.eval=args)
  (h:Calls P f (args++fr) w fun e w'=> ∃v,e= .returned v∧wpList P ops Q rest (a.put N v) w'):wpList P ops Q (oi::rest) a w:=by
 refine wpList_plain hg fun K hK=> ?_
 have h1:fn.name≠ "runtime.NumGoroutine" :=by simpa using hname
 have he:(callFunc f (args++fr)).run P w= .ok (.enter f (args++fr)) w:=by
  obtain⟨b,hb'⟩:=Option.isSome_iff_exists.1 hb;simp [callFunc,hf,h1,hb']
 have hrun:(execOp a.eval oi).run P w= .ok (.enter f (args++fr)) w:=by
  unfold execOp;simp [hop,resolve,Deferred.ofValue,invoke,hc,hargs,he]
 unfold Oper.wp;rw [hrun,Oper.upon_enter];refine h.mono fun e w'' hh=> ?_
 obtain⟨v,rfl,hk⟩:=hh;subst hd;exact hK _ _ hk
def impl_fit.cut (l:List Int):Option (List Int × Bool):=if 1≤l.length then some (l.take (l.length - 1),true)else none
/-- The innermost open structure; 0 if there is none. -/
def impl_fit.top (l:List Int):Int:=if 0<l.length then rd l ((l.length:Int) - 1)else 0
def impl_fit.f (l0:List Int) (a1:Int):Option (List Int × Bool):=
 if l0.length<17592186044415 then
  (if a1=3∨a1=6∨a1=10 then some (l0++ [a1],decide ((l0.length:Int)<8))
  else if a1=4∨a1=8 then
   (if impl_fit.top l0≠a1 - 1∧ ¬(a1=8∧impl_fit.top l0=6)then some (l0,false)else(if 1≤l0.length then some (l0.take (l0.length - 1)++ [a1],true)else none))
  else if a1=5 then(if impl_fit.top l0≠3∧impl_fit.top l0≠4 then some (l0,false)else impl_fit.cut l0)
  else if a1=7 then(if impl_fit.top l0≠6 then some (l0,false)else impl_fit.cut l0)
  else if a1=9 then(if impl_fit.top l0≠8 then some (l0,false)else impl_fit.cut l0)
  else if a1=11∨a1=12 then(if impl_fit.top l0≠10 then some (l0,false)else impl_fit.cut l0)
  else some (l0,true))
 else none
set_option maxHeartbeats 4000000 in
set_option maxRecDepth 100000 in
theorem impl_fit.turn (A0:Option Addr) (c0:Nat) (l0:List Int) (x:Int) (gb:Nat) (w:World) (hr0:Kd.C (Kd.int .i64) w A0 l0.length l0) (hc0:l0.length≤c0) (hbk:w.heap[gb]?=some (.cells #[.slice A0 l0.length c0] 63 (0,0))) (h1:1≤l0.length) (hl:l0.length<17592186044415):
  Calls Try.prog 69 #[.int .i64 x,.pointer (some ⟨gb,0,none⟩)] w fun e w'=> ∃v_:Value,e= .returned v_∧Kd.R (Kd.int .i64) 3 w' w.heap.size (fun _=>True) v_ (l0.take (l0.length - 1)++ [x])∧Below w.heap.size w w':=by
 have hq:w.cell? ⟨gb,0,none⟩=some (.slice A0 l0.length c0):=(blk_cell hbk 0).trans rfl;obtain⟨p,hp⟩: ∃p,p=l0.take (l0.length - 1):=⟨_,rfl⟩
 have hpl:p.length=l0.length - 1:=by rw [hp,List.length_take];omega
 have hrp:Kd.C (Kd.int .i64) w A0 p.length p:=by
  have:=Kd.C_take (m:=l0.length - 1) hr0 (by omega);rw [←hp]at this;first|exact this|(rw [hpl];exact this)
 rw [←hp];have HR0:=am_ hrp;have HC0:=am_ (show p.length≤c0 by omega);have HB:=am_ (Below.refl w.heap.size w);have LM1:=am_ (show p.length+1<17592186044416 by omega);have hw1:IntKind.i64.wrap ((l0.length:Int) - 1)=(p.length:Int):=by rw [i64_w];unfold wrap64;omega
 have p1:(0:Int)≤(p.length:Int):=by omega
 have p2:(p.length:Int)≤(l0.length:Int):=by omega
 have p3:(p.length:Int)≤(c0:Int):=by omega
 have p4:p.length≤c0:=by omega
 have A1:=am_ (show slices_Clone_int.f p=some p by unfold slices_Clone_int.f;rw [if_pos (by omega)]);clear hrp hr0 hp hbk hl h1 hpl hc0;go_enter Try.func69,Try.ntmps69;go_wp2_with (first
  |((with_reducible refine gate_callee (f:=70) rfl ?_);refine goesL_ (some 9) rfl rfl Try.func70 (by kernel_rfl) rfl #[.slice A0 p.length c0] rfl (by(try simp only [List.map_toArray,List.map_cons,List.map_nil]);first|done|rfl|simp) ?_;(with_reducible refine(slices_Clone_int.calls _ _ p p _ ?side1 HC0.out A1.out).mono ?_);(case side1=>repeat(first|exact HR0.out|(with_reducible refine Kd.C_alloc ?_ _)|(with_reducible refine Kd.C_drewN ?_ _)|(with_reducible refine Kd.C_drew ?_)));rintro e w1 ⟨v1,rfl,ho1,hb⟩;refine⟨_,rfl,?_⟩;have HO1:=am_ (Kd.R_lower ho1 (below_size ybl_));replace HB:=yst_ hb;clear hb ho1 hq)
  |((with_reducible refine gate_dst (N:=11) rfl ?_);refine Kd.R_lit (Kd.int .i64) _ 3 ?hg (N:=11) ?hd (xs:=([x]:List Int)) (inner:= [.int .i64 x]) (ok:=fun _=>True) (okp:=fun _=>True) ?hr ?hp (fun _ hk=>hk) trivial (Below.refl _ _) (Nat.le_refl _) (by simp) ?_;(case hd=>rfl);(case hg=>rfl);(case hr=>first|(go_simp;done)|(go_simp;rfl));(case hp=>exact(Reps.one (show Kd.M (Kd.int .i64) _ _ _ x [.int .i64 x]from rfl) (Reps.none _ _)));intro v2 w2 ho2 hb hg_ hnew_;clear hg_ hnew_;replace HO1:=am_ (Kd.R_elder' (yru_ HO1) (Kd.R_base ho2) hb);have HO2:=am_ (Kd.R_lower ho2 (below_size ybl_));replace HB:=yst_ hb;clear hb ho2;obtain⟨Ax,cx,ex⟩:=Kd.R_slice HO2.out;subst ex)
  |((with_reducible refine gate_builtin (b:= .append) (xs:= #[.tmp 9,.tmp 11]) rfl ?_);at_builtin;refine Kd.R_append_rows (Kd.int .i64) (w0:=w) w.heap.size rfl (.tmp 9) (.tmp 11) 63 3 (.int .i64 0) 8 rfl Try.underlying63 info3 rfl (by decide) (by omega) v1 p [x] _ _ _ (fun k_=>True) (fun _=>False) rfl rfl ?aO ?aR (fun _ _ h=>h) (fun _ h=>h.elim) ?aF ?aB ?aS ?aL ?_;(case aR=>repeat(first|exact(Kd.R_reads' HO2.out).2.2|(with_reducible refine Kd.C_alloc ?_ _)|(with_reducible refine Kd.C_drewN ?_ _)|(with_reducible refine Kd.C_drew ?_)));(case aB=>exact ybl_);(case aF=>exact(fun _ _=>trivial));(case aO=>exact(by(with_reducible repeat(first|apply Kd.R_alloc|apply Kd.R_drewN|apply Kd.R_drew));exact Kd.R_mono HO1.out (fun _ _=>trivial)));(case aS=>exact(below_size ybl_));(case aL=>have:=LM1.out;simp only [List.length_singleton];omega);intro v3 w3 ho hb hg hat;have HO3:=am_ ho;replace HB:=am_ hb;clear ho hb hg hat))
 go_ret
 exact⟨_,by first|rfl|simp,by(with_reducible repeat(first|apply Kd.R_alloc|apply Kd.R_drewN|apply Kd.R_drew));exact HO3.out,ybl_⟩
def impl_fit.T10:Bool × List (List Nat × List Nat):=(true,[([],[]),([0],[0]),([],[]),([2],[2]),([1,3,1],[1,3]),([],[]),([5],[5]),([6],[6]),([4,4,0,1,2,3,4],[4]),([7,8,0,1,2,3,4,5,6,7,8],[7])])
def impl_fit.B10:List Nat:= [0,1,0,4,15,0,32,96,31,511]
theorem impl_fit.tab10:rtab .any (opsOf Try.f64 10)=impl_fit.T10:=by kernel_rfl
theorem impl_fit.bits10:waitsOk impl_fit.T10.2 impl_fit.B10=true:=by kernel_rfl
/-- What comes back: the slice itself, a part of it, or a new row. -/
def impl_fit.Out (A0:Option Addr) (c0:Nat) (l0 r1:List Int) (w w':World) (v0_:Value):Prop:=(v0_= .slice A0 l0.length c0∧r1=l0)∨(v0_= .slice A0 (l0.length - 1) c0∧r1=l0.take (l0.length - 1))∨Kd.R (Kd.int .i64) 3 w' w.heap.size (fun _=>True) v0_ r1
theorem impl_fit.Out.same {A0:Option Addr} {c0:Nat} {l0:List Int} {w w':World}:impl_fit.Out A0 c0 l0 l0 w w' (.slice A0 l0.length c0):= .inl ⟨rfl,rfl⟩
theorem impl_fit.Out.part {A0:Option Addr} {c0:Nat} {l0:List Int} {w w':World} {p:Nat} (h:p=l0.length - 1):impl_fit.Out A0 c0 l0 (l0.take (l0.length - 1)) w w' (.slice A0 p c0):= .inr (.inl ⟨by rw [h],rfl⟩)
theorem impl_fit.Out.new {A0:Option Addr} {c0:Nat} {l0 r1:List Int} {w w':World} {v:Value} {ok:Nat→Prop} (h:Kd.R (Kd.int .i64) 3 w' w.heap.size ok v r1):impl_fit.Out A0 c0 l0 r1 w w' v:= .inr (.inr (Kd.R_mono h (fun _ _=>trivial)))
theorem impl_fit.key (A0:Option Addr) (c0:Nat) (l0:List Int) (a1:Int) (r1:List Int) (r2:Bool) (w:World) (hr0:Kd.C (Kd.int .i64) w A0 l0.length l0) (hc0:l0.length≤c0) (h:impl_fit.f l0 a1=some (r1,r2)):
  Calls Try.prog 64 #[.slice A0 l0.length c0,.int .i64 a1] w fun e w'=> ∃v0_:Value,e= .returned (.tuple #[v0_,.bool r2])∧Below w.heap.size w w'∧impl_fit.Out A0 c0 l0 r1 w w' v0_:=by
 unfold impl_fit.f at h;by_cases LM:l0.length<17592186044415;case neg=>
  rw [if_neg LM]at h;cases h
 rw [if_pos LM]at h;have HC:=am_ h;have HR0:=am_ hr0;have HC0:=am_ hc0;have LM0:=am_ LM;have HB:=am_ (Below.refl w.heap.size w);clear h hr0 hc0 LM;go_enter Try.func64,Try.ntmps64;go_upto_if 10 with (first|((with_reducible refine gate_dst (N:=2) rfl ?_);refine box_event ?hg (N:=2) ?hd (cs:= #[.slice A0 l0.length c0]) (t:=63) ?hr ?_;(case hd=>rfl);(case hg=>rfl);(case hr=>first|(go_simp;done)|(go_simp;rfl));intro gb hg w3 hbox hb;have BK:=am_ hbox;replace HB:=am_ hb;clear hg hbox hb;have hq:=(blk_cell BK.out 0).trans (rfl:_=some (Value.slice A0 l0.length c0))))
 go_cut [6] (fun v6 wc=>v6= .int .i64 (impl_fit.top l0)∧Aside0 (wc.heap[gb]?=some (.cells #[.slice A0 l0.length c0] 63 (0,0)))∧Aside0 (Below w.heap.size w wc))
 case first=>
  by_cases c5:0<l0.length
  ·have c5b0:decide (0<(l0.length:Int))=true:=decide_eq_true (by omega);have c5b1:decide (0<l0.length)=true:=decide_eq_true c5;(first|rw [c5b0]|(simp only [i64_w,i32_w];rw [c5b0])|skip);obtain⟨ji,hji⟩: ∃j_:Int,(wrap64 ((l0.length:Int) - 1))=j_:=⟨_,rfl⟩
   have hjiw:(IntKind.i64.wrap ((l0.length:Int) - 1))=ji:=(i64_w _).trans hji;have hjv:ji=(l0.length:Int) - 1:=by have:=LM0.out;rw [←hji];unfold wrap64;omega
   have ht:impl_fit.top l0=rd l0 ji:=by unfold impl_fit.top;rw [if_pos c5,hjv]
   have p1:0≤ji:=by omega
   have q1:ji<(l0.length:Int):=by omega
   obtain⟨ad1,e1,hx1⟩:=Kd.at_int (Kd.C_below HR0.out HB.out) ji p1 q1;cases e1;replace p1:=eq_true p1;replace q1:=eq_true q1;clear hjv hji;have HT:=am_ ht;clear ht;go_wp2;go_meet;case rel=>exact⟨by rw [HT.out],⟨BK.out⟩,⟨HB.out⟩⟩
  ·have c5b0:decide (0<(l0.length:Int))=false:=decide_eq_false (by omega);have c5b1:decide (0<l0.length)=false:=decide_eq_false c5;(first|rw [c5b0]|(simp only [i64_w,i32_w];rw [c5b0])|skip);have ht:impl_fit.top l0=0:=by unfold impl_fit.top;rw [if_neg c5]
   have HT:=am_ ht;clear ht;go_wp2;go_meet;case rel=>exact⟨by rw [HT.out],⟨BK.out⟩,⟨HB.out⟩⟩
 case rest=>
  obtain⟨rfl,BK,HB⟩:=hcut;obtain⟨tp,htp⟩: ∃t_,impl_fit.top l0=t_:=⟨_,rfl⟩
  have H:=HC.out;clear HC;rw [htp]at H⊢;clear htp;have HC:=am_ H;clear H;try clear hq
  have hq:=(blk_cell BK.out 0).trans (rfl:_=some (Value.slice A0 l0.length c0));go_upto_if 20 with (fail)
  go_cut [20] (fun v20 wc=> ∃x20:Bool,v20= .bool x20∧Aside0 (x20=decide (a1=3∨a1=6∨a1=10))∧Aside0 (wc.heap[gb]?=some (.cells #[.slice A0 l0.length c0] 63 (0,0)))∧Aside0 (Below w.heap.size w wc))
  case first=>
   by_cases c0:a1=3
   ·have c0b0:(a1==3)=true:=beq_iff_eq.mpr c0;have c0b1:(a1 !=3)=false:=bne_eq_false_iff_eq.mpr c0;(first|rw [c0b0]|skip);go_wp2;go_meet;case rel=>exact⟨true,rfl,⟨(decide_eq_true (show a1=3∨a1=6∨a1=10 by omega)).symm⟩,⟨BK.out⟩,⟨HB.out⟩⟩
   ·have c0b0:(a1==3)=false:=beq_eq_false_iff_ne.mpr c0;have c0b1:(a1 !=3)=true:=bne_iff_ne.mpr c0;by_cases c1:a1=6
    ·have c1b0:(a1==6)=true:=beq_iff_eq.mpr c1;have c1b1:(a1 !=6)=false:=bne_eq_false_iff_eq.mpr c1;(first|rw [c1b0]|skip);go_wp2;go_meet;case rel=>exact⟨true,rfl,⟨(decide_eq_true (show a1=3∨a1=6∨a1=10 by omega)).symm⟩,⟨BK.out⟩,⟨HB.out⟩⟩
    ·have c1b0:(a1==6)=false:=beq_eq_false_iff_ne.mpr c1;have c1b1:(a1 !=6)=true:=bne_iff_ne.mpr c1;by_cases c2:a1=10
     ·have c2b0:(a1==10)=true:=beq_iff_eq.mpr c2;have c2b1:(a1 !=10)=false:=bne_eq_false_iff_eq.mpr c2;(first|rw [c2b0]|skip);go_wp2;go_meet;case rel=>exact⟨true,rfl,⟨(decide_eq_true (show a1=3∨a1=6∨a1=10 by omega)).symm⟩,⟨BK.out⟩,⟨HB.out⟩⟩
     ·have c2b0:(a1==10)=false:=beq_eq_false_iff_ne.mpr c2;have c2b1:(a1 !=10)=true:=bne_iff_ne.mpr c2;go_wp2;go_meet;case rel=>exact⟨false,rfl,⟨(decide_eq_false (show¬(a1=3∨a1=6∨a1=10) by omega)).symm⟩,⟨BK.out⟩,⟨HB.out⟩⟩
  case rest=>
   obtain⟨x20,rfl,hx20,BK,HB⟩:=hcut;try clear hq
   have hq:=(blk_cell BK.out 0).trans (rfl:_=some (Value.slice A0 l0.length c0));by_cases c20:a1=3∨a1=6∨a1=10
   ·have hx:=hx20.out;rw [decide_eq_true c20]at hx;clear hx20;subst hx;have H:=HC.out;rw [if_pos c20]at H;clear HC;simp only [Option.some.injEq,Prod.mk.injEq]at H;obtain⟨rfl,rfl⟩:=H;try go_wp2
    replace BK:=am_ (blk_drew BK.out);replace HB:=am_ (below_drew1 HB.out);refine start_ (n:=10) (S:=fun w'=>w'.cell? ⟨gb,0,none⟩=some (.slice A0 l0.length c0)) (ds:= []) #[false,false,false,false,false,false,false,false,false,false] (by kernel_rfl) rfl rfl ((blk_cell BK.out 0).trans rfl) (fun hHeld=> ?_);refine with_tabW impl_fit.tab10 impl_fit.bits10 (fun HT_ HW_=> ?_);generalize hwd:World.drew _=wd at BK HB hHeld⊢;clear hwd;refine pure_ (i:=2) (N:=some 26) (v:= ?_) (a':= ?_) #[false,false,true,false,false,false,false,false,false,false] rfl rfl (any_of HT_.out (by kernel_rfl)) (fun _ _ _ h=>h) (Or.inl ⟨by rfl,?_⟩) ?_ ?_;rotate_left
    ·intro w';go_simp;with_reducible rfl
    rotate_left
    ·simp only [Act.put,List.setIfInBounds_toArray,List.set_cons_zero,List.set_cons_succ,i64_w,i32_w];rfl
    refine take_ (i:=0) (N:=some 24) (v:= ?_) (a':= ?_) #[true,false,true,false,false,false,false,false,false,false] rfl rfl (take_ofW HT_.out HW_.out (by kernel_rfl)) (fun _ _ _ h=>h) (Or.inl ⟨by rfl,?_⟩) hHeld ?_ ?_;rotate_left
    ·rintro w' s0;go_simp;with_reducible rfl
    rotate_left
    ·simp only [Act.put,List.setIfInBounds_toArray,List.set_cons_zero,List.set_cons_succ,i64_w,i32_w];rfl
    refine take_ (i:=5) (N:=some 29) (v:= ?_) (a':= ?_) #[true,false,true,false,false,true,false,false,false,false] rfl rfl (take_ofW HT_.out HW_.out (by kernel_rfl)) (fun _ _ _ h=>h) (Or.inl ⟨by rfl,?_⟩) hHeld ?_ ?_;rotate_left
    ·rintro w' s0;go_simp;with_reducible rfl
    rotate_left
    ·simp only [Act.put,List.setIfInBounds_toArray,List.set_cons_zero,List.set_cons_succ,i64_w,i32_w];rfl
    refine pure_ (i:=6) (N:=some 30) (v:= ?_) (a':= ?_) #[true,false,true,false,false,true,true,false,false,false] rfl rfl (any_of HT_.out (by kernel_rfl)) (fun _ _ _ h=>h) (Or.inl ⟨by rfl,?_⟩) ?_ ?_;rotate_left
    ·intro w';go_simp;with_reducible rfl
    rotate_left
    ·simp only [Act.put,List.setIfInBounds_toArray,List.set_cons_zero,List.set_cons_succ,i64_w,i32_w];rfl
    refine pure_ (i:=7) (N:=some 31) (v:= ?_) (a':= ?_) #[true,false,true,false,false,true,true,true,false,false] rfl rfl (any_of HT_.out (by kernel_rfl)) (fun _ _ _ h=>h) (Or.inl ⟨by rfl,?_⟩) ?_ ?_;rotate_left
    ·intro w';go_simp;with_reducible rfl
    rotate_left
    ·simp only [Act.put,List.setIfInBounds_toArray,List.set_cons_zero,List.set_cons_succ,i64_w,i32_w];rfl
    refine join_ (σ:=Value × Value) 3 #[true,true,true,true,false,true,true,true,false,false] (fun s_=> [(25,s_.1),(27,s_.2)]) (fun s_ w'=>(w'.cell? ⟨gb,0,none⟩=some (.slice A0 l0.length c0))∧(Kd.R (Kd.int .i64) 3 w' w.heap.size (fun k_=>some k_≠(s_.2:Value).ownBlock∧k_≠gb) s_.1 l0)∧(Kd.R (Kd.int .i64) 3 w' w.heap.size (fun _=>True) s_.2 [a1])∧(w'.heap[gb]?=some (.cells #[.slice A0 l0.length c0] 63 (0,0)))∧(Below w.heap.size w w')) ?_ ?_;rotate_left
    ·intro hCont;refine two_ (i:=1) (j:=3) (Ni:=some 25) (Nj:=some 27) #[true,true,true,false,false,true,true,true,false,false] #[true,false,true,true,false,true,true,true,false,false] rfl rfl rfl rfl (two_of HT_.out (by kernel_rfl)) (by decide) (by decide) (fun K hK=> ?_) (fun K hK=> ?_)
     ·skip
      refine goes_ Try.func70 (by kernel_rfl) rfl #[.slice A0 l0.length c0] (by rfl) rfl rfl (by(try simp only [List.map_toArray,List.map_cons,List.map_nil]);first|done|rfl) ?_;with_reducible refine(slices_Clone_int.calls _ _ l0 l0 _ ?side1 ?side2 (show slices_Clone_int.f l0=some l0 by have:=LM0.out;unfold slices_Clone_int.f;rw [if_pos (by omega)])).mono ?_
      (case side1=>exact Kd.C_below HR0.out ybl_);(case side2=>exact HC0.out);rintro e wa ⟨v1,rfl,ho1,hb⟩;refine⟨_,rfl,?_⟩;have HO1:=am_ (Kd.R_lower (Kd.R_newB ho1 (g:=gb) (o:= .cells #[.slice A0 l0.length c0] 63 (0,0)) (ybu_ BK)) (below_size ybl_));replace BK:=am_ (ybb_ BK hb);replace HB:=yst_ hb;clear hb ho1;refine hK.out _ _ ((blk_cell BK.out 0).trans rfl) (fun hHeld=> ?_);clear hK K;refine norm_ (a':= ?_) ?_ ?_;rotate_left
      ·show Act.put _ (some 25) _=_
       simp only [Act.put,List.setIfInBounds_toArray,List.set_cons_zero,List.set_cons_succ,i64_w,i32_w];rfl
      refine one_ (i:=3) (N:=some 27) #[true,true,true,true,false,true,true,true,false,false] rfl rfl (one_of HT_.out (by kernel_rfl)) (by decide) (fun K hK=> ?_);refine Kd.R_lit_step (Kd.int .i64) _ 3 ?hg (N:=27) ?hd (xs:=([a1]:List Int)) (inner:= [.int .i64 a1]) (ok:=fun _=>True) (okp:=fun _=>True) ?hr ?hp (fun _ hk=>hk) trivial (Below.refl _ _) (Nat.le_refl _) (by simp) ?_;(case hd=>rfl);(case hg=>rfl);(case hr=>first|(go_simp;done)|(go_simp;rfl));(case hp=>exact(Reps.one (show Kd.M (Kd.int .i64) _ _ _ a1 [.int .i64 a1]from rfl) (Reps.none _ _)));intro v2 wb ho2 hb hg_ hnew_;clear hg_ hnew_;replace HO1:=am_ (Kd.R_elder' (yru_ HO1) (Kd.R_base ho2) hb);have HO2:=am_ (Kd.R_lower ho2 (below_size ybl_));replace BK:=am_ (ybb_ BK hb);replace HB:=yst_ hb;clear hb ho2;refine hK.out _ _ ((blk_cell BK.out 0).trans rfl) (fun hHeld=> ?_);clear hK K;refine norm_ (a':= ?_) ?_ ?_;rotate_left
      ·show Act.put _ (some 27) _=_
       simp only [Act.put,List.setIfInBounds_toArray,List.set_cons_zero,List.set_cons_succ,i64_w,i32_w];rfl
      exact norm_ (by simp only [putAll,Act.put,List.setIfInBounds_toArray,List.set_cons_zero,List.set_cons_succ]) (hCont (v1,v2) _ ⟨hHeld,(by(with_reducible repeat(first|apply Kd.R_alloc|apply Kd.R_drewN|apply Kd.R_drew));exact Kd.R_mono HO1.out (fun _ hk=>⟨hk.2,hk.1.2⟩)),(yru_ HO2),(ybu_ BK),ybl_⟩)
     ·skip
      refine Kd.R_lit_step (Kd.int .i64) _ 3 ?hg (N:=27) ?hd (xs:=([a1]:List Int)) (inner:= [.int .i64 a1]) (ok:=fun _=>True) (okp:=fun _=>True) ?hr ?hp (fun _ hk=>hk) trivial (Below.refl _ _) (Nat.le_refl _) (by simp) ?_;(case hd=>rfl);(case hg=>rfl);(case hr=>first|(go_simp;done)|(go_simp;rfl));(case hp=>exact(Reps.one (show Kd.M (Kd.int .i64) _ _ _ a1 [.int .i64 a1]from rfl) (Reps.none _ _)));intro v2 wa ho2 hb hg_ hnew_;clear hg_ hnew_;have HO2:=am_ (Kd.R_lower ho2 (below_size ybl_));replace BK:=am_ (ybb_ BK hb);replace HB:=yst_ hb;clear hb ho2;refine hK.out _ _ ((blk_cell BK.out 0).trans rfl) (fun hHeld=> ?_);clear hK K;refine norm_ (a':= ?_) ?_ ?_;rotate_left
      ·show Act.put _ (some 27) _=_
       simp only [Act.put,List.setIfInBounds_toArray,List.set_cons_zero,List.set_cons_succ,i64_w,i32_w];rfl
      refine one_ (i:=1) (N:=some 25) #[true,true,true,true,false,true,true,true,false,false] rfl rfl (one_of HT_.out (by kernel_rfl)) (by decide) (fun K hK=> ?_);refine goes_ Try.func70 (by kernel_rfl) rfl #[.slice A0 l0.length c0] (by rfl) rfl rfl (by(try simp only [List.map_toArray,List.map_cons,List.map_nil]);first|done|rfl) ?_;with_reducible refine(slices_Clone_int.calls _ _ l0 l0 _ ?side1 ?side2 (show slices_Clone_int.f l0=some l0 by have:=LM0.out;unfold slices_Clone_int.f;rw [if_pos (by omega)])).mono ?_
      (case side1=>exact Kd.C_below HR0.out ybl_);(case side2=>exact HC0.out);rintro e wb ⟨v1,rfl,ho1,hb⟩;refine⟨_,rfl,?_⟩;have HO1:=am_ (Kd.R_lower (Kd.R_newB (Kd.R_new' ho1 (Kd.R_lt (yru_ HO2))) (g:=gb) (o:= .cells #[.slice A0 l0.length c0] 63 (0,0)) (ybu_ BK)) (below_size ybl_));replace HO2:=am_ (Kd.R_below (yru_ HO2) hb);replace BK:=am_ (ybb_ BK hb);replace HB:=yst_ hb;clear hb ho1;refine hK.out _ _ ((blk_cell BK.out 0).trans rfl) (fun hHeld=> ?_);clear hK K;refine norm_ (a':= ?_) ?_ ?_;rotate_left
      ·show Act.put _ (some 25) _=_
       simp only [Act.put,List.setIfInBounds_toArray,List.set_cons_zero,List.set_cons_succ,i64_w,i32_w];rfl
      exact norm_ (by simp only [putAll,Act.put,List.setIfInBounds_toArray,List.set_cons_zero,List.set_cons_succ]) (hCont (v1,v2) _ ⟨hHeld,(by(with_reducible repeat(first|apply Kd.R_alloc|apply Kd.R_drewN|apply Kd.R_drew));exact Kd.R_mono HO1.out (fun _ hk=>⟨hk.1.2,hk.2⟩)),(yru_ HO2),(ybu_ BK),ybl_⟩)
    rintro⟨v1,v2⟩ wj ⟨hS_,h0_,h1_,h2_,h3_⟩;have HO1:=am_ h0_;have HO2:=am_ h1_;clear BK HB;have BK:=am_ h2_;have HB:=am_ h3_;clear h0_ h1_ h2_ h3_ hHeld;have hHeld:wj.cell? ⟨gb,0,none⟩=some (.slice A0 l0.length c0):=hS_;obtain⟨Ax,cx,ex⟩:=Kd.R_slice HO2.out;simp only at ex;subst ex;refine norm_ (a':= ?_) ?_ ?_;rotate_left
    ·simp only [putAll,Act.put,List.setIfInBounds_toArray,List.set_cons_zero,List.set_cons_succ];rfl
    refine one_ (i:=4) (N:=some 28) #[true,true,true,true,true,true,true,true,false,false] rfl rfl (one_of HT_.out (by kernel_rfl)) (by decide) (fun K hK=> ?_);refine Kd.R_append_rows_step (Kd.int .i64) (w0:=w) w.heap.size (by rfl) (.tmp 25) (.tmp 27) 63 3 (.int .i64 0) 8 rfl Try.underlying63 info3 rfl (by decide) (by omega) v1 l0 [a1] _ _ _ (fun k_=>k_≠gb) (fun _=>False) rfl rfl ?aO ?aR (fun _ _ h=>h) (fun _ h=>h.elim) ?aF ?aB ?aS ?aL ?_;(case aR=>exact(Kd.R_reads' HO2.out).2.2);(case aB=>exact ybl_);(case aF=>exact(fun k_ hk=>Kd.freshB (g:=gb) (o:= .cells #[.slice A0 l0.length c0] 63 (0,0)) (ybu_ BK) k_ hk));(case aO=>exact(by(with_reducible repeat(first|apply Kd.R_alloc|apply Kd.R_drewN|apply Kd.R_drew));exact Kd.R_mono HO1.out (fun _ hk=>hk.2)));(case aS=>exact(below_size ybl_));(case aL=>have:=LM0.out;simp only [List.length_singleton];omega);intro v3 wk ho hb hg hat;replace BK:=am_ (blk_grown (g:=gb) (o:= .cells #[.slice A0 l0.length c0] 63 (0,0)) (ybu_ BK) hg (Kd.R_away HO1.out (fun _ hk=>hk.2)));replace HB:=am_ hb;have HO3:=am_ ho;clear ho hb hg hat;refine hK.out _ _ ((blk_cell BK.out 0).trans rfl) (fun hHeld=> ?_);clear hK K;refine norm_ (a':= ?_) ?_ ?_;rotate_left
    ·show Act.put _ (some 28) _=_
     simp only [Act.put,List.setIfInBounds_toArray,List.set_cons_zero,List.set_cons_succ,i64_w,i32_w];rfl
    refine pure_ (i:=8) (N:=some 4) (v:= ?_) (a':= ?_) #[true,true,true,true,true,true,true,true,true,false] rfl rfl (any_of HT_.out (by kernel_rfl)) (fun _ _ _ h=>h) (Or.inl ⟨by rfl,?_⟩) ?_ ?_;rotate_left
    ·intro w';go_simp;with_reducible rfl
    rotate_left
    ·simp only [Act.put,List.setIfInBounds_toArray,List.set_cons_zero,List.set_cons_succ,i64_w,i32_w];rfl
    refine pure_ (i:=9) (N:=some 5) (v:= ?_) (a':= ?_) #[true,true,true,true,true,true,true,true,true,true] rfl rfl (any_of HT_.out (by kernel_rfl)) (fun _ _ _ h=>h) (Or.inl ⟨by rfl,?_⟩) ?_ ?_;rotate_left
    ·intro w';go_simp;with_reducible rfl
    rotate_left
    ·simp only [Act.put,List.setIfInBounds_toArray,List.set_cons_zero,List.set_cons_succ,i64_w,i32_w];rfl
    refine done_ (done_of HT_.out (by kernel_rfl)) ?_;try go_wp2
    go_ret2
    exact⟨_,by first|rfl|(simp;done),ybl_,.new (yru_ HO3)⟩
   ·have hx:=hx20.out;rw [decide_eq_false c20]at hx;clear hx20;subst hx;have H:=HC.out;rw [if_neg c20]at H;clear HC;have HC:=am_ H;clear H;go_upto_if 32 with (fail)
    go_cut [32] (fun v32 wc=> ∃x32:Bool,v32= .bool x32∧Aside0 (x32=decide (a1=4∨a1=8))∧Aside0 (wc.heap[gb]?=some (.cells #[.slice A0 l0.length c0] 63 (0,0)))∧Aside0 (Below w.heap.size w wc))
    case first=>
     by_cases c0:a1=4
     ·have c0b0:(a1==4)=true:=beq_iff_eq.mpr c0;have c0b1:(a1 !=4)=false:=bne_eq_false_iff_eq.mpr c0;(first|rw [c0b0]|skip);go_wp2;go_meet;case rel=>exact⟨true,rfl,⟨(decide_eq_true (show a1=4∨a1=8 by omega)).symm⟩,⟨BK.out⟩,⟨HB.out⟩⟩
     ·have c0b0:(a1==4)=false:=beq_eq_false_iff_ne.mpr c0;have c0b1:(a1 !=4)=true:=bne_iff_ne.mpr c0;by_cases c1:a1=8
      ·have c1b0:(a1==8)=true:=beq_iff_eq.mpr c1;have c1b1:(a1 !=8)=false:=bne_eq_false_iff_eq.mpr c1;(first|rw [c1b0]|skip);go_wp2;go_meet;case rel=>exact⟨true,rfl,⟨(decide_eq_true (show a1=4∨a1=8 by omega)).symm⟩,⟨BK.out⟩,⟨HB.out⟩⟩
      ·have c1b0:(a1==8)=false:=beq_eq_false_iff_ne.mpr c1;have c1b1:(a1 !=8)=true:=bne_iff_ne.mpr c1;go_wp2;go_meet;case rel=>exact⟨false,rfl,⟨(decide_eq_false (show¬(a1=4∨a1=8) by omega)).symm⟩,⟨BK.out⟩,⟨HB.out⟩⟩
    case rest=>
     obtain⟨x32,rfl,hx32,BK,HB⟩:=hcut;try clear hq
     have hq:=(blk_cell BK.out 0).trans (rfl:_=some (Value.slice A0 l0.length c0));by_cases c32:a1=4∨a1=8
     ·have hx:=hx32.out;rw [decide_eq_true c32]at hx;clear hx32;subst hx;have H:=HC.out;rw [if_pos c32]at H;clear HC;rcases c32 with c4|c8
      ·subst c4;by_cases t3:tp=3
       ·subst t3;rw [if_neg (by omega)]at H;by_cases c1:1≤l0.length
        ·rw [if_pos c1]at H;simp only [Option.some.injEq,Prod.mk.injEq]at H;obtain⟨rfl,rfl⟩:=H;go_wp2_with (first|((with_reducible refine Go.Proofs.YthmcanjeeljnhaaO.gate_tmp (t:=49) rfl ?_);refine goesC_ (some 51) rfl rfl (.tmp 49) #[.pointer (some ⟨gb,0,none⟩)] rfl Try.func69 (by kernel_rfl) rfl #[.int .i64 4] rfl (by(try simp only [List.map_toArray,List.map_cons,List.map_nil]);first|done|rfl) ?_;(refine(impl_fit.turn A0 c0 l0 4 gb _ ?side1 ?side2 ?side3 c1 LM0.out).mono ?_);(case side1=>exact Kd.C_below HR0.out ybl_);(case side2=>exact HC0.out);(case side3=>(with_reducible repeat(first|refine blk_drewN ?_ _|refine blk_drew ?_|refine blk_alloc ?_ _));exact BK.out);rintro e wt ⟨vt,rfl,hot,hb⟩;refine⟨_,rfl,?_⟩;have HOt:=am_ (Kd.R_lower hot (below_size ybl_));replace HB:=yst_ hb;clear hb hot));go_ret2;exact⟨_,by first|rfl|(simp;done),ybl_,.new (yru_ HOt)⟩
        ·rw [if_neg c1]at H;cases H
       ·rw [if_pos (by omega)]at H;have t3b0:(tp==3)=false:=beq_eq_false_iff_ne.mpr t3;have t3b1:(tp !=3)=true:=bne_iff_ne.mpr t3;simp only [Option.some.injEq,Prod.mk.injEq]at H;obtain⟨rfl,rfl⟩:=H;go_wp2;go_ret2;exact⟨_,by first|rfl|(simp;done),ybl_,.same⟩
      ·subst c8;by_cases t7:tp=7
       ·subst t7;rw [if_neg (by omega)]at H;by_cases c1:1≤l0.length
        ·rw [if_pos c1]at H;simp only [Option.some.injEq,Prod.mk.injEq]at H;obtain⟨rfl,rfl⟩:=H;go_wp2_with (first|((with_reducible refine Go.Proofs.YthmcanjeeljnhaaO.gate_tmp (t:=49) rfl ?_);refine goesC_ (some 51) rfl rfl (.tmp 49) #[.pointer (some ⟨gb,0,none⟩)] rfl Try.func69 (by kernel_rfl) rfl #[.int .i64 8] rfl (by(try simp only [List.map_toArray,List.map_cons,List.map_nil]);first|done|rfl) ?_;(refine(impl_fit.turn A0 c0 l0 8 gb _ ?side1 ?side2 ?side3 c1 LM0.out).mono ?_);(case side1=>exact Kd.C_below HR0.out ybl_);(case side2=>exact HC0.out);(case side3=>(with_reducible repeat(first|refine blk_drewN ?_ _|refine blk_drew ?_|refine blk_alloc ?_ _));exact BK.out);rintro e wt ⟨vt,rfl,hot,hb⟩;refine⟨_,rfl,?_⟩;have HOt:=am_ (Kd.R_lower hot (below_size ybl_));replace HB:=yst_ hb;clear hb hot));go_ret2;exact⟨_,by first|rfl|(simp;done),ybl_,.new (yru_ HOt)⟩
        ·rw [if_neg c1]at H;cases H
       ·have t7b0:(tp==7)=false:=beq_eq_false_iff_ne.mpr t7;have t7b1:(tp !=7)=true:=bne_iff_ne.mpr t7;by_cases t6:tp=6
        ·subst t6;rw [if_neg (by omega)]at H;by_cases c1:1≤l0.length
         ·rw [if_pos c1]at H;simp only [Option.some.injEq,Prod.mk.injEq]at H;obtain⟨rfl,rfl⟩:=H;go_wp2_with (first|((with_reducible refine Go.Proofs.YthmcanjeeljnhaaO.gate_tmp (t:=49) rfl ?_);refine goesC_ (some 51) rfl rfl (.tmp 49) #[.pointer (some ⟨gb,0,none⟩)] rfl Try.func69 (by kernel_rfl) rfl #[.int .i64 8] rfl (by(try simp only [List.map_toArray,List.map_cons,List.map_nil]);first|done|rfl) ?_;(refine(impl_fit.turn A0 c0 l0 8 gb _ ?side1 ?side2 ?side3 c1 LM0.out).mono ?_);(case side1=>exact Kd.C_below HR0.out ybl_);(case side2=>exact HC0.out);(case side3=>(with_reducible repeat(first|refine blk_drewN ?_ _|refine blk_drew ?_|refine blk_alloc ?_ _));exact BK.out);rintro e wt ⟨vt,rfl,hot,hb⟩;refine⟨_,rfl,?_⟩;have HOt:=am_ (Kd.R_lower hot (below_size ybl_));replace HB:=yst_ hb;clear hb hot));go_ret2;exact⟨_,by first|rfl|(simp;done),ybl_,.new (yru_ HOt)⟩
         ·rw [if_neg c1]at H;cases H
        ·rw [if_pos (by omega)]at H;have t6b0:(tp==6)=false:=beq_eq_false_iff_ne.mpr t6;have t6b1:(tp !=6)=true:=bne_iff_ne.mpr t6;simp only [Option.some.injEq,Prod.mk.injEq]at H;obtain⟨rfl,rfl⟩:=H;go_wp2;go_ret2;exact⟨_,by first|rfl|(simp;done),ybl_,.same⟩
     ·have hx:=hx32.out;rw [decide_eq_false c32]at hx;clear hx32;subst hx;have H:=HC.out;rw [if_neg c32]at H;clear HC;by_cases k5:a1=5
      ·subst k5;rw [if_pos rfl]at H;by_cases t3:tp=3
       ·subst t3;rw [if_neg (by omega)]at H;unfold impl_fit.cut at H;by_cases c1:1≤l0.length
        ·rw [if_pos c1]at H;simp only [Option.some.injEq,Prod.mk.injEq]at H;obtain⟨rfl,rfl⟩:=H;obtain⟨p,hp⟩: ∃p,p=l0.length - 1:=⟨_,rfl⟩
         have hw1:IntKind.i64.wrap ((l0.length:Int) - 1)=(p:Int):=by have:=LM0.out;rw [i64_w];unfold wrap64;omega
         have p1:(0:Int)≤(p:Int):=by omega
         have p2:(p:Int)≤(l0.length:Int):=by omega
         have p3:(p:Int)≤(c0:Int):=by have:=HC0.out;omega
         have p4:p≤c0:=by have:=HC0.out;omega
         have HP:=am_ hp;clear hp c1;go_wp2;go_ret2;exact⟨_,by first|rfl|(simp;done),ybl_,.part HP.out⟩
        ·rw [if_neg c1]at H;cases H
       ·have t3b0:(tp==3)=false:=beq_eq_false_iff_ne.mpr t3;have t3b1:(tp !=3)=true:=bne_iff_ne.mpr t3;by_cases t4:tp=4
        ·subst t4;rw [if_neg (by omega)]at H;unfold impl_fit.cut at H;by_cases c1:1≤l0.length
         ·rw [if_pos c1]at H;simp only [Option.some.injEq,Prod.mk.injEq]at H;obtain⟨rfl,rfl⟩:=H;obtain⟨p,hp⟩: ∃p,p=l0.length - 1:=⟨_,rfl⟩
          have hw1:IntKind.i64.wrap ((l0.length:Int) - 1)=(p:Int):=by have:=LM0.out;rw [i64_w];unfold wrap64;omega
          have p1:(0:Int)≤(p:Int):=by omega
          have p2:(p:Int)≤(l0.length:Int):=by omega
          have p3:(p:Int)≤(c0:Int):=by have:=HC0.out;omega
          have p4:p≤c0:=by have:=HC0.out;omega
          have HP:=am_ hp;clear hp c1;go_wp2;go_ret2;exact⟨_,by first|rfl|(simp;done),ybl_,.part HP.out⟩
         ·rw [if_neg c1]at H;cases H
        ·have t4b0:(tp==4)=false:=beq_eq_false_iff_ne.mpr t4;have t4b1:(tp !=4)=true:=bne_iff_ne.mpr t4;rw [if_pos (by omega)]at H;simp only [Option.some.injEq,Prod.mk.injEq]at H;obtain⟨rfl,rfl⟩:=H;go_wp2;go_ret2;exact⟨_,by first|rfl|(simp;done),ybl_,.same⟩
      ·rw [if_neg k5]at H;have k5b0:(a1==5)=false:=beq_eq_false_iff_ne.mpr k5;have k5b1:(a1 !=5)=true:=bne_iff_ne.mpr k5;by_cases k7:a1=7
       ·subst k7;rw [if_pos rfl]at H;by_cases t6:tp=6
        ·subst t6;rw [if_neg (by omega)]at H;unfold impl_fit.cut at H;by_cases c1:1≤l0.length
         ·rw [if_pos c1]at H;simp only [Option.some.injEq,Prod.mk.injEq]at H;obtain⟨rfl,rfl⟩:=H;obtain⟨p,hp⟩: ∃p,p=l0.length - 1:=⟨_,rfl⟩
          have hw1:IntKind.i64.wrap ((l0.length:Int) - 1)=(p:Int):=by have:=LM0.out;rw [i64_w];unfold wrap64;omega
          have p1:(0:Int)≤(p:Int):=by omega
          have p2:(p:Int)≤(l0.length:Int):=by omega
          have p3:(p:Int)≤(c0:Int):=by have:=HC0.out;omega
          have p4:p≤c0:=by have:=HC0.out;omega
          have HP:=am_ hp;clear hp c1;go_wp2;go_ret2;exact⟨_,by first|rfl|(simp;done),ybl_,.part HP.out⟩
         ·rw [if_neg c1]at H;cases H
        ·have t6b0:(tp==6)=false:=beq_eq_false_iff_ne.mpr t6;have t6b1:(tp !=6)=true:=bne_iff_ne.mpr t6;rw [if_pos (by omega)]at H;simp only [Option.some.injEq,Prod.mk.injEq]at H;obtain⟨rfl,rfl⟩:=H;go_wp2;go_ret2;exact⟨_,by first|rfl|(simp;done),ybl_,.same⟩
       ·rw [if_neg k7]at H;have k7b0:(a1==7)=false:=beq_eq_false_iff_ne.mpr k7;have k7b1:(a1 !=7)=true:=bne_iff_ne.mpr k7;by_cases k9:a1=9
        ·subst k9;rw [if_pos rfl]at H;by_cases t8:tp=8
         ·subst t8;rw [if_neg (by omega)]at H;unfold impl_fit.cut at H;by_cases c1:1≤l0.length
          ·rw [if_pos c1]at H;simp only [Option.some.injEq,Prod.mk.injEq]at H;obtain⟨rfl,rfl⟩:=H;obtain⟨p,hp⟩: ∃p,p=l0.length - 1:=⟨_,rfl⟩
           have hw1:IntKind.i64.wrap ((l0.length:Int) - 1)=(p:Int):=by have:=LM0.out;rw [i64_w];unfold wrap64;omega
           have p1:(0:Int)≤(p:Int):=by omega
           have p2:(p:Int)≤(l0.length:Int):=by omega
           have p3:(p:Int)≤(c0:Int):=by have:=HC0.out;omega
           have p4:p≤c0:=by have:=HC0.out;omega
           have HP:=am_ hp;clear hp c1;go_wp2;go_ret2;exact⟨_,by first|rfl|(simp;done),ybl_,.part HP.out⟩
          ·rw [if_neg c1]at H;cases H
         ·have t8b0:(tp==8)=false:=beq_eq_false_iff_ne.mpr t8;have t8b1:(tp !=8)=true:=bne_iff_ne.mpr t8;rw [if_pos (by omega)]at H;simp only [Option.some.injEq,Prod.mk.injEq]at H;obtain⟨rfl,rfl⟩:=H;go_wp2;go_ret2;exact⟨_,by first|rfl|(simp;done),ybl_,.same⟩
        ·rw [if_neg k9]at H;have k9b0:(a1==9)=false:=beq_eq_false_iff_ne.mpr k9;have k9b1:(a1 !=9)=true:=bne_iff_ne.mpr k9;by_cases k11:a1=11
         ·subst k11;rw [if_pos (by omega)]at H;by_cases t10:tp=10
          ·subst t10;rw [if_neg (by omega)]at H;unfold impl_fit.cut at H;by_cases c1:1≤l0.length
           ·rw [if_pos c1]at H;simp only [Option.some.injEq,Prod.mk.injEq]at H;obtain⟨rfl,rfl⟩:=H;obtain⟨p,hp⟩: ∃p,p=l0.length - 1:=⟨_,rfl⟩
            have hw1:IntKind.i64.wrap ((l0.length:Int) - 1)=(p:Int):=by have:=LM0.out;rw [i64_w];unfold wrap64;omega
            have p1:(0:Int)≤(p:Int):=by omega
            have p2:(p:Int)≤(l0.length:Int):=by omega
            have p3:(p:Int)≤(c0:Int):=by have:=HC0.out;omega
            have p4:p≤c0:=by have:=HC0.out;omega
            have HP:=am_ hp;clear hp c1;go_wp2;go_ret2;exact⟨_,by first|rfl|(simp;done),ybl_,.part HP.out⟩
           ·rw [if_neg c1]at H;cases H
          ·have t10b0:(tp==10)=false:=beq_eq_false_iff_ne.mpr t10;have t10b1:(tp !=10)=true:=bne_iff_ne.mpr t10;rw [if_pos (by omega)]at H;simp only [Option.some.injEq,Prod.mk.injEq]at H;obtain⟨rfl,rfl⟩:=H;go_wp2;go_ret2;exact⟨_,by first|rfl|(simp;done),ybl_,.same⟩
         ·have k11b0:(a1==11)=false:=beq_eq_false_iff_ne.mpr k11;have k11b1:(a1 !=11)=true:=bne_iff_ne.mpr k11;by_cases k12:a1=12
          ·subst k12;rw [if_pos (by omega)]at H;by_cases t10:tp=10
           ·subst t10;rw [if_neg (by omega)]at H;unfold impl_fit.cut at H;by_cases c1:1≤l0.length
            ·rw [if_pos c1]at H;simp only [Option.some.injEq,Prod.mk.injEq]at H;obtain⟨rfl,rfl⟩:=H;obtain⟨p,hp⟩: ∃p,p=l0.length - 1:=⟨_,rfl⟩
             have hw1:IntKind.i64.wrap ((l0.length:Int) - 1)=(p:Int):=by have:=LM0.out;rw [i64_w];unfold wrap64;omega
             have p1:(0:Int)≤(p:Int):=by omega
             have p2:(p:Int)≤(l0.length:Int):=by omega
             have p3:(p:Int)≤(c0:Int):=by have:=HC0.out;omega
             have p4:p≤c0:=by have:=HC0.out;omega
             have HP:=am_ hp;clear hp c1;go_wp2;go_ret2;exact⟨_,by first|rfl|(simp;done),ybl_,.part HP.out⟩
            ·rw [if_neg c1]at H;cases H
           ·have t10b0:(tp==10)=false:=beq_eq_false_iff_ne.mpr t10;have t10b1:(tp !=10)=true:=bne_iff_ne.mpr t10;rw [if_pos (by omega)]at H;simp only [Option.some.injEq,Prod.mk.injEq]at H;obtain⟨rfl,rfl⟩:=H;go_wp2;go_ret2;exact⟨_,by first|rfl|(simp;done),ybl_,.same⟩
          ·rw [if_neg (by omega)]at H;have k12b0:(a1==12)=false:=beq_eq_false_iff_ne.mpr k12;have k12b1:(a1 !=12)=true:=bne_iff_ne.mpr k12;simp only [Option.some.injEq,Prod.mk.injEq]at H;obtain⟨rfl,rfl⟩:=H;go_wp2;go_ret2;exact⟨_,by first|rfl|(simp;done),ybl_,.same⟩
theorem impl_fit.calls (P0_:Nat→Prop) (u9000_:Value) (l0:List Int) (a1:Int) (r1:List Int) (r2:Bool) (w0 w:World) (hB:Below w0.heap.size w0 w) (ho0:Kd.R (Kd.int .i64) 3 w w0.heap.size P0_ u9000_ l0) (h:impl_fit.f l0 a1=some (r1,r2)):
  Calls Try.prog 64 #[u9000_,.int .i64 a1] w fun e w'=> ∃v0_:Value,e= .returned (.tuple #[v0_,.bool r2])∧Kd.R (Kd.int .i64) 3 w' w0.heap.size (fun k_=>(P0_ k_∨w.heap.size≤k_)) v0_ r1∧Below w0.heap.size w0 w'∧Kept w w' (fun k_=>P0_ k_):=by
 obtain⟨A0,c0,e0⟩:=Kd.R_slice ho0;subst e0;refine(impl_fit.key A0 c0 l0 a1 r1 r2 w (Kd.R_reads' ho0).2.2 (Kd.R_reads' ho0).2.1 h).mono ?_;rintro e w' ⟨v0_,rfl,hb,hv⟩;refine⟨v0_,rfl,?_,hB.trans (hb.mono hB.size),Kept.of_below hb _⟩;have ho1:=Kd.R_mono (Kd.R_below ho0 hb) (fun (k_:Nat) hk=>(Or.inl hk:P0_ k_∨w.heap.size≤k_));rcases hv with ⟨rfl,rfl⟩|⟨rfl,rfl⟩|hv
 ·exact ho1
 ·exact Kd.R_take ho1 (Nat.sub_le _ _)
 ·exact Kd.R_mono (Kd.R_lower (Kd.R_newM (M:=fun k_=>w.heap.size≤k_) hv (Nat.le_refl _) (fun _ h_=>h_)) hB.size) (fun _ hk=> .inr hk.1)


/-! ### impl_openAt: function 52 -/
def impl_openAt.l0:Nat→List Int→List (S44)→Int→Int→Option (List Int × Int)
 |0,_,_,_,_=>none
 |k+1,x4,x10,x11,x12=>if x12<x11 then(if 0≤x12 then(if x12<(x10.length:Int)then((impl_fit.f x4 ((rd_T44 x10 x12).f0)).bind fun bt273=>(if bt273.2=true then(impl_openAt.l0 k bt273.1 x10 x11 (wrap64 (x12+1)))else(some (([]:List Int),x12))))else(none))else(none))else(some (x4,(-1)))
def impl_openAt.f (k:Nat) (l0:List (S44)):Option (List Int × Int):=impl_openAt.l0 k (([]:List Int)) l0 (l0.length:Int) 0
theorem impl_openAt.mono_l: ∀k,(∀y0 y1 y2 y3,LeO (impl_openAt.l0 k y0 y1 y2 y3) (impl_openAt.l0 (k+1) y0 y1 y2 y3))
 |0=>fun _ _ _ _ r h=>by simp [impl_openAt.l0]at h
 |k+1=>by
  have ih0:=impl_openAt.mono_l k
  ·intro y0 y1 y2 y3;unfold impl_openAt.l0;repeat' first
   |(with_reducible first|apply ih0|exact LeO.refl _|exact LeO.none _|refine LeO.ite ?_ ?_|refine LeO.bind ?_ (fun _=> ?_))
   |apply ih0|exact LeO.none _|refine LeO.ite ?_ ?_|refine LeO.bind ?_ (fun _=> ?_)
theorem impl_openAt.mono: ∀a0 k,LeO (impl_openAt.f k a0) (impl_openAt.f (k+1) a0):=by
 intro a0 k;have ih0:=impl_openAt.mono_l k;unfold impl_openAt.f;repeat' first
 |(with_reducible first|apply ih0|exact LeO.refl _|exact LeO.none _|refine LeO.ite ?_ ?_|refine LeO.bind ?_ (fun _=> ?_))
 |apply ih0|exact LeO.none _|refine LeO.ite ?_ ?_|refine LeO.bind ?_ (fun _=> ?_)
theorem impl_openAt.calls (k:Nat) A0 c0 l0 (r1:List Int) (r2:Int) (w:World) (hr0:Kd.C k44 w A0 l0.length l0) (hc0:l0.length≤c0) (h:impl_openAt.f k l0=some (r1,r2)):
  Calls Try.prog 52 #[.slice A0 l0.length c0] w fun e w'=> ∃v0_:Value,e= .returned (.tuple #[v0_,.int .i64 r2])∧Kd.R (Kd.int .i64) 3 w' w.heap.size (fun _=>True) v0_ r1∧Below w.heap.size w w':=by
 have hu44:=Try.underlying44;have HR0:=am_ hr0;have HC0:=am_ hc0;clear hr0 hc0;have HB:=am_ (Below.refl w.heap.size w);have H:=h;clear h;rw [impl_openAt.f]at H;obtain⟨y268,hy268⟩: ∃y_:List Int,y_=(([]:List Int)):=⟨_,rfl⟩
 replace H:(impl_openAt.l0 k y268 l0 (l0.length:Int) 0)=some (r1,r2):=by first|(rw [hy268];with_reducible exact H)|(have H2_:=(Option.bind_some _ _).symm.trans H;rw [hy268];with_reducible exact H2_)|(have H2_:=(Option.bind_some _ _).symm.trans H;with_reducible exact H2_)|with_reducible exact H|(rw [hy268];exact H)|exact H
 have Ny268:=am_ hy268;clear hy268;have H':=am_ H;clear H;go_enter Try.func52,Try.ntmps52;go_wp2_with (first|((with_reducible refine gate_dst (N:=9) rfl ?_);refine Kd.R_lit (Kd.int .i64) _ 3 ?hg (N:=9) ?hd (xs:=([]:List Int)) (inner:= []) (ok:=fun _=>True) (okp:=fun _=>True) ?hr ?hp (fun _ hk=>hk) trivial (Below.refl _ _) (Nat.le_refl _) (by simp) ?_;(case hd=>rfl);(case hg=>rfl);(case hr=>first|(go_simp;done)|(go_simp;rfl));(case hp=>exact(Reps.none _ _));intro v269 w2 ho3 hb hg_ hnew_;clear hg_ hnew_;(first|rw [←Ny268.out]at ho3|(simp only [Int.reduceToNat]at ho3;rw [←Ny268.out]at ho3));have HO270:=am_ (Kd.R_lower ho3 (below_size ybl_));replace HB:=yst_ hb;clear hb ho3));go_loopg [4,12] k (fun kq v4 v12 w'=> ∃(x4_1:List Int) (x12_1:Int),v12= .int .i64 x12_1∧Aside0 (impl_openAt.l0 kq x4_1 l0 (l0.length:Int) x12_1=some (r1,r2))∧Aside0 (kq≤k)∧Aside0 (Kd.R (Kd.int .i64) 3 w' w.heap.size (fun _=>True) v4 x4_1)∧Aside0 (Below w.heap.size w w'));case atStart=>exact⟨(y268),(0),(by first|rfl|(simp;done)|(simp [*];done)),H',⟨Nat.le_refl _⟩,⟨(yru_ HO270)⟩,⟨ybl_⟩⟩
 case round=>
  clear H';try clear p2
  obtain⟨x4_1,x12_1,rfl,HA,HK1,HO_4,HB⟩:=hrel;cases gk with
  |zero=>exact absurd HA.out (by simp [impl_openAt.l0])
  |succ k1=>
   have H:=HA.out;clear HA;simp only [impl_openAt.l0]at H;by_cases c4:x12_1<(l0.length:Int)
   ·rw [if_pos c4]at H;have c4b0:decide (x12_1<(l0.length:Int))=true:=decide_eq_true c4;clear c4;by_cases c5:0≤x12_1
    ·rw [if_pos c5]at H;have c5b0:decide (0≤x12_1)=true:=decide_eq_true c5;clear c5;by_cases c6:x12_1<(l0.length:Int)
     ·rw [if_pos c6]at H;have c6b0:decide (x12_1<(l0.length:Int))=true:=decide_eq_true c6;clear c6;replace H:=Option.bind_eq_some_iff.mp H;obtain⟨⟨t273,t276⟩,A70,H⟩:=H;try dsimp only at H
      have A7:=am_ A70;clear A70;by_cases c8:t276=true
      ·subst c8;rw [if_pos rfl]at H;have H':=am_ H;clear H;have p271:0≤(x12_1:Int):=of_decide_eq_true yqv0_;have q271:x12_1<(l0.length:Int):=of_decide_eq_true yqv0_;obtain⟨ad271,e271,hx271_0,hx271_1⟩:=at_T44 HR0.out x12_1 p271 q271;cases e271;replace hx271_0:=ycst_ HB hx271_0;replace hx271_1:=ycst_ HB hx271_1;replace p271:=eq_true p271;replace q271:=eq_true q271;go_wp2_with (first|((with_reducible refine gate_dst (N:=6) rfl ?_);refine box_event ?hg (N:=6) ?hd (cs:= #[.int .i64 0,.int .i64 0]) (t:=44) ?hr ?_;(case hd=>rfl);(case hg=>rfl);(case hr=>first|(go_simp;done)|(go_simp;rfl));intro gb272 hg w9 hbox hb;replace HO_4:=am_ (Kd.R_below (yru_ HO_4) hb);have BK272:=am_ (hbox);have GW272:=am_ ((ybsz_ hg:w.heap.size≤gb272));have GE272:=GW272;replace HB:=yst_ hb;clear hb hbox hg;have hcz10_0:w9.cell? ⟨gb272,0,none⟩=some (.int .i64 0):=(blk_cell BK272.out 0).trans rfl;have hcz10_1:w9.cell? ⟨gb272,1,none⟩=some (.int .i64 0):=(blk_cell BK272.out 1).trans rfl;have hfz10_0:=blk_frozen BK272.out 0;have hfz10_1:=blk_frozen BK272.out 1)|((with_reducible refine gate_store (t:=44) (p:=6) rfl ?_);refine store_event (t:=44) (p:=6) (v:= ?vo_w11) (w1:=((w9.setCell ⟨gb272,0,none⟩ (.int .i64 ((rd_T44 l0 x12_1).f0))).setCell ⟨gb272,1,none⟩ (.int .i64 ((rd_T44 l0 x12_1).f1)))) ?hg ?ho ?hn ?hr ?_;(case ho=>rfl);(case hg=>rfl);(case hn=>rfl);(case hr=>first|(go_simp;done)|(go_simp;rfl));intro w11 hw;have n0_:Aside0 (Kd.R (Kd.int .i64) 3 w11 w.heap.size (fun _=>True) u4 x4_1):=⟨(by rw [hw];exact(by(with_reducible repeat(first|apply Kd.R_alloc|apply Kd.R_drewN|apply Kd.R_drew));exact Kd.R_mono (yrs2c_ HO_4 BK272) (fun _ hk=>trivial)))⟩;have n1_:Aside0 (w11.heap[gb272]?=some (.cells #[.int .i64 ((rd_T44 l0 x12_1).f0),.int .i64 ((rd_T44 l0 x12_1).f1)] 44 (0,0))):=⟨(by rw [hw];exact(by(with_reducible repeat(first|refine blk_drewN ?_ _|refine blk_drew ?_|refine blk_alloc ?_ _));refine blk_put (cs:= #[.int .i64 ((rd_T44 l0 x12_1).f0),.int .i64 0]) ?_ 1 _ rfl;(with_reducible repeat(first|refine blk_drewN ?_ _|refine blk_drew ?_|refine blk_alloc ?_ _));refine blk_put (cs:= #[.int .i64 0,.int .i64 0]) ?_ 0 _ rfl;(with_reducible repeat(first|refine blk_drewN ?_ _|refine blk_drew ?_|refine blk_alloc ?_ _));exact BK272.out))⟩;have n2_:Aside0 (Below w.heap.size w w11):=⟨(by rw [hw];exact ybl_)⟩;clear hw;clear HO_4;clear BK272;clear HB;have HO_4:=n0_;have BK272:=n1_;have HB:=n2_;clear n0_ n1_ n2_;have hcz12_0:w11.cell? ⟨gb272,0,none⟩=some (.int .i64 ((rd_T44 l0 x12_1).f0)):=(blk_cell BK272.out 0).trans rfl;have hcz12_1:w11.cell? ⟨gb272,1,none⟩=some (.int .i64 ((rd_T44 l0 x12_1).f1)):=(blk_cell BK272.out 1).trans rfl;have hfz12_0:=blk_frozen BK272.out 0;have hfz12_1:=blk_frozen BK272.out 1;obtain⟨Ao13,co13,eo13⟩:=Kd.R_slice HO_4.out;subst eo13)|((with_reducible refine gate_callee (f:=64) rfl ?_);refine goesL_ (some 21) rfl rfl Try.func64 (by kernel_rfl) rfl #[.slice Ao13 x4_1.length co13,.int .i64 ((rd_T44 l0 x12_1).f0)] rfl yk0_ ?_;(with_reducible refine(impl_fit.calls (fun k_=>some k_=(.slice Ao13 x4_1.length co13:Value).ownBlock) (.slice Ao13 x4_1.length co13) x4_1 ((rd_T44 l0 x12_1).f0) t273 true w _ ?side1 ?side2 A7.out).mono ?_);(case side1=>exact ybl_);(case side2=>exact Kd.R_tight rfl HO_4.out);rintro e w14 ⟨v274,rfl,ho0,hb,hkp⟩;refine⟨_,rfl,?_⟩;replace BK272:=am_ (blk_kept (ybu_ BK272) hkp (fun hs_=>(fun e_=>(Kd.R_ne HO_4.out BK272.out (by decide)) e_) hs_));have HO275:=am_ (Kd.R_mono (ok':=fun k_=>True) ho0 (fun k_ hk_=>trivial));replace HB:=am_ (hb);clear HO_4;(try clear hb);(try clear hkp);(try clear ho0)));go_roundg k1;case measure=>have:=HK1.out;omega
       case rel=>exact⟨(t273),(wrap64 (x12_1+1)),(by first|rfl|(simp;done)|(simp [*];done)),H',⟨by have:=HK1.out;omega⟩,⟨(yru_ HO275)⟩,⟨ybl_⟩⟩
      ·replace c8:=Bool.eq_false_iff.mpr c8;subst c8;rw [if_neg (show¬(false=true) by decide)]at H;simp only [Option.some.injEq,Prod.mk.injEq]at H;obtain⟨rfl,rfl⟩:=H;have p271:0≤(x12_1:Int):=of_decide_eq_true yqv0_;have q271:x12_1<(l0.length:Int):=of_decide_eq_true yqv0_;obtain⟨ad271,e271,hx271_0,hx271_1⟩:=at_T44 HR0.out x12_1 p271 q271;cases e271;replace hx271_0:=ycst_ HB hx271_0;replace hx271_1:=ycst_ HB hx271_1;replace p271:=eq_true p271;replace q271:=eq_true q271;go_wp2_with (first|((with_reducible refine gate_dst (N:=6) rfl ?_);refine box_event ?hg (N:=6) ?hd (cs:= #[.int .i64 0,.int .i64 0]) (t:=44) ?hr ?_;(case hd=>rfl);(case hg=>rfl);(case hr=>first|(go_simp;done)|(go_simp;rfl));intro gb272 hg w15 hbox hb;replace HO_4:=am_ (Kd.R_below (yru_ HO_4) hb);have BK272:=am_ (hbox);have GW272:=am_ ((ybsz_ hg:w.heap.size≤gb272));have GE272:=GW272;replace HB:=yst_ hb;clear hb hbox hg;have hcz16_0:w15.cell? ⟨gb272,0,none⟩=some (.int .i64 0):=(blk_cell BK272.out 0).trans rfl;have hcz16_1:w15.cell? ⟨gb272,1,none⟩=some (.int .i64 0):=(blk_cell BK272.out 1).trans rfl;have hfz16_0:=blk_frozen BK272.out 0;have hfz16_1:=blk_frozen BK272.out 1)|((with_reducible refine gate_store (t:=44) (p:=6) rfl ?_);refine store_event (t:=44) (p:=6) (v:= ?vo_w17) (w1:=((w15.setCell ⟨gb272,0,none⟩ (.int .i64 ((rd_T44 l0 x12_1).f0))).setCell ⟨gb272,1,none⟩ (.int .i64 ((rd_T44 l0 x12_1).f1)))) ?hg ?ho ?hn ?hr ?_;(case ho=>rfl);(case hg=>rfl);(case hn=>rfl);(case hr=>first|(go_simp;done)|(go_simp;rfl));intro w17 hw;have n0_:Aside0 (Kd.R (Kd.int .i64) 3 w17 w.heap.size (fun _=>True) u4 x4_1):=⟨(by rw [hw];exact(by(with_reducible repeat(first|apply Kd.R_alloc|apply Kd.R_drewN|apply Kd.R_drew));exact Kd.R_mono (yrs2c_ HO_4 BK272) (fun _ hk=>trivial)))⟩;have n1_:Aside0 (w17.heap[gb272]?=some (.cells #[.int .i64 ((rd_T44 l0 x12_1).f0),.int .i64 ((rd_T44 l0 x12_1).f1)] 44 (0,0))):=⟨(by rw [hw];exact(by(with_reducible repeat(first|refine blk_drewN ?_ _|refine blk_drew ?_|refine blk_alloc ?_ _));refine blk_put (cs:= #[.int .i64 ((rd_T44 l0 x12_1).f0),.int .i64 0]) ?_ 1 _ rfl;(with_reducible repeat(first|refine blk_drewN ?_ _|refine blk_drew ?_|refine blk_alloc ?_ _));refine blk_put (cs:= #[.int .i64 0,.int .i64 0]) ?_ 0 _ rfl;(with_reducible repeat(first|refine blk_drewN ?_ _|refine blk_drew ?_|refine blk_alloc ?_ _));exact BK272.out))⟩;have n2_:Aside0 (Below w.heap.size w w17):=⟨(by rw [hw];exact ybl_)⟩;clear hw;clear HO_4;clear BK272;clear HB;have HO_4:=n0_;have BK272:=n1_;have HB:=n2_;clear n0_ n1_ n2_;have hcz18_0:w17.cell? ⟨gb272,0,none⟩=some (.int .i64 ((rd_T44 l0 x12_1).f0)):=(blk_cell BK272.out 0).trans rfl;have hcz18_1:w17.cell? ⟨gb272,1,none⟩=some (.int .i64 ((rd_T44 l0 x12_1).f1)):=(blk_cell BK272.out 1).trans rfl;have hfz18_0:=blk_frozen BK272.out 0;have hfz18_1:=blk_frozen BK272.out 1;obtain⟨Ao19,co19,eo19⟩:=Kd.R_slice HO_4.out;subst eo19)|((with_reducible refine gate_callee (f:=64) rfl ?_);refine goesL_ (some 21) rfl rfl Try.func64 (by kernel_rfl) rfl #[.slice Ao19 x4_1.length co19,.int .i64 ((rd_T44 l0 x12_1).f0)] rfl yk0_ ?_;(with_reducible refine(impl_fit.calls (fun k_=>some k_=(.slice Ao19 x4_1.length co19:Value).ownBlock) (.slice Ao19 x4_1.length co19) x4_1 ((rd_T44 l0 x12_1).f0) t273 false w _ ?side1 ?side2 A7.out).mono ?_);(case side1=>exact ybl_);(case side2=>exact Kd.R_tight rfl HO_4.out);rintro e w20 ⟨v274,rfl,ho0,hb,hkp⟩;refine⟨_,rfl,?_⟩;replace BK272:=am_ (blk_kept (ybu_ BK272) hkp (fun hs_=>(fun e_=>(Kd.R_ne HO_4.out BK272.out (by decide)) e_) hs_));have HO275:=am_ (Kd.R_mono (ok':=fun k_=>True) ho0 (fun k_ hk_=>trivial));replace HB:=am_ (hb);clear HO_4;(try clear hb);(try clear hkp);(try clear ho0)));go_ret2;exact⟨_,yk1_,by first|exact Kd.R_nil _ _ _ _ _|exact Kd.N_nil _ _ _ _ _|exact Kd.V_nil _ _ _ _ _|exact Kd.Q_nil _ _ _ _ _|exact Kd.S_nil _ _ _ _ _,ybl_⟩
     ·rw [if_neg c6]at H;exact absurd H (by simp)
    ·rw [if_neg c5]at H;exact absurd H (by simp)
   ·rw [if_neg c4]at H;have c4b0:decide (x12_1<(l0.length:Int))=false:=decide_eq_false c4;clear c4;simp only [Option.some.injEq,Prod.mk.injEq]at H;obtain⟨rfl,rfl⟩:=H;go_wp2;go_ret2;exact⟨_,yk1_,by(with_reducible repeat(first|apply Kd.R_alloc|apply Kd.R_drewN|apply Kd.R_drew));exact HO_4.out,ybl_⟩

/-! ### impl_checkItems: function 37 -/
def impl_checkItems.f (k:Nat) (l0:List (S44)):Option (Int):=(impl_openAt.f k l0).bind fun bt277=>(if bt277.2<0 then(if(bt277.1.length:Int)>0 then(some (l0.length:Int))else(some bt277.2))else(some bt277.2))
theorem impl_checkItems.mono: ∀a0 k,LeO (impl_checkItems.f k a0) (impl_checkItems.f (k+1) a0):=by
 intro a0 k;unfold impl_checkItems.f;repeat' first
 |(with_reducible first|apply impl_openAt.mono|exact LeO.refl _|exact LeO.none _|refine LeO.ite ?_ ?_|refine LeO.bind ?_ (fun _=> ?_))
 |apply impl_openAt.mono|exact LeO.none _|refine LeO.ite ?_ ?_|refine LeO.bind ?_ (fun _=> ?_)
theorem impl_checkItems.calls (k:Nat) A0 c0 l0 (r:Int) (w:World) (hr0:Kd.C k44 w A0 l0.length l0) (hc0:l0.length≤c0) (h:impl_checkItems.f k l0=some r):
  Calls Try.prog 37 #[.slice A0 l0.length c0] w fun e w'=>e= .returned (.int .i64 r)∧Below w.heap.size w w':=by
 have HR0:=am_ hr0;have HC0:=am_ hc0;clear hr0 hc0;have HB:=am_ (Below.refl w.heap.size w);have H:=h;clear h;rw [impl_checkItems.f]at H;replace H:=Option.bind_eq_some_iff.mp H;obtain⟨⟨t277,t278⟩,A20,H⟩:=H;try dsimp only at H
 have A2:=am_ A20;clear A20;by_cases c3:t278<0
 ·rw [if_pos c3]at H;have c3b0:decide (t278<0)=true:=decide_eq_true c3;clear c3;by_cases c4:(t277.length:Int)>0
  ·rw [if_pos c4]at H;have c4b0:decide (0<(t277.length:Int))=true:=decide_eq_true c4;have c4b1:decide (0<t277.length)=true:=decide_eq_true (by omega);clear c4;obtain rfl:=Option.some.inj H;go_enter Try.func37,Try.ntmps37;go_wp2_with (first|((with_reducible refine gate_callee (f:=52) rfl ?_);refine goesL_ (some 7) rfl rfl Try.func52 (by kernel_rfl) rfl #[.slice A0 l0.length c0] rfl yk0_ ?_;(with_reducible refine(impl_openAt.calls k _ _ l0 t277 t278 _ ?side1 HC0.out A2.out).mono ?_);(case side1=>repeat(first|exact HR0.out|(with_reducible refine Kd.C_alloc ?_ _)|(with_reducible refine Kd.C_drewN ?_ _)|(with_reducible refine Kd.C_drew ?_)));rintro e w5 ⟨v279,rfl,ho0,hb⟩;refine⟨_,rfl,?_⟩;have HO280:=am_ (Kd.R_lower ho0 (below_size ybl_));replace HB:=yst_ hb;(try clear hb);(try clear ho0);obtain⟨Ao6,co6,eo6⟩:=Kd.R_slice HO280.out;subst eo6));go_ret;exact⟨yk1_,ybl_⟩
  ·rw [if_neg c4]at H;have c4b0:decide (0<(t277.length:Int))=false:=decide_eq_false c4;have c4b1:decide (0<t277.length)=false:=decide_eq_false (by omega);clear c4;obtain rfl:=Option.some.inj H;go_enter Try.func37,Try.ntmps37;go_wp2_with (first|((with_reducible refine gate_callee (f:=52) rfl ?_);refine goesL_ (some 7) rfl rfl Try.func52 (by kernel_rfl) rfl #[.slice A0 l0.length c0] rfl yk0_ ?_;(with_reducible refine(impl_openAt.calls k _ _ l0 t277 t278 _ ?side1 HC0.out A2.out).mono ?_);(case side1=>repeat(first|exact HR0.out|(with_reducible refine Kd.C_alloc ?_ _)|(with_reducible refine Kd.C_drewN ?_ _)|(with_reducible refine Kd.C_drew ?_)));rintro e w7 ⟨v279,rfl,ho0,hb⟩;refine⟨_,rfl,?_⟩;have HO280:=am_ (Kd.R_lower ho0 (below_size ybl_));replace HB:=yst_ hb;(try clear hb);(try clear ho0);obtain⟨Ao8,co8,eo8⟩:=Kd.R_slice HO280.out;subst eo8));go_ret;exact⟨yk1_,ybl_⟩
 ·rw [if_neg c3]at H;have c3b0:decide (t278<0)=false:=decide_eq_false c3;clear c3;obtain rfl:=Option.some.inj H;go_enter Try.func37,Try.ntmps37;go_wp2_with (first|((with_reducible refine gate_callee (f:=52) rfl ?_);refine goesL_ (some 7) rfl rfl Try.func52 (by kernel_rfl) rfl #[.slice A0 l0.length c0] rfl yk0_ ?_;(with_reducible refine(impl_openAt.calls k _ _ l0 t277 t278 _ ?side1 HC0.out A2.out).mono ?_);(case side1=>repeat(first|exact HR0.out|(with_reducible refine Kd.C_alloc ?_ _)|(with_reducible refine Kd.C_drewN ?_ _)|(with_reducible refine Kd.C_drew ?_)));rintro e w9 ⟨v279,rfl,ho0,hb⟩;refine⟨_,rfl,?_⟩;have HO280:=am_ (Kd.R_lower ho0 (below_size ybl_));replace HB:=yst_ hb;(try clear hb);(try clear ho0)));go_ret;exact⟨yk1_,ybl_⟩

end Go.Proofs.Ythmcanjeeljnhaa.PTJ
