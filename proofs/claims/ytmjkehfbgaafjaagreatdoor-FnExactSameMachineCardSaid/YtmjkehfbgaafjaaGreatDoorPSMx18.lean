-- laid by a program of this session out of the translation's own print: Lean checks it
import Derived.Test.YtmjkehfbgaafjaaGreatDoorPSMx0
import Derived.Test.YtmjkehfbgaafjaaGreatDoorPSMx17
namespace Go.Proofs.YtmjkehfbgaafjaaGreatDoor.PSM
open Go.RowKit Go.Proofs.YtmjkehfbgaafjaaGreatDoorW.PrintWords Go.Proofs.YtmjkehfbgaafjaaGreatDoorW.PrintLast Go.Proofs.YtmjkehfbgaafjaaGreatDoorW.PrintMore
open List renaming setIfInBounds_toArray→la,set_cons_zero→lb,set_cons_succ→lc
open Option renaming bind_eq_some_iff→ob
attribute [local go_sem] max2_int min2_int max_two min_two max_three min_three max_four min_four -- for this text's walks alone
set_option linter.unusedVariables false
set_option maxHeartbeats 8000000
set_option maxRecDepth 100000
set_option linter.unusedSimpArgs false

/-! ### impl_KernelWords: function 80 -/
mutual
def impl_KernelWords.l0:Nat→List (S75)→List ByteArray→Int→Int→Option ((List (S75)))
 |0,_,_,_,_=>none
 |k+1,x1,x7,x8,x9=>if x9<x8 then(if 0≤x9 then(if x9<(x7.length:Int)then((strings_Fields.f (rdOf ByteArray.empty x7 x9)).bind fun t401=>(impl_KernelWords.l1 k x1 x9 x7 x8 x9 t401 (t401.length:Int) 0))else(none))else(none))else(some x1)
def impl_KernelWords.l1:Nat→List (S75)→Int→List ByteArray→Int→Int→List ByteArray→Int→Int→Option ((List (S75)))
 |0,_,_,_,_,_,_,_,_=>none
 |k+1,x1,x2,x7,x8,x9,x15,x16,x17=>if x17<x16 then(if 0≤x17 then(if x17<(x15.length:Int)then(if x1.length<4398046511104 then(impl_KernelWords.l1 k (x1++ [(⟨rdOf ByteArray.empty x15 x17,wrap64 (x2+1),wrap64 (x17+1)⟩:S75)]) x2 x7 x8 x9 x15 x16 (wrap64 (x17+1)))else(none))else(none))else(none))else(impl_KernelWords.l0 k x1 x7 x8 (wrap64 (x9+1)))
end
def impl_KernelWords.f (k:Nat):Option ((List (S75))):=(strings_Split.f (⟨#[68,85,80,32,68,82,79,80,32,83,87,65,80,32,79,86,69,82,32,82,79,84,32,78,73,80,32,84,85,67,75,32,63,68,85,80,32,50,68,85,80,32,50,68,82,79,80,32,68,69,80,84,72,32,62,82,32,82,62,32,82,64,32,43,32,45,32,42,32,47,32,77,79,68,32,65,78,68,32,79,82,32,88,79,82,32,76,83,72,73,70,84,32,82,83,72,73,70,84,32,78,69,71,65,84,69,32,65,66,83,32,73,78,86,69,82,84,32,49,43,32,49,45,32,77,73,78,32,77,65,88,32,61,32,60,62,32,60,32,62,32,85,60,32,48,61,32,48,60,32,64,32,33,32,43,33,32,72,69,82,69,32,65,76,76,79,84,32,44,32,69,77,73,84,32,46,32,67,82,32,83,80,65,67,69,32,68,69,67,73,77,65,76,32,72,69,88,32,73,32,85,78,76,79,79,80,124,69,88,73,84,32,69,88,69,67,85,84,69,32,67,65,84,67,72,32,84,72,82,79,87,124,40,76,73,84,41,32,40,66,82,65,78,67,72,41,32,40,48,66,82,65,78,67,72,41,32,40,68,79,41,32,40,76,79,79,80,41,32,40,43,76,79,79,80,41,124,72,82,69,65,68,32,72,87,82,73,84,69,32,72,65,83,75,32,72,84,73,77,69,124,58,32,59,32,73,70,32,69,76,83,69,32,84,72,69,78,32,66,69,71,73,78,32,85,78,84,73,76,32,87,72,73,76,69,32,82,69,80,69,65,84,32,68,79,32,76,79,79,80,32,43,76,79,79,80,32,82,69,67,85,82,83,69,32,86,65,82,73,65,66,76,69,32,67,79,78,83,84,65,78,84,32,39,32,91,39,93]⟩:ByteArray) (⟨#[124]⟩:ByteArray)).bind fun t397=>(impl_KernelWords.l0 k (([]:List (S75))) t397 (t397.length:Int) 0)
theorem impl_KernelWords.mono_l: ∀k,(∀y0 y1 y2 y3,LeO (impl_KernelWords.l0 k y0 y1 y2 y3) (impl_KernelWords.l0 (k+1) y0 y1 y2 y3))∧(∀y0 y1 y2 y3 y4 y5 y6 y7,LeO (impl_KernelWords.l1 k y0 y1 y2 y3 y4 y5 y6 y7) (impl_KernelWords.l1 (k+1) y0 y1 y2 y3 y4 y5 y6 y7))
 |0=>⟨fun _ _ _ _ r h=>by simp [impl_KernelWords.l0]at h,fun _ _ _ _ _ _ _ _ r h=>by simp [impl_KernelWords.l1]at h⟩
 |k+1=>by
  obtain⟨ih0,ih1⟩:=impl_KernelWords.mono_l k;refine⟨?_,?_⟩
  ·intro y0 y1 y2 y3;unfold impl_KernelWords.l0;repeat' first
   |(with_reducible first|apply ih0|apply ih1|exact LeO.refl _|exact LeO.none _|refine LeO.ite ?_ ?_|refine LeO.bind ?_ (fun _=> ?_))
   |apply ih0|apply ih1|exact LeO.none _|refine LeO.ite ?_ ?_|refine LeO.bind ?_ (fun _=> ?_)
  ·intro y0 y1 y2 y3 y4 y5 y6 y7;unfold impl_KernelWords.l1;repeat' first
   |(with_reducible first|apply ih0|apply ih1|exact LeO.refl _|exact LeO.none _|refine LeO.ite ?_ ?_|refine LeO.bind ?_ (fun _=> ?_))
   |apply ih0|apply ih1|exact LeO.none _|refine LeO.ite ?_ ?_|refine LeO.bind ?_ (fun _=> ?_)
theorem impl_KernelWords.mono: ∀k,LeO (impl_KernelWords.f k) (impl_KernelWords.f (k+1)):=by
 intro k;obtain⟨ih0,ih1⟩:=impl_KernelWords.mono_l k;unfold impl_KernelWords.f;repeat' first
 |(with_reducible first|apply ih0|apply ih1|exact LeO.refl _|exact LeO.none _|refine LeO.ite ?_ ?_|refine LeO.bind ?_ (fun _=> ?_))
 |apply ih0|apply ih1|exact LeO.none _|refine LeO.ite ?_ ?_|refine LeO.bind ?_ (fun _=> ?_)
theorem impl_KernelWords.calls (k:Nat) (r:List (S75)) (w:World) (h:impl_KernelWords.f k=some r) (hG:GlobOK w:=by first|exact HGL.out|exact GlobOK.below HGL.out HB.out|exact GlobOK.below HGL.out ybl_|(repeat(first|exact HGL.out|apply GlobOK.drewN|apply GlobOK.drew|apply GlobOK.alloc))):
  Calls Tryz.prog 80 #[] w fun e w'=> ∃v0_:Value,e= .returned (v0_)∧Kd.R k75 75 w' w.heap.size (fun _=>True) v0_ r∧Below w.heap.size w w':=by
 have HGL:=am_ hG;clear hG;have hu75:=Tryz.underlying75;have HB:=am_ (Below.refl w.heap.size w);have H:=h;clear h;rw [impl_KernelWords.f]at H;obtain⟨y394,hy394⟩: ∃y_:List (S75),y_=(([]:List (S75))):=⟨_,rfl⟩
 replace H:((strings_Split.f (⟨#[68,85,80,32,68,82,79,80,32,83,87,65,80,32,79,86,69,82,32,82,79,84,32,78,73,80,32,84,85,67,75,32,63,68,85,80,32,50,68,85,80,32,50,68,82,79,80,32,68,69,80,84,72,32,62,82,32,82,62,32,82,64,32,43,32,45,32,42,32,47,32,77,79,68,32,65,78,68,32,79,82,32,88,79,82,32,76,83,72,73,70,84,32,82,83,72,73,70,84,32,78,69,71,65,84,69,32,65,66,83,32,73,78,86,69,82,84,32,49,43,32,49,45,32,77,73,78,32,77,65,88,32,61,32,60,62,32,60,32,62,32,85,60,32,48,61,32,48,60,32,64,32,33,32,43,33,32,72,69,82,69,32,65,76,76,79,84,32,44,32,69,77,73,84,32,46,32,67,82,32,83,80,65,67,69,32,68,69,67,73,77,65,76,32,72,69,88,32,73,32,85,78,76,79,79,80,124,69,88,73,84,32,69,88,69,67,85,84,69,32,67,65,84,67,72,32,84,72,82,79,87,124,40,76,73,84,41,32,40,66,82,65,78,67,72,41,32,40,48,66,82,65,78,67,72,41,32,40,68,79,41,32,40,76,79,79,80,41,32,40,43,76,79,79,80,41,124,72,82,69,65,68,32,72,87,82,73,84,69,32,72,65,83,75,32,72,84,73,77,69,124,58,32,59,32,73,70,32,69,76,83,69,32,84,72,69,78,32,66,69,71,73,78,32,85,78,84,73,76,32,87,72,73,76,69,32,82,69,80,69,65,84,32,68,79,32,76,79,79,80,32,43,76,79,79,80,32,82,69,67,85,82,83,69,32,86,65,82,73,65,66,76,69,32,67,79,78,83,84,65,78,84,32,39,32,91,39,93]⟩:ByteArray) (⟨#[124]⟩:ByteArray)).bind fun t397=>(impl_KernelWords.l0 k y394 t397 (t397.length:Int) 0))=some r:=by first|(rw [hy394];with_reducible exact H)|(have H2_:=(Option.bind_some _ _).symm.trans H;rw [hy394];with_reducible exact H2_)|(have H2_:=(Option.bind_some _ _).symm.trans H;with_reducible exact H2_)|with_reducible exact H|(rw [hy394];exact H)|exact H
 have Ny394:=am_ hy394;clear hy394;replace H:=ob.mp H;obtain⟨t397,A10,H⟩:=H;try dsimp only at H
 have A1:=am_ A10;clear A10;have H':=am_ H;clear H;go_enter Tryz.func80,Tryz.ntmps80;go_wp2_with (first|((with_reducible refine gate_dst (N:=6) rfl ?_);refine Kd.R_lit k75 _ 75 ?hg (N:=6) ?hd (xs:=([]:List (S75))) (inner:= []) (ok:=fun _=>True) (okp:=fun _=>True) ?hr ?hp (fun _ hk=>hk) trivial (Below.refl _ _) (Nat.le_refl _) (by simp) ?_;(case hd=>rfl);(case hg=>rfl);(case hr=>first|(go_simp;done)|(go_simp;rfl));(case hp=>exact(Reps.none _ _));intro v395 w2 ho3 hb hg_ hnew_;clear hg_ hnew_;(first|rw [←Ny394.out]at ho3|(simp only [Int.reduceToNat]at ho3;rw [←Ny394.out]at ho3));have HO396:=am_ (Kd.R_lower ho3 (below_size ybl_));replace HB:=yst_ hb;clear hb ho3)|((with_reducible refine gate_callee (f:=94) rfl ?_);refine goesL_ (some 7) rfl rfl Tryz.func94 (by kernel_rfl) rfl #[.string (⟨#[68,85,80,32,68,82,79,80,32,83,87,65,80,32,79,86,69,82,32,82,79,84,32,78,73,80,32,84,85,67,75,32,63,68,85,80,32,50,68,85,80,32,50,68,82,79,80,32,68,69,80,84,72,32,62,82,32,82,62,32,82,64,32,43,32,45,32,42,32,47,32,77,79,68,32,65,78,68,32,79,82,32,88,79,82,32,76,83,72,73,70,84,32,82,83,72,73,70,84,32,78,69,71,65,84,69,32,65,66,83,32,73,78,86,69,82,84,32,49,43,32,49,45,32,77,73,78,32,77,65,88,32,61,32,60,62,32,60,32,62,32,85,60,32,48,61,32,48,60,32,64,32,33,32,43,33,32,72,69,82,69,32,65,76,76,79,84,32,44,32,69,77,73,84,32,46,32,67,82,32,83,80,65,67,69,32,68,69,67,73,77,65,76,32,72,69,88,32,73,32,85,78,76,79,79,80,124,69,88,73,84,32,69,88,69,67,85,84,69,32,67,65,84,67,72,32,84,72,82,79,87,124,40,76,73,84,41,32,40,66,82,65,78,67,72,41,32,40,48,66,82,65,78,67,72,41,32,40,68,79,41,32,40,76,79,79,80,41,32,40,43,76,79,79,80,41,124,72,82,69,65,68,32,72,87,82,73,84,69,32,72,65,83,75,32,72,84,73,77,69,124,58,32,59,32,73,70,32,69,76,83,69,32,84,72,69,78,32,66,69,71,73,78,32,85,78,84,73,76,32,87,72,73,76,69,32,82,69,80,69,65,84,32,68,79,32,76,79,79,80,32,43,76,79,79,80,32,82,69,67,85,82,83,69,32,86,65,82,73,65,66,76,69,32,67,79,78,83,84,65,78,84,32,39,32,91,39,93]⟩:ByteArray),.string (⟨#[124]⟩:ByteArray)] rfl yk1_ ?_;(with_reducible refine(strings_Split.calls (⟨#[68,85,80,32,68,82,79,80,32,83,87,65,80,32,79,86,69,82,32,82,79,84,32,78,73,80,32,84,85,67,75,32,63,68,85,80,32,50,68,85,80,32,50,68,82,79,80,32,68,69,80,84,72,32,62,82,32,82,62,32,82,64,32,43,32,45,32,42,32,47,32,77,79,68,32,65,78,68,32,79,82,32,88,79,82,32,76,83,72,73,70,84,32,82,83,72,73,70,84,32,78,69,71,65,84,69,32,65,66,83,32,73,78,86,69,82,84,32,49,43,32,49,45,32,77,73,78,32,77,65,88,32,61,32,60,62,32,60,32,62,32,85,60,32,48,61,32,48,60,32,64,32,33,32,43,33,32,72,69,82,69,32,65,76,76,79,84,32,44,32,69,77,73,84,32,46,32,67,82,32,83,80,65,67,69,32,68,69,67,73,77,65,76,32,72,69,88,32,73,32,85,78,76,79,79,80,124,69,88,73,84,32,69,88,69,67,85,84,69,32,67,65,84,67,72,32,84,72,82,79,87,124,40,76,73,84,41,32,40,66,82,65,78,67,72,41,32,40,48,66,82,65,78,67,72,41,32,40,68,79,41,32,40,76,79,79,80,41,32,40,43,76,79,79,80,41,124,72,82,69,65,68,32,72,87,82,73,84,69,32,72,65,83,75,32,72,84,73,77,69,124,58,32,59,32,73,70,32,69,76,83,69,32,84,72,69,78,32,66,69,71,73,78,32,85,78,84,73,76,32,87,72,73,76,69,32,82,69,80,69,65,84,32,68,79,32,76,79,79,80,32,43,76,79,79,80,32,82,69,67,85,82,83,69,32,86,65,82,73,65,66,76,69,32,67,79,78,83,84,65,78,84,32,39,32,91,39,93]⟩:ByteArray) (⟨#[124]⟩:ByteArray) t397 _ A1.out).mono ?_);rintro e w4 ⟨v398,rfl,ho0,hb⟩;refine⟨_,rfl,?_⟩;replace HO396:=am_ (Kd.R_below (yru_ HO396) hb);have HO399:=am_ (Kd.R_lower ho0 (below_size ybl_));replace HB:=yst_ hb;(try clear hb);(try clear ho0);obtain⟨Ao5,co5,eo5⟩:=Kd.R_slice HO399.out;subst eo5));go_loopg [1,9] k (fun kq v1 v9 w'=> ∃(x1_1:List (S75)) (x9_1:Int),v9= .int .i64 x9_1∧Aside0 (impl_KernelWords.l0 kq x1_1 t397 (t397.length:Int) x9_1=some r)∧Aside0 (kq≤k)∧Aside0 (Kd.R k75 75 w' w.heap.size (fun _=>True) v1 x1_1)∧Aside0 (Kd.R Kd.string 9 w' w.heap.size (fun _=>True) (.slice Ao5 t397.length co5) t397)∧Aside0 (Below w.heap.size w w'));case atStart=>exact⟨(y394),(0),(by first|rfl|(simp;done)|(simp [*];done)),H',⟨Nat.le_refl _⟩,⟨(yru_ HO396)⟩,⟨(yru_ HO399)⟩,⟨ybl_⟩⟩
 case round=>
  clear H';try clear p2
  obtain⟨x1_1,x9_1,rfl,HA,HK1,HO_1,HO_7,HB⟩:=hrel;cases gk with
  |zero=>exact absurd HA.out (by simp [impl_KernelWords.l0])
  |succ k1=>
   have H:=HA.out;clear HA;simp only [impl_KernelWords.l0]at H;by_cases c6:x9_1<(t397.length:Int)
   ·rw [if_pos c6]at H;have c6b0:decide (x9_1<(t397.length:Int))=true:=decide_eq_true c6;clear c6;by_cases c7:0≤x9_1
    ·rw [if_pos c7]at H;have c7b0:decide (0≤x9_1)=true:=decide_eq_true c7;clear c7;by_cases c8:x9_1<(t397.length:Int)
     ·rw [if_pos c8]at H;have c8b0:decide (x9_1<(t397.length:Int))=true:=decide_eq_true c8;clear c8;replace H:=ob.mp H;obtain⟨t401,A90,H⟩:=H;try dsimp only at H
      have A9:=am_ A90;clear A90;have H':=am_ H;clear H;have p400:0≤(x9_1:Int):=of_decide_eq_true yqv12_;have q400:x9_1<(t397.length:Int):=of_decide_eq_true yqv12_;obtain⟨ad400,e400,hx400_0⟩:=Kd.at_string (Kd.R_reads' HO_7.out).2.2 x9_1 p400 q400;cases e400;replace p400:=eq_true p400;replace q400:=eq_true q400;go_wp2_with (first|((with_reducible refine gate_callee (f:=95) rfl ?_);refine goesL_ (some 15) rfl rfl Tryz.func95 (by kernel_rfl) rfl #[.string (rdOf ByteArray.empty t397 x9_1)] rfl yk1_ ?_;(with_reducible refine(strings_Fields.calls (rdOf ByteArray.empty t397 x9_1) t401 _ A9.out).mono ?_);rintro e w10 ⟨v402,rfl,ho0,hb⟩;refine⟨_,rfl,?_⟩;replace HO_1:=am_ (Kd.R_below (yru_ HO_1) hb);have HO403:=am_ (Kd.R_lower (Kd.R_new' ho0 (Kd.R_lt (yru_ HO_7))) (below_size ybl_));replace HO_7:=am_ (Kd.R_elder' (yru_ HO_7) (Kd.R_base ho0) hb);replace HB:=yst_ hb;(try clear hb);(try clear ho0);obtain⟨Ao11,co11,eo11⟩:=Kd.R_slice HO403.out;subst eo11));go_loopg [1,17] k1 (fun kq v1 v17 w'=> ∃(x1_2:List (S75)) (x17_2:Int),v17= .int .i64 x17_2∧Aside0 (impl_KernelWords.l1 kq x1_2 x9_1 t397 (t397.length:Int) x9_1 t401 (t401.length:Int) x17_2=some r)∧Aside0 (kq≤k1)∧Aside0 (Kd.R k75 75 w' w.heap.size (fun _=>True) v1 x1_2)∧Aside0 (Kd.R Kd.string 9 w' w.heap.size (fun k_=>some k_≠((.slice Ao11 t401.length co11):Value).ownBlock) (.slice (some ad400) t397.length co5) t397)∧Aside0 (Kd.R Kd.string 9 w' w.heap.size (fun k_=>some k_≠((.slice (some ad400) t397.length co5):Value).ownBlock) (.slice Ao11 t401.length co11) t401)∧Aside0 (Below w.heap.size w w'));case atStart=>exact⟨(x1_1),(0),(by first|rfl|(simp;done)|(simp [*];done)),H',⟨Nat.le_refl _⟩,⟨(yru_ HO_1)⟩,⟨by(with_reducible repeat(first|apply Kd.R_alloc|apply Kd.R_drewN|apply Kd.R_drew));exact Kd.R_mono HO_7.out (fun _ hk=>hk.2)⟩,⟨by(with_reducible repeat(first|apply Kd.R_alloc|apply Kd.R_drewN|apply Kd.R_drew));exact Kd.R_mono HO403.out (fun _ hk=>hk.2)⟩,⟨ybl_⟩⟩
      case round=>
       clear H';try clear p2
       try clear p4
       try clear q4
       try clear hx4
       try clear c6
       try clear c6b0
       try clear c7
       try clear c7b0
       try clear c8
       try clear c8b0
       try clear c9
       try clear hx400_0
       try clear p2
       try clear p400
       try clear q400
       obtain⟨x1_2,x17_2,rfl,HA,HK2,HO_1,HO_7,HO_15,HB⟩:=hrel;cases gk with
       |zero=>exact absurd HA.out (by simp [impl_KernelWords.l1])
       |succ k2=>
        have H:=HA.out;clear HA;simp only [impl_KernelWords.l1]at H;by_cases c12:x17_2<(t401.length:Int)
        ·rw [if_pos c12]at H;have c12b0:decide (x17_2<(t401.length:Int))=true:=decide_eq_true c12;clear c12;by_cases c13:0≤x17_2
         ·rw [if_pos c13]at H;have c13b0:decide (0≤x17_2)=true:=decide_eq_true c13;clear c13;by_cases c14:x17_2<(t401.length:Int)
          ·rw [if_pos c14]at H;have c14b0:decide (x17_2<(t401.length:Int))=true:=decide_eq_true c14;clear c14;by_cases c15:x1_2.length<4398046511104
           ·rw [if_pos c15]at H;have LMc15:=am_ c15;clear c15;obtain⟨y405,hy405⟩: ∃y_:List (S75),y_=(x1_2++ [(⟨rdOf ByteArray.empty t401 x17_2,wrap64 (x9_1+1),wrap64 (x17_2+1)⟩:S75)]):=⟨_,rfl⟩
            replace H:(impl_KernelWords.l1 k2 y405 x9_1 t397 (t397.length:Int) x9_1 t401 (t401.length:Int) (wrap64 (x17_2+1)))=some r:=by first|(rw [hy405];with_reducible exact H)|(have H2_:=(Option.bind_some _ _).symm.trans H;rw [hy405];with_reducible exact H2_)|(have H2_:=(Option.bind_some _ _).symm.trans H;with_reducible exact H2_)|with_reducible exact H|(rw [hy405];exact H)|exact H
            have Ny405:=am_ hy405;clear hy405;have H':=am_ H;clear H;have p404:0≤(x17_2:Int):=of_decide_eq_true yqv12_;have q404:x17_2<(t401.length:Int):=of_decide_eq_true yqv12_;obtain⟨ad404,e404,hx404_0⟩:=Kd.at_string (Kd.R_reads' HO_15.out).2.2 x17_2 p404 q404;cases e404;replace p404:=eq_true p404;replace q404:=eq_true q404;go_wp2_with (first|((with_reducible refine gate_builtin (b:= .append) (xs:= #[.tmp 22,.tmp 29]) rfl ?_);at_builtin;refine Kd.R_append k75 (w0:=w) w.heap.size rfl (.tmp 22) (.tmp 29) 35 75 (.agg #[(.string ⟨#[]⟩),(.int .i64 0),(.int .i64 0)]) 32 rfl Tryz.underlying35 info75 rfl (by decide) (by omega) u1 x1_2 (⟨rdOf ByteArray.empty t401 x17_2,wrap64 (x9_1+1),wrap64 (x17_2+1)⟩:S75) [.string (rdOf ByteArray.empty t401 x17_2),.int .i64 (wrap64 (x9_1+1)),.int .i64 (wrap64 (x17_2+1))] (fun _=>True) (fun _=>False) rfl rfl ?aP (fun _ hk=>hk.elim) ?aF ?aO ?aB ?aS ?aL ?_;(case aP=>exact k75_mkM _ _ _ (⟨rdOf ByteArray.empty t401 x17_2,wrap64 (x9_1+1),wrap64 (x17_2+1)⟩:S75));(case aB=>exact ybl_);(case aF=>exact(fun _ _=>trivial));(case aO=>exact(yru_ HO_1));(case aS=>exact(below_size ybl_));(case aL=>have:=LMc15.out;omega);intro v406 w16 ho hb hg hat;rw [←Ny405.out]at ho;replace HO_7:=am_ (Kd.R_over' (yru_ HO_7) (Kd.R_typed (yru_ HO_1)) (by decide) hg);replace HO_15:=am_ (Kd.R_over' (yru_ HO_15) (Kd.R_typed (yru_ HO_1)) (by decide) hg);replace HB:=am_ (hb);have HO407:=am_ (ho);clear HO_1;clear ho hb hg hat));go_roundg k2;case measure=>have:=HK1.out;have:=HK2.out;omega
            case rel=>exact⟨(y405),(wrap64 (x17_2+1)),(by first|rfl|(simp;done)|(simp [*];done)),H',⟨by have:=HK1.out;have:=HK2.out;omega⟩,⟨(yru_ HO407)⟩,⟨(yru_ HO_7)⟩,⟨(yru_ HO_15)⟩,⟨ybl_⟩⟩
           ·rw [if_neg c15]at H;exact absurd H (by simp)
          ·rw [if_neg c14]at H;exact absurd H (by simp)
         ·rw [if_neg c13]at H;exact absurd H (by simp)
        ·rw [if_neg c12]at H;have c12b0:decide (x17_2<(t401.length:Int))=false:=decide_eq_false c12;clear c12;have H':=am_ H;clear H;go_wp2;go_roundg k2;case measure=>have:=HK1.out;have:=HK2.out;omega
         case rel=>exact⟨(x1_2),(wrap64 (x9_1+1)),(by first|rfl|(simp;done)|(simp [*];done)),H',⟨by have:=HK1.out;have:=HK2.out;omega⟩,⟨(yru_ HO_1)⟩,⟨by(with_reducible repeat(first|apply Kd.R_alloc|apply Kd.R_drewN|apply Kd.R_drew));exact Kd.R_mono HO_7.out (fun _ hk=>trivial)⟩,⟨ybl_⟩⟩
     ·rw [if_neg c8]at H;exact absurd H (by simp)
    ·rw [if_neg c7]at H;exact absurd H (by simp)
   ·rw [if_neg c6]at H;have c6b0:decide (x9_1<(t397.length:Int))=false:=decide_eq_false c6;clear c6;obtain rfl:=Option.some.inj H;go_wp2;go_ret;exact⟨_,yk0_,by(with_reducible repeat(first|apply Kd.R_alloc|apply Kd.R_drewN|apply Kd.R_drew));exact HO_1.out,ybl_⟩

/-! ### impl_KernelSame: function 48 -/
def impl_KernelSame.f (k:Nat) (l0:List (S75)):Option (Bool):=if(l0.length:Int)≥83 then((impl_isLong_Word.f k (([l0]:List (List (S75))))).bind fun t411=>(if t411=true then(some false)else(if 83≤(l0.length:Int)then((impl_KernelWords.f k).bind fun t417=>((slices_Equal_Word.f k (l0.take 83) t417).bind fun t420=>(some t420)))else(none))))else(some false)
theorem impl_KernelSame.mono: ∀a0 k,LeO (impl_KernelSame.f k a0) (impl_KernelSame.f (k+1) a0):=by
 intro a0 k;unfold impl_KernelSame.f;repeat' first
 |(with_reducible first|apply impl_KernelWords.mono|apply impl_isLong_Word.mono|apply slices_Equal_Word.mono|exact LeO.refl _|exact LeO.none _|refine LeO.ite ?_ ?_|refine LeO.bind ?_ (fun _=> ?_))
 |apply impl_KernelWords.mono|apply impl_isLong_Word.mono|apply slices_Equal_Word.mono|exact LeO.none _|refine LeO.ite ?_ ?_|refine LeO.bind ?_ (fun _=> ?_)
def impl_KernelSame.T1:Bool × List (List Nat × List Nat):=(true,[([],[]),([0],[0]),([1],[1]),([2],[2]),([3],[3]),([4,3],[3,4]),([5,3,3],[3,5]),([6,3],[3,6]),([3,7],[3,7]),([8,6],[8]),([9],[9]),([10,9],[9,10]),([9,9],[9]),([11,12,12,9],[9,11,12]),([9,13],[9,13]),([14,13,0,1,2,3,4,5,6,7,8,9,10,11,12,13,14],[14])])
def impl_KernelSame.B1:List Nat:= [0,1,3,7,15,31,63,127,255,511,1023,2047,1023,8191,16383,32767]
theorem impl_KernelSame.tab1:rtab .any (opsOf Tryz.f48 1)=impl_KernelSame.T1:=by kernel_rfl
theorem impl_KernelSame.bits1:waitsOk impl_KernelSame.T1.2 impl_KernelSame.B1=true:=by kernel_rfl
theorem impl_KernelSame.calls (k:Nat) (P0_:Nat→Prop) A0 c0 l0 (r:Bool) (w:World) (hs0:Kd.V k75 75 w w.heap.size (fun k_=>P0_ k_) (.slice A0 l0.length c0) l0) (h:impl_KernelSame.f k l0=some r) (hG:GlobOK w:=by first|exact HGL.out|exact GlobOK.below HGL.out HB.out|exact GlobOK.below HGL.out ybl_|(repeat(first|exact HGL.out|apply GlobOK.drewN|apply GlobOK.drew|apply GlobOK.alloc))):
  Calls Tryz.prog 48 #[.slice A0 l0.length c0] w fun e w'=>e= .returned (.bool r)∧Below w.heap.size w w':=by
 have HGL:=am_ hG;clear hG;have HO0:=am_ (show Kd.V k75 75 w w.heap.size (fun k_=>(P0_ k_∨w.heap.size≤k_)) (.slice A0 l0.length c0) l0 from Kd.V_mono hs0 (fun k_ hk=> .inl hk));have HB:=am_ (Below.refl w.heap.size w);have H:=h;clear h;rw [impl_KernelSame.f]at H;by_cases c2:(l0.length:Int)≥83
 ·rw [if_pos c2]at H;have c2b0:decide (83≤(l0.length:Int))=true:=decide_eq_true c2;have c2b1:decide (83≤l0.length)=true:=decide_eq_true (by omega);clear c2;obtain⟨y408,hy408⟩: ∃y_:List (List (S75)),y_=(([l0]:List (List (S75)))):=⟨_,rfl⟩
  replace H:((impl_isLong_Word.f k y408).bind fun t411=>(if t411=true then(some false)else(if 83≤(l0.length:Int)then((impl_KernelWords.f k).bind fun t417=>((slices_Equal_Word.f k (l0.take 83) t417).bind fun t420=>(some t420)))else(none))))=some r:=by first|(rw [hy408];with_reducible exact H)|(have H2_:=(Option.bind_some _ _).symm.trans H;rw [hy408];with_reducible exact H2_)|(have H2_:=(Option.bind_some _ _).symm.trans H;with_reducible exact H2_)|with_reducible exact H|(rw [hy408];exact H)|exact H
  have Ny408:=am_ hy408;clear hy408;replace H:=ob.mp H;obtain⟨t411,A30,H⟩:=H;try dsimp only at H
  have A3:=am_ A30;clear A30;by_cases c4:t411=true
  ·subst c4;rw [if_pos rfl]at H;obtain rfl:=Option.some.inj H;go_enter Tryz.func48,Tryz.ntmps48;try go_wp2
   replace HO0:=am_ (Kd.V_drew HO0.out);replace HB:=am_ (below_drew1 HB.out);refine start_ (n:=16) (S:=fun w'=>True) (ds:= []) #[false,false,false,false,false,false,false,false,false,false,false,false,false,false,false,false] (by kernel_rfl) rfl rfl trivial (fun hHeld=> ?_);refine with_tabW impl_KernelSame.tab1 impl_KernelSame.bits1 (fun HT_ HW_=> ?_);generalize w.drew=w5 at HO0 HB hHeld⊢;refine pure_ (i:=0) (N:=some 3) (v:= ?_) (a':= ?_) #[true,false,false,false,false,false,false,false,false,false,false,false,false,false,false,false] rfl rfl (any_of HT_.out (by kernel_rfl)) (fun _ _ _ h=>h) (Or.inl ⟨by rfl,?_⟩) ?_ ?_;rotate_left
   ·intro w';go_simp;with_reducible rfl
   rotate_left
   ·simp only [Act.put,la,lb,lc,i64_w,i32_w];rfl
   refine pure_ (i:=1) (N:=some 4) (v:= ?_) (a':= ?_) #[true,true,false,false,false,false,false,false,false,false,false,false,false,false,false,false] rfl rfl (any_of HT_.out (by kernel_rfl)) (fun _ _ _ h=>h) (Or.inl ⟨by rfl,?_⟩) ?_ ?_;rotate_left
   ·intro w';go_simp;with_reducible rfl
   rotate_left
   ·simp only [Act.put,la,lb,lc,i64_w,i32_w];rfl
   refine pure_ (i:=2) (N:=some 5) (v:= ?_) (a':= ?_) #[true,true,true,false,false,false,false,false,false,false,false,false,false,false,false,false] rfl rfl (any_of HT_.out (by kernel_rfl)) (fun _ _ _ h=>h) (Or.inl ⟨by rfl,?_⟩) ?_ ?_;rotate_left
   ·intro w';go_simp;with_reducible rfl
   rotate_left
   ·simp only [Act.put,la,lb,lc,i64_w,i32_w];rfl
   refine pure_ (i:=3) (N:=some 6) (v:= ?_) (a':= ?_) #[true,true,true,true,false,false,false,false,false,false,false,false,false,false,false,false] rfl rfl (any_of HT_.out (by kernel_rfl)) (fun _ _ _ h=>h) (Or.inl ⟨by rfl,?_⟩) ?_ ?_;rotate_left
   ·intro w';go_simp;with_reducible rfl
   rotate_left
   ·simp only [Act.put,la,lb,lc,i64_w,i32_w];rfl
   refine pure_ (i:=4) (N:=some 7) (v:= ?_) (a':= ?_) #[true,true,true,true,true,false,false,false,false,false,false,false,false,false,false,false] rfl rfl (any_of HT_.out (by kernel_rfl)) (fun _ _ _ h=>h) (Or.inl ⟨by rfl,?_⟩) ?_ ?_;rotate_left
   ·intro w';go_simp;with_reducible rfl
   rotate_left
   ·simp only [Act.put,la,lb,lc,i64_w,i32_w];rfl
   refine one_ (i:=5) (N:=some 8) #[true,true,true,true,true,true,false,false,false,false,false,false,false,false,false,false] rfl rfl (one_of HT_.out (by kernel_rfl)) (by decide) (fun K hK=> ?_);refine Kd.N_lit_step (Kd.slice 75 k75) _ 35 ?hg (N':=8) ?hd (xs:=([l0]:List (List (S75)))) (inner:= [.slice A0 l0.length c0]) (ok:=(fun k_=>(P0_ k_∨w.heap.size≤k_))) (okp:=(fun k_=>(P0_ k_∨w.heap.size≤k_))) ?hr ?hp (fun _ hk=>hk) ((show∀k_,w5.heap.size≤k_→(fun k_=>(P0_ k_∨w.heap.size≤k_)) k_ from fun k_ hk=>(.inr (Nat.le_trans (below_size ybl_) hk))) _ (Nat.le_refl _)) (Below.refl _ _) (Nat.le_refl _) (by simp) ?_;(case hd=>rfl);(case hg=>rfl);(case hr=>first|(go_simp;done)|(go_simp;rfl));(case hp=>exact(Reps.one (show Kd.FK (Kd.slice 75 k75) _ _ l0 [.slice A0 l0.length c0]from(Kd.FK_slice_mk (Kd.V_reads' (Kd.V_mono (ok':=(fun k_=>(P0_ k_∨w.heap.size≤k_))) (HO0.out) (fun k_ hk=>hk))).2.1 (by first|exact Kd.V_F (Kd.V_mono (ok':=(fun k_=>(P0_ k_∨w.heap.size≤k_))) (HO0.out) (fun k_ hk=>hk))|exact Kd.F_drewN (Kd.V_F (Kd.V_mono (ok':=(fun k_=>(P0_ k_∨w.heap.size≤k_))) (HO0.out) (fun k_ hk=>hk))) _|exact Kd.F_drewN (Kd.F_drewN (Kd.V_F (Kd.V_mono (ok':=(fun k_=>(P0_ k_∨w.heap.size≤k_))) (HO0.out) (fun k_ hk=>hk))) _) _))) (Reps.none _ _)));intro v409 w6 ho7 hb hg_ hnew_;clear hg_ hnew_;(first|rw [←Ny408.out]at ho7|(simp only [Int.reduceToNat]at ho7;rw [←Ny408.out]at ho7));replace HO0:=am_ (Kd.V_elder' yqv15_ (Kd.N_base ho7) hb);have HO410:=am_ (Kd.N_lower ho7 (below_size ybl_));replace HB:=yst_ hb;clear hb ho7;obtain⟨Ao8,co8,eo8⟩:=Kd.N_slice HO410.out;(first|subst eo8|(injection eo8 with sf1_ sf2_ sf3_;have sf4_:=f1_.symm;have sf5_:=f3_.symm;clear sf1_ sf2_ sf3_;subst sf4_;subst sf5_));refine hK.out _ _ trivial (fun hHeld=> ?_);clear hK K;refine norm_ (a':= ?_) ?_ ?_;rotate_left
   ·show Act.put _ (some 8) _=_
    simp only [Act.put,la,lb,lc,i64_w,i32_w];rfl
   refine one_ (i:=6) (N:=some 9) #[true,true,true,true,true,true,true,false,false,false,false,false,false,false,false,false] rfl rfl (one_of HT_.out (by kernel_rfl)) (by decide) (fun K hK=> ?_);refine goes_ Tryz.func79 (by kernel_rfl) rfl #[.slice Ao8 y408.length co8] (by rfl) rfl rfl yk1_ ?_;with_reducible refine(impl_isLong_Word.calls k _ _ y408 true _ ?s1 ?s2 A3.out).mono ?_
   (case s1=>repeat(first|exact(Kd.N_reads' HO410.out).2.2|(with_reducible refine Kd.C_alloc ?_ _)|(with_reducible refine Kd.C_drewN ?_ _)|(with_reducible refine Kd.C_drew ?_)));(case s2=>exact(Kd.N_reads' HO410.out).2.1);rintro e w' ⟨rfl,⟨nd,rfl⟩⟩;refine⟨_,rfl,?_⟩;refine hK.out _ _ trivial (fun hHeld=> ?_);clear hK K;refine norm_ (a':= ?_) ?_ ?_;rotate_left
   ·show Act.put _ (some 9) _=_
    simp only [Act.put,la,lb,lc,i64_w,i32_w];rfl
   refine pure_ (i:=7) (N:=some 10) (v:= ?_) (a':= ?_) #[true,true,true,true,true,true,true,true,false,false,false,false,false,false,false,false] rfl rfl (any_of HT_.out (by kernel_rfl)) (fun _ _ _ h=>h) (Or.inl ⟨by rfl,?_⟩) ?_ ?_;rotate_left
   ·intro w';go_simp;with_reducible rfl
   rotate_left
   ·simp only [Act.put,la,lb,lc,i64_w,i32_w];rfl
   refine pure_ (i:=8) (N:=some 11) (v:= ?_) (a':= ?_) #[true,true,true,true,true,true,true,true,true,false,false,false,false,false,false,false] rfl rfl (any_of HT_.out (by kernel_rfl)) (fun _ _ _ h=>h) (Or.inl ⟨by rfl,?_⟩) ?_ ?_;rotate_left
   ·intro w';go_simp;with_reducible rfl
   rotate_left
   ·simp only [Act.put,la,lb,lc,i64_w,i32_w];rfl
   refine pure_ (i:=9) (N:=some 12) (v:= ?_) (a':= ?_) #[true,true,true,true,true,true,true,true,true,true,false,false,false,false,false,false] rfl rfl (any_of HT_.out (by kernel_rfl)) (fun _ _ _ h=>h) (Or.inl ⟨by rfl,?_⟩) ?_ ?_;rotate_left
   ·intro w';go_simp;with_reducible rfl
   rotate_left
   ·simp only [Act.put,la,lb,lc,i64_w,i32_w];rfl
   refine pure_ (i:=10) (N:=some 13) (v:=undef) (a':= ?_) #[true,true,true,true,true,true,true,true,true,true,true,false,false,false,false,false] rfl rfl (any_of HT_.out (by kernel_rfl)) (fun _ _ _ h=>h) (Or.inr ⟨by rfl,rfl⟩) ?_ ?_;rotate_left
   ·simp only [Act.put,la,lb,lc,i64_w,i32_w];rfl
   refine pure_ (i:=11) (N:=some 14) (v:=undef) (a':= ?_) #[true,true,true,true,true,true,true,true,true,true,true,true,false,false,false,false] rfl rfl (any_of HT_.out (by kernel_rfl)) (fun _ _ _ h=>h) (Or.inr ⟨by rfl,rfl⟩) ?_ ?_;rotate_left
   ·simp only [Act.put,la,lb,lc,i64_w,i32_w];rfl
   refine pure_ (i:=12) (N:=some 15) (v:=undef) (a':= ?_) #[true,true,true,true,true,true,true,true,true,true,true,true,true,false,false,false] rfl rfl (any_of HT_.out (by kernel_rfl)) (fun _ _ _ h=>h) (Or.inr ⟨by rfl,rfl⟩) ?_ ?_;rotate_left
   ·simp only [Act.put,la,lb,lc,i64_w,i32_w];rfl
   refine pure_ (i:=13) (N:=some 16) (v:=undef) (a':= ?_) #[true,true,true,true,true,true,true,true,true,true,true,true,true,true,false,false] rfl rfl (any_of HT_.out (by kernel_rfl)) (fun _ _ _ h=>h) (Or.inr ⟨by rfl,rfl⟩) ?_ ?_;rotate_left
   ·simp only [Act.put,la,lb,lc,i64_w,i32_w];rfl
   refine pure_ (i:=14) (N:=some 17) (v:= ?_) (a':= ?_) #[true,true,true,true,true,true,true,true,true,true,true,true,true,true,true,false] rfl rfl (any_of HT_.out (by kernel_rfl)) (fun _ _ _ h=>h) (Or.inl ⟨by rfl,?_⟩) ?_ ?_;rotate_left
   ·intro w';go_simp;with_reducible rfl
   rotate_left
   ·simp only [Act.put,la,lb,lc,i64_w,i32_w];rfl
   refine pure_ (i:=15) (N:=some 2) (v:= ?_) (a':= ?_) #[true,true,true,true,true,true,true,true,true,true,true,true,true,true,true,true] rfl rfl (any_of HT_.out (by kernel_rfl)) (fun _ _ _ h=>h) (Or.inl ⟨by rfl,?_⟩) ?_ ?_;rotate_left
   ·intro w';go_simp;with_reducible rfl
   rotate_left
   ·simp only [Act.put,la,lb,lc,i64_w,i32_w];rfl
   refine done_ (done_of HT_.out (by kernel_rfl)) ?_;try go_wp2
   go_ret
   exact⟨yk0_,ybl_⟩
  ·replace c4:=Bool.eq_false_iff.mpr c4;subst c4;rw [if_neg (show¬(false=true) by decide)]at H;by_cases c9:83≤(l0.length:Int)
   ·rw [if_pos c9]at H;have c9b0:=eq_true c9;have c9b1:decide (83≤(l0.length:Int))=true:=decide_eq_true c9;clear c9;obtain⟨y412,hy412⟩: ∃y_:List (S75),y_=(l0.take 83):=⟨_,rfl⟩
    replace H:((impl_KernelWords.f k).bind fun t417=>((slices_Equal_Word.f k y412 t417).bind fun t420=>(some t420)))=some r:=by first|(rw [hy412];with_reducible exact H)|(have H2_:=(Option.bind_some _ _).symm.trans H;rw [hy412];with_reducible exact H2_)|(have H2_:=(Option.bind_some _ _).symm.trans H;with_reducible exact H2_)|with_reducible exact H|(rw [hy412];exact H)|exact H
    have Ny412:=am_ hy412;clear hy412;replace H:=ob.mp H;obtain⟨t417,A100,H⟩:=H;try dsimp only at H
    have A10:=am_ A100;clear A100;replace H:=ob.mp H;obtain⟨t420,A110,H⟩:=H;replace H:(some t420)=some r:=H;have A11:=am_ A110;clear A110;obtain rfl:=Option.some.inj H;go_enter Tryz.func48,Tryz.ntmps48;try go_wp2
    replace HO0:=am_ (Kd.V_drew HO0.out);replace HB:=am_ (below_drew1 HB.out);refine start_ (n:=16) (S:=fun w'=>True) (ds:= []) #[false,false,false,false,false,false,false,false,false,false,false,false,false,false,false,false] (by kernel_rfl) rfl rfl trivial (fun hHeld=> ?_);refine with_tabW impl_KernelSame.tab1 impl_KernelSame.bits1 (fun HT_ HW_=> ?_);generalize w.drew=w12 at HO0 HB hHeld⊢;refine pure_ (i:=0) (N:=some 3) (v:= ?_) (a':= ?_) #[true,false,false,false,false,false,false,false,false,false,false,false,false,false,false,false] rfl rfl (any_of HT_.out (by kernel_rfl)) (fun _ _ _ h=>h) (Or.inl ⟨by rfl,?_⟩) ?_ ?_;rotate_left
    ·intro w';go_simp;with_reducible rfl
    rotate_left
    ·simp only [Act.put,la,lb,lc,i64_w,i32_w];rfl
    refine pure_ (i:=1) (N:=some 4) (v:= ?_) (a':= ?_) #[true,true,false,false,false,false,false,false,false,false,false,false,false,false,false,false] rfl rfl (any_of HT_.out (by kernel_rfl)) (fun _ _ _ h=>h) (Or.inl ⟨by rfl,?_⟩) ?_ ?_;rotate_left
    ·intro w';go_simp;with_reducible rfl
    rotate_left
    ·simp only [Act.put,la,lb,lc,i64_w,i32_w];rfl
    refine pure_ (i:=2) (N:=some 5) (v:= ?_) (a':= ?_) #[true,true,true,false,false,false,false,false,false,false,false,false,false,false,false,false] rfl rfl (any_of HT_.out (by kernel_rfl)) (fun _ _ _ h=>h) (Or.inl ⟨by rfl,?_⟩) ?_ ?_;rotate_left
    ·intro w';go_simp;with_reducible rfl
    rotate_left
    ·simp only [Act.put,la,lb,lc,i64_w,i32_w];rfl
    refine pure_ (i:=3) (N:=some 6) (v:= ?_) (a':= ?_) #[true,true,true,true,false,false,false,false,false,false,false,false,false,false,false,false] rfl rfl (any_of HT_.out (by kernel_rfl)) (fun _ _ _ h=>h) (Or.inl ⟨by rfl,?_⟩) ?_ ?_;rotate_left
    ·intro w';go_simp;with_reducible rfl
    rotate_left
    ·simp only [Act.put,la,lb,lc,i64_w,i32_w];rfl
    refine pure_ (i:=4) (N:=some 7) (v:= ?_) (a':= ?_) #[true,true,true,true,true,false,false,false,false,false,false,false,false,false,false,false] rfl rfl (any_of HT_.out (by kernel_rfl)) (fun _ _ _ h=>h) (Or.inl ⟨by rfl,?_⟩) ?_ ?_;rotate_left
    ·intro w';go_simp;with_reducible rfl
    rotate_left
    ·simp only [Act.put,la,lb,lc,i64_w,i32_w];rfl
    refine one_ (i:=5) (N:=some 8) #[true,true,true,true,true,true,false,false,false,false,false,false,false,false,false,false] rfl rfl (one_of HT_.out (by kernel_rfl)) (by decide) (fun K hK=> ?_);refine Kd.N_lit_step (Kd.slice 75 k75) _ 35 ?hg (N':=8) ?hd (xs:=([l0]:List (List (S75)))) (inner:= [.slice A0 l0.length c0]) (ok:=(fun k_=>(P0_ k_∨w.heap.size≤k_))) (okp:=(fun k_=>(P0_ k_∨w.heap.size≤k_))) ?hr ?hp (fun _ hk=>hk) ((show∀k_,w12.heap.size≤k_→(fun k_=>(P0_ k_∨w.heap.size≤k_)) k_ from fun k_ hk=>(.inr (Nat.le_trans (below_size ybl_) hk))) _ (Nat.le_refl _)) (Below.refl _ _) (Nat.le_refl _) (by simp) ?_;(case hd=>rfl);(case hg=>rfl);(case hr=>first|(go_simp;done)|(go_simp;rfl));(case hp=>exact(Reps.one (show Kd.FK (Kd.slice 75 k75) _ _ l0 [.slice A0 l0.length c0]from(Kd.FK_slice_mk (Kd.V_reads' (Kd.V_mono (ok':=(fun k_=>(P0_ k_∨w.heap.size≤k_))) (HO0.out) (fun k_ hk=>hk))).2.1 (by first|exact Kd.V_F (Kd.V_mono (ok':=(fun k_=>(P0_ k_∨w.heap.size≤k_))) (HO0.out) (fun k_ hk=>hk))|exact Kd.F_drewN (Kd.V_F (Kd.V_mono (ok':=(fun k_=>(P0_ k_∨w.heap.size≤k_))) (HO0.out) (fun k_ hk=>hk))) _|exact Kd.F_drewN (Kd.F_drewN (Kd.V_F (Kd.V_mono (ok':=(fun k_=>(P0_ k_∨w.heap.size≤k_))) (HO0.out) (fun k_ hk=>hk))) _) _))) (Reps.none _ _)));intro v409 w13 ho14 hb hg_ hnew_;clear hg_ hnew_;(first|rw [←Ny408.out]at ho14|(simp only [Int.reduceToNat]at ho14;rw [←Ny408.out]at ho14));replace HO0:=am_ (Kd.V_elder' yqv15_ (Kd.N_base ho14) hb);have HO410:=am_ (Kd.N_lower ho14 (below_size ybl_));replace HB:=yst_ hb;clear hb ho14;obtain⟨Ao15,co15,eo15⟩:=Kd.N_slice HO410.out;(first|subst eo15|(injection eo15 with sf1_ sf2_ sf3_;have sf4_:=f1_.symm;have sf5_:=f3_.symm;clear sf1_ sf2_ sf3_;subst sf4_;subst sf5_));refine hK.out _ _ trivial (fun hHeld=> ?_);clear hK K;refine norm_ (a':= ?_) ?_ ?_;rotate_left
    ·show Act.put _ (some 8) _=_
     simp only [Act.put,la,lb,lc,i64_w,i32_w];rfl
    refine one_ (i:=6) (N:=some 9) #[true,true,true,true,true,true,true,false,false,false,false,false,false,false,false,false] rfl rfl (one_of HT_.out (by kernel_rfl)) (by decide) (fun K hK=> ?_);refine goes_ Tryz.func79 (by kernel_rfl) rfl #[.slice Ao15 y408.length co15] (by rfl) rfl rfl yk1_ ?_;with_reducible refine(impl_isLong_Word.calls k _ _ y408 false _ ?s1 ?s2 A3.out).mono ?_
    (case s1=>repeat(first|exact(Kd.N_reads' HO410.out).2.2|(with_reducible refine Kd.C_alloc ?_ _)|(with_reducible refine Kd.C_drewN ?_ _)|(with_reducible refine Kd.C_drew ?_)));(case s2=>exact(Kd.N_reads' HO410.out).2.1);rintro e w' ⟨rfl,⟨nd,rfl⟩⟩;refine⟨_,rfl,?_⟩;have q16:(83:Int)≤((l0.length:Int):Int):=of_decide_eq_true yqv12_;obtain⟨i016,hi016,_,hsz16,_⟩:=info_parts info75;have hroom16:l0.length≤c0:=(Kd.V_reads' HO0.out).2.1;have hC16:Kd.F k75 _ _ A0 l0.length l0:=(Kd.V_at (base:=w.heap.size) HO0.out).2.2;have hcut16:=cut_to (P:=Tryz.prog) 35 75 .i64 Tryz.underlying35 hi016 A0 l0.length c0 83 (by omega) q16 hroom16;have hr16:=Kd.F_take (m:=83) hC16 (by omega);have hy16:y412.length=(83:Int).toNat:=(by rw [Ny412.out,List.length_take];omega)
    rw [←Ny412.out]at hr16;rw [←hy16]at hcut16;have HO416:=am_ (show Kd.V k75 75 _ w.heap.size _ (.slice A0 y412.length c0) y412 from Kd.V_mk (by omega) hr16);have HC416:=am_ (show y412.length≤c0 from by omega);clear hr16 hC16 hroom16 hi016 hsz16;have KY16:=am_ hy16;clear hy16;replace q16:=eq_true q16;refine hK.out _ _ trivial (fun hHeld=> ?_);clear hK K;refine norm_ (a':= ?_) ?_ ?_;rotate_left
    ·show Act.put _ (some 9) _=_
     simp only [Act.put,la,lb,lc,i64_w,i32_w];rfl
    refine pure_ (i:=7) (N:=some 10) (v:= ?_) (a':= ?_) #[true,true,true,true,true,true,true,true,false,false,false,false,false,false,false,false] rfl rfl (any_of HT_.out (by kernel_rfl)) (fun _ _ _ h=>h) (Or.inl ⟨by rfl,?_⟩) ?_ ?_;rotate_left
    ·intro w';go_simp;with_reducible rfl
    rotate_left
    ·simp only [Act.put,la,lb,lc,i64_w,i32_w];rfl
    refine pure_ (i:=8) (N:=some 11) (v:= ?_) (a':= ?_) #[true,true,true,true,true,true,true,true,true,false,false,false,false,false,false,false] rfl rfl (any_of HT_.out (by kernel_rfl)) (fun _ _ _ h=>h) (Or.inl ⟨by rfl,?_⟩) ?_ ?_;rotate_left
    ·intro w';go_simp;with_reducible rfl
    rotate_left
    ·simp only [Act.put,la,lb,lc,i64_w,i32_w];rfl
    refine pure_ (i:=9) (N:=some 12) (v:= ?_) (a':= ?_) #[true,true,true,true,true,true,true,true,true,true,false,false,false,false,false,false] rfl rfl (any_of HT_.out (by kernel_rfl)) (fun _ _ _ h=>h) (Or.inl ⟨by rfl,?_⟩) ?_ ?_;rotate_left
    ·intro w';go_simp;with_reducible rfl
    rotate_left
    ·simp only [Act.put,la,lb,lc,i64_w,i32_w];rfl
    refine pure_ (i:=10) (N:=some 13) (v:= ?_) (a':= ?_) #[true,true,true,true,true,true,true,true,true,true,true,false,false,false,false,false] rfl rfl (any_of HT_.out (by kernel_rfl)) (fun _ _ _ h=>h) (Or.inl ⟨by rfl,?_⟩) ?_ ?_;rotate_left
    ·intro w';go_simp;with_reducible rfl
    rotate_left
    ·simp only [Act.put,la,lb,lc,i64_w,i32_w];rfl
    refine pure_ (i:=11) (N:=some 14) (v:= ?_) (a':= ?_) #[true,true,true,true,true,true,true,true,true,true,true,true,false,false,false,false] rfl rfl (any_of HT_.out (by kernel_rfl)) (fun _ _ _ h=>h) (Or.inl ⟨by rfl,?_⟩) ?_ ?_;rotate_left
    ·intro w';go_simp;with_reducible rfl
    rotate_left
    ·simp only [Act.put,la,lb,lc,i64_w,i32_w];rfl
    refine one_ (i:=12) (N:=some 15) #[true,true,true,true,true,true,true,true,true,true,true,true,true,false,false,false] rfl rfl (one_of HT_.out (by kernel_rfl)) (by decide) (fun K hK=> ?_);refine goes_ Tryz.func80 (by kernel_rfl) rfl #[] (by rfl) rfl rfl yk1_ ?_;with_reducible refine(impl_KernelWords.calls k t417 _ A10.out).mono ?_
    rintro e w17 ⟨v418,rfl,ho0,hb⟩;refine⟨_,rfl,?_⟩;replace HO0:=am_ (Kd.V_elder' yqv15_ (Kd.R_base ho0) hb);replace HO410:=am_ (Kd.N_elder' (by(with_reducible repeat(first|apply Kd.N_alloc|apply Kd.N_drewN|apply Kd.N_drew));exact HO410.out) (Kd.R_base ho0) hb);replace HO416:=am_ (Kd.V_elder' (by(with_reducible repeat(first|apply Kd.V_alloc|apply Kd.V_drewN|apply Kd.V_drew));exact HO416.out) (Kd.R_base ho0) hb);have HO419:=am_ (Kd.R_lower (Kd.R_newM (M:=fun k_=>(w.heap.size≤k_)) ho0 (below_size ybl_) (fun k_ h_=>h_)) (below_size ybl_));replace HB:=yst_ hb;(try clear hb)
    
    
    
    (try clear ho0);obtain⟨Ao18,co18,eo18⟩:=Kd.R_slice HO419.out;(first|subst eo18|(injection eo18 with sf1_ sf2_ sf3_;have sf4_:=f1_.symm;have sf5_:=f3_.symm;clear sf1_ sf2_ sf3_;subst sf4_;subst sf5_));refine hK.out _ _ trivial (fun hHeld=> ?_);clear hK K;refine norm_ (a':= ?_) ?_ ?_;rotate_left
    ·show Act.put _ (some 15) _=_
     simp only [Act.put,la,lb,lc,i64_w,i32_w];rfl
    refine one_ (i:=13) (N:=some 16) #[true,true,true,true,true,true,true,true,true,true,true,true,true,true,false,false] rfl rfl (one_of HT_.out (by kernel_rfl)) (by decide) (fun K hK=> ?_);refine goes_ Tryz.func68 (by kernel_rfl) rfl #[.slice A0 y412.length c0,.slice Ao18 t417.length co18] (by rfl) rfl rfl yk1_ ?_;with_reducible refine(slices_Equal_Word.calls k _ _ y412 _ _ t417 t420 _ ?s1 ?s2 ?s3 ?s4 A11.out).mono ?_
    (case s1=>repeat(first|exact(Kd.V_reads' HO416.out).2.2|(with_reducible refine Kd.C_alloc ?_ _)|(with_reducible refine Kd.C_drewN ?_ _)|(with_reducible refine Kd.C_drew ?_)));(case s2=>exact(Kd.V_reads' HO416.out).2.1);(case s3=>repeat(first|exact(Kd.R_reads' HO419.out).2.2|(with_reducible refine Kd.C_alloc ?_ _)|(with_reducible refine Kd.C_drewN ?_ _)|(with_reducible refine Kd.C_drew ?_)));(case s4=>exact(Kd.R_reads' HO419.out).2.1);rintro e w' ⟨rfl,⟨nd,rfl⟩⟩;refine⟨_,rfl,?_⟩;refine hK.out _ _ trivial (fun hHeld=> ?_);clear hK K;refine norm_ (a':= ?_) ?_ ?_;rotate_left
    ·show Act.put _ (some 16) _=_
     simp only [Act.put,la,lb,lc,i64_w,i32_w];rfl
    refine pure_ (i:=14) (N:=some 17) (v:= ?_) (a':= ?_) #[true,true,true,true,true,true,true,true,true,true,true,true,true,true,true,false] rfl rfl (any_of HT_.out (by kernel_rfl)) (fun _ _ _ h=>h) (Or.inl ⟨by rfl,?_⟩) ?_ ?_;rotate_left
    ·intro w';go_simp;with_reducible rfl
    rotate_left
    ·simp only [Act.put,la,lb,lc,i64_w,i32_w];rfl
    refine pure_ (i:=15) (N:=some 2) (v:= ?_) (a':= ?_) #[true,true,true,true,true,true,true,true,true,true,true,true,true,true,true,true] rfl rfl (any_of HT_.out (by kernel_rfl)) (fun _ _ _ h=>h) (Or.inl ⟨by rfl,?_⟩) ?_ ?_;rotate_left
    ·intro w';go_simp;with_reducible rfl
    rotate_left
    ·simp only [Act.put,la,lb,lc,i64_w,i32_w];rfl
    refine done_ (done_of HT_.out (by kernel_rfl)) ?_;try go_wp2
    go_ret
    exact⟨yk0_,ybl_⟩
   ·rw [if_neg c9]at H;exact absurd H (by simp)
 ·rw [if_neg c2]at H;have c2b0:decide (83≤(l0.length:Int))=false:=decide_eq_false c2;have c2b1:decide (83≤l0.length)=false:=decide_eq_false (by omega);clear c2;obtain rfl:=Option.some.inj H;go_enter Tryz.func48,Tryz.ntmps48;try go_wp2
  replace HO0:=am_ (Kd.V_drew HO0.out);replace HB:=am_ (below_drew1 HB.out);refine start_ (n:=16) (S:=fun w'=>True) (ds:= []) #[false,false,false,false,false,false,false,false,false,false,false,false,false,false,false,false] (by kernel_rfl) rfl rfl trivial (fun hHeld=> ?_);refine with_tabW impl_KernelSame.tab1 impl_KernelSame.bits1 (fun HT_ HW_=> ?_);generalize w.drew=w19 at HO0 HB hHeld⊢;refine pure_ (i:=0) (N:=some 3) (v:= ?_) (a':= ?_) #[true,false,false,false,false,false,false,false,false,false,false,false,false,false,false,false] rfl rfl (any_of HT_.out (by kernel_rfl)) (fun _ _ _ h=>h) (Or.inl ⟨by rfl,?_⟩) ?_ ?_;rotate_left
  ·intro w';go_simp;with_reducible rfl
  rotate_left
  ·simp only [Act.put,la,lb,lc,i64_w,i32_w];rfl
  refine pure_ (i:=1) (N:=some 4) (v:= ?_) (a':= ?_) #[true,true,false,false,false,false,false,false,false,false,false,false,false,false,false,false] rfl rfl (any_of HT_.out (by kernel_rfl)) (fun _ _ _ h=>h) (Or.inl ⟨by rfl,?_⟩) ?_ ?_;rotate_left
  ·intro w';go_simp;with_reducible rfl
  rotate_left
  ·simp only [Act.put,la,lb,lc,i64_w,i32_w];rfl
  refine pure_ (i:=2) (N:=some 5) (v:= ?_) (a':= ?_) #[true,true,true,false,false,false,false,false,false,false,false,false,false,false,false,false] rfl rfl (any_of HT_.out (by kernel_rfl)) (fun _ _ _ h=>h) (Or.inl ⟨by rfl,?_⟩) ?_ ?_;rotate_left
  ·intro w';go_simp;with_reducible rfl
  rotate_left
  ·simp only [Act.put,la,lb,lc,i64_w,i32_w];rfl
  refine pure_ (i:=3) (N:=some 6) (v:= ?_) (a':= ?_) #[true,true,true,true,false,false,false,false,false,false,false,false,false,false,false,false] rfl rfl (any_of HT_.out (by kernel_rfl)) (fun _ _ _ h=>h) (Or.inl ⟨by rfl,?_⟩) ?_ ?_;rotate_left
  ·intro w';go_simp;with_reducible rfl
  rotate_left
  ·simp only [Act.put,la,lb,lc,i64_w,i32_w];rfl
  refine pure_ (i:=4) (N:=some 7) (v:=undef) (a':= ?_) #[true,true,true,true,true,false,false,false,false,false,false,false,false,false,false,false] rfl rfl (any_of HT_.out (by kernel_rfl)) (fun _ _ _ h=>h) (Or.inr ⟨by rfl,rfl⟩) ?_ ?_;rotate_left
  ·simp only [Act.put,la,lb,lc,i64_w,i32_w];rfl
  refine pure_ (i:=5) (N:=some 8) (v:=undef) (a':= ?_) #[true,true,true,true,true,true,false,false,false,false,false,false,false,false,false,false] rfl rfl (any_of HT_.out (by kernel_rfl)) (fun _ _ _ h=>h) (Or.inr ⟨by rfl,rfl⟩) ?_ ?_;rotate_left
  ·simp only [Act.put,la,lb,lc,i64_w,i32_w];rfl
  refine pure_ (i:=6) (N:=some 9) (v:=undef) (a':= ?_) #[true,true,true,true,true,true,true,false,false,false,false,false,false,false,false,false] rfl rfl (any_of HT_.out (by kernel_rfl)) (fun _ _ _ h=>h) (Or.inr ⟨by rfl,rfl⟩) ?_ ?_;rotate_left
  ·simp only [Act.put,la,lb,lc,i64_w,i32_w];rfl
  refine pure_ (i:=7) (N:=some 10) (v:=undef) (a':= ?_) #[true,true,true,true,true,true,true,true,false,false,false,false,false,false,false,false] rfl rfl (any_of HT_.out (by kernel_rfl)) (fun _ _ _ h=>h) (Or.inr ⟨by rfl,rfl⟩) ?_ ?_;rotate_left
  ·simp only [Act.put,la,lb,lc,i64_w,i32_w];rfl
  refine pure_ (i:=8) (N:=some 11) (v:= ?_) (a':= ?_) #[true,true,true,true,true,true,true,true,true,false,false,false,false,false,false,false] rfl rfl (any_of HT_.out (by kernel_rfl)) (fun _ _ _ h=>h) (Or.inl ⟨by rfl,?_⟩) ?_ ?_;rotate_left
  ·intro w';go_simp;with_reducible rfl
  rotate_left
  ·simp only [Act.put,la,lb,lc,i64_w,i32_w];rfl
  refine pure_ (i:=9) (N:=some 12) (v:= ?_) (a':= ?_) #[true,true,true,true,true,true,true,true,true,true,false,false,false,false,false,false] rfl rfl (any_of HT_.out (by kernel_rfl)) (fun _ _ _ h=>h) (Or.inl ⟨by rfl,?_⟩) ?_ ?_;rotate_left
  ·intro w';go_simp;with_reducible rfl
  rotate_left
  ·simp only [Act.put,la,lb,lc,i64_w,i32_w];rfl
  refine pure_ (i:=10) (N:=some 13) (v:=undef) (a':= ?_) #[true,true,true,true,true,true,true,true,true,true,true,false,false,false,false,false] rfl rfl (any_of HT_.out (by kernel_rfl)) (fun _ _ _ h=>h) (Or.inr ⟨by rfl,rfl⟩) ?_ ?_;rotate_left
  ·simp only [Act.put,la,lb,lc,i64_w,i32_w];rfl
  refine pure_ (i:=11) (N:=some 14) (v:=undef) (a':= ?_) #[true,true,true,true,true,true,true,true,true,true,true,true,false,false,false,false] rfl rfl (any_of HT_.out (by kernel_rfl)) (fun _ _ _ h=>h) (Or.inr ⟨by rfl,rfl⟩) ?_ ?_;rotate_left
  ·simp only [Act.put,la,lb,lc,i64_w,i32_w];rfl
  refine pure_ (i:=12) (N:=some 15) (v:=undef) (a':= ?_) #[true,true,true,true,true,true,true,true,true,true,true,true,true,false,false,false] rfl rfl (any_of HT_.out (by kernel_rfl)) (fun _ _ _ h=>h) (Or.inr ⟨by rfl,rfl⟩) ?_ ?_;rotate_left
  ·simp only [Act.put,la,lb,lc,i64_w,i32_w];rfl
  refine pure_ (i:=13) (N:=some 16) (v:=undef) (a':= ?_) #[true,true,true,true,true,true,true,true,true,true,true,true,true,true,false,false] rfl rfl (any_of HT_.out (by kernel_rfl)) (fun _ _ _ h=>h) (Or.inr ⟨by rfl,rfl⟩) ?_ ?_;rotate_left
  ·simp only [Act.put,la,lb,lc,i64_w,i32_w];rfl
  refine pure_ (i:=14) (N:=some 17) (v:= ?_) (a':= ?_) #[true,true,true,true,true,true,true,true,true,true,true,true,true,true,true,false] rfl rfl (any_of HT_.out (by kernel_rfl)) (fun _ _ _ h=>h) (Or.inl ⟨by rfl,?_⟩) ?_ ?_;rotate_left
  ·intro w';go_simp;with_reducible rfl
  rotate_left
  ·simp only [Act.put,la,lb,lc,i64_w,i32_w];rfl
  refine pure_ (i:=15) (N:=some 2) (v:= ?_) (a':= ?_) #[true,true,true,true,true,true,true,true,true,true,true,true,true,true,true,true] rfl rfl (any_of HT_.out (by kernel_rfl)) (fun _ _ _ h=>h) (Or.inl ⟨by rfl,?_⟩) ?_ ?_;rotate_left
  ·intro w';go_simp;with_reducible rfl
  rotate_left
  ·simp only [Act.put,la,lb,lc,i64_w,i32_w];rfl
  refine done_ (done_of HT_.out (by kernel_rfl)) ?_;try go_wp2
  go_ret
  exact⟨yk0_,ybl_⟩

-- NOT PRINTED: function 81 (slices_IndexFunc_Word_81)

-- NOT PRINTED: function 49 (slices_ContainsFunc_Word_49)

/-! ### impl_in: function 27 -/
def impl_in.f (a0 a1 a2:Int):Option (Bool):=if a1≤a0 then(some (decide (a0≤a2)))else(some false)
theorem impl_in.calls (a0 a1 a2:Int) (r:Bool) (w:World) (h:impl_in.f a0 a1 a2=some r):
  Calls Tryz.prog 27 #[.int .i64 a0,.int .i64 a1,.int .i64 a2] w fun e w'=>e= .returned (.bool r)∧Drawn0 w w':=by
 have H:=h;clear h;rw [impl_in.f]at H;by_cases c4:a1≤a0
 ·rw [if_pos c4]at H;have c4b0:decide (a1≤a0)=true:=decide_eq_true c4;clear c4;obtain rfl:=Option.some.inj H;go_enter Tryz.func27,Tryz.ntmps27;go_wp2;go_ret;exact⟨by first|rfl|(simp;done)|(simp [*];done),by repeat(first|exact Drawn0.refl _|apply Drawn0.step)⟩
 ·rw [if_neg c4]at H;have c4b0:decide (a1≤a0)=false:=decide_eq_false c4;clear c4;obtain rfl:=Option.some.inj H;go_enter Tryz.func27,Tryz.ntmps27;go_wp2;go_ret;exact⟨by first|rfl|(simp;done)|(simp [*];done),by repeat(first|exact Drawn0.refl _|apply Drawn0.step)⟩

/-! ### impl_WrapCell: function 84 -/
def impl_WrapCell.f (a0:Int):Option (Int):=some (wrap64 (wrap32 (a0)))
theorem impl_WrapCell.calls (a0 r:Int) (w:World) (h:impl_WrapCell.f a0=some r):
  Calls Tryz.prog 84 #[.int .i64 a0] w fun e w'=>e= .returned (.int .i64 r)∧Drawn0 w w':=by
 have H:=h;clear h;rw [impl_WrapCell.f]at H;obtain rfl:=Option.some.inj H;go_enter Tryz.func84,Tryz.ntmps84;go_wp2;go_ret;exact⟨by first|rfl|(simp;done)|(simp [*];done),by repeat(first|exact Drawn0.refl _|apply Drawn0.step)⟩

/-! ### impl_CellOK: function 54 -/
def impl_CellOK.f (a0:Int):Option (Bool):=(impl_WrapCell.f a0).bind fun t421=>(some (t421==a0))
theorem impl_CellOK.calls (a0:Int) (r:Bool) (w:World) (h:impl_CellOK.f a0=some r):
  Calls Tryz.prog 54 #[.int .i64 a0] w fun e w'=>e= .returned (.bool r)∧Drawn0 w w':=by
 have H:=h;clear h;rw [impl_CellOK.f]at H;replace H:=ob.mp H;obtain⟨t421,A20,H⟩:=H;replace H:(some (t421==a0))=some r:=H;have A2:=am_ A20;clear A20;obtain rfl:=Option.some.inj H;go_enter Tryz.func54,Tryz.ntmps54;go_wp2_with (first|((with_reducible refine gate_callee (f:=84) rfl ?_);refine goesL_ (some 4) rfl rfl Tryz.func84 (by kernel_rfl) rfl #[.int .i64 a0] rfl yk1_ ?_;(with_reducible refine(impl_WrapCell.calls a0 t421 _ A2.out).mono ?_);rintro e w' ⟨rfl,⟨nd,rfl⟩⟩;refine⟨_,rfl,?_⟩));go_ret;exact⟨by first|rfl|(simp;done)|(simp [*];done),by repeat(first|exact Drawn0.refl _|apply Drawn0.step)⟩

end Go.Proofs.YtmjkehfbgaafjaaGreatDoor.PSM
