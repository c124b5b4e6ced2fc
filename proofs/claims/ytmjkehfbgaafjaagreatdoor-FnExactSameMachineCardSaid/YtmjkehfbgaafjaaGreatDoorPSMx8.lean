-- laid by a program of this session out of the translation's own print: Lean checks it
import Derived.Test.YtmjkehfbgaafjaaGreatDoorPSMx0
import Derived.Test.YtmjkehfbgaafjaaGreatDoorPSMx7
namespace Go.Proofs.YtmjkehfbgaafjaaGreatDoor.PSM
open Go.RowKit Go.Proofs.YtmjkehfbgaafjaaGreatDoorW.PrintWords Go.Proofs.YtmjkehfbgaafjaaGreatDoorW.PrintLast Go.Proofs.YtmjkehfbgaafjaaGreatDoorW.PrintMore
open List renaming setIfInBounds_toArray→la,set_cons_zero→lb,set_cons_succ→lc
attribute [local go_sem] max2_int min2_int max_two min_two max_three min_three max_four min_four -- for this text's walks alone
set_option linter.unusedVariables false
set_option maxHeartbeats 8000000
set_option maxRecDepth 100000
set_option linter.unusedSimpArgs false

/-! ### laws_eqCallS: function 32 -/
def laws_eqCallS.l0:Nat→List (S63)→List (S63)→Int→Option (Bool)
 |0,_,_,_=>none
 |k+1,x0,x1,x5=>if x5<(x0.length:Int)then(if 0≤x5 then(if x5<(x1.length:Int)then((laws_eqCall.f ((rd_T63 x0 x5).f0) ((rd_T63 x0 x5).f1) ((rd_T63 x0 x5).f2) ((rd_T63 x0 x5).f3) ((rd_T63 x1 x5).f0) ((rd_T63 x1 x5).f1) ((rd_T63 x1 x5).f2) ((rd_T63 x1 x5).f3)).bind fun t257=>(if t257=true then(laws_eqCallS.l0 k x0 x1 (wrap64 (x5+1)))else(some false)))else(none))else(none))else(some true)
def laws_eqCallS.f (k:Nat) (l0 l1:List (S63)):Option (Bool):=if(l0.length:Int)=(l1.length:Int)then(laws_eqCallS.l0 k l0 l1 0)else(some false)
theorem laws_eqCallS.mono_l: ∀k,(∀y0 y1 y2,LeO (laws_eqCallS.l0 k y0 y1 y2) (laws_eqCallS.l0 (k+1) y0 y1 y2))
 |0=>fun _ _ _ r h=>by simp [laws_eqCallS.l0]at h
 |k+1=>by
  have ih0:=laws_eqCallS.mono_l k
  ·intro y0 y1 y2;unfold laws_eqCallS.l0;repeat' first
   |(with_reducible first|apply ih0|exact LeO.refl _|exact LeO.none _|refine LeO.ite ?_ ?_|refine LeO.bind ?_ (fun _=> ?_))
   |apply ih0|exact LeO.none _|refine LeO.ite ?_ ?_|refine LeO.bind ?_ (fun _=> ?_)
theorem laws_eqCallS.mono: ∀a0 a1 k,LeO (laws_eqCallS.f k a0 a1) (laws_eqCallS.f (k+1) a0 a1):=by
 intro a0 a1 k;have ih0:=laws_eqCallS.mono_l k;unfold laws_eqCallS.f;repeat' first
 |(with_reducible first|apply ih0|exact LeO.refl _|exact LeO.none _|refine LeO.ite ?_ ?_|refine LeO.bind ?_ (fun _=> ?_))
 |apply ih0|exact LeO.none _|refine LeO.ite ?_ ?_|refine LeO.bind ?_ (fun _=> ?_)
def laws_eqCallS.T6:Bool × List (List Nat × List Nat):=(true,[([],[]),([],[]),([0,1],[0,1]),([2],[2]),([],[]),([],[]),([4,5],[4,5]),([6],[6]),([3,7],[3,7]),([8],[8])])
def laws_eqCallS.B6:List Nat:= [0,0,3,7,0,0,48,112,255,511]
theorem laws_eqCallS.tab6:rtab .any (opsOf Tryz.f32 6)=laws_eqCallS.T6:=by kernel_rfl
theorem laws_eqCallS.bits6:waitsOk laws_eqCallS.T6.2 laws_eqCallS.B6=true:=by kernel_rfl
theorem laws_eqCallS.calls (k:Nat) A0 c0 l0 A1 c1 l1 (r:Bool) (w:World) (hr0:Kd.C k63 w A0 l0.length l0) (hc0:l0.length≤c0) (hr1:Kd.C k63 w A1 l1.length l1) (hc1:l1.length≤c1) (h:laws_eqCallS.f k l0 l1=some r):
  Calls Tryz.prog 32 #[.slice A0 l0.length c0,.slice A1 l1.length c1] w fun e w'=>e= .returned (.bool r)∧Below w.heap.size w w':=by
 have hu63:=Tryz.underlying63;have HR0:=am_ hr0;have HC0:=am_ hc0;clear hr0 hc0;have HR1:=am_ hr1;have HC1:=am_ hc1;clear hr1 hc1;have HB:=am_ (Below.refl w.heap.size w);have H:=h;clear h;rw [laws_eqCallS.f]at H;by_cases c3:(l0.length:Int)=(l1.length:Int)
 ·rw [if_pos c3]at H;have c3b0:((l0.length:Int)==(l1.length:Int))=true:=beq_iff_eq.mpr c3;have c3b1:((l0.length:Int) !=(l1.length:Int))=false:=bne_eq_false_iff_eq.mpr c3;have c3b2:(l0.length==l1.length)=true:=by first|simpa using c3|(simp at c3⊢;omega)
  clear c3;have H':=am_ H;clear H;go_enter Tryz.func32,Tryz.ntmps32;go_wp2;go_loopg [5] k (fun kq v5 w'=> ∃(x5_1:Int),v5= .int .i64 x5_1∧Aside0 (laws_eqCallS.l0 kq l0 l1 x5_1=some r)∧Aside0 (kq≤k)∧Aside0 (Below w.heap.size w w'));case atStart=>exact⟨(0),(by first|rfl|(simp;done)|(simp [*];done)),H',⟨Nat.le_refl _⟩,⟨ybl_⟩⟩
  case round=>
   clear H';try clear c1
   try clear p2
   try clear c3
   try clear c3b0
   try clear c3b1
   try clear c3b2
   obtain⟨x5_1,rfl,HA,HK1,HB⟩:=hrel;cases gk with
   |zero=>exact absurd HA.out (by simp [laws_eqCallS.l0])
   |succ k1=>
    have H:=HA.out;clear HA;simp only [laws_eqCallS.l0]at H;by_cases c4:x5_1<(l0.length:Int)
    ·rw [if_pos c4]at H;have c4b0:decide (x5_1<(l0.length:Int))=true:=decide_eq_true c4;clear c4;by_cases c5:0≤x5_1
     ·rw [if_pos c5]at H;have c5b0:decide (0≤x5_1)=true:=decide_eq_true c5;clear c5;by_cases c6:x5_1<(l1.length:Int)
      ·rw [if_pos c6]at H;have c6b0:decide (x5_1<(l1.length:Int))=true:=decide_eq_true c6;clear c6;replace H:=Option.bind_eq_some_iff.mp H;obtain⟨t257,A70,H⟩:=H;try dsimp only at H
       have A7:=am_ A70;clear A70;by_cases c8:t257=true
       ·subst c8;rw [if_pos rfl]at H;have H':=am_ H;clear H;try go_wp2
        replace HB:=am_ (below_drew1 HB.out);have p255:0≤(x5_1:Int):=of_decide_eq_true yqv12_;have q255:x5_1<(l0.length:Int):=of_decide_eq_true yqv12_;obtain⟨ad255,e255,hx255_0,hx255_1,hx255_2,hx255_3⟩:=at_T63 HR0.out x5_1 p255 q255;have hw255_3:=hx255_3;have hw255_2:=hx255_2;have hw255_1:=hx255_1;have hw255_0:=hx255_0;cases e255;replace hx255_0:=ycst_ HB hx255_0;replace hx255_1:=ycst_ HB hx255_1;replace hx255_2:=ycst_ HB hx255_2;replace hx255_3:=ycst_ HB hx255_3;replace p255:=eq_true p255;replace q255:=eq_true q255;have p256:0≤(x5_1:Int):=of_decide_eq_true yqv12_;have q256:x5_1<(l1.length:Int):=of_decide_eq_true yqv12_;obtain⟨ad256,e256,hx256_0,hx256_1,hx256_2,hx256_3⟩:=at_T63 HR1.out x5_1 p256 q256;have hw256_3:=hx256_3;have hw256_2:=hx256_2;have hw256_1:=hx256_1;have hw256_0:=hx256_0;cases e256;replace hx256_0:=ycst_ HB hx256_0;replace hx256_1:=ycst_ HB hx256_1;replace hx256_2:=ycst_ HB hx256_2;replace hx256_3:=ycst_ HB hx256_3;replace p256:=eq_true p256;replace q256:=eq_true q256;refine start_ (n:=10) (S:=fun w'=>w'.cell? (ad255.add ((x5_1).toNat*4))=some (.int .i64 ((rd_T63 l0 x5_1).f0))∧w'.cell? ⟨(ad255.add ((x5_1).toNat*4)).block,(ad255.add ((x5_1).toNat*4)).off+1,none⟩=some (.int .i64 ((rd_T63 l0 x5_1).f1))∧w'.cell? ⟨(ad255.add ((x5_1).toNat*4)).block,(ad255.add ((x5_1).toNat*4)).off+2,none⟩=some (.int .i64 ((rd_T63 l0 x5_1).f2))∧w'.cell? ⟨(ad255.add ((x5_1).toNat*4)).block,(ad255.add ((x5_1).toNat*4)).off+3,none⟩=some (.bool ((rd_T63 l0 x5_1).f3))∧w'.cell? (ad256.add ((x5_1).toNat*4))=some (.int .i64 ((rd_T63 l1 x5_1).f0))∧w'.cell? ⟨(ad256.add ((x5_1).toNat*4)).block,(ad256.add ((x5_1).toNat*4)).off+1,none⟩=some (.int .i64 ((rd_T63 l1 x5_1).f1))∧w'.cell? ⟨(ad256.add ((x5_1).toNat*4)).block,(ad256.add ((x5_1).toNat*4)).off+2,none⟩=some (.int .i64 ((rd_T63 l1 x5_1).f2))∧w'.cell? ⟨(ad256.add ((x5_1).toNat*4)).block,(ad256.add ((x5_1).toNat*4)).off+3,none⟩=some (.bool ((rd_T63 l1 x5_1).f3))) (ds:= []) #[false,false,false,false,false,false,false,false,false,false] (by kernel_rfl) rfl rfl ⟨(ycst_ HB hw255_0),(ycst_ HB hw255_1),(ycst_ HB hw255_2),(ycst_ HB hw255_3),(ycst_ HB hw256_0),(ycst_ HB hw256_1),(ycst_ HB hw256_2),(ycst_ HB hw256_3)⟩ (fun hHeld=> ?_);refine with_tabW laws_eqCallS.tab6 laws_eqCallS.bits6 (fun HT_ HW_=> ?_);generalize wr.drew=w9 at HB hx255_0 hx255_1 hx255_2 hx255_3 hx256_0 hx256_1 hx256_2 hx256_3 hHeld⊢;refine pure_ (i:=0) (N:=some 17) (v:= ?_) (a':= ?_) #[true,false,false,false,false,false,false,false,false,false] rfl rfl (any_of HT_.out (by kernel_rfl)) (fun _ _ _ h=>h) (Or.inl ⟨by rfl,?_⟩) ?_ ?_;rotate_left
        ·intro w';go_simp;with_reducible rfl
        rotate_left
        ·simp only [Act.put,la,lb,lc,i64_w,i32_w];rfl
        refine pure_ (i:=1) (N:=some 18) (v:= ?_) (a':= ?_) #[true,true,false,false,false,false,false,false,false,false] rfl rfl (any_of HT_.out (by kernel_rfl)) (fun _ _ _ h=>h) (Or.inl ⟨by rfl,?_⟩) ?_ ?_;rotate_left
        ·intro w';go_simp;with_reducible rfl
        rotate_left
        ·simp only [Act.put,la,lb,lc,i64_w,i32_w];rfl
        refine pure_ (i:=2) (N:=some 19) (v:= ?_) (a':= ?_) #[true,true,true,false,false,false,false,false,false,false] rfl rfl (any_of HT_.out (by kernel_rfl)) (fun _ _ _ h=>h) (Or.inl ⟨by rfl,?_⟩) ?_ ?_;rotate_left
        ·intro w';go_simp;with_reducible rfl
        rotate_left
        ·simp only [Act.put,la,lb,lc,i64_w,i32_w];rfl
        refine pure_ (i:=4) (N:=some 21) (v:= ?_) (a':= ?_) #[true,true,true,false,true,false,false,false,false,false] rfl rfl (any_of HT_.out (by kernel_rfl)) (fun _ _ _ h=>h) (Or.inl ⟨by rfl,?_⟩) ?_ ?_;rotate_left
        ·intro w';go_simp;with_reducible rfl
        rotate_left
        ·simp only [Act.put,la,lb,lc,i64_w,i32_w];rfl
        refine pure_ (i:=5) (N:=some 22) (v:= ?_) (a':= ?_) #[true,true,true,false,true,true,false,false,false,false] rfl rfl (any_of HT_.out (by kernel_rfl)) (fun _ _ _ h=>h) (Or.inl ⟨by rfl,?_⟩) ?_ ?_;rotate_left
        ·intro w';go_simp;with_reducible rfl
        rotate_left
        ·simp only [Act.put,la,lb,lc,i64_w,i32_w];rfl
        refine pure_ (i:=6) (N:=some 23) (v:= ?_) (a':= ?_) #[true,true,true,false,true,true,true,false,false,false] rfl rfl (any_of HT_.out (by kernel_rfl)) (fun _ _ _ h=>h) (Or.inl ⟨by rfl,?_⟩) ?_ ?_;rotate_left
        ·intro w';go_simp;with_reducible rfl
        rotate_left
        ·simp only [Act.put,la,lb,lc,i64_w,i32_w];rfl
        refine take_ (i:=3) (N:=some 20) (v:= ?_) (a':= ?_) #[true,true,true,true,true,true,true,false,false,false] rfl rfl (take_ofW HT_.out HW_.out (by kernel_rfl)) (fun _ _ _ h=>h) (Or.inl ⟨by rfl,?_⟩) hHeld ?_ ?_;rotate_left
        ·rintro w' ⟨s0,s1,s2,s3,s4,s5,s6,s7⟩;go_simp;with_reducible rfl
        rotate_left
        ·simp only [Act.put,la,lb,lc,i64_w,i32_w];rfl
        refine take_ (i:=7) (N:=some 24) (v:= ?_) (a':= ?_) #[true,true,true,true,true,true,true,true,false,false] rfl rfl (take_ofW HT_.out HW_.out (by kernel_rfl)) (fun _ _ _ h=>h) (Or.inl ⟨by rfl,?_⟩) hHeld ?_ ?_;rotate_left
        ·rintro w' ⟨s0,s1,s2,s3,s4,s5,s6,s7⟩;go_simp;with_reducible rfl
        rotate_left
        ·simp only [Act.put,la,lb,lc,i64_w,i32_w];rfl
        refine one_ (i:=8) (N:=some 25) #[true,true,true,true,true,true,true,true,true,false] rfl rfl (one_of HT_.out (by kernel_rfl)) (by decide) (fun K hK=> ?_);refine goes_ Tryz.func63 (by kernel_rfl) rfl #[.agg #[.int .i64 ((rd_T63 l0 x5_1).f0),.int .i64 ((rd_T63 l0 x5_1).f1),.int .i64 ((rd_T63 l0 x5_1).f2),.bool ((rd_T63 l0 x5_1).f3)],.agg #[.int .i64 ((rd_T63 l1 x5_1).f0),.int .i64 ((rd_T63 l1 x5_1).f1),.int .i64 ((rd_T63 l1 x5_1).f2),.bool ((rd_T63 l1 x5_1).f3)]] (by rfl) rfl rfl yk1_ ?_;with_reducible refine(laws_eqCall.calls ((rd_T63 l0 x5_1).f0) ((rd_T63 l0 x5_1).f1) ((rd_T63 l0 x5_1).f2) ((rd_T63 l0 x5_1).f3) ((rd_T63 l1 x5_1).f0) ((rd_T63 l1 x5_1).f1) ((rd_T63 l1 x5_1).f2) ((rd_T63 l1 x5_1).f3) true _ A7.out).mono ?_
        rintro e w10 ⟨rfl,hb⟩;refine⟨_,rfl,?_⟩;replace HB:=am_ (below_step (ybl_) hb);(try clear hb)
        
        
        
        refine hK.out _ _ ⟨(ycst_ HB hw255_0),(ycst_ HB hw255_1),(ycst_ HB hw255_2),(ycst_ HB hw255_3),(ycst_ HB hw256_0),(ycst_ HB hw256_1),(ycst_ HB hw256_2),(ycst_ HB hw256_3)⟩ (fun hHeld=> ?_);clear hK K;refine norm_ (a':= ?_) ?_ ?_;rotate_left
        ·show Act.put _ (some 25) _=_
         simp only [Act.put,la,lb,lc,i64_w,i32_w];rfl
        refine pure_ (i:=9) (N:=some 26) (v:= ?_) (a':= ?_) #[true,true,true,true,true,true,true,true,true,true] rfl rfl (any_of HT_.out (by kernel_rfl)) (fun _ _ _ h=>h) (Or.inl ⟨by rfl,?_⟩) ?_ ?_;rotate_left
        ·intro w';go_simp;with_reducible rfl
        rotate_left
        ·simp only [Act.put,la,lb,lc,i64_w,i32_w];rfl
        refine done_ (done_of HT_.out (by kernel_rfl)) ?_;try go_wp2
        go_roundg k1
        case measure=>have:=HK1.out;omega
        case rel=>exact⟨(wrap64 (x5_1+1)),(by first|rfl|(simp;done)|(simp [*];done)),H',⟨by have:=HK1.out;omega⟩,⟨ybl_⟩⟩
       ·replace c8:=Bool.eq_false_iff.mpr c8;subst c8;rw [if_neg (show¬(false=true) by decide)]at H;obtain rfl:=Option.some.inj H;try go_wp2
        replace HB:=am_ (below_drew1 HB.out);have p255:0≤(x5_1:Int):=of_decide_eq_true yqv12_;have q255:x5_1<(l0.length:Int):=of_decide_eq_true yqv12_;obtain⟨ad255,e255,hx255_0,hx255_1,hx255_2,hx255_3⟩:=at_T63 HR0.out x5_1 p255 q255;have hw255_3:=hx255_3;have hw255_2:=hx255_2;have hw255_1:=hx255_1;have hw255_0:=hx255_0;cases e255;replace hx255_0:=ycst_ HB hx255_0;replace hx255_1:=ycst_ HB hx255_1;replace hx255_2:=ycst_ HB hx255_2;replace hx255_3:=ycst_ HB hx255_3;replace p255:=eq_true p255;replace q255:=eq_true q255;have p256:0≤(x5_1:Int):=of_decide_eq_true yqv12_;have q256:x5_1<(l1.length:Int):=of_decide_eq_true yqv12_;obtain⟨ad256,e256,hx256_0,hx256_1,hx256_2,hx256_3⟩:=at_T63 HR1.out x5_1 p256 q256;have hw256_3:=hx256_3;have hw256_2:=hx256_2;have hw256_1:=hx256_1;have hw256_0:=hx256_0;cases e256;replace hx256_0:=ycst_ HB hx256_0;replace hx256_1:=ycst_ HB hx256_1;replace hx256_2:=ycst_ HB hx256_2;replace hx256_3:=ycst_ HB hx256_3;replace p256:=eq_true p256;replace q256:=eq_true q256;refine start_ (n:=10) (S:=fun w'=>w'.cell? (ad255.add ((x5_1).toNat*4))=some (.int .i64 ((rd_T63 l0 x5_1).f0))∧w'.cell? ⟨(ad255.add ((x5_1).toNat*4)).block,(ad255.add ((x5_1).toNat*4)).off+1,none⟩=some (.int .i64 ((rd_T63 l0 x5_1).f1))∧w'.cell? ⟨(ad255.add ((x5_1).toNat*4)).block,(ad255.add ((x5_1).toNat*4)).off+2,none⟩=some (.int .i64 ((rd_T63 l0 x5_1).f2))∧w'.cell? ⟨(ad255.add ((x5_1).toNat*4)).block,(ad255.add ((x5_1).toNat*4)).off+3,none⟩=some (.bool ((rd_T63 l0 x5_1).f3))∧w'.cell? (ad256.add ((x5_1).toNat*4))=some (.int .i64 ((rd_T63 l1 x5_1).f0))∧w'.cell? ⟨(ad256.add ((x5_1).toNat*4)).block,(ad256.add ((x5_1).toNat*4)).off+1,none⟩=some (.int .i64 ((rd_T63 l1 x5_1).f1))∧w'.cell? ⟨(ad256.add ((x5_1).toNat*4)).block,(ad256.add ((x5_1).toNat*4)).off+2,none⟩=some (.int .i64 ((rd_T63 l1 x5_1).f2))∧w'.cell? ⟨(ad256.add ((x5_1).toNat*4)).block,(ad256.add ((x5_1).toNat*4)).off+3,none⟩=some (.bool ((rd_T63 l1 x5_1).f3))) (ds:= []) #[false,false,false,false,false,false,false,false,false,false] (by kernel_rfl) rfl rfl ⟨(ycst_ HB hw255_0),(ycst_ HB hw255_1),(ycst_ HB hw255_2),(ycst_ HB hw255_3),(ycst_ HB hw256_0),(ycst_ HB hw256_1),(ycst_ HB hw256_2),(ycst_ HB hw256_3)⟩ (fun hHeld=> ?_);refine with_tabW laws_eqCallS.tab6 laws_eqCallS.bits6 (fun HT_ HW_=> ?_);generalize wr.drew=w11 at HB hx255_0 hx255_1 hx255_2 hx255_3 hx256_0 hx256_1 hx256_2 hx256_3 hHeld⊢;refine pure_ (i:=0) (N:=some 17) (v:= ?_) (a':= ?_) #[true,false,false,false,false,false,false,false,false,false] rfl rfl (any_of HT_.out (by kernel_rfl)) (fun _ _ _ h=>h) (Or.inl ⟨by rfl,?_⟩) ?_ ?_;rotate_left
        ·intro w';go_simp;with_reducible rfl
        rotate_left
        ·simp only [Act.put,la,lb,lc,i64_w,i32_w];rfl
        refine pure_ (i:=1) (N:=some 18) (v:= ?_) (a':= ?_) #[true,true,false,false,false,false,false,false,false,false] rfl rfl (any_of HT_.out (by kernel_rfl)) (fun _ _ _ h=>h) (Or.inl ⟨by rfl,?_⟩) ?_ ?_;rotate_left
        ·intro w';go_simp;with_reducible rfl
        rotate_left
        ·simp only [Act.put,la,lb,lc,i64_w,i32_w];rfl
        refine pure_ (i:=2) (N:=some 19) (v:= ?_) (a':= ?_) #[true,true,true,false,false,false,false,false,false,false] rfl rfl (any_of HT_.out (by kernel_rfl)) (fun _ _ _ h=>h) (Or.inl ⟨by rfl,?_⟩) ?_ ?_;rotate_left
        ·intro w';go_simp;with_reducible rfl
        rotate_left
        ·simp only [Act.put,la,lb,lc,i64_w,i32_w];rfl
        refine pure_ (i:=4) (N:=some 21) (v:= ?_) (a':= ?_) #[true,true,true,false,true,false,false,false,false,false] rfl rfl (any_of HT_.out (by kernel_rfl)) (fun _ _ _ h=>h) (Or.inl ⟨by rfl,?_⟩) ?_ ?_;rotate_left
        ·intro w';go_simp;with_reducible rfl
        rotate_left
        ·simp only [Act.put,la,lb,lc,i64_w,i32_w];rfl
        refine pure_ (i:=5) (N:=some 22) (v:= ?_) (a':= ?_) #[true,true,true,false,true,true,false,false,false,false] rfl rfl (any_of HT_.out (by kernel_rfl)) (fun _ _ _ h=>h) (Or.inl ⟨by rfl,?_⟩) ?_ ?_;rotate_left
        ·intro w';go_simp;with_reducible rfl
        rotate_left
        ·simp only [Act.put,la,lb,lc,i64_w,i32_w];rfl
        refine pure_ (i:=6) (N:=some 23) (v:= ?_) (a':= ?_) #[true,true,true,false,true,true,true,false,false,false] rfl rfl (any_of HT_.out (by kernel_rfl)) (fun _ _ _ h=>h) (Or.inl ⟨by rfl,?_⟩) ?_ ?_;rotate_left
        ·intro w';go_simp;with_reducible rfl
        rotate_left
        ·simp only [Act.put,la,lb,lc,i64_w,i32_w];rfl
        refine take_ (i:=3) (N:=some 20) (v:= ?_) (a':= ?_) #[true,true,true,true,true,true,true,false,false,false] rfl rfl (take_ofW HT_.out HW_.out (by kernel_rfl)) (fun _ _ _ h=>h) (Or.inl ⟨by rfl,?_⟩) hHeld ?_ ?_;rotate_left
        ·rintro w' ⟨s0,s1,s2,s3,s4,s5,s6,s7⟩;go_simp;with_reducible rfl
        rotate_left
        ·simp only [Act.put,la,lb,lc,i64_w,i32_w];rfl
        refine take_ (i:=7) (N:=some 24) (v:= ?_) (a':= ?_) #[true,true,true,true,true,true,true,true,false,false] rfl rfl (take_ofW HT_.out HW_.out (by kernel_rfl)) (fun _ _ _ h=>h) (Or.inl ⟨by rfl,?_⟩) hHeld ?_ ?_;rotate_left
        ·rintro w' ⟨s0,s1,s2,s3,s4,s5,s6,s7⟩;go_simp;with_reducible rfl
        rotate_left
        ·simp only [Act.put,la,lb,lc,i64_w,i32_w];rfl
        refine one_ (i:=8) (N:=some 25) #[true,true,true,true,true,true,true,true,true,false] rfl rfl (one_of HT_.out (by kernel_rfl)) (by decide) (fun K hK=> ?_);refine goes_ Tryz.func63 (by kernel_rfl) rfl #[.agg #[.int .i64 ((rd_T63 l0 x5_1).f0),.int .i64 ((rd_T63 l0 x5_1).f1),.int .i64 ((rd_T63 l0 x5_1).f2),.bool ((rd_T63 l0 x5_1).f3)],.agg #[.int .i64 ((rd_T63 l1 x5_1).f0),.int .i64 ((rd_T63 l1 x5_1).f1),.int .i64 ((rd_T63 l1 x5_1).f2),.bool ((rd_T63 l1 x5_1).f3)]] (by rfl) rfl rfl yk1_ ?_;with_reducible refine(laws_eqCall.calls ((rd_T63 l0 x5_1).f0) ((rd_T63 l0 x5_1).f1) ((rd_T63 l0 x5_1).f2) ((rd_T63 l0 x5_1).f3) ((rd_T63 l1 x5_1).f0) ((rd_T63 l1 x5_1).f1) ((rd_T63 l1 x5_1).f2) ((rd_T63 l1 x5_1).f3) false _ A7.out).mono ?_
        rintro e w12 ⟨rfl,hb⟩;refine⟨_,rfl,?_⟩;replace HB:=am_ (below_step (ybl_) hb);(try clear hb)
        
        
        
        refine hK.out _ _ ⟨(ycst_ HB hw255_0),(ycst_ HB hw255_1),(ycst_ HB hw255_2),(ycst_ HB hw255_3),(ycst_ HB hw256_0),(ycst_ HB hw256_1),(ycst_ HB hw256_2),(ycst_ HB hw256_3)⟩ (fun hHeld=> ?_);clear hK K;refine norm_ (a':= ?_) ?_ ?_;rotate_left
        ·show Act.put _ (some 25) _=_
         simp only [Act.put,la,lb,lc,i64_w,i32_w];rfl
        refine pure_ (i:=9) (N:=some 26) (v:= ?_) (a':= ?_) #[true,true,true,true,true,true,true,true,true,true] rfl rfl (any_of HT_.out (by kernel_rfl)) (fun _ _ _ h=>h) (Or.inl ⟨by rfl,?_⟩) ?_ ?_;rotate_left
        ·intro w';go_simp;with_reducible rfl
        rotate_left
        ·simp only [Act.put,la,lb,lc,i64_w,i32_w];rfl
        refine done_ (done_of HT_.out (by kernel_rfl)) ?_;try go_wp2
        go_ret
        exact⟨yk0_,ybl_⟩
      ·rw [if_neg c6]at H;exact absurd H (by simp)
     ·rw [if_neg c5]at H;exact absurd H (by simp)
    ·rw [if_neg c4]at H;have c4b0:decide (x5_1<(l0.length:Int))=false:=decide_eq_false c4;clear c4;obtain rfl:=Option.some.inj H;go_wp2;go_ret;exact⟨yk0_,ybl_⟩
 ·rw [if_neg c3]at H;have c3b0:((l0.length:Int)==(l1.length:Int))=false:=beq_eq_false_iff_ne.mpr c3;have c3b1:((l0.length:Int) !=(l1.length:Int))=true:=bne_iff_ne.mpr c3;have c3b2:(l0.length==l1.length)=false:=by first|simpa using c3|(simp at c3⊢;omega)
  obtain rfl:=Option.some.inj H;go_enter Tryz.func32,Tryz.ntmps32;go_wp2;go_ret;exact⟨yk0_,ybl_⟩

end Go.Proofs.YtmjkehfbgaafjaaGreatDoor.PSM
