-- laid by a program of this session out of the translation's own print: Lean checks it
import Derived.Test.YtmjkehfbgaafjaaGreatDoorPSMx0
import Derived.Test.YtmjkehfbgaafjaaGreatDoorPSMx5
namespace Go.Proofs.YtmjkehfbgaafjaaGreatDoor.PSM
open Go.RowKit Go.Proofs.YtmjkehfbgaafjaaGreatDoorW.PrintWords Go.Proofs.YtmjkehfbgaafjaaGreatDoorW.PrintLast Go.Proofs.YtmjkehfbgaafjaaGreatDoorW.PrintMore
open List renaming setIfInBounds_toArray→la,set_cons_zero→lb,set_cons_succ→lc
open Option renaming bind_eq_some_iff→ob
open Bool renaming eq_false_iff→bf
attribute [local go_sem] max2_int min2_int max_two min_two max_three min_three max_four min_four -- for this text's walks alone
set_option linter.unusedVariables false
set_option maxHeartbeats 8000000
set_option maxRecDepth 100000
set_option linter.unusedSimpArgs false

/-! ### laws_eqWordS: function 28 -/
def laws_eqWordS.l0:Nat→List (S75)→List (S75)→Int→Option (Bool)
 |0,_,_,_=>none
 |k+1,x0,x1,x5=>if x5<(x0.length:Int)then(if 0≤x5 then(if x5<(x1.length:Int)then((laws_eqWord.f ((rd_T75 x0 x5).f0) ((rd_T75 x0 x5).f1) ((rd_T75 x0 x5).f2) ((rd_T75 x1 x5).f0) ((rd_T75 x1 x5).f1) ((rd_T75 x1 x5).f2)).bind fun t232=>(if t232=true then(laws_eqWordS.l0 k x0 x1 (wrap64 (x5+1)))else(some false)))else(none))else(none))else(some true)
def laws_eqWordS.f (k:Nat) (l0 l1:List (S75)):Option (Bool):=if(l0.length:Int)=(l1.length:Int)then(laws_eqWordS.l0 k l0 l1 0)else(some false)
theorem laws_eqWordS.mono_l: ∀k,(∀y0 y1 y2,LeO (laws_eqWordS.l0 k y0 y1 y2) (laws_eqWordS.l0 (k+1) y0 y1 y2))
 |0=>fun _ _ _ r h=>by simp [laws_eqWordS.l0]at h
 |k+1=>by
  have ih0:=laws_eqWordS.mono_l k
  ·intro y0 y1 y2;unfold laws_eqWordS.l0;repeat' first
   |(with_reducible first|apply ih0|exact LeO.refl _|exact LeO.none _|refine LeO.ite ?_ ?_|refine LeO.bind ?_ (fun _=> ?_))
   |apply ih0|exact LeO.none _|refine LeO.ite ?_ ?_|refine LeO.bind ?_ (fun _=> ?_)
theorem laws_eqWordS.mono: ∀a0 a1 k,LeO (laws_eqWordS.f k a0 a1) (laws_eqWordS.f (k+1) a0 a1):=by
 intro a0 a1 k;have ih0:=laws_eqWordS.mono_l k;unfold laws_eqWordS.f;repeat' first
 |(with_reducible first|apply ih0|exact LeO.refl _|exact LeO.none _|refine LeO.ite ?_ ?_|refine LeO.bind ?_ (fun _=> ?_))
 |apply ih0|exact LeO.none _|refine LeO.ite ?_ ?_|refine LeO.bind ?_ (fun _=> ?_)
def laws_eqWordS.T6:Bool × List (List Nat × List Nat):=(true,[([],[]),([],[]),([0,1],[0,1]),([2],[2]),([],[]),([],[]),([4,5],[4,5]),([6],[6]),([3,7],[3,7]),([8],[8])])
def laws_eqWordS.B6:List Nat:= [0,0,3,7,0,0,48,112,255,511]
theorem laws_eqWordS.tab6:rtab .any (opsOf Tryz.f28 6)=laws_eqWordS.T6:=by kernel_rfl
theorem laws_eqWordS.bits6:waitsOk laws_eqWordS.T6.2 laws_eqWordS.B6=true:=by kernel_rfl
theorem laws_eqWordS.calls (k:Nat) A0 c0 l0 A1 c1 l1 (r:Bool) (w:World) (hr0:Kd.C k75 w A0 l0.length l0) (hc0:l0.length≤c0) (hr1:Kd.C k75 w A1 l1.length l1) (hc1:l1.length≤c1) (h:laws_eqWordS.f k l0 l1=some r):
  Calls Tryz.prog 28 #[.slice A0 l0.length c0,.slice A1 l1.length c1] w fun e w'=>e= .returned (.bool r)∧Below w.heap.size w w':=by
 have hu75:=Tryz.underlying75;have HR0:=am_ hr0;have HC0:=am_ hc0;clear hr0 hc0;have HR1:=am_ hr1;have HC1:=am_ hc1;clear hr1 hc1;have HB:=am_ (Below.refl w.heap.size w);have H:=h;clear h;rw [laws_eqWordS.f]at H;by_cases c3:(l0.length:Int)=(l1.length:Int)
 ·rw [if_pos c3]at H;have c3b0:((l0.length:Int)==(l1.length:Int))=true:=beq_iff_eq.mpr c3;have c3b1:((l0.length:Int) !=(l1.length:Int))=false:=bne_eq_false_iff_eq.mpr c3;have c3b2:(l0.length==l1.length)=true:=by first|simpa using c3|(simp at c3⊢;omega)
  clear c3;have H':=am_ H;clear H;go_enter Tryz.func28,Tryz.ntmps28;go_wp2;go_loopg [5] k (fun kq v5 w'=> ∃(x5_1:Int),v5= .int .i64 x5_1∧Aside0 (laws_eqWordS.l0 kq l0 l1 x5_1=some r)∧Aside0 (kq≤k)∧Aside0 (Below w.heap.size w w'));case atStart=>exact⟨(0),(by first|rfl|(simp;done)|(simp [*];done)),H',⟨Nat.le_refl _⟩,⟨ybl_⟩⟩
  case round=>
   clear H';try clear c1
   try clear c2
   try clear p2
   try clear c3
   try clear c3b0
   try clear c3b1
   try clear c3b2
   obtain⟨x5_1,rfl,HA,HK1,HB⟩:=hrel;cases gk with
   |zero=>exact absurd HA.out (by simp [laws_eqWordS.l0])
   |succ k1=>
    have H:=HA.out;clear HA;simp only [laws_eqWordS.l0]at H;by_cases c4:x5_1<(l0.length:Int)
    ·rw [if_pos c4]at H;have c4b0:decide (x5_1<(l0.length:Int))=true:=decide_eq_true c4;clear c4;by_cases c5:0≤x5_1
     ·rw [if_pos c5]at H;have c5b0:decide (0≤x5_1)=true:=decide_eq_true c5;clear c5;by_cases c6:x5_1<(l1.length:Int)
      ·rw [if_pos c6]at H;have c6b0:decide (x5_1<(l1.length:Int))=true:=decide_eq_true c6;clear c6;replace H:=ob.mp H;obtain⟨t232,A70,H⟩:=H;try dsimp only at H
       have A7:=am_ A70;clear A70;by_cases c8:t232=true
       ·subst c8;rw [if_pos rfl]at H;have H':=am_ H;clear H;try go_wp2
        replace HB:=am_ (below_drew1 HB.out);have p230:0≤(x5_1:Int):=of_decide_eq_true yqv12_;have q230:x5_1<(l0.length:Int):=of_decide_eq_true yqv12_;obtain⟨ad230,e230,hx230_0,hx230_1,hx230_2⟩:=at_T75 HR0.out x5_1 p230 q230;have hw230_2:=hx230_2;have hw230_1:=hx230_1;have hw230_0:=hx230_0;cases e230;replace hx230_0:=ycst_ HB hx230_0;replace hx230_1:=ycst_ HB hx230_1;replace hx230_2:=ycst_ HB hx230_2;replace p230:=eq_true p230;replace q230:=eq_true q230;have p231:0≤(x5_1:Int):=of_decide_eq_true yqv12_;have q231:x5_1<(l1.length:Int):=of_decide_eq_true yqv12_;obtain⟨ad231,e231,hx231_0,hx231_1,hx231_2⟩:=at_T75 HR1.out x5_1 p231 q231;have hw231_2:=hx231_2;have hw231_1:=hx231_1;have hw231_0:=hx231_0;cases e231;replace hx231_0:=ycst_ HB hx231_0;replace hx231_1:=ycst_ HB hx231_1;replace hx231_2:=ycst_ HB hx231_2;replace p231:=eq_true p231;replace q231:=eq_true q231;refine start_ (n:=10) (S:=fun w'=>w'.cell? (ad230.add ((x5_1).toNat*3))=some (.string ((rd_T75 l0 x5_1).f0))∧w'.cell? ⟨(ad230.add ((x5_1).toNat*3)).block,(ad230.add ((x5_1).toNat*3)).off+1,none⟩=some (.int .i64 ((rd_T75 l0 x5_1).f1))∧w'.cell? ⟨(ad230.add ((x5_1).toNat*3)).block,(ad230.add ((x5_1).toNat*3)).off+2,none⟩=some (.int .i64 ((rd_T75 l0 x5_1).f2))∧w'.cell? (ad231.add ((x5_1).toNat*3))=some (.string ((rd_T75 l1 x5_1).f0))∧w'.cell? ⟨(ad231.add ((x5_1).toNat*3)).block,(ad231.add ((x5_1).toNat*3)).off+1,none⟩=some (.int .i64 ((rd_T75 l1 x5_1).f1))∧w'.cell? ⟨(ad231.add ((x5_1).toNat*3)).block,(ad231.add ((x5_1).toNat*3)).off+2,none⟩=some (.int .i64 ((rd_T75 l1 x5_1).f2))) (ds:= []) #[false,false,false,false,false,false,false,false,false,false] (by kernel_rfl) rfl rfl ⟨(ycst_ HB hw230_0),(ycst_ HB hw230_1),(ycst_ HB hw230_2),(ycst_ HB hw231_0),(ycst_ HB hw231_1),(ycst_ HB hw231_2)⟩ (fun hHeld=> ?_);refine with_tabW laws_eqWordS.tab6 laws_eqWordS.bits6 (fun HT_ HW_=> ?_);generalize wr.drew=w9 at HB hx230_0 hx230_1 hx230_2 hx231_0 hx231_1 hx231_2 hHeld⊢;refine pure_ (i:=0) (N:=some 17) (v:= ?_) (a':= ?_) #[true,false,false,false,false,false,false,false,false,false] rfl rfl (any_of HT_.out (by kernel_rfl)) (fun _ _ _ h=>h) (Or.inl ⟨by rfl,?_⟩) ?_ ?_;rotate_left
        ·intro w';go_simp;with_reducible rfl
        rotate_left
        ·simp only [Act.put,la,lb,lc,i64_w,i32_w];rfl
        refine pure_ (i:=1) (N:=some 18) (v:= ?_) (a':= ?_) #[true,true,false,false,false,false,false,false,false,false] rfl rfl (any_of HT_.out (by kernel_rfl)) (fun _ _ _ h=>h) (Or.inl ⟨by rfl,?_⟩) ?_ ?_;rotate_left
        ·intro w';go_simp;with_reducible rfl
        rotate_left
        ·simp only [Act.put,la,lb,lc,i64_w,i32_w];rfl
        refine pure_ (i:=2) (N:=some 19) (v:= ?_) (a':= ?_) #[true,true,true,false,false,false,false,false,false,false] rfl rfl (any_of HT_.out (by kernel_rfl)) (fun _ _ _ h=>h) (Or.inl ⟨by rfl,?_⟩) ?_ ?_;rotate_left
        ·intro w';go_simp;with_reducible rfl
        rotate_left
        ·simp only [Act.put,la,lb,lc,i64_w,i32_w];rfl
        refine pure_ (i:=4) (N:=some 21) (v:= ?_) (a':= ?_) #[true,true,true,false,true,false,false,false,false,false] rfl rfl (any_of HT_.out (by kernel_rfl)) (fun _ _ _ h=>h) (Or.inl ⟨by rfl,?_⟩) ?_ ?_;rotate_left
        ·intro w';go_simp;with_reducible rfl
        rotate_left
        ·simp only [Act.put,la,lb,lc,i64_w,i32_w];rfl
        refine pure_ (i:=5) (N:=some 22) (v:= ?_) (a':= ?_) #[true,true,true,false,true,true,false,false,false,false] rfl rfl (any_of HT_.out (by kernel_rfl)) (fun _ _ _ h=>h) (Or.inl ⟨by rfl,?_⟩) ?_ ?_;rotate_left
        ·intro w';go_simp;with_reducible rfl
        rotate_left
        ·simp only [Act.put,la,lb,lc,i64_w,i32_w];rfl
        refine pure_ (i:=6) (N:=some 23) (v:= ?_) (a':= ?_) #[true,true,true,false,true,true,true,false,false,false] rfl rfl (any_of HT_.out (by kernel_rfl)) (fun _ _ _ h=>h) (Or.inl ⟨by rfl,?_⟩) ?_ ?_;rotate_left
        ·intro w';go_simp;with_reducible rfl
        rotate_left
        ·simp only [Act.put,la,lb,lc,i64_w,i32_w];rfl
        refine take_ (i:=3) (N:=some 20) (v:= ?_) (a':= ?_) #[true,true,true,true,true,true,true,false,false,false] rfl rfl (take_ofW HT_.out HW_.out (by kernel_rfl)) (fun _ _ _ h=>h) (Or.inl ⟨by rfl,?_⟩) hHeld ?_ ?_;rotate_left
        ·rintro w' ⟨s0,s1,s2,s3,s4,s5⟩;go_simp;with_reducible rfl
        rotate_left
        ·simp only [Act.put,la,lb,lc,i64_w,i32_w];rfl
        refine take_ (i:=7) (N:=some 24) (v:= ?_) (a':= ?_) #[true,true,true,true,true,true,true,true,false,false] rfl rfl (take_ofW HT_.out HW_.out (by kernel_rfl)) (fun _ _ _ h=>h) (Or.inl ⟨by rfl,?_⟩) hHeld ?_ ?_;rotate_left
        ·rintro w' ⟨s0,s1,s2,s3,s4,s5⟩;go_simp;with_reducible rfl
        rotate_left
        ·simp only [Act.put,la,lb,lc,i64_w,i32_w];rfl
        refine one_ (i:=8) (N:=some 25) #[true,true,true,true,true,true,true,true,true,false] rfl rfl (one_of HT_.out (by kernel_rfl)) (by decide) (fun K hK=> ?_);refine goes_ Tryz.func60 (by kernel_rfl) rfl #[.agg #[.string ((rd_T75 l0 x5_1).f0),.int .i64 ((rd_T75 l0 x5_1).f1),.int .i64 ((rd_T75 l0 x5_1).f2)],.agg #[.string ((rd_T75 l1 x5_1).f0),.int .i64 ((rd_T75 l1 x5_1).f1),.int .i64 ((rd_T75 l1 x5_1).f2)]] (by rfl) rfl rfl yk1_ ?_;with_reducible refine(laws_eqWord.calls ((rd_T75 l0 x5_1).f0) ((rd_T75 l0 x5_1).f1) ((rd_T75 l0 x5_1).f2) ((rd_T75 l1 x5_1).f0) ((rd_T75 l1 x5_1).f1) ((rd_T75 l1 x5_1).f2) true _ A7.out).mono ?_
        rintro e w10 ⟨rfl,hb⟩;refine⟨_,rfl,?_⟩;replace HB:=yst_ hb;(try clear hb)
        
        
        
        refine hK.out _ _ ⟨(ycst_ HB hw230_0),(ycst_ HB hw230_1),(ycst_ HB hw230_2),(ycst_ HB hw231_0),(ycst_ HB hw231_1),(ycst_ HB hw231_2)⟩ (fun hHeld=> ?_);clear hK K;refine norm_ (a':= ?_) ?_ ?_;rotate_left
        ·show Act.put _ (some 25) _=_
         simp only [Act.put,la,lb,lc,i64_w,i32_w];rfl
        refine pure_ (i:=9) (N:=some 26) (v:= ?_) (a':= ?_) #[true,true,true,true,true,true,true,true,true,true] rfl rfl (any_of HT_.out (by kernel_rfl)) (fun _ _ _ h=>h) (Or.inl ⟨by rfl,?_⟩) ?_ ?_;rotate_left
        ·intro w';go_simp;with_reducible rfl
        rotate_left
        ·simp only [Act.put,la,lb,lc,i64_w,i32_w];rfl
        refine done_ (done_of HT_.out (by kernel_rfl)) ?_;try go_wp2
        go_roundg k1
        case measure=>have:=HK1.out;omega
        case rel=>exact⟨(wrap64 (x5_1+1)),(by first|rfl|(simp;done)|(simp [*];done)),H',⟨by have:=HK1.out;omega⟩,⟨ybl_⟩⟩
       ·replace c8:=bf.mpr c8;subst c8;rw [if_neg (show¬(false=true) by decide)]at H;obtain rfl:=Option.some.inj H;try go_wp2
        replace HB:=am_ (below_drew1 HB.out);have p230:0≤(x5_1:Int):=of_decide_eq_true yqv12_;have q230:x5_1<(l0.length:Int):=of_decide_eq_true yqv12_;obtain⟨ad230,e230,hx230_0,hx230_1,hx230_2⟩:=at_T75 HR0.out x5_1 p230 q230;have hw230_2:=hx230_2;have hw230_1:=hx230_1;have hw230_0:=hx230_0;cases e230;replace hx230_0:=ycst_ HB hx230_0;replace hx230_1:=ycst_ HB hx230_1;replace hx230_2:=ycst_ HB hx230_2;replace p230:=eq_true p230;replace q230:=eq_true q230;have p231:0≤(x5_1:Int):=of_decide_eq_true yqv12_;have q231:x5_1<(l1.length:Int):=of_decide_eq_true yqv12_;obtain⟨ad231,e231,hx231_0,hx231_1,hx231_2⟩:=at_T75 HR1.out x5_1 p231 q231;have hw231_2:=hx231_2;have hw231_1:=hx231_1;have hw231_0:=hx231_0;cases e231;replace hx231_0:=ycst_ HB hx231_0;replace hx231_1:=ycst_ HB hx231_1;replace hx231_2:=ycst_ HB hx231_2;replace p231:=eq_true p231;replace q231:=eq_true q231;refine start_ (n:=10) (S:=fun w'=>w'.cell? (ad230.add ((x5_1).toNat*3))=some (.string ((rd_T75 l0 x5_1).f0))∧w'.cell? ⟨(ad230.add ((x5_1).toNat*3)).block,(ad230.add ((x5_1).toNat*3)).off+1,none⟩=some (.int .i64 ((rd_T75 l0 x5_1).f1))∧w'.cell? ⟨(ad230.add ((x5_1).toNat*3)).block,(ad230.add ((x5_1).toNat*3)).off+2,none⟩=some (.int .i64 ((rd_T75 l0 x5_1).f2))∧w'.cell? (ad231.add ((x5_1).toNat*3))=some (.string ((rd_T75 l1 x5_1).f0))∧w'.cell? ⟨(ad231.add ((x5_1).toNat*3)).block,(ad231.add ((x5_1).toNat*3)).off+1,none⟩=some (.int .i64 ((rd_T75 l1 x5_1).f1))∧w'.cell? ⟨(ad231.add ((x5_1).toNat*3)).block,(ad231.add ((x5_1).toNat*3)).off+2,none⟩=some (.int .i64 ((rd_T75 l1 x5_1).f2))) (ds:= []) #[false,false,false,false,false,false,false,false,false,false] (by kernel_rfl) rfl rfl ⟨(ycst_ HB hw230_0),(ycst_ HB hw230_1),(ycst_ HB hw230_2),(ycst_ HB hw231_0),(ycst_ HB hw231_1),(ycst_ HB hw231_2)⟩ (fun hHeld=> ?_);refine with_tabW laws_eqWordS.tab6 laws_eqWordS.bits6 (fun HT_ HW_=> ?_);generalize wr.drew=w11 at HB hx230_0 hx230_1 hx230_2 hx231_0 hx231_1 hx231_2 hHeld⊢;refine pure_ (i:=0) (N:=some 17) (v:= ?_) (a':= ?_) #[true,false,false,false,false,false,false,false,false,false] rfl rfl (any_of HT_.out (by kernel_rfl)) (fun _ _ _ h=>h) (Or.inl ⟨by rfl,?_⟩) ?_ ?_;rotate_left
        ·intro w';go_simp;with_reducible rfl
        rotate_left
        ·simp only [Act.put,la,lb,lc,i64_w,i32_w];rfl
        refine pure_ (i:=1) (N:=some 18) (v:= ?_) (a':= ?_) #[true,true,false,false,false,false,false,false,false,false] rfl rfl (any_of HT_.out (by kernel_rfl)) (fun _ _ _ h=>h) (Or.inl ⟨by rfl,?_⟩) ?_ ?_;rotate_left
        ·intro w';go_simp;with_reducible rfl
        rotate_left
        ·simp only [Act.put,la,lb,lc,i64_w,i32_w];rfl
        refine pure_ (i:=2) (N:=some 19) (v:= ?_) (a':= ?_) #[true,true,true,false,false,false,false,false,false,false] rfl rfl (any_of HT_.out (by kernel_rfl)) (fun _ _ _ h=>h) (Or.inl ⟨by rfl,?_⟩) ?_ ?_;rotate_left
        ·intro w';go_simp;with_reducible rfl
        rotate_left
        ·simp only [Act.put,la,lb,lc,i64_w,i32_w];rfl
        refine pure_ (i:=4) (N:=some 21) (v:= ?_) (a':= ?_) #[true,true,true,false,true,false,false,false,false,false] rfl rfl (any_of HT_.out (by kernel_rfl)) (fun _ _ _ h=>h) (Or.inl ⟨by rfl,?_⟩) ?_ ?_;rotate_left
        ·intro w';go_simp;with_reducible rfl
        rotate_left
        ·simp only [Act.put,la,lb,lc,i64_w,i32_w];rfl
        refine pure_ (i:=5) (N:=some 22) (v:= ?_) (a':= ?_) #[true,true,true,false,true,true,false,false,false,false] rfl rfl (any_of HT_.out (by kernel_rfl)) (fun _ _ _ h=>h) (Or.inl ⟨by rfl,?_⟩) ?_ ?_;rotate_left
        ·intro w';go_simp;with_reducible rfl
        rotate_left
        ·simp only [Act.put,la,lb,lc,i64_w,i32_w];rfl
        refine pure_ (i:=6) (N:=some 23) (v:= ?_) (a':= ?_) #[true,true,true,false,true,true,true,false,false,false] rfl rfl (any_of HT_.out (by kernel_rfl)) (fun _ _ _ h=>h) (Or.inl ⟨by rfl,?_⟩) ?_ ?_;rotate_left
        ·intro w';go_simp;with_reducible rfl
        rotate_left
        ·simp only [Act.put,la,lb,lc,i64_w,i32_w];rfl
        refine take_ (i:=3) (N:=some 20) (v:= ?_) (a':= ?_) #[true,true,true,true,true,true,true,false,false,false] rfl rfl (take_ofW HT_.out HW_.out (by kernel_rfl)) (fun _ _ _ h=>h) (Or.inl ⟨by rfl,?_⟩) hHeld ?_ ?_;rotate_left
        ·rintro w' ⟨s0,s1,s2,s3,s4,s5⟩;go_simp;with_reducible rfl
        rotate_left
        ·simp only [Act.put,la,lb,lc,i64_w,i32_w];rfl
        refine take_ (i:=7) (N:=some 24) (v:= ?_) (a':= ?_) #[true,true,true,true,true,true,true,true,false,false] rfl rfl (take_ofW HT_.out HW_.out (by kernel_rfl)) (fun _ _ _ h=>h) (Or.inl ⟨by rfl,?_⟩) hHeld ?_ ?_;rotate_left
        ·rintro w' ⟨s0,s1,s2,s3,s4,s5⟩;go_simp;with_reducible rfl
        rotate_left
        ·simp only [Act.put,la,lb,lc,i64_w,i32_w];rfl
        refine one_ (i:=8) (N:=some 25) #[true,true,true,true,true,true,true,true,true,false] rfl rfl (one_of HT_.out (by kernel_rfl)) (by decide) (fun K hK=> ?_);refine goes_ Tryz.func60 (by kernel_rfl) rfl #[.agg #[.string ((rd_T75 l0 x5_1).f0),.int .i64 ((rd_T75 l0 x5_1).f1),.int .i64 ((rd_T75 l0 x5_1).f2)],.agg #[.string ((rd_T75 l1 x5_1).f0),.int .i64 ((rd_T75 l1 x5_1).f1),.int .i64 ((rd_T75 l1 x5_1).f2)]] (by rfl) rfl rfl yk1_ ?_;with_reducible refine(laws_eqWord.calls ((rd_T75 l0 x5_1).f0) ((rd_T75 l0 x5_1).f1) ((rd_T75 l0 x5_1).f2) ((rd_T75 l1 x5_1).f0) ((rd_T75 l1 x5_1).f1) ((rd_T75 l1 x5_1).f2) false _ A7.out).mono ?_
        rintro e w12 ⟨rfl,hb⟩;refine⟨_,rfl,?_⟩;replace HB:=yst_ hb;(try clear hb)
        
        
        
        refine hK.out _ _ ⟨(ycst_ HB hw230_0),(ycst_ HB hw230_1),(ycst_ HB hw230_2),(ycst_ HB hw231_0),(ycst_ HB hw231_1),(ycst_ HB hw231_2)⟩ (fun hHeld=> ?_);clear hK K;refine norm_ (a':= ?_) ?_ ?_;rotate_left
        ·show Act.put _ (some 25) _=_
         simp only [Act.put,la,lb,lc,i64_w,i32_w];rfl
        refine pure_ (i:=9) (N:=some 26) (v:= ?_) (a':= ?_) #[true,true,true,true,true,true,true,true,true,true] rfl rfl (any_of HT_.out (by kernel_rfl)) (fun _ _ _ h=>h) (Or.inl ⟨by rfl,?_⟩) ?_ ?_;rotate_left
        ·intro w';go_simp;with_reducible rfl
        rotate_left
        ·simp only [Act.put,la,lb,lc,i64_w,i32_w];rfl
        refine done_ (done_of HT_.out (by kernel_rfl)) ?_;try go_wp2
        go_ret
        exact⟨yk0_,ybl_⟩
      ·rw [if_neg c6]at H;exact absurd H (by simp)
     ·rw [if_neg c5]at H;exact absurd H (by simp)
    ·rw [if_neg c4]at H;have c4b0:decide (x5_1<(l0.length:Int))=false:=decide_eq_false c4;clear c4;obtain rfl:=Option.some.inj H;go_wp2;go_ret;exact⟨yk0_,ybl_⟩
 ·rw [if_neg c3]at H;have c3b0:((l0.length:Int)==(l1.length:Int))=false:=beq_eq_false_iff_ne.mpr c3;have c3b1:((l0.length:Int) !=(l1.length:Int))=true:=bne_iff_ne.mpr c3;have c3b2:(l0.length==l1.length)=false:=by first|simpa using c3|(simp at c3⊢;omega)
  obtain rfl:=Option.some.inj H;go_enter Tryz.func28,Tryz.ntmps28;go_wp2;go_ret;exact⟨yk0_,ybl_⟩

/-! ### laws_eqIntS: function 29 -/
def laws_eqIntS.l0:Nat→List Int→List Int→Int→Option (Bool)
 |0,_,_,_=>none
 |k+1,x0,x1,x5=>if x5<(x0.length:Int)then(if 0≤x5 then(if x5<(x1.length:Int)then(if(rd x0 x5)=(rd x1 x5)then(laws_eqIntS.l0 k x0 x1 (wrap64 (x5+1)))else(some false))else(none))else(none))else(some true)
def laws_eqIntS.f (k:Nat) (l0 l1:List Int):Option (Bool):=if(l0.length:Int)=(l1.length:Int)then(laws_eqIntS.l0 k l0 l1 0)else(some false)
theorem laws_eqIntS.mono_l: ∀k,(∀y0 y1 y2,LeO (laws_eqIntS.l0 k y0 y1 y2) (laws_eqIntS.l0 (k+1) y0 y1 y2))
 |0=>fun _ _ _ r h=>by simp [laws_eqIntS.l0]at h
 |k+1=>by
  have ih0:=laws_eqIntS.mono_l k
  ·intro y0 y1 y2;unfold laws_eqIntS.l0;repeat' first
   |(with_reducible first|apply ih0|exact LeO.refl _|exact LeO.none _|refine LeO.ite ?_ ?_|refine LeO.bind ?_ (fun _=> ?_))
   |apply ih0|exact LeO.none _|refine LeO.ite ?_ ?_|refine LeO.bind ?_ (fun _=> ?_)
theorem laws_eqIntS.mono: ∀a0 a1 k,LeO (laws_eqIntS.f k a0 a1) (laws_eqIntS.f (k+1) a0 a1):=by
 intro a0 a1 k;have ih0:=laws_eqIntS.mono_l k;unfold laws_eqIntS.f;repeat' first
 |(with_reducible first|apply ih0|exact LeO.refl _|exact LeO.none _|refine LeO.ite ?_ ?_|refine LeO.bind ?_ (fun _=> ?_))
 |apply ih0|exact LeO.none _|refine LeO.ite ?_ ?_|refine LeO.bind ?_ (fun _=> ?_)
theorem laws_eqIntS.calls (k:Nat) A0 c0 l0 A1 c1 l1 (r:Bool) (w:World) (hr0:Kd.C (Kd.int .i64) w A0 l0.length l0) (hc0:l0.length≤c0) (hr1:Kd.C (Kd.int .i64) w A1 l1.length l1) (hc1:l1.length≤c1) (h:laws_eqIntS.f k l0 l1=some r):
  Calls Tryz.prog 29 #[.slice A0 l0.length c0,.slice A1 l1.length c1] w fun e w'=>e= .returned (.bool r)∧Drawn0 w w':=by
 have HR0:=am_ hr0;have HC0:=am_ hc0;clear hr0 hc0;have HR1:=am_ hr1;have HC1:=am_ hc1;clear hr1 hc1;have H:=h;clear h;rw [laws_eqIntS.f]at H;by_cases c3:(l0.length:Int)=(l1.length:Int)
 ·rw [if_pos c3]at H;have c3b0:((l0.length:Int)==(l1.length:Int))=true:=beq_iff_eq.mpr c3;have c3b1:((l0.length:Int) !=(l1.length:Int))=false:=bne_eq_false_iff_eq.mpr c3;have c3b2:(l0.length==l1.length)=true:=by first|simpa using c3|(simp at c3⊢;omega)
  clear c3;have H':=am_ H;clear H;go_enter Tryz.func29,Tryz.ntmps29;go_wp2;repeat(go_quiet (fail);try go_wp2)
  go_loopg [5] k (fun kq v5 w'=> ∃(x5_1:Int),v5= .int .i64 x5_1∧Aside0 (laws_eqIntS.l0 kq l0 l1 x5_1=some r)∧Aside0 (kq≤k)∧Drawn0 w w')
  case atStart=>exact⟨(0),(by first|rfl|(simp;done)|(simp [*];done)),H',⟨Nat.le_refl _⟩,by repeat(first|exact Drawn0.refl _|apply Drawn0.step)⟩
  case round=>
   clear H';try clear c1
   try clear c2
   try clear p2
   try clear c3
   try clear c3b0
   try clear c3b1
   try clear c3b2
   obtain⟨x5_1,rfl,HA,HK1,⟨m1,rfl⟩⟩:=hrel;cases gk with
   |zero=>exact absurd HA.out (by simp [laws_eqIntS.l0])
   |succ k1=>
    have H:=HA.out;clear HA;simp only [laws_eqIntS.l0]at H;by_cases c4:x5_1<(l0.length:Int)
    ·rw [if_pos c4]at H;have c4b0:decide (x5_1<(l0.length:Int))=true:=decide_eq_true c4;clear c4;by_cases c5:0≤x5_1
     ·rw [if_pos c5]at H;have c5b0:decide (0≤x5_1)=true:=decide_eq_true c5;clear c5;by_cases c6:x5_1<(l1.length:Int)
      ·rw [if_pos c6]at H;have c6b0:decide (x5_1<(l1.length:Int))=true:=decide_eq_true c6;clear c6;by_cases c7:(rd l0 x5_1)=(rd l1 x5_1)
       ·rw [if_pos c7]at H;have c7b0:((rd l0 x5_1)==(rd l1 x5_1))=true:=beq_iff_eq.mpr c7;have c7b1:((rd l0 x5_1) !=(rd l1 x5_1))=false:=bne_eq_false_iff_eq.mpr c7;clear c7;have H':=am_ H;clear H;have p233:0≤(x5_1:Int):=of_decide_eq_true yqv12_;have q233:x5_1<(l0.length:Int):=of_decide_eq_true yqv12_;obtain⟨ad233,e233,hx233_0⟩:=Kd.at_int HR0.out x5_1 p233 q233;cases e233;replace p233:=eq_true p233;replace q233:=eq_true q233;have p234:0≤(x5_1:Int):=of_decide_eq_true yqv12_;have q234:x5_1<(l1.length:Int):=of_decide_eq_true yqv12_;obtain⟨ad234,e234,hx234_0⟩:=Kd.at_int HR1.out x5_1 p234 q234;cases e234;replace p234:=eq_true p234;replace q234:=eq_true q234;go_wp2;repeat(go_quiet (fail);try go_wp2)
        go_roundg k1
        case measure=>have:=HK1.out;omega
        case rel=>exact⟨(wrap64 (x5_1+1)),(by first|rfl|(simp;done)|(simp [*];done)),H',⟨by have:=HK1.out;omega⟩,by repeat(first|exact Drawn0.refl _|apply Drawn0.step)⟩
       ·rw [if_neg c7]at H;have c7b0:((rd l0 x5_1)==(rd l1 x5_1))=false:=beq_eq_false_iff_ne.mpr c7;have c7b1:((rd l0 x5_1) !=(rd l1 x5_1))=true:=bne_iff_ne.mpr c7;obtain rfl:=Option.some.inj H;have p233:0≤(x5_1:Int):=of_decide_eq_true yqv12_;have q233:x5_1<(l0.length:Int):=of_decide_eq_true yqv12_;obtain⟨ad233,e233,hx233_0⟩:=Kd.at_int HR0.out x5_1 p233 q233;cases e233;replace p233:=eq_true p233;replace q233:=eq_true q233;have p234:0≤(x5_1:Int):=of_decide_eq_true yqv12_;have q234:x5_1<(l1.length:Int):=of_decide_eq_true yqv12_;obtain⟨ad234,e234,hx234_0⟩:=Kd.at_int HR1.out x5_1 p234 q234;cases e234;replace p234:=eq_true p234;replace q234:=eq_true q234;go_wp2;repeat(go_quiet (fail);try go_wp2)
        go_ret
        exact⟨by first|rfl|(simp;done)|(simp [*];done),by repeat(first|exact Drawn0.refl _|apply Drawn0.step)⟩
      ·rw [if_neg c6]at H;exact absurd H (by simp)
     ·rw [if_neg c5]at H;exact absurd H (by simp)
    ·rw [if_neg c4]at H;have c4b0:decide (x5_1<(l0.length:Int))=false:=decide_eq_false c4;clear c4;obtain rfl:=Option.some.inj H;go_wp2;repeat(go_quiet (fail);try go_wp2)
     go_ret
     exact⟨by first|rfl|(simp;done)|(simp [*];done),by repeat(first|exact Drawn0.refl _|apply Drawn0.step)⟩
 ·rw [if_neg c3]at H;have c3b0:((l0.length:Int)==(l1.length:Int))=false:=beq_eq_false_iff_ne.mpr c3;have c3b1:((l0.length:Int) !=(l1.length:Int))=true:=bne_iff_ne.mpr c3;have c3b2:(l0.length==l1.length)=false:=by first|simpa using c3|(simp at c3⊢;omega)
  obtain rfl:=Option.some.inj H;go_enter Tryz.func29,Tryz.ntmps29;go_wp2;repeat(go_quiet (fail);try go_wp2)
  go_ret
  exact⟨by first|rfl|(simp;done)|(simp [*];done),by repeat(first|exact Drawn0.refl _|apply Drawn0.step)⟩

/-! ### laws_eqData: function 30 -/
def laws_eqData.f (k:Nat) (l0_0 l0_1 l0_2:List Int) (a0_3 a0_4:Int) (a0_5:ByteArray) (l1_0 l1_1 l1_2:List Int) (a1_3 a1_4:Int) (a1_5:ByteArray):Option (Bool):=(laws_eqIntS.f k l0_0 l1_0).bind fun t237=>(if t237=true then((laws_eqIntS.f k l0_1 l1_1).bind fun t238=>(if t238=true then((laws_eqIntS.f k l0_2 l1_2).bind fun t239=>(if t239=true then(if a0_3=a1_3 then(if a0_4=a1_4 then(if a0_5.toList=a1_5.toList then(some true)else(some false))else(some false))else(some false))else(some false)))else(some false)))else(some false))
theorem laws_eqData.mono: ∀a0 a1 a2 a3 a4 a5 a6 a7 a8 a9 a10 a11 k,LeO (laws_eqData.f k a0 a1 a2 a3 a4 a5 a6 a7 a8 a9 a10 a11) (laws_eqData.f (k+1) a0 a1 a2 a3 a4 a5 a6 a7 a8 a9 a10 a11):=by
 intro a0 a1 a2 a3 a4 a5 a6 a7 a8 a9 a10 a11 k;unfold laws_eqData.f;repeat' first
 |(with_reducible first|apply laws_eqIntS.mono|exact LeO.refl _|exact LeO.none _|refine LeO.ite ?_ ?_|refine LeO.bind ?_ (fun _=> ?_))
 |apply laws_eqIntS.mono|exact LeO.none _|refine LeO.ite ?_ ?_|refine LeO.bind ?_ (fun _=> ?_)
theorem laws_eqData.calls (k:Nat) A0_0 c0_0 l0_0 A0_1 c0_1 l0_1 A0_2 c0_2 l0_2 (a0_3:Int) (a0_4:Int) (a0_5:ByteArray) A1_0 c1_0 l1_0 A1_1 c1_1 l1_1 A1_2 c1_2 l1_2 (a1_3:Int) (a1_4:Int) (a1_5:ByteArray) (r:Bool) (w:World) (hr0_0:Kd.C (Kd.int .i64) w A0_0 l0_0.length l0_0) (hc0_0:l0_0.length≤c0_0) (hr0_1:Kd.C (Kd.int .i64) w A0_1 l0_1.length l0_1) (hc0_1:l0_1.length≤c0_1) (hr0_2:Kd.C (Kd.int .i64) w A0_2 l0_2.length l0_2) (hc0_2:l0_2.length≤c0_2) (hr1_0:Kd.C (Kd.int .i64) w A1_0 l1_0.length l1_0) (hc1_0:l1_0.length≤c1_0) (hr1_1:Kd.C (Kd.int .i64) w A1_1 l1_1.length l1_1) (hc1_1:l1_1.length≤c1_1) (hr1_2:Kd.C (Kd.int .i64) w A1_2 l1_2.length l1_2) (hc1_2:l1_2.length≤c1_2) (h:laws_eqData.f k l0_0 l0_1 l0_2 a0_3 a0_4 a0_5 l1_0 l1_1 l1_2 a1_3 a1_4 a1_5=some r):
  Calls Tryz.prog 30 #[.agg #[.slice A0_0 l0_0.length c0_0,.slice A0_1 l0_1.length c0_1,.slice A0_2 l0_2.length c0_2,.int .i64 a0_3,.int .i64 a0_4,.string a0_5],.agg #[.slice A1_0 l1_0.length c1_0,.slice A1_1 l1_1.length c1_1,.slice A1_2 l1_2.length c1_2,.int .i64 a1_3,.int .i64 a1_4,.string a1_5]] w fun e w'=>e= .returned (.bool r)∧Below w.heap.size w w':=by
 have hu36:=Tryz.underlying36;have HR0_0:=am_ hr0_0;have HC0_0:=am_ hc0_0;clear hr0_0 hc0_0;have HR0_1:=am_ hr0_1;have HC0_1:=am_ hc0_1;clear hr0_1 hc0_1;have HR0_2:=am_ hr0_2;have HC0_2:=am_ hc0_2;clear hr0_2 hc0_2;have HR1_0:=am_ hr1_0;have HC1_0:=am_ hc1_0;clear hr1_0 hc1_0;have HR1_1:=am_ hr1_1;have HC1_1:=am_ hc1_1;clear hr1_1 hc1_1;have HR1_2:=am_ hr1_2;have HC1_2:=am_ hc1_2;clear hr1_2 hc1_2;have HB:=am_ (Below.refl w.heap.size w);have H:=h;clear h;rw [laws_eqData.f]at H;replace H:=ob.mp H;obtain⟨t237,A30,H⟩:=H;try dsimp only at H
 have A3:=am_ A30;clear A30;by_cases c4:t237=true
 ·subst c4;rw [if_pos rfl]at H;replace H:=ob.mp H;obtain⟨t238,A50,H⟩:=H;try dsimp only at H
  have A5:=am_ A50;clear A50;by_cases c6:t238=true
  ·subst c6;rw [if_pos rfl]at H;replace H:=ob.mp H;obtain⟨t239,A70,H⟩:=H;try dsimp only at H
   have A7:=am_ A70;clear A70;by_cases c8:t239=true
   ·subst c8;rw [if_pos rfl]at H;by_cases c9:a0_3=a1_3
    ·rw [if_pos c9]at H;have c9b0:(a0_3==a1_3)=true:=beq_iff_eq.mpr c9;have c9b1:(a0_3 !=a1_3)=false:=bne_eq_false_iff_eq.mpr c9;clear c9;by_cases c10:a0_4=a1_4
     ·rw [if_pos c10]at H;have c10b0:(a0_4==a1_4)=true:=beq_iff_eq.mpr c10;have c10b1:(a0_4 !=a1_4)=false:=bne_eq_false_iff_eq.mpr c10;clear c10;by_cases c11:a0_5.toList=a1_5.toList
      ·rw [if_pos c11]at H;have c11b0:(a0_5.toList==a1_5.toList)=true:=beq_iff_eq.mpr c11;have c11b1:(a0_5.toList !=a1_5.toList)=false:=bne_eq_false_iff_eq.mpr c11;clear c11;obtain rfl:=Option.some.inj H;go_enter Tryz.func30,Tryz.ntmps30;go_wp2_with (first|((with_reducible refine gate_dst (N:=2) rfl ?_);refine box_event ?hg (N:=2) ?hd (cs:= #[.slice A0_0 l0_0.length c0_0,.slice A0_1 l0_1.length c0_1,.slice A0_2 l0_2.length c0_2,.int .i64 a0_3,.int .i64 a0_4,.string a0_5]) (t:=36) ?hr ?_;(case hd=>rfl);(case hg=>rfl);(case hr=>first|(go_simp;done)|(go_simp;rfl));intro gb235 hg w12 hbox hb;have BK235:=am_ (hbox);have GW235:=am_ ((ybsz_ hg:w.heap.size≤gb235));replace HB:=yst_ hb;clear hb hbox hg)|((with_reducible refine gate_dst (N:=3) rfl ?_);refine box_event ?hg (N:=3) ?hd (cs:= #[.slice A1_0 l1_0.length c1_0,.slice A1_1 l1_1.length c1_1,.slice A1_2 l1_2.length c1_2,.int .i64 a1_3,.int .i64 a1_4,.string a1_5]) (t:=36) ?hr ?_;(case hd=>rfl);(case hg=>rfl);(case hr=>first|(go_simp;done)|(go_simp;rfl));intro gb236 hg w13 hbox hb;have BK236:=am_ (hbox);have GW236:=am_ ((ybsz_ hg:w.heap.size≤gb236));replace HB:=yst_ hb;have NB235_236:=am_ (ybne_ hg BK235);have NB236_235:=am_ ((ybne_ hg BK235).symm);replace BK235:=am_ (ybb_ BK235 hb);clear hb hbox hg;have hnb14:=NB235_236.out;have hnc14:=NB236_235.out;have hcz15:=ye6_ BK235;have hfz15:=yf6_ BK235;have hcz16:=ye6_ BK236;have hfz16:=yf6_ BK236)|((with_reducible refine gate_callee (f:=29) rfl ?_);refine goesL_ (some 9) rfl rfl Tryz.func29 (by kernel_rfl) rfl #[.slice A0_0 l0_0.length c0_0,.slice A1_0 l1_0.length c1_0] rfl yk1_ ?_;(with_reducible refine(laws_eqIntS.calls k _ _ l0_0 _ _ l1_0 true _ ?s1 HC0_0.out ?s3 HC1_0.out A3.out).mono ?_);(case s1=>exact ycb_ HR0_0 HB);(case s3=>exact ycb_ HR1_0 HB);rintro e w' ⟨rfl,⟨nd,rfl⟩⟩;refine⟨_,rfl,?_⟩)|((with_reducible refine gate_callee (f:=29) rfl ?_);refine goesL_ (some 15) rfl rfl Tryz.func29 (by kernel_rfl) rfl #[.slice A0_1 l0_1.length c0_1,.slice A1_1 l1_1.length c1_1] rfl yk1_ ?_;(with_reducible refine(laws_eqIntS.calls k _ _ l0_1 _ _ l1_1 true _ ?s1 HC0_1.out ?s3 HC1_1.out A5.out).mono ?_);(case s1=>exact yscq_ HR0_1);(case s3=>exact yscq_ HR1_1);rintro e w' ⟨rfl,⟨nd,rfl⟩⟩;refine⟨_,rfl,?_⟩)|((with_reducible refine gate_callee (f:=29) rfl ?_);refine goesL_ (some 21) rfl rfl Tryz.func29 (by kernel_rfl) rfl #[.slice A0_2 l0_2.length c0_2,.slice A1_2 l1_2.length c1_2] rfl yk1_ ?_;(with_reducible refine(laws_eqIntS.calls k _ _ l0_2 _ _ l1_2 true _ ?s1 HC0_2.out ?s3 HC1_2.out A7.out).mono ?_);(case s1=>exact yscq_ HR0_2);(case s3=>exact yscq_ HR1_2);rintro e w' ⟨rfl,⟨nd,rfl⟩⟩;refine⟨_,rfl,?_⟩));go_ret;exact⟨yk0_,ybl_⟩
      ·rw [if_neg c11]at H;have c11b0:(a0_5.toList==a1_5.toList)=false:=beq_eq_false_iff_ne.mpr c11;have c11b1:(a0_5.toList !=a1_5.toList)=true:=bne_iff_ne.mpr c11;obtain rfl:=Option.some.inj H;go_enter Tryz.func30,Tryz.ntmps30;go_wp2_with (first|((with_reducible refine gate_dst (N:=2) rfl ?_);refine box_event ?hg (N:=2) ?hd (cs:= #[.slice A0_0 l0_0.length c0_0,.slice A0_1 l0_1.length c0_1,.slice A0_2 l0_2.length c0_2,.int .i64 a0_3,.int .i64 a0_4,.string a0_5]) (t:=36) ?hr ?_;(case hd=>rfl);(case hg=>rfl);(case hr=>first|(go_simp;done)|(go_simp;rfl));intro gb235 hg w17 hbox hb;have BK235:=am_ (hbox);have GW235:=am_ ((ybsz_ hg:w.heap.size≤gb235));replace HB:=yst_ hb;clear hb hbox hg)|((with_reducible refine gate_dst (N:=3) rfl ?_);refine box_event ?hg (N:=3) ?hd (cs:= #[.slice A1_0 l1_0.length c1_0,.slice A1_1 l1_1.length c1_1,.slice A1_2 l1_2.length c1_2,.int .i64 a1_3,.int .i64 a1_4,.string a1_5]) (t:=36) ?hr ?_;(case hd=>rfl);(case hg=>rfl);(case hr=>first|(go_simp;done)|(go_simp;rfl));intro gb236 hg w18 hbox hb;have BK236:=am_ (hbox);have GW236:=am_ ((ybsz_ hg:w.heap.size≤gb236));replace HB:=yst_ hb;have NB235_236:=am_ (ybne_ hg BK235);have NB236_235:=am_ ((ybne_ hg BK235).symm);replace BK235:=am_ (ybb_ BK235 hb);clear hb hbox hg;have hnb19:=NB235_236.out;have hnc19:=NB236_235.out;have hcz20:=ye6_ BK235;have hfz20:=yf6_ BK235;have hcz21:=ye6_ BK236;have hfz21:=yf6_ BK236)|((with_reducible refine gate_callee (f:=29) rfl ?_);refine goesL_ (some 9) rfl rfl Tryz.func29 (by kernel_rfl) rfl #[.slice A0_0 l0_0.length c0_0,.slice A1_0 l1_0.length c1_0] rfl yk1_ ?_;(with_reducible refine(laws_eqIntS.calls k _ _ l0_0 _ _ l1_0 true _ ?s1 HC0_0.out ?s3 HC1_0.out A3.out).mono ?_);(case s1=>exact ycb_ HR0_0 HB);(case s3=>exact ycb_ HR1_0 HB);rintro e w' ⟨rfl,⟨nd,rfl⟩⟩;refine⟨_,rfl,?_⟩)|((with_reducible refine gate_callee (f:=29) rfl ?_);refine goesL_ (some 15) rfl rfl Tryz.func29 (by kernel_rfl) rfl #[.slice A0_1 l0_1.length c0_1,.slice A1_1 l1_1.length c1_1] rfl yk1_ ?_;(with_reducible refine(laws_eqIntS.calls k _ _ l0_1 _ _ l1_1 true _ ?s1 HC0_1.out ?s3 HC1_1.out A5.out).mono ?_);(case s1=>exact yscq_ HR0_1);(case s3=>exact yscq_ HR1_1);rintro e w' ⟨rfl,⟨nd,rfl⟩⟩;refine⟨_,rfl,?_⟩)|((with_reducible refine gate_callee (f:=29) rfl ?_);refine goesL_ (some 21) rfl rfl Tryz.func29 (by kernel_rfl) rfl #[.slice A0_2 l0_2.length c0_2,.slice A1_2 l1_2.length c1_2] rfl yk1_ ?_;(with_reducible refine(laws_eqIntS.calls k _ _ l0_2 _ _ l1_2 true _ ?s1 HC0_2.out ?s3 HC1_2.out A7.out).mono ?_);(case s1=>exact yscq_ HR0_2);(case s3=>exact yscq_ HR1_2);rintro e w' ⟨rfl,⟨nd,rfl⟩⟩;refine⟨_,rfl,?_⟩));go_ret;exact⟨yk0_,ybl_⟩
     ·rw [if_neg c10]at H;have c10b0:(a0_4==a1_4)=false:=beq_eq_false_iff_ne.mpr c10;have c10b1:(a0_4 !=a1_4)=true:=bne_iff_ne.mpr c10;obtain rfl:=Option.some.inj H;go_enter Tryz.func30,Tryz.ntmps30;go_wp2_with (first|((with_reducible refine gate_dst (N:=2) rfl ?_);refine box_event ?hg (N:=2) ?hd (cs:= #[.slice A0_0 l0_0.length c0_0,.slice A0_1 l0_1.length c0_1,.slice A0_2 l0_2.length c0_2,.int .i64 a0_3,.int .i64 a0_4,.string a0_5]) (t:=36) ?hr ?_;(case hd=>rfl);(case hg=>rfl);(case hr=>first|(go_simp;done)|(go_simp;rfl));intro gb235 hg w22 hbox hb;have BK235:=am_ (hbox);have GW235:=am_ ((ybsz_ hg:w.heap.size≤gb235));replace HB:=yst_ hb;clear hb hbox hg)|((with_reducible refine gate_dst (N:=3) rfl ?_);refine box_event ?hg (N:=3) ?hd (cs:= #[.slice A1_0 l1_0.length c1_0,.slice A1_1 l1_1.length c1_1,.slice A1_2 l1_2.length c1_2,.int .i64 a1_3,.int .i64 a1_4,.string a1_5]) (t:=36) ?hr ?_;(case hd=>rfl);(case hg=>rfl);(case hr=>first|(go_simp;done)|(go_simp;rfl));intro gb236 hg w23 hbox hb;have BK236:=am_ (hbox);have GW236:=am_ ((ybsz_ hg:w.heap.size≤gb236));replace HB:=yst_ hb;have NB235_236:=am_ (ybne_ hg BK235);have NB236_235:=am_ ((ybne_ hg BK235).symm);replace BK235:=am_ (ybb_ BK235 hb);clear hb hbox hg;have hnb24:=NB235_236.out;have hnc24:=NB236_235.out;have hcz25:=ye6_ BK235;have hfz25:=yf6_ BK235;have hcz26:=ye6_ BK236;have hfz26:=yf6_ BK236)|((with_reducible refine gate_callee (f:=29) rfl ?_);refine goesL_ (some 9) rfl rfl Tryz.func29 (by kernel_rfl) rfl #[.slice A0_0 l0_0.length c0_0,.slice A1_0 l1_0.length c1_0] rfl yk1_ ?_;(with_reducible refine(laws_eqIntS.calls k _ _ l0_0 _ _ l1_0 true _ ?s1 HC0_0.out ?s3 HC1_0.out A3.out).mono ?_);(case s1=>exact ycb_ HR0_0 HB);(case s3=>exact ycb_ HR1_0 HB);rintro e w' ⟨rfl,⟨nd,rfl⟩⟩;refine⟨_,rfl,?_⟩)|((with_reducible refine gate_callee (f:=29) rfl ?_);refine goesL_ (some 15) rfl rfl Tryz.func29 (by kernel_rfl) rfl #[.slice A0_1 l0_1.length c0_1,.slice A1_1 l1_1.length c1_1] rfl yk1_ ?_;(with_reducible refine(laws_eqIntS.calls k _ _ l0_1 _ _ l1_1 true _ ?s1 HC0_1.out ?s3 HC1_1.out A5.out).mono ?_);(case s1=>exact yscq_ HR0_1);(case s3=>exact yscq_ HR1_1);rintro e w' ⟨rfl,⟨nd,rfl⟩⟩;refine⟨_,rfl,?_⟩)|((with_reducible refine gate_callee (f:=29) rfl ?_);refine goesL_ (some 21) rfl rfl Tryz.func29 (by kernel_rfl) rfl #[.slice A0_2 l0_2.length c0_2,.slice A1_2 l1_2.length c1_2] rfl yk1_ ?_;(with_reducible refine(laws_eqIntS.calls k _ _ l0_2 _ _ l1_2 true _ ?s1 HC0_2.out ?s3 HC1_2.out A7.out).mono ?_);(case s1=>exact yscq_ HR0_2);(case s3=>exact yscq_ HR1_2);rintro e w' ⟨rfl,⟨nd,rfl⟩⟩;refine⟨_,rfl,?_⟩));go_ret;exact⟨yk0_,ybl_⟩
    ·rw [if_neg c9]at H;have c9b0:(a0_3==a1_3)=false:=beq_eq_false_iff_ne.mpr c9;have c9b1:(a0_3 !=a1_3)=true:=bne_iff_ne.mpr c9;obtain rfl:=Option.some.inj H;go_enter Tryz.func30,Tryz.ntmps30;go_wp2_with (first|((with_reducible refine gate_dst (N:=2) rfl ?_);refine box_event ?hg (N:=2) ?hd (cs:= #[.slice A0_0 l0_0.length c0_0,.slice A0_1 l0_1.length c0_1,.slice A0_2 l0_2.length c0_2,.int .i64 a0_3,.int .i64 a0_4,.string a0_5]) (t:=36) ?hr ?_;(case hd=>rfl);(case hg=>rfl);(case hr=>first|(go_simp;done)|(go_simp;rfl));intro gb235 hg w27 hbox hb;have BK235:=am_ (hbox);have GW235:=am_ ((ybsz_ hg:w.heap.size≤gb235));replace HB:=yst_ hb;clear hb hbox hg)|((with_reducible refine gate_dst (N:=3) rfl ?_);refine box_event ?hg (N:=3) ?hd (cs:= #[.slice A1_0 l1_0.length c1_0,.slice A1_1 l1_1.length c1_1,.slice A1_2 l1_2.length c1_2,.int .i64 a1_3,.int .i64 a1_4,.string a1_5]) (t:=36) ?hr ?_;(case hd=>rfl);(case hg=>rfl);(case hr=>first|(go_simp;done)|(go_simp;rfl));intro gb236 hg w28 hbox hb;have BK236:=am_ (hbox);have GW236:=am_ ((ybsz_ hg:w.heap.size≤gb236));replace HB:=yst_ hb;have NB235_236:=am_ (ybne_ hg BK235);have NB236_235:=am_ ((ybne_ hg BK235).symm);replace BK235:=am_ (ybb_ BK235 hb);clear hb hbox hg;have hnb29:=NB235_236.out;have hnc29:=NB236_235.out;have hcz30:=ye6_ BK235;have hfz30:=yf6_ BK235;have hcz31:=ye6_ BK236;have hfz31:=yf6_ BK236)|((with_reducible refine gate_callee (f:=29) rfl ?_);refine goesL_ (some 9) rfl rfl Tryz.func29 (by kernel_rfl) rfl #[.slice A0_0 l0_0.length c0_0,.slice A1_0 l1_0.length c1_0] rfl yk1_ ?_;(with_reducible refine(laws_eqIntS.calls k _ _ l0_0 _ _ l1_0 true _ ?s1 HC0_0.out ?s3 HC1_0.out A3.out).mono ?_);(case s1=>exact ycb_ HR0_0 HB);(case s3=>exact ycb_ HR1_0 HB);rintro e w' ⟨rfl,⟨nd,rfl⟩⟩;refine⟨_,rfl,?_⟩)|((with_reducible refine gate_callee (f:=29) rfl ?_);refine goesL_ (some 15) rfl rfl Tryz.func29 (by kernel_rfl) rfl #[.slice A0_1 l0_1.length c0_1,.slice A1_1 l1_1.length c1_1] rfl yk1_ ?_;(with_reducible refine(laws_eqIntS.calls k _ _ l0_1 _ _ l1_1 true _ ?s1 HC0_1.out ?s3 HC1_1.out A5.out).mono ?_);(case s1=>exact yscq_ HR0_1);(case s3=>exact yscq_ HR1_1);rintro e w' ⟨rfl,⟨nd,rfl⟩⟩;refine⟨_,rfl,?_⟩)|((with_reducible refine gate_callee (f:=29) rfl ?_);refine goesL_ (some 21) rfl rfl Tryz.func29 (by kernel_rfl) rfl #[.slice A0_2 l0_2.length c0_2,.slice A1_2 l1_2.length c1_2] rfl yk1_ ?_;(with_reducible refine(laws_eqIntS.calls k _ _ l0_2 _ _ l1_2 true _ ?s1 HC0_2.out ?s3 HC1_2.out A7.out).mono ?_);(case s1=>exact yscq_ HR0_2);(case s3=>exact yscq_ HR1_2);rintro e w' ⟨rfl,⟨nd,rfl⟩⟩;refine⟨_,rfl,?_⟩));go_ret;exact⟨yk0_,ybl_⟩
   ·replace c8:=bf.mpr c8;subst c8;rw [if_neg (show¬(false=true) by decide)]at H;obtain rfl:=Option.some.inj H;go_enter Tryz.func30,Tryz.ntmps30;go_wp2_with (first|((with_reducible refine gate_dst (N:=2) rfl ?_);refine box_event ?hg (N:=2) ?hd (cs:= #[.slice A0_0 l0_0.length c0_0,.slice A0_1 l0_1.length c0_1,.slice A0_2 l0_2.length c0_2,.int .i64 a0_3,.int .i64 a0_4,.string a0_5]) (t:=36) ?hr ?_;(case hd=>rfl);(case hg=>rfl);(case hr=>first|(go_simp;done)|(go_simp;rfl));intro gb235 hg w32 hbox hb;have BK235:=am_ (hbox);have GW235:=am_ ((ybsz_ hg:w.heap.size≤gb235));replace HB:=yst_ hb;clear hb hbox hg)|((with_reducible refine gate_dst (N:=3) rfl ?_);refine box_event ?hg (N:=3) ?hd (cs:= #[.slice A1_0 l1_0.length c1_0,.slice A1_1 l1_1.length c1_1,.slice A1_2 l1_2.length c1_2,.int .i64 a1_3,.int .i64 a1_4,.string a1_5]) (t:=36) ?hr ?_;(case hd=>rfl);(case hg=>rfl);(case hr=>first|(go_simp;done)|(go_simp;rfl));intro gb236 hg w33 hbox hb;have BK236:=am_ (hbox);have GW236:=am_ ((ybsz_ hg:w.heap.size≤gb236));replace HB:=yst_ hb;have NB235_236:=am_ (ybne_ hg BK235);have NB236_235:=am_ ((ybne_ hg BK235).symm);replace BK235:=am_ (ybb_ BK235 hb);clear hb hbox hg;have hnb34:=NB235_236.out;have hnc34:=NB236_235.out;have hcz35:=ye6_ BK235;have hfz35:=yf6_ BK235;have hcz36:=ye6_ BK236;have hfz36:=yf6_ BK236)|((with_reducible refine gate_callee (f:=29) rfl ?_);refine goesL_ (some 9) rfl rfl Tryz.func29 (by kernel_rfl) rfl #[.slice A0_0 l0_0.length c0_0,.slice A1_0 l1_0.length c1_0] rfl yk1_ ?_;(with_reducible refine(laws_eqIntS.calls k _ _ l0_0 _ _ l1_0 true _ ?s1 HC0_0.out ?s3 HC1_0.out A3.out).mono ?_);(case s1=>exact ycb_ HR0_0 HB);(case s3=>exact ycb_ HR1_0 HB);rintro e w' ⟨rfl,⟨nd,rfl⟩⟩;refine⟨_,rfl,?_⟩)|((with_reducible refine gate_callee (f:=29) rfl ?_);refine goesL_ (some 15) rfl rfl Tryz.func29 (by kernel_rfl) rfl #[.slice A0_1 l0_1.length c0_1,.slice A1_1 l1_1.length c1_1] rfl yk1_ ?_;(with_reducible refine(laws_eqIntS.calls k _ _ l0_1 _ _ l1_1 true _ ?s1 HC0_1.out ?s3 HC1_1.out A5.out).mono ?_);(case s1=>exact yscq_ HR0_1);(case s3=>exact yscq_ HR1_1);rintro e w' ⟨rfl,⟨nd,rfl⟩⟩;refine⟨_,rfl,?_⟩)|((with_reducible refine gate_callee (f:=29) rfl ?_);refine goesL_ (some 21) rfl rfl Tryz.func29 (by kernel_rfl) rfl #[.slice A0_2 l0_2.length c0_2,.slice A1_2 l1_2.length c1_2] rfl yk1_ ?_;(with_reducible refine(laws_eqIntS.calls k _ _ l0_2 _ _ l1_2 false _ ?s1 HC0_2.out ?s3 HC1_2.out A7.out).mono ?_);(case s1=>exact yscq_ HR0_2);(case s3=>exact yscq_ HR1_2);rintro e w' ⟨rfl,⟨nd,rfl⟩⟩;refine⟨_,rfl,?_⟩));go_ret;exact⟨yk0_,ybl_⟩
  ·replace c6:=bf.mpr c6;subst c6;rw [if_neg (show¬(false=true) by decide)]at H;obtain rfl:=Option.some.inj H;go_enter Tryz.func30,Tryz.ntmps30;go_wp2_with (first|((with_reducible refine gate_dst (N:=2) rfl ?_);refine box_event ?hg (N:=2) ?hd (cs:= #[.slice A0_0 l0_0.length c0_0,.slice A0_1 l0_1.length c0_1,.slice A0_2 l0_2.length c0_2,.int .i64 a0_3,.int .i64 a0_4,.string a0_5]) (t:=36) ?hr ?_;(case hd=>rfl);(case hg=>rfl);(case hr=>first|(go_simp;done)|(go_simp;rfl));intro gb235 hg w37 hbox hb;have BK235:=am_ (hbox);have GW235:=am_ ((ybsz_ hg:w.heap.size≤gb235));replace HB:=yst_ hb;clear hb hbox hg)|((with_reducible refine gate_dst (N:=3) rfl ?_);refine box_event ?hg (N:=3) ?hd (cs:= #[.slice A1_0 l1_0.length c1_0,.slice A1_1 l1_1.length c1_1,.slice A1_2 l1_2.length c1_2,.int .i64 a1_3,.int .i64 a1_4,.string a1_5]) (t:=36) ?hr ?_;(case hd=>rfl);(case hg=>rfl);(case hr=>first|(go_simp;done)|(go_simp;rfl));intro gb236 hg w38 hbox hb;have BK236:=am_ (hbox);have GW236:=am_ ((ybsz_ hg:w.heap.size≤gb236));replace HB:=yst_ hb;have NB235_236:=am_ (ybne_ hg BK235);have NB236_235:=am_ ((ybne_ hg BK235).symm);replace BK235:=am_ (ybb_ BK235 hb);clear hb hbox hg;have hnb39:=NB235_236.out;have hnc39:=NB236_235.out;have hcz40:=ye6_ BK235;have hfz40:=yf6_ BK235;have hcz41:=ye6_ BK236;have hfz41:=yf6_ BK236)|((with_reducible refine gate_callee (f:=29) rfl ?_);refine goesL_ (some 9) rfl rfl Tryz.func29 (by kernel_rfl) rfl #[.slice A0_0 l0_0.length c0_0,.slice A1_0 l1_0.length c1_0] rfl yk1_ ?_;(with_reducible refine(laws_eqIntS.calls k _ _ l0_0 _ _ l1_0 true _ ?s1 HC0_0.out ?s3 HC1_0.out A3.out).mono ?_);(case s1=>exact ycb_ HR0_0 HB);(case s3=>exact ycb_ HR1_0 HB);rintro e w' ⟨rfl,⟨nd,rfl⟩⟩;refine⟨_,rfl,?_⟩)|((with_reducible refine gate_callee (f:=29) rfl ?_);refine goesL_ (some 15) rfl rfl Tryz.func29 (by kernel_rfl) rfl #[.slice A0_1 l0_1.length c0_1,.slice A1_1 l1_1.length c1_1] rfl yk1_ ?_;(with_reducible refine(laws_eqIntS.calls k _ _ l0_1 _ _ l1_1 false _ ?s1 HC0_1.out ?s3 HC1_1.out A5.out).mono ?_);(case s1=>exact yscq_ HR0_1);(case s3=>exact yscq_ HR1_1);rintro e w' ⟨rfl,⟨nd,rfl⟩⟩;refine⟨_,rfl,?_⟩));go_ret;exact⟨yk0_,ybl_⟩
 ·replace c4:=bf.mpr c4;subst c4;rw [if_neg (show¬(false=true) by decide)]at H;obtain rfl:=Option.some.inj H;go_enter Tryz.func30,Tryz.ntmps30;go_wp2_with (first|((with_reducible refine gate_dst (N:=2) rfl ?_);refine box_event ?hg (N:=2) ?hd (cs:= #[.slice A0_0 l0_0.length c0_0,.slice A0_1 l0_1.length c0_1,.slice A0_2 l0_2.length c0_2,.int .i64 a0_3,.int .i64 a0_4,.string a0_5]) (t:=36) ?hr ?_;(case hd=>rfl);(case hg=>rfl);(case hr=>first|(go_simp;done)|(go_simp;rfl));intro gb235 hg w42 hbox hb;have BK235:=am_ (hbox);have GW235:=am_ ((ybsz_ hg:w.heap.size≤gb235));replace HB:=yst_ hb;clear hb hbox hg)|((with_reducible refine gate_dst (N:=3) rfl ?_);refine box_event ?hg (N:=3) ?hd (cs:= #[.slice A1_0 l1_0.length c1_0,.slice A1_1 l1_1.length c1_1,.slice A1_2 l1_2.length c1_2,.int .i64 a1_3,.int .i64 a1_4,.string a1_5]) (t:=36) ?hr ?_;(case hd=>rfl);(case hg=>rfl);(case hr=>first|(go_simp;done)|(go_simp;rfl));intro gb236 hg w43 hbox hb;have BK236:=am_ (hbox);have GW236:=am_ ((ybsz_ hg:w.heap.size≤gb236));replace HB:=yst_ hb;have NB235_236:=am_ (ybne_ hg BK235);have NB236_235:=am_ ((ybne_ hg BK235).symm);replace BK235:=am_ (ybb_ BK235 hb);clear hb hbox hg;have hnb44:=NB235_236.out;have hnc44:=NB236_235.out;have hcz45:=ye6_ BK235;have hfz45:=yf6_ BK235;have hcz46:=ye6_ BK236;have hfz46:=yf6_ BK236)|((with_reducible refine gate_callee (f:=29) rfl ?_);refine goesL_ (some 9) rfl rfl Tryz.func29 (by kernel_rfl) rfl #[.slice A0_0 l0_0.length c0_0,.slice A1_0 l1_0.length c1_0] rfl yk1_ ?_;(with_reducible refine(laws_eqIntS.calls k _ _ l0_0 _ _ l1_0 false _ ?s1 HC0_0.out ?s3 HC1_0.out A3.out).mono ?_);(case s1=>exact ycb_ HR0_0 HB);(case s3=>exact ycb_ HR1_0 HB);rintro e w' ⟨rfl,⟨nd,rfl⟩⟩;refine⟨_,rfl,?_⟩));go_ret;exact⟨yk0_,ybl_⟩

/-! ### laws_eqBoolS: function 61 -/
def laws_eqBoolS.l0:Nat→List Bool→List Bool→Int→Option (Bool)
 |0,_,_,_=>none
 |k+1,x0,x1,x5=>if x5<(x0.length:Int)then(if 0≤x5 then(if x5<(x1.length:Int)then(if((rdOf false x0 x5) !=(rdOf false x1 x5))=true then(some false)else(laws_eqBoolS.l0 k x0 x1 (wrap64 (x5+1))))else(none))else(none))else(some true)
def laws_eqBoolS.f (k:Nat) (l0 l1:List Bool):Option (Bool):=if(l0.length:Int)=(l1.length:Int)then(laws_eqBoolS.l0 k l0 l1 0)else(some false)
theorem laws_eqBoolS.mono_l: ∀k,(∀y0 y1 y2,LeO (laws_eqBoolS.l0 k y0 y1 y2) (laws_eqBoolS.l0 (k+1) y0 y1 y2))
 |0=>fun _ _ _ r h=>by simp [laws_eqBoolS.l0]at h
 |k+1=>by
  have ih0:=laws_eqBoolS.mono_l k
  ·intro y0 y1 y2;unfold laws_eqBoolS.l0;repeat' first
   |(with_reducible first|apply ih0|exact LeO.refl _|exact LeO.none _|refine LeO.ite ?_ ?_|refine LeO.bind ?_ (fun _=> ?_))
   |apply ih0|exact LeO.none _|refine LeO.ite ?_ ?_|refine LeO.bind ?_ (fun _=> ?_)
theorem laws_eqBoolS.mono: ∀a0 a1 k,LeO (laws_eqBoolS.f k a0 a1) (laws_eqBoolS.f (k+1) a0 a1):=by
 intro a0 a1 k;have ih0:=laws_eqBoolS.mono_l k;unfold laws_eqBoolS.f;repeat' first
 |(with_reducible first|apply ih0|exact LeO.refl _|exact LeO.none _|refine LeO.ite ?_ ?_|refine LeO.bind ?_ (fun _=> ?_))
 |apply ih0|exact LeO.none _|refine LeO.ite ?_ ?_|refine LeO.bind ?_ (fun _=> ?_)
theorem laws_eqBoolS.calls (k:Nat) A0 c0 l0 A1 c1 l1 (r:Bool) (w:World) (hr0:Kd.C Kd.bool w A0 l0.length l0) (hc0:l0.length≤c0) (hr1:Kd.C Kd.bool w A1 l1.length l1) (hc1:l1.length≤c1) (h:laws_eqBoolS.f k l0 l1=some r):
  Calls Tryz.prog 61 #[.slice A0 l0.length c0,.slice A1 l1.length c1] w fun e w'=>e= .returned (.bool r)∧Drawn0 w w':=by
 have HR0:=am_ hr0;have HC0:=am_ hc0;clear hr0 hc0;have HR1:=am_ hr1;have HC1:=am_ hc1;clear hr1 hc1;have H:=h;clear h;rw [laws_eqBoolS.f]at H;by_cases c3:(l0.length:Int)=(l1.length:Int)
 ·rw [if_pos c3]at H;have c3b0:((l0.length:Int)==(l1.length:Int))=true:=beq_iff_eq.mpr c3;have c3b1:((l0.length:Int) !=(l1.length:Int))=false:=bne_eq_false_iff_eq.mpr c3;have c3b2:(l0.length==l1.length)=true:=by first|simpa using c3|(simp at c3⊢;omega)
  clear c3;have H':=am_ H;clear H;go_enter Tryz.func61,Tryz.ntmps61;go_wp2;repeat(go_quiet (fail);try go_wp2)
  go_loopg [5] k (fun kq v5 w'=> ∃(x5_1:Int),v5= .int .i64 x5_1∧Aside0 (laws_eqBoolS.l0 kq l0 l1 x5_1=some r)∧Aside0 (kq≤k)∧Drawn0 w w')
  case atStart=>exact⟨(0),(by first|rfl|(simp;done)|(simp [*];done)),H',⟨Nat.le_refl _⟩,by repeat(first|exact Drawn0.refl _|apply Drawn0.step)⟩
  case round=>
   clear H';try clear c1
   try clear p2
   try clear c3
   try clear c3b0
   try clear c3b1
   try clear c3b2
   obtain⟨x5_1,rfl,HA,HK1,⟨m1,rfl⟩⟩:=hrel;cases gk with
   |zero=>exact absurd HA.out (by simp [laws_eqBoolS.l0])
   |succ k1=>
    have H:=HA.out;clear HA;simp only [laws_eqBoolS.l0]at H;by_cases c4:x5_1<(l0.length:Int)
    ·rw [if_pos c4]at H;have c4b0:decide (x5_1<(l0.length:Int))=true:=decide_eq_true c4;clear c4;by_cases c5:0≤x5_1
     ·rw [if_pos c5]at H;have c5b0:decide (0≤x5_1)=true:=decide_eq_true c5;clear c5;by_cases c6:x5_1<(l1.length:Int)
      ·rw [if_pos c6]at H;have c6b0:decide (x5_1<(l1.length:Int))=true:=decide_eq_true c6;clear c6;by_cases c7:((rdOf false l0 x5_1) !=(rdOf false l1 x5_1))=true
       ·rw [if_pos c7]at H;have c7b0:((rdOf false l0 x5_1) !=(rdOf false l1 x5_1))=true:=c7;(try(have c7b1:decide ((rdOf false l0 x5_1)=(rdOf false l1 x5_1))=false:=by simpa using c7));(try(have c7b2:((rdOf false l0 x5_1)==(rdOf false l1 x5_1))=false:=by simpa using c7));(try(have c7b3: ¬((rdOf false l0 x5_1)=(rdOf false l1 x5_1)):=by simpa using c7));clear c7;obtain rfl:=Option.some.inj H;have p240:0≤(x5_1:Int):=of_decide_eq_true yqv12_;have q240:x5_1<(l0.length:Int):=of_decide_eq_true yqv12_;obtain⟨ad240,e240,hx240_0⟩:=Kd.at_bool HR0.out x5_1 p240 q240;cases e240;replace p240:=eq_true p240;replace q240:=eq_true q240;have p241:0≤(x5_1:Int):=of_decide_eq_true yqv12_;have q241:x5_1<(l1.length:Int):=of_decide_eq_true yqv12_;obtain⟨ad241,e241,hx241_0⟩:=Kd.at_bool HR1.out x5_1 p241 q241;cases e241;replace p241:=eq_true p241;replace q241:=eq_true q241;go_wp2;repeat(go_quiet (fail);try go_wp2)
        go_ret
        exact⟨by first|rfl|(simp;done)|(simp [*];done),by repeat(first|exact Drawn0.refl _|apply Drawn0.step)⟩
       ·rw [if_neg c7]at H;have c7b0:((rdOf false l0 x5_1) !=(rdOf false l1 x5_1))=false:=by simpa using c7
        (try(have c7b1:decide ((rdOf false l0 x5_1)=(rdOf false l1 x5_1))=true:=by simpa using c7));(try(have c7b2:((rdOf false l0 x5_1)==(rdOf false l1 x5_1))=true:=by simpa using c7));clear c7;have H':=am_ H;clear H;have p240:0≤(x5_1:Int):=of_decide_eq_true yqv12_;have q240:x5_1<(l0.length:Int):=of_decide_eq_true yqv12_;obtain⟨ad240,e240,hx240_0⟩:=Kd.at_bool HR0.out x5_1 p240 q240;cases e240;replace p240:=eq_true p240;replace q240:=eq_true q240;have p241:0≤(x5_1:Int):=of_decide_eq_true yqv12_;have q241:x5_1<(l1.length:Int):=of_decide_eq_true yqv12_;obtain⟨ad241,e241,hx241_0⟩:=Kd.at_bool HR1.out x5_1 p241 q241;cases e241;replace p241:=eq_true p241;replace q241:=eq_true q241;go_wp2;repeat(go_quiet (fail);try go_wp2)
        go_roundg k1
        case measure=>have:=HK1.out;omega
        case rel=>exact⟨(wrap64 (x5_1+1)),(by first|rfl|(simp;done)|(simp [*];done)),H',⟨by have:=HK1.out;omega⟩,by repeat(first|exact Drawn0.refl _|apply Drawn0.step)⟩
      ·rw [if_neg c6]at H;exact absurd H (by simp)
     ·rw [if_neg c5]at H;exact absurd H (by simp)
    ·rw [if_neg c4]at H;have c4b0:decide (x5_1<(l0.length:Int))=false:=decide_eq_false c4;clear c4;obtain rfl:=Option.some.inj H;go_wp2;repeat(go_quiet (fail);try go_wp2)
     go_ret
     exact⟨by first|rfl|(simp;done)|(simp [*];done),by repeat(first|exact Drawn0.refl _|apply Drawn0.step)⟩
 ·rw [if_neg c3]at H;have c3b0:((l0.length:Int)==(l1.length:Int))=false:=beq_eq_false_iff_ne.mpr c3;have c3b1:((l0.length:Int) !=(l1.length:Int))=true:=bne_iff_ne.mpr c3;have c3b2:(l0.length==l1.length)=false:=by first|simpa using c3|(simp at c3⊢;omega)
  obtain rfl:=Option.some.inj H;go_enter Tryz.func61,Tryz.ntmps61;go_wp2;repeat(go_quiet (fail);try go_wp2)
  go_ret
  exact⟨by first|rfl|(simp;done)|(simp [*];done),by repeat(first|exact Drawn0.refl _|apply Drawn0.step)⟩

end Go.Proofs.YtmjkehfbgaafjaaGreatDoor.PSM
