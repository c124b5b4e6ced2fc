-- laid by a program of this session out of the translation's own print: Lean checks it
import Derived.Test.YthmcanjeeljnhaaPTJx0
import Derived.Test.YthmcanjeeljnhaaPTJx5
namespace Go.Proofs.Ythmcanjeeljnhaa.PTJ
open Go.RowKit Go.Proofs.YthmcanjeeljnhaaW.PrintWords Go.Proofs.YthmcanjeeljnhaaW.PrintLast Go.Proofs.YthmcanjeeljnhaaW.PrintMore
attribute [local go_sem] max2_int min2_int max_two min_two max_three min_three max_four min_four -- for this text's walks alone
set_option linter.unusedVariables false
set_option maxHeartbeats 8000000
set_option maxRecDepth 100000
set_option linter.unusedSimpArgs false

theorem C_kept_not {w:World} {S:Nat→Prop} {A:Option Addr} {n:Nat} {xs:List S53} (h: ∀W',Kept w W' S→Kd.C k53 W' A n xs) (i:Int) (h0:0≤i) (h1:i<n) {ad:Addr} (ha:A=some ad): ¬S ad.block:=by
 intro hS;obtain⟨ad0,A2,c2,A3,c3,e0, -,hx, -⟩:=at_T53 (h w (Kept.refl w S)) i h0 h1;obtain rfl:ad=ad0:=by rw [ha]at e0;exact Option.some.inj e0
 have hlt:ad.block<w.heap.size:=by have:=World.block_lt_of_cell? w _ hx;first|rwa [add_block]at this|exact this
 have hk:Kept w {w with heap:=w.heap.setIfInBounds ad.block (.cells #[] 0 (0,0))} S:=⟨by simp,fun j hj hn=>by
  show (w.heap.setIfInBounds ad.block _)[j]?=w.heap[j]?
  exact Array.getElem?_setIfInBounds_ne (fun e=>hn (by rw [←e];exact hS))⟩
 obtain⟨ad1,B2,d2,B3,d3,e1, -,hy, -⟩:=at_T53 (h _ hk) i h0 h1;obtain rfl:ad=ad1:=by rw [ha]at e1;exact Option.some.inj e1
 have hb:({w with heap:=w.heap.setIfInBounds ad.block (.cells #[] 0 (0,0))}:World).heap[ad.block]?=some (.cells #[] 0 (0,0)):=by
  show (w.heap.setIfInBounds ad.block _)[ad.block]?=_
  exact Array.getElem?_setIfInBounds_self_of_lt hlt
 rw [add_block]at hy;rw [blk_cell hb]at hy;simp at hy
theorem at_T53_kept {w W:World} {S:Nat→Prop} {A:Option Addr} {n:Nat} {xs:List S53} (h: ∀W',Kept w W' S→Kd.C k53 W' A n xs) (hk:Kept w W S) (i:Int) (h0:0≤i) (h1:i<n): ∃ad A2 c2 A3 c3,A=some ad∧W.cell? (ad.add (i.toNat*4))=some (.int .i64 (rd_T53 xs i).f0)∧W.cell? ⟨(ad.add (i.toNat*4)).block,(ad.add (i.toNat*4)).off+1,none⟩=some (.int .i64 (rd_T53 xs i).f1)∧W.cell? ⟨(ad.add (i.toNat*4)).block,(ad.add (i.toNat*4)).off+2,none⟩=some (.slice A2 (rd_T53 xs i).f2.length c2)∧W.cell? ⟨(ad.add (i.toNat*4)).block,(ad.add (i.toNat*4)).off+3,none⟩=some (.slice A3 (rd_T53 xs i).f3.length c3)∧(rd_T53 xs i).f2.length≤c2∧k53.C W A2 (rd_T53 xs i).f2.length (rd_T53 xs i).f2∧(rd_T53 xs i).f3.length≤c3∧k53.C W A3 (rd_T53 xs i).f3.length (rd_T53 xs i).f3∧(∀W',Kept w W' S→Kd.C k53 W' A2 (rd_T53 xs i).f2.length (rd_T53 xs i).f2)∧(∀W',Kept w W' S→Kd.C k53 W' A3 (rd_T53 xs i).f3.length (rd_T53 xs i).f3):=by
 obtain⟨ad,A2,c2,A3,c3,e0,x0,x1,x2,x3,l2,i2,l3,i3⟩:=at_T53 (h w (Kept.refl w S)) i h0 h1;have hn:=C_kept_not h i h0 h1 e0;have both: ∀W',Kept w W' S→k53.C W' A2 (rd_T53 xs i).f2.length (rd_T53 xs i).f2∧k53.C W' A3 (rd_T53 xs i).f3.length (rd_T53 xs i).f3:=fun W' hk'=>by
  obtain⟨ad1,B2,d2,B3,d3,e1, -, -,y2,y3, -,j2, -,j3⟩:=at_T53 (h W' hk') i h0 h1;obtain rfl:ad=ad1:=by rw [e0]at e1;exact Option.some.inj e1
  have z2:=cell_kept x2 hk' (show¬S (ad.add (i.toNat*4)).block by rw [add_block];exact hn);have z3:=cell_kept x3 hk' (show¬S (ad.add (i.toNat*4)).block by rw [add_block];exact hn);rw [y2]at z2;rw [y3]at z3;injection z2 with z2
  injection z3 with z3
  injection z2 with z2
  injection z3 with z3
  subst z2 z3;exact⟨j2,j3⟩
 exact⟨ad,A2,c2,A3,c3,e0,cell_kept x0 hk (by rw [add_block];exact hn),cell_kept x1 hk (show¬S (ad.add (i.toNat*4)).block by rw [add_block];exact hn),cell_kept x2 hk (show¬S (ad.add (i.toNat*4)).block by rw [add_block];exact hn),cell_kept x3 hk (show¬S (ad.add (i.toNat*4)).block by rw [add_block];exact hn),l2,(both W hk).1,l3,(both W hk).2,fun W' h'=>(both W' h').1,fun W' h'=>(both W' h').2⟩
/-! ### impl_Node_flatten: function 43 -/
/-! ### impl_flatten: function 30 -/
mutual
def impl_Node_flatten.j1:Nat→List (S44)→Int→Int→Int→Int→Int→Int→List (S53)→List (S53)→Option ((List (S44)) × Bool)
 |0,_,_,_,_,_,_,_,_,_=>none
 |k+1,x1,x2,x8,x9,x10,x650000,x650001,x650002,x650003=>if x650001=0 then(if x9=0 then(impl_Node_flatten.j2 k x1 x2 x8 x9 x10 (decide ((x650003.length:Int)>0)) x650000 x650001 x650002 x650003)else(impl_Node_flatten.j2 k x1 x2 x8 x9 x10 false x650000 x650001 x650002 x650003))else(if x650000=3 then(if x650001=1 then(if x9=0 then(impl_Node_flatten.j2 k x1 x2 x8 x9 x10 (decide ((x650003.length:Int)>0)) x650000 x650001 x650002 x650003)else(impl_Node_flatten.j2 k x1 x2 x8 x9 x10 false x650000 x650001 x650002 x650003))else(impl_Node_flatten.j2 k x1 x2 x8 x9 x10 true x650000 x650001 x650002 x650003))else(impl_Node_flatten.j2 k x1 x2 x8 x9 x10 true x650000 x650001 x650002 x650003))
def impl_Node_flatten.j2:Nat→List (S44)→Int→Int→Int→Int→Bool→Int→Int→List (S53)→List (S53)→Option ((List (S44)) × Bool)
 |0,_,_,_,_,_,_,_,_,_,_=>none
 |k+1,x1,x2,x8,x9,x10,x78,x650000,x650001,x650002,x650003=>if x78=true then(some (([]:List (S44)),false))else(if x1.length<8796093022208 then((impl_flatten.f k (x1++ [(⟨x8,0⟩:S44)]) x650002 (wrap64 (x2+1))).bind fun bt658=>(if bt658.2=true then(if x9>0 then(if bt658.1.length<8796093022208 then((impl_flatten.f k (bt658.1++ [(⟨x9,0⟩:S44)]) x650003 (wrap64 (x2+1))).bind fun bt665=>(if bt665.1.length<8796093022208 then(some ((bt665.1++ [(⟨x10,0⟩:S44)]),bt665.2))else(none)))else(none))else(if bt658.1.length<8796093022208 then(some ((bt658.1++ [(⟨x10,0⟩:S44)]),bt658.2))else(none)))else(some (([]:List (S44)),false))))else(none))
def impl_Node_flatten.j0:Nat→List (S44)→Int→Int→Int→Bool→Int→Int→List (S53)→List (S53)→Option ((List (S44)) × Bool)
 |0,_,_,_,_,_,_,_,_,_=>none
 |k+1,x1,x2,x9,x14,x15,x650000,x650001,x650002,x650003=>if x15=true then(if x1.length<8796093022208 then((some (x1++ [(⟨x650000,x650001⟩:S44)]:List (S44))).bind fun y651=>((impl_ItemOK.f x650000 x650001).bind fun t654=>(if t654=true then(if(x650002.length:Int)=0 then(some (y651,((x650003.length:Int)==0)))else(some (y651,false)))else(some (y651,false)))))else(none))else(if x14=3 then(if x650001=1 then(impl_Node_flatten.j1 k x1 x2 3 4 5 x650000 x650001 x650002 x650003)else(impl_Node_flatten.j1 k x1 x2 3 x9 5 x650000 x650001 x650002 x650003))else(if x14=7 then(impl_Node_flatten.j1 k x1 x2 6 x9 7 x650000 x650001 x650002 x650003)else(if x14=8 then(impl_Node_flatten.j1 k x1 x2 6 8 9 x650000 x650001 x650002 x650003)else(if x14=11 then(impl_Node_flatten.j1 k x1 x2 10 x9 x650000 x650000 x650001 x650002 x650003)else(if x14=12 then(impl_Node_flatten.j1 k x1 x2 10 x9 x650000 x650000 x650001 x650002 x650003)else(some (([]:List (S44)),false)))))))
def impl_Node_flatten.f:Nat→Int→Int→List (S53)→List (S53)→List (S44)→Int→Option ((List (S44)) × Bool)
 |0,_,_,_,_,_,_=>none
 |k+1,a0_0,a0_1,l0_2,l0_3,l1,a2=>if a0_0=1 then(impl_Node_flatten.j0 k l1 a2 0 a0_0 (a0_0==1) a0_0 a0_1 l0_2 l0_3)else(if a0_0=2 then(impl_Node_flatten.j0 k l1 a2 0 a0_0 (a0_0==2) a0_0 a0_1 l0_2 l0_3)else(impl_Node_flatten.j0 k l1 a2 0 a0_0 (a0_0==13) a0_0 a0_1 l0_2 l0_3))
def impl_flatten.l0:Nat→List (S44)→Int→List (S53)→Int→Int→Option ((List (S44)) × Bool)
 |0,_,_,_,_,_=>none
 |k+1,x0,x2,x14,x15,x16=>if x16<x15 then(if 0≤x16 then(if x16<(x14.length:Int)then((impl_Node_flatten.f k ((rd_T53 x14 x16).f0) ((rd_T53 x14 x16).f1) ((rd_T53 x14 x16).f2) ((rd_T53 x14 x16).f3) x0 x2).bind fun bt677=>(if bt677.2=true then(if(bt677.1.length:Int)>60 then(some (([]:List (S44)),false))else(impl_flatten.l0 k bt677.1 x2 x14 x15 (wrap64 (x16+1))))else(some (([]:List (S44)),false))))else(none))else(none))else(some (x0,true))
def impl_flatten.f:Nat→List (S44)→List (S53)→Int→Option ((List (S44)) × Bool)
 |0,_,_,_=>none
 |k+1,l0,l1,a2=>if a2>9 then(some (([]:List (S44)),false))else(impl_flatten.l0 k l0 a2 l1 (l1.length:Int) 0)
end
theorem impl_Node_flatten.mono_j: ∀k,(∀y0 y1 y2 y3 y4 y5,LeO (impl_Node_flatten.f k y0 y1 y2 y3 y4 y5) (impl_Node_flatten.f (k+1) y0 y1 y2 y3 y4 y5))∧(∀y0 y1 y2 y3 y4 y5 y6 y7 y8,LeO (impl_Node_flatten.j1 k y0 y1 y2 y3 y4 y5 y6 y7 y8) (impl_Node_flatten.j1 (k+1) y0 y1 y2 y3 y4 y5 y6 y7 y8))∧(∀y0 y1 y2 y3 y4 y5 y6 y7 y8 y9,LeO (impl_Node_flatten.j2 k y0 y1 y2 y3 y4 y5 y6 y7 y8 y9) (impl_Node_flatten.j2 (k+1) y0 y1 y2 y3 y4 y5 y6 y7 y8 y9))∧(∀y0 y1 y2 y3 y4 y5 y6 y7 y8,LeO (impl_Node_flatten.j0 k y0 y1 y2 y3 y4 y5 y6 y7 y8) (impl_Node_flatten.j0 (k+1) y0 y1 y2 y3 y4 y5 y6 y7 y8))∧(∀y0 y1 y2,LeO (impl_flatten.f k y0 y1 y2) (impl_flatten.f (k+1) y0 y1 y2))∧(∀y0 y1 y2 y3 y4,LeO (impl_flatten.l0 k y0 y1 y2 y3 y4) (impl_flatten.l0 (k+1) y0 y1 y2 y3 y4))
 |0=>⟨fun _ _ _ _ _ _ r h=>by simp [impl_Node_flatten.f]at h,fun _ _ _ _ _ _ _ _ _ r h=>by simp [impl_Node_flatten.j1]at h,fun _ _ _ _ _ _ _ _ _ _ r h=>by simp [impl_Node_flatten.j2]at h,fun _ _ _ _ _ _ _ _ _ r h=>by simp [impl_Node_flatten.j0]at h,fun _ _ _ r h=>by simp [impl_flatten.f]at h,fun _ _ _ _ _ r h=>by simp [impl_flatten.l0]at h⟩
 |k+1=>by
  obtain⟨ih0,ih1,ih2,ih3,ih4,ih5⟩:=impl_Node_flatten.mono_j k;refine⟨?_,?_,?_,?_,?_,?_⟩
  ·intro y0 y1 y2 y3 y4 y5;unfold impl_Node_flatten.f;repeat' first
   |(with_reducible first|apply ih0|apply ih1|apply ih2|apply ih3|apply ih4|apply ih5|exact LeO.refl _|exact LeO.none _|refine LeO.ite ?_ ?_|refine LeO.bind ?_ (fun _=> ?_))
   |apply ih0|apply ih1|apply ih2|apply ih3|apply ih4|apply ih5|exact LeO.none _|refine LeO.ite ?_ ?_|refine LeO.bind ?_ (fun _=> ?_)
  ·intro y0 y1 y2 y3 y4 y5 y6 y7 y8;unfold impl_Node_flatten.j1;repeat' first
   |(with_reducible first|apply ih0|apply ih1|apply ih2|apply ih3|apply ih4|apply ih5|exact LeO.refl _|exact LeO.none _|refine LeO.ite ?_ ?_|refine LeO.bind ?_ (fun _=> ?_))
   |apply ih0|apply ih1|apply ih2|apply ih3|apply ih4|apply ih5|exact LeO.none _|refine LeO.ite ?_ ?_|refine LeO.bind ?_ (fun _=> ?_)
  ·intro y0 y1 y2 y3 y4 y5 y6 y7 y8 y9;unfold impl_Node_flatten.j2;repeat' first
   |(with_reducible first|apply ih0|apply ih1|apply ih2|apply ih3|apply ih4|apply ih5|exact LeO.refl _|exact LeO.none _|refine LeO.ite ?_ ?_|refine LeO.bind ?_ (fun _=> ?_))
   |apply ih0|apply ih1|apply ih2|apply ih3|apply ih4|apply ih5|exact LeO.none _|refine LeO.ite ?_ ?_|refine LeO.bind ?_ (fun _=> ?_)
  ·intro y0 y1 y2 y3 y4 y5 y6 y7 y8;unfold impl_Node_flatten.j0;repeat' first
   |(with_reducible first|apply ih0|apply ih1|apply ih2|apply ih3|apply ih4|apply ih5|exact LeO.refl _|exact LeO.none _|refine LeO.ite ?_ ?_|refine LeO.bind ?_ (fun _=> ?_))
   |apply ih0|apply ih1|apply ih2|apply ih3|apply ih4|apply ih5|exact LeO.none _|refine LeO.ite ?_ ?_|refine LeO.bind ?_ (fun _=> ?_)
  ·intro y0 y1 y2;unfold impl_flatten.f;repeat' first
   |(with_reducible first|apply ih0|apply ih1|apply ih2|apply ih3|apply ih4|apply ih5|exact LeO.refl _|exact LeO.none _|refine LeO.ite ?_ ?_|refine LeO.bind ?_ (fun _=> ?_))
   |apply ih0|apply ih1|apply ih2|apply ih3|apply ih4|apply ih5|exact LeO.none _|refine LeO.ite ?_ ?_|refine LeO.bind ?_ (fun _=> ?_)
  ·intro y0 y1 y2 y3 y4;unfold impl_flatten.l0;repeat' first
   |(with_reducible first|apply ih0|apply ih1|apply ih2|apply ih3|apply ih4|apply ih5|exact LeO.refl _|exact LeO.none _|refine LeO.ite ?_ ?_|refine LeO.bind ?_ (fun _=> ?_))
   |apply ih0|apply ih1|apply ih2|apply ih3|apply ih4|apply ih5|exact LeO.none _|refine LeO.ite ?_ ?_|refine LeO.bind ?_ (fun _=> ?_)
theorem impl_Node_flatten.mono_l: ∀k,(∀y0 y1 y2 y3 y4 y5,LeO (impl_Node_flatten.f k y0 y1 y2 y3 y4 y5) (impl_Node_flatten.f (k+1) y0 y1 y2 y3 y4 y5))∧(∀y0 y1 y2 y3 y4 y5 y6 y7 y8,LeO (impl_Node_flatten.j1 k y0 y1 y2 y3 y4 y5 y6 y7 y8) (impl_Node_flatten.j1 (k+1) y0 y1 y2 y3 y4 y5 y6 y7 y8))∧(∀y0 y1 y2 y3 y4 y5 y6 y7 y8 y9,LeO (impl_Node_flatten.j2 k y0 y1 y2 y3 y4 y5 y6 y7 y8 y9) (impl_Node_flatten.j2 (k+1) y0 y1 y2 y3 y4 y5 y6 y7 y8 y9))∧(∀y0 y1 y2 y3 y4 y5 y6 y7 y8,LeO (impl_Node_flatten.j0 k y0 y1 y2 y3 y4 y5 y6 y7 y8) (impl_Node_flatten.j0 (k+1) y0 y1 y2 y3 y4 y5 y6 y7 y8)):=by
 intro k;obtain⟨i0,i1,i2,i3,i4,i5⟩:=impl_Node_flatten.mono_j k;exact⟨i0,i1,i2,i3⟩
theorem impl_Node_flatten.mono: ∀a0 a1 a2 a3 a4 a5 k,LeO (impl_Node_flatten.f k a0 a1 a2 a3 a4 a5) (impl_Node_flatten.f (k+1) a0 a1 a2 a3 a4 a5):=by
 intro a0 a1 a2 a3 a4 a5 k;obtain⟨i0,i1,i2,i3,i4,i5⟩:=impl_Node_flatten.mono_j k;exact i0 a0 a1 a2 a3 a4 a5
theorem impl_flatten.mono_l: ∀k,(∀y0 y1 y2,LeO (impl_flatten.f k y0 y1 y2) (impl_flatten.f (k+1) y0 y1 y2))∧(∀y0 y1 y2 y3 y4,LeO (impl_flatten.l0 k y0 y1 y2 y3 y4) (impl_flatten.l0 (k+1) y0 y1 y2 y3 y4)):=by
 intro k;obtain⟨i0,i1,i2,i3,i4,i5⟩:=impl_Node_flatten.mono_j k;exact⟨i4,i5⟩
theorem impl_flatten.mono: ∀a0 a1 a2 k,LeO (impl_flatten.f k a0 a1 a2) (impl_flatten.f (k+1) a0 a1 a2):=by
 intro a0 a1 a2 k;obtain⟨i0,i1,i2,i3,i4,i5⟩:=impl_Node_flatten.mono_j k;exact i4 a0 a1 a2
def impl_Node_flatten.T8:Bool × List (List Nat × List Nat):=(true,[([],[]),([],[]),([1],[1]),([0,2],[0,2]),([],[]),([4,3],[4]),([5,5],[5]),([6],[6]),([7,6],[6,7]),([8,6],[6,8]),([9,6],[6,9]),([6,10],[6,10]),([11,6],[11]),([12],[12]),([13,12],[12,13]),([14,12],[12,14]),([15,12],[12,15]),([12,16],[12,16]),([3,12,0,1,2,3],[3]),([17,18,0,1,2,3,4,5,6,7,8,9,10,11,12,13,14,15,16,17,18],[17])])
def impl_Node_flatten.B8:List Nat:= [0,0,2,7,0,31,63,127,255,511,1023,2047,4095,8191,16383,32767,65535,131071,8191,524287]
theorem impl_Node_flatten.tab8:rtab .any (opsOf Try.f43 8)=impl_Node_flatten.T8:=by kernel_rfl
theorem impl_Node_flatten.bits8:waitsOk impl_Node_flatten.T8.2 impl_Node_flatten.B8=true:=by kernel_rfl
def impl_Node_flatten.T22:Bool × List (List Nat × List Nat):=(true,[([],[]),([],[]),([1],[1]),([2],[2]),([0,3],[0,3]),([],[]),([5],[5]),([],[]),([7],[7]),([4,6,8,4],[4,6,8]),([9],[9]),([10],[10]),([10],[10]),([11,9,0,1,2,3,4,5,6,7,8,9,10,11],[0,11]),([12,13,0,1,2,3,4,5,6,7,8,9,10,11,12,13],[12])])
def impl_Node_flatten.B22:List Nat:= [0,0,2,6,15,0,32,0,128,511,1023,2047,2047,4095,16383]
theorem impl_Node_flatten.tab22:rtab .any (opsOf Try.f43 22)=impl_Node_flatten.T22:=by kernel_rfl
theorem impl_Node_flatten.bits22:waitsOk impl_Node_flatten.T22.2 impl_Node_flatten.B22=true:=by kernel_rfl
def impl_Node_flatten.T26:Bool × List (List Nat × List Nat):=(true,[([],[]),([],[]),([1],[1]),([2],[2]),([0,3],[0,3]),([],[]),([5],[5]),([],[]),([7],[7]),([4,6,8,4],[4,6,8]),([9],[9]),([10],[10]),([10],[10]),([11,9,0,1,2,3,4,5,6,7,8,9,10,11],[0,11]),([12,13,0,1,2,3,4,5,6,7,8,9,10,11,12,13],[12])])
def impl_Node_flatten.B26:List Nat:= [0,0,2,6,15,0,32,0,128,511,1023,2047,2047,4095,16383]
theorem impl_Node_flatten.tab26:rtab .any (opsOf Try.f43 26)=impl_Node_flatten.T26:=by kernel_rfl
theorem impl_Node_flatten.bits26:waitsOk impl_Node_flatten.T26.2 impl_Node_flatten.B26=true:=by kernel_rfl
theorem impl_Node_flatten.calls_ (k:Nat) (IHO: ∀m,m<k→ ∀(P0_:Nat→Prop) (u9000_:Value) (l0:List (S44)) (A1:Option Addr) (c1:Nat) (l1:List (S53)) (a2:Int) (r1:List (S44)) (r2:Bool) (w0 w:World) (hB:Below w0.heap.size w0 w) (ho0:Kd.R k44 44 w w0.heap.size P0_ u9000_ l0) (hr1: ∀W_,Kept w W_ (fun k_=>P0_ k_)→Kd.C k53 W_ A1 l1.length l1) (hc1:l1.length≤c1) (h:impl_flatten.f m l0 l1 a2=some (r1,r2)),
  Calls Try.prog 30 #[u9000_,.slice A1 l1.length c1,.int .i64 a2] w fun e w'=> ∃v0_:Value,e= .returned (.tuple #[v0_,.bool r2])∧Kd.R k44 44 w' w0.heap.size (fun k_=>(P0_ k_∨w.heap.size≤k_)) v0_ r1∧Below w0.heap.size w0 w'∧Kept w w' (fun k_=>P0_ k_)) (ih: ∀m,m<k→ ∀(a0_0:Int) (a0_1:Int) (A0_2:Option Addr) (c0_2:Nat) (l0_2:List (S53)) (A0_3:Option Addr) (c0_3:Nat) (l0_3:List (S53)) (P1_:Nat→Prop) (u9000_:Value) (l1:List (S44)) (a2:Int) (r1:List (S44)) (r2:Bool) (w0 w:World) (hB:Below w0.heap.size w0 w) (hr0_2: ∀W_,Kept w W_ (fun k_=>P1_ k_)→Kd.C k53 W_ A0_2 l0_2.length l0_2) (hc0_2:l0_2.length≤c0_2) (hr0_3: ∀W_,Kept w W_ (fun k_=>P1_ k_)→Kd.C k53 W_ A0_3 l0_3.length l0_3) (hc0_3:l0_3.length≤c0_3) (ho1:Kd.R k44 44 w w0.heap.size P1_ u9000_ l1) (h:impl_Node_flatten.f m a0_0 a0_1 l0_2 l0_3 l1 a2=some (r1,r2)),
  Calls Try.prog 43 #[.agg #[.int .i64 a0_0,.int .i64 a0_1,.slice A0_2 l0_2.length c0_2,.slice A0_3 l0_3.length c0_3],u9000_,.int .i64 a2] w fun e w'=> ∃v0_:Value,e= .returned (.tuple #[v0_,.bool r2])∧Kd.R k44 44 w' w0.heap.size (fun k_=>(P1_ k_∨w.heap.size≤k_)) v0_ r1∧Below w0.heap.size w0 w'∧Kept w w' (fun k_=>P1_ k_)): ∀(a0_0:Int) (a0_1:Int) (A0_2:Option Addr) (c0_2:Nat) (l0_2:List (S53)) (A0_3:Option Addr) (c0_3:Nat) (l0_3:List (S53)) (P1_:Nat→Prop) (u9000_:Value) (l1:List (S44)) (a2:Int) (r1:List (S44)) (r2:Bool) (w0 w:World) (hB:Below w0.heap.size w0 w) (hr0_2: ∀W_,Kept w W_ (fun k_=>P1_ k_)→Kd.C k53 W_ A0_2 l0_2.length l0_2) (hc0_2:l0_2.length≤c0_2) (hr0_3: ∀W_,Kept w W_ (fun k_=>P1_ k_)→Kd.C k53 W_ A0_3 l0_3.length l0_3) (hc0_3:l0_3.length≤c0_3) (ho1:Kd.R k44 44 w w0.heap.size P1_ u9000_ l1) (h:impl_Node_flatten.f k a0_0 a0_1 l0_2 l0_3 l1 a2=some (r1,r2)),
  Calls Try.prog 43 #[.agg #[.int .i64 a0_0,.int .i64 a0_1,.slice A0_2 l0_2.length c0_2,.slice A0_3 l0_3.length c0_3],u9000_,.int .i64 a2] w fun e w'=> ∃v0_:Value,e= .returned (.tuple #[v0_,.bool r2])∧Kd.R k44 44 w' w0.heap.size (fun k_=>(P1_ k_∨w.heap.size≤k_)) v0_ r1∧Below w0.heap.size w0 w'∧Kept w w' (fun k_=>P1_ k_):=by
 intro a0_0 a0_1 A0_2 c0_2 l0_2 A0_3 c0_3 l0_3 P1_ u9000_ l1 a2 r1 r2 w0 w hB hr0_2 hc0_2 hr0_3 hc0_3 ho1 h;cases k with
 |zero=>exact absurd h (by simp [impl_Node_flatten.f])
 |succ k=>
 simp only [impl_Node_flatten.f]at h;have hu53:=Try.underlying53;have hu44:=Try.underlying44;have HR0_2:=am_ hr0_2;have HC0_2:=am_ hc0_2;clear hr0_2 hc0_2;have HR0_3:=am_ hr0_3;have HC0_3:=am_ hc0_3;clear hr0_3 hc0_3;have HO1:=am_ (show Kd.R k44 44 w w0.heap.size (fun k_=>(P1_ k_∨w.heap.size≤k_)) u9000_ l1 from Kd.R_mono ho1 (fun k_ hk=>(.inl hk)));have HK:=am_ (Kept.refl w (fun k_=>P1_ k_));have HW0:=am_ hB.size;have HB:=am_ hB;clear hB;have H:=h;clear h;have HC4:=am_ H;clear H;go_enter Try.func43,Try.ntmps43;go_upto_block 0 with (first|((with_reducible refine gate_dst (N:=3) rfl ?_);(try(refine gate_guard (by rfl) ?_;dsimp only));refine box_event ?hg (N:=3) ?hd (cs:= #[.int .i64 a0_0,.int .i64 a0_1,.slice A0_2 l0_2.length c0_2,.slice A0_3 l0_3.length c0_3]) (t:=53) ?hr ?_;(case hd=>rfl);(case hg=>rfl);(case hr=>first|(go_simp;done)|(go_simp;rfl));intro gb649 hg w5 hbox hb;replace HO1:=am_ (Kd.R_below (yru_ HO1) hb);have BK649:=am_ (hbox);have GW649:=am_ ((by rw [hg];exact(by first|exact HK.out.1|exact(show Kept w _ (fun k_=>P1_ k_)from by repeat(first|(with_reducible first|exact HK.out|apply Kept.alloc|apply Kept.drewN|apply Kept.drew)|exact HK.out)).1):w.heap.size≤gb649));replace HK:=am_ (Kept.below (S:=(fun k_=>P1_ k_)) yqv3_ hb);have GE649:=am_ ((ybsz_ hg:w0.heap.size≤gb649));replace HB:=yst_ hb;clear hb hbox hg;have hcz6:=ye4_ BK649;have hfz6:=yf4_ BK649))
 (try simp only [Act.put,List.setIfInBounds_toArray,List.set_cons_zero,List.set_cons_succ]);go_cut [8,9,10] (fun v8 v9 v10 wc=> ∃(kq:Nat) (x8_3:Int) (x9_3:Int) (x10_3:Int),v8= .int .i64 x8_3∧v9= .int .i64 x9_3∧v10= .int .i64 x10_3∧Aside0 (impl_Node_flatten.j1 kq l1 a2 x8_3 x9_3 x10_3 a0_0 a0_1 l0_2 l0_3=some (r1,r2))∧Aside0 (kq≤k)∧Aside0 (Kd.R k44 44 wc w0.heap.size (fun k_=>(P1_ k_∨w.heap.size≤k_)) u9000_ l1)∧Aside0 (wc.heap[gb649]?=some (.cells #[.int .i64 a0_0,.int .i64 a0_1,(.slice A0_2 l0_2.length c0_2),(.slice A0_3 l0_3.length c0_3)] 53 (0,0)))∧Aside0 (Kept w wc (fun k_=>P1_ k_))∧Aside0 (Below w0.heap.size w0 wc));case first=>
  have H:=HC4.out;clear HC4;have HC7:=am_ H;clear H;go_upto_if 15 with (fail)
  go_cut [15] (fun v15 wc=> ∃(kq:Nat) (x15_6:Bool),v15= .bool x15_6∧Aside0 (impl_Node_flatten.j0 kq l1 a2 0 a0_0 x15_6 a0_0 a0_1 l0_2 l0_3=some (r1,r2))∧Aside0 (kq≤k)∧Aside0 (Kd.R k44 44 wc w0.heap.size (fun k_=>(P1_ k_∨w.heap.size≤k_)) u9000_ l1)∧Aside0 (wc.heap[gb649]?=some (.cells #[.int .i64 a0_0,.int .i64 a0_1,(.slice A0_2 l0_2.length c0_2),(.slice A0_3 l0_3.length c0_3)] 53 (0,0)))∧Aside0 (Kept w wc (fun k_=>P1_ k_))∧Aside0 (Below w0.heap.size w0 wc))
  case first=>
   have H:=HC7.out;clear HC7;by_cases c8:a0_0=1
   ·rw [if_pos c8]at H;have c8b0:(a0_0==1)=true:=beq_iff_eq.mpr c8;have c8b1:(a0_0 !=1)=false:=bne_eq_false_iff_eq.mpr c8;clear c8;(first|rw [c8b0]|(simp only [i64_w,i32_w];rw [c8b0])|skip);have H':=am_ H;clear H;go_wp2;go_meet;case rel=>exact⟨_,((a0_0==1)),(by first|rfl|(simp;done)|(simp [*];done)),H',⟨by first|omega|exact Nat.le_refl _⟩,⟨(yru_ HO1)⟩,⟨(ybu_ BK649)⟩,⟨yqv52_⟩,⟨ybl_⟩⟩
   ·rw [if_neg c8]at H;have c8b0:(a0_0==1)=false:=beq_eq_false_iff_ne.mpr c8;have c8b1:(a0_0 !=1)=true:=bne_iff_ne.mpr c8;(first|rw [c8b0]|(simp only [i64_w,i32_w];rw [c8b0])|skip);by_cases c9:a0_0=2
    ·rw [if_pos c9]at H;have c9b0:(a0_0==2)=true:=beq_iff_eq.mpr c9;have c9b1:(a0_0 !=2)=false:=bne_eq_false_iff_eq.mpr c9;clear c9;have H':=am_ H;clear H;go_wp2;go_meet;case rel=>exact⟨_,((a0_0==2)),(by first|rfl|(simp;done)|(simp [*];done)),H',⟨by first|omega|exact Nat.le_refl _⟩,⟨(yru_ HO1)⟩,⟨(ybu_ BK649)⟩,⟨yqv52_⟩,⟨ybl_⟩⟩
    ·rw [if_neg c9]at H;have c9b0:(a0_0==2)=false:=beq_eq_false_iff_ne.mpr c9;have c9b1:(a0_0 !=2)=true:=bne_iff_ne.mpr c9;have H':=am_ H;clear H;go_wp2;go_meet;case rel=>exact⟨_,((a0_0==13)),(by first|rfl|(simp;done)|(simp [*];done)),H',⟨by first|omega|exact Nat.le_refl _⟩,⟨(yru_ HO1)⟩,⟨(ybu_ BK649)⟩,⟨yqv52_⟩,⟨ybl_⟩⟩
  case rest=>
   clear HC7;try clear p2
   try clear c4
   try clear c8
   try clear c8b0
   try clear c8b1
   try clear c9
   try clear c9b0
   try clear c9b1
   try clear hcz6
   try clear hcz6
   try clear hcz6
   try clear hcz6
   try clear hfz6
   try clear hfz6
   try clear hfz6
   try clear hfz6
   obtain⟨kq,x15_6,rfl,HA,HJ6,HO_1,BK649,HK,HB⟩:=hcut;cases kq with
   |zero=>exact absurd HA.out (by simp [impl_Node_flatten.j0])
   |succ kj6=>
    have H:=HA.out;clear HA;simp only [impl_Node_flatten.j0]at H;by_cases c10:x15_6=true
    ·subst c10;rw [if_pos rfl]at H;by_cases c11:l1.length<8796093022208
     ·rw [if_pos c11]at H;have LMc11:=am_ c11;clear c11;obtain⟨y651,hy651⟩: ∃y_:List (S44),y_=(l1++ [(⟨a0_0,a0_1⟩:S44)]):=⟨_,rfl⟩
      replace H:((impl_ItemOK.f a0_0 a0_1).bind fun t654=>(if t654=true then(if(l0_2.length:Int)=0 then(some (y651,((l0_3.length:Int)==0)))else(some (y651,false)))else(some (y651,false))))=some (r1,r2):=by first|(rw [hy651];with_reducible exact H)|(have H2_:=(Option.bind_some _ _).symm.trans H;rw [hy651];with_reducible exact H2_)|(have H2_:=(Option.bind_some _ _).symm.trans H;with_reducible exact H2_)|with_reducible exact H|(rw [hy651];exact H)|exact H
      have Ny651:=am_ hy651;clear hy651;replace H:=Option.bind_eq_some_iff.mp H;obtain⟨t654,A120,H⟩:=H;try dsimp only at H
      have A12:=am_ A120;clear A120;by_cases c13:t654=true
      ·subst c13;rw [if_pos rfl]at H;by_cases c14:(l0_2.length:Int)=0
       ·rw [if_pos c14]at H;have c14b0:((l0_2.length:Int)==0)=true:=beq_iff_eq.mpr c14;have c14b1:((l0_2.length:Int) !=0)=false:=bne_eq_false_iff_eq.mpr c14;clear c14;simp only [Option.some.injEq,Prod.mk.injEq]at H;obtain⟨rfl,rfl⟩:=H;have hcz15:=ye4_ BK649;have hfz15:=yf4_ BK649;try go_wp2_with (first|((with_reducible refine gate_dst (N:=11) rfl ?_);(try(refine gate_guard (by rfl) ?_;dsimp only));refine box_event ?hg (N:=11) ?hd (cs:= #[.int .i64 0,.int .i64 0]) (t:=44) ?hr ?_;(case hd=>rfl);(case hg=>rfl);(case hr=>first|(go_simp;done)|(go_simp;rfl));intro gb650 hg w16 hbox hb;replace HO_1:=am_ (Kd.R_below (Kd.R_elderB (yru_ HO_1) gb650 (Nat.le_of_eq hg.symm)) hb);have BK650:=am_ (hbox);have GW650:=am_ ((by rw [hg];exact yqv48_:w.heap.size≤gb650));replace HK:=am_ (Kept.below (S:=(fun k_=>P1_ k_)) yqv52_ hb);have GE650:=am_ ((ybsz_ hg:w0.heap.size≤gb650));replace HB:=yst_ hb;have NB649_650:=am_ (ybne_ hg BK649);have NB650_649:=am_ ((ybne_ hg BK649).symm);replace BK649:=am_ (ybb_ BK649 hb);clear hb hbox hg;have hnb17:=NB650_649.out;have hnc17:=NB649_650.out;have hcz18_0:w16.cell? ⟨gb650,0,none⟩=some (.int .i64 0):=(blk_cell BK650.out 0).trans rfl;have hcz18_1:w16.cell? ⟨gb650,1,none⟩=some (.int .i64 0):=(blk_cell BK650.out 1).trans rfl;have hfz18_0:=blk_frozen BK650.out 0;have hfz18_1:=blk_frozen BK650.out 1))
        have n0_:Aside0 (Kd.R k44 44 ((w16.setCell ⟨gb650,0,none⟩ (.int .i64 a0_0)).setCell ⟨gb650,1,none⟩ (.int .i64 a0_1)) w0.heap.size (fun k_=>(P1_ k_∨w.heap.size≤k_)∧k_≠gb650) u9000_ l1):=⟨by(with_reducible repeat(first|apply Kd.R_alloc|apply Kd.R_drewN|apply Kd.R_drew));exact Kd.R_mono (Kd.R_far (p:=⟨gb650,1,none⟩) (Kd.R_far (p:=⟨gb650,0,none⟩) (Kd.R_mono HO_1.out (fun k_ hk=>(⟨hk,hk.2⟩:_∧k_≠gb650))) (fun _ hk=>hk.2) (.int .i64 a0_0)) (fun _ hk=>hk.2) (.int .i64 a0_1)) (fun _ hk=>⟨hk.1.1,hk.1.2⟩)⟩
        have n1_:Aside0 (((w16.setCell ⟨gb650,0,none⟩ (.int .i64 a0_0)).setCell ⟨gb650,1,none⟩ (.int .i64 a0_1)).heap[gb649]?=some (.cells #[.int .i64 a0_0,.int .i64 a0_1,.slice A0_2 l0_2.length c0_2,.slice A0_3 l0_3.length c0_3] 53 (0,0))):=⟨yqv46_⟩
        have n2_:Aside0 (((w16.setCell ⟨gb650,0,none⟩ (.int .i64 a0_0)).setCell ⟨gb650,1,none⟩ (.int .i64 a0_1)).heap[gb650]?=some (.cells #[.int .i64 a0_0,.int .i64 a0_1] 44 (0,0))):=⟨(by(with_reducible repeat(first|refine blk_drewN ?_ _|refine blk_drew ?_|refine blk_alloc ?_ _));refine blk_put (cs:= #[.int .i64 a0_0,.int .i64 0]) ?_ 1 _ rfl;(with_reducible repeat(first|refine blk_drewN ?_ _|refine blk_drew ?_|refine blk_alloc ?_ _));refine blk_put (cs:= #[.int .i64 0,.int .i64 0]) ?_ 0 _ rfl;(with_reducible repeat(first|refine blk_drewN ?_ _|refine blk_drew ?_|refine blk_alloc ?_ _));exact BK650.out)⟩
        have n3_:Aside0 (Kept w ((w16.setCell ⟨gb650,0,none⟩ (.int .i64 a0_0)).setCell ⟨gb650,1,none⟩ (.int .i64 a0_1)) (fun k_=>P1_ k_)):=⟨yqv49_⟩
        have n4_:Aside0 (Below w0.heap.size w0 ((w16.setCell ⟨gb650,0,none⟩ (.int .i64 a0_0)).setCell ⟨gb650,1,none⟩ (.int .i64 a0_1))):=⟨ybl_⟩
        (try clear HO_1);(try clear BK649);(try clear BK650);(try clear HK);(try clear HB);generalize ((w16.setCell ⟨gb650,0,none⟩ (.int .i64 a0_0)).setCell ⟨gb650,1,none⟩ (.int .i64 a0_1))=w19 at n0_ n1_ n2_ n3_ n4_⊢;have HO_1:=n0_;have BK649:=n1_;have BK650:=n2_;have HK:=n3_;have HB:=n4_;clear n0_ n1_ n2_ n3_ n4_;replace HO_1:=am_ (Kd.R_drew HO_1.out);replace BK649:=am_ (blk_drew BK649.out);replace BK650:=am_ (blk_drew BK650.out);replace HK:=am_ (Kept.drew HK.out);replace HB:=am_ (below_drew1 HB.out);refine start_ (n:=20) (S:=fun w'=>w'.cell? ⟨gb650,0,none⟩=some (.int .i64 a0_0)∧w'.cell? ⟨gb650,1,none⟩=some (.int .i64 a0_1)∧w'.cell? ⟨gb649,0,none⟩=some (.int .i64 a0_0)∧w'.cell? ⟨gb649,1,none⟩=some (.int .i64 a0_1)∧w'.cell? ⟨gb649,2,none⟩=some (.slice A0_2 l0_2.length c0_2)∧w'.cell? ⟨gb649,3,none⟩=some (.slice A0_3 l0_3.length c0_3)) (ds:= []) #[false,false,false,false,false,false,false,false,false,false,false,false,false,false,false,false,false,false,false,false] (by kernel_rfl) rfl rfl ⟨(blk_cell BK650.out 0).trans rfl,(blk_cell BK650.out 1).trans rfl,(blk_cell BK649.out 0).trans rfl,(blk_cell BK649.out 1).trans rfl,(blk_cell BK649.out 2).trans rfl,(blk_cell BK649.out 3).trans rfl⟩ (fun hHeld=> ?_);refine with_tabW impl_Node_flatten.tab8 impl_Node_flatten.bits8 (fun HT_ HW_=> ?_);generalize w19.drew=w20 at HO_1 BK649 BK650 HK HB hHeld⊢;refine pure_ (i:=0) (N:=some 24) (v:= ?_) (a':= ?_) #[true,false,false,false,false,false,false,false,false,false,false,false,false,false,false,false,false,false,false,false] rfl rfl (any_of HT_.out (by kernel_rfl)) (fun _ _ _ h=>h) (Or.inl ⟨by rfl,?_⟩) ?_ ?_;rotate_left
        ·intro w';go_simp;with_reducible rfl
        rotate_left
        ·simp only [Act.put,List.setIfInBounds_toArray,List.set_cons_zero,List.set_cons_succ,i64_w,i32_w];rfl
        refine take_ (i:=1) (N:=some 25) (v:= ?_) (a':= ?_) #[true,true,false,false,false,false,false,false,false,false,false,false,false,false,false,false,false,false,false,false] rfl rfl (take_ofW HT_.out HW_.out (by kernel_rfl)) (fun _ _ _ h=>h) (Or.inl ⟨by rfl,?_⟩) hHeld ?_ ?_;rotate_left
        ·rintro w' ⟨s0,s1,s2,s3,s4,s5⟩;go_simp;with_reducible rfl
        rotate_left
        ·simp only [Act.put,List.setIfInBounds_toArray,List.set_cons_zero,List.set_cons_succ,i64_w,i32_w];rfl
        refine take_ (i:=4) (N:=some 28) (v:= ?_) (a':= ?_) #[true,true,false,false,true,false,false,false,false,false,false,false,false,false,false,false,false,false,false,false] rfl rfl (take_ofW HT_.out HW_.out (by kernel_rfl)) (fun _ _ _ h=>h) (Or.inl ⟨by rfl,?_⟩) hHeld ?_ ?_;rotate_left
        ·rintro w' ⟨s0,s1,s2,s3,s4,s5⟩;go_simp;with_reducible rfl
        rotate_left
        ·simp only [Act.put,List.setIfInBounds_toArray,List.set_cons_zero,List.set_cons_succ,i64_w,i32_w];rfl
        refine one_ (i:=2) (N:=some 26) #[true,true,true,false,true,false,false,false,false,false,false,false,false,false,false,false,false,false,false,false] rfl rfl (one_of HT_.out (by kernel_rfl)) (by decide) (fun K hK=> ?_);refine value_ (w1:= ?_) (v:= ?_) (by rfl) rfl ?_ ?_;rotate_left 2
        ·go_simp
         constructor
         ·rfl
         ·rfl
        refine hK.out _ _ ⟨(blk_cell (blk_alloc BK650.out _) 0).trans rfl,(blk_cell (blk_alloc BK650.out _) 1).trans rfl,(blk_cell (blk_alloc BK649.out _) 0).trans rfl,(blk_cell (blk_alloc BK649.out _) 1).trans rfl,(blk_cell (blk_alloc BK649.out _) 2).trans rfl,(blk_cell (blk_alloc BK649.out _) 3).trans rfl⟩ (fun hHeld=> ?_);clear hK K;refine norm_ (a':= ?_) ?_ ?_;rotate_left
        ·show Act.put _ (some 26) _=_
         simp only [Act.put,List.setIfInBounds_toArray,List.set_cons_zero,List.set_cons_succ,i64_w,i32_w];rfl
        refine one_ (i:=3) (N:=some 27) #[true,true,true,true,true,false,false,false,false,false,false,false,false,false,false,false,false,false,false,false] rfl rfl (one_of HT_.out (by kernel_rfl)) (by decide) (fun K hK=> ?_);refine Kd.R_append_step k44 (w0:=w0) w0.heap.size (by rfl) (.tmp 24) (.tmp 26) 27 44 (.agg #[(.int .i64 0),(.int .i64 0)]) 16 rfl Try.underlying27 info44 rfl (by decide) (by omega) u9000_ l1 (⟨a0_0,a0_1⟩:S44) [.int .i64 a0_0,.int .i64 a0_1] (fun k_=>(P1_ k_∨w.heap.size≤k_)∧k_≠gb650) (fun _=>False) rfl rfl ?aP (fun _ hk=>hk.elim) ?aF ?aO ?aB ?aS ?aL ?_;(case aP=>exact k44_mkM _ _ _ (⟨a0_0,a0_1⟩:S44));(case aB=>exact ybl_);(case aF=>exact(fun k_ hk=>⟨(.inr (Nat.le_trans yqv47_ hk)),Kd.freshB (g:=gb650) (o:= .cells #[.int .i64 a0_0,.int .i64 a0_1] 44 (0,0)) (ybu_ BK650) k_ hk⟩));(case aO=>exact(yru_ HO_1));(case aS=>exact(below_size ybl_));(case aL=>have:=LMc11.out;omega);intro v652 w21 ho hb hg hat;rw [←Ny651.out]at ho;replace BK649:=am_ (blk_grown (g:=gb649) (o:= .cells #[.int .i64 a0_0,.int .i64 a0_1,.slice A0_2 l0_2.length c0_2,.slice A0_3 l0_3.length c0_3] 53 (0,0)) (ybu_ BK649) hg (Kd.R_ne HO_1.out BK649.out (by decide)));replace BK650:=am_ (blk_grown (g:=gb650) (o:= .cells #[.int .i64 a0_0,.int .i64 a0_1] 44 (0,0)) (ybu_ BK650) hg (Kd.R_away HO_1.out (fun _ hk=>hk.2)));replace HB:=am_ (hb);replace HK:=am_ (Kept.of_grown (S:=(fun k_=>P1_ k_)) hg yqv49_ (fun k_ e_=>(HO_1.out.1 k_ e_).1));have HO653:=am_ (ho);clear HO_1;clear ho hb hg hat;refine hK.out _ _ ⟨(blk_cell BK650.out 0).trans rfl,(blk_cell BK650.out 1).trans rfl,(blk_cell BK649.out 0).trans rfl,(blk_cell BK649.out 1).trans rfl,(blk_cell BK649.out 2).trans rfl,(blk_cell BK649.out 3).trans rfl⟩ (fun hHeld=> ?_);clear hK K;refine norm_ (a':= ?_) ?_ ?_;rotate_left
        ·show Act.put _ (some 27) _=_
         simp only [Act.put,List.setIfInBounds_toArray,List.set_cons_zero,List.set_cons_succ,i64_w,i32_w];rfl
        refine one_ (i:=5) (N:=some 29) #[true,true,true,true,true,true,false,false,false,false,false,false,false,false,false,false,false,false,false,false] rfl rfl (one_of HT_.out (by kernel_rfl)) (by decide) (fun K hK=> ?_);refine goes_ Try.func51 (by kernel_rfl) rfl #[.agg #[.int .i64 a0_0,.int .i64 a0_1]] (by rfl) rfl rfl yk0_ ?_;with_reducible refine(impl_ItemOK.calls a0_0 a0_1 true _ A12.out).mono ?_
        rintro e w22 ⟨rfl,hb⟩;refine⟨_,rfl,?_⟩;replace HO653:=am_ (Kd.R_below (yru_ HO653) hb);replace BK649:=am_ (ybb_ BK649 hb);replace BK650:=am_ (ybb_ BK650 hb);replace HK:=am_ (Kept.below (S:=(fun k_=>P1_ k_)) yqv49_ hb);replace HB:=yst_ hb;(try clear hb)
        
        
        
        refine hK.out _ _ ⟨(blk_cell BK650.out 0).trans rfl,(blk_cell BK650.out 1).trans rfl,(blk_cell BK649.out 0).trans rfl,(blk_cell BK649.out 1).trans rfl,(blk_cell BK649.out 2).trans rfl,(blk_cell BK649.out 3).trans rfl⟩ (fun hHeld=> ?_);clear hK K;refine norm_ (a':= ?_) ?_ ?_;rotate_left
        ·show Act.put _ (some 29) _=_
         simp only [Act.put,List.setIfInBounds_toArray,List.set_cons_zero,List.set_cons_succ,i64_w,i32_w];rfl
        refine pure_ (i:=6) (N:=some 30) (v:= ?_) (a':= ?_) #[true,true,true,true,true,true,true,false,false,false,false,false,false,false,false,false,false,false,false,false] rfl rfl (any_of HT_.out (by kernel_rfl)) (fun _ _ _ h=>h) (Or.inl ⟨by rfl,?_⟩) ?_ ?_;rotate_left
        ·intro w';go_simp;with_reducible rfl
        rotate_left
        ·simp only [Act.put,List.setIfInBounds_toArray,List.set_cons_zero,List.set_cons_succ,i64_w,i32_w];rfl
        refine pure_ (i:=7) (N:=some 31) (v:= ?_) (a':= ?_) #[true,true,true,true,true,true,true,true,false,false,false,false,false,false,false,false,false,false,false,false] rfl rfl (any_of HT_.out (by kernel_rfl)) (fun _ _ _ h=>h) (Or.inl ⟨by rfl,?_⟩) ?_ ?_;rotate_left
        ·intro w';go_simp;with_reducible rfl
        rotate_left
        ·simp only [Act.put,List.setIfInBounds_toArray,List.set_cons_zero,List.set_cons_succ,i64_w,i32_w];rfl
        refine take_ (i:=8) (N:=some 32) (v:= ?_) (a':= ?_) #[true,true,true,true,true,true,true,true,true,false,false,false,false,false,false,false,false,false,false,false] rfl rfl (take_ofW HT_.out HW_.out (by kernel_rfl)) (fun _ _ _ h=>h) (Or.inl ⟨by rfl,?_⟩) hHeld ?_ ?_;rotate_left
        ·rintro w' ⟨s0,s1,s2,s3,s4,s5⟩;go_simp;with_reducible rfl
        rotate_left
        ·simp only [Act.put,List.setIfInBounds_toArray,List.set_cons_zero,List.set_cons_succ,i64_w,i32_w];rfl
        refine pure_ (i:=9) (N:=some 33) (v:= ?_) (a':= ?_) #[true,true,true,true,true,true,true,true,true,true,false,false,false,false,false,false,false,false,false,false] rfl rfl (any_of HT_.out (by kernel_rfl)) (fun _ _ _ h=>h) (Or.inl ⟨by rfl,?_⟩) ?_ ?_;rotate_left
        ·intro w';go_simp;with_reducible rfl
        rotate_left
        ·simp only [Act.put,List.setIfInBounds_toArray,List.set_cons_zero,List.set_cons_succ,i64_w,i32_w];rfl
        refine pure_ (i:=10) (N:=some 34) (v:= ?_) (a':= ?_) #[true,true,true,true,true,true,true,true,true,true,true,false,false,false,false,false,false,false,false,false] rfl rfl (any_of HT_.out (by kernel_rfl)) (fun _ _ _ h=>h) (Or.inl ⟨by rfl,?_⟩) ?_ ?_;rotate_left
        ·intro w';go_simp;with_reducible rfl
        rotate_left
        ·simp only [Act.put,List.setIfInBounds_toArray,List.set_cons_zero,List.set_cons_succ,i64_w,i32_w];rfl
        refine pure_ (i:=11) (N:=some 35) (v:= ?_) (a':= ?_) #[true,true,true,true,true,true,true,true,true,true,true,true,false,false,false,false,false,false,false,false] rfl rfl (any_of HT_.out (by kernel_rfl)) (fun _ _ _ h=>h) (Or.inl ⟨by rfl,?_⟩) ?_ ?_;rotate_left
        ·intro w';go_simp;with_reducible rfl
        rotate_left
        ·simp only [Act.put,List.setIfInBounds_toArray,List.set_cons_zero,List.set_cons_succ,i64_w,i32_w];rfl
        refine pure_ (i:=12) (N:=some 36) (v:= ?_) (a':= ?_) #[true,true,true,true,true,true,true,true,true,true,true,true,true,false,false,false,false,false,false,false] rfl rfl (any_of HT_.out (by kernel_rfl)) (fun _ _ _ h=>h) (Or.inl ⟨by rfl,?_⟩) ?_ ?_;rotate_left
        ·intro w';go_simp;with_reducible rfl
        rotate_left
        ·simp only [Act.put,List.setIfInBounds_toArray,List.set_cons_zero,List.set_cons_succ,i64_w,i32_w];rfl
        refine pure_ (i:=13) (N:=some 37) (v:= ?_) (a':= ?_) #[true,true,true,true,true,true,true,true,true,true,true,true,true,true,false,false,false,false,false,false] rfl rfl (any_of HT_.out (by kernel_rfl)) (fun _ _ _ h=>h) (Or.inl ⟨by rfl,?_⟩) ?_ ?_;rotate_left
        ·intro w';go_simp;with_reducible rfl
        rotate_left
        ·simp only [Act.put,List.setIfInBounds_toArray,List.set_cons_zero,List.set_cons_succ,i64_w,i32_w];rfl
        refine pure_ (i:=18) (N:=some 6) (v:= ?_) (a':= ?_) #[true,true,true,true,true,true,true,true,true,true,true,true,true,true,false,false,false,false,true,false] rfl rfl (any_of HT_.out (by kernel_rfl)) (fun _ _ _ h=>h) (Or.inl ⟨by rfl,?_⟩) ?_ ?_;rotate_left
        ·intro w';go_simp;with_reducible rfl
        rotate_left
        ·simp only [Act.put,List.setIfInBounds_toArray,List.set_cons_zero,List.set_cons_succ,i64_w,i32_w];rfl
        refine take_ (i:=14) (N:=some 38) (v:= ?_) (a':= ?_) #[true,true,true,true,true,true,true,true,true,true,true,true,true,true,true,false,false,false,true,false] rfl rfl (take_ofW HT_.out HW_.out (by kernel_rfl)) (fun _ _ _ h=>h) (Or.inl ⟨by rfl,?_⟩) hHeld ?_ ?_;rotate_left
        ·rintro w' ⟨s0,s1,s2,s3,s4,s5⟩;go_simp;with_reducible rfl
        rotate_left
        ·simp only [Act.put,List.setIfInBounds_toArray,List.set_cons_zero,List.set_cons_succ,i64_w,i32_w];rfl
        refine pure_ (i:=15) (N:=some 39) (v:= ?_) (a':= ?_) #[true,true,true,true,true,true,true,true,true,true,true,true,true,true,true,true,false,false,true,false] rfl rfl (any_of HT_.out (by kernel_rfl)) (fun _ _ _ h=>h) (Or.inl ⟨by rfl,?_⟩) ?_ ?_;rotate_left
        ·intro w';go_simp;with_reducible rfl
        rotate_left
        ·simp only [Act.put,List.setIfInBounds_toArray,List.set_cons_zero,List.set_cons_succ,i64_w,i32_w];rfl
        refine pure_ (i:=16) (N:=some 40) (v:= ?_) (a':= ?_) #[true,true,true,true,true,true,true,true,true,true,true,true,true,true,true,true,true,false,true,false] rfl rfl (any_of HT_.out (by kernel_rfl)) (fun _ _ _ h=>h) (Or.inl ⟨by rfl,?_⟩) ?_ ?_;rotate_left
        ·intro w';go_simp;with_reducible rfl
        rotate_left
        ·simp only [Act.put,List.setIfInBounds_toArray,List.set_cons_zero,List.set_cons_succ,i64_w,i32_w];rfl
        refine pure_ (i:=17) (N:=some 41) (v:= ?_) (a':= ?_) #[true,true,true,true,true,true,true,true,true,true,true,true,true,true,true,true,true,true,true,false] rfl rfl (any_of HT_.out (by kernel_rfl)) (fun _ _ _ h=>h) (Or.inl ⟨by rfl,?_⟩) ?_ ?_;rotate_left
        ·intro w';go_simp;with_reducible rfl
        rotate_left
        ·simp only [Act.put,List.setIfInBounds_toArray,List.set_cons_zero,List.set_cons_succ,i64_w,i32_w];rfl
        refine pure_ (i:=19) (N:=some 7) (v:= ?_) (a':= ?_) #[true,true,true,true,true,true,true,true,true,true,true,true,true,true,true,true,true,true,true,true] rfl rfl (any_of HT_.out (by kernel_rfl)) (fun _ _ _ h=>h) (Or.inl ⟨by rfl,?_⟩) ?_ ?_;rotate_left
        ·intro w';go_simp;with_reducible rfl
        rotate_left
        ·simp only [Act.put,List.setIfInBounds_toArray,List.set_cons_zero,List.set_cons_succ,i64_w,i32_w];rfl
        refine done_ (done_of HT_.out (by kernel_rfl)) ?_;try go_wp2
        go_ret2
        exact⟨_,yk1_,by(with_reducible repeat(first|apply Kd.R_alloc|apply Kd.R_drewN|apply Kd.R_drew));exact Kd.R_mono HO653.out (fun _ hk=>hk.1),ybl_,by repeat(first|(with_reducible first|exact HK.out|apply Kept.alloc|apply Kept.drewN|apply Kept.drew|refine Kept.setCell ?_ (.inr GW649.out) _|refine Kept.setCell ?_ (.inr GW650.out) _)|exact HK.out)⟩
       ·rw [if_neg c14]at H;have c14b0:((l0_2.length:Int)==0)=false:=beq_eq_false_iff_ne.mpr c14;have c14b1:((l0_2.length:Int) !=0)=true:=bne_iff_ne.mpr c14;have c14b2: ¬(l0_2= []):=fun h_=>c14 (by rw [h_];rfl)
        simp only [Option.some.injEq,Prod.mk.injEq]at H;obtain⟨rfl,rfl⟩:=H;have hcz23:=ye4_ BK649;have hfz23:=yf4_ BK649;try go_wp2_with (first|((with_reducible refine gate_dst (N:=11) rfl ?_);(try(refine gate_guard (by rfl) ?_;dsimp only));refine box_event ?hg (N:=11) ?hd (cs:= #[.int .i64 0,.int .i64 0]) (t:=44) ?hr ?_;(case hd=>rfl);(case hg=>rfl);(case hr=>first|(go_simp;done)|(go_simp;rfl));intro gb650 hg w24 hbox hb;replace HO_1:=am_ (Kd.R_below (Kd.R_elderB (yru_ HO_1) gb650 (Nat.le_of_eq hg.symm)) hb);have BK650:=am_ (hbox);have GW650:=am_ ((by rw [hg];exact yqv48_:w.heap.size≤gb650));replace HK:=am_ (Kept.below (S:=(fun k_=>P1_ k_)) yqv52_ hb);have GE650:=am_ ((ybsz_ hg:w0.heap.size≤gb650));replace HB:=yst_ hb;have NB649_650:=am_ (ybne_ hg BK649);have NB650_649:=am_ ((ybne_ hg BK649).symm);replace BK649:=am_ (ybb_ BK649 hb);clear hb hbox hg;have hnb25:=NB650_649.out;have hnc25:=NB649_650.out;have hcz26_0:w24.cell? ⟨gb650,0,none⟩=some (.int .i64 0):=(blk_cell BK650.out 0).trans rfl;have hcz26_1:w24.cell? ⟨gb650,1,none⟩=some (.int .i64 0):=(blk_cell BK650.out 1).trans rfl;have hfz26_0:=blk_frozen BK650.out 0;have hfz26_1:=blk_frozen BK650.out 1))
        have n0_:Aside0 (Kd.R k44 44 ((w24.setCell ⟨gb650,0,none⟩ (.int .i64 a0_0)).setCell ⟨gb650,1,none⟩ (.int .i64 a0_1)) w0.heap.size (fun k_=>(P1_ k_∨w.heap.size≤k_)∧k_≠gb650) u9000_ l1):=⟨by(with_reducible repeat(first|apply Kd.R_alloc|apply Kd.R_drewN|apply Kd.R_drew));exact Kd.R_mono (Kd.R_far (p:=⟨gb650,1,none⟩) (Kd.R_far (p:=⟨gb650,0,none⟩) (Kd.R_mono HO_1.out (fun k_ hk=>(⟨hk,hk.2⟩:_∧k_≠gb650))) (fun _ hk=>hk.2) (.int .i64 a0_0)) (fun _ hk=>hk.2) (.int .i64 a0_1)) (fun _ hk=>⟨hk.1.1,hk.1.2⟩)⟩
        have n1_:Aside0 (((w24.setCell ⟨gb650,0,none⟩ (.int .i64 a0_0)).setCell ⟨gb650,1,none⟩ (.int .i64 a0_1)).heap[gb649]?=some (.cells #[.int .i64 a0_0,.int .i64 a0_1,.slice A0_2 l0_2.length c0_2,.slice A0_3 l0_3.length c0_3] 53 (0,0))):=⟨yqv46_⟩
        have n2_:Aside0 (((w24.setCell ⟨gb650,0,none⟩ (.int .i64 a0_0)).setCell ⟨gb650,1,none⟩ (.int .i64 a0_1)).heap[gb650]?=some (.cells #[.int .i64 a0_0,.int .i64 a0_1] 44 (0,0))):=⟨(by(with_reducible repeat(first|refine blk_drewN ?_ _|refine blk_drew ?_|refine blk_alloc ?_ _));refine blk_put (cs:= #[.int .i64 a0_0,.int .i64 0]) ?_ 1 _ rfl;(with_reducible repeat(first|refine blk_drewN ?_ _|refine blk_drew ?_|refine blk_alloc ?_ _));refine blk_put (cs:= #[.int .i64 0,.int .i64 0]) ?_ 0 _ rfl;(with_reducible repeat(first|refine blk_drewN ?_ _|refine blk_drew ?_|refine blk_alloc ?_ _));exact BK650.out)⟩
        have n3_:Aside0 (Kept w ((w24.setCell ⟨gb650,0,none⟩ (.int .i64 a0_0)).setCell ⟨gb650,1,none⟩ (.int .i64 a0_1)) (fun k_=>P1_ k_)):=⟨yqv49_⟩
        have n4_:Aside0 (Below w0.heap.size w0 ((w24.setCell ⟨gb650,0,none⟩ (.int .i64 a0_0)).setCell ⟨gb650,1,none⟩ (.int .i64 a0_1))):=⟨ybl_⟩
        (try clear HO_1);(try clear BK649);(try clear BK650);(try clear HK);(try clear HB);generalize ((w24.setCell ⟨gb650,0,none⟩ (.int .i64 a0_0)).setCell ⟨gb650,1,none⟩ (.int .i64 a0_1))=w27 at n0_ n1_ n2_ n3_ n4_⊢;have HO_1:=n0_;have BK649:=n1_;have BK650:=n2_;have HK:=n3_;have HB:=n4_;clear n0_ n1_ n2_ n3_ n4_;replace HO_1:=am_ (Kd.R_drew HO_1.out);replace BK649:=am_ (blk_drew BK649.out);replace BK650:=am_ (blk_drew BK650.out);replace HK:=am_ (Kept.drew HK.out);replace HB:=am_ (below_drew1 HB.out);refine start_ (n:=20) (S:=fun w'=>w'.cell? ⟨gb650,0,none⟩=some (.int .i64 a0_0)∧w'.cell? ⟨gb650,1,none⟩=some (.int .i64 a0_1)∧w'.cell? ⟨gb649,0,none⟩=some (.int .i64 a0_0)∧w'.cell? ⟨gb649,1,none⟩=some (.int .i64 a0_1)∧w'.cell? ⟨gb649,2,none⟩=some (.slice A0_2 l0_2.length c0_2)∧w'.cell? ⟨gb649,3,none⟩=some (.slice A0_3 l0_3.length c0_3)) (ds:= []) #[false,false,false,false,false,false,false,false,false,false,false,false,false,false,false,false,false,false,false,false] (by kernel_rfl) rfl rfl ⟨(blk_cell BK650.out 0).trans rfl,(blk_cell BK650.out 1).trans rfl,(blk_cell BK649.out 0).trans rfl,(blk_cell BK649.out 1).trans rfl,(blk_cell BK649.out 2).trans rfl,(blk_cell BK649.out 3).trans rfl⟩ (fun hHeld=> ?_);refine with_tabW impl_Node_flatten.tab8 impl_Node_flatten.bits8 (fun HT_ HW_=> ?_);generalize w27.drew=w28 at HO_1 BK649 BK650 HK HB hHeld⊢;refine pure_ (i:=0) (N:=some 24) (v:= ?_) (a':= ?_) #[true,false,false,false,false,false,false,false,false,false,false,false,false,false,false,false,false,false,false,false] rfl rfl (any_of HT_.out (by kernel_rfl)) (fun _ _ _ h=>h) (Or.inl ⟨by rfl,?_⟩) ?_ ?_;rotate_left
        ·intro w';go_simp;with_reducible rfl
        rotate_left
        ·simp only [Act.put,List.setIfInBounds_toArray,List.set_cons_zero,List.set_cons_succ,i64_w,i32_w];rfl
        refine take_ (i:=1) (N:=some 25) (v:= ?_) (a':= ?_) #[true,true,false,false,false,false,false,false,false,false,false,false,false,false,false,false,false,false,false,false] rfl rfl (take_ofW HT_.out HW_.out (by kernel_rfl)) (fun _ _ _ h=>h) (Or.inl ⟨by rfl,?_⟩) hHeld ?_ ?_;rotate_left
        ·rintro w' ⟨s0,s1,s2,s3,s4,s5⟩;go_simp;with_reducible rfl
        rotate_left
        ·simp only [Act.put,List.setIfInBounds_toArray,List.set_cons_zero,List.set_cons_succ,i64_w,i32_w];rfl
        refine take_ (i:=4) (N:=some 28) (v:= ?_) (a':= ?_) #[true,true,false,false,true,false,false,false,false,false,false,false,false,false,false,false,false,false,false,false] rfl rfl (take_ofW HT_.out HW_.out (by kernel_rfl)) (fun _ _ _ h=>h) (Or.inl ⟨by rfl,?_⟩) hHeld ?_ ?_;rotate_left
        ·rintro w' ⟨s0,s1,s2,s3,s4,s5⟩;go_simp;with_reducible rfl
        rotate_left
        ·simp only [Act.put,List.setIfInBounds_toArray,List.set_cons_zero,List.set_cons_succ,i64_w,i32_w];rfl
        refine one_ (i:=2) (N:=some 26) #[true,true,true,false,true,false,false,false,false,false,false,false,false,false,false,false,false,false,false,false] rfl rfl (one_of HT_.out (by kernel_rfl)) (by decide) (fun K hK=> ?_);refine value_ (w1:= ?_) (v:= ?_) (by rfl) rfl ?_ ?_;rotate_left 2
        ·go_simp
         constructor
         ·rfl
         ·rfl
        refine hK.out _ _ ⟨(blk_cell (blk_alloc BK650.out _) 0).trans rfl,(blk_cell (blk_alloc BK650.out _) 1).trans rfl,(blk_cell (blk_alloc BK649.out _) 0).trans rfl,(blk_cell (blk_alloc BK649.out _) 1).trans rfl,(blk_cell (blk_alloc BK649.out _) 2).trans rfl,(blk_cell (blk_alloc BK649.out _) 3).trans rfl⟩ (fun hHeld=> ?_);clear hK K;refine norm_ (a':= ?_) ?_ ?_;rotate_left
        ·show Act.put _ (some 26) _=_
         simp only [Act.put,List.setIfInBounds_toArray,List.set_cons_zero,List.set_cons_succ,i64_w,i32_w];rfl
        refine one_ (i:=3) (N:=some 27) #[true,true,true,true,true,false,false,false,false,false,false,false,false,false,false,false,false,false,false,false] rfl rfl (one_of HT_.out (by kernel_rfl)) (by decide) (fun K hK=> ?_);refine Kd.R_append_step k44 (w0:=w0) w0.heap.size (by rfl) (.tmp 24) (.tmp 26) 27 44 (.agg #[(.int .i64 0),(.int .i64 0)]) 16 rfl Try.underlying27 info44 rfl (by decide) (by omega) u9000_ l1 (⟨a0_0,a0_1⟩:S44) [.int .i64 a0_0,.int .i64 a0_1] (fun k_=>(P1_ k_∨w.heap.size≤k_)∧k_≠gb650) (fun _=>False) rfl rfl ?aP (fun _ hk=>hk.elim) ?aF ?aO ?aB ?aS ?aL ?_;(case aP=>exact k44_mkM _ _ _ (⟨a0_0,a0_1⟩:S44));(case aB=>exact ybl_);(case aF=>exact(fun k_ hk=>⟨(.inr (Nat.le_trans yqv47_ hk)),Kd.freshB (g:=gb650) (o:= .cells #[.int .i64 a0_0,.int .i64 a0_1] 44 (0,0)) (ybu_ BK650) k_ hk⟩));(case aO=>exact(yru_ HO_1));(case aS=>exact(below_size ybl_));(case aL=>have:=LMc11.out;omega);intro v652 w29 ho hb hg hat;rw [←Ny651.out]at ho;replace BK649:=am_ (blk_grown (g:=gb649) (o:= .cells #[.int .i64 a0_0,.int .i64 a0_1,.slice A0_2 l0_2.length c0_2,.slice A0_3 l0_3.length c0_3] 53 (0,0)) (ybu_ BK649) hg (Kd.R_ne HO_1.out BK649.out (by decide)));replace BK650:=am_ (blk_grown (g:=gb650) (o:= .cells #[.int .i64 a0_0,.int .i64 a0_1] 44 (0,0)) (ybu_ BK650) hg (Kd.R_away HO_1.out (fun _ hk=>hk.2)));replace HB:=am_ (hb);replace HK:=am_ (Kept.of_grown (S:=(fun k_=>P1_ k_)) hg yqv49_ (fun k_ e_=>(HO_1.out.1 k_ e_).1));have HO653:=am_ (ho);clear HO_1;clear ho hb hg hat;refine hK.out _ _ ⟨(blk_cell BK650.out 0).trans rfl,(blk_cell BK650.out 1).trans rfl,(blk_cell BK649.out 0).trans rfl,(blk_cell BK649.out 1).trans rfl,(blk_cell BK649.out 2).trans rfl,(blk_cell BK649.out 3).trans rfl⟩ (fun hHeld=> ?_);clear hK K;refine norm_ (a':= ?_) ?_ ?_;rotate_left
        ·show Act.put _ (some 27) _=_
         simp only [Act.put,List.setIfInBounds_toArray,List.set_cons_zero,List.set_cons_succ,i64_w,i32_w];rfl
        refine one_ (i:=5) (N:=some 29) #[true,true,true,true,true,true,false,false,false,false,false,false,false,false,false,false,false,false,false,false] rfl rfl (one_of HT_.out (by kernel_rfl)) (by decide) (fun K hK=> ?_);refine goes_ Try.func51 (by kernel_rfl) rfl #[.agg #[.int .i64 a0_0,.int .i64 a0_1]] (by rfl) rfl rfl yk0_ ?_;with_reducible refine(impl_ItemOK.calls a0_0 a0_1 true _ A12.out).mono ?_
        rintro e w30 ⟨rfl,hb⟩;refine⟨_,rfl,?_⟩;replace HO653:=am_ (Kd.R_below (yru_ HO653) hb);replace BK649:=am_ (ybb_ BK649 hb);replace BK650:=am_ (ybb_ BK650 hb);replace HK:=am_ (Kept.below (S:=(fun k_=>P1_ k_)) yqv49_ hb);replace HB:=yst_ hb;(try clear hb)
        
        
        
        refine hK.out _ _ ⟨(blk_cell BK650.out 0).trans rfl,(blk_cell BK650.out 1).trans rfl,(blk_cell BK649.out 0).trans rfl,(blk_cell BK649.out 1).trans rfl,(blk_cell BK649.out 2).trans rfl,(blk_cell BK649.out 3).trans rfl⟩ (fun hHeld=> ?_);clear hK K;refine norm_ (a':= ?_) ?_ ?_;rotate_left
        ·show Act.put _ (some 29) _=_
         simp only [Act.put,List.setIfInBounds_toArray,List.set_cons_zero,List.set_cons_succ,i64_w,i32_w];rfl
        refine pure_ (i:=6) (N:=some 30) (v:= ?_) (a':= ?_) #[true,true,true,true,true,true,true,false,false,false,false,false,false,false,false,false,false,false,false,false] rfl rfl (any_of HT_.out (by kernel_rfl)) (fun _ _ _ h=>h) (Or.inl ⟨by rfl,?_⟩) ?_ ?_;rotate_left
        ·intro w';go_simp;with_reducible rfl
        rotate_left
        ·simp only [Act.put,List.setIfInBounds_toArray,List.set_cons_zero,List.set_cons_succ,i64_w,i32_w];rfl
        refine pure_ (i:=7) (N:=some 31) (v:= ?_) (a':= ?_) #[true,true,true,true,true,true,true,true,false,false,false,false,false,false,false,false,false,false,false,false] rfl rfl (any_of HT_.out (by kernel_rfl)) (fun _ _ _ h=>h) (Or.inl ⟨by rfl,?_⟩) ?_ ?_;rotate_left
        ·intro w';go_simp;with_reducible rfl
        rotate_left
        ·simp only [Act.put,List.setIfInBounds_toArray,List.set_cons_zero,List.set_cons_succ,i64_w,i32_w];rfl
        refine take_ (i:=8) (N:=some 32) (v:= ?_) (a':= ?_) #[true,true,true,true,true,true,true,true,true,false,false,false,false,false,false,false,false,false,false,false] rfl rfl (take_ofW HT_.out HW_.out (by kernel_rfl)) (fun _ _ _ h=>h) (Or.inl ⟨by rfl,?_⟩) hHeld ?_ ?_;rotate_left
        ·rintro w' ⟨s0,s1,s2,s3,s4,s5⟩;go_simp;with_reducible rfl
        rotate_left
        ·simp only [Act.put,List.setIfInBounds_toArray,List.set_cons_zero,List.set_cons_succ,i64_w,i32_w];rfl
        refine pure_ (i:=9) (N:=some 33) (v:= ?_) (a':= ?_) #[true,true,true,true,true,true,true,true,true,true,false,false,false,false,false,false,false,false,false,false] rfl rfl (any_of HT_.out (by kernel_rfl)) (fun _ _ _ h=>h) (Or.inl ⟨by rfl,?_⟩) ?_ ?_;rotate_left
        ·intro w';go_simp;with_reducible rfl
        rotate_left
        ·simp only [Act.put,List.setIfInBounds_toArray,List.set_cons_zero,List.set_cons_succ,i64_w,i32_w];rfl
        refine pure_ (i:=10) (N:=some 34) (v:= ?_) (a':= ?_) #[true,true,true,true,true,true,true,true,true,true,true,false,false,false,false,false,false,false,false,false] rfl rfl (any_of HT_.out (by kernel_rfl)) (fun _ _ _ h=>h) (Or.inl ⟨by rfl,?_⟩) ?_ ?_;rotate_left
        ·intro w';go_simp;with_reducible rfl
        rotate_left
        ·simp only [Act.put,List.setIfInBounds_toArray,List.set_cons_zero,List.set_cons_succ,i64_w,i32_w];rfl
        refine pure_ (i:=11) (N:=some 35) (v:= ?_) (a':= ?_) #[true,true,true,true,true,true,true,true,true,true,true,true,false,false,false,false,false,false,false,false] rfl rfl (any_of HT_.out (by kernel_rfl)) (fun _ _ _ h=>h) (Or.inl ⟨by rfl,?_⟩) ?_ ?_;rotate_left
        ·intro w';go_simp;with_reducible rfl
        rotate_left
        ·simp only [Act.put,List.setIfInBounds_toArray,List.set_cons_zero,List.set_cons_succ,i64_w,i32_w];rfl
        refine pure_ (i:=12) (N:=some 36) (v:= ?_) (a':= ?_) #[true,true,true,true,true,true,true,true,true,true,true,true,true,false,false,false,false,false,false,false] rfl rfl (any_of HT_.out (by kernel_rfl)) (fun _ _ _ h=>h) (Or.inl ⟨by rfl,?_⟩) ?_ ?_;rotate_left
        ·intro w';go_simp;with_reducible rfl
        rotate_left
        ·simp only [Act.put,List.setIfInBounds_toArray,List.set_cons_zero,List.set_cons_succ,i64_w,i32_w];rfl
        refine pure_ (i:=13) (N:=some 37) (v:=undef) (a':= ?_) #[true,true,true,true,true,true,true,true,true,true,true,true,true,true,false,false,false,false,false,false] rfl rfl (any_of HT_.out (by kernel_rfl)) (fun _ _ _ h=>h) (Or.inr ⟨by rfl,rfl⟩) ?_ ?_;rotate_left
        ·simp only [Act.put,List.setIfInBounds_toArray,List.set_cons_zero,List.set_cons_succ,i64_w,i32_w];rfl
        refine pure_ (i:=14) (N:=some 38) (v:=undef) (a':= ?_) #[true,true,true,true,true,true,true,true,true,true,true,true,true,true,true,false,false,false,false,false] rfl rfl (any_of HT_.out (by kernel_rfl)) (fun _ _ _ h=>h) (Or.inr ⟨by rfl,rfl⟩) ?_ ?_;rotate_left
        ·simp only [Act.put,List.setIfInBounds_toArray,List.set_cons_zero,List.set_cons_succ,i64_w,i32_w];rfl
        refine pure_ (i:=15) (N:=some 39) (v:=undef) (a':= ?_) #[true,true,true,true,true,true,true,true,true,true,true,true,true,true,true,true,false,false,false,false] rfl rfl (any_of HT_.out (by kernel_rfl)) (fun _ _ _ h=>h) (Or.inr ⟨by rfl,rfl⟩) ?_ ?_;rotate_left
        ·simp only [Act.put,List.setIfInBounds_toArray,List.set_cons_zero,List.set_cons_succ,i64_w,i32_w];rfl
        refine pure_ (i:=16) (N:=some 40) (v:=undef) (a':= ?_) #[true,true,true,true,true,true,true,true,true,true,true,true,true,true,true,true,true,false,false,false] rfl rfl (any_of HT_.out (by kernel_rfl)) (fun _ _ _ h=>h) (Or.inr ⟨by rfl,rfl⟩) ?_ ?_;rotate_left
        ·simp only [Act.put,List.setIfInBounds_toArray,List.set_cons_zero,List.set_cons_succ,i64_w,i32_w];rfl
        refine pure_ (i:=17) (N:=some 41) (v:= ?_) (a':= ?_) #[true,true,true,true,true,true,true,true,true,true,true,true,true,true,true,true,true,true,false,false] rfl rfl (any_of HT_.out (by kernel_rfl)) (fun _ _ _ h=>h) (Or.inl ⟨by rfl,?_⟩) ?_ ?_;rotate_left
        ·intro w';go_simp;with_reducible rfl
        rotate_left
        ·simp only [Act.put,List.setIfInBounds_toArray,List.set_cons_zero,List.set_cons_succ,i64_w,i32_w];rfl
        refine pure_ (i:=18) (N:=some 6) (v:= ?_) (a':= ?_) #[true,true,true,true,true,true,true,true,true,true,true,true,true,true,true,true,true,true,true,false] rfl rfl (any_of HT_.out (by kernel_rfl)) (fun _ _ _ h=>h) (Or.inl ⟨by rfl,?_⟩) ?_ ?_;rotate_left
        ·intro w';go_simp;with_reducible rfl
        rotate_left
        ·simp only [Act.put,List.setIfInBounds_toArray,List.set_cons_zero,List.set_cons_succ,i64_w,i32_w];rfl
        refine pure_ (i:=19) (N:=some 7) (v:= ?_) (a':= ?_) #[true,true,true,true,true,true,true,true,true,true,true,true,true,true,true,true,true,true,true,true] rfl rfl (any_of HT_.out (by kernel_rfl)) (fun _ _ _ h=>h) (Or.inl ⟨by rfl,?_⟩) ?_ ?_;rotate_left
        ·intro w';go_simp;with_reducible rfl
        rotate_left
        ·simp only [Act.put,List.setIfInBounds_toArray,List.set_cons_zero,List.set_cons_succ,i64_w,i32_w];rfl
        refine done_ (done_of HT_.out (by kernel_rfl)) ?_;try go_wp2
        go_ret2
        exact⟨_,yk1_,by(with_reducible repeat(first|apply Kd.R_alloc|apply Kd.R_drewN|apply Kd.R_drew));exact Kd.R_mono HO653.out (fun _ hk=>hk.1),ybl_,by repeat(first|(with_reducible first|exact HK.out|apply Kept.alloc|apply Kept.drewN|apply Kept.drew|refine Kept.setCell ?_ (.inr GW649.out) _|refine Kept.setCell ?_ (.inr GW650.out) _)|exact HK.out)⟩
      ·replace c13:=Bool.eq_false_iff.mpr c13;subst c13;rw [if_neg (show¬(false=true) by decide)]at H;simp only [Option.some.injEq,Prod.mk.injEq]at H;obtain⟨rfl,rfl⟩:=H;have hcz31:=ye4_ BK649;have hfz31:=yf4_ BK649;try go_wp2_with (first|((with_reducible refine gate_dst (N:=11) rfl ?_);(try(refine gate_guard (by rfl) ?_;dsimp only));refine box_event ?hg (N:=11) ?hd (cs:= #[.int .i64 0,.int .i64 0]) (t:=44) ?hr ?_;(case hd=>rfl);(case hg=>rfl);(case hr=>first|(go_simp;done)|(go_simp;rfl));intro gb650 hg w32 hbox hb;replace HO_1:=am_ (Kd.R_below (Kd.R_elderB (yru_ HO_1) gb650 (Nat.le_of_eq hg.symm)) hb);have BK650:=am_ (hbox);have GW650:=am_ ((by rw [hg];exact yqv48_:w.heap.size≤gb650));replace HK:=am_ (Kept.below (S:=(fun k_=>P1_ k_)) yqv52_ hb);have GE650:=am_ ((ybsz_ hg:w0.heap.size≤gb650));replace HB:=yst_ hb;have NB649_650:=am_ (ybne_ hg BK649);have NB650_649:=am_ ((ybne_ hg BK649).symm);replace BK649:=am_ (ybb_ BK649 hb);clear hb hbox hg;have hnb33:=NB650_649.out;have hnc33:=NB649_650.out;have hcz34_0:w32.cell? ⟨gb650,0,none⟩=some (.int .i64 0):=(blk_cell BK650.out 0).trans rfl;have hcz34_1:w32.cell? ⟨gb650,1,none⟩=some (.int .i64 0):=(blk_cell BK650.out 1).trans rfl;have hfz34_0:=blk_frozen BK650.out 0;have hfz34_1:=blk_frozen BK650.out 1))
       have n0_:Aside0 (Kd.R k44 44 ((w32.setCell ⟨gb650,0,none⟩ (.int .i64 a0_0)).setCell ⟨gb650,1,none⟩ (.int .i64 a0_1)) w0.heap.size (fun k_=>(P1_ k_∨w.heap.size≤k_)∧k_≠gb650) u9000_ l1):=⟨by(with_reducible repeat(first|apply Kd.R_alloc|apply Kd.R_drewN|apply Kd.R_drew));exact Kd.R_mono (Kd.R_far (p:=⟨gb650,1,none⟩) (Kd.R_far (p:=⟨gb650,0,none⟩) (Kd.R_mono HO_1.out (fun k_ hk=>(⟨hk,hk.2⟩:_∧k_≠gb650))) (fun _ hk=>hk.2) (.int .i64 a0_0)) (fun _ hk=>hk.2) (.int .i64 a0_1)) (fun _ hk=>⟨hk.1.1,hk.1.2⟩)⟩
       have n1_:Aside0 (((w32.setCell ⟨gb650,0,none⟩ (.int .i64 a0_0)).setCell ⟨gb650,1,none⟩ (.int .i64 a0_1)).heap[gb649]?=some (.cells #[.int .i64 a0_0,.int .i64 a0_1,.slice A0_2 l0_2.length c0_2,.slice A0_3 l0_3.length c0_3] 53 (0,0))):=⟨yqv46_⟩
       have n2_:Aside0 (((w32.setCell ⟨gb650,0,none⟩ (.int .i64 a0_0)).setCell ⟨gb650,1,none⟩ (.int .i64 a0_1)).heap[gb650]?=some (.cells #[.int .i64 a0_0,.int .i64 a0_1] 44 (0,0))):=⟨(by(with_reducible repeat(first|refine blk_drewN ?_ _|refine blk_drew ?_|refine blk_alloc ?_ _));refine blk_put (cs:= #[.int .i64 a0_0,.int .i64 0]) ?_ 1 _ rfl;(with_reducible repeat(first|refine blk_drewN ?_ _|refine blk_drew ?_|refine blk_alloc ?_ _));refine blk_put (cs:= #[.int .i64 0,.int .i64 0]) ?_ 0 _ rfl;(with_reducible repeat(first|refine blk_drewN ?_ _|refine blk_drew ?_|refine blk_alloc ?_ _));exact BK650.out)⟩
       have n3_:Aside0 (Kept w ((w32.setCell ⟨gb650,0,none⟩ (.int .i64 a0_0)).setCell ⟨gb650,1,none⟩ (.int .i64 a0_1)) (fun k_=>P1_ k_)):=⟨yqv49_⟩
       have n4_:Aside0 (Below w0.heap.size w0 ((w32.setCell ⟨gb650,0,none⟩ (.int .i64 a0_0)).setCell ⟨gb650,1,none⟩ (.int .i64 a0_1))):=⟨ybl_⟩
       (try clear HO_1);(try clear BK649);(try clear BK650);(try clear HK);(try clear HB);generalize ((w32.setCell ⟨gb650,0,none⟩ (.int .i64 a0_0)).setCell ⟨gb650,1,none⟩ (.int .i64 a0_1))=w35 at n0_ n1_ n2_ n3_ n4_⊢;have HO_1:=n0_;have BK649:=n1_;have BK650:=n2_;have HK:=n3_;have HB:=n4_;clear n0_ n1_ n2_ n3_ n4_;replace HO_1:=am_ (Kd.R_drew HO_1.out);replace BK649:=am_ (blk_drew BK649.out);replace BK650:=am_ (blk_drew BK650.out);replace HK:=am_ (Kept.drew HK.out);replace HB:=am_ (below_drew1 HB.out);refine start_ (n:=20) (S:=fun w'=>w'.cell? ⟨gb650,0,none⟩=some (.int .i64 a0_0)∧w'.cell? ⟨gb650,1,none⟩=some (.int .i64 a0_1)) (ds:= []) #[false,false,false,false,false,false,false,false,false,false,false,false,false,false,false,false,false,false,false,false] (by kernel_rfl) rfl rfl ⟨(blk_cell BK650.out 0).trans rfl,(blk_cell BK650.out 1).trans rfl⟩ (fun hHeld=> ?_);refine with_tabW impl_Node_flatten.tab8 impl_Node_flatten.bits8 (fun HT_ HW_=> ?_);generalize w35.drew=w36 at HO_1 BK649 BK650 HK HB hHeld⊢;refine pure_ (i:=0) (N:=some 24) (v:= ?_) (a':= ?_) #[true,false,false,false,false,false,false,false,false,false,false,false,false,false,false,false,false,false,false,false] rfl rfl (any_of HT_.out (by kernel_rfl)) (fun _ _ _ h=>h) (Or.inl ⟨by rfl,?_⟩) ?_ ?_;rotate_left
       ·intro w';go_simp;with_reducible rfl
       rotate_left
       ·simp only [Act.put,List.setIfInBounds_toArray,List.set_cons_zero,List.set_cons_succ,i64_w,i32_w];rfl
       refine take_ (i:=1) (N:=some 25) (v:= ?_) (a':= ?_) #[true,true,false,false,false,false,false,false,false,false,false,false,false,false,false,false,false,false,false,false] rfl rfl (take_ofW HT_.out HW_.out (by kernel_rfl)) (fun _ _ _ h=>h) (Or.inl ⟨by rfl,?_⟩) hHeld ?_ ?_;rotate_left
       ·rintro w' ⟨s0,s1⟩;go_simp;with_reducible rfl
       rotate_left
       ·simp only [Act.put,List.setIfInBounds_toArray,List.set_cons_zero,List.set_cons_succ,i64_w,i32_w];rfl
       refine take_ (i:=4) (N:=some 28) (v:= ?_) (a':= ?_) #[true,true,false,false,true,false,false,false,false,false,false,false,false,false,false,false,false,false,false,false] rfl rfl (take_ofW HT_.out HW_.out (by kernel_rfl)) (fun _ _ _ h=>h) (Or.inl ⟨by rfl,?_⟩) hHeld ?_ ?_;rotate_left
       ·rintro w' ⟨s0,s1⟩;go_simp;with_reducible rfl
       rotate_left
       ·simp only [Act.put,List.setIfInBounds_toArray,List.set_cons_zero,List.set_cons_succ,i64_w,i32_w];rfl
       refine one_ (i:=2) (N:=some 26) #[true,true,true,false,true,false,false,false,false,false,false,false,false,false,false,false,false,false,false,false] rfl rfl (one_of HT_.out (by kernel_rfl)) (by decide) (fun K hK=> ?_);refine value_ (w1:= ?_) (v:= ?_) (by rfl) rfl ?_ ?_;rotate_left 2
       ·go_simp
        constructor
        ·rfl
        ·rfl
       refine hK.out _ _ ⟨(blk_cell (blk_alloc BK650.out _) 0).trans rfl,(blk_cell (blk_alloc BK650.out _) 1).trans rfl⟩ (fun hHeld=> ?_);clear hK K;refine norm_ (a':= ?_) ?_ ?_;rotate_left
       ·show Act.put _ (some 26) _=_
        simp only [Act.put,List.setIfInBounds_toArray,List.set_cons_zero,List.set_cons_succ,i64_w,i32_w];rfl
       refine one_ (i:=3) (N:=some 27) #[true,true,true,true,true,false,false,false,false,false,false,false,false,false,false,false,false,false,false,false] rfl rfl (one_of HT_.out (by kernel_rfl)) (by decide) (fun K hK=> ?_);refine Kd.R_append_step k44 (w0:=w0) w0.heap.size (by rfl) (.tmp 24) (.tmp 26) 27 44 (.agg #[(.int .i64 0),(.int .i64 0)]) 16 rfl Try.underlying27 info44 rfl (by decide) (by omega) u9000_ l1 (⟨a0_0,a0_1⟩:S44) [.int .i64 a0_0,.int .i64 a0_1] (fun k_=>(P1_ k_∨w.heap.size≤k_)∧k_≠gb650) (fun _=>False) rfl rfl ?aP (fun _ hk=>hk.elim) ?aF ?aO ?aB ?aS ?aL ?_;(case aP=>exact k44_mkM _ _ _ (⟨a0_0,a0_1⟩:S44));(case aB=>exact ybl_);(case aF=>exact(fun k_ hk=>⟨(.inr (Nat.le_trans yqv47_ hk)),Kd.freshB (g:=gb650) (o:= .cells #[.int .i64 a0_0,.int .i64 a0_1] 44 (0,0)) (ybu_ BK650) k_ hk⟩));(case aO=>exact(yru_ HO_1));(case aS=>exact(below_size ybl_));(case aL=>have:=LMc11.out;omega);intro v652 w37 ho hb hg hat;rw [←Ny651.out]at ho;replace BK649:=am_ (blk_grown (g:=gb649) (o:= .cells #[.int .i64 a0_0,.int .i64 a0_1,.slice A0_2 l0_2.length c0_2,.slice A0_3 l0_3.length c0_3] 53 (0,0)) (ybu_ BK649) hg (Kd.R_ne HO_1.out BK649.out (by decide)));replace BK650:=am_ (blk_grown (g:=gb650) (o:= .cells #[.int .i64 a0_0,.int .i64 a0_1] 44 (0,0)) (ybu_ BK650) hg (Kd.R_away HO_1.out (fun _ hk=>hk.2)));replace HB:=am_ (hb);replace HK:=am_ (Kept.of_grown (S:=(fun k_=>P1_ k_)) hg yqv49_ (fun k_ e_=>(HO_1.out.1 k_ e_).1));have HO653:=am_ (ho);clear HO_1;clear ho hb hg hat;refine hK.out _ _ ⟨(blk_cell BK650.out 0).trans rfl,(blk_cell BK650.out 1).trans rfl⟩ (fun hHeld=> ?_);clear hK K;refine norm_ (a':= ?_) ?_ ?_;rotate_left
       ·show Act.put _ (some 27) _=_
        simp only [Act.put,List.setIfInBounds_toArray,List.set_cons_zero,List.set_cons_succ,i64_w,i32_w];rfl
       refine one_ (i:=5) (N:=some 29) #[true,true,true,true,true,true,false,false,false,false,false,false,false,false,false,false,false,false,false,false] rfl rfl (one_of HT_.out (by kernel_rfl)) (by decide) (fun K hK=> ?_);refine goes_ Try.func51 (by kernel_rfl) rfl #[.agg #[.int .i64 a0_0,.int .i64 a0_1]] (by rfl) rfl rfl yk0_ ?_;with_reducible refine(impl_ItemOK.calls a0_0 a0_1 false _ A12.out).mono ?_
       rintro e w38 ⟨rfl,hb⟩;refine⟨_,rfl,?_⟩;replace HO653:=am_ (Kd.R_below (yru_ HO653) hb);replace BK649:=am_ (ybb_ BK649 hb);replace BK650:=am_ (ybb_ BK650 hb);replace HK:=am_ (Kept.below (S:=(fun k_=>P1_ k_)) yqv49_ hb);replace HB:=yst_ hb;(try clear hb)
       
       
       
       refine hK.out _ _ ⟨(blk_cell BK650.out 0).trans rfl,(blk_cell BK650.out 1).trans rfl⟩ (fun hHeld=> ?_);clear hK K;refine norm_ (a':= ?_) ?_ ?_;rotate_left
       ·show Act.put _ (some 29) _=_
        simp only [Act.put,List.setIfInBounds_toArray,List.set_cons_zero,List.set_cons_succ,i64_w,i32_w];rfl
       refine pure_ (i:=6) (N:=some 30) (v:= ?_) (a':= ?_) #[true,true,true,true,true,true,true,false,false,false,false,false,false,false,false,false,false,false,false,false] rfl rfl (any_of HT_.out (by kernel_rfl)) (fun _ _ _ h=>h) (Or.inl ⟨by rfl,?_⟩) ?_ ?_;rotate_left
       ·intro w';go_simp;with_reducible rfl
       rotate_left
       ·simp only [Act.put,List.setIfInBounds_toArray,List.set_cons_zero,List.set_cons_succ,i64_w,i32_w];rfl
       refine pure_ (i:=7) (N:=some 31) (v:=undef) (a':= ?_) #[true,true,true,true,true,true,true,true,false,false,false,false,false,false,false,false,false,false,false,false] rfl rfl (any_of HT_.out (by kernel_rfl)) (fun _ _ _ h=>h) (Or.inr ⟨by rfl,rfl⟩) ?_ ?_;rotate_left
       ·simp only [Act.put,List.setIfInBounds_toArray,List.set_cons_zero,List.set_cons_succ,i64_w,i32_w];rfl
       refine pure_ (i:=8) (N:=some 32) (v:=undef) (a':= ?_) #[true,true,true,true,true,true,true,true,true,false,false,false,false,false,false,false,false,false,false,false] rfl rfl (any_of HT_.out (by kernel_rfl)) (fun _ _ _ h=>h) (Or.inr ⟨by rfl,rfl⟩) ?_ ?_;rotate_left
       ·simp only [Act.put,List.setIfInBounds_toArray,List.set_cons_zero,List.set_cons_succ,i64_w,i32_w];rfl
       refine pure_ (i:=9) (N:=some 33) (v:=undef) (a':= ?_) #[true,true,true,true,true,true,true,true,true,true,false,false,false,false,false,false,false,false,false,false] rfl rfl (any_of HT_.out (by kernel_rfl)) (fun _ _ _ h=>h) (Or.inr ⟨by rfl,rfl⟩) ?_ ?_;rotate_left
       ·simp only [Act.put,List.setIfInBounds_toArray,List.set_cons_zero,List.set_cons_succ,i64_w,i32_w];rfl
       refine pure_ (i:=10) (N:=some 34) (v:=undef) (a':= ?_) #[true,true,true,true,true,true,true,true,true,true,true,false,false,false,false,false,false,false,false,false] rfl rfl (any_of HT_.out (by kernel_rfl)) (fun _ _ _ h=>h) (Or.inr ⟨by rfl,rfl⟩) ?_ ?_;rotate_left
       ·simp only [Act.put,List.setIfInBounds_toArray,List.set_cons_zero,List.set_cons_succ,i64_w,i32_w];rfl
       refine pure_ (i:=11) (N:=some 35) (v:= ?_) (a':= ?_) #[true,true,true,true,true,true,true,true,true,true,true,true,false,false,false,false,false,false,false,false] rfl rfl (any_of HT_.out (by kernel_rfl)) (fun _ _ _ h=>h) (Or.inl ⟨by rfl,?_⟩) ?_ ?_;rotate_left
       ·intro w';go_simp;with_reducible rfl
       rotate_left
       ·simp only [Act.put,List.setIfInBounds_toArray,List.set_cons_zero,List.set_cons_succ,i64_w,i32_w];rfl
       refine pure_ (i:=12) (N:=some 36) (v:= ?_) (a':= ?_) #[true,true,true,true,true,true,true,true,true,true,true,true,true,false,false,false,false,false,false,false] rfl rfl (any_of HT_.out (by kernel_rfl)) (fun _ _ _ h=>h) (Or.inl ⟨by rfl,?_⟩) ?_ ?_;rotate_left
       ·intro w';go_simp;with_reducible rfl
       rotate_left
       ·simp only [Act.put,List.setIfInBounds_toArray,List.set_cons_zero,List.set_cons_succ,i64_w,i32_w];rfl
       refine pure_ (i:=13) (N:=some 37) (v:=undef) (a':= ?_) #[true,true,true,true,true,true,true,true,true,true,true,true,true,true,false,false,false,false,false,false] rfl rfl (any_of HT_.out (by kernel_rfl)) (fun _ _ _ h=>h) (Or.inr ⟨by rfl,rfl⟩) ?_ ?_;rotate_left
       ·simp only [Act.put,List.setIfInBounds_toArray,List.set_cons_zero,List.set_cons_succ,i64_w,i32_w];rfl
       refine pure_ (i:=14) (N:=some 38) (v:=undef) (a':= ?_) #[true,true,true,true,true,true,true,true,true,true,true,true,true,true,true,false,false,false,false,false] rfl rfl (any_of HT_.out (by kernel_rfl)) (fun _ _ _ h=>h) (Or.inr ⟨by rfl,rfl⟩) ?_ ?_;rotate_left
       ·simp only [Act.put,List.setIfInBounds_toArray,List.set_cons_zero,List.set_cons_succ,i64_w,i32_w];rfl
       refine pure_ (i:=15) (N:=some 39) (v:=undef) (a':= ?_) #[true,true,true,true,true,true,true,true,true,true,true,true,true,true,true,true,false,false,false,false] rfl rfl (any_of HT_.out (by kernel_rfl)) (fun _ _ _ h=>h) (Or.inr ⟨by rfl,rfl⟩) ?_ ?_;rotate_left
       ·simp only [Act.put,List.setIfInBounds_toArray,List.set_cons_zero,List.set_cons_succ,i64_w,i32_w];rfl
       refine pure_ (i:=16) (N:=some 40) (v:=undef) (a':= ?_) #[true,true,true,true,true,true,true,true,true,true,true,true,true,true,true,true,true,false,false,false] rfl rfl (any_of HT_.out (by kernel_rfl)) (fun _ _ _ h=>h) (Or.inr ⟨by rfl,rfl⟩) ?_ ?_;rotate_left
       ·simp only [Act.put,List.setIfInBounds_toArray,List.set_cons_zero,List.set_cons_succ,i64_w,i32_w];rfl
       refine pure_ (i:=17) (N:=some 41) (v:= ?_) (a':= ?_) #[true,true,true,true,true,true,true,true,true,true,true,true,true,true,true,true,true,true,false,false] rfl rfl (any_of HT_.out (by kernel_rfl)) (fun _ _ _ h=>h) (Or.inl ⟨by rfl,?_⟩) ?_ ?_;rotate_left
       ·intro w';go_simp;with_reducible rfl
       rotate_left
       ·simp only [Act.put,List.setIfInBounds_toArray,List.set_cons_zero,List.set_cons_succ,i64_w,i32_w];rfl
       refine pure_ (i:=18) (N:=some 6) (v:= ?_) (a':= ?_) #[true,true,true,true,true,true,true,true,true,true,true,true,true,true,true,true,true,true,true,false] rfl rfl (any_of HT_.out (by kernel_rfl)) (fun _ _ _ h=>h) (Or.inl ⟨by rfl,?_⟩) ?_ ?_;rotate_left
       ·intro w';go_simp;with_reducible rfl
       rotate_left
       ·simp only [Act.put,List.setIfInBounds_toArray,List.set_cons_zero,List.set_cons_succ,i64_w,i32_w];rfl
       refine pure_ (i:=19) (N:=some 7) (v:= ?_) (a':= ?_) #[true,true,true,true,true,true,true,true,true,true,true,true,true,true,true,true,true,true,true,true] rfl rfl (any_of HT_.out (by kernel_rfl)) (fun _ _ _ h=>h) (Or.inl ⟨by rfl,?_⟩) ?_ ?_;rotate_left
       ·intro w';go_simp;with_reducible rfl
       rotate_left
       ·simp only [Act.put,List.setIfInBounds_toArray,List.set_cons_zero,List.set_cons_succ,i64_w,i32_w];rfl
       refine done_ (done_of HT_.out (by kernel_rfl)) ?_;try go_wp2
       go_ret2
       exact⟨_,yk1_,by(with_reducible repeat(first|apply Kd.R_alloc|apply Kd.R_drewN|apply Kd.R_drew));exact Kd.R_mono HO653.out (fun _ hk=>hk.1),ybl_,by repeat(first|(with_reducible first|exact HK.out|apply Kept.alloc|apply Kept.drewN|apply Kept.drew|refine Kept.setCell ?_ (.inr GW649.out) _|refine Kept.setCell ?_ (.inr GW650.out) _)|exact HK.out)⟩
     ·rw [if_neg c11]at H;exact absurd H (by simp)
    ·replace c10:=Bool.eq_false_iff.mpr c10;subst c10;rw [if_neg (show¬(false=true) by decide)]at H;by_cases c39:a0_0=3
     ·rw [if_pos c39]at H;have c39b0:(a0_0==3)=true:=beq_iff_eq.mpr c39;have c39b1:(a0_0 !=3)=false:=bne_eq_false_iff_eq.mpr c39;clear c39;by_cases c40:a0_1=1
      ·rw [if_pos c40]at H;have c40b0:(a0_1==1)=true:=beq_iff_eq.mpr c40;have c40b1:(a0_1 !=1)=false:=bne_eq_false_iff_eq.mpr c40;clear c40;have H':=am_ H;clear H;have hcz41:=ye4_ BK649;have hfz41:=yf4_ BK649;go_wp2;go_meet;case rel=>exact⟨_,(3),(4),(5),(by first|rfl|(simp;done)|(simp [*];done)),(by first|rfl|(simp;done)|(simp [*];done)),(by first|rfl|(simp;done)|(simp [*];done)),H',⟨by have:=HJ6.out;first|omega|exact Nat.le_refl _⟩,⟨(yru_ HO_1)⟩,⟨(ybu_ BK649)⟩,⟨yqv52_⟩,⟨ybl_⟩⟩
      ·rw [if_neg c40]at H;have c40b0:(a0_1==1)=false:=beq_eq_false_iff_ne.mpr c40;have c40b1:(a0_1 !=1)=true:=bne_iff_ne.mpr c40;have H':=am_ H;clear H;have hcz42:=ye4_ BK649;have hfz42:=yf4_ BK649;go_wp2;go_meet;case rel=>exact⟨_,(3),(0),(5),(by first|rfl|(simp;done)|(simp [*];done)),(by first|rfl|(simp;done)|(simp [*];done)),(by first|rfl|(simp;done)|(simp [*];done)),H',⟨by have:=HJ6.out;first|omega|exact Nat.le_refl _⟩,⟨(yru_ HO_1)⟩,⟨(ybu_ BK649)⟩,⟨yqv52_⟩,⟨ybl_⟩⟩
     ·rw [if_neg c39]at H;have c39b0:(a0_0==3)=false:=beq_eq_false_iff_ne.mpr c39;have c39b1:(a0_0 !=3)=true:=bne_iff_ne.mpr c39;by_cases c43:a0_0=7
      ·rw [if_pos c43]at H;have c43b0:(a0_0==7)=true:=beq_iff_eq.mpr c43;have c43b1:(a0_0 !=7)=false:=bne_eq_false_iff_eq.mpr c43;clear c43;have H':=am_ H;clear H;go_wp2;go_meet;case rel=>exact⟨_,(6),(0),(7),(by first|rfl|(simp;done)|(simp [*];done)),(by first|rfl|(simp;done)|(simp [*];done)),(by first|rfl|(simp;done)|(simp [*];done)),H',⟨by have:=HJ6.out;first|omega|exact Nat.le_refl _⟩,⟨(yru_ HO_1)⟩,⟨(ybu_ BK649)⟩,⟨yqv52_⟩,⟨ybl_⟩⟩
      ·rw [if_neg c43]at H;have c43b0:(a0_0==7)=false:=beq_eq_false_iff_ne.mpr c43;have c43b1:(a0_0 !=7)=true:=bne_iff_ne.mpr c43;by_cases c44:a0_0=8
       ·rw [if_pos c44]at H;have c44b0:(a0_0==8)=true:=beq_iff_eq.mpr c44;have c44b1:(a0_0 !=8)=false:=bne_eq_false_iff_eq.mpr c44;clear c44;have H':=am_ H;clear H;go_wp2;go_meet;case rel=>exact⟨_,(6),(8),(9),(by first|rfl|(simp;done)|(simp [*];done)),(by first|rfl|(simp;done)|(simp [*];done)),(by first|rfl|(simp;done)|(simp [*];done)),H',⟨by have:=HJ6.out;first|omega|exact Nat.le_refl _⟩,⟨(yru_ HO_1)⟩,⟨(ybu_ BK649)⟩,⟨yqv52_⟩,⟨ybl_⟩⟩
       ·rw [if_neg c44]at H;have c44b0:(a0_0==8)=false:=beq_eq_false_iff_ne.mpr c44;have c44b1:(a0_0 !=8)=true:=bne_iff_ne.mpr c44;by_cases c45:a0_0=11
        ·rw [if_pos c45]at H;have c45b0:(a0_0==11)=true:=beq_iff_eq.mpr c45;have c45b1:(a0_0 !=11)=false:=bne_eq_false_iff_eq.mpr c45;clear c45;have H':=am_ H;clear H;try go_wp2
         replace HO_1:=am_ (Kd.R_drew HO_1.out);replace BK649:=am_ (blk_drew BK649.out);replace HK:=am_ (Kept.drew HK.out);replace HB:=am_ (below_drew1 HB.out);refine start_ (n:=4) (S:=fun w'=>w'.cell? ⟨gb649,0,none⟩=some (.int .i64 a0_0)∧w'.cell? ⟨gb649,1,none⟩=some (.int .i64 a0_1)∧w'.cell? ⟨gb649,2,none⟩=some (.slice A0_2 l0_2.length c0_2)∧w'.cell? ⟨gb649,3,none⟩=some (.slice A0_3 l0_3.length c0_3)) (ds:= []) #[false,false,false,false] (by kernel_rfl) rfl rfl ⟨(blk_cell BK649.out 0).trans rfl,(blk_cell BK649.out 1).trans rfl,(blk_cell BK649.out 2).trans rfl,(blk_cell BK649.out 3).trans rfl⟩ (fun hHeld=> ?_);generalize wc.drew=w46 at HO_1 BK649 HK HB hHeld⊢;refine pure_ (i:=0) (N:=some 54) (v:= ?_) (a':= ?_) #[true,false,false,false] rfl rfl (by kernel_rfl) (fun _ _ _ h=>h) (Or.inl ⟨by rfl,?_⟩) ?_ ?_;rotate_left
         ·intro w';go_simp;with_reducible rfl
         rotate_left
         ·simp only [Act.put,List.setIfInBounds_toArray,List.set_cons_zero,List.set_cons_succ,i64_w,i32_w];rfl
         refine pure_ (i:=2) (N:=some 8) (v:= ?_) (a':= ?_) #[true,false,true,false] rfl rfl (by kernel_rfl) (fun _ _ _ h=>h) (Or.inl ⟨by rfl,?_⟩) ?_ ?_;rotate_left
         ·intro w';go_simp;with_reducible rfl
         rotate_left
         ·simp only [Act.put,List.setIfInBounds_toArray,List.set_cons_zero,List.set_cons_succ,i64_w,i32_w];rfl
         refine take_ (i:=1) (N:=some 55) (v:= ?_) (a':= ?_) #[true,true,true,false] rfl rfl (by kernel_rfl) (fun _ _ _ h=>h) (Or.inl ⟨by rfl,?_⟩) hHeld ?_ ?_;rotate_left
         ·rintro w' ⟨s0,s1,s2,s3⟩;go_simp;with_reducible rfl
         rotate_left
         ·simp only [Act.put,List.setIfInBounds_toArray,List.set_cons_zero,List.set_cons_succ,i64_w,i32_w];rfl
         refine pure_ (i:=3) (N:=some 10) (v:= ?_) (a':= ?_) #[true,true,true,true] rfl rfl (by kernel_rfl) (fun _ _ _ h=>h) (Or.inl ⟨by rfl,?_⟩) ?_ ?_;rotate_left
         ·intro w';go_simp;with_reducible rfl
         rotate_left
         ·simp only [Act.put,List.setIfInBounds_toArray,List.set_cons_zero,List.set_cons_succ,i64_w,i32_w];rfl
         refine done_ (by kernel_rfl) ?_;try go_wp2
         go_meet
         case rel=>exact⟨_,(10),(0),(a0_0),(by first|rfl|(simp;done)|(simp [*];done)),(by first|rfl|(simp;done)|(simp [*];done)),(by first|rfl|(simp;done)|(simp [*];done)),H',⟨by have:=HJ6.out;first|omega|exact Nat.le_refl _⟩,⟨(yru_ HO_1)⟩,⟨(ybu_ BK649)⟩,⟨yqv52_⟩,⟨ybl_⟩⟩
        ·rw [if_neg c45]at H;have c45b0:(a0_0==11)=false:=beq_eq_false_iff_ne.mpr c45;have c45b1:(a0_0 !=11)=true:=bne_iff_ne.mpr c45;by_cases c47:a0_0=12
         ·rw [if_pos c47]at H;have c47b0:(a0_0==12)=true:=beq_iff_eq.mpr c47;have c47b1:(a0_0 !=12)=false:=bne_eq_false_iff_eq.mpr c47;clear c47;have H':=am_ H;clear H;try go_wp2
          replace HO_1:=am_ (Kd.R_drew HO_1.out);replace BK649:=am_ (blk_drew BK649.out);replace HK:=am_ (Kept.drew HK.out);replace HB:=am_ (below_drew1 HB.out);refine start_ (n:=4) (S:=fun w'=>w'.cell? ⟨gb649,0,none⟩=some (.int .i64 a0_0)∧w'.cell? ⟨gb649,1,none⟩=some (.int .i64 a0_1)∧w'.cell? ⟨gb649,2,none⟩=some (.slice A0_2 l0_2.length c0_2)∧w'.cell? ⟨gb649,3,none⟩=some (.slice A0_3 l0_3.length c0_3)) (ds:= []) #[false,false,false,false] (by kernel_rfl) rfl rfl ⟨(blk_cell BK649.out 0).trans rfl,(blk_cell BK649.out 1).trans rfl,(blk_cell BK649.out 2).trans rfl,(blk_cell BK649.out 3).trans rfl⟩ (fun hHeld=> ?_);generalize wc.drew=w48 at HO_1 BK649 HK HB hHeld⊢;refine pure_ (i:=0) (N:=some 54) (v:= ?_) (a':= ?_) #[true,false,false,false] rfl rfl (by kernel_rfl) (fun _ _ _ h=>h) (Or.inl ⟨by rfl,?_⟩) ?_ ?_;rotate_left
          ·intro w';go_simp;with_reducible rfl
          rotate_left
          ·simp only [Act.put,List.setIfInBounds_toArray,List.set_cons_zero,List.set_cons_succ,i64_w,i32_w];rfl
          refine pure_ (i:=2) (N:=some 8) (v:= ?_) (a':= ?_) #[true,false,true,false] rfl rfl (by kernel_rfl) (fun _ _ _ h=>h) (Or.inl ⟨by rfl,?_⟩) ?_ ?_;rotate_left
          ·intro w';go_simp;with_reducible rfl
          rotate_left
          ·simp only [Act.put,List.setIfInBounds_toArray,List.set_cons_zero,List.set_cons_succ,i64_w,i32_w];rfl
          refine take_ (i:=1) (N:=some 55) (v:= ?_) (a':= ?_) #[true,true,true,false] rfl rfl (by kernel_rfl) (fun _ _ _ h=>h) (Or.inl ⟨by rfl,?_⟩) hHeld ?_ ?_;rotate_left
          ·rintro w' ⟨s0,s1,s2,s3⟩;go_simp;with_reducible rfl
          rotate_left
          ·simp only [Act.put,List.setIfInBounds_toArray,List.set_cons_zero,List.set_cons_succ,i64_w,i32_w];rfl
          refine pure_ (i:=3) (N:=some 10) (v:= ?_) (a':= ?_) #[true,true,true,true] rfl rfl (by kernel_rfl) (fun _ _ _ h=>h) (Or.inl ⟨by rfl,?_⟩) ?_ ?_;rotate_left
          ·intro w';go_simp;with_reducible rfl
          rotate_left
          ·simp only [Act.put,List.setIfInBounds_toArray,List.set_cons_zero,List.set_cons_succ,i64_w,i32_w];rfl
          refine done_ (by kernel_rfl) ?_;try go_wp2
          go_meet
          case rel=>exact⟨_,(10),(0),(a0_0),(by first|rfl|(simp;done)|(simp [*];done)),(by first|rfl|(simp;done)|(simp [*];done)),(by first|rfl|(simp;done)|(simp [*];done)),H',⟨by have:=HJ6.out;first|omega|exact Nat.le_refl _⟩,⟨(yru_ HO_1)⟩,⟨(ybu_ BK649)⟩,⟨yqv52_⟩,⟨ybl_⟩⟩
         ·rw [if_neg c47]at H;have c47b0:(a0_0==12)=false:=beq_eq_false_iff_ne.mpr c47;have c47b1:(a0_0 !=12)=true:=bne_iff_ne.mpr c47;simp only [Option.some.injEq,Prod.mk.injEq]at H;obtain⟨rfl,rfl⟩:=H;go_wp2;go_ret2;exact⟨_,yk1_,by first|exact Kd.R_nil _ _ _ _ _|exact Kd.N_nil _ _ _ _ _|exact Kd.V_nil _ _ _ _ _|exact Kd.Q_nil _ _ _ _ _|exact Kd.S_nil _ _ _ _ _,ybl_,by repeat(first|(with_reducible first|exact HK.out|apply Kept.alloc|apply Kept.drewN|apply Kept.drew|refine Kept.setCell ?_ (.inr GW649.out) _)|exact HK.out)⟩
 case rest=>
  clear HC4;try clear c1
  try clear p2
  try clear c3
  try clear c4
  try clear c5
  try clear c10
  try clear c11
  try clear c13
  try clear c33
  try clear c39
  try clear c39b0
  try clear c39b1
  try clear c40
  try clear c40b0
  try clear c40b1
  try clear c43
  try clear c43b0
  try clear c43b1
  try clear c44
  try clear c44b0
  try clear c44b1
  try clear c45
  try clear c45b0
  try clear c45b1
  try clear c47
  try clear c47b0
  try clear c47b1
  try clear hcz31
  try clear hcz31
  try clear hcz31
  try clear hcz31
  try clear hcz34_0
  try clear hcz34_1
  try clear hcz41
  try clear hcz41
  try clear hcz41
  try clear hcz41
  try clear hcz42
  try clear hcz42
  try clear hcz42
  try clear hcz42
  try clear hfz31
  try clear hfz31
  try clear hfz31
  try clear hfz31
  try clear hfz34_0
  try clear hfz34_1
  try clear hfz41
  try clear hfz41
  try clear hfz41
  try clear hfz41
  try clear hfz42
  try clear hfz42
  try clear hfz42
  try clear hfz42
  obtain⟨kq,x8_3,x9_3,x10_3,rfl,rfl,rfl,HA,HJ3,HO_1,BK649,HK,HB⟩:=hcut;cases kq with
  |zero=>exact absurd HA.out (by simp [impl_Node_flatten.j1])
  |succ kj3=>
   have H:=HA.out;clear HA;simp only [impl_Node_flatten.j1]at H;have HC49:=am_ H;clear H;go_upto_region 20 with (fail)
   go_cut [78] (fun v78 wc=> ∃(kq:Nat) (x78_48:Bool),v78= .bool x78_48∧Aside0 (impl_Node_flatten.j2 kq l1 a2 x8_3 x9_3 x10_3 x78_48 a0_0 a0_1 l0_2 l0_3=some (r1,r2))∧Aside0 (kq≤kj3)∧Aside0 (Kd.R k44 44 wc w0.heap.size (fun k_=>(P1_ k_∨w.heap.size≤k_)) u9000_ l1)∧Aside0 (wc.heap[gb649]?=some (.cells #[.int .i64 a0_0,.int .i64 a0_1,(.slice A0_2 l0_2.length c0_2),(.slice A0_3 l0_3.length c0_3)] 53 (0,0)))∧Aside0 (Kept w wc (fun k_=>P1_ k_))∧Aside0 (Below w0.heap.size w0 wc))
   case first=>
    have H:=HC49.out;clear HC49;by_cases c50:a0_1=0
    ·rw [if_pos c50]at H;have c50b0:(a0_1==0)=true:=beq_iff_eq.mpr c50;have c50b1:(a0_1 !=0)=false:=bne_eq_false_iff_eq.mpr c50;clear c50;(first|rw [c50b0]|(simp only [i64_w,i32_w];rw [c50b0])|skip);by_cases c51:x9_3=0
     ·rw [if_pos c51]at H;have c51b0:(x9_3==0)=true:=beq_iff_eq.mpr c51;have c51b1:(x9_3 !=0)=false:=bne_eq_false_iff_eq.mpr c51;clear c51;have H':=am_ H;clear H;have hcz52:=ye4_ BK649;have hfz52:=yf4_ BK649;go_wp2;go_meet;case rel=>exact⟨_,(decide ((l0_3.length:Int)>0)),(by first|rfl|(simp;done)|(simp [*];done)),H',⟨by have:=HJ3.out;first|omega|exact Nat.le_refl _⟩,⟨(yru_ HO_1)⟩,⟨(ybu_ BK649)⟩,⟨yqv52_⟩,⟨ybl_⟩⟩
     ·rw [if_neg c51]at H;have c51b0:(x9_3==0)=false:=beq_eq_false_iff_ne.mpr c51;have c51b1:(x9_3 !=0)=true:=bne_iff_ne.mpr c51;have H':=am_ H;clear H;have hcz53:=ye4_ BK649;have hfz53:=yf4_ BK649;go_wp2;go_meet;case rel=>exact⟨_,(false),(by first|rfl|(simp;done)|(simp [*];done)),H',⟨by have:=HJ3.out;first|omega|exact Nat.le_refl _⟩,⟨(yru_ HO_1)⟩,⟨(ybu_ BK649)⟩,⟨yqv52_⟩,⟨ybl_⟩⟩
    ·rw [if_neg c50]at H;have c50b0:(a0_1==0)=false:=beq_eq_false_iff_ne.mpr c50;have c50b1:(a0_1 !=0)=true:=bne_iff_ne.mpr c50;(first|rw [c50b0]|(simp only [i64_w,i32_w];rw [c50b0])|skip);by_cases c54:a0_0=3
     ·rw [if_pos c54]at H;have c54b0:(a0_0==3)=true:=beq_iff_eq.mpr c54;have c54b1:(a0_0 !=3)=false:=bne_eq_false_iff_eq.mpr c54;clear c54;by_cases c55:a0_1=1
      ·rw [if_pos c55]at H;have c55b0:(a0_1==1)=true:=beq_iff_eq.mpr c55;have c55b1:(a0_1 !=1)=false:=bne_eq_false_iff_eq.mpr c55;clear c55;by_cases c56:x9_3=0
       ·rw [if_pos c56]at H;have c56b0:(x9_3==0)=true:=beq_iff_eq.mpr c56;have c56b1:(x9_3 !=0)=false:=bne_eq_false_iff_eq.mpr c56;clear c56;have H':=am_ H;clear H;have hcz57:=ye4_ BK649;have hfz57:=yf4_ BK649;go_wp2;go_meet;case rel=>exact⟨_,(decide ((l0_3.length:Int)>0)),(by first|rfl|(simp;done)|(simp [*];done)),H',⟨by have:=HJ3.out;first|omega|exact Nat.le_refl _⟩,⟨(yru_ HO_1)⟩,⟨(ybu_ BK649)⟩,⟨yqv52_⟩,⟨ybl_⟩⟩
       ·rw [if_neg c56]at H;have c56b0:(x9_3==0)=false:=beq_eq_false_iff_ne.mpr c56;have c56b1:(x9_3 !=0)=true:=bne_iff_ne.mpr c56;have H':=am_ H;clear H;have hcz58:=ye4_ BK649;have hfz58:=yf4_ BK649;go_wp2;go_meet;case rel=>exact⟨_,(false),(by first|rfl|(simp;done)|(simp [*];done)),H',⟨by have:=HJ3.out;first|omega|exact Nat.le_refl _⟩,⟨(yru_ HO_1)⟩,⟨(ybu_ BK649)⟩,⟨yqv52_⟩,⟨ybl_⟩⟩
      ·rw [if_neg c55]at H;have c55b0:(a0_1==1)=false:=beq_eq_false_iff_ne.mpr c55;have c55b1:(a0_1 !=1)=true:=bne_iff_ne.mpr c55;have H':=am_ H;clear H;have hcz59:=ye4_ BK649;have hfz59:=yf4_ BK649;go_wp2;go_meet;case rel=>exact⟨_,(true),(by first|rfl|(simp;done)|(simp [*];done)),H',⟨by have:=HJ3.out;first|omega|exact Nat.le_refl _⟩,⟨(yru_ HO_1)⟩,⟨(ybu_ BK649)⟩,⟨yqv52_⟩,⟨ybl_⟩⟩
     ·rw [if_neg c54]at H;have c54b0:(a0_0==3)=false:=beq_eq_false_iff_ne.mpr c54;have c54b1:(a0_0 !=3)=true:=bne_iff_ne.mpr c54;have H':=am_ H;clear H;have hcz60:=ye4_ BK649;have hfz60:=yf4_ BK649;go_wp2;go_meet;case rel=>exact⟨_,(true),(by first|rfl|(simp;done)|(simp [*];done)),H',⟨by have:=HJ3.out;first|omega|exact Nat.le_refl _⟩,⟨(yru_ HO_1)⟩,⟨(ybu_ BK649)⟩,⟨yqv52_⟩,⟨ybl_⟩⟩
   case rest=>
    clear HC49;try clear c1
    try clear p2
    try clear c3
    try clear c4
    try clear c5
    try clear c10
    try clear c11
    try clear c13
    try clear c33
    try clear c39
    try clear c39b0
    try clear c39b1
    try clear c40
    try clear c40b0
    try clear c40b1
    try clear c43
    try clear c43b0
    try clear c43b1
    try clear c44
    try clear c44b0
    try clear c44b1
    try clear c45
    try clear c45b0
    try clear c45b1
    try clear c47
    try clear c47b0
    try clear c47b1
    try clear c50
    try clear c50b0
    try clear c50b1
    try clear c51
    try clear c51b0
    try clear c51b1
    try clear c54
    try clear c54b0
    try clear c54b1
    try clear c55
    try clear c55b0
    try clear c55b1
    try clear c56
    try clear c56b0
    try clear c56b1
    try clear hcz31
    try clear hcz31
    try clear hcz31
    try clear hcz31
    try clear hcz34_0
    try clear hcz34_1
    try clear hcz41
    try clear hcz41
    try clear hcz41
    try clear hcz41
    try clear hcz42
    try clear hcz42
    try clear hcz42
    try clear hcz42
    try clear hcz52
    try clear hcz52
    try clear hcz52
    try clear hcz52
    try clear hcz53
    try clear hcz53
    try clear hcz53
    try clear hcz53
    try clear hcz57
    try clear hcz57
    try clear hcz57
    try clear hcz57
    try clear hcz58
    try clear hcz58
    try clear hcz58
    try clear hcz58
    try clear hcz59
    try clear hcz59
    try clear hcz59
    try clear hcz59
    try clear hcz60
    try clear hcz60
    try clear hcz60
    try clear hcz60
    try clear hfz31
    try clear hfz31
    try clear hfz31
    try clear hfz31
    try clear hfz34_0
    try clear hfz34_1
    try clear hfz41
    try clear hfz41
    try clear hfz41
    try clear hfz41
    try clear hfz42
    try clear hfz42
    try clear hfz42
    try clear hfz42
    try clear hfz52
    try clear hfz52
    try clear hfz52
    try clear hfz52
    try clear hfz53
    try clear hfz53
    try clear hfz53
    try clear hfz53
    try clear hfz57
    try clear hfz57
    try clear hfz57
    try clear hfz57
    try clear hfz58
    try clear hfz58
    try clear hfz58
    try clear hfz58
    try clear hfz59
    try clear hfz59
    try clear hfz59
    try clear hfz59
    try clear hfz60
    try clear hfz60
    try clear hfz60
    try clear hfz60
    try clear p2
    obtain⟨kq,x78_48,rfl,HA,HJ48,HO_1,BK649,HK,HB⟩:=hcut;cases kq with
    |zero=>exact absurd HA.out (by simp [impl_Node_flatten.j2])
    |succ kj48=>
     have H:=HA.out;clear HA;simp only [impl_Node_flatten.j2]at H;by_cases c61:x78_48=true
     ·subst c61;rw [if_pos rfl]at H;simp only [Option.some.injEq,Prod.mk.injEq]at H;obtain⟨rfl,rfl⟩:=H;go_wp2;go_ret2;exact⟨_,yk1_,by first|exact Kd.R_nil _ _ _ _ _|exact Kd.N_nil _ _ _ _ _|exact Kd.V_nil _ _ _ _ _|exact Kd.Q_nil _ _ _ _ _|exact Kd.S_nil _ _ _ _ _,ybl_,by repeat(first|(with_reducible first|exact HK.out|apply Kept.alloc|apply Kept.drewN|apply Kept.drew|refine Kept.setCell ?_ (.inr GW649.out) _)|exact HK.out)⟩
     ·replace c61:=Bool.eq_false_iff.mpr c61;subst c61;rw [if_neg (show¬(false=true) by decide)]at H;by_cases c62:l1.length<8796093022208
      ·rw [if_pos c62]at H;have LMc62:=am_ c62;clear c62;obtain⟨y655,hy655⟩: ∃y_:List (S44),y_=(l1++ [(⟨x8_3,0⟩:S44)]):=⟨_,rfl⟩
       replace H:((impl_flatten.f kj48 y655 l0_2 (wrap64 (a2+1))).bind fun bt658=>(if bt658.2=true then(if x9_3>0 then(if bt658.1.length<8796093022208 then((impl_flatten.f kj48 (bt658.1++ [(⟨x9_3,0⟩:S44)]) l0_3 (wrap64 (a2+1))).bind fun bt665=>(if bt665.1.length<8796093022208 then(some ((bt665.1++ [(⟨x10_3,0⟩:S44)]),bt665.2))else(none)))else(none))else(if bt658.1.length<8796093022208 then(some ((bt658.1++ [(⟨x10_3,0⟩:S44)]),bt658.2))else(none)))else(some (([]:List (S44)),false))))=some (r1,r2):=by first|(rw [hy655];with_reducible exact H)|(have H2_:=(Option.bind_some _ _).symm.trans H;rw [hy655];with_reducible exact H2_)|(have H2_:=(Option.bind_some _ _).symm.trans H;with_reducible exact H2_)|with_reducible exact H|(rw [hy655];exact H)|exact H
       have Ny655:=am_ hy655;clear hy655;replace H:=Option.bind_eq_some_iff.mp H;obtain⟨⟨t658,t661⟩,A630,H⟩:=H;try dsimp only at H
       have A63:=am_ A630;clear A630;by_cases c64:t661=true
       ·subst c64;rw [if_pos rfl]at H;by_cases c65:x9_3>0
        ·rw [if_pos c65]at H;have c65b0:decide (0<x9_3)=true:=decide_eq_true c65;clear c65;by_cases c66:t658.length<8796093022208
         ·rw [if_pos c66]at H;have LMc66:=am_ c66;clear c66;obtain⟨y662,hy662⟩: ∃y_:List (S44),y_=(t658++ [(⟨x9_3,0⟩:S44)]):=⟨_,rfl⟩
          replace H:((impl_flatten.f kj48 y662 l0_3 (wrap64 (a2+1))).bind fun bt665=>(if bt665.1.length<8796093022208 then(some ((bt665.1++ [(⟨x10_3,0⟩:S44)]),bt665.2))else(none)))=some (r1,r2):=by first|(rw [hy662];with_reducible exact H)|(have H2_:=(Option.bind_some _ _).symm.trans H;rw [hy662];with_reducible exact H2_)|(have H2_:=(Option.bind_some _ _).symm.trans H;with_reducible exact H2_)|with_reducible exact H|(rw [hy662];exact H)|exact H
          have Ny662:=am_ hy662;clear hy662;replace H:=Option.bind_eq_some_iff.mp H;obtain⟨⟨t665,t668⟩,A670,H⟩:=H;try dsimp only at H
          have A67:=am_ A670;clear A670;by_cases c68:t665.length<8796093022208
          ·rw [if_pos c68]at H;have LMc68:=am_ c68;clear c68;obtain⟨y669,hy669⟩: ∃y_:List (S44),y_=(t665++ [(⟨x10_3,0⟩:S44)]):=⟨_,rfl⟩
           replace H:(some (y669,t668))=some (r1,r2):=by first|(rw [hy669];with_reducible exact H)|(have H2_:=(Option.bind_some _ _).symm.trans H;rw [hy669];with_reducible exact H2_)|(have H2_:=(Option.bind_some _ _).symm.trans H;with_reducible exact H2_)|with_reducible exact H|(rw [hy669];exact H)|exact H
           have Ny669:=am_ hy669;clear hy669;simp only [Option.some.injEq,Prod.mk.injEq]at H;obtain⟨rfl,rfl⟩:=H;try go_wp2
           replace HO_1:=am_ (Kd.R_drew HO_1.out);replace BK649:=am_ (blk_drew BK649.out);replace HK:=am_ (Kept.drew HK.out);replace HB:=am_ (below_drew1 HB.out);refine start_ (n:=15) (S:=fun w'=>w'.cell? ⟨gb649,0,none⟩=some (.int .i64 a0_0)∧w'.cell? ⟨gb649,1,none⟩=some (.int .i64 a0_1)∧w'.cell? ⟨gb649,2,none⟩=some (.slice A0_2 l0_2.length c0_2)∧w'.cell? ⟨gb649,3,none⟩=some (.slice A0_3 l0_3.length c0_3)) (ds:= []) #[false,false,false,false,false,false,false,false,false,false,false,false,false,false,false] (by kernel_rfl) rfl rfl ⟨(blk_cell BK649.out 0).trans rfl,(blk_cell BK649.out 1).trans rfl,(blk_cell BK649.out 2).trans rfl,(blk_cell BK649.out 3).trans rfl⟩ (fun hHeld=> ?_);refine with_tabW impl_Node_flatten.tab22 impl_Node_flatten.bits22 (fun HT_ HW_=> ?_);generalize wc.drew=w69 at HO_1 BK649 HK HB hHeld⊢;refine pure_ (i:=0) (N:=some 80) (v:= ?_) (a':= ?_) #[true,false,false,false,false,false,false,false,false,false,false,false,false,false,false] rfl rfl (any_of HT_.out (by kernel_rfl)) (fun _ _ _ h=>h) (Or.inl ⟨by rfl,?_⟩) ?_ ?_;rotate_left
           ·intro w';go_simp;with_reducible rfl
           rotate_left
           ·simp only [Act.put,List.setIfInBounds_toArray,List.set_cons_zero,List.set_cons_succ,i64_w,i32_w];rfl
           refine pure_ (i:=1) (N:=some 81) (v:= ?_) (a':= ?_) #[true,true,false,false,false,false,false,false,false,false,false,false,false,false,false] rfl rfl (any_of HT_.out (by kernel_rfl)) (fun _ _ _ h=>h) (Or.inl ⟨by rfl,?_⟩) ?_ ?_;rotate_left
           ·intro w';go_simp;with_reducible rfl
           rotate_left
           ·simp only [Act.put,List.setIfInBounds_toArray,List.set_cons_zero,List.set_cons_succ,i64_w,i32_w];rfl
           refine pure_ (i:=2) (N:=some 82) (v:= ?_) (a':= ?_) #[true,true,true,false,false,false,false,false,false,false,false,false,false,false,false] rfl rfl (any_of HT_.out (by kernel_rfl)) (fun _ _ _ h=>h) (Or.inl ⟨by rfl,?_⟩) ?_ ?_;rotate_left
           ·intro w';go_simp;with_reducible rfl
           rotate_left
           ·simp only [Act.put,List.setIfInBounds_toArray,List.set_cons_zero,List.set_cons_succ,i64_w,i32_w];rfl
           refine pure_ (i:=5) (N:=some 85) (v:= ?_) (a':= ?_) #[true,true,true,false,false,true,false,false,false,false,false,false,false,false,false] rfl rfl (any_of HT_.out (by kernel_rfl)) (fun _ _ _ h=>h) (Or.inl ⟨by rfl,?_⟩) ?_ ?_;rotate_left
           ·intro w';go_simp;with_reducible rfl
           rotate_left
           ·simp only [Act.put,List.setIfInBounds_toArray,List.set_cons_zero,List.set_cons_succ,i64_w,i32_w];rfl
           refine pure_ (i:=7) (N:=some 87) (v:= ?_) (a':= ?_) #[true,true,true,false,false,true,false,true,false,false,false,false,false,false,false] rfl rfl (any_of HT_.out (by kernel_rfl)) (fun _ _ _ h=>h) (Or.inl ⟨by rfl,?_⟩) ?_ ?_;rotate_left
           ·intro w';go_simp;with_reducible rfl
           rotate_left
           ·simp only [Act.put,List.setIfInBounds_toArray,List.set_cons_zero,List.set_cons_succ,i64_w,i32_w];rfl
           refine pure_ (i:=8) (N:=some 88) (v:= ?_) (a':= ?_) #[true,true,true,false,false,true,false,true,true,false,false,false,false,false,false] rfl rfl (any_of HT_.out (by kernel_rfl)) (fun _ _ _ h=>h) (Or.inl ⟨by rfl,?_⟩) ?_ ?_;rotate_left
           ·intro w';go_simp;with_reducible rfl
           rotate_left
           ·simp only [Act.put,List.setIfInBounds_toArray,List.set_cons_zero,List.set_cons_succ,i64_w,i32_w];rfl
           refine take_ (i:=6) (N:=some 86) (v:= ?_) (a':= ?_) #[true,true,true,false,false,true,true,true,true,false,false,false,false,false,false] rfl rfl (take_ofW HT_.out HW_.out (by kernel_rfl)) (fun _ _ _ h=>h) (Or.inl ⟨by rfl,?_⟩) hHeld ?_ ?_;rotate_left
           ·rintro w' ⟨s0,s1,s2,s3⟩;go_simp;with_reducible rfl
           rotate_left
           ·simp only [Act.put,List.setIfInBounds_toArray,List.set_cons_zero,List.set_cons_succ,i64_w,i32_w];rfl
           refine one_ (i:=3) (N:=some 83) #[true,true,true,true,false,true,true,true,true,false,false,false,false,false,false] rfl rfl (one_of HT_.out (by kernel_rfl)) (by decide) (fun K hK=> ?_);refine value_ (w1:= ?_) (v:= ?_) (by rfl) rfl ?_ ?_;rotate_left 2
           ·go_simp
            constructor
            ·rfl
            ·rfl
           refine hK.out _ _ ⟨(blk_cell (blk_alloc BK649.out _) 0).trans rfl,(blk_cell (blk_alloc BK649.out _) 1).trans rfl,(blk_cell (blk_alloc BK649.out _) 2).trans rfl,(blk_cell (blk_alloc BK649.out _) 3).trans rfl⟩ (fun hHeld=> ?_);clear hK K;refine norm_ (a':= ?_) ?_ ?_;rotate_left
           ·show Act.put _ (some 83) _=_
            simp only [Act.put,List.setIfInBounds_toArray,List.set_cons_zero,List.set_cons_succ,i64_w,i32_w];rfl
           refine one_ (i:=4) (N:=some 84) #[true,true,true,true,true,true,true,true,true,false,false,false,false,false,false] rfl rfl (one_of HT_.out (by kernel_rfl)) (by decide) (fun K hK=> ?_);refine Kd.R_append_step k44 (w0:=w0) w0.heap.size (by rfl) (.tmp 80) (.tmp 83) 27 44 (.agg #[(.int .i64 0),(.int .i64 0)]) 16 rfl Try.underlying27 info44 rfl (by decide) (by omega) u9000_ l1 (⟨x8_3,0⟩:S44) [.int .i64 x8_3,.int .i64 0] (fun k_=>(P1_ k_∨w.heap.size≤k_)) (fun _=>False) rfl rfl ?aP (fun _ hk=>hk.elim) ?aF ?aO ?aB ?aS ?aL ?_;(case aP=>exact k44_mkM _ _ _ (⟨x8_3,0⟩:S44));(case aB=>exact ybl_);(case aF=>exact(fun k_ hk=>(.inr (Nat.le_trans yqv48_ hk))));(case aO=>exact(yru_ HO_1));(case aS=>exact(below_size ybl_));(case aL=>have:=LMc62.out;omega);intro v656 w70 ho hb hg hat;rw [←Ny655.out]at ho;replace BK649:=am_ (blk_grown (g:=gb649) (o:= .cells #[.int .i64 a0_0,.int .i64 a0_1,.slice A0_2 l0_2.length c0_2,.slice A0_3 l0_3.length c0_3] 53 (0,0)) (ybu_ BK649) hg (Kd.R_ne HO_1.out BK649.out (by decide)));replace HB:=am_ (hb);replace HK:=am_ (Kept.of_grown (S:=(fun k_=>P1_ k_)) hg yqv52_ (fun k_ e_=>(HO_1.out.1 k_ e_)));have HO657:=am_ (ho);clear HO_1;clear ho hb hg hat;obtain⟨Ao71,co71,eo71⟩:=Kd.R_slice HO657.out;(first|subst eo71|(injection eo71 with nf1_ nf2_ nf3_;have yf4_:=f1_.symm;have nf5_:=f3_.symm;clear nf1_ nf2_ nf3_;subst yf4_;subst nf5_));refine hK.out _ _ ⟨(blk_cell BK649.out 0).trans rfl,(blk_cell BK649.out 1).trans rfl,(blk_cell BK649.out 2).trans rfl,(blk_cell BK649.out 3).trans rfl⟩ (fun hHeld=> ?_);clear hK K;refine norm_ (a':= ?_) ?_ ?_;rotate_left
           ·show Act.put _ (some 84) _=_
            simp only [Act.put,List.setIfInBounds_toArray,List.set_cons_zero,List.set_cons_succ,i64_w,i32_w];rfl
           refine one_ (i:=9) (N:=some 89) #[true,true,true,true,true,true,true,true,true,true,false,false,false,false,false] rfl rfl (one_of HT_.out (by kernel_rfl)) (by decide) (fun K hK=> ?_);refine goes_ Try.func30 (by kernel_rfl) rfl #[.slice Ao71 y655.length co71,.slice A0_2 l0_2.length c0_2,.int .i64 (wrap64 (a2+1))] (by rfl) rfl rfl yk0_ ?_;with_reducible refine(IHO kj48 (by have:=HJ3.out;have:=HJ48.out;omega) (fun k_=>some k_=(.slice Ao71 y655.length co71:Value).ownBlock) (.slice Ao71 y655.length co71) y655 _ _ l0_2 (wrap64 (a2+1)) t658 true w0 _ ?side1 ?side2 ?side3 ?side4 A63.out).mono ?_
           (case side1=>exact ybl_);(case side2=>exact Kd.R_tight rfl HO657.out);(case side3=>exact Kd.C_kept_call HR0_2.out yqv52_ (fun k_ hs_=>(fun e_=>(HO657.out.1 k_ e_.symm)) hs_));(case side4=>exact HC0_2.out);rintro e w72 ⟨v659,rfl,ho0,hb,hkp⟩;refine⟨_,rfl,?_⟩;replace BK649:=am_ (blk_kept (ybu_ BK649) hkp (fun hs_=>(fun e_=>(Kd.R_ne HO657.out BK649.out (by decide)) e_) hs_));have HO660:=am_ (Kd.R_mono (ok':=fun k_=>(P1_ k_∨w.heap.size≤k_)) ho0 (fun k_ hk_=>Or.elim hk_ (fun hs_=>(HO657.out.1 k_ (hs_).symm)) (fun hn_=>(.inr (Nat.le_trans yqv48_ hn_)))));replace HK:=am_ (Kept.then_ (S:=(fun k_=>P1_ k_)) yqv52_ hkp (fun k_ hs_=>(fun e_=>(HO657.out.1 k_ e_.symm)) hs_));replace HB:=am_ (hb);clear HO657;(try clear hb);(try clear hkp);(try clear ho0);refine hK.out _ _ ⟨(blk_cell BK649.out 0).trans rfl,(blk_cell BK649.out 1).trans rfl,(blk_cell BK649.out 2).trans rfl,(blk_cell BK649.out 3).trans rfl⟩ (fun hHeld=> ?_);clear hK K;refine norm_ (a':= ?_) ?_ ?_;rotate_left
           ·show Act.put _ (some 89) _=_
            simp only [Act.put,List.setIfInBounds_toArray,List.set_cons_zero,List.set_cons_succ,i64_w,i32_w];rfl
           refine pure_ (i:=10) (N:=some 79) (v:= ?_) (a':= ?_) #[true,true,true,true,true,true,true,true,true,true,true,false,false,false,false] rfl rfl (any_of HT_.out (by kernel_rfl)) (fun _ _ _ h=>h) (Or.inl ⟨by rfl,?_⟩) ?_ ?_;rotate_left
           ·intro w';go_simp;with_reducible rfl
           rotate_left
           ·simp only [Act.put,List.setIfInBounds_toArray,List.set_cons_zero,List.set_cons_succ,i64_w,i32_w];rfl
           refine pure_ (i:=11) (N:=some 90) (v:= ?_) (a':= ?_) #[true,true,true,true,true,true,true,true,true,true,true,true,false,false,false] rfl rfl (any_of HT_.out (by kernel_rfl)) (fun _ _ _ h=>h) (Or.inl ⟨by rfl,?_⟩) ?_ ?_;rotate_left
           ·intro w';go_simp;with_reducible rfl
           rotate_left
           ·simp only [Act.put,List.setIfInBounds_toArray,List.set_cons_zero,List.set_cons_succ,i64_w,i32_w];rfl
           refine pure_ (i:=12) (N:=some 91) (v:= ?_) (a':= ?_) #[true,true,true,true,true,true,true,true,true,true,true,true,true,false,false] rfl rfl (any_of HT_.out (by kernel_rfl)) (fun _ _ _ h=>h) (Or.inl ⟨by rfl,?_⟩) ?_ ?_;rotate_left
           ·intro w';go_simp;with_reducible rfl
           rotate_left
           ·simp only [Act.put,List.setIfInBounds_toArray,List.set_cons_zero,List.set_cons_succ,i64_w,i32_w];rfl
           refine pure_ (i:=13) (N:=some 1) (v:= ?_) (a':= ?_) #[true,true,true,true,true,true,true,true,true,true,true,true,true,true,false] rfl rfl (any_of HT_.out (by kernel_rfl)) (fun _ _ _ h=>h) (Or.inl ⟨by rfl,?_⟩) ?_ ?_;rotate_left
           ·intro w';go_simp;with_reducible rfl
           rotate_left
           ·simp only [Act.put,List.setIfInBounds_toArray,List.set_cons_zero,List.set_cons_succ,i64_w,i32_w];rfl
           refine pure_ (i:=14) (N:=some 12) (v:= ?_) (a':= ?_) #[true,true,true,true,true,true,true,true,true,true,true,true,true,true,true] rfl rfl (any_of HT_.out (by kernel_rfl)) (fun _ _ _ h=>h) (Or.inl ⟨by rfl,?_⟩) ?_ ?_;rotate_left
           ·intro w';go_simp;with_reducible rfl
           rotate_left
           ·simp only [Act.put,List.setIfInBounds_toArray,List.set_cons_zero,List.set_cons_succ,i64_w,i32_w];rfl
           refine done_ (done_of HT_.out (by kernel_rfl)) ?_;try go_wp2
           replace HO660:=am_ (Kd.R_drew HO660.out);replace BK649:=am_ (blk_drew BK649.out);replace HK:=am_ (Kept.drew HK.out);replace HB:=am_ (below_drew1 HB.out);refine start_ (n:=15) (S:=fun w'=>w'.cell? ⟨gb649,0,none⟩=some (.int .i64 a0_0)∧w'.cell? ⟨gb649,1,none⟩=some (.int .i64 a0_1)∧w'.cell? ⟨gb649,2,none⟩=some (.slice A0_2 l0_2.length c0_2)∧w'.cell? ⟨gb649,3,none⟩=some (.slice A0_3 l0_3.length c0_3)) (ds:= []) #[false,false,false,false,false,false,false,false,false,false,false,false,false,false,false] (by kernel_rfl) rfl rfl ⟨(blk_cell BK649.out 0).trans rfl,(blk_cell BK649.out 1).trans rfl,(blk_cell BK649.out 2).trans rfl,(blk_cell BK649.out 3).trans rfl⟩ (fun hHeld=> ?_);refine with_tabW impl_Node_flatten.tab26 impl_Node_flatten.bits26 (fun HT_ HW_=> ?_);generalize w72.drew=w73 at HO660 BK649 HK HB hHeld⊢;refine pure_ (i:=0) (N:=some 97) (v:= ?_) (a':= ?_) #[true,false,false,false,false,false,false,false,false,false,false,false,false,false,false] rfl rfl (any_of HT_.out (by kernel_rfl)) (fun _ _ _ h=>h) (Or.inl ⟨by rfl,?_⟩) ?_ ?_;rotate_left
           ·intro w';go_simp;with_reducible rfl
           rotate_left
           ·simp only [Act.put,List.setIfInBounds_toArray,List.set_cons_zero,List.set_cons_succ,i64_w,i32_w];rfl
           refine pure_ (i:=1) (N:=some 98) (v:= ?_) (a':= ?_) #[true,true,false,false,false,false,false,false,false,false,false,false,false,false,false] rfl rfl (any_of HT_.out (by kernel_rfl)) (fun _ _ _ h=>h) (Or.inl ⟨by rfl,?_⟩) ?_ ?_;rotate_left
           ·intro w';go_simp;with_reducible rfl
           rotate_left
           ·simp only [Act.put,List.setIfInBounds_toArray,List.set_cons_zero,List.set_cons_succ,i64_w,i32_w];rfl
           refine pure_ (i:=2) (N:=some 99) (v:= ?_) (a':= ?_) #[true,true,true,false,false,false,false,false,false,false,false,false,false,false,false] rfl rfl (any_of HT_.out (by kernel_rfl)) (fun _ _ _ h=>h) (Or.inl ⟨by rfl,?_⟩) ?_ ?_;rotate_left
           ·intro w';go_simp;with_reducible rfl
           rotate_left
           ·simp only [Act.put,List.setIfInBounds_toArray,List.set_cons_zero,List.set_cons_succ,i64_w,i32_w];rfl
           refine pure_ (i:=5) (N:=some 102) (v:= ?_) (a':= ?_) #[true,true,true,false,false,true,false,false,false,false,false,false,false,false,false] rfl rfl (any_of HT_.out (by kernel_rfl)) (fun _ _ _ h=>h) (Or.inl ⟨by rfl,?_⟩) ?_ ?_;rotate_left
           ·intro w';go_simp;with_reducible rfl
           rotate_left
           ·simp only [Act.put,List.setIfInBounds_toArray,List.set_cons_zero,List.set_cons_succ,i64_w,i32_w];rfl
           refine pure_ (i:=7) (N:=some 104) (v:= ?_) (a':= ?_) #[true,true,true,false,false,true,false,true,false,false,false,false,false,false,false] rfl rfl (any_of HT_.out (by kernel_rfl)) (fun _ _ _ h=>h) (Or.inl ⟨by rfl,?_⟩) ?_ ?_;rotate_left
           ·intro w';go_simp;with_reducible rfl
           rotate_left
           ·simp only [Act.put,List.setIfInBounds_toArray,List.set_cons_zero,List.set_cons_succ,i64_w,i32_w];rfl
           refine pure_ (i:=8) (N:=some 105) (v:= ?_) (a':= ?_) #[true,true,true,false,false,true,false,true,true,false,false,false,false,false,false] rfl rfl (any_of HT_.out (by kernel_rfl)) (fun _ _ _ h=>h) (Or.inl ⟨by rfl,?_⟩) ?_ ?_;rotate_left
           ·intro w';go_simp;with_reducible rfl
           rotate_left
           ·simp only [Act.put,List.setIfInBounds_toArray,List.set_cons_zero,List.set_cons_succ,i64_w,i32_w];rfl
           refine take_ (i:=6) (N:=some 103) (v:= ?_) (a':= ?_) #[true,true,true,false,false,true,true,true,true,false,false,false,false,false,false] rfl rfl (take_ofW HT_.out HW_.out (by kernel_rfl)) (fun _ _ _ h=>h) (Or.inl ⟨by rfl,?_⟩) hHeld ?_ ?_;rotate_left
           ·rintro w' ⟨s0,s1,s2,s3⟩;go_simp;with_reducible rfl
           rotate_left
           ·simp only [Act.put,List.setIfInBounds_toArray,List.set_cons_zero,List.set_cons_succ,i64_w,i32_w];rfl
           refine one_ (i:=3) (N:=some 100) #[true,true,true,true,false,true,true,true,true,false,false,false,false,false,false] rfl rfl (one_of HT_.out (by kernel_rfl)) (by decide) (fun K hK=> ?_);refine value_ (w1:= ?_) (v:= ?_) (by rfl) rfl ?_ ?_;rotate_left 2
           ·go_simp
            constructor
            ·rfl
            ·rfl
           refine hK.out _ _ ⟨(blk_cell (blk_alloc BK649.out _) 0).trans rfl,(blk_cell (blk_alloc BK649.out _) 1).trans rfl,(blk_cell (blk_alloc BK649.out _) 2).trans rfl,(blk_cell (blk_alloc BK649.out _) 3).trans rfl⟩ (fun hHeld=> ?_);clear hK K;refine norm_ (a':= ?_) ?_ ?_;rotate_left
           ·show Act.put _ (some 100) _=_
            simp only [Act.put,List.setIfInBounds_toArray,List.set_cons_zero,List.set_cons_succ,i64_w,i32_w];rfl
           refine one_ (i:=4) (N:=some 101) #[true,true,true,true,true,true,true,true,true,false,false,false,false,false,false] rfl rfl (one_of HT_.out (by kernel_rfl)) (by decide) (fun K hK=> ?_);refine Kd.R_append_step k44 (w0:=w0) w0.heap.size (by rfl) (.tmp 97) (.tmp 100) 27 44 (.agg #[(.int .i64 0),(.int .i64 0)]) 16 rfl Try.underlying27 info44 rfl (by decide) (by omega) v659 t658 (⟨x9_3,0⟩:S44) [.int .i64 x9_3,.int .i64 0] (fun k_=>(P1_ k_∨w.heap.size≤k_)) (fun _=>False) rfl rfl ?aP (fun _ hk=>hk.elim) ?aF ?aO ?aB ?aS ?aL ?_;(case aP=>exact k44_mkM _ _ _ (⟨x9_3,0⟩:S44));(case aB=>exact ybl_);(case aF=>exact(fun k_ hk=>(.inr (Nat.le_trans yqv48_ hk))));(case aO=>exact(yru_ HO660));(case aS=>exact(below_size ybl_));(case aL=>have:=LMc66.out;omega);intro v663 w74 ho hb hg hat;rw [←Ny662.out]at ho;replace BK649:=am_ (blk_grown (g:=gb649) (o:= .cells #[.int .i64 a0_0,.int .i64 a0_1,.slice A0_2 l0_2.length c0_2,.slice A0_3 l0_3.length c0_3] 53 (0,0)) (ybu_ BK649) hg (Kd.R_ne HO660.out BK649.out (by decide)));replace HB:=am_ (hb);replace HK:=am_ (Kept.of_grown (S:=(fun k_=>P1_ k_)) hg yqv52_ (fun k_ e_=>(HO660.out.1 k_ e_)));have HO664:=am_ (ho);clear HO660;clear ho hb hg hat;obtain⟨Ao75,co75,eo75⟩:=Kd.R_slice HO664.out;(first|subst eo75|(injection eo75 with nf1_ nf2_ nf3_;have yf4_:=f1_.symm;have nf5_:=f3_.symm;clear nf1_ nf2_ nf3_;subst yf4_;subst nf5_));refine hK.out _ _ ⟨(blk_cell BK649.out 0).trans rfl,(blk_cell BK649.out 1).trans rfl,(blk_cell BK649.out 2).trans rfl,(blk_cell BK649.out 3).trans rfl⟩ (fun hHeld=> ?_);clear hK K;refine norm_ (a':= ?_) ?_ ?_;rotate_left
           ·show Act.put _ (some 101) _=_
            simp only [Act.put,List.setIfInBounds_toArray,List.set_cons_zero,List.set_cons_succ,i64_w,i32_w];rfl
           refine one_ (i:=9) (N:=some 106) #[true,true,true,true,true,true,true,true,true,true,false,false,false,false,false] rfl rfl (one_of HT_.out (by kernel_rfl)) (by decide) (fun K hK=> ?_);refine goes_ Try.func30 (by kernel_rfl) rfl #[.slice Ao75 y662.length co75,.slice A0_3 l0_3.length c0_3,.int .i64 (wrap64 (a2+1))] (by rfl) rfl rfl yk0_ ?_;with_reducible refine(IHO kj48 (by have:=HJ3.out;have:=HJ48.out;omega) (fun k_=>some k_=(.slice Ao75 y662.length co75:Value).ownBlock) (.slice Ao75 y662.length co75) y662 _ _ l0_3 (wrap64 (a2+1)) t665 t668 w0 _ ?side1 ?side2 ?side3 ?side4 A67.out).mono ?_
           (case side1=>exact ybl_);(case side2=>exact Kd.R_tight rfl HO664.out);(case side3=>exact Kd.C_kept_call HR0_3.out yqv52_ (fun k_ hs_=>(fun e_=>(HO664.out.1 k_ e_.symm)) hs_));(case side4=>exact HC0_3.out);rintro e w76 ⟨v666,rfl,ho0,hb,hkp⟩;refine⟨_,rfl,?_⟩;replace BK649:=am_ (blk_kept (ybu_ BK649) hkp (fun hs_=>(fun e_=>(Kd.R_ne HO664.out BK649.out (by decide)) e_) hs_));have HO667:=am_ (Kd.R_mono (ok':=fun k_=>(P1_ k_∨w.heap.size≤k_)) ho0 (fun k_ hk_=>Or.elim hk_ (fun hs_=>(HO664.out.1 k_ (hs_).symm)) (fun hn_=>(.inr (Nat.le_trans yqv48_ hn_)))));replace HK:=am_ (Kept.then_ (S:=(fun k_=>P1_ k_)) yqv52_ hkp (fun k_ hs_=>(fun e_=>(HO664.out.1 k_ e_.symm)) hs_));replace HB:=am_ (hb);clear HO664;(try clear hb);(try clear hkp);(try clear ho0);refine hK.out _ _ ⟨(blk_cell BK649.out 0).trans rfl,(blk_cell BK649.out 1).trans rfl,(blk_cell BK649.out 2).trans rfl,(blk_cell BK649.out 3).trans rfl⟩ (fun hHeld=> ?_);clear hK K;refine norm_ (a':= ?_) ?_ ?_;rotate_left
           ·show Act.put _ (some 106) _=_
            simp only [Act.put,List.setIfInBounds_toArray,List.set_cons_zero,List.set_cons_succ,i64_w,i32_w];rfl
           refine pure_ (i:=10) (N:=some 96) (v:= ?_) (a':= ?_) #[true,true,true,true,true,true,true,true,true,true,true,false,false,false,false] rfl rfl (any_of HT_.out (by kernel_rfl)) (fun _ _ _ h=>h) (Or.inl ⟨by rfl,?_⟩) ?_ ?_;rotate_left
           ·intro w';go_simp;with_reducible rfl
           rotate_left
           ·simp only [Act.put,List.setIfInBounds_toArray,List.set_cons_zero,List.set_cons_succ,i64_w,i32_w];rfl
           refine pure_ (i:=11) (N:=some 107) (v:= ?_) (a':= ?_) #[true,true,true,true,true,true,true,true,true,true,true,true,false,false,false] rfl rfl (any_of HT_.out (by kernel_rfl)) (fun _ _ _ h=>h) (Or.inl ⟨by rfl,?_⟩) ?_ ?_;rotate_left
           ·intro w';go_simp;with_reducible rfl
           rotate_left
           ·simp only [Act.put,List.setIfInBounds_toArray,List.set_cons_zero,List.set_cons_succ,i64_w,i32_w];rfl
           refine pure_ (i:=12) (N:=some 108) (v:= ?_) (a':= ?_) #[true,true,true,true,true,true,true,true,true,true,true,true,true,false,false] rfl rfl (any_of HT_.out (by kernel_rfl)) (fun _ _ _ h=>h) (Or.inl ⟨by rfl,?_⟩) ?_ ?_;rotate_left
           ·intro w';go_simp;with_reducible rfl
           rotate_left
           ·simp only [Act.put,List.setIfInBounds_toArray,List.set_cons_zero,List.set_cons_succ,i64_w,i32_w];rfl
           refine pure_ (i:=13) (N:=some 1) (v:= ?_) (a':= ?_) #[true,true,true,true,true,true,true,true,true,true,true,true,true,true,false] rfl rfl (any_of HT_.out (by kernel_rfl)) (fun _ _ _ h=>h) (Or.inl ⟨by rfl,?_⟩) ?_ ?_;rotate_left
           ·intro w';go_simp;with_reducible rfl
           rotate_left
           ·simp only [Act.put,List.setIfInBounds_toArray,List.set_cons_zero,List.set_cons_succ,i64_w,i32_w];rfl
           refine pure_ (i:=14) (N:=some 12) (v:= ?_) (a':= ?_) #[true,true,true,true,true,true,true,true,true,true,true,true,true,true,true] rfl rfl (any_of HT_.out (by kernel_rfl)) (fun _ _ _ h=>h) (Or.inl ⟨by rfl,?_⟩) ?_ ?_;rotate_left
           ·intro w';go_simp;with_reducible rfl
           rotate_left
           ·simp only [Act.put,List.setIfInBounds_toArray,List.set_cons_zero,List.set_cons_succ,i64_w,i32_w];rfl
           refine done_ (done_of HT_.out (by kernel_rfl)) ?_;try go_wp2_with (first|((with_reducible refine gate_builtin (b:= .append) (xs:= #[.tmp 109,.tmp 112]) rfl ?_);(try(refine gate_guard (by rfl) ?_;dsimp only));at_builtin;refine Kd.R_append k44 (w0:=w0) w0.heap.size rfl (.tmp 109) (.tmp 112) 27 44 (.agg #[(.int .i64 0),(.int .i64 0)]) 16 rfl Try.underlying27 info44 rfl (by decide) (by omega) v666 t665 (⟨x10_3,0⟩:S44) [.int .i64 x10_3,.int .i64 0] (fun k_=>(P1_ k_∨w.heap.size≤k_)) (fun _=>False) rfl rfl ?aP (fun _ hk=>hk.elim) ?aF ?aO ?aB ?aS ?aL ?_;(case aP=>exact k44_mkM _ _ _ (⟨x10_3,0⟩:S44));(case aB=>exact ybl_);(case aF=>exact(fun k_ hk=>(.inr (Nat.le_trans yqv48_ hk))));(case aO=>exact(yru_ HO667));(case aS=>exact(below_size ybl_));(case aL=>have:=LMc68.out;omega);intro v670 w77 ho hb hg hat;rw [←Ny669.out]at ho;replace BK649:=am_ (blk_grown (g:=gb649) (o:= .cells #[.int .i64 a0_0,.int .i64 a0_1,.slice A0_2 l0_2.length c0_2,.slice A0_3 l0_3.length c0_3] 53 (0,0)) (ybu_ BK649) hg (Kd.R_ne HO667.out BK649.out (by decide)));replace HB:=am_ (hb);replace HK:=am_ (Kept.of_grown (S:=(fun k_=>P1_ k_)) hg yqv52_ (fun k_ e_=>(HO667.out.1 k_ e_)));have HO671:=am_ (ho);clear HO667;clear ho hb hg hat))
           go_ret2
           exact⟨_,yk1_,by(with_reducible repeat(first|apply Kd.R_alloc|apply Kd.R_drewN|apply Kd.R_drew));exact HO671.out,ybl_,by repeat(first|(with_reducible first|exact HK.out|apply Kept.alloc|apply Kept.drewN|apply Kept.drew|refine Kept.setCell ?_ (.inr GW649.out) _)|exact HK.out)⟩
          ·rw [if_neg c68]at H;exact absurd H (by simp)
         ·rw [if_neg c66]at H;exact absurd H (by simp)
        ·rw [if_neg c65]at H;have c65b0:decide (0<x9_3)=false:=decide_eq_false c65;clear c65;by_cases c78:t658.length<8796093022208
         ·rw [if_pos c78]at H;have LMc78:=am_ c78;clear c78;obtain⟨y672,hy672⟩: ∃y_:List (S44),y_=(t658++ [(⟨x10_3,0⟩:S44)]):=⟨_,rfl⟩
          replace H:(some (y672,true))=some (r1,r2):=by first|(rw [hy672];with_reducible exact H)|(have H2_:=(Option.bind_some _ _).symm.trans H;rw [hy672];with_reducible exact H2_)|(have H2_:=(Option.bind_some _ _).symm.trans H;with_reducible exact H2_)|with_reducible exact H|(rw [hy672];exact H)|exact H
          have Ny672:=am_ hy672;clear hy672;simp only [Option.some.injEq,Prod.mk.injEq]at H;obtain⟨rfl,rfl⟩:=H;try go_wp2
          replace HO_1:=am_ (Kd.R_drew HO_1.out);replace BK649:=am_ (blk_drew BK649.out);replace HK:=am_ (Kept.drew HK.out);replace HB:=am_ (below_drew1 HB.out);refine start_ (n:=15) (S:=fun w'=>w'.cell? ⟨gb649,0,none⟩=some (.int .i64 a0_0)∧w'.cell? ⟨gb649,1,none⟩=some (.int .i64 a0_1)∧w'.cell? ⟨gb649,2,none⟩=some (.slice A0_2 l0_2.length c0_2)∧w'.cell? ⟨gb649,3,none⟩=some (.slice A0_3 l0_3.length c0_3)) (ds:= []) #[false,false,false,false,false,false,false,false,false,false,false,false,false,false,false] (by kernel_rfl) rfl rfl ⟨(blk_cell BK649.out 0).trans rfl,(blk_cell BK649.out 1).trans rfl,(blk_cell BK649.out 2).trans rfl,(blk_cell BK649.out 3).trans rfl⟩ (fun hHeld=> ?_);refine with_tabW impl_Node_flatten.tab22 impl_Node_flatten.bits22 (fun HT_ HW_=> ?_);generalize wc.drew=w79 at HO_1 BK649 HK HB hHeld⊢;refine pure_ (i:=0) (N:=some 80) (v:= ?_) (a':= ?_) #[true,false,false,false,false,false,false,false,false,false,false,false,false,false,false] rfl rfl (any_of HT_.out (by kernel_rfl)) (fun _ _ _ h=>h) (Or.inl ⟨by rfl,?_⟩) ?_ ?_;rotate_left
          ·intro w';go_simp;with_reducible rfl
          rotate_left
          ·simp only [Act.put,List.setIfInBounds_toArray,List.set_cons_zero,List.set_cons_succ,i64_w,i32_w];rfl
          refine pure_ (i:=1) (N:=some 81) (v:= ?_) (a':= ?_) #[true,true,false,false,false,false,false,false,false,false,false,false,false,false,false] rfl rfl (any_of HT_.out (by kernel_rfl)) (fun _ _ _ h=>h) (Or.inl ⟨by rfl,?_⟩) ?_ ?_;rotate_left
          ·intro w';go_simp;with_reducible rfl
          rotate_left
          ·simp only [Act.put,List.setIfInBounds_toArray,List.set_cons_zero,List.set_cons_succ,i64_w,i32_w];rfl
          refine pure_ (i:=2) (N:=some 82) (v:= ?_) (a':= ?_) #[true,true,true,false,false,false,false,false,false,false,false,false,false,false,false] rfl rfl (any_of HT_.out (by kernel_rfl)) (fun _ _ _ h=>h) (Or.inl ⟨by rfl,?_⟩) ?_ ?_;rotate_left
          ·intro w';go_simp;with_reducible rfl
          rotate_left
          ·simp only [Act.put,List.setIfInBounds_toArray,List.set_cons_zero,List.set_cons_succ,i64_w,i32_w];rfl
          refine pure_ (i:=5) (N:=some 85) (v:= ?_) (a':= ?_) #[true,true,true,false,false,true,false,false,false,false,false,false,false,false,false] rfl rfl (any_of HT_.out (by kernel_rfl)) (fun _ _ _ h=>h) (Or.inl ⟨by rfl,?_⟩) ?_ ?_;rotate_left
          ·intro w';go_simp;with_reducible rfl
          rotate_left
          ·simp only [Act.put,List.setIfInBounds_toArray,List.set_cons_zero,List.set_cons_succ,i64_w,i32_w];rfl
          refine pure_ (i:=7) (N:=some 87) (v:= ?_) (a':= ?_) #[true,true,true,false,false,true,false,true,false,false,false,false,false,false,false] rfl rfl (any_of HT_.out (by kernel_rfl)) (fun _ _ _ h=>h) (Or.inl ⟨by rfl,?_⟩) ?_ ?_;rotate_left
          ·intro w';go_simp;with_reducible rfl
          rotate_left
          ·simp only [Act.put,List.setIfInBounds_toArray,List.set_cons_zero,List.set_cons_succ,i64_w,i32_w];rfl
          refine pure_ (i:=8) (N:=some 88) (v:= ?_) (a':= ?_) #[true,true,true,false,false,true,false,true,true,false,false,false,false,false,false] rfl rfl (any_of HT_.out (by kernel_rfl)) (fun _ _ _ h=>h) (Or.inl ⟨by rfl,?_⟩) ?_ ?_;rotate_left
          ·intro w';go_simp;with_reducible rfl
          rotate_left
          ·simp only [Act.put,List.setIfInBounds_toArray,List.set_cons_zero,List.set_cons_succ,i64_w,i32_w];rfl
          refine take_ (i:=6) (N:=some 86) (v:= ?_) (a':= ?_) #[true,true,true,false,false,true,true,true,true,false,false,false,false,false,false] rfl rfl (take_ofW HT_.out HW_.out (by kernel_rfl)) (fun _ _ _ h=>h) (Or.inl ⟨by rfl,?_⟩) hHeld ?_ ?_;rotate_left
          ·rintro w' ⟨s0,s1,s2,s3⟩;go_simp;with_reducible rfl
          rotate_left
          ·simp only [Act.put,List.setIfInBounds_toArray,List.set_cons_zero,List.set_cons_succ,i64_w,i32_w];rfl
          refine one_ (i:=3) (N:=some 83) #[true,true,true,true,false,true,true,true,true,false,false,false,false,false,false] rfl rfl (one_of HT_.out (by kernel_rfl)) (by decide) (fun K hK=> ?_);refine value_ (w1:= ?_) (v:= ?_) (by rfl) rfl ?_ ?_;rotate_left 2
          ·go_simp
           constructor
           ·rfl
           ·rfl
          refine hK.out _ _ ⟨(blk_cell (blk_alloc BK649.out _) 0).trans rfl,(blk_cell (blk_alloc BK649.out _) 1).trans rfl,(blk_cell (blk_alloc BK649.out _) 2).trans rfl,(blk_cell (blk_alloc BK649.out _) 3).trans rfl⟩ (fun hHeld=> ?_);clear hK K;refine norm_ (a':= ?_) ?_ ?_;rotate_left
          ·show Act.put _ (some 83) _=_
           simp only [Act.put,List.setIfInBounds_toArray,List.set_cons_zero,List.set_cons_succ,i64_w,i32_w];rfl
          refine one_ (i:=4) (N:=some 84) #[true,true,true,true,true,true,true,true,true,false,false,false,false,false,false] rfl rfl (one_of HT_.out (by kernel_rfl)) (by decide) (fun K hK=> ?_);refine Kd.R_append_step k44 (w0:=w0) w0.heap.size (by rfl) (.tmp 80) (.tmp 83) 27 44 (.agg #[(.int .i64 0),(.int .i64 0)]) 16 rfl Try.underlying27 info44 rfl (by decide) (by omega) u9000_ l1 (⟨x8_3,0⟩:S44) [.int .i64 x8_3,.int .i64 0] (fun k_=>(P1_ k_∨w.heap.size≤k_)) (fun _=>False) rfl rfl ?aP (fun _ hk=>hk.elim) ?aF ?aO ?aB ?aS ?aL ?_;(case aP=>exact k44_mkM _ _ _ (⟨x8_3,0⟩:S44));(case aB=>exact ybl_);(case aF=>exact(fun k_ hk=>(.inr (Nat.le_trans yqv48_ hk))));(case aO=>exact(yru_ HO_1));(case aS=>exact(below_size ybl_));(case aL=>have:=LMc62.out;omega);intro v656 w80 ho hb hg hat;rw [←Ny655.out]at ho;replace BK649:=am_ (blk_grown (g:=gb649) (o:= .cells #[.int .i64 a0_0,.int .i64 a0_1,.slice A0_2 l0_2.length c0_2,.slice A0_3 l0_3.length c0_3] 53 (0,0)) (ybu_ BK649) hg (Kd.R_ne HO_1.out BK649.out (by decide)));replace HB:=am_ (hb);replace HK:=am_ (Kept.of_grown (S:=(fun k_=>P1_ k_)) hg yqv52_ (fun k_ e_=>(HO_1.out.1 k_ e_)));have HO657:=am_ (ho);clear HO_1;clear ho hb hg hat;obtain⟨Ao81,co81,eo81⟩:=Kd.R_slice HO657.out;(first|subst eo81|(injection eo81 with nf1_ nf2_ nf3_;have yf4_:=f1_.symm;have nf5_:=f3_.symm;clear nf1_ nf2_ nf3_;subst yf4_;subst nf5_));refine hK.out _ _ ⟨(blk_cell BK649.out 0).trans rfl,(blk_cell BK649.out 1).trans rfl,(blk_cell BK649.out 2).trans rfl,(blk_cell BK649.out 3).trans rfl⟩ (fun hHeld=> ?_);clear hK K;refine norm_ (a':= ?_) ?_ ?_;rotate_left
          ·show Act.put _ (some 84) _=_
           simp only [Act.put,List.setIfInBounds_toArray,List.set_cons_zero,List.set_cons_succ,i64_w,i32_w];rfl
          refine one_ (i:=9) (N:=some 89) #[true,true,true,true,true,true,true,true,true,true,false,false,false,false,false] rfl rfl (one_of HT_.out (by kernel_rfl)) (by decide) (fun K hK=> ?_);refine goes_ Try.func30 (by kernel_rfl) rfl #[.slice Ao81 y655.length co81,.slice A0_2 l0_2.length c0_2,.int .i64 (wrap64 (a2+1))] (by rfl) rfl rfl yk0_ ?_;with_reducible refine(IHO kj48 (by have:=HJ3.out;have:=HJ48.out;omega) (fun k_=>some k_=(.slice Ao81 y655.length co81:Value).ownBlock) (.slice Ao81 y655.length co81) y655 _ _ l0_2 (wrap64 (a2+1)) t658 true w0 _ ?side1 ?side2 ?side3 ?side4 A63.out).mono ?_
          (case side1=>exact ybl_);(case side2=>exact Kd.R_tight rfl HO657.out);(case side3=>exact Kd.C_kept_call HR0_2.out yqv52_ (fun k_ hs_=>(fun e_=>(HO657.out.1 k_ e_.symm)) hs_));(case side4=>exact HC0_2.out);rintro e w82 ⟨v659,rfl,ho0,hb,hkp⟩;refine⟨_,rfl,?_⟩;replace BK649:=am_ (blk_kept (ybu_ BK649) hkp (fun hs_=>(fun e_=>(Kd.R_ne HO657.out BK649.out (by decide)) e_) hs_));have HO660:=am_ (Kd.R_mono (ok':=fun k_=>(P1_ k_∨w.heap.size≤k_)) ho0 (fun k_ hk_=>Or.elim hk_ (fun hs_=>(HO657.out.1 k_ (hs_).symm)) (fun hn_=>(.inr (Nat.le_trans yqv48_ hn_)))));replace HK:=am_ (Kept.then_ (S:=(fun k_=>P1_ k_)) yqv52_ hkp (fun k_ hs_=>(fun e_=>(HO657.out.1 k_ e_.symm)) hs_));replace HB:=am_ (hb);clear HO657;(try clear hb);(try clear hkp);(try clear ho0);refine hK.out _ _ ⟨(blk_cell BK649.out 0).trans rfl,(blk_cell BK649.out 1).trans rfl,(blk_cell BK649.out 2).trans rfl,(blk_cell BK649.out 3).trans rfl⟩ (fun hHeld=> ?_);clear hK K;refine norm_ (a':= ?_) ?_ ?_;rotate_left
          ·show Act.put _ (some 89) _=_
           simp only [Act.put,List.setIfInBounds_toArray,List.set_cons_zero,List.set_cons_succ,i64_w,i32_w];rfl
          refine pure_ (i:=10) (N:=some 79) (v:= ?_) (a':= ?_) #[true,true,true,true,true,true,true,true,true,true,true,false,false,false,false] rfl rfl (any_of HT_.out (by kernel_rfl)) (fun _ _ _ h=>h) (Or.inl ⟨by rfl,?_⟩) ?_ ?_;rotate_left
          ·intro w';go_simp;with_reducible rfl
          rotate_left
          ·simp only [Act.put,List.setIfInBounds_toArray,List.set_cons_zero,List.set_cons_succ,i64_w,i32_w];rfl
          refine pure_ (i:=11) (N:=some 90) (v:= ?_) (a':= ?_) #[true,true,true,true,true,true,true,true,true,true,true,true,false,false,false] rfl rfl (any_of HT_.out (by kernel_rfl)) (fun _ _ _ h=>h) (Or.inl ⟨by rfl,?_⟩) ?_ ?_;rotate_left
          ·intro w';go_simp;with_reducible rfl
          rotate_left
          ·simp only [Act.put,List.setIfInBounds_toArray,List.set_cons_zero,List.set_cons_succ,i64_w,i32_w];rfl
          refine pure_ (i:=12) (N:=some 91) (v:= ?_) (a':= ?_) #[true,true,true,true,true,true,true,true,true,true,true,true,true,false,false] rfl rfl (any_of HT_.out (by kernel_rfl)) (fun _ _ _ h=>h) (Or.inl ⟨by rfl,?_⟩) ?_ ?_;rotate_left
          ·intro w';go_simp;with_reducible rfl
          rotate_left
          ·simp only [Act.put,List.setIfInBounds_toArray,List.set_cons_zero,List.set_cons_succ,i64_w,i32_w];rfl
          refine pure_ (i:=13) (N:=some 1) (v:= ?_) (a':= ?_) #[true,true,true,true,true,true,true,true,true,true,true,true,true,true,false] rfl rfl (any_of HT_.out (by kernel_rfl)) (fun _ _ _ h=>h) (Or.inl ⟨by rfl,?_⟩) ?_ ?_;rotate_left
          ·intro w';go_simp;with_reducible rfl
          rotate_left
          ·simp only [Act.put,List.setIfInBounds_toArray,List.set_cons_zero,List.set_cons_succ,i64_w,i32_w];rfl
          refine pure_ (i:=14) (N:=some 12) (v:= ?_) (a':= ?_) #[true,true,true,true,true,true,true,true,true,true,true,true,true,true,true] rfl rfl (any_of HT_.out (by kernel_rfl)) (fun _ _ _ h=>h) (Or.inl ⟨by rfl,?_⟩) ?_ ?_;rotate_left
          ·intro w';go_simp;with_reducible rfl
          rotate_left
          ·simp only [Act.put,List.setIfInBounds_toArray,List.set_cons_zero,List.set_cons_succ,i64_w,i32_w];rfl
          refine done_ (done_of HT_.out (by kernel_rfl)) ?_;try go_wp2_with (first|((with_reducible refine gate_builtin (b:= .append) (xs:= #[.tmp 109,.tmp 112]) rfl ?_);(try(refine gate_guard (by rfl) ?_;dsimp only));at_builtin;refine Kd.R_append k44 (w0:=w0) w0.heap.size rfl (.tmp 109) (.tmp 112) 27 44 (.agg #[(.int .i64 0),(.int .i64 0)]) 16 rfl Try.underlying27 info44 rfl (by decide) (by omega) v659 t658 (⟨x10_3,0⟩:S44) [.int .i64 x10_3,.int .i64 0] (fun k_=>(P1_ k_∨w.heap.size≤k_)) (fun _=>False) rfl rfl ?aP (fun _ hk=>hk.elim) ?aF ?aO ?aB ?aS ?aL ?_;(case aP=>exact k44_mkM _ _ _ (⟨x10_3,0⟩:S44));(case aB=>exact ybl_);(case aF=>exact(fun k_ hk=>(.inr (Nat.le_trans yqv48_ hk))));(case aO=>exact(yru_ HO660));(case aS=>exact(below_size ybl_));(case aL=>have:=LMc78.out;omega);intro v673 w83 ho hb hg hat;rw [←Ny672.out]at ho;replace BK649:=am_ (blk_grown (g:=gb649) (o:= .cells #[.int .i64 a0_0,.int .i64 a0_1,.slice A0_2 l0_2.length c0_2,.slice A0_3 l0_3.length c0_3] 53 (0,0)) (ybu_ BK649) hg (Kd.R_ne HO660.out BK649.out (by decide)));replace HB:=am_ (hb);replace HK:=am_ (Kept.of_grown (S:=(fun k_=>P1_ k_)) hg yqv52_ (fun k_ e_=>(HO660.out.1 k_ e_)));have HO674:=am_ (ho);clear HO660;clear ho hb hg hat))
          go_ret2
          exact⟨_,yk1_,by(with_reducible repeat(first|apply Kd.R_alloc|apply Kd.R_drewN|apply Kd.R_drew));exact HO674.out,ybl_,by repeat(first|(with_reducible first|exact HK.out|apply Kept.alloc|apply Kept.drewN|apply Kept.drew|refine Kept.setCell ?_ (.inr GW649.out) _)|exact HK.out)⟩
         ·rw [if_neg c78]at H;exact absurd H (by simp)
       ·replace c64:=Bool.eq_false_iff.mpr c64;subst c64;rw [if_neg (show¬(false=true) by decide)]at H;simp only [Option.some.injEq,Prod.mk.injEq]at H;obtain⟨rfl,rfl⟩:=H;try go_wp2
        replace HO_1:=am_ (Kd.R_drew HO_1.out);replace BK649:=am_ (blk_drew BK649.out);replace HK:=am_ (Kept.drew HK.out);replace HB:=am_ (below_drew1 HB.out);refine start_ (n:=15) (S:=fun w'=>w'.cell? ⟨gb649,0,none⟩=some (.int .i64 a0_0)∧w'.cell? ⟨gb649,1,none⟩=some (.int .i64 a0_1)∧w'.cell? ⟨gb649,2,none⟩=some (.slice A0_2 l0_2.length c0_2)∧w'.cell? ⟨gb649,3,none⟩=some (.slice A0_3 l0_3.length c0_3)) (ds:= []) #[false,false,false,false,false,false,false,false,false,false,false,false,false,false,false] (by kernel_rfl) rfl rfl ⟨(blk_cell BK649.out 0).trans rfl,(blk_cell BK649.out 1).trans rfl,(blk_cell BK649.out 2).trans rfl,(blk_cell BK649.out 3).trans rfl⟩ (fun hHeld=> ?_);refine with_tabW impl_Node_flatten.tab22 impl_Node_flatten.bits22 (fun HT_ HW_=> ?_);generalize wc.drew=w84 at HO_1 BK649 HK HB hHeld⊢;refine pure_ (i:=0) (N:=some 80) (v:= ?_) (a':= ?_) #[true,false,false,false,false,false,false,false,false,false,false,false,false,false,false] rfl rfl (any_of HT_.out (by kernel_rfl)) (fun _ _ _ h=>h) (Or.inl ⟨by rfl,?_⟩) ?_ ?_;rotate_left
        ·intro w';go_simp;with_reducible rfl
        rotate_left
        ·simp only [Act.put,List.setIfInBounds_toArray,List.set_cons_zero,List.set_cons_succ,i64_w,i32_w];rfl
        refine pure_ (i:=1) (N:=some 81) (v:= ?_) (a':= ?_) #[true,true,false,false,false,false,false,false,false,false,false,false,false,false,false] rfl rfl (any_of HT_.out (by kernel_rfl)) (fun _ _ _ h=>h) (Or.inl ⟨by rfl,?_⟩) ?_ ?_;rotate_left
        ·intro w';go_simp;with_reducible rfl
        rotate_left
        ·simp only [Act.put,List.setIfInBounds_toArray,List.set_cons_zero,List.set_cons_succ,i64_w,i32_w];rfl
        refine pure_ (i:=2) (N:=some 82) (v:= ?_) (a':= ?_) #[true,true,true,false,false,false,false,false,false,false,false,false,false,false,false] rfl rfl (any_of HT_.out (by kernel_rfl)) (fun _ _ _ h=>h) (Or.inl ⟨by rfl,?_⟩) ?_ ?_;rotate_left
        ·intro w';go_simp;with_reducible rfl
        rotate_left
        ·simp only [Act.put,List.setIfInBounds_toArray,List.set_cons_zero,List.set_cons_succ,i64_w,i32_w];rfl
        refine pure_ (i:=5) (N:=some 85) (v:= ?_) (a':= ?_) #[true,true,true,false,false,true,false,false,false,false,false,false,false,false,false] rfl rfl (any_of HT_.out (by kernel_rfl)) (fun _ _ _ h=>h) (Or.inl ⟨by rfl,?_⟩) ?_ ?_;rotate_left
        ·intro w';go_simp;with_reducible rfl
        rotate_left
        ·simp only [Act.put,List.setIfInBounds_toArray,List.set_cons_zero,List.set_cons_succ,i64_w,i32_w];rfl
        refine pure_ (i:=7) (N:=some 87) (v:= ?_) (a':= ?_) #[true,true,true,false,false,true,false,true,false,false,false,false,false,false,false] rfl rfl (any_of HT_.out (by kernel_rfl)) (fun _ _ _ h=>h) (Or.inl ⟨by rfl,?_⟩) ?_ ?_;rotate_left
        ·intro w';go_simp;with_reducible rfl
        rotate_left
        ·simp only [Act.put,List.setIfInBounds_toArray,List.set_cons_zero,List.set_cons_succ,i64_w,i32_w];rfl
        refine pure_ (i:=8) (N:=some 88) (v:= ?_) (a':= ?_) #[true,true,true,false,false,true,false,true,true,false,false,false,false,false,false] rfl rfl (any_of HT_.out (by kernel_rfl)) (fun _ _ _ h=>h) (Or.inl ⟨by rfl,?_⟩) ?_ ?_;rotate_left
        ·intro w';go_simp;with_reducible rfl
        rotate_left
        ·simp only [Act.put,List.setIfInBounds_toArray,List.set_cons_zero,List.set_cons_succ,i64_w,i32_w];rfl
        refine take_ (i:=6) (N:=some 86) (v:= ?_) (a':= ?_) #[true,true,true,false,false,true,true,true,true,false,false,false,false,false,false] rfl rfl (take_ofW HT_.out HW_.out (by kernel_rfl)) (fun _ _ _ h=>h) (Or.inl ⟨by rfl,?_⟩) hHeld ?_ ?_;rotate_left
        ·rintro w' ⟨s0,s1,s2,s3⟩;go_simp;with_reducible rfl
        rotate_left
        ·simp only [Act.put,List.setIfInBounds_toArray,List.set_cons_zero,List.set_cons_succ,i64_w,i32_w];rfl
        refine one_ (i:=3) (N:=some 83) #[true,true,true,true,false,true,true,true,true,false,false,false,false,false,false] rfl rfl (one_of HT_.out (by kernel_rfl)) (by decide) (fun K hK=> ?_);refine value_ (w1:= ?_) (v:= ?_) (by rfl) rfl ?_ ?_;rotate_left 2
        ·go_simp
         constructor
         ·rfl
         ·rfl
        refine hK.out _ _ ⟨(blk_cell (blk_alloc BK649.out _) 0).trans rfl,(blk_cell (blk_alloc BK649.out _) 1).trans rfl,(blk_cell (blk_alloc BK649.out _) 2).trans rfl,(blk_cell (blk_alloc BK649.out _) 3).trans rfl⟩ (fun hHeld=> ?_);clear hK K;refine norm_ (a':= ?_) ?_ ?_;rotate_left
        ·show Act.put _ (some 83) _=_
         simp only [Act.put,List.setIfInBounds_toArray,List.set_cons_zero,List.set_cons_succ,i64_w,i32_w];rfl
        refine one_ (i:=4) (N:=some 84) #[true,true,true,true,true,true,true,true,true,false,false,false,false,false,false] rfl rfl (one_of HT_.out (by kernel_rfl)) (by decide) (fun K hK=> ?_);refine Kd.R_append_step k44 (w0:=w0) w0.heap.size (by rfl) (.tmp 80) (.tmp 83) 27 44 (.agg #[(.int .i64 0),(.int .i64 0)]) 16 rfl Try.underlying27 info44 rfl (by decide) (by omega) u9000_ l1 (⟨x8_3,0⟩:S44) [.int .i64 x8_3,.int .i64 0] (fun k_=>(P1_ k_∨w.heap.size≤k_)) (fun _=>False) rfl rfl ?aP (fun _ hk=>hk.elim) ?aF ?aO ?aB ?aS ?aL ?_;(case aP=>exact k44_mkM _ _ _ (⟨x8_3,0⟩:S44));(case aB=>exact ybl_);(case aF=>exact(fun k_ hk=>(.inr (Nat.le_trans yqv48_ hk))));(case aO=>exact(yru_ HO_1));(case aS=>exact(below_size ybl_));(case aL=>have:=LMc62.out;omega);intro v656 w85 ho hb hg hat;rw [←Ny655.out]at ho;replace BK649:=am_ (blk_grown (g:=gb649) (o:= .cells #[.int .i64 a0_0,.int .i64 a0_1,.slice A0_2 l0_2.length c0_2,.slice A0_3 l0_3.length c0_3] 53 (0,0)) (ybu_ BK649) hg (Kd.R_ne HO_1.out BK649.out (by decide)));replace HB:=am_ (hb);replace HK:=am_ (Kept.of_grown (S:=(fun k_=>P1_ k_)) hg yqv52_ (fun k_ e_=>(HO_1.out.1 k_ e_)));have HO657:=am_ (ho);clear HO_1;clear ho hb hg hat;obtain⟨Ao86,co86,eo86⟩:=Kd.R_slice HO657.out;(first|subst eo86|(injection eo86 with nf1_ nf2_ nf3_;have yf4_:=f1_.symm;have nf5_:=f3_.symm;clear nf1_ nf2_ nf3_;subst yf4_;subst nf5_));refine hK.out _ _ ⟨(blk_cell BK649.out 0).trans rfl,(blk_cell BK649.out 1).trans rfl,(blk_cell BK649.out 2).trans rfl,(blk_cell BK649.out 3).trans rfl⟩ (fun hHeld=> ?_);clear hK K;refine norm_ (a':= ?_) ?_ ?_;rotate_left
        ·show Act.put _ (some 84) _=_
         simp only [Act.put,List.setIfInBounds_toArray,List.set_cons_zero,List.set_cons_succ,i64_w,i32_w];rfl
        refine one_ (i:=9) (N:=some 89) #[true,true,true,true,true,true,true,true,true,true,false,false,false,false,false] rfl rfl (one_of HT_.out (by kernel_rfl)) (by decide) (fun K hK=> ?_);refine goes_ Try.func30 (by kernel_rfl) rfl #[.slice Ao86 y655.length co86,.slice A0_2 l0_2.length c0_2,.int .i64 (wrap64 (a2+1))] (by rfl) rfl rfl yk0_ ?_;with_reducible refine(IHO kj48 (by have:=HJ3.out;have:=HJ48.out;omega) (fun k_=>some k_=(.slice Ao86 y655.length co86:Value).ownBlock) (.slice Ao86 y655.length co86) y655 _ _ l0_2 (wrap64 (a2+1)) t658 false w0 _ ?side1 ?side2 ?side3 ?side4 A63.out).mono ?_
        (case side1=>exact ybl_);(case side2=>exact Kd.R_tight rfl HO657.out);(case side3=>exact Kd.C_kept_call HR0_2.out yqv52_ (fun k_ hs_=>(fun e_=>(HO657.out.1 k_ e_.symm)) hs_));(case side4=>exact HC0_2.out);rintro e w87 ⟨v659,rfl,ho0,hb,hkp⟩;refine⟨_,rfl,?_⟩;replace BK649:=am_ (blk_kept (ybu_ BK649) hkp (fun hs_=>(fun e_=>(Kd.R_ne HO657.out BK649.out (by decide)) e_) hs_));have HO660:=am_ (Kd.R_mono (ok':=fun k_=>(P1_ k_∨w.heap.size≤k_)) ho0 (fun k_ hk_=>Or.elim hk_ (fun hs_=>(HO657.out.1 k_ (hs_).symm)) (fun hn_=>(.inr (Nat.le_trans yqv48_ hn_)))));replace HK:=am_ (Kept.then_ (S:=(fun k_=>P1_ k_)) yqv52_ hkp (fun k_ hs_=>(fun e_=>(HO657.out.1 k_ e_.symm)) hs_));replace HB:=am_ (hb);clear HO657;(try clear hb);(try clear hkp);(try clear ho0);refine hK.out _ _ ⟨(blk_cell BK649.out 0).trans rfl,(blk_cell BK649.out 1).trans rfl,(blk_cell BK649.out 2).trans rfl,(blk_cell BK649.out 3).trans rfl⟩ (fun hHeld=> ?_);clear hK K;refine norm_ (a':= ?_) ?_ ?_;rotate_left
        ·show Act.put _ (some 89) _=_
         simp only [Act.put,List.setIfInBounds_toArray,List.set_cons_zero,List.set_cons_succ,i64_w,i32_w];rfl
        refine pure_ (i:=10) (N:=some 79) (v:= ?_) (a':= ?_) #[true,true,true,true,true,true,true,true,true,true,true,false,false,false,false] rfl rfl (any_of HT_.out (by kernel_rfl)) (fun _ _ _ h=>h) (Or.inl ⟨by rfl,?_⟩) ?_ ?_;rotate_left
        ·intro w';go_simp;with_reducible rfl
        rotate_left
        ·simp only [Act.put,List.setIfInBounds_toArray,List.set_cons_zero,List.set_cons_succ,i64_w,i32_w];rfl
        refine pure_ (i:=11) (N:=some 90) (v:= ?_) (a':= ?_) #[true,true,true,true,true,true,true,true,true,true,true,true,false,false,false] rfl rfl (any_of HT_.out (by kernel_rfl)) (fun _ _ _ h=>h) (Or.inl ⟨by rfl,?_⟩) ?_ ?_;rotate_left
        ·intro w';go_simp;with_reducible rfl
        rotate_left
        ·simp only [Act.put,List.setIfInBounds_toArray,List.set_cons_zero,List.set_cons_succ,i64_w,i32_w];rfl
        refine pure_ (i:=12) (N:=some 91) (v:= ?_) (a':= ?_) #[true,true,true,true,true,true,true,true,true,true,true,true,true,false,false] rfl rfl (any_of HT_.out (by kernel_rfl)) (fun _ _ _ h=>h) (Or.inl ⟨by rfl,?_⟩) ?_ ?_;rotate_left
        ·intro w';go_simp;with_reducible rfl
        rotate_left
        ·simp only [Act.put,List.setIfInBounds_toArray,List.set_cons_zero,List.set_cons_succ,i64_w,i32_w];rfl
        refine pure_ (i:=13) (N:=some 1) (v:= ?_) (a':= ?_) #[true,true,true,true,true,true,true,true,true,true,true,true,true,true,false] rfl rfl (any_of HT_.out (by kernel_rfl)) (fun _ _ _ h=>h) (Or.inl ⟨by rfl,?_⟩) ?_ ?_;rotate_left
        ·intro w';go_simp;with_reducible rfl
        rotate_left
        ·simp only [Act.put,List.setIfInBounds_toArray,List.set_cons_zero,List.set_cons_succ,i64_w,i32_w];rfl
        refine pure_ (i:=14) (N:=some 12) (v:= ?_) (a':= ?_) #[true,true,true,true,true,true,true,true,true,true,true,true,true,true,true] rfl rfl (any_of HT_.out (by kernel_rfl)) (fun _ _ _ h=>h) (Or.inl ⟨by rfl,?_⟩) ?_ ?_;rotate_left
        ·intro w';go_simp;with_reducible rfl
        rotate_left
        ·simp only [Act.put,List.setIfInBounds_toArray,List.set_cons_zero,List.set_cons_succ,i64_w,i32_w];rfl
        refine done_ (done_of HT_.out (by kernel_rfl)) ?_;try go_wp2
        go_ret2
        exact⟨_,yk1_,by first|exact Kd.R_nil _ _ _ _ _|exact Kd.N_nil _ _ _ _ _|exact Kd.V_nil _ _ _ _ _|exact Kd.Q_nil _ _ _ _ _|exact Kd.S_nil _ _ _ _ _,ybl_,by repeat(first|(with_reducible first|exact HK.out|apply Kept.alloc|apply Kept.drewN|apply Kept.drew|refine Kept.setCell ?_ (.inr GW649.out) _)|exact HK.out)⟩
      ·rw [if_neg c62]at H;exact absurd H (by simp)
theorem impl_flatten.calls_ (k:Nat) (IHO: ∀m,m<k→ ∀(a0_0:Int) (a0_1:Int) (A0_2:Option Addr) (c0_2:Nat) (l0_2:List (S53)) (A0_3:Option Addr) (c0_3:Nat) (l0_3:List (S53)) (P1_:Nat→Prop) (u9000_:Value) (l1:List (S44)) (a2:Int) (r1:List (S44)) (r2:Bool) (w0 w:World) (hB:Below w0.heap.size w0 w) (hr0_2: ∀W_,Kept w W_ (fun k_=>P1_ k_)→Kd.C k53 W_ A0_2 l0_2.length l0_2) (hc0_2:l0_2.length≤c0_2) (hr0_3: ∀W_,Kept w W_ (fun k_=>P1_ k_)→Kd.C k53 W_ A0_3 l0_3.length l0_3) (hc0_3:l0_3.length≤c0_3) (ho1:Kd.R k44 44 w w0.heap.size P1_ u9000_ l1) (h:impl_Node_flatten.f m a0_0 a0_1 l0_2 l0_3 l1 a2=some (r1,r2)),
  Calls Try.prog 43 #[.agg #[.int .i64 a0_0,.int .i64 a0_1,.slice A0_2 l0_2.length c0_2,.slice A0_3 l0_3.length c0_3],u9000_,.int .i64 a2] w fun e w'=> ∃v0_:Value,e= .returned (.tuple #[v0_,.bool r2])∧Kd.R k44 44 w' w0.heap.size (fun k_=>(P1_ k_∨w.heap.size≤k_)) v0_ r1∧Below w0.heap.size w0 w'∧Kept w w' (fun k_=>P1_ k_)) (ih: ∀m,m<k→ ∀(P0_:Nat→Prop) (u9000_:Value) (l0:List (S44)) (A1:Option Addr) (c1:Nat) (l1:List (S53)) (a2:Int) (r1:List (S44)) (r2:Bool) (w0 w:World) (hB:Below w0.heap.size w0 w) (ho0:Kd.R k44 44 w w0.heap.size P0_ u9000_ l0) (hr1: ∀W_,Kept w W_ (fun k_=>P0_ k_)→Kd.C k53 W_ A1 l1.length l1) (hc1:l1.length≤c1) (h:impl_flatten.f m l0 l1 a2=some (r1,r2)),
  Calls Try.prog 30 #[u9000_,.slice A1 l1.length c1,.int .i64 a2] w fun e w'=> ∃v0_:Value,e= .returned (.tuple #[v0_,.bool r2])∧Kd.R k44 44 w' w0.heap.size (fun k_=>(P0_ k_∨w.heap.size≤k_)) v0_ r1∧Below w0.heap.size w0 w'∧Kept w w' (fun k_=>P0_ k_)): ∀(P0_:Nat→Prop) (u9000_:Value) (l0:List (S44)) (A1:Option Addr) (c1:Nat) (l1:List (S53)) (a2:Int) (r1:List (S44)) (r2:Bool) (w0 w:World) (hB:Below w0.heap.size w0 w) (ho0:Kd.R k44 44 w w0.heap.size P0_ u9000_ l0) (hr1: ∀W_,Kept w W_ (fun k_=>P0_ k_)→Kd.C k53 W_ A1 l1.length l1) (hc1:l1.length≤c1) (h:impl_flatten.f k l0 l1 a2=some (r1,r2)),
  Calls Try.prog 30 #[u9000_,.slice A1 l1.length c1,.int .i64 a2] w fun e w'=> ∃v0_:Value,e= .returned (.tuple #[v0_,.bool r2])∧Kd.R k44 44 w' w0.heap.size (fun k_=>(P0_ k_∨w.heap.size≤k_)) v0_ r1∧Below w0.heap.size w0 w'∧Kept w w' (fun k_=>P0_ k_):=by
 intro P0_ u9000_ l0 A1 c1 l1 a2 r1 r2 w0 w hB ho0 hr1 hc1 h;cases k with
 |zero=>exact absurd h (by simp [impl_flatten.f])
 |succ k=>
 simp only [impl_flatten.f]at h;have hu53:=Try.underlying53;have HO0:=am_ (show Kd.R k44 44 w w0.heap.size (fun k_=>(P0_ k_∨w.heap.size≤k_)) u9000_ l0 from Kd.R_mono ho0 (fun k_ hk=>(.inl hk)));have HR1:=am_ hr1;have HC1:=am_ hc1;clear hr1 hc1;have HK:=am_ (Kept.refl w (fun k_=>P0_ k_));have HW0:=am_ hB.size;have HB:=am_ hB;clear hB;have H:=h;clear h;by_cases c4:a2>9
 ·rw [if_pos c4]at H;have c4b0:decide (9<a2)=true:=decide_eq_true c4;clear c4;simp only [Option.some.injEq,Prod.mk.injEq]at H;obtain⟨rfl,rfl⟩:=H;go_enter Try.func30,Try.ntmps30;go_wp2;go_ret2;exact⟨_,yk1_,by first|exact Kd.R_nil _ _ _ _ _|exact Kd.N_nil _ _ _ _ _|exact Kd.V_nil _ _ _ _ _|exact Kd.Q_nil _ _ _ _ _|exact Kd.S_nil _ _ _ _ _,ybl_,by repeat(first|(with_reducible first|exact HK.out|apply Kept.alloc|apply Kept.drewN|apply Kept.drew)|exact HK.out)⟩
 ·rw [if_neg c4]at H;have c4b0:decide (9<a2)=false:=decide_eq_false c4;clear c4;have H':=am_ H;clear H;go_enter Try.func30,Try.ntmps30;go_wp2;go_loopg [0,16] k (fun kq v0 v16 w'=> ∃(x0_1:List (S44)) (x16_1:Int),v16= .int .i64 x16_1∧Aside0 (impl_flatten.l0 kq x0_1 a2 l1 (l1.length:Int) x16_1=some (r1,r2))∧Aside0 (kq≤k)∧Aside0 (Kd.R k44 44 w' w0.heap.size (fun k_=>(P0_ k_∨w.heap.size≤k_)) v0 x0_1)∧Aside0 (Kept w w' (fun k_=>P0_ k_))∧Aside0 (Below w0.heap.size w0 w'));case atStart=>exact⟨(l0),(0),(by first|rfl|(simp;done)|(simp [*];done)),H',⟨Nat.le_refl _⟩,⟨(yru_ HO0)⟩,⟨by repeat(first|(with_reducible first|exact HK.out|apply Kept.alloc|apply Kept.drewN|apply Kept.drew)|exact HK.out)⟩,⟨ybl_⟩⟩
  case round=>
   clear H';try clear c1
   try clear p2
   try clear c3
   try clear c4
   try clear c4b0
   obtain⟨x0_1,x16_1,rfl,HA,HK1,HO_0,HK,HB⟩:=hrel;cases gk with
   |zero=>exact absurd HA.out (by simp [impl_flatten.l0])
   |succ k1=>
    have H:=HA.out;clear HA;simp only [impl_flatten.l0]at H;by_cases c5:x16_1<(l1.length:Int)
    ·rw [if_pos c5]at H;have c5b0:decide (x16_1<(l1.length:Int))=true:=decide_eq_true c5;clear c5;by_cases c6:0≤x16_1
     ·rw [if_pos c6]at H;have c6b0:decide (0≤x16_1)=true:=decide_eq_true c6;clear c6;by_cases c7:x16_1<(l1.length:Int)
      ·rw [if_pos c7]at H;have c7b0:decide (x16_1<(l1.length:Int))=true:=decide_eq_true c7;clear c7;replace H:=Option.bind_eq_some_iff.mp H;obtain⟨⟨t677,t680⟩,A80,H⟩:=H;try dsimp only at H
       have A8:=am_ A80;clear A80;by_cases c9:t680=true
       ·subst c9;rw [if_pos rfl]at H;by_cases c10:(t677.length:Int)>60
        ·rw [if_pos c10]at H;have c10b0:decide (60<(t677.length:Int))=true:=decide_eq_true c10;have c10b1:decide (60<t677.length)=true:=decide_eq_true (by omega);clear c10;simp only [Option.some.injEq,Prod.mk.injEq]at H;obtain⟨rfl,rfl⟩:=H;have p675:0≤(x16_1:Int):=of_decide_eq_true yqv0_;have q675:x16_1<(l1.length:Int):=of_decide_eq_true yqv0_;obtain⟨ad675,A675_2,c675_2,A675_3,c675_3,e675,hx675_0,hx675_1,hx675_2,hx675_3,hl675_2,hi675_2,hl675_3,hi675_3,hf675_2,hf675_3⟩:=at_T53_kept HR1.out HK.out x16_1 p675 q675;have HF675_2:=am_ hf675_2;have HF675_3:=am_ hf675_3;clear hf675_2 hf675_3;cases e675;have HR675_2:=am_ hi675_2;have HC675_2:=am_ hl675_2;clear hi675_2 hl675_2;have HR675_3:=am_ hi675_3;have HC675_3:=am_ hl675_3;clear hi675_3 hl675_3;replace p675:=eq_true p675;replace q675:=eq_true q675;go_wp2_with (first|((with_reducible refine gate_dst (N:=9) rfl ?_);(try(refine gate_guard (by rfl) ?_;dsimp only));refine box_event ?hg (N:=9) ?hd (cs:= #[.int .i64 0,.int .i64 0,.slice none 0 0,.slice none 0 0]) (t:=53) ?hr ?_;(case hd=>rfl);(case hg=>rfl);(case hr=>first|(go_simp;done)|(go_simp;rfl));intro gb676 hg w11 hbox hb;replace HO_0:=am_ (Kd.R_below (yru_ HO_0) hb);replace HR675_2:=am_ (Kd.C_below yqv50_ hb);replace HR675_3:=am_ (Kd.C_below yqv51_ hb);have BK676:=am_ (hbox);have GW676:=am_ ((by rw [hg];exact yqv2_:w.heap.size≤gb676));replace HK:=am_ (Kept.below (S:=(fun k_=>P0_ k_)) yqv3_ hb);have GE676:=am_ ((ybsz_ hg:w0.heap.size≤gb676));replace HB:=yst_ hb;clear hb hbox hg;have hcz12:=ye4_ BK676;have hfz12:=yf4_ BK676;obtain⟨Ao13,co13,eo13⟩:=Kd.R_slice HO_0.out;subst eo13)|((with_reducible refine gate_callee (f:=43) rfl ?_);refine goesL_ (some 24) rfl rfl Try.func43 (by kernel_rfl) rfl #[.agg #[.int .i64 ((rd_T53 l1 x16_1).f0),.int .i64 ((rd_T53 l1 x16_1).f1),.slice A675_2 ((rd_T53 l1 x16_1).f2).length c675_2,.slice A675_3 ((rd_T53 l1 x16_1).f3).length c675_3],.slice Ao13 x0_1.length co13,.int .i64 a2] rfl yk0_ ?_;(with_reducible refine(IHO k1 (by have:=HK1.out;omega) ((rd_T53 l1 x16_1).f0) ((rd_T53 l1 x16_1).f1) _ _ ((rd_T53 l1 x16_1).f2) _ _ ((rd_T53 l1 x16_1).f3) (fun k_=>some k_=(.slice Ao13 x0_1.length co13:Value).ownBlock) (.slice Ao13 x0_1.length co13) x0_1 a2 t677 true w0 _ ?side1 ?side2 ?side3 ?side4 ?side5 ?side6 A8.out).mono ?_);(case side1=>exact ybl_);(case side2=>exact Kd.C_kept_call HF675_2.out yqv53_ (fun k_ hs_=>(fun e_=>(HO_0.out.1 k_ e_.symm)) hs_));(case side3=>exact HC675_2.out);(case side4=>exact Kd.C_kept_call HF675_3.out yqv53_ (fun k_ hs_=>(fun e_=>(HO_0.out.1 k_ e_.symm)) hs_));(case side5=>exact HC675_3.out);(case side6=>exact Kd.R_tight rfl (Kd.R_far (p:=⟨gb676,3,none⟩) (Kd.R_far (p:=⟨gb676,2,none⟩) (Kd.R_far (p:=⟨gb676,1,none⟩) (Kd.R_far (p:=⟨gb676,0,none⟩) (Kd.R_types HO_0.out BK676.out (by decide)) (fun _ hk=>hk.2) (.int .i64 ((rd_T53 l1 x16_1).f0))) (fun _ hk=>hk.2) (.int .i64 ((rd_T53 l1 x16_1).f1))) (fun _ hk=>hk.2) (.slice A675_2 ((rd_T53 l1 x16_1).f2).length c675_2)) (fun _ hk=>hk.2) (.slice A675_3 ((rd_T53 l1 x16_1).f3).length c675_3)));rintro e w14 ⟨v678,rfl,ho0,hb,hkp⟩;refine⟨_,rfl,?_⟩;replace BK676:=am_ (blk_kept (g:=gb676) (o:= .cells #[.int .i64 ((rd_T53 l1 x16_1).f0),.int .i64 ((rd_T53 l1 x16_1).f1),.slice A675_2 ((rd_T53 l1 x16_1).f2).length c675_2,.slice A675_3 ((rd_T53 l1 x16_1).f3).length c675_3] 53 (0,0)) (by(with_reducible repeat(first|refine blk_drewN ?_ _|refine blk_drew ?_|refine blk_alloc ?_ _));exact yp0_ BK676) hkp (fun hs_=>(fun e_=>(Kd.R_ne HO_0.out BK676.out (by decide)) e_) hs_));have HO679:=am_ (Kd.R_mono (ok':=fun k_=>(P0_ k_∨w.heap.size≤k_)) ho0 (fun k_ hk_=>Or.elim hk_ (fun hs_=>(HO_0.out.1 k_ (hs_).symm)) (fun hn_=>(.inr (Nat.le_trans (show Kept w _ (fun k_=>P0_ k_)from by repeat(first|(with_reducible first|exact HK.out|apply Kept.alloc|apply Kept.drewN|apply Kept.drew|refine Kept.setCell ?_ (.inr GW676.out) _)|exact HK.out)).1 hn_)))));replace HK:=am_ (Kept.then_ (S:=(fun k_=>P0_ k_)) yqv53_ hkp (fun k_ hs_=>(fun e_=>(HO_0.out.1 k_ e_.symm)) hs_));replace HB:=am_ (hb);clear HO_0;(try clear hb);(try clear hkp);(try clear ho0);obtain⟨Ao15,co15,eo15⟩:=Kd.R_slice HO679.out;subst eo15));go_ret2;exact⟨_,yk1_,by first|exact Kd.R_nil _ _ _ _ _|exact Kd.N_nil _ _ _ _ _|exact Kd.V_nil _ _ _ _ _|exact Kd.Q_nil _ _ _ _ _|exact Kd.S_nil _ _ _ _ _,ybl_,by repeat(first|(with_reducible first|exact HK.out|apply Kept.alloc|apply Kept.drewN|apply Kept.drew|refine Kept.setCell ?_ (.inr GW676.out) _)|exact HK.out)⟩
        ·rw [if_neg c10]at H;have c10b0:decide (60<(t677.length:Int))=false:=decide_eq_false c10;have c10b1:decide (60<t677.length)=false:=decide_eq_false (by omega);clear c10;have H':=am_ H;clear H;have p675:0≤(x16_1:Int):=of_decide_eq_true yqv0_;have q675:x16_1<(l1.length:Int):=of_decide_eq_true yqv0_;obtain⟨ad675,A675_2,c675_2,A675_3,c675_3,e675,hx675_0,hx675_1,hx675_2,hx675_3,hl675_2,hi675_2,hl675_3,hi675_3,hf675_2,hf675_3⟩:=at_T53_kept HR1.out HK.out x16_1 p675 q675;have HF675_2:=am_ hf675_2;have HF675_3:=am_ hf675_3;clear hf675_2 hf675_3;cases e675;have HR675_2:=am_ hi675_2;have HC675_2:=am_ hl675_2;clear hi675_2 hl675_2;have HR675_3:=am_ hi675_3;have HC675_3:=am_ hl675_3;clear hi675_3 hl675_3;replace p675:=eq_true p675;replace q675:=eq_true q675;go_wp2_with (first|((with_reducible refine gate_dst (N:=9) rfl ?_);(try(refine gate_guard (by rfl) ?_;dsimp only));refine box_event ?hg (N:=9) ?hd (cs:= #[.int .i64 0,.int .i64 0,.slice none 0 0,.slice none 0 0]) (t:=53) ?hr ?_;(case hd=>rfl);(case hg=>rfl);(case hr=>first|(go_simp;done)|(go_simp;rfl));intro gb676 hg w16 hbox hb;replace HO_0:=am_ (Kd.R_below (yru_ HO_0) hb);replace HR675_2:=am_ (Kd.C_below yqv50_ hb);replace HR675_3:=am_ (Kd.C_below yqv51_ hb);have BK676:=am_ (hbox);have GW676:=am_ ((by rw [hg];exact yqv2_:w.heap.size≤gb676));replace HK:=am_ (Kept.below (S:=(fun k_=>P0_ k_)) yqv3_ hb);have GE676:=am_ ((ybsz_ hg:w0.heap.size≤gb676));replace HB:=yst_ hb;clear hb hbox hg;have hcz17:=ye4_ BK676;have hfz17:=yf4_ BK676;obtain⟨Ao18,co18,eo18⟩:=Kd.R_slice HO_0.out;subst eo18)|((with_reducible refine gate_callee (f:=43) rfl ?_);refine goesL_ (some 24) rfl rfl Try.func43 (by kernel_rfl) rfl #[.agg #[.int .i64 ((rd_T53 l1 x16_1).f0),.int .i64 ((rd_T53 l1 x16_1).f1),.slice A675_2 ((rd_T53 l1 x16_1).f2).length c675_2,.slice A675_3 ((rd_T53 l1 x16_1).f3).length c675_3],.slice Ao18 x0_1.length co18,.int .i64 a2] rfl yk0_ ?_;(with_reducible refine(IHO k1 (by have:=HK1.out;omega) ((rd_T53 l1 x16_1).f0) ((rd_T53 l1 x16_1).f1) _ _ ((rd_T53 l1 x16_1).f2) _ _ ((rd_T53 l1 x16_1).f3) (fun k_=>some k_=(.slice Ao18 x0_1.length co18:Value).ownBlock) (.slice Ao18 x0_1.length co18) x0_1 a2 t677 true w0 _ ?side1 ?side2 ?side3 ?side4 ?side5 ?side6 A8.out).mono ?_);(case side1=>exact ybl_);(case side2=>exact Kd.C_kept_call HF675_2.out yqv53_ (fun k_ hs_=>(fun e_=>(HO_0.out.1 k_ e_.symm)) hs_));(case side3=>exact HC675_2.out);(case side4=>exact Kd.C_kept_call HF675_3.out yqv53_ (fun k_ hs_=>(fun e_=>(HO_0.out.1 k_ e_.symm)) hs_));(case side5=>exact HC675_3.out);(case side6=>exact Kd.R_tight rfl (Kd.R_far (p:=⟨gb676,3,none⟩) (Kd.R_far (p:=⟨gb676,2,none⟩) (Kd.R_far (p:=⟨gb676,1,none⟩) (Kd.R_far (p:=⟨gb676,0,none⟩) (Kd.R_types HO_0.out BK676.out (by decide)) (fun _ hk=>hk.2) (.int .i64 ((rd_T53 l1 x16_1).f0))) (fun _ hk=>hk.2) (.int .i64 ((rd_T53 l1 x16_1).f1))) (fun _ hk=>hk.2) (.slice A675_2 ((rd_T53 l1 x16_1).f2).length c675_2)) (fun _ hk=>hk.2) (.slice A675_3 ((rd_T53 l1 x16_1).f3).length c675_3)));rintro e w19 ⟨v678,rfl,ho0,hb,hkp⟩;refine⟨_,rfl,?_⟩;replace BK676:=am_ (blk_kept (g:=gb676) (o:= .cells #[.int .i64 ((rd_T53 l1 x16_1).f0),.int .i64 ((rd_T53 l1 x16_1).f1),.slice A675_2 ((rd_T53 l1 x16_1).f2).length c675_2,.slice A675_3 ((rd_T53 l1 x16_1).f3).length c675_3] 53 (0,0)) (by(with_reducible repeat(first|refine blk_drewN ?_ _|refine blk_drew ?_|refine blk_alloc ?_ _));exact yp0_ BK676) hkp (fun hs_=>(fun e_=>(Kd.R_ne HO_0.out BK676.out (by decide)) e_) hs_));have HO679:=am_ (Kd.R_mono (ok':=fun k_=>(P0_ k_∨w.heap.size≤k_)) ho0 (fun k_ hk_=>Or.elim hk_ (fun hs_=>(HO_0.out.1 k_ (hs_).symm)) (fun hn_=>(.inr (Nat.le_trans (show Kept w _ (fun k_=>P0_ k_)from by repeat(first|(with_reducible first|exact HK.out|apply Kept.alloc|apply Kept.drewN|apply Kept.drew|refine Kept.setCell ?_ (.inr GW676.out) _)|exact HK.out)).1 hn_)))));replace HK:=am_ (Kept.then_ (S:=(fun k_=>P0_ k_)) yqv53_ hkp (fun k_ hs_=>(fun e_=>(HO_0.out.1 k_ e_.symm)) hs_));replace HB:=am_ (hb);clear HO_0;(try clear hb);(try clear hkp);(try clear ho0);obtain⟨Ao20,co20,eo20⟩:=Kd.R_slice HO679.out;subst eo20));go_roundg k1;case measure=>have:=HK1.out;omega
         case rel=>exact⟨(t677),(wrap64 (x16_1+1)),(by first|rfl|(simp;done)|(simp [*];done)),H',⟨by have:=HK1.out;omega⟩,⟨(yru_ HO679)⟩,⟨yqv53_⟩,⟨ybl_⟩⟩
       ·replace c9:=Bool.eq_false_iff.mpr c9;subst c9;rw [if_neg (show¬(false=true) by decide)]at H;simp only [Option.some.injEq,Prod.mk.injEq]at H;obtain⟨rfl,rfl⟩:=H;have p675:0≤(x16_1:Int):=of_decide_eq_true yqv0_;have q675:x16_1<(l1.length:Int):=of_decide_eq_true yqv0_;obtain⟨ad675,A675_2,c675_2,A675_3,c675_3,e675,hx675_0,hx675_1,hx675_2,hx675_3,hl675_2,hi675_2,hl675_3,hi675_3,hf675_2,hf675_3⟩:=at_T53_kept HR1.out HK.out x16_1 p675 q675;have HF675_2:=am_ hf675_2;have HF675_3:=am_ hf675_3;clear hf675_2 hf675_3;cases e675;have HR675_2:=am_ hi675_2;have HC675_2:=am_ hl675_2;clear hi675_2 hl675_2;have HR675_3:=am_ hi675_3;have HC675_3:=am_ hl675_3;clear hi675_3 hl675_3;replace p675:=eq_true p675;replace q675:=eq_true q675;go_wp2_with (first|((with_reducible refine gate_dst (N:=9) rfl ?_);(try(refine gate_guard (by rfl) ?_;dsimp only));refine box_event ?hg (N:=9) ?hd (cs:= #[.int .i64 0,.int .i64 0,.slice none 0 0,.slice none 0 0]) (t:=53) ?hr ?_;(case hd=>rfl);(case hg=>rfl);(case hr=>first|(go_simp;done)|(go_simp;rfl));intro gb676 hg w21 hbox hb;replace HO_0:=am_ (Kd.R_below (yru_ HO_0) hb);replace HR675_2:=am_ (Kd.C_below yqv50_ hb);replace HR675_3:=am_ (Kd.C_below yqv51_ hb);have BK676:=am_ (hbox);have GW676:=am_ ((by rw [hg];exact yqv2_:w.heap.size≤gb676));replace HK:=am_ (Kept.below (S:=(fun k_=>P0_ k_)) yqv3_ hb);have GE676:=am_ ((ybsz_ hg:w0.heap.size≤gb676));replace HB:=yst_ hb;clear hb hbox hg;have hcz22:=ye4_ BK676;have hfz22:=yf4_ BK676;obtain⟨Ao23,co23,eo23⟩:=Kd.R_slice HO_0.out;subst eo23)|((with_reducible refine gate_callee (f:=43) rfl ?_);refine goesL_ (some 24) rfl rfl Try.func43 (by kernel_rfl) rfl #[.agg #[.int .i64 ((rd_T53 l1 x16_1).f0),.int .i64 ((rd_T53 l1 x16_1).f1),.slice A675_2 ((rd_T53 l1 x16_1).f2).length c675_2,.slice A675_3 ((rd_T53 l1 x16_1).f3).length c675_3],.slice Ao23 x0_1.length co23,.int .i64 a2] rfl yk0_ ?_;(with_reducible refine(IHO k1 (by have:=HK1.out;omega) ((rd_T53 l1 x16_1).f0) ((rd_T53 l1 x16_1).f1) _ _ ((rd_T53 l1 x16_1).f2) _ _ ((rd_T53 l1 x16_1).f3) (fun k_=>some k_=(.slice Ao23 x0_1.length co23:Value).ownBlock) (.slice Ao23 x0_1.length co23) x0_1 a2 t677 false w0 _ ?side1 ?side2 ?side3 ?side4 ?side5 ?side6 A8.out).mono ?_);(case side1=>exact ybl_);(case side2=>exact Kd.C_kept_call HF675_2.out yqv53_ (fun k_ hs_=>(fun e_=>(HO_0.out.1 k_ e_.symm)) hs_));(case side3=>exact HC675_2.out);(case side4=>exact Kd.C_kept_call HF675_3.out yqv53_ (fun k_ hs_=>(fun e_=>(HO_0.out.1 k_ e_.symm)) hs_));(case side5=>exact HC675_3.out);(case side6=>exact Kd.R_tight rfl (Kd.R_far (p:=⟨gb676,3,none⟩) (Kd.R_far (p:=⟨gb676,2,none⟩) (Kd.R_far (p:=⟨gb676,1,none⟩) (Kd.R_far (p:=⟨gb676,0,none⟩) (Kd.R_types HO_0.out BK676.out (by decide)) (fun _ hk=>hk.2) (.int .i64 ((rd_T53 l1 x16_1).f0))) (fun _ hk=>hk.2) (.int .i64 ((rd_T53 l1 x16_1).f1))) (fun _ hk=>hk.2) (.slice A675_2 ((rd_T53 l1 x16_1).f2).length c675_2)) (fun _ hk=>hk.2) (.slice A675_3 ((rd_T53 l1 x16_1).f3).length c675_3)));rintro e w24 ⟨v678,rfl,ho0,hb,hkp⟩;refine⟨_,rfl,?_⟩;replace BK676:=am_ (blk_kept (g:=gb676) (o:= .cells #[.int .i64 ((rd_T53 l1 x16_1).f0),.int .i64 ((rd_T53 l1 x16_1).f1),.slice A675_2 ((rd_T53 l1 x16_1).f2).length c675_2,.slice A675_3 ((rd_T53 l1 x16_1).f3).length c675_3] 53 (0,0)) (by(with_reducible repeat(first|refine blk_drewN ?_ _|refine blk_drew ?_|refine blk_alloc ?_ _));exact yp0_ BK676) hkp (fun hs_=>(fun e_=>(Kd.R_ne HO_0.out BK676.out (by decide)) e_) hs_));have HO679:=am_ (Kd.R_mono (ok':=fun k_=>(P0_ k_∨w.heap.size≤k_)) ho0 (fun k_ hk_=>Or.elim hk_ (fun hs_=>(HO_0.out.1 k_ (hs_).symm)) (fun hn_=>(.inr (Nat.le_trans (show Kept w _ (fun k_=>P0_ k_)from by repeat(first|(with_reducible first|exact HK.out|apply Kept.alloc|apply Kept.drewN|apply Kept.drew|refine Kept.setCell ?_ (.inr GW676.out) _)|exact HK.out)).1 hn_)))));replace HK:=am_ (Kept.then_ (S:=(fun k_=>P0_ k_)) yqv53_ hkp (fun k_ hs_=>(fun e_=>(HO_0.out.1 k_ e_.symm)) hs_));replace HB:=am_ (hb);clear HO_0;(try clear hb);(try clear hkp);(try clear ho0)));go_ret2;exact⟨_,yk1_,by first|exact Kd.R_nil _ _ _ _ _|exact Kd.N_nil _ _ _ _ _|exact Kd.V_nil _ _ _ _ _|exact Kd.Q_nil _ _ _ _ _|exact Kd.S_nil _ _ _ _ _,ybl_,by repeat(first|(with_reducible first|exact HK.out|apply Kept.alloc|apply Kept.drewN|apply Kept.drew|refine Kept.setCell ?_ (.inr GW676.out) _)|exact HK.out)⟩
      ·rw [if_neg c7]at H;exact absurd H (by simp)
     ·rw [if_neg c6]at H;exact absurd H (by simp)
    ·rw [if_neg c5]at H;have c5b0:decide (x16_1<(l1.length:Int))=false:=decide_eq_false c5;clear c5;simp only [Option.some.injEq,Prod.mk.injEq]at H;obtain⟨rfl,rfl⟩:=H;go_wp2;go_ret2;exact⟨_,yk1_,by(with_reducible repeat(first|apply Kd.R_alloc|apply Kd.R_drewN|apply Kd.R_drew));exact HO_0.out,ybl_,by repeat(first|(with_reducible first|exact HK.out|apply Kept.alloc|apply Kept.drewN|apply Kept.drew)|exact HK.out)⟩
theorem impl_Node_flatten.calls_j (k:Nat):(∀(a0_0:Int) (a0_1:Int) (A0_2:Option Addr) (c0_2:Nat) (l0_2:List (S53)) (A0_3:Option Addr) (c0_3:Nat) (l0_3:List (S53)) (P1_:Nat→Prop) (u9000_:Value) (l1:List (S44)) (a2:Int) (r1:List (S44)) (r2:Bool) (w0 w:World) (hB:Below w0.heap.size w0 w) (hr0_2: ∀W_,Kept w W_ (fun k_=>P1_ k_)→Kd.C k53 W_ A0_2 l0_2.length l0_2) (hc0_2:l0_2.length≤c0_2) (hr0_3: ∀W_,Kept w W_ (fun k_=>P1_ k_)→Kd.C k53 W_ A0_3 l0_3.length l0_3) (hc0_3:l0_3.length≤c0_3) (ho1:Kd.R k44 44 w w0.heap.size P1_ u9000_ l1) (h:impl_Node_flatten.f k a0_0 a0_1 l0_2 l0_3 l1 a2=some (r1,r2)),
  Calls Try.prog 43 #[.agg #[.int .i64 a0_0,.int .i64 a0_1,.slice A0_2 l0_2.length c0_2,.slice A0_3 l0_3.length c0_3],u9000_,.int .i64 a2] w fun e w'=> ∃v0_:Value,e= .returned (.tuple #[v0_,.bool r2])∧Kd.R k44 44 w' w0.heap.size (fun k_=>(P1_ k_∨w.heap.size≤k_)) v0_ r1∧Below w0.heap.size w0 w'∧Kept w w' (fun k_=>P1_ k_))∧(∀(P0_:Nat→Prop) (u9000_:Value) (l0:List (S44)) (A1:Option Addr) (c1:Nat) (l1:List (S53)) (a2:Int) (r1:List (S44)) (r2:Bool) (w0 w:World) (hB:Below w0.heap.size w0 w) (ho0:Kd.R k44 44 w w0.heap.size P0_ u9000_ l0) (hr1: ∀W_,Kept w W_ (fun k_=>P0_ k_)→Kd.C k53 W_ A1 l1.length l1) (hc1:l1.length≤c1) (h:impl_flatten.f k l0 l1 a2=some (r1,r2)),
  Calls Try.prog 30 #[u9000_,.slice A1 l1.length c1,.int .i64 a2] w fun e w'=> ∃v0_:Value,e= .returned (.tuple #[v0_,.bool r2])∧Kd.R k44 44 w' w0.heap.size (fun k_=>(P0_ k_∨w.heap.size≤k_)) v0_ r1∧Below w0.heap.size w0 w'∧Kept w w' (fun k_=>P0_ k_)):=by
 induction k using Nat.strongRecOn with
 |_ k ih=>exact⟨impl_Node_flatten.calls_ k (fun m hm=>(ih m hm).2) (fun m hm=>(ih m hm).1),impl_flatten.calls_ k (fun m hm=>(ih m hm).1) (fun m hm=>(ih m hm).2)⟩
theorem impl_Node_flatten.calls (k:Nat): ∀(a0_0:Int) (a0_1:Int) A0_2 c0_2 l0_2 A0_3 c0_3 l0_3 (P1_:Nat→Prop) (u9000_:Value) (l1:List (S44)) (a2:Int) (r1:List (S44)) (r2:Bool) (w0 w:World) (hB:Below w0.heap.size w0 w) (hr0_2: ∀W_,Kept w W_ (fun k_=>P1_ k_)→Kd.C k53 W_ A0_2 l0_2.length l0_2) (hc0_2:l0_2.length≤c0_2) (hr0_3: ∀W_,Kept w W_ (fun k_=>P1_ k_)→Kd.C k53 W_ A0_3 l0_3.length l0_3) (hc0_3:l0_3.length≤c0_3) (ho1:Kd.R k44 44 w w0.heap.size P1_ u9000_ l1) (h:impl_Node_flatten.f k a0_0 a0_1 l0_2 l0_3 l1 a2=some (r1,r2)),
  Calls Try.prog 43 #[.agg #[.int .i64 a0_0,.int .i64 a0_1,.slice A0_2 l0_2.length c0_2,.slice A0_3 l0_3.length c0_3],u9000_,.int .i64 a2] w fun e w'=> ∃v0_:Value,e= .returned (.tuple #[v0_,.bool r2])∧Kd.R k44 44 w' w0.heap.size (fun k_=>(P1_ k_∨w.heap.size≤k_)) v0_ r1∧Below w0.heap.size w0 w'∧Kept w w' (fun k_=>P1_ k_):=(impl_Node_flatten.calls_j k).1
theorem impl_flatten.calls (k:Nat): ∀(P0_:Nat→Prop) (u9000_:Value) (l0:List (S44)) A1 c1 l1 (a2:Int) (r1:List (S44)) (r2:Bool) (w0 w:World) (hB:Below w0.heap.size w0 w) (ho0:Kd.R k44 44 w w0.heap.size P0_ u9000_ l0) (hr1: ∀W_,Kept w W_ (fun k_=>P0_ k_)→Kd.C k53 W_ A1 l1.length l1) (hc1:l1.length≤c1) (h:impl_flatten.f k l0 l1 a2=some (r1,r2)),
  Calls Try.prog 30 #[u9000_,.slice A1 l1.length c1,.int .i64 a2] w fun e w'=> ∃v0_:Value,e= .returned (.tuple #[v0_,.bool r2])∧Kd.R k44 44 w' w0.heap.size (fun k_=>(P0_ k_∨w.heap.size≤k_)) v0_ r1∧Below w0.heap.size w0 w'∧Kept w w' (fun k_=>P0_ k_):=(impl_Node_flatten.calls_j k).2

end Go.Proofs.Ythmcanjeeljnhaa.PTJ
