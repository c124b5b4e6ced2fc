-- laid by a program of this session out of the translation's own print: Lean checks it
import Derived.Test.YthmcanjeeljnhaaProg
import Derived.Test.YthmcanjeeljnhaaGFnTreeItemsOp
import Derived.Below
import Derived.Deep.Draws
import Derived.Deep.AppendLies
import Derived.Maps.AppendAt
import Derived.OwnWalk
import Derived.Laws.BytesArg
import Derived.Laws.MakeOwn
import Derived.Laws.OwnMore
import Derived.Deep.OwnRows
import Derived.Tactics
import Derived.Lib.ConvBytes
import Derived.Laws.Slices
import Derived.WalkKit
import Derived.KernelRfl
import Derived.RowKit3
import Derived.Deep.LoopGhost
import Derived.Deep.QuietTactic
import Derived.BigQuiet
import Derived.WideLaws
import Derived.Deep.DeepCutAuto
import Derived.Deep.CutBlock
import Derived.Deep.RegionHeld3
import Derived.Laws.Rows
import Derived.Lib.AppendStr
import Derived.ArgAppend
import Derived.Laws.IdiomCopy
import Derived.OrdersHeld
import Derived.Laws.BitsLemmas
import Derived.RowKit
import Derived.Lib.ItoaWalk
import Derived.Test.YthmcanjeeljnhaaGFnTreeItemsWApart
import Derived.Test.YthmcanjeeljnhaaGFnTreeItemsWArr
import Derived.Test.YthmcanjeeljnhaaGFnTreeItemsWAt
import Derived.Test.YthmcanjeeljnhaaGFnTreeItemsWEqStruct
import Derived.Test.YthmcanjeeljnhaaGFnTreeItemsWFoot
import Derived.Test.YthmcanjeeljnhaaGFnTreeItemsWFootNe
import Derived.Test.YthmcanjeeljnhaaGFnTreeItemsWFour
import Derived.Test.YthmcanjeeljnhaaGFnTreeItemsWGuard
import Derived.Test.YthmcanjeeljnhaaGFnTreeItemsWInv
import Derived.Test.YthmcanjeeljnhaaGFnTreeItemsWInvWords
import Derived.Test.YthmcanjeeljnhaaGFnTreeItemsWKept
import Derived.Test.YthmcanjeeljnhaaGFnTreeItemsWLast
import Derived.Test.YthmcanjeeljnhaaGFnTreeItemsWMore
import Derived.Test.YthmcanjeeljnhaaGFnTreeItemsWN
import Derived.Test.YthmcanjeeljnhaaGFnTreeItemsWNEv
import Derived.Test.YthmcanjeeljnhaaGFnTreeItemsWQPut
import Derived.Test.YthmcanjeeljnhaaGFnTreeItemsWRepsOne
import Derived.Test.YthmcanjeeljnhaaGFnTreeItemsWShare
import Derived.Test.YthmcanjeeljnhaaGFnTreeItemsWTab
import Derived.Test.YthmcanjeeljnhaaGFnTreeItemsWWords
import Derived.Test.YthmcanjeeljnhaaGFnTreeItemsWZeros
namespace Go.Proofs.Ythmcanjeeljnhaa.PTJ
open Go.RowKit Go.Proofs.YthmcanjeeljnhaaW.PrintWords Go.Proofs.YthmcanjeeljnhaaW.PrintLast Go.Proofs.YthmcanjeeljnhaaW.PrintMore
attribute [local go_sem] max2_int min2_int max_two min_two max_three min_three max_four min_four -- for this text's walks alone
set_option linter.unusedVariables false
set_option linter.unusedSimpArgs false



def errW:Option Int→Value
 |none=> .nilIface
 |some c=> .iface 0 (.int .i64 c)
theorem errW_none:errW none= .nilIface:=rfl
theorem errW_some (c:Int):errW (some c)= .iface 0 (.int .i64 c):=rfl

theorem info3:(Try.prog.info? 3).map (fun i=>(i.zero,i.size,i.bytes))=some (some (.int .i64 0),1,8):=by kernel_rfl
theorem info24:(Try.prog.info? 24).map (fun i=>(i.zero,i.size,i.bytes))=some (some (.slice none 0 0),1,24):=by kernel_rfl
theorem info27:(Try.prog.info? 27).map (fun i=>(i.zero,i.size,i.bytes))=some (some (.slice none 0 0),1,24):=by kernel_rfl
theorem info44:(Try.prog.info? 44).map (fun i=>(i.zero,i.size,i.bytes))=some (some (.agg #[(.int .i64 0),(.int .i64 0)]),2,16):=by kernel_rfl
theorem info53:(Try.prog.info? 53).map (fun i=>(i.zero,i.size,i.bytes))=some (some (.agg #[(.int .i64 0),(.int .i64 0),(.slice none 0 0),(.slice none 0 0)]),4,64):=by kernel_rfl
-- the values' own types
/-! #### struct type 44 -/
structure S44 where
 f0:Int
 f1:Int
def z44:S44:=⟨(0:Int),(0:Int)⟩
def k44:Kd S44:=Kd.iso (Kd.pair (Kd.int .i64) (Kd.int .i64)) (fun x:S44=>(x.f0,x.f1))
theorem k44_heap:Kd.Heap k44:=Kd.heap_iso _ (Kd.heap_pair (Kd.heap_int .i64) (Kd.heap_int .i64))
theorem k44_open {w:World} {x:S44} {cs:List Value} (h:k44.K w x cs):cs= [.int .i64 x.f0,.int .i64 x.f1]:=by
 obtain⟨_,_,rfl,rfl,rfl⟩:=h;exact rfl
theorem k44_openM {w:World} {base:Nat} {ok:Nat→Prop} {x:S44} {cs:List Value} (h:k44.M w base ok x cs):cs= [.int .i64 x.f0,.int .i64 x.f1]:=by
 obtain⟨_,_,rfl,rfl,rfl⟩:=h;exact rfl
theorem k44_mk (w:World) (x:S44):k44.K w x [.int .i64 x.f0,.int .i64 x.f1]:=⟨[.int .i64 x.f0],[.int .i64 x.f1],rfl,rfl,rfl⟩
theorem k44_mkM (w:World) (base:Nat) (ok:Nat→Prop) (x:S44):k44.M w base ok x [.int .i64 x.f0,.int .i64 x.f1]:=⟨[.int .i64 x.f0],[.int .i64 x.f1],rfl,rfl,rfl⟩
theorem k44_mkF (W:World) (ok:Nat→Prop) (x:S44):Kd.FK k44 W ok x [.int .i64 x.f0,.int .i64 x.f1]:=fun W2 _=>k44_mk W2 x
def rd_T44 (xs:List S44) (i:Int):S44:=xs.getD i.toNat z44
theorem at_T44 {w:World} {A:Option Addr} {n:Nat} {xs:List S44} (h:Kd.C k44 w A n xs) (i:Int) (h0:0≤i) (h1:i<n): ∃ad,A=some ad∧w.cell? (ad.add (i.toNat*2))=some (.int .i64 (rd_T44 xs i).f0)∧w.cell? ⟨(ad.add (i.toNat*2)).block,(ad.add (i.toNat*2)).off+1,none⟩=some (.int .i64 (rd_T44 xs i).f1):=by
 obtain⟨ad,c,e,_,hK,hc0⟩:=Kd.C_get h z44 i h0 h1;have hc: ∀j u,c[j]?=some u→w.cell? (ad.add (i.toNat*2+j))=some u:=hc0;obtain rfl:=k44_open hK;exact⟨ad,e,hc 0 _ rfl,by rw [←add_field _ _ 1 (by omega)];exact hc 1 _ rfl⟩

/-! #### struct type 53, nested in itself -/
structure S53 where
 f0:Int
 f1:Int
 f2:(List S53)
 f3:(List S53)
def z53:S53:=⟨(0:Int),(0:Int),([]:List S53),([]:List S53)⟩
def F53 (d:Kd S53):Kd S53:=Kd.iso (Kd.pair (Kd.int .i64) (Kd.pair (Kd.int .i64) (Kd.pair (Kd.slice 53 d) (Kd.slice 53 d)))) (fun x:S53=>(x.f0,x.f1,x.f2,x.f3))
theorem mono53:Kd.Mono F53:=Kd.mono_iso _ (Kd.mono_pair (Kd.mono_const _) (Kd.mono_pair (Kd.mono_const _) (Kd.mono_pair (Kd.mono_slice 53 Kd.mono_id) (Kd.mono_slice 53 Kd.mono_id))))
theorem sub53:Kd.Sub F53 [53]:=Kd.sub_iso _ (Kd.sub_pair (Kd.sub_const _ (by decide)) (Kd.sub_pair (Kd.sub_const _ (by decide)) (Kd.sub_pair (Kd.sub_slice 53 (by decide) Kd.sub_id) (Kd.sub_slice 53 (by decide) Kd.sub_id))))
theorem sz53: ∀n,(Kd.upto F53 4 [53] n).sz=4:=Kd.upto_sz (fun _=>rfl)
def k53:Kd S53:=Kd.fix F53 4 [53] sz53 (Kd.upto_E sub53)
theorem k53_heap:Kd.Heap k53:=Kd.heap_fix (fun _ h_=>Kd.heap_iso _ (Kd.heap_pair (Kd.heap_int .i64) (Kd.heap_pair (Kd.heap_int .i64) (Kd.heap_pair (Kd.heap_slice 53 h_) (Kd.heap_slice 53 h_)))))
theorem k53_open {w:World} {x:S53} {cs:List Value} (h:k53.K w x cs): ∃A2 c2 A3 c3,cs= [.int .i64 x.f0,.int .i64 x.f1,.slice A2 x.f2.length c2,.slice A3 x.f3.length c3]∧x.f2.length≤c2∧k53.C w A2 x.f2.length x.f2∧x.f3.length≤c3∧k53.C w A3 x.f3.length x.f3:=by
 obtain⟨n,h⟩:=h;cases n with
 |zero=>exact h.elim
 |succ n=>
  obtain⟨_,_,rfl,rfl,⟨_,_,rfl,rfl,⟨_,_,rfl,⟨A2,c2,rfl,l2,g2⟩,⟨A3,c3,rfl,l3,g3⟩⟩⟩⟩:=h;exact⟨A2,c2,A3,c3,rfl,l2,Kd.fix_C g2,l3,Kd.fix_C g3⟩
theorem k53_openM {w:World} {base:Nat} {ok:Nat→Prop} {x:S53} {cs:List Value} (h:k53.M w base ok x cs): ∃v2 v3,cs= [.int .i64 x.f0,.int .i64 x.f1,v2,v3]∧k53.R 53 w base ok v2 x.f2∧k53.R 53 w base ok v3 x.f3:=by
 obtain⟨n,h⟩:=h;cases n with
 |zero=>exact h.elim
 |succ n=>
  obtain⟨_,_,rfl,rfl,⟨_,_,rfl,rfl,⟨_,_,rfl,⟨v2,rfl,g2⟩,⟨v3,rfl,g3⟩⟩⟩⟩:=h;exact⟨v2,v3,rfl,Kd.fix_R g2,Kd.fix_R g3⟩
theorem k53_mk (w:World) (x:S53) {A2:Option Addr} {c2:Nat} (l2:x.f2.length≤c2) (g2:k53.C w A2 x.f2.length x.f2) {A3:Option Addr} {c3:Nat} (l3:x.f3.length≤c3) (g3:k53.C w A3 x.f3.length x.f3):k53.K w x [.int .i64 x.f0,.int .i64 x.f1,.slice A2 x.f2.length c2,.slice A3 x.f3.length c3]:=by
 obtain⟨n2,q2⟩:=Kd.fix_C_back mono53 g2;obtain⟨n3,q3⟩:=Kd.fix_C_back mono53 g3;have r2:=Kd.upto_C_le mono53 sz53 (show n2≤(max n2 n3) by omega) q2;have r3:=Kd.upto_C_le mono53 sz53 (show n3≤(max n2 n3) by omega) q3;exact⟨(max n2 n3)+1,⟨[.int .i64 x.f0],[.int .i64 x.f1,.slice A2 x.f2.length c2,.slice A3 x.f3.length c3],rfl,rfl,⟨[.int .i64 x.f1],[.slice A2 x.f2.length c2,.slice A3 x.f3.length c3],rfl,rfl,⟨[.slice A2 x.f2.length c2],[.slice A3 x.f3.length c3],rfl,⟨A2,c2,rfl,l2,r2⟩,⟨A3,c3,rfl,l3,r3⟩⟩⟩⟩⟩
theorem k53_mkM (w:World) (base:Nat) (ok:Nat→Prop) (x:S53) {v2:Value} (g2:k53.R 53 w base ok v2 x.f2) {v3:Value} (g3:k53.R 53 w base ok v3 x.f3):k53.M w base ok x [.int .i64 x.f0,.int .i64 x.f1,v2,v3]:=by
 obtain⟨n2,q2⟩:=Kd.fix_R_back mono53 g2;obtain⟨n3,q3⟩:=Kd.fix_R_back mono53 g3;have r2:=Kd.upto_R_le mono53 sz53 (show n2≤(max n2 n3) by omega) q2;have r3:=Kd.upto_R_le mono53 sz53 (show n3≤(max n2 n3) by omega) q3;exact⟨(max n2 n3)+1,⟨[.int .i64 x.f0],[.int .i64 x.f1,v2,v3],rfl,rfl,⟨[.int .i64 x.f1],[v2,v3],rfl,rfl,⟨[v2],[v3],rfl,⟨v2,rfl,r2⟩,⟨v3,rfl,r3⟩⟩⟩⟩⟩
theorem k53_openF {W:World} {ok:Nat→Prop} {x:S53} {cs:List Value} (h:Kd.FK k53 W ok x cs): ∃A2 c2 A3 c3,cs= [.int .i64 x.f0,.int .i64 x.f1,.slice A2 x.f2.length c2,.slice A3 x.f3.length c3]∧x.f2.length≤c2∧Kd.F k53 W ok A2 x.f2.length x.f2∧x.f3.length≤c3∧Kd.F k53 W ok A3 x.f3.length x.f3:=by
 obtain⟨A2,c2,A3,c3,rfl,l2,_,l3,_⟩:=k53_open (Kd.FK_now h);exact⟨A2,c2,A3,c3,rfl,l2,(fun W' hW=>by obtain⟨A2_,c2_,A3_,c3_,he,l2_,g2_,l3_,g3_⟩:=k53_open (h W' hW);injection (Option.some.inj (show some (Value.slice A2 x.f2.length c2)=some (Value.slice A2_ x.f2.length c2_)from congrArg (fun l=>l[2]?) he))with ha_ _ _;rw [ha_];exact g2_),l3,(fun W' hW=>by obtain⟨A2_,c2_,A3_,c3_,he,l2_,g2_,l3_,g3_⟩:=k53_open (h W' hW);injection (Option.some.inj (show some (Value.slice A3 x.f3.length c3)=some (Value.slice A3_ x.f3.length c3_)from congrArg (fun l=>l[3]?) he))with ha_ _ _;rw [ha_];exact g3_)⟩
theorem k53_mkF (W:World) (ok:Nat→Prop) (x:S53) {A2:Option Addr} {c2:Nat} (l2:x.f2.length≤c2) (g2:Kd.F k53 W ok A2 x.f2.length x.f2) {A3:Option Addr} {c3:Nat} (l3:x.f3.length≤c3) (g3:Kd.F k53 W ok A3 x.f3.length x.f3):Kd.FK k53 W ok x [.int .i64 x.f0,.int .i64 x.f1,.slice A2 x.f2.length c2,.slice A3 x.f3.length c3]:=fun W2 hW=>k53_mk W2 x l2 (g2 W2 hW) l3 (g3 W2 hW)
def rd_T53 (xs:List S53) (i:Int):S53:=xs.getD i.toNat z53
theorem at_T53 {w:World} {A:Option Addr} {n:Nat} {xs:List S53} (h:Kd.C k53 w A n xs) (i:Int) (h0:0≤i) (h1:i<n): ∃ad A2 c2 A3 c3,A=some ad∧w.cell? (ad.add (i.toNat*4))=some (.int .i64 (rd_T53 xs i).f0)∧w.cell? ⟨(ad.add (i.toNat*4)).block,(ad.add (i.toNat*4)).off+1,none⟩=some (.int .i64 (rd_T53 xs i).f1)∧w.cell? ⟨(ad.add (i.toNat*4)).block,(ad.add (i.toNat*4)).off+2,none⟩=some (.slice A2 (rd_T53 xs i).f2.length c2)∧w.cell? ⟨(ad.add (i.toNat*4)).block,(ad.add (i.toNat*4)).off+3,none⟩=some (.slice A3 (rd_T53 xs i).f3.length c3)∧(rd_T53 xs i).f2.length≤c2∧k53.C w A2 (rd_T53 xs i).f2.length (rd_T53 xs i).f2∧(rd_T53 xs i).f3.length≤c3∧k53.C w A3 (rd_T53 xs i).f3.length (rd_T53 xs i).f3:=by
 obtain⟨ad,c,e,_,hK,hc0⟩:=Kd.C_get h z53 i h0 h1;have hc: ∀j u,c[j]?=some u→w.cell? (ad.add (i.toNat*4+j))=some u:=hc0;obtain⟨A2,c2,A3,c3,rfl,l2,g2,l3,g3⟩:=k53_open hK;exact⟨ad,A2,c2,A3,c3,e,hc 0 _ rfl,by rw [←add_field _ _ 1 (by omega)];exact hc 1 _ rfl,by rw [←add_field _ _ 2 (by omega)];exact hc 2 _ rfl,by rw [←add_field _ _ 3 (by omega)];exact hc 3 _ rfl,l2,g2,l3,g3⟩

def rd_L3 (xs:List (List S44)) (i:Int):(List S44):=xs.getD i.toNat ([]:List S44)
theorem at_L3 {w:World} {A:Option Addr} {n:Nat} {xs:List (List S44)} (h:Kd.C (Kd.slice 44 k44) w A n xs) (i:Int) (h0:0≤i) (h1:i<n): ∃ad A0 c0,A=some ad∧w.cell? (ad.add i.toNat)=some (.slice A0 (rd_L3 xs i).length c0)∧(rd_L3 xs i).length≤c0∧k44.C w A0 (rd_L3 xs i).length (rd_L3 xs i):=by
 obtain⟨ad,c,e,_,hK,hc0⟩:=Kd.C_get h ([]:List S44) i h0 h1;have hc: ∀j u,c[j]?=some u→w.cell? (ad.add (i.toNat*1+j))=some u:=hc0;obtain⟨A0,c0,rfl,l0,g0⟩:=hK;exact⟨ad,A0,c0,e,by have hq:=hc 0 _ rfl;rwa [Nat.mul_one,Nat.add_zero]at hq,l0,g0⟩

def rd_L4 (xs:List (List Int)) (i:Int):(List Int):=xs.getD i.toNat ([]:List Int)
theorem at_L4 {w:World} {A:Option Addr} {n:Nat} {xs:List (List Int)} (h:Kd.C (Kd.slice 3 (Kd.int .i64)) w A n xs) (i:Int) (h0:0≤i) (h1:i<n): ∃ad A0 c0,A=some ad∧w.cell? (ad.add i.toNat)=some (.slice A0 (rd_L4 xs i).length c0)∧(rd_L4 xs i).length≤c0∧(Kd.int .i64).C w A0 (rd_L4 xs i).length (rd_L4 xs i):=by
 obtain⟨ad,c,e,_,hK,hc0⟩:=Kd.C_get h ([]:List Int) i h0 h1;have hc: ∀j u,c[j]?=some u→w.cell? (ad.add (i.toNat*1+j))=some u:=hc0;obtain⟨A0,c0,rfl,l0,g0⟩:=hK;exact⟨ad,A0,c0,e,by have hq:=hc 0 _ rfl;rwa [Nat.mul_one,Nat.add_zero]at hq,l0,g0⟩

def rd_L5 (xs:List (List S53)) (i:Int):(List S53):=xs.getD i.toNat ([]:List S53)
theorem at_L5 {w:World} {A:Option Addr} {n:Nat} {xs:List (List S53)} (h:Kd.C (Kd.slice 53 k53) w A n xs) (i:Int) (h0:0≤i) (h1:i<n): ∃ad A0 c0,A=some ad∧w.cell? (ad.add i.toNat)=some (.slice A0 (rd_L5 xs i).length c0)∧(rd_L5 xs i).length≤c0∧k53.C w A0 (rd_L5 xs i).length (rd_L5 xs i):=by
 obtain⟨ad,c,e,_,hK,hc0⟩:=Kd.C_get h ([]:List S53) i h0 h1;have hc: ∀j u,c[j]?=some u→w.cell? (ad.add (i.toNat*1+j))=some u:=hc0;obtain⟨A0,c0,rfl,l0,g0⟩:=hK;exact⟨ad,A0,c0,e,by have hq:=hc 0 _ rfl;rwa [Nat.mul_one,Nat.add_zero]at hq,l0,g0⟩

theorem am_ {p:Prop} (h:p):Aside0 p:=⟨h⟩
theorem ybne_ {w W:World} {g g2:Nat} {o:Obj} (hg:g2=W.heap.size) (hb:Aside0 (w.heap[g]?=some o)) (u:w.heap[g]?=some o→W.heap[g]?=some o:=by intro h;(with_reducible repeat(first|refine blk_drewN ?_ _|refine blk_drew ?_|refine blk_alloc ?_ _));exact h):g≠g2:=by rw [hg];exact Nat.ne_of_lt (blk_lt (u hb.out))
theorem ybl_ {p:Prop} (h:p:=by repeat(first|(with_reducible first|exact HB.out|apply below_alloc|apply pw_below_drewN|apply below_drew1|refine below_set ?_ (Aside0.out (by assumption)))|exact HB.out)):p:=h
theorem ybsz_ {w W:World} {g:Nat} (hg:g=W.heap.size) (hb:Below w.heap.size w W:=by repeat(first|(with_reducible first|exact HB.out|apply below_alloc|apply pw_below_drewN|apply below_drew1|refine below_set ?_ (Aside0.out (by assumption)))|exact HB.out)):w.heap.size≤g:=by rw [hg];exact below_size hb
theorem yst_ {w W w2:World} (k:Below W.heap.size W w2) (h:Below w.heap.size w W:=by repeat(first|(with_reducible first|exact HB.out|apply below_alloc|apply pw_below_drewN|apply below_drew1|refine below_set ?_ (Aside0.out (by assumption)))|exact HB.out)):Aside0 (Below w.heap.size w w2):=⟨below_step h k⟩
theorem ycst_ {w W:World} {a:Addr} {v:Value} (hb:Aside0 (Below w.heap.size w W)) (h:w.cell? a=some v):W.cell? a=some v:=(hb.out.cell (World.block_lt_of_cell? w _ h)).trans h
theorem yp0_ {w:World} {g t:Nat} {c0 c1 c2 c3 a0 a1 a2 a3:Value} (h:Aside0 (w.heap[g]?=some (.cells #[c0,c1,c2,c3] t (0,0)))):((((w.setCell ⟨g,0,none⟩ a0).setCell ⟨g,1,none⟩ a1).setCell ⟨g,2,none⟩ a2).setCell ⟨g,3,none⟩ a3).heap[g]?=some (.cells #[a0,a1,a2,a3] t (0,0)):=blk_put (cs':= #[a0,a1,a2,a3]) (blk_put (cs':= #[a0,a1,a2,c3]) (blk_put (cs':= #[a0,a1,c2,c3]) (blk_put (cs':= #[a0,c1,c2,c3]) (h.out) 0 a0 rfl) 1 a1 rfl) 2 a2 rfl) 3 a3 rfl
theorem yp1_ {w:World} {g t:Nat} {c0 c1 a0 a1 a2:Value} (h:Aside0 (w.heap[g]?=some (.cells #[c0,c1] t (0,0)))):(((w.setCell ⟨g,0,none⟩ a0).setCell ⟨g,1,none⟩ a1).setCell ⟨g,1,none⟩ a2).heap[g]?=some (.cells #[a0,a2] t (0,0)):=blk_put (cs':= #[a0,a2]) (blk_put (cs':= #[a0,a1]) (blk_put (cs':= #[a0,c1]) (h.out) 0 a0 rfl) 1 a1 rfl) 1 a2 rfl
theorem yk0_ {p:Prop} (h:p:=by(try simp only [List.map_toArray,List.map_cons,List.map_nil]);first|done|rfl|(simp only [List.length_drop,List.length_take];rfl)):p:=h
theorem yk1_ {p:Prop} (h:p:=by first|rfl|(simp [errW_none,errW_some]<;>rfl)|(simp [*,errW_none,errW_some]<;>rfl)):p:=h
theorem yqv0_ {p:Prop} (h:p:=by first|(with_reducible assumption)|assumption):p:=h
theorem yru_ {α:Type} {d:Kd α} {e base:Nat} {ok:Nat→Prop} {w W:World} {v:Value} {xs:List α} (h:Aside0 (d.R e w base ok v xs)) (u:d.R e w base ok v xs→d.R e W base ok v xs:=by intro h;(with_reducible repeat(first|apply Kd.R_alloc|apply Kd.R_drewN|apply Kd.R_drew));exact h):d.R e W base ok v xs:=u h.out
theorem yqv2_ {p:Prop} (h:p:=by first|exact HK.out.1|exact(show Kept w _ (fun k_=>P0_ k_)from by repeat(first|(with_reducible first|exact HK.out|apply Kept.alloc|apply Kept.drewN|apply Kept.drew)|exact HK.out)).1):p:=h
theorem yqv3_ {p:Prop} (h:p:=by repeat(first|(with_reducible first|exact HK.out|apply Kept.alloc|apply Kept.drewN|apply Kept.drew)|exact HK.out)):p:=h
theorem yqv4_ {p:Prop} (h:p:=by simp):p:=h
theorem ycb_ {α:Type} {d:Kd α} {w w1 W:World} {A:Option Addr} {n:Nat} {l:List α} (h:Aside0 (d.C w A n l)) (hb:Aside0 (Below w.heap.size w w1)) (u:d.C w1 A n l→d.C W A n l:=by intro h;repeat(first|exact h|(with_reducible refine Kd.C_alloc ?_ _)|(with_reducible refine Kd.C_drewN ?_ _)|(with_reducible refine Kd.C_drew ?_))):d.C W A n l:=u (Kd.C_below h.out hb.out)
theorem ybu_ {w W:World} {g:Nat} {o:Obj} (h:Aside0 (w.heap[g]?=some o)) (u:w.heap[g]?=some o→W.heap[g]?=some o:=by intro h;(with_reducible repeat(first|refine blk_drewN ?_ _|refine blk_drew ?_|refine blk_alloc ?_ _));exact h):W.heap[g]?=some o:=u h.out
theorem ybb_ {w W W1:World} {g:Nat} {o:Obj} (h:Aside0 (w.heap[g]?=some o)) (hb:Below W.heap.size W W1) (u:w.heap[g]?=some o→W.heap[g]?=some o:=by intro h;(with_reducible repeat(first|refine blk_drewN ?_ _|refine blk_drew ?_|refine blk_alloc ?_ _));exact h):W1.heap[g]?=some o:=blk_below (u h.out) hb
theorem yrs2c_ {α:Type} {d:Kd α} {e base g t:Nat} {w:World} {ok:Nat→Prop} {v:Value} {xs:List α} {cs:Array Value} {a0 a1:Value} (h:Aside0 (d.R e w base ok v xs)) (hb:Aside0 (w.heap[g]?=some (.cells cs t (0,0)))) (ht: ∀q,q∈e::d.E→q≠t:=by decide):d.R e ((w.setCell ⟨g,0,none⟩ a0).setCell ⟨g,1,none⟩ a1) base (fun k=>ok k∧k≠g) v xs:=
 (Kd.R_far (p:=⟨g,1,none⟩) (Kd.R_far (p:=⟨g,0,none⟩) (Kd.R_types h.out hb.out ht) (fun _ hk=>hk.2) a0) (fun _ hk=>hk.2) a1)
theorem ye4_ {w:World} {g t:Nat} {a0 a1 a2 a3:Value} (h:Aside0 (w.heap[g]?=some (.cells #[a0,a1,a2,a3] t (0,0)))):w.cell? ⟨g,0,none⟩=some a0∧w.cell? ⟨g,1,none⟩=some a1∧w.cell? ⟨g,2,none⟩=some a2∧w.cell? ⟨g,3,none⟩=some a3:=
 ⟨(blk_cell h.out 0).trans rfl,(blk_cell h.out 1).trans rfl,(blk_cell h.out 2).trans rfl,(blk_cell h.out 3).trans rfl⟩
theorem yf4_ {w:World} {g t:Nat} {cs:Array Value} (h:Aside0 (w.heap[g]?=some (.cells cs t (0,0)))):w.frozen? ⟨g,0,none⟩=false∧w.frozen? ⟨g,1,none⟩=false∧w.frozen? ⟨g,2,none⟩=false∧w.frozen? ⟨g,3,none⟩=false:=
 ⟨blk_frozen h.out 0,blk_frozen h.out 1,blk_frozen h.out 2,blk_frozen h.out 3⟩
theorem yqv11_ {p:Prop} (h:p:=by rw [hw];exact(by(with_reducible repeat(first|refine blk_drewN ?_ _|refine blk_drew ?_|refine blk_alloc ?_ _));refine blk_far ?_ NB171_184.out _;(with_reducible repeat(first|refine blk_drewN ?_ _|refine blk_drew ?_|refine blk_alloc ?_ _));exact BK171.out)):p:=h
theorem yqv12_ {p:Prop} (h:p:=by(with_reducible repeat(first|refine blk_drewN ?_ _|refine blk_drew ?_|refine blk_alloc ?_ _));refine blk_far ?_ NB171_184.out _;(with_reducible repeat(first|refine blk_drewN ?_ _|refine blk_drew ?_|refine blk_alloc ?_ _));exact BK171.out):p:=h
theorem yqv13_ {p:Prop} (h:p:=by rw [hw];exact(by repeat(first|(with_reducible first|exact HB.out|apply below_alloc|apply pw_below_drewN|apply below_drew1|refine below_set ?_ GE171.out|refine below_set ?_ GE184.out)|exact HB.out))):p:=h
theorem yqv14_ {p:Prop} (h:p:=by first|exact Kd.V_F (Kd.V_mono (ok':=(fun k_=>(P0_ k_∨w.heap.size≤k_))) (HO0.out) (fun k_ hk=>hk))|exact Kd.F_drewN (Kd.V_F (Kd.V_mono (ok':=(fun k_=>(P0_ k_∨w.heap.size≤k_))) (HO0.out) (fun k_ hk=>hk))) _|exact Kd.F_drewN (Kd.F_drewN (Kd.V_F (Kd.V_mono (ok':=(fun k_=>(P0_ k_∨w.heap.size≤k_))) (HO0.out) (fun k_ hk=>hk))) _) _):p:=h
theorem yqv15_ {p:Prop} (h:p:=by(with_reducible repeat(first|apply Kd.V_alloc|apply Kd.V_drewN|apply Kd.V_drew));exact HO0.out):p:=h
theorem yqv16_ {p:Prop} (h:p:=by(with_reducible repeat(first|apply TN.R_alloc|apply TN.R_drewN|apply TN.R_drew));exact(TN.R_mono (TN.R_far (p:=⟨gb288,1,none⟩) (TN.R_mono HO_289002.out (fun k_ hk=>(⟨hk,hk.2⟩:_∧k_≠gb288))) (fun _ hk=>hk.2) (.int .i64 1)) (fun _ h_=>h_.1))):p:=h
theorem yqv17_ {p:Prop} (h:p:=by(with_reducible repeat(first|apply TN.R_alloc|apply TN.R_drewN|apply TN.R_drew));exact(TN.R_mono (TN.R_far (p:=⟨gb288,0,none⟩) (TN.R_mono HO_289002.out (fun k_ hk=>(⟨hk,hk.2⟩:_∧k_≠gb288))) (fun _ hk=>hk.2) (.int .i64 8)) (fun _ h_=>h_.1))):p:=h
theorem yqv18_ {p:Prop} (h:p:=by(with_reducible repeat(first|refine blk_drewN ?_ _|refine blk_drew ?_|refine blk_alloc ?_ _));refine blk_far ?_ NB283_288.out _;(with_reducible repeat(first|refine blk_drewN ?_ _|refine blk_drew ?_|refine blk_alloc ?_ _));exact BK283.out):p:=h
theorem yqv19_ {p:Prop} (h:p:=by(with_reducible repeat(first|refine blk_drewN ?_ _|refine blk_drew ?_|refine blk_alloc ?_ _));refine blk_far ?_ NB302_0.out _;(with_reducible repeat(first|refine blk_drewN ?_ _|refine blk_drew ?_|refine blk_alloc ?_ _));exact BK302.out):p:=h
theorem yqv20_ {p:Prop} (h:p:=by repeat(first|(with_reducible first|exact HB.out|apply below_alloc|apply pw_below_drewN|apply below_drew1|refine below_set ?_ (IsS49.ge HI0.out)|refine below_set ?_ GE283.out|refine below_set ?_ GE288.out)|exact HB.out)):p:=h
theorem yqv21_ {p:Prop} (h:p:=by repeat(first|(with_reducible first|exact HK.out|apply KeepBut.set_|apply keep_drewN|apply keep_drew|apply keep_alloc|refine keep_far ?_ GW283.out _|refine keep_far ?_ GW288.out _)|exact HK.out)):p:=h
theorem yqv22_ {p:Prop} (h:p:=by repeat(first|(with_reducible first|exact HB.out|apply below_alloc|apply pw_below_drewN|apply below_drew1|refine below_set ?_ (IsS49.ge HI0.out)|refine below_set ?_ GE283.out)|exact HB.out)):p:=h
theorem yqv23_ {p:Prop} (h:p:=by repeat(first|(with_reducible first|exact HB.out|apply below_alloc|apply pw_below_drewN|apply below_drew1|refine below_set ?_ (IsS49.ge HI0.out)|refine below_set ?_ GE302.out)|exact HB.out)):p:=h
theorem yqv24_ {p:Prop} (h:p:=by repeat(first|(with_reducible first|exact HI0.out|apply IsS49.alloc|apply IsS49.drewN|apply IsS49.drew|apply IsS49.set_1|(apply IsS49.far;(case hne=>exact NB0_283.out)))|exact HI0.out)):p:=h
theorem yqv25_ {p:Prop} (h:p:=by repeat(first|(with_reducible first|exact HI0.out|apply IsS49.alloc|apply IsS49.drewN|apply IsS49.drew|apply IsS49.set_1|(apply IsS49.far;(case hne=>exact NB0_302.out)))|exact HI0.out)):p:=h
theorem yqv26_ {p:Prop} (h:p:=by repeat(first|(with_reducible first|exact HK.out|apply KeepBut.set_|apply keep_drewN|apply keep_drew|apply keep_alloc|refine keep_far ?_ GW283.out _)|exact HK.out)):p:=h
theorem yqv27_ {p:Prop} (h:p:=by repeat(first|(with_reducible first|exact HK.out|apply KeepBut.set_|apply keep_drewN|apply keep_drew|apply keep_alloc|refine keep_far ?_ GW302.out _)|exact HK.out)):p:=h
theorem yqv28_ {p:Prop} (h:p:=by repeat(first|(with_reducible first|exact HB.out|apply below_alloc|apply pw_below_drewN|apply below_drew1|refine below_set ?_ (IsS49.ge HI0.out))|exact HB.out)):p:=h
theorem yqv29_ {p:Prop} (h:p:=by repeat(first|(with_reducible first|exact HI0.out|apply IsS49.alloc|apply IsS49.drewN|apply IsS49.drew|apply IsS49.set_1)|exact HI0.out)):p:=h
theorem yqv30_ {p:Prop} (h:p:=by repeat(first|(with_reducible first|exact HK.out|apply KeepBut.set_|apply keep_drewN|apply keep_drew|apply keep_alloc)|exact HK.out)):p:=h
theorem yqv31_ {p:Prop} (h:p:=by first|(rw [add_block];exact hn289_0)|(show (Addr.add _ _).block≠_;rw [add_block];exact hn289_0)|exact hn289_0):p:=h
theorem yqv32_ {p:Prop} (h:p:=by first|(rw [add_block];exact hn289_1)|(show (Addr.add _ _).block≠_;rw [add_block];exact hn289_1)|exact hn289_1):p:=h
theorem yqv33_ {p:Prop} (h:p:=by first|(rw [add_block];exact hn289_2)|(show (Addr.add _ _).block≠_;rw [add_block];exact hn289_2)|exact hn289_2):p:=h
theorem yqv34_ {p:Prop} (h:p:=by first|(rw [add_block];exact hn289_3)|(show (Addr.add _ _).block≠_;rw [add_block];exact hn289_3)|exact hn289_3):p:=h
theorem yqv35_ {p:Prop} (h:p:=by(with_reducible repeat(first|apply TN.R_alloc|apply TN.R_drewN|apply TN.R_drew));exact HO286.out):p:=h
theorem yqv36_ {p:Prop} (h:p:=by have:=World.block_lt_of_cell? _ _ hx289_0;first|rwa [add_block]at this|exact this):p:=h
theorem yqv37_ {p:Prop} (h:p:=by have:=World.block_lt_of_cell? _ _ hw301_0;first|rwa [add_block]at this|exact this):p:=h
theorem yqv38_ {p:Prop} (h:p:=by have:=World.block_lt_of_cell? _ _ hw301_1;first|rwa [add_block]at this|exact this):p:=h
theorem yqv39_ {p:Prop} (h:p:=by repeat(first|(with_reducible first|exact HB.out|apply below_alloc|apply pw_below_drewN|apply below_drew1|refine below_set ?_ (IsS69.ge HI0.out))|exact HB.out)):p:=h
theorem yqv40_ {p:Prop} (h:p:=by repeat(first|(with_reducible first|exact HB.out|apply below_alloc|apply pw_below_drewN|apply below_drew1|refine below_set ?_ (IsS69.ge HI0.out)|refine below_set ?_ GE407.out)|exact HB.out)):p:=h
theorem yqv41_ {p:Prop} (h:p:=by repeat(first|(with_reducible first|exact HK.out|apply KeepBut.set_|apply keep_drewN|apply keep_drew|apply keep_alloc|refine keep_far ?_ GW407.out _)|exact HK.out)):p:=h
theorem yqv42_ {p:Prop} (h:p:=by repeat(first|(with_reducible first|exact HI0.out|apply IsS69.alloc|apply IsS69.drewN|apply IsS69.drew|apply IsS69.set_1|apply IsS69.set_2)|exact HI0.out)):p:=h
theorem yqv43_ {p:Prop} (h:p:=by repeat(first|(with_reducible first|exact HI0.out|apply IsS69.alloc|apply IsS69.drewN|apply IsS69.drew|apply IsS69.set_1|apply IsS69.set_2|(apply IsS69.far;(case hne=>exact NB0_469.out)))|exact HI0.out)):p:=h
theorem yqv44_ {p:Prop} (h:p:=by repeat(first|(with_reducible first|exact HB.out|apply below_alloc|apply pw_below_drewN|apply below_drew1|refine below_set ?_ (IsS69.ge HI0.out)|refine below_set ?_ GE469.out)|exact HB.out)):p:=h
theorem yqv45_ {p:Prop} (h:p:=by repeat(first|(with_reducible first|exact HK.out|apply KeepBut.set_|apply keep_drewN|apply keep_drew|apply keep_alloc|refine keep_far ?_ GW469.out _)|exact HK.out)):p:=h
theorem yqv46_ {p:Prop} (h:p:=by(with_reducible repeat(first|refine blk_drewN ?_ _|refine blk_drew ?_|refine blk_alloc ?_ _));refine blk_far ?_ NB649_650.out _;(with_reducible repeat(first|refine blk_drewN ?_ _|refine blk_drew ?_|refine blk_alloc ?_ _));refine blk_far ?_ NB649_650.out _;(with_reducible repeat(first|refine blk_drewN ?_ _|refine blk_drew ?_|refine blk_alloc ?_ _));exact BK649.out):p:=h
theorem yqv47_ {p:Prop} (h:p:=by first|exact HK.out.1|exact(show Kept w _ (fun k_=>P1_ k_)from by repeat(first|(with_reducible first|exact HK.out|apply Kept.alloc|apply Kept.drewN|apply Kept.drew|refine Kept.setCell ?_ (.inr GW649.out) _|refine Kept.setCell ?_ (.inr GW650.out) _)|exact HK.out)).1):p:=h
theorem yqv48_ {p:Prop} (h:p:=by first|exact HK.out.1|exact(show Kept w _ (fun k_=>P1_ k_)from by repeat(first|(with_reducible first|exact HK.out|apply Kept.alloc|apply Kept.drewN|apply Kept.drew|refine Kept.setCell ?_ (.inr GW649.out) _)|exact HK.out)).1):p:=h
theorem yqv49_ {p:Prop} (h:p:=by repeat(first|(with_reducible first|exact HK.out|apply Kept.alloc|apply Kept.drewN|apply Kept.drew|refine Kept.setCell ?_ (.inr GW649.out) _|refine Kept.setCell ?_ (.inr GW650.out) _)|exact HK.out)):p:=h
theorem yqv50_ {p:Prop} (h:p:=by repeat(first|(with_reducible exact HR675_2.out)|(with_reducible refine Kd.C_alloc ?_ _)|(with_reducible refine Kd.C_drewN ?_ _)|(with_reducible refine Kd.C_drew ?_)|exact HR675_2.out)):p:=h
theorem yqv51_ {p:Prop} (h:p:=by repeat(first|(with_reducible exact HR675_3.out)|(with_reducible refine Kd.C_alloc ?_ _)|(with_reducible refine Kd.C_drewN ?_ _)|(with_reducible refine Kd.C_drew ?_)|exact HR675_3.out)):p:=h
theorem yqv52_ {p:Prop} (h:p:=by repeat(first|(with_reducible first|exact HK.out|apply Kept.alloc|apply Kept.drewN|apply Kept.drew|refine Kept.setCell ?_ (.inr GW649.out) _)|exact HK.out)):p:=h
theorem yqv53_ {p:Prop} (h:p:=by repeat(first|(with_reducible first|exact HK.out|apply Kept.alloc|apply Kept.drewN|apply Kept.drew|refine Kept.setCell ?_ (.inr GW676.out) _)|exact HK.out)):p:=h
theorem yqv54_ {p:Prop} (h:p:=by repeat(first|(with_reducible exact HR706.out)|(with_reducible refine Kd.C_alloc ?_ _)|(with_reducible refine Kd.C_drewN ?_ _)|(with_reducible refine Kd.C_drew ?_)|exact HR706.out)):p:=h
theorem yqv55_ {p:Prop} (h:p:=by repeat(first|(with_reducible exact HR719.out)|(with_reducible refine Kd.C_alloc ?_ _)|(with_reducible refine Kd.C_drewN ?_ _)|(with_reducible refine Kd.C_drew ?_)|exact HR719.out)):p:=h
theorem yqv56_ {p:Prop} (h:p:=by repeat(first|(with_reducible exact HR735.out)|(with_reducible refine Kd.C_alloc ?_ _)|(with_reducible refine Kd.C_drewN ?_ _)|(with_reducible refine Kd.C_drew ?_)|exact HR735.out)):p:=h
theorem yqv57_ {p:Prop} (h:p:=by repeat(first|(with_reducible exact HR742.out)|(with_reducible refine Kd.C_alloc ?_ _)|(with_reducible refine Kd.C_drewN ?_ _)|(with_reducible refine Kd.C_drew ?_)|exact HR742.out)):p:=h
theorem yqv58_ {p:Prop} (h:p:=by(with_reducible repeat(first|apply Kd.R_alloc|apply Kd.R_drewN|apply Kd.R_drew));exact Kd.R_mono HO702.out (fun _ hk=>hk.2)):p:=h
theorem yqv59_ {p:Prop} (h:p:=by(with_reducible repeat(first|apply Kd.R_alloc|apply Kd.R_drewN|apply Kd.R_drew));exact Kd.R_mono HO731.out (fun _ hk=>hk.2)):p:=h
end Go.Proofs.Ythmcanjeeljnhaa.PTJ
