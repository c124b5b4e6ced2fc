import Derived.Deep.Slices
import Derived.ChangeArms
import Derived.WideShapes
import Derived.DataReads
import Derived.KernelRfl
import Derived.Lib.SliceRun
import Derived.Test.YtmjkehfbgaafjaaGreatDoorGSameMachineWWords
namespace Go.Proofs.YtmjkehfbgaafjaaGreatDoorO
open Go.ChangeShapes Go.WideShapes Go.Deep Go.RowKit Go.Proofs.YtmjkehfbgaafjaaGreatDoorW.PrintWords
/-- Whatever reads as data at type t stands as a value of kind d, of which G holds. -/
def Opens {α:Type} (P:Program) (t:TypeId) (d:Kd α) (G:α→Prop):Prop:=
  ∀(H:Type) (enc:TypeId × Value→H) (w:World) (fuel:Nat) (cs:List Value) (y:DataW H × List MemPlace),
    DataW.trod enc P w 0 (fun _=>true) true fuel t cs=some y→ ∃x,d.K w x cs∧G x
/-- The same of a struct's fields from cell 'off' on. -/
def OpensF {α:Type} (P:Program) (off:Nat) (fs:List Field) (d:Kd α) (G:α→Prop):Prop:=
  ∀(H:Type) (enc:TypeId × Value→H) (w:World) (fuel:Nat) (cs:List Value),cs.length=off+d.sz→
    (∀f,f∈fs→ ∃y,DataW.trod enc P w 0 (fun _=>true) true fuel f.type ((cs.drop f.offset).take (P.cellsOf f.type))=some y)→ ∃x,d.K w x (cs.drop off)∧G x
section
variable {P:Program} {t e:TypeId}
theorem opens_int {k:IntKind} (hu:P.underlying t=some (.int k)):Opens P t (Kd.int k) (fun n=>(Lit.int k n).wf=true):=by
  intro H enc w fuel cs y h
  obtain⟨n,rfl,_,hw⟩:=DataW.trod_int hu h
  exact⟨n,rfl,hw⟩
theorem opens_bool (hu:P.underlying t=some .bool):Opens P t Kd.bool (fun _=>True):=by
  intro H enc w fuel cs y h
  obtain⟨b,rfl,_⟩:=DataW.trod_bool hu h
  exact⟨b,rfl,trivial⟩
theorem opens_string (hu:P.underlying t=some .string):Opens P t Kd.string (fun s=>s.size≤9223372036854775807):=by
  intro H enc w fuel cs y h
  obtain⟨s,rfl,_,hs⟩:=DataW.trod_string hu h
  unfold maxLen at hs
  exact⟨s,rfl,hs⟩
theorem opens_slice {α:Type} {d:Kd α} {G:α→Prop} (hu:P.underlying t=some (.slice e)) (hc:P.cellsOf e=d.sz) (ho:Opens P e d G):
    Opens P t (Kd.slice e d) (fun xs=>xs.length≤9223372036854775807∧ ∀x,x∈xs→G x):=by
  intro H enc w fuel cs y h
  rcases open_slice hu h with ⟨rfl,_⟩|⟨a,len,cap,m,n,D,Pl,rfl,_,hl,hm,hmm,_,hi⟩
  · exact⟨[],⟨none,0,rfl,Nat.le_refl _,rfl,by simp,fun h0=>absurd h0 (by simp)⟩,by simp,by simp⟩
  · have hcap:cap≤9223372036854775807:=by unfold maxLen at hm;exact hm
    have hmc:m=cap:=by simpa using hmm
    have hex: ∀i,i<len→ ∃p:α × List Value,w.cells? 0 (a.add (i*P.cellsOf e)) (P.cellsOf e)=some p.2∧d.K w p.1 p.2∧G p.1:=by
      intro i hil
      obtain⟨cs',h1,h2⟩:=hi i (by omega)
      obtain⟨x,hk,hg⟩:=ho H enc w n cs' _ h2
      exact⟨(x,cs'),h1,hk,hg⟩
    obtain⟨f,hf⟩: ∃f:(i:Nat)→i<len→α × List Value,∀i (hil:i<len),w.cells? 0 (a.add (i*P.cellsOf e)) (P.cellsOf e)=some (f i hil).2∧d.K w (f i hil).1 (f i hil).2∧G (f i hil).1:=
      ⟨fun i hil=>Classical.choose (hex i hil),fun i hil=>Classical.choose_spec (hex i hil)⟩
    have hll:(List.ofFn fun i:Fin len=>(f i.1 i.2).1).length=len:=by simp
    refine⟨List.ofFn fun i:Fin len=>(f i.1 i.2).1,⟨some a,cap,by rw [hll],by rw [hll];exact hl,by simp,by rw [hll];omega,fun _=>⟨a,rfl,?_⟩⟩,by rw [hll];omega,?_⟩
    · intro j p hj
      have hjl:j<len:=by
        have:=(List.getElem?_eq_some_iff.1 hj).1
        rwa [hll]at this
      have hp:p=(f j hjl).1:=by
        rw [List.getElem?_eq_getElem (by rw [hll];exact hjl)]at hj
        simpa using hj.symm
      obtain⟨h1,h2,_⟩:=hf j hjl
      obtain⟨_,hlen,hat⟩:=World.cells?_some h1
      refine⟨(f j hjl).2,by rw [hlen,hc],by rw [hp];exact h2,fun i u hu=> ?_⟩
      have hil:i<P.cellsOf e:=by
        rw [←hlen]
        exact(List.getElem?_eq_some_iff.1 hu).1
      rw [←hc,←Go.Deep.add_add,hat i hil]
      exact hu
    · intro x hx
      obtain⟨i,rfl⟩:=(List.mem_ofFn).1 hx
      exact(hf i.1 i.2).2.2
theorem opensF_last {α:Type} {off:Nat} {f:Field} {d:Kd α} {G:α→Prop} (hoff:f.offset=off) (hc:P.cellsOf f.type=d.sz) (ho:Opens P f.type d G):OpensF P off [f] d G:=by
  intro H enc w fuel cs hl h
  obtain⟨y,hy⟩:=h f (by simp)
  obtain⟨x,hk,hg⟩:=ho H enc w fuel _ y hy
  refine⟨x,?_,hg⟩
  rw [hoff,hc,List.take_of_length_le (by rw [List.length_drop];omega)]at hk
  exact hk
theorem opensF_cons {α β:Type} {off:Nat} {f:Field} {fs:List Field} {d:Kd α} {d':Kd β} {G:α→Prop} {G':β→Prop} (hoff:f.offset=off) (hc:P.cellsOf f.type=d.sz) (ho:Opens P f.type d G) (hs:OpensF P (off+d.sz) fs d' G'):
    OpensF P off (f::fs) (Kd.pair d d') (fun x=>G x.1∧G' x.2):=by
  intro H enc w fuel cs hl h
  have hsz:(Kd.pair d d').sz=d.sz+d'.sz:=rfl
  obtain⟨y,hy⟩:=h f (by simp)
  obtain⟨x,hk,hg⟩:=ho H enc w fuel _ y hy
  obtain⟨x',hk',hg'⟩:=hs H enc w fuel cs (by omega) (fun f' hf'=>h f' (by simp [hf']))
  refine⟨(x,x'),⟨(cs.drop off).take d.sz,cs.drop (off+d.sz),?_,?_,hk'⟩,hg,hg'⟩
  · rw [←List.drop_drop,List.take_append_drop]
  · rw [hoff,hc]at hk
    exact hk
theorem opens_struct {α β:Type} {fs:Array Field} {d:Kd α} {G:α→Prop} (hu:P.underlying t=some (.struct fs)) (hc:P.cellsOf t=d.sz) (f:β→α) (g:α→β) (hfg: ∀x,f (g x)=x) (ho:OpensF P 0 fs.toList d G):
    Opens P t (Kd.iso d f) (fun x=>G (f x)):=by
  intro H enc w fuel cs y h
  obtain⟨xs,n,_,_,hlen,hxl,hat⟩:=DataW.trod_struct hu h
  obtain⟨x,hk,hg⟩:=ho H enc w n cs (by rw [hlen,hc,Nat.zero_add]) (by
    intro f' hf'
    obtain⟨i,hi,he⟩:=List.mem_iff_getElem.1 hf'
    have hif:fs[i]?=some f':=by
      rw [←Array.getElem?_toList,List.getElem?_eq_getElem hi,he]
    refine⟨xs[i]'(by rw [hxl];simpa using hi),?_⟩
    rw [hat i f' hif]
    exact List.getElem?_eq_getElem _)
  refine⟨g x,?_,by show G (f (g x));rw [hfg];exact hg⟩
  show d.K w (f (g x)) cs
  rw [hfg]
  simpa using hk
end
end Go.Proofs.YtmjkehfbgaafjaaGreatDoorO
namespace Go.Proofs.YtmjkehfbgaafjaaGreatDoorO
open Go.RowKit Go.Proofs.YtmjkehfbgaafjaaGreatDoorW.PrintWords
section
variable {P:Program} {ops:Array Oper} {Q:Exit→Act→World→Prop}
/-- The operation calls the function value in this slot. -/
theorem gate_tmp {t:Tmp} {o:Oper} {rest:List Oper} {a:Act} {W:World} {as:Array Operand} {ts:Array TypeId} (_ho:o.op= .call {callee:= .value (.tmp t),args:=as,argTypes:=ts}) (h:wpList P ops Q (o::rest) a W):wpList P ops Q (o::rest) a W:=h
/-- A call of a function value that captures nothing, in a plain region. -/
theorem goesT_ {rest:List Oper} {oi:Oper} {a:Act} {w:World} (N:Option Tmp) (hd:oi.dst=N) (hg:oi.guard=none) {f:FuncId} {fn:Func} {as:Array Operand} {ts:Array TypeId} (c:Operand) (hc:a.eval c= .func (.func f) #[] #[]) (hf:P.funcs[f]?=some fn) (hname:(fn.name== "runtime.NumGoroutine")=false) (hb:fn.body.isSome=true) (args:Array Value)
    (hop:oi.op= .call {callee:= .value c,args:=as,argTypes:=ts}) (hargs:as.map a.eval=args)
    (h:Calls P f args w fun e w'=> ∃v,e= .returned v∧wpList P ops Q rest (a.put N v) w'):wpList P ops Q (oi::rest) a w:=by
  refine wpList_plain hg fun K hK=> ?_
  have h1:fn.name≠ "runtime.NumGoroutine" :=by simpa using hname
  have he:(callFunc f args).run P w= .ok (.enter f args) w:=by
    obtain⟨b,hb'⟩:=Option.isSome_iff_exists.1 hb
    simp [callFunc,hf,h1,hb']
  have hrun:(execOp a.eval oi).run P w= .ok (.enter f args) w:=by
    unfold execOp
    simp [hop,resolve,Deferred.ofValue,invoke,hc,hargs,he]
  unfold Oper.wp
  rw [hrun,Oper.upon_enter]
  refine h.mono fun e w'' hh=> ?_
  obtain⟨v,rfl,hk⟩:=hh
  subst hd
  exact hK _ _ hk
theorem eql_none {t e:TypeId} (w:World) (ht:P.underlying t=some (.slice e)) (n c:Nat):(binOp .eql t (.slice none n c) (.slice none 0 0)).run P w= .ok (.bool true) w:=Lib.run_eql_slice_nil w t e none n c 0 0 ht
theorem eql_some {t e:TypeId} (w:World) (ht:P.underlying t=some (.slice e)) (ad:Addr) (n c:Nat):(binOp .eql t (.slice (some ad) n c) (.slice none 0 0)).run P w= .ok (.bool false) w:=Lib.run_eql_slice_nil w t e (some ad) n c 0 0 ht
end
end Go.Proofs.YtmjkehfbgaafjaaGreatDoorO
