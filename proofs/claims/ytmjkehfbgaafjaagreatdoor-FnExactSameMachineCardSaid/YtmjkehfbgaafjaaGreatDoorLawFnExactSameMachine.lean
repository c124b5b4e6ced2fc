-- laid by a program of this session out of the translation's own print: Lean checks it
/- The law laws.FnExactSameMachine holds for every input: its row, out of its pure statement and the walk of its Go code. No condition. -/
import Derived.Test.YtmjkehfbgaafjaaGreatDoorCards
import Derived.Test.YtmjkehfbgaafjaaGreatDoorTie
import Derived.Test.YtmjkehfbgaafjaaGreatDoorPSMx24
import Derived.Test.YtmjkehfbgaafjaaGreatDoorPureFnExactSameMachine
import Derived.Test.YtmjkehfbgaafjaaGreatDoorGSameMachineOp
import Derived.WalkKit
import Derived.ProofKit
import Derived.OpenShut
import Derived.ShutString
import Derived.ChangeOld
import Derived.Below
import Derived.SizedLaws
import Derived.Lay
import Derived.LaidMore
import Derived.SevenTiedAt
import Derived.Deep.DeepHandedRow
import Derived.Stop.Joined
import Derived.Lib.LaidTab
import Derived.Shelf.LaysM
namespace Go.Proofs.YtmjkehfbgaafjaaGreatDoor.fnExactSameMachine
open Go.ChangeShapes Go.WideShapes Go.ChangeAt Go.RowKit Go.Proofs.YtmjkehfbgaafjaaGreatDoor.PSM Go.Proofs.YtmjkehfbgaafjaaGreatDoorO Go.Proofs.YtmjkehfbgaafjaaGreatDoorW.PrintWords
open Go.ChangeMaps (open_string shut_string)
set_option linter.unusedVariables false
set_option linter.unusedSimpArgs false
theorem own:ownKnob Tryz.prog.godebug=none:=by kernel_rfl
theorem laidOut:laidOutB Tryz.prog=true:=by kernel_rfl
theorem opens32:Opens Tryz.prog 32 k32 (fun x=>(x.f0.length≤9223372036854775807∧ ∀e0_,e0_∈x.f0→(e0_.f0.size≤9223372036854775807)∧((Lit.int .i64 e0_.f1).wf=true)∧((Lit.int .i64 e0_.f2).wf=true))∧(x.f1.length≤9223372036854775807∧ ∀e0_,e0_∈x.f1→(Lit.int .i64 e0_).wf=true)∧((x.f2.f0.length≤9223372036854775807∧ ∀e0_,e0_∈x.f2.f0→(Lit.int .i64 e0_).wf=true)∧(x.f2.f1.length≤9223372036854775807∧ ∀e0_,e0_∈x.f2.f1→(Lit.int .i64 e0_).wf=true)∧(x.f2.f2.length≤9223372036854775807∧ ∀e0_,e0_∈x.f2.f2→(Lit.int .i64 e0_).wf=true)∧((Lit.int .i64 x.f2.f3).wf=true)∧((Lit.int .i64 x.f2.f4).wf=true)∧(x.f2.f5.size≤9223372036854775807))∧((x.f3.f0.length≤9223372036854775807∧ ∀e0_,e0_∈x.f3.f0→True)∧(x.f3.f1.length≤9223372036854775807∧ ∀e0_,e0_∈x.f3.f1→(Lit.int .i64 e0_).wf=true)∧(x.f3.f2.length≤9223372036854775807∧ ∀e0_,e0_∈x.f3.f2→(Lit.int .i64 e0_).wf=true)∧((Lit.int .i64 x.f3.f3).wf=true)∧(x.f3.f4.length≤9223372036854775807∧ ∀e0_,e0_∈x.f3.f4→((Lit.int .i64 e0_.f0).wf=true)∧((Lit.int .i64 e0_.f1).wf=true)∧((Lit.int .i64 e0_.f2).wf=true)∧((Lit.int .i64 e0_.f3).wf=true)))∧(x.f4.length≤9223372036854775807∧ ∀e0_,e0_∈x.f4→((Lit.int .i64 e0_.f0).wf=true)∧((Lit.int .i64 e0_.f1).wf=true)∧((Lit.int .i64 e0_.f2).wf=true)∧(True))∧((Lit.int .i64 x.f5).wf=true)∧((Lit.int .i64 x.f6).wf=true)):=fun H enc w fuel cs y h=>by
  obtain⟨x,hk,hg⟩:=(opens_struct Tryz.underlying32 (by kernel_rfl) (fun x:S32=>(x.f0,x.f1,x.f2,x.f3,x.f4,x.f5,x.f6)) (fun p=>⟨p.1,p.2.1,p.2.2.1,p.2.2.2.1,p.2.2.2.2.1,p.2.2.2.2.2.1,p.2.2.2.2.2.2⟩) (fun _=>rfl) (opensF_cons rfl (by kernel_rfl) (opens_slice Tryz.underlying22 (by kernel_rfl) (opens_struct Tryz.underlying71 (by kernel_rfl) (fun x:S71=>(x.f0,x.f1,x.f2)) (fun p=>⟨p.1,p.2.1,p.2.2⟩) (fun _=>rfl) (opensF_cons rfl (by kernel_rfl) (opens_string Tryz.underlying9) (opensF_cons rfl (by kernel_rfl) (opens_int Tryz.underlying3) (opensF_last rfl (by kernel_rfl) (opens_int Tryz.underlying3)))))) (opensF_cons rfl (by kernel_rfl) (opens_slice Tryz.underlying23 (by kernel_rfl) (opens_int Tryz.underlying3)) (opensF_cons rfl (by kernel_rfl) (opens_struct Tryz.underlying25 (by kernel_rfl) (fun x:S25=>(x.f0,x.f1,x.f2,x.f3,x.f4,x.f5)) (fun p=>⟨p.1,p.2.1,p.2.2.1,p.2.2.2.1,p.2.2.2.2.1,p.2.2.2.2.2⟩) (fun _=>rfl) (opensF_cons rfl (by kernel_rfl) (opens_slice Tryz.underlying23 (by kernel_rfl) (opens_int Tryz.underlying3)) (opensF_cons rfl (by kernel_rfl) (opens_slice Tryz.underlying23 (by kernel_rfl) (opens_int Tryz.underlying3)) (opensF_cons rfl (by kernel_rfl) (opens_slice Tryz.underlying23 (by kernel_rfl) (opens_int Tryz.underlying3)) (opensF_cons rfl (by kernel_rfl) (opens_int Tryz.underlying3) (opensF_cons rfl (by kernel_rfl) (opens_int Tryz.underlying3) (opensF_last rfl (by kernel_rfl) (opens_string Tryz.underlying9)))))))) (opensF_cons rfl (by kernel_rfl) (opens_struct Tryz.underlying29 (by kernel_rfl) (fun x:S29=>(x.f0,x.f1,x.f2,x.f3,x.f4)) (fun p=>⟨p.1,p.2.1,p.2.2.1,p.2.2.2.1,p.2.2.2.2⟩) (fun _=>rfl) (opensF_cons rfl (by kernel_rfl) (opens_slice Tryz.underlying26 (by kernel_rfl) (opens_bool Tryz.underlying4)) (opensF_cons rfl (by kernel_rfl) (opens_slice Tryz.underlying23 (by kernel_rfl) (opens_int Tryz.underlying3)) (opensF_cons rfl (by kernel_rfl) (opens_slice Tryz.underlying23 (by kernel_rfl) (opens_int Tryz.underlying3)) (opensF_cons rfl (by kernel_rfl) (opens_int Tryz.underlying3) (opensF_last rfl (by kernel_rfl) (opens_slice Tryz.underlying27 (by kernel_rfl) (opens_struct Tryz.underlying95 (by kernel_rfl) (fun x:S95=>(x.f0,x.f1,x.f2,x.f3)) (fun p=>⟨p.1,p.2.1,p.2.2.1,p.2.2.2⟩) (fun _=>rfl) (opensF_cons rfl (by kernel_rfl) (opens_int Tryz.underlying3) (opensF_cons rfl (by kernel_rfl) (opens_int Tryz.underlying3) (opensF_cons rfl (by kernel_rfl) (opens_int Tryz.underlying3) (opensF_last rfl (by kernel_rfl) (opens_int Tryz.underlying3))))))))))))) (opensF_cons rfl (by kernel_rfl) (opens_slice Tryz.underlying30 (by kernel_rfl) (opens_struct Tryz.underlying80 (by kernel_rfl) (fun x:S80=>(x.f0,x.f1,x.f2,x.f3)) (fun p=>⟨p.1,p.2.1,p.2.2.1,p.2.2.2⟩) (fun _=>rfl) (opensF_cons rfl (by kernel_rfl) (opens_int Tryz.underlying3) (opensF_cons rfl (by kernel_rfl) (opens_int Tryz.underlying3) (opensF_cons rfl (by kernel_rfl) (opens_int Tryz.underlying3) (opensF_last rfl (by kernel_rfl) (opens_bool Tryz.underlying4))))))) (opensF_cons rfl (by kernel_rfl) (opens_int Tryz.underlying3) (opensF_last rfl (by kernel_rfl) (opens_int Tryz.underlying3))))))))) H enc w fuel cs y h
  exact⟨x,hk,hg⟩
theorem tab_u8 {W:World} (h:laidMetH Tryz.prog Rows.fnExactSameMachineRow.laid W):Lib.TabIs Tryz.prog W "strings.asciiSpace" .u8 Lib.asciiSpaceTab:=by
  rw [MakeChecks.laidMetH_plain _ _ _ (by kernel_rfl)]at h
  obtain⟨ps,⟨g0,t0,cs0,f0,p0,q0,hg0,ht0,hv0,hd0,⟨g1,t1,cs1,f1,p1,q1,hg1,ht1,hv1,hd1,⟨g2,t2,cs2,f2,p2,q2,hg2,ht2,hv2,hd2,_,_⟩,_⟩,_⟩,_⟩:=h
  obtain rfl:=Option.some.inj ((show Tryz.prog.globalNamed "strings.asciiSpace" =some 0 by kernel_rfl).symm.trans hg2)
  obtain rfl:=Option.some.inj ((show (Tryz.prog.globals[0]?).map (·.type)=some 113 by kernel_rfl).symm.trans ht2)
  have e:(Rows.laid_strings_asciiSpace:DataW Unit)=Lib.tabData .u8 Lib.asciiSpaceTab:=by kernel_rfl
  rw [e]at hd2
  unfold Lib.TabIs
  rw [hv2,←Lib.cells_of_tab Tryz.underlying113 Tryz.underlying5 (by kernel_rfl) (by kernel_rfl) hd2]
theorem globOK {W:World} (h:laidMetH Tryz.prog Rows.fnExactSameMachineRow.laid W) (hs:W.ShapedOpen Tryz.prog):GlobOK W:=⟨tab_u8 h,Go.Proofs.cell_of_shapedOpen_int (zero:= #[.int .i64 0]) (t:=3) hs (of_decide_eq_true (by kernel_rfl)) (by kernel_rfl) rfl (by kernel_rfl) (by kernel_rfl) Tryz.underlying3⟩
theorem laid_met (os:Os):laidMetH Tryz.prog Rows.fnExactSameMachineRow.laid ((World.laidAll Tryz.prog os Rows.fnExactSameMachineRow.laid).forCall (fun _ _=>0) ⟨#[], #[.agg #[.slice none 0 0,.slice none 0 0,.slice none 0 0,.slice none 0 0,.slice none 0 0,.int .i64 0,.int .i64 0,.string ByteArray.empty,.slice none 0 0,.slice none 0 0,.slice none 0 0,.int .i64 0,.slice none 0 0,.slice none 0 0,.int .i64 0,.int .i64 0],.agg #[.slice none 0 0,.slice none 0 0,.slice none 0 0,.slice none 0 0,.slice none 0 0,.int .i64 0,.int .i64 0,.string ByteArray.empty,.slice none 0 0,.slice none 0 0,.slice none 0 0,.int .i64 0,.slice none 0 0,.slice none 0 0,.int .i64 0,.int .i64 0]],[]⟩).memory:=by
  rw [MakeChecks.laidMetH_plain _ _ _ (by kernel_rfl)]
  exact laidMet_laidAll _ (by kernel_rfl) (by kernel_rfl)
theorem reads (os:Os) {H:Type} (enc:TypeId × Value→H): ∃places,DataW.whole enc Tryz.prog ((World.laidAll Tryz.prog os Rows.fnExactSameMachineRow.laid).forCall (fun _ _=>0) ⟨#[], #[.agg #[.slice none 0 0,.slice none 0 0,.slice none 0 0,.slice none 0 0,.slice none 0 0,.int .i64 0,.int .i64 0,.string ByteArray.empty,.slice none 0 0,.slice none 0 0,.slice none 0 0,.int .i64 0,.slice none 0 0,.slice none 0 0,.int .i64 0,.int .i64 0],.agg #[.slice none 0 0,.slice none 0 0,.slice none 0 0,.slice none 0 0,.slice none 0 0,.int .i64 0,.int .i64 0,.string ByteArray.empty,.slice none 0 0,.slice none 0 0,.slice none 0 0,.int .i64 0,.slice none 0 0,.slice none 0 0,.int .i64 0,.int .i64 0]],[]⟩).memory Tryz.f4.params.toList Rows.fnExactSameMachineSpec.vars false (#[.agg #[.slice none 0 0,.slice none 0 0,.slice none 0 0,.slice none 0 0,.slice none 0 0,.int .i64 0,.int .i64 0,.string ByteArray.empty,.slice none 0 0,.slice none 0 0,.slice none 0 0,.int .i64 0,.slice none 0 0,.slice none 0 0,.int .i64 0,.int .i64 0],.agg #[.slice none 0 0,.slice none 0 0,.slice none 0 0,.slice none 0 0,.slice none 0 0,.int .i64 0,.int .i64 0,.string ByteArray.empty,.slice none 0 0,.slice none 0 0,.slice none 0 0,.int .i64 0,.slice none 0 0,.slice none 0 0,.int .i64 0,.int .i64 0]]:Array Value).toList 8=some ([.agg [.nil,.nil,.agg [.nil,.nil,.nil,.lit (.int .i64 0),.lit (.int .i64 0),.lit (.string [])],.agg [.nil,.nil,.nil,.lit (.int .i64 0),.nil],.nil,.lit (.int .i64 0),.lit (.int .i64 0)],.agg [.nil,.nil,.agg [.nil,.nil,.nil,.lit (.int .i64 0),.lit (.int .i64 0),.lit (.string [])],.agg [.nil,.nil,.nil,.lit (.int .i64 0),.nil],.nil,.lit (.int .i64 0),.lit (.int .i64 0)]],[],places):=
  ⟨[],by kernel_rfl⟩
theorem okw (os:Os):Input.okWideB Tryz.checked.prog ((World.laidAll Tryz.prog os Rows.fnExactSameMachineRow.laid).forCall (fun _ _=>0) ⟨#[], #[.agg #[.slice none 0 0,.slice none 0 0,.slice none 0 0,.slice none 0 0,.slice none 0 0,.int .i64 0,.int .i64 0,.string ByteArray.empty,.slice none 0 0,.slice none 0 0,.slice none 0 0,.int .i64 0,.slice none 0 0,.slice none 0 0,.int .i64 0,.int .i64 0],.agg #[.slice none 0 0,.slice none 0 0,.slice none 0 0,.slice none 0 0,.slice none 0 0,.int .i64 0,.int .i64 0,.string ByteArray.empty,.slice none 0 0,.slice none 0 0,.slice none 0 0,.int .i64 0,.slice none 0 0,.slice none 0 0,.int .i64 0,.int .i64 0]],[]⟩) 4 ⟨#[], #[.agg #[.slice none 0 0,.slice none 0 0,.slice none 0 0,.slice none 0 0,.slice none 0 0,.int .i64 0,.int .i64 0,.string ByteArray.empty,.slice none 0 0,.slice none 0 0,.slice none 0 0,.int .i64 0,.slice none 0 0,.slice none 0 0,.int .i64 0,.int .i64 0],.agg #[.slice none 0 0,.slice none 0 0,.slice none 0 0,.slice none 0 0,.slice none 0 0,.int .i64 0,.int .i64 0,.string ByteArray.empty,.slice none 0 0,.slice none 0 0,.slice none 0 0,.int .i64 0,.slice none 0 0,.slice none 0 0,.int .i64 0,.int .i64 0]],[]⟩=true:=by kernel_rfl
theorem witness (os:Os) {H:Type} (enc:TypeId × Value→H): ∃(w:World) (tape:Tape) (i:Input),w.os=os∧(w.forCall tape i).Shaped Tryz.checked.prog∧i.vars= []∧Input.okWide Tryz.checked.prog (w.forCall tape i) .any w.heap.size 4 i∧(OpenSpec.ofChange Rows.fnExactSameMachineSpec).preRow enc Tryz.checked.prog Tryz.f4 Rows.fnExactSameMachineRow.domain false Rows.fnExactSameMachineRow.laid (w.forCall tape i).memory i.args∧({modest:=false}:Assume).holds Tryz.checked.prog (lone (Frame.enter Tryz.checked.prog 4 i.args .normal) [] (w.forCall tape i)):=by
  obtain⟨places,hx⟩:=reads os enc
  exact⟨World.laidAll Tryz.prog os Rows.fnExactSameMachineRow.laid,fun _ _=>0,⟨#[], #[.agg #[.slice none 0 0,.slice none 0 0,.slice none 0 0,.slice none 0 0,.slice none 0 0,.int .i64 0,.int .i64 0,.string ByteArray.empty,.slice none 0 0,.slice none 0 0,.slice none 0 0,.int .i64 0,.slice none 0 0,.slice none 0 0,.int .i64 0,.int .i64 0],.agg #[.slice none 0 0,.slice none 0 0,.slice none 0 0,.slice none 0 0,.slice none 0 0,.int .i64 0,.int .i64 0,.string ByteArray.empty,.slice none 0 0,.slice none 0 0,.slice none 0 0,.int .i64 0,.slice none 0 0,.slice none 0 0,.int .i64 0,.int .i64 0]],[]⟩,World.laidAll_os _ _ _,World.shaped_of_ZipB (by kernel_rfl) (by kernel_rfl),(Input.okWide_of_okWideB (base:=0) (okw os)).1,(Input.okWide_of_okWideB (okw os)).2,OpenSpec.preRow_of_cond 8 hx (by kernel_rfl) (fun k hk=>by cases hk) (by kernel_rfl) (laid_met os),by
    simp only [Assume.holds]
    exact⟨by simp,by simp,fun _=>Modest.zero,by simp,by simp⟩⟩
set_option maxRecDepth 100000 in
theorem lifted (os:Os) (started:os.Started) (H:Type) (enc:TypeId × Value→H) (F:Stop.Interp):
    ReturnsInHanded {} Tryz.checked os 4 .any ((OpenSpec.ofChange Rows.fnExactSameMachineSpec).preRow enc Tryz.prog Tryz.f4 Rows.fnExactSameMachineRow.domain false Rows.fnExactSameMachineRow.laid) (((OpenSpec.ofChange Rows.fnExactSameMachineSpec).at F).post enc Tryz.prog Tryz.f4 false true false false):=by
  refine returnsInHanded_of_row (C:=Tryz.checked) (s:=OpenSpec.ofChange Rows.fnExactSameMachineSpec) own started (by kernel_rfl) Tryz.func4 (witness os enc) ?_
  intro W base args ds gs before hval0 hW hcnd _ hsz0 hL_ hS_ _
  have hG_:=globOK hL_ hS_
  have hval: ∀(j:Nat) t v,Tryz.f4.params[j]?=some t→args[j]?=some v→Value.okWide Tryz.prog W .any base t v:=hval0
  have hW':=hW
  obtain⟨p,q,hA0,hV,rfl,hfz,hnd⟩:=hW
  have hA:DataW.TrodAll enc Tryz.prog W 0 (fun _=>true) true Tryz.f4.params.toList args.toList ds p:=hA0
  rw [Tryz.params4]at hA hval
  obtain⟨v0,vs0,d0,ds0,p0,q0,hargs,rfl,rfl,h0,r0⟩:=trodAll_cons hA
  obtain⟨v1,vs1,d1,ds1,p1,q1,rfl,rfl,rfl,h1,r1⟩:=trodAll_cons r0
  obtain⟨rfl,rfl,rfl⟩:=trodAll_nil r1
  obtain rfl:args= #[v0,v1]:=by cases args;simp_all
  obtain⟨rfl,rfl⟩:=trodVars_none hV
  have k0:=h0
  have lt0: ∀x∈p0,x.block<W.heap.size:=by obtain⟨m,hm⟩:=k0;exact DataW.trod_lt m _ _ _ hm
  obtain⟨cs0,rfl,hcz0⟩:=okWide_struct Tryz.underlying32 (hval 0 32 v0 rfl rfl)
  obtain⟨fu0,hf0⟩:=h0
  obtain⟨x0,hk0,hg0⟩:=opens32 H enc W fu0 _ _ hf0
  obtain⟨A0_0,c0_0,A0_1,c0_1,A0_2,c0_2,A0_3,c0_3,A0_4,c0_4,A0_8,c0_8,A0_9,c0_9,A0_10,c0_10,A0_12,c0_12,A0_13,c0_13,he0,hl0_0,hC0_0,hl0_1,hC0_1,hl0_2,hC0_2,hl0_3,hC0_3,hl0_4,hC0_4,hl0_8,hC0_8,hl0_9,hC0_9,hl0_10,hC0_10,hl0_12,hC0_12,hl0_13,hC0_13⟩:=k32_open hk0
  obtain⟨ca0⟩:=cs0
  obtain rfl:ca0=_:=by simpa [Value.cells] using he0
  have k1:=h1
  have lt1: ∀x∈p1,x.block<W.heap.size:=by obtain⟨m,hm⟩:=k1;exact DataW.trod_lt m _ _ _ hm
  obtain⟨cs1,rfl,hcz1⟩:=okWide_struct Tryz.underlying32 (hval 1 32 v1 rfl rfl)
  obtain⟨fu1,hf1⟩:=h1
  obtain⟨x1,hk1,hg1⟩:=opens32 H enc W fu1 _ _ hf1
  obtain⟨A1_0,c1_0,A1_1,c1_1,A1_2,c1_2,A1_3,c1_3,A1_4,c1_4,A1_8,c1_8,A1_9,c1_9,A1_10,c1_10,A1_12,c1_12,A1_13,c1_13,he1,hl1_0,hC1_0,hl1_1,hC1_1,hl1_2,hC1_2,hl1_3,hC1_3,hl1_4,hC1_4,hl1_8,hC1_8,hl1_9,hC1_9,hl1_10,hC1_10,hl1_12,hC1_12,hl1_13,hC1_13⟩:=k32_open hk1
  obtain⟨ca1⟩:=cs1
  obtain rfl:ca1=_:=by simpa [Value.cells] using he1
  clear hA0 hval0 hsz0
  obtain⟨kr,hr_⟩:=Pure.FnExactSameMachine (x0.f0) (x0.f1) (x0.f2.f0) (x0.f2.f1) (x0.f2.f2) (x0.f2.f3) (x0.f2.f4) (x0.f2.f5) (x0.f3.f0) (x0.f3.f1) (x0.f3.f2) (x0.f3.f3) (x0.f3.f4) (x0.f4) (x0.f5) (x0.f6) (x1.f0) (x1.f1) (x1.f2.f0) (x1.f2.f1) (x1.f2.f2) (x1.f2.f3) (x1.f2.f4) (x1.f2.f5) (x1.f3.f0) (x1.f3.f1) (x1.f3.f2) (x1.f3.f3) (x1.f3.f4) (x1.f4) (x1.f5) (x1.f6) hg0.1 hg0.2.1 hg0.2.2.1.1 hg0.2.2.1.2.1 hg0.2.2.1.2.2.1 hg0.2.2.1.2.2.2.1 hg0.2.2.1.2.2.2.2.1 hg0.2.2.1.2.2.2.2.2 hg0.2.2.2.1.1 hg0.2.2.2.1.2.1 hg0.2.2.2.1.2.2.1 hg0.2.2.2.1.2.2.2.1 hg0.2.2.2.1.2.2.2.2 hg0.2.2.2.2.1 hg0.2.2.2.2.2.1 hg0.2.2.2.2.2.2 hg1.1 hg1.2.1 hg1.2.2.1.1 hg1.2.2.1.2.1 hg1.2.2.1.2.2.1 hg1.2.2.1.2.2.2.1 hg1.2.2.1.2.2.2.2.1 hg1.2.2.1.2.2.2.2.2 hg1.2.2.2.1.1 hg1.2.2.2.1.2.1 hg1.2.2.2.1.2.2.1 hg1.2.2.2.1.2.2.2.1 hg1.2.2.2.1.2.2.2.2 hg1.2.2.2.2.1 hg1.2.2.2.2.2.1 hg1.2.2.2.2.2.2
  refine(laws_FnExactSameMachine.calls kr _ _ (x0.f0) _ _ (x0.f1) _ _ (x0.f2.f0) _ _ (x0.f2.f1) _ _ (x0.f2.f2) (x0.f2.f3) (x0.f2.f4) (x0.f2.f5) _ _ (x0.f3.f0) _ _ (x0.f3.f1) _ _ (x0.f3.f2) (x0.f3.f3) _ _ (x0.f3.f4) _ _ (x0.f4) (x0.f5) (x0.f6) _ _ (x1.f0) _ _ (x1.f1) _ _ (x1.f2.f0) _ _ (x1.f2.f1) _ _ (x1.f2.f2) (x1.f2.f3) (x1.f2.f4) (x1.f2.f5) _ _ (x1.f3.f0) _ _ (x1.f3.f1) _ _ (x1.f3.f2) (x1.f3.f3) _ _ (x1.f3.f4) _ _ (x1.f4) (x1.f5) (x1.f6) W hC0_0 hl0_0 hC0_1 hl0_1 hC0_2 hl0_2 hC0_3 hl0_3 hC0_4 hl0_4 hC0_8 hl0_8 hC0_9 hl0_9 hC0_10 hl0_10 hC0_12 hl0_12 hC0_13 hl0_13 hC1_0 hl1_0 hC1_1 hl1_1 hC1_2 hl1_2 hC1_3 hl1_3 hC1_4 hl1_4 hC1_8 hl1_8 hC1_9 hl1_9 hC1_10 hl1_10 hC1_12 hl1_12 hC1_13 hl1_13 hr_ hG_).mono fun e W' hpost=> ?_
  obtain⟨he,bel⟩:=hpost
  subst he
  exact⟨_,rfl,_,_,_,[],_,[],hW',trodAll_mk1 (shut_bool Tryz.underlying4 _),(trodAll_cons_mk (Below.trod laidOut (by kernel_rfl) (of_decide_eq_true (by kernel_rfl)) k0 bel lt0) (trodAll_cons_mk (Below.trod laidOut (by kernel_rfl) (of_decide_eq_true (by kernel_rfl)) k1 bel lt1) trodAll_mk0)),rfl,bel.frame _,fun h=>by cases h⟩
theorem said:Rows.FnExactSameMachineSaid:=
  OpenClaim.holds_of_cond 4 Tryz.f4 rfl rfl rfl rfl rfl rfl rfl ⟨rfl,rfl,rfl,rfl,rfl⟩ rfl rfl rfl rfl rfl (by kernel_rfl) Tryz.func4 (by kernel_rfl)
    (of_decide_eq_true (by kernel_rfl)) (by unfold Func.isWrapper;first|(rw [if_pos (by decide+kernel)];kernel_rfl)|(rw [if_neg (by decide+kernel)];exact⟨rfl,rfl⟩))
    (fun os started H enc _ F=>by rw [OpenClaim.pre_eq_preRow];exact lifted os started H enc F)
theorem plain (f:FuncId) (fn:Func) (hf:Tryz.pinned.checked.prog.funcNamed "loop.example/g00787/laws.FnExactSameMachine" =some f) (hfn:Tryz.pinned.checked.prog.funcs[f]?=some fn):
    false=Tryz.pinned.checked.prog.looks []∧ ∀(j:Nat) t,fn.params[j]?=some t→Tryz.pinned.checked.prog.wantsStandIn t=false:=by
  obtain rfl:f=4:=Option.some.inj ((show Tryz.prog.funcNamed "loop.example/g00787/laws.FnExactSameMachine" =some 4 by kernel_rfl).symm.trans hf)|>.symm
  obtain rfl:fn=Tryz.f4:=(Option.some.inj (Tryz.func4.symm.trans hfn)).symm
  refine⟨by kernel_rfl,fun j t ht=> ?_⟩
  rw [Tryz.params4]at ht
  have hm:t∈ [32,32]:=by simpa using Array.mem_of_getElem? ht
  have hall:([32,32].all fun u=> !Tryz.prog.wantsStandIn u)=true:=by kernel_rfl
  exact(show Tryz.prog.wantsStandIn t=false by simpa using List.all_eq_true.1 hall t hm)
theorem proved:Rows.FnExactSameMachineCardSaid:=
  Claim7.holds_tied_plain_at .later [] _ _ _ _ said (fun _ h=>by cases h) (by kernel_rfl) (fun _ h=>by cases h) fnExactSameMachine_row_tie rfl ⟨rfl,rfl⟩ (by kernel_rfl) rfl plain (by kernel_rfl)
#print axioms proved
end Go.Proofs.YtmjkehfbgaafjaaGreatDoor.fnExactSameMachine
namespace Go.Proofs.YtmjkehfbgaafjaaGreatDoor
theorem fnExactSameMachine_holds:Rows.FnExactSameMachineCardSaid:=fnExactSameMachine.proved
end Go.Proofs.YtmjkehfbgaafjaaGreatDoor
