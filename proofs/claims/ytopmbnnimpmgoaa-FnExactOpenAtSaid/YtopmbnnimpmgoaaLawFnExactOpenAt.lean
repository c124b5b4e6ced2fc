-- laid by a program of this session out of the translation's own print: Lean checks it
/- The law laws.FnExactOpenAt holds for every input: its row, out of its pure statement and the walk of its Go code. No condition. -/
import Derived.Test.YtopmbnnimpmgoaaRows
import Derived.Test.YtopmbnnimpmgoaaPFnExactOpenAtx5
import Derived.Test.YtopmbnnimpmgoaaPureFnExactOpenAt
import Derived.Test.YtopmbnnimpmgoaaOp
import Derived.WalkKit
import Derived.ProofKit
import Derived.OpenShut
import Derived.ShutString
import Derived.ChangeOld
import Derived.Below
import Derived.SizedLaws
namespace Go.Proofs.Ytopmbnnimpmgoaa.fnExactOpenAt
open Go.ChangeShapes Go.WideShapes Go.ChangeAt Go.RowKit Go.Proofs.Ytopmbnnimpmgoaa.PFnExactOpenAt Go.Proofs.YtopmbnnimpmgoaaO Go.Proofs.YtopmbnnimpmgoaaW.PrintWords
open Go.ChangeMaps (open_string shut_string)
set_option linter.unusedVariables false
set_option linter.unusedSimpArgs false
theorem own : ownKnob Try.prog.godebug = none := by kernel_rfl
theorem laidOut : laidOutB Try.prog = true := by kernel_rfl
theorem opens22 : Opens Try.prog 22 (Kd.slice 56 k56) (fun x => x.length ≤ 9223372036854775807 ∧ ∀ e0_, e0_ ∈ x → ((Lit.int .i64 e0_.f0).wf = true) ∧ ((Lit.int .i64 e0_.f1).wf = true)) := fun H enc w fuel cs y h => by
  obtain ⟨x, hk, hg⟩ := (opens_slice Try.underlying22 (by kernel_rfl) (opens_struct Try.underlying56 (by kernel_rfl) (fun x : S56 => (x.f0, x.f1)) (fun p => ⟨p.1, p.2⟩) (fun _ => rfl) (opensF_cons rfl (by kernel_rfl) (opens_int Try.underlying3) (opensF_last rfl (by kernel_rfl) (opens_int Try.underlying3))))) H enc w fuel cs y h
  exact ⟨x, hk, hg⟩
set_option maxRecDepth 100000 in
theorem lifted (os : Os) (started : os.Started) (H : Type) (enc : TypeId × Value → H) :
    ReturnsInHanded {} Try.checked os 5 .any (Rows.fnExactOpenAtSpec.pre6 enc Try.prog Try.f5 Rows.fnExactOpenAtRow.domain false) (Rows.fnExactOpenAtSpec.post enc Try.prog Try.f5 false true false false) := by
  refine returnsInHanded_of_change_sized (C := Try.checked) own started (by kernel_rfl) Try.func5
    (ChangeSpec.witness6 (enc := enc) (C := Try.checked) false ⟨#[], #[.slice none 0 0, .int .i64 0], []⟩ 8 (by kernel_rfl) (by kernel_rfl) (by kernel_rfl) (by kernel_rfl)) ?_
  intro W base args ds gs before hval0 hW hcnd hsz0 _
  have hval : ∀ (j : Nat) t v, Try.f5.params[j]? = some t → args[j]? = some v → Value.okWide Try.prog W .any base t v := hval0
  have hW' := hW
  obtain ⟨p, q, hA0, hV, rfl, hfz, hnd⟩ := hW
  have hA : DataW.TrodAll enc Try.prog W 0 (fun _ => true) true Try.f5.params.toList args.toList ds p := hA0
  rw [Try.params5] at hA hval
  obtain ⟨v0, vs0, d0, ds0, p0, q0, hargs, rfl, rfl, h0, r0⟩ := trodAll_cons hA
  obtain ⟨v1, vs1, d1, ds1, p1, q1, rfl, rfl, rfl, h1, r1⟩ := trodAll_cons r0
  obtain ⟨rfl, rfl, rfl⟩ := trodAll_nil r1
  obtain rfl : args = #[v0, v1] := by cases args; simp_all
  obtain ⟨rfl, rfl⟩ := trodVars_none hV
  have k0 := h0
  have lt0 : ∀ x ∈ p0, x.block < W.heap.size := by obtain ⟨m, hm⟩ := k0; exact DataW.trod_lt m _ _ _ hm
  obtain ⟨A0_, n0_, c0_, rfl⟩ := okWide_slice Try.underlying22 (hval 0 22 v0 rfl rfl)
  obtain ⟨fu0, hf0⟩ := h0
  obtain ⟨l0, hk0, hg0⟩ := opens22 H enc W fu0 _ _ hf0
  obtain ⟨A0, c0, he0, hl0, hC0⟩ := hk0
  simp only [Value.cells, List.cons.injEq, Value.slice.injEq, and_true] at he0
  obtain ⟨rfl, rfl, rfl⟩ := he0
  obtain ⟨a1, rfl, rfl, rfl, w1⟩ := open_int Try.underlying3 (hval 1 3 v1 rfl rfl) h1
  clear hA0 hval0 hsz0
  obtain ⟨kr, hr_⟩ := Pure.FnExactOpenAt l0 a1 hg0 w1
  refine (laws_FnExactOpenAt.calls kr _ _ l0 a1 W hC0 hl0 hr_).mono fun e W' hpost => ?_
  obtain ⟨he, bel⟩ := hpost
  subst he
  exact ⟨_, rfl, _, _, _, [], _, [], hW', trodAll_mk1 (shut_bool Try.underlying4 _), (trodAll_cons_mk (Below.trod laidOut (by kernel_rfl) (of_decide_eq_true (by kernel_rfl)) k0 bel lt0) (trodAll_cons_mk (shut_int Try.underlying3 w1) trodAll_mk0)), rfl, bel.frame _, fun h => by cases h⟩
theorem over : Rows.fnExactOpenAtRow.holds Try.pinned (OpenSpec.ofChange Rows.fnExactOpenAtSpec) :=
  OpenClaim.holds_of_wide 5 Try.f5 rfl rfl rfl rfl rfl rfl rfl ⟨rfl, rfl, rfl, rfl, rfl⟩ rfl rfl rfl rfl rfl (by kernel_rfl) Try.func5 (by kernel_rfl)
    (of_decide_eq_true (by kernel_rfl)) (by unfold Func.isWrapper; first | (rw [if_pos (by decide +kernel)]; kernel_rfl) | (rw [if_neg (by decide +kernel)]; exact ⟨rfl, rfl⟩))
    (fun os started H enc _ => lifted os started H enc)
theorem proved : Rows.FnExactOpenAtSaid := over
#print axioms proved
end Go.Proofs.Ytopmbnnimpmgoaa.fnExactOpenAt
namespace Go.Proofs.Ytopmbnnimpmgoaa
theorem fnExactOpenAt_holds : Rows.FnExactOpenAtSaid := fnExactOpenAt.proved
end Go.Proofs.Ytopmbnnimpmgoaa
