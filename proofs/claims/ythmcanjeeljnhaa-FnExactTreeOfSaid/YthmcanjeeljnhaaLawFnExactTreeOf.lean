-- laid by a program of this session out of the translation's own print: Lean checks it
/- The law laws.FnExactTreeOf holds for every input: its row, out of its pure statement and the walk of its Go code. No condition. -/
import Derived.Test.YthmcanjeeljnhaaRows
import Derived.Test.YthmcanjeeljnhaaPTreex10
import Derived.Test.YthmcanjeeljnhaaPureFnExactTreeOf
import Derived.Test.YthmcanjeeljnhaaGTreeOfOp
import Derived.WalkKit
import Derived.ProofKit
import Derived.OpenShut
import Derived.ShutString
import Derived.ChangeOld
import Derived.Below
import Derived.SizedLaws
namespace Go.Proofs.Ythmcanjeeljnhaa.fnExactTreeOf
open Go.ChangeShapes Go.WideShapes Go.ChangeAt Go.RowKit Go.Proofs.Ythmcanjeeljnhaa.PTree Go.Proofs.YthmcanjeeljnhaaO Go.Proofs.YthmcanjeeljnhaaW.PrintWords
open Go.ChangeMaps (open_string shut_string)
set_option linter.unusedVariables false
set_option linter.unusedSimpArgs false
theorem own : ownKnob Try.prog.godebug = none := by kernel_rfl
theorem laidOut : laidOutB Try.prog = true := by kernel_rfl
theorem opens22 : Opens Try.prog 22 (Kd.slice 46 k46) (fun x => x.length ≤ 9223372036854775807 ∧ ∀ e0_, e0_ ∈ x → ((Lit.int .i64 e0_.f0).wf = true) ∧ ((Lit.int .i64 e0_.f1).wf = true)) := fun H enc w fuel cs y h => by
  obtain ⟨x, hk, hg⟩ := (opens_slice Try.underlying22 (by kernel_rfl) (opens_struct Try.underlying46 (by kernel_rfl) (fun x : S46 => (x.f0, x.f1)) (fun p => ⟨p.1, p.2⟩) (fun _ => rfl) (opensF_cons rfl (by kernel_rfl) (opens_int Try.underlying3) (opensF_last rfl (by kernel_rfl) (opens_int Try.underlying3))))) H enc w fuel cs y h
  exact ⟨x, hk, hg⟩
set_option maxRecDepth 100000 in
theorem lifted (os : Os) (started : os.Started) (H : Type) (enc : TypeId × Value → H) :
    ReturnsInHanded {} Try.checked os 3 .any (Rows.fnExactTreeOfSpec.pre6 enc Try.prog Try.f3 Rows.fnExactTreeOfRow.domain false) (Rows.fnExactTreeOfSpec.post enc Try.prog Try.f3 false true false false) := by
  refine returnsInHanded_of_change_sized (C := Try.checked) own started (by kernel_rfl) Try.func3
    (ChangeSpec.witness6 (enc := enc) (C := Try.checked) false ⟨#[], #[.slice none 0 0], []⟩ 8 (by kernel_rfl) (by kernel_rfl) (by kernel_rfl) (by kernel_rfl)) ?_
  intro W base args ds gs before hval0 hW hcnd hsz0 _
  have hval : ∀ (j : Nat) t v, Try.f3.params[j]? = some t → args[j]? = some v → Value.okWide Try.prog W .any base t v := hval0
  have hW' := hW
  obtain ⟨p, q, hA0, hV, rfl, hfz, hnd⟩ := hW
  have hA : DataW.TrodAll enc Try.prog W 0 (fun _ => true) true Try.f3.params.toList args.toList ds p := hA0
  rw [Try.params3] at hA hval
  obtain ⟨v0, vs0, d0, ds0, p0, q0, hargs, rfl, rfl, h0, r0⟩ := trodAll_cons hA
  obtain ⟨rfl, rfl, rfl⟩ := trodAll_nil r0
  obtain rfl : args = #[v0] := by cases args; simp_all
  obtain ⟨rfl, rfl⟩ := trodVars_none hV
  have k0 := h0
  have lt0 : ∀ x ∈ p0, x.block < W.heap.size := by obtain ⟨m, hm⟩ := k0; exact DataW.trod_lt m _ _ _ hm
  obtain ⟨A0_, n0_, c0_, rfl⟩ := okWide_slice Try.underlying22 (hval 0 22 v0 rfl rfl)
  obtain ⟨fu0, hf0⟩ := h0
  obtain ⟨l0, hk0, hg0⟩ := opens22 H enc W fu0 _ _ hf0
  obtain ⟨A0, c0, he0, hl0, hC0⟩ := hk0
  simp only [Value.cells, List.cons.injEq, Value.slice.injEq, and_true] at he0
  obtain ⟨rfl, rfl, rfl⟩ := he0
  clear hA0 hval0 hsz0
  obtain ⟨kr, hr_⟩ := Pure.FnExactTreeOf l0 hg0
  refine (laws_FnExactTreeOf.calls kr _ _ l0 W hC0 hl0 hr_).mono fun e W' hpost => ?_
  obtain ⟨he, bel⟩ := hpost
  subst he
  exact ⟨_, rfl, _, _, _, [], _, [], hW', trodAll_mk1 (shut_bool Try.underlying4 _), (trodAll_cons_mk (Below.trod laidOut (by kernel_rfl) (of_decide_eq_true (by kernel_rfl)) k0 bel lt0) trodAll_mk0), rfl, bel.frame _, fun h => by cases h⟩
theorem over : Rows.fnExactTreeOfRow.holds Try.pinned (OpenSpec.ofChange Rows.fnExactTreeOfSpec) :=
  OpenClaim.holds_of_wide 3 Try.f3 rfl rfl rfl rfl rfl rfl rfl ⟨rfl, rfl, rfl, rfl, rfl⟩ rfl rfl rfl rfl rfl (by kernel_rfl) Try.func3 (by kernel_rfl)
    (of_decide_eq_true (by kernel_rfl)) (by unfold Func.isWrapper; first | (rw [if_pos (by decide +kernel)]; kernel_rfl) | (rw [if_neg (by decide +kernel)]; exact ⟨rfl, rfl⟩))
    (fun os started H enc _ => lifted os started H enc)
theorem proved : Rows.FnExactTreeOfSaid := over
#print axioms proved
end Go.Proofs.Ythmcanjeeljnhaa.fnExactTreeOf
namespace Go.Proofs.Ythmcanjeeljnhaa
theorem fnExactTreeOf_holds : Rows.FnExactTreeOfSaid := fnExactTreeOf.proved
end Go.Proofs.Ythmcanjeeljnhaa
