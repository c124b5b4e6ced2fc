-- laid by a program of this session out of the translation's own print: Lean checks it
/- The law laws.FnExactPop holds for every input: its row, out of its pure statement and the walk of its Go code. No condition. -/
import Derived.Test.YtcelnpmahnblpaaRows
import Derived.Test.YtcelnpmahnblpaaPFnExactPopx5
import Derived.Test.YtcelnpmahnblpaaPureFnExactPop
import Derived.Test.YtcelnpmahnblpaaGPopOp
import Derived.WalkKit
import Derived.ProofKit
import Derived.OpenShut
import Derived.ShutString
import Derived.ChangeOld
import Derived.Below
import Derived.SizedLaws
namespace Go.Proofs.Ytcelnpmahnblpaa.fnExactPop
open Go.ChangeShapes Go.WideShapes Go.ChangeAt Go.RowKit Go.Proofs.Ytcelnpmahnblpaa.PFnExactPop Go.Proofs.YtcelnpmahnblpaaO Go.Proofs.YtcelnpmahnblpaaW.PrintWords
open Go.ChangeMaps (open_string shut_string)
set_option linter.unusedVariables false
set_option linter.unusedSimpArgs false
theorem own : ownKnob Try.prog.godebug = none := by kernel_rfl
theorem laidOut : laidOutB Try.prog = true := by kernel_rfl
theorem opens29 : Opens Try.prog 29 k29 (fun x => (x.f0.length ≤ 9223372036854775807 ∧ ∀ e0_, e0_ ∈ x.f0 → (Lit.int .i64 e0_).wf = true) ∧ (x.f1.length ≤ 9223372036854775807 ∧ ∀ e0_, e0_ ∈ x.f1 → (Lit.int .i64 e0_).wf = true) ∧ (x.f2.length ≤ 9223372036854775807 ∧ ∀ e0_, e0_ ∈ x.f2 → (Lit.int .i64 e0_).wf = true) ∧ ((Lit.int .i64 x.f3).wf = true) ∧ ((Lit.int .i64 x.f4).wf = true) ∧ (x.f5.size ≤ 9223372036854775807)) := fun H enc w fuel cs y h => by
  obtain ⟨x, hk, hg⟩ := (opens_struct Try.underlying29 (by kernel_rfl) (fun x : S29 => (x.f0, x.f1, x.f2, x.f3, x.f4, x.f5)) (fun p => ⟨p.1, p.2.1, p.2.2.1, p.2.2.2.1, p.2.2.2.2.1, p.2.2.2.2.2⟩) (fun _ => rfl) (opensF_cons rfl (by kernel_rfl) (opens_slice Try.underlying22 (by kernel_rfl) (opens_int Try.underlying3)) (opensF_cons rfl (by kernel_rfl) (opens_slice Try.underlying22 (by kernel_rfl) (opens_int Try.underlying3)) (opensF_cons rfl (by kernel_rfl) (opens_slice Try.underlying22 (by kernel_rfl) (opens_int Try.underlying3)) (opensF_cons rfl (by kernel_rfl) (opens_int Try.underlying3) (opensF_cons rfl (by kernel_rfl) (opens_int Try.underlying3) (opensF_last rfl (by kernel_rfl) (opens_string Try.underlying9)))))))) H enc w fuel cs y h
  exact ⟨x, hk, hg⟩
set_option maxRecDepth 100000 in
theorem lifted (os : Os) (started : os.Started) (H : Type) (enc : TypeId × Value → H) :
    ReturnsInHanded {} Try.checked os 8 .any (Rows.fnExactPopSpec.pre6 enc Try.prog Try.f8 Rows.fnExactPopRow.domain false) (Rows.fnExactPopSpec.post enc Try.prog Try.f8 false true false false) := by
  refine returnsInHanded_of_change_sized (C := Try.checked) own started (by kernel_rfl) Try.func8
    (ChangeSpec.witness6 (enc := enc) (C := Try.checked) false ⟨#[], #[.agg #[.slice none 0 0, .slice none 0 0, .slice none 0 0, .int .i64 0, .int .i64 0, .string ByteArray.empty]], []⟩ 8 (by kernel_rfl) (by kernel_rfl) (by kernel_rfl) (by kernel_rfl)) ?_
  intro W base args ds gs before hval0 hW hcnd hsz0 _
  have hval : ∀ (j : Nat) t v, Try.f8.params[j]? = some t → args[j]? = some v → Value.okWide Try.prog W .any base t v := hval0
  have hW' := hW
  obtain ⟨p, q, hA0, hV, rfl, hfz, hnd⟩ := hW
  have hA : DataW.TrodAll enc Try.prog W 0 (fun _ => true) true Try.f8.params.toList args.toList ds p := hA0
  rw [Try.params8] at hA hval
  obtain ⟨v0, vs0, d0, ds0, p0, q0, hargs, rfl, rfl, h0, r0⟩ := trodAll_cons hA
  obtain ⟨rfl, rfl, rfl⟩ := trodAll_nil r0
  obtain rfl : args = #[v0] := by cases args; simp_all
  obtain ⟨rfl, rfl⟩ := trodVars_none hV
  have k0 := h0
  have lt0 : ∀ x ∈ p0, x.block < W.heap.size := by obtain ⟨m, hm⟩ := k0; exact DataW.trod_lt m _ _ _ hm
  obtain ⟨cs0, rfl, hcz0⟩ := okWide_struct Try.underlying29 (hval 0 29 v0 rfl rfl)
  obtain ⟨fu0, hf0⟩ := h0
  obtain ⟨x0, hk0, hg0⟩ := opens29 H enc W fu0 _ _ hf0
  obtain ⟨A0_0, c0_0, A0_1, c0_1, A0_2, c0_2, he0, hl0_0, hC0_0, hl0_1, hC0_1, hl0_2, hC0_2⟩ := k29_open hk0
  obtain ⟨ca0⟩ := cs0
  obtain rfl : ca0 = _ := by simpa [Value.cells] using he0
  clear hA0 hval0 hsz0
  obtain ⟨kr, hr_⟩ := Pure.FnExactPop (x0.f0) (x0.f1) (x0.f2) (x0.f3) (x0.f4) (x0.f5) hg0.1 hg0.2.1 hg0.2.2.1 hg0.2.2.2.1 hg0.2.2.2.2.1 hg0.2.2.2.2.2
  refine (laws_FnExactPop.calls kr _ _ (x0.f0) _ _ (x0.f1) _ _ (x0.f2) (x0.f3) (x0.f4) (x0.f5) W hC0_0 hl0_0 hC0_1 hl0_1 hC0_2 hl0_2 hr_).mono fun e W' hpost => ?_
  obtain ⟨he, bel⟩ := hpost
  subst he
  exact ⟨_, rfl, _, _, _, [], _, [], hW', trodAll_mk1 (shut_bool Try.underlying4 _), (trodAll_cons_mk (Below.trod laidOut (by kernel_rfl) (of_decide_eq_true (by kernel_rfl)) k0 bel lt0) trodAll_mk0), rfl, bel.frame _, fun h => by cases h⟩
theorem over : Rows.fnExactPopRow.holds Try.pinned (OpenSpec.ofChange Rows.fnExactPopSpec) :=
  OpenClaim.holds_of_wide 8 Try.f8 rfl rfl rfl rfl rfl rfl rfl ⟨rfl, rfl, rfl, rfl, rfl⟩ rfl rfl rfl rfl rfl (by kernel_rfl) Try.func8 (by kernel_rfl)
    (of_decide_eq_true (by kernel_rfl)) (by unfold Func.isWrapper; first | (rw [if_pos (by decide +kernel)]; kernel_rfl) | (rw [if_neg (by decide +kernel)]; exact ⟨rfl, rfl⟩))
    (fun os started H enc _ => lifted os started H enc)
theorem proved : Rows.FnExactPopSaid := over
#print axioms proved
end Go.Proofs.Ytcelnpmahnblpaa.fnExactPop
namespace Go.Proofs.Ytcelnpmahnblpaa
theorem fnExactPop_holds : Rows.FnExactPopSaid := fnExactPop.proved
end Go.Proofs.Ytcelnpmahnblpaa
