-- laid by a program of this session out of the translation's own print: Lean checks it
/- The law laws.FnExactSameHost holds for every input: its row, out of its pure statement and the walk of its Go code. No condition. -/
import Derived.Test.YtbdcdmbnhialcaaRows
import Derived.Test.YtbdcdmbnhialcaaPFnExactSameHostx9
import Derived.Test.YtbdcdmbnhialcaaPureFnExactSameHost
import Derived.Test.YtbdcdmbnhialcaaOp
import Derived.WalkKit
import Derived.ProofKit
import Derived.OpenShut
import Derived.ShutString
import Derived.ChangeOld
import Derived.Below
import Derived.SizedLaws
namespace Go.Proofs.Ytbdcdmbnhialcaa.fnExactSameHost
open Go.ChangeShapes Go.WideShapes Go.ChangeAt Go.RowKit Go.Proofs.Ytbdcdmbnhialcaa.PFnExactSameHost Go.Proofs.YtbdcdmbnhialcaaO Go.Proofs.YtbdcdmbnhialcaaW.PrintWords
open Go.ChangeMaps (open_string shut_string)
set_option linter.unusedVariables false
set_option linter.unusedSimpArgs false
theorem own : ownKnob Try.prog.godebug = none := by kernel_rfl
theorem laidOut : laidOutB Try.prog = true := by kernel_rfl
theorem opens43 : Opens Try.prog 43 k43 (fun x => (x.f0.length ≤ 9223372036854775807 ∧ ∀ e0_, e0_ ∈ x.f0 → True) ∧ (x.f1.length ≤ 9223372036854775807 ∧ ∀ e0_, e0_ ∈ x.f1 → (Lit.int .i64 e0_).wf = true) ∧ (x.f2.length ≤ 9223372036854775807 ∧ ∀ e0_, e0_ ∈ x.f2 → (Lit.int .i64 e0_).wf = true) ∧ ((Lit.int .i64 x.f3).wf = true) ∧ (x.f4.length ≤ 9223372036854775807 ∧ ∀ e0_, e0_ ∈ x.f4 → ((Lit.int .i64 e0_.f0).wf = true) ∧ ((Lit.int .i64 e0_.f1).wf = true) ∧ ((Lit.int .i64 e0_.f2).wf = true) ∧ ((Lit.int .i64 e0_.f3).wf = true))) := fun H enc w fuel cs y h => by
  obtain ⟨x, hk, hg⟩ := (opens_struct Try.underlying43 (by kernel_rfl) (fun x : S43 => (x.f0, x.f1, x.f2, x.f3, x.f4)) (fun p => ⟨p.1, p.2.1, p.2.2.1, p.2.2.2.1, p.2.2.2.2⟩) (fun _ => rfl) (opensF_cons rfl (by kernel_rfl) (opens_slice Try.underlying22 (by kernel_rfl) (opens_bool Try.underlying4)) (opensF_cons rfl (by kernel_rfl) (opens_slice Try.underlying23 (by kernel_rfl) (opens_int Try.underlying3)) (opensF_cons rfl (by kernel_rfl) (opens_slice Try.underlying23 (by kernel_rfl) (opens_int Try.underlying3)) (opensF_cons rfl (by kernel_rfl) (opens_int Try.underlying3) (opensF_last rfl (by kernel_rfl) (opens_slice Try.underlying31 (by kernel_rfl) (opens_struct Try.underlying71 (by kernel_rfl) (fun x : S71 => (x.f0, x.f1, x.f2, x.f3)) (fun p => ⟨p.1, p.2.1, p.2.2.1, p.2.2.2⟩) (fun _ => rfl) (opensF_cons rfl (by kernel_rfl) (opens_int Try.underlying3) (opensF_cons rfl (by kernel_rfl) (opens_int Try.underlying3) (opensF_cons rfl (by kernel_rfl) (opens_int Try.underlying3) (opensF_last rfl (by kernel_rfl) (opens_int Try.underlying3))))))))))))) H enc w fuel cs y h
  exact ⟨x, hk, hg⟩
set_option maxRecDepth 100000 in
theorem lifted (os : Os) (started : os.Started) (H : Type) (enc : TypeId × Value → H) :
    ReturnsInHanded {} Try.checked os 6 .any (Rows.fnExactSameHostSpec.pre6 enc Try.prog Try.f6 Rows.fnExactSameHostRow.domain false) (Rows.fnExactSameHostSpec.post enc Try.prog Try.f6 false true false false) := by
  refine returnsInHanded_of_change_sized (C := Try.checked) own started (by kernel_rfl) Try.func6
    (ChangeSpec.witness6 (enc := enc) (C := Try.checked) false ⟨#[], #[.agg #[.slice none 0 0, .slice none 0 0, .slice none 0 0, .int .i64 0, .slice none 0 0], .agg #[.slice none 0 0, .slice none 0 0, .slice none 0 0, .int .i64 0, .slice none 0 0]], []⟩ 8 (by kernel_rfl) (by kernel_rfl) (by kernel_rfl) (by kernel_rfl)) ?_
  intro W base args ds gs before hval0 hW hcnd hsz0 _
  have hval : ∀ (j : Nat) t v, Try.f6.params[j]? = some t → args[j]? = some v → Value.okWide Try.prog W .any base t v := hval0
  have hW' := hW
  obtain ⟨p, q, hA0, hV, rfl, hfz, hnd⟩ := hW
  have hA : DataW.TrodAll enc Try.prog W 0 (fun _ => true) true Try.f6.params.toList args.toList ds p := hA0
  rw [Try.params6] at hA hval
  obtain ⟨v0, vs0, d0, ds0, p0, q0, hargs, rfl, rfl, h0, r0⟩ := trodAll_cons hA
  obtain ⟨v1, vs1, d1, ds1, p1, q1, rfl, rfl, rfl, h1, r1⟩ := trodAll_cons r0
  obtain ⟨rfl, rfl, rfl⟩ := trodAll_nil r1
  obtain rfl : args = #[v0, v1] := by cases args; simp_all
  obtain ⟨rfl, rfl⟩ := trodVars_none hV
  have k0 := h0
  have lt0 : ∀ x ∈ p0, x.block < W.heap.size := by obtain ⟨m, hm⟩ := k0; exact DataW.trod_lt m _ _ _ hm
  obtain ⟨cs0, rfl, hcz0⟩ := okWide_struct Try.underlying43 (hval 0 43 v0 rfl rfl)
  obtain ⟨fu0, hf0⟩ := h0
  obtain ⟨x0, hk0, hg0⟩ := opens43 H enc W fu0 _ _ hf0
  obtain ⟨A0_0, c0_0, A0_1, c0_1, A0_2, c0_2, A0_4, c0_4, he0, hl0_0, hC0_0, hl0_1, hC0_1, hl0_2, hC0_2, hl0_4, hC0_4⟩ := k43_open hk0
  obtain ⟨ca0⟩ := cs0
  obtain rfl : ca0 = _ := by simpa [Value.cells] using he0
  have k1 := h1
  have lt1 : ∀ x ∈ p1, x.block < W.heap.size := by obtain ⟨m, hm⟩ := k1; exact DataW.trod_lt m _ _ _ hm
  obtain ⟨cs1, rfl, hcz1⟩ := okWide_struct Try.underlying43 (hval 1 43 v1 rfl rfl)
  obtain ⟨fu1, hf1⟩ := h1
  obtain ⟨x1, hk1, hg1⟩ := opens43 H enc W fu1 _ _ hf1
  obtain ⟨A1_0, c1_0, A1_1, c1_1, A1_2, c1_2, A1_4, c1_4, he1, hl1_0, hC1_0, hl1_1, hC1_1, hl1_2, hC1_2, hl1_4, hC1_4⟩ := k43_open hk1
  obtain ⟨ca1⟩ := cs1
  obtain rfl : ca1 = _ := by simpa [Value.cells] using he1
  clear hA0 hval0 hsz0
  obtain ⟨kr, hr_⟩ := Pure.FnExactSameHost (x0.f0) (x0.f1) (x0.f2) (x0.f3) (x0.f4) (x1.f0) (x1.f1) (x1.f2) (x1.f3) (x1.f4) hg0.1 hg0.2.1 hg0.2.2.1 hg0.2.2.2.1 hg0.2.2.2.2 hg1.1 hg1.2.1 hg1.2.2.1 hg1.2.2.2.1 hg1.2.2.2.2
  refine (laws_FnExactSameHost.calls kr _ _ (x0.f0) _ _ (x0.f1) _ _ (x0.f2) (x0.f3) _ _ (x0.f4) _ _ (x1.f0) _ _ (x1.f1) _ _ (x1.f2) (x1.f3) _ _ (x1.f4) W hC0_0 hl0_0 hC0_1 hl0_1 hC0_2 hl0_2 hC0_4 hl0_4 hC1_0 hl1_0 hC1_1 hl1_1 hC1_2 hl1_2 hC1_4 hl1_4 hr_).mono fun e W' hpost => ?_
  obtain ⟨he, bel⟩ := hpost
  subst he
  exact ⟨_, rfl, _, _, _, [], _, [], hW', trodAll_mk1 (shut_bool Try.underlying4 _), (trodAll_cons_mk (Below.trod laidOut (by kernel_rfl) (of_decide_eq_true (by kernel_rfl)) k0 bel lt0) (trodAll_cons_mk (Below.trod laidOut (by kernel_rfl) (of_decide_eq_true (by kernel_rfl)) k1 bel lt1) trodAll_mk0)), rfl, bel.frame _, fun h => by cases h⟩
theorem over : Rows.fnExactSameHostRow.holds Try.pinned (OpenSpec.ofChange Rows.fnExactSameHostSpec) :=
  OpenClaim.holds_of_wide 6 Try.f6 rfl rfl rfl rfl rfl rfl rfl ⟨rfl, rfl, rfl, rfl, rfl⟩ rfl rfl rfl rfl rfl (by kernel_rfl) Try.func6 (by kernel_rfl)
    (of_decide_eq_true (by kernel_rfl)) (by unfold Func.isWrapper; first | (rw [if_pos (by decide +kernel)]; kernel_rfl) | (rw [if_neg (by decide +kernel)]; exact ⟨rfl, rfl⟩))
    (fun os started H enc _ => lifted os started H enc)
theorem proved : Rows.FnExactSameHostSaid := over
#print axioms proved
end Go.Proofs.Ytbdcdmbnhialcaa.fnExactSameHost
namespace Go.Proofs.Ytbdcdmbnhialcaa
theorem fnExactSameHost_holds : Rows.FnExactSameHostSaid := fnExactSameHost.proved
end Go.Proofs.Ytbdcdmbnhialcaa
