-- laid by a program of this session out of the translation's own print: Lean checks it
/- The law laws.FnExactFoldDeeds holds for every input: its row, out of its pure statement and the walk of its Go code. No condition. -/
import Derived.Test.YtbdcdmbnhialcaaRows
import Derived.Test.YtbdcdmbnhialcaaPFnExactFoldDeedsx5
import Derived.Test.YtbdcdmbnhialcaaPureFnExactFoldDeeds
import Derived.Test.YtbdcdmbnhialcaaOp
import Derived.WalkKit
import Derived.ProofKit
import Derived.OpenShut
import Derived.ShutString
import Derived.ChangeOld
import Derived.Below
import Derived.SizedLaws
namespace Go.Proofs.Ytbdcdmbnhialcaa.fnExactFoldDeeds
open Go.ChangeShapes Go.WideShapes Go.ChangeAt Go.RowKit Go.Proofs.Ytbdcdmbnhialcaa.PFnExactFoldDeeds Go.Proofs.YtbdcdmbnhialcaaO Go.Proofs.YtbdcdmbnhialcaaW.PrintWords
open Go.ChangeMaps (open_string shut_string)
set_option linter.unusedVariables false
set_option linter.unusedSimpArgs false
theorem own : ownKnob Try.prog.godebug = none := by kernel_rfl
theorem laidOut : laidOutB Try.prog = true := by kernel_rfl
theorem opens23 : Opens Try.prog 23 (Kd.slice 3 (Kd.int .i64)) (fun x => x.length ≤ 9223372036854775807 ∧ ∀ e0_, e0_ ∈ x → (Lit.int .i64 e0_).wf = true) := fun H enc w fuel cs y h => by
  obtain ⟨x, hk, hg⟩ := (opens_slice Try.underlying23 (by kernel_rfl) (opens_int Try.underlying3)) H enc w fuel cs y h
  exact ⟨x, hk, hg⟩
theorem opens31 : Opens Try.prog 31 (Kd.slice 71 k71) (fun x => x.length ≤ 9223372036854775807 ∧ ∀ e0_, e0_ ∈ x → ((Lit.int .i64 e0_.f0).wf = true) ∧ ((Lit.int .i64 e0_.f1).wf = true) ∧ ((Lit.int .i64 e0_.f2).wf = true) ∧ ((Lit.int .i64 e0_.f3).wf = true)) := fun H enc w fuel cs y h => by
  obtain ⟨x, hk, hg⟩ := (opens_slice Try.underlying31 (by kernel_rfl) (opens_struct Try.underlying71 (by kernel_rfl) (fun x : S71 => (x.f0, x.f1, x.f2, x.f3)) (fun p => ⟨p.1, p.2.1, p.2.2.1, p.2.2.2⟩) (fun _ => rfl) (opensF_cons rfl (by kernel_rfl) (opens_int Try.underlying3) (opensF_cons rfl (by kernel_rfl) (opens_int Try.underlying3) (opensF_cons rfl (by kernel_rfl) (opens_int Try.underlying3) (opensF_last rfl (by kernel_rfl) (opens_int Try.underlying3))))))) H enc w fuel cs y h
  exact ⟨x, hk, hg⟩
set_option maxRecDepth 100000 in
theorem lifted (os : Os) (started : os.Started) (H : Type) (enc : TypeId × Value → H) :
    ReturnsInHanded {} Try.checked os 4 .any (Rows.fnExactFoldDeedsSpec.pre6 enc Try.prog Try.f4 Rows.fnExactFoldDeedsRow.domain false) (Rows.fnExactFoldDeedsSpec.post enc Try.prog Try.f4 false true false false) := by
  refine returnsInHanded_of_change_sized (C := Try.checked) own started (by kernel_rfl) Try.func4
    (ChangeSpec.witness6 (enc := enc) (C := Try.checked) false ⟨#[], #[.slice none 0 0, .slice none 0 0], []⟩ 8 (by kernel_rfl) (by kernel_rfl) (by kernel_rfl) (by kernel_rfl)) ?_
  intro W base args ds gs before hval0 hW hcnd hsz0 _
  have hval : ∀ (j : Nat) t v, Try.f4.params[j]? = some t → args[j]? = some v → Value.okWide Try.prog W .any base t v := hval0
  have hW' := hW
  obtain ⟨p, q, hA0, hV, rfl, hfz, hnd⟩ := hW
  have hA : DataW.TrodAll enc Try.prog W 0 (fun _ => true) true Try.f4.params.toList args.toList ds p := hA0
  rw [Try.params4] at hA hval
  obtain ⟨v0, vs0, d0, ds0, p0, q0, hargs, rfl, rfl, h0, r0⟩ := trodAll_cons hA
  obtain ⟨v1, vs1, d1, ds1, p1, q1, rfl, rfl, rfl, h1, r1⟩ := trodAll_cons r0
  obtain ⟨rfl, rfl, rfl⟩ := trodAll_nil r1
  obtain rfl : args = #[v0, v1] := by cases args; simp_all
  obtain ⟨rfl, rfl⟩ := trodVars_none hV
  have k0 := h0
  have lt0 : ∀ x ∈ p0, x.block < W.heap.size := by obtain ⟨m, hm⟩ := k0; exact DataW.trod_lt m _ _ _ hm
  obtain ⟨A0_, n0_, c0_, rfl⟩ := okWide_slice Try.underlying23 (hval 0 23 v0 rfl rfl)
  obtain ⟨fu0, hf0⟩ := h0
  obtain ⟨l0, hk0, hg0⟩ := opens23 H enc W fu0 _ _ hf0
  obtain ⟨A0, c0, he0, hl0, hC0⟩ := hk0
  simp only [Value.cells, List.cons.injEq, Value.slice.injEq, and_true] at he0
  obtain ⟨rfl, rfl, rfl⟩ := he0
  have k1 := h1
  have lt1 : ∀ x ∈ p1, x.block < W.heap.size := by obtain ⟨m, hm⟩ := k1; exact DataW.trod_lt m _ _ _ hm
  obtain ⟨A1_, n1_, c1_, rfl⟩ := okWide_slice Try.underlying31 (hval 1 31 v1 rfl rfl)
  obtain ⟨fu1, hf1⟩ := h1
  obtain ⟨l1, hk1, hg1⟩ := opens31 H enc W fu1 _ _ hf1
  obtain ⟨A1, c1, he1, hl1, hC1⟩ := hk1
  simp only [Value.cells, List.cons.injEq, Value.slice.injEq, and_true] at he1
  obtain ⟨rfl, rfl, rfl⟩ := he1
  clear hA0 hval0 hsz0
  obtain ⟨kr, hr_⟩ := Pure.FnExactFoldDeeds l0 l1 hg0 hg1
  refine (laws_FnExactFoldDeeds.calls kr _ _ l0 _ _ l1 W hC0 hl0 hC1 hl1 hr_).mono fun e W' hpost => ?_
  obtain ⟨he, bel⟩ := hpost
  subst he
  exact ⟨_, rfl, _, _, _, [], _, [], hW', trodAll_mk1 (shut_bool Try.underlying4 _), (trodAll_cons_mk (Below.trod laidOut (by kernel_rfl) (of_decide_eq_true (by kernel_rfl)) k0 bel lt0) (trodAll_cons_mk (Below.trod laidOut (by kernel_rfl) (of_decide_eq_true (by kernel_rfl)) k1 bel lt1) trodAll_mk0)), rfl, bel.frame _, fun h => by cases h⟩
theorem over : Rows.fnExactFoldDeedsRow.holds Try.pinned (OpenSpec.ofChange Rows.fnExactFoldDeedsSpec) :=
  OpenClaim.holds_of_wide 4 Try.f4 rfl rfl rfl rfl rfl rfl rfl ⟨rfl, rfl, rfl, rfl, rfl⟩ rfl rfl rfl rfl rfl (by kernel_rfl) Try.func4 (by kernel_rfl)
    (of_decide_eq_true (by kernel_rfl)) (by unfold Func.isWrapper; first | (rw [if_pos (by decide +kernel)]; kernel_rfl) | (rw [if_neg (by decide +kernel)]; exact ⟨rfl, rfl⟩))
    (fun os started H enc _ => lifted os started H enc)
theorem proved : Rows.FnExactFoldDeedsSaid := over
#print axioms proved
end Go.Proofs.Ytbdcdmbnhialcaa.fnExactFoldDeeds
namespace Go.Proofs.Ytbdcdmbnhialcaa
theorem fnExactFoldDeeds_holds : Rows.FnExactFoldDeedsSaid := fnExactFoldDeeds.proved
end Go.Proofs.Ytbdcdmbnhialcaa
