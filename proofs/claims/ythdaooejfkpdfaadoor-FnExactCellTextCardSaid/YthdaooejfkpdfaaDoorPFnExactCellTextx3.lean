-- laid by a program of this session out of the translation's own print: Lean checks it
import Derived.Test.YthdaooejfkpdfaaDoorPFnExactCellTextx0
import Derived.Test.YthdaooejfkpdfaaDoorPFnExactCellTextx1
import Derived.Test.YthdaooejfkpdfaaDoorPFnExactCellTextx2
namespace Go.Proofs.YthdaooejfkpdfaaDoor.PFnExactCellText
open Go.RowKit Go.Proofs.YthdaooejfkpdfaaDoorW.PrintWords Go.Proofs.YthdaooejfkpdfaaDoorW.PrintLast Go.Proofs.YthdaooejfkpdfaaDoorW.PrintMore
attribute [local go_sem] max2_int min2_int max_two min_two max_three min_three max_four min_four   -- for this text's walks alone
set_option linter.unusedVariables false
set_option linter.unusedSimpArgs false

/-! ### laws_FnExactCellText: function 3 -/
def laws_FnExactCellText.f (k : Nat) (a0 : Int) (a1 : Int) : Option (Bool) := (spec_CellText.f k a0 a1).bind fun bt117 => ((impl_CellText.f k a0 a1).bind fun bt119 => (if bt119.1.toList = bt117.1.toList then (if bt119.2 = bt117.2 then (some true) else (some false)) else (some false)))
theorem laws_FnExactCellText.mono : ∀ a0 a1 k, LeO (laws_FnExactCellText.f k a0 a1) (laws_FnExactCellText.f (k + 1) a0 a1) := by
  intro a0 a1 k
  unfold laws_FnExactCellText.f
  repeat' first
      | (with_reducible exact impl_CellText.mono _ _ _)
      | (with_reducible exact spec_CellText.mono _ _ _)
      | (with_reducible exact LeO.refl _)
      | (with_reducible exact LeO.none _)
      | (with_reducible refine LeO.ite ?_ ?_)
      | (with_reducible refine LeO.bind ?_ (fun _ => ?_))
      | exact impl_CellText.mono _ _ _
      | exact spec_CellText.mono _ _ _
      | exact LeO.none _
      | refine LeO.ite ?_ ?_
      | refine LeO.bind ?_ (fun _ => ?_)
set_option maxHeartbeats 8000000 in
set_option maxRecDepth 100000 in
theorem laws_FnExactCellText.calls (k : Nat) (a0 : Int) (a1 : Int) (w : World) (h : laws_FnExactCellText.f k a0 a1 = some true) (hG : GlobOK w := by first | exact HGL.out | exact GlobOK.below HGL.out HB.out | exact GlobOK.below HGL.out (by repeat (first | (with_reducible first | exact HB.out | apply below_alloc | apply pw_below_drewN | apply below_drew1) | exact HB.out)) | (repeat (first | exact HGL.out | apply GlobOK.drewN | apply GlobOK.drew | apply GlobOK.alloc))) :
    Calls Tryd.prog 3 #[.int .i64 a0, .int .i64 a1] w fun e w' => e = .returned (.bool true) ∧ Below w.heap.size w w' := by
  have HGL := Aside0.mk hG
  clear hG
  have HB := Aside0.mk (Below.refl w.heap.size w)
  have H : ((spec_CellText.f k a0 a1).bind fun bt117 => ((impl_CellText.f k a0 a1).bind fun bt119 => (if bt119.1.toList = bt117.1.toList then (if bt119.2 = bt117.2 then (some true) else (some false)) else (some false)))) = some true := h
  clear h
  replace H := Option.bind_eq_some_iff.mp H
  obtain ⟨⟨t117, t118⟩, A30, H⟩ := H
  replace H : ((impl_CellText.f k a0 a1).bind fun bt119 => (if bt119.1.toList = t117.toList then (if bt119.2 = t118 then (some true) else (some false)) else (some false))) = some true := H
  have A3 := Aside0.mk A30
  clear A30
  replace H := Option.bind_eq_some_iff.mp H
  obtain ⟨⟨t119, t120⟩, A40, H⟩ := H
  replace H : (if t119.toList = t117.toList then (if t120 = t118 then (some true) else (some false)) else (some false)) = some true := H
  have A4 := Aside0.mk A40
  clear A40
  by_cases c5 : t119.toList = t117.toList
  · rw [if_pos c5] at H
    have c5b0 : (t119.toList == t117.toList) = true := beq_iff_eq.mpr c5
    have c5b1 : (t119.toList != t117.toList) = false := bne_eq_false_iff_eq.mpr c5
    clear c5
    by_cases c6 : t120 = t118
    · rw [if_pos c6] at H
      have c6b0 : (t120 == t118) = true := beq_iff_eq.mpr c6
      have c6b1 : (t120 != t118) = false := bne_eq_false_iff_eq.mpr c6
      clear c6
      clear H
      go_enter Tryd.func3, Tryd.ntmps3
      go_wp2_with (first | ((with_reducible refine gate_callee (f := 5) rfl ?_); refine goesL_ (some 12) rfl rfl Tryd.func5 (by kernel_rfl) rfl #[.int .i64 a0, .int .i64 a1] rfl (by (try simp only [List.map_toArray, List.map_cons, List.map_nil]); first | done | rfl | (simp only [List.length_drop, List.length_take]; rfl)) ?_; (with_reducible refine (spec_CellText.calls k a0 a1 t117 t118 _ A3.out).mono ?_); rintro e w7 ⟨rfl, hb⟩; refine ⟨_, rfl, ?_⟩; replace HB := Aside0.mk (below_step (by repeat (first | (with_reducible first | exact HB.out | apply below_alloc | apply pw_below_drewN | apply below_drew1) | exact HB.out)) hb); (try clear hb); (try clear hb2); (try clear hk); (try clear hi)) | ((with_reducible refine gate_callee (f := 6) rfl ?_); refine goesL_ (some 18) rfl rfl Tryd.func6 (by kernel_rfl) rfl #[.int .i64 a0, .int .i64 a1] rfl (by (try simp only [List.map_toArray, List.map_cons, List.map_nil]); first | done | rfl | (simp only [List.length_drop, List.length_take]; rfl)) ?_; (with_reducible refine (impl_CellText.calls k a0 a1 t119 t120 _ A4.out).mono ?_); rintro e w8 ⟨rfl, hb⟩; refine ⟨_, rfl, ?_⟩; replace HB := Aside0.mk (below_step (by repeat (first | (with_reducible first | exact HB.out | apply below_alloc | apply pw_below_drewN | apply below_drew1) | exact HB.out)) hb); (try clear hb); (try clear hb2); (try clear hk); (try clear hi)))
      all_goals go_ret
      exact ⟨by first | rfl | (simp [errW_none, errW_some] <;> rfl) | (simp [*, errW_none, errW_some] <;> rfl), by repeat (first | (with_reducible first | exact HB.out | apply below_alloc | apply pw_below_drewN | apply below_drew1) | exact HB.out)⟩
      all_goals (exfalso; simp only [beq_iff_eq, decide_eq_decide, decide_eq_true_eq, decide_eq_false_iff_not] at *; omega)
    · rw [if_neg c6] at H
      have c6b0 : (t120 == t118) = false := beq_eq_false_iff_ne.mpr c6
      have c6b1 : (t120 != t118) = true := bne_iff_ne.mpr c6
      exact absurd (Option.some.inj H) (by decide)
  · rw [if_neg c5] at H
    have c5b0 : (t119.toList == t117.toList) = false := beq_eq_false_iff_ne.mpr c5
    have c5b1 : (t119.toList != t117.toList) = true := bne_iff_ne.mpr c5
    exact absurd (Option.some.inj H) (by decide)
/-- The pure statement of laws_FnExactCellText: plain data, no memory. -/
def laws_FnExactCellText.Pure : Prop := ∀ (a0 : Int) (a1 : Int), ((Lit.int .i64 a0).wf = true) → ((Lit.int .i64 a1).wf = true) → ∃ k, laws_FnExactCellText.f k a0 a1 = some true

end Go.Proofs.YthdaooejfkpdfaaDoor.PFnExactCellText
