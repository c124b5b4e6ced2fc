-- laid by a program of this session out of the translation's own print: Lean checks it
import Derived.Test.YthmcanjeeljnhaaPTreex0
import Derived.Test.YthmcanjeeljnhaaPTreex1
import Derived.Test.YthmcanjeeljnhaaPTreex3
import Derived.Test.YthmcanjeeljnhaaPTreex8
import Derived.Test.YthmcanjeeljnhaaPTreex9
import Derived.Test.YthmcanjeeljnhaaPTreeTM
namespace Go.Proofs.Ythmcanjeeljnhaa.PTree
open Go.RowKit Go.Proofs.YthmcanjeeljnhaaW.PrintWords Go.Proofs.YthmcanjeeljnhaaW.PrintLast Go.Proofs.YthmcanjeeljnhaaW.PrintMore
attribute [local go_sem] max2_int min2_int max_two min_two max_three min_three max_four min_four   -- for this text's walks alone
set_option linter.unusedVariables false
set_option linter.unusedSimpArgs false

/-! ### laws_FnExactTreeOf: function 3 -/
def laws_FnExactTreeOf.f (k : Nat) (l0 : List (S46)) : Option (Bool) := (laws_szItemS.f l0 1048576).bind fun t372 => (if t372 < 0 then (some true) else ((laws_toItemS.f k l0).bind fun t373 => ((spec_TreeOf.f k t373).bind fun bt376 => ((laws_toItemS.f k l0).bind fun t380 => ((impl_TreeOf.f k t380).bind fun bt383 => ((laws_eqNodeS.f k bt383.1 bt376.1).bind fun t387 => (if t387 = true then (if bt383.2 = bt376.2 then ((laws_toItemS.f k l0).bind fun t388 => ((laws_eqItemS.f k t380 t388).bind fun t391 => (if t391 = true then ((laws_markItemS.f k t380 1).bind fun bt392 => (if bt392.1 < 0 then (some false) else ((laws_eqNodeS.f k bt383.1 bt376.1).bind fun t394 => (if t394 = true then ((laws_markNodeS.f k bt383.1 1).bind fun bt395 => ((laws_heldNodeS.f k bt395.2 1).bind fun t397 => (if t397 < 0 then (some false) else (if t397 = bt395.1 then ((laws_toItemS.f k l0).bind fun t398 => ((impl_TreeOf.f k t398).bind fun bt401 => ((laws_eqNodeS.f k bt401.1 bt376.1).bind fun t405 => (if t405 = true then (if bt401.2 = bt376.2 then ((laws_heldNodeS.f k bt395.2 1).bind fun t406 => (if t406 < 0 then (some false) else (if t406 = bt395.1 then (some true) else (some false)))) else (some false)) else (some false))))) else (some false))))) else (some false))))) else (some false)))) else (some false)) else (some false))))))))
theorem laws_FnExactTreeOf.mono : ∀ a0 k, LeO (laws_FnExactTreeOf.f k a0) (laws_FnExactTreeOf.f (k + 1) a0) := by
  intro a0 k
  unfold laws_FnExactTreeOf.f
  repeat' first
      | (with_reducible exact impl_TreeOf.mono _ _)
      | (with_reducible exact laws_eqItemS.mono _ _ _)
      | (with_reducible exact laws_eqNodeS.mono _ _ _)
      | (with_reducible exact laws_heldNodeS.mono _ _ _)
      | (with_reducible exact laws_markItemS.mono _ _ _)
      | (with_reducible exact laws_markNodeS.mono _ _ _)
      | (with_reducible exact laws_toItemS.mono _ _)
      | (with_reducible exact spec_TreeOf.mono _ _)
      | (with_reducible exact LeO.refl _)
      | (with_reducible exact LeO.none _)
      | (with_reducible refine LeO.ite ?_ ?_)
      | (with_reducible refine LeO.bind ?_ (fun _ => ?_))
      | exact impl_TreeOf.mono _ _
      | exact laws_eqItemS.mono _ _ _
      | exact laws_eqNodeS.mono _ _ _
      | exact laws_heldNodeS.mono _ _ _
      | exact laws_markItemS.mono _ _ _
      | exact laws_markNodeS.mono _ _ _
      | exact laws_toItemS.mono _ _
      | exact spec_TreeOf.mono _ _
      | exact LeO.none _
      | refine LeO.ite ?_ ?_
      | refine LeO.bind ?_ (fun _ => ?_)
set_option maxHeartbeats 8000000 in
set_option maxRecDepth 100000 in
theorem laws_FnExactTreeOf.calls (k : Nat) (A0 : Option Addr) (c0 : Nat) (l0 : List (S46)) (w : World) (hr0 : Kd.C k46 w A0 l0.length l0) (hc0 : l0.length ≤ c0) (h : laws_FnExactTreeOf.f k l0 = some true) :
    Calls Try.prog 3 #[.slice A0 l0.length c0] w fun e w' => e = .returned (.bool true) ∧ Below w.heap.size w w' := by
  have HR0 := Aside0.mk hr0
  have HC0 := Aside0.mk hc0
  clear hr0 hc0
  have HB := Aside0.mk (Below.refl w.heap.size w)
  have H : ((laws_szItemS.f l0 1048576).bind fun t372 => (if t372 < 0 then (some true) else ((laws_toItemS.f k l0).bind fun t373 => ((spec_TreeOf.f k t373).bind fun bt376 => ((laws_toItemS.f k l0).bind fun t380 => ((impl_TreeOf.f k t380).bind fun bt383 => ((laws_eqNodeS.f k bt383.1 bt376.1).bind fun t387 => (if t387 = true then (if bt383.2 = bt376.2 then ((laws_toItemS.f k l0).bind fun t388 => ((laws_eqItemS.f k t380 t388).bind fun t391 => (if t391 = true then ((laws_markItemS.f k t380 1).bind fun bt392 => (if bt392.1 < 0 then (some false) else ((laws_eqNodeS.f k bt383.1 bt376.1).bind fun t394 => (if t394 = true then ((laws_markNodeS.f k bt383.1 1).bind fun bt395 => ((laws_heldNodeS.f k bt395.2 1).bind fun t397 => (if t397 < 0 then (some false) else (if t397 = bt395.1 then ((laws_toItemS.f k l0).bind fun t398 => ((impl_TreeOf.f k t398).bind fun bt401 => ((laws_eqNodeS.f k bt401.1 bt376.1).bind fun t405 => (if t405 = true then (if bt401.2 = bt376.2 then ((laws_heldNodeS.f k bt395.2 1).bind fun t406 => (if t406 < 0 then (some false) else (if t406 = bt395.1 then (some true) else (some false)))) else (some false)) else (some false))))) else (some false))))) else (some false))))) else (some false)))) else (some false)) else (some false))))))))) = some true := h
  clear h
  replace H := Option.bind_eq_some_iff.mp H
  obtain ⟨t372, A20, H⟩ := H
  replace H : (if t372 < 0 then (some true) else ((laws_toItemS.f k l0).bind fun t373 => ((spec_TreeOf.f k t373).bind fun bt376 => ((laws_toItemS.f k l0).bind fun t380 => ((impl_TreeOf.f k t380).bind fun bt383 => ((laws_eqNodeS.f k bt383.1 bt376.1).bind fun t387 => (if t387 = true then (if bt383.2 = bt376.2 then ((laws_toItemS.f k l0).bind fun t388 => ((laws_eqItemS.f k t380 t388).bind fun t391 => (if t391 = true then ((laws_markItemS.f k t380 1).bind fun bt392 => (if bt392.1 < 0 then (some false) else ((laws_eqNodeS.f k bt383.1 bt376.1).bind fun t394 => (if t394 = true then ((laws_markNodeS.f k bt383.1 1).bind fun bt395 => ((laws_heldNodeS.f k bt395.2 1).bind fun t397 => (if t397 < 0 then (some false) else (if t397 = bt395.1 then ((laws_toItemS.f k l0).bind fun t398 => ((impl_TreeOf.f k t398).bind fun bt401 => ((laws_eqNodeS.f k bt401.1 bt376.1).bind fun t405 => (if t405 = true then (if bt401.2 = bt376.2 then ((laws_heldNodeS.f k bt395.2 1).bind fun t406 => (if t406 < 0 then (some false) else (if t406 = bt395.1 then (some true) else (some false)))) else (some false)) else (some false))))) else (some false))))) else (some false))))) else (some false)))) else (some false)) else (some false)))))))) = some true := H
  have A2 := Aside0.mk A20
  clear A20
  by_cases c3 : t372 < 0
  · rw [if_pos c3] at H
    have c3b0 : decide (t372 < 0) = true := decide_eq_true c3
    clear c3
    clear H
    go_enter Try.func3, Try.ntmps3
    go_wp2_with (first | ((with_reducible refine gate_callee (f := 5) rfl ?_); refine goesL_ (some 16) rfl rfl Try.func5 (by kernel_rfl) rfl #[.slice A0 l0.length c0, .int .i64 1048576] rfl (by (try simp only [List.map_toArray, List.map_cons, List.map_nil]); first | done | rfl | (simp only [List.length_drop, List.length_take]; rfl)) ?_; (with_reducible refine (laws_szItemS.calls _ _ l0 1048576 t372 _ ?side1 ?side2 A2.out).mono ?_); (case side1 => repeat (first | exact HR0.out | (with_reducible refine Kd.C_alloc ?_ _) | (with_reducible refine Kd.C_drewN ?_ _) | (with_reducible refine Kd.C_drew ?_))); (case side2 => exact HC0.out); rintro e w' ⟨rfl, ⟨nd, rfl⟩⟩; refine ⟨_, rfl, ?_⟩))
    all_goals go_ret
    exact ⟨by first | rfl | (simp [errW_none, errW_some] <;> rfl) | (simp [*, errW_none, errW_some] <;> rfl), by repeat (first | (with_reducible first | exact HB.out | apply below_alloc | apply pw_below_drewN | apply below_drew1) | exact HB.out)⟩
    all_goals (exfalso; simp only [beq_iff_eq, decide_eq_decide, decide_eq_true_eq, decide_eq_false_iff_not] at *; omega)
  · rw [if_neg c3] at H
    have c3b0 : decide (t372 < 0) = false := decide_eq_false c3
    clear c3
    replace H := Option.bind_eq_some_iff.mp H
    obtain ⟨t373, A40, H⟩ := H
    replace H : ((spec_TreeOf.f k t373).bind fun bt376 => ((laws_toItemS.f k l0).bind fun t380 => ((impl_TreeOf.f k t380).bind fun bt383 => ((laws_eqNodeS.f k bt383.1 bt376.1).bind fun t387 => (if t387 = true then (if bt383.2 = bt376.2 then ((laws_toItemS.f k l0).bind fun t388 => ((laws_eqItemS.f k t380 t388).bind fun t391 => (if t391 = true then ((laws_markItemS.f k t380 1).bind fun bt392 => (if bt392.1 < 0 then (some false) else ((laws_eqNodeS.f k bt383.1 bt376.1).bind fun t394 => (if t394 = true then ((laws_markNodeS.f k bt383.1 1).bind fun bt395 => ((laws_heldNodeS.f k bt395.2 1).bind fun t397 => (if t397 < 0 then (some false) else (if t397 = bt395.1 then ((laws_toItemS.f k l0).bind fun t398 => ((impl_TreeOf.f k t398).bind fun bt401 => ((laws_eqNodeS.f k bt401.1 bt376.1).bind fun t405 => (if t405 = true then (if bt401.2 = bt376.2 then ((laws_heldNodeS.f k bt395.2 1).bind fun t406 => (if t406 < 0 then (some false) else (if t406 = bt395.1 then (some true) else (some false)))) else (some false)) else (some false))))) else (some false))))) else (some false))))) else (some false)))) else (some false)) else (some false)))))) = some true := H
    have A4 := Aside0.mk A40
    clear A40
    replace H := Option.bind_eq_some_iff.mp H
    obtain ⟨⟨t376, t377⟩, A50, H⟩ := H
    replace H : ((laws_toItemS.f k l0).bind fun t380 => ((impl_TreeOf.f k t380).bind fun bt383 => ((laws_eqNodeS.f k bt383.1 t376).bind fun t387 => (if t387 = true then (if bt383.2 = t377 then ((laws_toItemS.f k l0).bind fun t388 => ((laws_eqItemS.f k t380 t388).bind fun t391 => (if t391 = true then ((laws_markItemS.f k t380 1).bind fun bt392 => (if bt392.1 < 0 then (some false) else ((laws_eqNodeS.f k bt383.1 t376).bind fun t394 => (if t394 = true then ((laws_markNodeS.f k bt383.1 1).bind fun bt395 => ((laws_heldNodeS.f k bt395.2 1).bind fun t397 => (if t397 < 0 then (some false) else (if t397 = bt395.1 then ((laws_toItemS.f k l0).bind fun t398 => ((impl_TreeOf.f k t398).bind fun bt401 => ((laws_eqNodeS.f k bt401.1 t376).bind fun t405 => (if t405 = true then (if bt401.2 = t377 then ((laws_heldNodeS.f k bt395.2 1).bind fun t406 => (if t406 < 0 then (some false) else (if t406 = bt395.1 then (some true) else (some false)))) else (some false)) else (some false))))) else (some false))))) else (some false))))) else (some false)))) else (some false)) else (some false))))) = some true := H
    have A5 := Aside0.mk A50
    clear A50
    replace H := Option.bind_eq_some_iff.mp H
    obtain ⟨t380, A60, H⟩ := H
    replace H : ((impl_TreeOf.f k t380).bind fun bt383 => ((laws_eqNodeS.f k bt383.1 t376).bind fun t387 => (if t387 = true then (if bt383.2 = t377 then ((laws_toItemS.f k l0).bind fun t388 => ((laws_eqItemS.f k t380 t388).bind fun t391 => (if t391 = true then ((laws_markItemS.f k t380 1).bind fun bt392 => (if bt392.1 < 0 then (some false) else ((laws_eqNodeS.f k bt383.1 t376).bind fun t394 => (if t394 = true then ((laws_markNodeS.f k bt383.1 1).bind fun bt395 => ((laws_heldNodeS.f k bt395.2 1).bind fun t397 => (if t397 < 0 then (some false) else (if t397 = bt395.1 then ((laws_toItemS.f k l0).bind fun t398 => ((impl_TreeOf.f k t398).bind fun bt401 => ((laws_eqNodeS.f k bt401.1 t376).bind fun t405 => (if t405 = true then (if bt401.2 = t377 then ((laws_heldNodeS.f k bt395.2 1).bind fun t406 => (if t406 < 0 then (some false) else (if t406 = bt395.1 then (some true) else (some false)))) else (some false)) else (some false))))) else (some false))))) else (some false))))) else (some false)))) else (some false)) else (some false)))) = some true := H
    have A6 := Aside0.mk A60
    clear A60
    replace H := Option.bind_eq_some_iff.mp H
    obtain ⟨⟨t383, t384⟩, A70, H⟩ := H
    replace H : ((laws_eqNodeS.f k t383 t376).bind fun t387 => (if t387 = true then (if t384 = t377 then ((laws_toItemS.f k l0).bind fun t388 => ((laws_eqItemS.f k t380 t388).bind fun t391 => (if t391 = true then ((laws_markItemS.f k t380 1).bind fun bt392 => (if bt392.1 < 0 then (some false) else ((laws_eqNodeS.f k t383 t376).bind fun t394 => (if t394 = true then ((laws_markNodeS.f k t383 1).bind fun bt395 => ((laws_heldNodeS.f k bt395.2 1).bind fun t397 => (if t397 < 0 then (some false) else (if t397 = bt395.1 then ((laws_toItemS.f k l0).bind fun t398 => ((impl_TreeOf.f k t398).bind fun bt401 => ((laws_eqNodeS.f k bt401.1 t376).bind fun t405 => (if t405 = true then (if bt401.2 = t377 then ((laws_heldNodeS.f k bt395.2 1).bind fun t406 => (if t406 < 0 then (some false) else (if t406 = bt395.1 then (some true) else (some false)))) else (some false)) else (some false))))) else (some false))))) else (some false))))) else (some false)))) else (some false)) else (some false))) = some true := H
    have A7 := Aside0.mk A70
    clear A70
    replace H := Option.bind_eq_some_iff.mp H
    obtain ⟨t387, A80, H⟩ := H
    replace H : (if t387 = true then (if t384 = t377 then ((laws_toItemS.f k l0).bind fun t388 => ((laws_eqItemS.f k t380 t388).bind fun t391 => (if t391 = true then ((laws_markItemS.f k t380 1).bind fun bt392 => (if bt392.1 < 0 then (some false) else ((laws_eqNodeS.f k t383 t376).bind fun t394 => (if t394 = true then ((laws_markNodeS.f k t383 1).bind fun bt395 => ((laws_heldNodeS.f k bt395.2 1).bind fun t397 => (if t397 < 0 then (some false) else (if t397 = bt395.1 then ((laws_toItemS.f k l0).bind fun t398 => ((impl_TreeOf.f k t398).bind fun bt401 => ((laws_eqNodeS.f k bt401.1 t376).bind fun t405 => (if t405 = true then (if bt401.2 = t377 then ((laws_heldNodeS.f k bt395.2 1).bind fun t406 => (if t406 < 0 then (some false) else (if t406 = bt395.1 then (some true) else (some false)))) else (some false)) else (some false))))) else (some false))))) else (some false))))) else (some false)))) else (some false)) else (some false)) = some true := H
    have A8 := Aside0.mk A80
    clear A80
    by_cases c9 : t387 = true
    · subst c9
      have H1 : (if t384 = t377 then ((laws_toItemS.f k l0).bind fun t388 => ((laws_eqItemS.f k t380 t388).bind fun t391 => (if t391 = true then ((laws_markItemS.f k t380 1).bind fun bt392 => (if bt392.1 < 0 then (some false) else ((laws_eqNodeS.f k t383 t376).bind fun t394 => (if t394 = true then ((laws_markNodeS.f k t383 1).bind fun bt395 => ((laws_heldNodeS.f k bt395.2 1).bind fun t397 => (if t397 < 0 then (some false) else (if t397 = bt395.1 then ((laws_toItemS.f k l0).bind fun t398 => ((impl_TreeOf.f k t398).bind fun bt401 => ((laws_eqNodeS.f k bt401.1 t376).bind fun t405 => (if t405 = true then (if bt401.2 = t377 then ((laws_heldNodeS.f k bt395.2 1).bind fun t406 => (if t406 < 0 then (some false) else (if t406 = bt395.1 then (some true) else (some false)))) else (some false)) else (some false))))) else (some false))))) else (some false))))) else (some false)))) else (some false)) = some true := by rw [if_pos rfl] at H; first | done | exact H
      clear H
      have H := H1
      clear H1
      by_cases c10 : t384 = t377
      · rw [if_pos c10] at H
        have c10b0 : (t384 == t377) = true := beq_iff_eq.mpr c10
        have c10b1 : (t384 != t377) = false := bne_eq_false_iff_eq.mpr c10
        clear c10
        replace H := Option.bind_eq_some_iff.mp H
        obtain ⟨t388, A110, H⟩ := H
        replace H : ((laws_eqItemS.f k t380 t388).bind fun t391 => (if t391 = true then ((laws_markItemS.f k t380 1).bind fun bt392 => (if bt392.1 < 0 then (some false) else ((laws_eqNodeS.f k t383 t376).bind fun t394 => (if t394 = true then ((laws_markNodeS.f k t383 1).bind fun bt395 => ((laws_heldNodeS.f k bt395.2 1).bind fun t397 => (if t397 < 0 then (some false) else (if t397 = bt395.1 then ((laws_toItemS.f k l0).bind fun t398 => ((impl_TreeOf.f k t398).bind fun bt401 => ((laws_eqNodeS.f k bt401.1 t376).bind fun t405 => (if t405 = true then (if bt401.2 = t377 then ((laws_heldNodeS.f k bt395.2 1).bind fun t406 => (if t406 < 0 then (some false) else (if t406 = bt395.1 then (some true) else (some false)))) else (some false)) else (some false))))) else (some false))))) else (some false))))) else (some false))) = some true := H
        have A11 := Aside0.mk A110
        clear A110
        replace H := Option.bind_eq_some_iff.mp H
        obtain ⟨t391, A120, H⟩ := H
        replace H : (if t391 = true then ((laws_markItemS.f k t380 1).bind fun bt392 => (if bt392.1 < 0 then (some false) else ((laws_eqNodeS.f k t383 t376).bind fun t394 => (if t394 = true then ((laws_markNodeS.f k t383 1).bind fun bt395 => ((laws_heldNodeS.f k bt395.2 1).bind fun t397 => (if t397 < 0 then (some false) else (if t397 = bt395.1 then ((laws_toItemS.f k l0).bind fun t398 => ((impl_TreeOf.f k t398).bind fun bt401 => ((laws_eqNodeS.f k bt401.1 t376).bind fun t405 => (if t405 = true then (if bt401.2 = t377 then ((laws_heldNodeS.f k bt395.2 1).bind fun t406 => (if t406 < 0 then (some false) else (if t406 = bt395.1 then (some true) else (some false)))) else (some false)) else (some false))))) else (some false))))) else (some false))))) else (some false)) = some true := H
        have A12 := Aside0.mk A120
        clear A120
        by_cases c13 : t391 = true
        · subst c13
          have H1 : ((laws_markItemS.f k t380 1).bind fun bt392 => (if bt392.1 < 0 then (some false) else ((laws_eqNodeS.f k t383 t376).bind fun t394 => (if t394 = true then ((laws_markNodeS.f k t383 1).bind fun bt395 => ((laws_heldNodeS.f k bt395.2 1).bind fun t397 => (if t397 < 0 then (some false) else (if t397 = bt395.1 then ((laws_toItemS.f k l0).bind fun t398 => ((impl_TreeOf.f k t398).bind fun bt401 => ((laws_eqNodeS.f k bt401.1 t376).bind fun t405 => (if t405 = true then (if bt401.2 = t377 then ((laws_heldNodeS.f k bt395.2 1).bind fun t406 => (if t406 < 0 then (some false) else (if t406 = bt395.1 then (some true) else (some false)))) else (some false)) else (some false))))) else (some false))))) else (some false))))) = some true := by rw [if_pos rfl] at H; first | done | exact H
          clear H
          have H := H1
          clear H1
          replace H := Option.bind_eq_some_iff.mp H
          obtain ⟨⟨t392, t393⟩, A140, H⟩ := H
          replace H : (if t392 < 0 then (some false) else ((laws_eqNodeS.f k t383 t376).bind fun t394 => (if t394 = true then ((laws_markNodeS.f k t383 1).bind fun bt395 => ((laws_heldNodeS.f k bt395.2 1).bind fun t397 => (if t397 < 0 then (some false) else (if t397 = bt395.1 then ((laws_toItemS.f k l0).bind fun t398 => ((impl_TreeOf.f k t398).bind fun bt401 => ((laws_eqNodeS.f k bt401.1 t376).bind fun t405 => (if t405 = true then (if bt401.2 = t377 then ((laws_heldNodeS.f k bt395.2 1).bind fun t406 => (if t406 < 0 then (some false) else (if t406 = bt395.1 then (some true) else (some false)))) else (some false)) else (some false))))) else (some false))))) else (some false)))) = some true := H
          have A14 := Aside0.mk A140
          clear A140
          by_cases c15 : t392 < 0
          · rw [if_pos c15] at H
            have c15b0 : decide (t392 < 0) = true := decide_eq_true c15
            clear c15
            exact absurd (Option.some.inj H) (by decide)
          · rw [if_neg c15] at H
            have c15b0 : decide (t392 < 0) = false := decide_eq_false c15
            clear c15
            replace H := Option.bind_eq_some_iff.mp H
            obtain ⟨t394, A160, H⟩ := H
            replace H : (if t394 = true then ((laws_markNodeS.f k t383 1).bind fun bt395 => ((laws_heldNodeS.f k bt395.2 1).bind fun t397 => (if t397 < 0 then (some false) else (if t397 = bt395.1 then ((laws_toItemS.f k l0).bind fun t398 => ((impl_TreeOf.f k t398).bind fun bt401 => ((laws_eqNodeS.f k bt401.1 t376).bind fun t405 => (if t405 = true then (if bt401.2 = t377 then ((laws_heldNodeS.f k bt395.2 1).bind fun t406 => (if t406 < 0 then (some false) else (if t406 = bt395.1 then (some true) else (some false)))) else (some false)) else (some false))))) else (some false))))) else (some false)) = some true := H
            have A16 := Aside0.mk A160
            clear A160
            by_cases c17 : t394 = true
            · subst c17
              have H1 : ((laws_markNodeS.f k t383 1).bind fun bt395 => ((laws_heldNodeS.f k bt395.2 1).bind fun t397 => (if t397 < 0 then (some false) else (if t397 = bt395.1 then ((laws_toItemS.f k l0).bind fun t398 => ((impl_TreeOf.f k t398).bind fun bt401 => ((laws_eqNodeS.f k bt401.1 t376).bind fun t405 => (if t405 = true then (if bt401.2 = t377 then ((laws_heldNodeS.f k bt395.2 1).bind fun t406 => (if t406 < 0 then (some false) else (if t406 = bt395.1 then (some true) else (some false)))) else (some false)) else (some false))))) else (some false))))) = some true := by rw [if_pos rfl] at H; first | done | exact H
              clear H
              have H := H1
              clear H1
              replace H := Option.bind_eq_some_iff.mp H
              obtain ⟨⟨t395, t396⟩, A180, H⟩ := H
              replace H : ((laws_heldNodeS.f k t396 1).bind fun t397 => (if t397 < 0 then (some false) else (if t397 = t395 then ((laws_toItemS.f k l0).bind fun t398 => ((impl_TreeOf.f k t398).bind fun bt401 => ((laws_eqNodeS.f k bt401.1 t376).bind fun t405 => (if t405 = true then (if bt401.2 = t377 then ((laws_heldNodeS.f k t396 1).bind fun t406 => (if t406 < 0 then (some false) else (if t406 = t395 then (some true) else (some false)))) else (some false)) else (some false))))) else (some false)))) = some true := H
              have A18 := Aside0.mk A180
              clear A180
              replace H := Option.bind_eq_some_iff.mp H
              obtain ⟨t397, A190, H⟩ := H
              replace H : (if t397 < 0 then (some false) else (if t397 = t395 then ((laws_toItemS.f k l0).bind fun t398 => ((impl_TreeOf.f k t398).bind fun bt401 => ((laws_eqNodeS.f k bt401.1 t376).bind fun t405 => (if t405 = true then (if bt401.2 = t377 then ((laws_heldNodeS.f k t396 1).bind fun t406 => (if t406 < 0 then (some false) else (if t406 = t395 then (some true) else (some false)))) else (some false)) else (some false))))) else (some false))) = some true := H
              have A19 := Aside0.mk A190
              clear A190
              by_cases c20 : t397 < 0
              · rw [if_pos c20] at H
                have c20b0 : decide (t397 < 0) = true := decide_eq_true c20
                clear c20
                exact absurd (Option.some.inj H) (by decide)
              · rw [if_neg c20] at H
                have c20b0 : decide (t397 < 0) = false := decide_eq_false c20
                clear c20
                by_cases c21 : t397 = t395
                · rw [if_pos c21] at H
                  have c21b0 : (t397 == t395) = true := beq_iff_eq.mpr c21
                  have c21b1 : (t397 != t395) = false := bne_eq_false_iff_eq.mpr c21
                  clear c21
                  replace H := Option.bind_eq_some_iff.mp H
                  obtain ⟨t398, A220, H⟩ := H
                  replace H : ((impl_TreeOf.f k t398).bind fun bt401 => ((laws_eqNodeS.f k bt401.1 t376).bind fun t405 => (if t405 = true then (if bt401.2 = t377 then ((laws_heldNodeS.f k t396 1).bind fun t406 => (if t406 < 0 then (some false) else (if t406 = t395 then (some true) else (some false)))) else (some false)) else (some false)))) = some true := H
                  have A22 := Aside0.mk A220
                  clear A220
                  replace H := Option.bind_eq_some_iff.mp H
                  obtain ⟨⟨t401, t402⟩, A230, H⟩ := H
                  replace H : ((laws_eqNodeS.f k t401 t376).bind fun t405 => (if t405 = true then (if t402 = t377 then ((laws_heldNodeS.f k t396 1).bind fun t406 => (if t406 < 0 then (some false) else (if t406 = t395 then (some true) else (some false)))) else (some false)) else (some false))) = some true := H
                  have A23 := Aside0.mk A230
                  clear A230
                  replace H := Option.bind_eq_some_iff.mp H
                  obtain ⟨t405, A240, H⟩ := H
                  replace H : (if t405 = true then (if t402 = t377 then ((laws_heldNodeS.f k t396 1).bind fun t406 => (if t406 < 0 then (some false) else (if t406 = t395 then (some true) else (some false)))) else (some false)) else (some false)) = some true := H
                  have A24 := Aside0.mk A240
                  clear A240
                  by_cases c25 : t405 = true
                  · subst c25
                    have H1 : (if t402 = t377 then ((laws_heldNodeS.f k t396 1).bind fun t406 => (if t406 < 0 then (some false) else (if t406 = t395 then (some true) else (some false)))) else (some false)) = some true := by rw [if_pos rfl] at H; first | done | exact H
                    clear H
                    have H := H1
                    clear H1
                    by_cases c26 : t402 = t377
                    · rw [if_pos c26] at H
                      have c26b0 : (t402 == t377) = true := beq_iff_eq.mpr c26
                      have c26b1 : (t402 != t377) = false := bne_eq_false_iff_eq.mpr c26
                      clear c26
                      replace H := Option.bind_eq_some_iff.mp H
                      obtain ⟨t406, A270, H⟩ := H
                      replace H : (if t406 < 0 then (some false) else (if t406 = t395 then (some true) else (some false))) = some true := H
                      have A27 := Aside0.mk A270
                      clear A270
                      by_cases c28 : t406 < 0
                      · rw [if_pos c28] at H
                        have c28b0 : decide (t406 < 0) = true := decide_eq_true c28
                        clear c28
                        exact absurd (Option.some.inj H) (by decide)
                      · rw [if_neg c28] at H
                        have c28b0 : decide (t406 < 0) = false := decide_eq_false c28
                        clear c28
                        by_cases c29 : t406 = t395
                        · rw [if_pos c29] at H
                          have c29b0 : (t406 == t395) = true := beq_iff_eq.mpr c29
                          have c29b1 : (t406 != t395) = false := bne_eq_false_iff_eq.mpr c29
                          clear c29
                          clear H
                          go_enter Try.func3, Try.ntmps3
                          go_wp2_with (first | ((with_reducible refine gate_callee (f := 5) rfl ?_); refine goesL_ (some 16) rfl rfl Try.func5 (by kernel_rfl) rfl #[.slice A0 l0.length c0, .int .i64 1048576] rfl (by (try simp only [List.map_toArray, List.map_cons, List.map_nil]); first | done | rfl | (simp only [List.length_drop, List.length_take]; rfl)) ?_; (with_reducible refine (laws_szItemS.calls _ _ l0 1048576 t372 _ ?side1 ?side2 A2.out).mono ?_); (case side1 => repeat (first | exact HR0.out | (with_reducible refine Kd.C_alloc ?_ _) | (with_reducible refine Kd.C_drewN ?_ _) | (with_reducible refine Kd.C_drew ?_))); (case side2 => exact HC0.out); rintro e w' ⟨rfl, ⟨nd, rfl⟩⟩; refine ⟨_, rfl, ?_⟩) | ((with_reducible refine gate_callee (f := 7) rfl ?_); refine goesL_ (some 21) rfl rfl Try.func7 (by kernel_rfl) rfl #[.slice A0 l0.length c0] rfl (by (try simp only [List.map_toArray, List.map_cons, List.map_nil]); first | done | rfl | (simp only [List.length_drop, List.length_take]; rfl)) ?_; (with_reducible refine (laws_toItemS.calls k _ _ l0 t373 _ ?side1 ?side2 A4.out).mono ?_); (case side1 => repeat (first | exact HR0.out | (with_reducible refine Kd.C_alloc ?_ _) | (with_reducible refine Kd.C_drewN ?_ _) | (with_reducible refine Kd.C_drew ?_))); (case side2 => exact HC0.out); rintro e w30 ⟨v374, rfl, ho0, hb⟩; refine ⟨_, rfl, ?_⟩; have HO375 := Aside0.mk (Kd.R_lower ho0 (below_size (by repeat (first | (with_reducible first | exact HB.out | apply below_alloc | apply pw_below_drewN | apply below_drew1) | exact HB.out)))); replace HB := Aside0.mk (below_step (by repeat (first | (with_reducible first | exact HB.out | apply below_alloc | apply pw_below_drewN | apply below_drew1) | exact HB.out)) hb); (try clear hb); (try clear hb2); (try clear hk); (try clear hi); (try clear ho0); obtain ⟨Ao31, co31, eo31⟩ := Kd.R_slice HO375.out; subst eo31) | ((with_reducible refine gate_callee (f := 6) rfl ?_); refine goesL_ (some 22) rfl rfl Try.func6 (by kernel_rfl) rfl #[.slice Ao31 t373.length co31] rfl (by (try simp only [List.map_toArray, List.map_cons, List.map_nil]); first | done | rfl | (simp only [List.length_drop, List.length_take]; rfl)) ?_; (with_reducible refine (spec_TreeOf.calls k _ _ t373 t376 t377 _ ?side1 ?side2 A5.out).mono ?_); (case side1 => repeat (first | exact (Kd.R_reads' HO375.out).2.2 | (with_reducible refine Kd.C_alloc ?_ _) | (with_reducible refine Kd.C_drewN ?_ _) | (with_reducible refine Kd.C_drew ?_))); (case side2 => exact (Kd.R_reads' HO375.out).2.1); rintro e w32 ⟨v378, rfl, ho0, hb⟩; refine ⟨_, rfl, ?_⟩; replace HO375 := Aside0.mk (Kd.R_below (by (with_reducible repeat (first | apply Kd.R_alloc | apply Kd.R_drewN | apply Kd.R_drew)); exact HO375.out) hb); have HO379 := Aside0.mk (Kd.R_lower ho0 (below_size (by repeat (first | (with_reducible first | exact HB.out | apply below_alloc | apply pw_below_drewN | apply below_drew1) | exact HB.out)))); replace HB := Aside0.mk (below_step (by repeat (first | (with_reducible first | exact HB.out | apply below_alloc | apply pw_below_drewN | apply below_drew1) | exact HB.out)) hb); (try clear hb); (try clear hb2); (try clear hk); (try clear hi); (try clear ho0); clear HO375) | ((with_reducible refine gate_callee (f := 7) rfl ?_); refine goesL_ (some 26) rfl rfl Try.func7 (by kernel_rfl) rfl #[.slice A0 l0.length c0] rfl (by (try simp only [List.map_toArray, List.map_cons, List.map_nil]); first | done | rfl | (simp only [List.length_drop, List.length_take]; rfl)) ?_; (with_reducible refine (laws_toItemS.calls k _ _ l0 t380 _ ?side1 ?side2 A6.out).mono ?_); (case side1 => repeat (first | exact (Kd.C_below HR0.out HB.out) | (with_reducible refine Kd.C_alloc ?_ _) | (with_reducible refine Kd.C_drewN ?_ _) | (with_reducible refine Kd.C_drew ?_))); (case side2 => exact HC0.out); rintro e w33 ⟨v381, rfl, ho0, hb⟩; refine ⟨_, rfl, ?_⟩; replace HO379 := Aside0.mk (Kd.R_below (by (with_reducible repeat (first | apply Kd.R_alloc | apply Kd.R_drewN | apply Kd.R_drew)); exact HO379.out) hb); have HO382 := Aside0.mk (Kd.R_lower ho0 (below_size (by repeat (first | (with_reducible first | exact HB.out | apply below_alloc | apply pw_below_drewN | apply below_drew1) | exact HB.out)))); replace HB := Aside0.mk (below_step (by repeat (first | (with_reducible first | exact HB.out | apply below_alloc | apply pw_below_drewN | apply below_drew1) | exact HB.out)) hb); (try clear hb); (try clear hb2); (try clear hk); (try clear hi); (try clear ho0); obtain ⟨Ao34, co34, eo34⟩ := Kd.R_slice HO382.out; subst eo34) | ((with_reducible refine gate_callee (f := 8) rfl ?_); refine goesL_ (some 29) rfl rfl Try.func8 (by kernel_rfl) rfl #[.slice Ao34 t380.length co34] rfl (by (try simp only [List.map_toArray, List.map_cons, List.map_nil]); first | done | rfl | (simp only [List.length_drop, List.length_take]; rfl)) ?_; (with_reducible refine (impl_TreeOf.callsT k _ _ t380 t383 t384 _ ?side1 ?side2 A7.out).mono ?_); (case side1 => repeat (first | exact (Kd.R_reads' HO382.out).2.2 | (with_reducible refine Kd.C_alloc ?_ _) | (with_reducible refine Kd.C_drewN ?_ _) | (with_reducible refine Kd.C_drew ?_))); (case side2 => exact (Kd.R_reads' HO382.out).2.1); rintro e w35 ⟨v385, rfl, ho0, hb⟩; refine ⟨_, rfl, ?_⟩; obtain ⟨N_, hA_, hB_⟩ := TN.split_old (by (with_reducible repeat (first | apply Kd.R_alloc | apply Kd.R_drewN | apply Kd.R_drew)); exact HO379.out) ho0 hb; have n0_ := Aside0.mk hA_; have n1_ := Aside0.mk (Kd.R_below (by (with_reducible repeat (first | apply Kd.R_alloc | apply Kd.R_drewN | apply Kd.R_drew)); exact HO382.out) hb); have n2_ := Aside0.mk (TN.R_lower hB_ (below_size (by repeat (first | (with_reducible first | exact HB.out | apply below_alloc | apply pw_below_drewN | apply below_drew1) | exact HB.out)))); have n3_ := Aside0.mk (below_step (by repeat (first | (with_reducible first | exact HB.out | apply below_alloc | apply pw_below_drewN | apply below_drew1) | exact HB.out)) hb); clear HO379; clear HO382; clear HB; have HO379 := n0_; have HO382 := n1_; have HO386 := n2_; have HB := n3_; clear n0_ n1_ n2_ n3_; (try clear hb); (try clear hb2); (try clear hk); (try clear hi); (try clear ho0); (try clear hA_ hB_); obtain ⟨Ao36, co36, eo36⟩ := TN.R_slice HO386.out; subst eo36; obtain ⟨Ao37, co37, eo37⟩ := Kd.R_slice HO379.out; subst eo37) | ((with_reducible refine gate_callee (f := 9) rfl ?_); refine goesL_ (some 34) rfl rfl Try.func9 (by kernel_rfl) rfl #[.slice Ao36 t383.length co36, .slice Ao37 t376.length co37] rfl (by (try simp only [List.map_toArray, List.map_cons, List.map_nil]); first | done | rfl | (simp only [List.length_drop, List.length_take]; rfl)) ?_; (with_reducible refine (laws_eqNodeS.calls k _ _ t383 _ _ t376 true _ ?side1 ?side2 ?side3 ?side4 A8.out).mono ?_); (case side1 => repeat (first | exact (TN.R_reads' HO386.out).2.2 | (with_reducible refine Kd.C_alloc ?_ _) | (with_reducible refine Kd.C_drewN ?_ _) | (with_reducible refine Kd.C_drew ?_))); (case side2 => exact (TN.R_reads' HO386.out).2.1); (case side3 => repeat (first | exact (Kd.R_reads' HO379.out).2.2 | (with_reducible refine Kd.C_alloc ?_ _) | (with_reducible refine Kd.C_drewN ?_ _) | (with_reducible refine Kd.C_drew ?_))); (case side4 => exact (Kd.R_reads' HO379.out).2.1); rintro e w38 ⟨rfl, hb⟩; refine ⟨_, rfl, ?_⟩; replace HO379 := Aside0.mk (Kd.R_below (by (with_reducible repeat (first | apply Kd.R_alloc | apply Kd.R_drewN | apply Kd.R_drew)); exact HO379.out) hb); replace HO382 := Aside0.mk (Kd.R_below (by (with_reducible repeat (first | apply Kd.R_alloc | apply Kd.R_drewN | apply Kd.R_drew)); exact HO382.out) hb); replace HO386 := Aside0.mk (TN.R_below (by (with_reducible repeat (first | apply TN.R_alloc | apply TN.R_drewN | apply TN.R_drew)); exact HO386.out) hb); replace HB := Aside0.mk (below_step (by repeat (first | (with_reducible first | exact HB.out | apply below_alloc | apply pw_below_drewN | apply below_drew1) | exact HB.out)) hb); (try clear hb); (try clear hb2); (try clear hk); (try clear hi)) | ((with_reducible refine gate_callee (f := 7) rfl ?_); refine goesL_ (some 43) rfl rfl Try.func7 (by kernel_rfl) rfl #[.slice A0 l0.length c0] rfl (by (try simp only [List.map_toArray, List.map_cons, List.map_nil]); first | done | rfl | (simp only [List.length_drop, List.length_take]; rfl)) ?_; (with_reducible refine (laws_toItemS.calls k _ _ l0 t388 _ ?side1 ?side2 A11.out).mono ?_); (case side1 => repeat (first | exact (Kd.C_below HR0.out HB.out) | (with_reducible refine Kd.C_alloc ?_ _) | (with_reducible refine Kd.C_drewN ?_ _) | (with_reducible refine Kd.C_drew ?_))); (case side2 => exact HC0.out); rintro e w39 ⟨v389, rfl, ho0, hb⟩; refine ⟨_, rfl, ?_⟩; have n0_ := Aside0.mk (Kd.R_below (by (with_reducible repeat (first | apply Kd.R_alloc | apply Kd.R_drewN | apply Kd.R_drew)); exact HO379.out) hb); have n1_ := Aside0.mk (Kd.R_elder' (by (with_reducible repeat (first | apply Kd.R_alloc | apply Kd.R_drewN | apply Kd.R_drew)); exact HO382.out) (Kd.R_base ho0) hb); have n2_ := Aside0.mk (TN.R_below (by (with_reducible repeat (first | apply TN.R_alloc | apply TN.R_drewN | apply TN.R_drew)); exact HO386.out) hb); have n3_ := Aside0.mk (Kd.R_lower (Kd.R_new' ho0 (Kd.R_lt (by (with_reducible repeat (first | apply Kd.R_alloc | apply Kd.R_drewN | apply Kd.R_drew)); exact HO382.out))) (below_size (by repeat (first | (with_reducible first | exact HB.out | apply below_alloc | apply pw_below_drewN | apply below_drew1) | exact HB.out)))); have n4_ := Aside0.mk (below_step (by repeat (first | (with_reducible first | exact HB.out | apply below_alloc | apply pw_below_drewN | apply below_drew1) | exact HB.out)) hb); clear HO379; clear HO382; clear HO386; clear HB; have HO379 := n0_; have HO382 := n1_; have HO386 := n2_; have HO390 := n3_; have HB := n4_; clear n0_ n1_ n2_ n3_ n4_; (try clear hb); (try clear hb2); (try clear hk); (try clear hi); (try clear ho0); obtain ⟨Ao40, co40, eo40⟩ := Kd.R_slice HO390.out; subst eo40) | ((with_reducible refine gate_callee (f := 10) rfl ?_); refine goesL_ (some 44) rfl rfl Try.func10 (by kernel_rfl) rfl #[.slice Ao34 t380.length co34, .slice Ao40 t388.length co40] rfl (by (try simp only [List.map_toArray, List.map_cons, List.map_nil]); first | done | rfl | (simp only [List.length_drop, List.length_take]; rfl)) ?_; (with_reducible refine (laws_eqItemS.calls k _ _ t380 _ _ t388 true _ ?side1 ?side2 ?side3 ?side4 A12.out).mono ?_); (case side1 => repeat (first | exact (Kd.R_reads' HO382.out).2.2 | (with_reducible refine Kd.C_alloc ?_ _) | (with_reducible refine Kd.C_drewN ?_ _) | (with_reducible refine Kd.C_drew ?_))); (case side2 => exact (Kd.R_reads' HO382.out).2.1); (case side3 => repeat (first | exact (Kd.R_reads' HO390.out).2.2 | (with_reducible refine Kd.C_alloc ?_ _) | (with_reducible refine Kd.C_drewN ?_ _) | (with_reducible refine Kd.C_drew ?_))); (case side4 => exact (Kd.R_reads' HO390.out).2.1); rintro e w41 ⟨rfl, hb⟩; refine ⟨_, rfl, ?_⟩; replace HO379 := Aside0.mk (Kd.R_below (by (with_reducible repeat (first | apply Kd.R_alloc | apply Kd.R_drewN | apply Kd.R_drew)); exact HO379.out) hb); replace HO382 := Aside0.mk (Kd.R_below (by (with_reducible repeat (first | apply Kd.R_alloc | apply Kd.R_drewN | apply Kd.R_drew)); exact HO382.out) hb); replace HO386 := Aside0.mk (TN.R_below (by (with_reducible repeat (first | apply TN.R_alloc | apply TN.R_drewN | apply TN.R_drew)); exact HO386.out) hb); replace HO390 := Aside0.mk (Kd.R_below (by (with_reducible repeat (first | apply Kd.R_alloc | apply Kd.R_drewN | apply Kd.R_drew)); exact HO390.out) hb); replace HB := Aside0.mk (below_step (by repeat (first | (with_reducible first | exact HB.out | apply below_alloc | apply pw_below_drewN | apply below_drew1) | exact HB.out)) hb); (try clear hb); (try clear hb2); (try clear hk); (try clear hi); replace HO382 := Aside0.mk (Kd.R_mono (ok' := fun k_ => True) HO382.out (fun k_ hk_ => trivial)); clear HO390) | ((with_reducible refine gate_callee (f := 11) rfl ?_); refine goesL_ (some 48) rfl rfl Try.func11 (by kernel_rfl) rfl #[.slice Ao34 t380.length co34, .int .i64 1] rfl (by (try simp only [List.map_toArray, List.map_cons, List.map_nil]); first | done | rfl | (simp only [List.length_drop, List.length_take]; rfl)) ?_; (with_reducible refine (laws_markItemS.calls k (fun k_ => some k_ = (.slice Ao34 t380.length co34 : Value).ownBlock) (.slice Ao34 t380.length co34) t380 1 t392 t393 w _ ?side1 ?side2 A14.out).mono ?_); (case side1 => repeat (first | (with_reducible first | exact HB.out | apply below_alloc | apply pw_below_drewN | apply below_drew1) | exact HB.out)); (case side2 => exact Kd.R_tight rfl HO382.out); rintro e w42 ⟨rfl, hy0, hb, hkp⟩; refine ⟨_, rfl, ?_⟩; have n0_ := Aside0.mk (Kd.R_mono (ok' := fun k_ => k_ < N_) (Kd.R_keptB ((Kd.R_apart' HO379.out (Kd.R_typed HO382.out) (by decide))) hkp (fun k_ hk_ hs_ => (hk_.2) hs_)) (fun k_ hk_ => hk_.1.1)); have n1_ := Aside0.mk (Kd.R_reok rfl hy0 (fun k_ e_ => HO382.out.1 k_ e_)); have n2_ := Aside0.mk (TN.R_mono (ok' := fun k_ => N_ ≤ k_) (TN.R_keptB ((TN.R_apart' HO386.out (Kd.R_typed HO382.out) (by decide))) hkp (fun k_ hk_ hs_ => (hk_.2) hs_)) (fun k_ hk_ => hk_.1)); have n3_ := Aside0.mk (hb); clear HO379; clear HO382; clear HO386; clear HB; have HO379 := n0_; have HO382 := n1_; have HO386 := n2_; have HB := n3_; clear n0_ n1_ n2_ n3_; (try clear hb); (try clear hkp); (try clear hy0); clear HO382) | (go_at_call 9; (with_reducible refine (laws_eqNodeS.calls k _ _ t383 _ _ t376 true _ ?side1 ?side2 ?side3 ?side4 A16.out).mono ?_); (case side1 => repeat (first | exact (TN.R_reads' HO386.out).2.2 | (with_reducible refine Kd.C_alloc ?_ _) | (with_reducible refine Kd.C_drewN ?_ _) | (with_reducible refine Kd.C_drew ?_))); (case side2 => exact (TN.R_reads' HO386.out).2.1); (case side3 => repeat (first | exact (Kd.R_reads' HO379.out).2.2 | (with_reducible refine Kd.C_alloc ?_ _) | (with_reducible refine Kd.C_drewN ?_ _) | (with_reducible refine Kd.C_drew ?_))); (case side4 => exact (Kd.R_reads' HO379.out).2.1); rintro e w43 ⟨rfl, hb⟩; replace HO379 := Aside0.mk (Kd.R_below (by (with_reducible repeat (first | apply Kd.R_alloc | apply Kd.R_drewN | apply Kd.R_drew)); exact HO379.out) hb); replace HO386 := Aside0.mk (TN.R_below (by (with_reducible repeat (first | apply TN.R_alloc | apply TN.R_drewN | apply TN.R_drew)); exact HO386.out) hb); replace HB := Aside0.mk (below_step (by repeat (first | (with_reducible first | exact HB.out | apply below_alloc | apply pw_below_drewN | apply below_drew1) | exact HB.out)) hb); (try clear hb); (try clear hb2); (try clear hk); (try clear hi)) | ((with_reducible refine gate_callee (f := 12) rfl ?_); refine goesL_ (some 64) rfl rfl Try.func12 (by kernel_rfl) rfl #[.slice Ao36 t383.length co36, .int .i64 1] rfl (by (try simp only [List.map_toArray, List.map_cons, List.map_nil]); first | done | rfl | (simp only [List.length_drop, List.length_take]; rfl)) ?_; (with_reducible refine (laws_markNodeS.callsT k (fun k_ => N_ ≤ k_) (.slice Ao36 t383.length co36) t383 1 t395 t396 w _ ?side1 ?side2 A18.out).mono ?_); (case side1 => repeat (first | (with_reducible first | exact HB.out | apply below_alloc | apply pw_below_drewN | apply below_drew1) | exact HB.out)); (case side2 => exact HO386.out); rintro e w44 ⟨rfl, hy0, hb, hkp⟩; refine ⟨_, rfl, ?_⟩; replace HO379 := Aside0.mk (Kd.R_mono (ok' := fun k_ => k_ < N_) (Kd.R_keptB (HO379.out) hkp (fun k_ hk_ hs_ => Nat.not_lt.2 hs_ hk_)) (fun k_ hk_ => hk_.1)); replace HO386 := Aside0.mk hy0; replace HB := Aside0.mk (hb); (try clear hb); (try clear hkp); (try clear hy0)) | ((with_reducible refine gate_callee (f := 13) rfl ?_); refine goesL_ (some 67) rfl rfl Try.func13 (by kernel_rfl) rfl #[.slice Ao36 t396.length co36, .int .i64 1] rfl (by (try simp only [List.map_toArray, List.map_cons, List.map_nil]); first | done | (rw [show t396.length = t383.length from (TN.R_reads' HO386.out).1.symm] <;> rfl) | rfl | (simp only [List.length_drop, List.length_take]; rfl)) ?_; (with_reducible refine (laws_heldNodeS.calls k _ _ t396 1 t397 _ ?side1 ?side2 A19.out).mono ?_); (case side1 => repeat (first | exact (TN.R_reads' HO386.out).2.2 | (with_reducible refine Kd.C_alloc ?_ _) | (with_reducible refine Kd.C_drewN ?_ _) | (with_reducible refine Kd.C_drew ?_))); (case side2 => rw [show t396.length = t383.length from (TN.R_reads' HO386.out).1.symm]; exact (TN.R_reads' HO386.out).2.1); rintro e w' ⟨rfl, ⟨nd, rfl⟩⟩; refine ⟨_, rfl, ?_⟩) | ((with_reducible refine gate_callee (f := 7) rfl ?_); refine goesL_ (some 75) rfl rfl Try.func7 (by kernel_rfl) rfl #[.slice A0 l0.length c0] rfl (by (try simp only [List.map_toArray, List.map_cons, List.map_nil]); first | done | rfl | (simp only [List.length_drop, List.length_take]; rfl)) ?_; (with_reducible refine (laws_toItemS.calls k _ _ l0 t398 _ ?side1 ?side2 A22.out).mono ?_); (case side1 => repeat (first | exact (Kd.C_below HR0.out (by repeat (first | (with_reducible first | exact HB.out | apply below_alloc | apply pw_below_drewN | apply below_drew1) | exact HB.out))) | (with_reducible refine Kd.C_alloc ?_ _) | (with_reducible refine Kd.C_drewN ?_ _) | (with_reducible refine Kd.C_drew ?_))); (case side2 => exact HC0.out); rintro e w45 ⟨v399, rfl, ho0, hb⟩; refine ⟨_, rfl, ?_⟩; replace HO379 := Aside0.mk (Kd.R_below (by (with_reducible repeat (first | apply Kd.R_alloc | apply Kd.R_drewN | apply Kd.R_drew)); exact HO379.out) hb); replace HO386 := Aside0.mk (TN.R_below (by (with_reducible repeat (first | apply TN.R_alloc | apply TN.R_drewN | apply TN.R_drew)); exact HO386.out) hb); have HO400 := Aside0.mk (Kd.R_lower ho0 (below_size (by repeat (first | (with_reducible first | exact HB.out | apply below_alloc | apply pw_below_drewN | apply below_drew1) | exact HB.out)))); replace HB := Aside0.mk (below_step (by repeat (first | (with_reducible first | exact HB.out | apply below_alloc | apply pw_below_drewN | apply below_drew1) | exact HB.out)) hb); (try clear hb); (try clear hb2); (try clear hk); (try clear hi); (try clear ho0); obtain ⟨Ao46, co46, eo46⟩ := Kd.R_slice HO400.out; subst eo46) | ((with_reducible refine gate_callee (f := 8) rfl ?_); refine goesL_ (some 76) rfl rfl Try.func8 (by kernel_rfl) rfl #[.slice Ao46 t398.length co46] rfl (by (try simp only [List.map_toArray, List.map_cons, List.map_nil]); first | done | rfl | (simp only [List.length_drop, List.length_take]; rfl)) ?_; (with_reducible refine (impl_TreeOf.callsT k _ _ t398 t401 t402 _ ?side1 ?side2 A23.out).mono ?_); (case side1 => repeat (first | exact (Kd.R_reads' HO400.out).2.2 | (with_reducible refine Kd.C_alloc ?_ _) | (with_reducible refine Kd.C_drewN ?_ _) | (with_reducible refine Kd.C_drew ?_))); (case side2 => exact (Kd.R_reads' HO400.out).2.1); rintro e w47 ⟨v403, rfl, ho0, hb⟩; refine ⟨_, rfl, ?_⟩; have n0_ := Aside0.mk (Kd.R_below (by (with_reducible repeat (first | apply Kd.R_alloc | apply Kd.R_drewN | apply Kd.R_drew)); exact HO379.out) hb); have n1_ := Aside0.mk (TN.R_below (by (with_reducible repeat (first | apply TN.R_alloc | apply TN.R_drewN | apply TN.R_drew)); exact HO386.out) hb); have n2_ := Aside0.mk (Kd.R_below (by (with_reducible repeat (first | apply Kd.R_alloc | apply Kd.R_drewN | apply Kd.R_drew)); exact HO400.out) hb); have n3_ := Aside0.mk (TN.R_lower ho0 (below_size (by repeat (first | (with_reducible first | exact HB.out | apply below_alloc | apply pw_below_drewN | apply below_drew1) | exact HB.out)))); have n4_ := Aside0.mk (below_step (by repeat (first | (with_reducible first | exact HB.out | apply below_alloc | apply pw_below_drewN | apply below_drew1) | exact HB.out)) hb); clear HO379; clear HO386; clear HO400; clear HB; have HO379 := n0_; have HO386 := n1_; have HO400 := n2_; have HO404 := n3_; have HB := n4_; clear n0_ n1_ n2_ n3_ n4_; (try clear hb); (try clear hb2); (try clear hk); (try clear hi); (try clear ho0); clear HO400; obtain ⟨Ao48, co48, eo48⟩ := TN.R_slice HO404.out; subst eo48) | ((with_reducible refine gate_callee (f := 9) rfl ?_); refine goesL_ (some 81) rfl rfl Try.func9 (by kernel_rfl) rfl #[.slice Ao48 t401.length co48, .slice Ao37 t376.length co37] rfl (by (try simp only [List.map_toArray, List.map_cons, List.map_nil]); first | done | rfl | (simp only [List.length_drop, List.length_take]; rfl)) ?_; (with_reducible refine (laws_eqNodeS.calls k _ _ t401 _ _ t376 true _ ?side1 ?side2 ?side3 ?side4 A24.out).mono ?_); (case side1 => repeat (first | exact (TN.R_reads' HO404.out).2.2 | (with_reducible refine Kd.C_alloc ?_ _) | (with_reducible refine Kd.C_drewN ?_ _) | (with_reducible refine Kd.C_drew ?_))); (case side2 => exact (TN.R_reads' HO404.out).2.1); (case side3 => repeat (first | exact (Kd.R_reads' HO379.out).2.2 | (with_reducible refine Kd.C_alloc ?_ _) | (with_reducible refine Kd.C_drewN ?_ _) | (with_reducible refine Kd.C_drew ?_))); (case side4 => exact (Kd.R_reads' HO379.out).2.1); rintro e w49 ⟨rfl, hb⟩; refine ⟨_, rfl, ?_⟩; replace HO379 := Aside0.mk (Kd.R_below (by (with_reducible repeat (first | apply Kd.R_alloc | apply Kd.R_drewN | apply Kd.R_drew)); exact HO379.out) hb); replace HO386 := Aside0.mk (TN.R_below (by (with_reducible repeat (first | apply TN.R_alloc | apply TN.R_drewN | apply TN.R_drew)); exact HO386.out) hb); replace HO404 := Aside0.mk (TN.R_below (by (with_reducible repeat (first | apply TN.R_alloc | apply TN.R_drewN | apply TN.R_drew)); exact HO404.out) hb); replace HB := Aside0.mk (below_step (by repeat (first | (with_reducible first | exact HB.out | apply below_alloc | apply pw_below_drewN | apply below_drew1) | exact HB.out)) hb); (try clear hb); (try clear hb2); (try clear hk); (try clear hi); clear HO379; replace HO386 := Aside0.mk (TN.R_mono (ok' := fun k_ => True) HO386.out (fun k_ hk_ => trivial)); clear HO404) | ((with_reducible refine gate_callee (f := 13) rfl ?_); refine goesL_ (some 90) rfl rfl Try.func13 (by kernel_rfl) rfl #[.slice Ao36 t396.length co36, .int .i64 1] rfl (by (try simp only [List.map_toArray, List.map_cons, List.map_nil]); first | done | (rw [show t396.length = t383.length from (TN.R_reads' HO386.out).1.symm] <;> rfl) | rfl | (simp only [List.length_drop, List.length_take]; rfl)) ?_; (with_reducible refine (laws_heldNodeS.calls k _ _ t396 1 t406 _ ?side1 ?side2 A27.out).mono ?_); (case side1 => repeat (first | exact (TN.R_reads' HO386.out).2.2 | (with_reducible refine Kd.C_alloc ?_ _) | (with_reducible refine Kd.C_drewN ?_ _) | (with_reducible refine Kd.C_drew ?_))); (case side2 => rw [show t396.length = t383.length from (TN.R_reads' HO386.out).1.symm]; exact (TN.R_reads' HO386.out).2.1); rintro e w' ⟨rfl, ⟨nd, rfl⟩⟩; refine ⟨_, rfl, ?_⟩))
                          all_goals go_ret
                          exact ⟨by first | rfl | (simp [errW_none, errW_some] <;> rfl) | (simp [*, errW_none, errW_some] <;> rfl), by repeat (first | (with_reducible first | exact HB.out | apply below_alloc | apply pw_below_drewN | apply below_drew1) | exact HB.out)⟩
                          all_goals (exfalso; simp only [beq_iff_eq, decide_eq_decide, decide_eq_true_eq, decide_eq_false_iff_not] at *; omega)
                        · rw [if_neg c29] at H
                          have c29b0 : (t406 == t395) = false := beq_eq_false_iff_ne.mpr c29
                          have c29b1 : (t406 != t395) = true := bne_iff_ne.mpr c29
                          exact absurd (Option.some.inj H) (by decide)
                    · rw [if_neg c26] at H
                      have c26b0 : (t402 == t377) = false := beq_eq_false_iff_ne.mpr c26
                      have c26b1 : (t402 != t377) = true := bne_iff_ne.mpr c26
                      exact absurd (Option.some.inj H) (by decide)
                  · replace c25 := Bool.eq_false_iff.mpr c25
                    subst c25
                    have H1 : (some false) = some true := by rw [if_neg (show ¬ (false = true) by decide)] at H; first | done | exact H
                    clear H
                    have H := H1
                    clear H1
                    exact absurd (Option.some.inj H) (by decide)
                · rw [if_neg c21] at H
                  have c21b0 : (t397 == t395) = false := beq_eq_false_iff_ne.mpr c21
                  have c21b1 : (t397 != t395) = true := bne_iff_ne.mpr c21
                  exact absurd (Option.some.inj H) (by decide)
            · replace c17 := Bool.eq_false_iff.mpr c17
              subst c17
              have H1 : (some false) = some true := by rw [if_neg (show ¬ (false = true) by decide)] at H; first | done | exact H
              clear H
              have H := H1
              clear H1
              exact absurd (Option.some.inj H) (by decide)
        · replace c13 := Bool.eq_false_iff.mpr c13
          subst c13
          have H1 : (some false) = some true := by rw [if_neg (show ¬ (false = true) by decide)] at H; first | done | exact H
          clear H
          have H := H1
          clear H1
          exact absurd (Option.some.inj H) (by decide)
      · rw [if_neg c10] at H
        have c10b0 : (t384 == t377) = false := beq_eq_false_iff_ne.mpr c10
        have c10b1 : (t384 != t377) = true := bne_iff_ne.mpr c10
        exact absurd (Option.some.inj H) (by decide)
    · replace c9 := Bool.eq_false_iff.mpr c9
      subst c9
      have H1 : (some false) = some true := by rw [if_neg (show ¬ (false = true) by decide)] at H; first | done | exact H
      clear H
      have H := H1
      clear H1
      exact absurd (Option.some.inj H) (by decide)
/-- The pure statement of laws_FnExactTreeOf: plain data, no memory. -/
def laws_FnExactTreeOf.Pure : Prop := ∀ (l0 : List (S46)), (l0.length ≤ 9223372036854775807 ∧ ∀ e0_, e0_ ∈ l0 → ((Lit.int .i64 e0_.f0).wf = true) ∧ ((Lit.int .i64 e0_.f1).wf = true)) → ∃ k, laws_FnExactTreeOf.f k l0 = some true

end Go.Proofs.Ythmcanjeeljnhaa.PTree
