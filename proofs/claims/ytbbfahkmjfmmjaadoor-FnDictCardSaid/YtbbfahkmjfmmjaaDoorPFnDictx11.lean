-- laid by a program of this session out of the translation's own print: Lean checks it
import Derived.Test.YtbbfahkmjfmmjaaDoorPFnDictx0
import Derived.Test.YtbbfahkmjfmmjaaDoorPFnDictx1
import Derived.Test.YtbbfahkmjfmmjaaDoorPFnDictx2
import Derived.Test.YtbbfahkmjfmmjaaDoorPFnDictx3
import Derived.Test.YtbbfahkmjfmmjaaDoorPFnDictx4
import Derived.Test.YtbbfahkmjfmmjaaDoorPFnDictx5
import Derived.Test.YtbbfahkmjfmmjaaDoorPFnDictx6
import Derived.Test.YtbbfahkmjfmmjaaDoorPFnDictx7
import Derived.Test.YtbbfahkmjfmmjaaDoorPFnDictx8
import Derived.Test.YtbbfahkmjfmmjaaDoorPFnDictx10
namespace Go.Proofs.YtbbfahkmjfmmjaaDoor.PFnDict
open Go.RowKit Go.Proofs.YtbbfahkmjfmmjaaDoorW.PrintWords Go.Proofs.YtbbfahkmjfmmjaaDoorW.PrintLast Go.Proofs.YtbbfahkmjfmmjaaDoorW.PrintMore
attribute [local go_sem] max2_int min2_int max_two min_two max_three min_three max_four min_four   -- for this text's walks alone
set_option linter.unusedVariables false
set_option linter.unusedSimpArgs false

attribute [local go_sem high] eqA39
/-! ### laws_FnDict: function 9 -/
def laws_FnDict.l0 : Nat → List (S39) → List (S39) → Int → List (S39) → Int → Int → Int → Int → Int → Int → Option (Bool)
  | 0, _, _, _, _, _, _, _, _, _, _ => none
  | k + 1, x5, x7, x8, x10, x13, x14, x15, x16, x18, x19 => if x19 ≤ (x10.length : Int) then ((impl_TokenOK.f k x7 x19).bind fun t411 => ((spec_TokenOK.f k x10 x19).bind fun t412 => (if (t411 != t412) = true then (some false) else (if x19 < (x10.length : Int) then (if 0 ≤ (wrap64 (x19 - 1)) then (if (wrap64 (x19 - 1)) < (x7.length : Int) then (if (wrap64 (x19 - 1)) < (x5.length : Int) then (if (!((((rd_T39 x7 (wrap64 (x19 - 1))).f0).toList) == (((rd_T39 x5 (wrap64 (x19 - 1))).f0).toList)) || (!(((rd_T39 x7 (wrap64 (x19 - 1))).f1) == ((rd_T39 x5 (wrap64 (x19 - 1))).f1)) || (!(((rd_T39 x7 (wrap64 (x19 - 1))).f2) == ((rd_T39 x5 (wrap64 (x19 - 1))).f2))))) = true then (some false) else (laws_FnDict.l0 k x5 x7 x8 x10 x13 x14 x15 x16 x18 (wrap64 (x19 + 1)))) else (none)) else (none)) else (none)) else (laws_FnDict.l0 k x5 x7 x8 x10 x13 x14 x15 x16 x18 (wrap64 (x19 + 1))))))) else (if x14 = 0 then (if x13 = x8 then (if x8 = (x10.length : Int) then (if x16 = 0 then (if x15 = x8 then (if x18 = 10 then ((impl_KernelSame.f k x7).bind fun t415 => (if t415 = true then ((impl_DictOK.f k x7).bind fun t416 => (if t416 = true then ((impl_TokenOK.f k x7 0).bind fun t417 => (some (!t417))) else (some false))) else (some false))) else (some false)) else (some false)) else (some false)) else (some false)) else (some false)) else (some false))
def laws_FnDict.f (k : Nat) (l0 : List Int) (l1 : List Int) : Option (Bool) := if (l0.length : Int) > 1048576 then (some true) else (if (l1.length : Int) > 1048576 then (some true) else ((spec_WordsDrawn.f k l0).bind fun t377 => ((spec_UserWord.f l1).bind fun bt380 => ((impl_AddWord.f k t377 bt380.1 bt380.2.1 bt380.2.2).bind fun bt384 => ((spec_AddWord.f k t377 bt380.1 bt380.2.1 bt380.2.2).bind fun bt389 => (if bt384.2.2 = bt389.2.2 then ((laws_sameWords.f k bt384.1 bt389.1).bind fun t394 => (if t394 = true then ((impl_DictOK.f k t377).bind fun t395 => (if t395 = true then ((impl_KernelSame.f k t377).bind fun t396 => (if t396 = true then ((impl_KernelWords.f k).bind fun t397 => ((spec_KernelWords.f k).bind fun t400 => ((laws_sameWords.f k t397 t400).bind fun t403 => (if t403 = true then (if bt389.2.2 = 0 then ((impl_FindWord.f k bt384.1 bt380.1).bind fun bt404 => ((impl_UpperOf.f bt380.1).bind fun t406 => ((impl_FindWord.f k bt384.1 t406).bind fun bt407 => ((impl_FindWord.f k bt384.1 (⟨#[40, 76, 73, 84, 41]⟩ : ByteArray)).bind fun bt409 => (laws_FnDict.l0 k t377 bt384.1 bt384.2.1 bt389.1 bt404.1 bt404.2 bt407.1 bt407.2 bt409.2 1))))) else (some (bt389.2.2 == 7))) else (some false))))) else (some false))) else (some false))) else (some false))) else (some false)))))))
theorem laws_FnDict.mono_l : ∀ k, (∀ y0 y1 y2 y3 y4 y5 y6 y7 y8 y9, LeO (laws_FnDict.l0 k y0 y1 y2 y3 y4 y5 y6 y7 y8 y9) (laws_FnDict.l0 (k + 1) y0 y1 y2 y3 y4 y5 y6 y7 y8 y9))
  | 0 => fun _ _ _ _ _ _ _ _ _ _ r h => by simp [laws_FnDict.l0] at h
  | k + 1 => by
    have ih0 := laws_FnDict.mono_l k
    · intro y0 y1 y2 y3 y4 y5 y6 y7 y8 y9
      unfold laws_FnDict.l0
      repeat' first
      | (with_reducible exact ih0 _ _ _ _ _ _ _ _ _ _)
      | (with_reducible exact impl_AddWord.mono _ _ _ _ _)
      | (with_reducible exact impl_DictOK.mono _ _)
      | (with_reducible exact impl_FindWord.mono _ _ _)
      | (with_reducible exact impl_KernelSame.mono _ _)
      | (with_reducible exact impl_KernelWords.mono _)
      | (with_reducible exact impl_TokenOK.mono _ _ _)
      | (with_reducible exact laws_sameWords.mono _ _ _)
      | (with_reducible exact spec_AddWord.mono _ _ _ _ _)
      | (with_reducible exact spec_KernelWords.mono _)
      | (with_reducible exact spec_TokenOK.mono _ _ _)
      | (with_reducible exact spec_WordsDrawn.mono _ _)
      | (with_reducible exact LeO.refl _)
      | (with_reducible exact LeO.none _)
      | (with_reducible refine LeO.ite ?_ ?_)
      | (with_reducible refine LeO.bind ?_ (fun _ => ?_))
      | exact ih0 _ _ _ _ _ _ _ _ _ _
      | exact impl_AddWord.mono _ _ _ _ _
      | exact impl_DictOK.mono _ _
      | exact impl_FindWord.mono _ _ _
      | exact impl_KernelSame.mono _ _
      | exact impl_KernelWords.mono _
      | exact impl_TokenOK.mono _ _ _
      | exact laws_sameWords.mono _ _ _
      | exact spec_AddWord.mono _ _ _ _ _
      | exact spec_KernelWords.mono _
      | exact spec_TokenOK.mono _ _ _
      | exact spec_WordsDrawn.mono _ _
      | exact LeO.none _
      | refine LeO.ite ?_ ?_
      | refine LeO.bind ?_ (fun _ => ?_)
theorem laws_FnDict.mono : ∀ a0 a1 k, LeO (laws_FnDict.f k a0 a1) (laws_FnDict.f (k + 1) a0 a1) := by
  intro a0 a1 k
  have ih0 := laws_FnDict.mono_l k
  unfold laws_FnDict.f
  repeat' first
      | (with_reducible exact ih0 _ _ _ _ _ _ _ _ _ _)
      | (with_reducible exact impl_AddWord.mono _ _ _ _ _)
      | (with_reducible exact impl_DictOK.mono _ _)
      | (with_reducible exact impl_FindWord.mono _ _ _)
      | (with_reducible exact impl_KernelSame.mono _ _)
      | (with_reducible exact impl_KernelWords.mono _)
      | (with_reducible exact impl_TokenOK.mono _ _ _)
      | (with_reducible exact laws_sameWords.mono _ _ _)
      | (with_reducible exact spec_AddWord.mono _ _ _ _ _)
      | (with_reducible exact spec_KernelWords.mono _)
      | (with_reducible exact spec_TokenOK.mono _ _ _)
      | (with_reducible exact spec_WordsDrawn.mono _ _)
      | (with_reducible exact LeO.refl _)
      | (with_reducible exact LeO.none _)
      | (with_reducible refine LeO.ite ?_ ?_)
      | (with_reducible refine LeO.bind ?_ (fun _ => ?_))
      | exact ih0 _ _ _ _ _ _ _ _ _ _
      | exact impl_AddWord.mono _ _ _ _ _
      | exact impl_DictOK.mono _ _
      | exact impl_FindWord.mono _ _ _
      | exact impl_KernelSame.mono _ _
      | exact impl_KernelWords.mono _
      | exact impl_TokenOK.mono _ _ _
      | exact laws_sameWords.mono _ _ _
      | exact spec_AddWord.mono _ _ _ _ _
      | exact spec_KernelWords.mono _
      | exact spec_TokenOK.mono _ _ _
      | exact spec_WordsDrawn.mono _ _
      | exact LeO.none _
      | refine LeO.ite ?_ ?_
      | refine LeO.bind ?_ (fun _ => ?_)
def laws_FnDict.T17 : Bool × List (List Nat × List Nat) := (true, [([], []), ([], []), ([0, 1], [0, 1]), ([], []), ([], []), ([3, 4, 2], [3, 4]), ([2, 5], [2, 5]), ([6, 5], [6]), ([7], [7]), ([7], [7]), ([9, 7], [7, 9]), ([8, 10, 7], [7, 8, 10]), ([11, 7, 7], [7, 11]), ([12], [12]), ([12], [12]), ([14, 12], [12, 14]), ([13, 15, 12], [12, 13, 15]), ([16, 12], [12, 16]), ([12], [12]), ([12], [12]), ([19, 12], [12, 19]), ([18, 20, 12], [12, 18, 20]), ([21, 12], [12, 21]), ([17, 22, 12], [12, 17, 22]), ([12, 23, 7], [7, 12, 23]), ([7, 24], [7, 24])])
def laws_FnDict.B17 : List Nat := [0, 0, 3, 0, 0, 31, 63, 127, 255, 255, 767, 2047, 4095, 8191, 8191, 24575, 65535, 131071, 8191, 8191, 532479, 1843199, 3940351, 8388607, 16777215, 33554431]
theorem laws_FnDict.tab17 : rtab .any (opsOf Tryd.f9 17) = laws_FnDict.T17 := by kernel_rfl
theorem laws_FnDict.bits17 : waitsOk laws_FnDict.T17.2 laws_FnDict.B17 = true := by kernel_rfl
set_option maxHeartbeats 8000000 in
set_option maxRecDepth 100000 in
theorem laws_FnDict.calls (k : Nat) (A0 : Option Addr) (c0 : Nat) (l0 : List Int) (A1 : Option Addr) (c1 : Nat) (l1 : List Int) (w : World) (hr0 : Kd.C (Kd.int .u8) w A0 l0.length l0) (hc0 : l0.length ≤ c0) (hr1 : Kd.C (Kd.int .u8) w A1 l1.length l1) (hc1 : l1.length ≤ c1) (h : laws_FnDict.f k l0 l1 = some true) (hG : GlobOK w := by first | exact HGL.out | exact GlobOK.below HGL.out HB.out | exact GlobOK.below HGL.out (by repeat (first | (with_reducible first | exact HB.out | apply below_alloc | apply pw_below_drewN | apply below_drew1) | exact HB.out)) | (repeat (first | exact HGL.out | apply GlobOK.drewN | apply GlobOK.drew | apply GlobOK.alloc))) :
    Calls Tryd.prog 9 #[.slice A0 l0.length c0, .slice A1 l1.length c1] w fun e w' => e = .returned (.bool true) ∧ Below w.heap.size w w' := by
  have HGL := Aside0.mk hG
  clear hG
  have hu39 := Tryd.underlying39
  have HR0 := Aside0.mk hr0
  have HC0 := Aside0.mk hc0
  clear hr0 hc0
  have HR1 := Aside0.mk hr1
  have HC1 := Aside0.mk hc1
  clear hr1 hc1
  have HB := Aside0.mk (Below.refl w.heap.size w)
  have H : (if (l0.length : Int) > 1048576 then (some true) else (if (l1.length : Int) > 1048576 then (some true) else ((spec_WordsDrawn.f k l0).bind fun t377 => ((spec_UserWord.f l1).bind fun bt380 => ((impl_AddWord.f k t377 bt380.1 bt380.2.1 bt380.2.2).bind fun bt384 => ((spec_AddWord.f k t377 bt380.1 bt380.2.1 bt380.2.2).bind fun bt389 => (if bt384.2.2 = bt389.2.2 then ((laws_sameWords.f k bt384.1 bt389.1).bind fun t394 => (if t394 = true then ((impl_DictOK.f k t377).bind fun t395 => (if t395 = true then ((impl_KernelSame.f k t377).bind fun t396 => (if t396 = true then ((impl_KernelWords.f k).bind fun t397 => ((spec_KernelWords.f k).bind fun t400 => ((laws_sameWords.f k t397 t400).bind fun t403 => (if t403 = true then (if bt389.2.2 = 0 then ((impl_FindWord.f k bt384.1 bt380.1).bind fun bt404 => ((impl_UpperOf.f bt380.1).bind fun t406 => ((impl_FindWord.f k bt384.1 t406).bind fun bt407 => ((impl_FindWord.f k bt384.1 (⟨#[40, 76, 73, 84, 41]⟩ : ByteArray)).bind fun bt409 => (laws_FnDict.l0 k t377 bt384.1 bt384.2.1 bt389.1 bt404.1 bt404.2 bt407.1 bt407.2 bt409.2 1))))) else (some (bt389.2.2 == 7))) else (some false))))) else (some false))) else (some false))) else (some false))) else (some false)))))))) = some true := h
  clear h
  by_cases c3 : (l0.length : Int) > 1048576
  · rw [if_pos c3] at H
    have c3b0 : decide (1048576 < (l0.length : Int)) = true := decide_eq_true c3
    have c3b1 : decide (1048576 < l0.length) = true := decide_eq_true (by omega)
    clear c3
    clear H
    go_enter Tryd.func9, Tryd.ntmps9
    go_wp2
    all_goals go_ret
    exact ⟨by first | rfl | (simp [errW_none, errW_some] <;> rfl) | (simp [*, errW_none, errW_some] <;> rfl), by repeat (first | (with_reducible first | exact HB.out | apply below_alloc | apply pw_below_drewN | apply below_drew1) | exact HB.out)⟩
    all_goals (exfalso; simp only [beq_iff_eq, decide_eq_decide, decide_eq_true_eq, decide_eq_false_iff_not] at *; omega)
  · rw [if_neg c3] at H
    have c3b0 : decide (1048576 < (l0.length : Int)) = false := decide_eq_false c3
    have c3b1 : decide (1048576 < l0.length) = false := decide_eq_false (by omega)
    clear c3
    by_cases c4 : (l1.length : Int) > 1048576
    · rw [if_pos c4] at H
      have c4b0 : decide (1048576 < (l1.length : Int)) = true := decide_eq_true c4
      have c4b1 : decide (1048576 < l1.length) = true := decide_eq_true (by omega)
      clear c4
      clear H
      go_enter Tryd.func9, Tryd.ntmps9
      go_wp2
      all_goals go_ret
      exact ⟨by first | rfl | (simp [errW_none, errW_some] <;> rfl) | (simp [*, errW_none, errW_some] <;> rfl), by repeat (first | (with_reducible first | exact HB.out | apply below_alloc | apply pw_below_drewN | apply below_drew1) | exact HB.out)⟩
      all_goals (exfalso; simp only [beq_iff_eq, decide_eq_decide, decide_eq_true_eq, decide_eq_false_iff_not] at *; omega)
    · rw [if_neg c4] at H
      have c4b0 : decide (1048576 < (l1.length : Int)) = false := decide_eq_false c4
      have c4b1 : decide (1048576 < l1.length) = false := decide_eq_false (by omega)
      clear c4
      replace H := Option.bind_eq_some_iff.mp H
      obtain ⟨t377, A50, H⟩ := H
      replace H : ((spec_UserWord.f l1).bind fun bt380 => ((impl_AddWord.f k t377 bt380.1 bt380.2.1 bt380.2.2).bind fun bt384 => ((spec_AddWord.f k t377 bt380.1 bt380.2.1 bt380.2.2).bind fun bt389 => (if bt384.2.2 = bt389.2.2 then ((laws_sameWords.f k bt384.1 bt389.1).bind fun t394 => (if t394 = true then ((impl_DictOK.f k t377).bind fun t395 => (if t395 = true then ((impl_KernelSame.f k t377).bind fun t396 => (if t396 = true then ((impl_KernelWords.f k).bind fun t397 => ((spec_KernelWords.f k).bind fun t400 => ((laws_sameWords.f k t397 t400).bind fun t403 => (if t403 = true then (if bt389.2.2 = 0 then ((impl_FindWord.f k bt384.1 bt380.1).bind fun bt404 => ((impl_UpperOf.f bt380.1).bind fun t406 => ((impl_FindWord.f k bt384.1 t406).bind fun bt407 => ((impl_FindWord.f k bt384.1 (⟨#[40, 76, 73, 84, 41]⟩ : ByteArray)).bind fun bt409 => (laws_FnDict.l0 k t377 bt384.1 bt384.2.1 bt389.1 bt404.1 bt404.2 bt407.1 bt407.2 bt409.2 1))))) else (some (bt389.2.2 == 7))) else (some false))))) else (some false))) else (some false))) else (some false))) else (some false))))) = some true := H
      have A5 := Aside0.mk A50
      clear A50
      replace H := Option.bind_eq_some_iff.mp H
      obtain ⟨⟨t380, t381, t382⟩, A60, H⟩ := H
      replace H : ((impl_AddWord.f k t377 t380 t381 t382).bind fun bt384 => ((spec_AddWord.f k t377 t380 t381 t382).bind fun bt389 => (if bt384.2.2 = bt389.2.2 then ((laws_sameWords.f k bt384.1 bt389.1).bind fun t394 => (if t394 = true then ((impl_DictOK.f k t377).bind fun t395 => (if t395 = true then ((impl_KernelSame.f k t377).bind fun t396 => (if t396 = true then ((impl_KernelWords.f k).bind fun t397 => ((spec_KernelWords.f k).bind fun t400 => ((laws_sameWords.f k t397 t400).bind fun t403 => (if t403 = true then (if bt389.2.2 = 0 then ((impl_FindWord.f k bt384.1 t380).bind fun bt404 => ((impl_UpperOf.f t380).bind fun t406 => ((impl_FindWord.f k bt384.1 t406).bind fun bt407 => ((impl_FindWord.f k bt384.1 (⟨#[40, 76, 73, 84, 41]⟩ : ByteArray)).bind fun bt409 => (laws_FnDict.l0 k t377 bt384.1 bt384.2.1 bt389.1 bt404.1 bt404.2 bt407.1 bt407.2 bt409.2 1))))) else (some (bt389.2.2 == 7))) else (some false))))) else (some false))) else (some false))) else (some false))) else (some false)))) = some true := H
      have A6 := Aside0.mk A60
      clear A60
      replace H := Option.bind_eq_some_iff.mp H
      obtain ⟨⟨t384, t387, t388⟩, A70, H⟩ := H
      replace H : ((spec_AddWord.f k t377 t380 t381 t382).bind fun bt389 => (if t388 = bt389.2.2 then ((laws_sameWords.f k t384 bt389.1).bind fun t394 => (if t394 = true then ((impl_DictOK.f k t377).bind fun t395 => (if t395 = true then ((impl_KernelSame.f k t377).bind fun t396 => (if t396 = true then ((impl_KernelWords.f k).bind fun t397 => ((spec_KernelWords.f k).bind fun t400 => ((laws_sameWords.f k t397 t400).bind fun t403 => (if t403 = true then (if bt389.2.2 = 0 then ((impl_FindWord.f k t384 t380).bind fun bt404 => ((impl_UpperOf.f t380).bind fun t406 => ((impl_FindWord.f k t384 t406).bind fun bt407 => ((impl_FindWord.f k t384 (⟨#[40, 76, 73, 84, 41]⟩ : ByteArray)).bind fun bt409 => (laws_FnDict.l0 k t377 t384 t387 bt389.1 bt404.1 bt404.2 bt407.1 bt407.2 bt409.2 1))))) else (some (bt389.2.2 == 7))) else (some false))))) else (some false))) else (some false))) else (some false))) else (some false))) = some true := H
      have A7 := Aside0.mk A70
      clear A70
      replace H := Option.bind_eq_some_iff.mp H
      obtain ⟨⟨t389, t392, t393⟩, A80, H⟩ := H
      replace H : (if t388 = t393 then ((laws_sameWords.f k t384 t389).bind fun t394 => (if t394 = true then ((impl_DictOK.f k t377).bind fun t395 => (if t395 = true then ((impl_KernelSame.f k t377).bind fun t396 => (if t396 = true then ((impl_KernelWords.f k).bind fun t397 => ((spec_KernelWords.f k).bind fun t400 => ((laws_sameWords.f k t397 t400).bind fun t403 => (if t403 = true then (if t393 = 0 then ((impl_FindWord.f k t384 t380).bind fun bt404 => ((impl_UpperOf.f t380).bind fun t406 => ((impl_FindWord.f k t384 t406).bind fun bt407 => ((impl_FindWord.f k t384 (⟨#[40, 76, 73, 84, 41]⟩ : ByteArray)).bind fun bt409 => (laws_FnDict.l0 k t377 t384 t387 t389 bt404.1 bt404.2 bt407.1 bt407.2 bt409.2 1))))) else (some (t393 == 7))) else (some false))))) else (some false))) else (some false))) else (some false))) else (some false)) = some true := H
      have A8 := Aside0.mk A80
      clear A80
      by_cases c9 : t388 = t393
      · rw [if_pos c9] at H
        have c9b0 : (t388 == t393) = true := beq_iff_eq.mpr c9
        have c9b1 : (t388 != t393) = false := bne_eq_false_iff_eq.mpr c9
        clear c9
        replace H := Option.bind_eq_some_iff.mp H
        obtain ⟨t394, A100, H⟩ := H
        replace H : (if t394 = true then ((impl_DictOK.f k t377).bind fun t395 => (if t395 = true then ((impl_KernelSame.f k t377).bind fun t396 => (if t396 = true then ((impl_KernelWords.f k).bind fun t397 => ((spec_KernelWords.f k).bind fun t400 => ((laws_sameWords.f k t397 t400).bind fun t403 => (if t403 = true then (if t393 = 0 then ((impl_FindWord.f k t384 t380).bind fun bt404 => ((impl_UpperOf.f t380).bind fun t406 => ((impl_FindWord.f k t384 t406).bind fun bt407 => ((impl_FindWord.f k t384 (⟨#[40, 76, 73, 84, 41]⟩ : ByteArray)).bind fun bt409 => (laws_FnDict.l0 k t377 t384 t387 t389 bt404.1 bt404.2 bt407.1 bt407.2 bt409.2 1))))) else (some (t393 == 7))) else (some false))))) else (some false))) else (some false))) else (some false)) = some true := H
        have A10 := Aside0.mk A100
        clear A100
        by_cases c11 : t394 = true
        · subst c11
          have H1 : ((impl_DictOK.f k t377).bind fun t395 => (if t395 = true then ((impl_KernelSame.f k t377).bind fun t396 => (if t396 = true then ((impl_KernelWords.f k).bind fun t397 => ((spec_KernelWords.f k).bind fun t400 => ((laws_sameWords.f k t397 t400).bind fun t403 => (if t403 = true then (if t393 = 0 then ((impl_FindWord.f k t384 t380).bind fun bt404 => ((impl_UpperOf.f t380).bind fun t406 => ((impl_FindWord.f k t384 t406).bind fun bt407 => ((impl_FindWord.f k t384 (⟨#[40, 76, 73, 84, 41]⟩ : ByteArray)).bind fun bt409 => (laws_FnDict.l0 k t377 t384 t387 t389 bt404.1 bt404.2 bt407.1 bt407.2 bt409.2 1))))) else (some (t393 == 7))) else (some false))))) else (some false))) else (some false))) = some true := by rw [if_pos rfl] at H; first | done | exact H
          clear H
          have H := H1
          clear H1
          replace H := Option.bind_eq_some_iff.mp H
          obtain ⟨t395, A120, H⟩ := H
          replace H : (if t395 = true then ((impl_KernelSame.f k t377).bind fun t396 => (if t396 = true then ((impl_KernelWords.f k).bind fun t397 => ((spec_KernelWords.f k).bind fun t400 => ((laws_sameWords.f k t397 t400).bind fun t403 => (if t403 = true then (if t393 = 0 then ((impl_FindWord.f k t384 t380).bind fun bt404 => ((impl_UpperOf.f t380).bind fun t406 => ((impl_FindWord.f k t384 t406).bind fun bt407 => ((impl_FindWord.f k t384 (⟨#[40, 76, 73, 84, 41]⟩ : ByteArray)).bind fun bt409 => (laws_FnDict.l0 k t377 t384 t387 t389 bt404.1 bt404.2 bt407.1 bt407.2 bt409.2 1))))) else (some (t393 == 7))) else (some false))))) else (some false))) else (some false)) = some true := H
          have A12 := Aside0.mk A120
          clear A120
          by_cases c13 : t395 = true
          · subst c13
            have H1 : ((impl_KernelSame.f k t377).bind fun t396 => (if t396 = true then ((impl_KernelWords.f k).bind fun t397 => ((spec_KernelWords.f k).bind fun t400 => ((laws_sameWords.f k t397 t400).bind fun t403 => (if t403 = true then (if t393 = 0 then ((impl_FindWord.f k t384 t380).bind fun bt404 => ((impl_UpperOf.f t380).bind fun t406 => ((impl_FindWord.f k t384 t406).bind fun bt407 => ((impl_FindWord.f k t384 (⟨#[40, 76, 73, 84, 41]⟩ : ByteArray)).bind fun bt409 => (laws_FnDict.l0 k t377 t384 t387 t389 bt404.1 bt404.2 bt407.1 bt407.2 bt409.2 1))))) else (some (t393 == 7))) else (some false))))) else (some false))) = some true := by rw [if_pos rfl] at H; first | done | exact H
            clear H
            have H := H1
            clear H1
            replace H := Option.bind_eq_some_iff.mp H
            obtain ⟨t396, A140, H⟩ := H
            replace H : (if t396 = true then ((impl_KernelWords.f k).bind fun t397 => ((spec_KernelWords.f k).bind fun t400 => ((laws_sameWords.f k t397 t400).bind fun t403 => (if t403 = true then (if t393 = 0 then ((impl_FindWord.f k t384 t380).bind fun bt404 => ((impl_UpperOf.f t380).bind fun t406 => ((impl_FindWord.f k t384 t406).bind fun bt407 => ((impl_FindWord.f k t384 (⟨#[40, 76, 73, 84, 41]⟩ : ByteArray)).bind fun bt409 => (laws_FnDict.l0 k t377 t384 t387 t389 bt404.1 bt404.2 bt407.1 bt407.2 bt409.2 1))))) else (some (t393 == 7))) else (some false))))) else (some false)) = some true := H
            have A14 := Aside0.mk A140
            clear A140
            by_cases c15 : t396 = true
            · subst c15
              have H1 : ((impl_KernelWords.f k).bind fun t397 => ((spec_KernelWords.f k).bind fun t400 => ((laws_sameWords.f k t397 t400).bind fun t403 => (if t403 = true then (if t393 = 0 then ((impl_FindWord.f k t384 t380).bind fun bt404 => ((impl_UpperOf.f t380).bind fun t406 => ((impl_FindWord.f k t384 t406).bind fun bt407 => ((impl_FindWord.f k t384 (⟨#[40, 76, 73, 84, 41]⟩ : ByteArray)).bind fun bt409 => (laws_FnDict.l0 k t377 t384 t387 t389 bt404.1 bt404.2 bt407.1 bt407.2 bt409.2 1))))) else (some (t393 == 7))) else (some false))))) = some true := by rw [if_pos rfl] at H; first | done | exact H
              clear H
              have H := H1
              clear H1
              replace H := Option.bind_eq_some_iff.mp H
              obtain ⟨t397, A160, H⟩ := H
              replace H : ((spec_KernelWords.f k).bind fun t400 => ((laws_sameWords.f k t397 t400).bind fun t403 => (if t403 = true then (if t393 = 0 then ((impl_FindWord.f k t384 t380).bind fun bt404 => ((impl_UpperOf.f t380).bind fun t406 => ((impl_FindWord.f k t384 t406).bind fun bt407 => ((impl_FindWord.f k t384 (⟨#[40, 76, 73, 84, 41]⟩ : ByteArray)).bind fun bt409 => (laws_FnDict.l0 k t377 t384 t387 t389 bt404.1 bt404.2 bt407.1 bt407.2 bt409.2 1))))) else (some (t393 == 7))) else (some false)))) = some true := H
              have A16 := Aside0.mk A160
              clear A160
              replace H := Option.bind_eq_some_iff.mp H
              obtain ⟨t400, A170, H⟩ := H
              replace H : ((laws_sameWords.f k t397 t400).bind fun t403 => (if t403 = true then (if t393 = 0 then ((impl_FindWord.f k t384 t380).bind fun bt404 => ((impl_UpperOf.f t380).bind fun t406 => ((impl_FindWord.f k t384 t406).bind fun bt407 => ((impl_FindWord.f k t384 (⟨#[40, 76, 73, 84, 41]⟩ : ByteArray)).bind fun bt409 => (laws_FnDict.l0 k t377 t384 t387 t389 bt404.1 bt404.2 bt407.1 bt407.2 bt409.2 1))))) else (some (t393 == 7))) else (some false))) = some true := H
              have A17 := Aside0.mk A170
              clear A170
              replace H := Option.bind_eq_some_iff.mp H
              obtain ⟨t403, A180, H⟩ := H
              replace H : (if t403 = true then (if t393 = 0 then ((impl_FindWord.f k t384 t380).bind fun bt404 => ((impl_UpperOf.f t380).bind fun t406 => ((impl_FindWord.f k t384 t406).bind fun bt407 => ((impl_FindWord.f k t384 (⟨#[40, 76, 73, 84, 41]⟩ : ByteArray)).bind fun bt409 => (laws_FnDict.l0 k t377 t384 t387 t389 bt404.1 bt404.2 bt407.1 bt407.2 bt409.2 1))))) else (some (t393 == 7))) else (some false)) = some true := H
              have A18 := Aside0.mk A180
              clear A180
              by_cases c19 : t403 = true
              · subst c19
                have H1 : (if t393 = 0 then ((impl_FindWord.f k t384 t380).bind fun bt404 => ((impl_UpperOf.f t380).bind fun t406 => ((impl_FindWord.f k t384 t406).bind fun bt407 => ((impl_FindWord.f k t384 (⟨#[40, 76, 73, 84, 41]⟩ : ByteArray)).bind fun bt409 => (laws_FnDict.l0 k t377 t384 t387 t389 bt404.1 bt404.2 bt407.1 bt407.2 bt409.2 1))))) else (some (t393 == 7))) = some true := by rw [if_pos rfl] at H; first | done | exact H
                clear H
                have H := H1
                clear H1
                by_cases c20 : t393 = 0
                · rw [if_pos c20] at H
                  have c20b0 : (t393 == 0) = true := beq_iff_eq.mpr c20
                  have c20b1 : (t393 != 0) = false := bne_eq_false_iff_eq.mpr c20
                  clear c20
                  replace H := Option.bind_eq_some_iff.mp H
                  obtain ⟨⟨t404, t405⟩, A210, H⟩ := H
                  replace H : ((impl_UpperOf.f t380).bind fun t406 => ((impl_FindWord.f k t384 t406).bind fun bt407 => ((impl_FindWord.f k t384 (⟨#[40, 76, 73, 84, 41]⟩ : ByteArray)).bind fun bt409 => (laws_FnDict.l0 k t377 t384 t387 t389 t404 t405 bt407.1 bt407.2 bt409.2 1)))) = some true := H
                  have A21 := Aside0.mk A210
                  clear A210
                  replace H := Option.bind_eq_some_iff.mp H
                  obtain ⟨t406, A220, H⟩ := H
                  replace H : ((impl_FindWord.f k t384 t406).bind fun bt407 => ((impl_FindWord.f k t384 (⟨#[40, 76, 73, 84, 41]⟩ : ByteArray)).bind fun bt409 => (laws_FnDict.l0 k t377 t384 t387 t389 t404 t405 bt407.1 bt407.2 bt409.2 1))) = some true := H
                  have A22 := Aside0.mk A220
                  clear A220
                  replace H := Option.bind_eq_some_iff.mp H
                  obtain ⟨⟨t407, t408⟩, A230, H⟩ := H
                  replace H : ((impl_FindWord.f k t384 (⟨#[40, 76, 73, 84, 41]⟩ : ByteArray)).bind fun bt409 => (laws_FnDict.l0 k t377 t384 t387 t389 t404 t405 t407 t408 bt409.2 1)) = some true := H
                  have A23 := Aside0.mk A230
                  clear A230
                  replace H := Option.bind_eq_some_iff.mp H
                  obtain ⟨⟨t409, t410⟩, A240, H⟩ := H
                  replace H : (laws_FnDict.l0 k t377 t384 t387 t389 t404 t405 t407 t408 t410 1) = some true := H
                  have A24 := Aside0.mk A240
                  clear A240
                  have H' := Aside0.mk H
                  clear H
                  go_enter Tryd.func9, Tryd.ntmps9
                  go_wp2_with (first | ((with_reducible refine gate_callee (f := 31) rfl ?_); refine goesL_ (some 29) rfl rfl Tryd.func31 (by kernel_rfl) rfl #[.slice A0 l0.length c0] rfl (by (try simp only [List.map_toArray, List.map_cons, List.map_nil]); first | done | rfl | (simp only [List.length_drop, List.length_take]; rfl)) ?_; (with_reducible refine (spec_WordsDrawn.calls k _ _ l0 t377 _ ?side1 ?side2 A5.out).mono ?_); (case side1 => repeat (first | exact HR0.out | (with_reducible refine Kd.C_alloc ?_ _) | (with_reducible refine Kd.C_drewN ?_ _) | (with_reducible refine Kd.C_drew ?_))); (case side2 => exact HC0.out); rintro e w25 ⟨v378, rfl, ho0, hb⟩; refine ⟨_, rfl, ?_⟩; have HO379 := Aside0.mk (Kd.R_lower ho0 (below_size (by repeat (first | (with_reducible first | exact HB.out | apply below_alloc | apply pw_below_drewN | apply below_drew1) | exact HB.out)))); replace HB := Aside0.mk (below_step (by repeat (first | (with_reducible first | exact HB.out | apply below_alloc | apply pw_below_drewN | apply below_drew1) | exact HB.out)) hb); (try clear hb); (try clear hb2); (try clear hk); (try clear hi); (try clear ho0)) | ((with_reducible refine gate_callee (f := 32) rfl ?_); refine goesL_ (some 31) rfl rfl Tryd.func32 (by kernel_rfl) rfl #[.slice A1 l1.length c1] rfl (by (try simp only [List.map_toArray, List.map_cons, List.map_nil]); first | done | rfl | (simp only [List.length_drop, List.length_take]; rfl)) ?_; (with_reducible refine (spec_UserWord.calls _ _ l1 t380 t381 t382 _ ?side1 ?side2 A6.out).mono ?_); (case side1 => repeat (first | exact (Kd.C_below HR1.out HB.out) | (with_reducible refine Kd.C_alloc ?_ _) | (with_reducible refine Kd.C_drewN ?_ _) | (with_reducible refine Kd.C_drew ?_))); (case side2 => exact HC1.out); rintro e w26 ⟨rfl, hb⟩; refine ⟨_, rfl, ?_⟩; replace HO379 := Aside0.mk (Kd.R_below (by (with_reducible repeat (first | apply Kd.R_alloc | apply Kd.R_drewN | apply Kd.R_drew)); exact HO379.out) hb); replace HB := Aside0.mk (below_step (by repeat (first | (with_reducible first | exact HB.out | apply below_alloc | apply pw_below_drewN | apply below_drew1) | exact HB.out)) hb); (try clear hb); (try clear hb2); (try clear hk); (try clear hi)) | ((with_reducible refine gate_dst (N := 6) rfl ?_); (try (refine gate_guard (by rfl) ?_; dsimp only)); refine box_event ?hg (N := 6) ?hd (cs := #[.string (⟨#[]⟩ : ByteArray), .int .i64 0, .int .i64 0]) (t := 39) ?hr ?_; (case hd => rfl); (case hg => rfl); (case hr => first | (go_simp; done) | (go_simp; rfl)); intro gb383 hg w27 hbox hb; have n0_ := Aside0.mk (Kd.R_below (Kd.R_elderB (by (with_reducible repeat (first | apply Kd.R_alloc | apply Kd.R_drewN | apply Kd.R_drew)); exact HO379.out) gb383 (Nat.le_of_eq hg.symm)) hb); have n1_ := Aside0.mk (below_step (by repeat (first | (with_reducible first | exact HB.out | apply below_alloc | apply pw_below_drewN | apply below_drew1) | exact HB.out)) hb); have n2_ := Aside0.mk (hbox); have n3_ := Aside0.mk ((by rw [hg]; exact (below_size (by repeat (first | (with_reducible first | exact HB.out | apply below_alloc | apply pw_below_drewN | apply below_drew1) | exact HB.out))) : w.heap.size ≤ gb383)); have n4_ := Aside0.mk ((by rw [hg]; exact (below_size (by repeat (first | (with_reducible first | exact HB.out | apply below_alloc | apply pw_below_drewN | apply below_drew1) | exact HB.out))) : w.heap.size ≤ gb383)); clear HO379; clear HB; have HO379 := n0_; have HB := n1_; have BK383 := n2_; have GW383 := n3_; have GE383 := n4_; clear n0_ n1_ n2_ n3_ n4_; clear hb hbox hg; have hcz28_0 : w27.cell? ⟨gb383, 0, none⟩ = some (.string (⟨#[]⟩ : ByteArray)) := (blk_cell BK383.out 0).trans rfl; have hcz28_1 : w27.cell? ⟨gb383, 1, none⟩ = some (.int .i64 0) := (blk_cell BK383.out 1).trans rfl; have hcz28_2 : w27.cell? ⟨gb383, 2, none⟩ = some (.int .i64 0) := (blk_cell BK383.out 2).trans rfl; have hfz28_0 := blk_frozen BK383.out 0; have hfz28_1 := blk_frozen BK383.out 1; have hfz28_2 := blk_frozen BK383.out 2) | ((with_reducible refine gate_store (t := 39) (p := 6) rfl ?_); refine store_event (t := 39) (p := 6) (v := ?vo_w29) (w1 := (((w27.setCell ⟨gb383, 0, none⟩ (.string t380)).setCell ⟨gb383, 1, none⟩ (.int .i64 t381)).setCell ⟨gb383, 2, none⟩ (.int .i64 t382))) ?hg ?ho ?hn ?hr ?_; (case ho => rfl); (case hg => rfl); (case hn => rfl); (case hr => first | (go_simp; done) | (go_simp; rfl)); intro w29 hw; have n0_ : Aside0 (Kd.R k39 39 w29 w.heap.size (fun k_ => k_ ≠ gb383) v378 t377) := ⟨(by rw [hw]; exact (by (with_reducible repeat (first | apply Kd.R_alloc | apply Kd.R_drewN | apply Kd.R_drew)); exact Kd.R_mono (Kd.R_far (p := ⟨gb383, 2, none⟩) (Kd.R_far (p := ⟨gb383, 1, none⟩) (Kd.R_far (p := ⟨gb383, 0, none⟩) (Kd.R_mono HO379.out (fun k_ hk => (⟨hk, hk.2⟩ : _ ∧ k_ ≠ gb383))) (fun _ hk => hk.2) (.string t380)) (fun _ hk => hk.2) (.int .i64 t381)) (fun _ hk => hk.2) (.int .i64 t382)) (fun _ hk => hk.1.2)))⟩; have n1_ : Aside0 (w29.heap[gb383]? = some (.cells #[.string t380, .int .i64 t381, .int .i64 t382] 39 (0, 0))) := ⟨(by rw [hw]; exact (by (with_reducible repeat (first | refine blk_drewN ?_ _ | refine blk_drew ?_ | refine blk_alloc ?_ _)); refine blk_put (cs := #[.string t380, .int .i64 t381, .int .i64 0]) ?_ 2 _ rfl; (with_reducible repeat (first | refine blk_drewN ?_ _ | refine blk_drew ?_ | refine blk_alloc ?_ _)); refine blk_put (cs := #[.string t380, .int .i64 0, .int .i64 0]) ?_ 1 _ rfl; (with_reducible repeat (first | refine blk_drewN ?_ _ | refine blk_drew ?_ | refine blk_alloc ?_ _)); refine blk_put (cs := #[.string (⟨#[]⟩ : ByteArray), .int .i64 0, .int .i64 0]) ?_ 0 _ rfl; (with_reducible repeat (first | refine blk_drewN ?_ _ | refine blk_drew ?_ | refine blk_alloc ?_ _)); exact BK383.out))⟩; have n2_ : Aside0 (Below w.heap.size w w29) := ⟨(by rw [hw]; exact (by repeat (first | (with_reducible first | exact HB.out | apply below_alloc | apply pw_below_drewN | apply below_drew1 | refine below_set ?_ GE383.out) | exact HB.out)))⟩; clear hw; clear HO379; clear BK383; clear HB; have HO379 := n0_; have BK383 := n1_; have HB := n2_; clear n0_ n1_ n2_; have hcz30_0 : w29.cell? ⟨gb383, 0, none⟩ = some (.string t380) := (blk_cell BK383.out 0).trans rfl; have hcz30_1 : w29.cell? ⟨gb383, 1, none⟩ = some (.int .i64 t381) := (blk_cell BK383.out 1).trans rfl; have hcz30_2 : w29.cell? ⟨gb383, 2, none⟩ = some (.int .i64 t382) := (blk_cell BK383.out 2).trans rfl; have hfz30_0 := blk_frozen BK383.out 0; have hfz30_1 := blk_frozen BK383.out 1; have hfz30_2 := blk_frozen BK383.out 2; obtain ⟨Ao31, co31, eo31⟩ := Kd.R_slice HO379.out; subst eo31) | ((with_reducible refine gate_callee (f := 28) rfl ?_); refine goesL_ (some 35) rfl rfl Tryd.func28 (by kernel_rfl) rfl #[.slice Ao31 t377.length co31, .agg #[.string t380, .int .i64 t381, .int .i64 t382]] rfl (by (try simp only [List.map_toArray, List.map_cons, List.map_nil]); first | done | rfl | (simp only [List.length_drop, List.length_take]; rfl)) ?_; (with_reducible refine (impl_AddWord.calls k (fun k_ => some k_ = (.slice Ao31 t377.length co31 : Value).ownBlock) _ _ t377 t380 t381 t382 t384 t387 t388 _ ?side1 A7.out).mono ?_); (case side1 => exact Kd.R_V (Kd.R_tight rfl (HO379.out))); rintro e w32 ⟨v385, rfl, ho0, hb⟩; refine ⟨_, rfl, ?_⟩; have n0_ := Aside0.mk (Kd.R_elder' (by (with_reducible repeat (first | apply Kd.R_alloc | apply Kd.R_drewN | apply Kd.R_drew)); exact HO379.out) (Kd.R_base ho0) hb); have n1_ := Aside0.mk (Kd.R_lower (Kd.R_newB (Kd.R_new' (Kd.R_mono (ok' := fun k_ => True) ho0 (fun _ hk_ => trivial)) (Kd.R_lt (by (with_reducible repeat (first | apply Kd.R_alloc | apply Kd.R_drewN | apply Kd.R_drew)); exact HO379.out))) (g := gb383) (o := .cells #[.string t380, .int .i64 t381, .int .i64 t382] 39 (0, 0)) (by (with_reducible repeat (first | refine blk_drewN ?_ _ | refine blk_drew ?_ | refine blk_alloc ?_ _)); exact BK383.out)) (below_size (by repeat (first | (with_reducible first | exact HB.out | apply below_alloc | apply pw_below_drewN | apply below_drew1 | refine below_set ?_ GE383.out) | exact HB.out)))); have n2_ := Aside0.mk (blk_below (g := gb383) (o := .cells #[.string t380, .int .i64 t381, .int .i64 t382] 39 (0, 0)) (by (with_reducible repeat (first | refine blk_drewN ?_ _ | refine blk_drew ?_ | refine blk_alloc ?_ _)); exact BK383.out) hb); have n3_ := Aside0.mk (below_step (by repeat (first | (with_reducible first | exact HB.out | apply below_alloc | apply pw_below_drewN | apply below_drew1 | refine below_set ?_ GE383.out) | exact HB.out)) hb); clear HO379; clear BK383; clear HB; have HO379 := n0_; have HO386 := n1_; have BK383 := n2_; have HB := n3_; clear n0_ n1_ n2_ n3_; (try clear hb); (try clear hb2); (try clear hk); (try clear hi); (try clear ho0); have hcz33_0 : w32.cell? ⟨gb383, 0, none⟩ = some (.string t380) := (blk_cell BK383.out 0).trans rfl; have hcz33_1 : w32.cell? ⟨gb383, 1, none⟩ = some (.int .i64 t381) := (blk_cell BK383.out 1).trans rfl; have hcz33_2 : w32.cell? ⟨gb383, 2, none⟩ = some (.int .i64 t382) := (blk_cell BK383.out 2).trans rfl; have hfz33_0 := blk_frozen BK383.out 0; have hfz33_1 := blk_frozen BK383.out 1; have hfz33_2 := blk_frozen BK383.out 2) | ((with_reducible refine gate_callee (f := 26) rfl ?_); refine goesL_ (some 42) rfl rfl Tryd.func26 (by kernel_rfl) rfl #[.slice Ao31 t377.length co31, .agg #[.string t380, .int .i64 t381, .int .i64 t382]] rfl (by (try simp only [List.map_toArray, List.map_cons, List.map_nil]); first | done | rfl | (simp only [List.length_drop, List.length_take]; rfl)) ?_; (with_reducible refine (spec_AddWord.calls k _ _ t377 t380 t381 t382 t389 t392 t393 _ ?side1 ?side2 A8.out).mono ?_); (case side1 => repeat (first | exact (Kd.R_reads' HO379.out).2.2 | (with_reducible refine Kd.C_alloc ?_ _) | (with_reducible refine Kd.C_drewN ?_ _) | (with_reducible refine Kd.C_drew ?_))); (case side2 => exact (Kd.R_reads' HO379.out).2.1); rintro e w34 ⟨v390, rfl, ho0, hb⟩; refine ⟨_, rfl, ?_⟩; have n0_ := Aside0.mk (Kd.R_elder' (by (with_reducible repeat (first | apply Kd.R_alloc | apply Kd.R_drewN | apply Kd.R_drew)); exact HO379.out) (Kd.R_base ho0) hb); have n1_ := Aside0.mk (Kd.R_elder' (by (with_reducible repeat (first | apply Kd.R_alloc | apply Kd.R_drewN | apply Kd.R_drew)); exact HO386.out) (Kd.R_base ho0) hb); have n2_ := Aside0.mk (Kd.R_lower (Kd.R_newB (Kd.R_new' (Kd.R_new' ho0 (Kd.R_lt (by (with_reducible repeat (first | apply Kd.R_alloc | apply Kd.R_drewN | apply Kd.R_drew)); exact HO379.out))) (Kd.R_lt (by (with_reducible repeat (first | apply Kd.R_alloc | apply Kd.R_drewN | apply Kd.R_drew)); exact HO386.out))) (g := gb383) (o := .cells #[.string t380, .int .i64 t381, .int .i64 t382] 39 (0, 0)) (by (with_reducible repeat (first | refine blk_drewN ?_ _ | refine blk_drew ?_ | refine blk_alloc ?_ _)); exact BK383.out)) (below_size (by repeat (first | (with_reducible first | exact HB.out | apply below_alloc | apply pw_below_drewN | apply below_drew1 | refine below_set ?_ GE383.out) | exact HB.out)))); have n3_ := Aside0.mk (blk_below (g := gb383) (o := .cells #[.string t380, .int .i64 t381, .int .i64 t382] 39 (0, 0)) (by (with_reducible repeat (first | refine blk_drewN ?_ _ | refine blk_drew ?_ | refine blk_alloc ?_ _)); exact BK383.out) hb); have n4_ := Aside0.mk (below_step (by repeat (first | (with_reducible first | exact HB.out | apply below_alloc | apply pw_below_drewN | apply below_drew1 | refine below_set ?_ GE383.out) | exact HB.out)) hb); clear HO379; clear HO386; clear BK383; clear HB; have HO379 := n0_; have HO386 := n1_; have HO391 := n2_; have BK383 := n3_; have HB := n4_; clear n0_ n1_ n2_ n3_ n4_; (try clear hb); (try clear hb2); (try clear hk); (try clear hi); (try clear ho0); obtain ⟨Ao35, co35, eo35⟩ := Kd.R_slice HO386.out; subst eo35; obtain ⟨Ao36, co36, eo36⟩ := Kd.R_slice HO391.out; subst eo36) | (go_at_call 33; (with_reducible refine (laws_sameWords.calls k _ _ t384 _ _ t389 true _ ?side1 ?side2 ?side3 ?side4 A10.out).mono ?_); (case side1 => repeat (first | exact (Kd.R_reads' HO386.out).2.2 | (with_reducible refine Kd.C_alloc ?_ _) | (with_reducible refine Kd.C_drewN ?_ _) | (with_reducible refine Kd.C_drew ?_))); (case side2 => exact (Kd.R_reads' HO386.out).2.1); (case side3 => repeat (first | exact (Kd.R_reads' HO391.out).2.2 | (with_reducible refine Kd.C_alloc ?_ _) | (with_reducible refine Kd.C_drewN ?_ _) | (with_reducible refine Kd.C_drew ?_))); (case side4 => exact (Kd.R_reads' HO391.out).2.1); rintro e w' ⟨rfl, ⟨nd, rfl⟩⟩) | (go_at_call 22; (with_reducible refine (impl_DictOK.calls k _ _ t377 true _ ?side1 ?side2 A12.out).mono ?_); (case side1 => repeat (first | exact (Kd.R_reads' HO379.out).2.2 | (with_reducible refine Kd.C_alloc ?_ _) | (with_reducible refine Kd.C_drewN ?_ _) | (with_reducible refine Kd.C_drew ?_))); (case side2 => exact (Kd.R_reads' HO379.out).2.1); rintro e w37 ⟨rfl, hb⟩; replace HO379 := Aside0.mk (Kd.R_below (by (with_reducible repeat (first | apply Kd.R_alloc | apply Kd.R_drewN | apply Kd.R_drew)); exact HO379.out) hb); replace HO386 := Aside0.mk (Kd.R_below (by (with_reducible repeat (first | apply Kd.R_alloc | apply Kd.R_drewN | apply Kd.R_drew)); exact HO386.out) hb); replace HO391 := Aside0.mk (Kd.R_below (by (with_reducible repeat (first | apply Kd.R_alloc | apply Kd.R_drewN | apply Kd.R_drew)); exact HO391.out) hb); replace BK383 := Aside0.mk (blk_below (g := gb383) (o := .cells #[.string t380, .int .i64 t381, .int .i64 t382] 39 (0, 0)) (by (with_reducible repeat (first | refine blk_drewN ?_ _ | refine blk_drew ?_ | refine blk_alloc ?_ _)); exact BK383.out) hb); replace HB := Aside0.mk (below_step (by repeat (first | (with_reducible first | exact HB.out | apply below_alloc | apply pw_below_drewN | apply below_drew1 | refine below_set ?_ GE383.out) | exact HB.out)) hb); (try clear hb); (try clear hb2); (try clear hk); (try clear hi)) | (go_at_call 20; (with_reducible refine (impl_KernelSame.calls k (fun k_ => some k_ = (.slice Ao31 t377.length co31 : Value).ownBlock) _ _ t377 true _ ?side1 A14.out).mono ?_); (case side1 => exact Kd.R_V (Kd.R_tight rfl (HO379.out))); rintro e w38 ⟨rfl, hb⟩; replace HO379 := Aside0.mk (Kd.R_below (by (with_reducible repeat (first | apply Kd.R_alloc | apply Kd.R_drewN | apply Kd.R_drew)); exact HO379.out) hb); replace HO386 := Aside0.mk (Kd.R_below (by (with_reducible repeat (first | apply Kd.R_alloc | apply Kd.R_drewN | apply Kd.R_drew)); exact HO386.out) hb); replace HO391 := Aside0.mk (Kd.R_below (by (with_reducible repeat (first | apply Kd.R_alloc | apply Kd.R_drewN | apply Kd.R_drew)); exact HO391.out) hb); replace BK383 := Aside0.mk (blk_below (g := gb383) (o := .cells #[.string t380, .int .i64 t381, .int .i64 t382] 39 (0, 0)) (by (with_reducible repeat (first | refine blk_drewN ?_ _ | refine blk_drew ?_ | refine blk_alloc ?_ _)); exact BK383.out) hb); replace HB := Aside0.mk (below_step (by repeat (first | (with_reducible first | exact HB.out | apply below_alloc | apply pw_below_drewN | apply below_drew1 | refine below_set ?_ GE383.out) | exact HB.out)) hb); (try clear hb); (try clear hb2); (try clear hk); (try clear hi)) | (go_at_call 13; (with_reducible refine (impl_KernelWords.calls k  t397 _ A16.out).mono ?_); rintro e w39 ⟨v398, rfl, ho0, hb⟩; have n0_ := Aside0.mk (Kd.R_elder' (by (with_reducible repeat (first | apply Kd.R_alloc | apply Kd.R_drewN | apply Kd.R_drew)); exact HO379.out) (Kd.R_base ho0) hb); have n1_ := Aside0.mk (Kd.R_elder' (by (with_reducible repeat (first | apply Kd.R_alloc | apply Kd.R_drewN | apply Kd.R_drew)); exact HO386.out) (Kd.R_base ho0) hb); have n2_ := Aside0.mk (Kd.R_elder' (by (with_reducible repeat (first | apply Kd.R_alloc | apply Kd.R_drewN | apply Kd.R_drew)); exact HO391.out) (Kd.R_base ho0) hb); have n3_ := Aside0.mk (Kd.R_lower (Kd.R_newB (Kd.R_new' (Kd.R_new' (Kd.R_new' ho0 (Kd.R_lt (by (with_reducible repeat (first | apply Kd.R_alloc | apply Kd.R_drewN | apply Kd.R_drew)); exact HO379.out))) (Kd.R_lt (by (with_reducible repeat (first | apply Kd.R_alloc | apply Kd.R_drewN | apply Kd.R_drew)); exact HO386.out))) (Kd.R_lt (by (with_reducible repeat (first | apply Kd.R_alloc | apply Kd.R_drewN | apply Kd.R_drew)); exact HO391.out))) (g := gb383) (o := .cells #[.string t380, .int .i64 t381, .int .i64 t382] 39 (0, 0)) (by (with_reducible repeat (first | refine blk_drewN ?_ _ | refine blk_drew ?_ | refine blk_alloc ?_ _)); exact BK383.out)) (below_size (by repeat (first | (with_reducible first | exact HB.out | apply below_alloc | apply pw_below_drewN | apply below_drew1 | refine below_set ?_ GE383.out) | exact HB.out)))); have n4_ := Aside0.mk (blk_below (g := gb383) (o := .cells #[.string t380, .int .i64 t381, .int .i64 t382] 39 (0, 0)) (by (with_reducible repeat (first | refine blk_drewN ?_ _ | refine blk_drew ?_ | refine blk_alloc ?_ _)); exact BK383.out) hb); have n5_ := Aside0.mk (below_step (by repeat (first | (with_reducible first | exact HB.out | apply below_alloc | apply pw_below_drewN | apply below_drew1 | refine below_set ?_ GE383.out) | exact HB.out)) hb); clear HO379; clear HO386; clear HO391; clear BK383; clear HB; have HO379 := n0_; have HO386 := n1_; have HO391 := n2_; have HO399 := n3_; have BK383 := n4_; have HB := n5_; clear n0_ n1_ n2_ n3_ n4_ n5_; (try clear hb); (try clear hb2); (try clear hk); (try clear hi); (try clear ho0)) | (go_at_call 12; (with_reducible refine (spec_KernelWords.calls k  t400 _ A17.out).mono ?_); rintro e w40 ⟨v401, rfl, ho0, hb⟩; have n0_ := Aside0.mk (Kd.R_elder' (by (with_reducible repeat (first | apply Kd.R_alloc | apply Kd.R_drewN | apply Kd.R_drew)); exact HO379.out) (Kd.R_base ho0) hb); have n1_ := Aside0.mk (Kd.R_elder' (by (with_reducible repeat (first | apply Kd.R_alloc | apply Kd.R_drewN | apply Kd.R_drew)); exact HO386.out) (Kd.R_base ho0) hb); have n2_ := Aside0.mk (Kd.R_elder' (by (with_reducible repeat (first | apply Kd.R_alloc | apply Kd.R_drewN | apply Kd.R_drew)); exact HO391.out) (Kd.R_base ho0) hb); have n3_ := Aside0.mk (Kd.R_elder' (by (with_reducible repeat (first | apply Kd.R_alloc | apply Kd.R_drewN | apply Kd.R_drew)); exact HO399.out) (Kd.R_base ho0) hb); have n4_ := Aside0.mk (Kd.R_lower (Kd.R_newB (Kd.R_new' (Kd.R_new' (Kd.R_new' (Kd.R_new' ho0 (Kd.R_lt (by (with_reducible repeat (first | apply Kd.R_alloc | apply Kd.R_drewN | apply Kd.R_drew)); exact HO379.out))) (Kd.R_lt (by (with_reducible repeat (first | apply Kd.R_alloc | apply Kd.R_drewN | apply Kd.R_drew)); exact HO386.out))) (Kd.R_lt (by (with_reducible repeat (first | apply Kd.R_alloc | apply Kd.R_drewN | apply Kd.R_drew)); exact HO391.out))) (Kd.R_lt (by (with_reducible repeat (first | apply Kd.R_alloc | apply Kd.R_drewN | apply Kd.R_drew)); exact HO399.out))) (g := gb383) (o := .cells #[.string t380, .int .i64 t381, .int .i64 t382] 39 (0, 0)) (by (with_reducible repeat (first | refine blk_drewN ?_ _ | refine blk_drew ?_ | refine blk_alloc ?_ _)); exact BK383.out)) (below_size (by repeat (first | (with_reducible first | exact HB.out | apply below_alloc | apply pw_below_drewN | apply below_drew1 | refine below_set ?_ GE383.out) | exact HB.out)))); have n5_ := Aside0.mk (blk_below (g := gb383) (o := .cells #[.string t380, .int .i64 t381, .int .i64 t382] 39 (0, 0)) (by (with_reducible repeat (first | refine blk_drewN ?_ _ | refine blk_drew ?_ | refine blk_alloc ?_ _)); exact BK383.out) hb); have n6_ := Aside0.mk (below_step (by repeat (first | (with_reducible first | exact HB.out | apply below_alloc | apply pw_below_drewN | apply below_drew1 | refine below_set ?_ GE383.out) | exact HB.out)) hb); clear HO379; clear HO386; clear HO391; clear HO399; clear BK383; clear HB; have HO379 := n0_; have HO386 := n1_; have HO391 := n2_; have HO399 := n3_; have HO402 := n4_; have BK383 := n5_; have HB := n6_; clear n0_ n1_ n2_ n3_ n4_ n5_ n6_; (try clear hb); (try clear hb2); (try clear hk); (try clear hi); (try clear ho0); obtain ⟨Ao41, co41, eo41⟩ := Kd.R_slice HO399.out; subst eo41; obtain ⟨Ao42, co42, eo42⟩ := Kd.R_slice HO402.out; subst eo42) | (go_at_call 33; (with_reducible refine (laws_sameWords.calls k _ _ t397 _ _ t400 true _ ?side1 ?side2 ?side3 ?side4 A18.out).mono ?_); (case side1 => repeat (first | exact (Kd.R_reads' HO399.out).2.2 | (with_reducible refine Kd.C_alloc ?_ _) | (with_reducible refine Kd.C_drewN ?_ _) | (with_reducible refine Kd.C_drew ?_))); (case side2 => exact (Kd.R_reads' HO399.out).2.1); (case side3 => repeat (first | exact (Kd.R_reads' HO402.out).2.2 | (with_reducible refine Kd.C_alloc ?_ _) | (with_reducible refine Kd.C_drewN ?_ _) | (with_reducible refine Kd.C_drew ?_))); (case side4 => exact (Kd.R_reads' HO402.out).2.1); rintro e w' ⟨rfl, ⟨nd, rfl⟩⟩; have hcz43_0 : w40.cell? ⟨gb383, 0, none⟩ = some (.string t380) := (blk_cell BK383.out 0).trans rfl; have hcz43_1 : w40.cell? ⟨gb383, 1, none⟩ = some (.int .i64 t381) := (blk_cell BK383.out 1).trans rfl; have hcz43_2 : w40.cell? ⟨gb383, 2, none⟩ = some (.int .i64 t382) := (blk_cell BK383.out 2).trans rfl; have hfz43_0 := blk_frozen BK383.out 0; have hfz43_1 := blk_frozen BK383.out 1; have hfz43_2 := blk_frozen BK383.out 2) | ((with_reducible refine gate_callee (f := 30) rfl ?_); refine goesL_ (some 79) rfl rfl Tryd.func30 (by kernel_rfl) rfl #[.slice Ao35 t384.length co35, .string t380] rfl (by (try simp only [List.map_toArray, List.map_cons, List.map_nil]); first | done | rfl | (simp only [List.length_drop, List.length_take]; rfl)) ?_; (with_reducible refine (impl_FindWord.calls k (fun k_ => some k_ = (.slice Ao35 t384.length co35 : Value).ownBlock) _ _ t384 t380 t404 t405 _ ?side1 A21.out).mono ?_); (case side1 => exact Kd.R_V (Kd.R_tight rfl (HO386.out))); rintro e w44 ⟨rfl, hb⟩; refine ⟨_, rfl, ?_⟩; replace HO379 := Aside0.mk (Kd.R_below (by (with_reducible repeat (first | apply Kd.R_alloc | apply Kd.R_drewN | apply Kd.R_drew)); exact HO379.out) hb); replace HO386 := Aside0.mk (Kd.R_below (by (with_reducible repeat (first | apply Kd.R_alloc | apply Kd.R_drewN | apply Kd.R_drew)); exact HO386.out) hb); replace HO391 := Aside0.mk (Kd.R_below (by (with_reducible repeat (first | apply Kd.R_alloc | apply Kd.R_drewN | apply Kd.R_drew)); exact HO391.out) hb); replace HO399 := Aside0.mk (Kd.R_below (by (with_reducible repeat (first | apply Kd.R_alloc | apply Kd.R_drewN | apply Kd.R_drew)); exact HO399.out) hb); replace HO402 := Aside0.mk (Kd.R_below (by (with_reducible repeat (first | apply Kd.R_alloc | apply Kd.R_drewN | apply Kd.R_drew)); exact HO402.out) hb); replace BK383 := Aside0.mk (blk_below (g := gb383) (o := .cells #[.string t380, .int .i64 t381, .int .i64 t382] 39 (0, 0)) (by (with_reducible repeat (first | refine blk_drewN ?_ _ | refine blk_drew ?_ | refine blk_alloc ?_ _)); exact BK383.out) hb); replace HB := Aside0.mk (below_step (by repeat (first | (with_reducible first | exact HB.out | apply below_alloc | apply pw_below_drewN | apply below_drew1 | refine below_set ?_ GE383.out) | exact HB.out)) hb); (try clear hb); (try clear hb2); (try clear hk); (try clear hi); have hcz45_0 : w44.cell? ⟨gb383, 0, none⟩ = some (.string t380) := (blk_cell BK383.out 0).trans rfl; have hcz45_1 : w44.cell? ⟨gb383, 1, none⟩ = some (.int .i64 t381) := (blk_cell BK383.out 1).trans rfl; have hcz45_2 : w44.cell? ⟨gb383, 2, none⟩ = some (.int .i64 t382) := (blk_cell BK383.out 2).trans rfl; have hfz45_0 := blk_frozen BK383.out 0; have hfz45_1 := blk_frozen BK383.out 1; have hfz45_2 := blk_frozen BK383.out 2) | ((with_reducible refine gate_callee (f := 34) rfl ?_); refine goesL_ (some 86) rfl rfl Tryd.func34 (by kernel_rfl) rfl #[.string t380] rfl (by (try simp only [List.map_toArray, List.map_cons, List.map_nil]); first | done | rfl | (simp only [List.length_drop, List.length_take]; rfl)) ?_; (with_reducible refine (impl_UpperOf.calls t380 t406 _ A22.out).mono ?_); rintro e w46 ⟨rfl, hb⟩; refine ⟨_, rfl, ?_⟩; replace HO379 := Aside0.mk (Kd.R_below (by (with_reducible repeat (first | apply Kd.R_alloc | apply Kd.R_drewN | apply Kd.R_drew)); exact HO379.out) hb); replace HO386 := Aside0.mk (Kd.R_below (by (with_reducible repeat (first | apply Kd.R_alloc | apply Kd.R_drewN | apply Kd.R_drew)); exact HO386.out) hb); replace HO391 := Aside0.mk (Kd.R_below (by (with_reducible repeat (first | apply Kd.R_alloc | apply Kd.R_drewN | apply Kd.R_drew)); exact HO391.out) hb); replace HO399 := Aside0.mk (Kd.R_below (by (with_reducible repeat (first | apply Kd.R_alloc | apply Kd.R_drewN | apply Kd.R_drew)); exact HO399.out) hb); replace HO402 := Aside0.mk (Kd.R_below (by (with_reducible repeat (first | apply Kd.R_alloc | apply Kd.R_drewN | apply Kd.R_drew)); exact HO402.out) hb); replace BK383 := Aside0.mk (blk_below (g := gb383) (o := .cells #[.string t380, .int .i64 t381, .int .i64 t382] 39 (0, 0)) (by (with_reducible repeat (first | refine blk_drewN ?_ _ | refine blk_drew ?_ | refine blk_alloc ?_ _)); exact BK383.out) hb); replace HB := Aside0.mk (below_step (by repeat (first | (with_reducible first | exact HB.out | apply below_alloc | apply pw_below_drewN | apply below_drew1 | refine below_set ?_ GE383.out) | exact HB.out)) hb); (try clear hb); (try clear hb2); (try clear hk); (try clear hi)) | ((with_reducible refine gate_callee (f := 30) rfl ?_); refine goesL_ (some 87) rfl rfl Tryd.func30 (by kernel_rfl) rfl #[.slice Ao35 t384.length co35, .string t406] rfl (by (try simp only [List.map_toArray, List.map_cons, List.map_nil]); first | done | rfl | (simp only [List.length_drop, List.length_take]; rfl)) ?_; (with_reducible refine (impl_FindWord.calls k (fun k_ => some k_ = (.slice Ao35 t384.length co35 : Value).ownBlock) _ _ t384 t406 t407 t408 _ ?side1 A23.out).mono ?_); (case side1 => exact Kd.R_V (Kd.R_tight rfl (HO386.out))); rintro e w47 ⟨rfl, hb⟩; refine ⟨_, rfl, ?_⟩; replace HO379 := Aside0.mk (Kd.R_below (by (with_reducible repeat (first | apply Kd.R_alloc | apply Kd.R_drewN | apply Kd.R_drew)); exact HO379.out) hb); replace HO386 := Aside0.mk (Kd.R_below (by (with_reducible repeat (first | apply Kd.R_alloc | apply Kd.R_drewN | apply Kd.R_drew)); exact HO386.out) hb); replace HO391 := Aside0.mk (Kd.R_below (by (with_reducible repeat (first | apply Kd.R_alloc | apply Kd.R_drewN | apply Kd.R_drew)); exact HO391.out) hb); replace HO399 := Aside0.mk (Kd.R_below (by (with_reducible repeat (first | apply Kd.R_alloc | apply Kd.R_drewN | apply Kd.R_drew)); exact HO399.out) hb); replace HO402 := Aside0.mk (Kd.R_below (by (with_reducible repeat (first | apply Kd.R_alloc | apply Kd.R_drewN | apply Kd.R_drew)); exact HO402.out) hb); replace BK383 := Aside0.mk (blk_below (g := gb383) (o := .cells #[.string t380, .int .i64 t381, .int .i64 t382] 39 (0, 0)) (by (with_reducible repeat (first | refine blk_drewN ?_ _ | refine blk_drew ?_ | refine blk_alloc ?_ _)); exact BK383.out) hb); replace HB := Aside0.mk (below_step (by repeat (first | (with_reducible first | exact HB.out | apply below_alloc | apply pw_below_drewN | apply below_drew1 | refine below_set ?_ GE383.out) | exact HB.out)) hb); (try clear hb); (try clear hb2); (try clear hk); (try clear hi)) | ((with_reducible refine gate_callee (f := 30) rfl ?_); refine goesL_ (some 92) rfl rfl Tryd.func30 (by kernel_rfl) rfl #[.slice Ao35 t384.length co35, .string (⟨#[40, 76, 73, 84, 41]⟩ : ByteArray)] rfl (by (try simp only [List.map_toArray, List.map_cons, List.map_nil]); first | done | rfl | (simp only [List.length_drop, List.length_take]; rfl)) ?_; (with_reducible refine (impl_FindWord.calls k (fun k_ => some k_ = (.slice Ao35 t384.length co35 : Value).ownBlock) _ _ t384 (⟨#[40, 76, 73, 84, 41]⟩ : ByteArray) t409 t410 _ ?side1 A24.out).mono ?_); (case side1 => exact Kd.R_V (Kd.R_tight rfl (HO386.out))); rintro e w48 ⟨rfl, hb⟩; refine ⟨_, rfl, ?_⟩; replace HO379 := Aside0.mk (Kd.R_below (by (with_reducible repeat (first | apply Kd.R_alloc | apply Kd.R_drewN | apply Kd.R_drew)); exact HO379.out) hb); replace HO386 := Aside0.mk (Kd.R_below (by (with_reducible repeat (first | apply Kd.R_alloc | apply Kd.R_drewN | apply Kd.R_drew)); exact HO386.out) hb); replace HO391 := Aside0.mk (Kd.R_below (by (with_reducible repeat (first | apply Kd.R_alloc | apply Kd.R_drewN | apply Kd.R_drew)); exact HO391.out) hb); replace HO399 := Aside0.mk (Kd.R_below (by (with_reducible repeat (first | apply Kd.R_alloc | apply Kd.R_drewN | apply Kd.R_drew)); exact HO399.out) hb); replace HO402 := Aside0.mk (Kd.R_below (by (with_reducible repeat (first | apply Kd.R_alloc | apply Kd.R_drewN | apply Kd.R_drew)); exact HO402.out) hb); replace BK383 := Aside0.mk (blk_below (g := gb383) (o := .cells #[.string t380, .int .i64 t381, .int .i64 t382] 39 (0, 0)) (by (with_reducible repeat (first | refine blk_drewN ?_ _ | refine blk_drew ?_ | refine blk_alloc ?_ _)); exact BK383.out) hb); replace HB := Aside0.mk (below_step (by repeat (first | (with_reducible first | exact HB.out | apply below_alloc | apply pw_below_drewN | apply below_drew1 | refine below_set ?_ GE383.out) | exact HB.out)) hb); (try clear hb); (try clear hb2); (try clear hk); (try clear hi)))
                  go_loopg [19] k (fun kq v19 w' => ∃ (x19_1 : Int), v19 = .int .i64 x19_1 ∧ Aside0 (laws_FnDict.l0 kq t377 t384 t387 t389 t404 t405 t407 t408 t410 x19_1 = some true) ∧ Aside0 (kq ≤ k) ∧ Aside0 (Kd.R k39 39 w' w.heap.size (fun k_ => some k_ ≠ ((.slice Ao35 t384.length co35) : Value).ownBlock ∧ some k_ ≠ ((.slice Ao36 t389.length co36) : Value).ownBlock ∧ k_ ≠ gb383) (.slice Ao31 t377.length co31) t377) ∧ Aside0 (Kd.R k39 39 w' w.heap.size (fun k_ => some k_ ≠ ((.slice Ao31 t377.length co31) : Value).ownBlock ∧ some k_ ≠ ((.slice Ao36 t389.length co36) : Value).ownBlock ∧ k_ ≠ gb383) (.slice Ao35 t384.length co35) t384) ∧ Aside0 (Kd.R k39 39 w' w.heap.size (fun k_ => some k_ ≠ ((.slice Ao31 t377.length co31) : Value).ownBlock ∧ some k_ ≠ ((.slice Ao35 t384.length co35) : Value).ownBlock ∧ k_ ≠ gb383) (.slice Ao36 t389.length co36) t389) ∧ Aside0 (w'.heap[gb383]? = some (.cells #[.string t380, .int .i64 t381, .int .i64 t382] 39 (0, 0))) ∧ Aside0 (Below w.heap.size w w'))
                  case atStart => exact ⟨(1), (by first | rfl | (simp; done) | (simp [*]; done)), H', ⟨Nat.le_refl _⟩, ⟨by (with_reducible repeat (first | apply Kd.R_alloc | apply Kd.R_drewN | apply Kd.R_drew)); exact Kd.R_mono HO379.out (fun _ hk => ⟨hk.1.1.1.2, ⟨hk.1.1.2, hk.1.1.1.1⟩⟩)⟩, ⟨by (with_reducible repeat (first | apply Kd.R_alloc | apply Kd.R_drewN | apply Kd.R_drew)); exact Kd.R_mono HO386.out (fun _ hk => ⟨hk.1.1.1.1.2, ⟨hk.1.1.2, hk.1.1.1.2⟩⟩)⟩, ⟨by (with_reducible repeat (first | apply Kd.R_alloc | apply Kd.R_drewN | apply Kd.R_drew)); exact Kd.R_mono HO391.out (fun _ hk => ⟨hk.1.1.1.1.2, ⟨hk.1.1.1.2, hk.1.1.2⟩⟩)⟩, ⟨by (with_reducible repeat (first | refine blk_drewN ?_ _ | refine blk_drew ?_ | refine blk_alloc ?_ _)); exact BK383.out⟩, ⟨by repeat (first | (with_reducible first | exact HB.out | apply below_alloc | apply pw_below_drewN | apply below_drew1 | refine below_set ?_ GE383.out) | exact HB.out)⟩⟩
                  case round =>
                    clear H'
                    try clear c1
                    try clear c2
                    try clear p2
                    try clear c3
                    try clear c3b0
                    try clear c3b1
                    try clear c4
                    try clear c4b0
                    try clear c4b1
                    try clear c9
                    try clear c9b0
                    try clear c9b1
                    try clear c11
                    try clear c13
                    try clear c15
                    try clear c19
                    try clear c20
                    try clear c20b0
                    try clear c20b1
                    try clear c26
                    try clear c28
                    try clear c30
                    try clear c31
                    try clear c32
                    try clear c34
                    try clear hcz28_0
                    try clear hcz28_1
                    try clear hcz28_2
                    try clear hcz30_0
                    try clear hcz30_1
                    try clear hcz30_2
                    try clear hcz33_0
                    try clear hcz33_1
                    try clear hcz33_2
                    try clear hcz43_0
                    try clear hcz43_1
                    try clear hcz43_2
                    try clear hcz45_0
                    try clear hcz45_1
                    try clear hcz45_2
                    try clear hfz28_0
                    try clear hfz28_1
                    try clear hfz28_2
                    try clear hfz30_0
                    try clear hfz30_1
                    try clear hfz30_2
                    try clear hfz33_0
                    try clear hfz33_1
                    try clear hfz33_2
                    try clear hfz43_0
                    try clear hfz43_1
                    try clear hfz43_2
                    try clear hfz45_0
                    try clear hfz45_1
                    try clear hfz45_2
                    obtain ⟨x19_1, rfl, HA, HK1, HO_5, HO_7, HO_10, BK383, HB⟩ := hrel
                    cases gk with
                    | zero => exact absurd HA.out (by simp [laws_FnDict.l0])
                    | succ k1 =>
                      have H := HA.out
                      clear HA
                      simp only [laws_FnDict.l0] at H
                      by_cases c49 : x19_1 ≤ (t389.length : Int)
                      · rw [if_pos c49] at H
                        have c49b0 : decide (x19_1 ≤ (t389.length : Int)) = true := decide_eq_true c49
                        clear c49
                        replace H := Option.bind_eq_some_iff.mp H
                        obtain ⟨t411, A500, H⟩ := H
                        replace H : ((spec_TokenOK.f k1 t389 x19_1).bind fun t412 => (if (t411 != t412) = true then (some false) else (if x19_1 < (t389.length : Int) then (if 0 ≤ (wrap64 (x19_1 - 1)) then (if (wrap64 (x19_1 - 1)) < (t384.length : Int) then (if (wrap64 (x19_1 - 1)) < (t377.length : Int) then (if (!((((rd_T39 t384 (wrap64 (x19_1 - 1))).f0).toList) == (((rd_T39 t377 (wrap64 (x19_1 - 1))).f0).toList)) || (!(((rd_T39 t384 (wrap64 (x19_1 - 1))).f1) == ((rd_T39 t377 (wrap64 (x19_1 - 1))).f1)) || (!(((rd_T39 t384 (wrap64 (x19_1 - 1))).f2) == ((rd_T39 t377 (wrap64 (x19_1 - 1))).f2))))) = true then (some false) else (laws_FnDict.l0 k1 t377 t384 t387 t389 t404 t405 t407 t408 t410 (wrap64 (x19_1 + 1)))) else (none)) else (none)) else (none)) else (laws_FnDict.l0 k1 t377 t384 t387 t389 t404 t405 t407 t408 t410 (wrap64 (x19_1 + 1)))))) = some true := H
                        have A50 := Aside0.mk A500
                        clear A500
                        replace H := Option.bind_eq_some_iff.mp H
                        obtain ⟨t412, A510, H⟩ := H
                        replace H : (if (t411 != t412) = true then (some false) else (if x19_1 < (t389.length : Int) then (if 0 ≤ (wrap64 (x19_1 - 1)) then (if (wrap64 (x19_1 - 1)) < (t384.length : Int) then (if (wrap64 (x19_1 - 1)) < (t377.length : Int) then (if (!((((rd_T39 t384 (wrap64 (x19_1 - 1))).f0).toList) == (((rd_T39 t377 (wrap64 (x19_1 - 1))).f0).toList)) || (!(((rd_T39 t384 (wrap64 (x19_1 - 1))).f1) == ((rd_T39 t377 (wrap64 (x19_1 - 1))).f1)) || (!(((rd_T39 t384 (wrap64 (x19_1 - 1))).f2) == ((rd_T39 t377 (wrap64 (x19_1 - 1))).f2))))) = true then (some false) else (laws_FnDict.l0 k1 t377 t384 t387 t389 t404 t405 t407 t408 t410 (wrap64 (x19_1 + 1)))) else (none)) else (none)) else (none)) else (laws_FnDict.l0 k1 t377 t384 t387 t389 t404 t405 t407 t408 t410 (wrap64 (x19_1 + 1))))) = some true := H
                        have A51 := Aside0.mk A510
                        clear A510
                        by_cases c52 : (t411 != t412) = true
                        · rw [if_pos c52] at H
                          have c52b0 : (t411 != t412) = true := c52
                          (try (have c52b1 : decide (t411 = t412) = false := by simpa using c52))
                          (try (have c52b2 : (t411 == t412) = false := by simpa using c52))
                          (try (have c52b3 : ¬ (t411 = t412) := by simpa using c52))
                          clear c52
                          exact absurd (Option.some.inj H) (by decide)
                        · rw [if_neg c52] at H
                          have c52b0 : (t411 != t412) = false := by simpa using c52
                          (try (have c52b1 : decide (t411 = t412) = true := by simpa using c52))
                          (try (have c52b2 : (t411 == t412) = true := by simpa using c52))
                          clear c52
                          by_cases c53 : x19_1 < (t389.length : Int)
                          · rw [if_pos c53] at H
                            have c53b0 : decide (x19_1 < (t389.length : Int)) = true := decide_eq_true c53
                            clear c53
                            obtain ⟨ji54, hji54⟩ : ∃ j_ : Int, (wrap64 (x19_1 - 1)) = j_ := ⟨_, rfl⟩
                            replace H : (if 0 ≤ (ji54) then (if (ji54) < (t384.length : Int) then (if (ji54) < (t377.length : Int) then (if (!((((rd_T39 t384 (ji54)).f0).toList) == (((rd_T39 t377 (ji54)).f0).toList)) || (!(((rd_T39 t384 (ji54)).f1) == ((rd_T39 t377 (ji54)).f1)) || (!(((rd_T39 t384 (ji54)).f2) == ((rd_T39 t377 (ji54)).f2))))) = true then (some false) else (laws_FnDict.l0 k1 t377 t384 t387 t389 t404 t405 t407 t408 t410 (wrap64 (x19_1 + 1)))) else (none)) else (none)) else (none)) = some true := by first | (rw [hji54] at H; exact H) | (simp only [hji54] at H ⊢; exact H)
                            (try rw [hji54] at A50)
                            (try rw [hji54] at A51)
                            have hji54w : (IntKind.i64.wrap (x19_1 - 1)) = ji54 := (i64_w _).trans hji54
                            by_cases c55 : 0 ≤ (ji54)
                            · rw [if_pos c55] at H
                              have c55b0 : decide (0 ≤ (ji54)) = true := decide_eq_true c55
                              clear c55
                              by_cases c56 : (ji54) < (t384.length : Int)
                              · rw [if_pos c56] at H
                                have c56b0 : decide ((ji54) < (t384.length : Int)) = true := decide_eq_true c56
                                clear c56
                                by_cases c57 : (ji54) < (t377.length : Int)
                                · rw [if_pos c57] at H
                                  have c57b0 : decide ((ji54) < (t377.length : Int)) = true := decide_eq_true c57
                                  clear c57
                                  by_cases c58 : (!((((rd_T39 t384 (ji54)).f0).toList) == (((rd_T39 t377 (ji54)).f0).toList)) || (!(((rd_T39 t384 (ji54)).f1) == ((rd_T39 t377 (ji54)).f1)) || (!(((rd_T39 t384 (ji54)).f2) == ((rd_T39 t377 (ji54)).f2))))) = true
                                  · rw [if_pos c58] at H
                                    have c58b0 : (!((((rd_T39 t384 (ji54)).f0).toList) == (((rd_T39 t377 (ji54)).f0).toList)) || (!(((rd_T39 t384 (ji54)).f1) == ((rd_T39 t377 (ji54)).f1)) || (!(((rd_T39 t384 (ji54)).f2) == ((rd_T39 t377 (ji54)).f2))))) = true := c58
                                    clear c58
                                    exact absurd (Option.some.inj H) (by decide)
                                  · rw [if_neg c58] at H
                                    have c58b0 : (!((((rd_T39 t384 (ji54)).f0).toList) == (((rd_T39 t377 (ji54)).f0).toList)) || (!(((rd_T39 t384 (ji54)).f1) == ((rd_T39 t377 (ji54)).f1)) || (!(((rd_T39 t384 (ji54)).f2) == ((rd_T39 t377 (ji54)).f2))))) = false := by simpa using c58
                                    clear c58
                                    have H' := Aside0.mk H
                                    clear H
                                    try go_wp2
                                    replace HO_5 := Aside0.mk (Kd.R_drew HO_5.out)
                                    replace HO_7 := Aside0.mk (Kd.R_drew HO_7.out)
                                    replace HO_10 := Aside0.mk (Kd.R_drew HO_10.out)
                                    replace BK383 := Aside0.mk (blk_drew BK383.out)
                                    replace HB := Aside0.mk (below_drew1 HB.out)
                                    have p413 : 0 ≤ ((ji54) : Int) := of_decide_eq_true (by first | (with_reducible assumption) | assumption)
                                    have q413 : (ji54) < (t384.length : Int) := of_decide_eq_true (by first | (with_reducible assumption) | assumption)
                                    obtain ⟨ad413, e413, hx413_0, hx413_1, hx413_2⟩ := at_T39 (Kd.R_reads' HO_7.out).2.2 (ji54) p413 q413
                                    cases e413
                                    replace p413 := eq_true p413
                                    replace q413 := eq_true q413
                                    have p414 : 0 ≤ ((ji54) : Int) := of_decide_eq_true (by first | (with_reducible assumption) | assumption)
                                    have q414 : (ji54) < (t377.length : Int) := of_decide_eq_true (by first | (with_reducible assumption) | assumption)
                                    obtain ⟨ad414, e414, hx414_0, hx414_1, hx414_2⟩ := at_T39 (Kd.R_reads' HO_5.out).2.2 (ji54) p414 q414
                                    cases e414
                                    replace p414 := eq_true p414
                                    replace q414 := eq_true q414
                                    refine start_ (n := 26) (S := fun w' => w'.cell? (ad413.add (((ji54)).toNat * 3)) = some (.string ((rd_T39 t384 (ji54)).f0)) ∧ w'.cell? ⟨(ad413.add (((ji54)).toNat * 3)).block, (ad413.add (((ji54)).toNat * 3)).off + 1, none⟩ = some (.int .i64 ((rd_T39 t384 (ji54)).f1)) ∧ w'.cell? ⟨(ad413.add (((ji54)).toNat * 3)).block, (ad413.add (((ji54)).toNat * 3)).off + 2, none⟩ = some (.int .i64 ((rd_T39 t384 (ji54)).f2)) ∧ w'.cell? (ad414.add (((ji54)).toNat * 3)) = some (.string ((rd_T39 t377 (ji54)).f0)) ∧ w'.cell? ⟨(ad414.add (((ji54)).toNat * 3)).block, (ad414.add (((ji54)).toNat * 3)).off + 1, none⟩ = some (.int .i64 ((rd_T39 t377 (ji54)).f1)) ∧ w'.cell? ⟨(ad414.add (((ji54)).toNat * 3)).block, (ad414.add (((ji54)).toNat * 3)).off + 2, none⟩ = some (.int .i64 ((rd_T39 t377 (ji54)).f2))) (ds := []) #[false, false, false, false, false, false, false, false, false, false, false, false, false, false, false, false, false, false, false, false, false, false, false, false, false, false] (by kernel_rfl) rfl rfl ⟨hx413_0, hx413_1, hx413_2, hx414_0, hx414_1, hx414_2⟩ (fun hHeld => ?_); refine with_tabW laws_FnDict.tab17 laws_FnDict.bits17 (fun HT_ HW_ => ?_)
                                    generalize wr.drew = w59 at HO_5 HO_7 HO_10 BK383 HB hx413_0 hx413_1 hx413_2 hx414_0 hx414_1 hx414_2 hHeld ⊢
                                    refine pure_ (i := 0) (N := some 101) (v := ?_) (a' := ?_) #[true, false, false, false, false, false, false, false, false, false, false, false, false, false, false, false, false, false, false, false, false, false, false, false, false, false] rfl rfl (any_of HT_.out (by kernel_rfl)) (fun _ _ _ h => h) (Or.inl ⟨by rfl, ?_⟩) ?_ ?_
                                    rotate_left
                                    · intro w'
                                      go_simp
                                      with_reducible rfl
                                    rotate_left
                                    · simp only [Act.put, List.setIfInBounds_toArray, List.set_cons_zero, List.set_cons_succ, i64_w, i32_w]
                                      rfl
                                    refine pure_ (i := 1) (N := some 102) (v := ?_) (a' := ?_) #[true, true, false, false, false, false, false, false, false, false, false, false, false, false, false, false, false, false, false, false, false, false, false, false, false, false] rfl rfl (any_of HT_.out (by kernel_rfl)) (fun _ _ _ h => h) (Or.inl ⟨by rfl, ?_⟩) ?_ ?_
                                    rotate_left
                                    · intro w'
                                      go_simp
                                      with_reducible rfl
                                    rotate_left
                                    · simp only [Act.put, List.setIfInBounds_toArray, List.set_cons_zero, List.set_cons_succ, i64_w, i32_w]
                                      rfl
                                    refine pure_ (i := 3) (N := some 104) (v := ?_) (a' := ?_) #[true, true, false, true, false, false, false, false, false, false, false, false, false, false, false, false, false, false, false, false, false, false, false, false, false, false] rfl rfl (any_of HT_.out (by kernel_rfl)) (fun _ _ _ h => h) (Or.inl ⟨by rfl, ?_⟩) ?_ ?_
                                    rotate_left
                                    · intro w'
                                      go_simp
                                      with_reducible rfl
                                    rotate_left
                                    · simp only [Act.put, List.setIfInBounds_toArray, List.set_cons_zero, List.set_cons_succ, i64_w, i32_w]
                                      rfl
                                    refine pure_ (i := 4) (N := some 105) (v := ?_) (a' := ?_) #[true, true, false, true, true, false, false, false, false, false, false, false, false, false, false, false, false, false, false, false, false, false, false, false, false, false] rfl rfl (any_of HT_.out (by kernel_rfl)) (fun _ _ _ h => h) (Or.inl ⟨by rfl, ?_⟩) ?_ ?_
                                    rotate_left
                                    · intro w'
                                      go_simp
                                      with_reducible rfl
                                    rotate_left
                                    · simp only [Act.put, List.setIfInBounds_toArray, List.set_cons_zero, List.set_cons_succ, i64_w, i32_w]
                                      rfl
                                    refine one_ (i := 2) (N := some 103) #[true, true, true, true, true, false, false, false, false, false, false, false, false, false, false, false, false, false, false, false, false, false, false, false, false, false] rfl rfl (one_of HT_.out (by kernel_rfl)) (by decide) (fun K hK => ?_)
                                    refine goes_ Tryd.func24 (by kernel_rfl) rfl #[.slice (some ad413) t384.length co35, .int .i64 x19_1] (by rfl) rfl rfl (by (try simp only [List.map_toArray, List.map_cons, List.map_nil]); first | done | rfl | (simp only [List.length_drop, List.length_take]; rfl)) ?_
                                    with_reducible refine (impl_TokenOK.calls k1 _ _ t384 x19_1 t411 _ ?side1 ?side2 A50.out).mono ?_
                                    (case side1 => repeat (first | exact (Kd.R_reads' HO_7.out).2.2 | (with_reducible refine Kd.C_alloc ?_ _) | (with_reducible refine Kd.C_drewN ?_ _) | (with_reducible refine Kd.C_drew ?_)))
                                    (case side2 => exact (Kd.R_reads' HO_7.out).2.1)
                                    rintro e w60 ⟨rfl, hb⟩
                                    have HS0_ := (hb.cell (World.block_lt_of_cell? _ _ (hHeld.1))).trans (hHeld.1)
                                    have HS1_ := (hb.cell (World.block_lt_of_cell? _ _ (hHeld.2.1))).trans (hHeld.2.1)
                                    have HS2_ := (hb.cell (World.block_lt_of_cell? _ _ (hHeld.2.2.1))).trans (hHeld.2.2.1)
                                    have HS3_ := (hb.cell (World.block_lt_of_cell? _ _ (hHeld.2.2.2.1))).trans (hHeld.2.2.2.1)
                                    have HS4_ := (hb.cell (World.block_lt_of_cell? _ _ (hHeld.2.2.2.2.1))).trans (hHeld.2.2.2.2.1)
                                    have HS5_ := (hb.cell (World.block_lt_of_cell? _ _ (hHeld.2.2.2.2.2))).trans (hHeld.2.2.2.2.2)
                                    refine ⟨_, rfl, ?_⟩
                                    replace HO_5 := Aside0.mk (Kd.R_below (by (with_reducible repeat (first | apply Kd.R_alloc | apply Kd.R_drewN | apply Kd.R_drew)); exact HO_5.out) hb)
                                    replace HO_7 := Aside0.mk (Kd.R_below (by (with_reducible repeat (first | apply Kd.R_alloc | apply Kd.R_drewN | apply Kd.R_drew)); exact HO_7.out) hb)
                                    replace HO_10 := Aside0.mk (Kd.R_below (by (with_reducible repeat (first | apply Kd.R_alloc | apply Kd.R_drewN | apply Kd.R_drew)); exact HO_10.out) hb)
                                    replace BK383 := Aside0.mk (blk_below (g := gb383) (o := .cells #[.string t380, .int .i64 t381, .int .i64 t382] 39 (0, 0)) (by (with_reducible repeat (first | refine blk_drewN ?_ _ | refine blk_drew ?_ | refine blk_alloc ?_ _)); exact BK383.out) hb)
                                    replace HB := Aside0.mk (below_step (by repeat (first | (with_reducible first | exact HB.out | apply below_alloc | apply pw_below_drewN | apply below_drew1 | refine below_set ?_ GE383.out) | exact HB.out)) hb)
                                    (try clear hb)
                                    (try clear hb2)
                                    (try clear hk)
                                    (try clear hi)
                                    refine hK.out _ _ ⟨HS0_, HS1_, HS2_, HS3_, HS4_, HS5_⟩ (fun hHeld => ?_)
                                    clear hK K
                                    refine norm_ (a' := ?_) ?_ ?_
                                    rotate_left
                                    · show Act.put _ (some 103) _ = _
                                      simp only [Act.put, List.setIfInBounds_toArray, List.set_cons_zero, List.set_cons_succ, i64_w, i32_w]
                                      rfl
                                    refine one_ (i := 5) (N := some 106) #[true, true, true, true, true, true, false, false, false, false, false, false, false, false, false, false, false, false, false, false, false, false, false, false, false, false] rfl rfl (one_of HT_.out (by kernel_rfl)) (by decide) (fun K hK => ?_)
                                    refine goes_ Tryd.func23 (by kernel_rfl) rfl #[.slice Ao36 t389.length co36, .int .i64 x19_1] (by rfl) rfl rfl (by (try simp only [List.map_toArray, List.map_cons, List.map_nil]); first | done | rfl | (simp only [List.length_drop, List.length_take]; rfl)) ?_
                                    with_reducible refine (spec_TokenOK.calls k1 _ _ t389 x19_1 t412 _ ?side1 ?side2 A51.out).mono ?_
                                    (case side1 => repeat (first | exact (Kd.R_reads' HO_10.out).2.2 | (with_reducible refine Kd.C_alloc ?_ _) | (with_reducible refine Kd.C_drewN ?_ _) | (with_reducible refine Kd.C_drew ?_)))
                                    (case side2 => exact (Kd.R_reads' HO_10.out).2.1)
                                    rintro e w61 ⟨rfl, hb⟩
                                    have HS0_ := (hb.cell (World.block_lt_of_cell? _ _ (hHeld.1))).trans (hHeld.1)
                                    have HS1_ := (hb.cell (World.block_lt_of_cell? _ _ (hHeld.2.1))).trans (hHeld.2.1)
                                    have HS2_ := (hb.cell (World.block_lt_of_cell? _ _ (hHeld.2.2.1))).trans (hHeld.2.2.1)
                                    have HS3_ := (hb.cell (World.block_lt_of_cell? _ _ (hHeld.2.2.2.1))).trans (hHeld.2.2.2.1)
                                    have HS4_ := (hb.cell (World.block_lt_of_cell? _ _ (hHeld.2.2.2.2.1))).trans (hHeld.2.2.2.2.1)
                                    have HS5_ := (hb.cell (World.block_lt_of_cell? _ _ (hHeld.2.2.2.2.2))).trans (hHeld.2.2.2.2.2)
                                    refine ⟨_, rfl, ?_⟩
                                    replace HO_5 := Aside0.mk (Kd.R_below (by (with_reducible repeat (first | apply Kd.R_alloc | apply Kd.R_drewN | apply Kd.R_drew)); exact HO_5.out) hb)
                                    replace HO_7 := Aside0.mk (Kd.R_below (by (with_reducible repeat (first | apply Kd.R_alloc | apply Kd.R_drewN | apply Kd.R_drew)); exact HO_7.out) hb)
                                    replace HO_10 := Aside0.mk (Kd.R_below (by (with_reducible repeat (first | apply Kd.R_alloc | apply Kd.R_drewN | apply Kd.R_drew)); exact HO_10.out) hb)
                                    replace BK383 := Aside0.mk (blk_below (g := gb383) (o := .cells #[.string t380, .int .i64 t381, .int .i64 t382] 39 (0, 0)) (by (with_reducible repeat (first | refine blk_drewN ?_ _ | refine blk_drew ?_ | refine blk_alloc ?_ _)); exact BK383.out) hb)
                                    replace HB := Aside0.mk (below_step (by repeat (first | (with_reducible first | exact HB.out | apply below_alloc | apply pw_below_drewN | apply below_drew1 | refine below_set ?_ GE383.out) | exact HB.out)) hb)
                                    (try clear hb)
                                    (try clear hb2)
                                    (try clear hk)
                                    (try clear hi)
                                    refine hK.out _ _ ⟨HS0_, HS1_, HS2_, HS3_, HS4_, HS5_⟩ (fun hHeld => ?_)
                                    clear hK K
                                    refine norm_ (a' := ?_) ?_ ?_
                                    rotate_left
                                    · show Act.put _ (some 106) _ = _
                                      simp only [Act.put, List.setIfInBounds_toArray, List.set_cons_zero, List.set_cons_succ, i64_w, i32_w]
                                      rfl
                                    refine pure_ (i := 6) (N := some 107) (v := ?_) (a' := ?_) #[true, true, true, true, true, true, true, false, false, false, false, false, false, false, false, false, false, false, false, false, false, false, false, false, false, false] rfl rfl (any_of HT_.out (by kernel_rfl)) (fun _ _ _ h => h) (Or.inl ⟨by rfl, ?_⟩) ?_ ?_
                                    rotate_left
                                    · intro w'
                                      go_simp
                                      with_reducible rfl
                                    rotate_left
                                    · simp only [Act.put, List.setIfInBounds_toArray, List.set_cons_zero, List.set_cons_succ, i64_w, i32_w]
                                      rfl
                                    refine pure_ (i := 7) (N := some 108) (v := ?_) (a' := ?_) #[true, true, true, true, true, true, true, true, false, false, false, false, false, false, false, false, false, false, false, false, false, false, false, false, false, false] rfl rfl (any_of HT_.out (by kernel_rfl)) (fun _ _ _ h => h) (Or.inl ⟨by rfl, ?_⟩) ?_ ?_
                                    rotate_left
                                    · intro w'
                                      go_simp
                                      with_reducible rfl
                                    rotate_left
                                    · simp only [Act.put, List.setIfInBounds_toArray, List.set_cons_zero, List.set_cons_succ, i64_w, i32_w]
                                      rfl
                                    refine pure_ (i := 8) (N := some 109) (v := ?_) (a' := ?_) #[true, true, true, true, true, true, true, true, true, false, false, false, false, false, false, false, false, false, false, false, false, false, false, false, false, false] rfl rfl (any_of HT_.out (by kernel_rfl)) (fun _ _ _ h => h) (Or.inl ⟨by rfl, ?_⟩) ?_ ?_
                                    rotate_left
                                    · intro w'
                                      go_simp
                                      with_reducible rfl
                                    rotate_left
                                    · simp only [Act.put, List.setIfInBounds_toArray, List.set_cons_zero, List.set_cons_succ, i64_w, i32_w]
                                      rfl
                                    refine pure_ (i := 9) (N := some 110) (v := ?_) (a' := ?_) #[true, true, true, true, true, true, true, true, true, true, false, false, false, false, false, false, false, false, false, false, false, false, false, false, false, false] rfl rfl (any_of HT_.out (by kernel_rfl)) (fun _ _ _ h => h) (Or.inl ⟨by rfl, ?_⟩) ?_ ?_
                                    rotate_left
                                    · intro w'
                                      go_simp
                                      with_reducible rfl
                                    rotate_left
                                    · simp only [Act.put, List.setIfInBounds_toArray, List.set_cons_zero, List.set_cons_succ, i64_w, i32_w]
                                      rfl
                                    refine pure_ (i := 10) (N := some 111) (v := ?_) (a' := ?_) #[true, true, true, true, true, true, true, true, true, true, true, false, false, false, false, false, false, false, false, false, false, false, false, false, false, false] rfl rfl (any_of HT_.out (by kernel_rfl)) (fun _ _ _ h => h) (Or.inl ⟨by rfl, ?_⟩) ?_ ?_
                                    rotate_left
                                    · intro w'
                                      go_simp
                                      with_reducible rfl
                                    rotate_left
                                    · simp only [Act.put, List.setIfInBounds_toArray, List.set_cons_zero, List.set_cons_succ, i64_w, i32_w]
                                      rfl
                                    refine pure_ (i := 11) (N := some 112) (v := ?_) (a' := ?_) #[true, true, true, true, true, true, true, true, true, true, true, true, false, false, false, false, false, false, false, false, false, false, false, false, false, false] rfl rfl (any_of HT_.out (by kernel_rfl)) (fun _ _ _ h => h) (Or.inl ⟨by rfl, ?_⟩) ?_ ?_
                                    rotate_left
                                    · intro w'
                                      go_simp
                                      with_reducible rfl
                                    rotate_left
                                    · simp only [Act.put, List.setIfInBounds_toArray, List.set_cons_zero, List.set_cons_succ, i64_w, i32_w]
                                      rfl
                                    refine pure_ (i := 12) (N := some 113) (v := ?_) (a' := ?_) #[true, true, true, true, true, true, true, true, true, true, true, true, true, false, false, false, false, false, false, false, false, false, false, false, false, false] rfl rfl (any_of HT_.out (by kernel_rfl)) (fun _ _ _ h => h) (Or.inl ⟨by rfl, ?_⟩) ?_ ?_
                                    rotate_left
                                    · intro w'
                                      go_simp
                                      with_reducible rfl
                                    rotate_left
                                    · simp only [Act.put, List.setIfInBounds_toArray, List.set_cons_zero, List.set_cons_succ, i64_w, i32_w]
                                      rfl
                                    refine pure_ (i := 13) (N := some 114) (v := ?_) (a' := ?_) #[true, true, true, true, true, true, true, true, true, true, true, true, true, true, false, false, false, false, false, false, false, false, false, false, false, false] rfl rfl (any_of HT_.out (by kernel_rfl)) (fun _ _ _ h => h) (Or.inl ⟨by rfl, ?_⟩) ?_ ?_
                                    rotate_left
                                    · intro w'
                                      go_simp
                                      with_reducible rfl
                                    rotate_left
                                    · simp only [Act.put, List.setIfInBounds_toArray, List.set_cons_zero, List.set_cons_succ, i64_w, i32_w]
                                      rfl
                                    refine pure_ (i := 14) (N := some 115) (v := ?_) (a' := ?_) #[true, true, true, true, true, true, true, true, true, true, true, true, true, true, true, false, false, false, false, false, false, false, false, false, false, false] rfl rfl (any_of HT_.out (by kernel_rfl)) (fun _ _ _ h => h) (Or.inl ⟨by rfl, ?_⟩) ?_ ?_
                                    rotate_left
                                    · intro w'
                                      go_simp
                                      with_reducible rfl
                                    rotate_left
                                    · simp only [Act.put, List.setIfInBounds_toArray, List.set_cons_zero, List.set_cons_succ, i64_w, i32_w]
                                      rfl
                                    refine pure_ (i := 15) (N := some 116) (v := ?_) (a' := ?_) #[true, true, true, true, true, true, true, true, true, true, true, true, true, true, true, true, false, false, false, false, false, false, false, false, false, false] rfl rfl (any_of HT_.out (by kernel_rfl)) (fun _ _ _ h => h) (Or.inl ⟨by rfl, ?_⟩) ?_ ?_
                                    rotate_left
                                    · intro w'
                                      go_simp
                                      with_reducible rfl
                                    rotate_left
                                    · simp only [Act.put, List.setIfInBounds_toArray, List.set_cons_zero, List.set_cons_succ, i64_w, i32_w]
                                      rfl
                                    refine pure_ (i := 16) (N := some 117) (v := ?_) (a' := ?_) #[true, true, true, true, true, true, true, true, true, true, true, true, true, true, true, true, true, false, false, false, false, false, false, false, false, false] rfl rfl (any_of HT_.out (by kernel_rfl)) (fun _ _ _ h => h) (Or.inl ⟨by rfl, ?_⟩) ?_ ?_
                                    rotate_left
                                    · intro w'
                                      go_simp
                                      with_reducible rfl
                                    rotate_left
                                    · simp only [Act.put, List.setIfInBounds_toArray, List.set_cons_zero, List.set_cons_succ, i64_w, i32_w]
                                      rfl
                                    refine pure_ (i := 18) (N := some 119) (v := ?_) (a' := ?_) #[true, true, true, true, true, true, true, true, true, true, true, true, true, true, true, true, true, false, true, false, false, false, false, false, false, false] rfl rfl (any_of HT_.out (by kernel_rfl)) (fun _ _ _ h => h) (Or.inl ⟨by rfl, ?_⟩) ?_ ?_
                                    rotate_left
                                    · intro w'
                                      go_simp
                                      with_reducible rfl
                                    rotate_left
                                    · simp only [Act.put, List.setIfInBounds_toArray, List.set_cons_zero, List.set_cons_succ, i64_w, i32_w]
                                      rfl
                                    refine pure_ (i := 19) (N := some 120) (v := ?_) (a' := ?_) #[true, true, true, true, true, true, true, true, true, true, true, true, true, true, true, true, true, false, true, true, false, false, false, false, false, false] rfl rfl (any_of HT_.out (by kernel_rfl)) (fun _ _ _ h => h) (Or.inl ⟨by rfl, ?_⟩) ?_ ?_
                                    rotate_left
                                    · intro w'
                                      go_simp
                                      with_reducible rfl
                                    rotate_left
                                    · simp only [Act.put, List.setIfInBounds_toArray, List.set_cons_zero, List.set_cons_succ, i64_w, i32_w]
                                      rfl
                                    refine pure_ (i := 20) (N := some 121) (v := ?_) (a' := ?_) #[true, true, true, true, true, true, true, true, true, true, true, true, true, true, true, true, true, false, true, true, true, false, false, false, false, false] rfl rfl (any_of HT_.out (by kernel_rfl)) (fun _ _ _ h => h) (Or.inl ⟨by rfl, ?_⟩) ?_ ?_
                                    rotate_left
                                    · intro w'
                                      go_simp
                                      with_reducible rfl
                                    rotate_left
                                    · simp only [Act.put, List.setIfInBounds_toArray, List.set_cons_zero, List.set_cons_succ, i64_w, i32_w]
                                      rfl
                                    refine pure_ (i := 21) (N := some 122) (v := ?_) (a' := ?_) #[true, true, true, true, true, true, true, true, true, true, true, true, true, true, true, true, true, false, true, true, true, true, false, false, false, false] rfl rfl (any_of HT_.out (by kernel_rfl)) (fun _ _ _ h => h) (Or.inl ⟨by rfl, ?_⟩) ?_ ?_
                                    rotate_left
                                    · intro w'
                                      go_simp
                                      with_reducible rfl
                                    rotate_left
                                    · simp only [Act.put, List.setIfInBounds_toArray, List.set_cons_zero, List.set_cons_succ, i64_w, i32_w]
                                      rfl
                                    refine take_ (i := 17) (N := some 118) (v := ?_) (a' := ?_) #[true, true, true, true, true, true, true, true, true, true, true, true, true, true, true, true, true, true, true, true, true, true, false, false, false, false] rfl rfl (take_ofW HT_.out HW_.out (by kernel_rfl)) (fun _ _ _ h => h) (Or.inl ⟨by rfl, ?_⟩) hHeld ?_ ?_
                                    rotate_left
                                    · rintro w' ⟨s0, s1, s2, s3, s4, s5⟩
                                      go_simp
                                      with_reducible rfl
                                    rotate_left
                                    · simp only [Act.put, List.setIfInBounds_toArray, List.set_cons_zero, List.set_cons_succ, i64_w, i32_w]
                                      rfl
                                    refine take_ (i := 22) (N := some 123) (v := ?_) (a' := ?_) #[true, true, true, true, true, true, true, true, true, true, true, true, true, true, true, true, true, true, true, true, true, true, true, false, false, false] rfl rfl (take_ofW HT_.out HW_.out (by kernel_rfl)) (fun _ _ _ h => h) (Or.inl ⟨by rfl, ?_⟩) hHeld ?_ ?_
                                    rotate_left
                                    · rintro w' ⟨s0, s1, s2, s3, s4, s5⟩
                                      go_simp
                                      with_reducible rfl
                                    rotate_left
                                    · simp only [Act.put, List.setIfInBounds_toArray, List.set_cons_zero, List.set_cons_succ, i64_w, i32_w]
                                      rfl
                                    refine pure_ (i := 23) (N := some 124) (v := ?_) (a' := ?_) #[true, true, true, true, true, true, true, true, true, true, true, true, true, true, true, true, true, true, true, true, true, true, true, true, false, false] rfl rfl (any_of HT_.out (by kernel_rfl)) (fun _ _ _ h => h) (Or.inl ⟨by rfl, ?_⟩) ?_ ?_
                                    rotate_left
                                    · intro w'
                                      go_simp
                                      with_reducible rfl
                                    rotate_left
                                    · simp only [Act.put, List.setIfInBounds_toArray, List.set_cons_zero, List.set_cons_succ, i64_w, i32_w]
                                      rfl
                                    refine pure_ (i := 24) (N := some 125) (v := ?_) (a' := ?_) #[true, true, true, true, true, true, true, true, true, true, true, true, true, true, true, true, true, true, true, true, true, true, true, true, true, false] rfl rfl (any_of HT_.out (by kernel_rfl)) (fun _ _ _ h => h) (Or.inl ⟨by rfl, ?_⟩) ?_ ?_
                                    rotate_left
                                    · intro w'
                                      go_simp
                                      with_reducible rfl
                                    rotate_left
                                    · simp only [Act.put, List.setIfInBounds_toArray, List.set_cons_zero, List.set_cons_succ, i64_w, i32_w]
                                      rfl
                                    refine pure_ (i := 25) (N := some 126) (v := ?_) (a' := ?_) #[true, true, true, true, true, true, true, true, true, true, true, true, true, true, true, true, true, true, true, true, true, true, true, true, true, true] rfl rfl (any_of HT_.out (by kernel_rfl)) (fun _ _ _ h => h) (Or.inl ⟨by rfl, ?_⟩) ?_ ?_
                                    rotate_left
                                    · intro w'
                                      go_simp
                                      with_reducible rfl
                                    rotate_left
                                    · simp only [Act.put, List.setIfInBounds_toArray, List.set_cons_zero, List.set_cons_succ, i64_w, i32_w]
                                      rfl
                                    refine done_ (done_of HT_.out (by kernel_rfl)) ?_
                                    try go_wp2
                                    go_roundg k1
                                    case measure => have := HK1.out; omega
                                    case rel => exact ⟨(wrap64 (x19_1 + 1)), (by first | rfl | (simp; done) | (simp [*]; done)), H', ⟨by have := HK1.out; omega⟩, ⟨by (with_reducible repeat (first | apply Kd.R_alloc | apply Kd.R_drewN | apply Kd.R_drew)); exact HO_5.out⟩, ⟨by (with_reducible repeat (first | apply Kd.R_alloc | apply Kd.R_drewN | apply Kd.R_drew)); exact HO_7.out⟩, ⟨by (with_reducible repeat (first | apply Kd.R_alloc | apply Kd.R_drewN | apply Kd.R_drew)); exact HO_10.out⟩, ⟨by (with_reducible repeat (first | refine blk_drewN ?_ _ | refine blk_drew ?_ | refine blk_alloc ?_ _)); exact BK383.out⟩, ⟨by repeat (first | (with_reducible first | exact HB.out | apply below_alloc | apply pw_below_drewN | apply below_drew1 | refine below_set ?_ GE383.out) | exact HB.out)⟩⟩
                                · rw [if_neg c57] at H
                                  exact absurd H (by simp)
                              · rw [if_neg c56] at H
                                exact absurd H (by simp)
                            · rw [if_neg c55] at H
                              exact absurd H (by simp)
                          · rw [if_neg c53] at H
                            have c53b0 : decide (x19_1 < (t389.length : Int)) = false := decide_eq_false c53
                            clear c53
                            have H' := Aside0.mk H
                            clear H
                            try go_wp2
                            replace HO_5 := Aside0.mk (Kd.R_drew HO_5.out)
                            replace HO_7 := Aside0.mk (Kd.R_drew HO_7.out)
                            replace HO_10 := Aside0.mk (Kd.R_drew HO_10.out)
                            replace BK383 := Aside0.mk (blk_drew BK383.out)
                            replace HB := Aside0.mk (below_drew1 HB.out)
                            refine start_ (n := 26) (S := fun w' => True) (ds := []) #[false, false, false, false, false, false, false, false, false, false, false, false, false, false, false, false, false, false, false, false, false, false, false, false, false, false] (by kernel_rfl) rfl rfl trivial (fun hHeld => ?_); refine with_tabW laws_FnDict.tab17 laws_FnDict.bits17 (fun HT_ HW_ => ?_)
                            generalize wr.drew = w62 at HO_5 HO_7 HO_10 BK383 HB hHeld ⊢
                            refine pure_ (i := 0) (N := some 101) (v := ?_) (a' := ?_) #[true, false, false, false, false, false, false, false, false, false, false, false, false, false, false, false, false, false, false, false, false, false, false, false, false, false] rfl rfl (any_of HT_.out (by kernel_rfl)) (fun _ _ _ h => h) (Or.inl ⟨by rfl, ?_⟩) ?_ ?_
                            rotate_left
                            · intro w'
                              go_simp
                              with_reducible rfl
                            rotate_left
                            · simp only [Act.put, List.setIfInBounds_toArray, List.set_cons_zero, List.set_cons_succ, i64_w, i32_w]
                              rfl
                            refine pure_ (i := 1) (N := some 102) (v := ?_) (a' := ?_) #[true, true, false, false, false, false, false, false, false, false, false, false, false, false, false, false, false, false, false, false, false, false, false, false, false, false] rfl rfl (any_of HT_.out (by kernel_rfl)) (fun _ _ _ h => h) (Or.inl ⟨by rfl, ?_⟩) ?_ ?_
                            rotate_left
                            · intro w'
                              go_simp
                              with_reducible rfl
                            rotate_left
                            · simp only [Act.put, List.setIfInBounds_toArray, List.set_cons_zero, List.set_cons_succ, i64_w, i32_w]
                              rfl
                            refine pure_ (i := 3) (N := some 104) (v := ?_) (a' := ?_) #[true, true, false, true, false, false, false, false, false, false, false, false, false, false, false, false, false, false, false, false, false, false, false, false, false, false] rfl rfl (any_of HT_.out (by kernel_rfl)) (fun _ _ _ h => h) (Or.inl ⟨by rfl, ?_⟩) ?_ ?_
                            rotate_left
                            · intro w'
                              go_simp
                              with_reducible rfl
                            rotate_left
                            · simp only [Act.put, List.setIfInBounds_toArray, List.set_cons_zero, List.set_cons_succ, i64_w, i32_w]
                              rfl
                            refine pure_ (i := 4) (N := some 105) (v := ?_) (a' := ?_) #[true, true, false, true, true, false, false, false, false, false, false, false, false, false, false, false, false, false, false, false, false, false, false, false, false, false] rfl rfl (any_of HT_.out (by kernel_rfl)) (fun _ _ _ h => h) (Or.inl ⟨by rfl, ?_⟩) ?_ ?_
                            rotate_left
                            · intro w'
                              go_simp
                              with_reducible rfl
                            rotate_left
                            · simp only [Act.put, List.setIfInBounds_toArray, List.set_cons_zero, List.set_cons_succ, i64_w, i32_w]
                              rfl
                            refine one_ (i := 2) (N := some 103) #[true, true, true, true, true, false, false, false, false, false, false, false, false, false, false, false, false, false, false, false, false, false, false, false, false, false] rfl rfl (one_of HT_.out (by kernel_rfl)) (by decide) (fun K hK => ?_)
                            refine goes_ Tryd.func24 (by kernel_rfl) rfl #[.slice Ao35 t384.length co35, .int .i64 x19_1] (by rfl) rfl rfl (by (try simp only [List.map_toArray, List.map_cons, List.map_nil]); first | done | rfl | (simp only [List.length_drop, List.length_take]; rfl)) ?_
                            with_reducible refine (impl_TokenOK.calls k1 _ _ t384 x19_1 t411 _ ?side1 ?side2 A50.out).mono ?_
                            (case side1 => repeat (first | exact (Kd.R_reads' HO_7.out).2.2 | (with_reducible refine Kd.C_alloc ?_ _) | (with_reducible refine Kd.C_drewN ?_ _) | (with_reducible refine Kd.C_drew ?_)))
                            (case side2 => exact (Kd.R_reads' HO_7.out).2.1)
                            rintro e w63 ⟨rfl, hb⟩
                            refine ⟨_, rfl, ?_⟩
                            replace HO_5 := Aside0.mk (Kd.R_below (by (with_reducible repeat (first | apply Kd.R_alloc | apply Kd.R_drewN | apply Kd.R_drew)); exact HO_5.out) hb)
                            replace HO_7 := Aside0.mk (Kd.R_below (by (with_reducible repeat (first | apply Kd.R_alloc | apply Kd.R_drewN | apply Kd.R_drew)); exact HO_7.out) hb)
                            replace HO_10 := Aside0.mk (Kd.R_below (by (with_reducible repeat (first | apply Kd.R_alloc | apply Kd.R_drewN | apply Kd.R_drew)); exact HO_10.out) hb)
                            replace BK383 := Aside0.mk (blk_below (g := gb383) (o := .cells #[.string t380, .int .i64 t381, .int .i64 t382] 39 (0, 0)) (by (with_reducible repeat (first | refine blk_drewN ?_ _ | refine blk_drew ?_ | refine blk_alloc ?_ _)); exact BK383.out) hb)
                            replace HB := Aside0.mk (below_step (by repeat (first | (with_reducible first | exact HB.out | apply below_alloc | apply pw_below_drewN | apply below_drew1 | refine below_set ?_ GE383.out) | exact HB.out)) hb)
                            (try clear hb)
                            (try clear hb2)
                            (try clear hk)
                            (try clear hi)
                            refine hK.out _ _ trivial (fun hHeld => ?_)
                            clear hK K
                            refine norm_ (a' := ?_) ?_ ?_
                            rotate_left
                            · show Act.put _ (some 103) _ = _
                              simp only [Act.put, List.setIfInBounds_toArray, List.set_cons_zero, List.set_cons_succ, i64_w, i32_w]
                              rfl
                            refine one_ (i := 5) (N := some 106) #[true, true, true, true, true, true, false, false, false, false, false, false, false, false, false, false, false, false, false, false, false, false, false, false, false, false] rfl rfl (one_of HT_.out (by kernel_rfl)) (by decide) (fun K hK => ?_)
                            refine goes_ Tryd.func23 (by kernel_rfl) rfl #[.slice Ao36 t389.length co36, .int .i64 x19_1] (by rfl) rfl rfl (by (try simp only [List.map_toArray, List.map_cons, List.map_nil]); first | done | rfl | (simp only [List.length_drop, List.length_take]; rfl)) ?_
                            with_reducible refine (spec_TokenOK.calls k1 _ _ t389 x19_1 t412 _ ?side1 ?side2 A51.out).mono ?_
                            (case side1 => repeat (first | exact (Kd.R_reads' HO_10.out).2.2 | (with_reducible refine Kd.C_alloc ?_ _) | (with_reducible refine Kd.C_drewN ?_ _) | (with_reducible refine Kd.C_drew ?_)))
                            (case side2 => exact (Kd.R_reads' HO_10.out).2.1)
                            rintro e w64 ⟨rfl, hb⟩
                            refine ⟨_, rfl, ?_⟩
                            replace HO_5 := Aside0.mk (Kd.R_below (by (with_reducible repeat (first | apply Kd.R_alloc | apply Kd.R_drewN | apply Kd.R_drew)); exact HO_5.out) hb)
                            replace HO_7 := Aside0.mk (Kd.R_below (by (with_reducible repeat (first | apply Kd.R_alloc | apply Kd.R_drewN | apply Kd.R_drew)); exact HO_7.out) hb)
                            replace HO_10 := Aside0.mk (Kd.R_below (by (with_reducible repeat (first | apply Kd.R_alloc | apply Kd.R_drewN | apply Kd.R_drew)); exact HO_10.out) hb)
                            replace BK383 := Aside0.mk (blk_below (g := gb383) (o := .cells #[.string t380, .int .i64 t381, .int .i64 t382] 39 (0, 0)) (by (with_reducible repeat (first | refine blk_drewN ?_ _ | refine blk_drew ?_ | refine blk_alloc ?_ _)); exact BK383.out) hb)
                            replace HB := Aside0.mk (below_step (by repeat (first | (with_reducible first | exact HB.out | apply below_alloc | apply pw_below_drewN | apply below_drew1 | refine below_set ?_ GE383.out) | exact HB.out)) hb)
                            (try clear hb)
                            (try clear hb2)
                            (try clear hk)
                            (try clear hi)
                            refine hK.out _ _ trivial (fun hHeld => ?_)
                            clear hK K
                            refine norm_ (a' := ?_) ?_ ?_
                            rotate_left
                            · show Act.put _ (some 106) _ = _
                              simp only [Act.put, List.setIfInBounds_toArray, List.set_cons_zero, List.set_cons_succ, i64_w, i32_w]
                              rfl
                            refine pure_ (i := 6) (N := some 107) (v := ?_) (a' := ?_) #[true, true, true, true, true, true, true, false, false, false, false, false, false, false, false, false, false, false, false, false, false, false, false, false, false, false] rfl rfl (any_of HT_.out (by kernel_rfl)) (fun _ _ _ h => h) (Or.inl ⟨by rfl, ?_⟩) ?_ ?_
                            rotate_left
                            · intro w'
                              go_simp
                              with_reducible rfl
                            rotate_left
                            · simp only [Act.put, List.setIfInBounds_toArray, List.set_cons_zero, List.set_cons_succ, i64_w, i32_w]
                              rfl
                            refine pure_ (i := 7) (N := some 108) (v := ?_) (a' := ?_) #[true, true, true, true, true, true, true, true, false, false, false, false, false, false, false, false, false, false, false, false, false, false, false, false, false, false] rfl rfl (any_of HT_.out (by kernel_rfl)) (fun _ _ _ h => h) (Or.inl ⟨by rfl, ?_⟩) ?_ ?_
                            rotate_left
                            · intro w'
                              go_simp
                              with_reducible rfl
                            rotate_left
                            · simp only [Act.put, List.setIfInBounds_toArray, List.set_cons_zero, List.set_cons_succ, i64_w, i32_w]
                              rfl
                            refine pure_ (i := 8) (N := some 109) (v := ?_) (a' := ?_) #[true, true, true, true, true, true, true, true, true, false, false, false, false, false, false, false, false, false, false, false, false, false, false, false, false, false] rfl rfl (any_of HT_.out (by kernel_rfl)) (fun _ _ _ h => h) (Or.inl ⟨by rfl, ?_⟩) ?_ ?_
                            rotate_left
                            · intro w'
                              go_simp
                              with_reducible rfl
                            rotate_left
                            · simp only [Act.put, List.setIfInBounds_toArray, List.set_cons_zero, List.set_cons_succ, i64_w, i32_w]
                              rfl
                            refine pure_ (i := 9) (N := some 110) (v := ?_) (a' := ?_) #[true, true, true, true, true, true, true, true, true, true, false, false, false, false, false, false, false, false, false, false, false, false, false, false, false, false] rfl rfl (any_of HT_.out (by kernel_rfl)) (fun _ _ _ h => h) (Or.inl ⟨by rfl, ?_⟩) ?_ ?_
                            rotate_left
                            · intro w'
                              go_simp
                              with_reducible rfl
                            rotate_left
                            · simp only [Act.put, List.setIfInBounds_toArray, List.set_cons_zero, List.set_cons_succ, i64_w, i32_w]
                              rfl
                            refine pure_ (i := 10) (N := some 111) (v := ?_) (a' := ?_) #[true, true, true, true, true, true, true, true, true, true, true, false, false, false, false, false, false, false, false, false, false, false, false, false, false, false] rfl rfl (any_of HT_.out (by kernel_rfl)) (fun _ _ _ h => h) (Or.inl ⟨by rfl, ?_⟩) ?_ ?_
                            rotate_left
                            · intro w'
                              go_simp
                              with_reducible rfl
                            rotate_left
                            · simp only [Act.put, List.setIfInBounds_toArray, List.set_cons_zero, List.set_cons_succ, i64_w, i32_w]
                              rfl
                            refine pure_ (i := 11) (N := some 112) (v := ?_) (a' := ?_) #[true, true, true, true, true, true, true, true, true, true, true, true, false, false, false, false, false, false, false, false, false, false, false, false, false, false] rfl rfl (any_of HT_.out (by kernel_rfl)) (fun _ _ _ h => h) (Or.inl ⟨by rfl, ?_⟩) ?_ ?_
                            rotate_left
                            · intro w'
                              go_simp
                              with_reducible rfl
                            rotate_left
                            · simp only [Act.put, List.setIfInBounds_toArray, List.set_cons_zero, List.set_cons_succ, i64_w, i32_w]
                              rfl
                            refine pure_ (i := 12) (N := some 113) (v := ?_) (a' := ?_) #[true, true, true, true, true, true, true, true, true, true, true, true, true, false, false, false, false, false, false, false, false, false, false, false, false, false] rfl rfl (any_of HT_.out (by kernel_rfl)) (fun _ _ _ h => h) (Or.inl ⟨by rfl, ?_⟩) ?_ ?_
                            rotate_left
                            · intro w'
                              go_simp
                              with_reducible rfl
                            rotate_left
                            · simp only [Act.put, List.setIfInBounds_toArray, List.set_cons_zero, List.set_cons_succ, i64_w, i32_w]
                              rfl
                            refine pure_ (i := 13) (N := some 114) (v := undef) (a' := ?_) #[true, true, true, true, true, true, true, true, true, true, true, true, true, true, false, false, false, false, false, false, false, false, false, false, false, false] rfl rfl (any_of HT_.out (by kernel_rfl)) (fun _ _ _ h => h) (Or.inr ⟨by rfl, rfl⟩) ?_ ?_
                            rotate_left
                            · simp only [Act.put, List.setIfInBounds_toArray, List.set_cons_zero, List.set_cons_succ, i64_w, i32_w]
                              rfl
                            refine pure_ (i := 14) (N := some 115) (v := undef) (a' := ?_) #[true, true, true, true, true, true, true, true, true, true, true, true, true, true, true, false, false, false, false, false, false, false, false, false, false, false] rfl rfl (any_of HT_.out (by kernel_rfl)) (fun _ _ _ h => h) (Or.inr ⟨by rfl, rfl⟩) ?_ ?_
                            rotate_left
                            · simp only [Act.put, List.setIfInBounds_toArray, List.set_cons_zero, List.set_cons_succ, i64_w, i32_w]
                              rfl
                            refine pure_ (i := 15) (N := some 116) (v := undef) (a' := ?_) #[true, true, true, true, true, true, true, true, true, true, true, true, true, true, true, true, false, false, false, false, false, false, false, false, false, false] rfl rfl (any_of HT_.out (by kernel_rfl)) (fun _ _ _ h => h) (Or.inr ⟨by rfl, rfl⟩) ?_ ?_
                            rotate_left
                            · simp only [Act.put, List.setIfInBounds_toArray, List.set_cons_zero, List.set_cons_succ, i64_w, i32_w]
                              rfl
                            refine pure_ (i := 16) (N := some 117) (v := undef) (a' := ?_) #[true, true, true, true, true, true, true, true, true, true, true, true, true, true, true, true, true, false, false, false, false, false, false, false, false, false] rfl rfl (any_of HT_.out (by kernel_rfl)) (fun _ _ _ h => h) (Or.inr ⟨by rfl, rfl⟩) ?_ ?_
                            rotate_left
                            · simp only [Act.put, List.setIfInBounds_toArray, List.set_cons_zero, List.set_cons_succ, i64_w, i32_w]
                              rfl
                            refine pure_ (i := 17) (N := some 118) (v := undef) (a' := ?_) #[true, true, true, true, true, true, true, true, true, true, true, true, true, true, true, true, true, true, false, false, false, false, false, false, false, false] rfl rfl (any_of HT_.out (by kernel_rfl)) (fun _ _ _ h => h) (Or.inr ⟨by rfl, rfl⟩) ?_ ?_
                            rotate_left
                            · simp only [Act.put, List.setIfInBounds_toArray, List.set_cons_zero, List.set_cons_succ, i64_w, i32_w]
                              rfl
                            refine pure_ (i := 18) (N := some 119) (v := undef) (a' := ?_) #[true, true, true, true, true, true, true, true, true, true, true, true, true, true, true, true, true, true, true, false, false, false, false, false, false, false] rfl rfl (any_of HT_.out (by kernel_rfl)) (fun _ _ _ h => h) (Or.inr ⟨by rfl, rfl⟩) ?_ ?_
                            rotate_left
                            · simp only [Act.put, List.setIfInBounds_toArray, List.set_cons_zero, List.set_cons_succ, i64_w, i32_w]
                              rfl
                            refine pure_ (i := 19) (N := some 120) (v := undef) (a' := ?_) #[true, true, true, true, true, true, true, true, true, true, true, true, true, true, true, true, true, true, true, true, false, false, false, false, false, false] rfl rfl (any_of HT_.out (by kernel_rfl)) (fun _ _ _ h => h) (Or.inr ⟨by rfl, rfl⟩) ?_ ?_
                            rotate_left
                            · simp only [Act.put, List.setIfInBounds_toArray, List.set_cons_zero, List.set_cons_succ, i64_w, i32_w]
                              rfl
                            refine pure_ (i := 20) (N := some 121) (v := undef) (a' := ?_) #[true, true, true, true, true, true, true, true, true, true, true, true, true, true, true, true, true, true, true, true, true, false, false, false, false, false] rfl rfl (any_of HT_.out (by kernel_rfl)) (fun _ _ _ h => h) (Or.inr ⟨by rfl, rfl⟩) ?_ ?_
                            rotate_left
                            · simp only [Act.put, List.setIfInBounds_toArray, List.set_cons_zero, List.set_cons_succ, i64_w, i32_w]
                              rfl
                            refine pure_ (i := 21) (N := some 122) (v := undef) (a' := ?_) #[true, true, true, true, true, true, true, true, true, true, true, true, true, true, true, true, true, true, true, true, true, true, false, false, false, false] rfl rfl (any_of HT_.out (by kernel_rfl)) (fun _ _ _ h => h) (Or.inr ⟨by rfl, rfl⟩) ?_ ?_
                            rotate_left
                            · simp only [Act.put, List.setIfInBounds_toArray, List.set_cons_zero, List.set_cons_succ, i64_w, i32_w]
                              rfl
                            refine pure_ (i := 22) (N := some 123) (v := undef) (a' := ?_) #[true, true, true, true, true, true, true, true, true, true, true, true, true, true, true, true, true, true, true, true, true, true, true, false, false, false] rfl rfl (any_of HT_.out (by kernel_rfl)) (fun _ _ _ h => h) (Or.inr ⟨by rfl, rfl⟩) ?_ ?_
                            rotate_left
                            · simp only [Act.put, List.setIfInBounds_toArray, List.set_cons_zero, List.set_cons_succ, i64_w, i32_w]
                              rfl
                            refine pure_ (i := 23) (N := some 124) (v := undef) (a' := ?_) #[true, true, true, true, true, true, true, true, true, true, true, true, true, true, true, true, true, true, true, true, true, true, true, true, false, false] rfl rfl (any_of HT_.out (by kernel_rfl)) (fun _ _ _ h => h) (Or.inr ⟨by rfl, rfl⟩) ?_ ?_
                            rotate_left
                            · simp only [Act.put, List.setIfInBounds_toArray, List.set_cons_zero, List.set_cons_succ, i64_w, i32_w]
                              rfl
                            refine pure_ (i := 24) (N := some 125) (v := ?_) (a' := ?_) #[true, true, true, true, true, true, true, true, true, true, true, true, true, true, true, true, true, true, true, true, true, true, true, true, true, false] rfl rfl (any_of HT_.out (by kernel_rfl)) (fun _ _ _ h => h) (Or.inl ⟨by rfl, ?_⟩) ?_ ?_
                            rotate_left
                            · intro w'
                              go_simp
                              with_reducible rfl
                            rotate_left
                            · simp only [Act.put, List.setIfInBounds_toArray, List.set_cons_zero, List.set_cons_succ, i64_w, i32_w]
                              rfl
                            refine pure_ (i := 25) (N := some 126) (v := ?_) (a' := ?_) #[true, true, true, true, true, true, true, true, true, true, true, true, true, true, true, true, true, true, true, true, true, true, true, true, true, true] rfl rfl (any_of HT_.out (by kernel_rfl)) (fun _ _ _ h => h) (Or.inl ⟨by rfl, ?_⟩) ?_ ?_
                            rotate_left
                            · intro w'
                              go_simp
                              with_reducible rfl
                            rotate_left
                            · simp only [Act.put, List.setIfInBounds_toArray, List.set_cons_zero, List.set_cons_succ, i64_w, i32_w]
                              rfl
                            refine done_ (done_of HT_.out (by kernel_rfl)) ?_
                            try go_wp2
                            go_roundg k1
                            case measure => have := HK1.out; omega
                            case rel => exact ⟨(wrap64 (x19_1 + 1)), (by first | rfl | (simp; done) | (simp [*]; done)), H', ⟨by have := HK1.out; omega⟩, ⟨by (with_reducible repeat (first | apply Kd.R_alloc | apply Kd.R_drewN | apply Kd.R_drew)); exact HO_5.out⟩, ⟨by (with_reducible repeat (first | apply Kd.R_alloc | apply Kd.R_drewN | apply Kd.R_drew)); exact HO_7.out⟩, ⟨by (with_reducible repeat (first | apply Kd.R_alloc | apply Kd.R_drewN | apply Kd.R_drew)); exact HO_10.out⟩, ⟨by (with_reducible repeat (first | refine blk_drewN ?_ _ | refine blk_drew ?_ | refine blk_alloc ?_ _)); exact BK383.out⟩, ⟨by repeat (first | (with_reducible first | exact HB.out | apply below_alloc | apply pw_below_drewN | apply below_drew1 | refine below_set ?_ GE383.out) | exact HB.out)⟩⟩
                      · rw [if_neg c49] at H
                        have c49b0 : decide (x19_1 ≤ (t389.length : Int)) = false := decide_eq_false c49
                        clear c49
                        by_cases c65 : t405 = 0
                        · rw [if_pos c65] at H
                          have c65b0 : (t405 == 0) = true := beq_iff_eq.mpr c65
                          have c65b1 : (t405 != 0) = false := bne_eq_false_iff_eq.mpr c65
                          clear c65
                          by_cases c66 : t404 = t387
                          · rw [if_pos c66] at H
                            have c66b0 : (t404 == t387) = true := beq_iff_eq.mpr c66
                            have c66b1 : (t404 != t387) = false := bne_eq_false_iff_eq.mpr c66
                            clear c66
                            by_cases c67 : t387 = (t389.length : Int)
                            · rw [if_pos c67] at H
                              have c67b0 : (t387 == (t389.length : Int)) = true := beq_iff_eq.mpr c67
                              have c67b1 : (t387 != (t389.length : Int)) = false := bne_eq_false_iff_eq.mpr c67
                              clear c67
                              by_cases c68 : t408 = 0
                              · rw [if_pos c68] at H
                                have c68b0 : (t408 == 0) = true := beq_iff_eq.mpr c68
                                have c68b1 : (t408 != 0) = false := bne_eq_false_iff_eq.mpr c68
                                clear c68
                                by_cases c69 : t407 = t387
                                · rw [if_pos c69] at H
                                  have c69b0 : (t407 == t387) = true := beq_iff_eq.mpr c69
                                  have c69b1 : (t407 != t387) = false := bne_eq_false_iff_eq.mpr c69
                                  clear c69
                                  by_cases c70 : t410 = 10
                                  · rw [if_pos c70] at H
                                    have c70b0 : (t410 == 10) = true := beq_iff_eq.mpr c70
                                    have c70b1 : (t410 != 10) = false := bne_eq_false_iff_eq.mpr c70
                                    clear c70
                                    replace H := Option.bind_eq_some_iff.mp H
                                    obtain ⟨t415, A710, H⟩ := H
                                    replace H : (if t415 = true then ((impl_DictOK.f k1 t384).bind fun t416 => (if t416 = true then ((impl_TokenOK.f k1 t384 0).bind fun t417 => (some (!t417))) else (some false))) else (some false)) = some true := H
                                    have A71 := Aside0.mk A710
                                    clear A710
                                    by_cases c72 : t415 = true
                                    · subst c72
                                      have H1 : ((impl_DictOK.f k1 t384).bind fun t416 => (if t416 = true then ((impl_TokenOK.f k1 t384 0).bind fun t417 => (some (!t417))) else (some false))) = some true := by rw [if_pos rfl] at H; first | done | exact H
                                      clear H
                                      have H := H1
                                      clear H1
                                      replace H := Option.bind_eq_some_iff.mp H
                                      obtain ⟨t416, A730, H⟩ := H
                                      replace H : (if t416 = true then ((impl_TokenOK.f k1 t384 0).bind fun t417 => (some (!t417))) else (some false)) = some true := H
                                      have A73 := Aside0.mk A730
                                      clear A730
                                      by_cases c74 : t416 = true
                                      · subst c74
                                        have H1 : ((impl_TokenOK.f k1 t384 0).bind fun t417 => (some (!t417))) = some true := by rw [if_pos rfl] at H; first | done | exact H
                                        clear H
                                        have H := H1
                                        clear H1
                                        replace H := Option.bind_eq_some_iff.mp H
                                        obtain ⟨t417, A750, H⟩ := H
                                        replace H : (some (!t417)) = some true := H
                                        have A75 := Aside0.mk A750
                                        clear A750
                                        have Hr_ := Option.some.inj H
                                        go_wp2_with (first | (go_at_call 20; (with_reducible refine (impl_KernelSame.calls k1 (fun k_ => some k_ = (.slice Ao35 t384.length co35 : Value).ownBlock) _ _ t384 true _ ?side1 A71.out).mono ?_); (case side1 => exact Kd.R_V (Kd.R_tight rfl (HO_7.out))); rintro e w76 ⟨rfl, hb⟩; replace HO_5 := Aside0.mk (Kd.R_below (by (with_reducible repeat (first | apply Kd.R_alloc | apply Kd.R_drewN | apply Kd.R_drew)); exact HO_5.out) hb); replace HO_7 := Aside0.mk (Kd.R_below (by (with_reducible repeat (first | apply Kd.R_alloc | apply Kd.R_drewN | apply Kd.R_drew)); exact HO_7.out) hb); replace HO_10 := Aside0.mk (Kd.R_below (by (with_reducible repeat (first | apply Kd.R_alloc | apply Kd.R_drewN | apply Kd.R_drew)); exact HO_10.out) hb); replace BK383 := Aside0.mk (blk_below (g := gb383) (o := .cells #[.string t380, .int .i64 t381, .int .i64 t382] 39 (0, 0)) (by (with_reducible repeat (first | refine blk_drewN ?_ _ | refine blk_drew ?_ | refine blk_alloc ?_ _)); exact BK383.out) hb); replace HB := Aside0.mk (below_step (by repeat (first | (with_reducible first | exact HB.out | apply below_alloc | apply pw_below_drewN | apply below_drew1 | refine below_set ?_ GE383.out) | exact HB.out)) hb); (try clear hb); (try clear hb2); (try clear hk); (try clear hi)) | (go_at_call 22; (with_reducible refine (impl_DictOK.calls k1 _ _ t384 true _ ?side1 ?side2 A73.out).mono ?_); (case side1 => repeat (first | exact (Kd.R_reads' HO_7.out).2.2 | (with_reducible refine Kd.C_alloc ?_ _) | (with_reducible refine Kd.C_drewN ?_ _) | (with_reducible refine Kd.C_drew ?_))); (case side2 => exact (Kd.R_reads' HO_7.out).2.1); rintro e w77 ⟨rfl, hb⟩; replace HO_5 := Aside0.mk (Kd.R_below (by (with_reducible repeat (first | apply Kd.R_alloc | apply Kd.R_drewN | apply Kd.R_drew)); exact HO_5.out) hb); replace HO_7 := Aside0.mk (Kd.R_below (by (with_reducible repeat (first | apply Kd.R_alloc | apply Kd.R_drewN | apply Kd.R_drew)); exact HO_7.out) hb); replace HO_10 := Aside0.mk (Kd.R_below (by (with_reducible repeat (first | apply Kd.R_alloc | apply Kd.R_drewN | apply Kd.R_drew)); exact HO_10.out) hb); replace BK383 := Aside0.mk (blk_below (g := gb383) (o := .cells #[.string t380, .int .i64 t381, .int .i64 t382] 39 (0, 0)) (by (with_reducible repeat (first | refine blk_drewN ?_ _ | refine blk_drew ?_ | refine blk_alloc ?_ _)); exact BK383.out) hb); replace HB := Aside0.mk (below_step (by repeat (first | (with_reducible first | exact HB.out | apply below_alloc | apply pw_below_drewN | apply below_drew1 | refine below_set ?_ GE383.out) | exact HB.out)) hb); (try clear hb); (try clear hb2); (try clear hk); (try clear hi)) | (go_at_call 24; (with_reducible refine (impl_TokenOK.calls k1 _ _ t384 0 t417 _ ?side1 ?side2 A75.out).mono ?_); (case side1 => repeat (first | exact (Kd.R_reads' HO_7.out).2.2 | (with_reducible refine Kd.C_alloc ?_ _) | (with_reducible refine Kd.C_drewN ?_ _) | (with_reducible refine Kd.C_drew ?_))); (case side2 => exact (Kd.R_reads' HO_7.out).2.1); rintro e w78 ⟨rfl, hb⟩; replace HO_5 := Aside0.mk (Kd.R_below (by (with_reducible repeat (first | apply Kd.R_alloc | apply Kd.R_drewN | apply Kd.R_drew)); exact HO_5.out) hb); replace HO_7 := Aside0.mk (Kd.R_below (by (with_reducible repeat (first | apply Kd.R_alloc | apply Kd.R_drewN | apply Kd.R_drew)); exact HO_7.out) hb); replace HO_10 := Aside0.mk (Kd.R_below (by (with_reducible repeat (first | apply Kd.R_alloc | apply Kd.R_drewN | apply Kd.R_drew)); exact HO_10.out) hb); replace BK383 := Aside0.mk (blk_below (g := gb383) (o := .cells #[.string t380, .int .i64 t381, .int .i64 t382] 39 (0, 0)) (by (with_reducible repeat (first | refine blk_drewN ?_ _ | refine blk_drew ?_ | refine blk_alloc ?_ _)); exact BK383.out) hb); replace HB := Aside0.mk (below_step (by repeat (first | (with_reducible first | exact HB.out | apply below_alloc | apply pw_below_drewN | apply below_drew1 | refine below_set ?_ GE383.out) | exact HB.out)) hb); (try clear hb); (try clear hb2); (try clear hk); (try clear hi)))
                                        all_goals go_ret
                                        exact ⟨by first | rfl | (simp [errW_none, errW_some] <;> rfl) | (simp [*, errW_none, errW_some] <;> rfl), by repeat (first | (with_reducible first | exact HB.out | apply below_alloc | apply pw_below_drewN | apply below_drew1 | refine below_set ?_ GE383.out) | exact HB.out)⟩
                                        all_goals (exfalso; simp only [beq_iff_eq, decide_eq_decide, decide_eq_true_eq, decide_eq_false_iff_not] at *; omega)
                                      · replace c74 := Bool.eq_false_iff.mpr c74
                                        subst c74
                                        have H1 : (some false) = some true := by rw [if_neg (show ¬ (false = true) by decide)] at H; first | done | exact H
                                        clear H
                                        have H := H1
                                        clear H1
                                        exact absurd (Option.some.inj H) (by decide)
                                    · replace c72 := Bool.eq_false_iff.mpr c72
                                      subst c72
                                      have H1 : (some false) = some true := by rw [if_neg (show ¬ (false = true) by decide)] at H; first | done | exact H
                                      clear H
                                      have H := H1
                                      clear H1
                                      exact absurd (Option.some.inj H) (by decide)
                                  · rw [if_neg c70] at H
                                    have c70b0 : (t410 == 10) = false := beq_eq_false_iff_ne.mpr c70
                                    have c70b1 : (t410 != 10) = true := bne_iff_ne.mpr c70
                                    exact absurd (Option.some.inj H) (by decide)
                                · rw [if_neg c69] at H
                                  have c69b0 : (t407 == t387) = false := beq_eq_false_iff_ne.mpr c69
                                  have c69b1 : (t407 != t387) = true := bne_iff_ne.mpr c69
                                  exact absurd (Option.some.inj H) (by decide)
                              · rw [if_neg c68] at H
                                have c68b0 : (t408 == 0) = false := beq_eq_false_iff_ne.mpr c68
                                have c68b1 : (t408 != 0) = true := bne_iff_ne.mpr c68
                                exact absurd (Option.some.inj H) (by decide)
                            · rw [if_neg c67] at H
                              have c67b0 : (t387 == (t389.length : Int)) = false := beq_eq_false_iff_ne.mpr c67
                              have c67b1 : (t387 != (t389.length : Int)) = true := bne_iff_ne.mpr c67
                              exact absurd (Option.some.inj H) (by decide)
                          · rw [if_neg c66] at H
                            have c66b0 : (t404 == t387) = false := beq_eq_false_iff_ne.mpr c66
                            have c66b1 : (t404 != t387) = true := bne_iff_ne.mpr c66
                            exact absurd (Option.some.inj H) (by decide)
                        · rw [if_neg c65] at H
                          have c65b0 : (t405 == 0) = false := beq_eq_false_iff_ne.mpr c65
                          have c65b1 : (t405 != 0) = true := bne_iff_ne.mpr c65
                          exact absurd (Option.some.inj H) (by decide)
                · rw [if_neg c20] at H
                  have c20b0 : (t393 == 0) = false := beq_eq_false_iff_ne.mpr c20
                  have c20b1 : (t393 != 0) = true := bne_iff_ne.mpr c20
                  have Hr_ := Option.some.inj H
                  go_enter Tryd.func9, Tryd.ntmps9
                  go_wp2_with (first | ((with_reducible refine gate_callee (f := 31) rfl ?_); refine goesL_ (some 29) rfl rfl Tryd.func31 (by kernel_rfl) rfl #[.slice A0 l0.length c0] rfl (by (try simp only [List.map_toArray, List.map_cons, List.map_nil]); first | done | rfl | (simp only [List.length_drop, List.length_take]; rfl)) ?_; (with_reducible refine (spec_WordsDrawn.calls k _ _ l0 t377 _ ?side1 ?side2 A5.out).mono ?_); (case side1 => repeat (first | exact HR0.out | (with_reducible refine Kd.C_alloc ?_ _) | (with_reducible refine Kd.C_drewN ?_ _) | (with_reducible refine Kd.C_drew ?_))); (case side2 => exact HC0.out); rintro e w79 ⟨v378, rfl, ho0, hb⟩; refine ⟨_, rfl, ?_⟩; have HO379 := Aside0.mk (Kd.R_lower ho0 (below_size (by repeat (first | (with_reducible first | exact HB.out | apply below_alloc | apply pw_below_drewN | apply below_drew1) | exact HB.out)))); replace HB := Aside0.mk (below_step (by repeat (first | (with_reducible first | exact HB.out | apply below_alloc | apply pw_below_drewN | apply below_drew1) | exact HB.out)) hb); (try clear hb); (try clear hb2); (try clear hk); (try clear hi); (try clear ho0)) | ((with_reducible refine gate_callee (f := 32) rfl ?_); refine goesL_ (some 31) rfl rfl Tryd.func32 (by kernel_rfl) rfl #[.slice A1 l1.length c1] rfl (by (try simp only [List.map_toArray, List.map_cons, List.map_nil]); first | done | rfl | (simp only [List.length_drop, List.length_take]; rfl)) ?_; (with_reducible refine (spec_UserWord.calls _ _ l1 t380 t381 t382 _ ?side1 ?side2 A6.out).mono ?_); (case side1 => repeat (first | exact (Kd.C_below HR1.out HB.out) | (with_reducible refine Kd.C_alloc ?_ _) | (with_reducible refine Kd.C_drewN ?_ _) | (with_reducible refine Kd.C_drew ?_))); (case side2 => exact HC1.out); rintro e w80 ⟨rfl, hb⟩; refine ⟨_, rfl, ?_⟩; replace HO379 := Aside0.mk (Kd.R_below (by (with_reducible repeat (first | apply Kd.R_alloc | apply Kd.R_drewN | apply Kd.R_drew)); exact HO379.out) hb); replace HB := Aside0.mk (below_step (by repeat (first | (with_reducible first | exact HB.out | apply below_alloc | apply pw_below_drewN | apply below_drew1) | exact HB.out)) hb); (try clear hb); (try clear hb2); (try clear hk); (try clear hi)) | ((with_reducible refine gate_dst (N := 6) rfl ?_); (try (refine gate_guard (by rfl) ?_; dsimp only)); refine box_event ?hg (N := 6) ?hd (cs := #[.string (⟨#[]⟩ : ByteArray), .int .i64 0, .int .i64 0]) (t := 39) ?hr ?_; (case hd => rfl); (case hg => rfl); (case hr => first | (go_simp; done) | (go_simp; rfl)); intro gb383 hg w81 hbox hb; have n0_ := Aside0.mk (Kd.R_below (Kd.R_elderB (by (with_reducible repeat (first | apply Kd.R_alloc | apply Kd.R_drewN | apply Kd.R_drew)); exact HO379.out) gb383 (Nat.le_of_eq hg.symm)) hb); have n1_ := Aside0.mk (below_step (by repeat (first | (with_reducible first | exact HB.out | apply below_alloc | apply pw_below_drewN | apply below_drew1) | exact HB.out)) hb); have n2_ := Aside0.mk (hbox); have n3_ := Aside0.mk ((by rw [hg]; exact (below_size (by repeat (first | (with_reducible first | exact HB.out | apply below_alloc | apply pw_below_drewN | apply below_drew1) | exact HB.out))) : w.heap.size ≤ gb383)); have n4_ := Aside0.mk ((by rw [hg]; exact (below_size (by repeat (first | (with_reducible first | exact HB.out | apply below_alloc | apply pw_below_drewN | apply below_drew1) | exact HB.out))) : w.heap.size ≤ gb383)); clear HO379; clear HB; have HO379 := n0_; have HB := n1_; have BK383 := n2_; have GW383 := n3_; have GE383 := n4_; clear n0_ n1_ n2_ n3_ n4_; clear hb hbox hg; have hcz82_0 : w81.cell? ⟨gb383, 0, none⟩ = some (.string (⟨#[]⟩ : ByteArray)) := (blk_cell BK383.out 0).trans rfl; have hcz82_1 : w81.cell? ⟨gb383, 1, none⟩ = some (.int .i64 0) := (blk_cell BK383.out 1).trans rfl; have hcz82_2 : w81.cell? ⟨gb383, 2, none⟩ = some (.int .i64 0) := (blk_cell BK383.out 2).trans rfl; have hfz82_0 := blk_frozen BK383.out 0; have hfz82_1 := blk_frozen BK383.out 1; have hfz82_2 := blk_frozen BK383.out 2) | ((with_reducible refine gate_store (t := 39) (p := 6) rfl ?_); refine store_event (t := 39) (p := 6) (v := ?vo_w83) (w1 := (((w81.setCell ⟨gb383, 0, none⟩ (.string t380)).setCell ⟨gb383, 1, none⟩ (.int .i64 t381)).setCell ⟨gb383, 2, none⟩ (.int .i64 t382))) ?hg ?ho ?hn ?hr ?_; (case ho => rfl); (case hg => rfl); (case hn => rfl); (case hr => first | (go_simp; done) | (go_simp; rfl)); intro w83 hw; have n0_ : Aside0 (Kd.R k39 39 w83 w.heap.size (fun k_ => k_ ≠ gb383) v378 t377) := ⟨(by rw [hw]; exact (by (with_reducible repeat (first | apply Kd.R_alloc | apply Kd.R_drewN | apply Kd.R_drew)); exact Kd.R_mono (Kd.R_far (p := ⟨gb383, 2, none⟩) (Kd.R_far (p := ⟨gb383, 1, none⟩) (Kd.R_far (p := ⟨gb383, 0, none⟩) (Kd.R_mono HO379.out (fun k_ hk => (⟨hk, hk.2⟩ : _ ∧ k_ ≠ gb383))) (fun _ hk => hk.2) (.string t380)) (fun _ hk => hk.2) (.int .i64 t381)) (fun _ hk => hk.2) (.int .i64 t382)) (fun _ hk => hk.1.2)))⟩; have n1_ : Aside0 (w83.heap[gb383]? = some (.cells #[.string t380, .int .i64 t381, .int .i64 t382] 39 (0, 0))) := ⟨(by rw [hw]; exact (by (with_reducible repeat (first | refine blk_drewN ?_ _ | refine blk_drew ?_ | refine blk_alloc ?_ _)); refine blk_put (cs := #[.string t380, .int .i64 t381, .int .i64 0]) ?_ 2 _ rfl; (with_reducible repeat (first | refine blk_drewN ?_ _ | refine blk_drew ?_ | refine blk_alloc ?_ _)); refine blk_put (cs := #[.string t380, .int .i64 0, .int .i64 0]) ?_ 1 _ rfl; (with_reducible repeat (first | refine blk_drewN ?_ _ | refine blk_drew ?_ | refine blk_alloc ?_ _)); refine blk_put (cs := #[.string (⟨#[]⟩ : ByteArray), .int .i64 0, .int .i64 0]) ?_ 0 _ rfl; (with_reducible repeat (first | refine blk_drewN ?_ _ | refine blk_drew ?_ | refine blk_alloc ?_ _)); exact BK383.out))⟩; have n2_ : Aside0 (Below w.heap.size w w83) := ⟨(by rw [hw]; exact (by repeat (first | (with_reducible first | exact HB.out | apply below_alloc | apply pw_below_drewN | apply below_drew1 | refine below_set ?_ GE383.out) | exact HB.out)))⟩; clear hw; clear HO379; clear BK383; clear HB; have HO379 := n0_; have BK383 := n1_; have HB := n2_; clear n0_ n1_ n2_; have hcz84_0 : w83.cell? ⟨gb383, 0, none⟩ = some (.string t380) := (blk_cell BK383.out 0).trans rfl; have hcz84_1 : w83.cell? ⟨gb383, 1, none⟩ = some (.int .i64 t381) := (blk_cell BK383.out 1).trans rfl; have hcz84_2 : w83.cell? ⟨gb383, 2, none⟩ = some (.int .i64 t382) := (blk_cell BK383.out 2).trans rfl; have hfz84_0 := blk_frozen BK383.out 0; have hfz84_1 := blk_frozen BK383.out 1; have hfz84_2 := blk_frozen BK383.out 2; obtain ⟨Ao85, co85, eo85⟩ := Kd.R_slice HO379.out; subst eo85) | ((with_reducible refine gate_callee (f := 28) rfl ?_); refine goesL_ (some 35) rfl rfl Tryd.func28 (by kernel_rfl) rfl #[.slice Ao85 t377.length co85, .agg #[.string t380, .int .i64 t381, .int .i64 t382]] rfl (by (try simp only [List.map_toArray, List.map_cons, List.map_nil]); first | done | rfl | (simp only [List.length_drop, List.length_take]; rfl)) ?_; (with_reducible refine (impl_AddWord.calls k (fun k_ => some k_ = (.slice Ao85 t377.length co85 : Value).ownBlock) _ _ t377 t380 t381 t382 t384 t387 t388 _ ?side1 A7.out).mono ?_); (case side1 => exact Kd.R_V (Kd.R_tight rfl (HO379.out))); rintro e w86 ⟨v385, rfl, ho0, hb⟩; refine ⟨_, rfl, ?_⟩; have n0_ := Aside0.mk (Kd.R_elder' (by (with_reducible repeat (first | apply Kd.R_alloc | apply Kd.R_drewN | apply Kd.R_drew)); exact HO379.out) (Kd.R_base ho0) hb); have n1_ := Aside0.mk (Kd.R_lower (Kd.R_newB (Kd.R_new' (Kd.R_mono (ok' := fun k_ => True) ho0 (fun _ hk_ => trivial)) (Kd.R_lt (by (with_reducible repeat (first | apply Kd.R_alloc | apply Kd.R_drewN | apply Kd.R_drew)); exact HO379.out))) (g := gb383) (o := .cells #[.string t380, .int .i64 t381, .int .i64 t382] 39 (0, 0)) (by (with_reducible repeat (first | refine blk_drewN ?_ _ | refine blk_drew ?_ | refine blk_alloc ?_ _)); exact BK383.out)) (below_size (by repeat (first | (with_reducible first | exact HB.out | apply below_alloc | apply pw_below_drewN | apply below_drew1 | refine below_set ?_ GE383.out) | exact HB.out)))); have n2_ := Aside0.mk (blk_below (g := gb383) (o := .cells #[.string t380, .int .i64 t381, .int .i64 t382] 39 (0, 0)) (by (with_reducible repeat (first | refine blk_drewN ?_ _ | refine blk_drew ?_ | refine blk_alloc ?_ _)); exact BK383.out) hb); have n3_ := Aside0.mk (below_step (by repeat (first | (with_reducible first | exact HB.out | apply below_alloc | apply pw_below_drewN | apply below_drew1 | refine below_set ?_ GE383.out) | exact HB.out)) hb); clear HO379; clear BK383; clear HB; have HO379 := n0_; have HO386 := n1_; have BK383 := n2_; have HB := n3_; clear n0_ n1_ n2_ n3_; (try clear hb); (try clear hb2); (try clear hk); (try clear hi); (try clear ho0); have hcz87_0 : w86.cell? ⟨gb383, 0, none⟩ = some (.string t380) := (blk_cell BK383.out 0).trans rfl; have hcz87_1 : w86.cell? ⟨gb383, 1, none⟩ = some (.int .i64 t381) := (blk_cell BK383.out 1).trans rfl; have hcz87_2 : w86.cell? ⟨gb383, 2, none⟩ = some (.int .i64 t382) := (blk_cell BK383.out 2).trans rfl; have hfz87_0 := blk_frozen BK383.out 0; have hfz87_1 := blk_frozen BK383.out 1; have hfz87_2 := blk_frozen BK383.out 2) | ((with_reducible refine gate_callee (f := 26) rfl ?_); refine goesL_ (some 42) rfl rfl Tryd.func26 (by kernel_rfl) rfl #[.slice Ao85 t377.length co85, .agg #[.string t380, .int .i64 t381, .int .i64 t382]] rfl (by (try simp only [List.map_toArray, List.map_cons, List.map_nil]); first | done | rfl | (simp only [List.length_drop, List.length_take]; rfl)) ?_; (with_reducible refine (spec_AddWord.calls k _ _ t377 t380 t381 t382 t389 t392 t393 _ ?side1 ?side2 A8.out).mono ?_); (case side1 => repeat (first | exact (Kd.R_reads' HO379.out).2.2 | (with_reducible refine Kd.C_alloc ?_ _) | (with_reducible refine Kd.C_drewN ?_ _) | (with_reducible refine Kd.C_drew ?_))); (case side2 => exact (Kd.R_reads' HO379.out).2.1); rintro e w88 ⟨v390, rfl, ho0, hb⟩; refine ⟨_, rfl, ?_⟩; have n0_ := Aside0.mk (Kd.R_elder' (by (with_reducible repeat (first | apply Kd.R_alloc | apply Kd.R_drewN | apply Kd.R_drew)); exact HO379.out) (Kd.R_base ho0) hb); have n1_ := Aside0.mk (Kd.R_elder' (by (with_reducible repeat (first | apply Kd.R_alloc | apply Kd.R_drewN | apply Kd.R_drew)); exact HO386.out) (Kd.R_base ho0) hb); have n2_ := Aside0.mk (Kd.R_lower (Kd.R_newB (Kd.R_new' (Kd.R_new' ho0 (Kd.R_lt (by (with_reducible repeat (first | apply Kd.R_alloc | apply Kd.R_drewN | apply Kd.R_drew)); exact HO379.out))) (Kd.R_lt (by (with_reducible repeat (first | apply Kd.R_alloc | apply Kd.R_drewN | apply Kd.R_drew)); exact HO386.out))) (g := gb383) (o := .cells #[.string t380, .int .i64 t381, .int .i64 t382] 39 (0, 0)) (by (with_reducible repeat (first | refine blk_drewN ?_ _ | refine blk_drew ?_ | refine blk_alloc ?_ _)); exact BK383.out)) (below_size (by repeat (first | (with_reducible first | exact HB.out | apply below_alloc | apply pw_below_drewN | apply below_drew1 | refine below_set ?_ GE383.out) | exact HB.out)))); have n3_ := Aside0.mk (blk_below (g := gb383) (o := .cells #[.string t380, .int .i64 t381, .int .i64 t382] 39 (0, 0)) (by (with_reducible repeat (first | refine blk_drewN ?_ _ | refine blk_drew ?_ | refine blk_alloc ?_ _)); exact BK383.out) hb); have n4_ := Aside0.mk (below_step (by repeat (first | (with_reducible first | exact HB.out | apply below_alloc | apply pw_below_drewN | apply below_drew1 | refine below_set ?_ GE383.out) | exact HB.out)) hb); clear HO379; clear HO386; clear BK383; clear HB; have HO379 := n0_; have HO386 := n1_; have HO391 := n2_; have BK383 := n3_; have HB := n4_; clear n0_ n1_ n2_ n3_ n4_; (try clear hb); (try clear hb2); (try clear hk); (try clear hi); (try clear ho0); obtain ⟨Ao89, co89, eo89⟩ := Kd.R_slice HO386.out; subst eo89; obtain ⟨Ao90, co90, eo90⟩ := Kd.R_slice HO391.out; subst eo90) | (go_at_call 33; (with_reducible refine (laws_sameWords.calls k _ _ t384 _ _ t389 true _ ?side1 ?side2 ?side3 ?side4 A10.out).mono ?_); (case side1 => repeat (first | exact (Kd.R_reads' HO386.out).2.2 | (with_reducible refine Kd.C_alloc ?_ _) | (with_reducible refine Kd.C_drewN ?_ _) | (with_reducible refine Kd.C_drew ?_))); (case side2 => exact (Kd.R_reads' HO386.out).2.1); (case side3 => repeat (first | exact (Kd.R_reads' HO391.out).2.2 | (with_reducible refine Kd.C_alloc ?_ _) | (with_reducible refine Kd.C_drewN ?_ _) | (with_reducible refine Kd.C_drew ?_))); (case side4 => exact (Kd.R_reads' HO391.out).2.1); rintro e w' ⟨rfl, ⟨nd, rfl⟩⟩) | (go_at_call 22; (with_reducible refine (impl_DictOK.calls k _ _ t377 true _ ?side1 ?side2 A12.out).mono ?_); (case side1 => repeat (first | exact (Kd.R_reads' HO379.out).2.2 | (with_reducible refine Kd.C_alloc ?_ _) | (with_reducible refine Kd.C_drewN ?_ _) | (with_reducible refine Kd.C_drew ?_))); (case side2 => exact (Kd.R_reads' HO379.out).2.1); rintro e w91 ⟨rfl, hb⟩; replace HO379 := Aside0.mk (Kd.R_below (by (with_reducible repeat (first | apply Kd.R_alloc | apply Kd.R_drewN | apply Kd.R_drew)); exact HO379.out) hb); replace HO386 := Aside0.mk (Kd.R_below (by (with_reducible repeat (first | apply Kd.R_alloc | apply Kd.R_drewN | apply Kd.R_drew)); exact HO386.out) hb); replace HO391 := Aside0.mk (Kd.R_below (by (with_reducible repeat (first | apply Kd.R_alloc | apply Kd.R_drewN | apply Kd.R_drew)); exact HO391.out) hb); replace BK383 := Aside0.mk (blk_below (g := gb383) (o := .cells #[.string t380, .int .i64 t381, .int .i64 t382] 39 (0, 0)) (by (with_reducible repeat (first | refine blk_drewN ?_ _ | refine blk_drew ?_ | refine blk_alloc ?_ _)); exact BK383.out) hb); replace HB := Aside0.mk (below_step (by repeat (first | (with_reducible first | exact HB.out | apply below_alloc | apply pw_below_drewN | apply below_drew1 | refine below_set ?_ GE383.out) | exact HB.out)) hb); (try clear hb); (try clear hb2); (try clear hk); (try clear hi)) | (go_at_call 20; (with_reducible refine (impl_KernelSame.calls k (fun k_ => some k_ = (.slice Ao85 t377.length co85 : Value).ownBlock) _ _ t377 true _ ?side1 A14.out).mono ?_); (case side1 => exact Kd.R_V (Kd.R_tight rfl (HO379.out))); rintro e w92 ⟨rfl, hb⟩; replace HO379 := Aside0.mk (Kd.R_below (by (with_reducible repeat (first | apply Kd.R_alloc | apply Kd.R_drewN | apply Kd.R_drew)); exact HO379.out) hb); replace HO386 := Aside0.mk (Kd.R_below (by (with_reducible repeat (first | apply Kd.R_alloc | apply Kd.R_drewN | apply Kd.R_drew)); exact HO386.out) hb); replace HO391 := Aside0.mk (Kd.R_below (by (with_reducible repeat (first | apply Kd.R_alloc | apply Kd.R_drewN | apply Kd.R_drew)); exact HO391.out) hb); replace BK383 := Aside0.mk (blk_below (g := gb383) (o := .cells #[.string t380, .int .i64 t381, .int .i64 t382] 39 (0, 0)) (by (with_reducible repeat (first | refine blk_drewN ?_ _ | refine blk_drew ?_ | refine blk_alloc ?_ _)); exact BK383.out) hb); replace HB := Aside0.mk (below_step (by repeat (first | (with_reducible first | exact HB.out | apply below_alloc | apply pw_below_drewN | apply below_drew1 | refine below_set ?_ GE383.out) | exact HB.out)) hb); (try clear hb); (try clear hb2); (try clear hk); (try clear hi)) | (go_at_call 13; (with_reducible refine (impl_KernelWords.calls k  t397 _ A16.out).mono ?_); rintro e w93 ⟨v398, rfl, ho0, hb⟩; have n0_ := Aside0.mk (Kd.R_elder' (by (with_reducible repeat (first | apply Kd.R_alloc | apply Kd.R_drewN | apply Kd.R_drew)); exact HO379.out) (Kd.R_base ho0) hb); have n1_ := Aside0.mk (Kd.R_elder' (by (with_reducible repeat (first | apply Kd.R_alloc | apply Kd.R_drewN | apply Kd.R_drew)); exact HO386.out) (Kd.R_base ho0) hb); have n2_ := Aside0.mk (Kd.R_elder' (by (with_reducible repeat (first | apply Kd.R_alloc | apply Kd.R_drewN | apply Kd.R_drew)); exact HO391.out) (Kd.R_base ho0) hb); have n3_ := Aside0.mk (Kd.R_lower (Kd.R_newB (Kd.R_new' (Kd.R_new' (Kd.R_new' ho0 (Kd.R_lt (by (with_reducible repeat (first | apply Kd.R_alloc | apply Kd.R_drewN | apply Kd.R_drew)); exact HO379.out))) (Kd.R_lt (by (with_reducible repeat (first | apply Kd.R_alloc | apply Kd.R_drewN | apply Kd.R_drew)); exact HO386.out))) (Kd.R_lt (by (with_reducible repeat (first | apply Kd.R_alloc | apply Kd.R_drewN | apply Kd.R_drew)); exact HO391.out))) (g := gb383) (o := .cells #[.string t380, .int .i64 t381, .int .i64 t382] 39 (0, 0)) (by (with_reducible repeat (first | refine blk_drewN ?_ _ | refine blk_drew ?_ | refine blk_alloc ?_ _)); exact BK383.out)) (below_size (by repeat (first | (with_reducible first | exact HB.out | apply below_alloc | apply pw_below_drewN | apply below_drew1 | refine below_set ?_ GE383.out) | exact HB.out)))); have n4_ := Aside0.mk (blk_below (g := gb383) (o := .cells #[.string t380, .int .i64 t381, .int .i64 t382] 39 (0, 0)) (by (with_reducible repeat (first | refine blk_drewN ?_ _ | refine blk_drew ?_ | refine blk_alloc ?_ _)); exact BK383.out) hb); have n5_ := Aside0.mk (below_step (by repeat (first | (with_reducible first | exact HB.out | apply below_alloc | apply pw_below_drewN | apply below_drew1 | refine below_set ?_ GE383.out) | exact HB.out)) hb); clear HO379; clear HO386; clear HO391; clear BK383; clear HB; have HO379 := n0_; have HO386 := n1_; have HO391 := n2_; have HO399 := n3_; have BK383 := n4_; have HB := n5_; clear n0_ n1_ n2_ n3_ n4_ n5_; (try clear hb); (try clear hb2); (try clear hk); (try clear hi); (try clear ho0)) | (go_at_call 12; (with_reducible refine (spec_KernelWords.calls k  t400 _ A17.out).mono ?_); rintro e w94 ⟨v401, rfl, ho0, hb⟩; have n0_ := Aside0.mk (Kd.R_elder' (by (with_reducible repeat (first | apply Kd.R_alloc | apply Kd.R_drewN | apply Kd.R_drew)); exact HO379.out) (Kd.R_base ho0) hb); have n1_ := Aside0.mk (Kd.R_elder' (by (with_reducible repeat (first | apply Kd.R_alloc | apply Kd.R_drewN | apply Kd.R_drew)); exact HO386.out) (Kd.R_base ho0) hb); have n2_ := Aside0.mk (Kd.R_elder' (by (with_reducible repeat (first | apply Kd.R_alloc | apply Kd.R_drewN | apply Kd.R_drew)); exact HO391.out) (Kd.R_base ho0) hb); have n3_ := Aside0.mk (Kd.R_elder' (by (with_reducible repeat (first | apply Kd.R_alloc | apply Kd.R_drewN | apply Kd.R_drew)); exact HO399.out) (Kd.R_base ho0) hb); have n4_ := Aside0.mk (Kd.R_lower (Kd.R_newB (Kd.R_new' (Kd.R_new' (Kd.R_new' (Kd.R_new' ho0 (Kd.R_lt (by (with_reducible repeat (first | apply Kd.R_alloc | apply Kd.R_drewN | apply Kd.R_drew)); exact HO379.out))) (Kd.R_lt (by (with_reducible repeat (first | apply Kd.R_alloc | apply Kd.R_drewN | apply Kd.R_drew)); exact HO386.out))) (Kd.R_lt (by (with_reducible repeat (first | apply Kd.R_alloc | apply Kd.R_drewN | apply Kd.R_drew)); exact HO391.out))) (Kd.R_lt (by (with_reducible repeat (first | apply Kd.R_alloc | apply Kd.R_drewN | apply Kd.R_drew)); exact HO399.out))) (g := gb383) (o := .cells #[.string t380, .int .i64 t381, .int .i64 t382] 39 (0, 0)) (by (with_reducible repeat (first | refine blk_drewN ?_ _ | refine blk_drew ?_ | refine blk_alloc ?_ _)); exact BK383.out)) (below_size (by repeat (first | (with_reducible first | exact HB.out | apply below_alloc | apply pw_below_drewN | apply below_drew1 | refine below_set ?_ GE383.out) | exact HB.out)))); have n5_ := Aside0.mk (blk_below (g := gb383) (o := .cells #[.string t380, .int .i64 t381, .int .i64 t382] 39 (0, 0)) (by (with_reducible repeat (first | refine blk_drewN ?_ _ | refine blk_drew ?_ | refine blk_alloc ?_ _)); exact BK383.out) hb); have n6_ := Aside0.mk (below_step (by repeat (first | (with_reducible first | exact HB.out | apply below_alloc | apply pw_below_drewN | apply below_drew1 | refine below_set ?_ GE383.out) | exact HB.out)) hb); clear HO379; clear HO386; clear HO391; clear HO399; clear BK383; clear HB; have HO379 := n0_; have HO386 := n1_; have HO391 := n2_; have HO399 := n3_; have HO402 := n4_; have BK383 := n5_; have HB := n6_; clear n0_ n1_ n2_ n3_ n4_ n5_ n6_; (try clear hb); (try clear hb2); (try clear hk); (try clear hi); (try clear ho0); obtain ⟨Ao95, co95, eo95⟩ := Kd.R_slice HO399.out; subst eo95; obtain ⟨Ao96, co96, eo96⟩ := Kd.R_slice HO402.out; subst eo96) | (go_at_call 33; (with_reducible refine (laws_sameWords.calls k _ _ t397 _ _ t400 true _ ?side1 ?side2 ?side3 ?side4 A18.out).mono ?_); (case side1 => repeat (first | exact (Kd.R_reads' HO399.out).2.2 | (with_reducible refine Kd.C_alloc ?_ _) | (with_reducible refine Kd.C_drewN ?_ _) | (with_reducible refine Kd.C_drew ?_))); (case side2 => exact (Kd.R_reads' HO399.out).2.1); (case side3 => repeat (first | exact (Kd.R_reads' HO402.out).2.2 | (with_reducible refine Kd.C_alloc ?_ _) | (with_reducible refine Kd.C_drewN ?_ _) | (with_reducible refine Kd.C_drew ?_))); (case side4 => exact (Kd.R_reads' HO402.out).2.1); rintro e w' ⟨rfl, ⟨nd, rfl⟩⟩))
                  all_goals go_ret
                  exact ⟨by first | rfl | (simp [errW_none, errW_some] <;> rfl) | (simp [*, errW_none, errW_some] <;> rfl), by repeat (first | (with_reducible first | exact HB.out | apply below_alloc | apply pw_below_drewN | apply below_drew1 | refine below_set ?_ GE383.out) | exact HB.out)⟩
                  all_goals (exfalso; simp only [beq_iff_eq, decide_eq_decide, decide_eq_true_eq, decide_eq_false_iff_not] at *; omega)
              · replace c19 := Bool.eq_false_iff.mpr c19
                subst c19
                have H1 : (some false) = some true := by rw [if_neg (show ¬ (false = true) by decide)] at H; first | done | exact H
                clear H
                have H := H1
                clear H1
                exact absurd (Option.some.inj H) (by decide)
            · replace c15 := Bool.eq_false_iff.mpr c15
              subst c15
              have H1 : (some false) = some true := by rw [if_neg (show ¬ (false = true) by decide)] at H; first | done | exact H
              clear H
              have H := H1
              clear H1
              exact absurd (Option.some.inj H) (by decide)
          · replace c13 := Bool.eq_false_iff.mpr c13
            subst c13
            have H1 : (some false) = some true := by rw [if_neg (show ¬ (false = true) by decide)] at H; first | done | exact H
            clear H
            have H := H1
            clear H1
            exact absurd (Option.some.inj H) (by decide)
        · replace c11 := Bool.eq_false_iff.mpr c11
          subst c11
          have H1 : (some false) = some true := by rw [if_neg (show ¬ (false = true) by decide)] at H; first | done | exact H
          clear H
          have H := H1
          clear H1
          exact absurd (Option.some.inj H) (by decide)
      · rw [if_neg c9] at H
        have c9b0 : (t388 == t393) = false := beq_eq_false_iff_ne.mpr c9
        have c9b1 : (t388 != t393) = true := bne_iff_ne.mpr c9
        exact absurd (Option.some.inj H) (by decide)
/-- The pure statement of laws_FnDict: plain data, no memory. -/
def laws_FnDict.Pure : Prop := ∀ (l0 : List Int) (l1 : List Int), (l0.length ≤ 9223372036854775807 ∧ ∀ e0_, e0_ ∈ l0 → (Lit.int .u8 e0_).wf = true) → (l1.length ≤ 9223372036854775807 ∧ ∀ e0_, e0_ ∈ l1 → (Lit.int .u8 e0_).wf = true) → ∃ k, laws_FnDict.f k l0 l1 = some true

end Go.Proofs.YtbbfahkmjfmmjaaDoor.PFnDict
