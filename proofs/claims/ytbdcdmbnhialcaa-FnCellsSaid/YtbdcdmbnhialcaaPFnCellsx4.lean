-- laid by a program of this session out of the translation's own print: Lean checks it
import Derived.Test.YtbdcdmbnhialcaaPFnCellsx0
import Derived.Test.YtbdcdmbnhialcaaPFnCellsx2
import Derived.Test.YtbdcdmbnhialcaaPFnCellsx3
namespace Go.Proofs.Ytbdcdmbnhialcaa.PFnCells
open Go.RowKit Go.Proofs.YtbdcdmbnhialcaaW.PrintWords Go.Proofs.YtbdcdmbnhialcaaW.PrintLast Go.Proofs.YtbdcdmbnhialcaaW.PrintMore
attribute [local go_sem] max2_int min2_int max_two min_two max_three min_three max_four min_four   -- for this text's walks alone
set_option linter.unusedVariables false
set_option linter.unusedSimpArgs false

/-! ### laws_FnCells: function 9 -/
def laws_FnCells.l0 : Nat → Int → Int → List Int → Int → Option (Bool)
  | 0, _, _, _, _ => none
  | k + 1, x5, x6, x7, x8 => if x8 ≤ 10 then ((impl_TwoCells.f k x8 x5 x6).bind fun bt189 => ((spec_TwoCells.f k x8 x5 x6).bind fun bt192 => (if bt189.2.2 = 0 then (if bt189.1 = bt192.1 then (if (bt189.2.1 != bt192.2.1) = true then (some false) else ((impl_CellOK.f bt189.1).bind fun t195 => (if t195 = true then (if x8 ≤ 3 then (if 0 ≤ (wrap64 (x8 - 1)) then (if (wrap64 (x8 - 1)) < (x7.length : Int) then ((impl_WrapCell.f (rd x7 (wrap64 (x8 - 1)))).bind fun t197 => (if bt189.1 = t197 then (laws_FnCells.l0 k x5 x6 x7 (wrap64 (x8 + 1))) else (some false))) else (none)) else (none)) else (laws_FnCells.l0 k x5 x6 x7 (wrap64 (x8 + 1)))) else (some false)))) else (some false)) else (some false)))) else ((impl_WrapCell.f (wrap64 ((wrap64 (x5 * x6)) + 7))).bind fun t198 => ((spec_WrapCell.f (wrap64 ((wrap64 (x5 * x6)) + 7))).bind fun t199 => (if t198 = t199 then (if (Int.tmod (wrap64 ((wrap64 ((wrap64 (x5 * x6)) + 7)) - t198)) 4294967296) = 0 then ((impl_TwoCells.f k 4 x5 x6).bind fun bt200 => ((impl_TwoCells.f k 5 x5 x6).bind fun bt203 => (if x6 = 0 then (some (!bt200.2.1)) else ((impl_WrapCell.f (wrap64 ((wrap64 (bt200.1 * x6)) + bt203.1))).bind fun t206 => ((impl_Unsigned.f x5).bind fun bt207 => ((spec_Unsigned.f x5).bind fun bt209 => (if bt200.2.1 = true then (if t206 = x5 then (if bt203.1 = 0 then (if x6 > 0 then (if bt203.1 < x6 then (if bt207.2 = 0 then (if bt207.1 = bt209.1 then (if bt207.1 ≥ 0 then ((impl_WrapCell.f bt207.1).bind fun t211 => (some (t211 == x5))) else (some false)) else (some false)) else (some false)) else (if x6 < 0 then (if bt203.1 > x6 then (if bt207.2 = 0 then (if bt207.1 = bt209.1 then (if bt207.1 ≥ 0 then ((impl_WrapCell.f bt207.1).bind fun t212 => (some (t212 == x5))) else (some false)) else (some false)) else (some false)) else (some false)) else (some false))) else (if x6 < 0 then (if bt203.1 > x6 then (if bt207.2 = 0 then (if bt207.1 = bt209.1 then (if bt207.1 ≥ 0 then ((impl_WrapCell.f bt207.1).bind fun t213 => (some (t213 == x5))) else (some false)) else (some false)) else (some false)) else (some false)) else (some false))) else (if ((decide (bt203.1 < 0)) == (decide (x6 < 0))) = true then (if x6 > 0 then (if bt203.1 < x6 then (if bt207.2 = 0 then (if bt207.1 = bt209.1 then (if bt207.1 ≥ 0 then ((impl_WrapCell.f bt207.1).bind fun t214 => (some (t214 == x5))) else (some false)) else (some false)) else (some false)) else (if x6 < 0 then (if bt203.1 > x6 then (if bt207.2 = 0 then (if bt207.1 = bt209.1 then (if bt207.1 ≥ 0 then ((impl_WrapCell.f bt207.1).bind fun t215 => (some (t215 == x5))) else (some false)) else (some false)) else (some false)) else (some false)) else (some false))) else (if x6 < 0 then (if bt203.1 > x6 then (if bt207.2 = 0 then (if bt207.1 = bt209.1 then (if bt207.1 ≥ 0 then ((impl_WrapCell.f bt207.1).bind fun t216 => (some (t216 == x5))) else (some false)) else (some false)) else (some false)) else (some false)) else (some false))) else (some false))) else (some false)) else (some false)))))))) else (some false)) else (some false))))
def laws_FnCells.f (k : Nat) (l0 : List Int) (l1 : List Int) : Option (Bool) := if (l0.length : Int) > 1048576 then (some true) else (if (l1.length : Int) > 1048576 then (some true) else ((spec_CellDrawn.f l0).bind fun t184 => ((spec_CellDrawn.f l1).bind fun t185 => (laws_FnCells.l0 k t184 t185 (([wrap64 (t184 + t185), wrap64 (t184 - t185), wrap64 (t184 * t185)] : List Int)) 1))))
theorem laws_FnCells.mono_l : ∀ k, (∀ y0 y1 y2 y3, LeO (laws_FnCells.l0 k y0 y1 y2 y3) (laws_FnCells.l0 (k + 1) y0 y1 y2 y3))
  | 0 => fun _ _ _ _ r h => by simp [laws_FnCells.l0] at h
  | k + 1 => by
    have ih0 := laws_FnCells.mono_l k
    · intro y0 y1 y2 y3
      unfold laws_FnCells.l0
      repeat' first
      | (with_reducible exact ih0 _ _ _ _)
      | (with_reducible exact impl_TwoCells.mono _ _ _ _)
      | (with_reducible exact spec_TwoCells.mono _ _ _ _)
      | (with_reducible exact LeO.refl _)
      | (with_reducible exact LeO.none _)
      | (with_reducible refine LeO.ite ?_ ?_)
      | (with_reducible refine LeO.bind ?_ (fun _ => ?_))
      | exact ih0 _ _ _ _
      | exact impl_TwoCells.mono _ _ _ _
      | exact spec_TwoCells.mono _ _ _ _
      | exact LeO.none _
      | refine LeO.ite ?_ ?_
      | refine LeO.bind ?_ (fun _ => ?_)
theorem laws_FnCells.mono : ∀ a0 a1 k, LeO (laws_FnCells.f k a0 a1) (laws_FnCells.f (k + 1) a0 a1) := by
  intro a0 a1 k
  have ih0 := laws_FnCells.mono_l k
  unfold laws_FnCells.f
  repeat' first
      | (with_reducible exact ih0 _ _ _ _)
      | (with_reducible exact impl_TwoCells.mono _ _ _ _)
      | (with_reducible exact spec_TwoCells.mono _ _ _ _)
      | (with_reducible exact LeO.refl _)
      | (with_reducible exact LeO.none _)
      | (with_reducible refine LeO.ite ?_ ?_)
      | (with_reducible refine LeO.bind ?_ (fun _ => ?_))
      | exact ih0 _ _ _ _
      | exact impl_TwoCells.mono _ _ _ _
      | exact spec_TwoCells.mono _ _ _ _
      | exact LeO.none _
      | refine LeO.ite ?_ ?_
      | refine LeO.bind ?_ (fun _ => ?_)
set_option maxHeartbeats 8000000 in
set_option maxRecDepth 100000 in
theorem laws_FnCells.calls (k : Nat) (A0 : Option Addr) (c0 : Nat) (l0 : List Int) (A1 : Option Addr) (c1 : Nat) (l1 : List Int) (w : World) (hr0 : Kd.C (Kd.int .u8) w A0 l0.length l0) (hc0 : l0.length ≤ c0) (hr1 : Kd.C (Kd.int .u8) w A1 l1.length l1) (hc1 : l1.length ≤ c1) (h : laws_FnCells.f k l0 l1 = some true) :
    Calls Try.prog 9 #[.slice A0 l0.length c0, .slice A1 l1.length c1] w fun e w' => e = .returned (.bool true) ∧ Below w.heap.size w w' := by
  have HR0 := Aside0.mk hr0
  have HC0 := Aside0.mk hc0
  clear hr0 hc0
  have HR1 := Aside0.mk hr1
  have HC1 := Aside0.mk hc1
  clear hr1 hc1
  have HB := Aside0.mk (Below.refl w.heap.size w)
  have H : (if (l0.length : Int) > 1048576 then (some true) else (if (l1.length : Int) > 1048576 then (some true) else ((spec_CellDrawn.f l0).bind fun t184 => ((spec_CellDrawn.f l1).bind fun t185 => (laws_FnCells.l0 k t184 t185 (([wrap64 (t184 + t185), wrap64 (t184 - t185), wrap64 (t184 * t185)] : List Int)) 1))))) = some true := h
  clear h
  by_cases c3 : (l0.length : Int) > 1048576
  · rw [if_pos c3] at H
    have c3b0 : decide (1048576 < (l0.length : Int)) = true := decide_eq_true c3
    have c3b1 : decide (1048576 < l0.length) = true := decide_eq_true (by omega)
    clear c3
    clear H
    go_enter Try.func9, Try.ntmps9
    go_wp2
    all_goals go_ret
    exact ⟨by first | rfl | (simp [errW_none, errW_some] <;> rfl) | (simp [*, errW_none, errW_some] <;> rfl), by repeat (first | (with_reducible first | exact HB.out | apply below_alloc | apply pw_below_drewN | apply below_drew1) | exact HB.out)⟩
    all_goals (exfalso; simp only [beq_iff_eq, decide_eq_decide, decide_eq_true_eq, decide_eq_false_iff_not] at *; omega)
  · rw [if_neg c3] at H
    have c3b0 : decide (1048576 < (l0.length : Int)) = false := decide_eq_false c3
    have c3b1 : decide (1048576 < l0.length) = false := decide_eq_false (by omega)
    clear c3
    by_cases c4 : (l1.length : Int) > 1048576
    · rw [if_pos c4] at H
      have c4b0 : decide (1048576 < (l1.length : Int)) = true := decide_eq_true c4
      have c4b1 : decide (1048576 < l1.length) = true := decide_eq_true (by omega)
      clear c4
      clear H
      go_enter Try.func9, Try.ntmps9
      go_wp2
      all_goals go_ret
      exact ⟨by first | rfl | (simp [errW_none, errW_some] <;> rfl) | (simp [*, errW_none, errW_some] <;> rfl), by repeat (first | (with_reducible first | exact HB.out | apply below_alloc | apply pw_below_drewN | apply below_drew1) | exact HB.out)⟩
      all_goals (exfalso; simp only [beq_iff_eq, decide_eq_decide, decide_eq_true_eq, decide_eq_false_iff_not] at *; omega)
    · rw [if_neg c4] at H
      have c4b0 : decide (1048576 < (l1.length : Int)) = false := decide_eq_false c4
      have c4b1 : decide (1048576 < l1.length) = false := decide_eq_false (by omega)
      clear c4
      replace H := Option.bind_eq_some_iff.mp H
      obtain ⟨t184, A50, H⟩ := H
      replace H : ((spec_CellDrawn.f l1).bind fun t185 => (laws_FnCells.l0 k t184 t185 (([wrap64 (t184 + t185), wrap64 (t184 - t185), wrap64 (t184 * t185)] : List Int)) 1)) = some true := H
      have A5 := Aside0.mk A50
      clear A50
      replace H := Option.bind_eq_some_iff.mp H
      obtain ⟨t185, A60, H⟩ := H
      replace H : (laws_FnCells.l0 k t184 t185 (([wrap64 (t184 + t185), wrap64 (t184 - t185), wrap64 (t184 * t185)] : List Int)) 1) = some true := H
      have A6 := Aside0.mk A60
      clear A60
      obtain ⟨y186, hy186⟩ : ∃ y_ : List Int, y_ = (([wrap64 (t184 + t185), wrap64 (t184 - t185), wrap64 (t184 * t185)] : List Int)) := ⟨_, rfl⟩
      replace H : (laws_FnCells.l0 k t184 t185 y186 1) = some true := by first | (rw [hy186]; with_reducible exact H) | (have H2_ := (Option.bind_some _ _).symm.trans H; rw [hy186]; with_reducible exact H2_) | (have H2_ := (Option.bind_some _ _).symm.trans H; with_reducible exact H2_) | with_reducible exact H | (rw [hy186]; exact H) | exact H
      have Ny186 := Aside0.mk hy186
      clear hy186
      have H' := Aside0.mk H
      clear H
      go_enter Try.func9, Try.ntmps9
      go_wp2_with (first | ((with_reducible refine gate_callee (f := 35) rfl ?_); refine goesL_ (some 36) rfl rfl Try.func35 (by kernel_rfl) rfl #[.slice A0 l0.length c0] rfl (by (try simp only [List.map_toArray, List.map_cons, List.map_nil]); first | done | rfl | (simp only [List.length_drop, List.length_take]; rfl)) ?_; (with_reducible refine (spec_CellDrawn.calls _ _ l0 t184 _ ?side1 ?side2 A5.out).mono ?_); (case side1 => repeat (first | exact HR0.out | (with_reducible refine Kd.C_alloc ?_ _) | (with_reducible refine Kd.C_drewN ?_ _) | (with_reducible refine Kd.C_drew ?_))); (case side2 => exact HC0.out); rintro e w7 ⟨rfl, hb⟩; refine ⟨_, rfl, ?_⟩; replace HB := Aside0.mk (below_step (by repeat (first | (with_reducible first | exact HB.out | apply below_alloc | apply pw_below_drewN | apply below_drew1) | exact HB.out)) hb); (try clear hb); (try clear hb2); (try clear hk); (try clear hi)) | ((with_reducible refine gate_callee (f := 35) rfl ?_); refine goesL_ (some 38) rfl rfl Try.func35 (by kernel_rfl) rfl #[.slice A1 l1.length c1] rfl (by (try simp only [List.map_toArray, List.map_cons, List.map_nil]); first | done | rfl | (simp only [List.length_drop, List.length_take]; rfl)) ?_; (with_reducible refine (spec_CellDrawn.calls _ _ l1 t185 _ ?side1 ?side2 A6.out).mono ?_); (case side1 => repeat (first | exact (Kd.C_below HR1.out HB.out) | (with_reducible refine Kd.C_alloc ?_ _) | (with_reducible refine Kd.C_drewN ?_ _) | (with_reducible refine Kd.C_drew ?_))); (case side2 => exact HC1.out); rintro e w8 ⟨rfl, hb⟩; refine ⟨_, rfl, ?_⟩; replace HB := Aside0.mk (below_step (by repeat (first | (with_reducible first | exact HB.out | apply below_alloc | apply pw_below_drewN | apply below_drew1) | exact HB.out)) hb); (try clear hb); (try clear hb2); (try clear hk); (try clear hi)) | ((with_reducible refine gate_dst (N := 48) rfl ?_); (try (refine gate_guard (by rfl) ?_; dsimp only)); refine Kd.R_lit (Kd.int .i64) _ 3 ?hg (N := 48) ?hd (xs := ([wrap64 (t184 + t185), wrap64 (t184 - t185), wrap64 (t184 * t185)] : List Int)) (inner := [.int .i64 (wrap64 (t184 + t185)), .int .i64 (wrap64 (t184 - t185)), .int .i64 (wrap64 (t184 * t185))]) (ok := fun _ => True) (okp := fun _ => True) ?hr ?hp (fun _ hk => hk) trivial (Below.refl _ _) (Nat.le_refl _) (by simp) ?_; (case hd => rfl); (case hg => rfl); (case hr => first | (go_simp; done) | (go_simp; rfl)); (case hp => exact (Reps.one (show Kd.M (Kd.int .i64) _ _ _ (wrap64 (t184 + t185)) [.int .i64 (wrap64 (t184 + t185))] from rfl) (Reps.one (show Kd.M (Kd.int .i64) _ _ _ (wrap64 (t184 - t185)) [.int .i64 (wrap64 (t184 - t185))] from rfl) (Reps.one (show Kd.M (Kd.int .i64) _ _ _ (wrap64 (t184 * t185)) [.int .i64 (wrap64 (t184 * t185))] from rfl) (Reps.none _ _))))); intro v187 w9 ho10 hb hg_ hnew_; clear hg_ hnew_; (first | rw [← Ny186.out] at ho10 | (simp only [Int.reduceToNat] at ho10; rw [← Ny186.out] at ho10)); have HO188 := Aside0.mk (Kd.R_lower ho10 (below_size (by repeat (first | (with_reducible first | exact HB.out | apply below_alloc | apply pw_below_drewN | apply below_drew1) | exact HB.out)))); replace HB := Aside0.mk (below_step (by repeat (first | (with_reducible first | exact HB.out | apply below_alloc | apply pw_below_drewN | apply below_drew1) | exact HB.out)) hb); clear hb ho10))
      go_loopg [8] k (fun kq v8 w' => ∃ (x8_1 : Int), v8 = .int .i64 x8_1 ∧ Aside0 (laws_FnCells.l0 kq t184 t185 y186 x8_1 = some true) ∧ Aside0 (kq ≤ k) ∧ Aside0 (Kd.R (Kd.int .i64) 3 w' w.heap.size (fun _ => True) v187 y186) ∧ Aside0 (Below w.heap.size w w'))
      case atStart => exact ⟨(1), (by first | rfl | (simp; done) | (simp [*]; done)), H', ⟨Nat.le_refl _⟩, ⟨by (with_reducible repeat (first | apply Kd.R_alloc | apply Kd.R_drewN | apply Kd.R_drew)); exact HO188.out⟩, ⟨by repeat (first | (with_reducible first | exact HB.out | apply below_alloc | apply pw_below_drewN | apply below_drew1) | exact HB.out)⟩⟩
      case round =>
        clear H'
        try clear c1
        try clear p2
        try clear c3
        try clear c3b0
        try clear c3b1
        try clear c4
        try clear c4b0
        try clear c4b1
        try clear p6
        try clear c9
        obtain ⟨x8_1, rfl, HA, HK1, HO_7, HB⟩ := hrel
        cases gk with
        | zero => exact absurd HA.out (by simp [laws_FnCells.l0])
        | succ k1 =>
          have H := HA.out
          clear HA
          simp only [laws_FnCells.l0] at H
          by_cases c11 : x8_1 ≤ 10
          · rw [if_pos c11] at H
            have c11b0 : decide (x8_1 ≤ 10) = true := decide_eq_true c11
            clear c11
            replace H := Option.bind_eq_some_iff.mp H
            obtain ⟨⟨t189, t190, t191⟩, A120, H⟩ := H
            replace H : ((spec_TwoCells.f k1 x8_1 t184 t185).bind fun bt192 => (if t191 = 0 then (if t189 = bt192.1 then (if (t190 != bt192.2.1) = true then (some false) else ((impl_CellOK.f t189).bind fun t195 => (if t195 = true then (if x8_1 ≤ 3 then (if 0 ≤ (wrap64 (x8_1 - 1)) then (if (wrap64 (x8_1 - 1)) < (y186.length : Int) then ((impl_WrapCell.f (rd y186 (wrap64 (x8_1 - 1)))).bind fun t197 => (if t189 = t197 then (laws_FnCells.l0 k1 t184 t185 y186 (wrap64 (x8_1 + 1))) else (some false))) else (none)) else (none)) else (laws_FnCells.l0 k1 t184 t185 y186 (wrap64 (x8_1 + 1)))) else (some false)))) else (some false)) else (some false))) = some true := H
            have A12 := Aside0.mk A120
            clear A120
            replace H := Option.bind_eq_some_iff.mp H
            obtain ⟨⟨t192, t193, t194⟩, A130, H⟩ := H
            replace H : (if t191 = 0 then (if t189 = t192 then (if (t190 != t193) = true then (some false) else ((impl_CellOK.f t189).bind fun t195 => (if t195 = true then (if x8_1 ≤ 3 then (if 0 ≤ (wrap64 (x8_1 - 1)) then (if (wrap64 (x8_1 - 1)) < (y186.length : Int) then ((impl_WrapCell.f (rd y186 (wrap64 (x8_1 - 1)))).bind fun t197 => (if t189 = t197 then (laws_FnCells.l0 k1 t184 t185 y186 (wrap64 (x8_1 + 1))) else (some false))) else (none)) else (none)) else (laws_FnCells.l0 k1 t184 t185 y186 (wrap64 (x8_1 + 1)))) else (some false)))) else (some false)) else (some false)) = some true := H
            have A13 := Aside0.mk A130
            clear A130
            by_cases c14 : t191 = 0
            · rw [if_pos c14] at H
              have c14b0 : (t191 == 0) = true := beq_iff_eq.mpr c14
              have c14b1 : (t191 != 0) = false := bne_eq_false_iff_eq.mpr c14
              clear c14
              by_cases c15 : t189 = t192
              · rw [if_pos c15] at H
                have c15b0 : (t189 == t192) = true := beq_iff_eq.mpr c15
                have c15b1 : (t189 != t192) = false := bne_eq_false_iff_eq.mpr c15
                clear c15
                by_cases c16 : (t190 != t193) = true
                · rw [if_pos c16] at H
                  have c16b0 : (t190 != t193) = true := c16
                  (try (have c16b1 : decide (t190 = t193) = false := by simpa using c16))
                  (try (have c16b2 : (t190 == t193) = false := by simpa using c16))
                  (try (have c16b3 : ¬ (t190 = t193) := by simpa using c16))
                  clear c16
                  exact absurd (Option.some.inj H) (by decide)
                · rw [if_neg c16] at H
                  have c16b0 : (t190 != t193) = false := by simpa using c16
                  (try (have c16b1 : decide (t190 = t193) = true := by simpa using c16))
                  (try (have c16b2 : (t190 == t193) = true := by simpa using c16))
                  clear c16
                  replace H := Option.bind_eq_some_iff.mp H
                  obtain ⟨t195, A170, H⟩ := H
                  replace H : (if t195 = true then (if x8_1 ≤ 3 then (if 0 ≤ (wrap64 (x8_1 - 1)) then (if (wrap64 (x8_1 - 1)) < (y186.length : Int) then ((impl_WrapCell.f (rd y186 (wrap64 (x8_1 - 1)))).bind fun t197 => (if t189 = t197 then (laws_FnCells.l0 k1 t184 t185 y186 (wrap64 (x8_1 + 1))) else (some false))) else (none)) else (none)) else (laws_FnCells.l0 k1 t184 t185 y186 (wrap64 (x8_1 + 1)))) else (some false)) = some true := H
                  have A17 := Aside0.mk A170
                  clear A170
                  by_cases c18 : t195 = true
                  · subst c18
                    have H1 : (if x8_1 ≤ 3 then (if 0 ≤ (wrap64 (x8_1 - 1)) then (if (wrap64 (x8_1 - 1)) < (y186.length : Int) then ((impl_WrapCell.f (rd y186 (wrap64 (x8_1 - 1)))).bind fun t197 => (if t189 = t197 then (laws_FnCells.l0 k1 t184 t185 y186 (wrap64 (x8_1 + 1))) else (some false))) else (none)) else (none)) else (laws_FnCells.l0 k1 t184 t185 y186 (wrap64 (x8_1 + 1)))) = some true := by rw [if_pos rfl] at H; first | done | exact H
                    clear H
                    have H := H1
                    clear H1
                    by_cases c19 : x8_1 ≤ 3
                    · rw [if_pos c19] at H
                      have c19b0 : decide (x8_1 ≤ 3) = true := decide_eq_true c19
                      clear c19
                      obtain ⟨ji20, hji20⟩ : ∃ j_ : Int, (wrap64 (x8_1 - 1)) = j_ := ⟨_, rfl⟩
                      replace H : (if 0 ≤ (ji20) then (if (ji20) < (y186.length : Int) then ((impl_WrapCell.f (rd y186 (ji20))).bind fun t197 => (if t189 = t197 then (laws_FnCells.l0 k1 t184 t185 y186 (wrap64 (x8_1 + 1))) else (some false))) else (none)) else (none)) = some true := by first | (rw [hji20] at H; exact H) | (simp only [hji20] at H ⊢; exact H)
                      (try rw [hji20] at A12)
                      (try rw [hji20] at A13)
                      (try rw [hji20] at A17)
                      have hji20w : (IntKind.i64.wrap (x8_1 - 1)) = ji20 := (i64_w _).trans hji20
                      by_cases c21 : 0 ≤ (ji20)
                      · rw [if_pos c21] at H
                        have c21b0 : decide (0 ≤ (ji20)) = true := decide_eq_true c21
                        clear c21
                        by_cases c22 : (ji20) < (y186.length : Int)
                        · rw [if_pos c22] at H
                          have c22b0 : decide ((ji20) < (y186.length : Int)) = true := decide_eq_true c22
                          clear c22
                          replace H := Option.bind_eq_some_iff.mp H
                          obtain ⟨t197, A230, H⟩ := H
                          replace H : (if t189 = t197 then (laws_FnCells.l0 k1 t184 t185 y186 (wrap64 (x8_1 + 1))) else (some false)) = some true := H
                          have A23 := Aside0.mk A230
                          clear A230
                          by_cases c24 : t189 = t197
                          · rw [if_pos c24] at H
                            have c24b0 : (t189 == t197) = true := beq_iff_eq.mpr c24
                            have c24b1 : (t189 != t197) = false := bne_eq_false_iff_eq.mpr c24
                            clear c24
                            have H' := Aside0.mk H
                            clear H
                            go_wp2_with (first | ((with_reducible refine gate_callee (f := 36) rfl ?_); refine goesL_ (some 57) rfl rfl Try.func36 (by kernel_rfl) rfl #[.int .i64 x8_1, .int .i64 t184, .int .i64 t185] rfl (by (try simp only [List.map_toArray, List.map_cons, List.map_nil]); first | done | rfl | (simp only [List.length_drop, List.length_take]; rfl)) ?_; (with_reducible refine (impl_TwoCells.calls k1 x8_1 t184 t185 t189 t190 t191 _ A12.out).mono ?_); rintro e w' ⟨rfl, ⟨nd, rfl⟩⟩; refine ⟨_, rfl, ?_⟩) | ((with_reducible refine gate_callee (f := 37) rfl ?_); refine goesL_ (some 65) rfl rfl Try.func37 (by kernel_rfl) rfl #[.int .i64 x8_1, .int .i64 t184, .int .i64 t185] rfl (by (try simp only [List.map_toArray, List.map_cons, List.map_nil]); first | done | rfl | (simp only [List.length_drop, List.length_take]; rfl)) ?_; (with_reducible refine (spec_TwoCells.calls k1 x8_1 t184 t185 t192 t193 t194 _ A13.out).mono ?_); rintro e w' ⟨rfl, ⟨nd, rfl⟩⟩; refine ⟨_, rfl, ?_⟩) | (go_at_call 38; (with_reducible refine (impl_CellOK.calls t189 true _ A17.out).mono ?_); rintro e w' ⟨rfl, ⟨nd, rfl⟩⟩; obtain ⟨Ao25, co25, eo25⟩ := Kd.R_slice HO_7.out; subst eo25; have p196 : 0 ≤ ((ji20) : Int) := of_decide_eq_true (by first | (with_reducible assumption) | assumption); have q196 : (ji20) < (y186.length : Int) := of_decide_eq_true (by first | (with_reducible assumption) | assumption); obtain ⟨ad196, e196, hx196_0⟩ := Kd.at_int (Kd.R_reads' HO_7.out).2.2 (ji20) p196 q196; cases e196; replace p196 := eq_true p196; replace q196 := eq_true q196) | (go_at_call 39; (with_reducible refine (impl_WrapCell.calls (rd y186 (ji20)) t197 _ A23.out).mono ?_); rintro e w' ⟨rfl, ⟨nd, rfl⟩⟩))
                            go_roundg k1
                            case measure => have := HK1.out; omega
                            case rel => exact ⟨(wrap64 (x8_1 + 1)), (by first | rfl | (simp; done) | (simp [*]; done)), H', ⟨by have := HK1.out; omega⟩, ⟨by (with_reducible repeat (first | apply Kd.R_alloc | apply Kd.R_drewN | apply Kd.R_drew)); exact HO_7.out⟩, ⟨by repeat (first | (with_reducible first | exact HB.out | apply below_alloc | apply pw_below_drewN | apply below_drew1) | exact HB.out)⟩⟩
                          · rw [if_neg c24] at H
                            have c24b0 : (t189 == t197) = false := beq_eq_false_iff_ne.mpr c24
                            have c24b1 : (t189 != t197) = true := bne_iff_ne.mpr c24
                            exact absurd (Option.some.inj H) (by decide)
                        · rw [if_neg c22] at H
                          exact absurd H (by simp)
                      · rw [if_neg c21] at H
                        exact absurd H (by simp)
                    · rw [if_neg c19] at H
                      have c19b0 : decide (x8_1 ≤ 3) = false := decide_eq_false c19
                      clear c19
                      have H' := Aside0.mk H
                      clear H
                      go_wp2_with (first | ((with_reducible refine gate_callee (f := 36) rfl ?_); refine goesL_ (some 57) rfl rfl Try.func36 (by kernel_rfl) rfl #[.int .i64 x8_1, .int .i64 t184, .int .i64 t185] rfl (by (try simp only [List.map_toArray, List.map_cons, List.map_nil]); first | done | rfl | (simp only [List.length_drop, List.length_take]; rfl)) ?_; (with_reducible refine (impl_TwoCells.calls k1 x8_1 t184 t185 t189 t190 t191 _ A12.out).mono ?_); rintro e w' ⟨rfl, ⟨nd, rfl⟩⟩; refine ⟨_, rfl, ?_⟩) | ((with_reducible refine gate_callee (f := 37) rfl ?_); refine goesL_ (some 65) rfl rfl Try.func37 (by kernel_rfl) rfl #[.int .i64 x8_1, .int .i64 t184, .int .i64 t185] rfl (by (try simp only [List.map_toArray, List.map_cons, List.map_nil]); first | done | rfl | (simp only [List.length_drop, List.length_take]; rfl)) ?_; (with_reducible refine (spec_TwoCells.calls k1 x8_1 t184 t185 t192 t193 t194 _ A13.out).mono ?_); rintro e w' ⟨rfl, ⟨nd, rfl⟩⟩; refine ⟨_, rfl, ?_⟩) | (go_at_call 38; (with_reducible refine (impl_CellOK.calls t189 true _ A17.out).mono ?_); rintro e w' ⟨rfl, ⟨nd, rfl⟩⟩))
                      go_roundg k1
                      case measure => have := HK1.out; omega
                      case rel => exact ⟨(wrap64 (x8_1 + 1)), (by first | rfl | (simp; done) | (simp [*]; done)), H', ⟨by have := HK1.out; omega⟩, ⟨by (with_reducible repeat (first | apply Kd.R_alloc | apply Kd.R_drewN | apply Kd.R_drew)); exact HO_7.out⟩, ⟨by repeat (first | (with_reducible first | exact HB.out | apply below_alloc | apply pw_below_drewN | apply below_drew1) | exact HB.out)⟩⟩
                  · replace c18 := Bool.eq_false_iff.mpr c18
                    subst c18
                    have H1 : (some false) = some true := by rw [if_neg (show ¬ (false = true) by decide)] at H; first | done | exact H
                    clear H
                    have H := H1
                    clear H1
                    exact absurd (Option.some.inj H) (by decide)
              · rw [if_neg c15] at H
                have c15b0 : (t189 == t192) = false := beq_eq_false_iff_ne.mpr c15
                have c15b1 : (t189 != t192) = true := bne_iff_ne.mpr c15
                exact absurd (Option.some.inj H) (by decide)
            · rw [if_neg c14] at H
              have c14b0 : (t191 == 0) = false := beq_eq_false_iff_ne.mpr c14
              have c14b1 : (t191 != 0) = true := bne_iff_ne.mpr c14
              exact absurd (Option.some.inj H) (by decide)
          · rw [if_neg c11] at H
            have c11b0 : decide (x8_1 ≤ 10) = false := decide_eq_false c11
            clear c11
            replace H := Option.bind_eq_some_iff.mp H
            obtain ⟨t198, A260, H⟩ := H
            replace H : ((spec_WrapCell.f (wrap64 ((wrap64 (t184 * t185)) + 7))).bind fun t199 => (if t198 = t199 then (if (Int.tmod (wrap64 ((wrap64 ((wrap64 (t184 * t185)) + 7)) - t198)) 4294967296) = 0 then ((impl_TwoCells.f k1 4 t184 t185).bind fun bt200 => ((impl_TwoCells.f k1 5 t184 t185).bind fun bt203 => (if t185 = 0 then (some (!bt200.2.1)) else ((impl_WrapCell.f (wrap64 ((wrap64 (bt200.1 * t185)) + bt203.1))).bind fun t206 => ((impl_Unsigned.f t184).bind fun bt207 => ((spec_Unsigned.f t184).bind fun bt209 => (if bt200.2.1 = true then (if t206 = t184 then (if bt203.1 = 0 then (if t185 > 0 then (if bt203.1 < t185 then (if bt207.2 = 0 then (if bt207.1 = bt209.1 then (if bt207.1 ≥ 0 then ((impl_WrapCell.f bt207.1).bind fun t211 => (some (t211 == t184))) else (some false)) else (some false)) else (some false)) else (if t185 < 0 then (if bt203.1 > t185 then (if bt207.2 = 0 then (if bt207.1 = bt209.1 then (if bt207.1 ≥ 0 then ((impl_WrapCell.f bt207.1).bind fun t212 => (some (t212 == t184))) else (some false)) else (some false)) else (some false)) else (some false)) else (some false))) else (if t185 < 0 then (if bt203.1 > t185 then (if bt207.2 = 0 then (if bt207.1 = bt209.1 then (if bt207.1 ≥ 0 then ((impl_WrapCell.f bt207.1).bind fun t213 => (some (t213 == t184))) else (some false)) else (some false)) else (some false)) else (some false)) else (some false))) else (if ((decide (bt203.1 < 0)) == (decide (t185 < 0))) = true then (if t185 > 0 then (if bt203.1 < t185 then (if bt207.2 = 0 then (if bt207.1 = bt209.1 then (if bt207.1 ≥ 0 then ((impl_WrapCell.f bt207.1).bind fun t214 => (some (t214 == t184))) else (some false)) else (some false)) else (some false)) else (if t185 < 0 then (if bt203.1 > t185 then (if bt207.2 = 0 then (if bt207.1 = bt209.1 then (if bt207.1 ≥ 0 then ((impl_WrapCell.f bt207.1).bind fun t215 => (some (t215 == t184))) else (some false)) else (some false)) else (some false)) else (some false)) else (some false))) else (if t185 < 0 then (if bt203.1 > t185 then (if bt207.2 = 0 then (if bt207.1 = bt209.1 then (if bt207.1 ≥ 0 then ((impl_WrapCell.f bt207.1).bind fun t216 => (some (t216 == t184))) else (some false)) else (some false)) else (some false)) else (some false)) else (some false))) else (some false))) else (some false)) else (some false)))))))) else (some false)) else (some false))) = some true := H
            have A26 := Aside0.mk A260
            clear A260
            replace H := Option.bind_eq_some_iff.mp H
            obtain ⟨t199, A270, H⟩ := H
            replace H : (if t198 = t199 then (if (Int.tmod (wrap64 ((wrap64 ((wrap64 (t184 * t185)) + 7)) - t198)) 4294967296) = 0 then ((impl_TwoCells.f k1 4 t184 t185).bind fun bt200 => ((impl_TwoCells.f k1 5 t184 t185).bind fun bt203 => (if t185 = 0 then (some (!bt200.2.1)) else ((impl_WrapCell.f (wrap64 ((wrap64 (bt200.1 * t185)) + bt203.1))).bind fun t206 => ((impl_Unsigned.f t184).bind fun bt207 => ((spec_Unsigned.f t184).bind fun bt209 => (if bt200.2.1 = true then (if t206 = t184 then (if bt203.1 = 0 then (if t185 > 0 then (if bt203.1 < t185 then (if bt207.2 = 0 then (if bt207.1 = bt209.1 then (if bt207.1 ≥ 0 then ((impl_WrapCell.f bt207.1).bind fun t211 => (some (t211 == t184))) else (some false)) else (some false)) else (some false)) else (if t185 < 0 then (if bt203.1 > t185 then (if bt207.2 = 0 then (if bt207.1 = bt209.1 then (if bt207.1 ≥ 0 then ((impl_WrapCell.f bt207.1).bind fun t212 => (some (t212 == t184))) else (some false)) else (some false)) else (some false)) else (some false)) else (some false))) else (if t185 < 0 then (if bt203.1 > t185 then (if bt207.2 = 0 then (if bt207.1 = bt209.1 then (if bt207.1 ≥ 0 then ((impl_WrapCell.f bt207.1).bind fun t213 => (some (t213 == t184))) else (some false)) else (some false)) else (some false)) else (some false)) else (some false))) else (if ((decide (bt203.1 < 0)) == (decide (t185 < 0))) = true then (if t185 > 0 then (if bt203.1 < t185 then (if bt207.2 = 0 then (if bt207.1 = bt209.1 then (if bt207.1 ≥ 0 then ((impl_WrapCell.f bt207.1).bind fun t214 => (some (t214 == t184))) else (some false)) else (some false)) else (some false)) else (if t185 < 0 then (if bt203.1 > t185 then (if bt207.2 = 0 then (if bt207.1 = bt209.1 then (if bt207.1 ≥ 0 then ((impl_WrapCell.f bt207.1).bind fun t215 => (some (t215 == t184))) else (some false)) else (some false)) else (some false)) else (some false)) else (some false))) else (if t185 < 0 then (if bt203.1 > t185 then (if bt207.2 = 0 then (if bt207.1 = bt209.1 then (if bt207.1 ≥ 0 then ((impl_WrapCell.f bt207.1).bind fun t216 => (some (t216 == t184))) else (some false)) else (some false)) else (some false)) else (some false)) else (some false))) else (some false))) else (some false)) else (some false)))))))) else (some false)) else (some false)) = some true := H
            have A27 := Aside0.mk A270
            clear A270
            by_cases c28 : t198 = t199
            · rw [if_pos c28] at H
              have c28b0 : (t198 == t199) = true := beq_iff_eq.mpr c28
              have c28b1 : (t198 != t199) = false := bne_eq_false_iff_eq.mpr c28
              clear c28
              by_cases c29 : (Int.tmod (wrap64 ((wrap64 ((wrap64 (t184 * t185)) + 7)) - t198)) 4294967296) = 0
              · rw [if_pos c29] at H
                have c29b0 : ((Int.tmod (wrap64 ((wrap64 ((wrap64 (t184 * t185)) + 7)) - t198)) 4294967296) == 0) = true := beq_iff_eq.mpr c29
                have c29b1 : ((Int.tmod (wrap64 ((wrap64 ((wrap64 (t184 * t185)) + 7)) - t198)) 4294967296) != 0) = false := bne_eq_false_iff_eq.mpr c29
                clear c29
                replace H := Option.bind_eq_some_iff.mp H
                obtain ⟨⟨t200, t201, t202⟩, A300, H⟩ := H
                replace H : ((impl_TwoCells.f k1 5 t184 t185).bind fun bt203 => (if t185 = 0 then (some (!t201)) else ((impl_WrapCell.f (wrap64 ((wrap64 (t200 * t185)) + bt203.1))).bind fun t206 => ((impl_Unsigned.f t184).bind fun bt207 => ((spec_Unsigned.f t184).bind fun bt209 => (if t201 = true then (if t206 = t184 then (if bt203.1 = 0 then (if t185 > 0 then (if bt203.1 < t185 then (if bt207.2 = 0 then (if bt207.1 = bt209.1 then (if bt207.1 ≥ 0 then ((impl_WrapCell.f bt207.1).bind fun t211 => (some (t211 == t184))) else (some false)) else (some false)) else (some false)) else (if t185 < 0 then (if bt203.1 > t185 then (if bt207.2 = 0 then (if bt207.1 = bt209.1 then (if bt207.1 ≥ 0 then ((impl_WrapCell.f bt207.1).bind fun t212 => (some (t212 == t184))) else (some false)) else (some false)) else (some false)) else (some false)) else (some false))) else (if t185 < 0 then (if bt203.1 > t185 then (if bt207.2 = 0 then (if bt207.1 = bt209.1 then (if bt207.1 ≥ 0 then ((impl_WrapCell.f bt207.1).bind fun t213 => (some (t213 == t184))) else (some false)) else (some false)) else (some false)) else (some false)) else (some false))) else (if ((decide (bt203.1 < 0)) == (decide (t185 < 0))) = true then (if t185 > 0 then (if bt203.1 < t185 then (if bt207.2 = 0 then (if bt207.1 = bt209.1 then (if bt207.1 ≥ 0 then ((impl_WrapCell.f bt207.1).bind fun t214 => (some (t214 == t184))) else (some false)) else (some false)) else (some false)) else (if t185 < 0 then (if bt203.1 > t185 then (if bt207.2 = 0 then (if bt207.1 = bt209.1 then (if bt207.1 ≥ 0 then ((impl_WrapCell.f bt207.1).bind fun t215 => (some (t215 == t184))) else (some false)) else (some false)) else (some false)) else (some false)) else (some false))) else (if t185 < 0 then (if bt203.1 > t185 then (if bt207.2 = 0 then (if bt207.1 = bt209.1 then (if bt207.1 ≥ 0 then ((impl_WrapCell.f bt207.1).bind fun t216 => (some (t216 == t184))) else (some false)) else (some false)) else (some false)) else (some false)) else (some false))) else (some false))) else (some false)) else (some false))))))) = some true := H
                have A30 := Aside0.mk A300
                clear A300
                replace H := Option.bind_eq_some_iff.mp H
                obtain ⟨⟨t203, t204, t205⟩, A310, H⟩ := H
                replace H : (if t185 = 0 then (some (!t201)) else ((impl_WrapCell.f (wrap64 ((wrap64 (t200 * t185)) + t203))).bind fun t206 => ((impl_Unsigned.f t184).bind fun bt207 => ((spec_Unsigned.f t184).bind fun bt209 => (if t201 = true then (if t206 = t184 then (if t203 = 0 then (if t185 > 0 then (if t203 < t185 then (if bt207.2 = 0 then (if bt207.1 = bt209.1 then (if bt207.1 ≥ 0 then ((impl_WrapCell.f bt207.1).bind fun t211 => (some (t211 == t184))) else (some false)) else (some false)) else (some false)) else (if t185 < 0 then (if t203 > t185 then (if bt207.2 = 0 then (if bt207.1 = bt209.1 then (if bt207.1 ≥ 0 then ((impl_WrapCell.f bt207.1).bind fun t212 => (some (t212 == t184))) else (some false)) else (some false)) else (some false)) else (some false)) else (some false))) else (if t185 < 0 then (if t203 > t185 then (if bt207.2 = 0 then (if bt207.1 = bt209.1 then (if bt207.1 ≥ 0 then ((impl_WrapCell.f bt207.1).bind fun t213 => (some (t213 == t184))) else (some false)) else (some false)) else (some false)) else (some false)) else (some false))) else (if ((decide (t203 < 0)) == (decide (t185 < 0))) = true then (if t185 > 0 then (if t203 < t185 then (if bt207.2 = 0 then (if bt207.1 = bt209.1 then (if bt207.1 ≥ 0 then ((impl_WrapCell.f bt207.1).bind fun t214 => (some (t214 == t184))) else (some false)) else (some false)) else (some false)) else (if t185 < 0 then (if t203 > t185 then (if bt207.2 = 0 then (if bt207.1 = bt209.1 then (if bt207.1 ≥ 0 then ((impl_WrapCell.f bt207.1).bind fun t215 => (some (t215 == t184))) else (some false)) else (some false)) else (some false)) else (some false)) else (some false))) else (if t185 < 0 then (if t203 > t185 then (if bt207.2 = 0 then (if bt207.1 = bt209.1 then (if bt207.1 ≥ 0 then ((impl_WrapCell.f bt207.1).bind fun t216 => (some (t216 == t184))) else (some false)) else (some false)) else (some false)) else (some false)) else (some false))) else (some false))) else (some false)) else (some false)))))) = some true := H
                have A31 := Aside0.mk A310
                clear A310
                by_cases c32 : t185 = 0
                · rw [if_pos c32] at H
                  have c32b0 : (t185 == 0) = true := beq_iff_eq.mpr c32
                  have c32b1 : (t185 != 0) = false := bne_eq_false_iff_eq.mpr c32
                  clear c32
                  have Hr_ := Option.some.inj H
                  go_wp2_with (first | ((with_reducible refine gate_callee (f := 39) rfl ?_); refine goesL_ (some 104) rfl rfl Try.func39 (by kernel_rfl) rfl #[.int .i64 (wrap64 ((wrap64 (t184 * t185)) + 7))] rfl (by (try simp only [List.map_toArray, List.map_cons, List.map_nil]); first | done | rfl | (simp only [List.length_drop, List.length_take]; rfl)) ?_; (with_reducible refine (impl_WrapCell.calls (wrap64 ((wrap64 (t184 * t185)) + 7)) t198 _ A26.out).mono ?_); rintro e w' ⟨rfl, ⟨nd, rfl⟩⟩; refine ⟨_, rfl, ?_⟩) | ((with_reducible refine gate_callee (f := 40) rfl ?_); refine goesL_ (some 110) rfl rfl Try.func40 (by kernel_rfl) rfl #[.int .i64 (wrap64 ((wrap64 (t184 * t185)) + 7))] rfl (by (try simp only [List.map_toArray, List.map_cons, List.map_nil]); first | done | rfl | (simp only [List.length_drop, List.length_take]; rfl)) ?_; (with_reducible refine (spec_WrapCell.calls (wrap64 ((wrap64 (t184 * t185)) + 7)) t199 _ A27.out).mono ?_); rintro e w' ⟨rfl, ⟨nd, rfl⟩⟩; refine ⟨_, rfl, ?_⟩) | ((with_reducible refine gate_callee (f := 36) rfl ?_); refine goesL_ (some 125) rfl rfl Try.func36 (by kernel_rfl) rfl #[.int .i64 4, .int .i64 t184, .int .i64 t185] rfl (by (try simp only [List.map_toArray, List.map_cons, List.map_nil]); first | done | rfl | (simp only [List.length_drop, List.length_take]; rfl)) ?_; (with_reducible refine (impl_TwoCells.calls k1 4 t184 t185 t200 t201 t202 _ A30.out).mono ?_); rintro e w' ⟨rfl, ⟨nd, rfl⟩⟩; refine ⟨_, rfl, ?_⟩) | ((with_reducible refine gate_callee (f := 36) rfl ?_); refine goesL_ (some 132) rfl rfl Try.func36 (by kernel_rfl) rfl #[.int .i64 5, .int .i64 t184, .int .i64 t185] rfl (by (try simp only [List.map_toArray, List.map_cons, List.map_nil]); first | done | rfl | (simp only [List.length_drop, List.length_take]; rfl)) ?_; (with_reducible refine (impl_TwoCells.calls k1 5 t184 t185 t203 t204 t205 _ A31.out).mono ?_); rintro e w' ⟨rfl, ⟨nd, rfl⟩⟩; refine ⟨_, rfl, ?_⟩))
                  all_goals go_ret
                  exact ⟨by first | rfl | (simp [errW_none, errW_some] <;> rfl) | (simp [*, errW_none, errW_some] <;> rfl), by repeat (first | (with_reducible first | exact HB.out | apply below_alloc | apply pw_below_drewN | apply below_drew1) | exact HB.out)⟩
                  all_goals (exfalso; simp only [beq_iff_eq, decide_eq_decide, decide_eq_true_eq, decide_eq_false_iff_not] at *; omega)
                · rw [if_neg c32] at H
                  have c32b0 : (t185 == 0) = false := beq_eq_false_iff_ne.mpr c32
                  have c32b1 : (t185 != 0) = true := bne_iff_ne.mpr c32
                  replace H := Option.bind_eq_some_iff.mp H
                  obtain ⟨t206, A330, H⟩ := H
                  replace H : ((impl_Unsigned.f t184).bind fun bt207 => ((spec_Unsigned.f t184).bind fun bt209 => (if t201 = true then (if t206 = t184 then (if t203 = 0 then (if t185 > 0 then (if t203 < t185 then (if bt207.2 = 0 then (if bt207.1 = bt209.1 then (if bt207.1 ≥ 0 then ((impl_WrapCell.f bt207.1).bind fun t211 => (some (t211 == t184))) else (some false)) else (some false)) else (some false)) else (if t185 < 0 then (if t203 > t185 then (if bt207.2 = 0 then (if bt207.1 = bt209.1 then (if bt207.1 ≥ 0 then ((impl_WrapCell.f bt207.1).bind fun t212 => (some (t212 == t184))) else (some false)) else (some false)) else (some false)) else (some false)) else (some false))) else (if t185 < 0 then (if t203 > t185 then (if bt207.2 = 0 then (if bt207.1 = bt209.1 then (if bt207.1 ≥ 0 then ((impl_WrapCell.f bt207.1).bind fun t213 => (some (t213 == t184))) else (some false)) else (some false)) else (some false)) else (some false)) else (some false))) else (if ((decide (t203 < 0)) == (decide (t185 < 0))) = true then (if t185 > 0 then (if t203 < t185 then (if bt207.2 = 0 then (if bt207.1 = bt209.1 then (if bt207.1 ≥ 0 then ((impl_WrapCell.f bt207.1).bind fun t214 => (some (t214 == t184))) else (some false)) else (some false)) else (some false)) else (if t185 < 0 then (if t203 > t185 then (if bt207.2 = 0 then (if bt207.1 = bt209.1 then (if bt207.1 ≥ 0 then ((impl_WrapCell.f bt207.1).bind fun t215 => (some (t215 == t184))) else (some false)) else (some false)) else (some false)) else (some false)) else (some false))) else (if t185 < 0 then (if t203 > t185 then (if bt207.2 = 0 then (if bt207.1 = bt209.1 then (if bt207.1 ≥ 0 then ((impl_WrapCell.f bt207.1).bind fun t216 => (some (t216 == t184))) else (some false)) else (some false)) else (some false)) else (some false)) else (some false))) else (some false))) else (some false)) else (some false)))) = some true := H
                  have A33 := Aside0.mk A330
                  clear A330
                  replace H := Option.bind_eq_some_iff.mp H
                  obtain ⟨⟨t207, t208⟩, A340, H⟩ := H
                  replace H : ((spec_Unsigned.f t184).bind fun bt209 => (if t201 = true then (if t206 = t184 then (if t203 = 0 then (if t185 > 0 then (if t203 < t185 then (if t208 = 0 then (if t207 = bt209.1 then (if t207 ≥ 0 then ((impl_WrapCell.f t207).bind fun t211 => (some (t211 == t184))) else (some false)) else (some false)) else (some false)) else (if t185 < 0 then (if t203 > t185 then (if t208 = 0 then (if t207 = bt209.1 then (if t207 ≥ 0 then ((impl_WrapCell.f t207).bind fun t212 => (some (t212 == t184))) else (some false)) else (some false)) else (some false)) else (some false)) else (some false))) else (if t185 < 0 then (if t203 > t185 then (if t208 = 0 then (if t207 = bt209.1 then (if t207 ≥ 0 then ((impl_WrapCell.f t207).bind fun t213 => (some (t213 == t184))) else (some false)) else (some false)) else (some false)) else (some false)) else (some false))) else (if ((decide (t203 < 0)) == (decide (t185 < 0))) = true then (if t185 > 0 then (if t203 < t185 then (if t208 = 0 then (if t207 = bt209.1 then (if t207 ≥ 0 then ((impl_WrapCell.f t207).bind fun t214 => (some (t214 == t184))) else (some false)) else (some false)) else (some false)) else (if t185 < 0 then (if t203 > t185 then (if t208 = 0 then (if t207 = bt209.1 then (if t207 ≥ 0 then ((impl_WrapCell.f t207).bind fun t215 => (some (t215 == t184))) else (some false)) else (some false)) else (some false)) else (some false)) else (some false))) else (if t185 < 0 then (if t203 > t185 then (if t208 = 0 then (if t207 = bt209.1 then (if t207 ≥ 0 then ((impl_WrapCell.f t207).bind fun t216 => (some (t216 == t184))) else (some false)) else (some false)) else (some false)) else (some false)) else (some false))) else (some false))) else (some false)) else (some false))) = some true := H
                  have A34 := Aside0.mk A340
                  clear A340
                  replace H := Option.bind_eq_some_iff.mp H
                  obtain ⟨⟨t209, t210⟩, A350, H⟩ := H
                  replace H : (if t201 = true then (if t206 = t184 then (if t203 = 0 then (if t185 > 0 then (if t203 < t185 then (if t208 = 0 then (if t207 = t209 then (if t207 ≥ 0 then ((impl_WrapCell.f t207).bind fun t211 => (some (t211 == t184))) else (some false)) else (some false)) else (some false)) else (if t185 < 0 then (if t203 > t185 then (if t208 = 0 then (if t207 = t209 then (if t207 ≥ 0 then ((impl_WrapCell.f t207).bind fun t212 => (some (t212 == t184))) else (some false)) else (some false)) else (some false)) else (some false)) else (some false))) else (if t185 < 0 then (if t203 > t185 then (if t208 = 0 then (if t207 = t209 then (if t207 ≥ 0 then ((impl_WrapCell.f t207).bind fun t213 => (some (t213 == t184))) else (some false)) else (some false)) else (some false)) else (some false)) else (some false))) else (if ((decide (t203 < 0)) == (decide (t185 < 0))) = true then (if t185 > 0 then (if t203 < t185 then (if t208 = 0 then (if t207 = t209 then (if t207 ≥ 0 then ((impl_WrapCell.f t207).bind fun t214 => (some (t214 == t184))) else (some false)) else (some false)) else (some false)) else (if t185 < 0 then (if t203 > t185 then (if t208 = 0 then (if t207 = t209 then (if t207 ≥ 0 then ((impl_WrapCell.f t207).bind fun t215 => (some (t215 == t184))) else (some false)) else (some false)) else (some false)) else (some false)) else (some false))) else (if t185 < 0 then (if t203 > t185 then (if t208 = 0 then (if t207 = t209 then (if t207 ≥ 0 then ((impl_WrapCell.f t207).bind fun t216 => (some (t216 == t184))) else (some false)) else (some false)) else (some false)) else (some false)) else (some false))) else (some false))) else (some false)) else (some false)) = some true := H
                  have A35 := Aside0.mk A350
                  clear A350
                  by_cases c36 : t201 = true
                  · subst c36
                    have H1 : (if t206 = t184 then (if t203 = 0 then (if t185 > 0 then (if t203 < t185 then (if t208 = 0 then (if t207 = t209 then (if t207 ≥ 0 then ((impl_WrapCell.f t207).bind fun t211 => (some (t211 == t184))) else (some false)) else (some false)) else (some false)) else (if t185 < 0 then (if t203 > t185 then (if t208 = 0 then (if t207 = t209 then (if t207 ≥ 0 then ((impl_WrapCell.f t207).bind fun t212 => (some (t212 == t184))) else (some false)) else (some false)) else (some false)) else (some false)) else (some false))) else (if t185 < 0 then (if t203 > t185 then (if t208 = 0 then (if t207 = t209 then (if t207 ≥ 0 then ((impl_WrapCell.f t207).bind fun t213 => (some (t213 == t184))) else (some false)) else (some false)) else (some false)) else (some false)) else (some false))) else (if ((decide (t203 < 0)) == (decide (t185 < 0))) = true then (if t185 > 0 then (if t203 < t185 then (if t208 = 0 then (if t207 = t209 then (if t207 ≥ 0 then ((impl_WrapCell.f t207).bind fun t214 => (some (t214 == t184))) else (some false)) else (some false)) else (some false)) else (if t185 < 0 then (if t203 > t185 then (if t208 = 0 then (if t207 = t209 then (if t207 ≥ 0 then ((impl_WrapCell.f t207).bind fun t215 => (some (t215 == t184))) else (some false)) else (some false)) else (some false)) else (some false)) else (some false))) else (if t185 < 0 then (if t203 > t185 then (if t208 = 0 then (if t207 = t209 then (if t207 ≥ 0 then ((impl_WrapCell.f t207).bind fun t216 => (some (t216 == t184))) else (some false)) else (some false)) else (some false)) else (some false)) else (some false))) else (some false))) else (some false)) = some true := by rw [if_pos rfl] at H; first | done | exact H
                    clear H
                    have H := H1
                    clear H1
                    by_cases c37 : t206 = t184
                    · rw [if_pos c37] at H
                      have c37b0 : (t206 == t184) = true := beq_iff_eq.mpr c37
                      have c37b1 : (t206 != t184) = false := bne_eq_false_iff_eq.mpr c37
                      clear c37
                      by_cases c38 : t203 = 0
                      · rw [if_pos c38] at H
                        have c38b0 : (t203 == 0) = true := beq_iff_eq.mpr c38
                        have c38b1 : (t203 != 0) = false := bne_eq_false_iff_eq.mpr c38
                        clear c38
                        by_cases c39 : t185 > 0
                        · rw [if_pos c39] at H
                          have c39b0 : decide (0 < t185) = true := decide_eq_true c39
                          clear c39
                          by_cases c40 : t203 < t185
                          · rw [if_pos c40] at H
                            have c40b0 : decide (t203 < t185) = true := decide_eq_true c40
                            clear c40
                            by_cases c41 : t208 = 0
                            · rw [if_pos c41] at H
                              have c41b0 : (t208 == 0) = true := beq_iff_eq.mpr c41
                              have c41b1 : (t208 != 0) = false := bne_eq_false_iff_eq.mpr c41
                              clear c41
                              by_cases c42 : t207 = t209
                              · rw [if_pos c42] at H
                                have c42b0 : (t207 == t209) = true := beq_iff_eq.mpr c42
                                have c42b1 : (t207 != t209) = false := bne_eq_false_iff_eq.mpr c42
                                clear c42
                                by_cases c43 : t207 ≥ 0
                                · rw [if_pos c43] at H
                                  have c43b0 : decide (0 ≤ t207) = true := decide_eq_true c43
                                  clear c43
                                  replace H := Option.bind_eq_some_iff.mp H
                                  obtain ⟨t211, A440, H⟩ := H
                                  replace H : (some (t211 == t184)) = some true := H
                                  have A44 := Aside0.mk A440
                                  clear A440
                                  have Hr_ := Option.some.inj H
                                  go_wp2_with (first | ((with_reducible refine gate_callee (f := 39) rfl ?_); refine goesL_ (some 104) rfl rfl Try.func39 (by kernel_rfl) rfl #[.int .i64 (wrap64 ((wrap64 (t184 * t185)) + 7))] rfl (by (try simp only [List.map_toArray, List.map_cons, List.map_nil]); first | done | rfl | (simp only [List.length_drop, List.length_take]; rfl)) ?_; (with_reducible refine (impl_WrapCell.calls (wrap64 ((wrap64 (t184 * t185)) + 7)) t198 _ A26.out).mono ?_); rintro e w' ⟨rfl, ⟨nd, rfl⟩⟩; refine ⟨_, rfl, ?_⟩) | ((with_reducible refine gate_callee (f := 40) rfl ?_); refine goesL_ (some 110) rfl rfl Try.func40 (by kernel_rfl) rfl #[.int .i64 (wrap64 ((wrap64 (t184 * t185)) + 7))] rfl (by (try simp only [List.map_toArray, List.map_cons, List.map_nil]); first | done | rfl | (simp only [List.length_drop, List.length_take]; rfl)) ?_; (with_reducible refine (spec_WrapCell.calls (wrap64 ((wrap64 (t184 * t185)) + 7)) t199 _ A27.out).mono ?_); rintro e w' ⟨rfl, ⟨nd, rfl⟩⟩; refine ⟨_, rfl, ?_⟩) | ((with_reducible refine gate_callee (f := 36) rfl ?_); refine goesL_ (some 125) rfl rfl Try.func36 (by kernel_rfl) rfl #[.int .i64 4, .int .i64 t184, .int .i64 t185] rfl (by (try simp only [List.map_toArray, List.map_cons, List.map_nil]); first | done | rfl | (simp only [List.length_drop, List.length_take]; rfl)) ?_; (with_reducible refine (impl_TwoCells.calls k1 4 t184 t185 t200 true t202 _ A30.out).mono ?_); rintro e w' ⟨rfl, ⟨nd, rfl⟩⟩; refine ⟨_, rfl, ?_⟩) | ((with_reducible refine gate_callee (f := 36) rfl ?_); refine goesL_ (some 132) rfl rfl Try.func36 (by kernel_rfl) rfl #[.int .i64 5, .int .i64 t184, .int .i64 t185] rfl (by (try simp only [List.map_toArray, List.map_cons, List.map_nil]); first | done | rfl | (simp only [List.length_drop, List.length_take]; rfl)) ?_; (with_reducible refine (impl_TwoCells.calls k1 5 t184 t185 t203 t204 t205 _ A31.out).mono ?_); rintro e w' ⟨rfl, ⟨nd, rfl⟩⟩; refine ⟨_, rfl, ?_⟩) | ((with_reducible refine gate_callee (f := 39) rfl ?_); refine goesL_ (some 145) rfl rfl Try.func39 (by kernel_rfl) rfl #[.int .i64 (wrap64 ((wrap64 (t200 * t185)) + t203))] rfl (by (try simp only [List.map_toArray, List.map_cons, List.map_nil]); first | done | rfl | (simp only [List.length_drop, List.length_take]; rfl)) ?_; (with_reducible refine (impl_WrapCell.calls (wrap64 ((wrap64 (t200 * t185)) + t203)) t206 _ A33.out).mono ?_); rintro e w' ⟨rfl, ⟨nd, rfl⟩⟩; refine ⟨_, rfl, ?_⟩) | ((with_reducible refine gate_callee (f := 41) rfl ?_); refine goesL_ (some 148) rfl rfl Try.func41 (by kernel_rfl) rfl #[.int .i64 t184] rfl (by (try simp only [List.map_toArray, List.map_cons, List.map_nil]); first | done | rfl | (simp only [List.length_drop, List.length_take]; rfl)) ?_; (with_reducible refine (impl_Unsigned.calls t184 t207 t208 _ A34.out).mono ?_); rintro e w' ⟨rfl, ⟨nd, rfl⟩⟩; refine ⟨_, rfl, ?_⟩) | ((with_reducible refine gate_callee (f := 42) rfl ?_); refine goesL_ (some 153) rfl rfl Try.func42 (by kernel_rfl) rfl #[.int .i64 t184] rfl (by (try simp only [List.map_toArray, List.map_cons, List.map_nil]); first | done | rfl | (simp only [List.length_drop, List.length_take]; rfl)) ?_; (with_reducible refine (spec_Unsigned.calls t184 t209 t210 _ A35.out).mono ?_); rintro e w' ⟨rfl, ⟨nd, rfl⟩⟩; refine ⟨_, rfl, ?_⟩) | (go_at_call 39; (with_reducible refine (impl_WrapCell.calls t207 t211 _ A44.out).mono ?_); rintro e w' ⟨rfl, ⟨nd, rfl⟩⟩))
                                  all_goals go_ret
                                  exact ⟨by first | rfl | (simp [errW_none, errW_some] <;> rfl) | (simp [*, errW_none, errW_some] <;> rfl), by repeat (first | (with_reducible first | exact HB.out | apply below_alloc | apply pw_below_drewN | apply below_drew1) | exact HB.out)⟩
                                  all_goals (exfalso; simp only [beq_iff_eq, decide_eq_decide, decide_eq_true_eq, decide_eq_false_iff_not] at *; omega)
                                · rw [if_neg c43] at H
                                  have c43b0 : decide (0 ≤ t207) = false := decide_eq_false c43
                                  clear c43
                                  exact absurd (Option.some.inj H) (by decide)
                              · rw [if_neg c42] at H
                                have c42b0 : (t207 == t209) = false := beq_eq_false_iff_ne.mpr c42
                                have c42b1 : (t207 != t209) = true := bne_iff_ne.mpr c42
                                exact absurd (Option.some.inj H) (by decide)
                            · rw [if_neg c41] at H
                              have c41b0 : (t208 == 0) = false := beq_eq_false_iff_ne.mpr c41
                              have c41b1 : (t208 != 0) = true := bne_iff_ne.mpr c41
                              exact absurd (Option.some.inj H) (by decide)
                          · rw [if_neg c40] at H
                            have c40b0 : decide (t203 < t185) = false := decide_eq_false c40
                            clear c40
                            by_cases c45 : t185 < 0
                            · rw [if_pos c45] at H
                              have c45b0 : decide (t185 < 0) = true := decide_eq_true c45
                              clear c45
                              by_cases c46 : t203 > t185
                              · rw [if_pos c46] at H
                                have c46b0 : decide (t185 < t203) = true := decide_eq_true c46
                                clear c46
                                by_cases c47 : t208 = 0
                                · rw [if_pos c47] at H
                                  have c47b0 : (t208 == 0) = true := beq_iff_eq.mpr c47
                                  have c47b1 : (t208 != 0) = false := bne_eq_false_iff_eq.mpr c47
                                  clear c47
                                  by_cases c48 : t207 = t209
                                  · rw [if_pos c48] at H
                                    have c48b0 : (t207 == t209) = true := beq_iff_eq.mpr c48
                                    have c48b1 : (t207 != t209) = false := bne_eq_false_iff_eq.mpr c48
                                    clear c48
                                    by_cases c49 : t207 ≥ 0
                                    · rw [if_pos c49] at H
                                      have c49b0 : decide (0 ≤ t207) = true := decide_eq_true c49
                                      clear c49
                                      replace H := Option.bind_eq_some_iff.mp H
                                      obtain ⟨t212, A500, H⟩ := H
                                      replace H : (some (t212 == t184)) = some true := H
                                      have A50 := Aside0.mk A500
                                      clear A500
                                      have Hr_ := Option.some.inj H
                                      go_wp2_with (first | ((with_reducible refine gate_callee (f := 39) rfl ?_); refine goesL_ (some 104) rfl rfl Try.func39 (by kernel_rfl) rfl #[.int .i64 (wrap64 ((wrap64 (t184 * t185)) + 7))] rfl (by (try simp only [List.map_toArray, List.map_cons, List.map_nil]); first | done | rfl | (simp only [List.length_drop, List.length_take]; rfl)) ?_; (with_reducible refine (impl_WrapCell.calls (wrap64 ((wrap64 (t184 * t185)) + 7)) t198 _ A26.out).mono ?_); rintro e w' ⟨rfl, ⟨nd, rfl⟩⟩; refine ⟨_, rfl, ?_⟩) | ((with_reducible refine gate_callee (f := 40) rfl ?_); refine goesL_ (some 110) rfl rfl Try.func40 (by kernel_rfl) rfl #[.int .i64 (wrap64 ((wrap64 (t184 * t185)) + 7))] rfl (by (try simp only [List.map_toArray, List.map_cons, List.map_nil]); first | done | rfl | (simp only [List.length_drop, List.length_take]; rfl)) ?_; (with_reducible refine (spec_WrapCell.calls (wrap64 ((wrap64 (t184 * t185)) + 7)) t199 _ A27.out).mono ?_); rintro e w' ⟨rfl, ⟨nd, rfl⟩⟩; refine ⟨_, rfl, ?_⟩) | ((with_reducible refine gate_callee (f := 36) rfl ?_); refine goesL_ (some 125) rfl rfl Try.func36 (by kernel_rfl) rfl #[.int .i64 4, .int .i64 t184, .int .i64 t185] rfl (by (try simp only [List.map_toArray, List.map_cons, List.map_nil]); first | done | rfl | (simp only [List.length_drop, List.length_take]; rfl)) ?_; (with_reducible refine (impl_TwoCells.calls k1 4 t184 t185 t200 true t202 _ A30.out).mono ?_); rintro e w' ⟨rfl, ⟨nd, rfl⟩⟩; refine ⟨_, rfl, ?_⟩) | ((with_reducible refine gate_callee (f := 36) rfl ?_); refine goesL_ (some 132) rfl rfl Try.func36 (by kernel_rfl) rfl #[.int .i64 5, .int .i64 t184, .int .i64 t185] rfl (by (try simp only [List.map_toArray, List.map_cons, List.map_nil]); first | done | rfl | (simp only [List.length_drop, List.length_take]; rfl)) ?_; (with_reducible refine (impl_TwoCells.calls k1 5 t184 t185 t203 t204 t205 _ A31.out).mono ?_); rintro e w' ⟨rfl, ⟨nd, rfl⟩⟩; refine ⟨_, rfl, ?_⟩) | ((with_reducible refine gate_callee (f := 39) rfl ?_); refine goesL_ (some 145) rfl rfl Try.func39 (by kernel_rfl) rfl #[.int .i64 (wrap64 ((wrap64 (t200 * t185)) + t203))] rfl (by (try simp only [List.map_toArray, List.map_cons, List.map_nil]); first | done | rfl | (simp only [List.length_drop, List.length_take]; rfl)) ?_; (with_reducible refine (impl_WrapCell.calls (wrap64 ((wrap64 (t200 * t185)) + t203)) t206 _ A33.out).mono ?_); rintro e w' ⟨rfl, ⟨nd, rfl⟩⟩; refine ⟨_, rfl, ?_⟩) | ((with_reducible refine gate_callee (f := 41) rfl ?_); refine goesL_ (some 148) rfl rfl Try.func41 (by kernel_rfl) rfl #[.int .i64 t184] rfl (by (try simp only [List.map_toArray, List.map_cons, List.map_nil]); first | done | rfl | (simp only [List.length_drop, List.length_take]; rfl)) ?_; (with_reducible refine (impl_Unsigned.calls t184 t207 t208 _ A34.out).mono ?_); rintro e w' ⟨rfl, ⟨nd, rfl⟩⟩; refine ⟨_, rfl, ?_⟩) | ((with_reducible refine gate_callee (f := 42) rfl ?_); refine goesL_ (some 153) rfl rfl Try.func42 (by kernel_rfl) rfl #[.int .i64 t184] rfl (by (try simp only [List.map_toArray, List.map_cons, List.map_nil]); first | done | rfl | (simp only [List.length_drop, List.length_take]; rfl)) ?_; (with_reducible refine (spec_Unsigned.calls t184 t209 t210 _ A35.out).mono ?_); rintro e w' ⟨rfl, ⟨nd, rfl⟩⟩; refine ⟨_, rfl, ?_⟩) | (go_at_call 39; (with_reducible refine (impl_WrapCell.calls t207 t212 _ A50.out).mono ?_); rintro e w' ⟨rfl, ⟨nd, rfl⟩⟩))
                                      all_goals go_ret
                                      exact ⟨by first | rfl | (simp [errW_none, errW_some] <;> rfl) | (simp [*, errW_none, errW_some] <;> rfl), by repeat (first | (with_reducible first | exact HB.out | apply below_alloc | apply pw_below_drewN | apply below_drew1) | exact HB.out)⟩
                                      all_goals (exfalso; simp only [beq_iff_eq, decide_eq_decide, decide_eq_true_eq, decide_eq_false_iff_not] at *; omega)
                                    · rw [if_neg c49] at H
                                      have c49b0 : decide (0 ≤ t207) = false := decide_eq_false c49
                                      clear c49
                                      exact absurd (Option.some.inj H) (by decide)
                                  · rw [if_neg c48] at H
                                    have c48b0 : (t207 == t209) = false := beq_eq_false_iff_ne.mpr c48
                                    have c48b1 : (t207 != t209) = true := bne_iff_ne.mpr c48
                                    exact absurd (Option.some.inj H) (by decide)
                                · rw [if_neg c47] at H
                                  have c47b0 : (t208 == 0) = false := beq_eq_false_iff_ne.mpr c47
                                  have c47b1 : (t208 != 0) = true := bne_iff_ne.mpr c47
                                  exact absurd (Option.some.inj H) (by decide)
                              · rw [if_neg c46] at H
                                have c46b0 : decide (t185 < t203) = false := decide_eq_false c46
                                clear c46
                                exact absurd (Option.some.inj H) (by decide)
                            · rw [if_neg c45] at H
                              have c45b0 : decide (t185 < 0) = false := decide_eq_false c45
                              clear c45
                              exact absurd (Option.some.inj H) (by decide)
                        · rw [if_neg c39] at H
                          have c39b0 : decide (0 < t185) = false := decide_eq_false c39
                          clear c39
                          by_cases c51 : t185 < 0
                          · rw [if_pos c51] at H
                            have c51b0 : decide (t185 < 0) = true := decide_eq_true c51
                            clear c51
                            by_cases c52 : t203 > t185
                            · rw [if_pos c52] at H
                              have c52b0 : decide (t185 < t203) = true := decide_eq_true c52
                              clear c52
                              by_cases c53 : t208 = 0
                              · rw [if_pos c53] at H
                                have c53b0 : (t208 == 0) = true := beq_iff_eq.mpr c53
                                have c53b1 : (t208 != 0) = false := bne_eq_false_iff_eq.mpr c53
                                clear c53
                                by_cases c54 : t207 = t209
                                · rw [if_pos c54] at H
                                  have c54b0 : (t207 == t209) = true := beq_iff_eq.mpr c54
                                  have c54b1 : (t207 != t209) = false := bne_eq_false_iff_eq.mpr c54
                                  clear c54
                                  by_cases c55 : t207 ≥ 0
                                  · rw [if_pos c55] at H
                                    have c55b0 : decide (0 ≤ t207) = true := decide_eq_true c55
                                    clear c55
                                    replace H := Option.bind_eq_some_iff.mp H
                                    obtain ⟨t213, A560, H⟩ := H
                                    replace H : (some (t213 == t184)) = some true := H
                                    have A56 := Aside0.mk A560
                                    clear A560
                                    have Hr_ := Option.some.inj H
                                    go_wp2_with (first | ((with_reducible refine gate_callee (f := 39) rfl ?_); refine goesL_ (some 104) rfl rfl Try.func39 (by kernel_rfl) rfl #[.int .i64 (wrap64 ((wrap64 (t184 * t185)) + 7))] rfl (by (try simp only [List.map_toArray, List.map_cons, List.map_nil]); first | done | rfl | (simp only [List.length_drop, List.length_take]; rfl)) ?_; (with_reducible refine (impl_WrapCell.calls (wrap64 ((wrap64 (t184 * t185)) + 7)) t198 _ A26.out).mono ?_); rintro e w' ⟨rfl, ⟨nd, rfl⟩⟩; refine ⟨_, rfl, ?_⟩) | ((with_reducible refine gate_callee (f := 40) rfl ?_); refine goesL_ (some 110) rfl rfl Try.func40 (by kernel_rfl) rfl #[.int .i64 (wrap64 ((wrap64 (t184 * t185)) + 7))] rfl (by (try simp only [List.map_toArray, List.map_cons, List.map_nil]); first | done | rfl | (simp only [List.length_drop, List.length_take]; rfl)) ?_; (with_reducible refine (spec_WrapCell.calls (wrap64 ((wrap64 (t184 * t185)) + 7)) t199 _ A27.out).mono ?_); rintro e w' ⟨rfl, ⟨nd, rfl⟩⟩; refine ⟨_, rfl, ?_⟩) | ((with_reducible refine gate_callee (f := 36) rfl ?_); refine goesL_ (some 125) rfl rfl Try.func36 (by kernel_rfl) rfl #[.int .i64 4, .int .i64 t184, .int .i64 t185] rfl (by (try simp only [List.map_toArray, List.map_cons, List.map_nil]); first | done | rfl | (simp only [List.length_drop, List.length_take]; rfl)) ?_; (with_reducible refine (impl_TwoCells.calls k1 4 t184 t185 t200 true t202 _ A30.out).mono ?_); rintro e w' ⟨rfl, ⟨nd, rfl⟩⟩; refine ⟨_, rfl, ?_⟩) | ((with_reducible refine gate_callee (f := 36) rfl ?_); refine goesL_ (some 132) rfl rfl Try.func36 (by kernel_rfl) rfl #[.int .i64 5, .int .i64 t184, .int .i64 t185] rfl (by (try simp only [List.map_toArray, List.map_cons, List.map_nil]); first | done | rfl | (simp only [List.length_drop, List.length_take]; rfl)) ?_; (with_reducible refine (impl_TwoCells.calls k1 5 t184 t185 t203 t204 t205 _ A31.out).mono ?_); rintro e w' ⟨rfl, ⟨nd, rfl⟩⟩; refine ⟨_, rfl, ?_⟩) | ((with_reducible refine gate_callee (f := 39) rfl ?_); refine goesL_ (some 145) rfl rfl Try.func39 (by kernel_rfl) rfl #[.int .i64 (wrap64 ((wrap64 (t200 * t185)) + t203))] rfl (by (try simp only [List.map_toArray, List.map_cons, List.map_nil]); first | done | rfl | (simp only [List.length_drop, List.length_take]; rfl)) ?_; (with_reducible refine (impl_WrapCell.calls (wrap64 ((wrap64 (t200 * t185)) + t203)) t206 _ A33.out).mono ?_); rintro e w' ⟨rfl, ⟨nd, rfl⟩⟩; refine ⟨_, rfl, ?_⟩) | ((with_reducible refine gate_callee (f := 41) rfl ?_); refine goesL_ (some 148) rfl rfl Try.func41 (by kernel_rfl) rfl #[.int .i64 t184] rfl (by (try simp only [List.map_toArray, List.map_cons, List.map_nil]); first | done | rfl | (simp only [List.length_drop, List.length_take]; rfl)) ?_; (with_reducible refine (impl_Unsigned.calls t184 t207 t208 _ A34.out).mono ?_); rintro e w' ⟨rfl, ⟨nd, rfl⟩⟩; refine ⟨_, rfl, ?_⟩) | ((with_reducible refine gate_callee (f := 42) rfl ?_); refine goesL_ (some 153) rfl rfl Try.func42 (by kernel_rfl) rfl #[.int .i64 t184] rfl (by (try simp only [List.map_toArray, List.map_cons, List.map_nil]); first | done | rfl | (simp only [List.length_drop, List.length_take]; rfl)) ?_; (with_reducible refine (spec_Unsigned.calls t184 t209 t210 _ A35.out).mono ?_); rintro e w' ⟨rfl, ⟨nd, rfl⟩⟩; refine ⟨_, rfl, ?_⟩) | (go_at_call 39; (with_reducible refine (impl_WrapCell.calls t207 t213 _ A56.out).mono ?_); rintro e w' ⟨rfl, ⟨nd, rfl⟩⟩))
                                    all_goals go_ret
                                    exact ⟨by first | rfl | (simp [errW_none, errW_some] <;> rfl) | (simp [*, errW_none, errW_some] <;> rfl), by repeat (first | (with_reducible first | exact HB.out | apply below_alloc | apply pw_below_drewN | apply below_drew1) | exact HB.out)⟩
                                    all_goals (exfalso; simp only [beq_iff_eq, decide_eq_decide, decide_eq_true_eq, decide_eq_false_iff_not] at *; omega)
                                  · rw [if_neg c55] at H
                                    have c55b0 : decide (0 ≤ t207) = false := decide_eq_false c55
                                    clear c55
                                    exact absurd (Option.some.inj H) (by decide)
                                · rw [if_neg c54] at H
                                  have c54b0 : (t207 == t209) = false := beq_eq_false_iff_ne.mpr c54
                                  have c54b1 : (t207 != t209) = true := bne_iff_ne.mpr c54
                                  exact absurd (Option.some.inj H) (by decide)
                              · rw [if_neg c53] at H
                                have c53b0 : (t208 == 0) = false := beq_eq_false_iff_ne.mpr c53
                                have c53b1 : (t208 != 0) = true := bne_iff_ne.mpr c53
                                exact absurd (Option.some.inj H) (by decide)
                            · rw [if_neg c52] at H
                              have c52b0 : decide (t185 < t203) = false := decide_eq_false c52
                              clear c52
                              exact absurd (Option.some.inj H) (by decide)
                          · rw [if_neg c51] at H
                            have c51b0 : decide (t185 < 0) = false := decide_eq_false c51
                            clear c51
                            exact absurd (Option.some.inj H) (by decide)
                      · rw [if_neg c38] at H
                        have c38b0 : (t203 == 0) = false := beq_eq_false_iff_ne.mpr c38
                        have c38b1 : (t203 != 0) = true := bne_iff_ne.mpr c38
                        by_cases c57 : ((decide (t203 < 0)) == (decide (t185 < 0))) = true
                        · rw [if_pos c57] at H
                          have c57b0 : ((decide (t203 < 0)) == (decide (t185 < 0))) = true := c57
                          (try (have c57b1 : decide ((decide (t203 < 0)) = (decide (t185 < 0))) = true := by simpa using c57))
                          (try (have c57b2 : ((decide (t203 < 0)) == (decide (t185 < 0))) = true := by simpa using c57))
                          clear c57
                          by_cases c58 : t185 > 0
                          · rw [if_pos c58] at H
                            have c58b0 : decide (0 < t185) = true := decide_eq_true c58
                            clear c58
                            by_cases c59 : t203 < t185
                            · rw [if_pos c59] at H
                              have c59b0 : decide (t203 < t185) = true := decide_eq_true c59
                              clear c59
                              by_cases c60 : t208 = 0
                              · rw [if_pos c60] at H
                                have c60b0 : (t208 == 0) = true := beq_iff_eq.mpr c60
                                have c60b1 : (t208 != 0) = false := bne_eq_false_iff_eq.mpr c60
                                clear c60
                                by_cases c61 : t207 = t209
                                · rw [if_pos c61] at H
                                  have c61b0 : (t207 == t209) = true := beq_iff_eq.mpr c61
                                  have c61b1 : (t207 != t209) = false := bne_eq_false_iff_eq.mpr c61
                                  clear c61
                                  by_cases c62 : t207 ≥ 0
                                  · rw [if_pos c62] at H
                                    have c62b0 : decide (0 ≤ t207) = true := decide_eq_true c62
                                    clear c62
                                    replace H := Option.bind_eq_some_iff.mp H
                                    obtain ⟨t214, A630, H⟩ := H
                                    replace H : (some (t214 == t184)) = some true := H
                                    have A63 := Aside0.mk A630
                                    clear A630
                                    have Hr_ := Option.some.inj H
                                    go_wp2_with (first | ((with_reducible refine gate_callee (f := 39) rfl ?_); refine goesL_ (some 104) rfl rfl Try.func39 (by kernel_rfl) rfl #[.int .i64 (wrap64 ((wrap64 (t184 * t185)) + 7))] rfl (by (try simp only [List.map_toArray, List.map_cons, List.map_nil]); first | done | rfl | (simp only [List.length_drop, List.length_take]; rfl)) ?_; (with_reducible refine (impl_WrapCell.calls (wrap64 ((wrap64 (t184 * t185)) + 7)) t198 _ A26.out).mono ?_); rintro e w' ⟨rfl, ⟨nd, rfl⟩⟩; refine ⟨_, rfl, ?_⟩) | ((with_reducible refine gate_callee (f := 40) rfl ?_); refine goesL_ (some 110) rfl rfl Try.func40 (by kernel_rfl) rfl #[.int .i64 (wrap64 ((wrap64 (t184 * t185)) + 7))] rfl (by (try simp only [List.map_toArray, List.map_cons, List.map_nil]); first | done | rfl | (simp only [List.length_drop, List.length_take]; rfl)) ?_; (with_reducible refine (spec_WrapCell.calls (wrap64 ((wrap64 (t184 * t185)) + 7)) t199 _ A27.out).mono ?_); rintro e w' ⟨rfl, ⟨nd, rfl⟩⟩; refine ⟨_, rfl, ?_⟩) | ((with_reducible refine gate_callee (f := 36) rfl ?_); refine goesL_ (some 125) rfl rfl Try.func36 (by kernel_rfl) rfl #[.int .i64 4, .int .i64 t184, .int .i64 t185] rfl (by (try simp only [List.map_toArray, List.map_cons, List.map_nil]); first | done | rfl | (simp only [List.length_drop, List.length_take]; rfl)) ?_; (with_reducible refine (impl_TwoCells.calls k1 4 t184 t185 t200 true t202 _ A30.out).mono ?_); rintro e w' ⟨rfl, ⟨nd, rfl⟩⟩; refine ⟨_, rfl, ?_⟩) | ((with_reducible refine gate_callee (f := 36) rfl ?_); refine goesL_ (some 132) rfl rfl Try.func36 (by kernel_rfl) rfl #[.int .i64 5, .int .i64 t184, .int .i64 t185] rfl (by (try simp only [List.map_toArray, List.map_cons, List.map_nil]); first | done | rfl | (simp only [List.length_drop, List.length_take]; rfl)) ?_; (with_reducible refine (impl_TwoCells.calls k1 5 t184 t185 t203 t204 t205 _ A31.out).mono ?_); rintro e w' ⟨rfl, ⟨nd, rfl⟩⟩; refine ⟨_, rfl, ?_⟩) | ((with_reducible refine gate_callee (f := 39) rfl ?_); refine goesL_ (some 145) rfl rfl Try.func39 (by kernel_rfl) rfl #[.int .i64 (wrap64 ((wrap64 (t200 * t185)) + t203))] rfl (by (try simp only [List.map_toArray, List.map_cons, List.map_nil]); first | done | rfl | (simp only [List.length_drop, List.length_take]; rfl)) ?_; (with_reducible refine (impl_WrapCell.calls (wrap64 ((wrap64 (t200 * t185)) + t203)) t206 _ A33.out).mono ?_); rintro e w' ⟨rfl, ⟨nd, rfl⟩⟩; refine ⟨_, rfl, ?_⟩) | ((with_reducible refine gate_callee (f := 41) rfl ?_); refine goesL_ (some 148) rfl rfl Try.func41 (by kernel_rfl) rfl #[.int .i64 t184] rfl (by (try simp only [List.map_toArray, List.map_cons, List.map_nil]); first | done | rfl | (simp only [List.length_drop, List.length_take]; rfl)) ?_; (with_reducible refine (impl_Unsigned.calls t184 t207 t208 _ A34.out).mono ?_); rintro e w' ⟨rfl, ⟨nd, rfl⟩⟩; refine ⟨_, rfl, ?_⟩) | ((with_reducible refine gate_callee (f := 42) rfl ?_); refine goesL_ (some 153) rfl rfl Try.func42 (by kernel_rfl) rfl #[.int .i64 t184] rfl (by (try simp only [List.map_toArray, List.map_cons, List.map_nil]); first | done | rfl | (simp only [List.length_drop, List.length_take]; rfl)) ?_; (with_reducible refine (spec_Unsigned.calls t184 t209 t210 _ A35.out).mono ?_); rintro e w' ⟨rfl, ⟨nd, rfl⟩⟩; refine ⟨_, rfl, ?_⟩) | (go_at_call 39; (with_reducible refine (impl_WrapCell.calls t207 t214 _ A63.out).mono ?_); rintro e w' ⟨rfl, ⟨nd, rfl⟩⟩))
                                    all_goals go_ret
                                    exact ⟨by first | rfl | (simp [errW_none, errW_some] <;> rfl) | (simp [*, errW_none, errW_some] <;> rfl), by repeat (first | (with_reducible first | exact HB.out | apply below_alloc | apply pw_below_drewN | apply below_drew1) | exact HB.out)⟩
                                    all_goals (exfalso; simp only [beq_iff_eq, decide_eq_decide, decide_eq_true_eq, decide_eq_false_iff_not] at *; omega)
                                  · rw [if_neg c62] at H
                                    have c62b0 : decide (0 ≤ t207) = false := decide_eq_false c62
                                    clear c62
                                    exact absurd (Option.some.inj H) (by decide)
                                · rw [if_neg c61] at H
                                  have c61b0 : (t207 == t209) = false := beq_eq_false_iff_ne.mpr c61
                                  have c61b1 : (t207 != t209) = true := bne_iff_ne.mpr c61
                                  exact absurd (Option.some.inj H) (by decide)
                              · rw [if_neg c60] at H
                                have c60b0 : (t208 == 0) = false := beq_eq_false_iff_ne.mpr c60
                                have c60b1 : (t208 != 0) = true := bne_iff_ne.mpr c60
                                exact absurd (Option.some.inj H) (by decide)
                            · rw [if_neg c59] at H
                              have c59b0 : decide (t203 < t185) = false := decide_eq_false c59
                              clear c59
                              by_cases c64 : t185 < 0
                              · rw [if_pos c64] at H
                                have c64b0 : decide (t185 < 0) = true := decide_eq_true c64
                                clear c64
                                by_cases c65 : t203 > t185
                                · rw [if_pos c65] at H
                                  have c65b0 : decide (t185 < t203) = true := decide_eq_true c65
                                  clear c65
                                  by_cases c66 : t208 = 0
                                  · rw [if_pos c66] at H
                                    have c66b0 : (t208 == 0) = true := beq_iff_eq.mpr c66
                                    have c66b1 : (t208 != 0) = false := bne_eq_false_iff_eq.mpr c66
                                    clear c66
                                    by_cases c67 : t207 = t209
                                    · rw [if_pos c67] at H
                                      have c67b0 : (t207 == t209) = true := beq_iff_eq.mpr c67
                                      have c67b1 : (t207 != t209) = false := bne_eq_false_iff_eq.mpr c67
                                      clear c67
                                      by_cases c68 : t207 ≥ 0
                                      · rw [if_pos c68] at H
                                        have c68b0 : decide (0 ≤ t207) = true := decide_eq_true c68
                                        clear c68
                                        replace H := Option.bind_eq_some_iff.mp H
                                        obtain ⟨t215, A690, H⟩ := H
                                        replace H : (some (t215 == t184)) = some true := H
                                        have A69 := Aside0.mk A690
                                        clear A690
                                        have Hr_ := Option.some.inj H
                                        go_wp2_with (first | ((with_reducible refine gate_callee (f := 39) rfl ?_); refine goesL_ (some 104) rfl rfl Try.func39 (by kernel_rfl) rfl #[.int .i64 (wrap64 ((wrap64 (t184 * t185)) + 7))] rfl (by (try simp only [List.map_toArray, List.map_cons, List.map_nil]); first | done | rfl | (simp only [List.length_drop, List.length_take]; rfl)) ?_; (with_reducible refine (impl_WrapCell.calls (wrap64 ((wrap64 (t184 * t185)) + 7)) t198 _ A26.out).mono ?_); rintro e w' ⟨rfl, ⟨nd, rfl⟩⟩; refine ⟨_, rfl, ?_⟩) | ((with_reducible refine gate_callee (f := 40) rfl ?_); refine goesL_ (some 110) rfl rfl Try.func40 (by kernel_rfl) rfl #[.int .i64 (wrap64 ((wrap64 (t184 * t185)) + 7))] rfl (by (try simp only [List.map_toArray, List.map_cons, List.map_nil]); first | done | rfl | (simp only [List.length_drop, List.length_take]; rfl)) ?_; (with_reducible refine (spec_WrapCell.calls (wrap64 ((wrap64 (t184 * t185)) + 7)) t199 _ A27.out).mono ?_); rintro e w' ⟨rfl, ⟨nd, rfl⟩⟩; refine ⟨_, rfl, ?_⟩) | ((with_reducible refine gate_callee (f := 36) rfl ?_); refine goesL_ (some 125) rfl rfl Try.func36 (by kernel_rfl) rfl #[.int .i64 4, .int .i64 t184, .int .i64 t185] rfl (by (try simp only [List.map_toArray, List.map_cons, List.map_nil]); first | done | rfl | (simp only [List.length_drop, List.length_take]; rfl)) ?_; (with_reducible refine (impl_TwoCells.calls k1 4 t184 t185 t200 true t202 _ A30.out).mono ?_); rintro e w' ⟨rfl, ⟨nd, rfl⟩⟩; refine ⟨_, rfl, ?_⟩) | ((with_reducible refine gate_callee (f := 36) rfl ?_); refine goesL_ (some 132) rfl rfl Try.func36 (by kernel_rfl) rfl #[.int .i64 5, .int .i64 t184, .int .i64 t185] rfl (by (try simp only [List.map_toArray, List.map_cons, List.map_nil]); first | done | rfl | (simp only [List.length_drop, List.length_take]; rfl)) ?_; (with_reducible refine (impl_TwoCells.calls k1 5 t184 t185 t203 t204 t205 _ A31.out).mono ?_); rintro e w' ⟨rfl, ⟨nd, rfl⟩⟩; refine ⟨_, rfl, ?_⟩) | ((with_reducible refine gate_callee (f := 39) rfl ?_); refine goesL_ (some 145) rfl rfl Try.func39 (by kernel_rfl) rfl #[.int .i64 (wrap64 ((wrap64 (t200 * t185)) + t203))] rfl (by (try simp only [List.map_toArray, List.map_cons, List.map_nil]); first | done | rfl | (simp only [List.length_drop, List.length_take]; rfl)) ?_; (with_reducible refine (impl_WrapCell.calls (wrap64 ((wrap64 (t200 * t185)) + t203)) t206 _ A33.out).mono ?_); rintro e w' ⟨rfl, ⟨nd, rfl⟩⟩; refine ⟨_, rfl, ?_⟩) | ((with_reducible refine gate_callee (f := 41) rfl ?_); refine goesL_ (some 148) rfl rfl Try.func41 (by kernel_rfl) rfl #[.int .i64 t184] rfl (by (try simp only [List.map_toArray, List.map_cons, List.map_nil]); first | done | rfl | (simp only [List.length_drop, List.length_take]; rfl)) ?_; (with_reducible refine (impl_Unsigned.calls t184 t207 t208 _ A34.out).mono ?_); rintro e w' ⟨rfl, ⟨nd, rfl⟩⟩; refine ⟨_, rfl, ?_⟩) | ((with_reducible refine gate_callee (f := 42) rfl ?_); refine goesL_ (some 153) rfl rfl Try.func42 (by kernel_rfl) rfl #[.int .i64 t184] rfl (by (try simp only [List.map_toArray, List.map_cons, List.map_nil]); first | done | rfl | (simp only [List.length_drop, List.length_take]; rfl)) ?_; (with_reducible refine (spec_Unsigned.calls t184 t209 t210 _ A35.out).mono ?_); rintro e w' ⟨rfl, ⟨nd, rfl⟩⟩; refine ⟨_, rfl, ?_⟩) | (go_at_call 39; (with_reducible refine (impl_WrapCell.calls t207 t215 _ A69.out).mono ?_); rintro e w' ⟨rfl, ⟨nd, rfl⟩⟩))
                                        all_goals go_ret
                                        exact ⟨by first | rfl | (simp [errW_none, errW_some] <;> rfl) | (simp [*, errW_none, errW_some] <;> rfl), by repeat (first | (with_reducible first | exact HB.out | apply below_alloc | apply pw_below_drewN | apply below_drew1) | exact HB.out)⟩
                                        all_goals (exfalso; simp only [beq_iff_eq, decide_eq_decide, decide_eq_true_eq, decide_eq_false_iff_not] at *; omega)
                                      · rw [if_neg c68] at H
                                        have c68b0 : decide (0 ≤ t207) = false := decide_eq_false c68
                                        clear c68
                                        exact absurd (Option.some.inj H) (by decide)
                                    · rw [if_neg c67] at H
                                      have c67b0 : (t207 == t209) = false := beq_eq_false_iff_ne.mpr c67
                                      have c67b1 : (t207 != t209) = true := bne_iff_ne.mpr c67
                                      exact absurd (Option.some.inj H) (by decide)
                                  · rw [if_neg c66] at H
                                    have c66b0 : (t208 == 0) = false := beq_eq_false_iff_ne.mpr c66
                                    have c66b1 : (t208 != 0) = true := bne_iff_ne.mpr c66
                                    exact absurd (Option.some.inj H) (by decide)
                                · rw [if_neg c65] at H
                                  have c65b0 : decide (t185 < t203) = false := decide_eq_false c65
                                  clear c65
                                  exact absurd (Option.some.inj H) (by decide)
                              · rw [if_neg c64] at H
                                have c64b0 : decide (t185 < 0) = false := decide_eq_false c64
                                clear c64
                                exact absurd (Option.some.inj H) (by decide)
                          · rw [if_neg c58] at H
                            have c58b0 : decide (0 < t185) = false := decide_eq_false c58
                            clear c58
                            by_cases c70 : t185 < 0
                            · rw [if_pos c70] at H
                              have c70b0 : decide (t185 < 0) = true := decide_eq_true c70
                              clear c70
                              by_cases c71 : t203 > t185
                              · rw [if_pos c71] at H
                                have c71b0 : decide (t185 < t203) = true := decide_eq_true c71
                                clear c71
                                by_cases c72 : t208 = 0
                                · rw [if_pos c72] at H
                                  have c72b0 : (t208 == 0) = true := beq_iff_eq.mpr c72
                                  have c72b1 : (t208 != 0) = false := bne_eq_false_iff_eq.mpr c72
                                  clear c72
                                  by_cases c73 : t207 = t209
                                  · rw [if_pos c73] at H
                                    have c73b0 : (t207 == t209) = true := beq_iff_eq.mpr c73
                                    have c73b1 : (t207 != t209) = false := bne_eq_false_iff_eq.mpr c73
                                    clear c73
                                    by_cases c74 : t207 ≥ 0
                                    · rw [if_pos c74] at H
                                      have c74b0 : decide (0 ≤ t207) = true := decide_eq_true c74
                                      clear c74
                                      replace H := Option.bind_eq_some_iff.mp H
                                      obtain ⟨t216, A750, H⟩ := H
                                      replace H : (some (t216 == t184)) = some true := H
                                      have A75 := Aside0.mk A750
                                      clear A750
                                      have Hr_ := Option.some.inj H
                                      go_wp2_with (first | ((with_reducible refine gate_callee (f := 39) rfl ?_); refine goesL_ (some 104) rfl rfl Try.func39 (by kernel_rfl) rfl #[.int .i64 (wrap64 ((wrap64 (t184 * t185)) + 7))] rfl (by (try simp only [List.map_toArray, List.map_cons, List.map_nil]); first | done | rfl | (simp only [List.length_drop, List.length_take]; rfl)) ?_; (with_reducible refine (impl_WrapCell.calls (wrap64 ((wrap64 (t184 * t185)) + 7)) t198 _ A26.out).mono ?_); rintro e w' ⟨rfl, ⟨nd, rfl⟩⟩; refine ⟨_, rfl, ?_⟩) | ((with_reducible refine gate_callee (f := 40) rfl ?_); refine goesL_ (some 110) rfl rfl Try.func40 (by kernel_rfl) rfl #[.int .i64 (wrap64 ((wrap64 (t184 * t185)) + 7))] rfl (by (try simp only [List.map_toArray, List.map_cons, List.map_nil]); first | done | rfl | (simp only [List.length_drop, List.length_take]; rfl)) ?_; (with_reducible refine (spec_WrapCell.calls (wrap64 ((wrap64 (t184 * t185)) + 7)) t199 _ A27.out).mono ?_); rintro e w' ⟨rfl, ⟨nd, rfl⟩⟩; refine ⟨_, rfl, ?_⟩) | ((with_reducible refine gate_callee (f := 36) rfl ?_); refine goesL_ (some 125) rfl rfl Try.func36 (by kernel_rfl) rfl #[.int .i64 4, .int .i64 t184, .int .i64 t185] rfl (by (try simp only [List.map_toArray, List.map_cons, List.map_nil]); first | done | rfl | (simp only [List.length_drop, List.length_take]; rfl)) ?_; (with_reducible refine (impl_TwoCells.calls k1 4 t184 t185 t200 true t202 _ A30.out).mono ?_); rintro e w' ⟨rfl, ⟨nd, rfl⟩⟩; refine ⟨_, rfl, ?_⟩) | ((with_reducible refine gate_callee (f := 36) rfl ?_); refine goesL_ (some 132) rfl rfl Try.func36 (by kernel_rfl) rfl #[.int .i64 5, .int .i64 t184, .int .i64 t185] rfl (by (try simp only [List.map_toArray, List.map_cons, List.map_nil]); first | done | rfl | (simp only [List.length_drop, List.length_take]; rfl)) ?_; (with_reducible refine (impl_TwoCells.calls k1 5 t184 t185 t203 t204 t205 _ A31.out).mono ?_); rintro e w' ⟨rfl, ⟨nd, rfl⟩⟩; refine ⟨_, rfl, ?_⟩) | ((with_reducible refine gate_callee (f := 39) rfl ?_); refine goesL_ (some 145) rfl rfl Try.func39 (by kernel_rfl) rfl #[.int .i64 (wrap64 ((wrap64 (t200 * t185)) + t203))] rfl (by (try simp only [List.map_toArray, List.map_cons, List.map_nil]); first | done | rfl | (simp only [List.length_drop, List.length_take]; rfl)) ?_; (with_reducible refine (impl_WrapCell.calls (wrap64 ((wrap64 (t200 * t185)) + t203)) t206 _ A33.out).mono ?_); rintro e w' ⟨rfl, ⟨nd, rfl⟩⟩; refine ⟨_, rfl, ?_⟩) | ((with_reducible refine gate_callee (f := 41) rfl ?_); refine goesL_ (some 148) rfl rfl Try.func41 (by kernel_rfl) rfl #[.int .i64 t184] rfl (by (try simp only [List.map_toArray, List.map_cons, List.map_nil]); first | done | rfl | (simp only [List.length_drop, List.length_take]; rfl)) ?_; (with_reducible refine (impl_Unsigned.calls t184 t207 t208 _ A34.out).mono ?_); rintro e w' ⟨rfl, ⟨nd, rfl⟩⟩; refine ⟨_, rfl, ?_⟩) | ((with_reducible refine gate_callee (f := 42) rfl ?_); refine goesL_ (some 153) rfl rfl Try.func42 (by kernel_rfl) rfl #[.int .i64 t184] rfl (by (try simp only [List.map_toArray, List.map_cons, List.map_nil]); first | done | rfl | (simp only [List.length_drop, List.length_take]; rfl)) ?_; (with_reducible refine (spec_Unsigned.calls t184 t209 t210 _ A35.out).mono ?_); rintro e w' ⟨rfl, ⟨nd, rfl⟩⟩; refine ⟨_, rfl, ?_⟩) | (go_at_call 39; (with_reducible refine (impl_WrapCell.calls t207 t216 _ A75.out).mono ?_); rintro e w' ⟨rfl, ⟨nd, rfl⟩⟩))
                                      all_goals go_ret
                                      exact ⟨by first | rfl | (simp [errW_none, errW_some] <;> rfl) | (simp [*, errW_none, errW_some] <;> rfl), by repeat (first | (with_reducible first | exact HB.out | apply below_alloc | apply pw_below_drewN | apply below_drew1) | exact HB.out)⟩
                                      all_goals (exfalso; simp only [beq_iff_eq, decide_eq_decide, decide_eq_true_eq, decide_eq_false_iff_not] at *; omega)
                                    · rw [if_neg c74] at H
                                      have c74b0 : decide (0 ≤ t207) = false := decide_eq_false c74
                                      clear c74
                                      exact absurd (Option.some.inj H) (by decide)
                                  · rw [if_neg c73] at H
                                    have c73b0 : (t207 == t209) = false := beq_eq_false_iff_ne.mpr c73
                                    have c73b1 : (t207 != t209) = true := bne_iff_ne.mpr c73
                                    exact absurd (Option.some.inj H) (by decide)
                                · rw [if_neg c72] at H
                                  have c72b0 : (t208 == 0) = false := beq_eq_false_iff_ne.mpr c72
                                  have c72b1 : (t208 != 0) = true := bne_iff_ne.mpr c72
                                  exact absurd (Option.some.inj H) (by decide)
                              · rw [if_neg c71] at H
                                have c71b0 : decide (t185 < t203) = false := decide_eq_false c71
                                clear c71
                                exact absurd (Option.some.inj H) (by decide)
                            · rw [if_neg c70] at H
                              have c70b0 : decide (t185 < 0) = false := decide_eq_false c70
                              clear c70
                              exact absurd (Option.some.inj H) (by decide)
                        · rw [if_neg c57] at H
                          have c57b0 : ((decide (t203 < 0)) == (decide (t185 < 0))) = false := by simpa using c57
                          (try (have c57b1 : decide ((decide (t203 < 0)) = (decide (t185 < 0))) = false := by simpa using c57))
                          (try (have c57b2 : ((decide (t203 < 0)) == (decide (t185 < 0))) = false := by simpa using c57))
                          (try (have c57b3 : ¬ ((decide (t203 < 0)) = (decide (t185 < 0))) := by simpa using c57))
                          clear c57
                          exact absurd (Option.some.inj H) (by decide)
                    · rw [if_neg c37] at H
                      have c37b0 : (t206 == t184) = false := beq_eq_false_iff_ne.mpr c37
                      have c37b1 : (t206 != t184) = true := bne_iff_ne.mpr c37
                      exact absurd (Option.some.inj H) (by decide)
                  · replace c36 := Bool.eq_false_iff.mpr c36
                    subst c36
                    have H1 : (some false) = some true := by rw [if_neg (show ¬ (false = true) by decide)] at H; first | done | exact H
                    clear H
                    have H := H1
                    clear H1
                    exact absurd (Option.some.inj H) (by decide)
              · rw [if_neg c29] at H
                have c29b0 : ((Int.tmod (wrap64 ((wrap64 ((wrap64 (t184 * t185)) + 7)) - t198)) 4294967296) == 0) = false := beq_eq_false_iff_ne.mpr c29
                have c29b1 : ((Int.tmod (wrap64 ((wrap64 ((wrap64 (t184 * t185)) + 7)) - t198)) 4294967296) != 0) = true := bne_iff_ne.mpr c29
                exact absurd (Option.some.inj H) (by decide)
            · rw [if_neg c28] at H
              have c28b0 : (t198 == t199) = false := beq_eq_false_iff_ne.mpr c28
              have c28b1 : (t198 != t199) = true := bne_iff_ne.mpr c28
              exact absurd (Option.some.inj H) (by decide)

/-- THE ONE PURE STATEMENT of laws_FnCells: yours. -/
def laws_FnCells.Pure : Prop := ∀ (l0 : List Int) (l1 : List Int), l0.length ≤ maxLen → l0.length * 1 ≤ 140737488351232 → (∀ x ∈ l0, (Lit.int .u8 x).wf = true) → l1.length ≤ maxLen → l1.length * 1 ≤ 140737488351232 → (∀ x ∈ l1, (Lit.int .u8 x).wf = true) → ∃ k, laws_FnCells.f k l0 l1 = some true
theorem laws_FnCells.walk (P : laws_FnCells.Pure) (a0 : Option Addr) (len0 cap0 : Nat) (z0 : List Int) (a1 : Option Addr) (len1 cap1 : Nat) (z1 : List Int) (w : World) (w0 : (a0 = none ∧ len0 = 0 ∧ cap0 = 0 ∧ z0 = []) ∨ ∃ x, a0 = some x ∧ len0 ≤ cap0 ∧ cap0 ≤ maxLen ∧ z0.length = cap0 ∧ (∀ i, i < z0.length → w.cell? (x.add i) = some (.int .u8 (z0.getD i 0))) ∧ ∀ n ∈ z0, (Lit.int .u8 n).wf = true) (y0 : len0 * 1 ≤ 140737488351232) (w1 : (a1 = none ∧ len1 = 0 ∧ cap1 = 0 ∧ z1 = []) ∨ ∃ x, a1 = some x ∧ len1 ≤ cap1 ∧ cap1 ≤ maxLen ∧ z1.length = cap1 ∧ (∀ i, i < z1.length → w.cell? (x.add i) = some (.int .u8 (z1.getD i 0))) ∧ ∀ n ∈ z1, (Lit.int .u8 n).wf = true) (y1 : len1 * 1 ≤ 140737488351232) :
    Calls Try.prog 9 #[.slice a0 len0 cap0, .slice a1 len1 cap1] w fun e w' => e = .returned (.bool true) ∧ Below w.heap.size w w' := by
  obtain ⟨l0, rfl, hr0, hm0, hw0, hc0⟩ := ReadsInt.ofRowC w0
  obtain ⟨l1, rfl, hr1, hm1, hw1, hc1⟩ := ReadsInt.ofRowC w1
  obtain ⟨k, h⟩ := P l0 l1 hm0 y0 hw0 hm1 y1 hw1
  refine (laws_FnCells.calls k _ _ l0 _ _ l1 w (Kd.C_of_reads (d := (0 : Int)) (h1 := fun _ => rfl) hr0) hc0 (Kd.C_of_reads (d := (0 : Int)) (h1 := fun _ => rfl) hr1) hc1 h).mono ?_
  rintro e w' ⟨rfl, hd⟩
  exact ⟨rfl, hd⟩

end Go.Proofs.Ytbdcdmbnhialcaa.PFnCells
