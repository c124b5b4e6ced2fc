-- laid by a program of this session out of the translation's own print: Lean checks it
import Derived.Test.YtcelnpmahnblpaaPFnExactStorex0
import Derived.Test.YtcelnpmahnblpaaPFnExactStorex3
namespace Go.Proofs.Ytcelnpmahnblpaa.PFnExactStore
open Go.RowKit Go.Proofs.YtcelnpmahnblpaaW.PrintWords Go.Proofs.YtcelnpmahnblpaaW.PrintLast Go.Proofs.YtcelnpmahnblpaaW.PrintMore
attribute [local go_sem] max2_int min2_int max_two min_two max_three min_three max_four min_four   -- for this text's walks alone
set_option linter.unusedVariables false
set_option linter.unusedSimpArgs false

/-! ### impl_in: function 49 -/
def impl_in.f (a0 : Int) (a1 : Int) (a2 : Int) : Option (Bool) := if a1 ≤ a0 then (some (decide (a0 ≤ a2))) else (some false)
set_option maxHeartbeats 8000000 in
set_option maxRecDepth 100000 in
theorem impl_in.calls (a0 : Int) (a1 : Int) (a2 : Int) (r : Bool) (w : World) (h : impl_in.f a0 a1 a2 = some r) :
    Calls Try.prog 49 #[.int .i64 a0, .int .i64 a1, .int .i64 a2] w fun e w' => e = .returned (.bool r) ∧ Drawn0 w w' := by
  have H : (if a1 ≤ a0 then (some (decide (a0 ≤ a2))) else (some false)) = some r := h
  clear h
  by_cases c4 : a1 ≤ a0
  · rw [if_pos c4] at H
    have c4b0 : decide (a1 ≤ a0) = true := decide_eq_true c4
    clear c4
    obtain rfl := Option.some.inj H
    go_enter Try.func49, Try.ntmps49
    go_wp2
    go_ret
    exact ⟨by first | rfl | (simp; done) | (simp [*]; done), by repeat (first | exact Drawn0.refl _ | apply Drawn0.step)⟩
  · rw [if_neg c4] at H
    have c4b0 : decide (a1 ≤ a0) = false := decide_eq_false c4
    clear c4
    obtain rfl := Option.some.inj H
    go_enter Try.func49, Try.ntmps49
    go_wp2
    go_ret
    exact ⟨by first | rfl | (simp; done) | (simp [*]; done), by repeat (first | exact Drawn0.refl _ | apply Drawn0.step)⟩

/-! ### impl_isBase: function 50 -/
def impl_isBase.f (a0 : Int) : Option (Bool) := (impl_in.f a0 2 16).bind fun t231 => (some t231)
set_option maxHeartbeats 8000000 in
set_option maxRecDepth 100000 in
theorem impl_isBase.calls (a0 : Int) (r : Bool) (w : World) (h : impl_isBase.f a0 = some r) :
    Calls Try.prog 50 #[.int .i64 a0] w fun e w' => e = .returned (.bool r) ∧ Drawn0 w w' := by
  have H : ((impl_in.f a0 2 16).bind fun t231 => (some t231)) = some r := h
  clear h
  replace H := Option.bind_eq_some_iff.mp H
  obtain ⟨t231, A20, H⟩ := H
  replace H : (some t231) = some r := H
  have A2 := Aside0.mk A20
  clear A20
  obtain rfl := Option.some.inj H
  go_enter Try.func50, Try.ntmps50
  go_wp2_with (first | ((with_reducible refine gate_callee (f := 49) rfl ?_); refine goesL_ (some 4) rfl rfl Try.func49 (by kernel_rfl) rfl #[.int .i64 a0, .int .i64 2, .int .i64 16] rfl (by (try simp only [List.map_toArray, List.map_cons, List.map_nil]); first | done | rfl | (simp only [List.length_drop, List.length_take]; rfl)) ?_; (with_reducible refine (impl_in.calls a0 2 16 t231 _ A2.out).mono ?_); rintro e w' ⟨rfl, ⟨nd, rfl⟩⟩; refine ⟨_, rfl, ?_⟩))
  go_ret
  exact ⟨by first | rfl | (simp; done) | (simp [*]; done), by repeat (first | exact Drawn0.refl _ | apply Drawn0.step)⟩

/-! ### impl_DataOK: function 22 -/
def impl_DataOK.f (k : Nat) (l0_0 : List Int) (l0_1 : List Int) (l0_2 : List Int) (a0_3 : Int) (a0_4 : Int) (a0_5 : ByteArray) : Option (Bool) := (impl_areCells.f k l0_0 32).bind fun t233 => (if t233 = true then ((impl_areCells.f k l0_1 32).bind fun t234 => (if t234 = true then ((impl_areCells.f k l0_2 32).bind fun t235 => (if t235 = true then (if (l0_2.length : Int) = 32 then ((impl_in.f a0_3 0 32).bind fun t236 => (if t236 = true then ((impl_isBase.f a0_4).bind fun t237 => (if t237 = true then (some (decide ((a0_5.size : Int) ≤ 300))) else (some false))) else (some false))) else (some false)) else (some false))) else (some false))) else (some false))
theorem impl_DataOK.mono : ∀ a0 a1 a2 a3 a4 a5 k, LeO (impl_DataOK.f k a0 a1 a2 a3 a4 a5) (impl_DataOK.f (k + 1) a0 a1 a2 a3 a4 a5) := by
  intro a0 a1 a2 a3 a4 a5 k
  unfold impl_DataOK.f
  repeat' first
      | (with_reducible exact impl_areCells.mono _ _ _)
      | (with_reducible exact LeO.refl _)
      | (with_reducible exact LeO.none _)
      | (with_reducible refine LeO.ite ?_ ?_)
      | (with_reducible refine LeO.bind ?_ (fun _ => ?_))
      | exact impl_areCells.mono _ _ _
      | exact LeO.none _
      | refine LeO.ite ?_ ?_
      | refine LeO.bind ?_ (fun _ => ?_)
set_option maxHeartbeats 8000000 in
set_option maxRecDepth 100000 in
theorem impl_DataOK.calls (k : Nat) (A0_0 : Option Addr) (c0_0 : Nat) (l0_0 : List Int) (A0_1 : Option Addr) (c0_1 : Nat) (l0_1 : List Int) (A0_2 : Option Addr) (c0_2 : Nat) (l0_2 : List Int) (a0_3 : Int) (a0_4 : Int) (a0_5 : ByteArray) (r : Bool) (w : World) (hr0_0 : Kd.C (Kd.int .i64) w A0_0 l0_0.length l0_0) (hc0_0 : l0_0.length ≤ c0_0) (hr0_1 : Kd.C (Kd.int .i64) w A0_1 l0_1.length l0_1) (hc0_1 : l0_1.length ≤ c0_1) (hr0_2 : Kd.C (Kd.int .i64) w A0_2 l0_2.length l0_2) (hc0_2 : l0_2.length ≤ c0_2) (h : impl_DataOK.f k l0_0 l0_1 l0_2 a0_3 a0_4 a0_5 = some r) :
    Calls Try.prog 22 #[.agg #[.slice A0_0 l0_0.length c0_0, .slice A0_1 l0_1.length c0_1, .slice A0_2 l0_2.length c0_2, .int .i64 a0_3, .int .i64 a0_4, .string a0_5]] w fun e w' => e = .returned (.bool r) ∧ Below w.heap.size w w' := by
  have hu24 := Try.underlying24
  have HR0_0 := Aside0.mk hr0_0
  have HC0_0 := Aside0.mk hc0_0
  clear hr0_0 hc0_0
  have HR0_1 := Aside0.mk hr0_1
  have HC0_1 := Aside0.mk hc0_1
  clear hr0_1 hc0_1
  have HR0_2 := Aside0.mk hr0_2
  have HC0_2 := Aside0.mk hc0_2
  clear hr0_2 hc0_2
  have HB := Aside0.mk (Below.refl w.heap.size w)
  have H : ((impl_areCells.f k l0_0 32).bind fun t233 => (if t233 = true then ((impl_areCells.f k l0_1 32).bind fun t234 => (if t234 = true then ((impl_areCells.f k l0_2 32).bind fun t235 => (if t235 = true then (if (l0_2.length : Int) = 32 then ((impl_in.f a0_3 0 32).bind fun t236 => (if t236 = true then ((impl_isBase.f a0_4).bind fun t237 => (if t237 = true then (some (decide ((a0_5.size : Int) ≤ 300))) else (some false))) else (some false))) else (some false)) else (some false))) else (some false))) else (some false))) = some r := h
  clear h
  replace H := Option.bind_eq_some_iff.mp H
  obtain ⟨t233, A20, H⟩ := H
  replace H : (if t233 = true then ((impl_areCells.f k l0_1 32).bind fun t234 => (if t234 = true then ((impl_areCells.f k l0_2 32).bind fun t235 => (if t235 = true then (if (l0_2.length : Int) = 32 then ((impl_in.f a0_3 0 32).bind fun t236 => (if t236 = true then ((impl_isBase.f a0_4).bind fun t237 => (if t237 = true then (some (decide ((a0_5.size : Int) ≤ 300))) else (some false))) else (some false))) else (some false)) else (some false))) else (some false))) else (some false)) = some r := H
  have A2 := Aside0.mk A20
  clear A20
  by_cases c3 : t233 = true
  · subst c3
    have H1 : ((impl_areCells.f k l0_1 32).bind fun t234 => (if t234 = true then ((impl_areCells.f k l0_2 32).bind fun t235 => (if t235 = true then (if (l0_2.length : Int) = 32 then ((impl_in.f a0_3 0 32).bind fun t236 => (if t236 = true then ((impl_isBase.f a0_4).bind fun t237 => (if t237 = true then (some (decide ((a0_5.size : Int) ≤ 300))) else (some false))) else (some false))) else (some false)) else (some false))) else (some false))) = some r := by rw [if_pos rfl] at H; first | done | exact H
    clear H
    have H := H1
    clear H1
    replace H := Option.bind_eq_some_iff.mp H
    obtain ⟨t234, A40, H⟩ := H
    replace H : (if t234 = true then ((impl_areCells.f k l0_2 32).bind fun t235 => (if t235 = true then (if (l0_2.length : Int) = 32 then ((impl_in.f a0_3 0 32).bind fun t236 => (if t236 = true then ((impl_isBase.f a0_4).bind fun t237 => (if t237 = true then (some (decide ((a0_5.size : Int) ≤ 300))) else (some false))) else (some false))) else (some false)) else (some false))) else (some false)) = some r := H
    have A4 := Aside0.mk A40
    clear A40
    by_cases c5 : t234 = true
    · subst c5
      have H1 : ((impl_areCells.f k l0_2 32).bind fun t235 => (if t235 = true then (if (l0_2.length : Int) = 32 then ((impl_in.f a0_3 0 32).bind fun t236 => (if t236 = true then ((impl_isBase.f a0_4).bind fun t237 => (if t237 = true then (some (decide ((a0_5.size : Int) ≤ 300))) else (some false))) else (some false))) else (some false)) else (some false))) = some r := by rw [if_pos rfl] at H; first | done | exact H
      clear H
      have H := H1
      clear H1
      replace H := Option.bind_eq_some_iff.mp H
      obtain ⟨t235, A60, H⟩ := H
      replace H : (if t235 = true then (if (l0_2.length : Int) = 32 then ((impl_in.f a0_3 0 32).bind fun t236 => (if t236 = true then ((impl_isBase.f a0_4).bind fun t237 => (if t237 = true then (some (decide ((a0_5.size : Int) ≤ 300))) else (some false))) else (some false))) else (some false)) else (some false)) = some r := H
      have A6 := Aside0.mk A60
      clear A60
      by_cases c7 : t235 = true
      · subst c7
        have H1 : (if (l0_2.length : Int) = 32 then ((impl_in.f a0_3 0 32).bind fun t236 => (if t236 = true then ((impl_isBase.f a0_4).bind fun t237 => (if t237 = true then (some (decide ((a0_5.size : Int) ≤ 300))) else (some false))) else (some false))) else (some false)) = some r := by rw [if_pos rfl] at H; first | done | exact H
        clear H
        have H := H1
        clear H1
        by_cases c8 : (l0_2.length : Int) = 32
        · rw [if_pos c8] at H
          have c8b0 : ((l0_2.length : Int) == 32) = true := beq_iff_eq.mpr c8
          have c8b1 : ((l0_2.length : Int) != 32) = false := bne_eq_false_iff_eq.mpr c8
          clear c8
          replace H := Option.bind_eq_some_iff.mp H
          obtain ⟨t236, A90, H⟩ := H
          replace H : (if t236 = true then ((impl_isBase.f a0_4).bind fun t237 => (if t237 = true then (some (decide ((a0_5.size : Int) ≤ 300))) else (some false))) else (some false)) = some r := H
          have A9 := Aside0.mk A90
          clear A90
          by_cases c10 : t236 = true
          · subst c10
            have H1 : ((impl_isBase.f a0_4).bind fun t237 => (if t237 = true then (some (decide ((a0_5.size : Int) ≤ 300))) else (some false))) = some r := by rw [if_pos rfl] at H; first | done | exact H
            clear H
            have H := H1
            clear H1
            replace H := Option.bind_eq_some_iff.mp H
            obtain ⟨t237, A110, H⟩ := H
            replace H : (if t237 = true then (some (decide ((a0_5.size : Int) ≤ 300))) else (some false)) = some r := H
            have A11 := Aside0.mk A110
            clear A110
            by_cases c12 : t237 = true
            · subst c12
              have H1 : (some (decide ((a0_5.size : Int) ≤ 300))) = some r := by rw [if_pos rfl] at H; first | done | exact H
              clear H
              have H := H1
              clear H1
              obtain rfl := Option.some.inj H
              go_enter Try.func22, Try.ntmps22
              go_wp2_with (first | ((with_reducible refine gate_dst (N := 1) rfl ?_); (try (refine gate_guard (by rfl) ?_; dsimp only)); refine box_event ?hg (N := 1) ?hd (cs := #[.slice A0_0 l0_0.length c0_0, .slice A0_1 l0_1.length c0_1, .slice A0_2 l0_2.length c0_2, .int .i64 a0_3, .int .i64 a0_4, .string a0_5]) (t := 24) ?hr ?_; (case hd => rfl); (case hg => rfl); (case hr => first | (go_simp; done) | (go_simp; rfl)); intro gb232 hg w13 hbox hb; have n0_ := Aside0.mk (below_step (by repeat (first | (with_reducible first | exact HB.out | apply below_alloc | apply pw_below_drewN | apply below_drew1) | exact HB.out)) hb); have n1_ := Aside0.mk (hbox); have n2_ := Aside0.mk ((by rw [hg]; exact (below_size (by repeat (first | (with_reducible first | exact HB.out | apply below_alloc | apply pw_below_drewN | apply below_drew1) | exact HB.out))) : w.heap.size ≤ gb232)); have n3_ := Aside0.mk ((by rw [hg]; exact (below_size (by repeat (first | (with_reducible first | exact HB.out | apply below_alloc | apply pw_below_drewN | apply below_drew1) | exact HB.out))) : w.heap.size ≤ gb232)); clear HB; have HB := n0_; have BK232 := n1_; have GW232 := n2_; have GE232 := n3_; clear n0_ n1_ n2_ n3_; clear hb hbox hg; have hcz14_0 : w13.cell? ⟨gb232, 0, none⟩ = some (.slice A0_0 l0_0.length c0_0) := (blk_cell BK232.out 0).trans rfl; have hcz14_1 : w13.cell? ⟨gb232, 1, none⟩ = some (.slice A0_1 l0_1.length c0_1) := (blk_cell BK232.out 1).trans rfl; have hcz14_2 : w13.cell? ⟨gb232, 2, none⟩ = some (.slice A0_2 l0_2.length c0_2) := (blk_cell BK232.out 2).trans rfl; have hcz14_3 : w13.cell? ⟨gb232, 3, none⟩ = some (.int .i64 a0_3) := (blk_cell BK232.out 3).trans rfl; have hcz14_4 : w13.cell? ⟨gb232, 4, none⟩ = some (.int .i64 a0_4) := (blk_cell BK232.out 4).trans rfl; have hcz14_5 : w13.cell? ⟨gb232, 5, none⟩ = some (.string a0_5) := (blk_cell BK232.out 5).trans rfl; have hfz14_0 := blk_frozen BK232.out 0; have hfz14_1 := blk_frozen BK232.out 1; have hfz14_2 := blk_frozen BK232.out 2; have hfz14_3 := blk_frozen BK232.out 3; have hfz14_4 := blk_frozen BK232.out 4; have hfz14_5 := blk_frozen BK232.out 5) | ((with_reducible refine gate_callee (f := 48) rfl ?_); refine goesL_ (some 5) rfl rfl Try.func48 (by kernel_rfl) rfl #[.slice A0_0 l0_0.length c0_0, .int .i64 32] rfl (by (try simp only [List.map_toArray, List.map_cons, List.map_nil]); first | done | rfl | (simp only [List.length_drop, List.length_take]; rfl)) ?_; (with_reducible refine (impl_areCells.calls k _ _ l0_0 32 true _ ?side1 ?side2 A2.out).mono ?_); (case side1 => repeat (first | exact (Kd.C_below HR0_0.out HB.out) | (with_reducible refine Kd.C_alloc ?_ _) | (with_reducible refine Kd.C_drewN ?_ _) | (with_reducible refine Kd.C_drew ?_))); (case side2 => exact HC0_0.out); rintro e w' ⟨rfl, ⟨nd, rfl⟩⟩; refine ⟨_, rfl, ?_⟩) | (go_at_call 48; (with_reducible refine (impl_areCells.calls k _ _ l0_1 32 true _ ?side1 ?side2 A4.out).mono ?_); (case side1 => repeat (first | exact (Kd.C_below HR0_1.out (by repeat (first | (with_reducible first | exact HB.out | apply below_alloc | apply pw_below_drewN | apply below_drew1 | refine below_set ?_ GE232.out) | exact HB.out))) | (with_reducible refine Kd.C_alloc ?_ _) | (with_reducible refine Kd.C_drewN ?_ _) | (with_reducible refine Kd.C_drew ?_))); (case side2 => exact HC0_1.out); rintro e w' ⟨rfl, ⟨nd, rfl⟩⟩) | (go_at_call 48; (with_reducible refine (impl_areCells.calls k _ _ l0_2 32 true _ ?side1 ?side2 A6.out).mono ?_); (case side1 => repeat (first | exact (Kd.C_below HR0_2.out (by repeat (first | (with_reducible first | exact HB.out | apply below_alloc | apply pw_below_drewN | apply below_drew1 | refine below_set ?_ GE232.out) | exact HB.out))) | (with_reducible refine Kd.C_alloc ?_ _) | (with_reducible refine Kd.C_drewN ?_ _) | (with_reducible refine Kd.C_drew ?_))); (case side2 => exact HC0_2.out); rintro e w' ⟨rfl, ⟨nd, rfl⟩⟩) | (go_at_call 49; (with_reducible refine (impl_in.calls a0_3 0 32 true _ A9.out).mono ?_); rintro e w' ⟨rfl, ⟨nd, rfl⟩⟩) | (go_at_call 50; (with_reducible refine (impl_isBase.calls a0_4 true _ A11.out).mono ?_); rintro e w' ⟨rfl, ⟨nd, rfl⟩⟩))
              go_ret
              exact ⟨by first | rfl | (simp [errW_none, errW_some] <;> rfl) | (simp [*, errW_none, errW_some] <;> rfl), by repeat (first | (with_reducible first | exact HB.out | apply below_alloc | apply pw_below_drewN | apply below_drew1 | refine below_set ?_ GE232.out) | exact HB.out)⟩
            · replace c12 := Bool.eq_false_iff.mpr c12
              subst c12
              have H1 : (some false) = some r := by rw [if_neg (show ¬ (false = true) by decide)] at H; first | done | exact H
              clear H
              have H := H1
              clear H1
              obtain rfl := Option.some.inj H
              go_enter Try.func22, Try.ntmps22
              go_wp2_with (first | ((with_reducible refine gate_dst (N := 1) rfl ?_); (try (refine gate_guard (by rfl) ?_; dsimp only)); refine box_event ?hg (N := 1) ?hd (cs := #[.slice A0_0 l0_0.length c0_0, .slice A0_1 l0_1.length c0_1, .slice A0_2 l0_2.length c0_2, .int .i64 a0_3, .int .i64 a0_4, .string a0_5]) (t := 24) ?hr ?_; (case hd => rfl); (case hg => rfl); (case hr => first | (go_simp; done) | (go_simp; rfl)); intro gb232 hg w15 hbox hb; have n0_ := Aside0.mk (below_step (by repeat (first | (with_reducible first | exact HB.out | apply below_alloc | apply pw_below_drewN | apply below_drew1) | exact HB.out)) hb); have n1_ := Aside0.mk (hbox); have n2_ := Aside0.mk ((by rw [hg]; exact (below_size (by repeat (first | (with_reducible first | exact HB.out | apply below_alloc | apply pw_below_drewN | apply below_drew1) | exact HB.out))) : w.heap.size ≤ gb232)); have n3_ := Aside0.mk ((by rw [hg]; exact (below_size (by repeat (first | (with_reducible first | exact HB.out | apply below_alloc | apply pw_below_drewN | apply below_drew1) | exact HB.out))) : w.heap.size ≤ gb232)); clear HB; have HB := n0_; have BK232 := n1_; have GW232 := n2_; have GE232 := n3_; clear n0_ n1_ n2_ n3_; clear hb hbox hg; have hcz16_0 : w15.cell? ⟨gb232, 0, none⟩ = some (.slice A0_0 l0_0.length c0_0) := (blk_cell BK232.out 0).trans rfl; have hcz16_1 : w15.cell? ⟨gb232, 1, none⟩ = some (.slice A0_1 l0_1.length c0_1) := (blk_cell BK232.out 1).trans rfl; have hcz16_2 : w15.cell? ⟨gb232, 2, none⟩ = some (.slice A0_2 l0_2.length c0_2) := (blk_cell BK232.out 2).trans rfl; have hcz16_3 : w15.cell? ⟨gb232, 3, none⟩ = some (.int .i64 a0_3) := (blk_cell BK232.out 3).trans rfl; have hcz16_4 : w15.cell? ⟨gb232, 4, none⟩ = some (.int .i64 a0_4) := (blk_cell BK232.out 4).trans rfl; have hcz16_5 : w15.cell? ⟨gb232, 5, none⟩ = some (.string a0_5) := (blk_cell BK232.out 5).trans rfl; have hfz16_0 := blk_frozen BK232.out 0; have hfz16_1 := blk_frozen BK232.out 1; have hfz16_2 := blk_frozen BK232.out 2; have hfz16_3 := blk_frozen BK232.out 3; have hfz16_4 := blk_frozen BK232.out 4; have hfz16_5 := blk_frozen BK232.out 5) | ((with_reducible refine gate_callee (f := 48) rfl ?_); refine goesL_ (some 5) rfl rfl Try.func48 (by kernel_rfl) rfl #[.slice A0_0 l0_0.length c0_0, .int .i64 32] rfl (by (try simp only [List.map_toArray, List.map_cons, List.map_nil]); first | done | rfl | (simp only [List.length_drop, List.length_take]; rfl)) ?_; (with_reducible refine (impl_areCells.calls k _ _ l0_0 32 true _ ?side1 ?side2 A2.out).mono ?_); (case side1 => repeat (first | exact (Kd.C_below HR0_0.out HB.out) | (with_reducible refine Kd.C_alloc ?_ _) | (with_reducible refine Kd.C_drewN ?_ _) | (with_reducible refine Kd.C_drew ?_))); (case side2 => exact HC0_0.out); rintro e w' ⟨rfl, ⟨nd, rfl⟩⟩; refine ⟨_, rfl, ?_⟩) | (go_at_call 48; (with_reducible refine (impl_areCells.calls k _ _ l0_1 32 true _ ?side1 ?side2 A4.out).mono ?_); (case side1 => repeat (first | exact (Kd.C_below HR0_1.out (by repeat (first | (with_reducible first | exact HB.out | apply below_alloc | apply pw_below_drewN | apply below_drew1 | refine below_set ?_ GE232.out) | exact HB.out))) | (with_reducible refine Kd.C_alloc ?_ _) | (with_reducible refine Kd.C_drewN ?_ _) | (with_reducible refine Kd.C_drew ?_))); (case side2 => exact HC0_1.out); rintro e w' ⟨rfl, ⟨nd, rfl⟩⟩) | (go_at_call 48; (with_reducible refine (impl_areCells.calls k _ _ l0_2 32 true _ ?side1 ?side2 A6.out).mono ?_); (case side1 => repeat (first | exact (Kd.C_below HR0_2.out (by repeat (first | (with_reducible first | exact HB.out | apply below_alloc | apply pw_below_drewN | apply below_drew1 | refine below_set ?_ GE232.out) | exact HB.out))) | (with_reducible refine Kd.C_alloc ?_ _) | (with_reducible refine Kd.C_drewN ?_ _) | (with_reducible refine Kd.C_drew ?_))); (case side2 => exact HC0_2.out); rintro e w' ⟨rfl, ⟨nd, rfl⟩⟩) | (go_at_call 49; (with_reducible refine (impl_in.calls a0_3 0 32 true _ A9.out).mono ?_); rintro e w' ⟨rfl, ⟨nd, rfl⟩⟩) | (go_at_call 50; (with_reducible refine (impl_isBase.calls a0_4 false _ A11.out).mono ?_); rintro e w' ⟨rfl, ⟨nd, rfl⟩⟩))
              go_ret
              exact ⟨by first | rfl | (simp [errW_none, errW_some] <;> rfl) | (simp [*, errW_none, errW_some] <;> rfl), by repeat (first | (with_reducible first | exact HB.out | apply below_alloc | apply pw_below_drewN | apply below_drew1) | exact HB.out)⟩
          · replace c10 := Bool.eq_false_iff.mpr c10
            subst c10
            have H1 : (some false) = some r := by rw [if_neg (show ¬ (false = true) by decide)] at H; first | done | exact H
            clear H
            have H := H1
            clear H1
            obtain rfl := Option.some.inj H
            go_enter Try.func22, Try.ntmps22
            go_wp2_with (first | ((with_reducible refine gate_dst (N := 1) rfl ?_); (try (refine gate_guard (by rfl) ?_; dsimp only)); refine box_event ?hg (N := 1) ?hd (cs := #[.slice A0_0 l0_0.length c0_0, .slice A0_1 l0_1.length c0_1, .slice A0_2 l0_2.length c0_2, .int .i64 a0_3, .int .i64 a0_4, .string a0_5]) (t := 24) ?hr ?_; (case hd => rfl); (case hg => rfl); (case hr => first | (go_simp; done) | (go_simp; rfl)); intro gb232 hg w17 hbox hb; have n0_ := Aside0.mk (below_step (by repeat (first | (with_reducible first | exact HB.out | apply below_alloc | apply pw_below_drewN | apply below_drew1) | exact HB.out)) hb); have n1_ := Aside0.mk (hbox); have n2_ := Aside0.mk ((by rw [hg]; exact (below_size (by repeat (first | (with_reducible first | exact HB.out | apply below_alloc | apply pw_below_drewN | apply below_drew1) | exact HB.out))) : w.heap.size ≤ gb232)); have n3_ := Aside0.mk ((by rw [hg]; exact (below_size (by repeat (first | (with_reducible first | exact HB.out | apply below_alloc | apply pw_below_drewN | apply below_drew1) | exact HB.out))) : w.heap.size ≤ gb232)); clear HB; have HB := n0_; have BK232 := n1_; have GW232 := n2_; have GE232 := n3_; clear n0_ n1_ n2_ n3_; clear hb hbox hg; have hcz18_0 : w17.cell? ⟨gb232, 0, none⟩ = some (.slice A0_0 l0_0.length c0_0) := (blk_cell BK232.out 0).trans rfl; have hcz18_1 : w17.cell? ⟨gb232, 1, none⟩ = some (.slice A0_1 l0_1.length c0_1) := (blk_cell BK232.out 1).trans rfl; have hcz18_2 : w17.cell? ⟨gb232, 2, none⟩ = some (.slice A0_2 l0_2.length c0_2) := (blk_cell BK232.out 2).trans rfl; have hcz18_3 : w17.cell? ⟨gb232, 3, none⟩ = some (.int .i64 a0_3) := (blk_cell BK232.out 3).trans rfl; have hcz18_4 : w17.cell? ⟨gb232, 4, none⟩ = some (.int .i64 a0_4) := (blk_cell BK232.out 4).trans rfl; have hcz18_5 : w17.cell? ⟨gb232, 5, none⟩ = some (.string a0_5) := (blk_cell BK232.out 5).trans rfl; have hfz18_0 := blk_frozen BK232.out 0; have hfz18_1 := blk_frozen BK232.out 1; have hfz18_2 := blk_frozen BK232.out 2; have hfz18_3 := blk_frozen BK232.out 3; have hfz18_4 := blk_frozen BK232.out 4; have hfz18_5 := blk_frozen BK232.out 5) | ((with_reducible refine gate_callee (f := 48) rfl ?_); refine goesL_ (some 5) rfl rfl Try.func48 (by kernel_rfl) rfl #[.slice A0_0 l0_0.length c0_0, .int .i64 32] rfl (by (try simp only [List.map_toArray, List.map_cons, List.map_nil]); first | done | rfl | (simp only [List.length_drop, List.length_take]; rfl)) ?_; (with_reducible refine (impl_areCells.calls k _ _ l0_0 32 true _ ?side1 ?side2 A2.out).mono ?_); (case side1 => repeat (first | exact (Kd.C_below HR0_0.out HB.out) | (with_reducible refine Kd.C_alloc ?_ _) | (with_reducible refine Kd.C_drewN ?_ _) | (with_reducible refine Kd.C_drew ?_))); (case side2 => exact HC0_0.out); rintro e w' ⟨rfl, ⟨nd, rfl⟩⟩; refine ⟨_, rfl, ?_⟩) | (go_at_call 48; (with_reducible refine (impl_areCells.calls k _ _ l0_1 32 true _ ?side1 ?side2 A4.out).mono ?_); (case side1 => repeat (first | exact (Kd.C_below HR0_1.out (by repeat (first | (with_reducible first | exact HB.out | apply below_alloc | apply pw_below_drewN | apply below_drew1 | refine below_set ?_ GE232.out) | exact HB.out))) | (with_reducible refine Kd.C_alloc ?_ _) | (with_reducible refine Kd.C_drewN ?_ _) | (with_reducible refine Kd.C_drew ?_))); (case side2 => exact HC0_1.out); rintro e w' ⟨rfl, ⟨nd, rfl⟩⟩) | (go_at_call 48; (with_reducible refine (impl_areCells.calls k _ _ l0_2 32 true _ ?side1 ?side2 A6.out).mono ?_); (case side1 => repeat (first | exact (Kd.C_below HR0_2.out (by repeat (first | (with_reducible first | exact HB.out | apply below_alloc | apply pw_below_drewN | apply below_drew1 | refine below_set ?_ GE232.out) | exact HB.out))) | (with_reducible refine Kd.C_alloc ?_ _) | (with_reducible refine Kd.C_drewN ?_ _) | (with_reducible refine Kd.C_drew ?_))); (case side2 => exact HC0_2.out); rintro e w' ⟨rfl, ⟨nd, rfl⟩⟩) | (go_at_call 49; (with_reducible refine (impl_in.calls a0_3 0 32 false _ A9.out).mono ?_); rintro e w' ⟨rfl, ⟨nd, rfl⟩⟩))
            go_ret
            exact ⟨by first | rfl | (simp [errW_none, errW_some] <;> rfl) | (simp [*, errW_none, errW_some] <;> rfl), by repeat (first | (with_reducible first | exact HB.out | apply below_alloc | apply pw_below_drewN | apply below_drew1) | exact HB.out)⟩
        · rw [if_neg c8] at H
          have c8b0 : ((l0_2.length : Int) == 32) = false := beq_eq_false_iff_ne.mpr c8
          have c8b1 : ((l0_2.length : Int) != 32) = true := bne_iff_ne.mpr c8
          obtain rfl := Option.some.inj H
          go_enter Try.func22, Try.ntmps22
          go_wp2_with (first | ((with_reducible refine gate_dst (N := 1) rfl ?_); (try (refine gate_guard (by rfl) ?_; dsimp only)); refine box_event ?hg (N := 1) ?hd (cs := #[.slice A0_0 l0_0.length c0_0, .slice A0_1 l0_1.length c0_1, .slice A0_2 l0_2.length c0_2, .int .i64 a0_3, .int .i64 a0_4, .string a0_5]) (t := 24) ?hr ?_; (case hd => rfl); (case hg => rfl); (case hr => first | (go_simp; done) | (go_simp; rfl)); intro gb232 hg w19 hbox hb; have n0_ := Aside0.mk (below_step (by repeat (first | (with_reducible first | exact HB.out | apply below_alloc | apply pw_below_drewN | apply below_drew1) | exact HB.out)) hb); have n1_ := Aside0.mk (hbox); have n2_ := Aside0.mk ((by rw [hg]; exact (below_size (by repeat (first | (with_reducible first | exact HB.out | apply below_alloc | apply pw_below_drewN | apply below_drew1) | exact HB.out))) : w.heap.size ≤ gb232)); have n3_ := Aside0.mk ((by rw [hg]; exact (below_size (by repeat (first | (with_reducible first | exact HB.out | apply below_alloc | apply pw_below_drewN | apply below_drew1) | exact HB.out))) : w.heap.size ≤ gb232)); clear HB; have HB := n0_; have BK232 := n1_; have GW232 := n2_; have GE232 := n3_; clear n0_ n1_ n2_ n3_; clear hb hbox hg; have hcz20_0 : w19.cell? ⟨gb232, 0, none⟩ = some (.slice A0_0 l0_0.length c0_0) := (blk_cell BK232.out 0).trans rfl; have hcz20_1 : w19.cell? ⟨gb232, 1, none⟩ = some (.slice A0_1 l0_1.length c0_1) := (blk_cell BK232.out 1).trans rfl; have hcz20_2 : w19.cell? ⟨gb232, 2, none⟩ = some (.slice A0_2 l0_2.length c0_2) := (blk_cell BK232.out 2).trans rfl; have hcz20_3 : w19.cell? ⟨gb232, 3, none⟩ = some (.int .i64 a0_3) := (blk_cell BK232.out 3).trans rfl; have hcz20_4 : w19.cell? ⟨gb232, 4, none⟩ = some (.int .i64 a0_4) := (blk_cell BK232.out 4).trans rfl; have hcz20_5 : w19.cell? ⟨gb232, 5, none⟩ = some (.string a0_5) := (blk_cell BK232.out 5).trans rfl; have hfz20_0 := blk_frozen BK232.out 0; have hfz20_1 := blk_frozen BK232.out 1; have hfz20_2 := blk_frozen BK232.out 2; have hfz20_3 := blk_frozen BK232.out 3; have hfz20_4 := blk_frozen BK232.out 4; have hfz20_5 := blk_frozen BK232.out 5) | ((with_reducible refine gate_callee (f := 48) rfl ?_); refine goesL_ (some 5) rfl rfl Try.func48 (by kernel_rfl) rfl #[.slice A0_0 l0_0.length c0_0, .int .i64 32] rfl (by (try simp only [List.map_toArray, List.map_cons, List.map_nil]); first | done | rfl | (simp only [List.length_drop, List.length_take]; rfl)) ?_; (with_reducible refine (impl_areCells.calls k _ _ l0_0 32 true _ ?side1 ?side2 A2.out).mono ?_); (case side1 => repeat (first | exact (Kd.C_below HR0_0.out HB.out) | (with_reducible refine Kd.C_alloc ?_ _) | (with_reducible refine Kd.C_drewN ?_ _) | (with_reducible refine Kd.C_drew ?_))); (case side2 => exact HC0_0.out); rintro e w' ⟨rfl, ⟨nd, rfl⟩⟩; refine ⟨_, rfl, ?_⟩) | (go_at_call 48; (with_reducible refine (impl_areCells.calls k _ _ l0_1 32 true _ ?side1 ?side2 A4.out).mono ?_); (case side1 => repeat (first | exact (Kd.C_below HR0_1.out (by repeat (first | (with_reducible first | exact HB.out | apply below_alloc | apply pw_below_drewN | apply below_drew1 | refine below_set ?_ GE232.out) | exact HB.out))) | (with_reducible refine Kd.C_alloc ?_ _) | (with_reducible refine Kd.C_drewN ?_ _) | (with_reducible refine Kd.C_drew ?_))); (case side2 => exact HC0_1.out); rintro e w' ⟨rfl, ⟨nd, rfl⟩⟩) | (go_at_call 48; (with_reducible refine (impl_areCells.calls k _ _ l0_2 32 true _ ?side1 ?side2 A6.out).mono ?_); (case side1 => repeat (first | exact (Kd.C_below HR0_2.out (by repeat (first | (with_reducible first | exact HB.out | apply below_alloc | apply pw_below_drewN | apply below_drew1 | refine below_set ?_ GE232.out) | exact HB.out))) | (with_reducible refine Kd.C_alloc ?_ _) | (with_reducible refine Kd.C_drewN ?_ _) | (with_reducible refine Kd.C_drew ?_))); (case side2 => exact HC0_2.out); rintro e w' ⟨rfl, ⟨nd, rfl⟩⟩))
          go_ret
          exact ⟨by first | rfl | (simp [errW_none, errW_some] <;> rfl) | (simp [*, errW_none, errW_some] <;> rfl), by repeat (first | (with_reducible first | exact HB.out | apply below_alloc | apply pw_below_drewN | apply below_drew1 | refine below_set ?_ GE232.out) | exact HB.out)⟩
      · replace c7 := Bool.eq_false_iff.mpr c7
        subst c7
        have H1 : (some false) = some r := by rw [if_neg (show ¬ (false = true) by decide)] at H; first | done | exact H
        clear H
        have H := H1
        clear H1
        obtain rfl := Option.some.inj H
        go_enter Try.func22, Try.ntmps22
        go_wp2_with (first | ((with_reducible refine gate_dst (N := 1) rfl ?_); (try (refine gate_guard (by rfl) ?_; dsimp only)); refine box_event ?hg (N := 1) ?hd (cs := #[.slice A0_0 l0_0.length c0_0, .slice A0_1 l0_1.length c0_1, .slice A0_2 l0_2.length c0_2, .int .i64 a0_3, .int .i64 a0_4, .string a0_5]) (t := 24) ?hr ?_; (case hd => rfl); (case hg => rfl); (case hr => first | (go_simp; done) | (go_simp; rfl)); intro gb232 hg w21 hbox hb; have n0_ := Aside0.mk (below_step (by repeat (first | (with_reducible first | exact HB.out | apply below_alloc | apply pw_below_drewN | apply below_drew1) | exact HB.out)) hb); have n1_ := Aside0.mk (hbox); have n2_ := Aside0.mk ((by rw [hg]; exact (below_size (by repeat (first | (with_reducible first | exact HB.out | apply below_alloc | apply pw_below_drewN | apply below_drew1) | exact HB.out))) : w.heap.size ≤ gb232)); have n3_ := Aside0.mk ((by rw [hg]; exact (below_size (by repeat (first | (with_reducible first | exact HB.out | apply below_alloc | apply pw_below_drewN | apply below_drew1) | exact HB.out))) : w.heap.size ≤ gb232)); clear HB; have HB := n0_; have BK232 := n1_; have GW232 := n2_; have GE232 := n3_; clear n0_ n1_ n2_ n3_; clear hb hbox hg; have hcz22_0 : w21.cell? ⟨gb232, 0, none⟩ = some (.slice A0_0 l0_0.length c0_0) := (blk_cell BK232.out 0).trans rfl; have hcz22_1 : w21.cell? ⟨gb232, 1, none⟩ = some (.slice A0_1 l0_1.length c0_1) := (blk_cell BK232.out 1).trans rfl; have hcz22_2 : w21.cell? ⟨gb232, 2, none⟩ = some (.slice A0_2 l0_2.length c0_2) := (blk_cell BK232.out 2).trans rfl; have hcz22_3 : w21.cell? ⟨gb232, 3, none⟩ = some (.int .i64 a0_3) := (blk_cell BK232.out 3).trans rfl; have hcz22_4 : w21.cell? ⟨gb232, 4, none⟩ = some (.int .i64 a0_4) := (blk_cell BK232.out 4).trans rfl; have hcz22_5 : w21.cell? ⟨gb232, 5, none⟩ = some (.string a0_5) := (blk_cell BK232.out 5).trans rfl; have hfz22_0 := blk_frozen BK232.out 0; have hfz22_1 := blk_frozen BK232.out 1; have hfz22_2 := blk_frozen BK232.out 2; have hfz22_3 := blk_frozen BK232.out 3; have hfz22_4 := blk_frozen BK232.out 4; have hfz22_5 := blk_frozen BK232.out 5) | ((with_reducible refine gate_callee (f := 48) rfl ?_); refine goesL_ (some 5) rfl rfl Try.func48 (by kernel_rfl) rfl #[.slice A0_0 l0_0.length c0_0, .int .i64 32] rfl (by (try simp only [List.map_toArray, List.map_cons, List.map_nil]); first | done | rfl | (simp only [List.length_drop, List.length_take]; rfl)) ?_; (with_reducible refine (impl_areCells.calls k _ _ l0_0 32 true _ ?side1 ?side2 A2.out).mono ?_); (case side1 => repeat (first | exact (Kd.C_below HR0_0.out HB.out) | (with_reducible refine Kd.C_alloc ?_ _) | (with_reducible refine Kd.C_drewN ?_ _) | (with_reducible refine Kd.C_drew ?_))); (case side2 => exact HC0_0.out); rintro e w' ⟨rfl, ⟨nd, rfl⟩⟩; refine ⟨_, rfl, ?_⟩) | (go_at_call 48; (with_reducible refine (impl_areCells.calls k _ _ l0_1 32 true _ ?side1 ?side2 A4.out).mono ?_); (case side1 => repeat (first | exact (Kd.C_below HR0_1.out (by repeat (first | (with_reducible first | exact HB.out | apply below_alloc | apply pw_below_drewN | apply below_drew1 | refine below_set ?_ GE232.out) | exact HB.out))) | (with_reducible refine Kd.C_alloc ?_ _) | (with_reducible refine Kd.C_drewN ?_ _) | (with_reducible refine Kd.C_drew ?_))); (case side2 => exact HC0_1.out); rintro e w' ⟨rfl, ⟨nd, rfl⟩⟩) | (go_at_call 48; (with_reducible refine (impl_areCells.calls k _ _ l0_2 32 false _ ?side1 ?side2 A6.out).mono ?_); (case side1 => repeat (first | exact (Kd.C_below HR0_2.out (by repeat (first | (with_reducible first | exact HB.out | apply below_alloc | apply pw_below_drewN | apply below_drew1) | exact HB.out))) | (with_reducible refine Kd.C_alloc ?_ _) | (with_reducible refine Kd.C_drewN ?_ _) | (with_reducible refine Kd.C_drew ?_))); (case side2 => exact HC0_2.out); rintro e w' ⟨rfl, ⟨nd, rfl⟩⟩))
        go_ret
        exact ⟨by first | rfl | (simp [errW_none, errW_some] <;> rfl) | (simp [*, errW_none, errW_some] <;> rfl), by repeat (first | (with_reducible first | exact HB.out | apply below_alloc | apply pw_below_drewN | apply below_drew1) | exact HB.out)⟩
    · replace c5 := Bool.eq_false_iff.mpr c5
      subst c5
      have H1 : (some false) = some r := by rw [if_neg (show ¬ (false = true) by decide)] at H; first | done | exact H
      clear H
      have H := H1
      clear H1
      obtain rfl := Option.some.inj H
      go_enter Try.func22, Try.ntmps22
      go_wp2_with (first | ((with_reducible refine gate_dst (N := 1) rfl ?_); (try (refine gate_guard (by rfl) ?_; dsimp only)); refine box_event ?hg (N := 1) ?hd (cs := #[.slice A0_0 l0_0.length c0_0, .slice A0_1 l0_1.length c0_1, .slice A0_2 l0_2.length c0_2, .int .i64 a0_3, .int .i64 a0_4, .string a0_5]) (t := 24) ?hr ?_; (case hd => rfl); (case hg => rfl); (case hr => first | (go_simp; done) | (go_simp; rfl)); intro gb232 hg w23 hbox hb; have n0_ := Aside0.mk (below_step (by repeat (first | (with_reducible first | exact HB.out | apply below_alloc | apply pw_below_drewN | apply below_drew1) | exact HB.out)) hb); have n1_ := Aside0.mk (hbox); have n2_ := Aside0.mk ((by rw [hg]; exact (below_size (by repeat (first | (with_reducible first | exact HB.out | apply below_alloc | apply pw_below_drewN | apply below_drew1) | exact HB.out))) : w.heap.size ≤ gb232)); have n3_ := Aside0.mk ((by rw [hg]; exact (below_size (by repeat (first | (with_reducible first | exact HB.out | apply below_alloc | apply pw_below_drewN | apply below_drew1) | exact HB.out))) : w.heap.size ≤ gb232)); clear HB; have HB := n0_; have BK232 := n1_; have GW232 := n2_; have GE232 := n3_; clear n0_ n1_ n2_ n3_; clear hb hbox hg; have hcz24_0 : w23.cell? ⟨gb232, 0, none⟩ = some (.slice A0_0 l0_0.length c0_0) := (blk_cell BK232.out 0).trans rfl; have hcz24_1 : w23.cell? ⟨gb232, 1, none⟩ = some (.slice A0_1 l0_1.length c0_1) := (blk_cell BK232.out 1).trans rfl; have hcz24_2 : w23.cell? ⟨gb232, 2, none⟩ = some (.slice A0_2 l0_2.length c0_2) := (blk_cell BK232.out 2).trans rfl; have hcz24_3 : w23.cell? ⟨gb232, 3, none⟩ = some (.int .i64 a0_3) := (blk_cell BK232.out 3).trans rfl; have hcz24_4 : w23.cell? ⟨gb232, 4, none⟩ = some (.int .i64 a0_4) := (blk_cell BK232.out 4).trans rfl; have hcz24_5 : w23.cell? ⟨gb232, 5, none⟩ = some (.string a0_5) := (blk_cell BK232.out 5).trans rfl; have hfz24_0 := blk_frozen BK232.out 0; have hfz24_1 := blk_frozen BK232.out 1; have hfz24_2 := blk_frozen BK232.out 2; have hfz24_3 := blk_frozen BK232.out 3; have hfz24_4 := blk_frozen BK232.out 4; have hfz24_5 := blk_frozen BK232.out 5) | ((with_reducible refine gate_callee (f := 48) rfl ?_); refine goesL_ (some 5) rfl rfl Try.func48 (by kernel_rfl) rfl #[.slice A0_0 l0_0.length c0_0, .int .i64 32] rfl (by (try simp only [List.map_toArray, List.map_cons, List.map_nil]); first | done | rfl | (simp only [List.length_drop, List.length_take]; rfl)) ?_; (with_reducible refine (impl_areCells.calls k _ _ l0_0 32 true _ ?side1 ?side2 A2.out).mono ?_); (case side1 => repeat (first | exact (Kd.C_below HR0_0.out HB.out) | (with_reducible refine Kd.C_alloc ?_ _) | (with_reducible refine Kd.C_drewN ?_ _) | (with_reducible refine Kd.C_drew ?_))); (case side2 => exact HC0_0.out); rintro e w' ⟨rfl, ⟨nd, rfl⟩⟩; refine ⟨_, rfl, ?_⟩) | (go_at_call 48; (with_reducible refine (impl_areCells.calls k _ _ l0_1 32 false _ ?side1 ?side2 A4.out).mono ?_); (case side1 => repeat (first | exact (Kd.C_below HR0_1.out (by repeat (first | (with_reducible first | exact HB.out | apply below_alloc | apply pw_below_drewN | apply below_drew1) | exact HB.out))) | (with_reducible refine Kd.C_alloc ?_ _) | (with_reducible refine Kd.C_drewN ?_ _) | (with_reducible refine Kd.C_drew ?_))); (case side2 => exact HC0_1.out); rintro e w' ⟨rfl, ⟨nd, rfl⟩⟩))
      go_ret
      exact ⟨by first | rfl | (simp [errW_none, errW_some] <;> rfl) | (simp [*, errW_none, errW_some] <;> rfl), by repeat (first | (with_reducible first | exact HB.out | apply below_alloc | apply pw_below_drewN | apply below_drew1) | exact HB.out)⟩
  · replace c3 := Bool.eq_false_iff.mpr c3
    subst c3
    have H1 : (some false) = some r := by rw [if_neg (show ¬ (false = true) by decide)] at H; first | done | exact H
    clear H
    have H := H1
    clear H1
    obtain rfl := Option.some.inj H
    go_enter Try.func22, Try.ntmps22
    go_wp2_with (first | ((with_reducible refine gate_dst (N := 1) rfl ?_); (try (refine gate_guard (by rfl) ?_; dsimp only)); refine box_event ?hg (N := 1) ?hd (cs := #[.slice A0_0 l0_0.length c0_0, .slice A0_1 l0_1.length c0_1, .slice A0_2 l0_2.length c0_2, .int .i64 a0_3, .int .i64 a0_4, .string a0_5]) (t := 24) ?hr ?_; (case hd => rfl); (case hg => rfl); (case hr => first | (go_simp; done) | (go_simp; rfl)); intro gb232 hg w25 hbox hb; have n0_ := Aside0.mk (below_step (by repeat (first | (with_reducible first | exact HB.out | apply below_alloc | apply pw_below_drewN | apply below_drew1) | exact HB.out)) hb); have n1_ := Aside0.mk (hbox); have n2_ := Aside0.mk ((by rw [hg]; exact (below_size (by repeat (first | (with_reducible first | exact HB.out | apply below_alloc | apply pw_below_drewN | apply below_drew1) | exact HB.out))) : w.heap.size ≤ gb232)); have n3_ := Aside0.mk ((by rw [hg]; exact (below_size (by repeat (first | (with_reducible first | exact HB.out | apply below_alloc | apply pw_below_drewN | apply below_drew1) | exact HB.out))) : w.heap.size ≤ gb232)); clear HB; have HB := n0_; have BK232 := n1_; have GW232 := n2_; have GE232 := n3_; clear n0_ n1_ n2_ n3_; clear hb hbox hg; have hcz26_0 : w25.cell? ⟨gb232, 0, none⟩ = some (.slice A0_0 l0_0.length c0_0) := (blk_cell BK232.out 0).trans rfl; have hcz26_1 : w25.cell? ⟨gb232, 1, none⟩ = some (.slice A0_1 l0_1.length c0_1) := (blk_cell BK232.out 1).trans rfl; have hcz26_2 : w25.cell? ⟨gb232, 2, none⟩ = some (.slice A0_2 l0_2.length c0_2) := (blk_cell BK232.out 2).trans rfl; have hcz26_3 : w25.cell? ⟨gb232, 3, none⟩ = some (.int .i64 a0_3) := (blk_cell BK232.out 3).trans rfl; have hcz26_4 : w25.cell? ⟨gb232, 4, none⟩ = some (.int .i64 a0_4) := (blk_cell BK232.out 4).trans rfl; have hcz26_5 : w25.cell? ⟨gb232, 5, none⟩ = some (.string a0_5) := (blk_cell BK232.out 5).trans rfl; have hfz26_0 := blk_frozen BK232.out 0; have hfz26_1 := blk_frozen BK232.out 1; have hfz26_2 := blk_frozen BK232.out 2; have hfz26_3 := blk_frozen BK232.out 3; have hfz26_4 := blk_frozen BK232.out 4; have hfz26_5 := blk_frozen BK232.out 5) | ((with_reducible refine gate_callee (f := 48) rfl ?_); refine goesL_ (some 5) rfl rfl Try.func48 (by kernel_rfl) rfl #[.slice A0_0 l0_0.length c0_0, .int .i64 32] rfl (by (try simp only [List.map_toArray, List.map_cons, List.map_nil]); first | done | rfl | (simp only [List.length_drop, List.length_take]; rfl)) ?_; (with_reducible refine (impl_areCells.calls k _ _ l0_0 32 false _ ?side1 ?side2 A2.out).mono ?_); (case side1 => repeat (first | exact (Kd.C_below HR0_0.out HB.out) | (with_reducible refine Kd.C_alloc ?_ _) | (with_reducible refine Kd.C_drewN ?_ _) | (with_reducible refine Kd.C_drew ?_))); (case side2 => exact HC0_0.out); rintro e w' ⟨rfl, ⟨nd, rfl⟩⟩; refine ⟨_, rfl, ?_⟩))
    go_ret
    exact ⟨by first | rfl | (simp [errW_none, errW_some] <;> rfl) | (simp [*, errW_none, errW_some] <;> rfl), by repeat (first | (with_reducible first | exact HB.out | apply below_alloc | apply pw_below_drewN | apply below_drew1) | exact HB.out)⟩

/-! ### impl_dataCode: function 65 -/
def impl_dataCode.f (k : Nat) (l0_0 : List Int) (l0_1 : List Int) (l0_2 : List Int) (a0_3 : Int) (a0_4 : Int) (a0_5 : ByteArray) (a1 : Int) : Option (Int) := (impl_DataOK.f k l0_0 l0_1 l0_2 a0_3 a0_4 a0_5).bind fun t239 => (if t239 = true then ((impl_CellOK.f a1).bind fun t240 => (if t240 = true then (some 0) else (some 4))) else (some 1))
theorem impl_dataCode.mono : ∀ a0 a1 a2 a3 a4 a5 a6 k, LeO (impl_dataCode.f k a0 a1 a2 a3 a4 a5 a6) (impl_dataCode.f (k + 1) a0 a1 a2 a3 a4 a5 a6) := by
  intro a0 a1 a2 a3 a4 a5 a6 k
  unfold impl_dataCode.f
  repeat' first
      | (with_reducible exact impl_DataOK.mono _ _ _ _ _ _ _)
      | (with_reducible exact LeO.refl _)
      | (with_reducible exact LeO.none _)
      | (with_reducible refine LeO.ite ?_ ?_)
      | (with_reducible refine LeO.bind ?_ (fun _ => ?_))
      | exact impl_DataOK.mono _ _ _ _ _ _ _
      | exact LeO.none _
      | refine LeO.ite ?_ ?_
      | refine LeO.bind ?_ (fun _ => ?_)
set_option maxHeartbeats 8000000 in
set_option maxRecDepth 100000 in
theorem impl_dataCode.calls (k : Nat) (A0_0 : Option Addr) (c0_0 : Nat) (l0_0 : List Int) (A0_1 : Option Addr) (c0_1 : Nat) (l0_1 : List Int) (A0_2 : Option Addr) (c0_2 : Nat) (l0_2 : List Int) (a0_3 : Int) (a0_4 : Int) (a0_5 : ByteArray) (a1 : Int) (r : Int) (w : World) (hr0_0 : Kd.C (Kd.int .i64) w A0_0 l0_0.length l0_0) (hc0_0 : l0_0.length ≤ c0_0) (hr0_1 : Kd.C (Kd.int .i64) w A0_1 l0_1.length l0_1) (hc0_1 : l0_1.length ≤ c0_1) (hr0_2 : Kd.C (Kd.int .i64) w A0_2 l0_2.length l0_2) (hc0_2 : l0_2.length ≤ c0_2) (h : impl_dataCode.f k l0_0 l0_1 l0_2 a0_3 a0_4 a0_5 a1 = some r) :
    Calls Try.prog 65 #[.agg #[.slice A0_0 l0_0.length c0_0, .slice A0_1 l0_1.length c0_1, .slice A0_2 l0_2.length c0_2, .int .i64 a0_3, .int .i64 a0_4, .string a0_5], .int .i64 a1] w fun e w' => e = .returned (.int .i64 r) ∧ Below w.heap.size w w' := by
  have hu24 := Try.underlying24
  have HR0_0 := Aside0.mk hr0_0
  have HC0_0 := Aside0.mk hc0_0
  clear hr0_0 hc0_0
  have HR0_1 := Aside0.mk hr0_1
  have HC0_1 := Aside0.mk hc0_1
  clear hr0_1 hc0_1
  have HR0_2 := Aside0.mk hr0_2
  have HC0_2 := Aside0.mk hc0_2
  clear hr0_2 hc0_2
  have HB := Aside0.mk (Below.refl w.heap.size w)
  have H : ((impl_DataOK.f k l0_0 l0_1 l0_2 a0_3 a0_4 a0_5).bind fun t239 => (if t239 = true then ((impl_CellOK.f a1).bind fun t240 => (if t240 = true then (some 0) else (some 4))) else (some 1))) = some r := h
  clear h
  replace H := Option.bind_eq_some_iff.mp H
  obtain ⟨t239, A30, H⟩ := H
  replace H : (if t239 = true then ((impl_CellOK.f a1).bind fun t240 => (if t240 = true then (some 0) else (some 4))) else (some 1)) = some r := H
  have A3 := Aside0.mk A30
  clear A30
  by_cases c4 : t239 = true
  · subst c4
    have H1 : ((impl_CellOK.f a1).bind fun t240 => (if t240 = true then (some 0) else (some 4))) = some r := by rw [if_pos rfl] at H; first | done | exact H
    clear H
    have H := H1
    clear H1
    replace H := Option.bind_eq_some_iff.mp H
    obtain ⟨t240, A50, H⟩ := H
    replace H : (if t240 = true then (some 0) else (some 4)) = some r := H
    have A5 := Aside0.mk A50
    clear A50
    by_cases c6 : t240 = true
    · subst c6
      have H1 : (some 0) = some r := by rw [if_pos rfl] at H; first | done | exact H
      clear H
      have H := H1
      clear H1
      obtain rfl := Option.some.inj H
      go_enter Try.func65, Try.ntmps65
      go_wp2_with (first | ((with_reducible refine gate_dst (N := 2) rfl ?_); refine box_event ?hg (N := 2) ?hd (cs := #[.slice A0_0 l0_0.length c0_0, .slice A0_1 l0_1.length c0_1, .slice A0_2 l0_2.length c0_2, .int .i64 a0_3, .int .i64 a0_4, .string a0_5]) (t := 24) ?hr ?_; (case hd => rfl); (case hg => rfl); (case hr => first | (go_simp; done) | (go_simp; rfl)); intro gb238 hg w7 hbox hb; have n0_ := Aside0.mk (below_step (by repeat (first | (with_reducible first | exact HB.out | apply below_alloc | apply pw_below_drewN | apply below_drew1) | exact HB.out)) hb); have n1_ := Aside0.mk (hbox); have n2_ := Aside0.mk ((by rw [hg]; exact (below_size (by repeat (first | (with_reducible first | exact HB.out | apply below_alloc | apply pw_below_drewN | apply below_drew1) | exact HB.out))) : w.heap.size ≤ gb238)); have n3_ := Aside0.mk ((by rw [hg]; exact (below_size (by repeat (first | (with_reducible first | exact HB.out | apply below_alloc | apply pw_below_drewN | apply below_drew1) | exact HB.out))) : w.heap.size ≤ gb238)); clear HB; have HB := n0_; have BK238 := n1_; have GW238 := n2_; have GE238 := n3_; clear n0_ n1_ n2_ n3_; clear hb hbox hg; have hcz8_0 : w7.cell? ⟨gb238, 0, none⟩ = some (.slice A0_0 l0_0.length c0_0) := (blk_cell BK238.out 0).trans rfl; have hcz8_1 : w7.cell? ⟨gb238, 1, none⟩ = some (.slice A0_1 l0_1.length c0_1) := (blk_cell BK238.out 1).trans rfl; have hcz8_2 : w7.cell? ⟨gb238, 2, none⟩ = some (.slice A0_2 l0_2.length c0_2) := (blk_cell BK238.out 2).trans rfl; have hcz8_3 : w7.cell? ⟨gb238, 3, none⟩ = some (.int .i64 a0_3) := (blk_cell BK238.out 3).trans rfl; have hcz8_4 : w7.cell? ⟨gb238, 4, none⟩ = some (.int .i64 a0_4) := (blk_cell BK238.out 4).trans rfl; have hcz8_5 : w7.cell? ⟨gb238, 5, none⟩ = some (.string a0_5) := (blk_cell BK238.out 5).trans rfl; have hfz8_0 := blk_frozen BK238.out 0; have hfz8_1 := blk_frozen BK238.out 1; have hfz8_2 := blk_frozen BK238.out 2; have hfz8_3 := blk_frozen BK238.out 3; have hfz8_4 := blk_frozen BK238.out 4; have hfz8_5 := blk_frozen BK238.out 5) | ((with_reducible refine gate_callee (f := 22) rfl ?_); refine goesL_ (some 7) rfl rfl Try.func22 (by kernel_rfl) rfl #[.agg #[.slice A0_0 l0_0.length c0_0, .slice A0_1 l0_1.length c0_1, .slice A0_2 l0_2.length c0_2, .int .i64 a0_3, .int .i64 a0_4, .string a0_5]] rfl (by (try simp only [List.map_toArray, List.map_cons, List.map_nil]); first | done | rfl | (simp only [List.length_drop, List.length_take]; rfl)) ?_; (with_reducible refine (impl_DataOK.calls k _ _ l0_0 _ _ l0_1 _ _ l0_2 a0_3 a0_4 a0_5 true _ ?side1 ?side2 ?side3 ?side4 ?side5 ?side6 A3.out).mono ?_); (case side1 => repeat (first | exact (Kd.C_below HR0_0.out HB.out) | (with_reducible refine Kd.C_alloc ?_ _) | (with_reducible refine Kd.C_drewN ?_ _) | (with_reducible refine Kd.C_drew ?_))); (case side2 => exact HC0_0.out); (case side3 => repeat (first | exact (Kd.C_below HR0_1.out HB.out) | (with_reducible refine Kd.C_alloc ?_ _) | (with_reducible refine Kd.C_drewN ?_ _) | (with_reducible refine Kd.C_drew ?_))); (case side4 => exact HC0_1.out); (case side5 => repeat (first | exact (Kd.C_below HR0_2.out HB.out) | (with_reducible refine Kd.C_alloc ?_ _) | (with_reducible refine Kd.C_drewN ?_ _) | (with_reducible refine Kd.C_drew ?_))); (case side6 => exact HC0_2.out); rintro e w9 ⟨rfl, hb⟩; refine ⟨_, rfl, ?_⟩; replace HB := Aside0.mk (below_step (by repeat (first | (with_reducible first | exact HB.out | apply below_alloc | apply pw_below_drewN | apply below_drew1) | exact HB.out)) hb); (try clear hb); (try clear hb2); (try clear hk); (try clear hi)) | ((with_reducible refine gate_callee (f := 83) rfl ?_); refine goesL_ (some 11) rfl rfl Try.func83 (by kernel_rfl) rfl #[.int .i64 a1] rfl (by (try simp only [List.map_toArray, List.map_cons, List.map_nil]); first | done | rfl | (simp only [List.length_drop, List.length_take]; rfl)) ?_; (with_reducible refine (impl_CellOK.calls a1 true _ A5.out).mono ?_); rintro e w' ⟨rfl, ⟨nd, rfl⟩⟩; refine ⟨_, rfl, ?_⟩))
      go_ret
      exact ⟨by first | rfl | (simp [errW_none, errW_some] <;> rfl) | (simp [*, errW_none, errW_some] <;> rfl), by repeat (first | (with_reducible first | exact HB.out | apply below_alloc | apply pw_below_drewN | apply below_drew1) | exact HB.out)⟩
    · replace c6 := Bool.eq_false_iff.mpr c6
      subst c6
      have H1 : (some 4) = some r := by rw [if_neg (show ¬ (false = true) by decide)] at H; first | done | exact H
      clear H
      have H := H1
      clear H1
      obtain rfl := Option.some.inj H
      go_enter Try.func65, Try.ntmps65
      go_wp2_with (first | ((with_reducible refine gate_dst (N := 2) rfl ?_); refine box_event ?hg (N := 2) ?hd (cs := #[.slice A0_0 l0_0.length c0_0, .slice A0_1 l0_1.length c0_1, .slice A0_2 l0_2.length c0_2, .int .i64 a0_3, .int .i64 a0_4, .string a0_5]) (t := 24) ?hr ?_; (case hd => rfl); (case hg => rfl); (case hr => first | (go_simp; done) | (go_simp; rfl)); intro gb238 hg w10 hbox hb; have n0_ := Aside0.mk (below_step (by repeat (first | (with_reducible first | exact HB.out | apply below_alloc | apply pw_below_drewN | apply below_drew1) | exact HB.out)) hb); have n1_ := Aside0.mk (hbox); have n2_ := Aside0.mk ((by rw [hg]; exact (below_size (by repeat (first | (with_reducible first | exact HB.out | apply below_alloc | apply pw_below_drewN | apply below_drew1) | exact HB.out))) : w.heap.size ≤ gb238)); have n3_ := Aside0.mk ((by rw [hg]; exact (below_size (by repeat (first | (with_reducible first | exact HB.out | apply below_alloc | apply pw_below_drewN | apply below_drew1) | exact HB.out))) : w.heap.size ≤ gb238)); clear HB; have HB := n0_; have BK238 := n1_; have GW238 := n2_; have GE238 := n3_; clear n0_ n1_ n2_ n3_; clear hb hbox hg; have hcz11_0 : w10.cell? ⟨gb238, 0, none⟩ = some (.slice A0_0 l0_0.length c0_0) := (blk_cell BK238.out 0).trans rfl; have hcz11_1 : w10.cell? ⟨gb238, 1, none⟩ = some (.slice A0_1 l0_1.length c0_1) := (blk_cell BK238.out 1).trans rfl; have hcz11_2 : w10.cell? ⟨gb238, 2, none⟩ = some (.slice A0_2 l0_2.length c0_2) := (blk_cell BK238.out 2).trans rfl; have hcz11_3 : w10.cell? ⟨gb238, 3, none⟩ = some (.int .i64 a0_3) := (blk_cell BK238.out 3).trans rfl; have hcz11_4 : w10.cell? ⟨gb238, 4, none⟩ = some (.int .i64 a0_4) := (blk_cell BK238.out 4).trans rfl; have hcz11_5 : w10.cell? ⟨gb238, 5, none⟩ = some (.string a0_5) := (blk_cell BK238.out 5).trans rfl; have hfz11_0 := blk_frozen BK238.out 0; have hfz11_1 := blk_frozen BK238.out 1; have hfz11_2 := blk_frozen BK238.out 2; have hfz11_3 := blk_frozen BK238.out 3; have hfz11_4 := blk_frozen BK238.out 4; have hfz11_5 := blk_frozen BK238.out 5) | ((with_reducible refine gate_callee (f := 22) rfl ?_); refine goesL_ (some 7) rfl rfl Try.func22 (by kernel_rfl) rfl #[.agg #[.slice A0_0 l0_0.length c0_0, .slice A0_1 l0_1.length c0_1, .slice A0_2 l0_2.length c0_2, .int .i64 a0_3, .int .i64 a0_4, .string a0_5]] rfl (by (try simp only [List.map_toArray, List.map_cons, List.map_nil]); first | done | rfl | (simp only [List.length_drop, List.length_take]; rfl)) ?_; (with_reducible refine (impl_DataOK.calls k _ _ l0_0 _ _ l0_1 _ _ l0_2 a0_3 a0_4 a0_5 true _ ?side1 ?side2 ?side3 ?side4 ?side5 ?side6 A3.out).mono ?_); (case side1 => repeat (first | exact (Kd.C_below HR0_0.out HB.out) | (with_reducible refine Kd.C_alloc ?_ _) | (with_reducible refine Kd.C_drewN ?_ _) | (with_reducible refine Kd.C_drew ?_))); (case side2 => exact HC0_0.out); (case side3 => repeat (first | exact (Kd.C_below HR0_1.out HB.out) | (with_reducible refine Kd.C_alloc ?_ _) | (with_reducible refine Kd.C_drewN ?_ _) | (with_reducible refine Kd.C_drew ?_))); (case side4 => exact HC0_1.out); (case side5 => repeat (first | exact (Kd.C_below HR0_2.out HB.out) | (with_reducible refine Kd.C_alloc ?_ _) | (with_reducible refine Kd.C_drewN ?_ _) | (with_reducible refine Kd.C_drew ?_))); (case side6 => exact HC0_2.out); rintro e w12 ⟨rfl, hb⟩; refine ⟨_, rfl, ?_⟩; replace HB := Aside0.mk (below_step (by repeat (first | (with_reducible first | exact HB.out | apply below_alloc | apply pw_below_drewN | apply below_drew1) | exact HB.out)) hb); (try clear hb); (try clear hb2); (try clear hk); (try clear hi)) | ((with_reducible refine gate_callee (f := 83) rfl ?_); refine goesL_ (some 11) rfl rfl Try.func83 (by kernel_rfl) rfl #[.int .i64 a1] rfl (by (try simp only [List.map_toArray, List.map_cons, List.map_nil]); first | done | rfl | (simp only [List.length_drop, List.length_take]; rfl)) ?_; (with_reducible refine (impl_CellOK.calls a1 false _ A5.out).mono ?_); rintro e w' ⟨rfl, ⟨nd, rfl⟩⟩; refine ⟨_, rfl, ?_⟩))
      go_ret
      exact ⟨by first | rfl | (simp [errW_none, errW_some] <;> rfl) | (simp [*, errW_none, errW_some] <;> rfl), by repeat (first | (with_reducible first | exact HB.out | apply below_alloc | apply pw_below_drewN | apply below_drew1) | exact HB.out)⟩
  · replace c4 := Bool.eq_false_iff.mpr c4
    subst c4
    have H1 : (some 1) = some r := by rw [if_neg (show ¬ (false = true) by decide)] at H; first | done | exact H
    clear H
    have H := H1
    clear H1
    obtain rfl := Option.some.inj H
    go_enter Try.func65, Try.ntmps65
    go_wp2_with (first | ((with_reducible refine gate_dst (N := 2) rfl ?_); refine box_event ?hg (N := 2) ?hd (cs := #[.slice A0_0 l0_0.length c0_0, .slice A0_1 l0_1.length c0_1, .slice A0_2 l0_2.length c0_2, .int .i64 a0_3, .int .i64 a0_4, .string a0_5]) (t := 24) ?hr ?_; (case hd => rfl); (case hg => rfl); (case hr => first | (go_simp; done) | (go_simp; rfl)); intro gb238 hg w13 hbox hb; have n0_ := Aside0.mk (below_step (by repeat (first | (with_reducible first | exact HB.out | apply below_alloc | apply pw_below_drewN | apply below_drew1) | exact HB.out)) hb); have n1_ := Aside0.mk (hbox); have n2_ := Aside0.mk ((by rw [hg]; exact (below_size (by repeat (first | (with_reducible first | exact HB.out | apply below_alloc | apply pw_below_drewN | apply below_drew1) | exact HB.out))) : w.heap.size ≤ gb238)); have n3_ := Aside0.mk ((by rw [hg]; exact (below_size (by repeat (first | (with_reducible first | exact HB.out | apply below_alloc | apply pw_below_drewN | apply below_drew1) | exact HB.out))) : w.heap.size ≤ gb238)); clear HB; have HB := n0_; have BK238 := n1_; have GW238 := n2_; have GE238 := n3_; clear n0_ n1_ n2_ n3_; clear hb hbox hg; have hcz14_0 : w13.cell? ⟨gb238, 0, none⟩ = some (.slice A0_0 l0_0.length c0_0) := (blk_cell BK238.out 0).trans rfl; have hcz14_1 : w13.cell? ⟨gb238, 1, none⟩ = some (.slice A0_1 l0_1.length c0_1) := (blk_cell BK238.out 1).trans rfl; have hcz14_2 : w13.cell? ⟨gb238, 2, none⟩ = some (.slice A0_2 l0_2.length c0_2) := (blk_cell BK238.out 2).trans rfl; have hcz14_3 : w13.cell? ⟨gb238, 3, none⟩ = some (.int .i64 a0_3) := (blk_cell BK238.out 3).trans rfl; have hcz14_4 : w13.cell? ⟨gb238, 4, none⟩ = some (.int .i64 a0_4) := (blk_cell BK238.out 4).trans rfl; have hcz14_5 : w13.cell? ⟨gb238, 5, none⟩ = some (.string a0_5) := (blk_cell BK238.out 5).trans rfl; have hfz14_0 := blk_frozen BK238.out 0; have hfz14_1 := blk_frozen BK238.out 1; have hfz14_2 := blk_frozen BK238.out 2; have hfz14_3 := blk_frozen BK238.out 3; have hfz14_4 := blk_frozen BK238.out 4; have hfz14_5 := blk_frozen BK238.out 5) | ((with_reducible refine gate_callee (f := 22) rfl ?_); refine goesL_ (some 7) rfl rfl Try.func22 (by kernel_rfl) rfl #[.agg #[.slice A0_0 l0_0.length c0_0, .slice A0_1 l0_1.length c0_1, .slice A0_2 l0_2.length c0_2, .int .i64 a0_3, .int .i64 a0_4, .string a0_5]] rfl (by (try simp only [List.map_toArray, List.map_cons, List.map_nil]); first | done | rfl | (simp only [List.length_drop, List.length_take]; rfl)) ?_; (with_reducible refine (impl_DataOK.calls k _ _ l0_0 _ _ l0_1 _ _ l0_2 a0_3 a0_4 a0_5 false _ ?side1 ?side2 ?side3 ?side4 ?side5 ?side6 A3.out).mono ?_); (case side1 => repeat (first | exact (Kd.C_below HR0_0.out HB.out) | (with_reducible refine Kd.C_alloc ?_ _) | (with_reducible refine Kd.C_drewN ?_ _) | (with_reducible refine Kd.C_drew ?_))); (case side2 => exact HC0_0.out); (case side3 => repeat (first | exact (Kd.C_below HR0_1.out HB.out) | (with_reducible refine Kd.C_alloc ?_ _) | (with_reducible refine Kd.C_drewN ?_ _) | (with_reducible refine Kd.C_drew ?_))); (case side4 => exact HC0_1.out); (case side5 => repeat (first | exact (Kd.C_below HR0_2.out HB.out) | (with_reducible refine Kd.C_alloc ?_ _) | (with_reducible refine Kd.C_drewN ?_ _) | (with_reducible refine Kd.C_drew ?_))); (case side6 => exact HC0_2.out); rintro e w15 ⟨rfl, hb⟩; refine ⟨_, rfl, ?_⟩; replace HB := Aside0.mk (below_step (by repeat (first | (with_reducible first | exact HB.out | apply below_alloc | apply pw_below_drewN | apply below_drew1) | exact HB.out)) hb); (try clear hb); (try clear hb2); (try clear hk); (try clear hi)))
    go_ret
    exact ⟨by first | rfl | (simp [errW_none, errW_some] <;> rfl) | (simp [*, errW_none, errW_some] <;> rfl), by repeat (first | (with_reducible first | exact HB.out | apply below_alloc | apply pw_below_drewN | apply below_drew1) | exact HB.out)⟩

/-- A state of type 24 at block g of W; what its slices lead to came in by w0. -/
def IsS24 (w0 W : World) (g : Nat) (f0 : List Int) (f1 : List Int) (f2 : List Int) (f3 : Int) (f4 : Int) (f5 : ByteArray) : Prop := ∃ A0 c0, ∃ A1 c1, ∃ A2 c2, W.heap[g]? = some (.cells #[.slice A0 f0.length c0, .slice A1 f1.length c1, .slice A2 f2.length c2, .int .i64 f3, .int .i64 f4, .string f5] 24 (0, 0)) ∧ w0.heap.size ≤ g ∧ Kd.C (Kd.int .i64) w0 A0 f0.length f0 ∧ Kd.C (Kd.int .i64) w0 A1 f1.length f1 ∧ Kd.C (Kd.int .i64) w0 A2 f2.length f2
theorem IsS24.grown {w0 W : World} {g : Nat} {f0 : List Int} {f1 : List Int} {f2 : List Int} {f3 : Int} {f4 : Int} {f5 : ByteArray} {W1 : World} {row : Option Nat} (h : IsS24 w0 W g f0 f1 f2 f3 f4 f5) (hw : W.grownBy W1 row) (hne : some g ≠ row) : IsS24 w0 W1 g f0 f1 f2 f3 f4 f5 := by
  obtain ⟨A0, c0, A1, c1, A2, c2, hb, hg, hr0, hr1, hr2⟩ := h
  exact ⟨A0, c0, A1, c1, A2, c2, blk_grown hb hw hne, hg, hr0, hr1, hr2⟩
theorem IsS24.own_neN {w0 W : World} {g : Nat} {f0 : List Int} {f1 : List Int} {f2 : List Int} {f3 : Int} {f4 : Int} {f5 : ByteArray} {α : Type} {d : Kd α} {e : Nat} {base : Nat} {ok : Nat → Prop} {v : Value} {xs : List α} (h : IsS24 w0 W g f0 f1 f2 f3 f4 f5) (ho : Kd.N d e W base ok v xs) (ht : e ≠ 24) : some g ≠ v.ownBlock := by
  obtain ⟨A0, c0, A1, c1, A2, c2, hb, hg, hr0, hr1, hr2⟩ := h
  exact Kd.N_ne ho hb ht
theorem IsS24.fresh {w0 W : World} {g : Nat} {f0 : List Int} {f1 : List Int} {f2 : List Int} {f3 : Int} {f4 : Int} {f5 : ByteArray} (h : IsS24 w0 W g f0 f1 f2 f3 f4 f5) : ∀ k, W.heap.size ≤ k → k ≠ g := by
  obtain ⟨A0, c0, A1, c1, A2, c2, hb, hg, hr0, hr1, hr2⟩ := h
  exact Kd.freshB hb
theorem IsS24.kept {w0 W : World} {g : Nat} {f0 : List Int} {f1 : List Int} {f2 : List Int} {f3 : Int} {f4 : Int} {f5 : ByteArray} {W1 : World} {S : Nat → Prop} (h : IsS24 w0 W g f0 f1 f2 f3 f4 f5) (hk : Kept W W1 S) (hne : ¬ S g) : IsS24 w0 W1 g f0 f1 f2 f3 f4 f5 := by
  obtain ⟨A0, c0, A1, c1, A2, c2, hb, hg, hr0, hr1, hr2⟩ := h
  exact ⟨A0, c0, A1, c1, A2, c2, blk_kept hb hk hne, hg, hr0, hr1, hr2⟩
theorem IsS24.below {w0 W : World} {g : Nat} {f0 : List Int} {f1 : List Int} {f2 : List Int} {f3 : Int} {f4 : Int} {f5 : ByteArray} {W1 : World} (h : IsS24 w0 W g f0 f1 f2 f3 f4 f5) (hw : Below W.heap.size W W1) : IsS24 w0 W1 g f0 f1 f2 f3 f4 f5 := h.grown (grown_of_below hw none) (by simp)
theorem IsS24.alloc {w0 W : World} {g : Nat} {f0 : List Int} {f1 : List Int} {f2 : List Int} {f3 : Int} {f4 : Int} {f5 : ByteArray} (h : IsS24 w0 W g f0 f1 f2 f3 f4 f5) (o : Obj) : IsS24 w0 (W.alloc o) g f0 f1 f2 f3 f4 f5 := h.below (below_alloc (Below.refl _ _) o)
theorem IsS24.drewN {w0 W : World} {g : Nat} {f0 : List Int} {f1 : List Int} {f2 : List Int} {f3 : Int} {f4 : Int} {f5 : ByteArray} (h : IsS24 w0 W g f0 f1 f2 f3 f4 f5) (m : Nat) : IsS24 w0 (W.drewN m) g f0 f1 f2 f3 f4 f5 := h
theorem IsS24.drew {w0 W : World} {g : Nat} {f0 : List Int} {f1 : List Int} {f2 : List Int} {f3 : Int} {f4 : Int} {f5 : ByteArray} (h : IsS24 w0 W g f0 f1 f2 f3 f4 f5) : IsS24 w0 W.drew g f0 f1 f2 f3 f4 f5 := h
theorem IsS24.at_ {w0 W : World} {g : Nat} {f0 : List Int} {f1 : List Int} {f2 : List Int} {f3 : Int} {f4 : Int} {f5 : ByteArray} {w' : World} {m : Nat} (hq : W.drewN m = w') (h : IsS24 w0 W g f0 f1 f2 f3 f4 f5) : IsS24 w0 w' g f0 f1 f2 f3 f4 f5 := by subst hq; exact IsS24.drewN h m
theorem IsS24.apart {w0 W : World} {g : Nat} {f0 : List Int} {f1 : List Int} {f2 : List Int} {f3 : Int} {f4 : Int} {f5 : ByteArray} {α : Type} {d : Kd α} {e : Nat} {base : Nat} {ok : Nat → Prop} {v : Value} {xs : List α} (h : IsS24 w0 W g f0 f1 f2 f3 f4 f5) (ho : d.R e W base ok v xs) (ht : ∀ q, q ∈ e :: d.E → q ≠ 24) : d.R e W base (fun k => ok k ∧ k ≠ g) v xs := by
  obtain ⟨A0, c0, A1, c1, A2, c2, hb, hg, hr0, hr1, hr2⟩ := h
  exact Kd.R_types ho hb ht
theorem IsS24.own_ne {w0 W : World} {g : Nat} {f0 : List Int} {f1 : List Int} {f2 : List Int} {f3 : Int} {f4 : Int} {f5 : ByteArray} {α : Type} {d : Kd α} {e : Nat} {base : Nat} {ok : Nat → Prop} {v : Value} {xs : List α} (h : IsS24 w0 W g f0 f1 f2 f3 f4 f5) (ho : d.R e W base ok v xs) (ht : e ≠ 24) : some g ≠ v.ownBlock := by
  obtain ⟨A0, c0, A1, c1, A2, c2, hb, hg, hr0, hr1, hr2⟩ := h
  exact Kd.R_ne ho hb ht
theorem IsS24.apartQ {w0 W : World} {g : Nat} {f0 : List Int} {f1 : List Int} {f2 : List Int} {f3 : Int} {f4 : Int} {f5 : ByteArray} {α : Type} {d : Kd α} {e : Nat} {base : Nat} {ok : Nat → Prop} {v : Value} {xs : List α} (h : IsS24 w0 W g f0 f1 f2 f3 f4 f5) (ho : d.Q e W base ok v xs) (ht : ∀ q, q ∈ e :: d.E → q ≠ 24) : d.Q e W base (fun k => ok k ∧ k ≠ g) v xs := by
  obtain ⟨A0, c0, A1, c1, A2, c2, hb, hg, hr0, hr1, hr2⟩ := h
  exact Kd.Q_types ho hb ht
theorem IsS24.own_neQ {w0 W : World} {g : Nat} {f0 : List Int} {f1 : List Int} {f2 : List Int} {f3 : Int} {f4 : Int} {f5 : ByteArray} {α : Type} {d : Kd α} {e : Nat} {base : Nat} {ok : Nat → Prop} {v : Value} {xs : List α} (h : IsS24 w0 W g f0 f1 f2 f3 f4 f5) (ho : d.Q e W base ok v xs) (ht : e ≠ 24) : some g ≠ v.ownBlock := by
  obtain ⟨A0, c0, A1, c1, A2, c2, hb, hg, hr0, hr1, hr2⟩ := h
  exact Kd.Q_ne ho hb ht
theorem IsS24.apartS {w0 W : World} {g : Nat} {f0 : List Int} {f1 : List Int} {f2 : List Int} {f3 : Int} {f4 : Int} {f5 : ByteArray} {α : Type} {d : Kd α} {e : Nat} {base : Nat} {ok : Nat → Prop} {v : Value} {xs : List α} (h : IsS24 w0 W g f0 f1 f2 f3 f4 f5) (ho : d.S e W base ok v xs) (ht : ∀ q, q ∈ e :: d.E → q ≠ 24) : d.S e W base (fun k => ok k ∧ k ≠ g) v xs := by
  obtain ⟨A0, c0, A1, c1, A2, c2, hb, hg, hr0, hr1, hr2⟩ := h
  exact Kd.S_types ho hb ht
theorem IsS24.own_neS {w0 W : World} {g : Nat} {f0 : List Int} {f1 : List Int} {f2 : List Int} {f3 : Int} {f4 : Int} {f5 : ByteArray} {α : Type} {d : Kd α} {e : Nat} {base : Nat} {ok : Nat → Prop} {v : Value} {xs : List α} (h : IsS24 w0 W g f0 f1 f2 f3 f4 f5) (ho : d.S e W base ok v xs) (ht : e ≠ 24) : some g ≠ v.ownBlock := by
  obtain ⟨A0, c0, A1, c1, A2, c2, hb, hg, hr0, hr1, hr2⟩ := h
  exact Kd.S_ne ho hb ht
theorem IsS24.lt {w0 W : World} {g : Nat} {f0 : List Int} {f1 : List Int} {f2 : List Int} {f3 : Int} {f4 : Int} {f5 : ByteArray} (h : IsS24 w0 W g f0 f1 f2 f3 f4 f5) : g < W.heap.size := by
  obtain ⟨A0, c0, A1, c1, A2, c2, hb, hg, hr0, hr1, hr2⟩ := h
  exact blk_lt hb
theorem IsS24.ge {w0 W : World} {g : Nat} {f0 : List Int} {f1 : List Int} {f2 : List Int} {f3 : Int} {f4 : Int} {f5 : ByteArray} (h : IsS24 w0 W g f0 f1 f2 f3 f4 f5) : w0.heap.size ≤ g := by
  obtain ⟨A0, c0, A1, c1, A2, c2, hb, hg, hr0, hr1, hr2⟩ := h
  exact hg
theorem IsS24.ne_blk {w0 W : World} {g : Nat} {f0 : List Int} {f1 : List Int} {f2 : List Int} {f3 : Int} {f4 : Int} {f5 : ByteArray} {a : Nat} {cs : Array Value} {t : TypeId} {fr : Nat × Nat} (h : IsS24 w0 W g f0 f1 f2 f3 f4 f5) (hb2 : W.heap[a]? = some (.cells cs t fr)) (ht : t ≠ 24) : g ≠ a := by
  obtain ⟨A0, c0, A1, c1, A2, c2, hb, hg, hr0, hr1, hr2⟩ := h
  rintro rfl
  rw [hb] at hb2
  injection hb2 with hb2
  injection hb2 with _ ht2
  exact ht ht2.symm
theorem IsS24.far {w0 W : World} {g : Nat} {f0 : List Int} {f1 : List Int} {f2 : List Int} {f3 : Int} {f4 : Int} {f5 : ByteArray} {p : Addr} (h : IsS24 w0 W g f0 f1 f2 f3 f4 f5) (hne : g ≠ p.block) (u : Value) : IsS24 w0 (W.setCell p u) g f0 f1 f2 f3 f4 f5 := by
  obtain ⟨A0, c0, A1, c1, A2, c2, hb, hg, hr0, hr1, hr2⟩ := h
  exact ⟨A0, c0, A1, c1, A2, c2, blk_far hb hne u, hg, hr0, hr1, hr2⟩
theorem cellS24_0 {W : World} {g : Nat} {A0 : Option Addr} {c0 : Nat} {A1 : Option Addr} {c1 : Nat} {A2 : Option Addr} {c2 : Nat} {f0 : List Int} {f1 : List Int} {f2 : List Int} {f3 : Int} {f4 : Int} {f5 : ByteArray} (h : W.heap[g]? = some (.cells #[.slice A0 f0.length c0, .slice A1 f1.length c1, .slice A2 f2.length c2, .int .i64 f3, .int .i64 f4, .string f5] 24 (0, 0))) : W.cell? ⟨g, 0, none⟩ = some (.slice A0 f0.length c0) := (blk_cell h 0).trans rfl
theorem cellS24_1 {W : World} {g : Nat} {A0 : Option Addr} {c0 : Nat} {A1 : Option Addr} {c1 : Nat} {A2 : Option Addr} {c2 : Nat} {f0 : List Int} {f1 : List Int} {f2 : List Int} {f3 : Int} {f4 : Int} {f5 : ByteArray} (h : W.heap[g]? = some (.cells #[.slice A0 f0.length c0, .slice A1 f1.length c1, .slice A2 f2.length c2, .int .i64 f3, .int .i64 f4, .string f5] 24 (0, 0))) : W.cell? ⟨g, 1, none⟩ = some (.slice A1 f1.length c1) := (blk_cell h 1).trans rfl
theorem cellS24_2 {W : World} {g : Nat} {A0 : Option Addr} {c0 : Nat} {A1 : Option Addr} {c1 : Nat} {A2 : Option Addr} {c2 : Nat} {f0 : List Int} {f1 : List Int} {f2 : List Int} {f3 : Int} {f4 : Int} {f5 : ByteArray} (h : W.heap[g]? = some (.cells #[.slice A0 f0.length c0, .slice A1 f1.length c1, .slice A2 f2.length c2, .int .i64 f3, .int .i64 f4, .string f5] 24 (0, 0))) : W.cell? ⟨g, 2, none⟩ = some (.slice A2 f2.length c2) := (blk_cell h 2).trans rfl
theorem cellS24_3 {W : World} {g : Nat} {A0 : Option Addr} {c0 : Nat} {A1 : Option Addr} {c1 : Nat} {A2 : Option Addr} {c2 : Nat} {f0 : List Int} {f1 : List Int} {f2 : List Int} {f3 : Int} {f4 : Int} {f5 : ByteArray} (h : W.heap[g]? = some (.cells #[.slice A0 f0.length c0, .slice A1 f1.length c1, .slice A2 f2.length c2, .int .i64 f3, .int .i64 f4, .string f5] 24 (0, 0))) : W.cell? ⟨g, 3, none⟩ = some (.int .i64 f3) := (blk_cell h 3).trans rfl
theorem IsS24.set_3 {w0 W : World} {g : Nat} {f0 : List Int} {f1 : List Int} {f2 : List Int} {f3 : Int} {f4 : Int} {f5 : ByteArray} (h : IsS24 w0 W g f0 f1 f2 f3 f4 f5) (x : Int) : IsS24 w0 (W.setCell ⟨g, 3, none⟩ (.int .i64 x)) g f0 f1 f2 x f4 f5 := by
  obtain ⟨A0, c0, A1, c1, A2, c2, hb, hg, hr0, hr1, hr2⟩ := h
  exact ⟨A0, c0, A1, c1, A2, c2, by simpa using blk_set hb 3 (.int .i64 x), hg, hr0, hr1, hr2⟩
theorem cellS24_4 {W : World} {g : Nat} {A0 : Option Addr} {c0 : Nat} {A1 : Option Addr} {c1 : Nat} {A2 : Option Addr} {c2 : Nat} {f0 : List Int} {f1 : List Int} {f2 : List Int} {f3 : Int} {f4 : Int} {f5 : ByteArray} (h : W.heap[g]? = some (.cells #[.slice A0 f0.length c0, .slice A1 f1.length c1, .slice A2 f2.length c2, .int .i64 f3, .int .i64 f4, .string f5] 24 (0, 0))) : W.cell? ⟨g, 4, none⟩ = some (.int .i64 f4) := (blk_cell h 4).trans rfl
theorem IsS24.set_4 {w0 W : World} {g : Nat} {f0 : List Int} {f1 : List Int} {f2 : List Int} {f3 : Int} {f4 : Int} {f5 : ByteArray} (h : IsS24 w0 W g f0 f1 f2 f3 f4 f5) (x : Int) : IsS24 w0 (W.setCell ⟨g, 4, none⟩ (.int .i64 x)) g f0 f1 f2 f3 x f5 := by
  obtain ⟨A0, c0, A1, c1, A2, c2, hb, hg, hr0, hr1, hr2⟩ := h
  exact ⟨A0, c0, A1, c1, A2, c2, by simpa using blk_set hb 4 (.int .i64 x), hg, hr0, hr1, hr2⟩
theorem cellS24_5 {W : World} {g : Nat} {A0 : Option Addr} {c0 : Nat} {A1 : Option Addr} {c1 : Nat} {A2 : Option Addr} {c2 : Nat} {f0 : List Int} {f1 : List Int} {f2 : List Int} {f3 : Int} {f4 : Int} {f5 : ByteArray} (h : W.heap[g]? = some (.cells #[.slice A0 f0.length c0, .slice A1 f1.length c1, .slice A2 f2.length c2, .int .i64 f3, .int .i64 f4, .string f5] 24 (0, 0))) : W.cell? ⟨g, 5, none⟩ = some (.string f5) := (blk_cell h 5).trans rfl
theorem IsS24.set_5 {w0 W : World} {g : Nat} {f0 : List Int} {f1 : List Int} {f2 : List Int} {f3 : Int} {f4 : Int} {f5 : ByteArray} (h : IsS24 w0 W g f0 f1 f2 f3 f4 f5) (x : ByteArray) : IsS24 w0 (W.setCell ⟨g, 5, none⟩ (.string x)) g f0 f1 f2 f3 f4 x := by
  obtain ⟨A0, c0, A1, c1, A2, c2, hb, hg, hr0, hr1, hr2⟩ := h
  exact ⟨A0, c0, A1, c1, A2, c2, by simpa using blk_set hb 5 (.string x), hg, hr0, hr1, hr2⟩
theorem IsS24.new (w0 W : World) (A0 : Option Addr) (c0 : Nat) (A1 : Option Addr) (c1 : Nat) (A2 : Option Addr) (c2 : Nat) (f0 : List Int) (f1 : List Int) (f2 : List Int) (f3 : Int) (f4 : Int) (f5 : ByteArray) (hB : Below w0.heap.size w0 W) (hr0 : Kd.C (Kd.int .i64) w0 A0 f0.length f0) (hr1 : Kd.C (Kd.int .i64) w0 A1 f1.length f1) (hr2 : Kd.C (Kd.int .i64) w0 A2 f2.length f2) : IsS24 w0 (W.alloc (.cells #[.slice A0 f0.length c0, .slice A1 f1.length c1, .slice A2 f2.length c2, .int .i64 f3, .int .i64 f4, .string f5] 24)) W.heap.size f0 f1 f2 f3 f4 f5 := ⟨A0, c0, A1, c1, A2, c2, by simpa using heap_alloc_new W _, hB.size, hr0, hr1, hr2⟩

/-! ### impl_Data_cell: function 54 -/
def impl_Data_cell.f (s0_0 : List Int) (s0_1 : List Int) (s0_2 : List Int) (s0_3 : Int) (s0_4 : Int) (s0_5 : ByteArray) (a1 : Int) : Option (Int × Bool × Int × Int × ByteArray) := (impl_in.f a1 4096 (wrap64 ((wrap64 (4096 + (wrap64 (4 * s0_3)))) - 1))).bind fun t241 => (if t241 = true then (if (Int.tmod a1 4) = 0 then (some (wrap64 (Int.tdiv (wrap64 (a1 - 4096)) 4), true, s0_3, s0_4, s0_5)) else (some (0, false, s0_3, s0_4, s0_5))) else (some (0, false, s0_3, s0_4, s0_5)))
set_option maxHeartbeats 8000000 in
set_option maxRecDepth 100000 in
theorem impl_Data_cell.calls (g : Nat) (s0_0 : List Int) (s0_1 : List Int) (s0_2 : List Int) (s0_3 : Int) (s0_4 : Int) (s0_5 : ByteArray) (a1 : Int) (r1 : Int) (r2 : Bool) (r3 : Int) (r4 : Int) (r5 : ByteArray) (w0 w : World) (hI : IsS24 w0 w g s0_0 s0_1 s0_2 s0_3 s0_4 s0_5) (hB : Below w0.heap.size w0 w) (h : impl_Data_cell.f s0_0 s0_1 s0_2 s0_3 s0_4 s0_5 a1 = some (r1, r2, r3, r4, r5)) :
    Calls Try.prog 54 #[.pointer (some ⟨g, 0, none⟩), .int .i64 a1] w fun e w' => e = .returned (.tuple #[.int .i64 r1, .bool r2]) ∧ IsS24 w0 w' g s0_0 s0_1 s0_2 r3 r4 r5 ∧ Below w0.heap.size w0 w' ∧ KeepBut w w' g none := by
  have HI0 := Aside0.mk hI
  have HK := Aside0.mk (KeepBut.refl w g none)
  have HL := Aside0.mk hB.size
  clear hI
  have HW0 := Aside0.mk hB.size
  have HB := Aside0.mk hB
  clear hB
  have H : ((impl_in.f a1 4096 (wrap64 ((wrap64 (4096 + (wrap64 (4 * s0_3)))) - 1))).bind fun t241 => (if t241 = true then (if (Int.tmod a1 4) = 0 then (some (wrap64 (Int.tdiv (wrap64 (a1 - 4096)) 4), true, s0_3, s0_4, s0_5)) else (some (0, false, s0_3, s0_4, s0_5))) else (some (0, false, s0_3, s0_4, s0_5)))) = some (r1, r2, r3, r4, r5) := h
  clear h
  replace H := Option.bind_eq_some_iff.mp H
  obtain ⟨t241, A30, H⟩ := H
  replace H : (if t241 = true then (if (Int.tmod a1 4) = 0 then (some (wrap64 (Int.tdiv (wrap64 (a1 - 4096)) 4), true, s0_3, s0_4, s0_5)) else (some (0, false, s0_3, s0_4, s0_5))) else (some (0, false, s0_3, s0_4, s0_5))) = some (r1, r2, r3, r4, r5) := H
  have A3 := Aside0.mk A30
  clear A30
  by_cases c4 : t241 = true
  · subst c4
    have H1 : (if (Int.tmod a1 4) = 0 then (some (wrap64 (Int.tdiv (wrap64 (a1 - 4096)) 4), true, s0_3, s0_4, s0_5)) else (some (0, false, s0_3, s0_4, s0_5))) = some (r1, r2, r3, r4, r5) := by rw [if_pos rfl] at H; first | done | exact H
    clear H
    have H := H1
    clear H1
    by_cases c5 : (Int.tmod a1 4) = 0
    · rw [if_pos c5] at H
      have c5b0 : ((Int.tmod a1 4) == 0) = true := beq_iff_eq.mpr c5
      have c5b1 : ((Int.tmod a1 4) != 0) = false := bne_eq_false_iff_eq.mpr c5
      clear c5
      simp only [Option.some.injEq, Prod.mk.injEq] at H
      obtain ⟨rfl, rfl, rfl, rfl, rfl⟩ := H
      obtain ⟨ASz6_0, cSz6_0, ASz6_1, cSz6_1, ASz6_2, cSz6_2, HGz6, hgz6, HSz6_0, HSz6_1, HSz6_2⟩ := HI0.out
      have hcz6_0 := cellS24_0 HGz6
      have hcz6_1 := cellS24_1 HGz6
      have hcz6_2 := cellS24_2 HGz6
      have hcz6_3 := cellS24_3 HGz6
      have hcz6_4 := cellS24_4 HGz6
      have hcz6_5 := cellS24_5 HGz6
      have hfz6_3 := blk_frozen HGz6 3
      have hfz6_4 := blk_frozen HGz6 4
      have hfz6_5 := blk_frozen HGz6 5
      clear HGz6 hgz6
      go_enter Try.func54, Try.ntmps54
      go_wp2_with (first | ((with_reducible refine gate_callee (f := 49) rfl ?_); refine goesL_ (some 14) rfl rfl Try.func49 (by kernel_rfl) rfl #[.int .i64 a1, .int .i64 4096, .int .i64 (wrap64 ((wrap64 (4096 + (wrap64 (4 * s0_3)))) - 1))] rfl (by (try simp only [List.map_toArray, List.map_cons, List.map_nil]); first | done | rfl | (simp only [List.length_drop, List.length_take]; rfl)) ?_; (with_reducible refine (impl_in.calls a1 4096 (wrap64 ((wrap64 (4096 + (wrap64 (4 * s0_3)))) - 1)) true _ A3.out).mono ?_); rintro e w' ⟨rfl, ⟨nd, rfl⟩⟩; refine ⟨_, rfl, ?_⟩))
      go_ret2
      exact ⟨by first | rfl | (simp [errW_none, errW_some] <;> rfl) | (simp [*, errW_none, errW_some] <;> rfl), by repeat (first | (with_reducible first | exact HI0.out | apply IsS24.alloc | apply IsS24.drewN | apply IsS24.drew | apply IsS24.set_3 | apply IsS24.set_4 | apply IsS24.set_5) | exact HI0.out), by repeat (first | (with_reducible first | exact HB.out | apply below_alloc | apply pw_below_drewN | apply below_drew1 | refine below_set ?_ (IsS24.ge HI0.out)) | exact HB.out), by repeat (first | (with_reducible first | exact HK.out | apply KeepBut.set_ | apply keep_drewN | apply keep_drew | apply keep_alloc) | exact HK.out)⟩
    · rw [if_neg c5] at H
      have c5b0 : ((Int.tmod a1 4) == 0) = false := beq_eq_false_iff_ne.mpr c5
      have c5b1 : ((Int.tmod a1 4) != 0) = true := bne_iff_ne.mpr c5
      simp only [Option.some.injEq, Prod.mk.injEq] at H
      obtain ⟨rfl, rfl, rfl, rfl, rfl⟩ := H
      obtain ⟨ASz7_0, cSz7_0, ASz7_1, cSz7_1, ASz7_2, cSz7_2, HGz7, hgz7, HSz7_0, HSz7_1, HSz7_2⟩ := HI0.out
      have hcz7_0 := cellS24_0 HGz7
      have hcz7_1 := cellS24_1 HGz7
      have hcz7_2 := cellS24_2 HGz7
      have hcz7_3 := cellS24_3 HGz7
      have hcz7_4 := cellS24_4 HGz7
      have hcz7_5 := cellS24_5 HGz7
      have hfz7_3 := blk_frozen HGz7 3
      have hfz7_4 := blk_frozen HGz7 4
      have hfz7_5 := blk_frozen HGz7 5
      clear HGz7 hgz7
      go_enter Try.func54, Try.ntmps54
      go_wp2_with (first | ((with_reducible refine gate_callee (f := 49) rfl ?_); refine goesL_ (some 14) rfl rfl Try.func49 (by kernel_rfl) rfl #[.int .i64 a1, .int .i64 4096, .int .i64 (wrap64 ((wrap64 (4096 + (wrap64 (4 * s0_3)))) - 1))] rfl (by (try simp only [List.map_toArray, List.map_cons, List.map_nil]); first | done | rfl | (simp only [List.length_drop, List.length_take]; rfl)) ?_; (with_reducible refine (impl_in.calls a1 4096 (wrap64 ((wrap64 (4096 + (wrap64 (4 * s0_3)))) - 1)) true _ A3.out).mono ?_); rintro e w' ⟨rfl, ⟨nd, rfl⟩⟩; refine ⟨_, rfl, ?_⟩))
      go_ret2
      exact ⟨by first | rfl | (simp [errW_none, errW_some] <;> rfl) | (simp [*, errW_none, errW_some] <;> rfl), by repeat (first | (with_reducible first | exact HI0.out | apply IsS24.alloc | apply IsS24.drewN | apply IsS24.drew | apply IsS24.set_3 | apply IsS24.set_4 | apply IsS24.set_5) | exact HI0.out), by repeat (first | (with_reducible first | exact HB.out | apply below_alloc | apply pw_below_drewN | apply below_drew1 | refine below_set ?_ (IsS24.ge HI0.out)) | exact HB.out), by repeat (first | (with_reducible first | exact HK.out | apply KeepBut.set_ | apply keep_drewN | apply keep_drew | apply keep_alloc) | exact HK.out)⟩
  · replace c4 := Bool.eq_false_iff.mpr c4
    subst c4
    have H1 : (some (0, false, s0_3, s0_4, s0_5)) = some (r1, r2, r3, r4, r5) := by rw [if_neg (show ¬ (false = true) by decide)] at H; first | done | exact H
    clear H
    have H := H1
    clear H1
    simp only [Option.some.injEq, Prod.mk.injEq] at H
    obtain ⟨rfl, rfl, rfl, rfl, rfl⟩ := H
    obtain ⟨ASz8_0, cSz8_0, ASz8_1, cSz8_1, ASz8_2, cSz8_2, HGz8, hgz8, HSz8_0, HSz8_1, HSz8_2⟩ := HI0.out
    have hcz8_0 := cellS24_0 HGz8
    have hcz8_1 := cellS24_1 HGz8
    have hcz8_2 := cellS24_2 HGz8
    have hcz8_3 := cellS24_3 HGz8
    have hcz8_4 := cellS24_4 HGz8
    have hcz8_5 := cellS24_5 HGz8
    have hfz8_3 := blk_frozen HGz8 3
    have hfz8_4 := blk_frozen HGz8 4
    have hfz8_5 := blk_frozen HGz8 5
    clear HGz8 hgz8
    go_enter Try.func54, Try.ntmps54
    go_wp2_with (first | ((with_reducible refine gate_callee (f := 49) rfl ?_); refine goesL_ (some 14) rfl rfl Try.func49 (by kernel_rfl) rfl #[.int .i64 a1, .int .i64 4096, .int .i64 (wrap64 ((wrap64 (4096 + (wrap64 (4 * s0_3)))) - 1))] rfl (by (try simp only [List.map_toArray, List.map_cons, List.map_nil]); first | done | rfl | (simp only [List.length_drop, List.length_take]; rfl)) ?_; (with_reducible refine (impl_in.calls a1 4096 (wrap64 ((wrap64 (4096 + (wrap64 (4 * s0_3)))) - 1)) false _ A3.out).mono ?_); rintro e w' ⟨rfl, ⟨nd, rfl⟩⟩; refine ⟨_, rfl, ?_⟩))
    go_ret2
    exact ⟨by first | rfl | (simp [errW_none, errW_some] <;> rfl) | (simp [*, errW_none, errW_some] <;> rfl), by repeat (first | (with_reducible first | exact HI0.out | apply IsS24.alloc | apply IsS24.drewN | apply IsS24.drew | apply IsS24.set_3 | apply IsS24.set_4 | apply IsS24.set_5) | exact HI0.out), by repeat (first | (with_reducible first | exact HB.out | apply below_alloc | apply pw_below_drewN | apply below_drew1 | refine below_set ?_ (IsS24.ge HI0.out)) | exact HB.out), by repeat (first | (with_reducible first | exact HK.out | apply KeepBut.set_ | apply keep_drewN | apply keep_drew | apply keep_alloc) | exact HK.out)⟩

-- NOT PRINTED: function 73 (impl_Data_store)

-- NOT PRINTED: function 72 (impl_Store_1)

/-! ### impl_Store: function 36 -/
set_option maxHeartbeats 4000000 in
set_option maxRecDepth 100000 in
/-- (*Data).cell over held data: what the printed function says. -/
theorem cellH_calls (W : World) (g : Nat) (s b c : List Int) (h n : Int) (o : ByteArray) (a k : Int) (ok : Bool) (h' n' : Int) (o' : ByteArray) (hz : W.cell? ⟨g, 3, none⟩ = some (.int .i64 h)) (hf : W.frozen? ⟨g, 3, none⟩ = false) (hcell : impl_Data_cell.f s b c h n o a = some (k, ok, h', n', o')) :
    Calls Try.prog 54 #[.pointer (some ⟨g, 0, none⟩), .int .i64 a] W fun e w' => e = .returned (.tuple #[.int .i64 k, .bool ok]) ∧ ∃ m, w' = W.drewN m := by
  have H : ((impl_in.f a 4096 (wrap64 ((wrap64 (4096 + (wrap64 (4 * h)))) - 1))).bind fun t158 => (if t158 = true then (if (Int.tmod a 4) = 0 then (some (wrap64 (Int.tdiv (wrap64 (a - 4096)) 4), true, h, n, o)) else (some (0, false, h, n, o))) else (some (0, false, h, n, o)))) = some (k, ok, h', n', o') := hcell
  clear hcell
  obtain ⟨t, A30, H⟩ := Option.bind_eq_some_iff.mp H
  have A3 := Aside0.mk A30
  clear A30
  cases t with
  | true =>
    rw [if_pos rfl] at H
    by_cases c5 : (Int.tmod a 4) = 0
    · rw [if_pos c5] at H
      have c5b0 : ((Int.tmod a 4) == 0) = true := beq_iff_eq.mpr c5
      have c5b1 : ((Int.tmod a 4) != 0) = false := bne_eq_false_iff_eq.mpr c5
      clear c5
      simp only [Option.some.injEq, Prod.mk.injEq] at H
      obtain ⟨rfl, rfl, rfl, rfl, rfl⟩ := H
      go_enter Try.func54, Try.ntmps54
      go_wp2_with (first | (go_at_call 49; (with_reducible refine (impl_in.calls a 4096 (wrap64 ((wrap64 (4096 + (wrap64 (4 * h)))) - 1)) true _ A3.out).mono ?_); rintro e w' ⟨rfl, ⟨nd, rfl⟩⟩))
      go_ret2
      exact ⟨rfl, _, rfl⟩
    · rw [if_neg c5] at H
      have c5b0 : ((Int.tmod a 4) == 0) = false := beq_eq_false_iff_ne.mpr c5
      have c5b1 : ((Int.tmod a 4) != 0) = true := bne_iff_ne.mpr c5
      simp only [Option.some.injEq, Prod.mk.injEq] at H
      obtain ⟨rfl, rfl, rfl, rfl, rfl⟩ := H
      go_enter Try.func54, Try.ntmps54
      go_wp2_with (first | (go_at_call 49; (with_reducible refine (impl_in.calls a 4096 (wrap64 ((wrap64 (4096 + (wrap64 (4 * h)))) - 1)) true _ A3.out).mono ?_); rintro e w' ⟨rfl, ⟨nd, rfl⟩⟩))
      go_ret2
      exact ⟨rfl, _, rfl⟩
  | false =>
    rw [if_neg (by decide)] at H
    simp only [Option.some.injEq, Prod.mk.injEq] at H
    obtain ⟨rfl, rfl, rfl, rfl, rfl⟩ := H
    go_enter Try.func54, Try.ntmps54
    go_wp2_with (first | (go_at_call 49; (with_reducible refine (impl_in.calls a 4096 (wrap64 ((wrap64 (4096 + (wrap64 (4 * h)))) - 1)) false _ A3.out).mono ?_); rintro e w' ⟨rfl, ⟨nd, rfl⟩⟩))
    go_ret2
    exact ⟨rfl, _, rfl⟩
set_option maxHeartbeats 4000000 in
set_option maxRecDepth 100000 in
/-- (*Data).store over held data. -/
theorem store_calls (w0 W : World) (g : Nat) (A0 : Option Addr) (c0 : Nat) (A1 : Option Addr) (c1 : Nat) (A2 : Option Addr) (c2 : Nat) (s b c : List Int) (h n : Int) (o : ByteArray) (a x k : Int) (ok : Bool) (h' n' : Int) (o' : ByteArray) (hcell : impl_Data_cell.f s b c h n o a = some (k, ok, h', n', o')) (t : Int) (c' : List Int)
    (ht : (ok = false ∧ t = -9 ∧ c' = c) ∨ (ok = true ∧ 0 ≤ k ∧ k < c.length ∧ t = 0 ∧ c' = c.set k.toNat x)) (H : Held w0 W g A0 c0 A1 c1 A2 c2 s b c h n o) :
    Calls Try.prog 73 #[.pointer (some ⟨g, 0, none⟩), .int .i64 a, .int .i64 x] W fun e W' => e = .returned (.int .i64 t) ∧ ∃ A2' c2', Held w0 W' g A0 c0 A1 c1 A2' c2' s b c' h n o := by
  have HH := Aside0.mk H
  have HC := Aside0.mk hcell
  have hz3 : W.cell? ⟨g, 3, none⟩ = some (.int .i64 h) := (blk_cell H.blk 3).trans rfl
  have hf3 := blk_frozen H.blk 3
  clear hcell
  rcases ht with ⟨rfl, rfl, rfl⟩ | ⟨rfl, p5, q5, rfl, rfl⟩
  · clear H
    go_enter Try.func73, Try.ntmps73
    go_wp2_with (first | (go_at_call 54; refine (cellH_calls W g s b c' h n o a k false h' n' o' hz3 hf3 HC.out).mono ?_; rintro e w' ⟨rfl, ⟨nd, rfl⟩⟩))
    go_ret
    exact ⟨rfl, _, _, HH.out.drewN _⟩
  · obtain ⟨go, cap, e2, gb, gl, cl, HG⟩ := Kd.R_form H.r2 (by omega)
    (first | cases e2 | (injection e2 with ea_ en_ ec_; (first | subst ea_ | (injection ea_ with ea_; subst ea_)); subst ec_; clear en_))
    obtain ⟨hx0, hfx⟩ := Kd.R_celln 0 H.r2 k p5 q5
    have hz2 : W.cell? ⟨g, 2, none⟩ = some (.slice (some ⟨go, 0, none⟩) c.length c2) := (blk_cell H.blk 2).trans rfl
    have P5 := Aside0.mk p5
    have Q5 := Aside0.mk q5
    replace p5 := eq_true p5
    replace q5 := eq_true q5
    clear H gb gl HG
    go_enter Try.func73, Try.ntmps73
    go_wp2_with (first | (go_at_call 54; refine (cellH_calls W g s b c h n o a k true h' n' o' hz3 hf3 HC.out).mono ?_; rintro e w' ⟨rfl, ⟨nd, rfl⟩⟩))
    go_ret
    exact ⟨rfl, _, _, (HH.out.drewN _).put2 k x⟩
set_option maxHeartbeats 4000000 in
set_option maxRecDepth 100000 in
theorem store1_calls (w0 W : World) (g qa qx : Nat) (A0 : Option Addr) (c0 : Nat) (A1 : Option Addr) (c1 : Nat) (A2 : Option Addr) (c2 : Nat) (s b c : List Int) (h n : Int) (o : ByteArray) (a x k : Int) (ok : Bool) (h' n' : Int) (o' : ByteArray) (hcell : impl_Data_cell.f s b c h n o a = some (k, ok, h', n', o')) (t : Int) (c' : List Int)
    (ht : (ok = false ∧ t = -9 ∧ c' = c) ∨ (ok = true ∧ 0 ≤ k ∧ k < c.length ∧ t = 0 ∧ c' = c.set k.toNat x)) (H : Held w0 W g A0 c0 A1 c1 A2 c2 s b c h n o) (hqa : W.cell? ⟨qa, 0, none⟩ = some (.int .i64 a)) (hqx : W.cell? ⟨qx, 0, none⟩ = some (.int .i64 x)) :
    Calls Try.prog 72 #[.pointer (some ⟨g, 0, none⟩), .pointer (some ⟨qa, 0, none⟩), .pointer (some ⟨qx, 0, none⟩)] W fun e W' => e = .returned (.int .i64 t) ∧ ∃ A2' c2', Held w0 W' g A0 c0 A1 c1 A2' c2' s b c' h n o := by
  have HH := Aside0.mk H
  have HC := Aside0.mk hcell
  have HT := Aside0.mk ht
  clear H hcell ht
  go_enter Try.func72, Try.ntmps72
  go_wp2_with (first | (go_at_call 73; refine (store_calls w0 W g A0 c0 A1 c1 A2 c2 s b c h n o a x k ok h' n' o' HC.out t c' HT.out HH.out).mono ?_; rintro e w' ⟨rfl, hh⟩; have HF := Aside0.mk hh; clear hh))
  go_ret
  exact ⟨rfl, HF.out⟩
set_option maxHeartbeats 8000000 in
set_option maxRecDepth 100000 in
theorem Store_run (k : Nat) (A0 : Option Addr) (c0 : Nat) (A1 : Option Addr) (c1 : Nat) (A2 : Option Addr) (c2 : Nat) (s b c : List Int) (h n : Int) (o : ByteArray) (at_ : Int) (x : Int) (t : Int) (s' b' c' : List Int) (h' n' : Int) (o' : ByteArray) (rs rb rc : List Int) (rh rn : Int) (ro : ByteArray) (w : World) (hr0 : Kd.C (Kd.int .i64) w A0 s.length s) (hc0 : s.length ≤ c0) (hr1 : Kd.C (Kd.int .i64) w A1 b.length b) (hc1 : b.length ≤ c1) (hr2 : Kd.C (Kd.int .i64) w A2 c.length c) (hc2 : c.length ≤ c2) (hk : impl_dataCode.f k s b c h n o x = some 0) (hcopy : impl_Data_copied.f s b c h n o = some (s, b, c, h, n, o)) (hcl : ∀ (q0 : Nat) (q1 : Nat) (W0 W : World) (g : Nat) (B0 : Option Addr) (d0 : Nat) (B1 : Option Addr) (d1 : Nat) (B2 : Option Addr) (d2 : Nat), Held W0 W g B0 d0 B1 d1 B2 d2 s b c h n o → W.cell? ⟨q0, 0, none⟩ = some (.int .i64 at_) → W.cell? ⟨q1, 0, none⟩ = some (.int .i64 x) → Calls Try.prog 72 #[.pointer (some ⟨g, 0, none⟩), .pointer (some ⟨q0, 0, none⟩), .pointer (some ⟨q1, 0, none⟩)] W fun e W' => e = .returned (.int .i64 t) ∧ ∃ B0' d0' B1' d1' B2' d2', Held W0 W' g B0' d0' B1' d1' B2' d2' s' b' c' h' n' o') (hsel : (t = 0 ∧ (rs, rb, rc, rh, rn, ro) = (s', b', c', h', n', o')) ∨ (¬ t = 0 ∧ (rs, rb, rc, rh, rn, ro) = (s, b, c, h, n, o))) :
    Calls Try.prog 36 #[.agg #[.slice A0 s.length c0, .slice A1 b.length c1, .slice A2 c.length c2, .int .i64 h, .int .i64 n, .string o], .int .i64 at_, .int .i64 x] w fun e w' => ∃ v0 v1 v2 : Value, e = .returned (.tuple #[.agg #[v0, v1, v2, .int .i64 rh, .int .i64 rn, .string ro], .int .i64 t, .int .i64 0]) ∧ Kd.R (Kd.int .i64) 3 w' w.heap.size (fun k_ => some k_ ≠ (v1 : Value).ownBlock ∧ some k_ ≠ (v2 : Value).ownBlock) v0 rs ∧ Kd.R (Kd.int .i64) 3 w' w.heap.size (fun k_ => some k_ ≠ (v0 : Value).ownBlock ∧ some k_ ≠ (v2 : Value).ownBlock) v1 rb ∧ Kd.R (Kd.int .i64) 3 w' w.heap.size (fun k_ => some k_ ≠ (v0 : Value).ownBlock ∧ some k_ ≠ (v1 : Value).ownBlock) v2 rc ∧ Below w.heap.size w w' := by
  have hu24 := Try.underlying24
  have HR0 := Aside0.mk hr0
  have HR1 := Aside0.mk hr1
  have HR2 := Aside0.mk hr2
  have HC0 := Aside0.mk hc0
  have HC1 := Aside0.mk hc1
  have HC2 := Aside0.mk hc2
  have HCO := Aside0.mk hcopy
  have HCL := Aside0.mk hcl
  have HSEL := Aside0.mk hsel
  have HB := Aside0.mk (Below.refl w.heap.size w)
  have HK := Aside0.mk hk
  clear hr0 hr1 hr2 hc0 hc1 hc2 hcopy hcl hsel hk
  go_enter Try.func36, Try.ntmps36
  go_wp2_with (first
    | ((with_reducible refine gate_dst (N := 3) rfl ?_); refine box_event ?hg (N := 3) ?hd (cs := #[.slice A0 s.length c0, .slice A1 b.length c1, .slice A2 c.length c2, .int .i64 h, .int .i64 n, .string o]) (t := 24) ?hr ?_; (case hd => rfl); (case hg => rfl); (case hr => first | (go_simp; done) | (go_simp; rfl)); intro g3 hg w1 hbox hb; have BKg3 := Aside0.mk hbox; have GEg3 := Aside0.mk (show w.heap.size ≤ g3 by rw [hg]; exact (below_size HB.out)); replace HB := Aside0.mk (below_step HB.out hb); clear hg hbox hb; have hq1 : w1.cell? ⟨g3, 0, none⟩ = some (.slice A0 s.length c0) := (blk_cell BKg3.out 0).trans rfl; have hz1 := blk_frozen (BKg3.out) 0; have hq2 : w1.cell? ⟨g3, 1, none⟩ = some (.slice A1 b.length c1) := (blk_cell BKg3.out 1).trans rfl; have hz2 := blk_frozen (BKg3.out) 1; have hq3 : w1.cell? ⟨g3, 2, none⟩ = some (.slice A2 c.length c2) := (blk_cell BKg3.out 2).trans rfl; have hz3 := blk_frozen (BKg3.out) 2; have hq4 : w1.cell? ⟨g3, 3, none⟩ = some (.int .i64 h) := (blk_cell BKg3.out 3).trans rfl; have hz4 := blk_frozen (BKg3.out) 3; have hq5 : w1.cell? ⟨g3, 4, none⟩ = some (.int .i64 n) := (blk_cell BKg3.out 4).trans rfl; have hz5 := blk_frozen (BKg3.out) 4; have hq6 : w1.cell? ⟨g3, 5, none⟩ = some (.string o) := (blk_cell BKg3.out 5).trans rfl; have hz6 := blk_frozen (BKg3.out) 5)
    | ((with_reducible refine gate_dst (N := 4) rfl ?_); refine box_event ?hg (N := 4) ?hd (cs := #[.int .i64 at_]) (t := 3) ?hr ?_; (case hd => rfl); (case hg => rfl); (case hr => first | (go_simp; done) | (go_simp; rfl)); intro qat__ hg w2 hbox hb; have BKqat__ := Aside0.mk hbox; have GEqat__ := Aside0.mk (show w.heap.size ≤ qat__ by rw [hg]; exact (below_size HB.out)); have neqat___g3 : qat__ ≠ g3 := (by rw [hg]; exact Nat.ne_of_gt (blk_lt BKg3.out)); have neg3_qat__ : g3 ≠ qat__ := neqat___g3.symm; replace BKg3 := Aside0.mk (blk_below BKg3.out hb); replace HB := Aside0.mk (below_step HB.out hb); clear hg hbox hb; have hq7 : w2.cell? ⟨g3, 0, none⟩ = some (.slice A0 s.length c0) := (blk_cell BKg3.out 0).trans rfl; have hz7 := blk_frozen (BKg3.out) 0; have hq8 : w2.cell? ⟨g3, 1, none⟩ = some (.slice A1 b.length c1) := (blk_cell BKg3.out 1).trans rfl; have hz8 := blk_frozen (BKg3.out) 1; have hq9 : w2.cell? ⟨g3, 2, none⟩ = some (.slice A2 c.length c2) := (blk_cell BKg3.out 2).trans rfl; have hz9 := blk_frozen (BKg3.out) 2; have hq10 : w2.cell? ⟨g3, 3, none⟩ = some (.int .i64 h) := (blk_cell BKg3.out 3).trans rfl; have hz10 := blk_frozen (BKg3.out) 3; have hq11 : w2.cell? ⟨g3, 4, none⟩ = some (.int .i64 n) := (blk_cell BKg3.out 4).trans rfl; have hz11 := blk_frozen (BKg3.out) 4; have hq12 : w2.cell? ⟨g3, 5, none⟩ = some (.string o) := (blk_cell BKg3.out 5).trans rfl; have hz12 := blk_frozen (BKg3.out) 5; have hq13 : w2.cell? ⟨qat__, 0, none⟩ = some (.int .i64 at_) := (blk_cell BKqat__.out 0).trans rfl; have hz13 := blk_frozen (BKqat__.out) 0)
    | ((with_reducible refine gate_dst (N := 5) rfl ?_); refine box_event ?hg (N := 5) ?hd (cs := #[.int .i64 x]) (t := 3) ?hr ?_; (case hd => rfl); (case hg => rfl); (case hr => first | (go_simp; done) | (go_simp; rfl)); intro qx_ hg w3 hbox hb; have BKqx_ := Aside0.mk hbox; have GEqx_ := Aside0.mk (show w.heap.size ≤ qx_ by rw [hg]; exact (below_size HB.out)); have neqx__g3 : qx_ ≠ g3 := (by rw [hg]; exact Nat.ne_of_gt (blk_lt BKg3.out)); have neg3_qx_ : g3 ≠ qx_ := neqx__g3.symm; have neqx__qat__ : qx_ ≠ qat__ := (by rw [hg]; exact Nat.ne_of_gt (blk_lt BKqat__.out)); have neqat___qx_ : qat__ ≠ qx_ := neqx__qat__.symm; replace BKg3 := Aside0.mk (blk_below BKg3.out hb); replace BKqat__ := Aside0.mk (blk_below BKqat__.out hb); replace HB := Aside0.mk (below_step HB.out hb); clear hg hbox hb; have hq14 : w3.cell? ⟨g3, 0, none⟩ = some (.slice A0 s.length c0) := (blk_cell BKg3.out 0).trans rfl; have hz14 := blk_frozen (BKg3.out) 0; have hq15 : w3.cell? ⟨g3, 1, none⟩ = some (.slice A1 b.length c1) := (blk_cell BKg3.out 1).trans rfl; have hz15 := blk_frozen (BKg3.out) 1; have hq16 : w3.cell? ⟨g3, 2, none⟩ = some (.slice A2 c.length c2) := (blk_cell BKg3.out 2).trans rfl; have hz16 := blk_frozen (BKg3.out) 2; have hq17 : w3.cell? ⟨g3, 3, none⟩ = some (.int .i64 h) := (blk_cell BKg3.out 3).trans rfl; have hz17 := blk_frozen (BKg3.out) 3; have hq18 : w3.cell? ⟨g3, 4, none⟩ = some (.int .i64 n) := (blk_cell BKg3.out 4).trans rfl; have hz18 := blk_frozen (BKg3.out) 4; have hq19 : w3.cell? ⟨g3, 5, none⟩ = some (.string o) := (blk_cell BKg3.out 5).trans rfl; have hz19 := blk_frozen (BKg3.out) 5; have hq20 : w3.cell? ⟨qat__, 0, none⟩ = some (.int .i64 at_) := (blk_cell BKqat__.out 0).trans rfl; have hz20 := blk_frozen (BKqat__.out) 0; have hq21 : w3.cell? ⟨qx_, 0, none⟩ = some (.int .i64 x) := (blk_cell BKqx_.out 0).trans rfl; have hz21 := blk_frozen (BKqx_.out) 0)
    | ((with_reducible refine gate_dst (N := 6) rfl ?_); refine box_event ?hg (N := 6) ?hd (cs := #[.slice none 0 0, .slice none 0 0, .slice none 0 0, .int .i64 0, .int .i64 0, .string (⟨#[]⟩ : ByteArray)]) (t := 24) ?hr ?_; (case hd => rfl); (case hg => rfl); (case hr => first | (go_simp; done) | (go_simp; rfl)); intro g6 hg w4 hbox hb; have BKg6 := Aside0.mk hbox; have GEg6 := Aside0.mk (show w.heap.size ≤ g6 by rw [hg]; exact (below_size HB.out)); have neg6_g3 : g6 ≠ g3 := (by rw [hg]; exact Nat.ne_of_gt (blk_lt BKg3.out)); have neg3_g6 : g3 ≠ g6 := neg6_g3.symm; have neg6_qat__ : g6 ≠ qat__ := (by rw [hg]; exact Nat.ne_of_gt (blk_lt BKqat__.out)); have neqat___g6 : qat__ ≠ g6 := neg6_qat__.symm; have neg6_qx_ : g6 ≠ qx_ := (by rw [hg]; exact Nat.ne_of_gt (blk_lt BKqx_.out)); have neqx__g6 : qx_ ≠ g6 := neg6_qx_.symm; replace BKg3 := Aside0.mk (blk_below BKg3.out hb); replace BKqat__ := Aside0.mk (blk_below BKqat__.out hb); replace BKqx_ := Aside0.mk (blk_below BKqx_.out hb); replace HB := Aside0.mk (below_step HB.out hb); clear hg hbox hb; have hq22 : w4.cell? ⟨g3, 0, none⟩ = some (.slice A0 s.length c0) := (blk_cell BKg3.out 0).trans rfl; have hz22 := blk_frozen (BKg3.out) 0; have hq23 : w4.cell? ⟨g3, 1, none⟩ = some (.slice A1 b.length c1) := (blk_cell BKg3.out 1).trans rfl; have hz23 := blk_frozen (BKg3.out) 1; have hq24 : w4.cell? ⟨g3, 2, none⟩ = some (.slice A2 c.length c2) := (blk_cell BKg3.out 2).trans rfl; have hz24 := blk_frozen (BKg3.out) 2; have hq25 : w4.cell? ⟨g3, 3, none⟩ = some (.int .i64 h) := (blk_cell BKg3.out 3).trans rfl; have hz25 := blk_frozen (BKg3.out) 3; have hq26 : w4.cell? ⟨g3, 4, none⟩ = some (.int .i64 n) := (blk_cell BKg3.out 4).trans rfl; have hz26 := blk_frozen (BKg3.out) 4; have hq27 : w4.cell? ⟨g3, 5, none⟩ = some (.string o) := (blk_cell BKg3.out 5).trans rfl; have hz27 := blk_frozen (BKg3.out) 5; have hq28 : w4.cell? ⟨qat__, 0, none⟩ = some (.int .i64 at_) := (blk_cell BKqat__.out 0).trans rfl; have hz28 := blk_frozen (BKqat__.out) 0; have hq29 : w4.cell? ⟨qx_, 0, none⟩ = some (.int .i64 x) := (blk_cell BKqx_.out 0).trans rfl; have hz29 := blk_frozen (BKqx_.out) 0; have hq30 : w4.cell? ⟨g6, 0, none⟩ = some (.slice none 0 0) := (blk_cell BKg6.out 0).trans rfl; have hz30 := blk_frozen (BKg6.out) 0; have hq31 : w4.cell? ⟨g6, 1, none⟩ = some (.slice none 0 0) := (blk_cell BKg6.out 1).trans rfl; have hz31 := blk_frozen (BKg6.out) 1; have hq32 : w4.cell? ⟨g6, 2, none⟩ = some (.slice none 0 0) := (blk_cell BKg6.out 2).trans rfl; have hz32 := blk_frozen (BKg6.out) 2; have hq33 : w4.cell? ⟨g6, 3, none⟩ = some (.int .i64 0) := (blk_cell BKg6.out 3).trans rfl; have hz33 := blk_frozen (BKg6.out) 3; have hq34 : w4.cell? ⟨g6, 4, none⟩ = some (.int .i64 0) := (blk_cell BKg6.out 4).trans rfl; have hz34 := blk_frozen (BKg6.out) 4; have hq35 : w4.cell? ⟨g6, 5, none⟩ = some (.string (⟨#[]⟩ : ByteArray)) := (blk_cell BKg6.out 5).trans rfl; have hz35 := blk_frozen (BKg6.out) 5)
    | (go_at_call 65; (with_reducible refine (impl_dataCode.calls k A0 c0 s A1 c1 b A2 c2 c h n o x 0 w4 (Kd.C_below HR0.out HB.out) HC0.out (Kd.C_below HR1.out HB.out) HC1.out (Kd.C_below HR2.out HB.out) HC2.out HK.out).mono ?_); rintro e w5 ⟨rfl, hb⟩; replace BKg3 := Aside0.mk (blk_below BKg3.out hb); replace BKqat__ := Aside0.mk (blk_below BKqat__.out hb); replace BKqx_ := Aside0.mk (blk_below BKqx_.out hb); replace BKg6 := Aside0.mk (blk_below BKg6.out hb); replace HB := Aside0.mk (below_step HB.out hb); clear hb; have hq36 : w5.cell? ⟨g3, 0, none⟩ = some (.slice A0 s.length c0) := (blk_cell BKg3.out 0).trans rfl; have hz36 := blk_frozen (BKg3.out) 0; have hq37 : w5.cell? ⟨g3, 1, none⟩ = some (.slice A1 b.length c1) := (blk_cell BKg3.out 1).trans rfl; have hz37 := blk_frozen (BKg3.out) 1; have hq38 : w5.cell? ⟨g3, 2, none⟩ = some (.slice A2 c.length c2) := (blk_cell BKg3.out 2).trans rfl; have hz38 := blk_frozen (BKg3.out) 2; have hq39 : w5.cell? ⟨g3, 3, none⟩ = some (.int .i64 h) := (blk_cell BKg3.out 3).trans rfl; have hz39 := blk_frozen (BKg3.out) 3; have hq40 : w5.cell? ⟨g3, 4, none⟩ = some (.int .i64 n) := (blk_cell BKg3.out 4).trans rfl; have hz40 := blk_frozen (BKg3.out) 4; have hq41 : w5.cell? ⟨g3, 5, none⟩ = some (.string o) := (blk_cell BKg3.out 5).trans rfl; have hz41 := blk_frozen (BKg3.out) 5; have hq42 : w5.cell? ⟨qat__, 0, none⟩ = some (.int .i64 at_) := (blk_cell BKqat__.out 0).trans rfl; have hz42 := blk_frozen (BKqat__.out) 0; have hq43 : w5.cell? ⟨qx_, 0, none⟩ = some (.int .i64 x) := (blk_cell BKqx_.out 0).trans rfl; have hz43 := blk_frozen (BKqx_.out) 0; have hq44 : w5.cell? ⟨g6, 0, none⟩ = some (.slice none 0 0) := (blk_cell BKg6.out 0).trans rfl; have hz44 := blk_frozen (BKg6.out) 0; have hq45 : w5.cell? ⟨g6, 1, none⟩ = some (.slice none 0 0) := (blk_cell BKg6.out 1).trans rfl; have hz45 := blk_frozen (BKg6.out) 1; have hq46 : w5.cell? ⟨g6, 2, none⟩ = some (.slice none 0 0) := (blk_cell BKg6.out 2).trans rfl; have hz46 := blk_frozen (BKg6.out) 2; have hq47 : w5.cell? ⟨g6, 3, none⟩ = some (.int .i64 0) := (blk_cell BKg6.out 3).trans rfl; have hz47 := blk_frozen (BKg6.out) 3; have hq48 : w5.cell? ⟨g6, 4, none⟩ = some (.int .i64 0) := (blk_cell BKg6.out 4).trans rfl; have hz48 := blk_frozen (BKg6.out) 4; have hq49 : w5.cell? ⟨g6, 5, none⟩ = some (.string (⟨#[]⟩ : ByteArray)) := (blk_cell BKg6.out 5).trans rfl; have hz49 := blk_frozen (BKg6.out) 5)
    | (go_at_call 57; refine (changed_both w5 72 Try.f72 #[.pointer (some ⟨qat__, 0, none⟩), .pointer (some ⟨qx_, 0, none⟩)] Try.func72 rfl rfl A0 c0 A1 c1 A2 c2 s b c h n o (Kd.C_below HR0.out HB.out) HC0.out (Kd.C_below HR1.out HB.out) HC1.out (Kd.C_below HR2.out HB.out) HC2.out HCO.out t s' b' c' h' n' o' rs rb rc rh rn ro (fun W0 W g B0 d0 B1 d1 B2 d2 hb0 hh => HCL.out qat__ qx_ W0 W g B0 d0 B1 d1 B2 d2 hh (pw_cell_below hh.below (pw_cell_below hb0 ((blk_cell BKqat__.out 0).trans rfl))) (pw_cell_below hh.below (pw_cell_below hb0 ((blk_cell BKqx_.out 0).trans rfl)))) HSEL.out).mono ?_; rintro e w6 ⟨v0, v1, v2, rfl, x0, x1, x2, hb⟩; have X0 := Aside0.mk (Kd.R_lower x0 (below_size HB.out)); have X1 := Aside0.mk (Kd.R_lower x1 (below_size HB.out)); have X2 := Aside0.mk (Kd.R_lower x2 (below_size HB.out)); clear x0 x1 x2; replace BKg3 := Aside0.mk (blk_below BKg3.out hb); replace BKqat__ := Aside0.mk (blk_below BKqat__.out hb); replace BKqx_ := Aside0.mk (blk_below BKqx_.out hb); replace BKg6 := Aside0.mk (blk_below BKg6.out hb); replace HB := Aside0.mk (below_step HB.out hb); clear hb; obtain ⟨E0, f0, e0⟩ := Kd.R_slice X0.out; subst e0; obtain ⟨E1, f1, e1⟩ := Kd.R_slice X1.out; subst e1; obtain ⟨E2, f2, e2⟩ := Kd.R_slice X2.out; subst e2)
    | ((with_reducible refine gate_dst (N := 10) rfl ?_); refine box_event ?hg (N := 10) ?hd (cs := #[.slice none 0 0, .slice none 0 0, .slice none 0 0, .int .i64 0, .int .i64 0, .string (⟨#[]⟩ : ByteArray)]) (t := 24) ?hr ?_; (case hd => rfl); (case hg => rfl); (case hr => first | (go_simp; done) | (go_simp; rfl)); intro g10 hg w7 hbox hb; have BKg10 := Aside0.mk hbox; have GEg10 := Aside0.mk (show w.heap.size ≤ g10 by rw [hg]; exact (below_size HB.out)); have neg10_g3 : g10 ≠ g3 := (by rw [hg]; exact Nat.ne_of_gt (blk_lt BKg3.out)); have neg3_g10 : g3 ≠ g10 := neg10_g3.symm; have neg10_qat__ : g10 ≠ qat__ := (by rw [hg]; exact Nat.ne_of_gt (blk_lt BKqat__.out)); have neqat___g10 : qat__ ≠ g10 := neg10_qat__.symm; have neg10_qx_ : g10 ≠ qx_ := (by rw [hg]; exact Nat.ne_of_gt (blk_lt BKqx_.out)); have neqx__g10 : qx_ ≠ g10 := neg10_qx_.symm; have neg10_g6 : g10 ≠ g6 := (by rw [hg]; exact Nat.ne_of_gt (blk_lt BKg6.out)); have neg6_g10 : g6 ≠ g10 := neg10_g6.symm; replace BKg3 := Aside0.mk (blk_below BKg3.out hb); replace BKqat__ := Aside0.mk (blk_below BKqat__.out hb); replace BKqx_ := Aside0.mk (blk_below BKqx_.out hb); replace BKg6 := Aside0.mk (blk_below BKg6.out hb); replace X0 := Aside0.mk (Kd.R_below X0.out hb); replace X1 := Aside0.mk (Kd.R_below X1.out hb); replace X2 := Aside0.mk (Kd.R_below X2.out hb); replace HB := Aside0.mk (below_step HB.out hb); clear hg hbox hb; have hq50 : w7.cell? ⟨g3, 0, none⟩ = some (.slice A0 s.length c0) := (blk_cell BKg3.out 0).trans rfl; have hz50 := blk_frozen (BKg3.out) 0; have hq51 : w7.cell? ⟨g3, 1, none⟩ = some (.slice A1 b.length c1) := (blk_cell BKg3.out 1).trans rfl; have hz51 := blk_frozen (BKg3.out) 1; have hq52 : w7.cell? ⟨g3, 2, none⟩ = some (.slice A2 c.length c2) := (blk_cell BKg3.out 2).trans rfl; have hz52 := blk_frozen (BKg3.out) 2; have hq53 : w7.cell? ⟨g3, 3, none⟩ = some (.int .i64 h) := (blk_cell BKg3.out 3).trans rfl; have hz53 := blk_frozen (BKg3.out) 3; have hq54 : w7.cell? ⟨g3, 4, none⟩ = some (.int .i64 n) := (blk_cell BKg3.out 4).trans rfl; have hz54 := blk_frozen (BKg3.out) 4; have hq55 : w7.cell? ⟨g3, 5, none⟩ = some (.string o) := (blk_cell BKg3.out 5).trans rfl; have hz55 := blk_frozen (BKg3.out) 5; have hq56 : w7.cell? ⟨qat__, 0, none⟩ = some (.int .i64 at_) := (blk_cell BKqat__.out 0).trans rfl; have hz56 := blk_frozen (BKqat__.out) 0; have hq57 : w7.cell? ⟨qx_, 0, none⟩ = some (.int .i64 x) := (blk_cell BKqx_.out 0).trans rfl; have hz57 := blk_frozen (BKqx_.out) 0; have hq58 : w7.cell? ⟨g6, 0, none⟩ = some (.slice none 0 0) := (blk_cell BKg6.out 0).trans rfl; have hz58 := blk_frozen (BKg6.out) 0; have hq59 : w7.cell? ⟨g6, 1, none⟩ = some (.slice none 0 0) := (blk_cell BKg6.out 1).trans rfl; have hz59 := blk_frozen (BKg6.out) 1; have hq60 : w7.cell? ⟨g6, 2, none⟩ = some (.slice none 0 0) := (blk_cell BKg6.out 2).trans rfl; have hz60 := blk_frozen (BKg6.out) 2; have hq61 : w7.cell? ⟨g6, 3, none⟩ = some (.int .i64 0) := (blk_cell BKg6.out 3).trans rfl; have hz61 := blk_frozen (BKg6.out) 3; have hq62 : w7.cell? ⟨g6, 4, none⟩ = some (.int .i64 0) := (blk_cell BKg6.out 4).trans rfl; have hz62 := blk_frozen (BKg6.out) 4; have hq63 : w7.cell? ⟨g6, 5, none⟩ = some (.string (⟨#[]⟩ : ByteArray)) := (blk_cell BKg6.out 5).trans rfl; have hz63 := blk_frozen (BKg6.out) 5; have hq64 : w7.cell? ⟨g10, 0, none⟩ = some (.slice none 0 0) := (blk_cell BKg10.out 0).trans rfl; have hz64 := blk_frozen (BKg10.out) 0; have hq65 : w7.cell? ⟨g10, 1, none⟩ = some (.slice none 0 0) := (blk_cell BKg10.out 1).trans rfl; have hz65 := blk_frozen (BKg10.out) 1; have hq66 : w7.cell? ⟨g10, 2, none⟩ = some (.slice none 0 0) := (blk_cell BKg10.out 2).trans rfl; have hz66 := blk_frozen (BKg10.out) 2; have hq67 : w7.cell? ⟨g10, 3, none⟩ = some (.int .i64 0) := (blk_cell BKg10.out 3).trans rfl; have hz67 := blk_frozen (BKg10.out) 3; have hq68 : w7.cell? ⟨g10, 4, none⟩ = some (.int .i64 0) := (blk_cell BKg10.out 4).trans rfl; have hz68 := blk_frozen (BKg10.out) 4; have hq69 : w7.cell? ⟨g10, 5, none⟩ = some (.string (⟨#[]⟩ : ByteArray)) := (blk_cell BKg10.out 5).trans rfl; have hz69 := blk_frozen (BKg10.out) 5))
  have a1 := blk_put BKg10.out 0 (.slice E0 rs.length f0) rfl
  have a2 := blk_put a1 1 (.slice E1 rb.length f1) rfl
  have a3 := blk_put a2 2 (.slice E2 rc.length f2) rfl
  have a4 := blk_put a3 3 (.int .i64 rh) rfl
  have a5 := blk_put a4 4 (.int .i64 rn) rfl
  have a6 := blk_put a5 5 (.string ro) rfl
  have d0 : ((((((w7.setCell ⟨g10, 0, none⟩ (.slice E0 rs.length f0)).setCell ⟨g10, 1, none⟩ (.slice E1 rb.length f1)).setCell ⟨g10, 2, none⟩ (.slice E2 rc.length f2)).setCell ⟨g10, 3, none⟩ (.int .i64 rh)).setCell ⟨g10, 4, none⟩ (.int .i64 rn)).setCell ⟨g10, 5, none⟩ (.string ro)).heap[g6]? = some (.cells #[.slice none 0 0, .slice none 0 0, .slice none 0 0, .int .i64 0, .int .i64 0, .string (⟨#[]⟩ : ByteArray)] 24 (0, 0)) := (blk_far (blk_far (blk_far (blk_far (blk_far (blk_far BKg6.out neg6_g10 _) neg6_g10 _) neg6_g10 _) neg6_g10 _) neg6_g10 _) neg6_g10 _)
  have d1 := blk_put d0 0 (.slice E0 rs.length f0) rfl
  have d2 := blk_put d1 1 (.slice E1 rb.length f1) rfl
  have d3 := blk_put d2 2 (.slice E2 rc.length f2) rfl
  have d4 := blk_put d3 3 (.int .i64 rh) rfl
  have d5 := blk_put d4 4 (.int .i64 rn) rfl
  have d6 := blk_put d5 5 (.string ro) rfl
  have rows : ∀ {ok : Nat → Prop} {v : Value} {xs : List Int}, Kd.R (Kd.int .i64) 3 w7 w.heap.size ok v xs → Kd.R (Kd.int .i64) 3 ((((((((((((w7.setCell ⟨g10, 0, none⟩ (.slice E0 rs.length f0)).setCell ⟨g10, 1, none⟩ (.slice E1 rb.length f1)).setCell ⟨g10, 2, none⟩ (.slice E2 rc.length f2)).setCell ⟨g10, 3, none⟩ (.int .i64 rh)).setCell ⟨g10, 4, none⟩ (.int .i64 rn)).setCell ⟨g10, 5, none⟩ (.string ro)).setCell ⟨g6, 0, none⟩ (.slice E0 rs.length f0)).setCell ⟨g6, 1, none⟩ (.slice E1 rb.length f1)).setCell ⟨g6, 2, none⟩ (.slice E2 rc.length f2)).setCell ⟨g6, 3, none⟩ (.int .i64 rh)).setCell ⟨g6, 4, none⟩ (.int .i64 rn)).setCell ⟨g6, 5, none⟩ (.string ro)) w.heap.size ok v xs := fun hh => (Held.rows_set d5 (Held.rows_set d4 (Held.rows_set d3 (Held.rows_set d2 (Held.rows_set d1 (Held.rows_set d0 (Held.rows_set a5 (Held.rows_set a4 (Held.rows_set a3 (Held.rows_set a2 (Held.rows_set a1 (Held.rows_set BKg10.out hh))))))))))))
  refine bodyPost_ret (results_ctt rfl _ _ g6 24 #[.slice E0 rs.length f0, .slice E1 rb.length f1, .slice E2 rc.length f2, .int .i64 rh, .int .i64 rn, .string ro] (0, 0) _ rfl d6 Try.underlying24 rfl (by kernel_rfl)) rfl ?_
  exact ⟨_, _, _, rfl, rows X0.out, rows X1.out, rows X2.out, (below_set (below_set (below_set (below_set (below_set (below_set (below_set (below_set (below_set (below_set (below_set (below_set HB.out GEg10.out) GEg10.out) GEg10.out) GEg10.out) GEg10.out) GEg10.out) GEg6.out) GEg6.out) GEg6.out) GEg6.out) GEg6.out) GEg6.out)⟩

set_option maxHeartbeats 8000000 in
set_option maxRecDepth 100000 in
theorem Store_code (k : Nat) (A0 : Option Addr) (c0 : Nat) (A1 : Option Addr) (c1 : Nat) (A2 : Option Addr) (c2 : Nat) (s b c : List Int) (h n : Int) (o : ByteArray) (at_ : Int) (x : Int) (code : Int) (w : World) (hr0 : Kd.C (Kd.int .i64) w A0 s.length s) (hc0 : s.length ≤ c0) (hr1 : Kd.C (Kd.int .i64) w A1 b.length b) (hc1 : b.length ≤ c1) (hr2 : Kd.C (Kd.int .i64) w A2 c.length c) (hc2 : c.length ≤ c2) (hk : impl_dataCode.f k s b c h n o x = some code) (ht : ¬ code = 0) :
    Calls Try.prog 36 #[.agg #[.slice A0 s.length c0, .slice A1 b.length c1, .slice A2 c.length c2, .int .i64 h, .int .i64 n, .string o], .int .i64 at_, .int .i64 x] w fun e w' => ∃ v0 v1 v2 : Value, e = .returned (.tuple #[.agg #[v0, v1, v2, .int .i64 0, .int .i64 0, .string (⟨#[]⟩ : ByteArray)], .int .i64 0, .int .i64 code]) ∧ Kd.R (Kd.int .i64) 3 w' w.heap.size (fun k_ => some k_ ≠ (v1 : Value).ownBlock ∧ some k_ ≠ (v2 : Value).ownBlock) v0 ([] : List Int) ∧ Kd.R (Kd.int .i64) 3 w' w.heap.size (fun k_ => some k_ ≠ (v0 : Value).ownBlock ∧ some k_ ≠ (v2 : Value).ownBlock) v1 ([] : List Int) ∧ Kd.R (Kd.int .i64) 3 w' w.heap.size (fun k_ => some k_ ≠ (v0 : Value).ownBlock ∧ some k_ ≠ (v1 : Value).ownBlock) v2 ([] : List Int) ∧ Below w.heap.size w w' := by
  have hu24 := Try.underlying24
  have HR0 := Aside0.mk hr0
  have HR1 := Aside0.mk hr1
  have HR2 := Aside0.mk hr2
  have HC0 := Aside0.mk hc0
  have HC1 := Aside0.mk hc1
  have HC2 := Aside0.mk hc2
  have HB := Aside0.mk (Below.refl w.heap.size w)
  have HK := Aside0.mk hk
  have ht0 : (code == 0) = false := beq_eq_false_iff_ne.mpr ht
  have ht1 : (code != 0) = true := bne_iff_ne.mpr ht
  clear hr0 hr1 hr2 hc0 hc1 hc2 hk ht
  go_enter Try.func36, Try.ntmps36
  go_wp2_with (first
    | ((with_reducible refine gate_dst (N := 3) rfl ?_); refine box_event ?hg (N := 3) ?hd (cs := #[.slice A0 s.length c0, .slice A1 b.length c1, .slice A2 c.length c2, .int .i64 h, .int .i64 n, .string o]) (t := 24) ?hr ?_; (case hd => rfl); (case hg => rfl); (case hr => first | (go_simp; done) | (go_simp; rfl)); intro g3 hg w1 hbox hb; have BKg3 := Aside0.mk hbox; have GEg3 := Aside0.mk (show w.heap.size ≤ g3 by rw [hg]; exact (below_size HB.out)); replace HB := Aside0.mk (below_step HB.out hb); clear hg hbox hb; have hq1 : w1.cell? ⟨g3, 0, none⟩ = some (.slice A0 s.length c0) := (blk_cell BKg3.out 0).trans rfl; have hz1 := blk_frozen (BKg3.out) 0; have hq2 : w1.cell? ⟨g3, 1, none⟩ = some (.slice A1 b.length c1) := (blk_cell BKg3.out 1).trans rfl; have hz2 := blk_frozen (BKg3.out) 1; have hq3 : w1.cell? ⟨g3, 2, none⟩ = some (.slice A2 c.length c2) := (blk_cell BKg3.out 2).trans rfl; have hz3 := blk_frozen (BKg3.out) 2; have hq4 : w1.cell? ⟨g3, 3, none⟩ = some (.int .i64 h) := (blk_cell BKg3.out 3).trans rfl; have hz4 := blk_frozen (BKg3.out) 3; have hq5 : w1.cell? ⟨g3, 4, none⟩ = some (.int .i64 n) := (blk_cell BKg3.out 4).trans rfl; have hz5 := blk_frozen (BKg3.out) 4; have hq6 : w1.cell? ⟨g3, 5, none⟩ = some (.string o) := (blk_cell BKg3.out 5).trans rfl; have hz6 := blk_frozen (BKg3.out) 5)
    | ((with_reducible refine gate_dst (N := 4) rfl ?_); refine box_event ?hg (N := 4) ?hd (cs := #[.int .i64 at_]) (t := 3) ?hr ?_; (case hd => rfl); (case hg => rfl); (case hr => first | (go_simp; done) | (go_simp; rfl)); intro qat__ hg w2 hbox hb; have BKqat__ := Aside0.mk hbox; have GEqat__ := Aside0.mk (show w.heap.size ≤ qat__ by rw [hg]; exact (below_size HB.out)); have neqat___g3 : qat__ ≠ g3 := (by rw [hg]; exact Nat.ne_of_gt (blk_lt BKg3.out)); have neg3_qat__ : g3 ≠ qat__ := neqat___g3.symm; replace BKg3 := Aside0.mk (blk_below BKg3.out hb); replace HB := Aside0.mk (below_step HB.out hb); clear hg hbox hb; have hq7 : w2.cell? ⟨g3, 0, none⟩ = some (.slice A0 s.length c0) := (blk_cell BKg3.out 0).trans rfl; have hz7 := blk_frozen (BKg3.out) 0; have hq8 : w2.cell? ⟨g3, 1, none⟩ = some (.slice A1 b.length c1) := (blk_cell BKg3.out 1).trans rfl; have hz8 := blk_frozen (BKg3.out) 1; have hq9 : w2.cell? ⟨g3, 2, none⟩ = some (.slice A2 c.length c2) := (blk_cell BKg3.out 2).trans rfl; have hz9 := blk_frozen (BKg3.out) 2; have hq10 : w2.cell? ⟨g3, 3, none⟩ = some (.int .i64 h) := (blk_cell BKg3.out 3).trans rfl; have hz10 := blk_frozen (BKg3.out) 3; have hq11 : w2.cell? ⟨g3, 4, none⟩ = some (.int .i64 n) := (blk_cell BKg3.out 4).trans rfl; have hz11 := blk_frozen (BKg3.out) 4; have hq12 : w2.cell? ⟨g3, 5, none⟩ = some (.string o) := (blk_cell BKg3.out 5).trans rfl; have hz12 := blk_frozen (BKg3.out) 5; have hq13 : w2.cell? ⟨qat__, 0, none⟩ = some (.int .i64 at_) := (blk_cell BKqat__.out 0).trans rfl; have hz13 := blk_frozen (BKqat__.out) 0)
    | ((with_reducible refine gate_dst (N := 5) rfl ?_); refine box_event ?hg (N := 5) ?hd (cs := #[.int .i64 x]) (t := 3) ?hr ?_; (case hd => rfl); (case hg => rfl); (case hr => first | (go_simp; done) | (go_simp; rfl)); intro qx_ hg w3 hbox hb; have BKqx_ := Aside0.mk hbox; have GEqx_ := Aside0.mk (show w.heap.size ≤ qx_ by rw [hg]; exact (below_size HB.out)); have neqx__g3 : qx_ ≠ g3 := (by rw [hg]; exact Nat.ne_of_gt (blk_lt BKg3.out)); have neg3_qx_ : g3 ≠ qx_ := neqx__g3.symm; have neqx__qat__ : qx_ ≠ qat__ := (by rw [hg]; exact Nat.ne_of_gt (blk_lt BKqat__.out)); have neqat___qx_ : qat__ ≠ qx_ := neqx__qat__.symm; replace BKg3 := Aside0.mk (blk_below BKg3.out hb); replace BKqat__ := Aside0.mk (blk_below BKqat__.out hb); replace HB := Aside0.mk (below_step HB.out hb); clear hg hbox hb; have hq14 : w3.cell? ⟨g3, 0, none⟩ = some (.slice A0 s.length c0) := (blk_cell BKg3.out 0).trans rfl; have hz14 := blk_frozen (BKg3.out) 0; have hq15 : w3.cell? ⟨g3, 1, none⟩ = some (.slice A1 b.length c1) := (blk_cell BKg3.out 1).trans rfl; have hz15 := blk_frozen (BKg3.out) 1; have hq16 : w3.cell? ⟨g3, 2, none⟩ = some (.slice A2 c.length c2) := (blk_cell BKg3.out 2).trans rfl; have hz16 := blk_frozen (BKg3.out) 2; have hq17 : w3.cell? ⟨g3, 3, none⟩ = some (.int .i64 h) := (blk_cell BKg3.out 3).trans rfl; have hz17 := blk_frozen (BKg3.out) 3; have hq18 : w3.cell? ⟨g3, 4, none⟩ = some (.int .i64 n) := (blk_cell BKg3.out 4).trans rfl; have hz18 := blk_frozen (BKg3.out) 4; have hq19 : w3.cell? ⟨g3, 5, none⟩ = some (.string o) := (blk_cell BKg3.out 5).trans rfl; have hz19 := blk_frozen (BKg3.out) 5; have hq20 : w3.cell? ⟨qat__, 0, none⟩ = some (.int .i64 at_) := (blk_cell BKqat__.out 0).trans rfl; have hz20 := blk_frozen (BKqat__.out) 0; have hq21 : w3.cell? ⟨qx_, 0, none⟩ = some (.int .i64 x) := (blk_cell BKqx_.out 0).trans rfl; have hz21 := blk_frozen (BKqx_.out) 0)
    | ((with_reducible refine gate_dst (N := 6) rfl ?_); refine box_event ?hg (N := 6) ?hd (cs := #[.slice none 0 0, .slice none 0 0, .slice none 0 0, .int .i64 0, .int .i64 0, .string (⟨#[]⟩ : ByteArray)]) (t := 24) ?hr ?_; (case hd => rfl); (case hg => rfl); (case hr => first | (go_simp; done) | (go_simp; rfl)); intro g6 hg w4 hbox hb; have BKg6 := Aside0.mk hbox; have GEg6 := Aside0.mk (show w.heap.size ≤ g6 by rw [hg]; exact (below_size HB.out)); have neg6_g3 : g6 ≠ g3 := (by rw [hg]; exact Nat.ne_of_gt (blk_lt BKg3.out)); have neg3_g6 : g3 ≠ g6 := neg6_g3.symm; have neg6_qat__ : g6 ≠ qat__ := (by rw [hg]; exact Nat.ne_of_gt (blk_lt BKqat__.out)); have neqat___g6 : qat__ ≠ g6 := neg6_qat__.symm; have neg6_qx_ : g6 ≠ qx_ := (by rw [hg]; exact Nat.ne_of_gt (blk_lt BKqx_.out)); have neqx__g6 : qx_ ≠ g6 := neg6_qx_.symm; replace BKg3 := Aside0.mk (blk_below BKg3.out hb); replace BKqat__ := Aside0.mk (blk_below BKqat__.out hb); replace BKqx_ := Aside0.mk (blk_below BKqx_.out hb); replace HB := Aside0.mk (below_step HB.out hb); clear hg hbox hb; have hq22 : w4.cell? ⟨g3, 0, none⟩ = some (.slice A0 s.length c0) := (blk_cell BKg3.out 0).trans rfl; have hz22 := blk_frozen (BKg3.out) 0; have hq23 : w4.cell? ⟨g3, 1, none⟩ = some (.slice A1 b.length c1) := (blk_cell BKg3.out 1).trans rfl; have hz23 := blk_frozen (BKg3.out) 1; have hq24 : w4.cell? ⟨g3, 2, none⟩ = some (.slice A2 c.length c2) := (blk_cell BKg3.out 2).trans rfl; have hz24 := blk_frozen (BKg3.out) 2; have hq25 : w4.cell? ⟨g3, 3, none⟩ = some (.int .i64 h) := (blk_cell BKg3.out 3).trans rfl; have hz25 := blk_frozen (BKg3.out) 3; have hq26 : w4.cell? ⟨g3, 4, none⟩ = some (.int .i64 n) := (blk_cell BKg3.out 4).trans rfl; have hz26 := blk_frozen (BKg3.out) 4; have hq27 : w4.cell? ⟨g3, 5, none⟩ = some (.string o) := (blk_cell BKg3.out 5).trans rfl; have hz27 := blk_frozen (BKg3.out) 5; have hq28 : w4.cell? ⟨qat__, 0, none⟩ = some (.int .i64 at_) := (blk_cell BKqat__.out 0).trans rfl; have hz28 := blk_frozen (BKqat__.out) 0; have hq29 : w4.cell? ⟨qx_, 0, none⟩ = some (.int .i64 x) := (blk_cell BKqx_.out 0).trans rfl; have hz29 := blk_frozen (BKqx_.out) 0; have hq30 : w4.cell? ⟨g6, 0, none⟩ = some (.slice none 0 0) := (blk_cell BKg6.out 0).trans rfl; have hz30 := blk_frozen (BKg6.out) 0; have hq31 : w4.cell? ⟨g6, 1, none⟩ = some (.slice none 0 0) := (blk_cell BKg6.out 1).trans rfl; have hz31 := blk_frozen (BKg6.out) 1; have hq32 : w4.cell? ⟨g6, 2, none⟩ = some (.slice none 0 0) := (blk_cell BKg6.out 2).trans rfl; have hz32 := blk_frozen (BKg6.out) 2; have hq33 : w4.cell? ⟨g6, 3, none⟩ = some (.int .i64 0) := (blk_cell BKg6.out 3).trans rfl; have hz33 := blk_frozen (BKg6.out) 3; have hq34 : w4.cell? ⟨g6, 4, none⟩ = some (.int .i64 0) := (blk_cell BKg6.out 4).trans rfl; have hz34 := blk_frozen (BKg6.out) 4; have hq35 : w4.cell? ⟨g6, 5, none⟩ = some (.string (⟨#[]⟩ : ByteArray)) := (blk_cell BKg6.out 5).trans rfl; have hz35 := blk_frozen (BKg6.out) 5)
    | (go_at_call 65; (with_reducible refine (impl_dataCode.calls k A0 c0 s A1 c1 b A2 c2 c h n o x code w4 (Kd.C_below HR0.out HB.out) HC0.out (Kd.C_below HR1.out HB.out) HC1.out (Kd.C_below HR2.out HB.out) HC2.out HK.out).mono ?_); rintro e w5 ⟨rfl, hb⟩; replace BKg3 := Aside0.mk (blk_below BKg3.out hb); replace BKqat__ := Aside0.mk (blk_below BKqat__.out hb); replace BKqx_ := Aside0.mk (blk_below BKqx_.out hb); replace BKg6 := Aside0.mk (blk_below BKg6.out hb); replace HB := Aside0.mk (below_step HB.out hb); clear hb; have hq36 : w5.cell? ⟨g3, 0, none⟩ = some (.slice A0 s.length c0) := (blk_cell BKg3.out 0).trans rfl; have hz36 := blk_frozen (BKg3.out) 0; have hq37 : w5.cell? ⟨g3, 1, none⟩ = some (.slice A1 b.length c1) := (blk_cell BKg3.out 1).trans rfl; have hz37 := blk_frozen (BKg3.out) 1; have hq38 : w5.cell? ⟨g3, 2, none⟩ = some (.slice A2 c.length c2) := (blk_cell BKg3.out 2).trans rfl; have hz38 := blk_frozen (BKg3.out) 2; have hq39 : w5.cell? ⟨g3, 3, none⟩ = some (.int .i64 h) := (blk_cell BKg3.out 3).trans rfl; have hz39 := blk_frozen (BKg3.out) 3; have hq40 : w5.cell? ⟨g3, 4, none⟩ = some (.int .i64 n) := (blk_cell BKg3.out 4).trans rfl; have hz40 := blk_frozen (BKg3.out) 4; have hq41 : w5.cell? ⟨g3, 5, none⟩ = some (.string o) := (blk_cell BKg3.out 5).trans rfl; have hz41 := blk_frozen (BKg3.out) 5; have hq42 : w5.cell? ⟨qat__, 0, none⟩ = some (.int .i64 at_) := (blk_cell BKqat__.out 0).trans rfl; have hz42 := blk_frozen (BKqat__.out) 0; have hq43 : w5.cell? ⟨qx_, 0, none⟩ = some (.int .i64 x) := (blk_cell BKqx_.out 0).trans rfl; have hz43 := blk_frozen (BKqx_.out) 0; have hq44 : w5.cell? ⟨g6, 0, none⟩ = some (.slice none 0 0) := (blk_cell BKg6.out 0).trans rfl; have hz44 := blk_frozen (BKg6.out) 0; have hq45 : w5.cell? ⟨g6, 1, none⟩ = some (.slice none 0 0) := (blk_cell BKg6.out 1).trans rfl; have hz45 := blk_frozen (BKg6.out) 1; have hq46 : w5.cell? ⟨g6, 2, none⟩ = some (.slice none 0 0) := (blk_cell BKg6.out 2).trans rfl; have hz46 := blk_frozen (BKg6.out) 2; have hq47 : w5.cell? ⟨g6, 3, none⟩ = some (.int .i64 0) := (blk_cell BKg6.out 3).trans rfl; have hz47 := blk_frozen (BKg6.out) 3; have hq48 : w5.cell? ⟨g6, 4, none⟩ = some (.int .i64 0) := (blk_cell BKg6.out 4).trans rfl; have hz48 := blk_frozen (BKg6.out) 4; have hq49 : w5.cell? ⟨g6, 5, none⟩ = some (.string (⟨#[]⟩ : ByteArray)) := (blk_cell BKg6.out 5).trans rfl; have hz49 := blk_frozen (BKg6.out) 5))
  have d1 := blk_put BKg6.out 0 (.slice none 0 0) rfl
  have d2 := blk_put d1 1 (.slice none 0 0) rfl
  have d3 := blk_put d2 2 (.slice none 0 0) rfl
  have d4 := blk_put d3 3 (.int .i64 0) rfl
  have d5 := blk_put d4 4 (.int .i64 0) rfl
  have d6 := blk_put d5 5 (.string (⟨#[]⟩ : ByteArray)) rfl
  refine bodyPost_ret (results_ctt rfl _ _ g6 24 #[.slice none 0 0, .slice none 0 0, .slice none 0 0, .int .i64 0, .int .i64 0, .string (⟨#[]⟩ : ByteArray)] (0, 0) _ rfl d6 Try.underlying24 rfl (by kernel_rfl)) rfl ?_
  exact ⟨_, _, _, rfl, Kd.R_nil _ _ _ _ _, Kd.R_nil _ _ _ _ _, Kd.R_nil _ _ _ _ _, (below_set (below_set (below_set (below_set (below_set (below_set HB.out GEg6.out) GEg6.out) GEg6.out) GEg6.out) GEg6.out) GEg6.out)⟩
def impl_Store.f (k : Nat) (s b c : List Int) (h n : Int) (o : ByteArray) (a x : Int) : Option (List Int × List Int × List Int × Int × Int × ByteArray × Int × Int) := (impl_dataCode.f k s b c h n o x).bind fun t => if t = 0 then ((impl_Data_copied.f s b c h n o).bind fun _ => (impl_Data_cell.f s b c h n o a).bind fun q => if q.2.1 = true then (if 0 ≤ q.1 then (if q.1 < (c.length : Int) then some (s, b, c.set q.1.toNat x, h, n, o, 0, 0) else none) else none) else some (s, b, c, h, n, o, -9, 0)) else some ([], [], [], 0, 0, ⟨#[]⟩, 0, t)
theorem impl_Store.mono : ∀ a0 a1 a2 a3 a4 a5 a6 a7 k, LeO (impl_Store.f k a0 a1 a2 a3 a4 a5 a6 a7) (impl_Store.f (k + 1) a0 a1 a2 a3 a4 a5 a6 a7) := by
  intro a0 a1 a2 a3 a4 a5 a6 a7 k
  unfold impl_Store.f
  exact LeO.bind (impl_dataCode.mono _ _ _ _ _ _ _ _) (fun _ => LeO.refl _)
theorem impl_Store.calls (k : Nat) (A0_0 : Option Addr) (c0_0 : Nat) (l0_0 : List Int) (A0_1 : Option Addr) (c0_1 : Nat) (l0_1 : List Int) (A0_2 : Option Addr) (c0_2 : Nat) (l0_2 : List Int) (a0_3 : Int) (a0_4 : Int) (a0_5 : ByteArray) (a1 : Int) (a2 : Int) (r1 : List Int) (r2 : List Int) (r3 : List Int) (r4 : Int) (r5 : Int) (r6 : ByteArray) (r7 : Int) (r8 : Int) (w : World) (hr0_0 : Kd.C (Kd.int .i64) w A0_0 l0_0.length l0_0) (hc0_0 : l0_0.length ≤ c0_0) (hr0_1 : Kd.C (Kd.int .i64) w A0_1 l0_1.length l0_1) (hc0_1 : l0_1.length ≤ c0_1) (hr0_2 : Kd.C (Kd.int .i64) w A0_2 l0_2.length l0_2) (hc0_2 : l0_2.length ≤ c0_2) (h : impl_Store.f k l0_0 l0_1 l0_2 a0_3 a0_4 a0_5 a1 a2 = some (r1, r2, r3, r4, r5, r6, r7, r8)) :
    Calls Try.prog 36 #[.agg #[.slice A0_0 l0_0.length c0_0, .slice A0_1 l0_1.length c0_1, .slice A0_2 l0_2.length c0_2, .int .i64 a0_3, .int .i64 a0_4, .string a0_5], .int .i64 a1, .int .i64 a2] w fun e w' => ∃ v0_ v1_ v2_ : Value, e = .returned (.tuple #[.agg #[v0_, v1_, v2_, .int .i64 r4, .int .i64 r5, .string r6], .int .i64 r7, .int .i64 r8]) ∧ Kd.R (Kd.int .i64) 3 w' w.heap.size (fun k_ => some k_ ≠ (v1_ : Value).ownBlock ∧ some k_ ≠ (v2_ : Value).ownBlock) v0_ r1 ∧ Kd.R (Kd.int .i64) 3 w' w.heap.size (fun k_ => some k_ ≠ (v0_ : Value).ownBlock ∧ some k_ ≠ (v2_ : Value).ownBlock) v1_ r2 ∧ Kd.R (Kd.int .i64) 3 w' w.heap.size (fun k_ => some k_ ≠ (v0_ : Value).ownBlock ∧ some k_ ≠ (v1_ : Value).ownBlock) v2_ r3 ∧ Below w.heap.size w w' := by
  unfold impl_Store.f at h
  obtain ⟨t, A2, H⟩ := Option.bind_eq_some_iff.mp h
  by_cases c1 : t = 0
  · rw [if_pos c1] at H
    subst c1
    obtain ⟨d, A3, H⟩ := Option.bind_eq_some_iff.mp H
    obtain ⟨⟨q1, q2, q3, q4, q5⟩, A4, H⟩ := Option.bind_eq_some_iff.mp H
    simp only [] at H
    cases q2 with
    | true =>
      rw [if_pos rfl] at H
      by_cases c3 : 0 ≤ q1
      · rw [if_pos c3] at H
        by_cases c4 : q1 < (l0_2.length : Int)
        · rw [if_pos c4] at H
          simp only [Option.some.injEq, Prod.mk.injEq] at H
          obtain ⟨rfl, rfl, rfl, rfl, rfl, rfl, rfl, rfl⟩ := H
          exact Store_run k A0_0 c0_0 A0_1 c0_1 A0_2 c0_2 _ _ _ _ _ _ a1 a2 0 _ _ _ _ _ _ _ _ _ _ _ _ w hr0_0 hc0_0 hr0_1 hc0_1 hr0_2 hc0_2 A2 (copied_same A3)
            (fun qa qx W0 W g B0 d0 B1 d1 B2 d2 hh h1 h2 => (store1_calls W0 W g qa qx B0 d0 B1 d1 B2 d2 _ _ _ _ _ _ a1 a2 q1 true q3 q4 q5 A4 0 _ (.inr ⟨rfl, c3, c4, rfl, rfl⟩) hh h1 h2).mono (fun e W' hx => ⟨hx.1, by obtain ⟨_, p, q, hy⟩ := hx; exact ⟨_, _, _, _, p, q, hy⟩⟩)) (.inl ⟨rfl, rfl⟩)
        · rw [if_neg c4] at H
          cases H
      · rw [if_neg c3] at H
        cases H
    | false =>
      rw [if_neg (by decide)] at H
      simp only [Option.some.injEq, Prod.mk.injEq] at H
      obtain ⟨rfl, rfl, rfl, rfl, rfl, rfl, rfl, rfl⟩ := H
      exact Store_run k A0_0 c0_0 A0_1 c0_1 A0_2 c0_2 _ _ _ _ _ _ a1 a2 (-9) _ _ _ _ _ _ _ _ _ _ _ _ w hr0_0 hc0_0 hr0_1 hc0_1 hr0_2 hc0_2 A2 (copied_same A3)
        (fun qa qx W0 W g B0 d0 B1 d1 B2 d2 hh h1 h2 => (store1_calls W0 W g qa qx B0 d0 B1 d1 B2 d2 _ _ _ _ _ _ a1 a2 q1 false q3 q4 q5 A4 (-9) _ (.inl ⟨rfl, rfl, rfl⟩) hh h1 h2).mono (fun e W' hx => ⟨hx.1, by obtain ⟨_, p, q, hy⟩ := hx; exact ⟨_, _, _, _, p, q, hy⟩⟩)) (.inr ⟨by decide, rfl⟩)
  · rw [if_neg c1] at H
    simp only [Option.some.injEq, Prod.mk.injEq] at H
    obtain ⟨rfl, rfl, rfl, rfl, rfl, rfl, rfl, rfl⟩ := H
    exact Store_code k A0_0 c0_0 A0_1 c0_1 A0_2 c0_2 _ _ _ _ _ _ a1 a2 _ w hr0_0 hc0_0 hr0_1 hc0_1 hr0_2 hc0_2 A2 c1


end Go.Proofs.Ytcelnpmahnblpaa.PFnExactStore
