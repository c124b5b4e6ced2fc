-- laid by a program of this session out of the translation's own print: Lean checks it
import Derived.Test.YtdfnjihnjemghaaDoorPWordsx0
import Derived.Test.YtdfnjihnjemghaaDoorPWordsx1
import Derived.Test.YtdfnjihnjemghaaDoorPWordsx2
import Derived.Test.YtdfnjihnjemghaaDoorPWordsx5
namespace Go.Proofs.YtdfnjihnjemghaaDoor.PWords
open Go.RowKit Go.Proofs.YtdfnjihnjemghaaDoorW.PrintWords Go.Proofs.YtdfnjihnjemghaaDoorW.PrintLast Go.Proofs.YtdfnjihnjemghaaDoorW.PrintMore
attribute [local go_sem] max2_int min2_int max_two min_two max_three min_three max_four min_four   -- for this text's walks alone
set_option linter.unusedVariables false
set_option linter.unusedSimpArgs false

/-! ### spec_UpperOf: function 19 -/
def spec_UpperOf.f (k : Nat) (a0 : ByteArray) : Option (ByteArray) := if (a0.size : Int) > 65536 then (some (⟨#[]⟩ : ByteArray)) else ((spec_l02Upper.f k a0).bind fun t258 => (some t258))
theorem spec_UpperOf.mono : ∀ a0 k, LeO (spec_UpperOf.f k a0) (spec_UpperOf.f (k + 1) a0) := by
  intro a0 k
  unfold spec_UpperOf.f
  repeat' first
      | (with_reducible exact spec_l02Upper.mono _ _)
      | (with_reducible exact LeO.refl _)
      | (with_reducible exact LeO.none _)
      | (with_reducible refine LeO.ite ?_ ?_)
      | (with_reducible refine LeO.bind ?_ (fun _ => ?_))
      | exact spec_l02Upper.mono _ _
      | exact LeO.none _
      | refine LeO.ite ?_ ?_
      | refine LeO.bind ?_ (fun _ => ?_)
set_option maxHeartbeats 8000000 in
set_option maxRecDepth 100000 in
theorem spec_UpperOf.calls (k : Nat) (a0 : ByteArray) (r : ByteArray) (w : World) (h : spec_UpperOf.f k a0 = some r) :
    Calls Tryd.prog 19 #[.string a0] w fun e w' => e = .returned (.string r) ∧ Below w.heap.size w w' := by
  have HB := Aside0.mk (Below.refl w.heap.size w)
  have H : (if (a0.size : Int) > 65536 then (some (⟨#[]⟩ : ByteArray)) else ((spec_l02Upper.f k a0).bind fun t258 => (some t258))) = some r := h
  clear h
  by_cases c2 : (a0.size : Int) > 65536
  · rw [if_pos c2] at H
    have c2b0 : decide (65536 < (a0.size : Int)) = true := decide_eq_true c2
    have c2b1 : decide (65536 < a0.size) = true := decide_eq_true (by omega)
    clear c2
    obtain rfl := Option.some.inj H
    go_enter Tryd.func19, Tryd.ntmps19
    go_wp2
    go_ret
    exact ⟨by first | rfl | (simp [errW_none, errW_some] <;> rfl) | (simp [*, errW_none, errW_some] <;> rfl), by repeat (first | (with_reducible first | exact HB.out | apply below_alloc | apply pw_below_drewN | apply below_drew1) | exact HB.out)⟩
  · rw [if_neg c2] at H
    have c2b0 : decide (65536 < (a0.size : Int)) = false := decide_eq_false c2
    have c2b1 : decide (65536 < a0.size) = false := decide_eq_false (by omega)
    clear c2
    replace H := Option.bind_eq_some_iff.mp H
    obtain ⟨t258, A30, H⟩ := H
    replace H : (some t258) = some r := H
    have A3 := Aside0.mk A30
    clear A30
    obtain rfl := Option.some.inj H
    go_enter Tryd.func19, Tryd.ntmps19
    go_wp2_with (first | ((with_reducible refine gate_callee (f := 36) rfl ?_); refine goesL_ (some 7) rfl rfl Tryd.func36 (by kernel_rfl) rfl #[.string a0] rfl (by (try simp only [List.map_toArray, List.map_cons, List.map_nil]); first | done | rfl | (simp only [List.length_drop, List.length_take]; rfl)) ?_; (with_reducible refine (spec_l02Upper.calls k a0 t258 _ A3.out).mono ?_); rintro e w4 ⟨rfl, hb⟩; refine ⟨_, rfl, ?_⟩; replace HB := Aside0.mk (below_step (by repeat (first | (with_reducible first | exact HB.out | apply below_alloc | apply pw_below_drewN | apply below_drew1) | exact HB.out)) hb); (try clear hb); (try clear hb2); (try clear hk); (try clear hi)))
    go_ret
    exact ⟨by first | rfl | (simp [errW_none, errW_some] <;> rfl) | (simp [*, errW_none, errW_some] <;> rfl), by repeat (first | (with_reducible first | exact HB.out | apply below_alloc | apply pw_below_drewN | apply below_drew1) | exact HB.out)⟩

/-! ### impl_in: function 28 -/
def impl_in.f (a0 : Int) (a1 : Int) (a2 : Int) : Option (Bool) := if a1 ≤ a0 then (some (decide (a0 ≤ a2))) else (some false)
set_option maxHeartbeats 8000000 in
set_option maxRecDepth 100000 in
theorem impl_in.calls (a0 : Int) (a1 : Int) (a2 : Int) (r : Bool) (w : World) (h : impl_in.f a0 a1 a2 = some r) :
    Calls Tryd.prog 28 #[.int .i64 a0, .int .i64 a1, .int .i64 a2] w fun e w' => e = .returned (.bool r) ∧ Drawn0 w w' := by
  have H : (if a1 ≤ a0 then (some (decide (a0 ≤ a2))) else (some false)) = some r := h
  clear h
  by_cases c4 : a1 ≤ a0
  · rw [if_pos c4] at H
    have c4b0 : decide (a1 ≤ a0) = true := decide_eq_true c4
    clear c4
    obtain rfl := Option.some.inj H
    go_enter Tryd.func28, Tryd.ntmps28
    go_wp2
    go_ret
    exact ⟨by first | rfl | (simp; done) | (simp [*]; done), by repeat (first | exact Drawn0.refl _ | apply Drawn0.step)⟩
  · rw [if_neg c4] at H
    have c4b0 : decide (a1 ≤ a0) = false := decide_eq_false c4
    clear c4
    obtain rfl := Option.some.inj H
    go_enter Tryd.func28, Tryd.ntmps28
    go_wp2
    go_ret
    exact ⟨by first | rfl | (simp; done) | (simp [*]; done), by repeat (first | exact Drawn0.refl _ | apply Drawn0.step)⟩

/-! ### impl_WordOK: function 20 -/
def impl_WordOK.l0 : Nat → ByteArray → Int → Int → Option (Bool)
  | 0, _, _, _ => none
  | k + 1, x0, x5, x6 => if x6 < x5 then (if 0 ≤ x6 then (if x6 < (x0.size : Int) then (if (bt x0 x6) < 33 then (some false) else (if (bt x0 x6) > 126 then (some false) else (impl_WordOK.l0 k x0 x5 (wrap64 (x6 + 1))))) else (none)) else (none)) else ((impl_in.f (x0.size : Int) 1 12).bind fun t259 => (some t259))
def impl_WordOK.f (k : Nat) (a0 : ByteArray) : Option (Bool) := impl_WordOK.l0 k a0 (a0.size : Int) 0
theorem impl_WordOK.mono_l : ∀ k, (∀ y0 y1 y2, LeO (impl_WordOK.l0 k y0 y1 y2) (impl_WordOK.l0 (k + 1) y0 y1 y2))
  | 0 => fun _ _ _ r h => by simp [impl_WordOK.l0] at h
  | k + 1 => by
    have ih0 := impl_WordOK.mono_l k
    · intro y0 y1 y2
      unfold impl_WordOK.l0
      repeat' first
      | (with_reducible exact ih0 _ _ _)
      | (with_reducible exact LeO.refl _)
      | (with_reducible exact LeO.none _)
      | (with_reducible refine LeO.ite ?_ ?_)
      | (with_reducible refine LeO.bind ?_ (fun _ => ?_))
      | exact ih0 _ _ _
      | exact LeO.none _
      | refine LeO.ite ?_ ?_
      | refine LeO.bind ?_ (fun _ => ?_)
theorem impl_WordOK.mono : ∀ a0 k, LeO (impl_WordOK.f k a0) (impl_WordOK.f (k + 1) a0) := by
  intro a0 k
  have ih0 := impl_WordOK.mono_l k
  unfold impl_WordOK.f
  repeat' first
      | (with_reducible exact ih0 _ _ _)
      | (with_reducible exact LeO.refl _)
      | (with_reducible exact LeO.none _)
      | (with_reducible refine LeO.ite ?_ ?_)
      | (with_reducible refine LeO.bind ?_ (fun _ => ?_))
      | exact ih0 _ _ _
      | exact LeO.none _
      | refine LeO.ite ?_ ?_
      | refine LeO.bind ?_ (fun _ => ?_)
set_option maxHeartbeats 8000000 in
set_option maxRecDepth 100000 in
theorem impl_WordOK.calls (k : Nat) (a0 : ByteArray) (r : Bool) (w : World) (h : impl_WordOK.f k a0 = some r) :
    Calls Tryd.prog 20 #[.string a0] w fun e w' => e = .returned (.bool r) ∧ Drawn0 w w' := by
  have H : (impl_WordOK.l0 k a0 (a0.size : Int) 0) = some r := h
  clear h
  have H' := Aside0.mk H
  clear H
  go_enter Tryd.func20, Tryd.ntmps20
  go_wp2
  go_loopg [6] k (fun kq v6 w' => ∃ (x6_1 : Int), v6 = .int .i64 x6_1 ∧ Aside0 (impl_WordOK.l0 kq a0 (a0.size : Int) x6_1 = some r) ∧ Aside0 (kq ≤ k) ∧ Drawn0 w w')
  case atStart => exact ⟨(0), (by first | rfl | (simp; done) | (simp [*]; done)), H', ⟨Nat.le_refl _⟩, by repeat (first | exact Drawn0.refl _ | apply Drawn0.step)⟩
  case round =>
    clear H'
    obtain ⟨x6_1, rfl, HA, HK1, ⟨m1, rfl⟩⟩ := hrel
    cases gk with
    | zero => exact absurd HA.out (by simp [impl_WordOK.l0])
    | succ k1 =>
      have H := HA.out
      clear HA
      simp only [impl_WordOK.l0] at H
      by_cases c2 : x6_1 < (a0.size : Int)
      · rw [if_pos c2] at H
        have c2b0 : decide (x6_1 < (a0.size : Int)) = true := decide_eq_true c2
        clear c2
        by_cases c3 : 0 ≤ x6_1
        · rw [if_pos c3] at H
          have c3b0 : decide (0 ≤ x6_1) = true := decide_eq_true c3
          clear c3
          by_cases c4 : x6_1 < (a0.size : Int)
          · rw [if_pos c4] at H
            have c4b0 : decide (x6_1 < (a0.size : Int)) = true := decide_eq_true c4
            clear c4
            by_cases c6 : (bt a0 x6_1) < 33
            · rw [if_pos c6] at H
              have c6b0 : decide ((bt a0 x6_1) < 33) = true := decide_eq_true c6
              clear c6
              obtain rfl := Option.some.inj H
              have p5 : 0 ≤ (x6_1 : Int) := of_decide_eq_true (by first | (with_reducible assumption) | assumption)
              have q5 : x6_1 < (a0.size : Int) := of_decide_eq_true (by first | (with_reducible assumption) | assumption)
              have hx5 := bt_at a0 x6_1
              replace p5 := eq_true p5
              replace q5 := eq_true q5
              go_wp2
              go_ret
              exact ⟨by first | rfl | (simp; done) | (simp [*]; done), by repeat (first | exact Drawn0.refl _ | apply Drawn0.step)⟩
            · rw [if_neg c6] at H
              have c6b0 : decide ((bt a0 x6_1) < 33) = false := decide_eq_false c6
              clear c6
              by_cases c8 : (bt a0 x6_1) > 126
              · rw [if_pos c8] at H
                have c8b0 : decide (126 < (bt a0 x6_1)) = true := decide_eq_true c8
                clear c8
                obtain rfl := Option.some.inj H
                have p5 : 0 ≤ (x6_1 : Int) := of_decide_eq_true (by first | (with_reducible assumption) | assumption)
                have q5 : x6_1 < (a0.size : Int) := of_decide_eq_true (by first | (with_reducible assumption) | assumption)
                have hx5 := bt_at a0 x6_1
                replace p5 := eq_true p5
                replace q5 := eq_true q5
                have p7 : 0 ≤ (x6_1 : Int) := of_decide_eq_true (by first | (with_reducible assumption) | assumption)
                have q7 : x6_1 < (a0.size : Int) := of_decide_eq_true (by first | (with_reducible assumption) | assumption)
                have hx7 := bt_at a0 x6_1
                replace p7 := eq_true p7
                replace q7 := eq_true q7
                go_wp2
                go_ret
                exact ⟨by first | rfl | (simp; done) | (simp [*]; done), by repeat (first | exact Drawn0.refl _ | apply Drawn0.step)⟩
              · rw [if_neg c8] at H
                have c8b0 : decide (126 < (bt a0 x6_1)) = false := decide_eq_false c8
                clear c8
                have H' := Aside0.mk H
                clear H
                have p5 : 0 ≤ (x6_1 : Int) := of_decide_eq_true (by first | (with_reducible assumption) | assumption)
                have q5 : x6_1 < (a0.size : Int) := of_decide_eq_true (by first | (with_reducible assumption) | assumption)
                have hx5 := bt_at a0 x6_1
                replace p5 := eq_true p5
                replace q5 := eq_true q5
                have p7 : 0 ≤ (x6_1 : Int) := of_decide_eq_true (by first | (with_reducible assumption) | assumption)
                have q7 : x6_1 < (a0.size : Int) := of_decide_eq_true (by first | (with_reducible assumption) | assumption)
                have hx7 := bt_at a0 x6_1
                replace p7 := eq_true p7
                replace q7 := eq_true q7
                go_wp2
                go_roundg k1
                case measure => have := HK1.out; omega
                case rel => exact ⟨(wrap64 (x6_1 + 1)), (by first | rfl | (simp; done) | (simp [*]; done)), H', ⟨by have := HK1.out; omega⟩, by repeat (first | exact Drawn0.refl _ | apply Drawn0.step)⟩
          · rw [if_neg c4] at H
            exact absurd H (by simp)
        · rw [if_neg c3] at H
          exact absurd H (by simp)
      · rw [if_neg c2] at H
        have c2b0 : decide (x6_1 < (a0.size : Int)) = false := decide_eq_false c2
        clear c2
        replace H := Option.bind_eq_some_iff.mp H
        obtain ⟨t259, A90, H⟩ := H
        replace H : (some t259) = some r := H
        have A9 := Aside0.mk A90
        clear A90
        obtain rfl := Option.some.inj H
        go_wp2_with (first | ((with_reducible refine gate_callee (f := 28) rfl ?_); refine goesL_ (some 22) rfl rfl Tryd.func28 (by kernel_rfl) rfl #[.int .i64 (a0.size : Int), .int .i64 1, .int .i64 12] rfl (by (try simp only [List.map_toArray, List.map_cons, List.map_nil]); first | done | rfl | (simp only [List.length_drop, List.length_take]; rfl)) ?_; (with_reducible refine (impl_in.calls (a0.size : Int) 1 12 t259 _ A9.out).mono ?_); rintro e w' ⟨rfl, ⟨nd, rfl⟩⟩; refine ⟨_, rfl, ?_⟩))
        go_ret
        exact ⟨by first | rfl | (simp; done) | (simp [*]; done), by repeat (first | exact Drawn0.refl _ | apply Drawn0.step)⟩

/-! ### impl_SameWord: function 21 -/
def impl_SameWord.f (k : Nat) (a0 : ByteArray) (a1 : ByteArray) : Option (Bool) := (impl_WordOK.f k a0).bind fun t260 => (if t260 = true then ((impl_WordOK.f k a1).bind fun t261 => (if t261 = true then ((impl_UpperOf.f a0).bind fun t262 => ((impl_UpperOf.f a1).bind fun t263 => (some (t262.toList == t263.toList)))) else (some false))) else (some false))
theorem impl_SameWord.mono : ∀ a0 a1 k, LeO (impl_SameWord.f k a0 a1) (impl_SameWord.f (k + 1) a0 a1) := by
  intro a0 a1 k
  unfold impl_SameWord.f
  repeat' first
      | (with_reducible exact impl_WordOK.mono _ _)
      | (with_reducible exact LeO.refl _)
      | (with_reducible exact LeO.none _)
      | (with_reducible refine LeO.ite ?_ ?_)
      | (with_reducible refine LeO.bind ?_ (fun _ => ?_))
      | exact impl_WordOK.mono _ _
      | exact LeO.none _
      | refine LeO.ite ?_ ?_
      | refine LeO.bind ?_ (fun _ => ?_)
set_option maxHeartbeats 8000000 in
set_option maxRecDepth 100000 in
theorem impl_SameWord.calls (k : Nat) (a0 : ByteArray) (a1 : ByteArray) (r : Bool) (w : World) (h : impl_SameWord.f k a0 a1 = some r) :
    Calls Tryd.prog 21 #[.string a0, .string a1] w fun e w' => e = .returned (.bool r) ∧ Below w.heap.size w w' := by
  have HB := Aside0.mk (Below.refl w.heap.size w)
  have H : ((impl_WordOK.f k a0).bind fun t260 => (if t260 = true then ((impl_WordOK.f k a1).bind fun t261 => (if t261 = true then ((impl_UpperOf.f a0).bind fun t262 => ((impl_UpperOf.f a1).bind fun t263 => (some (t262.toList == t263.toList)))) else (some false))) else (some false))) = some r := h
  clear h
  replace H := Option.bind_eq_some_iff.mp H
  obtain ⟨t260, A30, H⟩ := H
  replace H : (if t260 = true then ((impl_WordOK.f k a1).bind fun t261 => (if t261 = true then ((impl_UpperOf.f a0).bind fun t262 => ((impl_UpperOf.f a1).bind fun t263 => (some (t262.toList == t263.toList)))) else (some false))) else (some false)) = some r := H
  have A3 := Aside0.mk A30
  clear A30
  by_cases c4 : t260 = true
  · subst c4
    have H1 : ((impl_WordOK.f k a1).bind fun t261 => (if t261 = true then ((impl_UpperOf.f a0).bind fun t262 => ((impl_UpperOf.f a1).bind fun t263 => (some (t262.toList == t263.toList)))) else (some false))) = some r := by rw [if_pos rfl] at H; first | done | exact H
    clear H
    have H := H1
    clear H1
    replace H := Option.bind_eq_some_iff.mp H
    obtain ⟨t261, A50, H⟩ := H
    replace H : (if t261 = true then ((impl_UpperOf.f a0).bind fun t262 => ((impl_UpperOf.f a1).bind fun t263 => (some (t262.toList == t263.toList)))) else (some false)) = some r := H
    have A5 := Aside0.mk A50
    clear A50
    by_cases c6 : t261 = true
    · subst c6
      have H1 : ((impl_UpperOf.f a0).bind fun t262 => ((impl_UpperOf.f a1).bind fun t263 => (some (t262.toList == t263.toList)))) = some r := by rw [if_pos rfl] at H; first | done | exact H
      clear H
      have H := H1
      clear H1
      replace H := Option.bind_eq_some_iff.mp H
      obtain ⟨t262, A70, H⟩ := H
      replace H : ((impl_UpperOf.f a1).bind fun t263 => (some (t262.toList == t263.toList))) = some r := H
      have A7 := Aside0.mk A70
      clear A70
      replace H := Option.bind_eq_some_iff.mp H
      obtain ⟨t263, A80, H⟩ := H
      replace H : (some (t262.toList == t263.toList)) = some r := H
      have A8 := Aside0.mk A80
      clear A80
      obtain rfl := Option.some.inj H
      go_enter Tryd.func21, Tryd.ntmps21
      go_wp2_with (first | ((with_reducible refine gate_callee (f := 20) rfl ?_); refine goesL_ (some 6) rfl rfl Tryd.func20 (by kernel_rfl) rfl #[.string a0] rfl (by (try simp only [List.map_toArray, List.map_cons, List.map_nil]); first | done | rfl | (simp only [List.length_drop, List.length_take]; rfl)) ?_; (with_reducible refine (impl_WordOK.calls k a0 true _ A3.out).mono ?_); rintro e w' ⟨rfl, ⟨nd, rfl⟩⟩; refine ⟨_, rfl, ?_⟩) | (go_at_call 20; (with_reducible refine (impl_WordOK.calls k a1 true _ A5.out).mono ?_); rintro e w' ⟨rfl, ⟨nd, rfl⟩⟩) | (go_at_call 18; (with_reducible refine (impl_UpperOf.calls a0 t262 _ A7.out).mono ?_); rintro e w9 ⟨rfl, hb⟩; replace HB := Aside0.mk (below_step (by repeat (first | (with_reducible first | exact HB.out | apply below_alloc | apply pw_below_drewN | apply below_drew1) | exact HB.out)) hb); (try clear hb); (try clear hb2); (try clear hk); (try clear hi)) | (go_at_call 18; (with_reducible refine (impl_UpperOf.calls a1 t263 _ A8.out).mono ?_); rintro e w10 ⟨rfl, hb⟩; replace HB := Aside0.mk (below_step (by repeat (first | (with_reducible first | exact HB.out | apply below_alloc | apply pw_below_drewN | apply below_drew1) | exact HB.out)) hb); (try clear hb); (try clear hb2); (try clear hk); (try clear hi)))
      go_ret
      exact ⟨by first | rfl | (simp [errW_none, errW_some] <;> rfl) | (simp [*, errW_none, errW_some] <;> rfl), by repeat (first | (with_reducible first | exact HB.out | apply below_alloc | apply pw_below_drewN | apply below_drew1) | exact HB.out)⟩
    · replace c6 := Bool.eq_false_iff.mpr c6
      subst c6
      have H1 : (some false) = some r := by rw [if_neg (show ¬ (false = true) by decide)] at H; first | done | exact H
      clear H
      have H := H1
      clear H1
      obtain rfl := Option.some.inj H
      go_enter Tryd.func21, Tryd.ntmps21
      go_wp2_with (first | ((with_reducible refine gate_callee (f := 20) rfl ?_); refine goesL_ (some 6) rfl rfl Tryd.func20 (by kernel_rfl) rfl #[.string a0] rfl (by (try simp only [List.map_toArray, List.map_cons, List.map_nil]); first | done | rfl | (simp only [List.length_drop, List.length_take]; rfl)) ?_; (with_reducible refine (impl_WordOK.calls k a0 true _ A3.out).mono ?_); rintro e w' ⟨rfl, ⟨nd, rfl⟩⟩; refine ⟨_, rfl, ?_⟩) | (go_at_call 20; (with_reducible refine (impl_WordOK.calls k a1 false _ A5.out).mono ?_); rintro e w' ⟨rfl, ⟨nd, rfl⟩⟩))
      go_ret
      exact ⟨by first | rfl | (simp [errW_none, errW_some] <;> rfl) | (simp [*, errW_none, errW_some] <;> rfl), by repeat (first | (with_reducible first | exact HB.out | apply below_alloc | apply pw_below_drewN | apply below_drew1) | exact HB.out)⟩
  · replace c4 := Bool.eq_false_iff.mpr c4
    subst c4
    have H1 : (some false) = some r := by rw [if_neg (show ¬ (false = true) by decide)] at H; first | done | exact H
    clear H
    have H := H1
    clear H1
    obtain rfl := Option.some.inj H
    go_enter Tryd.func21, Tryd.ntmps21
    go_wp2_with (first | ((with_reducible refine gate_callee (f := 20) rfl ?_); refine goesL_ (some 6) rfl rfl Tryd.func20 (by kernel_rfl) rfl #[.string a0] rfl (by (try simp only [List.map_toArray, List.map_cons, List.map_nil]); first | done | rfl | (simp only [List.length_drop, List.length_take]; rfl)) ?_; (with_reducible refine (impl_WordOK.calls k a0 false _ A3.out).mono ?_); rintro e w' ⟨rfl, ⟨nd, rfl⟩⟩; refine ⟨_, rfl, ?_⟩))
    go_ret
    exact ⟨by first | rfl | (simp [errW_none, errW_some] <;> rfl) | (simp [*, errW_none, errW_some] <;> rfl), by repeat (first | (with_reducible first | exact HB.out | apply below_alloc | apply pw_below_drewN | apply below_drew1) | exact HB.out)⟩

/-! ### laws_FnWords: function 5 -/
def laws_FnWords.f (k : Nat) (l0 : List Int) (l1 : List Int) : Option (Bool) := if (l0.length : Int) > 1048576 then (some true) else (if (l1.length : Int) > 1048576 then (some true) else ((spec_LineDrawn.f k l0).bind fun t264 => ((impl_LineWords.f k t264).bind fun bt265 => ((spec_LineWords.f k t264).bind fun bt269 => (if bt265.2 = bt269.2 then ((laws_sameTexts.f k bt265.1 bt269.1).bind fun t273 => (if t273 = true then ((spec_PlainWord.f l1).bind fun t274 => (if 13 + t274.size ≤ 9223372036854775807 then (if ((⟨#[40, 32, 97, 32, 114, 101, 109, 97, 114, 107, 32, 41, 32]⟩ : ByteArray) ++ t274).size + 3 ≤ 9223372036854775807 then (if (((⟨#[40, 32, 97, 32, 114, 101, 109, 97, 114, 107, 32, 41, 32]⟩ : ByteArray) ++ t274) ++ (⟨#[32, 92, 32]⟩ : ByteArray)).size + t274.size ≤ 9223372036854775807 then (if ((((⟨#[40, 32, 97, 32, 114, 101, 109, 97, 114, 107, 32, 41, 32]⟩ : ByteArray) ++ t274) ++ (⟨#[32, 92, 32]⟩ : ByteArray)) ++ t274).size + 1 ≤ 9223372036854775807 then (if (((((⟨#[40, 32, 97, 32, 114, 101, 109, 97, 114, 107, 32, 41, 32]⟩ : ByteArray) ++ t274) ++ (⟨#[32, 92, 32]⟩ : ByteArray)) ++ t274) ++ (⟨#[32]⟩ : ByteArray)).size + t274.size ≤ 9223372036854775807 then ((impl_LineWords.f k ((((((⟨#[40, 32, 97, 32, 114, 101, 109, 97, 114, 107, 32, 41, 32]⟩ : ByteArray) ++ t274) ++ (⟨#[32, 92, 32]⟩ : ByteArray)) ++ t274) ++ (⟨#[32]⟩ : ByteArray)) ++ t274)).bind fun bt275 => ((impl_UpperOf.f t274).bind fun t279 => (if bt275.2 = 0 then (if (bt275.1.length : Int) = 1 then (if 0 < (bt275.1.length : Int) then (if (rdOf ByteArray.empty bt275.1 0).toList = t274.toList then ((spec_UpperOf.f k t274).bind fun t281 => (if t279.toList = t281.toList then ((impl_WordOK.f k t274).bind fun t282 => (if t282 = true then ((impl_SameWord.f k t274 t279).bind fun t283 => (if t283 = true then (if t274.size + 1 ≤ 9223372036854775807 then ((impl_SameWord.f k t274 (t274 ++ (⟨#[120]⟩ : ByteArray))).bind fun t284 => (some (!t284))) else (none)) else (some false))) else (some false))) else (some false))) else (some false)) else (none)) else (some false)) else (some false)))) else (none)) else (none)) else (none)) else (none)) else (none))) else (some false))) else (some false))))))
theorem laws_FnWords.mono : ∀ a0 a1 k, LeO (laws_FnWords.f k a0 a1) (laws_FnWords.f (k + 1) a0 a1) := by
  intro a0 a1 k
  unfold laws_FnWords.f
  repeat' first
      | (with_reducible exact impl_LineWords.mono _ _)
      | (with_reducible exact impl_SameWord.mono _ _ _)
      | (with_reducible exact impl_WordOK.mono _ _)
      | (with_reducible exact laws_sameTexts.mono _ _ _)
      | (with_reducible exact spec_LineDrawn.mono _ _)
      | (with_reducible exact spec_LineWords.mono _ _)
      | (with_reducible exact spec_UpperOf.mono _ _)
      | (with_reducible exact LeO.refl _)
      | (with_reducible exact LeO.none _)
      | (with_reducible refine LeO.ite ?_ ?_)
      | (with_reducible refine LeO.bind ?_ (fun _ => ?_))
      | exact impl_LineWords.mono _ _
      | exact impl_SameWord.mono _ _ _
      | exact impl_WordOK.mono _ _
      | exact laws_sameTexts.mono _ _ _
      | exact spec_LineDrawn.mono _ _
      | exact spec_LineWords.mono _ _
      | exact spec_UpperOf.mono _ _
      | exact LeO.none _
      | refine LeO.ite ?_ ?_
      | refine LeO.bind ?_ (fun _ => ?_)
set_option maxHeartbeats 8000000 in
set_option maxRecDepth 100000 in
theorem laws_FnWords.calls (k : Nat) (A0 : Option Addr) (c0 : Nat) (l0 : List Int) (A1 : Option Addr) (c1 : Nat) (l1 : List Int) (w : World) (hr0 : Kd.C (Kd.int .u8) w A0 l0.length l0) (hc0 : l0.length ≤ c0) (hr1 : Kd.C (Kd.int .u8) w A1 l1.length l1) (hc1 : l1.length ≤ c1) (h : laws_FnWords.f k l0 l1 = some true) (hG : GlobOK w := by first | exact HGL.out | exact GlobOK.below HGL.out HB.out | exact GlobOK.below HGL.out (by repeat (first | (with_reducible first | exact HB.out | apply below_alloc | apply pw_below_drewN | apply below_drew1) | exact HB.out)) | (repeat (first | exact HGL.out | apply GlobOK.drewN | apply GlobOK.drew | apply GlobOK.alloc))) :
    Calls Tryd.prog 5 #[.slice A0 l0.length c0, .slice A1 l1.length c1] w fun e w' => e = .returned (.bool true) ∧ Below w.heap.size w w' := by
  have HGL := Aside0.mk hG
  clear hG
  have HR0 := Aside0.mk hr0
  have HC0 := Aside0.mk hc0
  clear hr0 hc0
  have HR1 := Aside0.mk hr1
  have HC1 := Aside0.mk hc1
  clear hr1 hc1
  have HB := Aside0.mk (Below.refl w.heap.size w)
  have H : (if (l0.length : Int) > 1048576 then (some true) else (if (l1.length : Int) > 1048576 then (some true) else ((spec_LineDrawn.f k l0).bind fun t264 => ((impl_LineWords.f k t264).bind fun bt265 => ((spec_LineWords.f k t264).bind fun bt269 => (if bt265.2 = bt269.2 then ((laws_sameTexts.f k bt265.1 bt269.1).bind fun t273 => (if t273 = true then ((spec_PlainWord.f l1).bind fun t274 => (if 13 + t274.size ≤ 9223372036854775807 then (if ((⟨#[40, 32, 97, 32, 114, 101, 109, 97, 114, 107, 32, 41, 32]⟩ : ByteArray) ++ t274).size + 3 ≤ 9223372036854775807 then (if (((⟨#[40, 32, 97, 32, 114, 101, 109, 97, 114, 107, 32, 41, 32]⟩ : ByteArray) ++ t274) ++ (⟨#[32, 92, 32]⟩ : ByteArray)).size + t274.size ≤ 9223372036854775807 then (if ((((⟨#[40, 32, 97, 32, 114, 101, 109, 97, 114, 107, 32, 41, 32]⟩ : ByteArray) ++ t274) ++ (⟨#[32, 92, 32]⟩ : ByteArray)) ++ t274).size + 1 ≤ 9223372036854775807 then (if (((((⟨#[40, 32, 97, 32, 114, 101, 109, 97, 114, 107, 32, 41, 32]⟩ : ByteArray) ++ t274) ++ (⟨#[32, 92, 32]⟩ : ByteArray)) ++ t274) ++ (⟨#[32]⟩ : ByteArray)).size + t274.size ≤ 9223372036854775807 then ((impl_LineWords.f k ((((((⟨#[40, 32, 97, 32, 114, 101, 109, 97, 114, 107, 32, 41, 32]⟩ : ByteArray) ++ t274) ++ (⟨#[32, 92, 32]⟩ : ByteArray)) ++ t274) ++ (⟨#[32]⟩ : ByteArray)) ++ t274)).bind fun bt275 => ((impl_UpperOf.f t274).bind fun t279 => (if bt275.2 = 0 then (if (bt275.1.length : Int) = 1 then (if 0 < (bt275.1.length : Int) then (if (rdOf ByteArray.empty bt275.1 0).toList = t274.toList then ((spec_UpperOf.f k t274).bind fun t281 => (if t279.toList = t281.toList then ((impl_WordOK.f k t274).bind fun t282 => (if t282 = true then ((impl_SameWord.f k t274 t279).bind fun t283 => (if t283 = true then (if t274.size + 1 ≤ 9223372036854775807 then ((impl_SameWord.f k t274 (t274 ++ (⟨#[120]⟩ : ByteArray))).bind fun t284 => (some (!t284))) else (none)) else (some false))) else (some false))) else (some false))) else (some false)) else (none)) else (some false)) else (some false)))) else (none)) else (none)) else (none)) else (none)) else (none))) else (some false))) else (some false))))))) = some true := h
  clear h
  by_cases c3 : (l0.length : Int) > 1048576
  · rw [if_pos c3] at H
    have c3b0 : decide (1048576 < (l0.length : Int)) = true := decide_eq_true c3
    have c3b1 : decide (1048576 < l0.length) = true := decide_eq_true (by omega)
    clear c3
    clear H
    go_enter Tryd.func5, Tryd.ntmps5
    go_wp2
    all_goals go_ret
    exact ⟨by first | rfl | (simp [errW_none, errW_some] <;> rfl) | (simp [*, errW_none, errW_some] <;> rfl), by repeat (first | (with_reducible first | exact HB.out | apply below_alloc | apply pw_below_drewN | apply below_drew1) | exact HB.out)⟩
    all_goals (exfalso; simp only [beq_iff_eq, decide_eq_decide, decide_eq_true_eq, decide_eq_false_iff_not] at *; omega)
  · rw [if_neg c3] at H
    have c3b0 : decide (1048576 < (l0.length : Int)) = false := decide_eq_false c3
    have c3b1 : decide (1048576 < l0.length) = false := decide_eq_false (by omega)
    clear c3
    by_cases c4 : (l1.length : Int) > 1048576
    · rw [if_pos c4] at H
      have c4b0 : decide (1048576 < (l1.length : Int)) = true := decide_eq_true c4
      have c4b1 : decide (1048576 < l1.length) = true := decide_eq_true (by omega)
      clear c4
      clear H
      go_enter Tryd.func5, Tryd.ntmps5
      go_wp2
      all_goals go_ret
      exact ⟨by first | rfl | (simp [errW_none, errW_some] <;> rfl) | (simp [*, errW_none, errW_some] <;> rfl), by repeat (first | (with_reducible first | exact HB.out | apply below_alloc | apply pw_below_drewN | apply below_drew1) | exact HB.out)⟩
      all_goals (exfalso; simp only [beq_iff_eq, decide_eq_decide, decide_eq_true_eq, decide_eq_false_iff_not] at *; omega)
    · rw [if_neg c4] at H
      have c4b0 : decide (1048576 < (l1.length : Int)) = false := decide_eq_false c4
      have c4b1 : decide (1048576 < l1.length) = false := decide_eq_false (by omega)
      clear c4
      replace H := Option.bind_eq_some_iff.mp H
      obtain ⟨t264, A50, H⟩ := H
      replace H : ((impl_LineWords.f k t264).bind fun bt265 => ((spec_LineWords.f k t264).bind fun bt269 => (if bt265.2 = bt269.2 then ((laws_sameTexts.f k bt265.1 bt269.1).bind fun t273 => (if t273 = true then ((spec_PlainWord.f l1).bind fun t274 => (if 13 + t274.size ≤ 9223372036854775807 then (if ((⟨#[40, 32, 97, 32, 114, 101, 109, 97, 114, 107, 32, 41, 32]⟩ : ByteArray) ++ t274).size + 3 ≤ 9223372036854775807 then (if (((⟨#[40, 32, 97, 32, 114, 101, 109, 97, 114, 107, 32, 41, 32]⟩ : ByteArray) ++ t274) ++ (⟨#[32, 92, 32]⟩ : ByteArray)).size + t274.size ≤ 9223372036854775807 then (if ((((⟨#[40, 32, 97, 32, 114, 101, 109, 97, 114, 107, 32, 41, 32]⟩ : ByteArray) ++ t274) ++ (⟨#[32, 92, 32]⟩ : ByteArray)) ++ t274).size + 1 ≤ 9223372036854775807 then (if (((((⟨#[40, 32, 97, 32, 114, 101, 109, 97, 114, 107, 32, 41, 32]⟩ : ByteArray) ++ t274) ++ (⟨#[32, 92, 32]⟩ : ByteArray)) ++ t274) ++ (⟨#[32]⟩ : ByteArray)).size + t274.size ≤ 9223372036854775807 then ((impl_LineWords.f k ((((((⟨#[40, 32, 97, 32, 114, 101, 109, 97, 114, 107, 32, 41, 32]⟩ : ByteArray) ++ t274) ++ (⟨#[32, 92, 32]⟩ : ByteArray)) ++ t274) ++ (⟨#[32]⟩ : ByteArray)) ++ t274)).bind fun bt275 => ((impl_UpperOf.f t274).bind fun t279 => (if bt275.2 = 0 then (if (bt275.1.length : Int) = 1 then (if 0 < (bt275.1.length : Int) then (if (rdOf ByteArray.empty bt275.1 0).toList = t274.toList then ((spec_UpperOf.f k t274).bind fun t281 => (if t279.toList = t281.toList then ((impl_WordOK.f k t274).bind fun t282 => (if t282 = true then ((impl_SameWord.f k t274 t279).bind fun t283 => (if t283 = true then (if t274.size + 1 ≤ 9223372036854775807 then ((impl_SameWord.f k t274 (t274 ++ (⟨#[120]⟩ : ByteArray))).bind fun t284 => (some (!t284))) else (none)) else (some false))) else (some false))) else (some false))) else (some false)) else (none)) else (some false)) else (some false)))) else (none)) else (none)) else (none)) else (none)) else (none))) else (some false))) else (some false)))) = some true := H
      have A5 := Aside0.mk A50
      clear A50
      replace H := Option.bind_eq_some_iff.mp H
      obtain ⟨⟨t265, t266⟩, A60, H⟩ := H
      replace H : ((spec_LineWords.f k t264).bind fun bt269 => (if t266 = bt269.2 then ((laws_sameTexts.f k t265 bt269.1).bind fun t273 => (if t273 = true then ((spec_PlainWord.f l1).bind fun t274 => (if 13 + t274.size ≤ 9223372036854775807 then (if ((⟨#[40, 32, 97, 32, 114, 101, 109, 97, 114, 107, 32, 41, 32]⟩ : ByteArray) ++ t274).size + 3 ≤ 9223372036854775807 then (if (((⟨#[40, 32, 97, 32, 114, 101, 109, 97, 114, 107, 32, 41, 32]⟩ : ByteArray) ++ t274) ++ (⟨#[32, 92, 32]⟩ : ByteArray)).size + t274.size ≤ 9223372036854775807 then (if ((((⟨#[40, 32, 97, 32, 114, 101, 109, 97, 114, 107, 32, 41, 32]⟩ : ByteArray) ++ t274) ++ (⟨#[32, 92, 32]⟩ : ByteArray)) ++ t274).size + 1 ≤ 9223372036854775807 then (if (((((⟨#[40, 32, 97, 32, 114, 101, 109, 97, 114, 107, 32, 41, 32]⟩ : ByteArray) ++ t274) ++ (⟨#[32, 92, 32]⟩ : ByteArray)) ++ t274) ++ (⟨#[32]⟩ : ByteArray)).size + t274.size ≤ 9223372036854775807 then ((impl_LineWords.f k ((((((⟨#[40, 32, 97, 32, 114, 101, 109, 97, 114, 107, 32, 41, 32]⟩ : ByteArray) ++ t274) ++ (⟨#[32, 92, 32]⟩ : ByteArray)) ++ t274) ++ (⟨#[32]⟩ : ByteArray)) ++ t274)).bind fun bt275 => ((impl_UpperOf.f t274).bind fun t279 => (if bt275.2 = 0 then (if (bt275.1.length : Int) = 1 then (if 0 < (bt275.1.length : Int) then (if (rdOf ByteArray.empty bt275.1 0).toList = t274.toList then ((spec_UpperOf.f k t274).bind fun t281 => (if t279.toList = t281.toList then ((impl_WordOK.f k t274).bind fun t282 => (if t282 = true then ((impl_SameWord.f k t274 t279).bind fun t283 => (if t283 = true then (if t274.size + 1 ≤ 9223372036854775807 then ((impl_SameWord.f k t274 (t274 ++ (⟨#[120]⟩ : ByteArray))).bind fun t284 => (some (!t284))) else (none)) else (some false))) else (some false))) else (some false))) else (some false)) else (none)) else (some false)) else (some false)))) else (none)) else (none)) else (none)) else (none)) else (none))) else (some false))) else (some false))) = some true := H
      have A6 := Aside0.mk A60
      clear A60
      replace H := Option.bind_eq_some_iff.mp H
      obtain ⟨⟨t269, t270⟩, A70, H⟩ := H
      replace H : (if t266 = t270 then ((laws_sameTexts.f k t265 t269).bind fun t273 => (if t273 = true then ((spec_PlainWord.f l1).bind fun t274 => (if 13 + t274.size ≤ 9223372036854775807 then (if ((⟨#[40, 32, 97, 32, 114, 101, 109, 97, 114, 107, 32, 41, 32]⟩ : ByteArray) ++ t274).size + 3 ≤ 9223372036854775807 then (if (((⟨#[40, 32, 97, 32, 114, 101, 109, 97, 114, 107, 32, 41, 32]⟩ : ByteArray) ++ t274) ++ (⟨#[32, 92, 32]⟩ : ByteArray)).size + t274.size ≤ 9223372036854775807 then (if ((((⟨#[40, 32, 97, 32, 114, 101, 109, 97, 114, 107, 32, 41, 32]⟩ : ByteArray) ++ t274) ++ (⟨#[32, 92, 32]⟩ : ByteArray)) ++ t274).size + 1 ≤ 9223372036854775807 then (if (((((⟨#[40, 32, 97, 32, 114, 101, 109, 97, 114, 107, 32, 41, 32]⟩ : ByteArray) ++ t274) ++ (⟨#[32, 92, 32]⟩ : ByteArray)) ++ t274) ++ (⟨#[32]⟩ : ByteArray)).size + t274.size ≤ 9223372036854775807 then ((impl_LineWords.f k ((((((⟨#[40, 32, 97, 32, 114, 101, 109, 97, 114, 107, 32, 41, 32]⟩ : ByteArray) ++ t274) ++ (⟨#[32, 92, 32]⟩ : ByteArray)) ++ t274) ++ (⟨#[32]⟩ : ByteArray)) ++ t274)).bind fun bt275 => ((impl_UpperOf.f t274).bind fun t279 => (if bt275.2 = 0 then (if (bt275.1.length : Int) = 1 then (if 0 < (bt275.1.length : Int) then (if (rdOf ByteArray.empty bt275.1 0).toList = t274.toList then ((spec_UpperOf.f k t274).bind fun t281 => (if t279.toList = t281.toList then ((impl_WordOK.f k t274).bind fun t282 => (if t282 = true then ((impl_SameWord.f k t274 t279).bind fun t283 => (if t283 = true then (if t274.size + 1 ≤ 9223372036854775807 then ((impl_SameWord.f k t274 (t274 ++ (⟨#[120]⟩ : ByteArray))).bind fun t284 => (some (!t284))) else (none)) else (some false))) else (some false))) else (some false))) else (some false)) else (none)) else (some false)) else (some false)))) else (none)) else (none)) else (none)) else (none)) else (none))) else (some false))) else (some false)) = some true := H
      have A7 := Aside0.mk A70
      clear A70
      by_cases c8 : t266 = t270
      · rw [if_pos c8] at H
        have c8b0 : (t266 == t270) = true := beq_iff_eq.mpr c8
        have c8b1 : (t266 != t270) = false := bne_eq_false_iff_eq.mpr c8
        clear c8
        replace H := Option.bind_eq_some_iff.mp H
        obtain ⟨t273, A90, H⟩ := H
        replace H : (if t273 = true then ((spec_PlainWord.f l1).bind fun t274 => (if 13 + t274.size ≤ 9223372036854775807 then (if ((⟨#[40, 32, 97, 32, 114, 101, 109, 97, 114, 107, 32, 41, 32]⟩ : ByteArray) ++ t274).size + 3 ≤ 9223372036854775807 then (if (((⟨#[40, 32, 97, 32, 114, 101, 109, 97, 114, 107, 32, 41, 32]⟩ : ByteArray) ++ t274) ++ (⟨#[32, 92, 32]⟩ : ByteArray)).size + t274.size ≤ 9223372036854775807 then (if ((((⟨#[40, 32, 97, 32, 114, 101, 109, 97, 114, 107, 32, 41, 32]⟩ : ByteArray) ++ t274) ++ (⟨#[32, 92, 32]⟩ : ByteArray)) ++ t274).size + 1 ≤ 9223372036854775807 then (if (((((⟨#[40, 32, 97, 32, 114, 101, 109, 97, 114, 107, 32, 41, 32]⟩ : ByteArray) ++ t274) ++ (⟨#[32, 92, 32]⟩ : ByteArray)) ++ t274) ++ (⟨#[32]⟩ : ByteArray)).size + t274.size ≤ 9223372036854775807 then ((impl_LineWords.f k ((((((⟨#[40, 32, 97, 32, 114, 101, 109, 97, 114, 107, 32, 41, 32]⟩ : ByteArray) ++ t274) ++ (⟨#[32, 92, 32]⟩ : ByteArray)) ++ t274) ++ (⟨#[32]⟩ : ByteArray)) ++ t274)).bind fun bt275 => ((impl_UpperOf.f t274).bind fun t279 => (if bt275.2 = 0 then (if (bt275.1.length : Int) = 1 then (if 0 < (bt275.1.length : Int) then (if (rdOf ByteArray.empty bt275.1 0).toList = t274.toList then ((spec_UpperOf.f k t274).bind fun t281 => (if t279.toList = t281.toList then ((impl_WordOK.f k t274).bind fun t282 => (if t282 = true then ((impl_SameWord.f k t274 t279).bind fun t283 => (if t283 = true then (if t274.size + 1 ≤ 9223372036854775807 then ((impl_SameWord.f k t274 (t274 ++ (⟨#[120]⟩ : ByteArray))).bind fun t284 => (some (!t284))) else (none)) else (some false))) else (some false))) else (some false))) else (some false)) else (none)) else (some false)) else (some false)))) else (none)) else (none)) else (none)) else (none)) else (none))) else (some false)) = some true := H
        have A9 := Aside0.mk A90
        clear A90
        by_cases c10 : t273 = true
        · subst c10
          have H1 : ((spec_PlainWord.f l1).bind fun t274 => (if 13 + t274.size ≤ 9223372036854775807 then (if ((⟨#[40, 32, 97, 32, 114, 101, 109, 97, 114, 107, 32, 41, 32]⟩ : ByteArray) ++ t274).size + 3 ≤ 9223372036854775807 then (if (((⟨#[40, 32, 97, 32, 114, 101, 109, 97, 114, 107, 32, 41, 32]⟩ : ByteArray) ++ t274) ++ (⟨#[32, 92, 32]⟩ : ByteArray)).size + t274.size ≤ 9223372036854775807 then (if ((((⟨#[40, 32, 97, 32, 114, 101, 109, 97, 114, 107, 32, 41, 32]⟩ : ByteArray) ++ t274) ++ (⟨#[32, 92, 32]⟩ : ByteArray)) ++ t274).size + 1 ≤ 9223372036854775807 then (if (((((⟨#[40, 32, 97, 32, 114, 101, 109, 97, 114, 107, 32, 41, 32]⟩ : ByteArray) ++ t274) ++ (⟨#[32, 92, 32]⟩ : ByteArray)) ++ t274) ++ (⟨#[32]⟩ : ByteArray)).size + t274.size ≤ 9223372036854775807 then ((impl_LineWords.f k ((((((⟨#[40, 32, 97, 32, 114, 101, 109, 97, 114, 107, 32, 41, 32]⟩ : ByteArray) ++ t274) ++ (⟨#[32, 92, 32]⟩ : ByteArray)) ++ t274) ++ (⟨#[32]⟩ : ByteArray)) ++ t274)).bind fun bt275 => ((impl_UpperOf.f t274).bind fun t279 => (if bt275.2 = 0 then (if (bt275.1.length : Int) = 1 then (if 0 < (bt275.1.length : Int) then (if (rdOf ByteArray.empty bt275.1 0).toList = t274.toList then ((spec_UpperOf.f k t274).bind fun t281 => (if t279.toList = t281.toList then ((impl_WordOK.f k t274).bind fun t282 => (if t282 = true then ((impl_SameWord.f k t274 t279).bind fun t283 => (if t283 = true then (if t274.size + 1 ≤ 9223372036854775807 then ((impl_SameWord.f k t274 (t274 ++ (⟨#[120]⟩ : ByteArray))).bind fun t284 => (some (!t284))) else (none)) else (some false))) else (some false))) else (some false))) else (some false)) else (none)) else (some false)) else (some false)))) else (none)) else (none)) else (none)) else (none)) else (none))) = some true := by rw [if_pos rfl] at H; first | done | exact H
          clear H
          have H := H1
          clear H1
          replace H := Option.bind_eq_some_iff.mp H
          obtain ⟨t274, A110, H⟩ := H
          replace H : (if 13 + t274.size ≤ 9223372036854775807 then (if ((⟨#[40, 32, 97, 32, 114, 101, 109, 97, 114, 107, 32, 41, 32]⟩ : ByteArray) ++ t274).size + 3 ≤ 9223372036854775807 then (if (((⟨#[40, 32, 97, 32, 114, 101, 109, 97, 114, 107, 32, 41, 32]⟩ : ByteArray) ++ t274) ++ (⟨#[32, 92, 32]⟩ : ByteArray)).size + t274.size ≤ 9223372036854775807 then (if ((((⟨#[40, 32, 97, 32, 114, 101, 109, 97, 114, 107, 32, 41, 32]⟩ : ByteArray) ++ t274) ++ (⟨#[32, 92, 32]⟩ : ByteArray)) ++ t274).size + 1 ≤ 9223372036854775807 then (if (((((⟨#[40, 32, 97, 32, 114, 101, 109, 97, 114, 107, 32, 41, 32]⟩ : ByteArray) ++ t274) ++ (⟨#[32, 92, 32]⟩ : ByteArray)) ++ t274) ++ (⟨#[32]⟩ : ByteArray)).size + t274.size ≤ 9223372036854775807 then ((impl_LineWords.f k ((((((⟨#[40, 32, 97, 32, 114, 101, 109, 97, 114, 107, 32, 41, 32]⟩ : ByteArray) ++ t274) ++ (⟨#[32, 92, 32]⟩ : ByteArray)) ++ t274) ++ (⟨#[32]⟩ : ByteArray)) ++ t274)).bind fun bt275 => ((impl_UpperOf.f t274).bind fun t279 => (if bt275.2 = 0 then (if (bt275.1.length : Int) = 1 then (if 0 < (bt275.1.length : Int) then (if (rdOf ByteArray.empty bt275.1 0).toList = t274.toList then ((spec_UpperOf.f k t274).bind fun t281 => (if t279.toList = t281.toList then ((impl_WordOK.f k t274).bind fun t282 => (if t282 = true then ((impl_SameWord.f k t274 t279).bind fun t283 => (if t283 = true then (if t274.size + 1 ≤ 9223372036854775807 then ((impl_SameWord.f k t274 (t274 ++ (⟨#[120]⟩ : ByteArray))).bind fun t284 => (some (!t284))) else (none)) else (some false))) else (some false))) else (some false))) else (some false)) else (none)) else (some false)) else (some false)))) else (none)) else (none)) else (none)) else (none)) else (none)) = some true := H
          have A11 := Aside0.mk A110
          clear A110
          by_cases c12 : 13 + t274.size ≤ 9223372036854775807
          · rw [if_pos c12] at H
            have c12b0 := eq_true c12
            have c12b1 : decide (13 + t274.size ≤ 9223372036854775807) = true := decide_eq_true c12
            try have c12b2 : (9223372036854775807 < 13 + t274.size) = False := eq_false (Nat.not_lt.2 c12)
            by_cases c13 : ((⟨#[40, 32, 97, 32, 114, 101, 109, 97, 114, 107, 32, 41, 32]⟩ : ByteArray) ++ t274).size + 3 ≤ 9223372036854775807
            · rw [if_pos c13] at H
              have c13b0 := eq_true c13
              have c13b1 : decide (((⟨#[40, 32, 97, 32, 114, 101, 109, 97, 114, 107, 32, 41, 32]⟩ : ByteArray) ++ t274).size + 3 ≤ 9223372036854775807) = true := decide_eq_true c13
              try have c13b2 : (9223372036854775807 < ((⟨#[40, 32, 97, 32, 114, 101, 109, 97, 114, 107, 32, 41, 32]⟩ : ByteArray) ++ t274).size + 3) = False := eq_false (Nat.not_lt.2 c13)
              try have c13b3 : (9223372036854775807 < 13 + t274.size + 3) = False := eq_false (by have h_ := c13; simp only [ByteArray.size_append, show (⟨#[40, 32, 97, 32, 114, 101, 109, 97, 114, 107, 32, 41, 32]⟩ : ByteArray).size = 13 from rfl] at h_; omega)
              by_cases c14 : (((⟨#[40, 32, 97, 32, 114, 101, 109, 97, 114, 107, 32, 41, 32]⟩ : ByteArray) ++ t274) ++ (⟨#[32, 92, 32]⟩ : ByteArray)).size + t274.size ≤ 9223372036854775807
              · rw [if_pos c14] at H
                have c14b0 := eq_true c14
                have c14b1 : decide ((((⟨#[40, 32, 97, 32, 114, 101, 109, 97, 114, 107, 32, 41, 32]⟩ : ByteArray) ++ t274) ++ (⟨#[32, 92, 32]⟩ : ByteArray)).size + t274.size ≤ 9223372036854775807) = true := decide_eq_true c14
                try have c14b2 : (9223372036854775807 < (((⟨#[40, 32, 97, 32, 114, 101, 109, 97, 114, 107, 32, 41, 32]⟩ : ByteArray) ++ t274) ++ (⟨#[32, 92, 32]⟩ : ByteArray)).size + t274.size) = False := eq_false (Nat.not_lt.2 c14)
                try have c14b3 : (9223372036854775807 < 13 + t274.size + 3 + t274.size) = False := eq_false (by have h_ := c14; simp only [ByteArray.size_append, show (⟨#[32, 92, 32]⟩ : ByteArray).size = 3 from rfl, show (⟨#[40, 32, 97, 32, 114, 101, 109, 97, 114, 107, 32, 41, 32]⟩ : ByteArray).size = 13 from rfl] at h_; omega)
                by_cases c15 : ((((⟨#[40, 32, 97, 32, 114, 101, 109, 97, 114, 107, 32, 41, 32]⟩ : ByteArray) ++ t274) ++ (⟨#[32, 92, 32]⟩ : ByteArray)) ++ t274).size + 1 ≤ 9223372036854775807
                · rw [if_pos c15] at H
                  have c15b0 := eq_true c15
                  have c15b1 : decide (((((⟨#[40, 32, 97, 32, 114, 101, 109, 97, 114, 107, 32, 41, 32]⟩ : ByteArray) ++ t274) ++ (⟨#[32, 92, 32]⟩ : ByteArray)) ++ t274).size + 1 ≤ 9223372036854775807) = true := decide_eq_true c15
                  try have c15b2 : (9223372036854775807 < ((((⟨#[40, 32, 97, 32, 114, 101, 109, 97, 114, 107, 32, 41, 32]⟩ : ByteArray) ++ t274) ++ (⟨#[32, 92, 32]⟩ : ByteArray)) ++ t274).size + 1) = False := eq_false (Nat.not_lt.2 c15)
                  try have c15b3 : (9223372036854775807 < 13 + t274.size + 3 + t274.size + 1) = False := eq_false (by have h_ := c15; simp only [ByteArray.size_append, show (⟨#[32, 92, 32]⟩ : ByteArray).size = 3 from rfl, show (⟨#[40, 32, 97, 32, 114, 101, 109, 97, 114, 107, 32, 41, 32]⟩ : ByteArray).size = 13 from rfl] at h_; omega)
                  by_cases c16 : (((((⟨#[40, 32, 97, 32, 114, 101, 109, 97, 114, 107, 32, 41, 32]⟩ : ByteArray) ++ t274) ++ (⟨#[32, 92, 32]⟩ : ByteArray)) ++ t274) ++ (⟨#[32]⟩ : ByteArray)).size + t274.size ≤ 9223372036854775807
                  · rw [if_pos c16] at H
                    have c16b0 := eq_true c16
                    have c16b1 : decide ((((((⟨#[40, 32, 97, 32, 114, 101, 109, 97, 114, 107, 32, 41, 32]⟩ : ByteArray) ++ t274) ++ (⟨#[32, 92, 32]⟩ : ByteArray)) ++ t274) ++ (⟨#[32]⟩ : ByteArray)).size + t274.size ≤ 9223372036854775807) = true := decide_eq_true c16
                    try have c16b2 : (9223372036854775807 < (((((⟨#[40, 32, 97, 32, 114, 101, 109, 97, 114, 107, 32, 41, 32]⟩ : ByteArray) ++ t274) ++ (⟨#[32, 92, 32]⟩ : ByteArray)) ++ t274) ++ (⟨#[32]⟩ : ByteArray)).size + t274.size) = False := eq_false (Nat.not_lt.2 c16)
                    try have c16b3 : (9223372036854775807 < 13 + t274.size + 3 + t274.size + 1 + t274.size) = False := eq_false (by have h_ := c16; simp only [ByteArray.size_append, show (⟨#[32, 92, 32]⟩ : ByteArray).size = 3 from rfl, show (⟨#[32]⟩ : ByteArray).size = 1 from rfl, show (⟨#[40, 32, 97, 32, 114, 101, 109, 97, 114, 107, 32, 41, 32]⟩ : ByteArray).size = 13 from rfl] at h_; omega)
                    replace H := Option.bind_eq_some_iff.mp H
                    obtain ⟨⟨t275, t276⟩, A170, H⟩ := H
                    replace H : ((impl_UpperOf.f t274).bind fun t279 => (if t276 = 0 then (if (t275.length : Int) = 1 then (if 0 < (t275.length : Int) then (if (rdOf ByteArray.empty t275 0).toList = t274.toList then ((spec_UpperOf.f k t274).bind fun t281 => (if t279.toList = t281.toList then ((impl_WordOK.f k t274).bind fun t282 => (if t282 = true then ((impl_SameWord.f k t274 t279).bind fun t283 => (if t283 = true then (if t274.size + 1 ≤ 9223372036854775807 then ((impl_SameWord.f k t274 (t274 ++ (⟨#[120]⟩ : ByteArray))).bind fun t284 => (some (!t284))) else (none)) else (some false))) else (some false))) else (some false))) else (some false)) else (none)) else (some false)) else (some false))) = some true := H
                    have A17 := Aside0.mk A170
                    clear A170
                    replace H := Option.bind_eq_some_iff.mp H
                    obtain ⟨t279, A180, H⟩ := H
                    replace H : (if t276 = 0 then (if (t275.length : Int) = 1 then (if 0 < (t275.length : Int) then (if (rdOf ByteArray.empty t275 0).toList = t274.toList then ((spec_UpperOf.f k t274).bind fun t281 => (if t279.toList = t281.toList then ((impl_WordOK.f k t274).bind fun t282 => (if t282 = true then ((impl_SameWord.f k t274 t279).bind fun t283 => (if t283 = true then (if t274.size + 1 ≤ 9223372036854775807 then ((impl_SameWord.f k t274 (t274 ++ (⟨#[120]⟩ : ByteArray))).bind fun t284 => (some (!t284))) else (none)) else (some false))) else (some false))) else (some false))) else (some false)) else (none)) else (some false)) else (some false)) = some true := H
                    have A18 := Aside0.mk A180
                    clear A180
                    by_cases c19 : t276 = 0
                    · rw [if_pos c19] at H
                      have c19b0 : (t276 == 0) = true := beq_iff_eq.mpr c19
                      have c19b1 : (t276 != 0) = false := bne_eq_false_iff_eq.mpr c19
                      clear c19
                      by_cases c20 : (t275.length : Int) = 1
                      · rw [if_pos c20] at H
                        have c20b0 : ((t275.length : Int) == 1) = true := beq_iff_eq.mpr c20
                        have c20b1 : ((t275.length : Int) != 1) = false := bne_eq_false_iff_eq.mpr c20
                        clear c20
                        by_cases c21 : 0 < (t275.length : Int)
                        · rw [if_pos c21] at H
                          have c21b0 : decide (0 < (t275.length : Int)) = true := decide_eq_true c21
                          have c21b1 : decide (0 < t275.length) = true := decide_eq_true (by omega)
                          clear c21
                          by_cases c22 : (rdOf ByteArray.empty t275 0).toList = t274.toList
                          · rw [if_pos c22] at H
                            have c22b0 : ((rdOf ByteArray.empty t275 0).toList == t274.toList) = true := beq_iff_eq.mpr c22
                            have c22b1 : ((rdOf ByteArray.empty t275 0).toList != t274.toList) = false := bne_eq_false_iff_eq.mpr c22
                            clear c22
                            replace H := Option.bind_eq_some_iff.mp H
                            obtain ⟨t281, A230, H⟩ := H
                            replace H : (if t279.toList = t281.toList then ((impl_WordOK.f k t274).bind fun t282 => (if t282 = true then ((impl_SameWord.f k t274 t279).bind fun t283 => (if t283 = true then (if t274.size + 1 ≤ 9223372036854775807 then ((impl_SameWord.f k t274 (t274 ++ (⟨#[120]⟩ : ByteArray))).bind fun t284 => (some (!t284))) else (none)) else (some false))) else (some false))) else (some false)) = some true := H
                            have A23 := Aside0.mk A230
                            clear A230
                            by_cases c24 : t279.toList = t281.toList
                            · rw [if_pos c24] at H
                              have c24b0 : (t279.toList == t281.toList) = true := beq_iff_eq.mpr c24
                              have c24b1 : (t279.toList != t281.toList) = false := bne_eq_false_iff_eq.mpr c24
                              clear c24
                              replace H := Option.bind_eq_some_iff.mp H
                              obtain ⟨t282, A250, H⟩ := H
                              replace H : (if t282 = true then ((impl_SameWord.f k t274 t279).bind fun t283 => (if t283 = true then (if t274.size + 1 ≤ 9223372036854775807 then ((impl_SameWord.f k t274 (t274 ++ (⟨#[120]⟩ : ByteArray))).bind fun t284 => (some (!t284))) else (none)) else (some false))) else (some false)) = some true := H
                              have A25 := Aside0.mk A250
                              clear A250
                              by_cases c26 : t282 = true
                              · subst c26
                                have H1 : ((impl_SameWord.f k t274 t279).bind fun t283 => (if t283 = true then (if t274.size + 1 ≤ 9223372036854775807 then ((impl_SameWord.f k t274 (t274 ++ (⟨#[120]⟩ : ByteArray))).bind fun t284 => (some (!t284))) else (none)) else (some false))) = some true := by rw [if_pos rfl] at H; first | done | exact H
                                clear H
                                have H := H1
                                clear H1
                                replace H := Option.bind_eq_some_iff.mp H
                                obtain ⟨t283, A270, H⟩ := H
                                replace H : (if t283 = true then (if t274.size + 1 ≤ 9223372036854775807 then ((impl_SameWord.f k t274 (t274 ++ (⟨#[120]⟩ : ByteArray))).bind fun t284 => (some (!t284))) else (none)) else (some false)) = some true := H
                                have A27 := Aside0.mk A270
                                clear A270
                                by_cases c28 : t283 = true
                                · subst c28
                                  have H1 : (if t274.size + 1 ≤ 9223372036854775807 then ((impl_SameWord.f k t274 (t274 ++ (⟨#[120]⟩ : ByteArray))).bind fun t284 => (some (!t284))) else (none)) = some true := by rw [if_pos rfl] at H; first | done | exact H
                                  clear H
                                  have H := H1
                                  clear H1
                                  by_cases c29 : t274.size + 1 ≤ 9223372036854775807
                                  · rw [if_pos c29] at H
                                    have c29b0 := eq_true c29
                                    have c29b1 : decide (t274.size + 1 ≤ 9223372036854775807) = true := decide_eq_true c29
                                    try have c29b2 : (9223372036854775807 < t274.size + 1) = False := eq_false (Nat.not_lt.2 c29)
                                    replace H := Option.bind_eq_some_iff.mp H
                                    obtain ⟨t284, A300, H⟩ := H
                                    replace H : (some (!t284)) = some true := H
                                    have A30 := Aside0.mk A300
                                    clear A300
                                    have Hr_ := Option.some.inj H
                                    go_enter Tryd.func5, Tryd.ntmps5
                                    go_wp2_with (first | ((with_reducible refine gate_callee (f := 15) rfl ?_); refine goesL_ (some 23) rfl rfl Tryd.func15 (by kernel_rfl) rfl #[.slice A0 l0.length c0] rfl (by (try simp only [List.map_toArray, List.map_cons, List.map_nil]); first | done | rfl | (simp only [List.length_drop, List.length_take]; rfl)) ?_; (with_reducible refine (spec_LineDrawn.calls k _ _ l0 t264 _ ?side1 ?side2 A5.out).mono ?_); (case side1 => repeat (first | exact HR0.out | (with_reducible refine Kd.C_alloc ?_ _) | (with_reducible refine Kd.C_drewN ?_ _) | (with_reducible refine Kd.C_drew ?_))); (case side2 => exact HC0.out); rintro e w31 ⟨rfl, hb⟩; refine ⟨_, rfl, ?_⟩; replace HB := Aside0.mk (below_step (by repeat (first | (with_reducible first | exact HB.out | apply below_alloc | apply pw_below_drewN | apply below_drew1) | exact HB.out)) hb); (try clear hb); (try clear hb2); (try clear hk); (try clear hi)) | ((with_reducible refine gate_callee (f := 11) rfl ?_); refine goesL_ (some 26) rfl rfl Tryd.func11 (by kernel_rfl) rfl #[.string t264] rfl (by (try simp only [List.map_toArray, List.map_cons, List.map_nil]); first | done | rfl | (simp only [List.length_drop, List.length_take]; rfl)) ?_; (with_reducible refine (impl_LineWords.calls k t264 t265 t266 _ A6.out).mono ?_); rintro e w32 ⟨v267, rfl, ho0, hb⟩; refine ⟨_, rfl, ?_⟩; have HO268 := Aside0.mk (Kd.R_lower ho0 (below_size (by repeat (first | (with_reducible first | exact HB.out | apply below_alloc | apply pw_below_drewN | apply below_drew1) | exact HB.out)))); replace HB := Aside0.mk (below_step (by repeat (first | (with_reducible first | exact HB.out | apply below_alloc | apply pw_below_drewN | apply below_drew1) | exact HB.out)) hb); (try clear hb); (try clear hb2); (try clear hk); (try clear hi); (try clear ho0)) | ((with_reducible refine gate_callee (f := 10) rfl ?_); refine goesL_ (some 31) rfl rfl Tryd.func10 (by kernel_rfl) rfl #[.string t264] rfl (by (try simp only [List.map_toArray, List.map_cons, List.map_nil]); first | done | rfl | (simp only [List.length_drop, List.length_take]; rfl)) ?_; (with_reducible refine (spec_LineWords.calls k t264 t269 t270 _ A7.out).mono ?_); rintro e w33 ⟨v271, rfl, ho0, hb⟩; refine ⟨_, rfl, ?_⟩; have n0_ := Aside0.mk (Kd.R_elder' (by (with_reducible repeat (first | apply Kd.R_alloc | apply Kd.R_drewN | apply Kd.R_drew)); exact HO268.out) (Kd.R_base ho0) hb); have n1_ := Aside0.mk (Kd.R_lower (Kd.R_new' ho0 (Kd.R_lt (by (with_reducible repeat (first | apply Kd.R_alloc | apply Kd.R_drewN | apply Kd.R_drew)); exact HO268.out))) (below_size (by repeat (first | (with_reducible first | exact HB.out | apply below_alloc | apply pw_below_drewN | apply below_drew1) | exact HB.out)))); have n2_ := Aside0.mk (below_step (by repeat (first | (with_reducible first | exact HB.out | apply below_alloc | apply pw_below_drewN | apply below_drew1) | exact HB.out)) hb); clear HO268; clear HB; have HO268 := n0_; have HO272 := n1_; have HB := n2_; clear n0_ n1_ n2_; (try clear hb); (try clear hb2); (try clear hk); (try clear hi); (try clear ho0); obtain ⟨Ao34, co34, eo34⟩ := Kd.R_slice HO268.out; subst eo34; obtain ⟨Ao35, co35, eo35⟩ := Kd.R_slice HO272.out; subst eo35) | (go_at_call 16; (with_reducible refine (laws_sameTexts.calls k _ _ t265 _ _ t269 true _ ?side1 ?side2 ?side3 ?side4 A9.out).mono ?_); (case side1 => repeat (first | exact (Kd.R_reads' HO268.out).2.2 | (with_reducible refine Kd.C_alloc ?_ _) | (with_reducible refine Kd.C_drewN ?_ _) | (with_reducible refine Kd.C_drew ?_))); (case side2 => exact (Kd.R_reads' HO268.out).2.1); (case side3 => repeat (first | exact (Kd.R_reads' HO272.out).2.2 | (with_reducible refine Kd.C_alloc ?_ _) | (with_reducible refine Kd.C_drewN ?_ _) | (with_reducible refine Kd.C_drew ?_))); (case side4 => exact (Kd.R_reads' HO272.out).2.1); rintro e w' ⟨rfl, ⟨nd, rfl⟩⟩; clear HO268; clear HO272) | ((with_reducible refine gate_callee (f := 17) rfl ?_); refine goesL_ (some 44) rfl rfl Tryd.func17 (by kernel_rfl) rfl #[.slice A1 l1.length c1] rfl (by (try simp only [List.map_toArray, List.map_cons, List.map_nil]); first | done | rfl | (simp only [List.length_drop, List.length_take]; rfl)) ?_; (with_reducible refine (spec_PlainWord.calls _ _ l1 t274 _ ?side1 ?side2 A11.out).mono ?_); (case side1 => repeat (first | exact (Kd.C_below HR1.out (by repeat (first | (with_reducible first | exact HB.out | apply below_alloc | apply pw_below_drewN | apply below_drew1) | exact HB.out))) | (with_reducible refine Kd.C_alloc ?_ _) | (with_reducible refine Kd.C_drewN ?_ _) | (with_reducible refine Kd.C_drew ?_))); (case side2 => exact HC1.out); rintro e w36 ⟨rfl, hb⟩; refine ⟨_, rfl, ?_⟩; replace HB := Aside0.mk (below_step (by repeat (first | (with_reducible first | exact HB.out | apply below_alloc | apply pw_below_drewN | apply below_drew1) | exact HB.out)) hb); (try clear hb); (try clear hb2); (try clear hk); (try clear hi)) | ((with_reducible refine gate_callee (f := 11) rfl ?_); refine goesL_ (some 54) rfl rfl Tryd.func11 (by kernel_rfl) rfl #[.string ((((((⟨#[40, 32, 97, 32, 114, 101, 109, 97, 114, 107, 32, 41, 32]⟩ : ByteArray) ++ t274) ++ (⟨#[32, 92, 32]⟩ : ByteArray)) ++ t274) ++ (⟨#[32]⟩ : ByteArray)) ++ t274)] rfl (by (try simp only [List.map_toArray, List.map_cons, List.map_nil]); first | done | rfl | (simp only [List.length_drop, List.length_take]; rfl)) ?_; (with_reducible refine (impl_LineWords.calls k ((((((⟨#[40, 32, 97, 32, 114, 101, 109, 97, 114, 107, 32, 41, 32]⟩ : ByteArray) ++ t274) ++ (⟨#[32, 92, 32]⟩ : ByteArray)) ++ t274) ++ (⟨#[32]⟩ : ByteArray)) ++ t274) t275 t276 _ A17.out).mono ?_); rintro e w37 ⟨v277, rfl, ho0, hb⟩; refine ⟨_, rfl, ?_⟩; have HO278 := Aside0.mk (Kd.R_lower ho0 (below_size (by repeat (first | (with_reducible first | exact HB.out | apply below_alloc | apply pw_below_drewN | apply below_drew1) | exact HB.out)))); replace HB := Aside0.mk (below_step (by repeat (first | (with_reducible first | exact HB.out | apply below_alloc | apply pw_below_drewN | apply below_drew1) | exact HB.out)) hb); (try clear hb); (try clear hb2); (try clear hk); (try clear hi); (try clear ho0)) | ((with_reducible refine gate_callee (f := 18) rfl ?_); refine goesL_ (some 58) rfl rfl Tryd.func18 (by kernel_rfl) rfl #[.string t274] rfl (by (try simp only [List.map_toArray, List.map_cons, List.map_nil]); first | done | rfl | (simp only [List.length_drop, List.length_take]; rfl)) ?_; (with_reducible refine (impl_UpperOf.calls t274 t279 _ A18.out).mono ?_); rintro e w38 ⟨rfl, hb⟩; refine ⟨_, rfl, ?_⟩; replace HO278 := Aside0.mk (Kd.R_below (by (with_reducible repeat (first | apply Kd.R_alloc | apply Kd.R_drewN | apply Kd.R_drew)); exact HO278.out) hb); replace HB := Aside0.mk (below_step (by repeat (first | (with_reducible first | exact HB.out | apply below_alloc | apply pw_below_drewN | apply below_drew1) | exact HB.out)) hb); (try clear hb); (try clear hb2); (try clear hk); (try clear hi); obtain ⟨Ao39, co39, eo39⟩ := Kd.R_slice HO278.out; subst eo39; have p280 : 0 ≤ (0 : Int) := (by omega); have q280 : 0 < (t275.length : Int) := of_decide_eq_true (by first | (with_reducible assumption) | assumption); obtain ⟨ad280, e280, hx280_0⟩ := Kd.at_string (Kd.R_reads' HO278.out).2.2 0 p280 q280; cases e280; have qi280 : (0 < t275.length) = True := eq_true (by omega); (try rw [show ((0 : Int)).toNat = 0 from rfl] at hx280_0); (try rw [Addr.add_zero'] at hx280_0); replace p280 := eq_true p280; replace q280 := eq_true q280; clear HO278) | (go_at_call 19; (with_reducible refine (spec_UpperOf.calls k t274 t281 _ A23.out).mono ?_); rintro e w40 ⟨rfl, hb⟩; replace HB := Aside0.mk (below_step (by repeat (first | (with_reducible first | exact HB.out | apply below_alloc | apply pw_below_drewN | apply below_drew1) | exact HB.out)) hb); (try clear hb); (try clear hb2); (try clear hk); (try clear hi)) | (go_at_call 20; (with_reducible refine (impl_WordOK.calls k t274 true _ A25.out).mono ?_); rintro e w' ⟨rfl, ⟨nd, rfl⟩⟩) | (go_at_call 21; (with_reducible refine (impl_SameWord.calls k t274 t279 true _ A27.out).mono ?_); rintro e w41 ⟨rfl, hb⟩; replace HB := Aside0.mk (below_step (by repeat (first | (with_reducible first | exact HB.out | apply below_alloc | apply pw_below_drewN | apply below_drew1) | exact HB.out)) hb); (try clear hb); (try clear hb2); (try clear hk); (try clear hi)) | (go_at_call 21; (with_reducible refine (impl_SameWord.calls k t274 (t274 ++ (⟨#[120]⟩ : ByteArray)) t284 _ A30.out).mono ?_); rintro e w42 ⟨rfl, hb⟩; replace HB := Aside0.mk (below_step (by repeat (first | (with_reducible first | exact HB.out | apply below_alloc | apply pw_below_drewN | apply below_drew1) | exact HB.out)) hb); (try clear hb); (try clear hb2); (try clear hk); (try clear hi)))
                                    all_goals go_ret
                                    exact ⟨by first | rfl | (simp [errW_none, errW_some] <;> rfl) | (simp [*, errW_none, errW_some] <;> rfl), by repeat (first | (with_reducible first | exact HB.out | apply below_alloc | apply pw_below_drewN | apply below_drew1) | exact HB.out)⟩
                                    all_goals (exfalso; simp only [beq_iff_eq, decide_eq_decide, decide_eq_true_eq, decide_eq_false_iff_not] at *; omega)
                                  · rw [if_neg c29] at H
                                    exact absurd H (by simp)
                                · replace c28 := Bool.eq_false_iff.mpr c28
                                  subst c28
                                  have H1 : (some false) = some true := by rw [if_neg (show ¬ (false = true) by decide)] at H; first | done | exact H
                                  clear H
                                  have H := H1
                                  clear H1
                                  exact absurd (Option.some.inj H) (by decide)
                              · replace c26 := Bool.eq_false_iff.mpr c26
                                subst c26
                                have H1 : (some false) = some true := by rw [if_neg (show ¬ (false = true) by decide)] at H; first | done | exact H
                                clear H
                                have H := H1
                                clear H1
                                exact absurd (Option.some.inj H) (by decide)
                            · rw [if_neg c24] at H
                              have c24b0 : (t279.toList == t281.toList) = false := beq_eq_false_iff_ne.mpr c24
                              have c24b1 : (t279.toList != t281.toList) = true := bne_iff_ne.mpr c24
                              exact absurd (Option.some.inj H) (by decide)
                          · rw [if_neg c22] at H
                            have c22b0 : ((rdOf ByteArray.empty t275 0).toList == t274.toList) = false := beq_eq_false_iff_ne.mpr c22
                            have c22b1 : ((rdOf ByteArray.empty t275 0).toList != t274.toList) = true := bne_iff_ne.mpr c22
                            exact absurd (Option.some.inj H) (by decide)
                        · rw [if_neg c21] at H
                          exact absurd H (by simp)
                      · rw [if_neg c20] at H
                        have c20b0 : ((t275.length : Int) == 1) = false := beq_eq_false_iff_ne.mpr c20
                        have c20b1 : ((t275.length : Int) != 1) = true := bne_iff_ne.mpr c20
                        exact absurd (Option.some.inj H) (by decide)
                    · rw [if_neg c19] at H
                      have c19b0 : (t276 == 0) = false := beq_eq_false_iff_ne.mpr c19
                      have c19b1 : (t276 != 0) = true := bne_iff_ne.mpr c19
                      exact absurd (Option.some.inj H) (by decide)
                  · rw [if_neg c16] at H
                    exact absurd H (by simp)
                · rw [if_neg c15] at H
                  exact absurd H (by simp)
              · rw [if_neg c14] at H
                exact absurd H (by simp)
            · rw [if_neg c13] at H
              exact absurd H (by simp)
          · rw [if_neg c12] at H
            exact absurd H (by simp)
        · replace c10 := Bool.eq_false_iff.mpr c10
          subst c10
          have H1 : (some false) = some true := by rw [if_neg (show ¬ (false = true) by decide)] at H; first | done | exact H
          clear H
          have H := H1
          clear H1
          exact absurd (Option.some.inj H) (by decide)
      · rw [if_neg c8] at H
        have c8b0 : (t266 == t270) = false := beq_eq_false_iff_ne.mpr c8
        have c8b1 : (t266 != t270) = true := bne_iff_ne.mpr c8
        exact absurd (Option.some.inj H) (by decide)
/-- The pure statement of laws_FnWords: plain data, no memory. -/
def laws_FnWords.Pure : Prop := ∀ (l0 : List Int) (l1 : List Int), (l0.length ≤ 9223372036854775807 ∧ ∀ e0_, e0_ ∈ l0 → (Lit.int .u8 e0_).wf = true) → (l1.length ≤ 9223372036854775807 ∧ ∀ e0_, e0_ ∈ l1 → (Lit.int .u8 e0_).wf = true) → ∃ k, laws_FnWords.f k l0 l1 = some true

end Go.Proofs.YtdfnjihnjemghaaDoor.PWords
