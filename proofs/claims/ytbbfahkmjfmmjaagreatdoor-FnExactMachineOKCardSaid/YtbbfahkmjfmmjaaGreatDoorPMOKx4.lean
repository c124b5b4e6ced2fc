-- laid by a program of this session out of the translation's own print: Lean checks it
import Derived.Test.YtbbfahkmjfmmjaaGreatDoorPMOKx0
import Derived.Test.YtbbfahkmjfmmjaaGreatDoorPMOKx3
namespace Go.Proofs.YtbbfahkmjfmmjaaGreatDoor.PMOK
open Go.RowKit Go.Proofs.YtbbfahkmjfmmjaaGreatDoorW.PrintWords Go.Proofs.YtbbfahkmjfmmjaaGreatDoorW.PrintLast Go.Proofs.YtbbfahkmjfmmjaaGreatDoorW.PrintMore
attribute [local go_sem] max2_int min2_int max_two min_two max_three min_three max_four min_four   -- for this text's walks alone
set_option linter.unusedVariables false
set_option linter.unusedSimpArgs false

/-! ### spec_l04OK: function 38 -/
mutual
def spec_l04OK.j0 : Nat → List (S75) → Bool → Option (Bool)
 | 0, _, _ => none
 | k + 1, x0, x11 => if x11 = true then (some false) else (spec_l04OK.l0 k x0 83)
def spec_l04OK.l0 : Nat → List (S75) → Int → Option (Bool)
 | 0, _, _ => none
 | k + 1, x0, x3 => if x3 < (x0.length : Int) then (if 0 ≤ x3 then ((spec_l04User.f k ((rd_T75 x0 x3).f0) ((rd_T75 x0 x3).f1) ((rd_T75 x0 x3).f2)).bind fun t176 => (if t176 = true then (spec_l04OK.l0 k x0 (wrap64 (x3 + 1))) else (some false))) else (none)) else (some true)
end
def spec_l04OK.f (k : Nat) (l0 : List (S75)) : Option (Bool) := if (l0.length : Int) > 103 then (spec_l04OK.j0 k l0 true) else ((spec_l04Same.f k l0).bind fun t174 => (spec_l04OK.j0 k l0 (!t174)))
theorem spec_l04OK.mono_l : ∀ k, (∀ y0 y1, LeO (spec_l04OK.j0 k y0 y1) (spec_l04OK.j0 (k + 1) y0 y1)) ∧ (∀ y0 y1, LeO (spec_l04OK.l0 k y0 y1) (spec_l04OK.l0 (k + 1) y0 y1))
 | 0 => ⟨fun _ _ r h => by simp [spec_l04OK.j0] at h, fun _ _ r h => by simp [spec_l04OK.l0] at h⟩
 | k + 1 => by
  obtain ⟨ih0, ih1⟩ := spec_l04OK.mono_l k
  refine ⟨?_, ?_⟩
  ·intro y0 y1
   unfold spec_l04OK.j0
   repeat' first
   | (with_reducible exact ih0 _ _)
   | (with_reducible exact ih1 _ _)
   | (with_reducible exact spec_l04Same.mono _ _)
   | (with_reducible exact spec_l04User.mono _ _ _ _)
   | (with_reducible exact LeO.refl _)
   | (with_reducible exact LeO.none _)
   | (with_reducible refine LeO.ite ?_ ?_)
   | (with_reducible refine LeO.bind ?_ (fun _ => ?_))
   | exact ih0 _ _
   | exact ih1 _ _
   | exact spec_l04Same.mono _ _
   | exact spec_l04User.mono _ _ _ _
   | exact LeO.none _
   | refine LeO.ite ?_ ?_
   | refine LeO.bind ?_ (fun _ => ?_)
  ·intro y0 y1
   unfold spec_l04OK.l0
   repeat' first
   | (with_reducible exact ih0 _ _)
   | (with_reducible exact ih1 _ _)
   | (with_reducible exact spec_l04Same.mono _ _)
   | (with_reducible exact spec_l04User.mono _ _ _ _)
   | (with_reducible exact LeO.refl _)
   | (with_reducible exact LeO.none _)
   | (with_reducible refine LeO.ite ?_ ?_)
   | (with_reducible refine LeO.bind ?_ (fun _ => ?_))
   | exact ih0 _ _
   | exact ih1 _ _
   | exact spec_l04Same.mono _ _
   | exact spec_l04User.mono _ _ _ _
   | exact LeO.none _
   | refine LeO.ite ?_ ?_
   | refine LeO.bind ?_ (fun _ => ?_)
theorem spec_l04OK.mono : ∀ a0 k, LeO (spec_l04OK.f k a0) (spec_l04OK.f (k + 1) a0) := by
 intro a0 k
 obtain ⟨ih0, ih1⟩ := spec_l04OK.mono_l k
 unfold spec_l04OK.f
 repeat' first
   | (with_reducible exact ih0 _ _)
   | (with_reducible exact ih1 _ _)
   | (with_reducible exact spec_l04Same.mono _ _)
   | (with_reducible exact spec_l04User.mono _ _ _ _)
   | (with_reducible exact LeO.refl _)
   | (with_reducible exact LeO.none _)
   | (with_reducible refine LeO.ite ?_ ?_)
   | (with_reducible refine LeO.bind ?_ (fun _ => ?_))
   | exact ih0 _ _
   | exact ih1 _ _
   | exact spec_l04Same.mono _ _
   | exact spec_l04User.mono _ _ _ _
   | exact LeO.none _
   | refine LeO.ite ?_ ?_
   | refine LeO.bind ?_ (fun _ => ?_)
set_option maxHeartbeats 8000000 in
set_option maxRecDepth 100000 in
theorem spec_l04OK.calls (k : Nat) (A0 : Option Addr) (c0 : Nat) (l0 : List (S75)) (r : Bool) (w : World) (hr0 : Kd.C k75 w A0 l0.length l0) (hc0 : l0.length ≤ c0) (h : spec_l04OK.f k l0 = some r) :
  Calls Tryz.prog 38 #[.slice A0 l0.length c0] w fun e w' => e = .returned (.bool r) ∧ Below w.heap.size w w' := by
 have hu75 := Tryz.underlying75
 have HR0 := am_ hr0
 have HC0 := am_ hc0
 clear hr0 hc0
 have HB := am_ (Below.refl w.heap.size w)
 have H : (if (l0.length : Int) > 103 then (spec_l04OK.j0 k l0 true) else ((spec_l04Same.f k l0).bind fun t174 => (spec_l04OK.j0 k l0 (!t174)))) = some r := h
 clear h
 have HC2 := am_ H
 clear H
 go_enter Tryz.func38, Tryz.ntmps38
 go_upto_region 1 with (fail)
 go_cut [11] (fun v11 wc => ∃ (kq : Nat) (x11_1 : Bool), v11 = .bool x11_1 ∧ Aside0 (spec_l04OK.j0 kq l0 x11_1 = some r) ∧ Aside0 (kq ≤ k) ∧ Aside0 (Below w.heap.size w wc))
 case first =>
  have H := HC2.out
  clear HC2
  by_cases c3 : (l0.length : Int) > 103
  ·rw [if_pos c3] at H
   have c3b0 : decide (103 < (l0.length : Int)) = true := decide_eq_true c3
   have c3b1 : decide (103 < l0.length) = true := decide_eq_true (by omega)
   clear c3
   (first | rw [c3b0] | (simp only [i64_w, i32_w]; rw [c3b0]) | skip)
   have H' := am_ H
   clear H
   go_wp2
   go_meet
   case rel => exact ⟨_, (true), (by first | rfl | (simp; done) | (simp [*]; done)), H', ⟨by first | omega | exact Nat.le_refl _⟩, ⟨ybl_⟩⟩
  ·rw [if_neg c3] at H
   have c3b0 : decide (103 < (l0.length : Int)) = false := decide_eq_false c3
   have c3b1 : decide (103 < l0.length) = false := decide_eq_false (by omega)
   clear c3
   (first | rw [c3b0] | (simp only [i64_w, i32_w]; rw [c3b0]) | skip)
   replace H := Option.bind_eq_some_iff.mp H
   obtain ⟨t174, A40, H⟩ := H
   replace H : (spec_l04OK.j0 k l0 (!t174)) = some r := H
   have A4 := am_ A40
   clear A40
   have H' := am_ H
   clear H
   go_wp2_with (first | (go_at_call 73; (with_reducible refine (spec_l04Same.calls k _ _ l0 t174 _ ?side1 HC0.out A4.out).mono ?_); (case side1 => exact ycb_ HR0 HB); rintro e w5 ⟨rfl, hb⟩; replace HB := yst_ hb; (try clear hb); (try clear hb2); (try clear hk); (try clear hi)))
   go_meet
   case rel => exact ⟨_, (!t174), (by first | rfl | (simp; done) | (simp [*]; done)), H', ⟨by first | omega | exact Nat.le_refl _⟩, ⟨ybl_⟩⟩
 case rest =>
  clear HC2
  try clear p2
  try clear c3
  try clear c3b0
  try clear c3b1
  obtain ⟨kq, x11_1, rfl, HA, HJ1, HB⟩ := hcut
  cases kq with
  | zero => exact absurd HA.out (by simp [spec_l04OK.j0])
  | succ kj1 =>
   have H := HA.out
   clear HA
   simp only [spec_l04OK.j0] at H
   by_cases c6 : x11_1 = true
   ·subst c6
    have H1 : (some false) = some r := by rw [if_pos rfl] at H; first | done | exact H
    clear H
    have H := H1
    clear H1
    obtain rfl := Option.some.inj H
    go_wp2
    go_ret
    exact ⟨yk0_, ybl_⟩
   ·replace c6 := Bool.eq_false_iff.mpr c6
    subst c6
    have H1 : (spec_l04OK.l0 kj1 l0 83) = some r := by rw [if_neg (show ¬ (false = true) by decide)] at H; first | done | exact H
    clear H
    have H := H1
    clear H1
    have H' := am_ H
    clear H
    go_wp2
    go_loopg [3] kj1 (fun kq v3 w' => ∃ (x3_2 : Int), v3 = .int .i64 x3_2 ∧ Aside0 (spec_l04OK.l0 kq l0 x3_2 = some r) ∧ Aside0 (kq ≤ kj1) ∧ Aside0 (Below w.heap.size w w'))
    case atStart => exact ⟨(83), (by first | rfl | (simp; done) | (simp [*]; done)), H', ⟨Nat.le_refl _⟩, ⟨ybl_⟩⟩
    case round =>
     clear H'
     try clear p2
     try clear c3
     try clear c3b0
     try clear c3b1
     try clear c6
     try clear p2
     obtain ⟨x3_2, rfl, HA, HK2, HB⟩ := hrel
     cases gk with
     | zero => exact absurd HA.out (by simp [spec_l04OK.l0])
     | succ k2 =>
      have H := HA.out
      clear HA
      simp only [spec_l04OK.l0] at H
      by_cases c7 : x3_2 < (l0.length : Int)
      ·rw [if_pos c7] at H
       have c7b0 : decide (x3_2 < (l0.length : Int)) = true := decide_eq_true c7
       clear c7
       by_cases c8 : 0 ≤ x3_2
       ·rw [if_pos c8] at H
        have c8b0 : decide (0 ≤ x3_2) = true := decide_eq_true c8
        clear c8
        replace H := Option.bind_eq_some_iff.mp H
        obtain ⟨t176, A90, H⟩ := H
        replace H : (if t176 = true then (spec_l04OK.l0 k2 l0 (wrap64 (x3_2 + 1))) else (some false)) = some r := H
        have A9 := am_ A90
        clear A90
        by_cases c10 : t176 = true
        ·subst c10
         have H1 : (spec_l04OK.l0 k2 l0 (wrap64 (x3_2 + 1))) = some r := by rw [if_pos rfl] at H; first | done | exact H
         clear H
         have H := H1
         clear H1
         have H' := am_ H
         clear H
         have p175 : 0 ≤ (x3_2 : Int) := of_decide_eq_true yqv11_
         have q175 : x3_2 < (l0.length : Int) := of_decide_eq_true yqv11_
         obtain ⟨ad175, e175, hx175_0, hx175_1, hx175_2⟩ := at_T75 HR0.out x3_2 p175 q175
         cases e175
         replace hx175_0 := ycst_ HB hx175_0
         replace hx175_1 := ycst_ HB hx175_1
         replace hx175_2 := ycst_ HB hx175_2
         replace p175 := eq_true p175
         replace q175 := eq_true q175
         go_wp2_with (first | ((with_reducible refine gate_callee (f := 74) rfl ?_); refine goesL_ (some 22) rfl rfl Tryz.func74 (by kernel_rfl) rfl #[.agg #[.string ((rd_T75 l0 x3_2).f0), .int .i64 ((rd_T75 l0 x3_2).f1), .int .i64 ((rd_T75 l0 x3_2).f2)]] rfl yk1_ ?_; (with_reducible refine (spec_l04User.calls k2 ((rd_T75 l0 x3_2).f0) ((rd_T75 l0 x3_2).f1) ((rd_T75 l0 x3_2).f2) true _ A9.out).mono ?_); rintro e w11 ⟨rfl, hb⟩; refine ⟨_, rfl, ?_⟩; replace HB := yst_ hb; (try clear hb); (try clear hb2); (try clear hk); (try clear hi)))
         go_roundg k2
         case measure => have := HJ1.out; have := HK2.out; omega
         case rel => exact ⟨(wrap64 (x3_2 + 1)), (by first | rfl | (simp; done) | (simp [*]; done)), H', ⟨by have := HJ1.out; have := HK2.out; omega⟩, ⟨ybl_⟩⟩
        ·replace c10 := Bool.eq_false_iff.mpr c10
         subst c10
         have H1 : (some false) = some r := by rw [if_neg (show ¬ (false = true) by decide)] at H; first | done | exact H
         clear H
         have H := H1
         clear H1
         obtain rfl := Option.some.inj H
         have p175 : 0 ≤ (x3_2 : Int) := of_decide_eq_true yqv11_
         have q175 : x3_2 < (l0.length : Int) := of_decide_eq_true yqv11_
         obtain ⟨ad175, e175, hx175_0, hx175_1, hx175_2⟩ := at_T75 HR0.out x3_2 p175 q175
         cases e175
         replace hx175_0 := ycst_ HB hx175_0
         replace hx175_1 := ycst_ HB hx175_1
         replace hx175_2 := ycst_ HB hx175_2
         replace p175 := eq_true p175
         replace q175 := eq_true q175
         go_wp2_with (first | ((with_reducible refine gate_callee (f := 74) rfl ?_); refine goesL_ (some 22) rfl rfl Tryz.func74 (by kernel_rfl) rfl #[.agg #[.string ((rd_T75 l0 x3_2).f0), .int .i64 ((rd_T75 l0 x3_2).f1), .int .i64 ((rd_T75 l0 x3_2).f2)]] rfl yk1_ ?_; (with_reducible refine (spec_l04User.calls k2 ((rd_T75 l0 x3_2).f0) ((rd_T75 l0 x3_2).f1) ((rd_T75 l0 x3_2).f2) false _ A9.out).mono ?_); rintro e w12 ⟨rfl, hb⟩; refine ⟨_, rfl, ?_⟩; replace HB := yst_ hb; (try clear hb); (try clear hb2); (try clear hk); (try clear hi)))
         go_ret
         exact ⟨yk0_, ybl_⟩
       ·rw [if_neg c8] at H
        exact absurd H (by simp)
      ·rw [if_neg c7] at H
       have c7b0 : decide (x3_2 < (l0.length : Int)) = false := decide_eq_false c7
       clear c7
       obtain rfl := Option.some.inj H
       go_wp2
       go_ret
       exact ⟨yk0_, ybl_⟩

/-! ### spec_l03Cells: function 39 -/
def spec_l03Cells.l0 : Nat → List Int → Int → Option (Bool)
 | 0, _, _ => none
 | k + 1, x0, x3 => if x3 < (x0.length : Int) then (if 0 ≤ x3 then ((spec_l01Cell.f (rd x0 x3)).bind fun t178 => (if t178 = true then (spec_l03Cells.l0 k x0 (wrap64 (x3 + 1))) else (some false))) else (none)) else (some true)
def spec_l03Cells.f (k : Nat) (l0 : List Int) : Option (Bool) := spec_l03Cells.l0 k l0 0
theorem spec_l03Cells.mono_l : ∀ k, (∀ y0 y1, LeO (spec_l03Cells.l0 k y0 y1) (spec_l03Cells.l0 (k + 1) y0 y1))
 | 0 => fun _ _ r h => by simp [spec_l03Cells.l0] at h
 | k + 1 => by
  have ih0 := spec_l03Cells.mono_l k
  ·intro y0 y1
   unfold spec_l03Cells.l0
   repeat' first
   | (with_reducible exact ih0 _ _)
   | (with_reducible exact LeO.refl _)
   | (with_reducible exact LeO.none _)
   | (with_reducible refine LeO.ite ?_ ?_)
   | (with_reducible refine LeO.bind ?_ (fun _ => ?_))
   | exact ih0 _ _
   | exact LeO.none _
   | refine LeO.ite ?_ ?_
   | refine LeO.bind ?_ (fun _ => ?_)
theorem spec_l03Cells.mono : ∀ a0 k, LeO (spec_l03Cells.f k a0) (spec_l03Cells.f (k + 1) a0) := by
 intro a0 k
 have ih0 := spec_l03Cells.mono_l k
 unfold spec_l03Cells.f
 repeat' first
   | (with_reducible exact ih0 _ _)
   | (with_reducible exact LeO.refl _)
   | (with_reducible exact LeO.none _)
   | (with_reducible refine LeO.ite ?_ ?_)
   | (with_reducible refine LeO.bind ?_ (fun _ => ?_))
   | exact ih0 _ _
   | exact LeO.none _
   | refine LeO.ite ?_ ?_
   | refine LeO.bind ?_ (fun _ => ?_)
set_option maxHeartbeats 8000000 in
set_option maxRecDepth 100000 in
theorem spec_l03Cells.calls (k : Nat) (A0 : Option Addr) (c0 : Nat) (l0 : List Int) (r : Bool) (w : World) (hr0 : Kd.C (Kd.int .i64) w A0 l0.length l0) (hc0 : l0.length ≤ c0) (h : spec_l03Cells.f k l0 = some r) :
  Calls Tryz.prog 39 #[.slice A0 l0.length c0] w fun e w' => e = .returned (.bool r) ∧ Drawn0 w w' := by
 have HR0 := am_ hr0
 have HC0 := am_ hc0
 clear hr0 hc0
 have H : (spec_l03Cells.l0 k l0 0) = some r := h
 clear h
 have H' := am_ H
 clear H
 go_enter Tryz.func39, Tryz.ntmps39
 go_wp2
 go_loopg [3] k (fun kq v3 w' => ∃ (x3_1 : Int), v3 = .int .i64 x3_1 ∧ Aside0 (spec_l03Cells.l0 kq l0 x3_1 = some r) ∧ Aside0 (kq ≤ k) ∧ Drawn0 w w')
 case atStart => exact ⟨(0), (by first | rfl | (simp; done) | (simp [*]; done)), H', ⟨Nat.le_refl _⟩, by repeat (first | exact Drawn0.refl _ | apply Drawn0.step)⟩
 case round =>
  clear H'
  obtain ⟨x3_1, rfl, HA, HK1, ⟨m1, rfl⟩⟩ := hrel
  cases gk with
  | zero => exact absurd HA.out (by simp [spec_l03Cells.l0])
  | succ k1 =>
   have H := HA.out
   clear HA
   simp only [spec_l03Cells.l0] at H
   by_cases c2 : x3_1 < (l0.length : Int)
   ·rw [if_pos c2] at H
    have c2b0 : decide (x3_1 < (l0.length : Int)) = true := decide_eq_true c2
    clear c2
    by_cases c3 : 0 ≤ x3_1
    ·rw [if_pos c3] at H
     have c3b0 : decide (0 ≤ x3_1) = true := decide_eq_true c3
     clear c3
     replace H := Option.bind_eq_some_iff.mp H
     obtain ⟨t178, A40, H⟩ := H
     replace H : (if t178 = true then (spec_l03Cells.l0 k1 l0 (wrap64 (x3_1 + 1))) else (some false)) = some r := H
     have A4 := am_ A40
     clear A40
     by_cases c5 : t178 = true
     ·subst c5
      have H1 : (spec_l03Cells.l0 k1 l0 (wrap64 (x3_1 + 1))) = some r := by rw [if_pos rfl] at H; first | done | exact H
      clear H
      have H := H1
      clear H1
      have H' := am_ H
      clear H
      have p177 : 0 ≤ (x3_1 : Int) := of_decide_eq_true yqv11_
      have q177 : x3_1 < (l0.length : Int) := of_decide_eq_true yqv11_
      obtain ⟨ad177, e177, hx177_0⟩ := Kd.at_int HR0.out x3_1 p177 q177
      cases e177
      replace p177 := eq_true p177
      replace q177 := eq_true q177
      go_wp2_with (first | ((with_reducible refine gate_callee (f := 75) rfl ?_); refine goesL_ (some 14) rfl rfl Tryz.func75 (by kernel_rfl) rfl #[.int .i64 (rd l0 x3_1)] rfl yk1_ ?_; (with_reducible refine (spec_l01Cell.calls (rd l0 x3_1) true _ A4.out).mono ?_); rintro e w' ⟨rfl, ⟨nd, rfl⟩⟩; refine ⟨_, rfl, ?_⟩))
      go_roundg k1
      case measure => have := HK1.out; omega
      case rel => exact ⟨(wrap64 (x3_1 + 1)), (by first | rfl | (simp; done) | (simp [*]; done)), H', ⟨by have := HK1.out; omega⟩, by repeat (first | exact Drawn0.refl _ | apply Drawn0.step)⟩
     ·replace c5 := Bool.eq_false_iff.mpr c5
      subst c5
      have H1 : (some false) = some r := by rw [if_neg (show ¬ (false = true) by decide)] at H; first | done | exact H
      clear H
      have H := H1
      clear H1
      obtain rfl := Option.some.inj H
      have p177 : 0 ≤ (x3_1 : Int) := of_decide_eq_true yqv11_
      have q177 : x3_1 < (l0.length : Int) := of_decide_eq_true yqv11_
      obtain ⟨ad177, e177, hx177_0⟩ := Kd.at_int HR0.out x3_1 p177 q177
      cases e177
      replace p177 := eq_true p177
      replace q177 := eq_true q177
      go_wp2_with (first | ((with_reducible refine gate_callee (f := 75) rfl ?_); refine goesL_ (some 14) rfl rfl Tryz.func75 (by kernel_rfl) rfl #[.int .i64 (rd l0 x3_1)] rfl yk1_ ?_; (with_reducible refine (spec_l01Cell.calls (rd l0 x3_1) false _ A4.out).mono ?_); rintro e w' ⟨rfl, ⟨nd, rfl⟩⟩; refine ⟨_, rfl, ?_⟩))
      go_ret
      exact ⟨by first | rfl | (simp; done) | (simp [*]; done), by repeat (first | exact Drawn0.refl _ | apply Drawn0.step)⟩
    ·rw [if_neg c3] at H
     exact absurd H (by simp)
   ·rw [if_neg c2] at H
    have c2b0 : decide (x3_1 < (l0.length : Int)) = false := decide_eq_false c2
    clear c2
    obtain rfl := Option.some.inj H
    go_wp2
    go_ret
    exact ⟨by first | rfl | (simp; done) | (simp [*]; done), by repeat (first | exact Drawn0.refl _ | apply Drawn0.step)⟩

/-! ### spec_l01Base: function 76 -/
def spec_l01Base.f (a0 : Int) : Option (Bool) := (spec_l01In.f a0 2 16).bind fun t179 => (some t179)
set_option maxHeartbeats 8000000 in
set_option maxRecDepth 100000 in
theorem spec_l01Base.calls (a0 : Int) (r : Bool) (w : World) (h : spec_l01Base.f a0 = some r) :
  Calls Tryz.prog 76 #[.int .i64 a0] w fun e w' => e = .returned (.bool r) ∧ Drawn0 w w' := by
 have H : ((spec_l01In.f a0 2 16).bind fun t179 => (some t179)) = some r := h
 clear h
 replace H := Option.bind_eq_some_iff.mp H
 obtain ⟨t179, A20, H⟩ := H
 replace H : (some t179) = some r := H
 have A2 := am_ A20
 clear A20
 obtain rfl := Option.some.inj H
 go_enter Tryz.func76, Tryz.ntmps76
 go_wp2_with (first | ((with_reducible refine gate_callee (f := 43) rfl ?_); refine goesL_ (some 4) rfl rfl Tryz.func43 (by kernel_rfl) rfl #[.int .i64 a0, .int .i64 2, .int .i64 16] rfl yk1_ ?_; (with_reducible refine (spec_l01In.calls a0 2 16 t179 _ A2.out).mono ?_); rintro e w' ⟨rfl, ⟨nd, rfl⟩⟩; refine ⟨_, rfl, ?_⟩))
 go_ret
 exact ⟨by first | rfl | (simp; done) | (simp [*]; done), by repeat (first | exact Drawn0.refl _ | apply Drawn0.step)⟩

/-! ### spec_l03OK: function 40 -/
def spec_l03OK.f (k : Nat) (l0_0 : List Int) (l0_1 : List Int) (l0_2 : List Int) (a0_3 : Int) (a0_4 : Int) (a0_5 : ByteArray) : Option (Bool) := if (l0_0.length : Int) ≤ 32 then (if (l0_1.length : Int) ≤ 32 then (if (l0_2.length : Int) = 32 then ((spec_l03Cells.f k l0_0).bind fun t181 => (if t181 = true then ((spec_l03Cells.f k l0_1).bind fun t182 => (if t182 = true then ((spec_l03Cells.f k l0_2).bind fun t183 => (if t183 = true then ((spec_l01In.f a0_3 0 32).bind fun t184 => (if t184 = true then ((spec_l01Base.f a0_4).bind fun t185 => (if t185 = true then (some (decide ((a0_5.size : Int) ≤ 300))) else (some false))) else (some false))) else (some false))) else (some false))) else (some false))) else (some false)) else (some false)) else (some false)
theorem spec_l03OK.mono : ∀ a0 a1 a2 a3 a4 a5 k, LeO (spec_l03OK.f k a0 a1 a2 a3 a4 a5) (spec_l03OK.f (k + 1) a0 a1 a2 a3 a4 a5) := by
 intro a0 a1 a2 a3 a4 a5 k
 unfold spec_l03OK.f
 repeat' first
   | (with_reducible exact spec_l03Cells.mono _ _)
   | (with_reducible exact LeO.refl _)
   | (with_reducible exact LeO.none _)
   | (with_reducible refine LeO.ite ?_ ?_)
   | (with_reducible refine LeO.bind ?_ (fun _ => ?_))
   | exact spec_l03Cells.mono _ _
   | exact LeO.none _
   | refine LeO.ite ?_ ?_
   | refine LeO.bind ?_ (fun _ => ?_)
set_option maxHeartbeats 8000000 in
set_option maxRecDepth 100000 in
theorem spec_l03OK.calls (k : Nat) (A0_0 : Option Addr) (c0_0 : Nat) (l0_0 : List Int) (A0_1 : Option Addr) (c0_1 : Nat) (l0_1 : List Int) (A0_2 : Option Addr) (c0_2 : Nat) (l0_2 : List Int) (a0_3 : Int) (a0_4 : Int) (a0_5 : ByteArray) (r : Bool) (w : World) (hr0_0 : Kd.C (Kd.int .i64) w A0_0 l0_0.length l0_0) (hc0_0 : l0_0.length ≤ c0_0) (hr0_1 : Kd.C (Kd.int .i64) w A0_1 l0_1.length l0_1) (hc0_1 : l0_1.length ≤ c0_1) (hr0_2 : Kd.C (Kd.int .i64) w A0_2 l0_2.length l0_2) (hc0_2 : l0_2.length ≤ c0_2) (h : spec_l03OK.f k l0_0 l0_1 l0_2 a0_3 a0_4 a0_5 = some r) :
  Calls Tryz.prog 40 #[.agg #[.slice A0_0 l0_0.length c0_0, .slice A0_1 l0_1.length c0_1, .slice A0_2 l0_2.length c0_2, .int .i64 a0_3, .int .i64 a0_4, .string a0_5]] w fun e w' => e = .returned (.bool r) ∧ Below w.heap.size w w' := by
 have hu36 := Tryz.underlying36
 have HR0_0 := am_ hr0_0
 have HC0_0 := am_ hc0_0
 clear hr0_0 hc0_0
 have HR0_1 := am_ hr0_1
 have HC0_1 := am_ hc0_1
 clear hr0_1 hc0_1
 have HR0_2 := am_ hr0_2
 have HC0_2 := am_ hc0_2
 clear hr0_2 hc0_2
 have HB := am_ (Below.refl w.heap.size w)
 have H : (if (l0_0.length : Int) ≤ 32 then (if (l0_1.length : Int) ≤ 32 then (if (l0_2.length : Int) = 32 then ((spec_l03Cells.f k l0_0).bind fun t181 => (if t181 = true then ((spec_l03Cells.f k l0_1).bind fun t182 => (if t182 = true then ((spec_l03Cells.f k l0_2).bind fun t183 => (if t183 = true then ((spec_l01In.f a0_3 0 32).bind fun t184 => (if t184 = true then ((spec_l01Base.f a0_4).bind fun t185 => (if t185 = true then (some (decide ((a0_5.size : Int) ≤ 300))) else (some false))) else (some false))) else (some false))) else (some false))) else (some false))) else (some false)) else (some false)) else (some false)) = some r := h
 clear h
 by_cases c2 : (l0_0.length : Int) ≤ 32
 ·rw [if_pos c2] at H
  have c2b0 : decide ((l0_0.length : Int) ≤ 32) = true := decide_eq_true c2
  have c2b1 : decide (l0_0.length ≤ 32) = true := decide_eq_true (by omega)
  clear c2
  by_cases c3 : (l0_1.length : Int) ≤ 32
  ·rw [if_pos c3] at H
   have c3b0 : decide ((l0_1.length : Int) ≤ 32) = true := decide_eq_true c3
   have c3b1 : decide (l0_1.length ≤ 32) = true := decide_eq_true (by omega)
   clear c3
   by_cases c4 : (l0_2.length : Int) = 32
   ·rw [if_pos c4] at H
    have c4b0 : ((l0_2.length : Int) == 32) = true := beq_iff_eq.mpr c4
    have c4b1 : ((l0_2.length : Int) != 32) = false := bne_eq_false_iff_eq.mpr c4
    clear c4
    replace H := Option.bind_eq_some_iff.mp H
    obtain ⟨t181, A50, H⟩ := H
    replace H : (if t181 = true then ((spec_l03Cells.f k l0_1).bind fun t182 => (if t182 = true then ((spec_l03Cells.f k l0_2).bind fun t183 => (if t183 = true then ((spec_l01In.f a0_3 0 32).bind fun t184 => (if t184 = true then ((spec_l01Base.f a0_4).bind fun t185 => (if t185 = true then (some (decide ((a0_5.size : Int) ≤ 300))) else (some false))) else (some false))) else (some false))) else (some false))) else (some false)) = some r := H
    have A5 := am_ A50
    clear A50
    by_cases c6 : t181 = true
    ·subst c6
     have H1 : ((spec_l03Cells.f k l0_1).bind fun t182 => (if t182 = true then ((spec_l03Cells.f k l0_2).bind fun t183 => (if t183 = true then ((spec_l01In.f a0_3 0 32).bind fun t184 => (if t184 = true then ((spec_l01Base.f a0_4).bind fun t185 => (if t185 = true then (some (decide ((a0_5.size : Int) ≤ 300))) else (some false))) else (some false))) else (some false))) else (some false))) = some r := by rw [if_pos rfl] at H; first | done | exact H
     clear H
     have H := H1
     clear H1
     replace H := Option.bind_eq_some_iff.mp H
     obtain ⟨t182, A70, H⟩ := H
     replace H : (if t182 = true then ((spec_l03Cells.f k l0_2).bind fun t183 => (if t183 = true then ((spec_l01In.f a0_3 0 32).bind fun t184 => (if t184 = true then ((spec_l01Base.f a0_4).bind fun t185 => (if t185 = true then (some (decide ((a0_5.size : Int) ≤ 300))) else (some false))) else (some false))) else (some false))) else (some false)) = some r := H
     have A7 := am_ A70
     clear A70
     by_cases c8 : t182 = true
     ·subst c8
      have H1 : ((spec_l03Cells.f k l0_2).bind fun t183 => (if t183 = true then ((spec_l01In.f a0_3 0 32).bind fun t184 => (if t184 = true then ((spec_l01Base.f a0_4).bind fun t185 => (if t185 = true then (some (decide ((a0_5.size : Int) ≤ 300))) else (some false))) else (some false))) else (some false))) = some r := by rw [if_pos rfl] at H; first | done | exact H
      clear H
      have H := H1
      clear H1
      replace H := Option.bind_eq_some_iff.mp H
      obtain ⟨t183, A90, H⟩ := H
      replace H : (if t183 = true then ((spec_l01In.f a0_3 0 32).bind fun t184 => (if t184 = true then ((spec_l01Base.f a0_4).bind fun t185 => (if t185 = true then (some (decide ((a0_5.size : Int) ≤ 300))) else (some false))) else (some false))) else (some false)) = some r := H
      have A9 := am_ A90
      clear A90
      by_cases c10 : t183 = true
      ·subst c10
       have H1 : ((spec_l01In.f a0_3 0 32).bind fun t184 => (if t184 = true then ((spec_l01Base.f a0_4).bind fun t185 => (if t185 = true then (some (decide ((a0_5.size : Int) ≤ 300))) else (some false))) else (some false))) = some r := by rw [if_pos rfl] at H; first | done | exact H
       clear H
       have H := H1
       clear H1
       replace H := Option.bind_eq_some_iff.mp H
       obtain ⟨t184, A110, H⟩ := H
       replace H : (if t184 = true then ((spec_l01Base.f a0_4).bind fun t185 => (if t185 = true then (some (decide ((a0_5.size : Int) ≤ 300))) else (some false))) else (some false)) = some r := H
       have A11 := am_ A110
       clear A110
       by_cases c12 : t184 = true
       ·subst c12
        have H1 : ((spec_l01Base.f a0_4).bind fun t185 => (if t185 = true then (some (decide ((a0_5.size : Int) ≤ 300))) else (some false))) = some r := by rw [if_pos rfl] at H; first | done | exact H
        clear H
        have H := H1
        clear H1
        replace H := Option.bind_eq_some_iff.mp H
        obtain ⟨t185, A130, H⟩ := H
        replace H : (if t185 = true then (some (decide ((a0_5.size : Int) ≤ 300))) else (some false)) = some r := H
        have A13 := am_ A130
        clear A130
        by_cases c14 : t185 = true
        ·subst c14
         have H1 : (some (decide ((a0_5.size : Int) ≤ 300))) = some r := by rw [if_pos rfl] at H; first | done | exact H
         clear H
         have H := H1
         clear H1
         obtain rfl := Option.some.inj H
         go_enter Tryz.func40, Tryz.ntmps40
         go_wp2_with (first | ((with_reducible refine gate_dst (N := 1) rfl ?_); (try (refine gate_guard (by rfl) ?_; dsimp only)); refine box_event ?hg (N := 1) ?hd (cs := #[.slice A0_0 l0_0.length c0_0, .slice A0_1 l0_1.length c0_1, .slice A0_2 l0_2.length c0_2, .int .i64 a0_3, .int .i64 a0_4, .string a0_5]) (t := 36) ?hr ?_; (case hd => rfl); (case hg => rfl); (case hr => first | (go_simp; done) | (go_simp; rfl)); intro gb180 hg w15 hbox hb; have BK180 := am_ (hbox); have GW180 := am_ ((ybsz_ hg : w.heap.size ≤ gb180)); have GE180 := GW180; replace HB := yst_ hb; clear hb hbox hg; have hcz16 := ye6_ BK180; have hfz16 := yf6_ BK180) | (go_at_call 39; (with_reducible refine (spec_l03Cells.calls k _ _ l0_0 true _ ?side1 HC0_0.out A5.out).mono ?_); (case side1 => exact ycb_ HR0_0 HB); rintro e w' ⟨rfl, ⟨nd, rfl⟩⟩) | (go_at_call 39; (with_reducible refine (spec_l03Cells.calls k _ _ l0_1 true _ ?side1 HC0_1.out A7.out).mono ?_); (case side1 => exact yscq_ HR0_1); rintro e w' ⟨rfl, ⟨nd, rfl⟩⟩) | (go_at_call 39; (with_reducible refine (spec_l03Cells.calls k _ _ l0_2 true _ ?side1 HC0_2.out A9.out).mono ?_); (case side1 => exact yscq_ HR0_2); rintro e w' ⟨rfl, ⟨nd, rfl⟩⟩) | (go_at_call 43; (with_reducible refine (spec_l01In.calls a0_3 0 32 true _ A11.out).mono ?_); rintro e w' ⟨rfl, ⟨nd, rfl⟩⟩) | (go_at_call 76; (with_reducible refine (spec_l01Base.calls a0_4 true _ A13.out).mono ?_); rintro e w' ⟨rfl, ⟨nd, rfl⟩⟩))
         go_ret
         exact ⟨yk0_, ybl_⟩
        ·replace c14 := Bool.eq_false_iff.mpr c14
         subst c14
         have H1 : (some false) = some r := by rw [if_neg (show ¬ (false = true) by decide)] at H; first | done | exact H
         clear H
         have H := H1
         clear H1
         obtain rfl := Option.some.inj H
         go_enter Tryz.func40, Tryz.ntmps40
         go_wp2_with (first | ((with_reducible refine gate_dst (N := 1) rfl ?_); (try (refine gate_guard (by rfl) ?_; dsimp only)); refine box_event ?hg (N := 1) ?hd (cs := #[.slice A0_0 l0_0.length c0_0, .slice A0_1 l0_1.length c0_1, .slice A0_2 l0_2.length c0_2, .int .i64 a0_3, .int .i64 a0_4, .string a0_5]) (t := 36) ?hr ?_; (case hd => rfl); (case hg => rfl); (case hr => first | (go_simp; done) | (go_simp; rfl)); intro gb180 hg w17 hbox hb; have BK180 := am_ (hbox); have GW180 := am_ ((ybsz_ hg : w.heap.size ≤ gb180)); have GE180 := GW180; replace HB := yst_ hb; clear hb hbox hg; have hcz18 := ye6_ BK180; have hfz18 := yf6_ BK180) | (go_at_call 39; (with_reducible refine (spec_l03Cells.calls k _ _ l0_0 true _ ?side1 HC0_0.out A5.out).mono ?_); (case side1 => exact ycb_ HR0_0 HB); rintro e w' ⟨rfl, ⟨nd, rfl⟩⟩) | (go_at_call 39; (with_reducible refine (spec_l03Cells.calls k _ _ l0_1 true _ ?side1 HC0_1.out A7.out).mono ?_); (case side1 => exact yscq_ HR0_1); rintro e w' ⟨rfl, ⟨nd, rfl⟩⟩) | (go_at_call 39; (with_reducible refine (spec_l03Cells.calls k _ _ l0_2 true _ ?side1 HC0_2.out A9.out).mono ?_); (case side1 => exact yscq_ HR0_2); rintro e w' ⟨rfl, ⟨nd, rfl⟩⟩) | (go_at_call 43; (with_reducible refine (spec_l01In.calls a0_3 0 32 true _ A11.out).mono ?_); rintro e w' ⟨rfl, ⟨nd, rfl⟩⟩) | (go_at_call 76; (with_reducible refine (spec_l01Base.calls a0_4 false _ A13.out).mono ?_); rintro e w' ⟨rfl, ⟨nd, rfl⟩⟩))
         go_ret
         exact ⟨yk0_, ybl_⟩
       ·replace c12 := Bool.eq_false_iff.mpr c12
        subst c12
        have H1 : (some false) = some r := by rw [if_neg (show ¬ (false = true) by decide)] at H; first | done | exact H
        clear H
        have H := H1
        clear H1
        obtain rfl := Option.some.inj H
        go_enter Tryz.func40, Tryz.ntmps40
        go_wp2_with (first | ((with_reducible refine gate_dst (N := 1) rfl ?_); (try (refine gate_guard (by rfl) ?_; dsimp only)); refine box_event ?hg (N := 1) ?hd (cs := #[.slice A0_0 l0_0.length c0_0, .slice A0_1 l0_1.length c0_1, .slice A0_2 l0_2.length c0_2, .int .i64 a0_3, .int .i64 a0_4, .string a0_5]) (t := 36) ?hr ?_; (case hd => rfl); (case hg => rfl); (case hr => first | (go_simp; done) | (go_simp; rfl)); intro gb180 hg w19 hbox hb; have BK180 := am_ (hbox); have GW180 := am_ ((ybsz_ hg : w.heap.size ≤ gb180)); have GE180 := GW180; replace HB := yst_ hb; clear hb hbox hg; have hcz20 := ye6_ BK180; have hfz20 := yf6_ BK180) | (go_at_call 39; (with_reducible refine (spec_l03Cells.calls k _ _ l0_0 true _ ?side1 HC0_0.out A5.out).mono ?_); (case side1 => exact ycb_ HR0_0 HB); rintro e w' ⟨rfl, ⟨nd, rfl⟩⟩) | (go_at_call 39; (with_reducible refine (spec_l03Cells.calls k _ _ l0_1 true _ ?side1 HC0_1.out A7.out).mono ?_); (case side1 => exact yscq_ HR0_1); rintro e w' ⟨rfl, ⟨nd, rfl⟩⟩) | (go_at_call 39; (with_reducible refine (spec_l03Cells.calls k _ _ l0_2 true _ ?side1 HC0_2.out A9.out).mono ?_); (case side1 => exact yscq_ HR0_2); rintro e w' ⟨rfl, ⟨nd, rfl⟩⟩) | (go_at_call 43; (with_reducible refine (spec_l01In.calls a0_3 0 32 false _ A11.out).mono ?_); rintro e w' ⟨rfl, ⟨nd, rfl⟩⟩))
        go_ret
        exact ⟨yk0_, ybl_⟩
      ·replace c10 := Bool.eq_false_iff.mpr c10
       subst c10
       have H1 : (some false) = some r := by rw [if_neg (show ¬ (false = true) by decide)] at H; first | done | exact H
       clear H
       have H := H1
       clear H1
       obtain rfl := Option.some.inj H
       go_enter Tryz.func40, Tryz.ntmps40
       go_wp2_with (first | ((with_reducible refine gate_dst (N := 1) rfl ?_); (try (refine gate_guard (by rfl) ?_; dsimp only)); refine box_event ?hg (N := 1) ?hd (cs := #[.slice A0_0 l0_0.length c0_0, .slice A0_1 l0_1.length c0_1, .slice A0_2 l0_2.length c0_2, .int .i64 a0_3, .int .i64 a0_4, .string a0_5]) (t := 36) ?hr ?_; (case hd => rfl); (case hg => rfl); (case hr => first | (go_simp; done) | (go_simp; rfl)); intro gb180 hg w21 hbox hb; have BK180 := am_ (hbox); have GW180 := am_ ((ybsz_ hg : w.heap.size ≤ gb180)); have GE180 := GW180; replace HB := yst_ hb; clear hb hbox hg; have hcz22 := ye6_ BK180; have hfz22 := yf6_ BK180) | (go_at_call 39; (with_reducible refine (spec_l03Cells.calls k _ _ l0_0 true _ ?side1 HC0_0.out A5.out).mono ?_); (case side1 => exact ycb_ HR0_0 HB); rintro e w' ⟨rfl, ⟨nd, rfl⟩⟩) | (go_at_call 39; (with_reducible refine (spec_l03Cells.calls k _ _ l0_1 true _ ?side1 HC0_1.out A7.out).mono ?_); (case side1 => exact yscq_ HR0_1); rintro e w' ⟨rfl, ⟨nd, rfl⟩⟩) | (go_at_call 39; (with_reducible refine (spec_l03Cells.calls k _ _ l0_2 false _ ?side1 HC0_2.out A9.out).mono ?_); (case side1 => exact yscq_ HR0_2); rintro e w' ⟨rfl, ⟨nd, rfl⟩⟩))
       go_ret
       exact ⟨yk0_, ybl_⟩
     ·replace c8 := Bool.eq_false_iff.mpr c8
      subst c8
      have H1 : (some false) = some r := by rw [if_neg (show ¬ (false = true) by decide)] at H; first | done | exact H
      clear H
      have H := H1
      clear H1
      obtain rfl := Option.some.inj H
      go_enter Tryz.func40, Tryz.ntmps40
      go_wp2_with (first | ((with_reducible refine gate_dst (N := 1) rfl ?_); (try (refine gate_guard (by rfl) ?_; dsimp only)); refine box_event ?hg (N := 1) ?hd (cs := #[.slice A0_0 l0_0.length c0_0, .slice A0_1 l0_1.length c0_1, .slice A0_2 l0_2.length c0_2, .int .i64 a0_3, .int .i64 a0_4, .string a0_5]) (t := 36) ?hr ?_; (case hd => rfl); (case hg => rfl); (case hr => first | (go_simp; done) | (go_simp; rfl)); intro gb180 hg w23 hbox hb; have BK180 := am_ (hbox); have GW180 := am_ ((ybsz_ hg : w.heap.size ≤ gb180)); have GE180 := GW180; replace HB := yst_ hb; clear hb hbox hg; have hcz24 := ye6_ BK180; have hfz24 := yf6_ BK180) | (go_at_call 39; (with_reducible refine (spec_l03Cells.calls k _ _ l0_0 true _ ?side1 HC0_0.out A5.out).mono ?_); (case side1 => exact ycb_ HR0_0 HB); rintro e w' ⟨rfl, ⟨nd, rfl⟩⟩) | (go_at_call 39; (with_reducible refine (spec_l03Cells.calls k _ _ l0_1 false _ ?side1 HC0_1.out A7.out).mono ?_); (case side1 => exact yscq_ HR0_1); rintro e w' ⟨rfl, ⟨nd, rfl⟩⟩))
      go_ret
      exact ⟨yk0_, ybl_⟩
    ·replace c6 := Bool.eq_false_iff.mpr c6
     subst c6
     have H1 : (some false) = some r := by rw [if_neg (show ¬ (false = true) by decide)] at H; first | done | exact H
     clear H
     have H := H1
     clear H1
     obtain rfl := Option.some.inj H
     go_enter Tryz.func40, Tryz.ntmps40
     go_wp2_with (first | ((with_reducible refine gate_dst (N := 1) rfl ?_); (try (refine gate_guard (by rfl) ?_; dsimp only)); refine box_event ?hg (N := 1) ?hd (cs := #[.slice A0_0 l0_0.length c0_0, .slice A0_1 l0_1.length c0_1, .slice A0_2 l0_2.length c0_2, .int .i64 a0_3, .int .i64 a0_4, .string a0_5]) (t := 36) ?hr ?_; (case hd => rfl); (case hg => rfl); (case hr => first | (go_simp; done) | (go_simp; rfl)); intro gb180 hg w25 hbox hb; have BK180 := am_ (hbox); have GW180 := am_ ((ybsz_ hg : w.heap.size ≤ gb180)); have GE180 := GW180; replace HB := yst_ hb; clear hb hbox hg; have hcz26 := ye6_ BK180; have hfz26 := yf6_ BK180) | (go_at_call 39; (with_reducible refine (spec_l03Cells.calls k _ _ l0_0 false _ ?side1 HC0_0.out A5.out).mono ?_); (case side1 => exact ycb_ HR0_0 HB); rintro e w' ⟨rfl, ⟨nd, rfl⟩⟩))
     go_ret
     exact ⟨yk0_, ybl_⟩
   ·rw [if_neg c4] at H
    have c4b0 : ((l0_2.length : Int) == 32) = false := beq_eq_false_iff_ne.mpr c4
    have c4b1 : ((l0_2.length : Int) != 32) = true := bne_iff_ne.mpr c4
    obtain rfl := Option.some.inj H
    go_enter Tryz.func40, Tryz.ntmps40
    go_wp2_with (first | ((with_reducible refine gate_dst (N := 1) rfl ?_); (try (refine gate_guard (by rfl) ?_; dsimp only)); refine box_event ?hg (N := 1) ?hd (cs := #[.slice A0_0 l0_0.length c0_0, .slice A0_1 l0_1.length c0_1, .slice A0_2 l0_2.length c0_2, .int .i64 a0_3, .int .i64 a0_4, .string a0_5]) (t := 36) ?hr ?_; (case hd => rfl); (case hg => rfl); (case hr => first | (go_simp; done) | (go_simp; rfl)); intro gb180 hg w27 hbox hb; have BK180 := am_ (hbox); have GW180 := am_ ((ybsz_ hg : w.heap.size ≤ gb180)); have GE180 := GW180; replace HB := yst_ hb; clear hb hbox hg; have hcz28 := ye6_ BK180; have hfz28 := yf6_ BK180))
    go_ret
    exact ⟨yk0_, ybl_⟩
  ·rw [if_neg c3] at H
   have c3b0 : decide ((l0_1.length : Int) ≤ 32) = false := decide_eq_false c3
   have c3b1 : decide (l0_1.length ≤ 32) = false := decide_eq_false (by omega)
   clear c3
   obtain rfl := Option.some.inj H
   go_enter Tryz.func40, Tryz.ntmps40
   go_wp2_with (first | ((with_reducible refine gate_dst (N := 1) rfl ?_); (try (refine gate_guard (by rfl) ?_; dsimp only)); refine box_event ?hg (N := 1) ?hd (cs := #[.slice A0_0 l0_0.length c0_0, .slice A0_1 l0_1.length c0_1, .slice A0_2 l0_2.length c0_2, .int .i64 a0_3, .int .i64 a0_4, .string a0_5]) (t := 36) ?hr ?_; (case hd => rfl); (case hg => rfl); (case hr => first | (go_simp; done) | (go_simp; rfl)); intro gb180 hg w29 hbox hb; have BK180 := am_ (hbox); have GW180 := am_ ((ybsz_ hg : w.heap.size ≤ gb180)); have GE180 := GW180; replace HB := yst_ hb; clear hb hbox hg; have hcz30 := ye6_ BK180; have hfz30 := yf6_ BK180))
   go_ret
   exact ⟨yk0_, ybl_⟩
 ·rw [if_neg c2] at H
  have c2b0 : decide ((l0_0.length : Int) ≤ 32) = false := decide_eq_false c2
  have c2b1 : decide (l0_0.length ≤ 32) = false := decide_eq_false (by omega)
  clear c2
  obtain rfl := Option.some.inj H
  go_enter Tryz.func40, Tryz.ntmps40
  go_wp2_with (first | ((with_reducible refine gate_dst (N := 1) rfl ?_); (try (refine gate_guard (by rfl) ?_; dsimp only)); refine box_event ?hg (N := 1) ?hd (cs := #[.slice A0_0 l0_0.length c0_0, .slice A0_1 l0_1.length c0_1, .slice A0_2 l0_2.length c0_2, .int .i64 a0_3, .int .i64 a0_4, .string a0_5]) (t := 36) ?hr ?_; (case hd => rfl); (case hg => rfl); (case hr => first | (go_simp; done) | (go_simp; rfl)); intro gb180 hg w31 hbox hb; have BK180 := am_ (hbox); have GW180 := am_ ((ybsz_ hg : w.heap.size ≤ gb180)); have GE180 := GW180; replace HB := yst_ hb; clear hb hbox hg; have hcz32 := ye6_ BK180; have hfz32 := yf6_ BK180))
  go_ret
  exact ⟨yk0_, ybl_⟩

/-! ### spec_l06Deed: function 77 -/
def spec_l06Deed.f (a0_0 : Int) (a0_1 : Int) (a0_2 : Int) (a0_3 : Int) : Option (Bool) := (spec_l01In.f a0_0 0 3).bind fun t187 => (if t187 = true then ((spec_l01Cell.f a0_1).bind fun t188 => (if t188 = true then ((spec_l01Cell.f a0_2).bind fun t189 => (if t189 = true then ((spec_l01Cell.f a0_3).bind fun t190 => (some t190)) else (some false))) else (some false))) else (some false))
set_option maxHeartbeats 8000000 in
set_option maxRecDepth 100000 in
theorem spec_l06Deed.calls (a0_0 : Int) (a0_1 : Int) (a0_2 : Int) (a0_3 : Int) (r : Bool) (w : World) (h : spec_l06Deed.f a0_0 a0_1 a0_2 a0_3 = some r) :
  Calls Tryz.prog 77 #[.agg #[.int .i64 a0_0, .int .i64 a0_1, .int .i64 a0_2, .int .i64 a0_3]] w fun e w' => e = .returned (.bool r) ∧ Below w.heap.size w w' := by
 have hu88 := Tryz.underlying88
 have HB := am_ (Below.refl w.heap.size w)
 have H : ((spec_l01In.f a0_0 0 3).bind fun t187 => (if t187 = true then ((spec_l01Cell.f a0_1).bind fun t188 => (if t188 = true then ((spec_l01Cell.f a0_2).bind fun t189 => (if t189 = true then ((spec_l01Cell.f a0_3).bind fun t190 => (some t190)) else (some false))) else (some false))) else (some false))) = some r := h
 clear h
 replace H := Option.bind_eq_some_iff.mp H
 obtain ⟨t187, A20, H⟩ := H
 replace H : (if t187 = true then ((spec_l01Cell.f a0_1).bind fun t188 => (if t188 = true then ((spec_l01Cell.f a0_2).bind fun t189 => (if t189 = true then ((spec_l01Cell.f a0_3).bind fun t190 => (some t190)) else (some false))) else (some false))) else (some false)) = some r := H
 have A2 := am_ A20
 clear A20
 by_cases c3 : t187 = true
 ·subst c3
  have H1 : ((spec_l01Cell.f a0_1).bind fun t188 => (if t188 = true then ((spec_l01Cell.f a0_2).bind fun t189 => (if t189 = true then ((spec_l01Cell.f a0_3).bind fun t190 => (some t190)) else (some false))) else (some false))) = some r := by rw [if_pos rfl] at H; first | done | exact H
  clear H
  have H := H1
  clear H1
  replace H := Option.bind_eq_some_iff.mp H
  obtain ⟨t188, A40, H⟩ := H
  replace H : (if t188 = true then ((spec_l01Cell.f a0_2).bind fun t189 => (if t189 = true then ((spec_l01Cell.f a0_3).bind fun t190 => (some t190)) else (some false))) else (some false)) = some r := H
  have A4 := am_ A40
  clear A40
  by_cases c5 : t188 = true
  ·subst c5
   have H1 : ((spec_l01Cell.f a0_2).bind fun t189 => (if t189 = true then ((spec_l01Cell.f a0_3).bind fun t190 => (some t190)) else (some false))) = some r := by rw [if_pos rfl] at H; first | done | exact H
   clear H
   have H := H1
   clear H1
   replace H := Option.bind_eq_some_iff.mp H
   obtain ⟨t189, A60, H⟩ := H
   replace H : (if t189 = true then ((spec_l01Cell.f a0_3).bind fun t190 => (some t190)) else (some false)) = some r := H
   have A6 := am_ A60
   clear A60
   by_cases c7 : t189 = true
   ·subst c7
    have H1 : ((spec_l01Cell.f a0_3).bind fun t190 => (some t190)) = some r := by rw [if_pos rfl] at H; first | done | exact H
    clear H
    have H := H1
    clear H1
    replace H := Option.bind_eq_some_iff.mp H
    obtain ⟨t190, A80, H⟩ := H
    replace H : (some t190) = some r := H
    have A8 := am_ A80
    clear A80
    obtain rfl := Option.some.inj H
    go_enter Tryz.func77, Tryz.ntmps77
    go_wp2_with (first | ((with_reducible refine gate_dst (N := 1) rfl ?_); refine box_event ?hg (N := 1) ?hd (cs := #[.int .i64 a0_0, .int .i64 a0_1, .int .i64 a0_2, .int .i64 a0_3]) (t := 88) ?hr ?_; (case hd => rfl); (case hg => rfl); (case hr => first | (go_simp; done) | (go_simp; rfl)); intro gb186 hg w9 hbox hb; have BK186 := am_ (hbox); have GW186 := am_ ((ybsz_ hg : w.heap.size ≤ gb186)); have GE186 := GW186; replace HB := yst_ hb; clear hb hbox hg; have hcz10 := ye4_ BK186; have hfz10 := yf4_ BK186) | ((with_reducible refine gate_callee (f := 43) rfl ?_); refine goesL_ (some 5) rfl rfl Tryz.func43 (by kernel_rfl) rfl #[.int .i64 a0_0, .int .i64 0, .int .i64 3] rfl yk1_ ?_; (with_reducible refine (spec_l01In.calls a0_0 0 3 true _ A2.out).mono ?_); rintro e w' ⟨rfl, ⟨nd, rfl⟩⟩; refine ⟨_, rfl, ?_⟩) | (go_at_call 75; (with_reducible refine (spec_l01Cell.calls a0_1 true _ A4.out).mono ?_); rintro e w' ⟨rfl, ⟨nd, rfl⟩⟩) | (go_at_call 75; (with_reducible refine (spec_l01Cell.calls a0_2 true _ A6.out).mono ?_); rintro e w' ⟨rfl, ⟨nd, rfl⟩⟩) | (go_at_call 75; (with_reducible refine (spec_l01Cell.calls a0_3 t190 _ A8.out).mono ?_); rintro e w' ⟨rfl, ⟨nd, rfl⟩⟩))
    go_ret
    exact ⟨yk0_, ybl_⟩
   ·replace c7 := Bool.eq_false_iff.mpr c7
    subst c7
    have H1 : (some false) = some r := by rw [if_neg (show ¬ (false = true) by decide)] at H; first | done | exact H
    clear H
    have H := H1
    clear H1
    obtain rfl := Option.some.inj H
    go_enter Tryz.func77, Tryz.ntmps77
    go_wp2_with (first | ((with_reducible refine gate_dst (N := 1) rfl ?_); refine box_event ?hg (N := 1) ?hd (cs := #[.int .i64 a0_0, .int .i64 a0_1, .int .i64 a0_2, .int .i64 a0_3]) (t := 88) ?hr ?_; (case hd => rfl); (case hg => rfl); (case hr => first | (go_simp; done) | (go_simp; rfl)); intro gb186 hg w11 hbox hb; have BK186 := am_ (hbox); have GW186 := am_ ((ybsz_ hg : w.heap.size ≤ gb186)); have GE186 := GW186; replace HB := yst_ hb; clear hb hbox hg; have hcz12 := ye4_ BK186; have hfz12 := yf4_ BK186) | ((with_reducible refine gate_callee (f := 43) rfl ?_); refine goesL_ (some 5) rfl rfl Tryz.func43 (by kernel_rfl) rfl #[.int .i64 a0_0, .int .i64 0, .int .i64 3] rfl yk1_ ?_; (with_reducible refine (spec_l01In.calls a0_0 0 3 true _ A2.out).mono ?_); rintro e w' ⟨rfl, ⟨nd, rfl⟩⟩; refine ⟨_, rfl, ?_⟩) | (go_at_call 75; (with_reducible refine (spec_l01Cell.calls a0_1 true _ A4.out).mono ?_); rintro e w' ⟨rfl, ⟨nd, rfl⟩⟩) | (go_at_call 75; (with_reducible refine (spec_l01Cell.calls a0_2 false _ A6.out).mono ?_); rintro e w' ⟨rfl, ⟨nd, rfl⟩⟩))
    go_ret
    exact ⟨yk0_, ybl_⟩
  ·replace c5 := Bool.eq_false_iff.mpr c5
   subst c5
   have H1 : (some false) = some r := by rw [if_neg (show ¬ (false = true) by decide)] at H; first | done | exact H
   clear H
   have H := H1
   clear H1
   obtain rfl := Option.some.inj H
   go_enter Tryz.func77, Tryz.ntmps77
   go_wp2_with (first | ((with_reducible refine gate_dst (N := 1) rfl ?_); refine box_event ?hg (N := 1) ?hd (cs := #[.int .i64 a0_0, .int .i64 a0_1, .int .i64 a0_2, .int .i64 a0_3]) (t := 88) ?hr ?_; (case hd => rfl); (case hg => rfl); (case hr => first | (go_simp; done) | (go_simp; rfl)); intro gb186 hg w13 hbox hb; have BK186 := am_ (hbox); have GW186 := am_ ((ybsz_ hg : w.heap.size ≤ gb186)); have GE186 := GW186; replace HB := yst_ hb; clear hb hbox hg; have hcz14 := ye4_ BK186; have hfz14 := yf4_ BK186) | ((with_reducible refine gate_callee (f := 43) rfl ?_); refine goesL_ (some 5) rfl rfl Tryz.func43 (by kernel_rfl) rfl #[.int .i64 a0_0, .int .i64 0, .int .i64 3] rfl yk1_ ?_; (with_reducible refine (spec_l01In.calls a0_0 0 3 true _ A2.out).mono ?_); rintro e w' ⟨rfl, ⟨nd, rfl⟩⟩; refine ⟨_, rfl, ?_⟩) | (go_at_call 75; (with_reducible refine (spec_l01Cell.calls a0_1 false _ A4.out).mono ?_); rintro e w' ⟨rfl, ⟨nd, rfl⟩⟩))
   go_ret
   exact ⟨yk0_, ybl_⟩
 ·replace c3 := Bool.eq_false_iff.mpr c3
  subst c3
  have H1 : (some false) = some r := by rw [if_neg (show ¬ (false = true) by decide)] at H; first | done | exact H
  clear H
  have H := H1
  clear H1
  obtain rfl := Option.some.inj H
  go_enter Tryz.func77, Tryz.ntmps77
  go_wp2_with (first | ((with_reducible refine gate_dst (N := 1) rfl ?_); refine box_event ?hg (N := 1) ?hd (cs := #[.int .i64 a0_0, .int .i64 a0_1, .int .i64 a0_2, .int .i64 a0_3]) (t := 88) ?hr ?_; (case hd => rfl); (case hg => rfl); (case hr => first | (go_simp; done) | (go_simp; rfl)); intro gb186 hg w15 hbox hb; have BK186 := am_ (hbox); have GW186 := am_ ((ybsz_ hg : w.heap.size ≤ gb186)); have GE186 := GW186; replace HB := yst_ hb; clear hb hbox hg; have hcz16 := ye4_ BK186; have hfz16 := yf4_ BK186) | ((with_reducible refine gate_callee (f := 43) rfl ?_); refine goesL_ (some 5) rfl rfl Tryz.func43 (by kernel_rfl) rfl #[.int .i64 a0_0, .int .i64 0, .int .i64 3] rfl yk1_ ?_; (with_reducible refine (spec_l01In.calls a0_0 0 3 false _ A2.out).mono ?_); rintro e w' ⟨rfl, ⟨nd, rfl⟩⟩; refine ⟨_, rfl, ?_⟩))
  go_ret
  exact ⟨yk0_, ybl_⟩

end Go.Proofs.YtbbfahkmjfmmjaaGreatDoor.PMOK
