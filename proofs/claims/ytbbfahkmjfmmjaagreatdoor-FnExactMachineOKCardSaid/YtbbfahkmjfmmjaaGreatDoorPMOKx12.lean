-- laid by a program of this session out of the translation's own print: Lean checks it
import Derived.Test.YtbbfahkmjfmmjaaGreatDoorPMOKx0
import Derived.Test.YtbbfahkmjfmmjaaGreatDoorPMOKx10
import Derived.Test.YtbbfahkmjfmmjaaGreatDoorPMOKx11
namespace Go.Proofs.YtbbfahkmjfmmjaaGreatDoor.PMOK
open Go.RowKit Go.Proofs.YtbbfahkmjfmmjaaGreatDoorW.PrintWords Go.Proofs.YtbbfahkmjfmmjaaGreatDoorW.PrintLast Go.Proofs.YtbbfahkmjfmmjaaGreatDoorW.PrintMore
attribute [local go_sem] max2_int min2_int max_two min_two max_three min_three max_four min_four   -- for this text's walks alone
set_option linter.unusedVariables false
set_option linter.unusedSimpArgs false

/-! ### slices_IndexFunc_Deed_at_impl_HostOK_1: function 158 -/
def slices_IndexFunc_Deed_at_impl_HostOK_1.l0 : Nat → List (S88) → Int → Int → Option (Int)
 | 0, _, _, _ => none
 | k + 1, x0, x7, x8 => if x8 < x7 then (if 0 ≤ x8 then (if x8 < (x0.length : Int) then ((impl_HostOK_1.f ((rd_T88 x0 x8).f0) ((rd_T88 x0 x8).f1) ((rd_T88 x0 x8).f2) ((rd_T88 x0 x8).f3)).bind fun t398 => (if t398 = true then (some x8) else (slices_IndexFunc_Deed_at_impl_HostOK_1.l0 k x0 x7 (wrap64 (x8 + 1))))) else (none)) else (none)) else (some (-1))
def slices_IndexFunc_Deed_at_impl_HostOK_1.f (k : Nat) (l0 : List (S88))  : Option (Int) := slices_IndexFunc_Deed_at_impl_HostOK_1.l0 k l0 (l0.length : Int) 0
theorem slices_IndexFunc_Deed_at_impl_HostOK_1.mono_l : ∀ k, (∀ y0 y1 y2, LeO (slices_IndexFunc_Deed_at_impl_HostOK_1.l0 k y0 y1 y2) (slices_IndexFunc_Deed_at_impl_HostOK_1.l0 (k + 1) y0 y1 y2))
 | 0 => fun _ _ _ r h => by simp [slices_IndexFunc_Deed_at_impl_HostOK_1.l0] at h
 | k + 1 => by
  have ih0 := slices_IndexFunc_Deed_at_impl_HostOK_1.mono_l k
  ·intro y0 y1 y2
   unfold slices_IndexFunc_Deed_at_impl_HostOK_1.l0
   repeat' first
   | (with_reducible exact ih0 _ _ _)
   | (with_reducible exact LeO.refl _)
   | (with_reducible exact LeO.none _)
   | (with_reducible refine LeO.ite ?_ ?_)
   | (with_reducible refine LeO.bind ?_ (fun _ => ?_))
   | exact ih0 _ _ _
   | exact LeO.none _
   | refine LeO.ite ?_ ?_
   | refine LeO.bind ?_ (fun _ => ?_)
theorem slices_IndexFunc_Deed_at_impl_HostOK_1.mono : ∀ a0 k, LeO (slices_IndexFunc_Deed_at_impl_HostOK_1.f k a0) (slices_IndexFunc_Deed_at_impl_HostOK_1.f (k + 1) a0) := by
 intro a0 k
 have ih0 := slices_IndexFunc_Deed_at_impl_HostOK_1.mono_l k
 unfold slices_IndexFunc_Deed_at_impl_HostOK_1.f
 repeat' first
   | (with_reducible exact ih0 _ _ _)
   | (with_reducible exact LeO.refl _)
   | (with_reducible exact LeO.none _)
   | (with_reducible refine LeO.ite ?_ ?_)
   | (with_reducible refine LeO.bind ?_ (fun _ => ?_))
   | exact ih0 _ _ _
   | exact LeO.none _
   | refine LeO.ite ?_ ?_
   | refine LeO.bind ?_ (fun _ => ?_)
set_option maxHeartbeats 8000000 in
set_option maxRecDepth 100000 in
theorem slices_IndexFunc_Deed_at_impl_HostOK_1.calls (k : Nat) (A0 : Option Addr) (c0 : Nat) (l0 : List (S88))  (r : Int) (w : World) (hr0 : Kd.C k88 w A0 l0.length l0) (hc0 : l0.length ≤ c0) (h : slices_IndexFunc_Deed_at_impl_HostOK_1.f k l0 = some r) :
  Calls Tryz.prog 85 #[.slice A0 l0.length c0, .func (.func 58) #[] #[]] w fun e w' => e = .returned (.int .i64 r) ∧ Below w.heap.size w w' := by
 have hu88 := Tryz.underlying88
 have HR0 := am_ hr0
 have HC0 := am_ hc0
 clear hr0 hc0
 have HB := am_ (Below.refl w.heap.size w)
 have H : (slices_IndexFunc_Deed_at_impl_HostOK_1.l0 k l0 (l0.length : Int) 0) = some r := h
 clear h
 have H' := am_ H
 clear H
 go_enter Tryz.func85, Tryz.ntmps85
 go_wp2
 go_loopg [8] k (fun kq v8 w' => ∃ (x8_1 : Int), v8 = .int .i64 x8_1 ∧ Aside0 (slices_IndexFunc_Deed_at_impl_HostOK_1.l0 kq l0 (l0.length : Int) x8_1 = some r) ∧ Aside0 (kq ≤ k) ∧ Aside0 (Below w.heap.size w w'))
 case atStart => exact ⟨(0), (by first | rfl | (simp; done) | (simp [*]; done)), H', ⟨Nat.le_refl _⟩, ⟨ybl_⟩⟩
 case round =>
  clear H'
  try clear p2
  obtain ⟨x8_1, rfl, HA, HK1, HB⟩ := hrel
  cases gk with
  | zero => exact absurd HA.out (by simp [slices_IndexFunc_Deed_at_impl_HostOK_1.l0])
  | succ k1 =>
   have H := HA.out
   clear HA
   simp only [slices_IndexFunc_Deed_at_impl_HostOK_1.l0] at H
   by_cases c3 : x8_1 < (l0.length : Int)
   ·rw [if_pos c3] at H
    have c3b0 : decide (x8_1 < (l0.length : Int)) = true := decide_eq_true c3
    clear c3
    by_cases c4 : 0 ≤ x8_1
    ·rw [if_pos c4] at H
     have c4b0 : decide (0 ≤ x8_1) = true := decide_eq_true c4
     clear c4
     by_cases c5 : x8_1 < (l0.length : Int)
     ·rw [if_pos c5] at H
      have c5b0 : decide (x8_1 < (l0.length : Int)) = true := decide_eq_true c5
      clear c5
      replace H := Option.bind_eq_some_iff.mp H
      obtain ⟨t398, A60, H⟩ := H
      replace H : (if t398 = true then (some x8_1) else (slices_IndexFunc_Deed_at_impl_HostOK_1.l0 k1 l0 (l0.length : Int) (wrap64 (x8_1 + 1)))) = some r := H
      have A6 := am_ A60
      clear A60
      by_cases c7 : t398 = true
      ·subst c7
       have H1 : (some x8_1) = some r := by rw [if_pos rfl] at H; first | done | exact H
       clear H
       have H := H1
       clear H1
       obtain rfl := Option.some.inj H
       have p397 : 0 ≤ (x8_1 : Int) := of_decide_eq_true yqv11_
       have q397 : x8_1 < (l0.length : Int) := of_decide_eq_true yqv11_
       obtain ⟨ad397, e397, hx397_0, hx397_1, hx397_2, hx397_3⟩ := at_T88 HR0.out x8_1 p397 q397
       cases e397
       replace hx397_0 := ycst_ HB hx397_0
       replace hx397_1 := ycst_ HB hx397_1
       replace hx397_2 := ycst_ HB hx397_2
       replace hx397_3 := ycst_ HB hx397_3
       replace p397 := eq_true p397
       replace q397 := eq_true q397
       go_wp2_with (first | ((with_reducible refine Go.Proofs.YtbbfahkmjfmmjaaGreatDoorO.gate_tmp (t := 11) rfl ?_); refine Go.Proofs.YtbbfahkmjfmmjaaGreatDoorO.goesT_ (some 16) rfl rfl (.tmp 11) rfl Tryz.func58 (by kernel_rfl) rfl #[.agg #[.int .i64 ((rd_T88 l0 x8_1).f0), .int .i64 ((rd_T88 l0 x8_1).f1), .int .i64 ((rd_T88 l0 x8_1).f2), .int .i64 ((rd_T88 l0 x8_1).f3)]] rfl yk1_ ?_; (with_reducible refine (impl_HostOK_1.calls ((rd_T88 l0 x8_1).f0) ((rd_T88 l0 x8_1).f1) ((rd_T88 l0 x8_1).f2) ((rd_T88 l0 x8_1).f3) true _ A6.out).mono ?_); rintro e w8 ⟨rfl, hb⟩; refine ⟨_, rfl, ?_⟩; replace HB := yst_ hb; (try clear hb); (try clear hb2); (try clear hk); (try clear hi)))
       go_ret
       exact ⟨yk0_, ybl_⟩
      ·replace c7 := Bool.eq_false_iff.mpr c7
       subst c7
       have H1 : (slices_IndexFunc_Deed_at_impl_HostOK_1.l0 k1 l0 (l0.length : Int) (wrap64 (x8_1 + 1))) = some r := by rw [if_neg (show ¬ (false = true) by decide)] at H; first | done | exact H
       clear H
       have H := H1
       clear H1
       have H' := am_ H
       clear H
       have p397 : 0 ≤ (x8_1 : Int) := of_decide_eq_true yqv11_
       have q397 : x8_1 < (l0.length : Int) := of_decide_eq_true yqv11_
       obtain ⟨ad397, e397, hx397_0, hx397_1, hx397_2, hx397_3⟩ := at_T88 HR0.out x8_1 p397 q397
       cases e397
       replace hx397_0 := ycst_ HB hx397_0
       replace hx397_1 := ycst_ HB hx397_1
       replace hx397_2 := ycst_ HB hx397_2
       replace hx397_3 := ycst_ HB hx397_3
       replace p397 := eq_true p397
       replace q397 := eq_true q397
       go_wp2_with (first | ((with_reducible refine Go.Proofs.YtbbfahkmjfmmjaaGreatDoorO.gate_tmp (t := 11) rfl ?_); refine Go.Proofs.YtbbfahkmjfmmjaaGreatDoorO.goesT_ (some 16) rfl rfl (.tmp 11) rfl Tryz.func58 (by kernel_rfl) rfl #[.agg #[.int .i64 ((rd_T88 l0 x8_1).f0), .int .i64 ((rd_T88 l0 x8_1).f1), .int .i64 ((rd_T88 l0 x8_1).f2), .int .i64 ((rd_T88 l0 x8_1).f3)]] rfl yk1_ ?_; (with_reducible refine (impl_HostOK_1.calls ((rd_T88 l0 x8_1).f0) ((rd_T88 l0 x8_1).f1) ((rd_T88 l0 x8_1).f2) ((rd_T88 l0 x8_1).f3) false _ A6.out).mono ?_); rintro e w9 ⟨rfl, hb⟩; refine ⟨_, rfl, ?_⟩; replace HB := yst_ hb; (try clear hb); (try clear hb2); (try clear hk); (try clear hi)))
       go_roundg k1
       case measure => have := HK1.out; omega
       case rel => exact ⟨(wrap64 (x8_1 + 1)), (by first | rfl | (simp; done) | (simp [*]; done)), H', ⟨by have := HK1.out; omega⟩, ⟨ybl_⟩⟩
     ·rw [if_neg c5] at H
      exact absurd H (by simp)
    ·rw [if_neg c4] at H
     exact absurd H (by simp)
   ·rw [if_neg c3] at H
    have c3b0 : decide (x8_1 < (l0.length : Int)) = false := decide_eq_false c3
    clear c3
    obtain rfl := Option.some.inj H
    go_wp2
    go_ret
    exact ⟨yk0_, ybl_⟩

/-! ### slices_ContainsFunc_Deed_at_impl_HostOK_1: function 157 -/
def slices_ContainsFunc_Deed_at_impl_HostOK_1.f (k : Nat) (l0 : List (S88))  : Option (Bool) := (slices_IndexFunc_Deed_at_impl_HostOK_1.f k l0).bind fun t399 => (some (decide (t399 ≥ 0)))
theorem slices_ContainsFunc_Deed_at_impl_HostOK_1.mono : ∀ a0 k, LeO (slices_ContainsFunc_Deed_at_impl_HostOK_1.f k a0) (slices_ContainsFunc_Deed_at_impl_HostOK_1.f (k + 1) a0) := by
 intro a0 k
 unfold slices_ContainsFunc_Deed_at_impl_HostOK_1.f
 repeat' first
   | (with_reducible exact slices_IndexFunc_Deed_at_impl_HostOK_1.mono _ _)
   | (with_reducible exact LeO.refl _)
   | (with_reducible exact LeO.none _)
   | (with_reducible refine LeO.ite ?_ ?_)
   | (with_reducible refine LeO.bind ?_ (fun _ => ?_))
   | exact slices_IndexFunc_Deed_at_impl_HostOK_1.mono _ _
   | exact LeO.none _
   | refine LeO.ite ?_ ?_
   | refine LeO.bind ?_ (fun _ => ?_)
set_option maxHeartbeats 8000000 in
set_option maxRecDepth 100000 in
theorem slices_ContainsFunc_Deed_at_impl_HostOK_1.calls (k : Nat) (A0 : Option Addr) (c0 : Nat) (l0 : List (S88))  (r : Bool) (w : World) (hr0 : Kd.C k88 w A0 l0.length l0) (hc0 : l0.length ≤ c0) (h : slices_ContainsFunc_Deed_at_impl_HostOK_1.f k l0 = some r) :
  Calls Tryz.prog 57 #[.slice A0 l0.length c0, .func (.func 58) #[] #[]] w fun e w' => e = .returned (.bool r) ∧ Below w.heap.size w w' := by
 have HR0 := am_ hr0
 have HC0 := am_ hc0
 clear hr0 hc0
 have HB := am_ (Below.refl w.heap.size w)
 have H : ((slices_IndexFunc_Deed_at_impl_HostOK_1.f k l0).bind fun t399 => (some (decide (t399 ≥ 0)))) = some r := h
 clear h
 replace H := Option.bind_eq_some_iff.mp H
 obtain ⟨t399, A30, H⟩ := H
 replace H : (some (decide (t399 ≥ 0))) = some r := H
 have A3 := am_ A30
 clear A30
 obtain rfl := Option.some.inj H
 go_enter Tryz.func57, Tryz.ntmps57
 go_wp2_with (first | ((with_reducible refine gate_callee (f := 85) rfl ?_); refine goesL_ (some 7) rfl rfl Tryz.func85 (by kernel_rfl) rfl #[.slice A0 l0.length c0, .func (.func 58) #[] #[]] rfl yk1_ ?_; (with_reducible refine (slices_IndexFunc_Deed_at_impl_HostOK_1.calls k _ _ l0  t399 _ ?side1 HC0.out A3.out).mono ?_); (case side1 => repeat (first | exact HR0.out | (with_reducible refine Kd.C_alloc ?_ _) | (with_reducible refine Kd.C_drewN ?_ _) | (with_reducible refine Kd.C_drew ?_))); rintro e w4 ⟨rfl, hb⟩; refine ⟨_, rfl, ?_⟩; replace HB := yst_ hb; (try clear hb); (try clear hb2); (try clear hk); (try clear hi)))
 go_ret
 exact ⟨yk0_, ybl_⟩

/-! ### impl_HostOK: function 26 -/
def impl_HostOK.f (k : Nat) (l0_0 : List Bool) (l0_1 : List Int) (l0_2 : List Int) (a0_3 : Int) (l0_4 : List (S88)) : Option (Bool) := if (l0_0.length : Int) = 4 then ((impl_isStore.f k l0_1).bind fun t401 => (if t401 = true then ((impl_areCells.f k l0_2 20).bind fun t402 => (if t402 = true then ((impl_in.f a0_3 0 2147483647).bind fun t403 => (if t403 = true then (if (l0_4.length : Int) ≤ 40 then ((slices_ContainsFunc_Deed_at_impl_HostOK_1.f k l0_4).bind fun t404 => (some (!t404))) else (some false)) else (some false))) else (some false))) else (some false))) else (some false)
theorem impl_HostOK.mono : ∀ a0 a1 a2 a3 a4 k, LeO (impl_HostOK.f k a0 a1 a2 a3 a4) (impl_HostOK.f (k + 1) a0 a1 a2 a3 a4) := by
 intro a0 a1 a2 a3 a4 k
 unfold impl_HostOK.f
 repeat' first
   | (with_reducible exact impl_areCells.mono _ _ _)
   | (with_reducible exact impl_isStore.mono _ _)
   | (with_reducible exact slices_ContainsFunc_Deed_at_impl_HostOK_1.mono _ _)
   | (with_reducible exact LeO.refl _)
   | (with_reducible exact LeO.none _)
   | (with_reducible refine LeO.ite ?_ ?_)
   | (with_reducible refine LeO.bind ?_ (fun _ => ?_))
   | exact impl_areCells.mono _ _ _
   | exact impl_isStore.mono _ _
   | exact slices_ContainsFunc_Deed_at_impl_HostOK_1.mono _ _
   | exact LeO.none _
   | refine LeO.ite ?_ ?_
   | refine LeO.bind ?_ (fun _ => ?_)
set_option maxHeartbeats 8000000 in
set_option maxRecDepth 100000 in
theorem impl_HostOK.calls (k : Nat) (A0_0 : Option Addr) (c0_0 : Nat) (l0_0 : List Bool) (A0_1 : Option Addr) (c0_1 : Nat) (l0_1 : List Int) (A0_2 : Option Addr) (c0_2 : Nat) (l0_2 : List Int) (a0_3 : Int) (A0_4 : Option Addr) (c0_4 : Nat) (l0_4 : List (S88)) (r : Bool) (w : World) (hr0_0 : Kd.C Kd.bool w A0_0 l0_0.length l0_0) (hc0_0 : l0_0.length ≤ c0_0) (hr0_1 : Kd.C (Kd.int .i64) w A0_1 l0_1.length l0_1) (hc0_1 : l0_1.length ≤ c0_1) (hr0_2 : Kd.C (Kd.int .i64) w A0_2 l0_2.length l0_2) (hc0_2 : l0_2.length ≤ c0_2) (hr0_4 : Kd.C k88 w A0_4 l0_4.length l0_4) (hc0_4 : l0_4.length ≤ c0_4) (h : impl_HostOK.f k l0_0 l0_1 l0_2 a0_3 l0_4 = some r) :
  Calls Tryz.prog 26 #[.agg #[.slice A0_0 l0_0.length c0_0, .slice A0_1 l0_1.length c0_1, .slice A0_2 l0_2.length c0_2, .int .i64 a0_3, .slice A0_4 l0_4.length c0_4]] w fun e w' => e = .returned (.bool r) ∧ Below w.heap.size w w' := by
 have hu39 := Tryz.underlying39
 have HR0_0 := am_ hr0_0
 have HC0_0 := am_ hc0_0
 clear hr0_0 hc0_0
 have HR0_1 := am_ hr0_1
 have HC0_1 := am_ hc0_1
 clear hr0_1 hc0_1
 have HR0_2 := am_ hr0_2
 have HC0_2 := am_ hc0_2
 clear hr0_2 hc0_2
 have HR0_4 := am_ hr0_4
 have HC0_4 := am_ hc0_4
 clear hr0_4 hc0_4
 have HB := am_ (Below.refl w.heap.size w)
 have H : (if (l0_0.length : Int) = 4 then ((impl_isStore.f k l0_1).bind fun t401 => (if t401 = true then ((impl_areCells.f k l0_2 20).bind fun t402 => (if t402 = true then ((impl_in.f a0_3 0 2147483647).bind fun t403 => (if t403 = true then (if (l0_4.length : Int) ≤ 40 then ((slices_ContainsFunc_Deed_at_impl_HostOK_1.f k l0_4).bind fun t404 => (some (!t404))) else (some false)) else (some false))) else (some false))) else (some false))) else (some false)) = some r := h
 clear h
 by_cases c2 : (l0_0.length : Int) = 4
 ·rw [if_pos c2] at H
  have c2b0 : ((l0_0.length : Int) == 4) = true := beq_iff_eq.mpr c2
  have c2b1 : ((l0_0.length : Int) != 4) = false := bne_eq_false_iff_eq.mpr c2
  clear c2
  replace H := Option.bind_eq_some_iff.mp H
  obtain ⟨t401, A30, H⟩ := H
  replace H : (if t401 = true then ((impl_areCells.f k l0_2 20).bind fun t402 => (if t402 = true then ((impl_in.f a0_3 0 2147483647).bind fun t403 => (if t403 = true then (if (l0_4.length : Int) ≤ 40 then ((slices_ContainsFunc_Deed_at_impl_HostOK_1.f k l0_4).bind fun t404 => (some (!t404))) else (some false)) else (some false))) else (some false))) else (some false)) = some r := H
  have A3 := am_ A30
  clear A30
  by_cases c4 : t401 = true
  ·subst c4
   have H1 : ((impl_areCells.f k l0_2 20).bind fun t402 => (if t402 = true then ((impl_in.f a0_3 0 2147483647).bind fun t403 => (if t403 = true then (if (l0_4.length : Int) ≤ 40 then ((slices_ContainsFunc_Deed_at_impl_HostOK_1.f k l0_4).bind fun t404 => (some (!t404))) else (some false)) else (some false))) else (some false))) = some r := by rw [if_pos rfl] at H; first | done | exact H
   clear H
   have H := H1
   clear H1
   replace H := Option.bind_eq_some_iff.mp H
   obtain ⟨t402, A50, H⟩ := H
   replace H : (if t402 = true then ((impl_in.f a0_3 0 2147483647).bind fun t403 => (if t403 = true then (if (l0_4.length : Int) ≤ 40 then ((slices_ContainsFunc_Deed_at_impl_HostOK_1.f k l0_4).bind fun t404 => (some (!t404))) else (some false)) else (some false))) else (some false)) = some r := H
   have A5 := am_ A50
   clear A50
   by_cases c6 : t402 = true
   ·subst c6
    have H1 : ((impl_in.f a0_3 0 2147483647).bind fun t403 => (if t403 = true then (if (l0_4.length : Int) ≤ 40 then ((slices_ContainsFunc_Deed_at_impl_HostOK_1.f k l0_4).bind fun t404 => (some (!t404))) else (some false)) else (some false))) = some r := by rw [if_pos rfl] at H; first | done | exact H
    clear H
    have H := H1
    clear H1
    replace H := Option.bind_eq_some_iff.mp H
    obtain ⟨t403, A70, H⟩ := H
    replace H : (if t403 = true then (if (l0_4.length : Int) ≤ 40 then ((slices_ContainsFunc_Deed_at_impl_HostOK_1.f k l0_4).bind fun t404 => (some (!t404))) else (some false)) else (some false)) = some r := H
    have A7 := am_ A70
    clear A70
    by_cases c8 : t403 = true
    ·subst c8
     have H1 : (if (l0_4.length : Int) ≤ 40 then ((slices_ContainsFunc_Deed_at_impl_HostOK_1.f k l0_4).bind fun t404 => (some (!t404))) else (some false)) = some r := by rw [if_pos rfl] at H; first | done | exact H
     clear H
     have H := H1
     clear H1
     by_cases c9 : (l0_4.length : Int) ≤ 40
     ·rw [if_pos c9] at H
      have c9b0 : decide ((l0_4.length : Int) ≤ 40) = true := decide_eq_true c9
      have c9b1 : decide (l0_4.length ≤ 40) = true := decide_eq_true (by omega)
      clear c9
      replace H := Option.bind_eq_some_iff.mp H
      obtain ⟨t404, A100, H⟩ := H
      replace H : (some (!t404)) = some r := H
      have A10 := am_ A100
      clear A100
      obtain rfl := Option.some.inj H
      go_enter Tryz.func26, Tryz.ntmps26
      go_wp2_with (first | ((with_reducible refine gate_dst (N := 1) rfl ?_); (try (refine gate_guard (by rfl) ?_; dsimp only)); refine box_event ?hg (N := 1) ?hd (cs := #[.slice A0_0 l0_0.length c0_0, .slice A0_1 l0_1.length c0_1, .slice A0_2 l0_2.length c0_2, .int .i64 a0_3, .slice A0_4 l0_4.length c0_4]) (t := 39) ?hr ?_; (case hd => rfl); (case hg => rfl); (case hr => first | (go_simp; done) | (go_simp; rfl)); intro gb400 hg w11 hbox hb; have BK400 := am_ (hbox); have GW400 := am_ ((ybsz_ hg : w.heap.size ≤ gb400)); have GE400 := GW400; replace HB := yst_ hb; clear hb hbox hg; have hcz12 := ye5_ BK400; have hfz12 := yf5_ BK400) | (go_at_call 56; (with_reducible refine (impl_isStore.calls k _ _ l0_1 true _ ?side1 HC0_1.out A3.out).mono ?_); (case side1 => exact ycb_ HR0_1 HB); rintro e w' ⟨rfl, ⟨nd, rfl⟩⟩) | (go_at_call 24; (with_reducible refine (impl_areCells.calls k _ _ l0_2 20 true _ ?side1 HC0_2.out A5.out).mono ?_); (case side1 => exact yscq_ HR0_2); rintro e w' ⟨rfl, ⟨nd, rfl⟩⟩) | (go_at_call 27; (with_reducible refine (impl_in.calls a0_3 0 2147483647 true _ A7.out).mono ?_); rintro e w' ⟨rfl, ⟨nd, rfl⟩⟩) | (go_at_call 57; (with_reducible refine (slices_ContainsFunc_Deed_at_impl_HostOK_1.calls k _ _ l0_4  t404 _ ?side1 HC0_4.out A10.out).mono ?_); (case side1 => exact yscq_ HR0_4); rintro e w13 ⟨rfl, hb⟩; replace HB := yst_ hb; (try clear hb); (try clear hb2); (try clear hk); (try clear hi)))
      go_ret
      exact ⟨yk0_, ybl_⟩
     ·rw [if_neg c9] at H
      have c9b0 : decide ((l0_4.length : Int) ≤ 40) = false := decide_eq_false c9
      have c9b1 : decide (l0_4.length ≤ 40) = false := decide_eq_false (by omega)
      clear c9
      obtain rfl := Option.some.inj H
      go_enter Tryz.func26, Tryz.ntmps26
      go_wp2_with (first | ((with_reducible refine gate_dst (N := 1) rfl ?_); (try (refine gate_guard (by rfl) ?_; dsimp only)); refine box_event ?hg (N := 1) ?hd (cs := #[.slice A0_0 l0_0.length c0_0, .slice A0_1 l0_1.length c0_1, .slice A0_2 l0_2.length c0_2, .int .i64 a0_3, .slice A0_4 l0_4.length c0_4]) (t := 39) ?hr ?_; (case hd => rfl); (case hg => rfl); (case hr => first | (go_simp; done) | (go_simp; rfl)); intro gb400 hg w14 hbox hb; have BK400 := am_ (hbox); have GW400 := am_ ((ybsz_ hg : w.heap.size ≤ gb400)); have GE400 := GW400; replace HB := yst_ hb; clear hb hbox hg; have hcz15 := ye5_ BK400; have hfz15 := yf5_ BK400) | (go_at_call 56; (with_reducible refine (impl_isStore.calls k _ _ l0_1 true _ ?side1 HC0_1.out A3.out).mono ?_); (case side1 => exact ycb_ HR0_1 HB); rintro e w' ⟨rfl, ⟨nd, rfl⟩⟩) | (go_at_call 24; (with_reducible refine (impl_areCells.calls k _ _ l0_2 20 true _ ?side1 HC0_2.out A5.out).mono ?_); (case side1 => exact yscq_ HR0_2); rintro e w' ⟨rfl, ⟨nd, rfl⟩⟩) | (go_at_call 27; (with_reducible refine (impl_in.calls a0_3 0 2147483647 true _ A7.out).mono ?_); rintro e w' ⟨rfl, ⟨nd, rfl⟩⟩))
      go_ret
      exact ⟨yk0_, ybl_⟩
    ·replace c8 := Bool.eq_false_iff.mpr c8
     subst c8
     have H1 : (some false) = some r := by rw [if_neg (show ¬ (false = true) by decide)] at H; first | done | exact H
     clear H
     have H := H1
     clear H1
     obtain rfl := Option.some.inj H
     go_enter Tryz.func26, Tryz.ntmps26
     go_wp2_with (first | ((with_reducible refine gate_dst (N := 1) rfl ?_); (try (refine gate_guard (by rfl) ?_; dsimp only)); refine box_event ?hg (N := 1) ?hd (cs := #[.slice A0_0 l0_0.length c0_0, .slice A0_1 l0_1.length c0_1, .slice A0_2 l0_2.length c0_2, .int .i64 a0_3, .slice A0_4 l0_4.length c0_4]) (t := 39) ?hr ?_; (case hd => rfl); (case hg => rfl); (case hr => first | (go_simp; done) | (go_simp; rfl)); intro gb400 hg w16 hbox hb; have BK400 := am_ (hbox); have GW400 := am_ ((ybsz_ hg : w.heap.size ≤ gb400)); have GE400 := GW400; replace HB := yst_ hb; clear hb hbox hg; have hcz17 := ye5_ BK400; have hfz17 := yf5_ BK400) | (go_at_call 56; (with_reducible refine (impl_isStore.calls k _ _ l0_1 true _ ?side1 HC0_1.out A3.out).mono ?_); (case side1 => exact ycb_ HR0_1 HB); rintro e w' ⟨rfl, ⟨nd, rfl⟩⟩) | (go_at_call 24; (with_reducible refine (impl_areCells.calls k _ _ l0_2 20 true _ ?side1 HC0_2.out A5.out).mono ?_); (case side1 => exact yscq_ HR0_2); rintro e w' ⟨rfl, ⟨nd, rfl⟩⟩) | (go_at_call 27; (with_reducible refine (impl_in.calls a0_3 0 2147483647 false _ A7.out).mono ?_); rintro e w' ⟨rfl, ⟨nd, rfl⟩⟩))
     go_ret
     exact ⟨yk0_, ybl_⟩
   ·replace c6 := Bool.eq_false_iff.mpr c6
    subst c6
    have H1 : (some false) = some r := by rw [if_neg (show ¬ (false = true) by decide)] at H; first | done | exact H
    clear H
    have H := H1
    clear H1
    obtain rfl := Option.some.inj H
    go_enter Tryz.func26, Tryz.ntmps26
    go_wp2_with (first | ((with_reducible refine gate_dst (N := 1) rfl ?_); (try (refine gate_guard (by rfl) ?_; dsimp only)); refine box_event ?hg (N := 1) ?hd (cs := #[.slice A0_0 l0_0.length c0_0, .slice A0_1 l0_1.length c0_1, .slice A0_2 l0_2.length c0_2, .int .i64 a0_3, .slice A0_4 l0_4.length c0_4]) (t := 39) ?hr ?_; (case hd => rfl); (case hg => rfl); (case hr => first | (go_simp; done) | (go_simp; rfl)); intro gb400 hg w18 hbox hb; have BK400 := am_ (hbox); have GW400 := am_ ((ybsz_ hg : w.heap.size ≤ gb400)); have GE400 := GW400; replace HB := yst_ hb; clear hb hbox hg; have hcz19 := ye5_ BK400; have hfz19 := yf5_ BK400) | (go_at_call 56; (with_reducible refine (impl_isStore.calls k _ _ l0_1 true _ ?side1 HC0_1.out A3.out).mono ?_); (case side1 => exact ycb_ HR0_1 HB); rintro e w' ⟨rfl, ⟨nd, rfl⟩⟩) | (go_at_call 24; (with_reducible refine (impl_areCells.calls k _ _ l0_2 20 false _ ?side1 HC0_2.out A5.out).mono ?_); (case side1 => exact yscq_ HR0_2); rintro e w' ⟨rfl, ⟨nd, rfl⟩⟩))
    go_ret
    exact ⟨yk0_, ybl_⟩
  ·replace c4 := Bool.eq_false_iff.mpr c4
   subst c4
   have H1 : (some false) = some r := by rw [if_neg (show ¬ (false = true) by decide)] at H; first | done | exact H
   clear H
   have H := H1
   clear H1
   obtain rfl := Option.some.inj H
   go_enter Tryz.func26, Tryz.ntmps26
   go_wp2_with (first | ((with_reducible refine gate_dst (N := 1) rfl ?_); (try (refine gate_guard (by rfl) ?_; dsimp only)); refine box_event ?hg (N := 1) ?hd (cs := #[.slice A0_0 l0_0.length c0_0, .slice A0_1 l0_1.length c0_1, .slice A0_2 l0_2.length c0_2, .int .i64 a0_3, .slice A0_4 l0_4.length c0_4]) (t := 39) ?hr ?_; (case hd => rfl); (case hg => rfl); (case hr => first | (go_simp; done) | (go_simp; rfl)); intro gb400 hg w20 hbox hb; have BK400 := am_ (hbox); have GW400 := am_ ((ybsz_ hg : w.heap.size ≤ gb400)); have GE400 := GW400; replace HB := yst_ hb; clear hb hbox hg; have hcz21 := ye5_ BK400; have hfz21 := yf5_ BK400) | (go_at_call 56; (with_reducible refine (impl_isStore.calls k _ _ l0_1 false _ ?side1 HC0_1.out A3.out).mono ?_); (case side1 => exact ycb_ HR0_1 HB); rintro e w' ⟨rfl, ⟨nd, rfl⟩⟩))
   go_ret
   exact ⟨yk0_, ybl_⟩
 ·rw [if_neg c2] at H
  have c2b0 : ((l0_0.length : Int) == 4) = false := beq_eq_false_iff_ne.mpr c2
  have c2b1 : ((l0_0.length : Int) != 4) = true := bne_iff_ne.mpr c2
  obtain rfl := Option.some.inj H
  go_enter Tryz.func26, Tryz.ntmps26
  go_wp2_with (first | ((with_reducible refine gate_dst (N := 1) rfl ?_); (try (refine gate_guard (by rfl) ?_; dsimp only)); refine box_event ?hg (N := 1) ?hd (cs := #[.slice A0_0 l0_0.length c0_0, .slice A0_1 l0_1.length c0_1, .slice A0_2 l0_2.length c0_2, .int .i64 a0_3, .slice A0_4 l0_4.length c0_4]) (t := 39) ?hr ?_; (case hd => rfl); (case hg => rfl); (case hr => first | (go_simp; done) | (go_simp; rfl)); intro gb400 hg w22 hbox hb; have BK400 := am_ (hbox); have GW400 := am_ ((ybsz_ hg : w.heap.size ≤ gb400)); have GE400 := GW400; replace HB := yst_ hb; clear hb hbox hg; have hcz23 := ye5_ BK400; have hfz23 := yf5_ BK400))
  go_ret
  exact ⟨yk0_, ybl_⟩

end Go.Proofs.YtbbfahkmjfmmjaaGreatDoor.PMOK
