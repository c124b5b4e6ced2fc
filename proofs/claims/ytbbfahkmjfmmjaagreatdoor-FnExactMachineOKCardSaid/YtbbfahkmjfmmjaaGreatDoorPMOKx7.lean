-- laid by a program of this session out of the translation's own print: Lean checks it
import Derived.Test.YtbbfahkmjfmmjaaGreatDoorPMOKx0
import Derived.Test.YtbbfahkmjfmmjaaGreatDoorPMOKx3
import Derived.Test.YtbbfahkmjfmmjaaGreatDoorPMOKx4
import Derived.Test.YtbbfahkmjfmmjaaGreatDoorPMOKx5
import Derived.Test.YtbbfahkmjfmmjaaGreatDoorPMOKx6
namespace Go.Proofs.YtbbfahkmjfmmjaaGreatDoor.PMOK
open Go.RowKit Go.Proofs.YtbbfahkmjfmmjaaGreatDoorW.PrintWords Go.Proofs.YtbbfahkmjfmmjaaGreatDoorW.PrintLast Go.Proofs.YtbbfahkmjfmmjaaGreatDoorW.PrintMore
attribute [local go_sem] max2_int min2_int max_two min_two max_three min_three max_four min_four   -- for this text's walks alone
set_option linter.unusedVariables false
set_option linter.unusedSimpArgs false

/-! ### spec_l08OK: function 17 -/
def spec_l08OK.f (k : Nat) (l0_0 : List (S75)) (l0_1 : List Int) (l0_2 : List Int) (l0_3 : List Int) (l0_4 : List Int) (a0_5 : Int) (a0_6 : Int) (a0_7 : ByteArray) (l0_8 : List Bool) (l0_9 : List Int) (l0_10 : List Int) (a0_11 : Int) (l0_12 : List (S88)) (l0_13 : List (S63)) (a0_14 : Int) (a0_15 : Int) : Option (Bool) := (spec_l04OK.f k l0_0).bind fun t205 => (if t205 = true then (if (l0_1.length : Int) ≤ 400 then ((spec_l03Cells.f k l0_1).bind fun t206 => (if t206 = true then ((spec_l03OK.f k l0_2 l0_3 l0_4 a0_5 a0_6 a0_7).bind fun t207 => (if t207 = true then ((spec_l06OK.f k l0_8 l0_9 l0_10 a0_11 l0_12).bind fun t208 => (if t208 = true then ((spec_l08Calls.f k l0_0 l0_1 l0_2 l0_3 l0_4 a0_5 a0_6 a0_7 l0_8 l0_9 l0_10 a0_11 l0_12 l0_13 a0_14 a0_15).bind fun t209 => (if t209 = true then ((spec_l01In.f a0_14 0 2147483647).bind fun t210 => (if t210 = true then ((spec_l01In.f a0_15 0 4000).bind fun t211 => (some t211)) else (some false))) else (some false))) else (some false))) else (some false))) else (some false))) else (some false)) else (some false))
theorem spec_l08OK.mono : ∀ a0 a1 a2 a3 a4 a5 a6 a7 a8 a9 a10 a11 a12 a13 a14 a15 k, LeO (spec_l08OK.f k a0 a1 a2 a3 a4 a5 a6 a7 a8 a9 a10 a11 a12 a13 a14 a15) (spec_l08OK.f (k + 1) a0 a1 a2 a3 a4 a5 a6 a7 a8 a9 a10 a11 a12 a13 a14 a15) := by
 intro a0 a1 a2 a3 a4 a5 a6 a7 a8 a9 a10 a11 a12 a13 a14 a15 k
 unfold spec_l08OK.f
 repeat' first
   | (with_reducible exact spec_l03Cells.mono _ _)
   | (with_reducible exact spec_l03OK.mono _ _ _ _ _ _ _)
   | (with_reducible exact spec_l04OK.mono _ _)
   | (with_reducible exact spec_l06OK.mono _ _ _ _ _ _)
   | (with_reducible exact spec_l08Calls.mono _ _ _ _ _ _ _ _ _ _ _ _ _ _ _ _ _)
   | (with_reducible exact LeO.refl _)
   | (with_reducible exact LeO.none _)
   | (with_reducible refine LeO.ite ?_ ?_)
   | (with_reducible refine LeO.bind ?_ (fun _ => ?_))
   | exact spec_l03Cells.mono _ _
   | exact spec_l03OK.mono _ _ _ _ _ _ _
   | exact spec_l04OK.mono _ _
   | exact spec_l06OK.mono _ _ _ _ _ _
   | exact spec_l08Calls.mono _ _ _ _ _ _ _ _ _ _ _ _ _ _ _ _ _
   | exact LeO.none _
   | refine LeO.ite ?_ ?_
   | refine LeO.bind ?_ (fun _ => ?_)
set_option maxHeartbeats 8000000 in
set_option maxRecDepth 100000 in
theorem spec_l08OK.calls (k : Nat) (A0_0 : Option Addr) (c0_0 : Nat) (l0_0 : List (S75)) (A0_1 : Option Addr) (c0_1 : Nat) (l0_1 : List Int) (A0_2 : Option Addr) (c0_2 : Nat) (l0_2 : List Int) (A0_3 : Option Addr) (c0_3 : Nat) (l0_3 : List Int) (A0_4 : Option Addr) (c0_4 : Nat) (l0_4 : List Int) (a0_5 : Int) (a0_6 : Int) (a0_7 : ByteArray) (A0_8 : Option Addr) (c0_8 : Nat) (l0_8 : List Bool) (A0_9 : Option Addr) (c0_9 : Nat) (l0_9 : List Int) (A0_10 : Option Addr) (c0_10 : Nat) (l0_10 : List Int) (a0_11 : Int) (A0_12 : Option Addr) (c0_12 : Nat) (l0_12 : List (S88)) (A0_13 : Option Addr) (c0_13 : Nat) (l0_13 : List (S63)) (a0_14 : Int) (a0_15 : Int) (r : Bool) (w : World) (hr0_0 : Kd.C k75 w A0_0 l0_0.length l0_0) (hc0_0 : l0_0.length ≤ c0_0) (hr0_1 : Kd.C (Kd.int .i64) w A0_1 l0_1.length l0_1) (hc0_1 : l0_1.length ≤ c0_1) (hr0_2 : Kd.C (Kd.int .i64) w A0_2 l0_2.length l0_2) (hc0_2 : l0_2.length ≤ c0_2) (hr0_3 : Kd.C (Kd.int .i64) w A0_3 l0_3.length l0_3) (hc0_3 : l0_3.length ≤ c0_3) (hr0_4 : Kd.C (Kd.int .i64) w A0_4 l0_4.length l0_4) (hc0_4 : l0_4.length ≤ c0_4) (hr0_8 : Kd.C Kd.bool w A0_8 l0_8.length l0_8) (hc0_8 : l0_8.length ≤ c0_8) (hr0_9 : Kd.C (Kd.int .i64) w A0_9 l0_9.length l0_9) (hc0_9 : l0_9.length ≤ c0_9) (hr0_10 : Kd.C (Kd.int .i64) w A0_10 l0_10.length l0_10) (hc0_10 : l0_10.length ≤ c0_10) (hr0_12 : Kd.C k88 w A0_12 l0_12.length l0_12) (hc0_12 : l0_12.length ≤ c0_12) (hr0_13 : Kd.C k63 w A0_13 l0_13.length l0_13) (hc0_13 : l0_13.length ≤ c0_13) (h : spec_l08OK.f k l0_0 l0_1 l0_2 l0_3 l0_4 a0_5 a0_6 a0_7 l0_8 l0_9 l0_10 a0_11 l0_12 l0_13 a0_14 a0_15 = some r) :
  Calls Tryz.prog 17 #[.agg #[.slice A0_0 l0_0.length c0_0, .slice A0_1 l0_1.length c0_1, .slice A0_2 l0_2.length c0_2, .slice A0_3 l0_3.length c0_3, .slice A0_4 l0_4.length c0_4, .int .i64 a0_5, .int .i64 a0_6, .string a0_7, .slice A0_8 l0_8.length c0_8, .slice A0_9 l0_9.length c0_9, .slice A0_10 l0_10.length c0_10, .int .i64 a0_11, .slice A0_12 l0_12.length c0_12, .slice A0_13 l0_13.length c0_13, .int .i64 a0_14, .int .i64 a0_15]] w fun e w' => e = .returned (.bool r) ∧ Below w.heap.size w w' := by
 have hu42 := Tryz.underlying42
 have hu36 := Tryz.underlying36
 have hu39 := Tryz.underlying39
 have HR0_0 := am_ hr0_0
 have HC0_0 := am_ hc0_0
 clear hr0_0 hc0_0
 have HR0_1 := am_ hr0_1
 have HC0_1 := am_ hc0_1
 clear hr0_1 hc0_1
 have HR0_2 := am_ hr0_2
 have HC0_2 := am_ hc0_2
 clear hr0_2 hc0_2
 have HR0_3 := am_ hr0_3
 have HC0_3 := am_ hc0_3
 clear hr0_3 hc0_3
 have HR0_4 := am_ hr0_4
 have HC0_4 := am_ hc0_4
 clear hr0_4 hc0_4
 have HR0_8 := am_ hr0_8
 have HC0_8 := am_ hc0_8
 clear hr0_8 hc0_8
 have HR0_9 := am_ hr0_9
 have HC0_9 := am_ hc0_9
 clear hr0_9 hc0_9
 have HR0_10 := am_ hr0_10
 have HC0_10 := am_ hc0_10
 clear hr0_10 hc0_10
 have HR0_12 := am_ hr0_12
 have HC0_12 := am_ hc0_12
 clear hr0_12 hc0_12
 have HR0_13 := am_ hr0_13
 have HC0_13 := am_ hc0_13
 clear hr0_13 hc0_13
 have HB := am_ (Below.refl w.heap.size w)
 have H : ((spec_l04OK.f k l0_0).bind fun t205 => (if t205 = true then (if (l0_1.length : Int) ≤ 400 then ((spec_l03Cells.f k l0_1).bind fun t206 => (if t206 = true then ((spec_l03OK.f k l0_2 l0_3 l0_4 a0_5 a0_6 a0_7).bind fun t207 => (if t207 = true then ((spec_l06OK.f k l0_8 l0_9 l0_10 a0_11 l0_12).bind fun t208 => (if t208 = true then ((spec_l08Calls.f k l0_0 l0_1 l0_2 l0_3 l0_4 a0_5 a0_6 a0_7 l0_8 l0_9 l0_10 a0_11 l0_12 l0_13 a0_14 a0_15).bind fun t209 => (if t209 = true then ((spec_l01In.f a0_14 0 2147483647).bind fun t210 => (if t210 = true then ((spec_l01In.f a0_15 0 4000).bind fun t211 => (some t211)) else (some false))) else (some false))) else (some false))) else (some false))) else (some false))) else (some false)) else (some false))) = some r := h
 clear h
 replace H := Option.bind_eq_some_iff.mp H
 obtain ⟨t205, A20, H⟩ := H
 replace H : (if t205 = true then (if (l0_1.length : Int) ≤ 400 then ((spec_l03Cells.f k l0_1).bind fun t206 => (if t206 = true then ((spec_l03OK.f k l0_2 l0_3 l0_4 a0_5 a0_6 a0_7).bind fun t207 => (if t207 = true then ((spec_l06OK.f k l0_8 l0_9 l0_10 a0_11 l0_12).bind fun t208 => (if t208 = true then ((spec_l08Calls.f k l0_0 l0_1 l0_2 l0_3 l0_4 a0_5 a0_6 a0_7 l0_8 l0_9 l0_10 a0_11 l0_12 l0_13 a0_14 a0_15).bind fun t209 => (if t209 = true then ((spec_l01In.f a0_14 0 2147483647).bind fun t210 => (if t210 = true then ((spec_l01In.f a0_15 0 4000).bind fun t211 => (some t211)) else (some false))) else (some false))) else (some false))) else (some false))) else (some false))) else (some false)) else (some false)) = some r := H
 have A2 := am_ A20
 clear A20
 by_cases c3 : t205 = true
 ·subst c3
  have H1 : (if (l0_1.length : Int) ≤ 400 then ((spec_l03Cells.f k l0_1).bind fun t206 => (if t206 = true then ((spec_l03OK.f k l0_2 l0_3 l0_4 a0_5 a0_6 a0_7).bind fun t207 => (if t207 = true then ((spec_l06OK.f k l0_8 l0_9 l0_10 a0_11 l0_12).bind fun t208 => (if t208 = true then ((spec_l08Calls.f k l0_0 l0_1 l0_2 l0_3 l0_4 a0_5 a0_6 a0_7 l0_8 l0_9 l0_10 a0_11 l0_12 l0_13 a0_14 a0_15).bind fun t209 => (if t209 = true then ((spec_l01In.f a0_14 0 2147483647).bind fun t210 => (if t210 = true then ((spec_l01In.f a0_15 0 4000).bind fun t211 => (some t211)) else (some false))) else (some false))) else (some false))) else (some false))) else (some false))) else (some false)) = some r := by rw [if_pos rfl] at H; first | done | exact H
  clear H
  have H := H1
  clear H1
  by_cases c4 : (l0_1.length : Int) ≤ 400
  ·rw [if_pos c4] at H
   have c4b0 : decide ((l0_1.length : Int) ≤ 400) = true := decide_eq_true c4
   have c4b1 : decide (l0_1.length ≤ 400) = true := decide_eq_true (by omega)
   clear c4
   replace H := Option.bind_eq_some_iff.mp H
   obtain ⟨t206, A50, H⟩ := H
   replace H : (if t206 = true then ((spec_l03OK.f k l0_2 l0_3 l0_4 a0_5 a0_6 a0_7).bind fun t207 => (if t207 = true then ((spec_l06OK.f k l0_8 l0_9 l0_10 a0_11 l0_12).bind fun t208 => (if t208 = true then ((spec_l08Calls.f k l0_0 l0_1 l0_2 l0_3 l0_4 a0_5 a0_6 a0_7 l0_8 l0_9 l0_10 a0_11 l0_12 l0_13 a0_14 a0_15).bind fun t209 => (if t209 = true then ((spec_l01In.f a0_14 0 2147483647).bind fun t210 => (if t210 = true then ((spec_l01In.f a0_15 0 4000).bind fun t211 => (some t211)) else (some false))) else (some false))) else (some false))) else (some false))) else (some false)) = some r := H
   have A5 := am_ A50
   clear A50
   by_cases c6 : t206 = true
   ·subst c6
    have H1 : ((spec_l03OK.f k l0_2 l0_3 l0_4 a0_5 a0_6 a0_7).bind fun t207 => (if t207 = true then ((spec_l06OK.f k l0_8 l0_9 l0_10 a0_11 l0_12).bind fun t208 => (if t208 = true then ((spec_l08Calls.f k l0_0 l0_1 l0_2 l0_3 l0_4 a0_5 a0_6 a0_7 l0_8 l0_9 l0_10 a0_11 l0_12 l0_13 a0_14 a0_15).bind fun t209 => (if t209 = true then ((spec_l01In.f a0_14 0 2147483647).bind fun t210 => (if t210 = true then ((spec_l01In.f a0_15 0 4000).bind fun t211 => (some t211)) else (some false))) else (some false))) else (some false))) else (some false))) = some r := by rw [if_pos rfl] at H; first | done | exact H
    clear H
    have H := H1
    clear H1
    replace H := Option.bind_eq_some_iff.mp H
    obtain ⟨t207, A70, H⟩ := H
    replace H : (if t207 = true then ((spec_l06OK.f k l0_8 l0_9 l0_10 a0_11 l0_12).bind fun t208 => (if t208 = true then ((spec_l08Calls.f k l0_0 l0_1 l0_2 l0_3 l0_4 a0_5 a0_6 a0_7 l0_8 l0_9 l0_10 a0_11 l0_12 l0_13 a0_14 a0_15).bind fun t209 => (if t209 = true then ((spec_l01In.f a0_14 0 2147483647).bind fun t210 => (if t210 = true then ((spec_l01In.f a0_15 0 4000).bind fun t211 => (some t211)) else (some false))) else (some false))) else (some false))) else (some false)) = some r := H
    have A7 := am_ A70
    clear A70
    by_cases c8 : t207 = true
    ·subst c8
     have H1 : ((spec_l06OK.f k l0_8 l0_9 l0_10 a0_11 l0_12).bind fun t208 => (if t208 = true then ((spec_l08Calls.f k l0_0 l0_1 l0_2 l0_3 l0_4 a0_5 a0_6 a0_7 l0_8 l0_9 l0_10 a0_11 l0_12 l0_13 a0_14 a0_15).bind fun t209 => (if t209 = true then ((spec_l01In.f a0_14 0 2147483647).bind fun t210 => (if t210 = true then ((spec_l01In.f a0_15 0 4000).bind fun t211 => (some t211)) else (some false))) else (some false))) else (some false))) = some r := by rw [if_pos rfl] at H; first | done | exact H
     clear H
     have H := H1
     clear H1
     replace H := Option.bind_eq_some_iff.mp H
     obtain ⟨t208, A90, H⟩ := H
     replace H : (if t208 = true then ((spec_l08Calls.f k l0_0 l0_1 l0_2 l0_3 l0_4 a0_5 a0_6 a0_7 l0_8 l0_9 l0_10 a0_11 l0_12 l0_13 a0_14 a0_15).bind fun t209 => (if t209 = true then ((spec_l01In.f a0_14 0 2147483647).bind fun t210 => (if t210 = true then ((spec_l01In.f a0_15 0 4000).bind fun t211 => (some t211)) else (some false))) else (some false))) else (some false)) = some r := H
     have A9 := am_ A90
     clear A90
     by_cases c10 : t208 = true
     ·subst c10
      have H1 : ((spec_l08Calls.f k l0_0 l0_1 l0_2 l0_3 l0_4 a0_5 a0_6 a0_7 l0_8 l0_9 l0_10 a0_11 l0_12 l0_13 a0_14 a0_15).bind fun t209 => (if t209 = true then ((spec_l01In.f a0_14 0 2147483647).bind fun t210 => (if t210 = true then ((spec_l01In.f a0_15 0 4000).bind fun t211 => (some t211)) else (some false))) else (some false))) = some r := by rw [if_pos rfl] at H; first | done | exact H
      clear H
      have H := H1
      clear H1
      replace H := Option.bind_eq_some_iff.mp H
      obtain ⟨t209, A110, H⟩ := H
      replace H : (if t209 = true then ((spec_l01In.f a0_14 0 2147483647).bind fun t210 => (if t210 = true then ((spec_l01In.f a0_15 0 4000).bind fun t211 => (some t211)) else (some false))) else (some false)) = some r := H
      have A11 := am_ A110
      clear A110
      by_cases c12 : t209 = true
      ·subst c12
       have H1 : ((spec_l01In.f a0_14 0 2147483647).bind fun t210 => (if t210 = true then ((spec_l01In.f a0_15 0 4000).bind fun t211 => (some t211)) else (some false))) = some r := by rw [if_pos rfl] at H; first | done | exact H
       clear H
       have H := H1
       clear H1
       replace H := Option.bind_eq_some_iff.mp H
       obtain ⟨t210, A130, H⟩ := H
       replace H : (if t210 = true then ((spec_l01In.f a0_15 0 4000).bind fun t211 => (some t211)) else (some false)) = some r := H
       have A13 := am_ A130
       clear A130
       by_cases c14 : t210 = true
       ·subst c14
        have H1 : ((spec_l01In.f a0_15 0 4000).bind fun t211 => (some t211)) = some r := by rw [if_pos rfl] at H; first | done | exact H
        clear H
        have H := H1
        clear H1
        replace H := Option.bind_eq_some_iff.mp H
        obtain ⟨t211, A150, H⟩ := H
        replace H : (some t211) = some r := H
        have A15 := am_ A150
        clear A150
        obtain rfl := Option.some.inj H
        go_enter Tryz.func17, Tryz.ntmps17
        go_wp2_with (first | ((with_reducible refine gate_dst (N := 1) rfl ?_); (try (refine gate_guard (by rfl) ?_; dsimp only)); refine box_event ?hg (N := 1) ?hd (cs := #[.slice A0_0 l0_0.length c0_0, .slice A0_1 l0_1.length c0_1, .slice A0_2 l0_2.length c0_2, .slice A0_3 l0_3.length c0_3, .slice A0_4 l0_4.length c0_4, .int .i64 a0_5, .int .i64 a0_6, .string a0_7, .slice A0_8 l0_8.length c0_8, .slice A0_9 l0_9.length c0_9, .slice A0_10 l0_10.length c0_10, .int .i64 a0_11, .slice A0_12 l0_12.length c0_12, .slice A0_13 l0_13.length c0_13, .int .i64 a0_14, .int .i64 a0_15]) (t := 42) ?hr ?_; (case hd => rfl); (case hg => rfl); (case hr => first | (go_simp; done) | (go_simp; rfl)); intro gb204 hg w16 hbox hb; have BK204 := am_ (hbox); have GW204 := am_ ((ybsz_ hg : w.heap.size ≤ gb204)); have GE204 := GW204; replace HB := yst_ hb; clear hb hbox hg; have hcz17 := ye16_ BK204; have hfz17 := yf16_ BK204) | ((with_reducible refine gate_callee (f := 38) rfl ?_); refine goesL_ (some 5) rfl rfl Tryz.func38 (by kernel_rfl) rfl #[.slice A0_0 l0_0.length c0_0] rfl yk1_ ?_; (with_reducible refine (spec_l04OK.calls k _ _ l0_0 true _ ?side1 HC0_0.out A2.out).mono ?_); (case side1 => exact ycb_ HR0_0 HB); rintro e w18 ⟨rfl, hb⟩; refine ⟨_, rfl, ?_⟩; replace BK204 := am_ (ybb_ BK204 hb); replace HB := yst_ hb; (try clear hb); (try clear hb2); (try clear hk); (try clear hi); have hcz19 := ye16_ BK204; have hfz19 := yf16_ BK204) | (go_at_call 39; (with_reducible refine (spec_l03Cells.calls k _ _ l0_1 true _ ?side1 HC0_1.out A5.out).mono ?_); (case side1 => exact ycb_ HR0_1 HB); rintro e w' ⟨rfl, ⟨nd, rfl⟩⟩) | (go_at_call 40; (with_reducible refine (spec_l03OK.calls k _ _ l0_2 _ _ l0_3 _ _ l0_4 a0_5 a0_6 a0_7 true _ ?side1 HC0_2.out ?side3 HC0_3.out ?side5 HC0_4.out A7.out).mono ?_); (case side1 => exact yscq_ HR0_2); (case side3 => exact yscq_ HR0_3); (case side5 => exact yscq_ HR0_4); rintro e w20 ⟨rfl, hb⟩; replace BK204 := am_ (ybb_ BK204 hb); replace HB := yst_ hb; (try clear hb); (try clear hb2); (try clear hk); (try clear hi); have hcz21 := ye16_ BK204; have hfz21 := yf16_ BK204) | (go_at_call 41; (with_reducible refine (spec_l06OK.calls k _ _ l0_8 _ _ l0_9 _ _ l0_10 a0_11 _ _ l0_12 true _ ?side1 HC0_8.out ?side3 HC0_9.out ?side5 HC0_10.out ?side7 HC0_12.out A9.out).mono ?_); (case side1 => exact ycb_ HR0_8 HB); (case side3 => exact ycb_ HR0_9 HB); (case side5 => exact ycb_ HR0_10 HB); (case side7 => exact ycb_ HR0_12 HB); rintro e w22 ⟨rfl, hb⟩; replace BK204 := am_ (ybb_ BK204 hb); replace HB := yst_ hb; (try clear hb); (try clear hb2); (try clear hk); (try clear hi); have hcz23 := ye16_ BK204; have hfz23 := yf16_ BK204) | (go_at_call 42; (with_reducible refine (spec_l08Calls.calls k _ _ l0_0 _ _ l0_1 _ _ l0_2 _ _ l0_3 _ _ l0_4 a0_5 a0_6 a0_7 _ _ l0_8 _ _ l0_9 _ _ l0_10 a0_11 _ _ l0_12 _ _ l0_13 a0_14 a0_15 true _ ?side1 HC0_0.out ?side3 HC0_1.out ?side5 HC0_2.out ?side7 HC0_3.out ?side9 HC0_4.out ?side11 HC0_8.out ?side13 HC0_9.out ?side15 HC0_10.out ?side17 HC0_12.out ?side19 HC0_13.out A11.out).mono ?_); (case side1 => exact ycb_ HR0_0 HB); (case side3 => exact ycb_ HR0_1 HB); (case side5 => exact ycb_ HR0_2 HB); (case side7 => exact ycb_ HR0_3 HB); (case side9 => exact ycb_ HR0_4 HB); (case side11 => exact ycb_ HR0_8 HB); (case side13 => exact ycb_ HR0_9 HB); (case side15 => exact ycb_ HR0_10 HB); (case side17 => exact ycb_ HR0_12 HB); (case side19 => exact ycb_ HR0_13 HB); rintro e w24 ⟨rfl, hb⟩; replace BK204 := am_ (ybb_ BK204 hb); replace HB := yst_ hb; (try clear hb); (try clear hb2); (try clear hk); (try clear hi); have hcz25 := ye16_ BK204; have hfz25 := yf16_ BK204) | (go_at_call 43; (with_reducible refine (spec_l01In.calls a0_14 0 2147483647 true _ A13.out).mono ?_); rintro e w' ⟨rfl, ⟨nd, rfl⟩⟩) | (go_at_call 43; (with_reducible refine (spec_l01In.calls a0_15 0 4000 t211 _ A15.out).mono ?_); rintro e w' ⟨rfl, ⟨nd, rfl⟩⟩))
        go_ret
        exact ⟨yk0_, ybl_⟩
       ·replace c14 := Bool.eq_false_iff.mpr c14
        subst c14
        have H1 : (some false) = some r := by rw [if_neg (show ¬ (false = true) by decide)] at H; first | done | exact H
        clear H
        have H := H1
        clear H1
        obtain rfl := Option.some.inj H
        go_enter Tryz.func17, Tryz.ntmps17
        go_wp2_with (first | ((with_reducible refine gate_dst (N := 1) rfl ?_); (try (refine gate_guard (by rfl) ?_; dsimp only)); refine box_event ?hg (N := 1) ?hd (cs := #[.slice A0_0 l0_0.length c0_0, .slice A0_1 l0_1.length c0_1, .slice A0_2 l0_2.length c0_2, .slice A0_3 l0_3.length c0_3, .slice A0_4 l0_4.length c0_4, .int .i64 a0_5, .int .i64 a0_6, .string a0_7, .slice A0_8 l0_8.length c0_8, .slice A0_9 l0_9.length c0_9, .slice A0_10 l0_10.length c0_10, .int .i64 a0_11, .slice A0_12 l0_12.length c0_12, .slice A0_13 l0_13.length c0_13, .int .i64 a0_14, .int .i64 a0_15]) (t := 42) ?hr ?_; (case hd => rfl); (case hg => rfl); (case hr => first | (go_simp; done) | (go_simp; rfl)); intro gb204 hg w26 hbox hb; have BK204 := am_ (hbox); have GW204 := am_ ((ybsz_ hg : w.heap.size ≤ gb204)); have GE204 := GW204; replace HB := yst_ hb; clear hb hbox hg; have hcz27 := ye16_ BK204; have hfz27 := yf16_ BK204) | ((with_reducible refine gate_callee (f := 38) rfl ?_); refine goesL_ (some 5) rfl rfl Tryz.func38 (by kernel_rfl) rfl #[.slice A0_0 l0_0.length c0_0] rfl yk1_ ?_; (with_reducible refine (spec_l04OK.calls k _ _ l0_0 true _ ?side1 HC0_0.out A2.out).mono ?_); (case side1 => exact ycb_ HR0_0 HB); rintro e w28 ⟨rfl, hb⟩; refine ⟨_, rfl, ?_⟩; replace BK204 := am_ (ybb_ BK204 hb); replace HB := yst_ hb; (try clear hb); (try clear hb2); (try clear hk); (try clear hi); have hcz29 := ye16_ BK204; have hfz29 := yf16_ BK204) | (go_at_call 39; (with_reducible refine (spec_l03Cells.calls k _ _ l0_1 true _ ?side1 HC0_1.out A5.out).mono ?_); (case side1 => exact ycb_ HR0_1 HB); rintro e w' ⟨rfl, ⟨nd, rfl⟩⟩) | (go_at_call 40; (with_reducible refine (spec_l03OK.calls k _ _ l0_2 _ _ l0_3 _ _ l0_4 a0_5 a0_6 a0_7 true _ ?side1 HC0_2.out ?side3 HC0_3.out ?side5 HC0_4.out A7.out).mono ?_); (case side1 => exact yscq_ HR0_2); (case side3 => exact yscq_ HR0_3); (case side5 => exact yscq_ HR0_4); rintro e w30 ⟨rfl, hb⟩; replace BK204 := am_ (ybb_ BK204 hb); replace HB := yst_ hb; (try clear hb); (try clear hb2); (try clear hk); (try clear hi); have hcz31 := ye16_ BK204; have hfz31 := yf16_ BK204) | (go_at_call 41; (with_reducible refine (spec_l06OK.calls k _ _ l0_8 _ _ l0_9 _ _ l0_10 a0_11 _ _ l0_12 true _ ?side1 HC0_8.out ?side3 HC0_9.out ?side5 HC0_10.out ?side7 HC0_12.out A9.out).mono ?_); (case side1 => exact ycb_ HR0_8 HB); (case side3 => exact ycb_ HR0_9 HB); (case side5 => exact ycb_ HR0_10 HB); (case side7 => exact ycb_ HR0_12 HB); rintro e w32 ⟨rfl, hb⟩; replace BK204 := am_ (ybb_ BK204 hb); replace HB := yst_ hb; (try clear hb); (try clear hb2); (try clear hk); (try clear hi); have hcz33 := ye16_ BK204; have hfz33 := yf16_ BK204) | (go_at_call 42; (with_reducible refine (spec_l08Calls.calls k _ _ l0_0 _ _ l0_1 _ _ l0_2 _ _ l0_3 _ _ l0_4 a0_5 a0_6 a0_7 _ _ l0_8 _ _ l0_9 _ _ l0_10 a0_11 _ _ l0_12 _ _ l0_13 a0_14 a0_15 true _ ?side1 HC0_0.out ?side3 HC0_1.out ?side5 HC0_2.out ?side7 HC0_3.out ?side9 HC0_4.out ?side11 HC0_8.out ?side13 HC0_9.out ?side15 HC0_10.out ?side17 HC0_12.out ?side19 HC0_13.out A11.out).mono ?_); (case side1 => exact ycb_ HR0_0 HB); (case side3 => exact ycb_ HR0_1 HB); (case side5 => exact ycb_ HR0_2 HB); (case side7 => exact ycb_ HR0_3 HB); (case side9 => exact ycb_ HR0_4 HB); (case side11 => exact ycb_ HR0_8 HB); (case side13 => exact ycb_ HR0_9 HB); (case side15 => exact ycb_ HR0_10 HB); (case side17 => exact ycb_ HR0_12 HB); (case side19 => exact ycb_ HR0_13 HB); rintro e w34 ⟨rfl, hb⟩; replace BK204 := am_ (ybb_ BK204 hb); replace HB := yst_ hb; (try clear hb); (try clear hb2); (try clear hk); (try clear hi); have hcz35 := ye16_ BK204; have hfz35 := yf16_ BK204) | (go_at_call 43; (with_reducible refine (spec_l01In.calls a0_14 0 2147483647 false _ A13.out).mono ?_); rintro e w' ⟨rfl, ⟨nd, rfl⟩⟩))
        go_ret
        exact ⟨yk0_, ybl_⟩
      ·replace c12 := Bool.eq_false_iff.mpr c12
       subst c12
       have H1 : (some false) = some r := by rw [if_neg (show ¬ (false = true) by decide)] at H; first | done | exact H
       clear H
       have H := H1
       clear H1
       obtain rfl := Option.some.inj H
       go_enter Tryz.func17, Tryz.ntmps17
       go_wp2_with (first | ((with_reducible refine gate_dst (N := 1) rfl ?_); (try (refine gate_guard (by rfl) ?_; dsimp only)); refine box_event ?hg (N := 1) ?hd (cs := #[.slice A0_0 l0_0.length c0_0, .slice A0_1 l0_1.length c0_1, .slice A0_2 l0_2.length c0_2, .slice A0_3 l0_3.length c0_3, .slice A0_4 l0_4.length c0_4, .int .i64 a0_5, .int .i64 a0_6, .string a0_7, .slice A0_8 l0_8.length c0_8, .slice A0_9 l0_9.length c0_9, .slice A0_10 l0_10.length c0_10, .int .i64 a0_11, .slice A0_12 l0_12.length c0_12, .slice A0_13 l0_13.length c0_13, .int .i64 a0_14, .int .i64 a0_15]) (t := 42) ?hr ?_; (case hd => rfl); (case hg => rfl); (case hr => first | (go_simp; done) | (go_simp; rfl)); intro gb204 hg w36 hbox hb; have BK204 := am_ (hbox); have GW204 := am_ ((ybsz_ hg : w.heap.size ≤ gb204)); have GE204 := GW204; replace HB := yst_ hb; clear hb hbox hg; have hcz37 := ye16_ BK204; have hfz37 := yf16_ BK204) | ((with_reducible refine gate_callee (f := 38) rfl ?_); refine goesL_ (some 5) rfl rfl Tryz.func38 (by kernel_rfl) rfl #[.slice A0_0 l0_0.length c0_0] rfl yk1_ ?_; (with_reducible refine (spec_l04OK.calls k _ _ l0_0 true _ ?side1 HC0_0.out A2.out).mono ?_); (case side1 => exact ycb_ HR0_0 HB); rintro e w38 ⟨rfl, hb⟩; refine ⟨_, rfl, ?_⟩; replace BK204 := am_ (ybb_ BK204 hb); replace HB := yst_ hb; (try clear hb); (try clear hb2); (try clear hk); (try clear hi); have hcz39 := ye16_ BK204; have hfz39 := yf16_ BK204) | (go_at_call 39; (with_reducible refine (spec_l03Cells.calls k _ _ l0_1 true _ ?side1 HC0_1.out A5.out).mono ?_); (case side1 => exact ycb_ HR0_1 HB); rintro e w' ⟨rfl, ⟨nd, rfl⟩⟩) | (go_at_call 40; (with_reducible refine (spec_l03OK.calls k _ _ l0_2 _ _ l0_3 _ _ l0_4 a0_5 a0_6 a0_7 true _ ?side1 HC0_2.out ?side3 HC0_3.out ?side5 HC0_4.out A7.out).mono ?_); (case side1 => exact yscq_ HR0_2); (case side3 => exact yscq_ HR0_3); (case side5 => exact yscq_ HR0_4); rintro e w40 ⟨rfl, hb⟩; replace BK204 := am_ (ybb_ BK204 hb); replace HB := yst_ hb; (try clear hb); (try clear hb2); (try clear hk); (try clear hi); have hcz41 := ye16_ BK204; have hfz41 := yf16_ BK204) | (go_at_call 41; (with_reducible refine (spec_l06OK.calls k _ _ l0_8 _ _ l0_9 _ _ l0_10 a0_11 _ _ l0_12 true _ ?side1 HC0_8.out ?side3 HC0_9.out ?side5 HC0_10.out ?side7 HC0_12.out A9.out).mono ?_); (case side1 => exact ycb_ HR0_8 HB); (case side3 => exact ycb_ HR0_9 HB); (case side5 => exact ycb_ HR0_10 HB); (case side7 => exact ycb_ HR0_12 HB); rintro e w42 ⟨rfl, hb⟩; replace BK204 := am_ (ybb_ BK204 hb); replace HB := yst_ hb; (try clear hb); (try clear hb2); (try clear hk); (try clear hi); have hcz43 := ye16_ BK204; have hfz43 := yf16_ BK204) | (go_at_call 42; (with_reducible refine (spec_l08Calls.calls k _ _ l0_0 _ _ l0_1 _ _ l0_2 _ _ l0_3 _ _ l0_4 a0_5 a0_6 a0_7 _ _ l0_8 _ _ l0_9 _ _ l0_10 a0_11 _ _ l0_12 _ _ l0_13 a0_14 a0_15 false _ ?side1 HC0_0.out ?side3 HC0_1.out ?side5 HC0_2.out ?side7 HC0_3.out ?side9 HC0_4.out ?side11 HC0_8.out ?side13 HC0_9.out ?side15 HC0_10.out ?side17 HC0_12.out ?side19 HC0_13.out A11.out).mono ?_); (case side1 => exact ycb_ HR0_0 HB); (case side3 => exact ycb_ HR0_1 HB); (case side5 => exact ycb_ HR0_2 HB); (case side7 => exact ycb_ HR0_3 HB); (case side9 => exact ycb_ HR0_4 HB); (case side11 => exact ycb_ HR0_8 HB); (case side13 => exact ycb_ HR0_9 HB); (case side15 => exact ycb_ HR0_10 HB); (case side17 => exact ycb_ HR0_12 HB); (case side19 => exact ycb_ HR0_13 HB); rintro e w44 ⟨rfl, hb⟩; replace HB := yst_ hb; (try clear hb); (try clear hb2); (try clear hk); (try clear hi)))
       go_ret
       exact ⟨yk0_, ybl_⟩
     ·replace c10 := Bool.eq_false_iff.mpr c10
      subst c10
      have H1 : (some false) = some r := by rw [if_neg (show ¬ (false = true) by decide)] at H; first | done | exact H
      clear H
      have H := H1
      clear H1
      obtain rfl := Option.some.inj H
      go_enter Tryz.func17, Tryz.ntmps17
      go_wp2_with (first | ((with_reducible refine gate_dst (N := 1) rfl ?_); (try (refine gate_guard (by rfl) ?_; dsimp only)); refine box_event ?hg (N := 1) ?hd (cs := #[.slice A0_0 l0_0.length c0_0, .slice A0_1 l0_1.length c0_1, .slice A0_2 l0_2.length c0_2, .slice A0_3 l0_3.length c0_3, .slice A0_4 l0_4.length c0_4, .int .i64 a0_5, .int .i64 a0_6, .string a0_7, .slice A0_8 l0_8.length c0_8, .slice A0_9 l0_9.length c0_9, .slice A0_10 l0_10.length c0_10, .int .i64 a0_11, .slice A0_12 l0_12.length c0_12, .slice A0_13 l0_13.length c0_13, .int .i64 a0_14, .int .i64 a0_15]) (t := 42) ?hr ?_; (case hd => rfl); (case hg => rfl); (case hr => first | (go_simp; done) | (go_simp; rfl)); intro gb204 hg w45 hbox hb; have BK204 := am_ (hbox); have GW204 := am_ ((ybsz_ hg : w.heap.size ≤ gb204)); have GE204 := GW204; replace HB := yst_ hb; clear hb hbox hg; have hcz46 := ye16_ BK204; have hfz46 := yf16_ BK204) | ((with_reducible refine gate_callee (f := 38) rfl ?_); refine goesL_ (some 5) rfl rfl Tryz.func38 (by kernel_rfl) rfl #[.slice A0_0 l0_0.length c0_0] rfl yk1_ ?_; (with_reducible refine (spec_l04OK.calls k _ _ l0_0 true _ ?side1 HC0_0.out A2.out).mono ?_); (case side1 => exact ycb_ HR0_0 HB); rintro e w47 ⟨rfl, hb⟩; refine ⟨_, rfl, ?_⟩; replace BK204 := am_ (ybb_ BK204 hb); replace HB := yst_ hb; (try clear hb); (try clear hb2); (try clear hk); (try clear hi); have hcz48 := ye16_ BK204; have hfz48 := yf16_ BK204) | (go_at_call 39; (with_reducible refine (spec_l03Cells.calls k _ _ l0_1 true _ ?side1 HC0_1.out A5.out).mono ?_); (case side1 => exact ycb_ HR0_1 HB); rintro e w' ⟨rfl, ⟨nd, rfl⟩⟩) | (go_at_call 40; (with_reducible refine (spec_l03OK.calls k _ _ l0_2 _ _ l0_3 _ _ l0_4 a0_5 a0_6 a0_7 true _ ?side1 HC0_2.out ?side3 HC0_3.out ?side5 HC0_4.out A7.out).mono ?_); (case side1 => exact yscq_ HR0_2); (case side3 => exact yscq_ HR0_3); (case side5 => exact yscq_ HR0_4); rintro e w49 ⟨rfl, hb⟩; replace BK204 := am_ (ybb_ BK204 hb); replace HB := yst_ hb; (try clear hb); (try clear hb2); (try clear hk); (try clear hi); have hcz50 := ye16_ BK204; have hfz50 := yf16_ BK204) | (go_at_call 41; (with_reducible refine (spec_l06OK.calls k _ _ l0_8 _ _ l0_9 _ _ l0_10 a0_11 _ _ l0_12 false _ ?side1 HC0_8.out ?side3 HC0_9.out ?side5 HC0_10.out ?side7 HC0_12.out A9.out).mono ?_); (case side1 => exact ycb_ HR0_8 HB); (case side3 => exact ycb_ HR0_9 HB); (case side5 => exact ycb_ HR0_10 HB); (case side7 => exact ycb_ HR0_12 HB); rintro e w51 ⟨rfl, hb⟩; replace HB := yst_ hb; (try clear hb); (try clear hb2); (try clear hk); (try clear hi)))
      go_ret
      exact ⟨yk0_, ybl_⟩
    ·replace c8 := Bool.eq_false_iff.mpr c8
     subst c8
     have H1 : (some false) = some r := by rw [if_neg (show ¬ (false = true) by decide)] at H; first | done | exact H
     clear H
     have H := H1
     clear H1
     obtain rfl := Option.some.inj H
     go_enter Tryz.func17, Tryz.ntmps17
     go_wp2_with (first | ((with_reducible refine gate_dst (N := 1) rfl ?_); (try (refine gate_guard (by rfl) ?_; dsimp only)); refine box_event ?hg (N := 1) ?hd (cs := #[.slice A0_0 l0_0.length c0_0, .slice A0_1 l0_1.length c0_1, .slice A0_2 l0_2.length c0_2, .slice A0_3 l0_3.length c0_3, .slice A0_4 l0_4.length c0_4, .int .i64 a0_5, .int .i64 a0_6, .string a0_7, .slice A0_8 l0_8.length c0_8, .slice A0_9 l0_9.length c0_9, .slice A0_10 l0_10.length c0_10, .int .i64 a0_11, .slice A0_12 l0_12.length c0_12, .slice A0_13 l0_13.length c0_13, .int .i64 a0_14, .int .i64 a0_15]) (t := 42) ?hr ?_; (case hd => rfl); (case hg => rfl); (case hr => first | (go_simp; done) | (go_simp; rfl)); intro gb204 hg w52 hbox hb; have BK204 := am_ (hbox); have GW204 := am_ ((ybsz_ hg : w.heap.size ≤ gb204)); have GE204 := GW204; replace HB := yst_ hb; clear hb hbox hg; have hcz53 := ye16_ BK204; have hfz53 := yf16_ BK204) | ((with_reducible refine gate_callee (f := 38) rfl ?_); refine goesL_ (some 5) rfl rfl Tryz.func38 (by kernel_rfl) rfl #[.slice A0_0 l0_0.length c0_0] rfl yk1_ ?_; (with_reducible refine (spec_l04OK.calls k _ _ l0_0 true _ ?side1 HC0_0.out A2.out).mono ?_); (case side1 => exact ycb_ HR0_0 HB); rintro e w54 ⟨rfl, hb⟩; refine ⟨_, rfl, ?_⟩; replace BK204 := am_ (ybb_ BK204 hb); replace HB := yst_ hb; (try clear hb); (try clear hb2); (try clear hk); (try clear hi); have hcz55 := ye16_ BK204; have hfz55 := yf16_ BK204) | (go_at_call 39; (with_reducible refine (spec_l03Cells.calls k _ _ l0_1 true _ ?side1 HC0_1.out A5.out).mono ?_); (case side1 => exact ycb_ HR0_1 HB); rintro e w' ⟨rfl, ⟨nd, rfl⟩⟩) | (go_at_call 40; (with_reducible refine (spec_l03OK.calls k _ _ l0_2 _ _ l0_3 _ _ l0_4 a0_5 a0_6 a0_7 false _ ?side1 HC0_2.out ?side3 HC0_3.out ?side5 HC0_4.out A7.out).mono ?_); (case side1 => exact yscq_ HR0_2); (case side3 => exact yscq_ HR0_3); (case side5 => exact yscq_ HR0_4); rintro e w56 ⟨rfl, hb⟩; replace HB := yst_ hb; (try clear hb); (try clear hb2); (try clear hk); (try clear hi)))
     go_ret
     exact ⟨yk0_, ybl_⟩
   ·replace c6 := Bool.eq_false_iff.mpr c6
    subst c6
    have H1 : (some false) = some r := by rw [if_neg (show ¬ (false = true) by decide)] at H; first | done | exact H
    clear H
    have H := H1
    clear H1
    obtain rfl := Option.some.inj H
    go_enter Tryz.func17, Tryz.ntmps17
    go_wp2_with (first | ((with_reducible refine gate_dst (N := 1) rfl ?_); (try (refine gate_guard (by rfl) ?_; dsimp only)); refine box_event ?hg (N := 1) ?hd (cs := #[.slice A0_0 l0_0.length c0_0, .slice A0_1 l0_1.length c0_1, .slice A0_2 l0_2.length c0_2, .slice A0_3 l0_3.length c0_3, .slice A0_4 l0_4.length c0_4, .int .i64 a0_5, .int .i64 a0_6, .string a0_7, .slice A0_8 l0_8.length c0_8, .slice A0_9 l0_9.length c0_9, .slice A0_10 l0_10.length c0_10, .int .i64 a0_11, .slice A0_12 l0_12.length c0_12, .slice A0_13 l0_13.length c0_13, .int .i64 a0_14, .int .i64 a0_15]) (t := 42) ?hr ?_; (case hd => rfl); (case hg => rfl); (case hr => first | (go_simp; done) | (go_simp; rfl)); intro gb204 hg w57 hbox hb; have BK204 := am_ (hbox); have GW204 := am_ ((ybsz_ hg : w.heap.size ≤ gb204)); have GE204 := GW204; replace HB := yst_ hb; clear hb hbox hg; have hcz58 := ye16_ BK204; have hfz58 := yf16_ BK204) | ((with_reducible refine gate_callee (f := 38) rfl ?_); refine goesL_ (some 5) rfl rfl Tryz.func38 (by kernel_rfl) rfl #[.slice A0_0 l0_0.length c0_0] rfl yk1_ ?_; (with_reducible refine (spec_l04OK.calls k _ _ l0_0 true _ ?side1 HC0_0.out A2.out).mono ?_); (case side1 => exact ycb_ HR0_0 HB); rintro e w59 ⟨rfl, hb⟩; refine ⟨_, rfl, ?_⟩; replace BK204 := am_ (ybb_ BK204 hb); replace HB := yst_ hb; (try clear hb); (try clear hb2); (try clear hk); (try clear hi); have hcz60 := ye16_ BK204; have hfz60 := yf16_ BK204) | (go_at_call 39; (with_reducible refine (spec_l03Cells.calls k _ _ l0_1 false _ ?side1 HC0_1.out A5.out).mono ?_); (case side1 => exact ycb_ HR0_1 HB); rintro e w' ⟨rfl, ⟨nd, rfl⟩⟩))
    go_ret
    exact ⟨yk0_, ybl_⟩
  ·rw [if_neg c4] at H
   have c4b0 : decide ((l0_1.length : Int) ≤ 400) = false := decide_eq_false c4
   have c4b1 : decide (l0_1.length ≤ 400) = false := decide_eq_false (by omega)
   clear c4
   obtain rfl := Option.some.inj H
   go_enter Tryz.func17, Tryz.ntmps17
   go_wp2_with (first | ((with_reducible refine gate_dst (N := 1) rfl ?_); (try (refine gate_guard (by rfl) ?_; dsimp only)); refine box_event ?hg (N := 1) ?hd (cs := #[.slice A0_0 l0_0.length c0_0, .slice A0_1 l0_1.length c0_1, .slice A0_2 l0_2.length c0_2, .slice A0_3 l0_3.length c0_3, .slice A0_4 l0_4.length c0_4, .int .i64 a0_5, .int .i64 a0_6, .string a0_7, .slice A0_8 l0_8.length c0_8, .slice A0_9 l0_9.length c0_9, .slice A0_10 l0_10.length c0_10, .int .i64 a0_11, .slice A0_12 l0_12.length c0_12, .slice A0_13 l0_13.length c0_13, .int .i64 a0_14, .int .i64 a0_15]) (t := 42) ?hr ?_; (case hd => rfl); (case hg => rfl); (case hr => first | (go_simp; done) | (go_simp; rfl)); intro gb204 hg w61 hbox hb; have BK204 := am_ (hbox); have GW204 := am_ ((ybsz_ hg : w.heap.size ≤ gb204)); have GE204 := GW204; replace HB := yst_ hb; clear hb hbox hg; have hcz62 := ye16_ BK204; have hfz62 := yf16_ BK204) | ((with_reducible refine gate_callee (f := 38) rfl ?_); refine goesL_ (some 5) rfl rfl Tryz.func38 (by kernel_rfl) rfl #[.slice A0_0 l0_0.length c0_0] rfl yk1_ ?_; (with_reducible refine (spec_l04OK.calls k _ _ l0_0 true _ ?side1 HC0_0.out A2.out).mono ?_); (case side1 => exact ycb_ HR0_0 HB); rintro e w63 ⟨rfl, hb⟩; refine ⟨_, rfl, ?_⟩; replace BK204 := am_ (ybb_ BK204 hb); replace HB := yst_ hb; (try clear hb); (try clear hb2); (try clear hk); (try clear hi); have hcz64 := ye16_ BK204; have hfz64 := yf16_ BK204))
   go_ret
   exact ⟨yk0_, ybl_⟩
 ·replace c3 := Bool.eq_false_iff.mpr c3
  subst c3
  have H1 : (some false) = some r := by rw [if_neg (show ¬ (false = true) by decide)] at H; first | done | exact H
  clear H
  have H := H1
  clear H1
  obtain rfl := Option.some.inj H
  go_enter Tryz.func17, Tryz.ntmps17
  go_wp2_with (first | ((with_reducible refine gate_dst (N := 1) rfl ?_); (try (refine gate_guard (by rfl) ?_; dsimp only)); refine box_event ?hg (N := 1) ?hd (cs := #[.slice A0_0 l0_0.length c0_0, .slice A0_1 l0_1.length c0_1, .slice A0_2 l0_2.length c0_2, .slice A0_3 l0_3.length c0_3, .slice A0_4 l0_4.length c0_4, .int .i64 a0_5, .int .i64 a0_6, .string a0_7, .slice A0_8 l0_8.length c0_8, .slice A0_9 l0_9.length c0_9, .slice A0_10 l0_10.length c0_10, .int .i64 a0_11, .slice A0_12 l0_12.length c0_12, .slice A0_13 l0_13.length c0_13, .int .i64 a0_14, .int .i64 a0_15]) (t := 42) ?hr ?_; (case hd => rfl); (case hg => rfl); (case hr => first | (go_simp; done) | (go_simp; rfl)); intro gb204 hg w65 hbox hb; have BK204 := am_ (hbox); have GW204 := am_ ((ybsz_ hg : w.heap.size ≤ gb204)); have GE204 := GW204; replace HB := yst_ hb; clear hb hbox hg; have hcz66 := ye16_ BK204; have hfz66 := yf16_ BK204) | ((with_reducible refine gate_callee (f := 38) rfl ?_); refine goesL_ (some 5) rfl rfl Tryz.func38 (by kernel_rfl) rfl #[.slice A0_0 l0_0.length c0_0] rfl yk1_ ?_; (with_reducible refine (spec_l04OK.calls k _ _ l0_0 false _ ?side1 HC0_0.out A2.out).mono ?_); (case side1 => exact ycb_ HR0_0 HB); rintro e w67 ⟨rfl, hb⟩; refine ⟨_, rfl, ?_⟩; replace HB := yst_ hb; (try clear hb); (try clear hb2); (try clear hk); (try clear hi)))
  go_ret
  exact ⟨yk0_, ybl_⟩

/-! ### spec_MachineOK: function 6 -/
def spec_MachineOK.f (k : Nat) (l0_0 : List (S75)) (l0_1 : List Int) (l0_2 : List Int) (l0_3 : List Int) (l0_4 : List Int) (a0_5 : Int) (a0_6 : Int) (a0_7 : ByteArray) (l0_8 : List Bool) (l0_9 : List Int) (l0_10 : List Int) (a0_11 : Int) (l0_12 : List (S88)) (l0_13 : List (S63)) (a0_14 : Int) (a0_15 : Int) : Option (Bool) := (spec_l08OK.f k l0_0 l0_1 l0_2 l0_3 l0_4 a0_5 a0_6 a0_7 l0_8 l0_9 l0_10 a0_11 l0_12 l0_13 a0_14 a0_15).bind fun t213 => (some t213)
theorem spec_MachineOK.mono : ∀ a0 a1 a2 a3 a4 a5 a6 a7 a8 a9 a10 a11 a12 a13 a14 a15 k, LeO (spec_MachineOK.f k a0 a1 a2 a3 a4 a5 a6 a7 a8 a9 a10 a11 a12 a13 a14 a15) (spec_MachineOK.f (k + 1) a0 a1 a2 a3 a4 a5 a6 a7 a8 a9 a10 a11 a12 a13 a14 a15) := by
 intro a0 a1 a2 a3 a4 a5 a6 a7 a8 a9 a10 a11 a12 a13 a14 a15 k
 unfold spec_MachineOK.f
 repeat' first
   | (with_reducible exact spec_l08OK.mono _ _ _ _ _ _ _ _ _ _ _ _ _ _ _ _ _)
   | (with_reducible exact LeO.refl _)
   | (with_reducible exact LeO.none _)
   | (with_reducible refine LeO.ite ?_ ?_)
   | (with_reducible refine LeO.bind ?_ (fun _ => ?_))
   | exact spec_l08OK.mono _ _ _ _ _ _ _ _ _ _ _ _ _ _ _ _ _
   | exact LeO.none _
   | refine LeO.ite ?_ ?_
   | refine LeO.bind ?_ (fun _ => ?_)
set_option maxHeartbeats 8000000 in
set_option maxRecDepth 100000 in
theorem spec_MachineOK.calls (k : Nat) (A0_0 : Option Addr) (c0_0 : Nat) (l0_0 : List (S75)) (A0_1 : Option Addr) (c0_1 : Nat) (l0_1 : List Int) (A0_2 : Option Addr) (c0_2 : Nat) (l0_2 : List Int) (A0_3 : Option Addr) (c0_3 : Nat) (l0_3 : List Int) (A0_4 : Option Addr) (c0_4 : Nat) (l0_4 : List Int) (a0_5 : Int) (a0_6 : Int) (a0_7 : ByteArray) (A0_8 : Option Addr) (c0_8 : Nat) (l0_8 : List Bool) (A0_9 : Option Addr) (c0_9 : Nat) (l0_9 : List Int) (A0_10 : Option Addr) (c0_10 : Nat) (l0_10 : List Int) (a0_11 : Int) (A0_12 : Option Addr) (c0_12 : Nat) (l0_12 : List (S88)) (A0_13 : Option Addr) (c0_13 : Nat) (l0_13 : List (S63)) (a0_14 : Int) (a0_15 : Int) (r : Bool) (w : World) (hr0_0 : Kd.C k75 w A0_0 l0_0.length l0_0) (hc0_0 : l0_0.length ≤ c0_0) (hr0_1 : Kd.C (Kd.int .i64) w A0_1 l0_1.length l0_1) (hc0_1 : l0_1.length ≤ c0_1) (hr0_2 : Kd.C (Kd.int .i64) w A0_2 l0_2.length l0_2) (hc0_2 : l0_2.length ≤ c0_2) (hr0_3 : Kd.C (Kd.int .i64) w A0_3 l0_3.length l0_3) (hc0_3 : l0_3.length ≤ c0_3) (hr0_4 : Kd.C (Kd.int .i64) w A0_4 l0_4.length l0_4) (hc0_4 : l0_4.length ≤ c0_4) (hr0_8 : Kd.C Kd.bool w A0_8 l0_8.length l0_8) (hc0_8 : l0_8.length ≤ c0_8) (hr0_9 : Kd.C (Kd.int .i64) w A0_9 l0_9.length l0_9) (hc0_9 : l0_9.length ≤ c0_9) (hr0_10 : Kd.C (Kd.int .i64) w A0_10 l0_10.length l0_10) (hc0_10 : l0_10.length ≤ c0_10) (hr0_12 : Kd.C k88 w A0_12 l0_12.length l0_12) (hc0_12 : l0_12.length ≤ c0_12) (hr0_13 : Kd.C k63 w A0_13 l0_13.length l0_13) (hc0_13 : l0_13.length ≤ c0_13) (h : spec_MachineOK.f k l0_0 l0_1 l0_2 l0_3 l0_4 a0_5 a0_6 a0_7 l0_8 l0_9 l0_10 a0_11 l0_12 l0_13 a0_14 a0_15 = some r) :
  Calls Tryz.prog 6 #[.agg #[.slice A0_0 l0_0.length c0_0, .slice A0_1 l0_1.length c0_1, .slice A0_2 l0_2.length c0_2, .slice A0_3 l0_3.length c0_3, .slice A0_4 l0_4.length c0_4, .int .i64 a0_5, .int .i64 a0_6, .string a0_7, .slice A0_8 l0_8.length c0_8, .slice A0_9 l0_9.length c0_9, .slice A0_10 l0_10.length c0_10, .int .i64 a0_11, .slice A0_12 l0_12.length c0_12, .slice A0_13 l0_13.length c0_13, .int .i64 a0_14, .int .i64 a0_15]] w fun e w' => e = .returned (.bool r) ∧ Below w.heap.size w w' := by
 have hu42 := Tryz.underlying42
 have HR0_0 := am_ hr0_0
 have HC0_0 := am_ hc0_0
 clear hr0_0 hc0_0
 have HR0_1 := am_ hr0_1
 have HC0_1 := am_ hc0_1
 clear hr0_1 hc0_1
 have HR0_2 := am_ hr0_2
 have HC0_2 := am_ hc0_2
 clear hr0_2 hc0_2
 have HR0_3 := am_ hr0_3
 have HC0_3 := am_ hc0_3
 clear hr0_3 hc0_3
 have HR0_4 := am_ hr0_4
 have HC0_4 := am_ hc0_4
 clear hr0_4 hc0_4
 have HR0_8 := am_ hr0_8
 have HC0_8 := am_ hc0_8
 clear hr0_8 hc0_8
 have HR0_9 := am_ hr0_9
 have HC0_9 := am_ hc0_9
 clear hr0_9 hc0_9
 have HR0_10 := am_ hr0_10
 have HC0_10 := am_ hc0_10
 clear hr0_10 hc0_10
 have HR0_12 := am_ hr0_12
 have HC0_12 := am_ hc0_12
 clear hr0_12 hc0_12
 have HR0_13 := am_ hr0_13
 have HC0_13 := am_ hc0_13
 clear hr0_13 hc0_13
 have HB := am_ (Below.refl w.heap.size w)
 have H : ((spec_l08OK.f k l0_0 l0_1 l0_2 l0_3 l0_4 a0_5 a0_6 a0_7 l0_8 l0_9 l0_10 a0_11 l0_12 l0_13 a0_14 a0_15).bind fun t213 => (some t213)) = some r := h
 clear h
 replace H := Option.bind_eq_some_iff.mp H
 obtain ⟨t213, A20, H⟩ := H
 replace H : (some t213) = some r := H
 have A2 := am_ A20
 clear A20
 obtain rfl := Option.some.inj H
 go_enter Tryz.func6, Tryz.ntmps6
 go_wp2_with (first | ((with_reducible refine gate_dst (N := 1) rfl ?_); refine box_event ?hg (N := 1) ?hd (cs := #[.slice A0_0 l0_0.length c0_0, .slice A0_1 l0_1.length c0_1, .slice A0_2 l0_2.length c0_2, .slice A0_3 l0_3.length c0_3, .slice A0_4 l0_4.length c0_4, .int .i64 a0_5, .int .i64 a0_6, .string a0_7, .slice A0_8 l0_8.length c0_8, .slice A0_9 l0_9.length c0_9, .slice A0_10 l0_10.length c0_10, .int .i64 a0_11, .slice A0_12 l0_12.length c0_12, .slice A0_13 l0_13.length c0_13, .int .i64 a0_14, .int .i64 a0_15]) (t := 42) ?hr ?_; (case hd => rfl); (case hg => rfl); (case hr => first | (go_simp; done) | (go_simp; rfl)); intro gb212 hg w3 hbox hb; have BK212 := am_ (hbox); have GW212 := am_ ((ybsz_ hg : w.heap.size ≤ gb212)); have GE212 := GW212; replace HB := yst_ hb; clear hb hbox hg; have hcz4 := ye16_ BK212; have hfz4 := yf16_ BK212) | ((with_reducible refine gate_callee (f := 17) rfl ?_); refine goesL_ (some 4) rfl rfl Tryz.func17 (by kernel_rfl) rfl #[.agg #[.slice A0_0 l0_0.length c0_0, .slice A0_1 l0_1.length c0_1, .slice A0_2 l0_2.length c0_2, .slice A0_3 l0_3.length c0_3, .slice A0_4 l0_4.length c0_4, .int .i64 a0_5, .int .i64 a0_6, .string a0_7, .slice A0_8 l0_8.length c0_8, .slice A0_9 l0_9.length c0_9, .slice A0_10 l0_10.length c0_10, .int .i64 a0_11, .slice A0_12 l0_12.length c0_12, .slice A0_13 l0_13.length c0_13, .int .i64 a0_14, .int .i64 a0_15]] rfl yk1_ ?_; (with_reducible refine (spec_l08OK.calls k _ _ l0_0 _ _ l0_1 _ _ l0_2 _ _ l0_3 _ _ l0_4 a0_5 a0_6 a0_7 _ _ l0_8 _ _ l0_9 _ _ l0_10 a0_11 _ _ l0_12 _ _ l0_13 a0_14 a0_15 t213 _ ?side1 HC0_0.out ?side3 HC0_1.out ?side5 HC0_2.out ?side7 HC0_3.out ?side9 HC0_4.out ?side11 HC0_8.out ?side13 HC0_9.out ?side15 HC0_10.out ?side17 HC0_12.out ?side19 HC0_13.out A2.out).mono ?_); (case side1 => exact ycb_ HR0_0 HB); (case side3 => exact ycb_ HR0_1 HB); (case side5 => exact ycb_ HR0_2 HB); (case side7 => exact ycb_ HR0_3 HB); (case side9 => exact ycb_ HR0_4 HB); (case side11 => exact ycb_ HR0_8 HB); (case side13 => exact ycb_ HR0_9 HB); (case side15 => exact ycb_ HR0_10 HB); (case side17 => exact ycb_ HR0_12 HB); (case side19 => exact ycb_ HR0_13 HB); rintro e w5 ⟨rfl, hb⟩; refine ⟨_, rfl, ?_⟩; replace HB := yst_ hb; (try clear hb); (try clear hb2); (try clear hk); (try clear hi)))
 go_ret
 exact ⟨yk0_, ybl_⟩

/-! ### laws_toWord: function 44 -/
def laws_toWord.f (a0_0 : ByteArray) (a0_1 : Int) (a0_2 : Int) : Option (ByteArray × Int × Int) := some (a0_0, a0_1, a0_2)
set_option maxHeartbeats 8000000 in
set_option maxRecDepth 100000 in
theorem laws_toWord.calls (a0_0 : ByteArray) (a0_1 : Int) (a0_2 : Int) (r1 : ByteArray) (r2 : Int) (r3 : Int) (w : World) (h : laws_toWord.f a0_0 a0_1 a0_2 = some (r1, r2, r3)) :
  Calls Tryz.prog 44 #[.agg #[.string a0_0, .int .i64 a0_1, .int .i64 a0_2]] w fun e w' => e = .returned (.agg #[.string r1, .int .i64 r2, .int .i64 r3]) ∧ Below w.heap.size w w' := by
 have hu71 := Tryz.underlying71
 have hu75 := Tryz.underlying75
 have HB := am_ (Below.refl w.heap.size w)
 have H : (some (a0_0, a0_1, a0_2)) = some (r1, r2, r3) := h
 clear h
 simp only [Option.some.injEq, Prod.mk.injEq] at H
 obtain ⟨rfl, rfl, rfl⟩ := H
 go_enter Tryz.func44, Tryz.ntmps44
 go_wp2_with (first | ((with_reducible refine gate_dst (N := 1) rfl ?_); refine box_event ?hg (N := 1) ?hd (cs := #[.string a0_0, .int .i64 a0_1, .int .i64 a0_2]) (t := 71) ?hr ?_; (case hd => rfl); (case hg => rfl); (case hr => first | (go_simp; done) | (go_simp; rfl)); intro gb214 hg w2 hbox hb; have BK214 := am_ (hbox); have GW214 := am_ ((ybsz_ hg : w.heap.size ≤ gb214)); have GE214 := GW214; replace HB := yst_ hb; clear hb hbox hg) | ((with_reducible refine gate_dst (N := 2) rfl ?_); refine box_event ?hg (N := 2) ?hd (cs := #[.string (⟨#[]⟩ : ByteArray), .int .i64 0, .int .i64 0]) (t := 75) ?hr ?_; (case hd => rfl); (case hg => rfl); (case hr => first | (go_simp; done) | (go_simp; rfl)); intro gb215 hg w3 hbox hb; have BK215 := am_ (hbox); have GW215 := am_ ((ybsz_ hg : w.heap.size ≤ gb215)); have GE215 := GW215; replace HB := yst_ hb; have NB214_215 := am_ (ybne_ hg BK214); have NB215_214 := am_ ((ybne_ hg BK214).symm); replace BK214 := am_ (ybb_ BK214 hb); clear hb hbox hg) | ((with_reducible refine gate_dst (N := 3) rfl ?_); refine box_event ?hg (N := 3) ?hd (cs := #[.string (⟨#[]⟩ : ByteArray), .int .i64 0, .int .i64 0]) (t := 75) ?hr ?_; (case hd => rfl); (case hg => rfl); (case hr => first | (go_simp; done) | (go_simp; rfl)); intro gb216 hg w4 hbox hb; have BK216 := am_ (hbox); have GW216 := am_ ((ybsz_ hg : w.heap.size ≤ gb216)); have GE216 := GW216; replace HB := yst_ hb; have NB214_216 := am_ (ybne_ hg BK214); have NB216_214 := am_ ((ybne_ hg BK214).symm); replace BK214 := am_ (ybb_ BK214 hb); have NB215_216 := am_ (ybne_ hg BK215); have NB216_215 := am_ ((ybne_ hg BK215).symm); replace BK215 := am_ (ybb_ BK215 hb); clear hb hbox hg; have hnb5 := NB214_215.out; have hnc5 := NB215_214.out; have hnb6 := NB214_216.out; have hnc6 := NB216_214.out; have hcz7 := ye3_ BK214; have hfz7 := yf3_ BK214; have hnb8 := NB216_215.out; have hnc8 := NB215_216.out; have hcz9 := ye3_ BK216; have hfz9 := yf3_ BK216; have hcz10 := ye3_ BK215; have hfz10 := yf3_ BK215))
 refine bodyPost_ret (results_cell_row rfl _ _ gb215 75 #[.string a0_0, .int .i64 a0_1, .int .i64 a0_2] (0, 0) _ rfl (by (with_reducible repeat (first | refine blk_drewN ?_ _ | refine blk_drew ?_ | refine blk_alloc ?_ _)); refine blk_put (cs := #[.string a0_0, .int .i64 a0_1, .int .i64 0]) ?_ 2 _ rfl; (with_reducible repeat (first | refine blk_drewN ?_ _ | refine blk_drew ?_ | refine blk_alloc ?_ _)); refine blk_put (cs := #[.string a0_0, .int .i64 0, .int .i64 0]) ?_ 1 _ rfl; (with_reducible repeat (first | refine blk_drewN ?_ _ | refine blk_drew ?_ | refine blk_alloc ?_ _)); refine blk_put (cs := #[.string (⟨#[]⟩ : ByteArray), .int .i64 0, .int .i64 0]) ?_ 0 _ rfl; (with_reducible repeat (first | refine blk_drewN ?_ _ | refine blk_drew ?_ | refine blk_alloc ?_ _)); refine blk_far ?_ NB215_216.out _; (with_reducible repeat (first | refine blk_drewN ?_ _ | refine blk_drew ?_ | refine blk_alloc ?_ _)); refine blk_far ?_ NB215_216.out _; (with_reducible repeat (first | refine blk_drewN ?_ _ | refine blk_drew ?_ | refine blk_alloc ?_ _)); refine blk_far ?_ NB215_216.out _; (with_reducible repeat (first | refine blk_drewN ?_ _ | refine blk_drew ?_ | refine blk_alloc ?_ _)); exact BK215.out) Tryz.underlying75 rfl (by kernel_rfl)) rfl ?_
 exact ⟨yk0_, ybl_⟩

/-! ### laws_toWordS: function 18 -/
def laws_toWordS.l0 : Nat → List (S71) → List (S75) → Int → Option ((List (S75)))
 | 0, _, _, _ => none
 | k + 1, x0, x3, x4 => if x4 < (x0.length : Int) then (if 0 ≤ x4 then ((laws_toWord.f ((rd_T71 x0 x4).f0) ((rd_T71 x0 x4).f1) ((rd_T71 x0 x4).f2)).bind fun bt221 => (if x4 < (x3.length : Int) then (laws_toWordS.l0 k x0 (x3.set (x4 : Int).toNat (⟨bt221.1, bt221.2.1, bt221.2.2⟩ : S75)) (wrap64 (x4 + 1))) else (none))) else (none)) else (some x3)
def laws_toWordS.f (k : Nat) (l0 : List (S71)) : Option ((List (S75))) := if 0 ≤ (l0.length : Int) then (if ((l0.length : Int) : Int).toNat ≤ 8796093022208 then (laws_toWordS.l0 k l0 (List.replicate ((l0.length : Int) : Int).toNat z75) 0) else (none)) else (none)
theorem laws_toWordS.mono_l : ∀ k, (∀ y0 y1 y2, LeO (laws_toWordS.l0 k y0 y1 y2) (laws_toWordS.l0 (k + 1) y0 y1 y2))
 | 0 => fun _ _ _ r h => by simp [laws_toWordS.l0] at h
 | k + 1 => by
  have ih0 := laws_toWordS.mono_l k
  ·intro y0 y1 y2
   unfold laws_toWordS.l0
   repeat' first
   | (with_reducible exact ih0 _ _ _)
   | (with_reducible exact LeO.refl _)
   | (with_reducible exact LeO.none _)
   | (with_reducible refine LeO.ite ?_ ?_)
   | (with_reducible refine LeO.bind ?_ (fun _ => ?_))
   | exact ih0 _ _ _
   | exact LeO.none _
   | refine LeO.ite ?_ ?_
   | refine LeO.bind ?_ (fun _ => ?_)
theorem laws_toWordS.mono : ∀ a0 k, LeO (laws_toWordS.f k a0) (laws_toWordS.f (k + 1) a0) := by
 intro a0 k
 have ih0 := laws_toWordS.mono_l k
 unfold laws_toWordS.f
 repeat' first
   | (with_reducible exact ih0 _ _ _)
   | (with_reducible exact LeO.refl _)
   | (with_reducible exact LeO.none _)
   | (with_reducible refine LeO.ite ?_ ?_)
   | (with_reducible refine LeO.bind ?_ (fun _ => ?_))
   | exact ih0 _ _ _
   | exact LeO.none _
   | refine LeO.ite ?_ ?_
   | refine LeO.bind ?_ (fun _ => ?_)
set_option maxHeartbeats 8000000 in
set_option maxRecDepth 100000 in
theorem laws_toWordS.calls (k : Nat) (A0 : Option Addr) (c0 : Nat) (l0 : List (S71)) (r : List (S75)) (w : World) (hr0 : Kd.C k71 w A0 l0.length l0) (hc0 : l0.length ≤ c0) (h : laws_toWordS.f k l0 = some r) :
  Calls Tryz.prog 18 #[.slice A0 l0.length c0] w fun e w' => ∃ v0_ : Value, e = .returned (v0_) ∧ Kd.R k75 75 w' w.heap.size (fun _ => True) v0_ r ∧ Below w.heap.size w w' := by
 have hu71 := Tryz.underlying71
 have hu75 := Tryz.underlying75
 have HR0 := am_ hr0
 have HC0 := am_ hc0
 clear hr0 hc0
 have HB := am_ (Below.refl w.heap.size w)
 have H : (if 0 ≤ (l0.length : Int) then (if ((l0.length : Int) : Int).toNat ≤ 8796093022208 then (laws_toWordS.l0 k l0 (List.replicate ((l0.length : Int) : Int).toNat z75) 0) else (none)) else (none)) = some r := h
 clear h
 by_cases c2 : 0 ≤ (l0.length : Int)
 ·rw [if_pos c2] at H
  have c2b0 := eq_true c2
  have c2b1 : decide (0 ≤ (l0.length : Int)) = true := decide_eq_true c2
  clear c2
  by_cases c3 : ((l0.length : Int) : Int).toNat ≤ 8796093022208
  ·rw [if_pos c3] at H
   have c3b0 := eq_true c3
   have c3b1 : decide (((l0.length : Int) : Int).toNat ≤ 8796093022208) = true := decide_eq_true c3
   clear c3
   obtain ⟨y217, hy217⟩ : ∃ y_ : List (S75), y_ = (List.replicate ((l0.length : Int) : Int).toNat z75) := ⟨_, rfl⟩
   replace H : (laws_toWordS.l0 k l0 y217 0) = some r := by first | (rw [hy217]; with_reducible exact H) | (have H2_ := (Option.bind_some _ _).symm.trans H; rw [hy217]; with_reducible exact H2_) | (have H2_ := (Option.bind_some _ _).symm.trans H; with_reducible exact H2_) | with_reducible exact H | (rw [hy217]; exact H) | exact H
   have Ny217 := am_ hy217
   clear hy217
   have H' := am_ H
   clear H
   go_enter Tryz.func18, Tryz.ntmps18
   go_wp2_with (first | ((with_reducible refine gate_dst (N := 7) rfl ?_); refine Kd.R_make k75 _ 75 rfl (N := 7) rfl 35 _ _ rfl (l0.length : Int) rfl rfl Tryz.underlying35 (.agg #[(.string ⟨#[]⟩), (.int .i64 0), (.int .i64 0)]) 32 info75 rfl (by decide) (by omega) z75 (ok := fun _ => True) (okp := fun _ => True) (k75_mkM _ _ _ z75 ) (fun _ hk => hk) trivial (of_decide_eq_true yqv11_) (Nat.le_trans (Nat.mul_le_mul_right _ (of_decide_eq_true yqv11_ : (l0.length : Int).toNat ≤ 8796093022208)) (by omega)) (Below.refl _ _) (Nat.le_refl _) ?_; intro v218 w4 ho5 hb hg_ hnew_; clear hg_ hnew_; (first | rw [← Ny217.out] at ho5 | (simp only [Int.reduceToNat] at ho5; rw [← Ny217.out] at ho5)); have HO219 := am_ (Kd.R_lower ho5 (below_size ybl_)); replace HB := yst_ hb; clear hb ho5))
   go_loopg [4] k (fun kq v4 w' => ∃ (x3_1 : List (S75)) (x4_1 : Int), v4 = .int .i64 x4_1 ∧ Aside0 (laws_toWordS.l0 kq l0 x3_1 x4_1 = some r) ∧ Aside0 (kq ≤ k) ∧ Aside0 (Kd.R k75 75 w' w.heap.size (fun _ => True) v218 x3_1) ∧ Aside0 (Below w.heap.size w w'))
   case atStart => exact ⟨(y217), (0), (by first | rfl | (simp; done) | (simp [*]; done)), H', ⟨Nat.le_refl _⟩, ⟨(yru_ HO219)⟩, ⟨ybl_⟩⟩
   case round =>
    clear H'
    try clear c1
    try clear c2
    try clear c2b0
    try clear c2b1
    try clear p2
    try clear c3
    try clear c3b0
    try clear c3b1
    obtain ⟨x3_1, x4_1, rfl, HA, HK1, HO_3, HB⟩ := hrel
    cases gk with
    | zero => exact absurd HA.out (by simp [laws_toWordS.l0])
    | succ k1 =>
     have H := HA.out
     clear HA
     simp only [laws_toWordS.l0] at H
     by_cases c6 : x4_1 < (l0.length : Int)
     ·rw [if_pos c6] at H
      have c6b0 : decide (x4_1 < (l0.length : Int)) = true := decide_eq_true c6
      clear c6
      by_cases c7 : 0 ≤ x4_1
      ·rw [if_pos c7] at H
       have c7b0 : decide (0 ≤ x4_1) = true := decide_eq_true c7
       clear c7
       replace H := Option.bind_eq_some_iff.mp H
       obtain ⟨⟨t221, t222, t223⟩, A80, H⟩ := H
       replace H : (if x4_1 < (x3_1.length : Int) then (laws_toWordS.l0 k1 l0 (x3_1.set (x4_1 : Int).toNat (⟨t221, t222, t223⟩ : S75)) (wrap64 (x4_1 + 1))) else (none)) = some r := H
       have A8 := am_ A80
       clear A80
       by_cases c9 : x4_1 < (x3_1.length : Int)
       ·rw [if_pos c9] at H
        have c9b0 : decide (x4_1 < (x3_1.length : Int)) = true := decide_eq_true c9
        clear c9
        obtain ⟨y224, hy224⟩ : ∃ y_ : List (S75), y_ = (x3_1.set (x4_1 : Int).toNat (⟨t221, t222, t223⟩ : S75)) := ⟨_, rfl⟩
        replace H : (laws_toWordS.l0 k1 l0 y224 (wrap64 (x4_1 + 1))) = some r := by first | (rw [hy224]; with_reducible exact H) | (have H2_ := (Option.bind_some _ _).symm.trans H; rw [hy224]; with_reducible exact H2_) | (have H2_ := (Option.bind_some _ _).symm.trans H; with_reducible exact H2_) | with_reducible exact H | (rw [hy224]; exact H) | exact H
        have Ny224 := am_ hy224
        clear hy224
        have H' := am_ H
        clear H
        have p220 : 0 ≤ (x4_1 : Int) := of_decide_eq_true yqv11_
        have q220 : x4_1 < (l0.length : Int) := of_decide_eq_true yqv11_
        obtain ⟨ad220, e220, hx220_0, hx220_1, hx220_2⟩ := at_T71 HR0.out x4_1 p220 q220
        cases e220
        replace hx220_0 := ycst_ HB hx220_0
        replace hx220_1 := ycst_ HB hx220_1
        replace hx220_2 := ycst_ HB hx220_2
        replace p220 := eq_true p220
        replace q220 := eq_true q220
        go_wp2_with (first | ((with_reducible refine gate_callee (f := 44) rfl ?_); refine goesL_ (some 20) rfl rfl Tryz.func44 (by kernel_rfl) rfl #[.agg #[.string ((rd_T71 l0 x4_1).f0), .int .i64 ((rd_T71 l0 x4_1).f1), .int .i64 ((rd_T71 l0 x4_1).f2)]] rfl yk1_ ?_; (with_reducible refine (laws_toWord.calls ((rd_T71 l0 x4_1).f0) ((rd_T71 l0 x4_1).f1) ((rd_T71 l0 x4_1).f2) t221 t222 t223 _ A8.out).mono ?_); rintro e w11 ⟨rfl, hb⟩; refine ⟨_, rfl, ?_⟩; replace HO_3 := am_ (Kd.R_below (yru_ HO_3) hb); replace HB := yst_ hb; (try clear hb); (try clear hb2); (try clear hk); (try clear hi); have p10 : 0 ≤ (x4_1 : Int) := of_decide_eq_true yqv11_; have q10 : (x4_1 : Int) < ((x3_1.length : Int) : Int) := of_decide_eq_true yqv11_; obtain ⟨go10, co10, eo10, gb10, gl10, cl10, HG10⟩ := Kd.R_form HO_3.out (by omega); (first | cases eo10 | (injection eo10 with ea_ en_ ec_; (first | subst ea_ | (injection ea_ with ea_; subst ea_)); subst ec_; clear en_)); have GB10 := am_ gb10; have GG10 := am_ HG10; clear gb10 gl10 HG10; obtain ⟨ce10, hcl10, hM10, hcc10, hfr10⟩ := Kd.R_elem HO_3.out z75 (x4_1 : Int) p10 q10; obtain rfl := k75_openM hM10; have hx10_0 : w11.cell? ⟨go10, (x4_1 : Int).toNat * 3, none⟩ = some (.string ((rd_T75 x3_1 x4_1).f0)) := hcc10 0 _ rfl; have hx10_1 : w11.cell? ⟨go10, (x4_1 : Int).toNat * 3 + 1, none⟩ = some (.int .i64 ((rd_T75 x3_1 x4_1).f1)) := hcc10 1 _ rfl; have hx10_2 : w11.cell? ⟨go10, (x4_1 : Int).toNat * 3 + 2, none⟩ = some (.int .i64 ((rd_T75 x3_1 x4_1).f2)) := hcc10 2 _ rfl; have hf10_0 : w11.frozen? ⟨go10, (x4_1 : Int).toNat * 3, none⟩ = false := hfr10 0; have hf10_1 : w11.frozen? ⟨go10, (x4_1 : Int).toNat * 3 + 1, none⟩ = false := hfr10 1; have hf10_2 : w11.frozen? ⟨go10, (x4_1 : Int).toNat * 3 + 2, none⟩ = false := hfr10 2; clear hcl10 hcc10 hfr10 hM10; replace p10 := eq_true p10; replace q10 := eq_true q10; have HX12 := am_ (show Kd.R k75 75 w11 w.heap.size (fun _ => True) (.slice (some ⟨go10, 0, none⟩) x3_1.length co10) x3_1 from (yru_ HO_3)); obtain ⟨ce12, hcl12, hM12, hcc12, hfr12⟩ := Kd.R_elem HX12.out z75 (x4_1 : Int) (of_decide_eq_true yqv11_) (by have h_ : (x4_1 : Int) < ((x3_1.length : Int) : Int) := of_decide_eq_true yqv11_; first | exact h_ | (have e_ := (Kd.R_reads' HO_3.out).1; omega) | simpa using h_); obtain rfl := k75_openM hM12; have HP12 := Kd.R_seg HX12.out (x4_1 : Int) (of_decide_eq_true yqv11_) (by have h_ : (x4_1 : Int) < ((x3_1.length : Int) : Int) := of_decide_eq_true yqv11_; first | exact h_ | (have e_ := (Kd.R_reads' HO_3.out).1; omega) | simpa using h_) (seg := [.string t221, .int .i64 t222, .int .i64 t223]) (j := 0) hcl12 hcc12 (show 3 ≤ 3 from by decide) (x' := (⟨t221, t222, t223⟩ : S75)) (k75_mkM _ _ _ (⟨t221, t222, t223⟩ : S75) ) (fun _ hk => hk); have hx12_0 := hcc12 0 _ rfl; (try simp only [show (k75).sz = 3 from rfl, Nat.mul_one, Nat.add_zero] at hx12_0); have hf12_0 := hfr12 0; (try simp only [show (k75).sz = 3 from rfl, Nat.mul_one, Nat.add_zero] at hf12_0); have hx12_1 := hcc12 1 _ rfl; (try simp only [show (k75).sz = 3 from rfl, Nat.mul_one, Nat.add_zero] at hx12_1); have hf12_1 := hfr12 1; (try simp only [show (k75).sz = 3 from rfl, Nat.mul_one, Nat.add_zero] at hf12_1); have hx12_2 := hcc12 2 _ rfl; (try simp only [show (k75).sz = 3 from rfl, Nat.mul_one, Nat.add_zero] at hx12_2); have hf12_2 := hfr12 2; (try simp only [show (k75).sz = 3 from rfl, Nat.mul_one, Nat.add_zero] at hf12_2); clear hcl12 hcc12 hfr12 hM12) | ((with_reducible refine gate_store (t := 75) (p := 21) rfl ?_); refine store_event (t := 75) (p := 21) (v := ?vo_w13) (w1 := (((w11.setCell ⟨go10, (x4_1 : Int).toNat * 3, none⟩ (.string t221)).setCell ⟨go10, (x4_1 : Int).toNat * 3 + 1, none⟩ (.int .i64 t222)).setCell ⟨go10, (x4_1 : Int).toNat * 3 + 2, none⟩ (.int .i64 t223))) ?hg ?ho ?hn ?hr ?_; (case ho => rfl); (case hg => rfl); (case hn => rfl); (case hr => first | (go_simp; done) | (go_simp; rfl)); intro w13 hw; have hg : w11.grownBy w13 (some go10) := (by rw [hw]; exact HP12.2); have hp_ : Kd.R k75 75 w13 w.heap.size (fun _ => True) (.slice (some ⟨go10, 0, none⟩) x3_1.length co10) y224 := (by rw [hw, Ny224.out]; exact HP12.1); clear HP12; replace HO_3 := am_ (hp_); replace HB := am_ ((by rw [hw]; exact below_set (below_set (below_set (HB.out) GB10.out) GB10.out) GB10.out : Below w.heap.size w w13)); clear hg hw hp_))
        go_roundg k1
        case measure => have := HK1.out; omega
        case rel => exact ⟨(y224), (wrap64 (x4_1 + 1)), (by first | rfl | (simp; done) | (simp [*]; done)), H', ⟨by have := HK1.out; omega⟩, ⟨(yru_ HO_3)⟩, ⟨ybl_⟩⟩
       ·rw [if_neg c9] at H
        exact absurd H (by simp)
      ·rw [if_neg c7] at H
       exact absurd H (by simp)
     ·rw [if_neg c6] at H
      have c6b0 : decide (x4_1 < (l0.length : Int)) = false := decide_eq_false c6
      clear c6
      obtain rfl := Option.some.inj H
      go_wp2
      go_ret
      exact ⟨_, yk0_, by (with_reducible repeat (first | apply Kd.R_alloc | apply Kd.R_drewN | apply Kd.R_drew)); exact HO_3.out, ybl_⟩
  ·rw [if_neg c3] at H
   exact absurd H (by simp)
 ·rw [if_neg c2] at H
  exact absurd H (by simp)

/-! ### laws_toIntS: function 19 -/
def laws_toIntS.l0 : Nat → List Int → List Int → Int → Option (List Int)
 | 0, _, _, _ => none
 | k + 1, x0, x3, x4 => if x4 < (x0.length : Int) then (if 0 ≤ x4 then (if x4 < (x3.length : Int) then (laws_toIntS.l0 k x0 (x3.set (x4 : Int).toNat (rd x0 x4)) (wrap64 (x4 + 1))) else (none)) else (none)) else (some x3)
def laws_toIntS.f (k : Nat) (l0 : List Int) : Option (List Int) := if 0 ≤ (l0.length : Int) then (if ((l0.length : Int) : Int).toNat ≤ 35184372088832 then (laws_toIntS.l0 k l0 (List.replicate ((l0.length : Int) : Int).toNat 0) 0) else (none)) else (none)
theorem laws_toIntS.mono_l : ∀ k, (∀ y0 y1 y2, LeO (laws_toIntS.l0 k y0 y1 y2) (laws_toIntS.l0 (k + 1) y0 y1 y2))
 | 0 => fun _ _ _ r h => by simp [laws_toIntS.l0] at h
 | k + 1 => by
  have ih0 := laws_toIntS.mono_l k
  ·intro y0 y1 y2
   unfold laws_toIntS.l0
   repeat' first
   | (with_reducible exact ih0 _ _ _)
   | (with_reducible exact LeO.refl _)
   | (with_reducible exact LeO.none _)
   | (with_reducible refine LeO.ite ?_ ?_)
   | (with_reducible refine LeO.bind ?_ (fun _ => ?_))
   | exact ih0 _ _ _
   | exact LeO.none _
   | refine LeO.ite ?_ ?_
   | refine LeO.bind ?_ (fun _ => ?_)
theorem laws_toIntS.mono : ∀ a0 k, LeO (laws_toIntS.f k a0) (laws_toIntS.f (k + 1) a0) := by
 intro a0 k
 have ih0 := laws_toIntS.mono_l k
 unfold laws_toIntS.f
 repeat' first
   | (with_reducible exact ih0 _ _ _)
   | (with_reducible exact LeO.refl _)
   | (with_reducible exact LeO.none _)
   | (with_reducible refine LeO.ite ?_ ?_)
   | (with_reducible refine LeO.bind ?_ (fun _ => ?_))
   | exact ih0 _ _ _
   | exact LeO.none _
   | refine LeO.ite ?_ ?_
   | refine LeO.bind ?_ (fun _ => ?_)
set_option maxHeartbeats 8000000 in
set_option maxRecDepth 100000 in
theorem laws_toIntS.calls (k : Nat) (A0 : Option Addr) (c0 : Nat) (l0 : List Int) (r : List Int) (w : World) (hr0 : Kd.C (Kd.int .i64) w A0 l0.length l0) (hc0 : l0.length ≤ c0) (h : laws_toIntS.f k l0 = some r) :
  Calls Tryz.prog 19 #[.slice A0 l0.length c0] w fun e w' => ∃ v0_ : Value, e = .returned (v0_) ∧ Kd.R (Kd.int .i64) 3 w' w.heap.size (fun _ => True) v0_ r ∧ Below w.heap.size w w' := by
 have HR0 := am_ hr0
 have HC0 := am_ hc0
 clear hr0 hc0
 have HB := am_ (Below.refl w.heap.size w)
 have H : (if 0 ≤ (l0.length : Int) then (if ((l0.length : Int) : Int).toNat ≤ 35184372088832 then (laws_toIntS.l0 k l0 (List.replicate ((l0.length : Int) : Int).toNat 0) 0) else (none)) else (none)) = some r := h
 clear h
 by_cases c2 : 0 ≤ (l0.length : Int)
 ·rw [if_pos c2] at H
  have c2b0 := eq_true c2
  have c2b1 : decide (0 ≤ (l0.length : Int)) = true := decide_eq_true c2
  clear c2
  by_cases c3 : ((l0.length : Int) : Int).toNat ≤ 35184372088832
  ·rw [if_pos c3] at H
   have c3b0 := eq_true c3
   have c3b1 : decide (((l0.length : Int) : Int).toNat ≤ 35184372088832) = true := decide_eq_true c3
   clear c3
   obtain ⟨y225, hy225⟩ : ∃ y_ : List Int, y_ = (List.replicate ((l0.length : Int) : Int).toNat 0) := ⟨_, rfl⟩
   replace H : (laws_toIntS.l0 k l0 y225 0) = some r := by first | (rw [hy225]; with_reducible exact H) | (have H2_ := (Option.bind_some _ _).symm.trans H; rw [hy225]; with_reducible exact H2_) | (have H2_ := (Option.bind_some _ _).symm.trans H; with_reducible exact H2_) | with_reducible exact H | (rw [hy225]; exact H) | exact H
   have Ny225 := am_ hy225
   clear hy225
   have H' := am_ H
   clear H
   go_enter Tryz.func19, Tryz.ntmps19
   go_wp2_with (first | ((with_reducible refine gate_dst (N := 7) rfl ?_); refine Kd.R_make (Kd.int .i64) _ 3 rfl (N := 7) rfl 23 _ _ rfl (l0.length : Int) rfl rfl Tryz.underlying23 (.int .i64 0) 8 info3 rfl (by decide) (by omega) 0 (ok := fun _ => True) (okp := fun _ => True) rfl (fun _ hk => hk) trivial (of_decide_eq_true yqv11_) (Nat.le_trans (Nat.mul_le_mul_right _ (of_decide_eq_true yqv11_ : (l0.length : Int).toNat ≤ 35184372088832)) (by omega)) (Below.refl _ _) (Nat.le_refl _) ?_; intro v226 w4 ho5 hb hg_ hnew_; clear hg_ hnew_; (first | rw [← Ny225.out] at ho5 | (simp only [Int.reduceToNat] at ho5; rw [← Ny225.out] at ho5)); have HO227 := am_ (Kd.R_lower ho5 (below_size ybl_)); replace HB := yst_ hb; clear hb ho5))
   go_loopg [4] k (fun kq v4 w' => ∃ (x3_1 : List Int) (x4_1 : Int), v4 = .int .i64 x4_1 ∧ Aside0 (laws_toIntS.l0 kq l0 x3_1 x4_1 = some r) ∧ Aside0 (kq ≤ k) ∧ Aside0 (Kd.R (Kd.int .i64) 3 w' w.heap.size (fun _ => True) v226 x3_1) ∧ Aside0 (Below w.heap.size w w'))
   case atStart => exact ⟨(y225), (0), (by first | rfl | (simp; done) | (simp [*]; done)), H', ⟨Nat.le_refl _⟩, ⟨(yru_ HO227)⟩, ⟨ybl_⟩⟩
   case round =>
    clear H'
    try clear c1
    try clear c2
    try clear c2b0
    try clear c2b1
    try clear p2
    try clear c3
    try clear c3b0
    try clear c3b1
    obtain ⟨x3_1, x4_1, rfl, HA, HK1, HO_3, HB⟩ := hrel
    cases gk with
    | zero => exact absurd HA.out (by simp [laws_toIntS.l0])
    | succ k1 =>
     have H := HA.out
     clear HA
     simp only [laws_toIntS.l0] at H
     by_cases c6 : x4_1 < (l0.length : Int)
     ·rw [if_pos c6] at H
      have c6b0 : decide (x4_1 < (l0.length : Int)) = true := decide_eq_true c6
      clear c6
      by_cases c7 : 0 ≤ x4_1
      ·rw [if_pos c7] at H
       have c7b0 : decide (0 ≤ x4_1) = true := decide_eq_true c7
       clear c7
       by_cases c8 : x4_1 < (x3_1.length : Int)
       ·rw [if_pos c8] at H
        have c8b0 : decide (x4_1 < (x3_1.length : Int)) = true := decide_eq_true c8
        clear c8
        obtain ⟨y229, hy229⟩ : ∃ y_ : List Int, y_ = (x3_1.set (x4_1 : Int).toNat (rd l0 x4_1)) := ⟨_, rfl⟩
        replace H : (laws_toIntS.l0 k1 l0 y229 (wrap64 (x4_1 + 1))) = some r := by first | (rw [hy229]; with_reducible exact H) | (have H2_ := (Option.bind_some _ _).symm.trans H; rw [hy229]; with_reducible exact H2_) | (have H2_ := (Option.bind_some _ _).symm.trans H; with_reducible exact H2_) | with_reducible exact H | (rw [hy229]; exact H) | exact H
        have Ny229 := am_ hy229
        clear hy229
        have H' := am_ H
        clear H
        have p228 : 0 ≤ (x4_1 : Int) := of_decide_eq_true yqv11_
        have q228 : x4_1 < (l0.length : Int) := of_decide_eq_true yqv11_
        obtain ⟨ad228, e228, hx228_0⟩ := Kd.at_int HR0.out x4_1 p228 q228
        cases e228
        replace hx228_0 := ycst_ HB hx228_0
        replace p228 := eq_true p228
        replace q228 := eq_true q228
        have p9 : 0 ≤ (x4_1 : Int) := of_decide_eq_true yqv11_
        have q9 : (x4_1 : Int) < ((x3_1.length : Int) : Int) := of_decide_eq_true yqv11_
        obtain ⟨go9, co9, eo9, gb9, gl9, cl9, HG9⟩ := Kd.R_form HO_3.out (by omega)
        (first | cases eo9 | (injection eo9 with ea_ en_ ec_; (first | subst ea_ | (injection ea_ with ea_; subst ea_)); subst ec_; clear en_))
        have GB9 := am_ gb9
        have GG9 := am_ HG9
        clear gb9 gl9 HG9
        obtain ⟨hx9_0, hf9_0⟩ := Kd.R_celln 0 HO_3.out (x4_1 : Int) p9 q9
        replace p9 := eq_true p9
        replace q9 := eq_true q9
        have HP10 := Kd.R_putg HO_3.out (x4_1 : Int) (rd l0 x4_1)
        go_wp2_with (first | ((with_reducible refine gate_store (t := 3) (p := 20) rfl ?_); refine store_event (t := 3) (p := 20) (v := ?vo_w11) (w1 := (wr.setCell ⟨go9, (x4_1 : Int).toNat, none⟩ (.int .i64 (rd l0 x4_1)))) ?hg ?ho ?hn ?hr ?_; (case ho => rfl); (case hg => rfl); (case hn => rfl); (case hr => first | (go_simp; done) | (go_simp; rfl)); intro w11 hw; have hg : wr.grownBy w11 (some go9) := (by rw [hw]; exact HP10.2); have hp_ : Kd.R (Kd.int .i64) 3 w11 w.heap.size (fun _ => True) (.slice (some ⟨go9, 0, none⟩) x3_1.length co9) y229 := (by rw [hw, Ny229.out]; exact HP10.1); clear HP10; replace HO_3 := am_ (hp_); replace HB := am_ ((by rw [hw]; exact below_set (HB.out) GB9.out : Below w.heap.size w w11)); clear hg hw hp_))
        go_roundg k1
        case measure => have := HK1.out; omega
        case rel => exact ⟨(y229), (wrap64 (x4_1 + 1)), (by first | rfl | (simp; done) | (simp [*]; done)), H', ⟨by have := HK1.out; omega⟩, ⟨(yru_ HO_3)⟩, ⟨ybl_⟩⟩
       ·rw [if_neg c8] at H
        exact absurd H (by simp)
      ·rw [if_neg c7] at H
       exact absurd H (by simp)
     ·rw [if_neg c6] at H
      have c6b0 : decide (x4_1 < (l0.length : Int)) = false := decide_eq_false c6
      clear c6
      obtain rfl := Option.some.inj H
      go_wp2
      go_ret
      exact ⟨_, yk0_, by (with_reducible repeat (first | apply Kd.R_alloc | apply Kd.R_drewN | apply Kd.R_drew)); exact HO_3.out, ybl_⟩
  ·rw [if_neg c3] at H
   exact absurd H (by simp)
 ·rw [if_neg c2] at H
  exact absurd H (by simp)

/-! ### laws_toData: function 20 -/
def laws_toData.f (k : Nat) (l0_0 : List Int) (l0_1 : List Int) (l0_2 : List Int) (a0_3 : Int) (a0_4 : Int) (a0_5 : ByteArray) : Option (List Int × List Int × List Int × Int × Int × ByteArray) := (laws_toIntS.f k l0_0).bind fun t233 => ((laws_toIntS.f k l0_1).bind fun t236 => ((laws_toIntS.f k l0_2).bind fun t239 => (some (t233, t236, t239, a0_3, a0_4, a0_5))))
theorem laws_toData.mono : ∀ a0 a1 a2 a3 a4 a5 k, LeO (laws_toData.f k a0 a1 a2 a3 a4 a5) (laws_toData.f (k + 1) a0 a1 a2 a3 a4 a5) := by
 intro a0 a1 a2 a3 a4 a5 k
 unfold laws_toData.f
 repeat' first
   | (with_reducible exact laws_toIntS.mono _ _)
   | (with_reducible exact LeO.refl _)
   | (with_reducible exact LeO.none _)
   | (with_reducible refine LeO.ite ?_ ?_)
   | (with_reducible refine LeO.bind ?_ (fun _ => ?_))
   | exact laws_toIntS.mono _ _
   | exact LeO.none _
   | refine LeO.ite ?_ ?_
   | refine LeO.bind ?_ (fun _ => ?_)
set_option maxHeartbeats 8000000 in
set_option maxRecDepth 100000 in
theorem laws_toData.calls (k : Nat) (A0_0 : Option Addr) (c0_0 : Nat) (l0_0 : List Int) (A0_1 : Option Addr) (c0_1 : Nat) (l0_1 : List Int) (A0_2 : Option Addr) (c0_2 : Nat) (l0_2 : List Int) (a0_3 : Int) (a0_4 : Int) (a0_5 : ByteArray) (r1 : List Int) (r2 : List Int) (r3 : List Int) (r4 : Int) (r5 : Int) (r6 : ByteArray) (w : World) (hr0_0 : Kd.C (Kd.int .i64) w A0_0 l0_0.length l0_0) (hc0_0 : l0_0.length ≤ c0_0) (hr0_1 : Kd.C (Kd.int .i64) w A0_1 l0_1.length l0_1) (hc0_1 : l0_1.length ≤ c0_1) (hr0_2 : Kd.C (Kd.int .i64) w A0_2 l0_2.length l0_2) (hc0_2 : l0_2.length ≤ c0_2) (h : laws_toData.f k l0_0 l0_1 l0_2 a0_3 a0_4 a0_5 = some (r1, r2, r3, r4, r5, r6)) :
  Calls Tryz.prog 20 #[.agg #[.slice A0_0 l0_0.length c0_0, .slice A0_1 l0_1.length c0_1, .slice A0_2 l0_2.length c0_2, .int .i64 a0_3, .int .i64 a0_4, .string a0_5]] w fun e w' => ∃ v0_ v1_ v2_ : Value, e = .returned (.agg #[v0_, v1_, v2_, .int .i64 r4, .int .i64 r5, .string r6]) ∧ Kd.R (Kd.int .i64) 3 w' w.heap.size (fun k_ => some k_ ≠ (v1_ : Value).ownBlock ∧ some k_ ≠ (v2_ : Value).ownBlock) v0_ r1 ∧ Kd.R (Kd.int .i64) 3 w' w.heap.size (fun k_ => some k_ ≠ (v0_ : Value).ownBlock ∧ some k_ ≠ (v2_ : Value).ownBlock) v1_ r2 ∧ Kd.R (Kd.int .i64) 3 w' w.heap.size (fun k_ => some k_ ≠ (v0_ : Value).ownBlock ∧ some k_ ≠ (v1_ : Value).ownBlock) v2_ r3 ∧ Below w.heap.size w w' := by
 have hu25 := Tryz.underlying25
 have hu36 := Tryz.underlying36
 have HR0_0 := am_ hr0_0
 have HC0_0 := am_ hc0_0
 clear hr0_0 hc0_0
 have HR0_1 := am_ hr0_1
 have HC0_1 := am_ hc0_1
 clear hr0_1 hc0_1
 have HR0_2 := am_ hr0_2
 have HC0_2 := am_ hc0_2
 clear hr0_2 hc0_2
 have HB := am_ (Below.refl w.heap.size w)
 have H : ((laws_toIntS.f k l0_0).bind fun t233 => ((laws_toIntS.f k l0_1).bind fun t236 => ((laws_toIntS.f k l0_2).bind fun t239 => (some (t233, t236, t239, a0_3, a0_4, a0_5))))) = some (r1, r2, r3, r4, r5, r6) := h
 clear h
 replace H := Option.bind_eq_some_iff.mp H
 obtain ⟨t233, A20, H⟩ := H
 replace H : ((laws_toIntS.f k l0_1).bind fun t236 => ((laws_toIntS.f k l0_2).bind fun t239 => (some (t233, t236, t239, a0_3, a0_4, a0_5)))) = some (r1, r2, r3, r4, r5, r6) := H
 have A2 := am_ A20
 clear A20
 replace H := Option.bind_eq_some_iff.mp H
 obtain ⟨t236, A30, H⟩ := H
 replace H : ((laws_toIntS.f k l0_2).bind fun t239 => (some (t233, t236, t239, a0_3, a0_4, a0_5))) = some (r1, r2, r3, r4, r5, r6) := H
 have A3 := am_ A30
 clear A30
 replace H := Option.bind_eq_some_iff.mp H
 obtain ⟨t239, A40, H⟩ := H
 replace H : (some (t233, t236, t239, a0_3, a0_4, a0_5)) = some (r1, r2, r3, r4, r5, r6) := H
 have A4 := am_ A40
 clear A40
 simp only [Option.some.injEq, Prod.mk.injEq] at H
 obtain ⟨rfl, rfl, rfl, rfl, rfl, rfl⟩ := H
 go_enter Tryz.func20, Tryz.ntmps20
 go_wp2_with (first | ((with_reducible refine gate_dst (N := 1) rfl ?_); refine box_event ?hg (N := 1) ?hd (cs := #[.slice A0_0 l0_0.length c0_0, .slice A0_1 l0_1.length c0_1, .slice A0_2 l0_2.length c0_2, .int .i64 a0_3, .int .i64 a0_4, .string a0_5]) (t := 25) ?hr ?_; (case hd => rfl); (case hg => rfl); (case hr => first | (go_simp; done) | (go_simp; rfl)); intro gb230 hg w5 hbox hb; have BK230 := am_ (hbox); have GW230 := am_ ((ybsz_ hg : w.heap.size ≤ gb230)); have GE230 := GW230; replace HB := yst_ hb; clear hb hbox hg) | ((with_reducible refine gate_dst (N := 2) rfl ?_); refine box_event ?hg (N := 2) ?hd (cs := #[.slice none 0 0, .slice none 0 0, .slice none 0 0, .int .i64 0, .int .i64 0, .string (⟨#[]⟩ : ByteArray)]) (t := 36) ?hr ?_; (case hd => rfl); (case hg => rfl); (case hr => first | (go_simp; done) | (go_simp; rfl)); intro gb231 hg w6 hbox hb; have BK231 := am_ (hbox); have GW231 := am_ ((ybsz_ hg : w.heap.size ≤ gb231)); have GE231 := GW231; replace HB := yst_ hb; have NB230_231 := am_ (ybne_ hg BK230); have NB231_230 := am_ ((ybne_ hg BK230).symm); replace BK230 := am_ (ybb_ BK230 hb); clear hb hbox hg) | ((with_reducible refine gate_dst (N := 3) rfl ?_); refine box_event ?hg (N := 3) ?hd (cs := #[.slice none 0 0, .slice none 0 0, .slice none 0 0, .int .i64 0, .int .i64 0, .string (⟨#[]⟩ : ByteArray)]) (t := 36) ?hr ?_; (case hd => rfl); (case hg => rfl); (case hr => first | (go_simp; done) | (go_simp; rfl)); intro gb232 hg w7 hbox hb; have BK232 := am_ (hbox); have GW232 := am_ ((ybsz_ hg : w.heap.size ≤ gb232)); have GE232 := GW232; replace HB := yst_ hb; have NB230_232 := am_ (ybne_ hg BK230); have NB232_230 := am_ ((ybne_ hg BK230).symm); replace BK230 := am_ (ybb_ BK230 hb); have NB231_232 := am_ (ybne_ hg BK231); have NB232_231 := am_ ((ybne_ hg BK231).symm); replace BK231 := am_ (ybb_ BK231 hb); clear hb hbox hg; have hnb8 := NB230_231.out; have hnc8 := NB231_230.out; have hnb9 := NB230_232.out; have hnc9 := NB232_230.out; have hcz10 := ye6_ BK230; have hfz10 := yf6_ BK230) | ((with_reducible refine gate_callee (f := 19) rfl ?_); refine goesL_ (some 6) rfl rfl Tryz.func19 (by kernel_rfl) rfl #[.slice A0_0 l0_0.length c0_0] rfl yk1_ ?_; (with_reducible refine (laws_toIntS.calls k _ _ l0_0 t233 _ ?side1 HC0_0.out A2.out).mono ?_); (case side1 => exact ycb_ HR0_0 HB); rintro e w11 ⟨v234, rfl, ho0, hb⟩; refine ⟨_, rfl, ?_⟩; have HO235 := am_ (Kd.R_lower ho0 (below_size ybl_)); replace BK230 := am_ (ybb_ BK230 hb); replace BK231 := am_ (ybb_ BK231 hb); replace BK232 := am_ (ybb_ BK232 hb); replace HB := yst_ hb; (try clear hb); (try clear hb2); (try clear hk); (try clear hi); (try clear ho0); obtain ⟨Ao12, co12, eo12⟩ := Kd.R_slice HO235.out; subst eo12; have hnb13 := NB232_231.out; have hnc13 := NB231_232.out; have hcz14 := ye6_ BK232; have hfz14 := yf6_ BK232; have hcz15 := ye6_ BK230; have hfz15 := yf6_ BK230) | ((with_reducible refine gate_callee (f := 19) rfl ?_); refine goesL_ (some 10) rfl rfl Tryz.func19 (by kernel_rfl) rfl #[.slice A0_1 l0_1.length c0_1] rfl yk1_ ?_; (with_reducible refine (laws_toIntS.calls k _ _ l0_1 t236 _ ?side1 HC0_1.out A3.out).mono ?_); (case side1 => exact Kd.C_below HR0_1.out ybl_); rintro e w16 ⟨v237, rfl, ho0, hb⟩; refine ⟨_, rfl, ?_⟩; have HO238 := am_ (Kd.R_lower (Kd.R_new' ho0 (Kd.R_lt (by (with_reducible repeat (first | apply Kd.R_alloc | apply Kd.R_drewN | apply Kd.R_drew)); exact (yr0_ HO235 BK232)))) (below_size ybl_)); replace HO235 := am_ (Kd.R_elder' (by (with_reducible repeat (first | apply Kd.R_alloc | apply Kd.R_drewN | apply Kd.R_drew)); exact (yr0_ HO235 BK232)) (Kd.R_base ho0) hb); replace BK230 := am_ (blk_below (g := gb230) (o := .cells #[.slice A0_0 l0_0.length c0_0, .slice A0_1 l0_1.length c0_1, .slice A0_2 l0_2.length c0_2, .int .i64 a0_3, .int .i64 a0_4, .string a0_5] 25 (0, 0)) (by (with_reducible repeat (first | refine blk_drewN ?_ _ | refine blk_drew ?_ | refine blk_alloc ?_ _)); refine blk_far ?_ NB230_232.out _; (with_reducible repeat (first | refine blk_drewN ?_ _ | refine blk_drew ?_ | refine blk_alloc ?_ _)); exact BK230.out) hb); replace BK231 := am_ (blk_below (g := gb231) (o := .cells #[.slice none 0 0, .slice none 0 0, .slice none 0 0, .int .i64 0, .int .i64 0, .string (⟨#[]⟩ : ByteArray)] 36 (0, 0)) (by (with_reducible repeat (first | refine blk_drewN ?_ _ | refine blk_drew ?_ | refine blk_alloc ?_ _)); refine blk_far ?_ NB231_232.out _; (with_reducible repeat (first | refine blk_drewN ?_ _ | refine blk_drew ?_ | refine blk_alloc ?_ _)); exact BK231.out) hb); replace BK232 := am_ (blk_below (g := gb232) (o := .cells #[.slice Ao12 t233.length co12, .slice none 0 0, .slice none 0 0, .int .i64 0, .int .i64 0, .string (⟨#[]⟩ : ByteArray)] 36 (0, 0)) (by (with_reducible repeat (first | refine blk_drewN ?_ _ | refine blk_drew ?_ | refine blk_alloc ?_ _)); refine blk_put (cs := #[.slice none 0 0, .slice none 0 0, .slice none 0 0, .int .i64 0, .int .i64 0, .string (⟨#[]⟩ : ByteArray)]) ?_ 0 _ rfl; (with_reducible repeat (first | refine blk_drewN ?_ _ | refine blk_drew ?_ | refine blk_alloc ?_ _)); exact BK232.out) hb); replace HB := yst_ hb; (try clear hb); (try clear hb2); (try clear hk); (try clear hi); (try clear ho0); obtain ⟨Ao17, co17, eo17⟩ := Kd.R_slice HO238.out; subst eo17; have hcz18 := ye6_ BK232; have hfz18 := yf6_ BK232; have hcz19 := ye6_ BK230; have hfz19 := yf6_ BK230) | ((with_reducible refine gate_callee (f := 19) rfl ?_); refine goesL_ (some 14) rfl rfl Tryz.func19 (by kernel_rfl) rfl #[.slice A0_2 l0_2.length c0_2] rfl yk1_ ?_; (with_reducible refine (laws_toIntS.calls k _ _ l0_2 t239 _ ?side1 HC0_2.out A4.out).mono ?_); (case side1 => exact Kd.C_below HR0_2.out ybl_); rintro e w20 ⟨v240, rfl, ho0, hb⟩; refine ⟨_, rfl, ?_⟩; have HO241 := am_ (Kd.R_lower (Kd.R_new' (Kd.R_new' ho0 (Kd.R_lt (by (with_reducible repeat (first | apply Kd.R_alloc | apply Kd.R_drewN | apply Kd.R_drew)); exact (yr1_ HO235 BK232)))) (Kd.R_lt (by (with_reducible repeat (first | apply Kd.R_alloc | apply Kd.R_drewN | apply Kd.R_drew)); exact (yr1_ HO238 BK232)))) (below_size ybl_)); replace HO235 := am_ (Kd.R_elder' (by (with_reducible repeat (first | apply Kd.R_alloc | apply Kd.R_drewN | apply Kd.R_drew)); exact (yr1_ HO235 BK232)) (Kd.R_base ho0) hb); replace HO238 := am_ (Kd.R_elder' (by (with_reducible repeat (first | apply Kd.R_alloc | apply Kd.R_drewN | apply Kd.R_drew)); exact (yr1_ HO238 BK232)) (Kd.R_base ho0) hb); replace BK230 := am_ (blk_below (g := gb230) (o := .cells #[.slice A0_0 l0_0.length c0_0, .slice A0_1 l0_1.length c0_1, .slice A0_2 l0_2.length c0_2, .int .i64 a0_3, .int .i64 a0_4, .string a0_5] 25 (0, 0)) (by (with_reducible repeat (first | refine blk_drewN ?_ _ | refine blk_drew ?_ | refine blk_alloc ?_ _)); refine blk_far ?_ NB230_232.out _; (with_reducible repeat (first | refine blk_drewN ?_ _ | refine blk_drew ?_ | refine blk_alloc ?_ _)); exact BK230.out) hb); replace BK231 := am_ (blk_below (g := gb231) (o := .cells #[.slice none 0 0, .slice none 0 0, .slice none 0 0, .int .i64 0, .int .i64 0, .string (⟨#[]⟩ : ByteArray)] 36 (0, 0)) (by (with_reducible repeat (first | refine blk_drewN ?_ _ | refine blk_drew ?_ | refine blk_alloc ?_ _)); refine blk_far ?_ NB231_232.out _; (with_reducible repeat (first | refine blk_drewN ?_ _ | refine blk_drew ?_ | refine blk_alloc ?_ _)); exact BK231.out) hb); replace BK232 := am_ (blk_below (g := gb232) (o := .cells #[.slice Ao12 t233.length co12, .slice Ao17 t236.length co17, .slice none 0 0, .int .i64 0, .int .i64 0, .string (⟨#[]⟩ : ByteArray)] 36 (0, 0)) (by (with_reducible repeat (first | refine blk_drewN ?_ _ | refine blk_drew ?_ | refine blk_alloc ?_ _)); refine blk_put (cs := #[.slice Ao12 t233.length co12, .slice none 0 0, .slice none 0 0, .int .i64 0, .int .i64 0, .string (⟨#[]⟩ : ByteArray)]) ?_ 1 _ rfl; (with_reducible repeat (first | refine blk_drewN ?_ _ | refine blk_drew ?_ | refine blk_alloc ?_ _)); exact BK232.out) hb); replace HB := yst_ hb; (try clear hb); (try clear hb2); (try clear hk); (try clear hi); (try clear ho0); obtain ⟨Ao21, co21, eo21⟩ := Kd.R_slice HO241.out; subst eo21; have hcz22 := ye6_ BK232; have hfz22 := yf6_ BK232; have hcz23 := ye6_ BK230; have hfz23 := yf6_ BK230; have hcz24 := ye6_ BK231; have hfz24 := yf6_ BK231))
 refine bodyPost_ret (results_cell_row rfl _ _ gb231 36 #[.slice Ao12 t233.length co12, .slice Ao17 t236.length co17, .slice Ao21 t239.length co21, .int .i64 a0_3, .int .i64 a0_4, .string a0_5] (0, 0) _ rfl (by (with_reducible repeat (first | refine blk_drewN ?_ _ | refine blk_drew ?_ | refine blk_alloc ?_ _)); refine blk_put (cs := #[.slice Ao12 t233.length co12, .slice Ao17 t236.length co17, .slice Ao21 t239.length co21, .int .i64 a0_3, .int .i64 a0_4, .string (⟨#[]⟩ : ByteArray)]) ?_ 5 _ rfl; (with_reducible repeat (first | refine blk_drewN ?_ _ | refine blk_drew ?_ | refine blk_alloc ?_ _)); refine blk_put (cs := #[.slice Ao12 t233.length co12, .slice Ao17 t236.length co17, .slice Ao21 t239.length co21, .int .i64 a0_3, .int .i64 0, .string (⟨#[]⟩ : ByteArray)]) ?_ 4 _ rfl; (with_reducible repeat (first | refine blk_drewN ?_ _ | refine blk_drew ?_ | refine blk_alloc ?_ _)); refine blk_put (cs := #[.slice Ao12 t233.length co12, .slice Ao17 t236.length co17, .slice Ao21 t239.length co21, .int .i64 0, .int .i64 0, .string (⟨#[]⟩ : ByteArray)]) ?_ 3 _ rfl; (with_reducible repeat (first | refine blk_drewN ?_ _ | refine blk_drew ?_ | refine blk_alloc ?_ _)); refine blk_put (cs := #[.slice Ao12 t233.length co12, .slice Ao17 t236.length co17, .slice none 0 0, .int .i64 0, .int .i64 0, .string (⟨#[]⟩ : ByteArray)]) ?_ 2 _ rfl; (with_reducible repeat (first | refine blk_drewN ?_ _ | refine blk_drew ?_ | refine blk_alloc ?_ _)); refine blk_put (cs := #[.slice Ao12 t233.length co12, .slice none 0 0, .slice none 0 0, .int .i64 0, .int .i64 0, .string (⟨#[]⟩ : ByteArray)]) ?_ 1 _ rfl; (with_reducible repeat (first | refine blk_drewN ?_ _ | refine blk_drew ?_ | refine blk_alloc ?_ _)); refine blk_put (cs := #[.slice none 0 0, .slice none 0 0, .slice none 0 0, .int .i64 0, .int .i64 0, .string (⟨#[]⟩ : ByteArray)]) ?_ 0 _ rfl; (with_reducible repeat (first | refine blk_drewN ?_ _ | refine blk_drew ?_ | refine blk_alloc ?_ _)); refine blk_far ?_ NB231_232.out _; (with_reducible repeat (first | refine blk_drewN ?_ _ | refine blk_drew ?_ | refine blk_alloc ?_ _)); refine blk_far ?_ NB231_232.out _; (with_reducible repeat (first | refine blk_drewN ?_ _ | refine blk_drew ?_ | refine blk_alloc ?_ _)); refine blk_far ?_ NB231_232.out _; (with_reducible repeat (first | refine blk_drewN ?_ _ | refine blk_drew ?_ | refine blk_alloc ?_ _)); refine blk_far ?_ NB231_232.out _; (with_reducible repeat (first | refine blk_drewN ?_ _ | refine blk_drew ?_ | refine blk_alloc ?_ _)); exact BK231.out) Tryz.underlying36 rfl (by kernel_rfl)) rfl ?_
 exact ⟨_, _, _, yk0_, by (with_reducible repeat (first | apply Kd.R_alloc | apply Kd.R_drewN | apply Kd.R_drew)); exact Kd.R_mono (Kd.R_far (p := ⟨gb231, 5, none⟩) (Kd.R_far (p := ⟨gb231, 4, none⟩) (Kd.R_far (p := ⟨gb231, 3, none⟩) (Kd.R_far (p := ⟨gb231, 2, none⟩) (Kd.R_far (p := ⟨gb231, 1, none⟩) (Kd.R_far (p := ⟨gb231, 0, none⟩) (Kd.R_far (p := ⟨gb232, 5, none⟩) (Kd.R_far (p := ⟨gb232, 4, none⟩) (Kd.R_far (p := ⟨gb232, 3, none⟩) (Kd.R_far (p := ⟨gb232, 2, none⟩) (Kd.R_types (Kd.R_types HO235.out BK232.out (by decide)) BK231.out (by decide)) (fun _ hk => hk.1.2) (.slice Ao21 t239.length co21)) (fun _ hk => hk.1.2) (.int .i64 a0_3)) (fun _ hk => hk.1.2) (.int .i64 a0_4)) (fun _ hk => hk.1.2) (.string a0_5)) (fun _ hk => hk.2) (.slice Ao12 t233.length co12)) (fun _ hk => hk.2) (.slice Ao17 t236.length co17)) (fun _ hk => hk.2) (.slice Ao21 t239.length co21)) (fun _ hk => hk.2) (.int .i64 a0_3)) (fun _ hk => hk.2) (.int .i64 a0_4)) (fun _ hk => hk.2) (.string a0_5)) (fun _ hk => ⟨hk.1.1.1.2, hk.1.1.2⟩), by (with_reducible repeat (first | apply Kd.R_alloc | apply Kd.R_drewN | apply Kd.R_drew)); exact Kd.R_mono (Kd.R_far (p := ⟨gb231, 5, none⟩) (Kd.R_far (p := ⟨gb231, 4, none⟩) (Kd.R_far (p := ⟨gb231, 3, none⟩) (Kd.R_far (p := ⟨gb231, 2, none⟩) (Kd.R_far (p := ⟨gb231, 1, none⟩) (Kd.R_far (p := ⟨gb231, 0, none⟩) (Kd.R_far (p := ⟨gb232, 5, none⟩) (Kd.R_far (p := ⟨gb232, 4, none⟩) (Kd.R_far (p := ⟨gb232, 3, none⟩) (Kd.R_far (p := ⟨gb232, 2, none⟩) (Kd.R_types (Kd.R_types HO238.out BK232.out (by decide)) BK231.out (by decide)) (fun _ hk => hk.1.2) (.slice Ao21 t239.length co21)) (fun _ hk => hk.1.2) (.int .i64 a0_3)) (fun _ hk => hk.1.2) (.int .i64 a0_4)) (fun _ hk => hk.1.2) (.string a0_5)) (fun _ hk => hk.2) (.slice Ao12 t233.length co12)) (fun _ hk => hk.2) (.slice Ao17 t236.length co17)) (fun _ hk => hk.2) (.slice Ao21 t239.length co21)) (fun _ hk => hk.2) (.int .i64 a0_3)) (fun _ hk => hk.2) (.int .i64 a0_4)) (fun _ hk => hk.2) (.string a0_5)) (fun _ hk => ⟨hk.1.1.1.2, hk.1.1.2⟩), by (with_reducible repeat (first | apply Kd.R_alloc | apply Kd.R_drewN | apply Kd.R_drew)); exact Kd.R_mono (Kd.R_far (p := ⟨gb231, 5, none⟩) (Kd.R_far (p := ⟨gb231, 4, none⟩) (Kd.R_far (p := ⟨gb231, 3, none⟩) (Kd.R_far (p := ⟨gb231, 2, none⟩) (Kd.R_far (p := ⟨gb231, 1, none⟩) (Kd.R_far (p := ⟨gb231, 0, none⟩) (Kd.R_far (p := ⟨gb232, 5, none⟩) (Kd.R_far (p := ⟨gb232, 4, none⟩) (Kd.R_far (p := ⟨gb232, 3, none⟩) (Kd.R_far (p := ⟨gb232, 2, none⟩) (Kd.R_types (Kd.R_types HO241.out BK232.out (by decide)) BK231.out (by decide)) (fun _ hk => hk.1.2) (.slice Ao21 t239.length co21)) (fun _ hk => hk.1.2) (.int .i64 a0_3)) (fun _ hk => hk.1.2) (.int .i64 a0_4)) (fun _ hk => hk.1.2) (.string a0_5)) (fun _ hk => hk.2) (.slice Ao12 t233.length co12)) (fun _ hk => hk.2) (.slice Ao17 t236.length co17)) (fun _ hk => hk.2) (.slice Ao21 t239.length co21)) (fun _ hk => hk.2) (.int .i64 a0_3)) (fun _ hk => hk.2) (.int .i64 a0_4)) (fun _ hk => hk.2) (.string a0_5)) (fun _ hk => ⟨hk.1.1.1.2, hk.1.1.2⟩), ybl_⟩

/-! ### laws_toBoolS: function 45 -/
def laws_toBoolS.l0 : Nat → List Bool → List Bool → Int → Option (List Bool)
 | 0, _, _, _ => none
 | k + 1, x0, x3, x4 => if x4 < (x0.length : Int) then (if 0 ≤ x4 then (if x4 < (x3.length : Int) then (laws_toBoolS.l0 k x0 (x3.set (x4 : Int).toNat (rdOf false x0 x4)) (wrap64 (x4 + 1))) else (none)) else (none)) else (some x3)
def laws_toBoolS.f (k : Nat) (l0 : List Bool) : Option (List Bool) := if 0 ≤ (l0.length : Int) then (if ((l0.length : Int) : Int).toNat ≤ 281474976710656 then (laws_toBoolS.l0 k l0 (List.replicate ((l0.length : Int) : Int).toNat false) 0) else (none)) else (none)
theorem laws_toBoolS.mono_l : ∀ k, (∀ y0 y1 y2, LeO (laws_toBoolS.l0 k y0 y1 y2) (laws_toBoolS.l0 (k + 1) y0 y1 y2))
 | 0 => fun _ _ _ r h => by simp [laws_toBoolS.l0] at h
 | k + 1 => by
  have ih0 := laws_toBoolS.mono_l k
  ·intro y0 y1 y2
   unfold laws_toBoolS.l0
   repeat' first
   | (with_reducible exact ih0 _ _ _)
   | (with_reducible exact LeO.refl _)
   | (with_reducible exact LeO.none _)
   | (with_reducible refine LeO.ite ?_ ?_)
   | (with_reducible refine LeO.bind ?_ (fun _ => ?_))
   | exact ih0 _ _ _
   | exact LeO.none _
   | refine LeO.ite ?_ ?_
   | refine LeO.bind ?_ (fun _ => ?_)
theorem laws_toBoolS.mono : ∀ a0 k, LeO (laws_toBoolS.f k a0) (laws_toBoolS.f (k + 1) a0) := by
 intro a0 k
 have ih0 := laws_toBoolS.mono_l k
 unfold laws_toBoolS.f
 repeat' first
   | (with_reducible exact ih0 _ _ _)
   | (with_reducible exact LeO.refl _)
   | (with_reducible exact LeO.none _)
   | (with_reducible refine LeO.ite ?_ ?_)
   | (with_reducible refine LeO.bind ?_ (fun _ => ?_))
   | exact ih0 _ _ _
   | exact LeO.none _
   | refine LeO.ite ?_ ?_
   | refine LeO.bind ?_ (fun _ => ?_)
set_option maxHeartbeats 8000000 in
set_option maxRecDepth 100000 in
theorem laws_toBoolS.calls (k : Nat) (A0 : Option Addr) (c0 : Nat) (l0 : List Bool) (r : List Bool) (w : World) (hr0 : Kd.C Kd.bool w A0 l0.length l0) (hc0 : l0.length ≤ c0) (h : laws_toBoolS.f k l0 = some r) :
  Calls Tryz.prog 45 #[.slice A0 l0.length c0] w fun e w' => ∃ v0_ : Value, e = .returned (v0_) ∧ Kd.R Kd.bool 4 w' w.heap.size (fun _ => True) v0_ r ∧ Below w.heap.size w w' := by
 have HR0 := am_ hr0
 have HC0 := am_ hc0
 clear hr0 hc0
 have HB := am_ (Below.refl w.heap.size w)
 have H : (if 0 ≤ (l0.length : Int) then (if ((l0.length : Int) : Int).toNat ≤ 281474976710656 then (laws_toBoolS.l0 k l0 (List.replicate ((l0.length : Int) : Int).toNat false) 0) else (none)) else (none)) = some r := h
 clear h
 by_cases c2 : 0 ≤ (l0.length : Int)
 ·rw [if_pos c2] at H
  have c2b0 := eq_true c2
  have c2b1 : decide (0 ≤ (l0.length : Int)) = true := decide_eq_true c2
  clear c2
  by_cases c3 : ((l0.length : Int) : Int).toNat ≤ 281474976710656
  ·rw [if_pos c3] at H
   have c3b0 := eq_true c3
   have c3b1 : decide (((l0.length : Int) : Int).toNat ≤ 281474976710656) = true := decide_eq_true c3
   clear c3
   obtain ⟨y242, hy242⟩ : ∃ y_ : List Bool, y_ = (List.replicate ((l0.length : Int) : Int).toNat false) := ⟨_, rfl⟩
   replace H : (laws_toBoolS.l0 k l0 y242 0) = some r := by first | (rw [hy242]; with_reducible exact H) | (have H2_ := (Option.bind_some _ _).symm.trans H; rw [hy242]; with_reducible exact H2_) | (have H2_ := (Option.bind_some _ _).symm.trans H; with_reducible exact H2_) | with_reducible exact H | (rw [hy242]; exact H) | exact H
   have Ny242 := am_ hy242
   clear hy242
   have H' := am_ H
   clear H
   go_enter Tryz.func45, Tryz.ntmps45
   go_wp2_with (first | ((with_reducible refine gate_dst (N := 7) rfl ?_); refine Kd.R_make Kd.bool _ 4 rfl (N := 7) rfl 26 _ _ rfl (l0.length : Int) rfl rfl Tryz.underlying26 (.bool false) 1 info4 rfl (by decide) (by omega) false (ok := fun _ => True) (okp := fun _ => True) rfl (fun _ hk => hk) trivial (of_decide_eq_true yqv11_) (Nat.le_trans (Nat.mul_le_mul_right _ (of_decide_eq_true yqv11_ : (l0.length : Int).toNat ≤ 281474976710656)) (by omega)) (Below.refl _ _) (Nat.le_refl _) ?_; intro v243 w4 ho5 hb hg_ hnew_; clear hg_ hnew_; (first | rw [← Ny242.out] at ho5 | (simp only [Int.reduceToNat] at ho5; rw [← Ny242.out] at ho5)); have HO244 := am_ (Kd.R_lower ho5 (below_size ybl_)); replace HB := yst_ hb; clear hb ho5))
   go_loopg [4] k (fun kq v4 w' => ∃ (x3_1 : List Bool) (x4_1 : Int), v4 = .int .i64 x4_1 ∧ Aside0 (laws_toBoolS.l0 kq l0 x3_1 x4_1 = some r) ∧ Aside0 (kq ≤ k) ∧ Aside0 (Kd.R Kd.bool 4 w' w.heap.size (fun _ => True) v243 x3_1) ∧ Aside0 (Below w.heap.size w w'))
   case atStart => exact ⟨(y242), (0), (by first | rfl | (simp; done) | (simp [*]; done)), H', ⟨Nat.le_refl _⟩, ⟨(yru_ HO244)⟩, ⟨ybl_⟩⟩
   case round =>
    clear H'
    try clear c2
    try clear c2b0
    try clear c2b1
    try clear p2
    try clear c3
    try clear c3b0
    try clear c3b1
    try clear c4
    obtain ⟨x3_1, x4_1, rfl, HA, HK1, HO_3, HB⟩ := hrel
    cases gk with
    | zero => exact absurd HA.out (by simp [laws_toBoolS.l0])
    | succ k1 =>
     have H := HA.out
     clear HA
     simp only [laws_toBoolS.l0] at H
     by_cases c6 : x4_1 < (l0.length : Int)
     ·rw [if_pos c6] at H
      have c6b0 : decide (x4_1 < (l0.length : Int)) = true := decide_eq_true c6
      clear c6
      by_cases c7 : 0 ≤ x4_1
      ·rw [if_pos c7] at H
       have c7b0 : decide (0 ≤ x4_1) = true := decide_eq_true c7
       clear c7
       by_cases c8 : x4_1 < (x3_1.length : Int)
       ·rw [if_pos c8] at H
        have c8b0 : decide (x4_1 < (x3_1.length : Int)) = true := decide_eq_true c8
        clear c8
        obtain ⟨y246, hy246⟩ : ∃ y_ : List Bool, y_ = (x3_1.set (x4_1 : Int).toNat (rdOf false l0 x4_1)) := ⟨_, rfl⟩
        replace H : (laws_toBoolS.l0 k1 l0 y246 (wrap64 (x4_1 + 1))) = some r := by first | (rw [hy246]; with_reducible exact H) | (have H2_ := (Option.bind_some _ _).symm.trans H; rw [hy246]; with_reducible exact H2_) | (have H2_ := (Option.bind_some _ _).symm.trans H; with_reducible exact H2_) | with_reducible exact H | (rw [hy246]; exact H) | exact H
        have Ny246 := am_ hy246
        clear hy246
        have H' := am_ H
        clear H
        have p245 : 0 ≤ (x4_1 : Int) := of_decide_eq_true yqv11_
        have q245 : x4_1 < (l0.length : Int) := of_decide_eq_true yqv11_
        obtain ⟨ad245, e245, hx245_0⟩ := Kd.at_bool HR0.out x4_1 p245 q245
        cases e245
        replace hx245_0 := ycst_ HB hx245_0
        replace p245 := eq_true p245
        replace q245 := eq_true q245
        have p9 : 0 ≤ (x4_1 : Int) := of_decide_eq_true yqv11_
        have q9 : (x4_1 : Int) < ((x3_1.length : Int) : Int) := of_decide_eq_true yqv11_
        obtain ⟨go9, co9, eo9, gb9, gl9, cl9, HG9⟩ := Kd.R_form HO_3.out (by omega)
        (first | cases eo9 | (injection eo9 with ea_ en_ ec_; (first | subst ea_ | (injection ea_ with ea_; subst ea_)); subst ec_; clear en_))
        have GB9 := am_ gb9
        have GG9 := am_ HG9
        clear gb9 gl9 HG9
        obtain ⟨hx9_0, hf9_0⟩ := Kd.R_celln false HO_3.out (x4_1 : Int) p9 q9
        replace p9 := eq_true p9
        replace q9 := eq_true q9
        have HP10 := Kd.R_putg HO_3.out (x4_1 : Int) (rdOf false l0 x4_1)
        go_wp2_with (first | ((with_reducible refine gate_store (t := 4) (p := 20) rfl ?_); refine store_event (t := 4) (p := 20) (v := ?vo_w11) (w1 := (wr.setCell ⟨go9, (x4_1 : Int).toNat, none⟩ (.bool (rdOf false l0 x4_1)))) ?hg ?ho ?hn ?hr ?_; (case ho => rfl); (case hg => rfl); (case hn => rfl); (case hr => first | (go_simp; done) | (go_simp; rfl)); intro w11 hw; have hg : wr.grownBy w11 (some go9) := (by rw [hw]; exact HP10.2); have hp_ : Kd.R Kd.bool 4 w11 w.heap.size (fun _ => True) (.slice (some ⟨go9, 0, none⟩) x3_1.length co9) y246 := (by rw [hw, Ny246.out]; exact HP10.1); clear HP10; replace HO_3 := am_ (hp_); replace HB := am_ ((by rw [hw]; exact below_set (HB.out) GB9.out : Below w.heap.size w w11)); clear hg hw hp_))
        go_roundg k1
        case measure => have := HK1.out; omega
        case rel => exact ⟨(y246), (wrap64 (x4_1 + 1)), (by first | rfl | (simp; done) | (simp [*]; done)), H', ⟨by have := HK1.out; omega⟩, ⟨(yru_ HO_3)⟩, ⟨ybl_⟩⟩
       ·rw [if_neg c8] at H
        exact absurd H (by simp)
      ·rw [if_neg c7] at H
       exact absurd H (by simp)
     ·rw [if_neg c6] at H
      have c6b0 : decide (x4_1 < (l0.length : Int)) = false := decide_eq_false c6
      clear c6
      obtain rfl := Option.some.inj H
      go_wp2
      go_ret
      exact ⟨_, yk0_, by (with_reducible repeat (first | apply Kd.R_alloc | apply Kd.R_drewN | apply Kd.R_drew)); exact HO_3.out, ybl_⟩
  ·rw [if_neg c3] at H
   exact absurd H (by simp)
 ·rw [if_neg c2] at H
  exact absurd H (by simp)

/-! ### laws_toDeed: function 78 -/
def laws_toDeed.f (a0_0 : Int) (a0_1 : Int) (a0_2 : Int) (a0_3 : Int) : Option (Int × Int × Int × Int) := some (a0_0, a0_1, a0_2, a0_3)
set_option maxHeartbeats 8000000 in
set_option maxRecDepth 100000 in
theorem laws_toDeed.calls (a0_0 : Int) (a0_1 : Int) (a0_2 : Int) (a0_3 : Int) (r1 : Int) (r2 : Int) (r3 : Int) (r4 : Int) (w : World) (h : laws_toDeed.f a0_0 a0_1 a0_2 a0_3 = some (r1, r2, r3, r4)) :
  Calls Tryz.prog 78 #[.agg #[.int .i64 a0_0, .int .i64 a0_1, .int .i64 a0_2, .int .i64 a0_3]] w fun e w' => e = .returned (.agg #[.int .i64 r1, .int .i64 r2, .int .i64 r3, .int .i64 r4]) ∧ Below w.heap.size w w' := by
 have hu95 := Tryz.underlying95
 have hu88 := Tryz.underlying88
 have HB := am_ (Below.refl w.heap.size w)
 have H : (some (a0_0, a0_1, a0_2, a0_3)) = some (r1, r2, r3, r4) := h
 clear h
 simp only [Option.some.injEq, Prod.mk.injEq] at H
 obtain ⟨rfl, rfl, rfl, rfl⟩ := H
 go_enter Tryz.func78, Tryz.ntmps78
 go_wp2_with (first | ((with_reducible refine gate_dst (N := 1) rfl ?_); refine box_event ?hg (N := 1) ?hd (cs := #[.int .i64 a0_0, .int .i64 a0_1, .int .i64 a0_2, .int .i64 a0_3]) (t := 95) ?hr ?_; (case hd => rfl); (case hg => rfl); (case hr => first | (go_simp; done) | (go_simp; rfl)); intro gb247 hg w2 hbox hb; have BK247 := am_ (hbox); have GW247 := am_ ((ybsz_ hg : w.heap.size ≤ gb247)); have GE247 := GW247; replace HB := yst_ hb; clear hb hbox hg) | ((with_reducible refine gate_dst (N := 2) rfl ?_); refine box_event ?hg (N := 2) ?hd (cs := #[.int .i64 0, .int .i64 0, .int .i64 0, .int .i64 0]) (t := 88) ?hr ?_; (case hd => rfl); (case hg => rfl); (case hr => first | (go_simp; done) | (go_simp; rfl)); intro gb248 hg w3 hbox hb; have BK248 := am_ (hbox); have GW248 := am_ ((ybsz_ hg : w.heap.size ≤ gb248)); have GE248 := GW248; replace HB := yst_ hb; have NB247_248 := am_ (ybne_ hg BK247); have NB248_247 := am_ ((ybne_ hg BK247).symm); replace BK247 := am_ (ybb_ BK247 hb); clear hb hbox hg) | ((with_reducible refine gate_dst (N := 3) rfl ?_); refine box_event ?hg (N := 3) ?hd (cs := #[.int .i64 0, .int .i64 0, .int .i64 0, .int .i64 0]) (t := 88) ?hr ?_; (case hd => rfl); (case hg => rfl); (case hr => first | (go_simp; done) | (go_simp; rfl)); intro gb249 hg w4 hbox hb; have BK249 := am_ (hbox); have GW249 := am_ ((ybsz_ hg : w.heap.size ≤ gb249)); have GE249 := GW249; replace HB := yst_ hb; have NB247_249 := am_ (ybne_ hg BK247); have NB249_247 := am_ ((ybne_ hg BK247).symm); replace BK247 := am_ (ybb_ BK247 hb); have NB248_249 := am_ (ybne_ hg BK248); have NB249_248 := am_ ((ybne_ hg BK248).symm); replace BK248 := am_ (ybb_ BK248 hb); clear hb hbox hg; have hnb5 := NB247_248.out; have hnc5 := NB248_247.out; have hnb6 := NB247_249.out; have hnc6 := NB249_247.out; have hcz7 := ye4_ BK247; have hfz7 := yf4_ BK247; have hnb8 := NB249_248.out; have hnc8 := NB248_249.out; have hcz9 := ye4_ BK249; have hfz9 := yf4_ BK249; have hcz10 := ye4_ BK248; have hfz10 := yf4_ BK248))
 refine bodyPost_ret (results_cell_row rfl _ _ gb248 88 #[.int .i64 a0_0, .int .i64 a0_1, .int .i64 a0_2, .int .i64 a0_3] (0, 0) _ rfl (by (with_reducible repeat (first | refine blk_drewN ?_ _ | refine blk_drew ?_ | refine blk_alloc ?_ _)); refine blk_put (cs := #[.int .i64 a0_0, .int .i64 a0_1, .int .i64 a0_2, .int .i64 0]) ?_ 3 _ rfl; (with_reducible repeat (first | refine blk_drewN ?_ _ | refine blk_drew ?_ | refine blk_alloc ?_ _)); refine blk_put (cs := #[.int .i64 a0_0, .int .i64 a0_1, .int .i64 0, .int .i64 0]) ?_ 2 _ rfl; (with_reducible repeat (first | refine blk_drewN ?_ _ | refine blk_drew ?_ | refine blk_alloc ?_ _)); refine blk_put (cs := #[.int .i64 a0_0, .int .i64 0, .int .i64 0, .int .i64 0]) ?_ 1 _ rfl; (with_reducible repeat (first | refine blk_drewN ?_ _ | refine blk_drew ?_ | refine blk_alloc ?_ _)); refine blk_put (cs := #[.int .i64 0, .int .i64 0, .int .i64 0, .int .i64 0]) ?_ 0 _ rfl; (with_reducible repeat (first | refine blk_drewN ?_ _ | refine blk_drew ?_ | refine blk_alloc ?_ _)); refine blk_far ?_ NB248_249.out _; (with_reducible repeat (first | refine blk_drewN ?_ _ | refine blk_drew ?_ | refine blk_alloc ?_ _)); refine blk_far ?_ NB248_249.out _; (with_reducible repeat (first | refine blk_drewN ?_ _ | refine blk_drew ?_ | refine blk_alloc ?_ _)); refine blk_far ?_ NB248_249.out _; (with_reducible repeat (first | refine blk_drewN ?_ _ | refine blk_drew ?_ | refine blk_alloc ?_ _)); refine blk_far ?_ NB248_249.out _; (with_reducible repeat (first | refine blk_drewN ?_ _ | refine blk_drew ?_ | refine blk_alloc ?_ _)); exact BK248.out) Tryz.underlying88 rfl (by kernel_rfl)) rfl ?_
 exact ⟨yk0_, ybl_⟩

end Go.Proofs.YtbbfahkmjfmmjaaGreatDoor.PMOK
