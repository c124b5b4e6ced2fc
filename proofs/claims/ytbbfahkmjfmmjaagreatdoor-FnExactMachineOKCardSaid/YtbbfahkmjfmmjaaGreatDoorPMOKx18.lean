-- laid by a program of this session out of the translation's own print: Lean checks it
import Derived.Test.YtbbfahkmjfmmjaaGreatDoorPMOKx0
import Derived.Test.YtbbfahkmjfmmjaaGreatDoorPMOKx2
import Derived.Test.YtbbfahkmjfmmjaaGreatDoorPMOKx7
import Derived.Test.YtbbfahkmjfmmjaaGreatDoorPMOKx8
import Derived.Test.YtbbfahkmjfmmjaaGreatDoorPMOKx13
import Derived.Test.YtbbfahkmjfmmjaaGreatDoorPMOKx17
namespace Go.Proofs.YtbbfahkmjfmmjaaGreatDoor.PMOK
open Go.RowKit Go.Proofs.YtbbfahkmjfmmjaaGreatDoorW.PrintWords Go.Proofs.YtbbfahkmjfmmjaaGreatDoorW.PrintLast Go.Proofs.YtbbfahkmjfmmjaaGreatDoorW.PrintMore
attribute [local go_sem] max2_int min2_int max_two min_two max_three min_three max_four min_four   -- for this text's walks alone
set_option linter.unusedVariables false
set_option linter.unusedSimpArgs false

/-! ### laws_FnExactMachineOK: function 3 -/
def laws_FnExactMachineOK.f (k : Nat) (l0_0 : List (S71)) (l0_1 : List Int) (l0_2 : List Int) (l0_3 : List Int) (l0_4 : List Int) (a0_5 : Int) (a0_6 : Int) (a0_7 : ByteArray) (l0_8 : List Bool) (l0_9 : List Int) (l0_10 : List Int) (a0_11 : Int) (l0_12 : List (S95)) (l0_13 : List (S80)) (a0_14 : Int) (a0_15 : Int) : Option (Bool) := (laws_szMachine.f k l0_0 l0_1 l0_2 l0_3 l0_4 a0_5 a0_6 a0_7 l0_8 l0_9 l0_10 a0_11 l0_12 l0_13 a0_14 a0_15 1048576).bind fun t456 => (if t456 < 0 then (some true) else ((laws_toMachine.f k l0_0 l0_1 l0_2 l0_3 l0_4 a0_5 a0_6 a0_7 l0_8 l0_9 l0_10 a0_11 l0_12 l0_13 a0_14 a0_15).bind fun bt457 => ((spec_MachineOK.f k bt457.1 bt457.2.1 bt457.2.2.1 bt457.2.2.2.1 bt457.2.2.2.2.1 bt457.2.2.2.2.2.1 bt457.2.2.2.2.2.2.1 bt457.2.2.2.2.2.2.2.1 bt457.2.2.2.2.2.2.2.2.1 bt457.2.2.2.2.2.2.2.2.2.1 bt457.2.2.2.2.2.2.2.2.2.2.1 bt457.2.2.2.2.2.2.2.2.2.2.2.1 bt457.2.2.2.2.2.2.2.2.2.2.2.2.1 bt457.2.2.2.2.2.2.2.2.2.2.2.2.2.1 bt457.2.2.2.2.2.2.2.2.2.2.2.2.2.2.1 bt457.2.2.2.2.2.2.2.2.2.2.2.2.2.2.2).bind fun t493 => ((laws_toMachine.f k l0_0 l0_1 l0_2 l0_3 l0_4 a0_5 a0_6 a0_7 l0_8 l0_9 l0_10 a0_11 l0_12 l0_13 a0_14 a0_15).bind fun bt494 => ((impl_MachineOK.f k bt494.1 bt494.2.1 bt494.2.2.1 bt494.2.2.2.1 bt494.2.2.2.2.1 bt494.2.2.2.2.2.1 bt494.2.2.2.2.2.2.1 bt494.2.2.2.2.2.2.2.1 bt494.2.2.2.2.2.2.2.2.1 bt494.2.2.2.2.2.2.2.2.2.1 bt494.2.2.2.2.2.2.2.2.2.2.1 bt494.2.2.2.2.2.2.2.2.2.2.2.1 bt494.2.2.2.2.2.2.2.2.2.2.2.2.1 bt494.2.2.2.2.2.2.2.2.2.2.2.2.2.1 bt494.2.2.2.2.2.2.2.2.2.2.2.2.2.2.1 bt494.2.2.2.2.2.2.2.2.2.2.2.2.2.2.2).bind fun t531 => (if (t531 != t493) = true then (some false) else ((laws_toMachine.f k l0_0 l0_1 l0_2 l0_3 l0_4 a0_5 a0_6 a0_7 l0_8 l0_9 l0_10 a0_11 l0_12 l0_13 a0_14 a0_15).bind fun bt532 => ((laws_eqMachine.f k bt494.1 bt494.2.1 bt494.2.2.1 bt494.2.2.2.1 bt494.2.2.2.2.1 bt494.2.2.2.2.2.1 bt494.2.2.2.2.2.2.1 bt494.2.2.2.2.2.2.2.1 bt494.2.2.2.2.2.2.2.2.1 bt494.2.2.2.2.2.2.2.2.2.1 bt494.2.2.2.2.2.2.2.2.2.2.1 bt494.2.2.2.2.2.2.2.2.2.2.2.1 bt494.2.2.2.2.2.2.2.2.2.2.2.2.1 bt494.2.2.2.2.2.2.2.2.2.2.2.2.2.1 bt494.2.2.2.2.2.2.2.2.2.2.2.2.2.2.1 bt494.2.2.2.2.2.2.2.2.2.2.2.2.2.2.2 bt532.1 bt532.2.1 bt532.2.2.1 bt532.2.2.2.1 bt532.2.2.2.2.1 bt532.2.2.2.2.2.1 bt532.2.2.2.2.2.2.1 bt532.2.2.2.2.2.2.2.1 bt532.2.2.2.2.2.2.2.2.1 bt532.2.2.2.2.2.2.2.2.2.1 bt532.2.2.2.2.2.2.2.2.2.2.1 bt532.2.2.2.2.2.2.2.2.2.2.2.1 bt532.2.2.2.2.2.2.2.2.2.2.2.2.1 bt532.2.2.2.2.2.2.2.2.2.2.2.2.2.1 bt532.2.2.2.2.2.2.2.2.2.2.2.2.2.2.1 bt532.2.2.2.2.2.2.2.2.2.2.2.2.2.2.2).bind fun t568 => (if t568 = true then (some true) else (some false))))))))))
theorem laws_FnExactMachineOK.mono : ∀ a0 a1 a2 a3 a4 a5 a6 a7 a8 a9 a10 a11 a12 a13 a14 a15 k, LeO (laws_FnExactMachineOK.f k a0 a1 a2 a3 a4 a5 a6 a7 a8 a9 a10 a11 a12 a13 a14 a15) (laws_FnExactMachineOK.f (k + 1) a0 a1 a2 a3 a4 a5 a6 a7 a8 a9 a10 a11 a12 a13 a14 a15) := by
 intro a0 a1 a2 a3 a4 a5 a6 a7 a8 a9 a10 a11 a12 a13 a14 a15 k
 unfold laws_FnExactMachineOK.f
 repeat' first
   | (with_reducible exact impl_MachineOK.mono _ _ _ _ _ _ _ _ _ _ _ _ _ _ _ _ _)
   | (with_reducible exact laws_eqMachine.mono _ _ _ _ _ _ _ _ _ _ _ _ _ _ _ _ _ _ _ _ _ _ _ _ _ _ _ _ _ _ _ _ _)
   | (with_reducible exact laws_szMachine.mono _ _ _ _ _ _ _ _ _ _ _ _ _ _ _ _ _ _)
   | (with_reducible exact laws_toMachine.mono _ _ _ _ _ _ _ _ _ _ _ _ _ _ _ _ _)
   | (with_reducible exact spec_MachineOK.mono _ _ _ _ _ _ _ _ _ _ _ _ _ _ _ _ _)
   | (with_reducible exact LeO.refl _)
   | (with_reducible exact LeO.none _)
   | (with_reducible refine LeO.ite ?_ ?_)
   | (with_reducible refine LeO.bind ?_ (fun _ => ?_))
   | exact impl_MachineOK.mono _ _ _ _ _ _ _ _ _ _ _ _ _ _ _ _ _
   | exact laws_eqMachine.mono _ _ _ _ _ _ _ _ _ _ _ _ _ _ _ _ _ _ _ _ _ _ _ _ _ _ _ _ _ _ _ _ _
   | exact laws_szMachine.mono _ _ _ _ _ _ _ _ _ _ _ _ _ _ _ _ _ _
   | exact laws_toMachine.mono _ _ _ _ _ _ _ _ _ _ _ _ _ _ _ _ _
   | exact spec_MachineOK.mono _ _ _ _ _ _ _ _ _ _ _ _ _ _ _ _ _
   | exact LeO.none _
   | refine LeO.ite ?_ ?_
   | refine LeO.bind ?_ (fun _ => ?_)
set_option maxHeartbeats 8000000 in
set_option maxRecDepth 100000 in
theorem laws_FnExactMachineOK.calls (k : Nat) (A0_0 : Option Addr) (c0_0 : Nat) (l0_0 : List (S71)) (A0_1 : Option Addr) (c0_1 : Nat) (l0_1 : List Int) (A0_2 : Option Addr) (c0_2 : Nat) (l0_2 : List Int) (A0_3 : Option Addr) (c0_3 : Nat) (l0_3 : List Int) (A0_4 : Option Addr) (c0_4 : Nat) (l0_4 : List Int) (a0_5 : Int) (a0_6 : Int) (a0_7 : ByteArray) (A0_8 : Option Addr) (c0_8 : Nat) (l0_8 : List Bool) (A0_9 : Option Addr) (c0_9 : Nat) (l0_9 : List Int) (A0_10 : Option Addr) (c0_10 : Nat) (l0_10 : List Int) (a0_11 : Int) (A0_12 : Option Addr) (c0_12 : Nat) (l0_12 : List (S95)) (A0_13 : Option Addr) (c0_13 : Nat) (l0_13 : List (S80)) (a0_14 : Int) (a0_15 : Int) (w : World) (hr0_0 : Kd.C k71 w A0_0 l0_0.length l0_0) (hc0_0 : l0_0.length ≤ c0_0) (hr0_1 : Kd.C (Kd.int .i64) w A0_1 l0_1.length l0_1) (hc0_1 : l0_1.length ≤ c0_1) (hr0_2 : Kd.C (Kd.int .i64) w A0_2 l0_2.length l0_2) (hc0_2 : l0_2.length ≤ c0_2) (hr0_3 : Kd.C (Kd.int .i64) w A0_3 l0_3.length l0_3) (hc0_3 : l0_3.length ≤ c0_3) (hr0_4 : Kd.C (Kd.int .i64) w A0_4 l0_4.length l0_4) (hc0_4 : l0_4.length ≤ c0_4) (hr0_8 : Kd.C Kd.bool w A0_8 l0_8.length l0_8) (hc0_8 : l0_8.length ≤ c0_8) (hr0_9 : Kd.C (Kd.int .i64) w A0_9 l0_9.length l0_9) (hc0_9 : l0_9.length ≤ c0_9) (hr0_10 : Kd.C (Kd.int .i64) w A0_10 l0_10.length l0_10) (hc0_10 : l0_10.length ≤ c0_10) (hr0_12 : Kd.C k95 w A0_12 l0_12.length l0_12) (hc0_12 : l0_12.length ≤ c0_12) (hr0_13 : Kd.C k80 w A0_13 l0_13.length l0_13) (hc0_13 : l0_13.length ≤ c0_13) (h : laws_FnExactMachineOK.f k l0_0 l0_1 l0_2 l0_3 l0_4 a0_5 a0_6 a0_7 l0_8 l0_9 l0_10 a0_11 l0_12 l0_13 a0_14 a0_15 = some true) (hG : GlobOK w := by first | exact HGL.out | exact GlobOK.below HGL.out HB.out | exact GlobOK.below HGL.out ybl_ | (repeat (first | exact HGL.out | apply GlobOK.drewN | apply GlobOK.drew | apply GlobOK.alloc))) :
  Calls Tryz.prog 3 #[.agg #[.slice A0_0 l0_0.length c0_0, .slice A0_1 l0_1.length c0_1, .slice A0_2 l0_2.length c0_2, .slice A0_3 l0_3.length c0_3, .slice A0_4 l0_4.length c0_4, .int .i64 a0_5, .int .i64 a0_6, .string a0_7, .slice A0_8 l0_8.length c0_8, .slice A0_9 l0_9.length c0_9, .slice A0_10 l0_10.length c0_10, .int .i64 a0_11, .slice A0_12 l0_12.length c0_12, .slice A0_13 l0_13.length c0_13, .int .i64 a0_14, .int .i64 a0_15]] w fun e w' => e = .returned (.bool true) ∧ Below w.heap.size w w' := by
 have HGL := am_ hG
 clear hG
 have hu32 := Tryz.underlying32
 have hu42 := Tryz.underlying42
 have HR0_0 := am_ hr0_0
 have HC0_0 := am_ hc0_0
 clear hr0_0 hc0_0
 have HR0_1 := am_ hr0_1
 have HC0_1 := am_ hc0_1
 clear hr0_1 hc0_1
 have HR0_2 := am_ hr0_2
 have HC0_2 := am_ hc0_2
 clear hr0_2 hc0_2
 have HR0_3 := am_ hr0_3
 have HC0_3 := am_ hc0_3
 clear hr0_3 hc0_3
 have HR0_4 := am_ hr0_4
 have HC0_4 := am_ hc0_4
 clear hr0_4 hc0_4
 have HR0_8 := am_ hr0_8
 have HC0_8 := am_ hc0_8
 clear hr0_8 hc0_8
 have HR0_9 := am_ hr0_9
 have HC0_9 := am_ hc0_9
 clear hr0_9 hc0_9
 have HR0_10 := am_ hr0_10
 have HC0_10 := am_ hc0_10
 clear hr0_10 hc0_10
 have HR0_12 := am_ hr0_12
 have HC0_12 := am_ hc0_12
 clear hr0_12 hc0_12
 have HR0_13 := am_ hr0_13
 have HC0_13 := am_ hc0_13
 clear hr0_13 hc0_13
 have HB := am_ (Below.refl w.heap.size w)
 have H : ((laws_szMachine.f k l0_0 l0_1 l0_2 l0_3 l0_4 a0_5 a0_6 a0_7 l0_8 l0_9 l0_10 a0_11 l0_12 l0_13 a0_14 a0_15 1048576).bind fun t456 => (if t456 < 0 then (some true) else ((laws_toMachine.f k l0_0 l0_1 l0_2 l0_3 l0_4 a0_5 a0_6 a0_7 l0_8 l0_9 l0_10 a0_11 l0_12 l0_13 a0_14 a0_15).bind fun bt457 => ((spec_MachineOK.f k bt457.1 bt457.2.1 bt457.2.2.1 bt457.2.2.2.1 bt457.2.2.2.2.1 bt457.2.2.2.2.2.1 bt457.2.2.2.2.2.2.1 bt457.2.2.2.2.2.2.2.1 bt457.2.2.2.2.2.2.2.2.1 bt457.2.2.2.2.2.2.2.2.2.1 bt457.2.2.2.2.2.2.2.2.2.2.1 bt457.2.2.2.2.2.2.2.2.2.2.2.1 bt457.2.2.2.2.2.2.2.2.2.2.2.2.1 bt457.2.2.2.2.2.2.2.2.2.2.2.2.2.1 bt457.2.2.2.2.2.2.2.2.2.2.2.2.2.2.1 bt457.2.2.2.2.2.2.2.2.2.2.2.2.2.2.2).bind fun t493 => ((laws_toMachine.f k l0_0 l0_1 l0_2 l0_3 l0_4 a0_5 a0_6 a0_7 l0_8 l0_9 l0_10 a0_11 l0_12 l0_13 a0_14 a0_15).bind fun bt494 => ((impl_MachineOK.f k bt494.1 bt494.2.1 bt494.2.2.1 bt494.2.2.2.1 bt494.2.2.2.2.1 bt494.2.2.2.2.2.1 bt494.2.2.2.2.2.2.1 bt494.2.2.2.2.2.2.2.1 bt494.2.2.2.2.2.2.2.2.1 bt494.2.2.2.2.2.2.2.2.2.1 bt494.2.2.2.2.2.2.2.2.2.2.1 bt494.2.2.2.2.2.2.2.2.2.2.2.1 bt494.2.2.2.2.2.2.2.2.2.2.2.2.1 bt494.2.2.2.2.2.2.2.2.2.2.2.2.2.1 bt494.2.2.2.2.2.2.2.2.2.2.2.2.2.2.1 bt494.2.2.2.2.2.2.2.2.2.2.2.2.2.2.2).bind fun t531 => (if (t531 != t493) = true then (some false) else ((laws_toMachine.f k l0_0 l0_1 l0_2 l0_3 l0_4 a0_5 a0_6 a0_7 l0_8 l0_9 l0_10 a0_11 l0_12 l0_13 a0_14 a0_15).bind fun bt532 => ((laws_eqMachine.f k bt494.1 bt494.2.1 bt494.2.2.1 bt494.2.2.2.1 bt494.2.2.2.2.1 bt494.2.2.2.2.2.1 bt494.2.2.2.2.2.2.1 bt494.2.2.2.2.2.2.2.1 bt494.2.2.2.2.2.2.2.2.1 bt494.2.2.2.2.2.2.2.2.2.1 bt494.2.2.2.2.2.2.2.2.2.2.1 bt494.2.2.2.2.2.2.2.2.2.2.2.1 bt494.2.2.2.2.2.2.2.2.2.2.2.2.1 bt494.2.2.2.2.2.2.2.2.2.2.2.2.2.1 bt494.2.2.2.2.2.2.2.2.2.2.2.2.2.2.1 bt494.2.2.2.2.2.2.2.2.2.2.2.2.2.2.2 bt532.1 bt532.2.1 bt532.2.2.1 bt532.2.2.2.1 bt532.2.2.2.2.1 bt532.2.2.2.2.2.1 bt532.2.2.2.2.2.2.1 bt532.2.2.2.2.2.2.2.1 bt532.2.2.2.2.2.2.2.2.1 bt532.2.2.2.2.2.2.2.2.2.1 bt532.2.2.2.2.2.2.2.2.2.2.1 bt532.2.2.2.2.2.2.2.2.2.2.2.1 bt532.2.2.2.2.2.2.2.2.2.2.2.2.1 bt532.2.2.2.2.2.2.2.2.2.2.2.2.2.1 bt532.2.2.2.2.2.2.2.2.2.2.2.2.2.2.1 bt532.2.2.2.2.2.2.2.2.2.2.2.2.2.2.2).bind fun t568 => (if t568 = true then (some true) else (some false))))))))))) = some true := h
 clear h
 replace H := Option.bind_eq_some_iff.mp H
 obtain ⟨t456, A20, H⟩ := H
 replace H : (if t456 < 0 then (some true) else ((laws_toMachine.f k l0_0 l0_1 l0_2 l0_3 l0_4 a0_5 a0_6 a0_7 l0_8 l0_9 l0_10 a0_11 l0_12 l0_13 a0_14 a0_15).bind fun bt457 => ((spec_MachineOK.f k bt457.1 bt457.2.1 bt457.2.2.1 bt457.2.2.2.1 bt457.2.2.2.2.1 bt457.2.2.2.2.2.1 bt457.2.2.2.2.2.2.1 bt457.2.2.2.2.2.2.2.1 bt457.2.2.2.2.2.2.2.2.1 bt457.2.2.2.2.2.2.2.2.2.1 bt457.2.2.2.2.2.2.2.2.2.2.1 bt457.2.2.2.2.2.2.2.2.2.2.2.1 bt457.2.2.2.2.2.2.2.2.2.2.2.2.1 bt457.2.2.2.2.2.2.2.2.2.2.2.2.2.1 bt457.2.2.2.2.2.2.2.2.2.2.2.2.2.2.1 bt457.2.2.2.2.2.2.2.2.2.2.2.2.2.2.2).bind fun t493 => ((laws_toMachine.f k l0_0 l0_1 l0_2 l0_3 l0_4 a0_5 a0_6 a0_7 l0_8 l0_9 l0_10 a0_11 l0_12 l0_13 a0_14 a0_15).bind fun bt494 => ((impl_MachineOK.f k bt494.1 bt494.2.1 bt494.2.2.1 bt494.2.2.2.1 bt494.2.2.2.2.1 bt494.2.2.2.2.2.1 bt494.2.2.2.2.2.2.1 bt494.2.2.2.2.2.2.2.1 bt494.2.2.2.2.2.2.2.2.1 bt494.2.2.2.2.2.2.2.2.2.1 bt494.2.2.2.2.2.2.2.2.2.2.1 bt494.2.2.2.2.2.2.2.2.2.2.2.1 bt494.2.2.2.2.2.2.2.2.2.2.2.2.1 bt494.2.2.2.2.2.2.2.2.2.2.2.2.2.1 bt494.2.2.2.2.2.2.2.2.2.2.2.2.2.2.1 bt494.2.2.2.2.2.2.2.2.2.2.2.2.2.2.2).bind fun t531 => (if (t531 != t493) = true then (some false) else ((laws_toMachine.f k l0_0 l0_1 l0_2 l0_3 l0_4 a0_5 a0_6 a0_7 l0_8 l0_9 l0_10 a0_11 l0_12 l0_13 a0_14 a0_15).bind fun bt532 => ((laws_eqMachine.f k bt494.1 bt494.2.1 bt494.2.2.1 bt494.2.2.2.1 bt494.2.2.2.2.1 bt494.2.2.2.2.2.1 bt494.2.2.2.2.2.2.1 bt494.2.2.2.2.2.2.2.1 bt494.2.2.2.2.2.2.2.2.1 bt494.2.2.2.2.2.2.2.2.2.1 bt494.2.2.2.2.2.2.2.2.2.2.1 bt494.2.2.2.2.2.2.2.2.2.2.2.1 bt494.2.2.2.2.2.2.2.2.2.2.2.2.1 bt494.2.2.2.2.2.2.2.2.2.2.2.2.2.1 bt494.2.2.2.2.2.2.2.2.2.2.2.2.2.2.1 bt494.2.2.2.2.2.2.2.2.2.2.2.2.2.2.2 bt532.1 bt532.2.1 bt532.2.2.1 bt532.2.2.2.1 bt532.2.2.2.2.1 bt532.2.2.2.2.2.1 bt532.2.2.2.2.2.2.1 bt532.2.2.2.2.2.2.2.1 bt532.2.2.2.2.2.2.2.2.1 bt532.2.2.2.2.2.2.2.2.2.1 bt532.2.2.2.2.2.2.2.2.2.2.1 bt532.2.2.2.2.2.2.2.2.2.2.2.1 bt532.2.2.2.2.2.2.2.2.2.2.2.2.1 bt532.2.2.2.2.2.2.2.2.2.2.2.2.2.1 bt532.2.2.2.2.2.2.2.2.2.2.2.2.2.2.1 bt532.2.2.2.2.2.2.2.2.2.2.2.2.2.2.2).bind fun t568 => (if t568 = true then (some true) else (some false)))))))))) = some true := H
 have A2 := am_ A20
 clear A20
 by_cases c3 : t456 < 0
 ·rw [if_pos c3] at H
  have c3b0 : decide (t456 < 0) = true := decide_eq_true c3
  clear c3
  clear H
  go_enter Tryz.func3, Tryz.ntmps3
  go_wp2_with (first | ((with_reducible refine gate_dst (N := 1) rfl ?_); refine box_event ?hg (N := 1) ?hd (cs := #[.slice A0_0 l0_0.length c0_0, .slice A0_1 l0_1.length c0_1, .slice A0_2 l0_2.length c0_2, .slice A0_3 l0_3.length c0_3, .slice A0_4 l0_4.length c0_4, .int .i64 a0_5, .int .i64 a0_6, .string a0_7, .slice A0_8 l0_8.length c0_8, .slice A0_9 l0_9.length c0_9, .slice A0_10 l0_10.length c0_10, .int .i64 a0_11, .slice A0_12 l0_12.length c0_12, .slice A0_13 l0_13.length c0_13, .int .i64 a0_14, .int .i64 a0_15]) (t := 32) ?hr ?_; (case hd => rfl); (case hg => rfl); (case hr => first | (go_simp; done) | (go_simp; rfl)); intro gb455 hg w4 hbox hb; have BK455 := am_ (hbox); have GW455 := am_ ((ybsz_ hg : w.heap.size ≤ gb455)); have GE455 := GW455; replace HB := yst_ hb; clear hb hbox hg; have hcz5 := ye16_ BK455; have hfz5 := yf16_ BK455) | ((with_reducible refine gate_callee (f := 5) rfl ?_); refine goesL_ (some 9) rfl rfl Tryz.func5 (by kernel_rfl) rfl #[.agg #[.slice A0_0 l0_0.length c0_0, .slice A0_1 l0_1.length c0_1, .slice A0_2 l0_2.length c0_2, .slice A0_3 l0_3.length c0_3, .slice A0_4 l0_4.length c0_4, .int .i64 a0_5, .int .i64 a0_6, .string a0_7, .slice A0_8 l0_8.length c0_8, .slice A0_9 l0_9.length c0_9, .slice A0_10 l0_10.length c0_10, .int .i64 a0_11, .slice A0_12 l0_12.length c0_12, .slice A0_13 l0_13.length c0_13, .int .i64 a0_14, .int .i64 a0_15], .int .i64 1048576] rfl yk1_ ?_; (with_reducible refine (laws_szMachine.calls k _ _ l0_0 _ _ l0_1 _ _ l0_2 _ _ l0_3 _ _ l0_4 a0_5 a0_6 a0_7 _ _ l0_8 _ _ l0_9 _ _ l0_10 a0_11 _ _ l0_12 _ _ l0_13 a0_14 a0_15 1048576 t456 _ ?side1 HC0_0.out ?side3 HC0_1.out ?side5 HC0_2.out ?side7 HC0_3.out ?side9 HC0_4.out ?side11 HC0_8.out ?side13 HC0_9.out ?side15 HC0_10.out ?side17 HC0_12.out ?side19 HC0_13.out A2.out).mono ?_); (case side1 => exact ycb_ HR0_0 HB); (case side3 => exact ycb_ HR0_1 HB); (case side5 => exact ycb_ HR0_2 HB); (case side7 => exact ycb_ HR0_3 HB); (case side9 => exact ycb_ HR0_4 HB); (case side11 => exact ycb_ HR0_8 HB); (case side13 => exact ycb_ HR0_9 HB); (case side15 => exact ycb_ HR0_10 HB); (case side17 => exact ycb_ HR0_12 HB); (case side19 => exact ycb_ HR0_13 HB); rintro e w6 ⟨rfl, hb⟩; refine ⟨_, rfl, ?_⟩; replace HB := yst_ hb; (try clear hb); (try clear hb2); (try clear hk); (try clear hi)))
  all_goals go_ret
  exact ⟨yk0_, ybl_⟩
  all_goals (exfalso; simp only [beq_iff_eq, decide_eq_decide, decide_eq_true_eq, decide_eq_false_iff_not] at *; omega)
 ·rw [if_neg c3] at H
  have c3b0 : decide (t456 < 0) = false := decide_eq_false c3
  clear c3
  replace H := Option.bind_eq_some_iff.mp H
  obtain ⟨⟨t457, t460, t463, t466, t469, t472, t473, t474, t475, t478, t481, t484, t485, t488, t491, t492⟩, A70, H⟩ := H
  replace H : ((spec_MachineOK.f k t457 t460 t463 t466 t469 t472 t473 t474 t475 t478 t481 t484 t485 t488 t491 t492).bind fun t493 => ((laws_toMachine.f k l0_0 l0_1 l0_2 l0_3 l0_4 a0_5 a0_6 a0_7 l0_8 l0_9 l0_10 a0_11 l0_12 l0_13 a0_14 a0_15).bind fun bt494 => ((impl_MachineOK.f k bt494.1 bt494.2.1 bt494.2.2.1 bt494.2.2.2.1 bt494.2.2.2.2.1 bt494.2.2.2.2.2.1 bt494.2.2.2.2.2.2.1 bt494.2.2.2.2.2.2.2.1 bt494.2.2.2.2.2.2.2.2.1 bt494.2.2.2.2.2.2.2.2.2.1 bt494.2.2.2.2.2.2.2.2.2.2.1 bt494.2.2.2.2.2.2.2.2.2.2.2.1 bt494.2.2.2.2.2.2.2.2.2.2.2.2.1 bt494.2.2.2.2.2.2.2.2.2.2.2.2.2.1 bt494.2.2.2.2.2.2.2.2.2.2.2.2.2.2.1 bt494.2.2.2.2.2.2.2.2.2.2.2.2.2.2.2).bind fun t531 => (if (t531 != t493) = true then (some false) else ((laws_toMachine.f k l0_0 l0_1 l0_2 l0_3 l0_4 a0_5 a0_6 a0_7 l0_8 l0_9 l0_10 a0_11 l0_12 l0_13 a0_14 a0_15).bind fun bt532 => ((laws_eqMachine.f k bt494.1 bt494.2.1 bt494.2.2.1 bt494.2.2.2.1 bt494.2.2.2.2.1 bt494.2.2.2.2.2.1 bt494.2.2.2.2.2.2.1 bt494.2.2.2.2.2.2.2.1 bt494.2.2.2.2.2.2.2.2.1 bt494.2.2.2.2.2.2.2.2.2.1 bt494.2.2.2.2.2.2.2.2.2.2.1 bt494.2.2.2.2.2.2.2.2.2.2.2.1 bt494.2.2.2.2.2.2.2.2.2.2.2.2.1 bt494.2.2.2.2.2.2.2.2.2.2.2.2.2.1 bt494.2.2.2.2.2.2.2.2.2.2.2.2.2.2.1 bt494.2.2.2.2.2.2.2.2.2.2.2.2.2.2.2 bt532.1 bt532.2.1 bt532.2.2.1 bt532.2.2.2.1 bt532.2.2.2.2.1 bt532.2.2.2.2.2.1 bt532.2.2.2.2.2.2.1 bt532.2.2.2.2.2.2.2.1 bt532.2.2.2.2.2.2.2.2.1 bt532.2.2.2.2.2.2.2.2.2.1 bt532.2.2.2.2.2.2.2.2.2.2.1 bt532.2.2.2.2.2.2.2.2.2.2.2.1 bt532.2.2.2.2.2.2.2.2.2.2.2.2.1 bt532.2.2.2.2.2.2.2.2.2.2.2.2.2.1 bt532.2.2.2.2.2.2.2.2.2.2.2.2.2.2.1 bt532.2.2.2.2.2.2.2.2.2.2.2.2.2.2.2).bind fun t568 => (if t568 = true then (some true) else (some false)))))))) = some true := H
  have A7 := am_ A70
  clear A70
  replace H := Option.bind_eq_some_iff.mp H
  obtain ⟨t493, A80, H⟩ := H
  replace H : ((laws_toMachine.f k l0_0 l0_1 l0_2 l0_3 l0_4 a0_5 a0_6 a0_7 l0_8 l0_9 l0_10 a0_11 l0_12 l0_13 a0_14 a0_15).bind fun bt494 => ((impl_MachineOK.f k bt494.1 bt494.2.1 bt494.2.2.1 bt494.2.2.2.1 bt494.2.2.2.2.1 bt494.2.2.2.2.2.1 bt494.2.2.2.2.2.2.1 bt494.2.2.2.2.2.2.2.1 bt494.2.2.2.2.2.2.2.2.1 bt494.2.2.2.2.2.2.2.2.2.1 bt494.2.2.2.2.2.2.2.2.2.2.1 bt494.2.2.2.2.2.2.2.2.2.2.2.1 bt494.2.2.2.2.2.2.2.2.2.2.2.2.1 bt494.2.2.2.2.2.2.2.2.2.2.2.2.2.1 bt494.2.2.2.2.2.2.2.2.2.2.2.2.2.2.1 bt494.2.2.2.2.2.2.2.2.2.2.2.2.2.2.2).bind fun t531 => (if (t531 != t493) = true then (some false) else ((laws_toMachine.f k l0_0 l0_1 l0_2 l0_3 l0_4 a0_5 a0_6 a0_7 l0_8 l0_9 l0_10 a0_11 l0_12 l0_13 a0_14 a0_15).bind fun bt532 => ((laws_eqMachine.f k bt494.1 bt494.2.1 bt494.2.2.1 bt494.2.2.2.1 bt494.2.2.2.2.1 bt494.2.2.2.2.2.1 bt494.2.2.2.2.2.2.1 bt494.2.2.2.2.2.2.2.1 bt494.2.2.2.2.2.2.2.2.1 bt494.2.2.2.2.2.2.2.2.2.1 bt494.2.2.2.2.2.2.2.2.2.2.1 bt494.2.2.2.2.2.2.2.2.2.2.2.1 bt494.2.2.2.2.2.2.2.2.2.2.2.2.1 bt494.2.2.2.2.2.2.2.2.2.2.2.2.2.1 bt494.2.2.2.2.2.2.2.2.2.2.2.2.2.2.1 bt494.2.2.2.2.2.2.2.2.2.2.2.2.2.2.2 bt532.1 bt532.2.1 bt532.2.2.1 bt532.2.2.2.1 bt532.2.2.2.2.1 bt532.2.2.2.2.2.1 bt532.2.2.2.2.2.2.1 bt532.2.2.2.2.2.2.2.1 bt532.2.2.2.2.2.2.2.2.1 bt532.2.2.2.2.2.2.2.2.2.1 bt532.2.2.2.2.2.2.2.2.2.2.1 bt532.2.2.2.2.2.2.2.2.2.2.2.1 bt532.2.2.2.2.2.2.2.2.2.2.2.2.1 bt532.2.2.2.2.2.2.2.2.2.2.2.2.2.1 bt532.2.2.2.2.2.2.2.2.2.2.2.2.2.2.1 bt532.2.2.2.2.2.2.2.2.2.2.2.2.2.2.2).bind fun t568 => (if t568 = true then (some true) else (some false))))))) = some true := H
  have A8 := am_ A80
  clear A80
  replace H := Option.bind_eq_some_iff.mp H
  obtain ⟨⟨t494, t497, t500, t503, t506, t509, t510, t511, t512, t515, t518, t521, t522, t525, t528, t529⟩, A90, H⟩ := H
  replace H : ((impl_MachineOK.f k t494 t497 t500 t503 t506 t509 t510 t511 t512 t515 t518 t521 t522 t525 t528 t529).bind fun t531 => (if (t531 != t493) = true then (some false) else ((laws_toMachine.f k l0_0 l0_1 l0_2 l0_3 l0_4 a0_5 a0_6 a0_7 l0_8 l0_9 l0_10 a0_11 l0_12 l0_13 a0_14 a0_15).bind fun bt532 => ((laws_eqMachine.f k t494 t497 t500 t503 t506 t509 t510 t511 t512 t515 t518 t521 t522 t525 t528 t529 bt532.1 bt532.2.1 bt532.2.2.1 bt532.2.2.2.1 bt532.2.2.2.2.1 bt532.2.2.2.2.2.1 bt532.2.2.2.2.2.2.1 bt532.2.2.2.2.2.2.2.1 bt532.2.2.2.2.2.2.2.2.1 bt532.2.2.2.2.2.2.2.2.2.1 bt532.2.2.2.2.2.2.2.2.2.2.1 bt532.2.2.2.2.2.2.2.2.2.2.2.1 bt532.2.2.2.2.2.2.2.2.2.2.2.2.1 bt532.2.2.2.2.2.2.2.2.2.2.2.2.2.1 bt532.2.2.2.2.2.2.2.2.2.2.2.2.2.2.1 bt532.2.2.2.2.2.2.2.2.2.2.2.2.2.2.2).bind fun t568 => (if t568 = true then (some true) else (some false)))))) = some true := H
  have A9 := am_ A90
  clear A90
  replace H := Option.bind_eq_some_iff.mp H
  obtain ⟨t531, A100, H⟩ := H
  replace H : (if (t531 != t493) = true then (some false) else ((laws_toMachine.f k l0_0 l0_1 l0_2 l0_3 l0_4 a0_5 a0_6 a0_7 l0_8 l0_9 l0_10 a0_11 l0_12 l0_13 a0_14 a0_15).bind fun bt532 => ((laws_eqMachine.f k t494 t497 t500 t503 t506 t509 t510 t511 t512 t515 t518 t521 t522 t525 t528 t529 bt532.1 bt532.2.1 bt532.2.2.1 bt532.2.2.2.1 bt532.2.2.2.2.1 bt532.2.2.2.2.2.1 bt532.2.2.2.2.2.2.1 bt532.2.2.2.2.2.2.2.1 bt532.2.2.2.2.2.2.2.2.1 bt532.2.2.2.2.2.2.2.2.2.1 bt532.2.2.2.2.2.2.2.2.2.2.1 bt532.2.2.2.2.2.2.2.2.2.2.2.1 bt532.2.2.2.2.2.2.2.2.2.2.2.2.1 bt532.2.2.2.2.2.2.2.2.2.2.2.2.2.1 bt532.2.2.2.2.2.2.2.2.2.2.2.2.2.2.1 bt532.2.2.2.2.2.2.2.2.2.2.2.2.2.2.2).bind fun t568 => (if t568 = true then (some true) else (some false))))) = some true := H
  have A10 := am_ A100
  clear A100
  by_cases c11 : (t531 != t493) = true
  ·rw [if_pos c11] at H
   have c11b0 : (t531 != t493) = true := c11
   (try (have c11b1 : decide (t531 = t493) = false := by simpa using c11))
   (try (have c11b2 : (t531 == t493) = false := by simpa using c11))
   (try (have c11b3 : ¬ (t531 = t493) := by simpa using c11))
   clear c11
   exact absurd (Option.some.inj H) (by decide)
  ·rw [if_neg c11] at H
   have c11b0 : (t531 != t493) = false := by simpa using c11
   (try (have c11b1 : decide (t531 = t493) = true := by simpa using c11))
   (try (have c11b2 : (t531 == t493) = true := by simpa using c11))
   clear c11
   replace H := Option.bind_eq_some_iff.mp H
   obtain ⟨⟨t532, t535, t538, t541, t544, t547, t548, t549, t550, t553, t556, t559, t560, t563, t566, t567⟩, A120, H⟩ := H
   replace H : ((laws_eqMachine.f k t494 t497 t500 t503 t506 t509 t510 t511 t512 t515 t518 t521 t522 t525 t528 t529 t532 t535 t538 t541 t544 t547 t548 t549 t550 t553 t556 t559 t560 t563 t566 t567).bind fun t568 => (if t568 = true then (some true) else (some false))) = some true := H
   have A12 := am_ A120
   clear A120
   replace H := Option.bind_eq_some_iff.mp H
   obtain ⟨t568, A130, H⟩ := H
   replace H : (if t568 = true then (some true) else (some false)) = some true := H
   have A13 := am_ A130
   clear A130
   by_cases c14 : t568 = true
   ·subst c14
    have H1 : (some true) = some true := by rw [if_pos rfl] at H; first | done | exact H
    clear H
    have H := H1
    clear H1
    clear H
    go_enter Tryz.func3, Tryz.ntmps3
    have hi42 : (Tryz.prog.info? 42).map (·.size) = some 16 := by kernel_rfl
    have hi32 : (Tryz.prog.info? 32).map (·.size) = some 16 := by kernel_rfl
    try go_wp2_with (first | ((with_reducible refine gate_dst (N := 7) rfl ?_); refine wpList_load_row rfl 32 (.tmp 1) rfl gb455 rfl 32 #[.slice A0_0 l0_0.length c0_0, .slice A0_1 l0_1.length c0_1, .slice A0_2 l0_2.length c0_2, .slice A0_3 l0_3.length c0_3, .slice A0_4 l0_4.length c0_4, .int .i64 a0_5, .int .i64 a0_6, .string a0_7, .slice A0_8 l0_8.length c0_8, .slice A0_9 l0_9.length c0_9, .slice A0_10 l0_10.length c0_10, .int .i64 a0_11, .slice A0_12 l0_12.length c0_12, .slice A0_13 l0_13.length c0_13, .int .i64 a0_14, .int .i64 a0_15] (0, 0) _ (ybu_ BK455) hu32 rfl hi32 ?_) | ((with_reducible refine gate_dst (N := 12) rfl ?_); refine wpList_load_row rfl 32 (.tmp 1) rfl gb455 rfl 32 #[.slice A0_0 l0_0.length c0_0, .slice A0_1 l0_1.length c0_1, .slice A0_2 l0_2.length c0_2, .slice A0_3 l0_3.length c0_3, .slice A0_4 l0_4.length c0_4, .int .i64 a0_5, .int .i64 a0_6, .string a0_7, .slice A0_8 l0_8.length c0_8, .slice A0_9 l0_9.length c0_9, .slice A0_10 l0_10.length c0_10, .int .i64 a0_11, .slice A0_12 l0_12.length c0_12, .slice A0_13 l0_13.length c0_13, .int .i64 a0_14, .int .i64 a0_15] (0, 0) _ (ybu_ BK455) hu32 rfl hi32 ?_) | ((with_reducible refine gate_dst (N := 15) rfl ?_); refine wpList_load_row rfl 32 (.tmp 1) rfl gb455 rfl 32 #[.slice A0_0 l0_0.length c0_0, .slice A0_1 l0_1.length c0_1, .slice A0_2 l0_2.length c0_2, .slice A0_3 l0_3.length c0_3, .slice A0_4 l0_4.length c0_4, .int .i64 a0_5, .int .i64 a0_6, .string a0_7, .slice A0_8 l0_8.length c0_8, .slice A0_9 l0_9.length c0_9, .slice A0_10 l0_10.length c0_10, .int .i64 a0_11, .slice A0_12 l0_12.length c0_12, .slice A0_13 l0_13.length c0_13, .int .i64 a0_14, .int .i64 a0_15] (0, 0) _ (ybu_ BK455) hu32 rfl hi32 ?_) | ((with_reducible refine gate_dst (N := 17) rfl ?_); refine wpList_load_row rfl 42 (.tmp 5) rfl gb530 rfl 42 #[.slice Ao34 t494.length co34, .slice Ao37 t497.length co37, .slice Ao38 t500.length co38, .slice Ao39 t503.length co39, .slice Ao40 t506.length co40, .int .i64 t509, .int .i64 t510, .string t511, .slice Ao41 t512.length co41, .slice Ao42 t515.length co42, .slice Ao43 t518.length co43, .int .i64 t521, .slice Ao44 t522.length co44, .slice Ao45 t525.length co45, .int .i64 t528, .int .i64 t529] (0, 0) _ (by (with_reducible repeat (first | refine blk_drewN ?_ _ | refine blk_drew ?_ | refine blk_alloc ?_ _)); exact yp2_ BK530) hu42 rfl hi42 ?_) | ((with_reducible refine gate_dst (N := 1) rfl ?_); refine box_event ?hg (N := 1) ?hd (cs := #[.slice A0_0 l0_0.length c0_0, .slice A0_1 l0_1.length c0_1, .slice A0_2 l0_2.length c0_2, .slice A0_3 l0_3.length c0_3, .slice A0_4 l0_4.length c0_4, .int .i64 a0_5, .int .i64 a0_6, .string a0_7, .slice A0_8 l0_8.length c0_8, .slice A0_9 l0_9.length c0_9, .slice A0_10 l0_10.length c0_10, .int .i64 a0_11, .slice A0_12 l0_12.length c0_12, .slice A0_13 l0_13.length c0_13, .int .i64 a0_14, .int .i64 a0_15]) (t := 32) ?hr ?_; (case hd => rfl); (case hg => rfl); (case hr => first | (go_simp; done) | (go_simp; rfl)); intro gb455 hg w15 hbox hb; have BK455 := am_ (hbox); have GW455 := am_ ((ybsz_ hg : w.heap.size ≤ gb455)); have GE455 := GW455; replace HB := yst_ hb; clear hb hbox hg; have hcz16 := ye16_ BK455; have hfz16 := yf16_ BK455) | ((with_reducible refine gate_callee (f := 5) rfl ?_); refine goesL_ (some 9) rfl rfl Tryz.func5 (by kernel_rfl) rfl #[.agg #[.slice A0_0 l0_0.length c0_0, .slice A0_1 l0_1.length c0_1, .slice A0_2 l0_2.length c0_2, .slice A0_3 l0_3.length c0_3, .slice A0_4 l0_4.length c0_4, .int .i64 a0_5, .int .i64 a0_6, .string a0_7, .slice A0_8 l0_8.length c0_8, .slice A0_9 l0_9.length c0_9, .slice A0_10 l0_10.length c0_10, .int .i64 a0_11, .slice A0_12 l0_12.length c0_12, .slice A0_13 l0_13.length c0_13, .int .i64 a0_14, .int .i64 a0_15], .int .i64 1048576] rfl yk1_ ?_; (with_reducible refine (laws_szMachine.calls k _ _ l0_0 _ _ l0_1 _ _ l0_2 _ _ l0_3 _ _ l0_4 a0_5 a0_6 a0_7 _ _ l0_8 _ _ l0_9 _ _ l0_10 a0_11 _ _ l0_12 _ _ l0_13 a0_14 a0_15 1048576 t456 _ ?side1 HC0_0.out ?side3 HC0_1.out ?side5 HC0_2.out ?side7 HC0_3.out ?side9 HC0_4.out ?side11 HC0_8.out ?side13 HC0_9.out ?side15 HC0_10.out ?side17 HC0_12.out ?side19 HC0_13.out A2.out).mono ?_); (case side1 => exact ycb_ HR0_0 HB); (case side3 => exact ycb_ HR0_1 HB); (case side5 => exact ycb_ HR0_2 HB); (case side7 => exact ycb_ HR0_3 HB); (case side9 => exact ycb_ HR0_4 HB); (case side11 => exact ycb_ HR0_8 HB); (case side13 => exact ycb_ HR0_9 HB); (case side15 => exact ycb_ HR0_10 HB); (case side17 => exact ycb_ HR0_12 HB); (case side19 => exact ycb_ HR0_13 HB); rintro e w17 ⟨rfl, hb⟩; refine ⟨_, rfl, ?_⟩; replace BK455 := am_ (ybb_ BK455 hb); replace HB := yst_ hb; (try clear hb); (try clear hb2); (try clear hk); (try clear hi); have hcz18 := ye16_ BK455; have hfz18 := yf16_ BK455) | ((with_reducible refine gate_callee (f := 7) rfl ?_); refine goesL_ (some 13) rfl rfl Tryz.func7 (by kernel_rfl) rfl #[.agg #[.slice A0_0 l0_0.length c0_0, .slice A0_1 l0_1.length c0_1, .slice A0_2 l0_2.length c0_2, .slice A0_3 l0_3.length c0_3, .slice A0_4 l0_4.length c0_4, .int .i64 a0_5, .int .i64 a0_6, .string a0_7, .slice A0_8 l0_8.length c0_8, .slice A0_9 l0_9.length c0_9, .slice A0_10 l0_10.length c0_10, .int .i64 a0_11, .slice A0_12 l0_12.length c0_12, .slice A0_13 l0_13.length c0_13, .int .i64 a0_14, .int .i64 a0_15]] rfl yk1_ ?_; (with_reducible refine (laws_toMachine.calls k _ _ l0_0 _ _ l0_1 _ _ l0_2 _ _ l0_3 _ _ l0_4 a0_5 a0_6 a0_7 _ _ l0_8 _ _ l0_9 _ _ l0_10 a0_11 _ _ l0_12 _ _ l0_13 a0_14 a0_15 t457 t460 t463 t466 t469 t472 t473 t474 t475 t478 t481 t484 t485 t488 t491 t492 _ ?side1 HC0_0.out ?side3 HC0_1.out ?side5 HC0_2.out ?side7 HC0_3.out ?side9 HC0_4.out ?side11 HC0_8.out ?side13 HC0_9.out ?side15 HC0_10.out ?side17 HC0_12.out ?side19 HC0_13.out A7.out).mono ?_); (case side1 => exact ycb_ HR0_0 HB); (case side3 => exact ycb_ HR0_1 HB); (case side5 => exact ycb_ HR0_2 HB); (case side7 => exact ycb_ HR0_3 HB); (case side9 => exact ycb_ HR0_4 HB); (case side11 => exact ycb_ HR0_8 HB); (case side13 => exact ycb_ HR0_9 HB); (case side15 => exact ycb_ HR0_10 HB); (case side17 => exact ycb_ HR0_12 HB); (case side19 => exact ycb_ HR0_13 HB); rintro e w19 ⟨v458, v461, v464, v467, v470, v476, v479, v482, v486, v489, rfl, ho0, ho1, ho2, ho3, ho4, ho5, ho6, ho7, ho8, ho9, hb⟩; refine ⟨_, rfl, ?_⟩; have HO459 := am_ (Kd.R_lower ho0 (below_size ybl_)); have HO462 := am_ (Kd.R_lower ho1 (below_size ybl_)); have HO465 := am_ (Kd.R_lower ho2 (below_size ybl_)); have HO468 := am_ (Kd.R_lower ho3 (below_size ybl_)); have HO471 := am_ (Kd.R_lower ho4 (below_size ybl_)); have HO477 := am_ (Kd.R_lower ho5 (below_size ybl_)); have HO480 := am_ (Kd.R_lower ho6 (below_size ybl_)); have HO483 := am_ (Kd.R_lower ho7 (below_size ybl_)); have HO487 := am_ (Kd.R_lower ho8 (below_size ybl_)); have HO490 := am_ (Kd.R_lower ho9 (below_size ybl_)); replace BK455 := am_ (ybb_ BK455 hb); replace HB := yst_ hb; (try clear hb); (try clear hb2); (try clear hk); (try clear hi); (try clear ho0); (try clear ho1); (try clear ho2); (try clear ho3); (try clear ho4); (try clear ho5); (try clear ho6); (try clear ho7); (try clear ho8); (try clear ho9); obtain ⟨Ao20, co20, eo20⟩ := Kd.R_slice HO459.out; subst eo20; obtain ⟨Ao21, co21, eo21⟩ := Kd.R_slice HO462.out; subst eo21; obtain ⟨Ao22, co22, eo22⟩ := Kd.R_slice HO465.out; subst eo22; obtain ⟨Ao23, co23, eo23⟩ := Kd.R_slice HO468.out; subst eo23; obtain ⟨Ao24, co24, eo24⟩ := Kd.R_slice HO471.out; subst eo24; obtain ⟨Ao25, co25, eo25⟩ := Kd.R_slice HO477.out; subst eo25; obtain ⟨Ao26, co26, eo26⟩ := Kd.R_slice HO480.out; subst eo26; obtain ⟨Ao27, co27, eo27⟩ := Kd.R_slice HO483.out; subst eo27; obtain ⟨Ao28, co28, eo28⟩ := Kd.R_slice HO487.out; subst eo28; obtain ⟨Ao29, co29, eo29⟩ := Kd.R_slice HO490.out; subst eo29) | ((with_reducible refine gate_callee (f := 6) rfl ?_); refine goesL_ (some 14) rfl rfl Tryz.func6 (by kernel_rfl) rfl #[.agg #[.slice Ao20 t457.length co20, .slice Ao21 t460.length co21, .slice Ao22 t463.length co22, .slice Ao23 t466.length co23, .slice Ao24 t469.length co24, .int .i64 t472, .int .i64 t473, .string t474, .slice Ao25 t475.length co25, .slice Ao26 t478.length co26, .slice Ao27 t481.length co27, .int .i64 t484, .slice Ao28 t485.length co28, .slice Ao29 t488.length co29, .int .i64 t491, .int .i64 t492]] rfl yk1_ ?_; (with_reducible refine (spec_MachineOK.calls k _ _ t457 _ _ t460 _ _ t463 _ _ t466 _ _ t469 t472 t473 t474 _ _ t475 _ _ t478 _ _ t481 t484 _ _ t485 _ _ t488 t491 t492 t493 _ ?side1 (Kd.R_reads' HO459.out).2.1 ?side3 (Kd.R_reads' HO462.out).2.1 ?side5 (Kd.R_reads' HO465.out).2.1 ?side7 (Kd.R_reads' HO468.out).2.1 ?side9 (Kd.R_reads' HO471.out).2.1 ?side11 (Kd.R_reads' HO477.out).2.1 ?side13 (Kd.R_reads' HO480.out).2.1 ?side15 (Kd.R_reads' HO483.out).2.1 ?side17 (Kd.R_reads' HO487.out).2.1 ?side19 (Kd.R_reads' HO490.out).2.1 A8.out).mono ?_); (case side1 => repeat (first | exact (Kd.R_reads' HO459.out).2.2 | (with_reducible refine Kd.C_alloc ?_ _) | (with_reducible refine Kd.C_drewN ?_ _) | (with_reducible refine Kd.C_drew ?_))); (case side3 => repeat (first | exact (Kd.R_reads' HO462.out).2.2 | (with_reducible refine Kd.C_alloc ?_ _) | (with_reducible refine Kd.C_drewN ?_ _) | (with_reducible refine Kd.C_drew ?_))); (case side5 => repeat (first | exact (Kd.R_reads' HO465.out).2.2 | (with_reducible refine Kd.C_alloc ?_ _) | (with_reducible refine Kd.C_drewN ?_ _) | (with_reducible refine Kd.C_drew ?_))); (case side7 => repeat (first | exact (Kd.R_reads' HO468.out).2.2 | (with_reducible refine Kd.C_alloc ?_ _) | (with_reducible refine Kd.C_drewN ?_ _) | (with_reducible refine Kd.C_drew ?_))); (case side9 => repeat (first | exact (Kd.R_reads' HO471.out).2.2 | (with_reducible refine Kd.C_alloc ?_ _) | (with_reducible refine Kd.C_drewN ?_ _) | (with_reducible refine Kd.C_drew ?_))); (case side11 => repeat (first | exact (Kd.R_reads' HO477.out).2.2 | (with_reducible refine Kd.C_alloc ?_ _) | (with_reducible refine Kd.C_drewN ?_ _) | (with_reducible refine Kd.C_drew ?_))); (case side13 => repeat (first | exact (Kd.R_reads' HO480.out).2.2 | (with_reducible refine Kd.C_alloc ?_ _) | (with_reducible refine Kd.C_drewN ?_ _) | (with_reducible refine Kd.C_drew ?_))); (case side15 => repeat (first | exact (Kd.R_reads' HO483.out).2.2 | (with_reducible refine Kd.C_alloc ?_ _) | (with_reducible refine Kd.C_drewN ?_ _) | (with_reducible refine Kd.C_drew ?_))); (case side17 => repeat (first | exact (Kd.R_reads' HO487.out).2.2 | (with_reducible refine Kd.C_alloc ?_ _) | (with_reducible refine Kd.C_drewN ?_ _) | (with_reducible refine Kd.C_drew ?_))); (case side19 => repeat (first | exact (Kd.R_reads' HO490.out).2.2 | (with_reducible refine Kd.C_alloc ?_ _) | (with_reducible refine Kd.C_drewN ?_ _) | (with_reducible refine Kd.C_drew ?_))); rintro e w30 ⟨rfl, hb⟩; refine ⟨_, rfl, ?_⟩; replace HO459 := am_ (Kd.R_below (yru_ HO459) hb); replace HO462 := am_ (Kd.R_below (yru_ HO462) hb); replace HO465 := am_ (Kd.R_below (yru_ HO465) hb); replace HO468 := am_ (Kd.R_below (yru_ HO468) hb); replace HO471 := am_ (Kd.R_below (yru_ HO471) hb); replace HO477 := am_ (Kd.R_below (yru_ HO477) hb); replace HO480 := am_ (Kd.R_below (yru_ HO480) hb); replace HO483 := am_ (Kd.R_below (yru_ HO483) hb); replace HO487 := am_ (Kd.R_below (yru_ HO487) hb); replace HO490 := am_ (Kd.R_below (yru_ HO490) hb); replace BK455 := am_ (ybb_ BK455 hb); replace HB := yst_ hb; (try clear hb); (try clear hb2); (try clear hk); (try clear hi); have hcz31 := ye16_ BK455; have hfz31 := yf16_ BK455; clear HO459; clear HO462; clear HO465; clear HO468; clear HO471; clear HO477; clear HO480; clear HO483; clear HO487; clear HO490) | ((with_reducible refine gate_callee (f := 7) rfl ?_); refine goesL_ (some 16) rfl rfl Tryz.func7 (by kernel_rfl) rfl #[.agg #[.slice A0_0 l0_0.length c0_0, .slice A0_1 l0_1.length c0_1, .slice A0_2 l0_2.length c0_2, .slice A0_3 l0_3.length c0_3, .slice A0_4 l0_4.length c0_4, .int .i64 a0_5, .int .i64 a0_6, .string a0_7, .slice A0_8 l0_8.length c0_8, .slice A0_9 l0_9.length c0_9, .slice A0_10 l0_10.length c0_10, .int .i64 a0_11, .slice A0_12 l0_12.length c0_12, .slice A0_13 l0_13.length c0_13, .int .i64 a0_14, .int .i64 a0_15]] rfl yk1_ ?_; (with_reducible refine (laws_toMachine.calls k _ _ l0_0 _ _ l0_1 _ _ l0_2 _ _ l0_3 _ _ l0_4 a0_5 a0_6 a0_7 _ _ l0_8 _ _ l0_9 _ _ l0_10 a0_11 _ _ l0_12 _ _ l0_13 a0_14 a0_15 t494 t497 t500 t503 t506 t509 t510 t511 t512 t515 t518 t521 t522 t525 t528 t529 _ ?side1 HC0_0.out ?side3 HC0_1.out ?side5 HC0_2.out ?side7 HC0_3.out ?side9 HC0_4.out ?side11 HC0_8.out ?side13 HC0_9.out ?side15 HC0_10.out ?side17 HC0_12.out ?side19 HC0_13.out A9.out).mono ?_); (case side1 => exact ycb_ HR0_0 HB); (case side3 => exact ycb_ HR0_1 HB); (case side5 => exact ycb_ HR0_2 HB); (case side7 => exact ycb_ HR0_3 HB); (case side9 => exact ycb_ HR0_4 HB); (case side11 => exact ycb_ HR0_8 HB); (case side13 => exact ycb_ HR0_9 HB); (case side15 => exact ycb_ HR0_10 HB); (case side17 => exact ycb_ HR0_12 HB); (case side19 => exact ycb_ HR0_13 HB); rintro e w32 ⟨v495, v498, v501, v504, v507, v513, v516, v519, v523, v526, rfl, ho0, ho1, ho2, ho3, ho4, ho5, ho6, ho7, ho8, ho9, hb⟩; refine ⟨_, rfl, ?_⟩; have HO496 := am_ (Kd.R_lower ho0 (below_size ybl_)); have HO499 := am_ (Kd.R_lower ho1 (below_size ybl_)); have HO502 := am_ (Kd.R_lower ho2 (below_size ybl_)); have HO505 := am_ (Kd.R_lower ho3 (below_size ybl_)); have HO508 := am_ (Kd.R_lower ho4 (below_size ybl_)); have HO514 := am_ (Kd.R_lower ho5 (below_size ybl_)); have HO517 := am_ (Kd.R_lower ho6 (below_size ybl_)); have HO520 := am_ (Kd.R_lower ho7 (below_size ybl_)); have HO524 := am_ (Kd.R_lower ho8 (below_size ybl_)); have HO527 := am_ (Kd.R_lower ho9 (below_size ybl_)); replace BK455 := am_ (ybb_ BK455 hb); replace HB := yst_ hb; (try clear hb); (try clear hb2); (try clear hk); (try clear hi); (try clear ho0); (try clear ho1); (try clear ho2); (try clear ho3); (try clear ho4); (try clear ho5); (try clear ho6); (try clear ho7); (try clear ho8); (try clear ho9)) | ((with_reducible refine gate_dst (N := 5) rfl ?_); refine box_event ?hg (N := 5) ?hd (cs := #[.slice none 0 0, .slice none 0 0, .slice none 0 0, .slice none 0 0, .slice none 0 0, .int .i64 0, .int .i64 0, .string (⟨#[]⟩ : ByteArray), .slice none 0 0, .slice none 0 0, .slice none 0 0, .int .i64 0, .slice none 0 0, .slice none 0 0, .int .i64 0, .int .i64 0]) (t := 42) ?hr ?_; (case hd => rfl); (case hg => rfl); (case hr => first | (go_simp; done) | (go_simp; rfl)); intro gb530 hg w33 hbox hb; replace HO496 := am_ (Kd.R_below (yru_ HO496) hb); replace HO499 := am_ (Kd.R_below (yru_ HO499) hb); replace HO502 := am_ (Kd.R_below (yru_ HO502) hb); replace HO505 := am_ (Kd.R_below (yru_ HO505) hb); replace HO508 := am_ (Kd.R_below (yru_ HO508) hb); replace HO514 := am_ (Kd.R_below (yru_ HO514) hb); replace HO517 := am_ (Kd.R_below (yru_ HO517) hb); replace HO520 := am_ (Kd.R_below (yru_ HO520) hb); replace HO524 := am_ (Kd.R_below (yru_ HO524) hb); replace HO527 := am_ (Kd.R_below (yru_ HO527) hb); have BK530 := am_ (hbox); have GW530 := am_ ((ybsz_ hg : w.heap.size ≤ gb530)); have GE530 := GW530; replace HB := yst_ hb; have NB455_530 := am_ (ybne_ hg BK455); have NB530_455 := am_ ((ybne_ hg BK455).symm); replace BK455 := am_ (ybb_ BK455 hb); clear hb hbox hg; obtain ⟨Ao34, co34, eo34⟩ := Kd.R_slice HO496.out; subst eo34; have hnb35 := NB530_455.out; have hnc35 := NB455_530.out; have hcz36 := ye16_ BK530; have hfz36 := yf16_ BK530; obtain ⟨Ao37, co37, eo37⟩ := Kd.R_slice HO499.out; subst eo37; obtain ⟨Ao38, co38, eo38⟩ := Kd.R_slice HO502.out; subst eo38; obtain ⟨Ao39, co39, eo39⟩ := Kd.R_slice HO505.out; subst eo39; obtain ⟨Ao40, co40, eo40⟩ := Kd.R_slice HO508.out; subst eo40; obtain ⟨Ao41, co41, eo41⟩ := Kd.R_slice HO514.out; subst eo41; obtain ⟨Ao42, co42, eo42⟩ := Kd.R_slice HO517.out; subst eo42; obtain ⟨Ao43, co43, eo43⟩ := Kd.R_slice HO520.out; subst eo43; obtain ⟨Ao44, co44, eo44⟩ := Kd.R_slice HO524.out; subst eo44; obtain ⟨Ao45, co45, eo45⟩ := Kd.R_slice HO527.out; subst eo45) | ((with_reducible refine gate_callee (f := 8) rfl ?_); refine goesL_ (some 18) rfl rfl Tryz.func8 (by kernel_rfl) rfl #[.agg #[.slice Ao34 t494.length co34, .slice Ao37 t497.length co37, .slice Ao38 t500.length co38, .slice Ao39 t503.length co39, .slice Ao40 t506.length co40, .int .i64 t509, .int .i64 t510, .string t511, .slice Ao41 t512.length co41, .slice Ao42 t515.length co42, .slice Ao43 t518.length co43, .int .i64 t521, .slice Ao44 t522.length co44, .slice Ao45 t525.length co45, .int .i64 t528, .int .i64 t529]] rfl yk1_ ?_; (with_reducible refine (impl_MachineOK.calls k _ _ t494 _ _ t497 _ _ t500 _ _ t503 _ _ t506 t509 t510 t511 _ _ t512 _ _ t515 _ _ t518 t521 _ _ t522 _ _ t525 t528 t529 t531 _ ?side1 (Kd.R_reads' HO496.out).2.1 ?side3 (Kd.R_reads' HO499.out).2.1 ?side5 (Kd.R_reads' HO502.out).2.1 ?side7 (Kd.R_reads' HO505.out).2.1 ?side9 (Kd.R_reads' HO508.out).2.1 ?side11 (Kd.R_reads' HO514.out).2.1 ?side13 (Kd.R_reads' HO517.out).2.1 ?side15 (Kd.R_reads' HO520.out).2.1 ?side17 (Kd.R_reads' HO524.out).2.1 ?side19 (Kd.R_reads' HO527.out).2.1 A10.out).mono ?_); (case side1 => refine (Kd.R_reads' (e := 75) (base := w.heap.size) (ok := fun k_ => True) (n := t494.length) (c := co34) ?_).2.2; exact (by (with_reducible repeat (first | apply Kd.R_alloc | apply Kd.R_drewN | apply Kd.R_drew)); exact (yrs16_ HO496 BK530))); (case side3 => refine (Kd.R_reads' (e := 3) (base := w.heap.size) (ok := fun k_ => (some k_ ≠ (.slice Ao38 t500.length co38 : Value).ownBlock ∧ (some k_ ≠ (.slice Ao39 t503.length co39 : Value).ownBlock ∧ (some k_ ≠ (.slice Ao40 t506.length co40 : Value).ownBlock ∧ (some k_ ≠ (.slice Ao42 t515.length co42 : Value).ownBlock ∧ some k_ ≠ (.slice Ao43 t518.length co43 : Value).ownBlock))))) (n := t497.length) (c := co37) ?_).2.2; exact (by (with_reducible repeat (first | apply Kd.R_alloc | apply Kd.R_drewN | apply Kd.R_drew)); exact (yrs16_ HO499 BK530))); (case side5 => refine (Kd.R_reads' (e := 3) (base := w.heap.size) (ok := fun k_ => (some k_ ≠ (.slice Ao37 t497.length co37 : Value).ownBlock ∧ (some k_ ≠ (.slice Ao39 t503.length co39 : Value).ownBlock ∧ (some k_ ≠ (.slice Ao40 t506.length co40 : Value).ownBlock ∧ (some k_ ≠ (.slice Ao42 t515.length co42 : Value).ownBlock ∧ some k_ ≠ (.slice Ao43 t518.length co43 : Value).ownBlock))))) (n := t500.length) (c := co38) ?_).2.2; exact (by (with_reducible repeat (first | apply Kd.R_alloc | apply Kd.R_drewN | apply Kd.R_drew)); exact (yrs16_ HO502 BK530))); (case side7 => refine (Kd.R_reads' (e := 3) (base := w.heap.size) (ok := fun k_ => (some k_ ≠ (.slice Ao37 t497.length co37 : Value).ownBlock ∧ (some k_ ≠ (.slice Ao38 t500.length co38 : Value).ownBlock ∧ (some k_ ≠ (.slice Ao40 t506.length co40 : Value).ownBlock ∧ (some k_ ≠ (.slice Ao42 t515.length co42 : Value).ownBlock ∧ some k_ ≠ (.slice Ao43 t518.length co43 : Value).ownBlock))))) (n := t503.length) (c := co39) ?_).2.2; exact (by (with_reducible repeat (first | apply Kd.R_alloc | apply Kd.R_drewN | apply Kd.R_drew)); exact (yrs16_ HO505 BK530))); (case side9 => refine (Kd.R_reads' (e := 3) (base := w.heap.size) (ok := fun k_ => (some k_ ≠ (.slice Ao37 t497.length co37 : Value).ownBlock ∧ (some k_ ≠ (.slice Ao38 t500.length co38 : Value).ownBlock ∧ (some k_ ≠ (.slice Ao39 t503.length co39 : Value).ownBlock ∧ (some k_ ≠ (.slice Ao42 t515.length co42 : Value).ownBlock ∧ some k_ ≠ (.slice Ao43 t518.length co43 : Value).ownBlock))))) (n := t506.length) (c := co40) ?_).2.2; exact (by (with_reducible repeat (first | apply Kd.R_alloc | apply Kd.R_drewN | apply Kd.R_drew)); exact (yrs16_ HO508 BK530))); (case side11 => refine (Kd.R_reads' (e := 4) (base := w.heap.size) (ok := fun k_ => True) (n := t512.length) (c := co41) ?_).2.2; exact (by (with_reducible repeat (first | apply Kd.R_alloc | apply Kd.R_drewN | apply Kd.R_drew)); exact (yrs16_ HO514 BK530))); (case side13 => refine (Kd.R_reads' (e := 3) (base := w.heap.size) (ok := fun k_ => (some k_ ≠ (.slice Ao37 t497.length co37 : Value).ownBlock ∧ (some k_ ≠ (.slice Ao38 t500.length co38 : Value).ownBlock ∧ (some k_ ≠ (.slice Ao39 t503.length co39 : Value).ownBlock ∧ (some k_ ≠ (.slice Ao40 t506.length co40 : Value).ownBlock ∧ some k_ ≠ (.slice Ao43 t518.length co43 : Value).ownBlock))))) (n := t515.length) (c := co42) ?_).2.2; exact (by (with_reducible repeat (first | apply Kd.R_alloc | apply Kd.R_drewN | apply Kd.R_drew)); exact (yrs16_ HO517 BK530))); (case side15 => refine (Kd.R_reads' (e := 3) (base := w.heap.size) (ok := fun k_ => (some k_ ≠ (.slice Ao37 t497.length co37 : Value).ownBlock ∧ (some k_ ≠ (.slice Ao38 t500.length co38 : Value).ownBlock ∧ (some k_ ≠ (.slice Ao39 t503.length co39 : Value).ownBlock ∧ (some k_ ≠ (.slice Ao40 t506.length co40 : Value).ownBlock ∧ some k_ ≠ (.slice Ao42 t515.length co42 : Value).ownBlock))))) (n := t518.length) (c := co43) ?_).2.2; exact (by (with_reducible repeat (first | apply Kd.R_alloc | apply Kd.R_drewN | apply Kd.R_drew)); exact (yrs16_ HO520 BK530))); (case side17 => refine (Kd.R_reads' (e := 88) (base := w.heap.size) (ok := fun k_ => True) (n := t522.length) (c := co44) ?_).2.2; exact (by (with_reducible repeat (first | apply Kd.R_alloc | apply Kd.R_drewN | apply Kd.R_drew)); exact (yrs16_ HO524 BK530))); (case side19 => refine (Kd.R_reads' (e := 63) (base := w.heap.size) (ok := fun k_ => True) (n := t525.length) (c := co45) ?_).2.2; exact (by (with_reducible repeat (first | apply Kd.R_alloc | apply Kd.R_drewN | apply Kd.R_drew)); exact (yrs16_ HO527 BK530))); rintro e w46 ⟨rfl, hb⟩; refine ⟨_, rfl, ?_⟩; replace HO496 := am_ (Kd.R_below (by (with_reducible repeat (first | apply Kd.R_alloc | apply Kd.R_drewN | apply Kd.R_drew)); exact (yrs16_ HO496 BK530)) hb); replace HO499 := am_ (Kd.R_below (by (with_reducible repeat (first | apply Kd.R_alloc | apply Kd.R_drewN | apply Kd.R_drew)); exact (yrs16_ HO499 BK530)) hb); replace HO502 := am_ (Kd.R_below (by (with_reducible repeat (first | apply Kd.R_alloc | apply Kd.R_drewN | apply Kd.R_drew)); exact (yrs16_ HO502 BK530)) hb); replace HO505 := am_ (Kd.R_below (by (with_reducible repeat (first | apply Kd.R_alloc | apply Kd.R_drewN | apply Kd.R_drew)); exact (yrs16_ HO505 BK530)) hb); replace HO508 := am_ (Kd.R_below (by (with_reducible repeat (first | apply Kd.R_alloc | apply Kd.R_drewN | apply Kd.R_drew)); exact (yrs16_ HO508 BK530)) hb); replace HO514 := am_ (Kd.R_below (by (with_reducible repeat (first | apply Kd.R_alloc | apply Kd.R_drewN | apply Kd.R_drew)); exact (yrs16_ HO514 BK530)) hb); replace HO517 := am_ (Kd.R_below (by (with_reducible repeat (first | apply Kd.R_alloc | apply Kd.R_drewN | apply Kd.R_drew)); exact (yrs16_ HO517 BK530)) hb); replace HO520 := am_ (Kd.R_below (by (with_reducible repeat (first | apply Kd.R_alloc | apply Kd.R_drewN | apply Kd.R_drew)); exact (yrs16_ HO520 BK530)) hb); replace HO524 := am_ (Kd.R_below (by (with_reducible repeat (first | apply Kd.R_alloc | apply Kd.R_drewN | apply Kd.R_drew)); exact (yrs16_ HO524 BK530)) hb); replace HO527 := am_ (Kd.R_below (by (with_reducible repeat (first | apply Kd.R_alloc | apply Kd.R_drewN | apply Kd.R_drew)); exact (yrs16_ HO527 BK530)) hb); replace BK455 := am_ (blk_below (g := gb455) (o := .cells #[.slice A0_0 l0_0.length c0_0, .slice A0_1 l0_1.length c0_1, .slice A0_2 l0_2.length c0_2, .slice A0_3 l0_3.length c0_3, .slice A0_4 l0_4.length c0_4, .int .i64 a0_5, .int .i64 a0_6, .string a0_7, .slice A0_8 l0_8.length c0_8, .slice A0_9 l0_9.length c0_9, .slice A0_10 l0_10.length c0_10, .int .i64 a0_11, .slice A0_12 l0_12.length c0_12, .slice A0_13 l0_13.length c0_13, .int .i64 a0_14, .int .i64 a0_15] 32 (0, 0)) (by (with_reducible repeat (first | refine blk_drewN ?_ _ | refine blk_drew ?_ | refine blk_alloc ?_ _)); refine blk_far ?_ NB455_530.out _; (with_reducible repeat (first | refine blk_drewN ?_ _ | refine blk_drew ?_ | refine blk_alloc ?_ _)); refine blk_far ?_ NB455_530.out _; (with_reducible repeat (first | refine blk_drewN ?_ _ | refine blk_drew ?_ | refine blk_alloc ?_ _)); refine blk_far ?_ NB455_530.out _; (with_reducible repeat (first | refine blk_drewN ?_ _ | refine blk_drew ?_ | refine blk_alloc ?_ _)); refine blk_far ?_ NB455_530.out _; (with_reducible repeat (first | refine blk_drewN ?_ _ | refine blk_drew ?_ | refine blk_alloc ?_ _)); refine blk_far ?_ NB455_530.out _; (with_reducible repeat (first | refine blk_drewN ?_ _ | refine blk_drew ?_ | refine blk_alloc ?_ _)); refine blk_far ?_ NB455_530.out _; (with_reducible repeat (first | refine blk_drewN ?_ _ | refine blk_drew ?_ | refine blk_alloc ?_ _)); refine blk_far ?_ NB455_530.out _; (with_reducible repeat (first | refine blk_drewN ?_ _ | refine blk_drew ?_ | refine blk_alloc ?_ _)); refine blk_far ?_ NB455_530.out _; (with_reducible repeat (first | refine blk_drewN ?_ _ | refine blk_drew ?_ | refine blk_alloc ?_ _)); refine blk_far ?_ NB455_530.out _; (with_reducible repeat (first | refine blk_drewN ?_ _ | refine blk_drew ?_ | refine blk_alloc ?_ _)); refine blk_far ?_ NB455_530.out _; (with_reducible repeat (first | refine blk_drewN ?_ _ | refine blk_drew ?_ | refine blk_alloc ?_ _)); refine blk_far ?_ NB455_530.out _; (with_reducible repeat (first | refine blk_drewN ?_ _ | refine blk_drew ?_ | refine blk_alloc ?_ _)); refine blk_far ?_ NB455_530.out _; (with_reducible repeat (first | refine blk_drewN ?_ _ | refine blk_drew ?_ | refine blk_alloc ?_ _)); refine blk_far ?_ NB455_530.out _; (with_reducible repeat (first | refine blk_drewN ?_ _ | refine blk_drew ?_ | refine blk_alloc ?_ _)); refine blk_far ?_ NB455_530.out _; (with_reducible repeat (first | refine blk_drewN ?_ _ | refine blk_drew ?_ | refine blk_alloc ?_ _)); refine blk_far ?_ NB455_530.out _; (with_reducible repeat (first | refine blk_drewN ?_ _ | refine blk_drew ?_ | refine blk_alloc ?_ _)); refine blk_far ?_ NB455_530.out _; (with_reducible repeat (first | refine blk_drewN ?_ _ | refine blk_drew ?_ | refine blk_alloc ?_ _)); exact BK455.out) hb); replace BK530 := am_ (blk_below (g := gb530) (o := .cells #[.slice Ao34 t494.length co34, .slice Ao37 t497.length co37, .slice Ao38 t500.length co38, .slice Ao39 t503.length co39, .slice Ao40 t506.length co40, .int .i64 t509, .int .i64 t510, .string t511, .slice Ao41 t512.length co41, .slice Ao42 t515.length co42, .slice Ao43 t518.length co43, .int .i64 t521, .slice Ao44 t522.length co44, .slice Ao45 t525.length co45, .int .i64 t528, .int .i64 t529] 42 (0, 0)) (by (with_reducible repeat (first | refine blk_drewN ?_ _ | refine blk_drew ?_ | refine blk_alloc ?_ _)); exact yp2_ BK530) hb); replace HB := yst_ hb; (try clear hb); (try clear hb2); (try clear hk); (try clear hi)))
    replace HO496 := am_ (Kd.R_drew HO496.out)
    replace HO499 := am_ (Kd.R_drew HO499.out)
    replace HO502 := am_ (Kd.R_drew HO502.out)
    replace HO505 := am_ (Kd.R_drew HO505.out)
    replace HO508 := am_ (Kd.R_drew HO508.out)
    replace HO514 := am_ (Kd.R_drew HO514.out)
    replace HO517 := am_ (Kd.R_drew HO517.out)
    replace HO520 := am_ (Kd.R_drew HO520.out)
    replace HO524 := am_ (Kd.R_drew HO524.out)
    replace HO527 := am_ (Kd.R_drew HO527.out)
    replace BK455 := am_ (blk_drew BK455.out)
    replace BK530 := am_ (blk_drew BK530.out)
    replace HB := am_ (below_drew1 HB.out)
    refine start_ (n := 5) (S := fun w' => w'.cell? ⟨gb530, 0, none⟩ = some (.slice Ao34 t494.length co34) ∧ w'.cell? ⟨gb530, 1, none⟩ = some (.slice Ao37 t497.length co37) ∧ w'.cell? ⟨gb530, 2, none⟩ = some (.slice Ao38 t500.length co38) ∧ w'.cell? ⟨gb530, 3, none⟩ = some (.slice Ao39 t503.length co39) ∧ w'.cell? ⟨gb530, 4, none⟩ = some (.slice Ao40 t506.length co40) ∧ w'.cell? ⟨gb530, 5, none⟩ = some (.int .i64 t509) ∧ w'.cell? ⟨gb530, 6, none⟩ = some (.int .i64 t510) ∧ w'.cell? ⟨gb530, 7, none⟩ = some (.string t511) ∧ w'.cell? ⟨gb530, 8, none⟩ = some (.slice Ao41 t512.length co41) ∧ w'.cell? ⟨gb530, 9, none⟩ = some (.slice Ao42 t515.length co42) ∧ w'.cell? ⟨gb530, 10, none⟩ = some (.slice Ao43 t518.length co43) ∧ w'.cell? ⟨gb530, 11, none⟩ = some (.int .i64 t521) ∧ w'.cell? ⟨gb530, 12, none⟩ = some (.slice Ao44 t522.length co44) ∧ w'.cell? ⟨gb530, 13, none⟩ = some (.slice Ao45 t525.length co45) ∧ w'.cell? ⟨gb530, 14, none⟩ = some (.int .i64 t528) ∧ w'.cell? ⟨gb530, 15, none⟩ = some (.int .i64 t529) ∧ w'.cell? ⟨gb455, 0, none⟩ = some (.slice A0_0 l0_0.length c0_0) ∧ w'.cell? ⟨gb455, 1, none⟩ = some (.slice A0_1 l0_1.length c0_1) ∧ w'.cell? ⟨gb455, 2, none⟩ = some (.slice A0_2 l0_2.length c0_2) ∧ w'.cell? ⟨gb455, 3, none⟩ = some (.slice A0_3 l0_3.length c0_3) ∧ w'.cell? ⟨gb455, 4, none⟩ = some (.slice A0_4 l0_4.length c0_4) ∧ w'.cell? ⟨gb455, 5, none⟩ = some (.int .i64 a0_5) ∧ w'.cell? ⟨gb455, 6, none⟩ = some (.int .i64 a0_6) ∧ w'.cell? ⟨gb455, 7, none⟩ = some (.string a0_7) ∧ w'.cell? ⟨gb455, 8, none⟩ = some (.slice A0_8 l0_8.length c0_8) ∧ w'.cell? ⟨gb455, 9, none⟩ = some (.slice A0_9 l0_9.length c0_9) ∧ w'.cell? ⟨gb455, 10, none⟩ = some (.slice A0_10 l0_10.length c0_10) ∧ w'.cell? ⟨gb455, 11, none⟩ = some (.int .i64 a0_11) ∧ w'.cell? ⟨gb455, 12, none⟩ = some (.slice A0_12 l0_12.length c0_12) ∧ w'.cell? ⟨gb455, 13, none⟩ = some (.slice A0_13 l0_13.length c0_13) ∧ w'.cell? ⟨gb455, 14, none⟩ = some (.int .i64 a0_14) ∧ w'.cell? ⟨gb455, 15, none⟩ = some (.int .i64 a0_15)) (ds := []) #[false, false, false, false, false] (by kernel_rfl) rfl rfl ⟨(blk_cell BK530.out 0).trans rfl, (blk_cell BK530.out 1).trans rfl, (blk_cell BK530.out 2).trans rfl, (blk_cell BK530.out 3).trans rfl, (blk_cell BK530.out 4).trans rfl, (blk_cell BK530.out 5).trans rfl, (blk_cell BK530.out 6).trans rfl, (blk_cell BK530.out 7).trans rfl, (blk_cell BK530.out 8).trans rfl, (blk_cell BK530.out 9).trans rfl, (blk_cell BK530.out 10).trans rfl, (blk_cell BK530.out 11).trans rfl, (blk_cell BK530.out 12).trans rfl, (blk_cell BK530.out 13).trans rfl, (blk_cell BK530.out 14).trans rfl, (blk_cell BK530.out 15).trans rfl, (blk_cell BK455.out 0).trans rfl, (blk_cell BK455.out 1).trans rfl, (blk_cell BK455.out 2).trans rfl, (blk_cell BK455.out 3).trans rfl, (blk_cell BK455.out 4).trans rfl, (blk_cell BK455.out 5).trans rfl, (blk_cell BK455.out 6).trans rfl, (blk_cell BK455.out 7).trans rfl, (blk_cell BK455.out 8).trans rfl, (blk_cell BK455.out 9).trans rfl, (blk_cell BK455.out 10).trans rfl, (blk_cell BK455.out 11).trans rfl, (blk_cell BK455.out 12).trans rfl, (blk_cell BK455.out 13).trans rfl, (blk_cell BK455.out 14).trans rfl, (blk_cell BK455.out 15).trans rfl⟩ (fun hHeld => ?_)
    generalize w46.drew = w47 at HO496 HO499 HO502 HO505 HO508 HO514 HO517 HO520 HO524 HO527 BK455 BK530 HB hHeld ⊢
    refine take_ (i := 0) (N := some 22) (v := ?_) (a' := ?_) #[true, false, false, false, false] rfl rfl (by kernel_rfl) (fun _ _ _ h => h) (Or.inl ⟨by rfl, ?_⟩) hHeld ?_ ?_
    rotate_left
    ·rintro w' ⟨s0, s1, s2, s3, s4, s5, s6, s7, s8, s9, s10, s11, s12, s13, s14, s15, s16, s17, s18, s19, s20, s21, s22, s23, s24, s25, s26, s27, s28, s29, s30, s31⟩
     go_simp
     with_reducible rfl
    rotate_left
    ·simp only [Act.put, List.setIfInBounds_toArray, List.set_cons_zero, List.set_cons_succ, i64_w, i32_w]
     rfl
    refine take_ (i := 1) (N := some 23) (v := ?_) (a' := ?_) #[true, true, false, false, false] rfl rfl (by kernel_rfl) (fun _ _ _ h => h) (Or.inl ⟨by rfl, ?_⟩) hHeld ?_ ?_
    rotate_left
    ·rintro w' ⟨s0, s1, s2, s3, s4, s5, s6, s7, s8, s9, s10, s11, s12, s13, s14, s15, s16, s17, s18, s19, s20, s21, s22, s23, s24, s25, s26, s27, s28, s29, s30, s31⟩
     go_simp
     with_reducible rfl
    rotate_left
    ·simp only [Act.put, List.setIfInBounds_toArray, List.set_cons_zero, List.set_cons_succ, i64_w, i32_w]
     rfl
    refine one_ (i := 2) (N := some 24) #[true, true, true, false, false] rfl rfl (by kernel_rfl) (by decide) (fun K hK => ?_)
    refine goes_ Tryz.func7 (by kernel_rfl) rfl #[.agg #[.slice A0_0 l0_0.length c0_0, .slice A0_1 l0_1.length c0_1, .slice A0_2 l0_2.length c0_2, .slice A0_3 l0_3.length c0_3, .slice A0_4 l0_4.length c0_4, .int .i64 a0_5, .int .i64 a0_6, .string a0_7, .slice A0_8 l0_8.length c0_8, .slice A0_9 l0_9.length c0_9, .slice A0_10 l0_10.length c0_10, .int .i64 a0_11, .slice A0_12 l0_12.length c0_12, .slice A0_13 l0_13.length c0_13, .int .i64 a0_14, .int .i64 a0_15]] (by rfl) rfl rfl yk1_ ?_
    with_reducible refine (laws_toMachine.calls k _ _ l0_0 _ _ l0_1 _ _ l0_2 _ _ l0_3 _ _ l0_4 a0_5 a0_6 a0_7 _ _ l0_8 _ _ l0_9 _ _ l0_10 a0_11 _ _ l0_12 _ _ l0_13 a0_14 a0_15 t532 t535 t538 t541 t544 t547 t548 t549 t550 t553 t556 t559 t560 t563 t566 t567 _ ?side1 ?side2 ?side3 ?side4 ?side5 ?side6 ?side7 ?side8 ?side9 ?side10 ?side11 ?side12 ?side13 ?side14 ?side15 ?side16 ?side17 ?side18 ?side19 ?side20 A12.out).mono ?_
    (case side1 => exact ycb_ HR0_0 HB)
    (case side2 => exact HC0_0.out)
    (case side3 => exact ycb_ HR0_1 HB)
    (case side4 => exact HC0_1.out)
    (case side5 => exact ycb_ HR0_2 HB)
    (case side6 => exact HC0_2.out)
    (case side7 => exact ycb_ HR0_3 HB)
    (case side8 => exact HC0_3.out)
    (case side9 => exact ycb_ HR0_4 HB)
    (case side10 => exact HC0_4.out)
    (case side11 => exact ycb_ HR0_8 HB)
    (case side12 => exact HC0_8.out)
    (case side13 => exact ycb_ HR0_9 HB)
    (case side14 => exact HC0_9.out)
    (case side15 => exact ycb_ HR0_10 HB)
    (case side16 => exact HC0_10.out)
    (case side17 => exact ycb_ HR0_12 HB)
    (case side18 => exact HC0_12.out)
    (case side19 => exact ycb_ HR0_13 HB)
    (case side20 => exact HC0_13.out)
    rintro e w48 ⟨v533, v536, v539, v542, v545, v551, v554, v557, v561, v564, rfl, ho0, ho1, ho2, ho3, ho4, ho5, ho6, ho7, ho8, ho9, hb⟩
    refine ⟨_, rfl, ?_⟩
    have n0_ := am_ (Kd.R_elder' (yru_ HO496) (Kd.R_base ho0) hb)
    have n1_ := am_ (Kd.R_mono (Kd.R_told (Kd.R_told (Kd.R_told (Kd.R_told (Kd.R_told (Kd.R_told (Kd.R_old (yru_ HO499) hb) (Kd.R_base ho1)) (Kd.R_base ho2)) (Kd.R_base ho3)) (Kd.R_base ho4)) (Kd.R_base ho6)) (Kd.R_base ho7)) (fun _ h_ => h_.1))
    have n2_ := am_ (Kd.R_mono (Kd.R_told (Kd.R_told (Kd.R_told (Kd.R_told (Kd.R_told (Kd.R_told (Kd.R_old (yru_ HO502) hb) (Kd.R_base ho1)) (Kd.R_base ho2)) (Kd.R_base ho3)) (Kd.R_base ho4)) (Kd.R_base ho6)) (Kd.R_base ho7)) (fun _ h_ => h_.1))
    have n3_ := am_ (Kd.R_mono (Kd.R_told (Kd.R_told (Kd.R_told (Kd.R_told (Kd.R_told (Kd.R_told (Kd.R_old (yru_ HO505) hb) (Kd.R_base ho1)) (Kd.R_base ho2)) (Kd.R_base ho3)) (Kd.R_base ho4)) (Kd.R_base ho6)) (Kd.R_base ho7)) (fun _ h_ => h_.1))
    have n4_ := am_ (Kd.R_mono (Kd.R_told (Kd.R_told (Kd.R_told (Kd.R_told (Kd.R_told (Kd.R_told (Kd.R_old (yru_ HO508) hb) (Kd.R_base ho1)) (Kd.R_base ho2)) (Kd.R_base ho3)) (Kd.R_base ho4)) (Kd.R_base ho6)) (Kd.R_base ho7)) (fun _ h_ => h_.1))
    have n5_ := am_ (Kd.R_elder' (yru_ HO514) (Kd.R_base ho5) hb)
    have n6_ := am_ (Kd.R_mono (Kd.R_told (Kd.R_told (Kd.R_told (Kd.R_told (Kd.R_told (Kd.R_told (Kd.R_old (yru_ HO517) hb) (Kd.R_base ho1)) (Kd.R_base ho2)) (Kd.R_base ho3)) (Kd.R_base ho4)) (Kd.R_base ho6)) (Kd.R_base ho7)) (fun _ h_ => h_.1))
    have n7_ := am_ (Kd.R_mono (Kd.R_told (Kd.R_told (Kd.R_told (Kd.R_told (Kd.R_told (Kd.R_told (Kd.R_old (yru_ HO520) hb) (Kd.R_base ho1)) (Kd.R_base ho2)) (Kd.R_base ho3)) (Kd.R_base ho4)) (Kd.R_base ho6)) (Kd.R_base ho7)) (fun _ h_ => h_.1))
    have n8_ := am_ (Kd.R_elder' (yru_ HO524) (Kd.R_base ho8) hb)
    have n9_ := am_ (Kd.R_elder' (yru_ HO527) (Kd.R_base ho9) hb)
    have n10_ := am_ (Kd.R_lower (Kd.R_new' ho0 (Kd.R_lt (yru_ HO496))) (below_size ybl_))
    have n11_ := am_ (Kd.R_lower (Kd.R_new' (Kd.R_new' (Kd.R_new' (Kd.R_new' (Kd.R_new' (Kd.R_new' ho1 (Kd.R_lt (yru_ HO499))) (Kd.R_lt (yru_ HO502))) (Kd.R_lt (yru_ HO505))) (Kd.R_lt (yru_ HO508))) (Kd.R_lt (yru_ HO517))) (Kd.R_lt (yru_ HO520))) (below_size ybl_))
    have n12_ := am_ (Kd.R_lower (Kd.R_new' (Kd.R_new' (Kd.R_new' (Kd.R_new' (Kd.R_new' (Kd.R_new' ho2 (Kd.R_lt (yru_ HO499))) (Kd.R_lt (yru_ HO502))) (Kd.R_lt (yru_ HO505))) (Kd.R_lt (yru_ HO508))) (Kd.R_lt (yru_ HO517))) (Kd.R_lt (yru_ HO520))) (below_size ybl_))
    have n13_ := am_ (Kd.R_lower (Kd.R_new' (Kd.R_new' (Kd.R_new' (Kd.R_new' (Kd.R_new' (Kd.R_new' ho3 (Kd.R_lt (yru_ HO499))) (Kd.R_lt (yru_ HO502))) (Kd.R_lt (yru_ HO505))) (Kd.R_lt (yru_ HO508))) (Kd.R_lt (yru_ HO517))) (Kd.R_lt (yru_ HO520))) (below_size ybl_))
    have n14_ := am_ (Kd.R_lower (Kd.R_new' (Kd.R_new' (Kd.R_new' (Kd.R_new' (Kd.R_new' (Kd.R_new' ho4 (Kd.R_lt (yru_ HO499))) (Kd.R_lt (yru_ HO502))) (Kd.R_lt (yru_ HO505))) (Kd.R_lt (yru_ HO508))) (Kd.R_lt (yru_ HO517))) (Kd.R_lt (yru_ HO520))) (below_size ybl_))
    have n15_ := am_ (Kd.R_lower (Kd.R_new' ho5 (Kd.R_lt (yru_ HO514))) (below_size ybl_))
    have n16_ := am_ (Kd.R_lower (Kd.R_new' (Kd.R_new' (Kd.R_new' (Kd.R_new' (Kd.R_new' (Kd.R_new' ho6 (Kd.R_lt (yru_ HO499))) (Kd.R_lt (yru_ HO502))) (Kd.R_lt (yru_ HO505))) (Kd.R_lt (yru_ HO508))) (Kd.R_lt (yru_ HO517))) (Kd.R_lt (yru_ HO520))) (below_size ybl_))
    have n17_ := am_ (Kd.R_lower (Kd.R_new' (Kd.R_new' (Kd.R_new' (Kd.R_new' (Kd.R_new' (Kd.R_new' ho7 (Kd.R_lt (yru_ HO499))) (Kd.R_lt (yru_ HO502))) (Kd.R_lt (yru_ HO505))) (Kd.R_lt (yru_ HO508))) (Kd.R_lt (yru_ HO517))) (Kd.R_lt (yru_ HO520))) (below_size ybl_))
    have n18_ := am_ (Kd.R_lower (Kd.R_new' ho8 (Kd.R_lt (yru_ HO524))) (below_size ybl_))
    have n19_ := am_ (Kd.R_lower (Kd.R_new' ho9 (Kd.R_lt (yru_ HO527))) (below_size ybl_))
    have n20_ := am_ (ybb_ BK455 hb)
    have n21_ := am_ (ybb_ BK530 hb)
    have n22_ := yst_ hb
    clear HO496
    clear HO499
    clear HO502
    clear HO505
    clear HO508
    clear HO514
    clear HO517
    clear HO520
    clear HO524
    clear HO527
    clear BK455
    clear BK530
    clear HB
    have HO496 := n0_
    have HO499 := n1_
    have HO502 := n2_
    have HO505 := n3_
    have HO508 := n4_
    have HO514 := n5_
    have HO517 := n6_
    have HO520 := n7_
    have HO524 := n8_
    have HO527 := n9_
    have HO534 := n10_
    have HO537 := n11_
    have HO540 := n12_
    have HO543 := n13_
    have HO546 := n14_
    have HO552 := n15_
    have HO555 := n16_
    have HO558 := n17_
    have HO562 := n18_
    have HO565 := n19_
    have BK455 := n20_
    have BK530 := n21_
    have HB := n22_
    clear n0_ n1_ n2_ n3_ n4_ n5_ n6_ n7_ n8_ n9_ n10_ n11_ n12_ n13_ n14_ n15_ n16_ n17_ n18_ n19_ n20_ n21_ n22_
    (try clear hb)
    (try clear hb2)
    (try clear hk)
    (try clear hi)
    (try clear ho0)
    (try clear ho1)
    (try clear ho2)
    (try clear ho3)
    (try clear ho4)
    (try clear ho5)
    (try clear ho6)
    (try clear ho7)
    (try clear ho8)
    (try clear ho9)
    obtain ⟨Ao49, co49, eo49⟩ := Kd.R_slice HO534.out
    (first | subst eo49 | (injection eo49 with sf1_ sf2_ sf3_; have sf4_ := f1_.symm; have sf5_ := f3_.symm; clear sf1_ sf2_ sf3_; subst sf4_; subst sf5_))
    obtain ⟨Ao50, co50, eo50⟩ := Kd.R_slice HO537.out
    (first | subst eo50 | (injection eo50 with sf1_ sf2_ sf3_; have sf4_ := f1_.symm; have sf5_ := f3_.symm; clear sf1_ sf2_ sf3_; subst sf4_; subst sf5_))
    obtain ⟨Ao51, co51, eo51⟩ := Kd.R_slice HO540.out
    (first | subst eo51 | (injection eo51 with sf1_ sf2_ sf3_; have sf4_ := f1_.symm; have sf5_ := f3_.symm; clear sf1_ sf2_ sf3_; subst sf4_; subst sf5_))
    obtain ⟨Ao52, co52, eo52⟩ := Kd.R_slice HO543.out
    (first | subst eo52 | (injection eo52 with sf1_ sf2_ sf3_; have sf4_ := f1_.symm; have sf5_ := f3_.symm; clear sf1_ sf2_ sf3_; subst sf4_; subst sf5_))
    obtain ⟨Ao53, co53, eo53⟩ := Kd.R_slice HO546.out
    (first | subst eo53 | (injection eo53 with sf1_ sf2_ sf3_; have sf4_ := f1_.symm; have sf5_ := f3_.symm; clear sf1_ sf2_ sf3_; subst sf4_; subst sf5_))
    obtain ⟨Ao54, co54, eo54⟩ := Kd.R_slice HO552.out
    (first | subst eo54 | (injection eo54 with sf1_ sf2_ sf3_; have sf4_ := f1_.symm; have sf5_ := f3_.symm; clear sf1_ sf2_ sf3_; subst sf4_; subst sf5_))
    obtain ⟨Ao55, co55, eo55⟩ := Kd.R_slice HO555.out
    (first | subst eo55 | (injection eo55 with sf1_ sf2_ sf3_; have sf4_ := f1_.symm; have sf5_ := f3_.symm; clear sf1_ sf2_ sf3_; subst sf4_; subst sf5_))
    obtain ⟨Ao56, co56, eo56⟩ := Kd.R_slice HO558.out
    (first | subst eo56 | (injection eo56 with sf1_ sf2_ sf3_; have sf4_ := f1_.symm; have sf5_ := f3_.symm; clear sf1_ sf2_ sf3_; subst sf4_; subst sf5_))
    obtain ⟨Ao57, co57, eo57⟩ := Kd.R_slice HO562.out
    (first | subst eo57 | (injection eo57 with sf1_ sf2_ sf3_; have sf4_ := f1_.symm; have sf5_ := f3_.symm; clear sf1_ sf2_ sf3_; subst sf4_; subst sf5_))
    obtain ⟨Ao58, co58, eo58⟩ := Kd.R_slice HO565.out
    (first | subst eo58 | (injection eo58 with sf1_ sf2_ sf3_; have sf4_ := f1_.symm; have sf5_ := f3_.symm; clear sf1_ sf2_ sf3_; subst sf4_; subst sf5_))
    refine hK.out _ _ ⟨(blk_cell BK530.out 0).trans rfl, (blk_cell BK530.out 1).trans rfl, (blk_cell BK530.out 2).trans rfl, (blk_cell BK530.out 3).trans rfl, (blk_cell BK530.out 4).trans rfl, (blk_cell BK530.out 5).trans rfl, (blk_cell BK530.out 6).trans rfl, (blk_cell BK530.out 7).trans rfl, (blk_cell BK530.out 8).trans rfl, (blk_cell BK530.out 9).trans rfl, (blk_cell BK530.out 10).trans rfl, (blk_cell BK530.out 11).trans rfl, (blk_cell BK530.out 12).trans rfl, (blk_cell BK530.out 13).trans rfl, (blk_cell BK530.out 14).trans rfl, (blk_cell BK530.out 15).trans rfl, (blk_cell BK455.out 0).trans rfl, (blk_cell BK455.out 1).trans rfl, (blk_cell BK455.out 2).trans rfl, (blk_cell BK455.out 3).trans rfl, (blk_cell BK455.out 4).trans rfl, (blk_cell BK455.out 5).trans rfl, (blk_cell BK455.out 6).trans rfl, (blk_cell BK455.out 7).trans rfl, (blk_cell BK455.out 8).trans rfl, (blk_cell BK455.out 9).trans rfl, (blk_cell BK455.out 10).trans rfl, (blk_cell BK455.out 11).trans rfl, (blk_cell BK455.out 12).trans rfl, (blk_cell BK455.out 13).trans rfl, (blk_cell BK455.out 14).trans rfl, (blk_cell BK455.out 15).trans rfl⟩ (fun hHeld => ?_)
    clear hK K
    refine norm_ (a' := ?_) ?_ ?_
    rotate_left
    ·show Act.put _ (some 24) _ = _
     simp only [Act.put, List.setIfInBounds_toArray, List.set_cons_zero, List.set_cons_succ, i64_w, i32_w]
     rfl
    refine one_ (i := 3) (N := some 25) #[true, true, true, true, false] rfl rfl (by kernel_rfl) (by decide) (fun K hK => ?_)
    refine goes_ Tryz.func9 (by kernel_rfl) rfl #[.agg #[.slice Ao34 t494.length co34, .slice Ao37 t497.length co37, .slice Ao38 t500.length co38, .slice Ao39 t503.length co39, .slice Ao40 t506.length co40, .int .i64 t509, .int .i64 t510, .string t511, .slice Ao41 t512.length co41, .slice Ao42 t515.length co42, .slice Ao43 t518.length co43, .int .i64 t521, .slice Ao44 t522.length co44, .slice Ao45 t525.length co45, .int .i64 t528, .int .i64 t529], .agg #[.slice Ao49 t532.length co49, .slice Ao50 t535.length co50, .slice Ao51 t538.length co51, .slice Ao52 t541.length co52, .slice Ao53 t544.length co53, .int .i64 t547, .int .i64 t548, .string t549, .slice Ao54 t550.length co54, .slice Ao55 t553.length co55, .slice Ao56 t556.length co56, .int .i64 t559, .slice Ao57 t560.length co57, .slice Ao58 t563.length co58, .int .i64 t566, .int .i64 t567]] (by rfl) rfl rfl yk1_ ?_
    with_reducible refine (laws_eqMachine.calls k _ _ t494 _ _ t497 _ _ t500 _ _ t503 _ _ t506 t509 t510 t511 _ _ t512 _ _ t515 _ _ t518 t521 _ _ t522 _ _ t525 t528 t529 _ _ t532 _ _ t535 _ _ t538 _ _ t541 _ _ t544 t547 t548 t549 _ _ t550 _ _ t553 _ _ t556 t559 _ _ t560 _ _ t563 t566 t567 true _ ?side1 ?side2 ?side3 ?side4 ?side5 ?side6 ?side7 ?side8 ?side9 ?side10 ?side11 ?side12 ?side13 ?side14 ?side15 ?side16 ?side17 ?side18 ?side19 ?side20 ?side21 ?side22 ?side23 ?side24 ?side25 ?side26 ?side27 ?side28 ?side29 ?side30 ?side31 ?side32 ?side33 ?side34 ?side35 ?side36 ?side37 ?side38 ?side39 ?side40 A13.out).mono ?_
    (case side1 => repeat (first | exact (Kd.R_reads' HO496.out).2.2 | (with_reducible refine Kd.C_alloc ?_ _) | (with_reducible refine Kd.C_drewN ?_ _) | (with_reducible refine Kd.C_drew ?_)))
    (case side2 => exact (Kd.R_reads' HO496.out).2.1)
    (case side3 => repeat (first | exact (Kd.R_reads' HO499.out).2.2 | (with_reducible refine Kd.C_alloc ?_ _) | (with_reducible refine Kd.C_drewN ?_ _) | (with_reducible refine Kd.C_drew ?_)))
    (case side4 => exact (Kd.R_reads' HO499.out).2.1)
    (case side5 => repeat (first | exact (Kd.R_reads' HO502.out).2.2 | (with_reducible refine Kd.C_alloc ?_ _) | (with_reducible refine Kd.C_drewN ?_ _) | (with_reducible refine Kd.C_drew ?_)))
    (case side6 => exact (Kd.R_reads' HO502.out).2.1)
    (case side7 => repeat (first | exact (Kd.R_reads' HO505.out).2.2 | (with_reducible refine Kd.C_alloc ?_ _) | (with_reducible refine Kd.C_drewN ?_ _) | (with_reducible refine Kd.C_drew ?_)))
    (case side8 => exact (Kd.R_reads' HO505.out).2.1)
    (case side9 => repeat (first | exact (Kd.R_reads' HO508.out).2.2 | (with_reducible refine Kd.C_alloc ?_ _) | (with_reducible refine Kd.C_drewN ?_ _) | (with_reducible refine Kd.C_drew ?_)))
    (case side10 => exact (Kd.R_reads' HO508.out).2.1)
    (case side11 => repeat (first | exact (Kd.R_reads' HO514.out).2.2 | (with_reducible refine Kd.C_alloc ?_ _) | (with_reducible refine Kd.C_drewN ?_ _) | (with_reducible refine Kd.C_drew ?_)))
    (case side12 => exact (Kd.R_reads' HO514.out).2.1)
    (case side13 => repeat (first | exact (Kd.R_reads' HO517.out).2.2 | (with_reducible refine Kd.C_alloc ?_ _) | (with_reducible refine Kd.C_drewN ?_ _) | (with_reducible refine Kd.C_drew ?_)))
    (case side14 => exact (Kd.R_reads' HO517.out).2.1)
    (case side15 => repeat (first | exact (Kd.R_reads' HO520.out).2.2 | (with_reducible refine Kd.C_alloc ?_ _) | (with_reducible refine Kd.C_drewN ?_ _) | (with_reducible refine Kd.C_drew ?_)))
    (case side16 => exact (Kd.R_reads' HO520.out).2.1)
    (case side17 => repeat (first | exact (Kd.R_reads' HO524.out).2.2 | (with_reducible refine Kd.C_alloc ?_ _) | (with_reducible refine Kd.C_drewN ?_ _) | (with_reducible refine Kd.C_drew ?_)))
    (case side18 => exact (Kd.R_reads' HO524.out).2.1)
    (case side19 => repeat (first | exact (Kd.R_reads' HO527.out).2.2 | (with_reducible refine Kd.C_alloc ?_ _) | (with_reducible refine Kd.C_drewN ?_ _) | (with_reducible refine Kd.C_drew ?_)))
    (case side20 => exact (Kd.R_reads' HO527.out).2.1)
    (case side21 => repeat (first | exact (Kd.R_reads' HO534.out).2.2 | (with_reducible refine Kd.C_alloc ?_ _) | (with_reducible refine Kd.C_drewN ?_ _) | (with_reducible refine Kd.C_drew ?_)))
    (case side22 => exact (Kd.R_reads' HO534.out).2.1)
    (case side23 => repeat (first | exact (Kd.R_reads' HO537.out).2.2 | (with_reducible refine Kd.C_alloc ?_ _) | (with_reducible refine Kd.C_drewN ?_ _) | (with_reducible refine Kd.C_drew ?_)))
    (case side24 => exact (Kd.R_reads' HO537.out).2.1)
    (case side25 => repeat (first | exact (Kd.R_reads' HO540.out).2.2 | (with_reducible refine Kd.C_alloc ?_ _) | (with_reducible refine Kd.C_drewN ?_ _) | (with_reducible refine Kd.C_drew ?_)))
    (case side26 => exact (Kd.R_reads' HO540.out).2.1)
    (case side27 => repeat (first | exact (Kd.R_reads' HO543.out).2.2 | (with_reducible refine Kd.C_alloc ?_ _) | (with_reducible refine Kd.C_drewN ?_ _) | (with_reducible refine Kd.C_drew ?_)))
    (case side28 => exact (Kd.R_reads' HO543.out).2.1)
    (case side29 => repeat (first | exact (Kd.R_reads' HO546.out).2.2 | (with_reducible refine Kd.C_alloc ?_ _) | (with_reducible refine Kd.C_drewN ?_ _) | (with_reducible refine Kd.C_drew ?_)))
    (case side30 => exact (Kd.R_reads' HO546.out).2.1)
    (case side31 => repeat (first | exact (Kd.R_reads' HO552.out).2.2 | (with_reducible refine Kd.C_alloc ?_ _) | (with_reducible refine Kd.C_drewN ?_ _) | (with_reducible refine Kd.C_drew ?_)))
    (case side32 => exact (Kd.R_reads' HO552.out).2.1)
    (case side33 => repeat (first | exact (Kd.R_reads' HO555.out).2.2 | (with_reducible refine Kd.C_alloc ?_ _) | (with_reducible refine Kd.C_drewN ?_ _) | (with_reducible refine Kd.C_drew ?_)))
    (case side34 => exact (Kd.R_reads' HO555.out).2.1)
    (case side35 => repeat (first | exact (Kd.R_reads' HO558.out).2.2 | (with_reducible refine Kd.C_alloc ?_ _) | (with_reducible refine Kd.C_drewN ?_ _) | (with_reducible refine Kd.C_drew ?_)))
    (case side36 => exact (Kd.R_reads' HO558.out).2.1)
    (case side37 => repeat (first | exact (Kd.R_reads' HO562.out).2.2 | (with_reducible refine Kd.C_alloc ?_ _) | (with_reducible refine Kd.C_drewN ?_ _) | (with_reducible refine Kd.C_drew ?_)))
    (case side38 => exact (Kd.R_reads' HO562.out).2.1)
    (case side39 => repeat (first | exact (Kd.R_reads' HO565.out).2.2 | (with_reducible refine Kd.C_alloc ?_ _) | (with_reducible refine Kd.C_drewN ?_ _) | (with_reducible refine Kd.C_drew ?_)))
    (case side40 => exact (Kd.R_reads' HO565.out).2.1)
    rintro e w59 ⟨rfl, hb⟩
    refine ⟨_, rfl, ?_⟩
    replace HO496 := am_ (Kd.R_below (yru_ HO496) hb)
    replace HO499 := am_ (Kd.R_below (yru_ HO499) hb)
    replace HO502 := am_ (Kd.R_below (yru_ HO502) hb)
    replace HO505 := am_ (Kd.R_below (yru_ HO505) hb)
    replace HO508 := am_ (Kd.R_below (yru_ HO508) hb)
    replace HO514 := am_ (Kd.R_below (yru_ HO514) hb)
    replace HO517 := am_ (Kd.R_below (yru_ HO517) hb)
    replace HO520 := am_ (Kd.R_below (yru_ HO520) hb)
    replace HO524 := am_ (Kd.R_below (yru_ HO524) hb)
    replace HO527 := am_ (Kd.R_below (yru_ HO527) hb)
    replace HO534 := am_ (Kd.R_below (yru_ HO534) hb)
    replace HO537 := am_ (Kd.R_below (yru_ HO537) hb)
    replace HO540 := am_ (Kd.R_below (yru_ HO540) hb)
    replace HO543 := am_ (Kd.R_below (yru_ HO543) hb)
    replace HO546 := am_ (Kd.R_below (yru_ HO546) hb)
    replace HO552 := am_ (Kd.R_below (yru_ HO552) hb)
    replace HO555 := am_ (Kd.R_below (yru_ HO555) hb)
    replace HO558 := am_ (Kd.R_below (yru_ HO558) hb)
    replace HO562 := am_ (Kd.R_below (yru_ HO562) hb)
    replace HO565 := am_ (Kd.R_below (yru_ HO565) hb)
    replace BK455 := am_ (ybb_ BK455 hb)
    replace BK530 := am_ (ybb_ BK530 hb)
    replace HB := yst_ hb
    (try clear hb)
    (try clear hb2)
    (try clear hk)
    (try clear hi)
    refine hK.out _ _ ⟨(blk_cell BK530.out 0).trans rfl, (blk_cell BK530.out 1).trans rfl, (blk_cell BK530.out 2).trans rfl, (blk_cell BK530.out 3).trans rfl, (blk_cell BK530.out 4).trans rfl, (blk_cell BK530.out 5).trans rfl, (blk_cell BK530.out 6).trans rfl, (blk_cell BK530.out 7).trans rfl, (blk_cell BK530.out 8).trans rfl, (blk_cell BK530.out 9).trans rfl, (blk_cell BK530.out 10).trans rfl, (blk_cell BK530.out 11).trans rfl, (blk_cell BK530.out 12).trans rfl, (blk_cell BK530.out 13).trans rfl, (blk_cell BK530.out 14).trans rfl, (blk_cell BK530.out 15).trans rfl, (blk_cell BK455.out 0).trans rfl, (blk_cell BK455.out 1).trans rfl, (blk_cell BK455.out 2).trans rfl, (blk_cell BK455.out 3).trans rfl, (blk_cell BK455.out 4).trans rfl, (blk_cell BK455.out 5).trans rfl, (blk_cell BK455.out 6).trans rfl, (blk_cell BK455.out 7).trans rfl, (blk_cell BK455.out 8).trans rfl, (blk_cell BK455.out 9).trans rfl, (blk_cell BK455.out 10).trans rfl, (blk_cell BK455.out 11).trans rfl, (blk_cell BK455.out 12).trans rfl, (blk_cell BK455.out 13).trans rfl, (blk_cell BK455.out 14).trans rfl, (blk_cell BK455.out 15).trans rfl⟩ (fun hHeld => ?_)
    clear hK K
    refine norm_ (a' := ?_) ?_ ?_
    rotate_left
    ·show Act.put _ (some 25) _ = _
     simp only [Act.put, List.setIfInBounds_toArray, List.set_cons_zero, List.set_cons_succ, i64_w, i32_w]
     rfl
    refine pure_ (i := 4) (N := some 26) (v := ?_) (a' := ?_) #[true, true, true, true, true] rfl rfl (by kernel_rfl) (fun _ _ _ h => h) (Or.inl ⟨by rfl, ?_⟩) ?_ ?_
    rotate_left
    ·intro w'
     go_simp
     with_reducible rfl
    rotate_left
    ·simp only [Act.put, List.setIfInBounds_toArray, List.set_cons_zero, List.set_cons_succ, i64_w, i32_w]
     rfl
    refine done_ (by kernel_rfl) ?_
    try go_wp2
    all_goals go_ret
    exact ⟨yk0_, ybl_⟩
    all_goals (exfalso; simp only [beq_iff_eq, decide_eq_decide, decide_eq_true_eq, decide_eq_false_iff_not] at *; omega)
   ·replace c14 := Bool.eq_false_iff.mpr c14
    subst c14
    have H1 : (some false) = some true := by rw [if_neg (show ¬ (false = true) by decide)] at H; first | done | exact H
    clear H
    have H := H1
    clear H1
    exact absurd (Option.some.inj H) (by decide)
/-- The pure statement of laws_FnExactMachineOK: plain data, no memory. -/
def laws_FnExactMachineOK.Pure : Prop := ∀ (l0_0 : List (S71)) (l0_1 : List Int) (l0_2 : List Int) (l0_3 : List Int) (l0_4 : List Int) (a0_5 : Int) (a0_6 : Int) (a0_7 : ByteArray) (l0_8 : List Bool) (l0_9 : List Int) (l0_10 : List Int) (a0_11 : Int) (l0_12 : List (S95)) (l0_13 : List (S80)) (a0_14 : Int) (a0_15 : Int), (l0_0.length ≤ 9223372036854775807 ∧ ∀ e0_, e0_ ∈ l0_0 → (e0_.f0.size ≤ 9223372036854775807) ∧ ((Lit.int .i64 e0_.f1).wf = true) ∧ ((Lit.int .i64 e0_.f2).wf = true)) → (l0_1.length ≤ 9223372036854775807 ∧ ∀ e0_, e0_ ∈ l0_1 → (Lit.int .i64 e0_).wf = true) → (l0_2.length ≤ 9223372036854775807 ∧ ∀ e0_, e0_ ∈ l0_2 → (Lit.int .i64 e0_).wf = true) → (l0_3.length ≤ 9223372036854775807 ∧ ∀ e0_, e0_ ∈ l0_3 → (Lit.int .i64 e0_).wf = true) → (l0_4.length ≤ 9223372036854775807 ∧ ∀ e0_, e0_ ∈ l0_4 → (Lit.int .i64 e0_).wf = true) → ((Lit.int .i64 a0_5).wf = true) → ((Lit.int .i64 a0_6).wf = true) → (a0_7.size ≤ 9223372036854775807) → (l0_8.length ≤ 9223372036854775807 ∧ ∀ e0_, e0_ ∈ l0_8 → True) → (l0_9.length ≤ 9223372036854775807 ∧ ∀ e0_, e0_ ∈ l0_9 → (Lit.int .i64 e0_).wf = true) → (l0_10.length ≤ 9223372036854775807 ∧ ∀ e0_, e0_ ∈ l0_10 → (Lit.int .i64 e0_).wf = true) → ((Lit.int .i64 a0_11).wf = true) → (l0_12.length ≤ 9223372036854775807 ∧ ∀ e0_, e0_ ∈ l0_12 → ((Lit.int .i64 e0_.f0).wf = true) ∧ ((Lit.int .i64 e0_.f1).wf = true) ∧ ((Lit.int .i64 e0_.f2).wf = true) ∧ ((Lit.int .i64 e0_.f3).wf = true)) → (l0_13.length ≤ 9223372036854775807 ∧ ∀ e0_, e0_ ∈ l0_13 → ((Lit.int .i64 e0_.f0).wf = true) ∧ ((Lit.int .i64 e0_.f1).wf = true) ∧ ((Lit.int .i64 e0_.f2).wf = true) ∧ (True)) → ((Lit.int .i64 a0_14).wf = true) → ((Lit.int .i64 a0_15).wf = true) → ∃ k, laws_FnExactMachineOK.f k l0_0 l0_1 l0_2 l0_3 l0_4 a0_5 a0_6 a0_7 l0_8 l0_9 l0_10 a0_11 l0_12 l0_13 a0_14 a0_15 = some true

end Go.Proofs.YtbbfahkmjfmmjaaGreatDoor.PMOK
