-- laid by a program of this session out of the translation's own print: Lean checks it
import Derived.Test.YtbbfahkmjfmmjaaGreatDoorPMOKx0
import Derived.Test.YtbbfahkmjfmmjaaGreatDoorPMOKx8
import Derived.Test.YtbbfahkmjfmmjaaGreatDoorPMOKx10
import Derived.Test.YtbbfahkmjfmmjaaGreatDoorPMOKx11
import Derived.Test.YtbbfahkmjfmmjaaGreatDoorPMOKx12
namespace Go.Proofs.YtbbfahkmjfmmjaaGreatDoor.PMOK
open Go.RowKit Go.Proofs.YtbbfahkmjfmmjaaGreatDoorW.PrintWords Go.Proofs.YtbbfahkmjfmmjaaGreatDoorW.PrintLast Go.Proofs.YtbbfahkmjfmmjaaGreatDoorW.PrintMore
attribute [local go_sem] max2_int min2_int max_two min_two max_three min_three max_four min_four   -- for this text's walks alone
set_option linter.unusedVariables false
set_option linter.unusedSimpArgs false

/-! ### impl_MachineOK: function 8 -/
mutual
def impl_MachineOK.j0 : Nat → Bool → List (S75) → List Int → List Int → List Int → List Int → Int → Int → ByteArray → List Bool → List Int → List Int → Int → List (S88) → List (S63) → Int → Int → Option (Bool)
 | 0, _, _, _, _, _, _, _, _, _, _, _, _, _, _, _, _, _ => none
 | k + 1, x45, x406000, x406001, x406002, x406003, x406004, x406005, x406006, x406007, x406008, x406009, x406010, x406011, x406012, x406013, x406014, x406015 => if x45 = true then (some false) else (impl_MachineOK.l0 k 0 x406013 (x406013.length : Int) 0 x406000 x406001 x406002 x406003 x406004 x406005 x406006 x406007 x406008 x406009 x406010 x406011 x406012 x406013 x406014 x406015)
def impl_MachineOK.l0 : Nat → Int → List (S63) → Int → Int → List (S75) → List Int → List Int → List Int → List Int → Int → Int → ByteArray → List Bool → List Int → List Int → Int → List (S88) → List (S63) → Int → Int → Option (Bool)
 | 0, _, _, _, _, _, _, _, _, _, _, _, _, _, _, _, _, _, _, _, _ => none
 | k + 1, x3, x47, x48, x49, x406000, x406001, x406002, x406003, x406004, x406005, x406006, x406007, x406008, x406009, x406010, x406011, x406012, x406013, x406014, x406015 => if x49 < x48 then (if 0 ≤ x49 then (if x49 < (x47.length : Int) then ((impl_in.f ((rd_T63 x47 x49).f0) 0 2147483647).bind fun t415 => (if t415 = true then ((impl_in.f ((rd_T63 x47 x49).f1) x3 (x406003.length : Int)).bind fun t416 => (if t416 = true then ((impl_in.f ((rd_T63 x47 x49).f2) 0 31).bind fun t417 => (if t417 = true then (if ((rd_T63 x47 x49).f3 = true) then (impl_MachineOK.l0 k ((rd_T63 x47 x49).f1) x47 x48 (wrap64 (x49 + 1)) x406000 x406001 x406002 x406003 x406004 x406005 x406006 x406007 x406008 x406009 x406010 x406011 x406012 x406013 x406014 x406015) else (if ((rd_T63 x47 x49).f2) = 0 then (impl_MachineOK.l0 k ((rd_T63 x47 x49).f1) x47 x48 (wrap64 (x49 + 1)) x406000 x406001 x406002 x406003 x406004 x406005 x406006 x406007 x406008 x406009 x406010 x406011 x406012 x406013 x406014 x406015) else (some false))) else (some false))) else (some false))) else (some false))) else (none)) else (none)) else (if (x406013.length : Int) = 0 then (some true) else (if 0 ≤ (wrap64 ((x406013.length : Int) - 1)) then (if (wrap64 ((x406013.length : Int) - 1)) < (x406013.length : Int) then (some (!((rd_T63 x406013 (wrap64 ((x406013.length : Int) - 1))).f3))) else (none)) else (none)))
end
def impl_MachineOK.f (k : Nat) (l0_0 : List (S75)) (l0_1 : List Int) (l0_2 : List Int) (l0_3 : List Int) (l0_4 : List Int) (a0_5 : Int) (a0_6 : Int) (a0_7 : ByteArray) (l0_8 : List Bool) (l0_9 : List Int) (l0_10 : List Int) (a0_11 : Int) (l0_12 : List (S88)) (l0_13 : List (S63)) (a0_14 : Int) (a0_15 : Int) : Option (Bool) := (impl_DictOK.f k l0_0).bind fun t406 => (if t406 = true then ((impl_areCells.f k l0_1 400).bind fun t407 => (if t407 = true then ((impl_DataOK.f k l0_2 l0_3 l0_4 a0_5 a0_6 a0_7).bind fun t408 => (if t408 = true then ((impl_HostOK.f k l0_8 l0_9 l0_10 a0_11 l0_12).bind fun t409 => (if t409 = true then (if (l0_13.length : Int) > 16 then (impl_MachineOK.j0 k true l0_0 l0_1 l0_2 l0_3 l0_4 a0_5 a0_6 a0_7 l0_8 l0_9 l0_10 a0_11 l0_12 l0_13 a0_14 a0_15) else ((impl_in.f a0_14 0 2147483647).bind fun t410 => (if t410 = true then ((impl_in.f a0_15 0 4000).bind fun t411 => (impl_MachineOK.j0 k (!t411) l0_0 l0_1 l0_2 l0_3 l0_4 a0_5 a0_6 a0_7 l0_8 l0_9 l0_10 a0_11 l0_12 l0_13 a0_14 a0_15)) else (impl_MachineOK.j0 k true l0_0 l0_1 l0_2 l0_3 l0_4 a0_5 a0_6 a0_7 l0_8 l0_9 l0_10 a0_11 l0_12 l0_13 a0_14 a0_15)))) else (impl_MachineOK.j0 k true l0_0 l0_1 l0_2 l0_3 l0_4 a0_5 a0_6 a0_7 l0_8 l0_9 l0_10 a0_11 l0_12 l0_13 a0_14 a0_15))) else (impl_MachineOK.j0 k true l0_0 l0_1 l0_2 l0_3 l0_4 a0_5 a0_6 a0_7 l0_8 l0_9 l0_10 a0_11 l0_12 l0_13 a0_14 a0_15))) else (impl_MachineOK.j0 k true l0_0 l0_1 l0_2 l0_3 l0_4 a0_5 a0_6 a0_7 l0_8 l0_9 l0_10 a0_11 l0_12 l0_13 a0_14 a0_15))) else (impl_MachineOK.j0 k true l0_0 l0_1 l0_2 l0_3 l0_4 a0_5 a0_6 a0_7 l0_8 l0_9 l0_10 a0_11 l0_12 l0_13 a0_14 a0_15))
theorem impl_MachineOK.mono_l : ∀ k, (∀ y0 y1 y2 y3 y4 y5 y6 y7 y8 y9 y10 y11 y12 y13 y14 y15 y16, LeO (impl_MachineOK.j0 k y0 y1 y2 y3 y4 y5 y6 y7 y8 y9 y10 y11 y12 y13 y14 y15 y16) (impl_MachineOK.j0 (k + 1) y0 y1 y2 y3 y4 y5 y6 y7 y8 y9 y10 y11 y12 y13 y14 y15 y16)) ∧ (∀ y0 y1 y2 y3 y4 y5 y6 y7 y8 y9 y10 y11 y12 y13 y14 y15 y16 y17 y18 y19, LeO (impl_MachineOK.l0 k y0 y1 y2 y3 y4 y5 y6 y7 y8 y9 y10 y11 y12 y13 y14 y15 y16 y17 y18 y19) (impl_MachineOK.l0 (k + 1) y0 y1 y2 y3 y4 y5 y6 y7 y8 y9 y10 y11 y12 y13 y14 y15 y16 y17 y18 y19))
 | 0 => ⟨fun _ _ _ _ _ _ _ _ _ _ _ _ _ _ _ _ _ r h => by simp [impl_MachineOK.j0] at h, fun _ _ _ _ _ _ _ _ _ _ _ _ _ _ _ _ _ _ _ _ r h => by simp [impl_MachineOK.l0] at h⟩
 | k + 1 => by
  obtain ⟨ih0, ih1⟩ := impl_MachineOK.mono_l k
  refine ⟨?_, ?_⟩
  ·intro y0 y1 y2 y3 y4 y5 y6 y7 y8 y9 y10 y11 y12 y13 y14 y15 y16
   unfold impl_MachineOK.j0
   repeat' first
   | (with_reducible exact ih0 _ _ _ _ _ _ _ _ _ _ _ _ _ _ _ _ _)
   | (with_reducible exact ih1 _ _ _ _ _ _ _ _ _ _ _ _ _ _ _ _ _ _ _ _)
   | (with_reducible exact impl_DataOK.mono _ _ _ _ _ _ _)
   | (with_reducible exact impl_DictOK.mono _ _)
   | (with_reducible exact impl_HostOK.mono _ _ _ _ _ _)
   | (with_reducible exact impl_areCells.mono _ _ _)
   | (with_reducible exact LeO.refl _)
   | (with_reducible exact LeO.none _)
   | (with_reducible refine LeO.ite ?_ ?_)
   | (with_reducible refine LeO.bind ?_ (fun _ => ?_))
   | exact ih0 _ _ _ _ _ _ _ _ _ _ _ _ _ _ _ _ _
   | exact ih1 _ _ _ _ _ _ _ _ _ _ _ _ _ _ _ _ _ _ _ _
   | exact impl_DataOK.mono _ _ _ _ _ _ _
   | exact impl_DictOK.mono _ _
   | exact impl_HostOK.mono _ _ _ _ _ _
   | exact impl_areCells.mono _ _ _
   | exact LeO.none _
   | refine LeO.ite ?_ ?_
   | refine LeO.bind ?_ (fun _ => ?_)
  ·intro y0 y1 y2 y3 y4 y5 y6 y7 y8 y9 y10 y11 y12 y13 y14 y15 y16 y17 y18 y19
   unfold impl_MachineOK.l0
   repeat' first
   | (with_reducible exact ih0 _ _ _ _ _ _ _ _ _ _ _ _ _ _ _ _ _)
   | (with_reducible exact ih1 _ _ _ _ _ _ _ _ _ _ _ _ _ _ _ _ _ _ _ _)
   | (with_reducible exact impl_DataOK.mono _ _ _ _ _ _ _)
   | (with_reducible exact impl_DictOK.mono _ _)
   | (with_reducible exact impl_HostOK.mono _ _ _ _ _ _)
   | (with_reducible exact impl_areCells.mono _ _ _)
   | (with_reducible exact LeO.refl _)
   | (with_reducible exact LeO.none _)
   | (with_reducible refine LeO.ite ?_ ?_)
   | (with_reducible refine LeO.bind ?_ (fun _ => ?_))
   | exact ih0 _ _ _ _ _ _ _ _ _ _ _ _ _ _ _ _ _
   | exact ih1 _ _ _ _ _ _ _ _ _ _ _ _ _ _ _ _ _ _ _ _
   | exact impl_DataOK.mono _ _ _ _ _ _ _
   | exact impl_DictOK.mono _ _
   | exact impl_HostOK.mono _ _ _ _ _ _
   | exact impl_areCells.mono _ _ _
   | exact LeO.none _
   | refine LeO.ite ?_ ?_
   | refine LeO.bind ?_ (fun _ => ?_)
theorem impl_MachineOK.mono : ∀ a0 a1 a2 a3 a4 a5 a6 a7 a8 a9 a10 a11 a12 a13 a14 a15 k, LeO (impl_MachineOK.f k a0 a1 a2 a3 a4 a5 a6 a7 a8 a9 a10 a11 a12 a13 a14 a15) (impl_MachineOK.f (k + 1) a0 a1 a2 a3 a4 a5 a6 a7 a8 a9 a10 a11 a12 a13 a14 a15) := by
 intro a0 a1 a2 a3 a4 a5 a6 a7 a8 a9 a10 a11 a12 a13 a14 a15 k
 obtain ⟨ih0, ih1⟩ := impl_MachineOK.mono_l k
 unfold impl_MachineOK.f
 repeat' first
   | (with_reducible exact ih0 _ _ _ _ _ _ _ _ _ _ _ _ _ _ _ _ _)
   | (with_reducible exact ih1 _ _ _ _ _ _ _ _ _ _ _ _ _ _ _ _ _ _ _ _)
   | (with_reducible exact impl_DataOK.mono _ _ _ _ _ _ _)
   | (with_reducible exact impl_DictOK.mono _ _)
   | (with_reducible exact impl_HostOK.mono _ _ _ _ _ _)
   | (with_reducible exact impl_areCells.mono _ _ _)
   | (with_reducible exact LeO.refl _)
   | (with_reducible exact LeO.none _)
   | (with_reducible refine LeO.ite ?_ ?_)
   | (with_reducible refine LeO.bind ?_ (fun _ => ?_))
   | exact ih0 _ _ _ _ _ _ _ _ _ _ _ _ _ _ _ _ _
   | exact ih1 _ _ _ _ _ _ _ _ _ _ _ _ _ _ _ _ _ _ _ _
   | exact impl_DataOK.mono _ _ _ _ _ _ _
   | exact impl_DictOK.mono _ _
   | exact impl_HostOK.mono _ _ _ _ _ _
   | exact impl_areCells.mono _ _ _
   | exact LeO.none _
   | refine LeO.ite ?_ ?_
   | refine LeO.bind ?_ (fun _ => ?_)
set_option maxHeartbeats 8000000 in
set_option maxRecDepth 100000 in
theorem impl_MachineOK.calls (k : Nat) (A0_0 : Option Addr) (c0_0 : Nat) (l0_0 : List (S75)) (A0_1 : Option Addr) (c0_1 : Nat) (l0_1 : List Int) (A0_2 : Option Addr) (c0_2 : Nat) (l0_2 : List Int) (A0_3 : Option Addr) (c0_3 : Nat) (l0_3 : List Int) (A0_4 : Option Addr) (c0_4 : Nat) (l0_4 : List Int) (a0_5 : Int) (a0_6 : Int) (a0_7 : ByteArray) (A0_8 : Option Addr) (c0_8 : Nat) (l0_8 : List Bool) (A0_9 : Option Addr) (c0_9 : Nat) (l0_9 : List Int) (A0_10 : Option Addr) (c0_10 : Nat) (l0_10 : List Int) (a0_11 : Int) (A0_12 : Option Addr) (c0_12 : Nat) (l0_12 : List (S88)) (A0_13 : Option Addr) (c0_13 : Nat) (l0_13 : List (S63)) (a0_14 : Int) (a0_15 : Int) (r : Bool) (w : World) (hr0_0 : Kd.C k75 w A0_0 l0_0.length l0_0) (hc0_0 : l0_0.length ≤ c0_0) (hr0_1 : Kd.C (Kd.int .i64) w A0_1 l0_1.length l0_1) (hc0_1 : l0_1.length ≤ c0_1) (hr0_2 : Kd.C (Kd.int .i64) w A0_2 l0_2.length l0_2) (hc0_2 : l0_2.length ≤ c0_2) (hr0_3 : Kd.C (Kd.int .i64) w A0_3 l0_3.length l0_3) (hc0_3 : l0_3.length ≤ c0_3) (hr0_4 : Kd.C (Kd.int .i64) w A0_4 l0_4.length l0_4) (hc0_4 : l0_4.length ≤ c0_4) (hr0_8 : Kd.C Kd.bool w A0_8 l0_8.length l0_8) (hc0_8 : l0_8.length ≤ c0_8) (hr0_9 : Kd.C (Kd.int .i64) w A0_9 l0_9.length l0_9) (hc0_9 : l0_9.length ≤ c0_9) (hr0_10 : Kd.C (Kd.int .i64) w A0_10 l0_10.length l0_10) (hc0_10 : l0_10.length ≤ c0_10) (hr0_12 : Kd.C k88 w A0_12 l0_12.length l0_12) (hc0_12 : l0_12.length ≤ c0_12) (hr0_13 : Kd.C k63 w A0_13 l0_13.length l0_13) (hc0_13 : l0_13.length ≤ c0_13) (h : impl_MachineOK.f k l0_0 l0_1 l0_2 l0_3 l0_4 a0_5 a0_6 a0_7 l0_8 l0_9 l0_10 a0_11 l0_12 l0_13 a0_14 a0_15 = some r) (hG : GlobOK w := by first | exact HGL.out | exact GlobOK.below HGL.out HB.out | exact GlobOK.below HGL.out ybl_ | (repeat (first | exact HGL.out | apply GlobOK.drewN | apply GlobOK.drew | apply GlobOK.alloc))) :
  Calls Tryz.prog 8 #[.agg #[.slice A0_0 l0_0.length c0_0, .slice A0_1 l0_1.length c0_1, .slice A0_2 l0_2.length c0_2, .slice A0_3 l0_3.length c0_3, .slice A0_4 l0_4.length c0_4, .int .i64 a0_5, .int .i64 a0_6, .string a0_7, .slice A0_8 l0_8.length c0_8, .slice A0_9 l0_9.length c0_9, .slice A0_10 l0_10.length c0_10, .int .i64 a0_11, .slice A0_12 l0_12.length c0_12, .slice A0_13 l0_13.length c0_13, .int .i64 a0_14, .int .i64 a0_15]] w fun e w' => e = .returned (.bool r) ∧ Below w.heap.size w w' := by
 have HGL := am_ hG
 clear hG
 have hu42 := Tryz.underlying42
 have hu36 := Tryz.underlying36
 have hu39 := Tryz.underlying39
 have hu63 := Tryz.underlying63
 have HR0_0 := am_ hr0_0
 have HC0_0 := am_ hc0_0
 clear hr0_0 hc0_0
 have HR0_1 := am_ hr0_1
 have HC0_1 := am_ hc0_1
 clear hr0_1 hc0_1
 have HR0_2 := am_ hr0_2
 have HC0_2 := am_ hc0_2
 clear hr0_2 hc0_2
 have HR0_3 := am_ hr0_3
 have HC0_3 := am_ hc0_3
 clear hr0_3 hc0_3
 have HR0_4 := am_ hr0_4
 have HC0_4 := am_ hc0_4
 clear hr0_4 hc0_4
 have HR0_8 := am_ hr0_8
 have HC0_8 := am_ hc0_8
 clear hr0_8 hc0_8
 have HR0_9 := am_ hr0_9
 have HC0_9 := am_ hc0_9
 clear hr0_9 hc0_9
 have HR0_10 := am_ hr0_10
 have HC0_10 := am_ hc0_10
 clear hr0_10 hc0_10
 have HR0_12 := am_ hr0_12
 have HC0_12 := am_ hc0_12
 clear hr0_12 hc0_12
 have HR0_13 := am_ hr0_13
 have HC0_13 := am_ hc0_13
 clear hr0_13 hc0_13
 have HB := am_ (Below.refl w.heap.size w)
 have H : ((impl_DictOK.f k l0_0).bind fun t406 => (if t406 = true then ((impl_areCells.f k l0_1 400).bind fun t407 => (if t407 = true then ((impl_DataOK.f k l0_2 l0_3 l0_4 a0_5 a0_6 a0_7).bind fun t408 => (if t408 = true then ((impl_HostOK.f k l0_8 l0_9 l0_10 a0_11 l0_12).bind fun t409 => (if t409 = true then (if (l0_13.length : Int) > 16 then (impl_MachineOK.j0 k true l0_0 l0_1 l0_2 l0_3 l0_4 a0_5 a0_6 a0_7 l0_8 l0_9 l0_10 a0_11 l0_12 l0_13 a0_14 a0_15) else ((impl_in.f a0_14 0 2147483647).bind fun t410 => (if t410 = true then ((impl_in.f a0_15 0 4000).bind fun t411 => (impl_MachineOK.j0 k (!t411) l0_0 l0_1 l0_2 l0_3 l0_4 a0_5 a0_6 a0_7 l0_8 l0_9 l0_10 a0_11 l0_12 l0_13 a0_14 a0_15)) else (impl_MachineOK.j0 k true l0_0 l0_1 l0_2 l0_3 l0_4 a0_5 a0_6 a0_7 l0_8 l0_9 l0_10 a0_11 l0_12 l0_13 a0_14 a0_15)))) else (impl_MachineOK.j0 k true l0_0 l0_1 l0_2 l0_3 l0_4 a0_5 a0_6 a0_7 l0_8 l0_9 l0_10 a0_11 l0_12 l0_13 a0_14 a0_15))) else (impl_MachineOK.j0 k true l0_0 l0_1 l0_2 l0_3 l0_4 a0_5 a0_6 a0_7 l0_8 l0_9 l0_10 a0_11 l0_12 l0_13 a0_14 a0_15))) else (impl_MachineOK.j0 k true l0_0 l0_1 l0_2 l0_3 l0_4 a0_5 a0_6 a0_7 l0_8 l0_9 l0_10 a0_11 l0_12 l0_13 a0_14 a0_15))) else (impl_MachineOK.j0 k true l0_0 l0_1 l0_2 l0_3 l0_4 a0_5 a0_6 a0_7 l0_8 l0_9 l0_10 a0_11 l0_12 l0_13 a0_14 a0_15))) = some r := h
 clear h
 have HC2 := am_ H
 clear H
 go_enter Tryz.func8, Tryz.ntmps8
 go_upto_region 1 with (first | ((with_reducible refine gate_dst (N := 1) rfl ?_); (try (refine gate_guard (by rfl) ?_; dsimp only)); refine box_event ?hg (N := 1) ?hd (cs := #[.slice A0_0 l0_0.length c0_0, .slice A0_1 l0_1.length c0_1, .slice A0_2 l0_2.length c0_2, .slice A0_3 l0_3.length c0_3, .slice A0_4 l0_4.length c0_4, .int .i64 a0_5, .int .i64 a0_6, .string a0_7, .slice A0_8 l0_8.length c0_8, .slice A0_9 l0_9.length c0_9, .slice A0_10 l0_10.length c0_10, .int .i64 a0_11, .slice A0_12 l0_12.length c0_12, .slice A0_13 l0_13.length c0_13, .int .i64 a0_14, .int .i64 a0_15]) (t := 42) ?hr ?_; (case hd => rfl); (case hg => rfl); (case hr => first | (go_simp; done) | (go_simp; rfl)); intro gb405 hg w3 hbox hb; have BK405 := am_ (hbox); have GW405 := am_ ((ybsz_ hg : w.heap.size ≤ gb405)); have GE405 := GW405; replace HB := yst_ hb; clear hb hbox hg))
 (try simp only [Act.put, List.setIfInBounds_toArray, List.set_cons_zero, List.set_cons_succ])
 go_cut [45] (fun v45 wc => ∃ (kq : Nat) (x45_1 : Bool), v45 = .bool x45_1 ∧ Aside0 (impl_MachineOK.j0 kq x45_1 l0_0 l0_1 l0_2 l0_3 l0_4 a0_5 a0_6 a0_7 l0_8 l0_9 l0_10 a0_11 l0_12 l0_13 a0_14 a0_15 = some r) ∧ Aside0 (kq ≤ k) ∧ Aside0 (wc.heap[gb405]? = some (.cells #[(.slice A0_0 l0_0.length c0_0), (.slice A0_1 l0_1.length c0_1), (.slice A0_2 l0_2.length c0_2), (.slice A0_3 l0_3.length c0_3), (.slice A0_4 l0_4.length c0_4), .int .i64 a0_5, .int .i64 a0_6, .string a0_7, (.slice A0_8 l0_8.length c0_8), (.slice A0_9 l0_9.length c0_9), (.slice A0_10 l0_10.length c0_10), .int .i64 a0_11, (.slice A0_12 l0_12.length c0_12), (.slice A0_13 l0_13.length c0_13), .int .i64 a0_14, .int .i64 a0_15] 42 (0, 0))) ∧ Aside0 (Below w.heap.size w wc))
 case first =>
  have H := HC2.out
  clear HC2
  replace H := Option.bind_eq_some_iff.mp H
  obtain ⟨t406, A40, H⟩ := H
  replace H : (if t406 = true then ((impl_areCells.f k l0_1 400).bind fun t407 => (if t407 = true then ((impl_DataOK.f k l0_2 l0_3 l0_4 a0_5 a0_6 a0_7).bind fun t408 => (if t408 = true then ((impl_HostOK.f k l0_8 l0_9 l0_10 a0_11 l0_12).bind fun t409 => (if t409 = true then (if (l0_13.length : Int) > 16 then (impl_MachineOK.j0 k true l0_0 l0_1 l0_2 l0_3 l0_4 a0_5 a0_6 a0_7 l0_8 l0_9 l0_10 a0_11 l0_12 l0_13 a0_14 a0_15) else ((impl_in.f a0_14 0 2147483647).bind fun t410 => (if t410 = true then ((impl_in.f a0_15 0 4000).bind fun t411 => (impl_MachineOK.j0 k (!t411) l0_0 l0_1 l0_2 l0_3 l0_4 a0_5 a0_6 a0_7 l0_8 l0_9 l0_10 a0_11 l0_12 l0_13 a0_14 a0_15)) else (impl_MachineOK.j0 k true l0_0 l0_1 l0_2 l0_3 l0_4 a0_5 a0_6 a0_7 l0_8 l0_9 l0_10 a0_11 l0_12 l0_13 a0_14 a0_15)))) else (impl_MachineOK.j0 k true l0_0 l0_1 l0_2 l0_3 l0_4 a0_5 a0_6 a0_7 l0_8 l0_9 l0_10 a0_11 l0_12 l0_13 a0_14 a0_15))) else (impl_MachineOK.j0 k true l0_0 l0_1 l0_2 l0_3 l0_4 a0_5 a0_6 a0_7 l0_8 l0_9 l0_10 a0_11 l0_12 l0_13 a0_14 a0_15))) else (impl_MachineOK.j0 k true l0_0 l0_1 l0_2 l0_3 l0_4 a0_5 a0_6 a0_7 l0_8 l0_9 l0_10 a0_11 l0_12 l0_13 a0_14 a0_15))) else (impl_MachineOK.j0 k true l0_0 l0_1 l0_2 l0_3 l0_4 a0_5 a0_6 a0_7 l0_8 l0_9 l0_10 a0_11 l0_12 l0_13 a0_14 a0_15)) = some r := H
  have A4 := am_ A40
  clear A40
  by_cases c5 : t406 = true
  ·subst c5
   have H1 : ((impl_areCells.f k l0_1 400).bind fun t407 => (if t407 = true then ((impl_DataOK.f k l0_2 l0_3 l0_4 a0_5 a0_6 a0_7).bind fun t408 => (if t408 = true then ((impl_HostOK.f k l0_8 l0_9 l0_10 a0_11 l0_12).bind fun t409 => (if t409 = true then (if (l0_13.length : Int) > 16 then (impl_MachineOK.j0 k true l0_0 l0_1 l0_2 l0_3 l0_4 a0_5 a0_6 a0_7 l0_8 l0_9 l0_10 a0_11 l0_12 l0_13 a0_14 a0_15) else ((impl_in.f a0_14 0 2147483647).bind fun t410 => (if t410 = true then ((impl_in.f a0_15 0 4000).bind fun t411 => (impl_MachineOK.j0 k (!t411) l0_0 l0_1 l0_2 l0_3 l0_4 a0_5 a0_6 a0_7 l0_8 l0_9 l0_10 a0_11 l0_12 l0_13 a0_14 a0_15)) else (impl_MachineOK.j0 k true l0_0 l0_1 l0_2 l0_3 l0_4 a0_5 a0_6 a0_7 l0_8 l0_9 l0_10 a0_11 l0_12 l0_13 a0_14 a0_15)))) else (impl_MachineOK.j0 k true l0_0 l0_1 l0_2 l0_3 l0_4 a0_5 a0_6 a0_7 l0_8 l0_9 l0_10 a0_11 l0_12 l0_13 a0_14 a0_15))) else (impl_MachineOK.j0 k true l0_0 l0_1 l0_2 l0_3 l0_4 a0_5 a0_6 a0_7 l0_8 l0_9 l0_10 a0_11 l0_12 l0_13 a0_14 a0_15))) else (impl_MachineOK.j0 k true l0_0 l0_1 l0_2 l0_3 l0_4 a0_5 a0_6 a0_7 l0_8 l0_9 l0_10 a0_11 l0_12 l0_13 a0_14 a0_15))) = some r := by rw [if_pos rfl] at H; first | done | exact H
   clear H
   have H := H1
   clear H1
   replace H := Option.bind_eq_some_iff.mp H
   obtain ⟨t407, A60, H⟩ := H
   replace H : (if t407 = true then ((impl_DataOK.f k l0_2 l0_3 l0_4 a0_5 a0_6 a0_7).bind fun t408 => (if t408 = true then ((impl_HostOK.f k l0_8 l0_9 l0_10 a0_11 l0_12).bind fun t409 => (if t409 = true then (if (l0_13.length : Int) > 16 then (impl_MachineOK.j0 k true l0_0 l0_1 l0_2 l0_3 l0_4 a0_5 a0_6 a0_7 l0_8 l0_9 l0_10 a0_11 l0_12 l0_13 a0_14 a0_15) else ((impl_in.f a0_14 0 2147483647).bind fun t410 => (if t410 = true then ((impl_in.f a0_15 0 4000).bind fun t411 => (impl_MachineOK.j0 k (!t411) l0_0 l0_1 l0_2 l0_3 l0_4 a0_5 a0_6 a0_7 l0_8 l0_9 l0_10 a0_11 l0_12 l0_13 a0_14 a0_15)) else (impl_MachineOK.j0 k true l0_0 l0_1 l0_2 l0_3 l0_4 a0_5 a0_6 a0_7 l0_8 l0_9 l0_10 a0_11 l0_12 l0_13 a0_14 a0_15)))) else (impl_MachineOK.j0 k true l0_0 l0_1 l0_2 l0_3 l0_4 a0_5 a0_6 a0_7 l0_8 l0_9 l0_10 a0_11 l0_12 l0_13 a0_14 a0_15))) else (impl_MachineOK.j0 k true l0_0 l0_1 l0_2 l0_3 l0_4 a0_5 a0_6 a0_7 l0_8 l0_9 l0_10 a0_11 l0_12 l0_13 a0_14 a0_15))) else (impl_MachineOK.j0 k true l0_0 l0_1 l0_2 l0_3 l0_4 a0_5 a0_6 a0_7 l0_8 l0_9 l0_10 a0_11 l0_12 l0_13 a0_14 a0_15)) = some r := H
   have A6 := am_ A60
   clear A60
   by_cases c7 : t407 = true
   ·subst c7
    have H1 : ((impl_DataOK.f k l0_2 l0_3 l0_4 a0_5 a0_6 a0_7).bind fun t408 => (if t408 = true then ((impl_HostOK.f k l0_8 l0_9 l0_10 a0_11 l0_12).bind fun t409 => (if t409 = true then (if (l0_13.length : Int) > 16 then (impl_MachineOK.j0 k true l0_0 l0_1 l0_2 l0_3 l0_4 a0_5 a0_6 a0_7 l0_8 l0_9 l0_10 a0_11 l0_12 l0_13 a0_14 a0_15) else ((impl_in.f a0_14 0 2147483647).bind fun t410 => (if t410 = true then ((impl_in.f a0_15 0 4000).bind fun t411 => (impl_MachineOK.j0 k (!t411) l0_0 l0_1 l0_2 l0_3 l0_4 a0_5 a0_6 a0_7 l0_8 l0_9 l0_10 a0_11 l0_12 l0_13 a0_14 a0_15)) else (impl_MachineOK.j0 k true l0_0 l0_1 l0_2 l0_3 l0_4 a0_5 a0_6 a0_7 l0_8 l0_9 l0_10 a0_11 l0_12 l0_13 a0_14 a0_15)))) else (impl_MachineOK.j0 k true l0_0 l0_1 l0_2 l0_3 l0_4 a0_5 a0_6 a0_7 l0_8 l0_9 l0_10 a0_11 l0_12 l0_13 a0_14 a0_15))) else (impl_MachineOK.j0 k true l0_0 l0_1 l0_2 l0_3 l0_4 a0_5 a0_6 a0_7 l0_8 l0_9 l0_10 a0_11 l0_12 l0_13 a0_14 a0_15))) = some r := by rw [if_pos rfl] at H; first | done | exact H
    clear H
    have H := H1
    clear H1
    replace H := Option.bind_eq_some_iff.mp H
    obtain ⟨t408, A80, H⟩ := H
    replace H : (if t408 = true then ((impl_HostOK.f k l0_8 l0_9 l0_10 a0_11 l0_12).bind fun t409 => (if t409 = true then (if (l0_13.length : Int) > 16 then (impl_MachineOK.j0 k true l0_0 l0_1 l0_2 l0_3 l0_4 a0_5 a0_6 a0_7 l0_8 l0_9 l0_10 a0_11 l0_12 l0_13 a0_14 a0_15) else ((impl_in.f a0_14 0 2147483647).bind fun t410 => (if t410 = true then ((impl_in.f a0_15 0 4000).bind fun t411 => (impl_MachineOK.j0 k (!t411) l0_0 l0_1 l0_2 l0_3 l0_4 a0_5 a0_6 a0_7 l0_8 l0_9 l0_10 a0_11 l0_12 l0_13 a0_14 a0_15)) else (impl_MachineOK.j0 k true l0_0 l0_1 l0_2 l0_3 l0_4 a0_5 a0_6 a0_7 l0_8 l0_9 l0_10 a0_11 l0_12 l0_13 a0_14 a0_15)))) else (impl_MachineOK.j0 k true l0_0 l0_1 l0_2 l0_3 l0_4 a0_5 a0_6 a0_7 l0_8 l0_9 l0_10 a0_11 l0_12 l0_13 a0_14 a0_15))) else (impl_MachineOK.j0 k true l0_0 l0_1 l0_2 l0_3 l0_4 a0_5 a0_6 a0_7 l0_8 l0_9 l0_10 a0_11 l0_12 l0_13 a0_14 a0_15)) = some r := H
    have A8 := am_ A80
    clear A80
    by_cases c9 : t408 = true
    ·subst c9
     have H1 : ((impl_HostOK.f k l0_8 l0_9 l0_10 a0_11 l0_12).bind fun t409 => (if t409 = true then (if (l0_13.length : Int) > 16 then (impl_MachineOK.j0 k true l0_0 l0_1 l0_2 l0_3 l0_4 a0_5 a0_6 a0_7 l0_8 l0_9 l0_10 a0_11 l0_12 l0_13 a0_14 a0_15) else ((impl_in.f a0_14 0 2147483647).bind fun t410 => (if t410 = true then ((impl_in.f a0_15 0 4000).bind fun t411 => (impl_MachineOK.j0 k (!t411) l0_0 l0_1 l0_2 l0_3 l0_4 a0_5 a0_6 a0_7 l0_8 l0_9 l0_10 a0_11 l0_12 l0_13 a0_14 a0_15)) else (impl_MachineOK.j0 k true l0_0 l0_1 l0_2 l0_3 l0_4 a0_5 a0_6 a0_7 l0_8 l0_9 l0_10 a0_11 l0_12 l0_13 a0_14 a0_15)))) else (impl_MachineOK.j0 k true l0_0 l0_1 l0_2 l0_3 l0_4 a0_5 a0_6 a0_7 l0_8 l0_9 l0_10 a0_11 l0_12 l0_13 a0_14 a0_15))) = some r := by rw [if_pos rfl] at H; first | done | exact H
     clear H
     have H := H1
     clear H1
     replace H := Option.bind_eq_some_iff.mp H
     obtain ⟨t409, A100, H⟩ := H
     replace H : (if t409 = true then (if (l0_13.length : Int) > 16 then (impl_MachineOK.j0 k true l0_0 l0_1 l0_2 l0_3 l0_4 a0_5 a0_6 a0_7 l0_8 l0_9 l0_10 a0_11 l0_12 l0_13 a0_14 a0_15) else ((impl_in.f a0_14 0 2147483647).bind fun t410 => (if t410 = true then ((impl_in.f a0_15 0 4000).bind fun t411 => (impl_MachineOK.j0 k (!t411) l0_0 l0_1 l0_2 l0_3 l0_4 a0_5 a0_6 a0_7 l0_8 l0_9 l0_10 a0_11 l0_12 l0_13 a0_14 a0_15)) else (impl_MachineOK.j0 k true l0_0 l0_1 l0_2 l0_3 l0_4 a0_5 a0_6 a0_7 l0_8 l0_9 l0_10 a0_11 l0_12 l0_13 a0_14 a0_15)))) else (impl_MachineOK.j0 k true l0_0 l0_1 l0_2 l0_3 l0_4 a0_5 a0_6 a0_7 l0_8 l0_9 l0_10 a0_11 l0_12 l0_13 a0_14 a0_15)) = some r := H
     have A10 := am_ A100
     clear A100
     by_cases c11 : t409 = true
     ·subst c11
      have H1 : (if (l0_13.length : Int) > 16 then (impl_MachineOK.j0 k true l0_0 l0_1 l0_2 l0_3 l0_4 a0_5 a0_6 a0_7 l0_8 l0_9 l0_10 a0_11 l0_12 l0_13 a0_14 a0_15) else ((impl_in.f a0_14 0 2147483647).bind fun t410 => (if t410 = true then ((impl_in.f a0_15 0 4000).bind fun t411 => (impl_MachineOK.j0 k (!t411) l0_0 l0_1 l0_2 l0_3 l0_4 a0_5 a0_6 a0_7 l0_8 l0_9 l0_10 a0_11 l0_12 l0_13 a0_14 a0_15)) else (impl_MachineOK.j0 k true l0_0 l0_1 l0_2 l0_3 l0_4 a0_5 a0_6 a0_7 l0_8 l0_9 l0_10 a0_11 l0_12 l0_13 a0_14 a0_15)))) = some r := by rw [if_pos rfl] at H; first | done | exact H
      clear H
      have H := H1
      clear H1
      by_cases c12 : (l0_13.length : Int) > 16
      ·rw [if_pos c12] at H
       have c12b0 : decide (16 < (l0_13.length : Int)) = true := decide_eq_true c12
       have c12b1 : decide (16 < l0_13.length) = true := decide_eq_true (by omega)
       clear c12
       (first | rw [c12b0] | (simp only [i64_w, i32_w]; rw [c12b0]) | skip)
       have H' := am_ H
       clear H
       have hcz13 := ye16_ BK405
       have hfz13 := yf16_ BK405
       go_wp2_with (first | ((with_reducible refine gate_callee (f := 23) rfl ?_); refine goesL_ (some 8) rfl rfl Tryz.func23 (by kernel_rfl) rfl #[.slice A0_0 l0_0.length c0_0] rfl yk1_ ?_; (with_reducible refine (impl_DictOK.calls k _ _ l0_0 true _ ?side1 HC0_0.out A4.out).mono ?_); (case side1 => exact ycb_ HR0_0 HB); rintro e w14 ⟨rfl, hb⟩; refine ⟨_, rfl, ?_⟩; replace BK405 := am_ (ybb_ BK405 hb); replace HB := yst_ hb; (try clear hb); (try clear hb2); (try clear hk); (try clear hi); have hcz15 := ye16_ BK405; have hfz15 := yf16_ BK405) | (go_at_call 24; (with_reducible refine (impl_areCells.calls k _ _ l0_1 400 true _ ?side1 HC0_1.out A6.out).mono ?_); (case side1 => exact ycb_ HR0_1 HB); rintro e w' ⟨rfl, ⟨nd, rfl⟩⟩) | (go_at_call 25; (with_reducible refine (impl_DataOK.calls k _ _ l0_2 _ _ l0_3 _ _ l0_4 a0_5 a0_6 a0_7 true _ ?side1 HC0_2.out ?side3 HC0_3.out ?side5 HC0_4.out A8.out).mono ?_); (case side1 => exact yscq_ HR0_2); (case side3 => exact yscq_ HR0_3); (case side5 => exact yscq_ HR0_4); rintro e w16 ⟨rfl, hb⟩; replace BK405 := am_ (ybb_ BK405 hb); replace HB := yst_ hb; (try clear hb); (try clear hb2); (try clear hk); (try clear hi); have hcz17 := ye16_ BK405; have hfz17 := yf16_ BK405) | (go_at_call 26; (with_reducible refine (impl_HostOK.calls k _ _ l0_8 _ _ l0_9 _ _ l0_10 a0_11 _ _ l0_12 true _ ?side1 HC0_8.out ?side3 HC0_9.out ?side5 HC0_10.out ?side7 HC0_12.out A10.out).mono ?_); (case side1 => exact ycb_ HR0_8 HB); (case side3 => exact ycb_ HR0_9 HB); (case side5 => exact ycb_ HR0_10 HB); (case side7 => exact ycb_ HR0_12 HB); rintro e w18 ⟨rfl, hb⟩; replace BK405 := am_ (ybb_ BK405 hb); replace HB := yst_ hb; (try clear hb); (try clear hb2); (try clear hk); (try clear hi); have hcz19 := ye16_ BK405; have hfz19 := yf16_ BK405))
       go_meet
       case rel => exact ⟨_, (true), (by first | rfl | (simp; done) | (simp [*]; done)), H', ⟨by first | omega | exact Nat.le_refl _⟩, ⟨(ybu_ BK405)⟩, ⟨ybl_⟩⟩
      ·rw [if_neg c12] at H
       have c12b0 : decide (16 < (l0_13.length : Int)) = false := decide_eq_false c12
       have c12b1 : decide (16 < l0_13.length) = false := decide_eq_false (by omega)
       clear c12
       (first | rw [c12b0] | (simp only [i64_w, i32_w]; rw [c12b0]) | skip)
       replace H := Option.bind_eq_some_iff.mp H
       obtain ⟨t410, A200, H⟩ := H
       replace H : (if t410 = true then ((impl_in.f a0_15 0 4000).bind fun t411 => (impl_MachineOK.j0 k (!t411) l0_0 l0_1 l0_2 l0_3 l0_4 a0_5 a0_6 a0_7 l0_8 l0_9 l0_10 a0_11 l0_12 l0_13 a0_14 a0_15)) else (impl_MachineOK.j0 k true l0_0 l0_1 l0_2 l0_3 l0_4 a0_5 a0_6 a0_7 l0_8 l0_9 l0_10 a0_11 l0_12 l0_13 a0_14 a0_15)) = some r := H
       have A20 := am_ A200
       clear A200
       by_cases c21 : t410 = true
       ·subst c21
        have H1 : ((impl_in.f a0_15 0 4000).bind fun t411 => (impl_MachineOK.j0 k (!t411) l0_0 l0_1 l0_2 l0_3 l0_4 a0_5 a0_6 a0_7 l0_8 l0_9 l0_10 a0_11 l0_12 l0_13 a0_14 a0_15)) = some r := by rw [if_pos rfl] at H; first | done | exact H
        clear H
        have H := H1
        clear H1
        replace H := Option.bind_eq_some_iff.mp H
        obtain ⟨t411, A220, H⟩ := H
        replace H : (impl_MachineOK.j0 k (!t411) l0_0 l0_1 l0_2 l0_3 l0_4 a0_5 a0_6 a0_7 l0_8 l0_9 l0_10 a0_11 l0_12 l0_13 a0_14 a0_15) = some r := H
        have A22 := am_ A220
        clear A220
        have H' := am_ H
        clear H
        have hcz23 := ye16_ BK405
        have hfz23 := yf16_ BK405
        go_wp2_with (first | ((with_reducible refine gate_callee (f := 23) rfl ?_); refine goesL_ (some 8) rfl rfl Tryz.func23 (by kernel_rfl) rfl #[.slice A0_0 l0_0.length c0_0] rfl yk1_ ?_; (with_reducible refine (impl_DictOK.calls k _ _ l0_0 true _ ?side1 HC0_0.out A4.out).mono ?_); (case side1 => exact ycb_ HR0_0 HB); rintro e w24 ⟨rfl, hb⟩; refine ⟨_, rfl, ?_⟩; replace BK405 := am_ (ybb_ BK405 hb); replace HB := yst_ hb; (try clear hb); (try clear hb2); (try clear hk); (try clear hi); have hcz25 := ye16_ BK405; have hfz25 := yf16_ BK405) | (go_at_call 24; (with_reducible refine (impl_areCells.calls k _ _ l0_1 400 true _ ?side1 HC0_1.out A6.out).mono ?_); (case side1 => exact ycb_ HR0_1 HB); rintro e w' ⟨rfl, ⟨nd, rfl⟩⟩) | (go_at_call 25; (with_reducible refine (impl_DataOK.calls k _ _ l0_2 _ _ l0_3 _ _ l0_4 a0_5 a0_6 a0_7 true _ ?side1 HC0_2.out ?side3 HC0_3.out ?side5 HC0_4.out A8.out).mono ?_); (case side1 => exact yscq_ HR0_2); (case side3 => exact yscq_ HR0_3); (case side5 => exact yscq_ HR0_4); rintro e w26 ⟨rfl, hb⟩; replace BK405 := am_ (ybb_ BK405 hb); replace HB := yst_ hb; (try clear hb); (try clear hb2); (try clear hk); (try clear hi); have hcz27 := ye16_ BK405; have hfz27 := yf16_ BK405) | (go_at_call 26; (with_reducible refine (impl_HostOK.calls k _ _ l0_8 _ _ l0_9 _ _ l0_10 a0_11 _ _ l0_12 true _ ?side1 HC0_8.out ?side3 HC0_9.out ?side5 HC0_10.out ?side7 HC0_12.out A10.out).mono ?_); (case side1 => exact ycb_ HR0_8 HB); (case side3 => exact ycb_ HR0_9 HB); (case side5 => exact ycb_ HR0_10 HB); (case side7 => exact ycb_ HR0_12 HB); rintro e w28 ⟨rfl, hb⟩; replace BK405 := am_ (ybb_ BK405 hb); replace HB := yst_ hb; (try clear hb); (try clear hb2); (try clear hk); (try clear hi); have hcz29 := ye16_ BK405; have hfz29 := yf16_ BK405) | (go_at_call 27; (with_reducible refine (impl_in.calls a0_14 0 2147483647 true _ A20.out).mono ?_); rintro e w' ⟨rfl, ⟨nd, rfl⟩⟩) | (go_at_call 27; (with_reducible refine (impl_in.calls a0_15 0 4000 t411 _ A22.out).mono ?_); rintro e w' ⟨rfl, ⟨nd, rfl⟩⟩))
        go_meet
        case rel => exact ⟨_, (!t411), (by first | rfl | (simp; done) | (simp [*]; done)), H', ⟨by first | omega | exact Nat.le_refl _⟩, ⟨(ybu_ BK405)⟩, ⟨ybl_⟩⟩
       ·replace c21 := Bool.eq_false_iff.mpr c21
        subst c21
        have H1 : (impl_MachineOK.j0 k true l0_0 l0_1 l0_2 l0_3 l0_4 a0_5 a0_6 a0_7 l0_8 l0_9 l0_10 a0_11 l0_12 l0_13 a0_14 a0_15) = some r := by rw [if_neg (show ¬ (false = true) by decide)] at H; first | done | exact H
        clear H
        have H := H1
        clear H1
        have H' := am_ H
        clear H
        have hcz30 := ye16_ BK405
        have hfz30 := yf16_ BK405
        go_wp2_with (first | ((with_reducible refine gate_callee (f := 23) rfl ?_); refine goesL_ (some 8) rfl rfl Tryz.func23 (by kernel_rfl) rfl #[.slice A0_0 l0_0.length c0_0] rfl yk1_ ?_; (with_reducible refine (impl_DictOK.calls k _ _ l0_0 true _ ?side1 HC0_0.out A4.out).mono ?_); (case side1 => exact ycb_ HR0_0 HB); rintro e w31 ⟨rfl, hb⟩; refine ⟨_, rfl, ?_⟩; replace BK405 := am_ (ybb_ BK405 hb); replace HB := yst_ hb; (try clear hb); (try clear hb2); (try clear hk); (try clear hi); have hcz32 := ye16_ BK405; have hfz32 := yf16_ BK405) | (go_at_call 24; (with_reducible refine (impl_areCells.calls k _ _ l0_1 400 true _ ?side1 HC0_1.out A6.out).mono ?_); (case side1 => exact ycb_ HR0_1 HB); rintro e w' ⟨rfl, ⟨nd, rfl⟩⟩) | (go_at_call 25; (with_reducible refine (impl_DataOK.calls k _ _ l0_2 _ _ l0_3 _ _ l0_4 a0_5 a0_6 a0_7 true _ ?side1 HC0_2.out ?side3 HC0_3.out ?side5 HC0_4.out A8.out).mono ?_); (case side1 => exact yscq_ HR0_2); (case side3 => exact yscq_ HR0_3); (case side5 => exact yscq_ HR0_4); rintro e w33 ⟨rfl, hb⟩; replace BK405 := am_ (ybb_ BK405 hb); replace HB := yst_ hb; (try clear hb); (try clear hb2); (try clear hk); (try clear hi); have hcz34 := ye16_ BK405; have hfz34 := yf16_ BK405) | (go_at_call 26; (with_reducible refine (impl_HostOK.calls k _ _ l0_8 _ _ l0_9 _ _ l0_10 a0_11 _ _ l0_12 true _ ?side1 HC0_8.out ?side3 HC0_9.out ?side5 HC0_10.out ?side7 HC0_12.out A10.out).mono ?_); (case side1 => exact ycb_ HR0_8 HB); (case side3 => exact ycb_ HR0_9 HB); (case side5 => exact ycb_ HR0_10 HB); (case side7 => exact ycb_ HR0_12 HB); rintro e w35 ⟨rfl, hb⟩; replace BK405 := am_ (ybb_ BK405 hb); replace HB := yst_ hb; (try clear hb); (try clear hb2); (try clear hk); (try clear hi); have hcz36 := ye16_ BK405; have hfz36 := yf16_ BK405) | (go_at_call 27; (with_reducible refine (impl_in.calls a0_14 0 2147483647 false _ A20.out).mono ?_); rintro e w' ⟨rfl, ⟨nd, rfl⟩⟩))
        go_meet
        case rel => exact ⟨_, (true), (by first | rfl | (simp; done) | (simp [*]; done)), H', ⟨by first | omega | exact Nat.le_refl _⟩, ⟨(ybu_ BK405)⟩, ⟨ybl_⟩⟩
     ·replace c11 := Bool.eq_false_iff.mpr c11
      subst c11
      have H1 : (impl_MachineOK.j0 k true l0_0 l0_1 l0_2 l0_3 l0_4 a0_5 a0_6 a0_7 l0_8 l0_9 l0_10 a0_11 l0_12 l0_13 a0_14 a0_15) = some r := by rw [if_neg (show ¬ (false = true) by decide)] at H; first | done | exact H
      clear H
      have H := H1
      clear H1
      have H' := am_ H
      clear H
      have hcz37 := ye16_ BK405
      have hfz37 := yf16_ BK405
      go_wp2_with (first | ((with_reducible refine gate_callee (f := 23) rfl ?_); refine goesL_ (some 8) rfl rfl Tryz.func23 (by kernel_rfl) rfl #[.slice A0_0 l0_0.length c0_0] rfl yk1_ ?_; (with_reducible refine (impl_DictOK.calls k _ _ l0_0 true _ ?side1 HC0_0.out A4.out).mono ?_); (case side1 => exact ycb_ HR0_0 HB); rintro e w38 ⟨rfl, hb⟩; refine ⟨_, rfl, ?_⟩; replace BK405 := am_ (ybb_ BK405 hb); replace HB := yst_ hb; (try clear hb); (try clear hb2); (try clear hk); (try clear hi); have hcz39 := ye16_ BK405; have hfz39 := yf16_ BK405) | (go_at_call 24; (with_reducible refine (impl_areCells.calls k _ _ l0_1 400 true _ ?side1 HC0_1.out A6.out).mono ?_); (case side1 => exact ycb_ HR0_1 HB); rintro e w' ⟨rfl, ⟨nd, rfl⟩⟩) | (go_at_call 25; (with_reducible refine (impl_DataOK.calls k _ _ l0_2 _ _ l0_3 _ _ l0_4 a0_5 a0_6 a0_7 true _ ?side1 HC0_2.out ?side3 HC0_3.out ?side5 HC0_4.out A8.out).mono ?_); (case side1 => exact yscq_ HR0_2); (case side3 => exact yscq_ HR0_3); (case side5 => exact yscq_ HR0_4); rintro e w40 ⟨rfl, hb⟩; replace BK405 := am_ (ybb_ BK405 hb); replace HB := yst_ hb; (try clear hb); (try clear hb2); (try clear hk); (try clear hi); have hcz41 := ye16_ BK405; have hfz41 := yf16_ BK405) | (go_at_call 26; (with_reducible refine (impl_HostOK.calls k _ _ l0_8 _ _ l0_9 _ _ l0_10 a0_11 _ _ l0_12 false _ ?side1 HC0_8.out ?side3 HC0_9.out ?side5 HC0_10.out ?side7 HC0_12.out A10.out).mono ?_); (case side1 => exact ycb_ HR0_8 HB); (case side3 => exact ycb_ HR0_9 HB); (case side5 => exact ycb_ HR0_10 HB); (case side7 => exact ycb_ HR0_12 HB); rintro e w42 ⟨rfl, hb⟩; replace BK405 := am_ (ybb_ BK405 hb); replace HB := yst_ hb; (try clear hb); (try clear hb2); (try clear hk); (try clear hi)))
      go_meet
      case rel => exact ⟨_, (true), (by first | rfl | (simp; done) | (simp [*]; done)), H', ⟨by first | omega | exact Nat.le_refl _⟩, ⟨(ybu_ BK405)⟩, ⟨ybl_⟩⟩
    ·replace c9 := Bool.eq_false_iff.mpr c9
     subst c9
     have H1 : (impl_MachineOK.j0 k true l0_0 l0_1 l0_2 l0_3 l0_4 a0_5 a0_6 a0_7 l0_8 l0_9 l0_10 a0_11 l0_12 l0_13 a0_14 a0_15) = some r := by rw [if_neg (show ¬ (false = true) by decide)] at H; first | done | exact H
     clear H
     have H := H1
     clear H1
     have H' := am_ H
     clear H
     have hcz43 := ye16_ BK405
     have hfz43 := yf16_ BK405
     go_wp2_with (first | ((with_reducible refine gate_callee (f := 23) rfl ?_); refine goesL_ (some 8) rfl rfl Tryz.func23 (by kernel_rfl) rfl #[.slice A0_0 l0_0.length c0_0] rfl yk1_ ?_; (with_reducible refine (impl_DictOK.calls k _ _ l0_0 true _ ?side1 HC0_0.out A4.out).mono ?_); (case side1 => exact ycb_ HR0_0 HB); rintro e w44 ⟨rfl, hb⟩; refine ⟨_, rfl, ?_⟩; replace BK405 := am_ (ybb_ BK405 hb); replace HB := yst_ hb; (try clear hb); (try clear hb2); (try clear hk); (try clear hi); have hcz45 := ye16_ BK405; have hfz45 := yf16_ BK405) | (go_at_call 24; (with_reducible refine (impl_areCells.calls k _ _ l0_1 400 true _ ?side1 HC0_1.out A6.out).mono ?_); (case side1 => exact ycb_ HR0_1 HB); rintro e w' ⟨rfl, ⟨nd, rfl⟩⟩) | (go_at_call 25; (with_reducible refine (impl_DataOK.calls k _ _ l0_2 _ _ l0_3 _ _ l0_4 a0_5 a0_6 a0_7 false _ ?side1 HC0_2.out ?side3 HC0_3.out ?side5 HC0_4.out A8.out).mono ?_); (case side1 => exact yscq_ HR0_2); (case side3 => exact yscq_ HR0_3); (case side5 => exact yscq_ HR0_4); rintro e w46 ⟨rfl, hb⟩; replace BK405 := am_ (ybb_ BK405 hb); replace HB := yst_ hb; (try clear hb); (try clear hb2); (try clear hk); (try clear hi)))
     go_meet
     case rel => exact ⟨_, (true), (by first | rfl | (simp; done) | (simp [*]; done)), H', ⟨by first | omega | exact Nat.le_refl _⟩, ⟨(ybu_ BK405)⟩, ⟨ybl_⟩⟩
   ·replace c7 := Bool.eq_false_iff.mpr c7
    subst c7
    have H1 : (impl_MachineOK.j0 k true l0_0 l0_1 l0_2 l0_3 l0_4 a0_5 a0_6 a0_7 l0_8 l0_9 l0_10 a0_11 l0_12 l0_13 a0_14 a0_15) = some r := by rw [if_neg (show ¬ (false = true) by decide)] at H; first | done | exact H
    clear H
    have H := H1
    clear H1
    have H' := am_ H
    clear H
    have hcz47 := ye16_ BK405
    have hfz47 := yf16_ BK405
    go_wp2_with (first | ((with_reducible refine gate_callee (f := 23) rfl ?_); refine goesL_ (some 8) rfl rfl Tryz.func23 (by kernel_rfl) rfl #[.slice A0_0 l0_0.length c0_0] rfl yk1_ ?_; (with_reducible refine (impl_DictOK.calls k _ _ l0_0 true _ ?side1 HC0_0.out A4.out).mono ?_); (case side1 => exact ycb_ HR0_0 HB); rintro e w48 ⟨rfl, hb⟩; refine ⟨_, rfl, ?_⟩; replace BK405 := am_ (ybb_ BK405 hb); replace HB := yst_ hb; (try clear hb); (try clear hb2); (try clear hk); (try clear hi); have hcz49 := ye16_ BK405; have hfz49 := yf16_ BK405) | (go_at_call 24; (with_reducible refine (impl_areCells.calls k _ _ l0_1 400 false _ ?side1 HC0_1.out A6.out).mono ?_); (case side1 => exact ycb_ HR0_1 HB); rintro e w' ⟨rfl, ⟨nd, rfl⟩⟩))
    go_meet
    case rel => exact ⟨_, (true), (by first | rfl | (simp; done) | (simp [*]; done)), H', ⟨by first | omega | exact Nat.le_refl _⟩, ⟨(ybu_ BK405)⟩, ⟨ybl_⟩⟩
  ·replace c5 := Bool.eq_false_iff.mpr c5
   subst c5
   have H1 : (impl_MachineOK.j0 k true l0_0 l0_1 l0_2 l0_3 l0_4 a0_5 a0_6 a0_7 l0_8 l0_9 l0_10 a0_11 l0_12 l0_13 a0_14 a0_15) = some r := by rw [if_neg (show ¬ (false = true) by decide)] at H; first | done | exact H
   clear H
   have H := H1
   clear H1
   have H' := am_ H
   clear H
   have hcz50 := ye16_ BK405
   have hfz50 := yf16_ BK405
   go_wp2_with (first | ((with_reducible refine gate_callee (f := 23) rfl ?_); refine goesL_ (some 8) rfl rfl Tryz.func23 (by kernel_rfl) rfl #[.slice A0_0 l0_0.length c0_0] rfl yk1_ ?_; (with_reducible refine (impl_DictOK.calls k _ _ l0_0 false _ ?side1 HC0_0.out A4.out).mono ?_); (case side1 => exact ycb_ HR0_0 HB); rintro e w51 ⟨rfl, hb⟩; refine ⟨_, rfl, ?_⟩; replace BK405 := am_ (ybb_ BK405 hb); replace HB := yst_ hb; (try clear hb); (try clear hb2); (try clear hk); (try clear hi)))
   go_meet
   case rel => exact ⟨_, (true), (by first | rfl | (simp; done) | (simp [*]; done)), H', ⟨by first | omega | exact Nat.le_refl _⟩, ⟨(ybu_ BK405)⟩, ⟨ybl_⟩⟩
 case rest =>
  clear HC2
  try clear c1
  try clear c2
  try clear p2
  try clear c5
  try clear c7
  try clear c8
  try clear c9
  try clear c11
  try clear c12
  try clear c12b0
  try clear c12b1
  try clear c21
  try clear c23
  try clear hcz13
  try clear hcz13
  try clear hcz13
  try clear hcz13
  try clear hcz13
  try clear hcz13
  try clear hcz13
  try clear hcz13
  try clear hcz13
  try clear hcz13
  try clear hcz13
  try clear hcz13
  try clear hcz13
  try clear hcz13
  try clear hcz13
  try clear hcz13
  try clear hcz15
  try clear hcz15
  try clear hcz15
  try clear hcz15
  try clear hcz15
  try clear hcz15
  try clear hcz15
  try clear hcz15
  try clear hcz15
  try clear hcz15
  try clear hcz15
  try clear hcz15
  try clear hcz15
  try clear hcz15
  try clear hcz15
  try clear hcz15
  try clear hcz17
  try clear hcz17
  try clear hcz17
  try clear hcz17
  try clear hcz17
  try clear hcz17
  try clear hcz17
  try clear hcz17
  try clear hcz17
  try clear hcz17
  try clear hcz17
  try clear hcz17
  try clear hcz17
  try clear hcz17
  try clear hcz17
  try clear hcz17
  try clear hcz19
  try clear hcz19
  try clear hcz19
  try clear hcz19
  try clear hcz19
  try clear hcz19
  try clear hcz19
  try clear hcz19
  try clear hcz19
  try clear hcz19
  try clear hcz19
  try clear hcz19
  try clear hcz19
  try clear hcz19
  try clear hcz19
  try clear hcz19
  try clear hcz23
  try clear hcz23
  try clear hcz23
  try clear hcz23
  try clear hcz23
  try clear hcz23
  try clear hcz23
  try clear hcz23
  try clear hcz23
  try clear hcz23
  try clear hcz23
  try clear hcz23
  try clear hcz23
  try clear hcz23
  try clear hcz23
  try clear hcz23
  try clear hcz25
  try clear hcz25
  try clear hcz25
  try clear hcz25
  try clear hcz25
  try clear hcz25
  try clear hcz25
  try clear hcz25
  try clear hcz25
  try clear hcz25
  try clear hcz25
  try clear hcz25
  try clear hcz25
  try clear hcz25
  try clear hcz25
  try clear hcz25
  try clear hcz27
  try clear hcz27
  try clear hcz27
  try clear hcz27
  try clear hcz27
  try clear hcz27
  try clear hcz27
  try clear hcz27
  try clear hcz27
  try clear hcz27
  try clear hcz27
  try clear hcz27
  try clear hcz27
  try clear hcz27
  try clear hcz27
  try clear hcz27
  try clear hcz29
  try clear hcz29
  try clear hcz29
  try clear hcz29
  try clear hcz29
  try clear hcz29
  try clear hcz29
  try clear hcz29
  try clear hcz29
  try clear hcz29
  try clear hcz29
  try clear hcz29
  try clear hcz29
  try clear hcz29
  try clear hcz29
  try clear hcz29
  try clear hcz30
  try clear hcz30
  try clear hcz30
  try clear hcz30
  try clear hcz30
  try clear hcz30
  try clear hcz30
  try clear hcz30
  try clear hcz30
  try clear hcz30
  try clear hcz30
  try clear hcz30
  try clear hcz30
  try clear hcz30
  try clear hcz30
  try clear hcz30
  try clear hcz32
  try clear hcz32
  try clear hcz32
  try clear hcz32
  try clear hcz32
  try clear hcz32
  try clear hcz32
  try clear hcz32
  try clear hcz32
  try clear hcz32
  try clear hcz32
  try clear hcz32
  try clear hcz32
  try clear hcz32
  try clear hcz32
  try clear hcz32
  try clear hcz34
  try clear hcz34
  try clear hcz34
  try clear hcz34
  try clear hcz34
  try clear hcz34
  try clear hcz34
  try clear hcz34
  try clear hcz34
  try clear hcz34
  try clear hcz34
  try clear hcz34
  try clear hcz34
  try clear hcz34
  try clear hcz34
  try clear hcz34
  try clear hcz36
  try clear hcz36
  try clear hcz36
  try clear hcz36
  try clear hcz36
  try clear hcz36
  try clear hcz36
  try clear hcz36
  try clear hcz36
  try clear hcz36
  try clear hcz36
  try clear hcz36
  try clear hcz36
  try clear hcz36
  try clear hcz36
  try clear hcz36
  try clear hcz37
  try clear hcz37
  try clear hcz37
  try clear hcz37
  try clear hcz37
  try clear hcz37
  try clear hcz37
  try clear hcz37
  try clear hcz37
  try clear hcz37
  try clear hcz37
  try clear hcz37
  try clear hcz37
  try clear hcz37
  try clear hcz37
  try clear hcz37
  try clear hcz39
  try clear hcz39
  try clear hcz39
  try clear hcz39
  try clear hcz39
  try clear hcz39
  try clear hcz39
  try clear hcz39
  try clear hcz39
  try clear hcz39
  try clear hcz39
  try clear hcz39
  try clear hcz39
  try clear hcz39
  try clear hcz39
  try clear hcz39
  try clear hcz41
  try clear hcz41
  try clear hcz41
  try clear hcz41
  try clear hcz41
  try clear hcz41
  try clear hcz41
  try clear hcz41
  try clear hcz41
  try clear hcz41
  try clear hcz41
  try clear hcz41
  try clear hcz41
  try clear hcz41
  try clear hcz41
  try clear hcz41
  try clear hcz43
  try clear hcz43
  try clear hcz43
  try clear hcz43
  try clear hcz43
  try clear hcz43
  try clear hcz43
  try clear hcz43
  try clear hcz43
  try clear hcz43
  try clear hcz43
  try clear hcz43
  try clear hcz43
  try clear hcz43
  try clear hcz43
  try clear hcz43
  try clear hcz45
  try clear hcz45
  try clear hcz45
  try clear hcz45
  try clear hcz45
  try clear hcz45
  try clear hcz45
  try clear hcz45
  try clear hcz45
  try clear hcz45
  try clear hcz45
  try clear hcz45
  try clear hcz45
  try clear hcz45
  try clear hcz45
  try clear hcz45
  try clear hcz47
  try clear hcz47
  try clear hcz47
  try clear hcz47
  try clear hcz47
  try clear hcz47
  try clear hcz47
  try clear hcz47
  try clear hcz47
  try clear hcz47
  try clear hcz47
  try clear hcz47
  try clear hcz47
  try clear hcz47
  try clear hcz47
  try clear hcz47
  try clear hcz49
  try clear hcz49
  try clear hcz49
  try clear hcz49
  try clear hcz49
  try clear hcz49
  try clear hcz49
  try clear hcz49
  try clear hcz49
  try clear hcz49
  try clear hcz49
  try clear hcz49
  try clear hcz49
  try clear hcz49
  try clear hcz49
  try clear hcz49
  try clear hcz50
  try clear hcz50
  try clear hcz50
  try clear hcz50
  try clear hcz50
  try clear hcz50
  try clear hcz50
  try clear hcz50
  try clear hcz50
  try clear hcz50
  try clear hcz50
  try clear hcz50
  try clear hcz50
  try clear hcz50
  try clear hcz50
  try clear hcz50
  try clear hfz13
  try clear hfz13
  try clear hfz13
  try clear hfz13
  try clear hfz13
  try clear hfz13
  try clear hfz13
  try clear hfz13
  try clear hfz13
  try clear hfz13
  try clear hfz13
  try clear hfz13
  try clear hfz13
  try clear hfz13
  try clear hfz13
  try clear hfz13
  try clear hfz15
  try clear hfz15
  try clear hfz15
  try clear hfz15
  try clear hfz15
  try clear hfz15
  try clear hfz15
  try clear hfz15
  try clear hfz15
  try clear hfz15
  try clear hfz15
  try clear hfz15
  try clear hfz15
  try clear hfz15
  try clear hfz15
  try clear hfz15
  try clear hfz17
  try clear hfz17
  try clear hfz17
  try clear hfz17
  try clear hfz17
  try clear hfz17
  try clear hfz17
  try clear hfz17
  try clear hfz17
  try clear hfz17
  try clear hfz17
  try clear hfz17
  try clear hfz17
  try clear hfz17
  try clear hfz17
  try clear hfz17
  try clear hfz19
  try clear hfz19
  try clear hfz19
  try clear hfz19
  try clear hfz19
  try clear hfz19
  try clear hfz19
  try clear hfz19
  try clear hfz19
  try clear hfz19
  try clear hfz19
  try clear hfz19
  try clear hfz19
  try clear hfz19
  try clear hfz19
  try clear hfz19
  try clear hfz23
  try clear hfz23
  try clear hfz23
  try clear hfz23
  try clear hfz23
  try clear hfz23
  try clear hfz23
  try clear hfz23
  try clear hfz23
  try clear hfz23
  try clear hfz23
  try clear hfz23
  try clear hfz23
  try clear hfz23
  try clear hfz23
  try clear hfz23
  try clear hfz25
  try clear hfz25
  try clear hfz25
  try clear hfz25
  try clear hfz25
  try clear hfz25
  try clear hfz25
  try clear hfz25
  try clear hfz25
  try clear hfz25
  try clear hfz25
  try clear hfz25
  try clear hfz25
  try clear hfz25
  try clear hfz25
  try clear hfz25
  try clear hfz27
  try clear hfz27
  try clear hfz27
  try clear hfz27
  try clear hfz27
  try clear hfz27
  try clear hfz27
  try clear hfz27
  try clear hfz27
  try clear hfz27
  try clear hfz27
  try clear hfz27
  try clear hfz27
  try clear hfz27
  try clear hfz27
  try clear hfz27
  try clear hfz29
  try clear hfz29
  try clear hfz29
  try clear hfz29
  try clear hfz29
  try clear hfz29
  try clear hfz29
  try clear hfz29
  try clear hfz29
  try clear hfz29
  try clear hfz29
  try clear hfz29
  try clear hfz29
  try clear hfz29
  try clear hfz29
  try clear hfz29
  try clear hfz30
  try clear hfz30
  try clear hfz30
  try clear hfz30
  try clear hfz30
  try clear hfz30
  try clear hfz30
  try clear hfz30
  try clear hfz30
  try clear hfz30
  try clear hfz30
  try clear hfz30
  try clear hfz30
  try clear hfz30
  try clear hfz30
  try clear hfz30
  try clear hfz32
  try clear hfz32
  try clear hfz32
  try clear hfz32
  try clear hfz32
  try clear hfz32
  try clear hfz32
  try clear hfz32
  try clear hfz32
  try clear hfz32
  try clear hfz32
  try clear hfz32
  try clear hfz32
  try clear hfz32
  try clear hfz32
  try clear hfz32
  try clear hfz34
  try clear hfz34
  try clear hfz34
  try clear hfz34
  try clear hfz34
  try clear hfz34
  try clear hfz34
  try clear hfz34
  try clear hfz34
  try clear hfz34
  try clear hfz34
  try clear hfz34
  try clear hfz34
  try clear hfz34
  try clear hfz34
  try clear hfz34
  try clear hfz36
  try clear hfz36
  try clear hfz36
  try clear hfz36
  try clear hfz36
  try clear hfz36
  try clear hfz36
  try clear hfz36
  try clear hfz36
  try clear hfz36
  try clear hfz36
  try clear hfz36
  try clear hfz36
  try clear hfz36
  try clear hfz36
  try clear hfz36
  try clear hfz37
  try clear hfz37
  try clear hfz37
  try clear hfz37
  try clear hfz37
  try clear hfz37
  try clear hfz37
  try clear hfz37
  try clear hfz37
  try clear hfz37
  try clear hfz37
  try clear hfz37
  try clear hfz37
  try clear hfz37
  try clear hfz37
  try clear hfz37
  try clear hfz39
  try clear hfz39
  try clear hfz39
  try clear hfz39
  try clear hfz39
  try clear hfz39
  try clear hfz39
  try clear hfz39
  try clear hfz39
  try clear hfz39
  try clear hfz39
  try clear hfz39
  try clear hfz39
  try clear hfz39
  try clear hfz39
  try clear hfz39
  try clear hfz41
  try clear hfz41
  try clear hfz41
  try clear hfz41
  try clear hfz41
  try clear hfz41
  try clear hfz41
  try clear hfz41
  try clear hfz41
  try clear hfz41
  try clear hfz41
  try clear hfz41
  try clear hfz41
  try clear hfz41
  try clear hfz41
  try clear hfz41
  try clear hfz43
  try clear hfz43
  try clear hfz43
  try clear hfz43
  try clear hfz43
  try clear hfz43
  try clear hfz43
  try clear hfz43
  try clear hfz43
  try clear hfz43
  try clear hfz43
  try clear hfz43
  try clear hfz43
  try clear hfz43
  try clear hfz43
  try clear hfz43
  try clear hfz45
  try clear hfz45
  try clear hfz45
  try clear hfz45
  try clear hfz45
  try clear hfz45
  try clear hfz45
  try clear hfz45
  try clear hfz45
  try clear hfz45
  try clear hfz45
  try clear hfz45
  try clear hfz45
  try clear hfz45
  try clear hfz45
  try clear hfz45
  try clear hfz47
  try clear hfz47
  try clear hfz47
  try clear hfz47
  try clear hfz47
  try clear hfz47
  try clear hfz47
  try clear hfz47
  try clear hfz47
  try clear hfz47
  try clear hfz47
  try clear hfz47
  try clear hfz47
  try clear hfz47
  try clear hfz47
  try clear hfz47
  try clear hfz49
  try clear hfz49
  try clear hfz49
  try clear hfz49
  try clear hfz49
  try clear hfz49
  try clear hfz49
  try clear hfz49
  try clear hfz49
  try clear hfz49
  try clear hfz49
  try clear hfz49
  try clear hfz49
  try clear hfz49
  try clear hfz49
  try clear hfz49
  try clear hfz50
  try clear hfz50
  try clear hfz50
  try clear hfz50
  try clear hfz50
  try clear hfz50
  try clear hfz50
  try clear hfz50
  try clear hfz50
  try clear hfz50
  try clear hfz50
  try clear hfz50
  try clear hfz50
  try clear hfz50
  try clear hfz50
  try clear hfz50
  obtain ⟨kq, x45_1, rfl, HA, HJ1, BK405, HB⟩ := hcut
  cases kq with
  | zero => exact absurd HA.out (by simp [impl_MachineOK.j0])
  | succ kj1 =>
   have H := HA.out
   clear HA
   simp only [impl_MachineOK.j0] at H
   by_cases c52 : x45_1 = true
   ·subst c52
    have H1 : (some false) = some r := by rw [if_pos rfl] at H; first | done | exact H
    clear H
    have H := H1
    clear H1
    obtain rfl := Option.some.inj H
    go_wp2
    go_ret
    exact ⟨yk0_, ybl_⟩
   ·replace c52 := Bool.eq_false_iff.mpr c52
    subst c52
    have H1 : (impl_MachineOK.l0 kj1 0 l0_13 (l0_13.length : Int) 0 l0_0 l0_1 l0_2 l0_3 l0_4 a0_5 a0_6 a0_7 l0_8 l0_9 l0_10 a0_11 l0_12 l0_13 a0_14 a0_15) = some r := by rw [if_neg (show ¬ (false = true) by decide)] at H; first | done | exact H
    clear H
    have H := H1
    clear H1
    have H' := am_ H
    clear H
    have hcz53 := ye16_ BK405
    have hfz53 := yf16_ BK405
    go_wp2
    go_loopg [3, 49] kj1 (fun kq v3 v49 w' => ∃ (x3_2 : Int) (x49_2 : Int), v3 = .int .i64 x3_2 ∧ v49 = .int .i64 x49_2 ∧ Aside0 (impl_MachineOK.l0 kq x3_2 l0_13 (l0_13.length : Int) x49_2 l0_0 l0_1 l0_2 l0_3 l0_4 a0_5 a0_6 a0_7 l0_8 l0_9 l0_10 a0_11 l0_12 l0_13 a0_14 a0_15 = some r) ∧ Aside0 (kq ≤ kj1) ∧ Aside0 (w'.heap[gb405]? = some (.cells #[(.slice A0_0 l0_0.length c0_0), (.slice A0_1 l0_1.length c0_1), (.slice A0_2 l0_2.length c0_2), (.slice A0_3 l0_3.length c0_3), (.slice A0_4 l0_4.length c0_4), .int .i64 a0_5, .int .i64 a0_6, .string a0_7, (.slice A0_8 l0_8.length c0_8), (.slice A0_9 l0_9.length c0_9), (.slice A0_10 l0_10.length c0_10), .int .i64 a0_11, (.slice A0_12 l0_12.length c0_12), (.slice A0_13 l0_13.length c0_13), .int .i64 a0_14, .int .i64 a0_15] 42 (0, 0))) ∧ Aside0 (Below w.heap.size w w'))
    case atStart => exact ⟨(0), (0), (by first | rfl | (simp; done) | (simp [*]; done)), (by first | rfl | (simp; done) | (simp [*]; done)), H', ⟨Nat.le_refl _⟩, ⟨(ybu_ BK405)⟩, ⟨ybl_⟩⟩
    case round =>
     clear H'
     try clear p2
     try clear c5
     try clear c52
     try clear hcz27
     try clear hcz27
     try clear hcz27
     try clear hcz27
     try clear hcz27
     try clear hcz27
     try clear hcz27
     try clear hcz27
     try clear hcz27
     try clear hcz27
     try clear hcz29
     try clear hcz29
     try clear hcz29
     try clear hcz29
     try clear hcz29
     try clear hcz29
     try clear hcz29
     try clear hcz29
     try clear hcz29
     try clear hcz29
     try clear hcz29
     try clear hcz29
     try clear hcz29
     try clear hcz29
     try clear hcz29
     try clear hcz29
     try clear hcz30
     try clear hcz30
     try clear hcz30
     try clear hcz30
     try clear hcz30
     try clear hcz30
     try clear hcz30
     try clear hcz30
     try clear hcz30
     try clear hcz30
     try clear hcz30
     try clear hcz30
     try clear hcz30
     try clear hcz30
     try clear hcz30
     try clear hcz30
     try clear hcz32
     try clear hcz32
     try clear hcz32
     try clear hcz32
     try clear hcz32
     try clear hcz32
     try clear hcz32
     try clear hcz32
     try clear hcz32
     try clear hcz32
     try clear hcz32
     try clear hcz32
     try clear hcz32
     try clear hcz32
     try clear hcz32
     try clear hcz32
     try clear hcz34
     try clear hcz34
     try clear hcz34
     try clear hcz34
     try clear hcz34
     try clear hcz34
     try clear hcz34
     try clear hcz34
     try clear hcz34
     try clear hcz34
     try clear hcz34
     try clear hcz34
     try clear hcz34
     try clear hcz34
     try clear hcz34
     try clear hcz34
     try clear hcz36
     try clear hcz36
     try clear hcz36
     try clear hcz36
     try clear hcz36
     try clear hcz36
     try clear hcz36
     try clear hcz36
     try clear hcz36
     try clear hcz36
     try clear hcz36
     try clear hcz36
     try clear hcz36
     try clear hcz36
     try clear hcz36
     try clear hcz36
     try clear hcz37
     try clear hcz37
     try clear hcz37
     try clear hcz37
     try clear hcz37
     try clear hcz37
     try clear hcz37
     try clear hcz37
     try clear hcz37
     try clear hcz37
     try clear hcz37
     try clear hcz37
     try clear hcz37
     try clear hcz37
     try clear hcz37
     try clear hcz37
     try clear hcz39
     try clear hcz39
     try clear hcz39
     try clear hcz39
     try clear hcz39
     try clear hcz39
     try clear hcz39
     try clear hcz39
     try clear hcz39
     try clear hcz39
     try clear hcz39
     try clear hcz39
     try clear hcz39
     try clear hcz39
     try clear hcz39
     try clear hcz39
     try clear hcz41
     try clear hcz41
     try clear hcz41
     try clear hcz41
     try clear hcz41
     try clear hcz41
     try clear hcz41
     try clear hcz41
     try clear hcz41
     try clear hcz41
     try clear hcz41
     try clear hcz41
     try clear hcz41
     try clear hcz41
     try clear hcz41
     try clear hcz41
     try clear hcz43
     try clear hcz43
     try clear hcz43
     try clear hcz43
     try clear hcz43
     try clear hcz43
     try clear hcz43
     try clear hcz43
     try clear hcz43
     try clear hcz43
     try clear hcz43
     try clear hcz43
     try clear hcz43
     try clear hcz43
     try clear hcz43
     try clear hcz43
     try clear hcz45
     try clear hcz45
     try clear hcz45
     try clear hcz45
     try clear hcz45
     try clear hcz45
     try clear hcz45
     try clear hcz45
     try clear hcz45
     try clear hcz45
     try clear hcz45
     try clear hcz45
     try clear hcz45
     try clear hcz45
     try clear hcz45
     try clear hcz45
     try clear hcz47
     try clear hcz47
     try clear hcz47
     try clear hcz47
     try clear hcz47
     try clear hcz47
     try clear hcz47
     try clear hcz47
     try clear hcz47
     try clear hcz47
     try clear hcz47
     try clear hcz47
     try clear hcz47
     try clear hcz47
     try clear hcz47
     try clear hcz47
     try clear hcz49
     try clear hcz49
     try clear hcz49
     try clear hcz49
     try clear hcz49
     try clear hcz49
     try clear hcz49
     try clear hcz49
     try clear hcz49
     try clear hcz49
     try clear hcz49
     try clear hcz49
     try clear hcz49
     try clear hcz49
     try clear hcz49
     try clear hcz49
     try clear hcz50
     try clear hcz50
     try clear hcz50
     try clear hcz50
     try clear hcz50
     try clear hcz50
     try clear hcz50
     try clear hcz50
     try clear hcz50
     try clear hcz50
     try clear hcz50
     try clear hcz50
     try clear hcz50
     try clear hcz50
     try clear hcz50
     try clear hcz50
     try clear hcz53
     try clear hcz53
     try clear hcz53
     try clear hcz53
     try clear hcz53
     try clear hcz53
     try clear hcz53
     try clear hcz53
     try clear hcz53
     try clear hcz53
     try clear hcz53
     try clear hcz53
     try clear hcz53
     try clear hcz53
     try clear hcz53
     try clear hcz53
     try clear hfz13
     try clear hfz13
     try clear hfz13
     try clear hfz13
     try clear hfz13
     try clear hfz13
     try clear hfz13
     try clear hfz13
     try clear hfz13
     try clear hfz13
     try clear hfz13
     try clear hfz13
     try clear hfz13
     try clear hfz13
     try clear hfz13
     try clear hfz13
     try clear hfz15
     try clear hfz15
     try clear hfz15
     try clear hfz15
     try clear hfz15
     try clear hfz15
     try clear hfz15
     try clear hfz15
     try clear hfz15
     try clear hfz15
     try clear hfz15
     try clear hfz15
     try clear hfz15
     try clear hfz15
     try clear hfz15
     try clear hfz15
     try clear hfz17
     try clear hfz17
     try clear hfz17
     try clear hfz17
     try clear hfz17
     try clear hfz17
     try clear hfz17
     try clear hfz17
     try clear hfz17
     try clear hfz17
     try clear hfz17
     try clear hfz17
     try clear hfz17
     try clear hfz17
     try clear hfz17
     try clear hfz17
     try clear hfz19
     try clear hfz19
     try clear hfz19
     try clear hfz19
     try clear hfz19
     try clear hfz19
     try clear hfz19
     try clear hfz19
     try clear hfz19
     try clear hfz19
     try clear hfz19
     try clear hfz19
     try clear hfz19
     try clear hfz19
     try clear hfz19
     try clear hfz19
     try clear hfz23
     try clear hfz23
     try clear hfz23
     try clear hfz23
     try clear hfz23
     try clear hfz23
     try clear hfz23
     try clear hfz23
     try clear hfz23
     try clear hfz23
     try clear hfz23
     try clear hfz23
     try clear hfz23
     try clear hfz23
     try clear hfz23
     try clear hfz23
     try clear hfz25
     try clear hfz25
     try clear hfz25
     try clear hfz25
     try clear hfz25
     try clear hfz25
     try clear hfz25
     try clear hfz25
     try clear hfz25
     try clear hfz25
     try clear hfz25
     try clear hfz25
     try clear hfz25
     try clear hfz25
     try clear hfz25
     try clear hfz25
     try clear hfz27
     try clear hfz27
     try clear hfz27
     try clear hfz27
     try clear hfz27
     try clear hfz27
     try clear hfz27
     try clear hfz27
     try clear hfz27
     try clear hfz27
     try clear hfz27
     try clear hfz27
     try clear hfz27
     try clear hfz27
     try clear hfz27
     try clear hfz27
     try clear hfz29
     try clear hfz29
     try clear hfz29
     try clear hfz29
     try clear hfz29
     try clear hfz29
     try clear hfz29
     try clear hfz29
     try clear hfz29
     try clear hfz29
     try clear hfz29
     try clear hfz29
     try clear hfz29
     try clear hfz29
     try clear hfz29
     try clear hfz29
     try clear hfz30
     try clear hfz30
     try clear hfz30
     try clear hfz30
     try clear hfz30
     try clear hfz30
     try clear hfz30
     try clear hfz30
     try clear hfz30
     try clear hfz30
     try clear hfz30
     try clear hfz30
     try clear hfz30
     try clear hfz30
     try clear hfz30
     try clear hfz30
     try clear hfz32
     try clear hfz32
     try clear hfz32
     try clear hfz32
     try clear hfz32
     try clear hfz32
     try clear hfz32
     try clear hfz32
     try clear hfz32
     try clear hfz32
     try clear hfz32
     try clear hfz32
     try clear hfz32
     try clear hfz32
     try clear hfz32
     try clear hfz32
     try clear hfz34
     try clear hfz34
     try clear hfz34
     try clear hfz34
     try clear hfz34
     try clear hfz34
     try clear hfz34
     try clear hfz34
     try clear hfz34
     try clear hfz34
     try clear hfz34
     try clear hfz34
     try clear hfz34
     try clear hfz34
     try clear hfz34
     try clear hfz34
     try clear hfz36
     try clear hfz36
     try clear hfz36
     try clear hfz36
     try clear hfz36
     try clear hfz36
     try clear hfz36
     try clear hfz36
     try clear hfz36
     try clear hfz36
     try clear hfz36
     try clear hfz36
     try clear hfz36
     try clear hfz36
     try clear hfz36
     try clear hfz36
     try clear hfz37
     try clear hfz37
     try clear hfz37
     try clear hfz37
     try clear hfz37
     try clear hfz37
     try clear hfz37
     try clear hfz37
     try clear hfz37
     try clear hfz37
     try clear hfz37
     try clear hfz37
     try clear hfz37
     try clear hfz37
     try clear hfz37
     try clear hfz37
     try clear hfz39
     try clear hfz39
     try clear hfz39
     try clear hfz39
     try clear hfz39
     try clear hfz39
     try clear hfz39
     try clear hfz39
     try clear hfz39
     try clear hfz39
     try clear hfz39
     try clear hfz39
     try clear hfz39
     try clear hfz39
     try clear hfz39
     try clear hfz39
     try clear hfz41
     try clear hfz41
     try clear hfz41
     try clear hfz41
     try clear hfz41
     try clear hfz41
     try clear hfz41
     try clear hfz41
     try clear hfz41
     try clear hfz41
     try clear hfz41
     try clear hfz41
     try clear hfz41
     try clear hfz41
     try clear hfz41
     try clear hfz41
     try clear hfz43
     try clear hfz43
     try clear hfz43
     try clear hfz43
     try clear hfz43
     try clear hfz43
     try clear hfz43
     try clear hfz43
     try clear hfz43
     try clear hfz43
     try clear hfz43
     try clear hfz43
     try clear hfz43
     try clear hfz43
     try clear hfz43
     try clear hfz43
     try clear hfz45
     try clear hfz45
     try clear hfz45
     try clear hfz45
     try clear hfz45
     try clear hfz45
     try clear hfz45
     try clear hfz45
     try clear hfz45
     try clear hfz45
     try clear hfz45
     try clear hfz45
     try clear hfz45
     try clear hfz45
     try clear hfz45
     try clear hfz45
     try clear hfz47
     try clear hfz47
     try clear hfz47
     try clear hfz47
     try clear hfz47
     try clear hfz47
     try clear hfz47
     try clear hfz47
     try clear hfz47
     try clear hfz47
     try clear hfz47
     try clear hfz47
     try clear hfz47
     try clear hfz47
     try clear hfz47
     try clear hfz47
     try clear hfz49
     try clear hfz49
     try clear hfz49
     try clear hfz49
     try clear hfz49
     try clear hfz49
     try clear hfz49
     try clear hfz49
     try clear hfz49
     try clear hfz49
     try clear hfz49
     try clear hfz49
     try clear hfz49
     try clear hfz49
     try clear hfz49
     try clear hfz49
     try clear hfz50
     try clear hfz50
     try clear hfz50
     try clear hfz50
     try clear hfz50
     try clear hfz50
     try clear hfz50
     try clear hfz50
     try clear hfz50
     try clear hfz50
     try clear hfz50
     try clear hfz50
     try clear hfz50
     try clear hfz50
     try clear hfz50
     try clear hfz50
     try clear hfz53
     try clear hfz53
     try clear hfz53
     try clear hfz53
     try clear hfz53
     try clear hfz53
     try clear hfz53
     try clear hfz53
     try clear hfz53
     try clear hfz53
     try clear hfz53
     try clear hfz53
     try clear hfz53
     try clear hfz53
     try clear hfz53
     try clear hfz53
     obtain ⟨x3_2, x49_2, rfl, rfl, HA, HK2, BK405, HB⟩ := hrel
     cases gk with
     | zero => exact absurd HA.out (by simp [impl_MachineOK.l0])
     | succ k2 =>
      have H := HA.out
      clear HA
      simp only [impl_MachineOK.l0] at H
      by_cases c54 : x49_2 < (l0_13.length : Int)
      ·rw [if_pos c54] at H
       have c54b0 : decide (x49_2 < (l0_13.length : Int)) = true := decide_eq_true c54
       clear c54
       by_cases c55 : 0 ≤ x49_2
       ·rw [if_pos c55] at H
        have c55b0 : decide (0 ≤ x49_2) = true := decide_eq_true c55
        clear c55
        by_cases c56 : x49_2 < (l0_13.length : Int)
        ·rw [if_pos c56] at H
         have c56b0 : decide (x49_2 < (l0_13.length : Int)) = true := decide_eq_true c56
         clear c56
         replace H := Option.bind_eq_some_iff.mp H
         obtain ⟨t415, A570, H⟩ := H
         replace H : (if t415 = true then ((impl_in.f ((rd_T63 l0_13 x49_2).f1) x3_2 (l0_3.length : Int)).bind fun t416 => (if t416 = true then ((impl_in.f ((rd_T63 l0_13 x49_2).f2) 0 31).bind fun t417 => (if t417 = true then (if ((rd_T63 l0_13 x49_2).f3 = true) then (impl_MachineOK.l0 k2 ((rd_T63 l0_13 x49_2).f1) l0_13 (l0_13.length : Int) (wrap64 (x49_2 + 1)) l0_0 l0_1 l0_2 l0_3 l0_4 a0_5 a0_6 a0_7 l0_8 l0_9 l0_10 a0_11 l0_12 l0_13 a0_14 a0_15) else (if ((rd_T63 l0_13 x49_2).f2) = 0 then (impl_MachineOK.l0 k2 ((rd_T63 l0_13 x49_2).f1) l0_13 (l0_13.length : Int) (wrap64 (x49_2 + 1)) l0_0 l0_1 l0_2 l0_3 l0_4 a0_5 a0_6 a0_7 l0_8 l0_9 l0_10 a0_11 l0_12 l0_13 a0_14 a0_15) else (some false))) else (some false))) else (some false))) else (some false)) = some r := H
         have A57 := am_ A570
         clear A570
         by_cases c58 : t415 = true
         ·subst c58
          have H1 : ((impl_in.f ((rd_T63 l0_13 x49_2).f1) x3_2 (l0_3.length : Int)).bind fun t416 => (if t416 = true then ((impl_in.f ((rd_T63 l0_13 x49_2).f2) 0 31).bind fun t417 => (if t417 = true then (if ((rd_T63 l0_13 x49_2).f3 = true) then (impl_MachineOK.l0 k2 ((rd_T63 l0_13 x49_2).f1) l0_13 (l0_13.length : Int) (wrap64 (x49_2 + 1)) l0_0 l0_1 l0_2 l0_3 l0_4 a0_5 a0_6 a0_7 l0_8 l0_9 l0_10 a0_11 l0_12 l0_13 a0_14 a0_15) else (if ((rd_T63 l0_13 x49_2).f2) = 0 then (impl_MachineOK.l0 k2 ((rd_T63 l0_13 x49_2).f1) l0_13 (l0_13.length : Int) (wrap64 (x49_2 + 1)) l0_0 l0_1 l0_2 l0_3 l0_4 a0_5 a0_6 a0_7 l0_8 l0_9 l0_10 a0_11 l0_12 l0_13 a0_14 a0_15) else (some false))) else (some false))) else (some false))) = some r := by rw [if_pos rfl] at H; first | done | exact H
          clear H
          have H := H1
          clear H1
          replace H := Option.bind_eq_some_iff.mp H
          obtain ⟨t416, A590, H⟩ := H
          replace H : (if t416 = true then ((impl_in.f ((rd_T63 l0_13 x49_2).f2) 0 31).bind fun t417 => (if t417 = true then (if ((rd_T63 l0_13 x49_2).f3 = true) then (impl_MachineOK.l0 k2 ((rd_T63 l0_13 x49_2).f1) l0_13 (l0_13.length : Int) (wrap64 (x49_2 + 1)) l0_0 l0_1 l0_2 l0_3 l0_4 a0_5 a0_6 a0_7 l0_8 l0_9 l0_10 a0_11 l0_12 l0_13 a0_14 a0_15) else (if ((rd_T63 l0_13 x49_2).f2) = 0 then (impl_MachineOK.l0 k2 ((rd_T63 l0_13 x49_2).f1) l0_13 (l0_13.length : Int) (wrap64 (x49_2 + 1)) l0_0 l0_1 l0_2 l0_3 l0_4 a0_5 a0_6 a0_7 l0_8 l0_9 l0_10 a0_11 l0_12 l0_13 a0_14 a0_15) else (some false))) else (some false))) else (some false)) = some r := H
          have A59 := am_ A590
          clear A590
          by_cases c60 : t416 = true
          ·subst c60
           have H1 : ((impl_in.f ((rd_T63 l0_13 x49_2).f2) 0 31).bind fun t417 => (if t417 = true then (if ((rd_T63 l0_13 x49_2).f3 = true) then (impl_MachineOK.l0 k2 ((rd_T63 l0_13 x49_2).f1) l0_13 (l0_13.length : Int) (wrap64 (x49_2 + 1)) l0_0 l0_1 l0_2 l0_3 l0_4 a0_5 a0_6 a0_7 l0_8 l0_9 l0_10 a0_11 l0_12 l0_13 a0_14 a0_15) else (if ((rd_T63 l0_13 x49_2).f2) = 0 then (impl_MachineOK.l0 k2 ((rd_T63 l0_13 x49_2).f1) l0_13 (l0_13.length : Int) (wrap64 (x49_2 + 1)) l0_0 l0_1 l0_2 l0_3 l0_4 a0_5 a0_6 a0_7 l0_8 l0_9 l0_10 a0_11 l0_12 l0_13 a0_14 a0_15) else (some false))) else (some false))) = some r := by rw [if_pos rfl] at H; first | done | exact H
           clear H
           have H := H1
           clear H1
           replace H := Option.bind_eq_some_iff.mp H
           obtain ⟨t417, A610, H⟩ := H
           replace H : (if t417 = true then (if ((rd_T63 l0_13 x49_2).f3 = true) then (impl_MachineOK.l0 k2 ((rd_T63 l0_13 x49_2).f1) l0_13 (l0_13.length : Int) (wrap64 (x49_2 + 1)) l0_0 l0_1 l0_2 l0_3 l0_4 a0_5 a0_6 a0_7 l0_8 l0_9 l0_10 a0_11 l0_12 l0_13 a0_14 a0_15) else (if ((rd_T63 l0_13 x49_2).f2) = 0 then (impl_MachineOK.l0 k2 ((rd_T63 l0_13 x49_2).f1) l0_13 (l0_13.length : Int) (wrap64 (x49_2 + 1)) l0_0 l0_1 l0_2 l0_3 l0_4 a0_5 a0_6 a0_7 l0_8 l0_9 l0_10 a0_11 l0_12 l0_13 a0_14 a0_15) else (some false))) else (some false)) = some r := H
           have A61 := am_ A610
           clear A610
           by_cases c62 : t417 = true
           ·subst c62
            have H1 : (if ((rd_T63 l0_13 x49_2).f3 = true) then (impl_MachineOK.l0 k2 ((rd_T63 l0_13 x49_2).f1) l0_13 (l0_13.length : Int) (wrap64 (x49_2 + 1)) l0_0 l0_1 l0_2 l0_3 l0_4 a0_5 a0_6 a0_7 l0_8 l0_9 l0_10 a0_11 l0_12 l0_13 a0_14 a0_15) else (if ((rd_T63 l0_13 x49_2).f2) = 0 then (impl_MachineOK.l0 k2 ((rd_T63 l0_13 x49_2).f1) l0_13 (l0_13.length : Int) (wrap64 (x49_2 + 1)) l0_0 l0_1 l0_2 l0_3 l0_4 a0_5 a0_6 a0_7 l0_8 l0_9 l0_10 a0_11 l0_12 l0_13 a0_14 a0_15) else (some false))) = some r := by rw [if_pos rfl] at H; first | done | exact H
            clear H
            have H := H1
            clear H1
            obtain ⟨bq63, hbq63⟩ : ∃ b_ : Bool, b_ = ((rd_T63 l0_13 x49_2).f3) := ⟨_, rfl⟩
            replace H : (if (bq63 = true) then (impl_MachineOK.l0 k2 ((rd_T63 l0_13 x49_2).f1) l0_13 (l0_13.length : Int) (wrap64 (x49_2 + 1)) l0_0 l0_1 l0_2 l0_3 l0_4 a0_5 a0_6 a0_7 l0_8 l0_9 l0_10 a0_11 l0_12 l0_13 a0_14 a0_15) else (if ((rd_T63 l0_13 x49_2).f2) = 0 then (impl_MachineOK.l0 k2 ((rd_T63 l0_13 x49_2).f1) l0_13 (l0_13.length : Int) (wrap64 (x49_2 + 1)) l0_0 l0_1 l0_2 l0_3 l0_4 a0_5 a0_6 a0_7 l0_8 l0_9 l0_10 a0_11 l0_12 l0_13 a0_14 a0_15) else (some false))) = some r := by rw [← hbq63] at H; exact H
            have Nbq63 := am_ hbq63
            clear hbq63
            by_cases c64 : (bq63 = true)
            ·subst c64
             have H1 : (impl_MachineOK.l0 k2 ((rd_T63 l0_13 x49_2).f1) l0_13 (l0_13.length : Int) (wrap64 (x49_2 + 1)) l0_0 l0_1 l0_2 l0_3 l0_4 a0_5 a0_6 a0_7 l0_8 l0_9 l0_10 a0_11 l0_12 l0_13 a0_14 a0_15) = some r := by rw [if_pos rfl] at H; first | done | exact H
             clear H
             have H := H1
             clear H1
             have H' := am_ H
             clear H
             have p413 : 0 ≤ (x49_2 : Int) := of_decide_eq_true yqv11_
             have q413 : x49_2 < (l0_13.length : Int) := of_decide_eq_true yqv11_
             obtain ⟨ad413, e413, hx413_0, hx413_1, hx413_2, hx413_3⟩ := at_T63 HR0_13.out x49_2 p413 q413
             (try rw [← Nbq63.out] at hx413_3)
             cases e413
             replace hx413_0 := ycst_ HB hx413_0
             replace hx413_1 := ycst_ HB hx413_1
             replace hx413_2 := ycst_ HB hx413_2
             replace hx413_3 := ycst_ HB hx413_3
             replace p413 := eq_true p413
             replace q413 := eq_true q413
             go_wp2_with (first | ((with_reducible refine gate_dst (N := 5) rfl ?_); (try (refine gate_guard (by rfl) ?_; dsimp only)); refine box_event ?hg (N := 5) ?hd (cs := #[.int .i64 0, .int .i64 0, .int .i64 0, .bool false]) (t := 63) ?hr ?_; (case hd => rfl); (case hg => rfl); (case hr => first | (go_simp; done) | (go_simp; rfl)); intro gb414 hg w65 hbox hb; have BK414 := am_ (hbox); have GW414 := am_ ((ybsz_ hg : w.heap.size ≤ gb414)); have GE414 := GW414; replace HB := yst_ hb; have NB405_414 := am_ (ybne_ hg BK405); have NB414_405 := am_ ((ybne_ hg BK405).symm); replace BK405 := am_ (ybb_ BK405 hb); clear hb hbox hg; have hnb66 := NB414_405.out; have hnc66 := NB405_414.out; have hcz67 := ye4_ BK414; have hfz67 := yf4_ BK414) | ((with_reducible refine gate_callee (f := 27) rfl ?_); refine goesL_ (some 55) rfl rfl Tryz.func27 (by kernel_rfl) rfl #[.int .i64 ((rd_T63 l0_13 x49_2).f0), .int .i64 0, .int .i64 2147483647] rfl yk1_ ?_; (with_reducible refine (impl_in.calls ((rd_T63 l0_13 x49_2).f0) 0 2147483647 true _ A57.out).mono ?_); rintro e w' ⟨rfl, ⟨nd, rfl⟩⟩; refine ⟨_, rfl, ?_⟩; have hcz68 := ye16_ BK405; have hfz68 := yf16_ BK405) | (go_at_call 27; (with_reducible refine (impl_in.calls ((rd_T63 l0_13 x49_2).f1) x3_2 (l0_3.length : Int) true _ A59.out).mono ?_); rintro e w' ⟨rfl, ⟨nd, rfl⟩⟩) | (go_at_call 27; (with_reducible refine (impl_in.calls ((rd_T63 l0_13 x49_2).f2) 0 31 true _ A61.out).mono ?_); rintro e w' ⟨rfl, ⟨nd, rfl⟩⟩))
             go_roundg k2
             case measure => have := HJ1.out; have := HK2.out; omega
             case rel => exact ⟨((rd_T63 l0_13 x49_2).f1), (wrap64 (x49_2 + 1)), (by first | rfl | (simp; done) | (simp [*]; done)), (by first | rfl | (simp; done) | (simp [*]; done)), H', ⟨by have := HJ1.out; have := HK2.out; omega⟩, ⟨(by (with_reducible repeat (first | refine blk_drewN ?_ _ | refine blk_drew ?_ | refine blk_alloc ?_ _)); refine blk_far ?_ NB405_414.out _; (with_reducible repeat (first | refine blk_drewN ?_ _ | refine blk_drew ?_ | refine blk_alloc ?_ _)); refine blk_far ?_ NB405_414.out _; (with_reducible repeat (first | refine blk_drewN ?_ _ | refine blk_drew ?_ | refine blk_alloc ?_ _)); refine blk_far ?_ NB405_414.out _; (with_reducible repeat (first | refine blk_drewN ?_ _ | refine blk_drew ?_ | refine blk_alloc ?_ _)); refine blk_far ?_ NB405_414.out _; (with_reducible repeat (first | refine blk_drewN ?_ _ | refine blk_drew ?_ | refine blk_alloc ?_ _)); exact BK405.out)⟩, ⟨(ybl_)⟩⟩
            ·replace c64 := Bool.eq_false_iff.mpr c64
             subst c64
             have H1 : (if ((rd_T63 l0_13 x49_2).f2) = 0 then (impl_MachineOK.l0 k2 ((rd_T63 l0_13 x49_2).f1) l0_13 (l0_13.length : Int) (wrap64 (x49_2 + 1)) l0_0 l0_1 l0_2 l0_3 l0_4 a0_5 a0_6 a0_7 l0_8 l0_9 l0_10 a0_11 l0_12 l0_13 a0_14 a0_15) else (some false)) = some r := by rw [if_neg (show ¬ (false = true) by decide)] at H; first | done | exact H
             clear H
             have H := H1
             clear H1
             by_cases c69 : ((rd_T63 l0_13 x49_2).f2) = 0
             ·rw [if_pos c69] at H
              have c69b0 : (((rd_T63 l0_13 x49_2).f2) == 0) = true := beq_iff_eq.mpr c69
              have c69b1 : (((rd_T63 l0_13 x49_2).f2) != 0) = false := bne_eq_false_iff_eq.mpr c69
              clear c69
              have H' := am_ H
              clear H
              have p413 : 0 ≤ (x49_2 : Int) := of_decide_eq_true yqv11_
              have q413 : x49_2 < (l0_13.length : Int) := of_decide_eq_true yqv11_
              obtain ⟨ad413, e413, hx413_0, hx413_1, hx413_2, hx413_3⟩ := at_T63 HR0_13.out x49_2 p413 q413
              (try rw [← Nbq63.out] at hx413_3)
              cases e413
              replace hx413_0 := ycst_ HB hx413_0
              replace hx413_1 := ycst_ HB hx413_1
              replace hx413_2 := ycst_ HB hx413_2
              replace hx413_3 := ycst_ HB hx413_3
              replace p413 := eq_true p413
              replace q413 := eq_true q413
              go_wp2_with (first | ((with_reducible refine gate_dst (N := 5) rfl ?_); (try (refine gate_guard (by rfl) ?_; dsimp only)); refine box_event ?hg (N := 5) ?hd (cs := #[.int .i64 0, .int .i64 0, .int .i64 0, .bool false]) (t := 63) ?hr ?_; (case hd => rfl); (case hg => rfl); (case hr => first | (go_simp; done) | (go_simp; rfl)); intro gb414 hg w70 hbox hb; have BK414 := am_ (hbox); have GW414 := am_ ((ybsz_ hg : w.heap.size ≤ gb414)); have GE414 := GW414; replace HB := yst_ hb; have NB405_414 := am_ (ybne_ hg BK405); have NB414_405 := am_ ((ybne_ hg BK405).symm); replace BK405 := am_ (ybb_ BK405 hb); clear hb hbox hg; have hnb71 := NB414_405.out; have hnc71 := NB405_414.out; have hcz72 := ye4_ BK414; have hfz72 := yf4_ BK414) | ((with_reducible refine gate_callee (f := 27) rfl ?_); refine goesL_ (some 55) rfl rfl Tryz.func27 (by kernel_rfl) rfl #[.int .i64 ((rd_T63 l0_13 x49_2).f0), .int .i64 0, .int .i64 2147483647] rfl yk1_ ?_; (with_reducible refine (impl_in.calls ((rd_T63 l0_13 x49_2).f0) 0 2147483647 true _ A57.out).mono ?_); rintro e w' ⟨rfl, ⟨nd, rfl⟩⟩; refine ⟨_, rfl, ?_⟩; have hcz73 := ye16_ BK405; have hfz73 := yf16_ BK405) | (go_at_call 27; (with_reducible refine (impl_in.calls ((rd_T63 l0_13 x49_2).f1) x3_2 (l0_3.length : Int) true _ A59.out).mono ?_); rintro e w' ⟨rfl, ⟨nd, rfl⟩⟩) | (go_at_call 27; (with_reducible refine (impl_in.calls ((rd_T63 l0_13 x49_2).f2) 0 31 true _ A61.out).mono ?_); rintro e w' ⟨rfl, ⟨nd, rfl⟩⟩))
              go_roundg k2
              case measure => have := HJ1.out; have := HK2.out; omega
              case rel => exact ⟨((rd_T63 l0_13 x49_2).f1), (wrap64 (x49_2 + 1)), (by first | rfl | (simp; done) | (simp [*]; done)), (by first | rfl | (simp; done) | (simp [*]; done)), H', ⟨by have := HJ1.out; have := HK2.out; omega⟩, ⟨(by (with_reducible repeat (first | refine blk_drewN ?_ _ | refine blk_drew ?_ | refine blk_alloc ?_ _)); refine blk_far ?_ NB405_414.out _; (with_reducible repeat (first | refine blk_drewN ?_ _ | refine blk_drew ?_ | refine blk_alloc ?_ _)); refine blk_far ?_ NB405_414.out _; (with_reducible repeat (first | refine blk_drewN ?_ _ | refine blk_drew ?_ | refine blk_alloc ?_ _)); refine blk_far ?_ NB405_414.out _; (with_reducible repeat (first | refine blk_drewN ?_ _ | refine blk_drew ?_ | refine blk_alloc ?_ _)); refine blk_far ?_ NB405_414.out _; (with_reducible repeat (first | refine blk_drewN ?_ _ | refine blk_drew ?_ | refine blk_alloc ?_ _)); exact BK405.out)⟩, ⟨(ybl_)⟩⟩
             ·rw [if_neg c69] at H
              have c69b0 : (((rd_T63 l0_13 x49_2).f2) == 0) = false := beq_eq_false_iff_ne.mpr c69
              have c69b1 : (((rd_T63 l0_13 x49_2).f2) != 0) = true := bne_iff_ne.mpr c69
              obtain rfl := Option.some.inj H
              have p413 : 0 ≤ (x49_2 : Int) := of_decide_eq_true yqv11_
              have q413 : x49_2 < (l0_13.length : Int) := of_decide_eq_true yqv11_
              obtain ⟨ad413, e413, hx413_0, hx413_1, hx413_2, hx413_3⟩ := at_T63 HR0_13.out x49_2 p413 q413
              (try rw [← Nbq63.out] at hx413_3)
              cases e413
              replace hx413_0 := ycst_ HB hx413_0
              replace hx413_1 := ycst_ HB hx413_1
              replace hx413_2 := ycst_ HB hx413_2
              replace hx413_3 := ycst_ HB hx413_3
              replace p413 := eq_true p413
              replace q413 := eq_true q413
              go_wp2_with (first | ((with_reducible refine gate_dst (N := 5) rfl ?_); (try (refine gate_guard (by rfl) ?_; dsimp only)); refine box_event ?hg (N := 5) ?hd (cs := #[.int .i64 0, .int .i64 0, .int .i64 0, .bool false]) (t := 63) ?hr ?_; (case hd => rfl); (case hg => rfl); (case hr => first | (go_simp; done) | (go_simp; rfl)); intro gb414 hg w74 hbox hb; have BK414 := am_ (hbox); have GW414 := am_ ((ybsz_ hg : w.heap.size ≤ gb414)); have GE414 := GW414; replace HB := yst_ hb; have NB405_414 := am_ (ybne_ hg BK405); have NB414_405 := am_ ((ybne_ hg BK405).symm); replace BK405 := am_ (ybb_ BK405 hb); clear hb hbox hg; have hnb75 := NB414_405.out; have hnc75 := NB405_414.out; have hcz76 := ye4_ BK414; have hfz76 := yf4_ BK414) | ((with_reducible refine gate_callee (f := 27) rfl ?_); refine goesL_ (some 55) rfl rfl Tryz.func27 (by kernel_rfl) rfl #[.int .i64 ((rd_T63 l0_13 x49_2).f0), .int .i64 0, .int .i64 2147483647] rfl yk1_ ?_; (with_reducible refine (impl_in.calls ((rd_T63 l0_13 x49_2).f0) 0 2147483647 true _ A57.out).mono ?_); rintro e w' ⟨rfl, ⟨nd, rfl⟩⟩; refine ⟨_, rfl, ?_⟩; have hcz77 := ye16_ BK405; have hfz77 := yf16_ BK405) | (go_at_call 27; (with_reducible refine (impl_in.calls ((rd_T63 l0_13 x49_2).f1) x3_2 (l0_3.length : Int) true _ A59.out).mono ?_); rintro e w' ⟨rfl, ⟨nd, rfl⟩⟩) | (go_at_call 27; (with_reducible refine (impl_in.calls ((rd_T63 l0_13 x49_2).f2) 0 31 true _ A61.out).mono ?_); rintro e w' ⟨rfl, ⟨nd, rfl⟩⟩))
              go_ret
              exact ⟨yk0_, ybl_⟩
           ·replace c62 := Bool.eq_false_iff.mpr c62
            subst c62
            have H1 : (some false) = some r := by rw [if_neg (show ¬ (false = true) by decide)] at H; first | done | exact H
            clear H
            have H := H1
            clear H1
            obtain rfl := Option.some.inj H
            have p413 : 0 ≤ (x49_2 : Int) := of_decide_eq_true yqv11_
            have q413 : x49_2 < (l0_13.length : Int) := of_decide_eq_true yqv11_
            obtain ⟨ad413, e413, hx413_0, hx413_1, hx413_2, hx413_3⟩ := at_T63 HR0_13.out x49_2 p413 q413
            cases e413
            replace hx413_0 := ycst_ HB hx413_0
            replace hx413_1 := ycst_ HB hx413_1
            replace hx413_2 := ycst_ HB hx413_2
            replace hx413_3 := ycst_ HB hx413_3
            replace p413 := eq_true p413
            replace q413 := eq_true q413
            go_wp2_with (first | ((with_reducible refine gate_dst (N := 5) rfl ?_); (try (refine gate_guard (by rfl) ?_; dsimp only)); refine box_event ?hg (N := 5) ?hd (cs := #[.int .i64 0, .int .i64 0, .int .i64 0, .bool false]) (t := 63) ?hr ?_; (case hd => rfl); (case hg => rfl); (case hr => first | (go_simp; done) | (go_simp; rfl)); intro gb414 hg w78 hbox hb; have BK414 := am_ (hbox); have GW414 := am_ ((ybsz_ hg : w.heap.size ≤ gb414)); have GE414 := GW414; replace HB := yst_ hb; have NB405_414 := am_ (ybne_ hg BK405); have NB414_405 := am_ ((ybne_ hg BK405).symm); replace BK405 := am_ (ybb_ BK405 hb); clear hb hbox hg; have hnb79 := NB414_405.out; have hnc79 := NB405_414.out; have hcz80 := ye4_ BK414; have hfz80 := yf4_ BK414) | ((with_reducible refine gate_callee (f := 27) rfl ?_); refine goesL_ (some 55) rfl rfl Tryz.func27 (by kernel_rfl) rfl #[.int .i64 ((rd_T63 l0_13 x49_2).f0), .int .i64 0, .int .i64 2147483647] rfl yk1_ ?_; (with_reducible refine (impl_in.calls ((rd_T63 l0_13 x49_2).f0) 0 2147483647 true _ A57.out).mono ?_); rintro e w' ⟨rfl, ⟨nd, rfl⟩⟩; refine ⟨_, rfl, ?_⟩; have hcz81 := ye16_ BK405; have hfz81 := yf16_ BK405) | (go_at_call 27; (with_reducible refine (impl_in.calls ((rd_T63 l0_13 x49_2).f1) x3_2 (l0_3.length : Int) true _ A59.out).mono ?_); rintro e w' ⟨rfl, ⟨nd, rfl⟩⟩) | (go_at_call 27; (with_reducible refine (impl_in.calls ((rd_T63 l0_13 x49_2).f2) 0 31 false _ A61.out).mono ?_); rintro e w' ⟨rfl, ⟨nd, rfl⟩⟩))
            go_ret
            exact ⟨yk0_, ybl_⟩
          ·replace c60 := Bool.eq_false_iff.mpr c60
           subst c60
           have H1 : (some false) = some r := by rw [if_neg (show ¬ (false = true) by decide)] at H; first | done | exact H
           clear H
           have H := H1
           clear H1
           obtain rfl := Option.some.inj H
           have p413 : 0 ≤ (x49_2 : Int) := of_decide_eq_true yqv11_
           have q413 : x49_2 < (l0_13.length : Int) := of_decide_eq_true yqv11_
           obtain ⟨ad413, e413, hx413_0, hx413_1, hx413_2, hx413_3⟩ := at_T63 HR0_13.out x49_2 p413 q413
           cases e413
           replace hx413_0 := ycst_ HB hx413_0
           replace hx413_1 := ycst_ HB hx413_1
           replace hx413_2 := ycst_ HB hx413_2
           replace hx413_3 := ycst_ HB hx413_3
           replace p413 := eq_true p413
           replace q413 := eq_true q413
           go_wp2_with (first | ((with_reducible refine gate_dst (N := 5) rfl ?_); (try (refine gate_guard (by rfl) ?_; dsimp only)); refine box_event ?hg (N := 5) ?hd (cs := #[.int .i64 0, .int .i64 0, .int .i64 0, .bool false]) (t := 63) ?hr ?_; (case hd => rfl); (case hg => rfl); (case hr => first | (go_simp; done) | (go_simp; rfl)); intro gb414 hg w82 hbox hb; have BK414 := am_ (hbox); have GW414 := am_ ((ybsz_ hg : w.heap.size ≤ gb414)); have GE414 := GW414; replace HB := yst_ hb; have NB405_414 := am_ (ybne_ hg BK405); have NB414_405 := am_ ((ybne_ hg BK405).symm); replace BK405 := am_ (ybb_ BK405 hb); clear hb hbox hg; have hnb83 := NB414_405.out; have hnc83 := NB405_414.out; have hcz84 := ye4_ BK414; have hfz84 := yf4_ BK414) | ((with_reducible refine gate_callee (f := 27) rfl ?_); refine goesL_ (some 55) rfl rfl Tryz.func27 (by kernel_rfl) rfl #[.int .i64 ((rd_T63 l0_13 x49_2).f0), .int .i64 0, .int .i64 2147483647] rfl yk1_ ?_; (with_reducible refine (impl_in.calls ((rd_T63 l0_13 x49_2).f0) 0 2147483647 true _ A57.out).mono ?_); rintro e w' ⟨rfl, ⟨nd, rfl⟩⟩; refine ⟨_, rfl, ?_⟩; have hcz85 := ye16_ BK405; have hfz85 := yf16_ BK405) | (go_at_call 27; (with_reducible refine (impl_in.calls ((rd_T63 l0_13 x49_2).f1) x3_2 (l0_3.length : Int) false _ A59.out).mono ?_); rintro e w' ⟨rfl, ⟨nd, rfl⟩⟩))
           go_ret
           exact ⟨yk0_, ybl_⟩
         ·replace c58 := Bool.eq_false_iff.mpr c58
          subst c58
          have H1 : (some false) = some r := by rw [if_neg (show ¬ (false = true) by decide)] at H; first | done | exact H
          clear H
          have H := H1
          clear H1
          obtain rfl := Option.some.inj H
          have p413 : 0 ≤ (x49_2 : Int) := of_decide_eq_true yqv11_
          have q413 : x49_2 < (l0_13.length : Int) := of_decide_eq_true yqv11_
          obtain ⟨ad413, e413, hx413_0, hx413_1, hx413_2, hx413_3⟩ := at_T63 HR0_13.out x49_2 p413 q413
          cases e413
          replace hx413_0 := ycst_ HB hx413_0
          replace hx413_1 := ycst_ HB hx413_1
          replace hx413_2 := ycst_ HB hx413_2
          replace hx413_3 := ycst_ HB hx413_3
          replace p413 := eq_true p413
          replace q413 := eq_true q413
          go_wp2_with (first | ((with_reducible refine gate_dst (N := 5) rfl ?_); (try (refine gate_guard (by rfl) ?_; dsimp only)); refine box_event ?hg (N := 5) ?hd (cs := #[.int .i64 0, .int .i64 0, .int .i64 0, .bool false]) (t := 63) ?hr ?_; (case hd => rfl); (case hg => rfl); (case hr => first | (go_simp; done) | (go_simp; rfl)); intro gb414 hg w86 hbox hb; have BK414 := am_ (hbox); have GW414 := am_ ((ybsz_ hg : w.heap.size ≤ gb414)); have GE414 := GW414; replace HB := yst_ hb; have NB405_414 := am_ (ybne_ hg BK405); have NB414_405 := am_ ((ybne_ hg BK405).symm); replace BK405 := am_ (ybb_ BK405 hb); clear hb hbox hg; have hnb87 := NB414_405.out; have hnc87 := NB405_414.out; have hcz88 := ye4_ BK414; have hfz88 := yf4_ BK414) | ((with_reducible refine gate_callee (f := 27) rfl ?_); refine goesL_ (some 55) rfl rfl Tryz.func27 (by kernel_rfl) rfl #[.int .i64 ((rd_T63 l0_13 x49_2).f0), .int .i64 0, .int .i64 2147483647] rfl yk1_ ?_; (with_reducible refine (impl_in.calls ((rd_T63 l0_13 x49_2).f0) 0 2147483647 false _ A57.out).mono ?_); rintro e w' ⟨rfl, ⟨nd, rfl⟩⟩; refine ⟨_, rfl, ?_⟩))
          go_ret
          exact ⟨yk0_, ybl_⟩
        ·rw [if_neg c56] at H
         exact absurd H (by simp)
       ·rw [if_neg c55] at H
        exact absurd H (by simp)
      ·rw [if_neg c54] at H
       have c54b0 : decide (x49_2 < (l0_13.length : Int)) = false := decide_eq_false c54
       clear c54
       by_cases c89 : (l0_13.length : Int) = 0
       ·rw [if_pos c89] at H
        have c89b0 : ((l0_13.length : Int) == 0) = true := beq_iff_eq.mpr c89
        have c89b1 : ((l0_13.length : Int) != 0) = false := bne_eq_false_iff_eq.mpr c89
        clear c89
        obtain rfl := Option.some.inj H
        have hcz90 := ye16_ BK405
        have hfz90 := yf16_ BK405
        go_wp2
        go_ret
        exact ⟨yk0_, ybl_⟩
       ·rw [if_neg c89] at H
        have c89b0 : ((l0_13.length : Int) == 0) = false := beq_eq_false_iff_ne.mpr c89
        have c89b1 : ((l0_13.length : Int) != 0) = true := bne_iff_ne.mpr c89
        have c89b2 : ¬ (l0_13 = []) := fun h_ => c89 (by rw [h_]; rfl)
        obtain ⟨ji91, hji91⟩ : ∃ j_ : Int, (wrap64 ((l0_13.length : Int) - 1)) = j_ := ⟨_, rfl⟩
        replace H : (if 0 ≤ (ji91) then (if (ji91) < (l0_13.length : Int) then (some (!((rd_T63 l0_13 (ji91)).f3))) else (none)) else (none)) = some r := by first | (rw [hji91] at H; exact H) | (simp only [hji91] at H ⊢; exact H)
        have hji91w : (IntKind.i64.wrap ((l0_13.length : Int) - 1)) = ji91 := (i64_w _).trans hji91
        by_cases c92 : 0 ≤ (ji91)
        ·rw [if_pos c92] at H
         have c92b0 : decide (0 ≤ (ji91)) = true := decide_eq_true c92
         clear c92
         by_cases c93 : (ji91) < (l0_13.length : Int)
         ·rw [if_pos c93] at H
          have c93b0 : decide ((ji91) < (l0_13.length : Int)) = true := decide_eq_true c93
          clear c93
          obtain rfl := Option.some.inj H
          have hcz94 := ye16_ BK405
          have hfz94 := yf16_ BK405
          have p412 : 0 ≤ ((ji91) : Int) := of_decide_eq_true yqv11_
          have q412 : (ji91) < (l0_13.length : Int) := of_decide_eq_true yqv11_
          obtain ⟨ad412, e412, hx412_0, hx412_1, hx412_2, hx412_3⟩ := at_T63 HR0_13.out (ji91) p412 q412
          cases e412
          replace hx412_0 := ycst_ HB hx412_0
          replace hx412_1 := ycst_ HB hx412_1
          replace hx412_2 := ycst_ HB hx412_2
          replace hx412_3 := ycst_ HB hx412_3
          replace p412 := eq_true p412
          replace q412 := eq_true q412
          go_wp2
          go_ret
          exact ⟨by first | rfl | (simp [errW_none, errW_some] <;> rfl) | (simp only [← hji91]; first | rfl | (simp [errW_none, errW_some] <;> rfl)) | (simp [*, errW_none, errW_some] <;> rfl), ybl_⟩
         ·rw [if_neg c93] at H
          exact absurd H (by simp)
        ·rw [if_neg c92] at H
         exact absurd H (by simp)

end Go.Proofs.YtbbfahkmjfmmjaaGreatDoor.PMOK
