-- laid by a program of this session out of the translation's own print: Lean checks it
import Derived.Test.YtbbfahkmjfmmjaaGreatDoorPMOKx0
import Derived.Test.YtbbfahkmjfmmjaaGreatDoorPMOKx8
namespace Go.Proofs.YtbbfahkmjfmmjaaGreatDoor.PMOK
open Go.RowKit Go.Proofs.YtbbfahkmjfmmjaaGreatDoorW.PrintWords Go.Proofs.YtbbfahkmjfmmjaaGreatDoorW.PrintLast Go.Proofs.YtbbfahkmjfmmjaaGreatDoorW.PrintMore
attribute [local go_sem] max2_int min2_int max_two min_two max_three min_three max_four min_four   -- for this text's walks alone
set_option linter.unusedVariables false
set_option linter.unusedSimpArgs false

/-! ### strings_Split: function 94 -/
def Tryz.lays146_ren : Go.Shelf.Ren := ⟨fun | 146 => 94 | 221 => 102 | 268 => 105 | 138 => 106 | 143 => 107 | 195 => 109 | 197 => 110 | 218 => 111 | 219 => 112 | 260 => 115 | 217 => 116 | 225 => 117 | 224 => 118 | 267 => 119 | 266 => 120 | 314 => 121 | n => n, fun | 9 => 9 | 31 => 106 | 3 => 3 | 4 => 4 | 0 => 0 | 105 => 125 | 21 => 21 | 5 => 5 | 46 => 139 | 119 => 113 | 139 => 144 | 138 => 143 | 146 => 145 | 51 => 121 | n => n, fun | 1 => 2 | 3 => 3 | 4 => 4 | n => n⟩
theorem Tryz.lays146 : Go.Proofs.Lays.n146 Tryz.prog Tryz.lays146_ren := {
 mixed := by kernel_rfl
 f138 := Tryz.func106.trans (congrArg some (by kernel_rfl))
 f143 := Tryz.func107.trans (congrArg some (by kernel_rfl))
 f146 := Tryz.func94.trans (congrArg some (by kernel_rfl))
 f195 := Tryz.func109.trans (congrArg some (by kernel_rfl))
 f197 := Tryz.func110.trans (congrArg some (by kernel_rfl))
 f217 := Tryz.func116.trans (congrArg some (by kernel_rfl))
 f218 := Tryz.func111.trans (congrArg some (by kernel_rfl))
 f219 := Tryz.func112.trans (congrArg some (by kernel_rfl))
 f221 := Tryz.func102.trans (congrArg some (by kernel_rfl))
 f224 := Tryz.func118.trans (congrArg some (by kernel_rfl))
 f225 := Tryz.func117.trans (congrArg some (by kernel_rfl))
 f260 := Tryz.func115.trans (congrArg some (by kernel_rfl))
 f266 := Tryz.func120.trans (congrArg some (by kernel_rfl))
 f267 := Tryz.func119.trans (congrArg some (by kernel_rfl))
 f268 := Tryz.func105.trans (congrArg some (by kernel_rfl))
 f314 := Tryz.func121.trans (congrArg some (by kernel_rfl))
 t0 := Tryz.underlying0
 a0 := Tryz.isAgg0
 z0 := Tryz.sizeOf0
 v0 := Tryz.zeroValue0
 t3 := Tryz.underlying3
 a3 := Tryz.isAgg3
 z3 := Tryz.sizeOf3
 v3 := Tryz.zeroValue3
 t4 := Tryz.underlying4
 a4 := Tryz.isAgg4
 z4 := Tryz.sizeOf4
 v4 := Tryz.zeroValue4
 t5 := Tryz.underlying5
 a5 := Tryz.isAgg5
 z5 := Tryz.sizeOf5
 v5 := Tryz.zeroValue5
 t9 := Tryz.underlying9
 a9 := Tryz.isAgg9
 z9 := Tryz.sizeOf9
 v9 := Tryz.zeroValue9
 t21 := Tryz.underlying21
 a21 := Tryz.isAgg21
 z21 := Tryz.sizeOf21
 v21 := Tryz.zeroValue21
 t31 := Tryz.underlying106
 a31 := Tryz.isAgg106
 z31 := Tryz.sizeOf106
 v31 := Tryz.zeroValue106
 t46 := Tryz.underlying139
 a46 := Tryz.isAgg139
 z46 := Tryz.sizeOf139
 v46 := Tryz.zeroValue139
 t51 := Tryz.underlying121
 a51 := Tryz.isAgg121
 z51 := Tryz.sizeOf121
 v51 := Tryz.zeroValue121
 t105 := Tryz.underlying125
 a105 := Tryz.isAgg125
 z105 := Tryz.sizeOf125
 v105 := Tryz.zeroValue125
 t119 := Tryz.underlying113
 a119 := Tryz.isAgg113
 z119 := Tryz.sizeOf113
 t138 := Tryz.underlying143
 a138 := Tryz.isAgg143
 z138 := Tryz.sizeOf143
 v138 := Tryz.zeroValue143
 t139 := Tryz.underlying144
 a139 := Tryz.isAgg144
 z139 := Tryz.sizeOf144
 v139 := Tryz.zeroValue144
 t146 := Tryz.underlying145
 a146 := Tryz.isAgg145
 z146 := Tryz.sizeOf145
 v146 := Tryz.zeroValue145
 g1 := by kernel_rfl
 g3 := by kernel_rfl
 g4 := by kernel_rfl }
def strings_Split.f (s sep : ByteArray) : Option (List ByteArray) := if s.size < 4000000000 then (if 1 ≤ sep.size then some (Lib.splitB sep 0 (Lib.countB s sep) s) else none) else none
theorem strings_Split.calls (s sep : ByteArray) (r : List ByteArray) (w : World) (h : strings_Split.f s sep = some r) (hG : GlobOK w := by first | exact HGL.out | exact GlobOK.below HGL.out HB.out | exact GlobOK.below HGL.out ybl_ | (repeat (first | exact HGL.out | apply GlobOK.drewN | apply GlobOK.drew | apply GlobOK.alloc))) :
  Calls Tryz.prog 94 #[.string s, .string sep] w fun e w' => ∃ v0_ : Value, e = .returned (v0_) ∧ Kd.R Kd.string 9 w' w.heap.size (fun _ => True) v0_ r ∧ Below w.heap.size w w' := by
 unfold strings_Split.f at h
 by_cases h1 : s.size < 4000000000
 ·rw [if_pos h1] at h
  by_cases h2 : 1 ≤ sep.size
  ·rw [if_pos h2] at h
   obtain rfl := Option.some.inj h
   obtain ⟨m, hm⟩ := hG.maxLen
   refine (Go.Proofs.Any.strings_Split Tryz.lays146 (by kernel_rfl) s sep m w (by omega) hm h2).mono ?_
   rintro e w' ⟨rfl, rfl⟩
   have hl := Lib.splitB_all sep h2 0 _ s rfl
   have hc := Lib.countB_le sep h2 s.size s (Nat.le_refl _)
   have hn := texts_new w 9 (Lib.splitB sep 0 (Lib.countB s sep) s) (by rw [hl]; omega)
   rw [hl] at hn
   exact ⟨_, rfl, hn, below_alloc (Below.refl _ _) _⟩
  ·rw [if_neg h2] at h
   cases h
 ·rw [if_neg h1] at h
  cases h


/-! ### strings_Fields: function 95 -/
def Tryz.lays157_ren : Go.Shelf.Ren := ⟨fun | 157 => 95 | 229 => 103 | 199 => 104 | 261 => 108 | 311 => 113 | 312 => 114 | n => n, fun | 9 => 9 | 31 => 106 | 3 => 3 | 5 => 5 | 4 => 4 | 119 => 113 | 0 => 0 | 40 => 115 | 152 => 118 | 21 => 21 | 154 => 120 | 51 => 121 | 141 => 123 | 196 => 131 | 193 => 128 | 198 => 134 | 49 => 132 | 194 => 129 | 201 => 137 | 226 => 140 | 46 => 139 | 227 => 141 | n => n, fun | 0 => 0 | 6 => 1 | n => n⟩
theorem Tryz.lays157 : Go.Proofs.Lays.n157 Tryz.prog Tryz.lays157_ren := {
 mixed := by kernel_rfl
 f157 := Tryz.func95.trans (congrArg some (by kernel_rfl))
 f199 := Tryz.func104.trans (congrArg some (by kernel_rfl))
 f229 := Tryz.func103.trans (congrArg some (by kernel_rfl))
 f261 := Tryz.func108.trans (congrArg some (by kernel_rfl))
 f311 := Tryz.func113.trans (congrArg some (by kernel_rfl))
 f312 := Tryz.func114.trans (congrArg some (by kernel_rfl))
 t0 := Tryz.underlying0
 a0 := Tryz.isAgg0
 z0 := Tryz.sizeOf0
 v0 := Tryz.zeroValue0
 t3 := Tryz.underlying3
 a3 := Tryz.isAgg3
 z3 := Tryz.sizeOf3
 v3 := Tryz.zeroValue3
 t4 := Tryz.underlying4
 a4 := Tryz.isAgg4
 z4 := Tryz.sizeOf4
 v4 := Tryz.zeroValue4
 t5 := Tryz.underlying5
 a5 := Tryz.isAgg5
 z5 := Tryz.sizeOf5
 v5 := Tryz.zeroValue5
 t9 := Tryz.underlying9
 a9 := Tryz.isAgg9
 z9 := Tryz.sizeOf9
 v9 := Tryz.zeroValue9
 t21 := Tryz.underlying21
 a21 := Tryz.isAgg21
 z21 := Tryz.sizeOf21
 v21 := Tryz.zeroValue21
 t31 := Tryz.underlying106
 a31 := Tryz.isAgg106
 z31 := Tryz.sizeOf106
 v31 := Tryz.zeroValue106
 t40 := Tryz.underlying115
 a40 := Tryz.isAgg115
 z40 := Tryz.sizeOf115
 v40 := Tryz.zeroValue115
 t46 := Tryz.underlying139
 a46 := Tryz.isAgg139
 z46 := Tryz.sizeOf139
 v46 := Tryz.zeroValue139
 t49 := Tryz.underlying132
 a49 := Tryz.isAgg132
 z49 := Tryz.sizeOf132
 v49 := Tryz.zeroValue132
 t51 := Tryz.underlying121
 a51 := Tryz.isAgg121
 z51 := Tryz.sizeOf121
 v51 := Tryz.zeroValue121
 t119 := Tryz.underlying113
 a119 := Tryz.isAgg113
 z119 := Tryz.sizeOf113
 t141 := Tryz.underlying123
 a141 := Tryz.isAgg123
 z141 := Tryz.sizeOf123
 v141 := Tryz.zeroValue123
 t152 := Tryz.underlying118
 a152 := Tryz.isAgg118
 z152 := Tryz.sizeOf118
 v152 := Tryz.zeroValue118
 t154 := Tryz.underlying120
 a154 := Tryz.isAgg120
 z154 := Tryz.sizeOf120
 v154 := Tryz.zeroValue120
 t193 := Tryz.underlying128
 a193 := Tryz.isAgg128
 z193 := Tryz.sizeOf128
 v193 := Tryz.zeroValue128
 t194 := Tryz.underlying129
 a194 := Tryz.isAgg129
 z194 := Tryz.sizeOf129
 v194 := Tryz.zeroValue129
 t196 := Tryz.underlying131
 a196 := Tryz.isAgg131
 z196 := Tryz.sizeOf131
 v196 := Tryz.zeroValue131
 t198 := Tryz.underlying134
 a198 := Tryz.isAgg134
 z198 := Tryz.sizeOf134
 v198 := Tryz.zeroValue134
 t201 := Tryz.underlying137
 a201 := Tryz.isAgg137
 z201 := Tryz.sizeOf137
 v201 := Tryz.zeroValue137
 t226 := Tryz.underlying140
 a226 := Tryz.isAgg140
 z226 := Tryz.sizeOf140
 v226 := Tryz.zeroValue140
 t227 := Tryz.underlying141
 a227 := Tryz.isAgg141
 z227 := Tryz.sizeOf141
 v227 := Tryz.zeroValue141
 g0 := by kernel_rfl
 g6 := by kernel_rfl }
def strings_Fields.f (s : ByteArray) : Option (List ByteArray) := if s.size < 4000000000 then (if s.data.toList.all (fun b => decide (b.toNat < 128)) = true then (if (Lib.fields s.data.toList).length ≤ 4294967296 then some ((Lib.fields s.data.toList).map fun l => ⟨l.toArray⟩) else none) else none) else none
theorem strings_Fields.calls (s : ByteArray) (r : List ByteArray) (w : World) (h : strings_Fields.f s = some r) (hG : GlobOK w := by first | exact HGL.out | exact GlobOK.below HGL.out HB.out | exact GlobOK.below HGL.out ybl_ | (repeat (first | exact HGL.out | apply GlobOK.drewN | apply GlobOK.drew | apply GlobOK.alloc))) :
  Calls Tryz.prog 95 #[.string s] w fun e w' => ∃ v0_ : Value, e = .returned (v0_) ∧ Kd.R Kd.string 9 w' w.heap.size (fun _ => True) v0_ r ∧ Below w.heap.size w w' := by
 unfold strings_Fields.f at h
 by_cases h1 : s.size < 4000000000
 ·rw [if_pos h1] at h
  by_cases h2 : s.data.toList.all (fun b => decide (b.toNat < 128)) = true
  ·rw [if_pos h2] at h
   by_cases h3 : (Lib.fields s.data.toList).length ≤ 4294967296
   ·rw [if_pos h3] at h
    obtain rfl := Option.some.inj h
    refine (Go.Proofs.Any.strings_Fields Tryz.lays157 (by kernel_rfl) (by kernel_rfl) s w (by omega) (fun j b hb => ?_) hG.tab_u8).mono ?_
    ·exact of_decide_eq_true (List.all_eq_true.1 h2 b (List.mem_of_getElem? hb))
    ·rintro e w' ⟨rfl, rfl⟩
     have hn := texts_new w 9 ((Lib.fields s.data.toList).map fun l => (⟨l.toArray⟩ : ByteArray)) (by rw [List.length_map]; exact h3)
     rw [List.length_map, List.map_map] at hn
     exact ⟨_, rfl, hn, below_alloc (Below.refl _ _) _⟩
   ·rw [if_neg h3] at h
    cases h
  ·rw [if_neg h2] at h
   cases h
 ·rw [if_neg h1] at h
  cases h


/-! ### impl_KernelWords: function 80 -/
mutual
def impl_KernelWords.l0 : Nat → List (S75) → List ByteArray → Int → Int → Option ((List (S75)))
 | 0, _, _, _, _ => none
 | k + 1, x1, x7, x8, x9 => if x9 < x8 then (if 0 ≤ x9 then (if x9 < (x7.length : Int) then ((strings_Fields.f (rdOf ByteArray.empty x7 x9)).bind fun t336 => (impl_KernelWords.l1 k x1 x9 x7 x8 x9 t336 (t336.length : Int) 0)) else (none)) else (none)) else (some x1)
def impl_KernelWords.l1 : Nat → List (S75) → Int → List ByteArray → Int → Int → List ByteArray → Int → Int → Option ((List (S75)))
 | 0, _, _, _, _, _, _, _, _ => none
 | k + 1, x1, x2, x7, x8, x9, x15, x16, x17 => if x17 < x16 then (if 0 ≤ x17 then (if x17 < (x15.length : Int) then (if x1.length < 4398046511104 then (impl_KernelWords.l1 k (x1 ++ [(⟨rdOf ByteArray.empty x15 x17, wrap64 (x2 + 1), wrap64 (x17 + 1)⟩ : S75)]) x2 x7 x8 x9 x15 x16 (wrap64 (x17 + 1))) else (none)) else (none)) else (none)) else (impl_KernelWords.l0 k x1 x7 x8 (wrap64 (x9 + 1)))
end
def impl_KernelWords.f (k : Nat)  : Option ((List (S75))) := (strings_Split.f (⟨#[68, 85, 80, 32, 68, 82, 79, 80, 32, 83, 87, 65, 80, 32, 79, 86, 69, 82, 32, 82, 79, 84, 32, 78, 73, 80, 32, 84, 85, 67, 75, 32, 63, 68, 85, 80, 32, 50, 68, 85, 80, 32, 50, 68, 82, 79, 80, 32, 68, 69, 80, 84, 72, 32, 62, 82, 32, 82, 62, 32, 82, 64, 32, 43, 32, 45, 32, 42, 32, 47, 32, 77, 79, 68, 32, 65, 78, 68, 32, 79, 82, 32, 88, 79, 82, 32, 76, 83, 72, 73, 70, 84, 32, 82, 83, 72, 73, 70, 84, 32, 78, 69, 71, 65, 84, 69, 32, 65, 66, 83, 32, 73, 78, 86, 69, 82, 84, 32, 49, 43, 32, 49, 45, 32, 77, 73, 78, 32, 77, 65, 88, 32, 61, 32, 60, 62, 32, 60, 32, 62, 32, 85, 60, 32, 48, 61, 32, 48, 60, 32, 64, 32, 33, 32, 43, 33, 32, 72, 69, 82, 69, 32, 65, 76, 76, 79, 84, 32, 44, 32, 69, 77, 73, 84, 32, 46, 32, 67, 82, 32, 83, 80, 65, 67, 69, 32, 68, 69, 67, 73, 77, 65, 76, 32, 72, 69, 88, 32, 73, 32, 85, 78, 76, 79, 79, 80, 124, 69, 88, 73, 84, 32, 69, 88, 69, 67, 85, 84, 69, 32, 67, 65, 84, 67, 72, 32, 84, 72, 82, 79, 87, 124, 40, 76, 73, 84, 41, 32, 40, 66, 82, 65, 78, 67, 72, 41, 32, 40, 48, 66, 82, 65, 78, 67, 72, 41, 32, 40, 68, 79, 41, 32, 40, 76, 79, 79, 80, 41, 32, 40, 43, 76, 79, 79, 80, 41, 124, 72, 82, 69, 65, 68, 32, 72, 87, 82, 73, 84, 69, 32, 72, 65, 83, 75, 32, 72, 84, 73, 77, 69, 124, 58, 32, 59, 32, 73, 70, 32, 69, 76, 83, 69, 32, 84, 72, 69, 78, 32, 66, 69, 71, 73, 78, 32, 85, 78, 84, 73, 76, 32, 87, 72, 73, 76, 69, 32, 82, 69, 80, 69, 65, 84, 32, 68, 79, 32, 76, 79, 79, 80, 32, 43, 76, 79, 79, 80, 32, 82, 69, 67, 85, 82, 83, 69, 32, 86, 65, 82, 73, 65, 66, 76, 69, 32, 67, 79, 78, 83, 84, 65, 78, 84, 32, 39, 32, 91, 39, 93]⟩ : ByteArray) (⟨#[124]⟩ : ByteArray)).bind fun t332 => (impl_KernelWords.l0 k (([] : List (S75))) t332 (t332.length : Int) 0)
theorem impl_KernelWords.mono_l : ∀ k, (∀ y0 y1 y2 y3, LeO (impl_KernelWords.l0 k y0 y1 y2 y3) (impl_KernelWords.l0 (k + 1) y0 y1 y2 y3)) ∧ (∀ y0 y1 y2 y3 y4 y5 y6 y7, LeO (impl_KernelWords.l1 k y0 y1 y2 y3 y4 y5 y6 y7) (impl_KernelWords.l1 (k + 1) y0 y1 y2 y3 y4 y5 y6 y7))
 | 0 => ⟨fun _ _ _ _ r h => by simp [impl_KernelWords.l0] at h, fun _ _ _ _ _ _ _ _ r h => by simp [impl_KernelWords.l1] at h⟩
 | k + 1 => by
  obtain ⟨ih0, ih1⟩ := impl_KernelWords.mono_l k
  refine ⟨?_, ?_⟩
  ·intro y0 y1 y2 y3
   unfold impl_KernelWords.l0
   repeat' first
   | (with_reducible exact ih0 _ _ _ _)
   | (with_reducible exact ih1 _ _ _ _ _ _ _ _)
   | (with_reducible exact LeO.refl _)
   | (with_reducible exact LeO.none _)
   | (with_reducible refine LeO.ite ?_ ?_)
   | (with_reducible refine LeO.bind ?_ (fun _ => ?_))
   | exact ih0 _ _ _ _
   | exact ih1 _ _ _ _ _ _ _ _
   | exact LeO.none _
   | refine LeO.ite ?_ ?_
   | refine LeO.bind ?_ (fun _ => ?_)
  ·intro y0 y1 y2 y3 y4 y5 y6 y7
   unfold impl_KernelWords.l1
   repeat' first
   | (with_reducible exact ih0 _ _ _ _)
   | (with_reducible exact ih1 _ _ _ _ _ _ _ _)
   | (with_reducible exact LeO.refl _)
   | (with_reducible exact LeO.none _)
   | (with_reducible refine LeO.ite ?_ ?_)
   | (with_reducible refine LeO.bind ?_ (fun _ => ?_))
   | exact ih0 _ _ _ _
   | exact ih1 _ _ _ _ _ _ _ _
   | exact LeO.none _
   | refine LeO.ite ?_ ?_
   | refine LeO.bind ?_ (fun _ => ?_)
theorem impl_KernelWords.mono : ∀ k, LeO (impl_KernelWords.f k ) (impl_KernelWords.f (k + 1) ) := by
 intro  k
 obtain ⟨ih0, ih1⟩ := impl_KernelWords.mono_l k
 unfold impl_KernelWords.f
 repeat' first
   | (with_reducible exact ih0 _ _ _ _)
   | (with_reducible exact ih1 _ _ _ _ _ _ _ _)
   | (with_reducible exact LeO.refl _)
   | (with_reducible exact LeO.none _)
   | (with_reducible refine LeO.ite ?_ ?_)
   | (with_reducible refine LeO.bind ?_ (fun _ => ?_))
   | exact ih0 _ _ _ _
   | exact ih1 _ _ _ _ _ _ _ _
   | exact LeO.none _
   | refine LeO.ite ?_ ?_
   | refine LeO.bind ?_ (fun _ => ?_)
set_option maxHeartbeats 8000000 in
set_option maxRecDepth 100000 in
theorem impl_KernelWords.calls (k : Nat)  (r : List (S75)) (w : World) (h : impl_KernelWords.f k  = some r) (hG : GlobOK w := by first | exact HGL.out | exact GlobOK.below HGL.out HB.out | exact GlobOK.below HGL.out ybl_ | (repeat (first | exact HGL.out | apply GlobOK.drewN | apply GlobOK.drew | apply GlobOK.alloc))) :
  Calls Tryz.prog 80 #[] w fun e w' => ∃ v0_ : Value, e = .returned (v0_) ∧ Kd.R k75 75 w' w.heap.size (fun _ => True) v0_ r ∧ Below w.heap.size w w' := by
 have HGL := am_ hG
 clear hG
 have hu75 := Tryz.underlying75
 have HB := am_ (Below.refl w.heap.size w)
 have H : ((strings_Split.f (⟨#[68, 85, 80, 32, 68, 82, 79, 80, 32, 83, 87, 65, 80, 32, 79, 86, 69, 82, 32, 82, 79, 84, 32, 78, 73, 80, 32, 84, 85, 67, 75, 32, 63, 68, 85, 80, 32, 50, 68, 85, 80, 32, 50, 68, 82, 79, 80, 32, 68, 69, 80, 84, 72, 32, 62, 82, 32, 82, 62, 32, 82, 64, 32, 43, 32, 45, 32, 42, 32, 47, 32, 77, 79, 68, 32, 65, 78, 68, 32, 79, 82, 32, 88, 79, 82, 32, 76, 83, 72, 73, 70, 84, 32, 82, 83, 72, 73, 70, 84, 32, 78, 69, 71, 65, 84, 69, 32, 65, 66, 83, 32, 73, 78, 86, 69, 82, 84, 32, 49, 43, 32, 49, 45, 32, 77, 73, 78, 32, 77, 65, 88, 32, 61, 32, 60, 62, 32, 60, 32, 62, 32, 85, 60, 32, 48, 61, 32, 48, 60, 32, 64, 32, 33, 32, 43, 33, 32, 72, 69, 82, 69, 32, 65, 76, 76, 79, 84, 32, 44, 32, 69, 77, 73, 84, 32, 46, 32, 67, 82, 32, 83, 80, 65, 67, 69, 32, 68, 69, 67, 73, 77, 65, 76, 32, 72, 69, 88, 32, 73, 32, 85, 78, 76, 79, 79, 80, 124, 69, 88, 73, 84, 32, 69, 88, 69, 67, 85, 84, 69, 32, 67, 65, 84, 67, 72, 32, 84, 72, 82, 79, 87, 124, 40, 76, 73, 84, 41, 32, 40, 66, 82, 65, 78, 67, 72, 41, 32, 40, 48, 66, 82, 65, 78, 67, 72, 41, 32, 40, 68, 79, 41, 32, 40, 76, 79, 79, 80, 41, 32, 40, 43, 76, 79, 79, 80, 41, 124, 72, 82, 69, 65, 68, 32, 72, 87, 82, 73, 84, 69, 32, 72, 65, 83, 75, 32, 72, 84, 73, 77, 69, 124, 58, 32, 59, 32, 73, 70, 32, 69, 76, 83, 69, 32, 84, 72, 69, 78, 32, 66, 69, 71, 73, 78, 32, 85, 78, 84, 73, 76, 32, 87, 72, 73, 76, 69, 32, 82, 69, 80, 69, 65, 84, 32, 68, 79, 32, 76, 79, 79, 80, 32, 43, 76, 79, 79, 80, 32, 82, 69, 67, 85, 82, 83, 69, 32, 86, 65, 82, 73, 65, 66, 76, 69, 32, 67, 79, 78, 83, 84, 65, 78, 84, 32, 39, 32, 91, 39, 93]⟩ : ByteArray) (⟨#[124]⟩ : ByteArray)).bind fun t332 => (impl_KernelWords.l0 k (([] : List (S75))) t332 (t332.length : Int) 0)) = some r := h
 clear h
 obtain ⟨y329, hy329⟩ : ∃ y_ : List (S75), y_ = (([] : List (S75))) := ⟨_, rfl⟩
 replace H : ((strings_Split.f (⟨#[68, 85, 80, 32, 68, 82, 79, 80, 32, 83, 87, 65, 80, 32, 79, 86, 69, 82, 32, 82, 79, 84, 32, 78, 73, 80, 32, 84, 85, 67, 75, 32, 63, 68, 85, 80, 32, 50, 68, 85, 80, 32, 50, 68, 82, 79, 80, 32, 68, 69, 80, 84, 72, 32, 62, 82, 32, 82, 62, 32, 82, 64, 32, 43, 32, 45, 32, 42, 32, 47, 32, 77, 79, 68, 32, 65, 78, 68, 32, 79, 82, 32, 88, 79, 82, 32, 76, 83, 72, 73, 70, 84, 32, 82, 83, 72, 73, 70, 84, 32, 78, 69, 71, 65, 84, 69, 32, 65, 66, 83, 32, 73, 78, 86, 69, 82, 84, 32, 49, 43, 32, 49, 45, 32, 77, 73, 78, 32, 77, 65, 88, 32, 61, 32, 60, 62, 32, 60, 32, 62, 32, 85, 60, 32, 48, 61, 32, 48, 60, 32, 64, 32, 33, 32, 43, 33, 32, 72, 69, 82, 69, 32, 65, 76, 76, 79, 84, 32, 44, 32, 69, 77, 73, 84, 32, 46, 32, 67, 82, 32, 83, 80, 65, 67, 69, 32, 68, 69, 67, 73, 77, 65, 76, 32, 72, 69, 88, 32, 73, 32, 85, 78, 76, 79, 79, 80, 124, 69, 88, 73, 84, 32, 69, 88, 69, 67, 85, 84, 69, 32, 67, 65, 84, 67, 72, 32, 84, 72, 82, 79, 87, 124, 40, 76, 73, 84, 41, 32, 40, 66, 82, 65, 78, 67, 72, 41, 32, 40, 48, 66, 82, 65, 78, 67, 72, 41, 32, 40, 68, 79, 41, 32, 40, 76, 79, 79, 80, 41, 32, 40, 43, 76, 79, 79, 80, 41, 124, 72, 82, 69, 65, 68, 32, 72, 87, 82, 73, 84, 69, 32, 72, 65, 83, 75, 32, 72, 84, 73, 77, 69, 124, 58, 32, 59, 32, 73, 70, 32, 69, 76, 83, 69, 32, 84, 72, 69, 78, 32, 66, 69, 71, 73, 78, 32, 85, 78, 84, 73, 76, 32, 87, 72, 73, 76, 69, 32, 82, 69, 80, 69, 65, 84, 32, 68, 79, 32, 76, 79, 79, 80, 32, 43, 76, 79, 79, 80, 32, 82, 69, 67, 85, 82, 83, 69, 32, 86, 65, 82, 73, 65, 66, 76, 69, 32, 67, 79, 78, 83, 84, 65, 78, 84, 32, 39, 32, 91, 39, 93]⟩ : ByteArray) (⟨#[124]⟩ : ByteArray)).bind fun t332 => (impl_KernelWords.l0 k y329 t332 (t332.length : Int) 0)) = some r := by first | (rw [hy329]; with_reducible exact H) | (have H2_ := (Option.bind_some _ _).symm.trans H; rw [hy329]; with_reducible exact H2_) | (have H2_ := (Option.bind_some _ _).symm.trans H; with_reducible exact H2_) | with_reducible exact H | (rw [hy329]; exact H) | exact H
 have Ny329 := am_ hy329
 clear hy329
 replace H := Option.bind_eq_some_iff.mp H
 obtain ⟨t332, A10, H⟩ := H
 replace H : (impl_KernelWords.l0 k y329 t332 (t332.length : Int) 0) = some r := H
 have A1 := am_ A10
 clear A10
 have H' := am_ H
 clear H
 go_enter Tryz.func80, Tryz.ntmps80
 go_wp2_with (first | ((with_reducible refine gate_dst (N := 6) rfl ?_); refine Kd.R_lit k75 _ 75 ?hg (N := 6) ?hd (xs := ([] : List (S75))) (inner := []) (ok := fun _ => True) (okp := fun _ => True) ?hr ?hp (fun _ hk => hk) trivial (Below.refl _ _) (Nat.le_refl _) (by simp) ?_; (case hd => rfl); (case hg => rfl); (case hr => first | (go_simp; done) | (go_simp; rfl)); (case hp => exact (Reps.none _ _)); intro v330 w2 ho3 hb hg_ hnew_; clear hg_ hnew_; (first | rw [← Ny329.out] at ho3 | (simp only [Int.reduceToNat] at ho3; rw [← Ny329.out] at ho3)); have HO331 := am_ (Kd.R_lower ho3 (below_size ybl_)); replace HB := yst_ hb; clear hb ho3) | ((with_reducible refine gate_callee (f := 94) rfl ?_); refine goesL_ (some 7) rfl rfl Tryz.func94 (by kernel_rfl) rfl #[.string (⟨#[68, 85, 80, 32, 68, 82, 79, 80, 32, 83, 87, 65, 80, 32, 79, 86, 69, 82, 32, 82, 79, 84, 32, 78, 73, 80, 32, 84, 85, 67, 75, 32, 63, 68, 85, 80, 32, 50, 68, 85, 80, 32, 50, 68, 82, 79, 80, 32, 68, 69, 80, 84, 72, 32, 62, 82, 32, 82, 62, 32, 82, 64, 32, 43, 32, 45, 32, 42, 32, 47, 32, 77, 79, 68, 32, 65, 78, 68, 32, 79, 82, 32, 88, 79, 82, 32, 76, 83, 72, 73, 70, 84, 32, 82, 83, 72, 73, 70, 84, 32, 78, 69, 71, 65, 84, 69, 32, 65, 66, 83, 32, 73, 78, 86, 69, 82, 84, 32, 49, 43, 32, 49, 45, 32, 77, 73, 78, 32, 77, 65, 88, 32, 61, 32, 60, 62, 32, 60, 32, 62, 32, 85, 60, 32, 48, 61, 32, 48, 60, 32, 64, 32, 33, 32, 43, 33, 32, 72, 69, 82, 69, 32, 65, 76, 76, 79, 84, 32, 44, 32, 69, 77, 73, 84, 32, 46, 32, 67, 82, 32, 83, 80, 65, 67, 69, 32, 68, 69, 67, 73, 77, 65, 76, 32, 72, 69, 88, 32, 73, 32, 85, 78, 76, 79, 79, 80, 124, 69, 88, 73, 84, 32, 69, 88, 69, 67, 85, 84, 69, 32, 67, 65, 84, 67, 72, 32, 84, 72, 82, 79, 87, 124, 40, 76, 73, 84, 41, 32, 40, 66, 82, 65, 78, 67, 72, 41, 32, 40, 48, 66, 82, 65, 78, 67, 72, 41, 32, 40, 68, 79, 41, 32, 40, 76, 79, 79, 80, 41, 32, 40, 43, 76, 79, 79, 80, 41, 124, 72, 82, 69, 65, 68, 32, 72, 87, 82, 73, 84, 69, 32, 72, 65, 83, 75, 32, 72, 84, 73, 77, 69, 124, 58, 32, 59, 32, 73, 70, 32, 69, 76, 83, 69, 32, 84, 72, 69, 78, 32, 66, 69, 71, 73, 78, 32, 85, 78, 84, 73, 76, 32, 87, 72, 73, 76, 69, 32, 82, 69, 80, 69, 65, 84, 32, 68, 79, 32, 76, 79, 79, 80, 32, 43, 76, 79, 79, 80, 32, 82, 69, 67, 85, 82, 83, 69, 32, 86, 65, 82, 73, 65, 66, 76, 69, 32, 67, 79, 78, 83, 84, 65, 78, 84, 32, 39, 32, 91, 39, 93]⟩ : ByteArray), .string (⟨#[124]⟩ : ByteArray)] rfl yk1_ ?_; (with_reducible refine (strings_Split.calls (⟨#[68, 85, 80, 32, 68, 82, 79, 80, 32, 83, 87, 65, 80, 32, 79, 86, 69, 82, 32, 82, 79, 84, 32, 78, 73, 80, 32, 84, 85, 67, 75, 32, 63, 68, 85, 80, 32, 50, 68, 85, 80, 32, 50, 68, 82, 79, 80, 32, 68, 69, 80, 84, 72, 32, 62, 82, 32, 82, 62, 32, 82, 64, 32, 43, 32, 45, 32, 42, 32, 47, 32, 77, 79, 68, 32, 65, 78, 68, 32, 79, 82, 32, 88, 79, 82, 32, 76, 83, 72, 73, 70, 84, 32, 82, 83, 72, 73, 70, 84, 32, 78, 69, 71, 65, 84, 69, 32, 65, 66, 83, 32, 73, 78, 86, 69, 82, 84, 32, 49, 43, 32, 49, 45, 32, 77, 73, 78, 32, 77, 65, 88, 32, 61, 32, 60, 62, 32, 60, 32, 62, 32, 85, 60, 32, 48, 61, 32, 48, 60, 32, 64, 32, 33, 32, 43, 33, 32, 72, 69, 82, 69, 32, 65, 76, 76, 79, 84, 32, 44, 32, 69, 77, 73, 84, 32, 46, 32, 67, 82, 32, 83, 80, 65, 67, 69, 32, 68, 69, 67, 73, 77, 65, 76, 32, 72, 69, 88, 32, 73, 32, 85, 78, 76, 79, 79, 80, 124, 69, 88, 73, 84, 32, 69, 88, 69, 67, 85, 84, 69, 32, 67, 65, 84, 67, 72, 32, 84, 72, 82, 79, 87, 124, 40, 76, 73, 84, 41, 32, 40, 66, 82, 65, 78, 67, 72, 41, 32, 40, 48, 66, 82, 65, 78, 67, 72, 41, 32, 40, 68, 79, 41, 32, 40, 76, 79, 79, 80, 41, 32, 40, 43, 76, 79, 79, 80, 41, 124, 72, 82, 69, 65, 68, 32, 72, 87, 82, 73, 84, 69, 32, 72, 65, 83, 75, 32, 72, 84, 73, 77, 69, 124, 58, 32, 59, 32, 73, 70, 32, 69, 76, 83, 69, 32, 84, 72, 69, 78, 32, 66, 69, 71, 73, 78, 32, 85, 78, 84, 73, 76, 32, 87, 72, 73, 76, 69, 32, 82, 69, 80, 69, 65, 84, 32, 68, 79, 32, 76, 79, 79, 80, 32, 43, 76, 79, 79, 80, 32, 82, 69, 67, 85, 82, 83, 69, 32, 86, 65, 82, 73, 65, 66, 76, 69, 32, 67, 79, 78, 83, 84, 65, 78, 84, 32, 39, 32, 91, 39, 93]⟩ : ByteArray) (⟨#[124]⟩ : ByteArray) t332 _ A1.out).mono ?_); rintro e w4 ⟨v333, rfl, ho0, hb⟩; refine ⟨_, rfl, ?_⟩; replace HO331 := am_ (Kd.R_below (yru_ HO331) hb); have HO334 := am_ (Kd.R_lower ho0 (below_size ybl_)); replace HB := yst_ hb; (try clear hb); (try clear hb2); (try clear hk); (try clear hi); (try clear ho0); obtain ⟨Ao5, co5, eo5⟩ := Kd.R_slice HO334.out; subst eo5))
 go_loopg [1, 9] k (fun kq v1 v9 w' => ∃ (x1_1 : List (S75)) (x9_1 : Int), v9 = .int .i64 x9_1 ∧ Aside0 (impl_KernelWords.l0 kq x1_1 t332 (t332.length : Int) x9_1 = some r) ∧ Aside0 (kq ≤ k) ∧ Aside0 (Kd.R k75 75 w' w.heap.size (fun _ => True) v1 x1_1) ∧ Aside0 (Kd.R Kd.string 9 w' w.heap.size (fun _ => True) (.slice Ao5 t332.length co5) t332) ∧ Aside0 (Below w.heap.size w w'))
 case atStart => exact ⟨(y329), (0), (by first | rfl | (simp; done) | (simp [*]; done)), H', ⟨Nat.le_refl _⟩, ⟨(yru_ HO331)⟩, ⟨(yru_ HO334)⟩, ⟨ybl_⟩⟩
 case round =>
  clear H'
  try clear p2
  obtain ⟨x1_1, x9_1, rfl, HA, HK1, HO_1, HO_7, HB⟩ := hrel
  cases gk with
  | zero => exact absurd HA.out (by simp [impl_KernelWords.l0])
  | succ k1 =>
   have H := HA.out
   clear HA
   simp only [impl_KernelWords.l0] at H
   by_cases c6 : x9_1 < (t332.length : Int)
   ·rw [if_pos c6] at H
    have c6b0 : decide (x9_1 < (t332.length : Int)) = true := decide_eq_true c6
    clear c6
    by_cases c7 : 0 ≤ x9_1
    ·rw [if_pos c7] at H
     have c7b0 : decide (0 ≤ x9_1) = true := decide_eq_true c7
     clear c7
     by_cases c8 : x9_1 < (t332.length : Int)
     ·rw [if_pos c8] at H
      have c8b0 : decide (x9_1 < (t332.length : Int)) = true := decide_eq_true c8
      clear c8
      replace H := Option.bind_eq_some_iff.mp H
      obtain ⟨t336, A90, H⟩ := H
      replace H : (impl_KernelWords.l1 k1 x1_1 x9_1 t332 (t332.length : Int) x9_1 t336 (t336.length : Int) 0) = some r := H
      have A9 := am_ A90
      clear A90
      have H' := am_ H
      clear H
      have p335 : 0 ≤ (x9_1 : Int) := of_decide_eq_true yqv11_
      have q335 : x9_1 < (t332.length : Int) := of_decide_eq_true yqv11_
      obtain ⟨ad335, e335, hx335_0⟩ := Kd.at_string (Kd.R_reads' HO_7.out).2.2 x9_1 p335 q335
      cases e335
      replace p335 := eq_true p335
      replace q335 := eq_true q335
      go_wp2_with (first | ((with_reducible refine gate_callee (f := 95) rfl ?_); refine goesL_ (some 15) rfl rfl Tryz.func95 (by kernel_rfl) rfl #[.string (rdOf ByteArray.empty t332 x9_1)] rfl yk1_ ?_; (with_reducible refine (strings_Fields.calls (rdOf ByteArray.empty t332 x9_1) t336 _ A9.out).mono ?_); rintro e w10 ⟨v337, rfl, ho0, hb⟩; refine ⟨_, rfl, ?_⟩; replace HO_1 := am_ (Kd.R_below (yru_ HO_1) hb); have HO338 := am_ (Kd.R_lower (Kd.R_new' ho0 (Kd.R_lt (yru_ HO_7))) (below_size ybl_)); replace HO_7 := am_ (Kd.R_elder' (yru_ HO_7) (Kd.R_base ho0) hb); replace HB := yst_ hb; (try clear hb); (try clear hb2); (try clear hk); (try clear hi); (try clear ho0); obtain ⟨Ao11, co11, eo11⟩ := Kd.R_slice HO338.out; subst eo11))
      go_loopg [1, 17] k1 (fun kq v1 v17 w' => ∃ (x1_2 : List (S75)) (x17_2 : Int), v17 = .int .i64 x17_2 ∧ Aside0 (impl_KernelWords.l1 kq x1_2 x9_1 t332 (t332.length : Int) x9_1 t336 (t336.length : Int) x17_2 = some r) ∧ Aside0 (kq ≤ k1) ∧ Aside0 (Kd.R k75 75 w' w.heap.size (fun _ => True) v1 x1_2) ∧ Aside0 (Kd.R Kd.string 9 w' w.heap.size (fun k_ => some k_ ≠ ((.slice Ao11 t336.length co11) : Value).ownBlock) (.slice (some ad335) t332.length co5) t332) ∧ Aside0 (Kd.R Kd.string 9 w' w.heap.size (fun k_ => some k_ ≠ ((.slice (some ad335) t332.length co5) : Value).ownBlock) (.slice Ao11 t336.length co11) t336) ∧ Aside0 (Below w.heap.size w w'))
      case atStart => exact ⟨(x1_1), (0), (by first | rfl | (simp; done) | (simp [*]; done)), H', ⟨Nat.le_refl _⟩, ⟨(yru_ HO_1)⟩, ⟨by (with_reducible repeat (first | apply Kd.R_alloc | apply Kd.R_drewN | apply Kd.R_drew)); exact Kd.R_mono HO_7.out (fun _ hk => hk.2)⟩, ⟨by (with_reducible repeat (first | apply Kd.R_alloc | apply Kd.R_drewN | apply Kd.R_drew)); exact Kd.R_mono HO338.out (fun _ hk => hk.2)⟩, ⟨ybl_⟩⟩
      case round =>
       clear H'
       try clear p2
       try clear p3
       try clear q3
       try clear hx3
       try clear c6
       try clear c6b0
       try clear c7
       try clear c7b0
       try clear c8
       try clear c8b0
       try clear c9
       try clear hx335_0
       try clear p2
       try clear p335
       try clear q335
       obtain ⟨x1_2, x17_2, rfl, HA, HK2, HO_1, HO_7, HO_15, HB⟩ := hrel
       cases gk with
       | zero => exact absurd HA.out (by simp [impl_KernelWords.l1])
       | succ k2 =>
        have H := HA.out
        clear HA
        simp only [impl_KernelWords.l1] at H
        by_cases c12 : x17_2 < (t336.length : Int)
        ·rw [if_pos c12] at H
         have c12b0 : decide (x17_2 < (t336.length : Int)) = true := decide_eq_true c12
         clear c12
         by_cases c13 : 0 ≤ x17_2
         ·rw [if_pos c13] at H
          have c13b0 : decide (0 ≤ x17_2) = true := decide_eq_true c13
          clear c13
          by_cases c14 : x17_2 < (t336.length : Int)
          ·rw [if_pos c14] at H
           have c14b0 : decide (x17_2 < (t336.length : Int)) = true := decide_eq_true c14
           clear c14
           by_cases c15 : x1_2.length < 4398046511104
           ·rw [if_pos c15] at H
            have LMc15 := am_ c15
            clear c15
            obtain ⟨y340, hy340⟩ : ∃ y_ : List (S75), y_ = (x1_2 ++ [(⟨rdOf ByteArray.empty t336 x17_2, wrap64 (x9_1 + 1), wrap64 (x17_2 + 1)⟩ : S75)]) := ⟨_, rfl⟩
            replace H : (impl_KernelWords.l1 k2 y340 x9_1 t332 (t332.length : Int) x9_1 t336 (t336.length : Int) (wrap64 (x17_2 + 1))) = some r := by first | (rw [hy340]; with_reducible exact H) | (have H2_ := (Option.bind_some _ _).symm.trans H; rw [hy340]; with_reducible exact H2_) | (have H2_ := (Option.bind_some _ _).symm.trans H; with_reducible exact H2_) | with_reducible exact H | (rw [hy340]; exact H) | exact H
            have Ny340 := am_ hy340
            clear hy340
            have H' := am_ H
            clear H
            have p339 : 0 ≤ (x17_2 : Int) := of_decide_eq_true yqv11_
            have q339 : x17_2 < (t336.length : Int) := of_decide_eq_true yqv11_
            obtain ⟨ad339, e339, hx339_0⟩ := Kd.at_string (Kd.R_reads' HO_15.out).2.2 x17_2 p339 q339
            cases e339
            replace p339 := eq_true p339
            replace q339 := eq_true q339
            go_wp2_with (first | ((with_reducible refine gate_builtin (b := .append) (xs := #[.tmp 22, .tmp 29]) rfl ?_); at_builtin; refine Kd.R_append k75 (w0 := w) w.heap.size rfl (.tmp 22) (.tmp 29) 35 75 (.agg #[(.string ⟨#[]⟩), (.int .i64 0), (.int .i64 0)]) 32 rfl Tryz.underlying35 info75 rfl (by decide) (by omega) u1 x1_2 (⟨rdOf ByteArray.empty t336 x17_2, wrap64 (x9_1 + 1), wrap64 (x17_2 + 1)⟩ : S75) [.string (rdOf ByteArray.empty t336 x17_2), .int .i64 (wrap64 (x9_1 + 1)), .int .i64 (wrap64 (x17_2 + 1))] (fun _ => True) (fun _ => False) rfl rfl ?aP (fun _ hk => hk.elim) ?aF ?aO ?aB ?aS ?aL ?_; (case aP => exact k75_mkM _ _ _ (⟨rdOf ByteArray.empty t336 x17_2, wrap64 (x9_1 + 1), wrap64 (x17_2 + 1)⟩ : S75)); (case aB => exact ybl_); (case aF => exact (fun _ _ => trivial)); (case aO => exact (yru_ HO_1)); (case aS => exact (below_size ybl_)); (case aL => have := LMc15.out; omega); intro v341 w16 ho hb hg hat; rw [← Ny340.out] at ho; replace HO_7 := am_ (Kd.R_over' (yru_ HO_7) (Kd.R_typed (yru_ HO_1)) (by decide) hg); replace HO_15 := am_ (Kd.R_over' (yru_ HO_15) (Kd.R_typed (yru_ HO_1)) (by decide) hg); replace HB := am_ (hb); have HO342 := am_ (ho); clear HO_1; clear ho hb hg hat))
            go_roundg k2
            case measure => have := HK1.out; have := HK2.out; omega
            case rel => exact ⟨(y340), (wrap64 (x17_2 + 1)), (by first | rfl | (simp; done) | (simp [*]; done)), H', ⟨by have := HK1.out; have := HK2.out; omega⟩, ⟨(yru_ HO342)⟩, ⟨(yru_ HO_7)⟩, ⟨(yru_ HO_15)⟩, ⟨ybl_⟩⟩
           ·rw [if_neg c15] at H
            exact absurd H (by simp)
          ·rw [if_neg c14] at H
           exact absurd H (by simp)
         ·rw [if_neg c13] at H
          exact absurd H (by simp)
        ·rw [if_neg c12] at H
         have c12b0 : decide (x17_2 < (t336.length : Int)) = false := decide_eq_false c12
         clear c12
         have H' := am_ H
         clear H
         go_wp2
         go_roundg k2
         case measure => have := HK1.out; have := HK2.out; omega
         case rel => exact ⟨(x1_2), (wrap64 (x9_1 + 1)), (by first | rfl | (simp; done) | (simp [*]; done)), H', ⟨by have := HK1.out; have := HK2.out; omega⟩, ⟨(yru_ HO_1)⟩, ⟨by (with_reducible repeat (first | apply Kd.R_alloc | apply Kd.R_drewN | apply Kd.R_drew)); exact Kd.R_mono HO_7.out (fun _ hk => trivial)⟩, ⟨ybl_⟩⟩
     ·rw [if_neg c8] at H
      exact absurd H (by simp)
    ·rw [if_neg c7] at H
     exact absurd H (by simp)
   ·rw [if_neg c6] at H
    have c6b0 : decide (x9_1 < (t332.length : Int)) = false := decide_eq_false c6
    clear c6
    obtain rfl := Option.some.inj H
    go_wp2
    go_ret
    exact ⟨_, yk0_, by (with_reducible repeat (first | apply Kd.R_alloc | apply Kd.R_drewN | apply Kd.R_drew)); exact HO_1.out, ybl_⟩

end Go.Proofs.YtbbfahkmjfmmjaaGreatDoor.PMOK
