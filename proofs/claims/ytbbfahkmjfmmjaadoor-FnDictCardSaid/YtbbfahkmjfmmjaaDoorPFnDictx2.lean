-- laid by a program of this session out of the translation's own print: Lean checks it
import Derived.Test.YtbbfahkmjfmmjaaDoorPFnDictx0
namespace Go.Proofs.YtbbfahkmjfmmjaaDoor.PFnDict
open Go.RowKit Go.Proofs.YtbbfahkmjfmmjaaDoorW.PrintWords Go.Proofs.YtbbfahkmjfmmjaaDoorW.PrintLast Go.Proofs.YtbbfahkmjfmmjaaDoorW.PrintMore
attribute [local go_sem] max2_int min2_int max_two min_two max_three min_three max_four min_four   -- for this text's walks alone
set_option linter.unusedVariables false
set_option linter.unusedSimpArgs false

/-! ### spec_l04Prims: function 90 -/
def spec_l04Prims.f  : Option (List ByteArray) := some (([(⟨#[68, 85, 80]⟩ : ByteArray), (⟨#[68, 82, 79, 80]⟩ : ByteArray), (⟨#[83, 87, 65, 80]⟩ : ByteArray), (⟨#[79, 86, 69, 82]⟩ : ByteArray), (⟨#[82, 79, 84]⟩ : ByteArray), (⟨#[78, 73, 80]⟩ : ByteArray), (⟨#[84, 85, 67, 75]⟩ : ByteArray), (⟨#[63, 68, 85, 80]⟩ : ByteArray), (⟨#[50, 68, 85, 80]⟩ : ByteArray), (⟨#[50, 68, 82, 79, 80]⟩ : ByteArray), (⟨#[68, 69, 80, 84, 72]⟩ : ByteArray), (⟨#[62, 82]⟩ : ByteArray), (⟨#[82, 62]⟩ : ByteArray), (⟨#[82, 64]⟩ : ByteArray), (⟨#[43]⟩ : ByteArray), (⟨#[45]⟩ : ByteArray), (⟨#[42]⟩ : ByteArray), (⟨#[47]⟩ : ByteArray), (⟨#[77, 79, 68]⟩ : ByteArray), (⟨#[65, 78, 68]⟩ : ByteArray), (⟨#[79, 82]⟩ : ByteArray), (⟨#[88, 79, 82]⟩ : ByteArray), (⟨#[76, 83, 72, 73, 70, 84]⟩ : ByteArray), (⟨#[82, 83, 72, 73, 70, 84]⟩ : ByteArray), (⟨#[78, 69, 71, 65, 84, 69]⟩ : ByteArray), (⟨#[65, 66, 83]⟩ : ByteArray), (⟨#[73, 78, 86, 69, 82, 84]⟩ : ByteArray), (⟨#[49, 43]⟩ : ByteArray), (⟨#[49, 45]⟩ : ByteArray), (⟨#[77, 73, 78]⟩ : ByteArray), (⟨#[77, 65, 88]⟩ : ByteArray), (⟨#[61]⟩ : ByteArray), (⟨#[60, 62]⟩ : ByteArray), (⟨#[60]⟩ : ByteArray), (⟨#[62]⟩ : ByteArray), (⟨#[85, 60]⟩ : ByteArray), (⟨#[48, 61]⟩ : ByteArray), (⟨#[48, 60]⟩ : ByteArray), (⟨#[64]⟩ : ByteArray), (⟨#[33]⟩ : ByteArray), (⟨#[43, 33]⟩ : ByteArray), (⟨#[72, 69, 82, 69]⟩ : ByteArray), (⟨#[65, 76, 76, 79, 84]⟩ : ByteArray), (⟨#[44]⟩ : ByteArray), (⟨#[69, 77, 73, 84]⟩ : ByteArray), (⟨#[46]⟩ : ByteArray), (⟨#[67, 82]⟩ : ByteArray), (⟨#[83, 80, 65, 67, 69]⟩ : ByteArray), (⟨#[68, 69, 67, 73, 77, 65, 76]⟩ : ByteArray), (⟨#[72, 69, 88]⟩ : ByteArray), (⟨#[73]⟩ : ByteArray), (⟨#[85, 78, 76, 79, 79, 80]⟩ : ByteArray)] : List ByteArray))
set_option maxHeartbeats 8000000 in
set_option maxRecDepth 100000 in
theorem spec_l04Prims.calls  (r : List ByteArray) (w : World) (h : spec_l04Prims.f  = some r) :
    Calls Tryd.prog 90 #[] w fun e w' => ∃ v0_ : Value, e = .returned (v0_) ∧ Kd.R Kd.string 9 w' w.heap.size (fun _ => True) v0_ r ∧ Below w.heap.size w w' := by
  have HB := Aside0.mk (Below.refl w.heap.size w)
  have H : (some (([(⟨#[68, 85, 80]⟩ : ByteArray), (⟨#[68, 82, 79, 80]⟩ : ByteArray), (⟨#[83, 87, 65, 80]⟩ : ByteArray), (⟨#[79, 86, 69, 82]⟩ : ByteArray), (⟨#[82, 79, 84]⟩ : ByteArray), (⟨#[78, 73, 80]⟩ : ByteArray), (⟨#[84, 85, 67, 75]⟩ : ByteArray), (⟨#[63, 68, 85, 80]⟩ : ByteArray), (⟨#[50, 68, 85, 80]⟩ : ByteArray), (⟨#[50, 68, 82, 79, 80]⟩ : ByteArray), (⟨#[68, 69, 80, 84, 72]⟩ : ByteArray), (⟨#[62, 82]⟩ : ByteArray), (⟨#[82, 62]⟩ : ByteArray), (⟨#[82, 64]⟩ : ByteArray), (⟨#[43]⟩ : ByteArray), (⟨#[45]⟩ : ByteArray), (⟨#[42]⟩ : ByteArray), (⟨#[47]⟩ : ByteArray), (⟨#[77, 79, 68]⟩ : ByteArray), (⟨#[65, 78, 68]⟩ : ByteArray), (⟨#[79, 82]⟩ : ByteArray), (⟨#[88, 79, 82]⟩ : ByteArray), (⟨#[76, 83, 72, 73, 70, 84]⟩ : ByteArray), (⟨#[82, 83, 72, 73, 70, 84]⟩ : ByteArray), (⟨#[78, 69, 71, 65, 84, 69]⟩ : ByteArray), (⟨#[65, 66, 83]⟩ : ByteArray), (⟨#[73, 78, 86, 69, 82, 84]⟩ : ByteArray), (⟨#[49, 43]⟩ : ByteArray), (⟨#[49, 45]⟩ : ByteArray), (⟨#[77, 73, 78]⟩ : ByteArray), (⟨#[77, 65, 88]⟩ : ByteArray), (⟨#[61]⟩ : ByteArray), (⟨#[60, 62]⟩ : ByteArray), (⟨#[60]⟩ : ByteArray), (⟨#[62]⟩ : ByteArray), (⟨#[85, 60]⟩ : ByteArray), (⟨#[48, 61]⟩ : ByteArray), (⟨#[48, 60]⟩ : ByteArray), (⟨#[64]⟩ : ByteArray), (⟨#[33]⟩ : ByteArray), (⟨#[43, 33]⟩ : ByteArray), (⟨#[72, 69, 82, 69]⟩ : ByteArray), (⟨#[65, 76, 76, 79, 84]⟩ : ByteArray), (⟨#[44]⟩ : ByteArray), (⟨#[69, 77, 73, 84]⟩ : ByteArray), (⟨#[46]⟩ : ByteArray), (⟨#[67, 82]⟩ : ByteArray), (⟨#[83, 80, 65, 67, 69]⟩ : ByteArray), (⟨#[68, 69, 67, 73, 77, 65, 76]⟩ : ByteArray), (⟨#[72, 69, 88]⟩ : ByteArray), (⟨#[73]⟩ : ByteArray), (⟨#[85, 78, 76, 79, 79, 80]⟩ : ByteArray)] : List ByteArray))) = some r := h
  clear h
  obtain ⟨y101, hy101⟩ : ∃ y_ : List ByteArray, y_ = (([(⟨#[68, 85, 80]⟩ : ByteArray), (⟨#[68, 82, 79, 80]⟩ : ByteArray), (⟨#[83, 87, 65, 80]⟩ : ByteArray), (⟨#[79, 86, 69, 82]⟩ : ByteArray), (⟨#[82, 79, 84]⟩ : ByteArray), (⟨#[78, 73, 80]⟩ : ByteArray), (⟨#[84, 85, 67, 75]⟩ : ByteArray), (⟨#[63, 68, 85, 80]⟩ : ByteArray), (⟨#[50, 68, 85, 80]⟩ : ByteArray), (⟨#[50, 68, 82, 79, 80]⟩ : ByteArray), (⟨#[68, 69, 80, 84, 72]⟩ : ByteArray), (⟨#[62, 82]⟩ : ByteArray), (⟨#[82, 62]⟩ : ByteArray), (⟨#[82, 64]⟩ : ByteArray), (⟨#[43]⟩ : ByteArray), (⟨#[45]⟩ : ByteArray), (⟨#[42]⟩ : ByteArray), (⟨#[47]⟩ : ByteArray), (⟨#[77, 79, 68]⟩ : ByteArray), (⟨#[65, 78, 68]⟩ : ByteArray), (⟨#[79, 82]⟩ : ByteArray), (⟨#[88, 79, 82]⟩ : ByteArray), (⟨#[76, 83, 72, 73, 70, 84]⟩ : ByteArray), (⟨#[82, 83, 72, 73, 70, 84]⟩ : ByteArray), (⟨#[78, 69, 71, 65, 84, 69]⟩ : ByteArray), (⟨#[65, 66, 83]⟩ : ByteArray), (⟨#[73, 78, 86, 69, 82, 84]⟩ : ByteArray), (⟨#[49, 43]⟩ : ByteArray), (⟨#[49, 45]⟩ : ByteArray), (⟨#[77, 73, 78]⟩ : ByteArray), (⟨#[77, 65, 88]⟩ : ByteArray), (⟨#[61]⟩ : ByteArray), (⟨#[60, 62]⟩ : ByteArray), (⟨#[60]⟩ : ByteArray), (⟨#[62]⟩ : ByteArray), (⟨#[85, 60]⟩ : ByteArray), (⟨#[48, 61]⟩ : ByteArray), (⟨#[48, 60]⟩ : ByteArray), (⟨#[64]⟩ : ByteArray), (⟨#[33]⟩ : ByteArray), (⟨#[43, 33]⟩ : ByteArray), (⟨#[72, 69, 82, 69]⟩ : ByteArray), (⟨#[65, 76, 76, 79, 84]⟩ : ByteArray), (⟨#[44]⟩ : ByteArray), (⟨#[69, 77, 73, 84]⟩ : ByteArray), (⟨#[46]⟩ : ByteArray), (⟨#[67, 82]⟩ : ByteArray), (⟨#[83, 80, 65, 67, 69]⟩ : ByteArray), (⟨#[68, 69, 67, 73, 77, 65, 76]⟩ : ByteArray), (⟨#[72, 69, 88]⟩ : ByteArray), (⟨#[73]⟩ : ByteArray), (⟨#[85, 78, 76, 79, 79, 80]⟩ : ByteArray)] : List ByteArray)) := ⟨_, rfl⟩
  replace H : (some y101) = some r := by first | (rw [hy101]; with_reducible exact H) | (have H2_ := (Option.bind_some _ _).symm.trans H; rw [hy101]; with_reducible exact H2_) | (have H2_ := (Option.bind_some _ _).symm.trans H; with_reducible exact H2_) | with_reducible exact H | (rw [hy101]; exact H) | exact H
  have Ny101 := Aside0.mk hy101
  clear hy101
  obtain rfl := Option.some.inj H
  go_enter Tryd.func90, Tryd.ntmps90
  go_wp2_with (first | ((with_reducible refine gate_dst (N := 1) rfl ?_); refine Kd.R_lit Kd.string _ 9 ?hg (N := 1) ?hd (xs := ([(⟨#[68, 85, 80]⟩ : ByteArray), (⟨#[68, 82, 79, 80]⟩ : ByteArray), (⟨#[83, 87, 65, 80]⟩ : ByteArray), (⟨#[79, 86, 69, 82]⟩ : ByteArray), (⟨#[82, 79, 84]⟩ : ByteArray), (⟨#[78, 73, 80]⟩ : ByteArray), (⟨#[84, 85, 67, 75]⟩ : ByteArray), (⟨#[63, 68, 85, 80]⟩ : ByteArray), (⟨#[50, 68, 85, 80]⟩ : ByteArray), (⟨#[50, 68, 82, 79, 80]⟩ : ByteArray), (⟨#[68, 69, 80, 84, 72]⟩ : ByteArray), (⟨#[62, 82]⟩ : ByteArray), (⟨#[82, 62]⟩ : ByteArray), (⟨#[82, 64]⟩ : ByteArray), (⟨#[43]⟩ : ByteArray), (⟨#[45]⟩ : ByteArray), (⟨#[42]⟩ : ByteArray), (⟨#[47]⟩ : ByteArray), (⟨#[77, 79, 68]⟩ : ByteArray), (⟨#[65, 78, 68]⟩ : ByteArray), (⟨#[79, 82]⟩ : ByteArray), (⟨#[88, 79, 82]⟩ : ByteArray), (⟨#[76, 83, 72, 73, 70, 84]⟩ : ByteArray), (⟨#[82, 83, 72, 73, 70, 84]⟩ : ByteArray), (⟨#[78, 69, 71, 65, 84, 69]⟩ : ByteArray), (⟨#[65, 66, 83]⟩ : ByteArray), (⟨#[73, 78, 86, 69, 82, 84]⟩ : ByteArray), (⟨#[49, 43]⟩ : ByteArray), (⟨#[49, 45]⟩ : ByteArray), (⟨#[77, 73, 78]⟩ : ByteArray), (⟨#[77, 65, 88]⟩ : ByteArray), (⟨#[61]⟩ : ByteArray), (⟨#[60, 62]⟩ : ByteArray), (⟨#[60]⟩ : ByteArray), (⟨#[62]⟩ : ByteArray), (⟨#[85, 60]⟩ : ByteArray), (⟨#[48, 61]⟩ : ByteArray), (⟨#[48, 60]⟩ : ByteArray), (⟨#[64]⟩ : ByteArray), (⟨#[33]⟩ : ByteArray), (⟨#[43, 33]⟩ : ByteArray), (⟨#[72, 69, 82, 69]⟩ : ByteArray), (⟨#[65, 76, 76, 79, 84]⟩ : ByteArray), (⟨#[44]⟩ : ByteArray), (⟨#[69, 77, 73, 84]⟩ : ByteArray), (⟨#[46]⟩ : ByteArray), (⟨#[67, 82]⟩ : ByteArray), (⟨#[83, 80, 65, 67, 69]⟩ : ByteArray), (⟨#[68, 69, 67, 73, 77, 65, 76]⟩ : ByteArray), (⟨#[72, 69, 88]⟩ : ByteArray), (⟨#[73]⟩ : ByteArray), (⟨#[85, 78, 76, 79, 79, 80]⟩ : ByteArray)] : List ByteArray)) (inner := [.string (⟨#[68, 85, 80]⟩ : ByteArray), .string (⟨#[68, 82, 79, 80]⟩ : ByteArray), .string (⟨#[83, 87, 65, 80]⟩ : ByteArray), .string (⟨#[79, 86, 69, 82]⟩ : ByteArray), .string (⟨#[82, 79, 84]⟩ : ByteArray), .string (⟨#[78, 73, 80]⟩ : ByteArray), .string (⟨#[84, 85, 67, 75]⟩ : ByteArray), .string (⟨#[63, 68, 85, 80]⟩ : ByteArray), .string (⟨#[50, 68, 85, 80]⟩ : ByteArray), .string (⟨#[50, 68, 82, 79, 80]⟩ : ByteArray), .string (⟨#[68, 69, 80, 84, 72]⟩ : ByteArray), .string (⟨#[62, 82]⟩ : ByteArray), .string (⟨#[82, 62]⟩ : ByteArray), .string (⟨#[82, 64]⟩ : ByteArray), .string (⟨#[43]⟩ : ByteArray), .string (⟨#[45]⟩ : ByteArray), .string (⟨#[42]⟩ : ByteArray), .string (⟨#[47]⟩ : ByteArray), .string (⟨#[77, 79, 68]⟩ : ByteArray), .string (⟨#[65, 78, 68]⟩ : ByteArray), .string (⟨#[79, 82]⟩ : ByteArray), .string (⟨#[88, 79, 82]⟩ : ByteArray), .string (⟨#[76, 83, 72, 73, 70, 84]⟩ : ByteArray), .string (⟨#[82, 83, 72, 73, 70, 84]⟩ : ByteArray), .string (⟨#[78, 69, 71, 65, 84, 69]⟩ : ByteArray), .string (⟨#[65, 66, 83]⟩ : ByteArray), .string (⟨#[73, 78, 86, 69, 82, 84]⟩ : ByteArray), .string (⟨#[49, 43]⟩ : ByteArray), .string (⟨#[49, 45]⟩ : ByteArray), .string (⟨#[77, 73, 78]⟩ : ByteArray), .string (⟨#[77, 65, 88]⟩ : ByteArray), .string (⟨#[61]⟩ : ByteArray), .string (⟨#[60, 62]⟩ : ByteArray), .string (⟨#[60]⟩ : ByteArray), .string (⟨#[62]⟩ : ByteArray), .string (⟨#[85, 60]⟩ : ByteArray), .string (⟨#[48, 61]⟩ : ByteArray), .string (⟨#[48, 60]⟩ : ByteArray), .string (⟨#[64]⟩ : ByteArray), .string (⟨#[33]⟩ : ByteArray), .string (⟨#[43, 33]⟩ : ByteArray), .string (⟨#[72, 69, 82, 69]⟩ : ByteArray), .string (⟨#[65, 76, 76, 79, 84]⟩ : ByteArray), .string (⟨#[44]⟩ : ByteArray), .string (⟨#[69, 77, 73, 84]⟩ : ByteArray), .string (⟨#[46]⟩ : ByteArray), .string (⟨#[67, 82]⟩ : ByteArray), .string (⟨#[83, 80, 65, 67, 69]⟩ : ByteArray), .string (⟨#[68, 69, 67, 73, 77, 65, 76]⟩ : ByteArray), .string (⟨#[72, 69, 88]⟩ : ByteArray), .string (⟨#[73]⟩ : ByteArray), .string (⟨#[85, 78, 76, 79, 79, 80]⟩ : ByteArray)]) (ok := fun _ => True) (okp := fun _ => True) ?hr ?hp (fun _ hk => hk) trivial (Below.refl _ _) (Nat.le_refl _) (by simp) ?_; (case hd => rfl); (case hg => rfl); (case hr => first | (go_simp; done) | (go_simp; rfl)); (case hp => exact (Reps.one (show Kd.M Kd.string _ _ _ (⟨#[68, 85, 80]⟩ : ByteArray) [.string (⟨#[68, 85, 80]⟩ : ByteArray)] from rfl) (Reps.one (show Kd.M Kd.string _ _ _ (⟨#[68, 82, 79, 80]⟩ : ByteArray) [.string (⟨#[68, 82, 79, 80]⟩ : ByteArray)] from rfl) (Reps.one (show Kd.M Kd.string _ _ _ (⟨#[83, 87, 65, 80]⟩ : ByteArray) [.string (⟨#[83, 87, 65, 80]⟩ : ByteArray)] from rfl) (Reps.one (show Kd.M Kd.string _ _ _ (⟨#[79, 86, 69, 82]⟩ : ByteArray) [.string (⟨#[79, 86, 69, 82]⟩ : ByteArray)] from rfl) (Reps.one (show Kd.M Kd.string _ _ _ (⟨#[82, 79, 84]⟩ : ByteArray) [.string (⟨#[82, 79, 84]⟩ : ByteArray)] from rfl) (Reps.one (show Kd.M Kd.string _ _ _ (⟨#[78, 73, 80]⟩ : ByteArray) [.string (⟨#[78, 73, 80]⟩ : ByteArray)] from rfl) (Reps.one (show Kd.M Kd.string _ _ _ (⟨#[84, 85, 67, 75]⟩ : ByteArray) [.string (⟨#[84, 85, 67, 75]⟩ : ByteArray)] from rfl) (Reps.one (show Kd.M Kd.string _ _ _ (⟨#[63, 68, 85, 80]⟩ : ByteArray) [.string (⟨#[63, 68, 85, 80]⟩ : ByteArray)] from rfl) (Reps.one (show Kd.M Kd.string _ _ _ (⟨#[50, 68, 85, 80]⟩ : ByteArray) [.string (⟨#[50, 68, 85, 80]⟩ : ByteArray)] from rfl) (Reps.one (show Kd.M Kd.string _ _ _ (⟨#[50, 68, 82, 79, 80]⟩ : ByteArray) [.string (⟨#[50, 68, 82, 79, 80]⟩ : ByteArray)] from rfl) (Reps.one (show Kd.M Kd.string _ _ _ (⟨#[68, 69, 80, 84, 72]⟩ : ByteArray) [.string (⟨#[68, 69, 80, 84, 72]⟩ : ByteArray)] from rfl) (Reps.one (show Kd.M Kd.string _ _ _ (⟨#[62, 82]⟩ : ByteArray) [.string (⟨#[62, 82]⟩ : ByteArray)] from rfl) (Reps.one (show Kd.M Kd.string _ _ _ (⟨#[82, 62]⟩ : ByteArray) [.string (⟨#[82, 62]⟩ : ByteArray)] from rfl) (Reps.one (show Kd.M Kd.string _ _ _ (⟨#[82, 64]⟩ : ByteArray) [.string (⟨#[82, 64]⟩ : ByteArray)] from rfl) (Reps.one (show Kd.M Kd.string _ _ _ (⟨#[43]⟩ : ByteArray) [.string (⟨#[43]⟩ : ByteArray)] from rfl) (Reps.one (show Kd.M Kd.string _ _ _ (⟨#[45]⟩ : ByteArray) [.string (⟨#[45]⟩ : ByteArray)] from rfl) (Reps.one (show Kd.M Kd.string _ _ _ (⟨#[42]⟩ : ByteArray) [.string (⟨#[42]⟩ : ByteArray)] from rfl) (Reps.one (show Kd.M Kd.string _ _ _ (⟨#[47]⟩ : ByteArray) [.string (⟨#[47]⟩ : ByteArray)] from rfl) (Reps.one (show Kd.M Kd.string _ _ _ (⟨#[77, 79, 68]⟩ : ByteArray) [.string (⟨#[77, 79, 68]⟩ : ByteArray)] from rfl) (Reps.one (show Kd.M Kd.string _ _ _ (⟨#[65, 78, 68]⟩ : ByteArray) [.string (⟨#[65, 78, 68]⟩ : ByteArray)] from rfl) (Reps.one (show Kd.M Kd.string _ _ _ (⟨#[79, 82]⟩ : ByteArray) [.string (⟨#[79, 82]⟩ : ByteArray)] from rfl) (Reps.one (show Kd.M Kd.string _ _ _ (⟨#[88, 79, 82]⟩ : ByteArray) [.string (⟨#[88, 79, 82]⟩ : ByteArray)] from rfl) (Reps.one (show Kd.M Kd.string _ _ _ (⟨#[76, 83, 72, 73, 70, 84]⟩ : ByteArray) [.string (⟨#[76, 83, 72, 73, 70, 84]⟩ : ByteArray)] from rfl) (Reps.one (show Kd.M Kd.string _ _ _ (⟨#[82, 83, 72, 73, 70, 84]⟩ : ByteArray) [.string (⟨#[82, 83, 72, 73, 70, 84]⟩ : ByteArray)] from rfl) (Reps.one (show Kd.M Kd.string _ _ _ (⟨#[78, 69, 71, 65, 84, 69]⟩ : ByteArray) [.string (⟨#[78, 69, 71, 65, 84, 69]⟩ : ByteArray)] from rfl) (Reps.one (show Kd.M Kd.string _ _ _ (⟨#[65, 66, 83]⟩ : ByteArray) [.string (⟨#[65, 66, 83]⟩ : ByteArray)] from rfl) (Reps.one (show Kd.M Kd.string _ _ _ (⟨#[73, 78, 86, 69, 82, 84]⟩ : ByteArray) [.string (⟨#[73, 78, 86, 69, 82, 84]⟩ : ByteArray)] from rfl) (Reps.one (show Kd.M Kd.string _ _ _ (⟨#[49, 43]⟩ : ByteArray) [.string (⟨#[49, 43]⟩ : ByteArray)] from rfl) (Reps.one (show Kd.M Kd.string _ _ _ (⟨#[49, 45]⟩ : ByteArray) [.string (⟨#[49, 45]⟩ : ByteArray)] from rfl) (Reps.one (show Kd.M Kd.string _ _ _ (⟨#[77, 73, 78]⟩ : ByteArray) [.string (⟨#[77, 73, 78]⟩ : ByteArray)] from rfl) (Reps.one (show Kd.M Kd.string _ _ _ (⟨#[77, 65, 88]⟩ : ByteArray) [.string (⟨#[77, 65, 88]⟩ : ByteArray)] from rfl) (Reps.one (show Kd.M Kd.string _ _ _ (⟨#[61]⟩ : ByteArray) [.string (⟨#[61]⟩ : ByteArray)] from rfl) (Reps.one (show Kd.M Kd.string _ _ _ (⟨#[60, 62]⟩ : ByteArray) [.string (⟨#[60, 62]⟩ : ByteArray)] from rfl) (Reps.one (show Kd.M Kd.string _ _ _ (⟨#[60]⟩ : ByteArray) [.string (⟨#[60]⟩ : ByteArray)] from rfl) (Reps.one (show Kd.M Kd.string _ _ _ (⟨#[62]⟩ : ByteArray) [.string (⟨#[62]⟩ : ByteArray)] from rfl) (Reps.one (show Kd.M Kd.string _ _ _ (⟨#[85, 60]⟩ : ByteArray) [.string (⟨#[85, 60]⟩ : ByteArray)] from rfl) (Reps.one (show Kd.M Kd.string _ _ _ (⟨#[48, 61]⟩ : ByteArray) [.string (⟨#[48, 61]⟩ : ByteArray)] from rfl) (Reps.one (show Kd.M Kd.string _ _ _ (⟨#[48, 60]⟩ : ByteArray) [.string (⟨#[48, 60]⟩ : ByteArray)] from rfl) (Reps.one (show Kd.M Kd.string _ _ _ (⟨#[64]⟩ : ByteArray) [.string (⟨#[64]⟩ : ByteArray)] from rfl) (Reps.one (show Kd.M Kd.string _ _ _ (⟨#[33]⟩ : ByteArray) [.string (⟨#[33]⟩ : ByteArray)] from rfl) (Reps.one (show Kd.M Kd.string _ _ _ (⟨#[43, 33]⟩ : ByteArray) [.string (⟨#[43, 33]⟩ : ByteArray)] from rfl) (Reps.one (show Kd.M Kd.string _ _ _ (⟨#[72, 69, 82, 69]⟩ : ByteArray) [.string (⟨#[72, 69, 82, 69]⟩ : ByteArray)] from rfl) (Reps.one (show Kd.M Kd.string _ _ _ (⟨#[65, 76, 76, 79, 84]⟩ : ByteArray) [.string (⟨#[65, 76, 76, 79, 84]⟩ : ByteArray)] from rfl) (Reps.one (show Kd.M Kd.string _ _ _ (⟨#[44]⟩ : ByteArray) [.string (⟨#[44]⟩ : ByteArray)] from rfl) (Reps.one (show Kd.M Kd.string _ _ _ (⟨#[69, 77, 73, 84]⟩ : ByteArray) [.string (⟨#[69, 77, 73, 84]⟩ : ByteArray)] from rfl) (Reps.one (show Kd.M Kd.string _ _ _ (⟨#[46]⟩ : ByteArray) [.string (⟨#[46]⟩ : ByteArray)] from rfl) (Reps.one (show Kd.M Kd.string _ _ _ (⟨#[67, 82]⟩ : ByteArray) [.string (⟨#[67, 82]⟩ : ByteArray)] from rfl) (Reps.one (show Kd.M Kd.string _ _ _ (⟨#[83, 80, 65, 67, 69]⟩ : ByteArray) [.string (⟨#[83, 80, 65, 67, 69]⟩ : ByteArray)] from rfl) (Reps.one (show Kd.M Kd.string _ _ _ (⟨#[68, 69, 67, 73, 77, 65, 76]⟩ : ByteArray) [.string (⟨#[68, 69, 67, 73, 77, 65, 76]⟩ : ByteArray)] from rfl) (Reps.one (show Kd.M Kd.string _ _ _ (⟨#[72, 69, 88]⟩ : ByteArray) [.string (⟨#[72, 69, 88]⟩ : ByteArray)] from rfl) (Reps.one (show Kd.M Kd.string _ _ _ (⟨#[73]⟩ : ByteArray) [.string (⟨#[73]⟩ : ByteArray)] from rfl) (Reps.one (show Kd.M Kd.string _ _ _ (⟨#[85, 78, 76, 79, 79, 80]⟩ : ByteArray) [.string (⟨#[85, 78, 76, 79, 79, 80]⟩ : ByteArray)] from rfl) (Reps.none _ _)))))))))))))))))))))))))))))))))))))))))))))))))))))); intro v102 w1 ho2 hb hg_ hnew_; clear hg_ hnew_; (first | rw [← Ny101.out] at ho2 | (simp only [Int.reduceToNat] at ho2; rw [← Ny101.out] at ho2)); have HO103 := Aside0.mk (Kd.R_lower ho2 (below_size (by repeat (first | (with_reducible first | exact HB.out | apply below_alloc | apply pw_below_drewN | apply below_drew1) | exact HB.out)))); replace HB := Aside0.mk (below_step (by repeat (first | (with_reducible first | exact HB.out | apply below_alloc | apply pw_below_drewN | apply below_drew1) | exact HB.out)) hb); clear hb ho2))
  go_ret
  exact ⟨_, by first | rfl | (simp [errW_none, errW_some] <;> rfl) | (simp [*, errW_none, errW_some] <;> rfl), by (with_reducible repeat (first | apply Kd.R_alloc | apply Kd.R_drewN | apply Kd.R_drew)); exact HO103.out, by repeat (first | (with_reducible first | exact HB.out | apply below_alloc | apply pw_below_drewN | apply below_drew1) | exact HB.out)⟩

/-! ### spec_l04Flows: function 91 -/
def spec_l04Flows.f  : Option (List ByteArray) := some (([(⟨#[69, 88, 73, 84]⟩ : ByteArray), (⟨#[69, 88, 69, 67, 85, 84, 69]⟩ : ByteArray), (⟨#[67, 65, 84, 67, 72]⟩ : ByteArray), (⟨#[84, 72, 82, 79, 87]⟩ : ByteArray)] : List ByteArray))
set_option maxHeartbeats 8000000 in
set_option maxRecDepth 100000 in
theorem spec_l04Flows.calls  (r : List ByteArray) (w : World) (h : spec_l04Flows.f  = some r) :
    Calls Tryd.prog 91 #[] w fun e w' => ∃ v0_ : Value, e = .returned (v0_) ∧ Kd.R Kd.string 9 w' w.heap.size (fun _ => True) v0_ r ∧ Below w.heap.size w w' := by
  have HB := Aside0.mk (Below.refl w.heap.size w)
  have H : (some (([(⟨#[69, 88, 73, 84]⟩ : ByteArray), (⟨#[69, 88, 69, 67, 85, 84, 69]⟩ : ByteArray), (⟨#[67, 65, 84, 67, 72]⟩ : ByteArray), (⟨#[84, 72, 82, 79, 87]⟩ : ByteArray)] : List ByteArray))) = some r := h
  clear h
  obtain ⟨y104, hy104⟩ : ∃ y_ : List ByteArray, y_ = (([(⟨#[69, 88, 73, 84]⟩ : ByteArray), (⟨#[69, 88, 69, 67, 85, 84, 69]⟩ : ByteArray), (⟨#[67, 65, 84, 67, 72]⟩ : ByteArray), (⟨#[84, 72, 82, 79, 87]⟩ : ByteArray)] : List ByteArray)) := ⟨_, rfl⟩
  replace H : (some y104) = some r := by first | (rw [hy104]; with_reducible exact H) | (have H2_ := (Option.bind_some _ _).symm.trans H; rw [hy104]; with_reducible exact H2_) | (have H2_ := (Option.bind_some _ _).symm.trans H; with_reducible exact H2_) | with_reducible exact H | (rw [hy104]; exact H) | exact H
  have Ny104 := Aside0.mk hy104
  clear hy104
  obtain rfl := Option.some.inj H
  go_enter Tryd.func91, Tryd.ntmps91
  go_wp2_with (first | ((with_reducible refine gate_dst (N := 1) rfl ?_); refine Kd.R_lit Kd.string _ 9 ?hg (N := 1) ?hd (xs := ([(⟨#[69, 88, 73, 84]⟩ : ByteArray), (⟨#[69, 88, 69, 67, 85, 84, 69]⟩ : ByteArray), (⟨#[67, 65, 84, 67, 72]⟩ : ByteArray), (⟨#[84, 72, 82, 79, 87]⟩ : ByteArray)] : List ByteArray)) (inner := [.string (⟨#[69, 88, 73, 84]⟩ : ByteArray), .string (⟨#[69, 88, 69, 67, 85, 84, 69]⟩ : ByteArray), .string (⟨#[67, 65, 84, 67, 72]⟩ : ByteArray), .string (⟨#[84, 72, 82, 79, 87]⟩ : ByteArray)]) (ok := fun _ => True) (okp := fun _ => True) ?hr ?hp (fun _ hk => hk) trivial (Below.refl _ _) (Nat.le_refl _) (by simp) ?_; (case hd => rfl); (case hg => rfl); (case hr => first | (go_simp; done) | (go_simp; rfl)); (case hp => exact (Reps.one (show Kd.M Kd.string _ _ _ (⟨#[69, 88, 73, 84]⟩ : ByteArray) [.string (⟨#[69, 88, 73, 84]⟩ : ByteArray)] from rfl) (Reps.one (show Kd.M Kd.string _ _ _ (⟨#[69, 88, 69, 67, 85, 84, 69]⟩ : ByteArray) [.string (⟨#[69, 88, 69, 67, 85, 84, 69]⟩ : ByteArray)] from rfl) (Reps.one (show Kd.M Kd.string _ _ _ (⟨#[67, 65, 84, 67, 72]⟩ : ByteArray) [.string (⟨#[67, 65, 84, 67, 72]⟩ : ByteArray)] from rfl) (Reps.one (show Kd.M Kd.string _ _ _ (⟨#[84, 72, 82, 79, 87]⟩ : ByteArray) [.string (⟨#[84, 72, 82, 79, 87]⟩ : ByteArray)] from rfl) (Reps.none _ _)))))); intro v105 w1 ho2 hb hg_ hnew_; clear hg_ hnew_; (first | rw [← Ny104.out] at ho2 | (simp only [Int.reduceToNat] at ho2; rw [← Ny104.out] at ho2)); have HO106 := Aside0.mk (Kd.R_lower ho2 (below_size (by repeat (first | (with_reducible first | exact HB.out | apply below_alloc | apply pw_below_drewN | apply below_drew1) | exact HB.out)))); replace HB := Aside0.mk (below_step (by repeat (first | (with_reducible first | exact HB.out | apply below_alloc | apply pw_below_drewN | apply below_drew1) | exact HB.out)) hb); clear hb ho2))
  go_ret
  exact ⟨_, by first | rfl | (simp [errW_none, errW_some] <;> rfl) | (simp [*, errW_none, errW_some] <;> rfl), by (with_reducible repeat (first | apply Kd.R_alloc | apply Kd.R_drewN | apply Kd.R_drew)); exact HO106.out, by repeat (first | (with_reducible first | exact HB.out | apply below_alloc | apply pw_below_drewN | apply below_drew1) | exact HB.out)⟩

/-! ### spec_l04Inners: function 92 -/
def spec_l04Inners.f  : Option (List ByteArray) := some (([(⟨#[40, 76, 73, 84, 41]⟩ : ByteArray), (⟨#[40, 66, 82, 65, 78, 67, 72, 41]⟩ : ByteArray), (⟨#[40, 48, 66, 82, 65, 78, 67, 72, 41]⟩ : ByteArray), (⟨#[40, 68, 79, 41]⟩ : ByteArray), (⟨#[40, 76, 79, 79, 80, 41]⟩ : ByteArray), (⟨#[40, 43, 76, 79, 79, 80, 41]⟩ : ByteArray)] : List ByteArray))
set_option maxHeartbeats 8000000 in
set_option maxRecDepth 100000 in
theorem spec_l04Inners.calls  (r : List ByteArray) (w : World) (h : spec_l04Inners.f  = some r) :
    Calls Tryd.prog 92 #[] w fun e w' => ∃ v0_ : Value, e = .returned (v0_) ∧ Kd.R Kd.string 9 w' w.heap.size (fun _ => True) v0_ r ∧ Below w.heap.size w w' := by
  have HB := Aside0.mk (Below.refl w.heap.size w)
  have H : (some (([(⟨#[40, 76, 73, 84, 41]⟩ : ByteArray), (⟨#[40, 66, 82, 65, 78, 67, 72, 41]⟩ : ByteArray), (⟨#[40, 48, 66, 82, 65, 78, 67, 72, 41]⟩ : ByteArray), (⟨#[40, 68, 79, 41]⟩ : ByteArray), (⟨#[40, 76, 79, 79, 80, 41]⟩ : ByteArray), (⟨#[40, 43, 76, 79, 79, 80, 41]⟩ : ByteArray)] : List ByteArray))) = some r := h
  clear h
  obtain ⟨y107, hy107⟩ : ∃ y_ : List ByteArray, y_ = (([(⟨#[40, 76, 73, 84, 41]⟩ : ByteArray), (⟨#[40, 66, 82, 65, 78, 67, 72, 41]⟩ : ByteArray), (⟨#[40, 48, 66, 82, 65, 78, 67, 72, 41]⟩ : ByteArray), (⟨#[40, 68, 79, 41]⟩ : ByteArray), (⟨#[40, 76, 79, 79, 80, 41]⟩ : ByteArray), (⟨#[40, 43, 76, 79, 79, 80, 41]⟩ : ByteArray)] : List ByteArray)) := ⟨_, rfl⟩
  replace H : (some y107) = some r := by first | (rw [hy107]; with_reducible exact H) | (have H2_ := (Option.bind_some _ _).symm.trans H; rw [hy107]; with_reducible exact H2_) | (have H2_ := (Option.bind_some _ _).symm.trans H; with_reducible exact H2_) | with_reducible exact H | (rw [hy107]; exact H) | exact H
  have Ny107 := Aside0.mk hy107
  clear hy107
  obtain rfl := Option.some.inj H
  go_enter Tryd.func92, Tryd.ntmps92
  go_wp2_with (first | ((with_reducible refine gate_dst (N := 1) rfl ?_); refine Kd.R_lit Kd.string _ 9 ?hg (N := 1) ?hd (xs := ([(⟨#[40, 76, 73, 84, 41]⟩ : ByteArray), (⟨#[40, 66, 82, 65, 78, 67, 72, 41]⟩ : ByteArray), (⟨#[40, 48, 66, 82, 65, 78, 67, 72, 41]⟩ : ByteArray), (⟨#[40, 68, 79, 41]⟩ : ByteArray), (⟨#[40, 76, 79, 79, 80, 41]⟩ : ByteArray), (⟨#[40, 43, 76, 79, 79, 80, 41]⟩ : ByteArray)] : List ByteArray)) (inner := [.string (⟨#[40, 76, 73, 84, 41]⟩ : ByteArray), .string (⟨#[40, 66, 82, 65, 78, 67, 72, 41]⟩ : ByteArray), .string (⟨#[40, 48, 66, 82, 65, 78, 67, 72, 41]⟩ : ByteArray), .string (⟨#[40, 68, 79, 41]⟩ : ByteArray), .string (⟨#[40, 76, 79, 79, 80, 41]⟩ : ByteArray), .string (⟨#[40, 43, 76, 79, 79, 80, 41]⟩ : ByteArray)]) (ok := fun _ => True) (okp := fun _ => True) ?hr ?hp (fun _ hk => hk) trivial (Below.refl _ _) (Nat.le_refl _) (by simp) ?_; (case hd => rfl); (case hg => rfl); (case hr => first | (go_simp; done) | (go_simp; rfl)); (case hp => exact (Reps.one (show Kd.M Kd.string _ _ _ (⟨#[40, 76, 73, 84, 41]⟩ : ByteArray) [.string (⟨#[40, 76, 73, 84, 41]⟩ : ByteArray)] from rfl) (Reps.one (show Kd.M Kd.string _ _ _ (⟨#[40, 66, 82, 65, 78, 67, 72, 41]⟩ : ByteArray) [.string (⟨#[40, 66, 82, 65, 78, 67, 72, 41]⟩ : ByteArray)] from rfl) (Reps.one (show Kd.M Kd.string _ _ _ (⟨#[40, 48, 66, 82, 65, 78, 67, 72, 41]⟩ : ByteArray) [.string (⟨#[40, 48, 66, 82, 65, 78, 67, 72, 41]⟩ : ByteArray)] from rfl) (Reps.one (show Kd.M Kd.string _ _ _ (⟨#[40, 68, 79, 41]⟩ : ByteArray) [.string (⟨#[40, 68, 79, 41]⟩ : ByteArray)] from rfl) (Reps.one (show Kd.M Kd.string _ _ _ (⟨#[40, 76, 79, 79, 80, 41]⟩ : ByteArray) [.string (⟨#[40, 76, 79, 79, 80, 41]⟩ : ByteArray)] from rfl) (Reps.one (show Kd.M Kd.string _ _ _ (⟨#[40, 43, 76, 79, 79, 80, 41]⟩ : ByteArray) [.string (⟨#[40, 43, 76, 79, 79, 80, 41]⟩ : ByteArray)] from rfl) (Reps.none _ _)))))))); intro v108 w1 ho2 hb hg_ hnew_; clear hg_ hnew_; (first | rw [← Ny107.out] at ho2 | (simp only [Int.reduceToNat] at ho2; rw [← Ny107.out] at ho2)); have HO109 := Aside0.mk (Kd.R_lower ho2 (below_size (by repeat (first | (with_reducible first | exact HB.out | apply below_alloc | apply pw_below_drewN | apply below_drew1) | exact HB.out)))); replace HB := Aside0.mk (below_step (by repeat (first | (with_reducible first | exact HB.out | apply below_alloc | apply pw_below_drewN | apply below_drew1) | exact HB.out)) hb); clear hb ho2))
  go_ret
  exact ⟨_, by first | rfl | (simp [errW_none, errW_some] <;> rfl) | (simp [*, errW_none, errW_some] <;> rfl), by (with_reducible repeat (first | apply Kd.R_alloc | apply Kd.R_drewN | apply Kd.R_drew)); exact HO109.out, by repeat (first | (with_reducible first | exact HB.out | apply below_alloc | apply pw_below_drewN | apply below_drew1) | exact HB.out)⟩

/-! ### spec_l04Hosts: function 93 -/
def spec_l04Hosts.f  : Option (List ByteArray) := some (([(⟨#[72, 82, 69, 65, 68]⟩ : ByteArray), (⟨#[72, 87, 82, 73, 84, 69]⟩ : ByteArray), (⟨#[72, 65, 83, 75]⟩ : ByteArray), (⟨#[72, 84, 73, 77, 69]⟩ : ByteArray)] : List ByteArray))
set_option maxHeartbeats 8000000 in
set_option maxRecDepth 100000 in
theorem spec_l04Hosts.calls  (r : List ByteArray) (w : World) (h : spec_l04Hosts.f  = some r) :
    Calls Tryd.prog 93 #[] w fun e w' => ∃ v0_ : Value, e = .returned (v0_) ∧ Kd.R Kd.string 9 w' w.heap.size (fun _ => True) v0_ r ∧ Below w.heap.size w w' := by
  have HB := Aside0.mk (Below.refl w.heap.size w)
  have H : (some (([(⟨#[72, 82, 69, 65, 68]⟩ : ByteArray), (⟨#[72, 87, 82, 73, 84, 69]⟩ : ByteArray), (⟨#[72, 65, 83, 75]⟩ : ByteArray), (⟨#[72, 84, 73, 77, 69]⟩ : ByteArray)] : List ByteArray))) = some r := h
  clear h
  obtain ⟨y110, hy110⟩ : ∃ y_ : List ByteArray, y_ = (([(⟨#[72, 82, 69, 65, 68]⟩ : ByteArray), (⟨#[72, 87, 82, 73, 84, 69]⟩ : ByteArray), (⟨#[72, 65, 83, 75]⟩ : ByteArray), (⟨#[72, 84, 73, 77, 69]⟩ : ByteArray)] : List ByteArray)) := ⟨_, rfl⟩
  replace H : (some y110) = some r := by first | (rw [hy110]; with_reducible exact H) | (have H2_ := (Option.bind_some _ _).symm.trans H; rw [hy110]; with_reducible exact H2_) | (have H2_ := (Option.bind_some _ _).symm.trans H; with_reducible exact H2_) | with_reducible exact H | (rw [hy110]; exact H) | exact H
  have Ny110 := Aside0.mk hy110
  clear hy110
  obtain rfl := Option.some.inj H
  go_enter Tryd.func93, Tryd.ntmps93
  go_wp2_with (first | ((with_reducible refine gate_dst (N := 1) rfl ?_); refine Kd.R_lit Kd.string _ 9 ?hg (N := 1) ?hd (xs := ([(⟨#[72, 82, 69, 65, 68]⟩ : ByteArray), (⟨#[72, 87, 82, 73, 84, 69]⟩ : ByteArray), (⟨#[72, 65, 83, 75]⟩ : ByteArray), (⟨#[72, 84, 73, 77, 69]⟩ : ByteArray)] : List ByteArray)) (inner := [.string (⟨#[72, 82, 69, 65, 68]⟩ : ByteArray), .string (⟨#[72, 87, 82, 73, 84, 69]⟩ : ByteArray), .string (⟨#[72, 65, 83, 75]⟩ : ByteArray), .string (⟨#[72, 84, 73, 77, 69]⟩ : ByteArray)]) (ok := fun _ => True) (okp := fun _ => True) ?hr ?hp (fun _ hk => hk) trivial (Below.refl _ _) (Nat.le_refl _) (by simp) ?_; (case hd => rfl); (case hg => rfl); (case hr => first | (go_simp; done) | (go_simp; rfl)); (case hp => exact (Reps.one (show Kd.M Kd.string _ _ _ (⟨#[72, 82, 69, 65, 68]⟩ : ByteArray) [.string (⟨#[72, 82, 69, 65, 68]⟩ : ByteArray)] from rfl) (Reps.one (show Kd.M Kd.string _ _ _ (⟨#[72, 87, 82, 73, 84, 69]⟩ : ByteArray) [.string (⟨#[72, 87, 82, 73, 84, 69]⟩ : ByteArray)] from rfl) (Reps.one (show Kd.M Kd.string _ _ _ (⟨#[72, 65, 83, 75]⟩ : ByteArray) [.string (⟨#[72, 65, 83, 75]⟩ : ByteArray)] from rfl) (Reps.one (show Kd.M Kd.string _ _ _ (⟨#[72, 84, 73, 77, 69]⟩ : ByteArray) [.string (⟨#[72, 84, 73, 77, 69]⟩ : ByteArray)] from rfl) (Reps.none _ _)))))); intro v111 w1 ho2 hb hg_ hnew_; clear hg_ hnew_; (first | rw [← Ny110.out] at ho2 | (simp only [Int.reduceToNat] at ho2; rw [← Ny110.out] at ho2)); have HO112 := Aside0.mk (Kd.R_lower ho2 (below_size (by repeat (first | (with_reducible first | exact HB.out | apply below_alloc | apply pw_below_drewN | apply below_drew1) | exact HB.out)))); replace HB := Aside0.mk (below_step (by repeat (first | (with_reducible first | exact HB.out | apply below_alloc | apply pw_below_drewN | apply below_drew1) | exact HB.out)) hb); clear hb ho2))
  go_ret
  exact ⟨_, by first | rfl | (simp [errW_none, errW_some] <;> rfl) | (simp [*, errW_none, errW_some] <;> rfl), by (with_reducible repeat (first | apply Kd.R_alloc | apply Kd.R_drewN | apply Kd.R_drew)); exact HO112.out, by repeat (first | (with_reducible first | exact HB.out | apply below_alloc | apply pw_below_drewN | apply below_drew1) | exact HB.out)⟩

/-! ### spec_l04Syntax: function 94 -/
def spec_l04Syntax.f  : Option (List ByteArray) := some (([(⟨#[58]⟩ : ByteArray), (⟨#[59]⟩ : ByteArray), (⟨#[73, 70]⟩ : ByteArray), (⟨#[69, 76, 83, 69]⟩ : ByteArray), (⟨#[84, 72, 69, 78]⟩ : ByteArray), (⟨#[66, 69, 71, 73, 78]⟩ : ByteArray), (⟨#[85, 78, 84, 73, 76]⟩ : ByteArray), (⟨#[87, 72, 73, 76, 69]⟩ : ByteArray), (⟨#[82, 69, 80, 69, 65, 84]⟩ : ByteArray), (⟨#[68, 79]⟩ : ByteArray), (⟨#[76, 79, 79, 80]⟩ : ByteArray), (⟨#[43, 76, 79, 79, 80]⟩ : ByteArray), (⟨#[82, 69, 67, 85, 82, 83, 69]⟩ : ByteArray), (⟨#[86, 65, 82, 73, 65, 66, 76, 69]⟩ : ByteArray), (⟨#[67, 79, 78, 83, 84, 65, 78, 84]⟩ : ByteArray), (⟨#[39]⟩ : ByteArray), (⟨#[91, 39, 93]⟩ : ByteArray)] : List ByteArray))
set_option maxHeartbeats 8000000 in
set_option maxRecDepth 100000 in
theorem spec_l04Syntax.calls  (r : List ByteArray) (w : World) (h : spec_l04Syntax.f  = some r) :
    Calls Tryd.prog 94 #[] w fun e w' => ∃ v0_ : Value, e = .returned (v0_) ∧ Kd.R Kd.string 9 w' w.heap.size (fun _ => True) v0_ r ∧ Below w.heap.size w w' := by
  have HB := Aside0.mk (Below.refl w.heap.size w)
  have H : (some (([(⟨#[58]⟩ : ByteArray), (⟨#[59]⟩ : ByteArray), (⟨#[73, 70]⟩ : ByteArray), (⟨#[69, 76, 83, 69]⟩ : ByteArray), (⟨#[84, 72, 69, 78]⟩ : ByteArray), (⟨#[66, 69, 71, 73, 78]⟩ : ByteArray), (⟨#[85, 78, 84, 73, 76]⟩ : ByteArray), (⟨#[87, 72, 73, 76, 69]⟩ : ByteArray), (⟨#[82, 69, 80, 69, 65, 84]⟩ : ByteArray), (⟨#[68, 79]⟩ : ByteArray), (⟨#[76, 79, 79, 80]⟩ : ByteArray), (⟨#[43, 76, 79, 79, 80]⟩ : ByteArray), (⟨#[82, 69, 67, 85, 82, 83, 69]⟩ : ByteArray), (⟨#[86, 65, 82, 73, 65, 66, 76, 69]⟩ : ByteArray), (⟨#[67, 79, 78, 83, 84, 65, 78, 84]⟩ : ByteArray), (⟨#[39]⟩ : ByteArray), (⟨#[91, 39, 93]⟩ : ByteArray)] : List ByteArray))) = some r := h
  clear h
  obtain ⟨y113, hy113⟩ : ∃ y_ : List ByteArray, y_ = (([(⟨#[58]⟩ : ByteArray), (⟨#[59]⟩ : ByteArray), (⟨#[73, 70]⟩ : ByteArray), (⟨#[69, 76, 83, 69]⟩ : ByteArray), (⟨#[84, 72, 69, 78]⟩ : ByteArray), (⟨#[66, 69, 71, 73, 78]⟩ : ByteArray), (⟨#[85, 78, 84, 73, 76]⟩ : ByteArray), (⟨#[87, 72, 73, 76, 69]⟩ : ByteArray), (⟨#[82, 69, 80, 69, 65, 84]⟩ : ByteArray), (⟨#[68, 79]⟩ : ByteArray), (⟨#[76, 79, 79, 80]⟩ : ByteArray), (⟨#[43, 76, 79, 79, 80]⟩ : ByteArray), (⟨#[82, 69, 67, 85, 82, 83, 69]⟩ : ByteArray), (⟨#[86, 65, 82, 73, 65, 66, 76, 69]⟩ : ByteArray), (⟨#[67, 79, 78, 83, 84, 65, 78, 84]⟩ : ByteArray), (⟨#[39]⟩ : ByteArray), (⟨#[91, 39, 93]⟩ : ByteArray)] : List ByteArray)) := ⟨_, rfl⟩
  replace H : (some y113) = some r := by first | (rw [hy113]; with_reducible exact H) | (have H2_ := (Option.bind_some _ _).symm.trans H; rw [hy113]; with_reducible exact H2_) | (have H2_ := (Option.bind_some _ _).symm.trans H; with_reducible exact H2_) | with_reducible exact H | (rw [hy113]; exact H) | exact H
  have Ny113 := Aside0.mk hy113
  clear hy113
  obtain rfl := Option.some.inj H
  go_enter Tryd.func94, Tryd.ntmps94
  go_wp2_with (first | ((with_reducible refine gate_dst (N := 1) rfl ?_); refine Kd.R_lit Kd.string _ 9 ?hg (N := 1) ?hd (xs := ([(⟨#[58]⟩ : ByteArray), (⟨#[59]⟩ : ByteArray), (⟨#[73, 70]⟩ : ByteArray), (⟨#[69, 76, 83, 69]⟩ : ByteArray), (⟨#[84, 72, 69, 78]⟩ : ByteArray), (⟨#[66, 69, 71, 73, 78]⟩ : ByteArray), (⟨#[85, 78, 84, 73, 76]⟩ : ByteArray), (⟨#[87, 72, 73, 76, 69]⟩ : ByteArray), (⟨#[82, 69, 80, 69, 65, 84]⟩ : ByteArray), (⟨#[68, 79]⟩ : ByteArray), (⟨#[76, 79, 79, 80]⟩ : ByteArray), (⟨#[43, 76, 79, 79, 80]⟩ : ByteArray), (⟨#[82, 69, 67, 85, 82, 83, 69]⟩ : ByteArray), (⟨#[86, 65, 82, 73, 65, 66, 76, 69]⟩ : ByteArray), (⟨#[67, 79, 78, 83, 84, 65, 78, 84]⟩ : ByteArray), (⟨#[39]⟩ : ByteArray), (⟨#[91, 39, 93]⟩ : ByteArray)] : List ByteArray)) (inner := [.string (⟨#[58]⟩ : ByteArray), .string (⟨#[59]⟩ : ByteArray), .string (⟨#[73, 70]⟩ : ByteArray), .string (⟨#[69, 76, 83, 69]⟩ : ByteArray), .string (⟨#[84, 72, 69, 78]⟩ : ByteArray), .string (⟨#[66, 69, 71, 73, 78]⟩ : ByteArray), .string (⟨#[85, 78, 84, 73, 76]⟩ : ByteArray), .string (⟨#[87, 72, 73, 76, 69]⟩ : ByteArray), .string (⟨#[82, 69, 80, 69, 65, 84]⟩ : ByteArray), .string (⟨#[68, 79]⟩ : ByteArray), .string (⟨#[76, 79, 79, 80]⟩ : ByteArray), .string (⟨#[43, 76, 79, 79, 80]⟩ : ByteArray), .string (⟨#[82, 69, 67, 85, 82, 83, 69]⟩ : ByteArray), .string (⟨#[86, 65, 82, 73, 65, 66, 76, 69]⟩ : ByteArray), .string (⟨#[67, 79, 78, 83, 84, 65, 78, 84]⟩ : ByteArray), .string (⟨#[39]⟩ : ByteArray), .string (⟨#[91, 39, 93]⟩ : ByteArray)]) (ok := fun _ => True) (okp := fun _ => True) ?hr ?hp (fun _ hk => hk) trivial (Below.refl _ _) (Nat.le_refl _) (by simp) ?_; (case hd => rfl); (case hg => rfl); (case hr => first | (go_simp; done) | (go_simp; rfl)); (case hp => exact (Reps.one (show Kd.M Kd.string _ _ _ (⟨#[58]⟩ : ByteArray) [.string (⟨#[58]⟩ : ByteArray)] from rfl) (Reps.one (show Kd.M Kd.string _ _ _ (⟨#[59]⟩ : ByteArray) [.string (⟨#[59]⟩ : ByteArray)] from rfl) (Reps.one (show Kd.M Kd.string _ _ _ (⟨#[73, 70]⟩ : ByteArray) [.string (⟨#[73, 70]⟩ : ByteArray)] from rfl) (Reps.one (show Kd.M Kd.string _ _ _ (⟨#[69, 76, 83, 69]⟩ : ByteArray) [.string (⟨#[69, 76, 83, 69]⟩ : ByteArray)] from rfl) (Reps.one (show Kd.M Kd.string _ _ _ (⟨#[84, 72, 69, 78]⟩ : ByteArray) [.string (⟨#[84, 72, 69, 78]⟩ : ByteArray)] from rfl) (Reps.one (show Kd.M Kd.string _ _ _ (⟨#[66, 69, 71, 73, 78]⟩ : ByteArray) [.string (⟨#[66, 69, 71, 73, 78]⟩ : ByteArray)] from rfl) (Reps.one (show Kd.M Kd.string _ _ _ (⟨#[85, 78, 84, 73, 76]⟩ : ByteArray) [.string (⟨#[85, 78, 84, 73, 76]⟩ : ByteArray)] from rfl) (Reps.one (show Kd.M Kd.string _ _ _ (⟨#[87, 72, 73, 76, 69]⟩ : ByteArray) [.string (⟨#[87, 72, 73, 76, 69]⟩ : ByteArray)] from rfl) (Reps.one (show Kd.M Kd.string _ _ _ (⟨#[82, 69, 80, 69, 65, 84]⟩ : ByteArray) [.string (⟨#[82, 69, 80, 69, 65, 84]⟩ : ByteArray)] from rfl) (Reps.one (show Kd.M Kd.string _ _ _ (⟨#[68, 79]⟩ : ByteArray) [.string (⟨#[68, 79]⟩ : ByteArray)] from rfl) (Reps.one (show Kd.M Kd.string _ _ _ (⟨#[76, 79, 79, 80]⟩ : ByteArray) [.string (⟨#[76, 79, 79, 80]⟩ : ByteArray)] from rfl) (Reps.one (show Kd.M Kd.string _ _ _ (⟨#[43, 76, 79, 79, 80]⟩ : ByteArray) [.string (⟨#[43, 76, 79, 79, 80]⟩ : ByteArray)] from rfl) (Reps.one (show Kd.M Kd.string _ _ _ (⟨#[82, 69, 67, 85, 82, 83, 69]⟩ : ByteArray) [.string (⟨#[82, 69, 67, 85, 82, 83, 69]⟩ : ByteArray)] from rfl) (Reps.one (show Kd.M Kd.string _ _ _ (⟨#[86, 65, 82, 73, 65, 66, 76, 69]⟩ : ByteArray) [.string (⟨#[86, 65, 82, 73, 65, 66, 76, 69]⟩ : ByteArray)] from rfl) (Reps.one (show Kd.M Kd.string _ _ _ (⟨#[67, 79, 78, 83, 84, 65, 78, 84]⟩ : ByteArray) [.string (⟨#[67, 79, 78, 83, 84, 65, 78, 84]⟩ : ByteArray)] from rfl) (Reps.one (show Kd.M Kd.string _ _ _ (⟨#[39]⟩ : ByteArray) [.string (⟨#[39]⟩ : ByteArray)] from rfl) (Reps.one (show Kd.M Kd.string _ _ _ (⟨#[91, 39, 93]⟩ : ByteArray) [.string (⟨#[91, 39, 93]⟩ : ByteArray)] from rfl) (Reps.none _ _))))))))))))))))))); intro v114 w1 ho2 hb hg_ hnew_; clear hg_ hnew_; (first | rw [← Ny113.out] at ho2 | (simp only [Int.reduceToNat] at ho2; rw [← Ny113.out] at ho2)); have HO115 := Aside0.mk (Kd.R_lower ho2 (below_size (by repeat (first | (with_reducible first | exact HB.out | apply below_alloc | apply pw_below_drewN | apply below_drew1) | exact HB.out)))); replace HB := Aside0.mk (below_step (by repeat (first | (with_reducible first | exact HB.out | apply below_alloc | apply pw_below_drewN | apply below_drew1) | exact HB.out)) hb); clear hb ho2))
  go_ret
  exact ⟨_, by first | rfl | (simp [errW_none, errW_some] <;> rfl) | (simp [*, errW_none, errW_some] <;> rfl), by (with_reducible repeat (first | apply Kd.R_alloc | apply Kd.R_drewN | apply Kd.R_drew)); exact HO115.out, by repeat (first | (with_reducible first | exact HB.out | apply below_alloc | apply pw_below_drewN | apply below_drew1) | exact HB.out)⟩

/-! ### spec_l04Kernel: function 48 -/
mutual
def spec_l04Kernel.l0 : Nat → List (S39) → List (List ByteArray) → Int → Option ((List (S39)))
  | 0, _, _, _ => none
  | k + 1, x1, x2, x3 => if x3 < (x2.length : Int) then (spec_l04Kernel.l1 k x1 x2 x3 0) else (some x1)
def spec_l04Kernel.l1 : Nat → List (S39) → List (List ByteArray) → Int → Int → Option ((List (S39)))
  | 0, _, _, _, _ => none
  | k + 1, x1, x2, x3, x4 => if 0 ≤ x3 then (if x3 < (x2.length : Int) then (if x4 < ((rd_L1 x2 x3).length : Int) then (if 0 ≤ x4 then (if x1.length < 4398046511104 then (spec_l04Kernel.l1 k (x1 ++ [(⟨rdOf ByteArray.empty (rd_L1 x2 x3) x4, wrap64 (x3 + 1), wrap64 (x4 + 1)⟩ : S39)]) x2 x3 (wrap64 (x4 + 1))) else (none)) else (none)) else (spec_l04Kernel.l0 k x1 x2 (wrap64 (x3 + 1)))) else (none)) else (none)
end
def spec_l04Kernel.f (k : Nat)  : Option ((List (S39))) := (spec_l04Prims.f).bind fun t119 => ((spec_l04Flows.f).bind fun t122 => ((spec_l04Inners.f).bind fun t125 => ((spec_l04Hosts.f).bind fun t128 => ((spec_l04Syntax.f).bind fun t131 => (spec_l04Kernel.l0 k (([] : List (S39))) (([t119, t122, t125, t128, t131] : List (List ByteArray))) 0)))))
theorem spec_l04Kernel.mono_l : ∀ k, (∀ y0 y1 y2, LeO (spec_l04Kernel.l0 k y0 y1 y2) (spec_l04Kernel.l0 (k + 1) y0 y1 y2)) ∧ (∀ y0 y1 y2 y3, LeO (spec_l04Kernel.l1 k y0 y1 y2 y3) (spec_l04Kernel.l1 (k + 1) y0 y1 y2 y3))
  | 0 => ⟨fun _ _ _ r h => by simp [spec_l04Kernel.l0] at h, fun _ _ _ _ r h => by simp [spec_l04Kernel.l1] at h⟩
  | k + 1 => by
    obtain ⟨ih0, ih1⟩ := spec_l04Kernel.mono_l k
    refine ⟨?_, ?_⟩
    · intro y0 y1 y2
      unfold spec_l04Kernel.l0
      repeat' first
      | (with_reducible exact ih0 _ _ _)
      | (with_reducible exact ih1 _ _ _ _)
      | (with_reducible exact LeO.refl _)
      | (with_reducible exact LeO.none _)
      | (with_reducible refine LeO.ite ?_ ?_)
      | (with_reducible refine LeO.bind ?_ (fun _ => ?_))
      | exact ih0 _ _ _
      | exact ih1 _ _ _ _
      | exact LeO.none _
      | refine LeO.ite ?_ ?_
      | refine LeO.bind ?_ (fun _ => ?_)
    · intro y0 y1 y2 y3
      unfold spec_l04Kernel.l1
      repeat' first
      | (with_reducible exact ih0 _ _ _)
      | (with_reducible exact ih1 _ _ _ _)
      | (with_reducible exact LeO.refl _)
      | (with_reducible exact LeO.none _)
      | (with_reducible refine LeO.ite ?_ ?_)
      | (with_reducible refine LeO.bind ?_ (fun _ => ?_))
      | exact ih0 _ _ _
      | exact ih1 _ _ _ _
      | exact LeO.none _
      | refine LeO.ite ?_ ?_
      | refine LeO.bind ?_ (fun _ => ?_)
theorem spec_l04Kernel.mono : ∀ k, LeO (spec_l04Kernel.f k ) (spec_l04Kernel.f (k + 1) ) := by
  intro  k
  obtain ⟨ih0, ih1⟩ := spec_l04Kernel.mono_l k
  unfold spec_l04Kernel.f
  repeat' first
      | (with_reducible exact ih0 _ _ _)
      | (with_reducible exact ih1 _ _ _ _)
      | (with_reducible exact LeO.refl _)
      | (with_reducible exact LeO.none _)
      | (with_reducible refine LeO.ite ?_ ?_)
      | (with_reducible refine LeO.bind ?_ (fun _ => ?_))
      | exact ih0 _ _ _
      | exact ih1 _ _ _ _
      | exact LeO.none _
      | refine LeO.ite ?_ ?_
      | refine LeO.bind ?_ (fun _ => ?_)
set_option maxHeartbeats 8000000 in
set_option maxRecDepth 100000 in
theorem spec_l04Kernel.calls (k : Nat)  (r : List (S39)) (w : World) (h : spec_l04Kernel.f k  = some r) :
    Calls Tryd.prog 48 #[] w fun e w' => ∃ v0_ : Value, e = .returned (v0_) ∧ Kd.R k39 39 w' w.heap.size (fun _ => True) v0_ r ∧ Below w.heap.size w w' := by
  have hu39 := Tryd.underlying39
  have HB := Aside0.mk (Below.refl w.heap.size w)
  have H : ((spec_l04Prims.f).bind fun t119 => ((spec_l04Flows.f).bind fun t122 => ((spec_l04Inners.f).bind fun t125 => ((spec_l04Hosts.f).bind fun t128 => ((spec_l04Syntax.f).bind fun t131 => (spec_l04Kernel.l0 k (([] : List (S39))) (([t119, t122, t125, t128, t131] : List (List ByteArray))) 0)))))) = some r := h
  clear h
  obtain ⟨y116, hy116⟩ : ∃ y_ : List (S39), y_ = (([] : List (S39))) := ⟨_, rfl⟩
  replace H : ((spec_l04Prims.f).bind fun t119 => ((spec_l04Flows.f).bind fun t122 => ((spec_l04Inners.f).bind fun t125 => ((spec_l04Hosts.f).bind fun t128 => ((spec_l04Syntax.f).bind fun t131 => (spec_l04Kernel.l0 k y116 (([t119, t122, t125, t128, t131] : List (List ByteArray))) 0)))))) = some r := by first | (rw [hy116]; with_reducible exact H) | (have H2_ := (Option.bind_some _ _).symm.trans H; rw [hy116]; with_reducible exact H2_) | (have H2_ := (Option.bind_some _ _).symm.trans H; with_reducible exact H2_) | with_reducible exact H | (rw [hy116]; exact H) | exact H
  have Ny116 := Aside0.mk hy116
  clear hy116
  replace H := Option.bind_eq_some_iff.mp H
  obtain ⟨t119, A10, H⟩ := H
  replace H : ((spec_l04Flows.f).bind fun t122 => ((spec_l04Inners.f).bind fun t125 => ((spec_l04Hosts.f).bind fun t128 => ((spec_l04Syntax.f).bind fun t131 => (spec_l04Kernel.l0 k y116 (([t119, t122, t125, t128, t131] : List (List ByteArray))) 0))))) = some r := H
  have A1 := Aside0.mk A10
  clear A10
  replace H := Option.bind_eq_some_iff.mp H
  obtain ⟨t122, A20, H⟩ := H
  replace H : ((spec_l04Inners.f).bind fun t125 => ((spec_l04Hosts.f).bind fun t128 => ((spec_l04Syntax.f).bind fun t131 => (spec_l04Kernel.l0 k y116 (([t119, t122, t125, t128, t131] : List (List ByteArray))) 0)))) = some r := H
  have A2 := Aside0.mk A20
  clear A20
  replace H := Option.bind_eq_some_iff.mp H
  obtain ⟨t125, A30, H⟩ := H
  replace H : ((spec_l04Hosts.f).bind fun t128 => ((spec_l04Syntax.f).bind fun t131 => (spec_l04Kernel.l0 k y116 (([t119, t122, t125, t128, t131] : List (List ByteArray))) 0))) = some r := H
  have A3 := Aside0.mk A30
  clear A30
  replace H := Option.bind_eq_some_iff.mp H
  obtain ⟨t128, A40, H⟩ := H
  replace H : ((spec_l04Syntax.f).bind fun t131 => (spec_l04Kernel.l0 k y116 (([t119, t122, t125, t128, t131] : List (List ByteArray))) 0)) = some r := H
  have A4 := Aside0.mk A40
  clear A40
  replace H := Option.bind_eq_some_iff.mp H
  obtain ⟨t131, A50, H⟩ := H
  replace H : (spec_l04Kernel.l0 k y116 (([t119, t122, t125, t128, t131] : List (List ByteArray))) 0) = some r := H
  have A5 := Aside0.mk A50
  clear A50
  obtain ⟨y134, hy134⟩ : ∃ y_ : List (List ByteArray), y_ = (([t119, t122, t125, t128, t131] : List (List ByteArray))) := ⟨_, rfl⟩
  replace H : (spec_l04Kernel.l0 k y116 y134 0) = some r := by first | (rw [hy134]; with_reducible exact H) | (have H2_ := (Option.bind_some _ _).symm.trans H; rw [hy134]; with_reducible exact H2_) | (have H2_ := (Option.bind_some _ _).symm.trans H; with_reducible exact H2_) | with_reducible exact H | (rw [hy134]; exact H) | exact H
  have Ny134 := Aside0.mk hy134
  clear hy134
  have H' := Aside0.mk H
  clear H
  go_enter Tryd.func48, Tryd.ntmps48
  go_wp2_with (first | ((with_reducible refine gate_dst (N := 5) rfl ?_); refine Kd.R_lit k39 _ 39 ?hg (N := 5) ?hd (xs := ([] : List (S39))) (inner := []) (ok := fun _ => True) (okp := fun _ => True) ?hr ?hp (fun _ hk => hk) trivial (Below.refl _ _) (Nat.le_refl _) (by simp) ?_; (case hd => rfl); (case hg => rfl); (case hr => first | (go_simp; done) | (go_simp; rfl)); (case hp => exact (Reps.none _ _)); intro v117 w6 ho7 hb hg_ hnew_; clear hg_ hnew_; (first | rw [← Ny116.out] at ho7 | (simp only [Int.reduceToNat] at ho7; rw [← Ny116.out] at ho7)); have HO118 := Aside0.mk (Kd.R_lower ho7 (below_size (by repeat (first | (with_reducible first | exact HB.out | apply below_alloc | apply pw_below_drewN | apply below_drew1) | exact HB.out)))); replace HB := Aside0.mk (below_step (by repeat (first | (with_reducible first | exact HB.out | apply below_alloc | apply pw_below_drewN | apply below_drew1) | exact HB.out)) hb); clear hb ho7) | ((with_reducible refine gate_callee (f := 90) rfl ?_); refine goesL_ (some 6) rfl rfl Tryd.func90 (by kernel_rfl) rfl #[] rfl (by (try simp only [List.map_toArray, List.map_cons, List.map_nil]); first | done | rfl | (simp only [List.length_drop, List.length_take]; rfl)) ?_; (with_reducible refine (spec_l04Prims.calls  t119 _ A1.out).mono ?_); rintro e w8 ⟨v120, rfl, ho0, hb⟩; refine ⟨_, rfl, ?_⟩; replace HO118 := Aside0.mk (Kd.R_below (by (with_reducible repeat (first | apply Kd.R_alloc | apply Kd.R_drewN | apply Kd.R_drew)); exact HO118.out) hb); have HO121 := Aside0.mk (Kd.R_lower ho0 (below_size (by repeat (first | (with_reducible first | exact HB.out | apply below_alloc | apply pw_below_drewN | apply below_drew1) | exact HB.out)))); replace HB := Aside0.mk (below_step (by repeat (first | (with_reducible first | exact HB.out | apply below_alloc | apply pw_below_drewN | apply below_drew1) | exact HB.out)) hb); (try clear hb); (try clear hb2); (try clear hk); (try clear hi); (try clear ho0)) | ((with_reducible refine gate_callee (f := 91) rfl ?_); refine goesL_ (some 7) rfl rfl Tryd.func91 (by kernel_rfl) rfl #[] rfl (by (try simp only [List.map_toArray, List.map_cons, List.map_nil]); first | done | rfl | (simp only [List.length_drop, List.length_take]; rfl)) ?_; (with_reducible refine (spec_l04Flows.calls  t122 _ A2.out).mono ?_); rintro e w9 ⟨v123, rfl, ho0, hb⟩; refine ⟨_, rfl, ?_⟩; have n0_ := Aside0.mk (Kd.R_below (by (with_reducible repeat (first | apply Kd.R_alloc | apply Kd.R_drewN | apply Kd.R_drew)); exact HO118.out) hb); have n1_ := Aside0.mk (Kd.R_elder' (by (with_reducible repeat (first | apply Kd.R_alloc | apply Kd.R_drewN | apply Kd.R_drew)); exact HO121.out) (Kd.R_base ho0) hb); have n2_ := Aside0.mk (Kd.R_lower (Kd.R_new' ho0 (Kd.R_lt (by (with_reducible repeat (first | apply Kd.R_alloc | apply Kd.R_drewN | apply Kd.R_drew)); exact HO121.out))) (below_size (by repeat (first | (with_reducible first | exact HB.out | apply below_alloc | apply pw_below_drewN | apply below_drew1) | exact HB.out)))); have n3_ := Aside0.mk (below_step (by repeat (first | (with_reducible first | exact HB.out | apply below_alloc | apply pw_below_drewN | apply below_drew1) | exact HB.out)) hb); clear HO118; clear HO121; clear HB; have HO118 := n0_; have HO121 := n1_; have HO124 := n2_; have HB := n3_; clear n0_ n1_ n2_ n3_; (try clear hb); (try clear hb2); (try clear hk); (try clear hi); (try clear ho0)) | ((with_reducible refine gate_callee (f := 92) rfl ?_); refine goesL_ (some 8) rfl rfl Tryd.func92 (by kernel_rfl) rfl #[] rfl (by (try simp only [List.map_toArray, List.map_cons, List.map_nil]); first | done | rfl | (simp only [List.length_drop, List.length_take]; rfl)) ?_; (with_reducible refine (spec_l04Inners.calls  t125 _ A3.out).mono ?_); rintro e w10 ⟨v126, rfl, ho0, hb⟩; refine ⟨_, rfl, ?_⟩; have n0_ := Aside0.mk (Kd.R_below (by (with_reducible repeat (first | apply Kd.R_alloc | apply Kd.R_drewN | apply Kd.R_drew)); exact HO118.out) hb); have n1_ := Aside0.mk (Kd.R_elder' (by (with_reducible repeat (first | apply Kd.R_alloc | apply Kd.R_drewN | apply Kd.R_drew)); exact HO121.out) (Kd.R_base ho0) hb); have n2_ := Aside0.mk (Kd.R_elder' (by (with_reducible repeat (first | apply Kd.R_alloc | apply Kd.R_drewN | apply Kd.R_drew)); exact HO124.out) (Kd.R_base ho0) hb); have n3_ := Aside0.mk (Kd.R_lower (Kd.R_new' (Kd.R_new' ho0 (Kd.R_lt (by (with_reducible repeat (first | apply Kd.R_alloc | apply Kd.R_drewN | apply Kd.R_drew)); exact HO121.out))) (Kd.R_lt (by (with_reducible repeat (first | apply Kd.R_alloc | apply Kd.R_drewN | apply Kd.R_drew)); exact HO124.out))) (below_size (by repeat (first | (with_reducible first | exact HB.out | apply below_alloc | apply pw_below_drewN | apply below_drew1) | exact HB.out)))); have n4_ := Aside0.mk (below_step (by repeat (first | (with_reducible first | exact HB.out | apply below_alloc | apply pw_below_drewN | apply below_drew1) | exact HB.out)) hb); clear HO118; clear HO121; clear HO124; clear HB; have HO118 := n0_; have HO121 := n1_; have HO124 := n2_; have HO127 := n3_; have HB := n4_; clear n0_ n1_ n2_ n3_ n4_; (try clear hb); (try clear hb2); (try clear hk); (try clear hi); (try clear ho0)) | ((with_reducible refine gate_callee (f := 93) rfl ?_); refine goesL_ (some 9) rfl rfl Tryd.func93 (by kernel_rfl) rfl #[] rfl (by (try simp only [List.map_toArray, List.map_cons, List.map_nil]); first | done | rfl | (simp only [List.length_drop, List.length_take]; rfl)) ?_; (with_reducible refine (spec_l04Hosts.calls  t128 _ A4.out).mono ?_); rintro e w11 ⟨v129, rfl, ho0, hb⟩; refine ⟨_, rfl, ?_⟩; have n0_ := Aside0.mk (Kd.R_below (by (with_reducible repeat (first | apply Kd.R_alloc | apply Kd.R_drewN | apply Kd.R_drew)); exact HO118.out) hb); have n1_ := Aside0.mk (Kd.R_elder' (by (with_reducible repeat (first | apply Kd.R_alloc | apply Kd.R_drewN | apply Kd.R_drew)); exact HO121.out) (Kd.R_base ho0) hb); have n2_ := Aside0.mk (Kd.R_elder' (by (with_reducible repeat (first | apply Kd.R_alloc | apply Kd.R_drewN | apply Kd.R_drew)); exact HO124.out) (Kd.R_base ho0) hb); have n3_ := Aside0.mk (Kd.R_elder' (by (with_reducible repeat (first | apply Kd.R_alloc | apply Kd.R_drewN | apply Kd.R_drew)); exact HO127.out) (Kd.R_base ho0) hb); have n4_ := Aside0.mk (Kd.R_lower (Kd.R_new' (Kd.R_new' (Kd.R_new' ho0 (Kd.R_lt (by (with_reducible repeat (first | apply Kd.R_alloc | apply Kd.R_drewN | apply Kd.R_drew)); exact HO121.out))) (Kd.R_lt (by (with_reducible repeat (first | apply Kd.R_alloc | apply Kd.R_drewN | apply Kd.R_drew)); exact HO124.out))) (Kd.R_lt (by (with_reducible repeat (first | apply Kd.R_alloc | apply Kd.R_drewN | apply Kd.R_drew)); exact HO127.out))) (below_size (by repeat (first | (with_reducible first | exact HB.out | apply below_alloc | apply pw_below_drewN | apply below_drew1) | exact HB.out)))); have n5_ := Aside0.mk (below_step (by repeat (first | (with_reducible first | exact HB.out | apply below_alloc | apply pw_below_drewN | apply below_drew1) | exact HB.out)) hb); clear HO118; clear HO121; clear HO124; clear HO127; clear HB; have HO118 := n0_; have HO121 := n1_; have HO124 := n2_; have HO127 := n3_; have HO130 := n4_; have HB := n5_; clear n0_ n1_ n2_ n3_ n4_ n5_; (try clear hb); (try clear hb2); (try clear hk); (try clear hi); (try clear ho0)) | ((with_reducible refine gate_callee (f := 94) rfl ?_); refine goesL_ (some 10) rfl rfl Tryd.func94 (by kernel_rfl) rfl #[] rfl (by (try simp only [List.map_toArray, List.map_cons, List.map_nil]); first | done | rfl | (simp only [List.length_drop, List.length_take]; rfl)) ?_; (with_reducible refine (spec_l04Syntax.calls  t131 _ A5.out).mono ?_); rintro e w12 ⟨v132, rfl, ho0, hb⟩; refine ⟨_, rfl, ?_⟩; have n0_ := Aside0.mk (Kd.R_below (by (with_reducible repeat (first | apply Kd.R_alloc | apply Kd.R_drewN | apply Kd.R_drew)); exact HO118.out) hb); have n1_ := Aside0.mk (Kd.R_elder' (by (with_reducible repeat (first | apply Kd.R_alloc | apply Kd.R_drewN | apply Kd.R_drew)); exact HO121.out) (Kd.R_base ho0) hb); have n2_ := Aside0.mk (Kd.R_elder' (by (with_reducible repeat (first | apply Kd.R_alloc | apply Kd.R_drewN | apply Kd.R_drew)); exact HO124.out) (Kd.R_base ho0) hb); have n3_ := Aside0.mk (Kd.R_elder' (by (with_reducible repeat (first | apply Kd.R_alloc | apply Kd.R_drewN | apply Kd.R_drew)); exact HO127.out) (Kd.R_base ho0) hb); have n4_ := Aside0.mk (Kd.R_elder' (by (with_reducible repeat (first | apply Kd.R_alloc | apply Kd.R_drewN | apply Kd.R_drew)); exact HO130.out) (Kd.R_base ho0) hb); have n5_ := Aside0.mk (Kd.R_lower (Kd.R_new' (Kd.R_new' (Kd.R_new' (Kd.R_new' ho0 (Kd.R_lt (by (with_reducible repeat (first | apply Kd.R_alloc | apply Kd.R_drewN | apply Kd.R_drew)); exact HO121.out))) (Kd.R_lt (by (with_reducible repeat (first | apply Kd.R_alloc | apply Kd.R_drewN | apply Kd.R_drew)); exact HO124.out))) (Kd.R_lt (by (with_reducible repeat (first | apply Kd.R_alloc | apply Kd.R_drewN | apply Kd.R_drew)); exact HO127.out))) (Kd.R_lt (by (with_reducible repeat (first | apply Kd.R_alloc | apply Kd.R_drewN | apply Kd.R_drew)); exact HO130.out))) (below_size (by repeat (first | (with_reducible first | exact HB.out | apply below_alloc | apply pw_below_drewN | apply below_drew1) | exact HB.out)))); have n6_ := Aside0.mk (below_step (by repeat (first | (with_reducible first | exact HB.out | apply below_alloc | apply pw_below_drewN | apply below_drew1) | exact HB.out)) hb); clear HO118; clear HO121; clear HO124; clear HO127; clear HO130; clear HB; have HO118 := n0_; have HO121 := n1_; have HO124 := n2_; have HO127 := n3_; have HO130 := n4_; have HO133 := n5_; have HB := n6_; clear n0_ n1_ n2_ n3_ n4_ n5_ n6_; (try clear hb); (try clear hb2); (try clear hk); (try clear hi); (try clear ho0); obtain ⟨Ao13, co13, eo13⟩ := Kd.R_slice HO121.out; subst eo13; obtain ⟨Ao14, co14, eo14⟩ := Kd.R_slice HO124.out; subst eo14; obtain ⟨Ao15, co15, eo15⟩ := Kd.R_slice HO127.out; subst eo15; obtain ⟨Ao16, co16, eo16⟩ := Kd.R_slice HO130.out; subst eo16; obtain ⟨Ao17, co17, eo17⟩ := Kd.R_slice HO133.out; subst eo17) | ((with_reducible refine gate_dst (N := 11) rfl ?_); refine Kd.N_lit (Kd.slice 9 Kd.string) _ 63 ?hg (N' := 11) ?hd (xs := ([t119, t122, t125, t128, t131] : List (List ByteArray))) (inner := [.slice Ao13 t119.length co13, .slice Ao14 t122.length co14, .slice Ao15 t125.length co15, .slice Ao16 t128.length co16, .slice Ao17 t131.length co17]) (ok := (fun k_ => some k_ ≠ (v117 : Value).ownBlock)) (okp := (fun k_ => some k_ ≠ (v117 : Value).ownBlock)) ?hr ?hp (fun _ hk => hk) ((show ∀ k_, w12.heap.size ≤ k_ → (fun k_ => some k_ ≠ (v117 : Value).ownBlock) k_ from fun k_ hk => Kd.fresh' (Kd.R_lt (by (with_reducible repeat (first | apply Kd.R_alloc | apply Kd.R_drewN | apply Kd.R_drew)); exact HO118.out)) k_ hk) _ (Nat.le_refl _)) (Below.refl _ _) (Nat.le_refl _) (by simp) ?_; (case hd => rfl); (case hg => rfl); (case hr => first | (go_simp; done) | (go_simp; rfl)); (case hp => exact (Reps.one (show Kd.FK (Kd.slice 9 Kd.string) _ _ t119 [.slice Ao13 t119.length co13] from (Kd.FK_slice_mk (Kd.R_reads' (Kd.R_mono (ok' := (fun k_ => some k_ ≠ (v117 : Value).ownBlock)) (Kd.R_apart' (HO121.out) (Kd.R_typed HO118.out) (by decide)) (fun k_ hk => hk.2))).2.1 (by first | exact Kd.R_F (Kd.R_mono (ok' := (fun k_ => some k_ ≠ (v117 : Value).ownBlock)) (Kd.R_apart' (HO121.out) (Kd.R_typed HO118.out) (by decide)) (fun k_ hk => hk.2)) | exact Kd.F_drewN (Kd.R_F (Kd.R_mono (ok' := (fun k_ => some k_ ≠ (v117 : Value).ownBlock)) (Kd.R_apart' (HO121.out) (Kd.R_typed HO118.out) (by decide)) (fun k_ hk => hk.2))) _ | exact Kd.F_drewN (Kd.F_drewN (Kd.R_F (Kd.R_mono (ok' := (fun k_ => some k_ ≠ (v117 : Value).ownBlock)) (Kd.R_apart' (HO121.out) (Kd.R_typed HO118.out) (by decide)) (fun k_ hk => hk.2))) _) _))) (Reps.one (show Kd.FK (Kd.slice 9 Kd.string) _ _ t122 [.slice Ao14 t122.length co14] from (Kd.FK_slice_mk (Kd.R_reads' (Kd.R_mono (ok' := (fun k_ => some k_ ≠ (v117 : Value).ownBlock)) (Kd.R_apart' (HO124.out) (Kd.R_typed HO118.out) (by decide)) (fun k_ hk => hk.2))).2.1 (by first | exact Kd.R_F (Kd.R_mono (ok' := (fun k_ => some k_ ≠ (v117 : Value).ownBlock)) (Kd.R_apart' (HO124.out) (Kd.R_typed HO118.out) (by decide)) (fun k_ hk => hk.2)) | exact Kd.F_drewN (Kd.R_F (Kd.R_mono (ok' := (fun k_ => some k_ ≠ (v117 : Value).ownBlock)) (Kd.R_apart' (HO124.out) (Kd.R_typed HO118.out) (by decide)) (fun k_ hk => hk.2))) _ | exact Kd.F_drewN (Kd.F_drewN (Kd.R_F (Kd.R_mono (ok' := (fun k_ => some k_ ≠ (v117 : Value).ownBlock)) (Kd.R_apart' (HO124.out) (Kd.R_typed HO118.out) (by decide)) (fun k_ hk => hk.2))) _) _))) (Reps.one (show Kd.FK (Kd.slice 9 Kd.string) _ _ t125 [.slice Ao15 t125.length co15] from (Kd.FK_slice_mk (Kd.R_reads' (Kd.R_mono (ok' := (fun k_ => some k_ ≠ (v117 : Value).ownBlock)) (Kd.R_apart' (HO127.out) (Kd.R_typed HO118.out) (by decide)) (fun k_ hk => hk.2))).2.1 (by first | exact Kd.R_F (Kd.R_mono (ok' := (fun k_ => some k_ ≠ (v117 : Value).ownBlock)) (Kd.R_apart' (HO127.out) (Kd.R_typed HO118.out) (by decide)) (fun k_ hk => hk.2)) | exact Kd.F_drewN (Kd.R_F (Kd.R_mono (ok' := (fun k_ => some k_ ≠ (v117 : Value).ownBlock)) (Kd.R_apart' (HO127.out) (Kd.R_typed HO118.out) (by decide)) (fun k_ hk => hk.2))) _ | exact Kd.F_drewN (Kd.F_drewN (Kd.R_F (Kd.R_mono (ok' := (fun k_ => some k_ ≠ (v117 : Value).ownBlock)) (Kd.R_apart' (HO127.out) (Kd.R_typed HO118.out) (by decide)) (fun k_ hk => hk.2))) _) _))) (Reps.one (show Kd.FK (Kd.slice 9 Kd.string) _ _ t128 [.slice Ao16 t128.length co16] from (Kd.FK_slice_mk (Kd.R_reads' (Kd.R_mono (ok' := (fun k_ => some k_ ≠ (v117 : Value).ownBlock)) (Kd.R_apart' (HO130.out) (Kd.R_typed HO118.out) (by decide)) (fun k_ hk => hk.2))).2.1 (by first | exact Kd.R_F (Kd.R_mono (ok' := (fun k_ => some k_ ≠ (v117 : Value).ownBlock)) (Kd.R_apart' (HO130.out) (Kd.R_typed HO118.out) (by decide)) (fun k_ hk => hk.2)) | exact Kd.F_drewN (Kd.R_F (Kd.R_mono (ok' := (fun k_ => some k_ ≠ (v117 : Value).ownBlock)) (Kd.R_apart' (HO130.out) (Kd.R_typed HO118.out) (by decide)) (fun k_ hk => hk.2))) _ | exact Kd.F_drewN (Kd.F_drewN (Kd.R_F (Kd.R_mono (ok' := (fun k_ => some k_ ≠ (v117 : Value).ownBlock)) (Kd.R_apart' (HO130.out) (Kd.R_typed HO118.out) (by decide)) (fun k_ hk => hk.2))) _) _))) (Reps.one (show Kd.FK (Kd.slice 9 Kd.string) _ _ t131 [.slice Ao17 t131.length co17] from (Kd.FK_slice_mk (Kd.R_reads' (Kd.R_mono (ok' := (fun k_ => some k_ ≠ (v117 : Value).ownBlock)) (Kd.R_apart' (HO133.out) (Kd.R_typed HO118.out) (by decide)) (fun k_ hk => hk.2))).2.1 (by first | exact Kd.R_F (Kd.R_mono (ok' := (fun k_ => some k_ ≠ (v117 : Value).ownBlock)) (Kd.R_apart' (HO133.out) (Kd.R_typed HO118.out) (by decide)) (fun k_ hk => hk.2)) | exact Kd.F_drewN (Kd.R_F (Kd.R_mono (ok' := (fun k_ => some k_ ≠ (v117 : Value).ownBlock)) (Kd.R_apart' (HO133.out) (Kd.R_typed HO118.out) (by decide)) (fun k_ hk => hk.2))) _ | exact Kd.F_drewN (Kd.F_drewN (Kd.R_F (Kd.R_mono (ok' := (fun k_ => some k_ ≠ (v117 : Value).ownBlock)) (Kd.R_apart' (HO133.out) (Kd.R_typed HO118.out) (by decide)) (fun k_ hk => hk.2))) _) _))) (Reps.none _ _))))))); intro v135 w18 ho19 hb hg_ hnew_; clear hg_ hnew_; (first | rw [← Ny134.out] at ho19 | (simp only [Int.reduceToNat] at ho19; rw [← Ny134.out] at ho19)); replace HO118 := Aside0.mk (Kd.R_below (by (with_reducible repeat (first | apply Kd.R_alloc | apply Kd.R_drewN | apply Kd.R_drew)); exact HO118.out) hb); have HO136 := Aside0.mk (Kd.N_lower ho19 (below_size (by repeat (first | (with_reducible first | exact HB.out | apply below_alloc | apply pw_below_drewN | apply below_drew1) | exact HB.out)))); replace HB := Aside0.mk (below_step (by repeat (first | (with_reducible first | exact HB.out | apply below_alloc | apply pw_below_drewN | apply below_drew1) | exact HB.out)) hb); clear HO121; clear HO124; clear HO127; clear HO130; clear HO133; clear hb ho19))
  go_loopg [1, 3] k (fun kq v1 v3 w' => ∃ (x1_1 : List (S39)) (x3_1 : Int), v3 = .int .i64 x3_1 ∧ Aside0 (spec_l04Kernel.l0 kq x1_1 y134 x3_1 = some r) ∧ Aside0 (kq ≤ k) ∧ Aside0 (Kd.R k39 39 w' w.heap.size (fun _ => True) v1 x1_1) ∧ Aside0 (Kd.N (Kd.slice 9 Kd.string) 63 w' w.heap.size (fun k_ => some k_ ≠ (v1 : Value).ownBlock) v135 y134) ∧ Aside0 (Below w.heap.size w w'))
  case atStart => exact ⟨(y116), (0), (by first | rfl | (simp; done) | (simp [*]; done)), H', ⟨Nat.le_refl _⟩, ⟨by (with_reducible repeat (first | apply Kd.R_alloc | apply Kd.R_drewN | apply Kd.R_drew)); exact HO118.out⟩, ⟨by (with_reducible repeat (first | apply Kd.N_alloc | apply Kd.N_drewN | apply Kd.N_drew)); exact HO136.out⟩, ⟨by repeat (first | (with_reducible first | exact HB.out | apply below_alloc | apply pw_below_drewN | apply below_drew1) | exact HB.out)⟩⟩
  case round =>
    clear H'
    try clear p2
    try clear c4
    try clear c9
    obtain ⟨x1_1, x3_1, rfl, HA, HK1, HO_1, HO_2, HB⟩ := hrel
    cases gk with
    | zero => exact absurd HA.out (by simp [spec_l04Kernel.l0])
    | succ k1 =>
      have H := HA.out
      clear HA
      simp only [spec_l04Kernel.l0] at H
      by_cases c20 : x3_1 < (y134.length : Int)
      · rw [if_pos c20] at H
        have c20b0 : decide (x3_1 < (y134.length : Int)) = true := decide_eq_true c20
        clear c20
        have H' := Aside0.mk H
        clear H
        obtain ⟨Ao21, co21, eo21⟩ := Kd.N_slice HO_2.out
        subst eo21
        go_wp2
        go_loopg [1, 4] k1 (fun kq v1 v4 w' => ∃ (x1_2 : List (S39)) (x4_2 : Int), v4 = .int .i64 x4_2 ∧ Aside0 (spec_l04Kernel.l1 kq x1_2 y134 x3_1 x4_2 = some r) ∧ Aside0 (kq ≤ k1) ∧ Aside0 (Kd.R k39 39 w' w.heap.size (fun _ => True) v1 x1_2) ∧ Aside0 (Kd.N (Kd.slice 9 Kd.string) 63 w' w.heap.size (fun k_ => some k_ ≠ (v1 : Value).ownBlock) (.slice Ao21 y134.length co21) y134) ∧ Aside0 (Below w.heap.size w w'))
        case atStart => exact ⟨(x1_1), (0), (by first | rfl | (simp; done) | (simp [*]; done)), H', ⟨Nat.le_refl _⟩, ⟨by (with_reducible repeat (first | apply Kd.R_alloc | apply Kd.R_drewN | apply Kd.R_drew)); exact HO_1.out⟩, ⟨by (with_reducible repeat (first | apply Kd.N_alloc | apply Kd.N_drewN | apply Kd.N_drew)); exact HO_2.out⟩, ⟨by repeat (first | (with_reducible first | exact HB.out | apply below_alloc | apply pw_below_drewN | apply below_drew1) | exact HB.out)⟩⟩
        case round =>
          clear H'
          try clear c2
          try clear p2
          try clear c4
          try clear c9
          try clear c20
          try clear c20b0
          try clear p2
          obtain ⟨x1_2, x4_2, rfl, HA, HK2, HO_1, HO_2, HB⟩ := hrel
          cases gk with
          | zero => exact absurd HA.out (by simp [spec_l04Kernel.l1])
          | succ k2 =>
            have H := HA.out
            clear HA
            simp only [spec_l04Kernel.l1] at H
            by_cases c22 : 0 ≤ x3_1
            · rw [if_pos c22] at H
              have c22b0 : decide (0 ≤ x3_1) = true := decide_eq_true c22
              clear c22
              by_cases c23 : x3_1 < (y134.length : Int)
              · rw [if_pos c23] at H
                have c23b0 : decide (x3_1 < (y134.length : Int)) = true := decide_eq_true c23
                clear c23
                by_cases c24 : x4_2 < ((rd_L1 y134 x3_1).length : Int)
                · rw [if_pos c24] at H
                  have c24b0 : decide (x4_2 < ((rd_L1 y134 x3_1).length : Int)) = true := decide_eq_true c24
                  clear c24
                  by_cases c25 : 0 ≤ x4_2
                  · rw [if_pos c25] at H
                    have c25b0 : decide (0 ≤ x4_2) = true := decide_eq_true c25
                    clear c25
                    by_cases c26 : x1_2.length < 4398046511104
                    · rw [if_pos c26] at H
                      have LMc26 := Aside0.mk c26
                      clear c26
                      obtain ⟨y140, hy140⟩ : ∃ y_ : List (S39), y_ = (x1_2 ++ [(⟨rdOf ByteArray.empty (rd_L1 y134 x3_1) x4_2, wrap64 (x3_1 + 1), wrap64 (x4_2 + 1)⟩ : S39)]) := ⟨_, rfl⟩
                      replace H : (spec_l04Kernel.l1 k2 y140 y134 x3_1 (wrap64 (x4_2 + 1))) = some r := by first | (rw [hy140]; with_reducible exact H) | (have H2_ := (Option.bind_some _ _).symm.trans H; rw [hy140]; with_reducible exact H2_) | (have H2_ := (Option.bind_some _ _).symm.trans H; with_reducible exact H2_) | with_reducible exact H | (rw [hy140]; exact H) | exact H
                      have Ny140 := Aside0.mk hy140
                      clear hy140
                      have H' := Aside0.mk H
                      clear H
                      have p137 : 0 ≤ (x3_1 : Int) := of_decide_eq_true (by first | (with_reducible assumption) | assumption)
                      have q137 : x3_1 < (y134.length : Int) := of_decide_eq_true (by first | (with_reducible assumption) | assumption)
                      obtain ⟨ad137, A137_0, c137_0, e137, hx137_0, hl137_0, hi137_0⟩ := at_L1 (Kd.N_reads' HO_2.out).2.2 x3_1 p137 q137
                      cases e137
                      obtain ⟨ce137, hce137, hMe137, hcc137⟩ := Kd.N_get HO_2.out [] x3_1 p137 (by first | exact q137 | exact of_decide_eq_true (by first | (with_reducible assumption) | assumption) | (have e_ := (Kd.N_reads' HO_2.out).1; omega))
                      obtain ⟨ua137_0, uc137_0, rfl, ul137_0, ge137_0⟩ := Kd.FK_slice_open hMe137
                      have hv137_0 := hcc137 0 _ rfl
                      rw [Nat.add_zero, show ((Kd.slice 9 Kd.string)).sz = 1 from rfl, Nat.mul_one] at hv137_0
                      replace hv137_0 := Option.some.inj (hv137_0.symm.trans hx137_0)
                      injection hv137_0 with hva_ hvn_ hvc_
                      rw [hva_] at ge137_0
                      rw [hvc_] at ul137_0
                      have HL137_0 := Aside0.mk (show Kd.V Kd.string 9 _ w.heap.size _ _ (rd_L1 y134 x3_1) from Kd.V_mk ul137_0 ge137_0)
                      clear hva_ hvn_ hvc_ ge137_0 ul137_0
                      clear hcc137 hce137
                      have HR137_0 := Aside0.mk hi137_0
                      have HC137_0 := Aside0.mk hl137_0
                      clear hi137_0 hl137_0
                      replace p137 := eq_true p137
                      replace q137 := eq_true q137
                      have p138 : 0 ≤ (x3_1 : Int) := of_decide_eq_true (by first | (with_reducible assumption) | assumption)
                      have q138 : x3_1 < (y134.length : Int) := of_decide_eq_true (by first | (with_reducible assumption) | assumption)
                      obtain ⟨ad138, A138_0, c138_0, e138, hx138_0, hl138_0, hi138_0⟩ := at_L1 (Kd.N_reads' HO_2.out).2.2 x3_1 p138 q138
                      obtain rfl : ad137 = ad138 := (by injection e138)
                      obtain ⟨ce138, hce138, hMe138, hcc138⟩ := Kd.N_get HO_2.out [] x3_1 p138 (by first | exact q138 | exact of_decide_eq_true (by first | (with_reducible assumption) | assumption) | (have e_ := (Kd.N_reads' HO_2.out).1; omega))
                      obtain ⟨ua138_0, uc138_0, rfl, ul138_0, ge138_0⟩ := Kd.FK_slice_open hMe138
                      have hv138_0 := hcc138 0 _ rfl
                      rw [Nat.add_zero, show ((Kd.slice 9 Kd.string)).sz = 1 from rfl, Nat.mul_one] at hv138_0
                      replace hv138_0 := Option.some.inj (hv138_0.symm.trans hx138_0)
                      injection hv138_0 with hva_ hvn_ hvc_
                      rw [hva_] at ge138_0
                      rw [hvc_] at ul138_0
                      have HL138_0 := Aside0.mk (show Kd.V Kd.string 9 _ w.heap.size _ _ (rd_L1 y134 x3_1) from Kd.V_mk ul138_0 ge138_0)
                      clear hva_ hvn_ hvc_ ge138_0 ul138_0
                      clear hcc138 hce138
                      have HR138_0 := Aside0.mk hi138_0
                      have HC138_0 := Aside0.mk hl138_0
                      clear hi138_0 hl138_0
                      replace p138 := eq_true p138
                      replace q138 := eq_true q138
                      have ea_ := Option.some.inj (hx137_0.symm.trans hx138_0)
                      injection ea_ with ea_ en_ ec_
                      subst ea_
                      subst ec_
                      clear en_
                      have p139 : 0 ≤ (x4_2 : Int) := of_decide_eq_true (by first | (with_reducible assumption) | assumption)
                      have q139 : x4_2 < ((rd_L1 y134 x3_1).length : Int) := of_decide_eq_true (by first | (with_reducible assumption) | assumption)
                      obtain ⟨ad139, e139, hx139_0⟩ := Kd.at_string (by repeat (first | (with_reducible exact HR138_0.out) | (with_reducible refine Kd.C_alloc ?_ _) | (with_reducible refine Kd.C_drewN ?_ _) | (with_reducible refine Kd.C_drew ?_) | exact HR138_0.out)) x4_2 p139 q139
                      cases e139
                      replace p139 := eq_true p139
                      replace q139 := eq_true q139
                      go_wp2_with (first | ((with_reducible refine gate_builtin (b := .append) (xs := #[.tmp 27, .tmp 40]) rfl ?_); at_builtin; refine Kd.R_append k39 (w0 := w) w.heap.size rfl (.tmp 27) (.tmp 40) 22 39 (.agg #[(.string ⟨#[]⟩), (.int .i64 0), (.int .i64 0)]) 32 rfl Tryd.underlying22 info39 rfl (by decide) (by omega) u1 x1_2 (⟨rdOf ByteArray.empty (rd_L1 y134 x3_1) x4_2, wrap64 (x3_1 + 1), wrap64 (x4_2 + 1)⟩ : S39) [.string (rdOf ByteArray.empty (rd_L1 y134 x3_1) x4_2), .int .i64 (wrap64 (x3_1 + 1)), .int .i64 (wrap64 (x4_2 + 1))] (fun _ => True) (fun _ => False) rfl rfl ?aP (fun _ hk => hk.elim) ?aF ?aO ?aB ?aS ?aL ?_; (case aP => exact k39_mkM _ _ _ (⟨rdOf ByteArray.empty (rd_L1 y134 x3_1) x4_2, wrap64 (x3_1 + 1), wrap64 (x4_2 + 1)⟩ : S39)); (case aB => exact (by repeat (first | (with_reducible first | exact HB.out | apply below_alloc | apply pw_below_drewN | apply below_drew1) | exact HB.out))); (case aF => exact (fun _ _ => trivial)); (case aO => exact (by (with_reducible repeat (first | apply Kd.R_alloc | apply Kd.R_drewN | apply Kd.R_drew)); exact HO_1.out)); (case aS => exact (below_size (by repeat (first | (with_reducible first | exact HB.out | apply below_alloc | apply pw_below_drewN | apply below_drew1) | exact HB.out)))); (case aL => have := LMc26.out; omega); intro v141 w27 ho hb hg hat; rw [← Ny140.out] at ho; replace HO_2 := Aside0.mk (Kd.N_afterv (ok := (fun _ => True)) (by (with_reducible repeat (first | apply Kd.N_alloc | apply Kd.N_drewN | apply Kd.N_drew)); exact Kd.N_mono HO_2.out (fun _ hk => ⟨trivial, hk⟩)) hg hat); replace HL137_0 := Aside0.mk (Kd.V_afterv (ok := (fun k_ => some k_ ≠ (.slice (some ad137) y134.length co21 : Value).ownBlock)) (by (with_reducible repeat (first | apply Kd.V_alloc | apply Kd.V_drewN | apply Kd.V_drew)); exact Kd.V_mono HL137_0.out (fun _ hk => ⟨hk.2, hk.1⟩)) hg hat); replace HL138_0 := Aside0.mk (Kd.V_afterv (ok := (fun k_ => some k_ ≠ (.slice (some ad137) y134.length co21 : Value).ownBlock)) (by (with_reducible repeat (first | apply Kd.V_alloc | apply Kd.V_drewN | apply Kd.V_drew)); exact Kd.V_mono HL138_0.out (fun _ hk => ⟨hk.2, hk.1⟩)) hg hat); replace HB := Aside0.mk (hb); have HO142 := Aside0.mk (ho); clear HO_1; clear ho hb hg hat))
                      go_roundg k2
                      case measure => have := HK1.out; have := HK2.out; omega
                      case rel => exact ⟨(y140), (wrap64 (x4_2 + 1)), (by first | rfl | (simp; done) | (simp [*]; done)), H', ⟨by have := HK1.out; have := HK2.out; omega⟩, ⟨by (with_reducible repeat (first | apply Kd.R_alloc | apply Kd.R_drewN | apply Kd.R_drew)); exact HO142.out⟩, ⟨by (with_reducible repeat (first | apply Kd.N_alloc | apply Kd.N_drewN | apply Kd.N_drew)); exact Kd.N_mono HO_2.out (fun _ hk => hk.2)⟩, ⟨by repeat (first | (with_reducible first | exact HB.out | apply below_alloc | apply pw_below_drewN | apply below_drew1) | exact HB.out)⟩⟩
                    · rw [if_neg c26] at H
                      exact absurd H (by simp)
                  · rw [if_neg c25] at H
                    exact absurd H (by simp)
                · rw [if_neg c24] at H
                  have c24b0 : decide (x4_2 < ((rd_L1 y134 x3_1).length : Int)) = false := decide_eq_false c24
                  clear c24
                  have H' := Aside0.mk H
                  clear H
                  have p137 : 0 ≤ (x3_1 : Int) := of_decide_eq_true (by first | (with_reducible assumption) | assumption)
                  have q137 : x3_1 < (y134.length : Int) := of_decide_eq_true (by first | (with_reducible assumption) | assumption)
                  obtain ⟨ad137, A137_0, c137_0, e137, hx137_0, hl137_0, hi137_0⟩ := at_L1 (Kd.N_reads' HO_2.out).2.2 x3_1 p137 q137
                  cases e137
                  obtain ⟨ce137, hce137, hMe137, hcc137⟩ := Kd.N_get HO_2.out [] x3_1 p137 (by first | exact q137 | exact of_decide_eq_true (by first | (with_reducible assumption) | assumption) | (have e_ := (Kd.N_reads' HO_2.out).1; omega))
                  obtain ⟨ua137_0, uc137_0, rfl, ul137_0, ge137_0⟩ := Kd.FK_slice_open hMe137
                  have hv137_0 := hcc137 0 _ rfl
                  rw [Nat.add_zero, show ((Kd.slice 9 Kd.string)).sz = 1 from rfl, Nat.mul_one] at hv137_0
                  replace hv137_0 := Option.some.inj (hv137_0.symm.trans hx137_0)
                  injection hv137_0 with hva_ hvn_ hvc_
                  rw [hva_] at ge137_0
                  rw [hvc_] at ul137_0
                  have HL137_0 := Aside0.mk (show Kd.V Kd.string 9 _ w.heap.size _ _ (rd_L1 y134 x3_1) from Kd.V_mk ul137_0 ge137_0)
                  clear hva_ hvn_ hvc_ ge137_0 ul137_0
                  clear hcc137 hce137
                  have HR137_0 := Aside0.mk hi137_0
                  have HC137_0 := Aside0.mk hl137_0
                  clear hi137_0 hl137_0
                  replace p137 := eq_true p137
                  replace q137 := eq_true q137
                  go_wp2
                  go_roundg k2
                  case measure => have := HK1.out; have := HK2.out; omega
                  case rel => exact ⟨(x1_2), (wrap64 (x3_1 + 1)), (by first | rfl | (simp; done) | (simp [*]; done)), H', ⟨by have := HK1.out; have := HK2.out; omega⟩, ⟨by (with_reducible repeat (first | apply Kd.R_alloc | apply Kd.R_drewN | apply Kd.R_drew)); exact HO_1.out⟩, ⟨by (with_reducible repeat (first | apply Kd.N_alloc | apply Kd.N_drewN | apply Kd.N_drew)); exact HO_2.out⟩, ⟨by repeat (first | (with_reducible first | exact HB.out | apply below_alloc | apply pw_below_drewN | apply below_drew1) | exact HB.out)⟩⟩
              · rw [if_neg c23] at H
                exact absurd H (by simp)
            · rw [if_neg c22] at H
              exact absurd H (by simp)
      · rw [if_neg c20] at H
        have c20b0 : decide (x3_1 < (y134.length : Int)) = false := decide_eq_false c20
        clear c20
        obtain rfl := Option.some.inj H
        obtain ⟨Ao28, co28, eo28⟩ := Kd.N_slice HO_2.out
        subst eo28
        go_wp2
        go_ret
        exact ⟨_, by first | rfl | (simp [errW_none, errW_some] <;> rfl) | (simp [*, errW_none, errW_some] <;> rfl), by (with_reducible repeat (first | apply Kd.R_alloc | apply Kd.R_drewN | apply Kd.R_drew)); exact HO_1.out, by repeat (first | (with_reducible first | exact HB.out | apply below_alloc | apply pw_below_drewN | apply below_drew1) | exact HB.out)⟩

/-! ### spec_KernelWords: function 12 -/
def spec_KernelWords.f (k : Nat)  : Option ((List (S39))) := (spec_l04Kernel.f k).bind fun t143 => (some t143)
theorem spec_KernelWords.mono : ∀ k, LeO (spec_KernelWords.f k ) (spec_KernelWords.f (k + 1) ) := by
  intro  k
  unfold spec_KernelWords.f
  repeat' first
      | (with_reducible exact spec_l04Kernel.mono _)
      | (with_reducible exact LeO.refl _)
      | (with_reducible exact LeO.none _)
      | (with_reducible refine LeO.ite ?_ ?_)
      | (with_reducible refine LeO.bind ?_ (fun _ => ?_))
      | exact spec_l04Kernel.mono _
      | exact LeO.none _
      | refine LeO.ite ?_ ?_
      | refine LeO.bind ?_ (fun _ => ?_)
set_option maxHeartbeats 8000000 in
set_option maxRecDepth 100000 in
theorem spec_KernelWords.calls (k : Nat)  (r : List (S39)) (w : World) (h : spec_KernelWords.f k  = some r) :
    Calls Tryd.prog 12 #[] w fun e w' => ∃ v0_ : Value, e = .returned (v0_) ∧ Kd.R k39 39 w' w.heap.size (fun _ => True) v0_ r ∧ Below w.heap.size w w' := by
  have HB := Aside0.mk (Below.refl w.heap.size w)
  have H : ((spec_l04Kernel.f k).bind fun t143 => (some t143)) = some r := h
  clear h
  replace H := Option.bind_eq_some_iff.mp H
  obtain ⟨t143, A10, H⟩ := H
  replace H : (some t143) = some r := H
  have A1 := Aside0.mk A10
  clear A10
  obtain rfl := Option.some.inj H
  go_enter Tryd.func12, Tryd.ntmps12
  go_wp2_with (first | ((with_reducible refine gate_callee (f := 48) rfl ?_); refine goesL_ (some 1) rfl rfl Tryd.func48 (by kernel_rfl) rfl #[] rfl (by (try simp only [List.map_toArray, List.map_cons, List.map_nil]); first | done | rfl | (simp only [List.length_drop, List.length_take]; rfl)) ?_; (with_reducible refine (spec_l04Kernel.calls k  t143 _ A1.out).mono ?_); rintro e w2 ⟨v144, rfl, ho0, hb⟩; refine ⟨_, rfl, ?_⟩; have HO145 := Aside0.mk (Kd.R_lower ho0 (below_size (by repeat (first | (with_reducible first | exact HB.out | apply below_alloc | apply pw_below_drewN | apply below_drew1) | exact HB.out)))); replace HB := Aside0.mk (below_step (by repeat (first | (with_reducible first | exact HB.out | apply below_alloc | apply pw_below_drewN | apply below_drew1) | exact HB.out)) hb); (try clear hb); (try clear hb2); (try clear hk); (try clear hi); (try clear ho0)))
  go_ret
  exact ⟨_, by first | rfl | (simp [errW_none, errW_some] <;> rfl) | (simp [*, errW_none, errW_some] <;> rfl), by (with_reducible repeat (first | apply Kd.R_alloc | apply Kd.R_drewN | apply Kd.R_drew)); exact HO145.out, by repeat (first | (with_reducible first | exact HB.out | apply below_alloc | apply pw_below_drewN | apply below_drew1) | exact HB.out)⟩

/-- What the listed variables hold. -/
structure GlobOK (w : World) : Prop where
  tab_u8 : Lib.TabIs Tryd.prog w "strings.asciiSpace" .u8 Lib.asciiSpaceTab
  maxLen : ∃ m : Int, w.cell? ⟨2, 0, none⟩ = some (.int .i64 m)
theorem GlobOK.below {w w' : World} (h : GlobOK w) (hb : Below w.heap.size w w') : GlobOK w' := ⟨Lib.tabBelow_of_tabIs h.tab_u8 w' hb, by obtain ⟨m, hm⟩ := h.maxLen; exact ⟨m, pw_cell_below hb hm⟩⟩
theorem GlobOK.alloc {w : World} (h : GlobOK w) (o : Obj) : GlobOK (w.alloc o) := h.below (below_alloc (Below.refl _ _) o)
theorem GlobOK.drew {w : World} (h : GlobOK w) : GlobOK w.drew := h.below (below_drew (Below.refl _ _))
theorem GlobOK.drewN {w : World} (h : GlobOK w) (m : Nat) : GlobOK (w.drewN m) := h.below (pw_below_drewN (Below.refl _ _) m)
/-- A new row of texts, as the print tells it. -/
theorem texts_new (w : World) (e : Nat) (l : List ByteArray) (h48 : l.length ≤ 4294967296) : Kd.R Kd.string e (w.alloc (.cells (l.map Value.string).toArray e)) w.heap.size (fun _ => True) (.slice (some ⟨w.heap.size, 0, none⟩) l.length l.length) l := by
  have ho : (w.alloc (.cells (l.map Value.string).toArray e)).ownsRow w.heap.size e 1 (.slice (some ⟨w.heap.size, 0, none⟩) l.length l.length) l.length (encs Value.string l) := by
    refine ⟨by simp [encs], .inr ⟨w.heap.size, l.length, (l.map Value.string).toArray, rfl, Nat.le_refl _, blk_new w _, Nat.le_refl _, by unfold maxLen; omega, by simp, ?_⟩⟩
    rw [Nat.mul_one]
    show (l.map Value.string).take l.length = l.map Value.string
    rw [List.take_of_length_le (by simp)]
  exact Kd.R_of_own ho (fun _ _ => trivial)


/-! ### strings_Split: function 49 -/
def Tryd.lays146_ren : Go.Shelf.Ren := ⟨fun | 146 => 49 | 221 => 95 | 268 => 122 | 138 => 123 | 143 => 124 | 195 => 135 | 197 => 136 | 218 => 137 | 219 => 138 | 260 => 142 | 217 => 143 | 225 => 144 | 224 => 145 | 267 => 146 | 266 => 151 | 314 => 152 | n => n, fun | 9 => 9 | 31 => 63 | 3 => 3 | 4 => 4 | 0 => 0 | 105 => 139 | 21 => 21 | 5 => 5 | 46 => 155 | 119 => 99 | 139 => 165 | 138 => 164 | 146 => 166 | 51 => 130 | n => n, fun | 1 => 2 | 3 => 3 | 4 => 4 | n => n⟩
theorem Tryd.lays146 : Go.Proofs.Lays.n146 Tryd.prog Tryd.lays146_ren := {
  mixed := by kernel_rfl
  f138 := Tryd.func123.trans (congrArg some (by kernel_rfl))
  f143 := Tryd.func124.trans (congrArg some (by kernel_rfl))
  f146 := Tryd.func49.trans (congrArg some (by kernel_rfl))
  f195 := Tryd.func135.trans (congrArg some (by kernel_rfl))
  f197 := Tryd.func136.trans (congrArg some (by kernel_rfl))
  f217 := Tryd.func143.trans (congrArg some (by kernel_rfl))
  f218 := Tryd.func137.trans (congrArg some (by kernel_rfl))
  f219 := Tryd.func138.trans (congrArg some (by kernel_rfl))
  f221 := Tryd.func95.trans (congrArg some (by kernel_rfl))
  f224 := Tryd.func145.trans (congrArg some (by kernel_rfl))
  f225 := Tryd.func144.trans (congrArg some (by kernel_rfl))
  f260 := Tryd.func142.trans (congrArg some (by kernel_rfl))
  f266 := Tryd.func151.trans (congrArg some (by kernel_rfl))
  f267 := Tryd.func146.trans (congrArg some (by kernel_rfl))
  f268 := Tryd.func122.trans (congrArg some (by kernel_rfl))
  f314 := Tryd.func152.trans (congrArg some (by kernel_rfl))
  t0 := Tryd.underlying0
  a0 := Tryd.isAgg0
  z0 := Tryd.sizeOf0
  v0 := Tryd.zeroValue0
  t3 := Tryd.underlying3
  a3 := Tryd.isAgg3
  z3 := Tryd.sizeOf3
  v3 := Tryd.zeroValue3
  t4 := Tryd.underlying4
  a4 := Tryd.isAgg4
  z4 := Tryd.sizeOf4
  v4 := Tryd.zeroValue4
  t5 := Tryd.underlying5
  a5 := Tryd.isAgg5
  z5 := Tryd.sizeOf5
  v5 := Tryd.zeroValue5
  t9 := Tryd.underlying9
  a9 := Tryd.isAgg9
  z9 := Tryd.sizeOf9
  v9 := Tryd.zeroValue9
  t21 := Tryd.underlying21
  a21 := Tryd.isAgg21
  z21 := Tryd.sizeOf21
  v21 := Tryd.zeroValue21
  t31 := Tryd.underlying63
  a31 := Tryd.isAgg63
  z31 := Tryd.sizeOf63
  v31 := Tryd.zeroValue63
  t46 := Tryd.underlying155
  a46 := Tryd.isAgg155
  z46 := Tryd.sizeOf155
  v46 := Tryd.zeroValue155
  t51 := Tryd.underlying130
  a51 := Tryd.isAgg130
  z51 := Tryd.sizeOf130
  v51 := Tryd.zeroValue130
  t105 := Tryd.underlying139
  a105 := Tryd.isAgg139
  z105 := Tryd.sizeOf139
  v105 := Tryd.zeroValue139
  t119 := Tryd.underlying99
  a119 := Tryd.isAgg99
  z119 := Tryd.sizeOf99
  t138 := Tryd.underlying164
  a138 := Tryd.isAgg164
  z138 := Tryd.sizeOf164
  v138 := Tryd.zeroValue164
  t139 := Tryd.underlying165
  a139 := Tryd.isAgg165
  z139 := Tryd.sizeOf165
  v139 := Tryd.zeroValue165
  t146 := Tryd.underlying166
  a146 := Tryd.isAgg166
  z146 := Tryd.sizeOf166
  v146 := Tryd.zeroValue166
  g1 := by kernel_rfl
  g3 := by kernel_rfl
  g4 := by kernel_rfl }
def strings_Split.f (s sep : ByteArray) : Option (List ByteArray) := if s.size < 4000000000 then (if 1 ≤ sep.size then some (Lib.splitB sep 0 (Lib.countB s sep) s) else none) else none
theorem strings_Split.calls (s sep : ByteArray) (r : List ByteArray) (w : World) (h : strings_Split.f s sep = some r) (hG : GlobOK w := by first | exact HGL.out | exact GlobOK.below HGL.out HB.out | exact GlobOK.below HGL.out (by repeat (first | (with_reducible first | exact HB.out | apply below_alloc | apply pw_below_drewN | apply below_drew1) | exact HB.out)) | (repeat (first | exact HGL.out | apply GlobOK.drewN | apply GlobOK.drew | apply GlobOK.alloc))) :
    Calls Tryd.prog 49 #[.string s, .string sep] w fun e w' => ∃ v0_ : Value, e = .returned (v0_) ∧ Kd.R Kd.string 9 w' w.heap.size (fun _ => True) v0_ r ∧ Below w.heap.size w w' := by
  unfold strings_Split.f at h
  by_cases h1 : s.size < 4000000000
  · rw [if_pos h1] at h
    by_cases h2 : 1 ≤ sep.size
    · rw [if_pos h2] at h
      obtain rfl := Option.some.inj h
      obtain ⟨m, hm⟩ := hG.maxLen
      refine (Go.Proofs.Any.strings_Split Tryd.lays146 (by kernel_rfl) s sep m w (by omega) hm h2).mono ?_
      rintro e w' ⟨rfl, rfl⟩
      have hl := Lib.splitB_all sep h2 0 _ s rfl
      have hc := Lib.countB_le sep h2 s.size s (Nat.le_refl _)
      have hn := texts_new w 9 (Lib.splitB sep 0 (Lib.countB s sep) s) (by rw [hl]; omega)
      rw [hl] at hn
      exact ⟨_, rfl, hn, below_alloc (Below.refl _ _) _⟩
    · rw [if_neg h2] at h
      cases h
  · rw [if_neg h1] at h
    cases h


/-! ### strings_Fields: function 50 -/
def Tryd.lays157_ren : Go.Shelf.Ren := ⟨fun | 157 => 50 | 229 => 96 | 199 => 97 | 261 => 125 | 311 => 139 | 312 => 140 | n => n, fun | 9 => 9 | 31 => 63 | 3 => 3 | 5 => 5 | 4 => 4 | 119 => 99 | 0 => 0 | 40 => 101 | 152 => 127 | 21 => 21 | 154 => 129 | 51 => 130 | 141 => 132 | 196 => 145 | 193 => 142 | 198 => 148 | 49 => 146 | 194 => 143 | 201 => 151 | 226 => 156 | 46 => 155 | 227 => 157 | n => n, fun | 0 => 0 | 6 => 1 | n => n⟩
theorem Tryd.lays157 : Go.Proofs.Lays.n157 Tryd.prog Tryd.lays157_ren := {
  mixed := by kernel_rfl
  f157 := Tryd.func50.trans (congrArg some (by kernel_rfl))
  f199 := Tryd.func97.trans (congrArg some (by kernel_rfl))
  f229 := Tryd.func96.trans (congrArg some (by kernel_rfl))
  f261 := Tryd.func125.trans (congrArg some (by kernel_rfl))
  f311 := Tryd.func139.trans (congrArg some (by kernel_rfl))
  f312 := Tryd.func140.trans (congrArg some (by kernel_rfl))
  t0 := Tryd.underlying0
  a0 := Tryd.isAgg0
  z0 := Tryd.sizeOf0
  v0 := Tryd.zeroValue0
  t3 := Tryd.underlying3
  a3 := Tryd.isAgg3
  z3 := Tryd.sizeOf3
  v3 := Tryd.zeroValue3
  t4 := Tryd.underlying4
  a4 := Tryd.isAgg4
  z4 := Tryd.sizeOf4
  v4 := Tryd.zeroValue4
  t5 := Tryd.underlying5
  a5 := Tryd.isAgg5
  z5 := Tryd.sizeOf5
  v5 := Tryd.zeroValue5
  t9 := Tryd.underlying9
  a9 := Tryd.isAgg9
  z9 := Tryd.sizeOf9
  v9 := Tryd.zeroValue9
  t21 := Tryd.underlying21
  a21 := Tryd.isAgg21
  z21 := Tryd.sizeOf21
  v21 := Tryd.zeroValue21
  t31 := Tryd.underlying63
  a31 := Tryd.isAgg63
  z31 := Tryd.sizeOf63
  v31 := Tryd.zeroValue63
  t40 := Tryd.underlying101
  a40 := Tryd.isAgg101
  z40 := Tryd.sizeOf101
  v40 := Tryd.zeroValue101
  t46 := Tryd.underlying155
  a46 := Tryd.isAgg155
  z46 := Tryd.sizeOf155
  v46 := Tryd.zeroValue155
  t49 := Tryd.underlying146
  a49 := Tryd.isAgg146
  z49 := Tryd.sizeOf146
  v49 := Tryd.zeroValue146
  t51 := Tryd.underlying130
  a51 := Tryd.isAgg130
  z51 := Tryd.sizeOf130
  v51 := Tryd.zeroValue130
  t119 := Tryd.underlying99
  a119 := Tryd.isAgg99
  z119 := Tryd.sizeOf99
  t141 := Tryd.underlying132
  a141 := Tryd.isAgg132
  z141 := Tryd.sizeOf132
  v141 := Tryd.zeroValue132
  t152 := Tryd.underlying127
  a152 := Tryd.isAgg127
  z152 := Tryd.sizeOf127
  v152 := Tryd.zeroValue127
  t154 := Tryd.underlying129
  a154 := Tryd.isAgg129
  z154 := Tryd.sizeOf129
  v154 := Tryd.zeroValue129
  t193 := Tryd.underlying142
  a193 := Tryd.isAgg142
  z193 := Tryd.sizeOf142
  v193 := Tryd.zeroValue142
  t194 := Tryd.underlying143
  a194 := Tryd.isAgg143
  z194 := Tryd.sizeOf143
  v194 := Tryd.zeroValue143
  t196 := Tryd.underlying145
  a196 := Tryd.isAgg145
  z196 := Tryd.sizeOf145
  v196 := Tryd.zeroValue145
  t198 := Tryd.underlying148
  a198 := Tryd.isAgg148
  z198 := Tryd.sizeOf148
  v198 := Tryd.zeroValue148
  t201 := Tryd.underlying151
  a201 := Tryd.isAgg151
  z201 := Tryd.sizeOf151
  v201 := Tryd.zeroValue151
  t226 := Tryd.underlying156
  a226 := Tryd.isAgg156
  z226 := Tryd.sizeOf156
  v226 := Tryd.zeroValue156
  t227 := Tryd.underlying157
  a227 := Tryd.isAgg157
  z227 := Tryd.sizeOf157
  v227 := Tryd.zeroValue157
  g0 := by kernel_rfl
  g6 := by kernel_rfl }
def strings_Fields.f (s : ByteArray) : Option (List ByteArray) := if s.size < 4000000000 then (if s.data.toList.all (fun b => decide (b.toNat < 128)) = true then (if (Lib.fields s.data.toList).length ≤ 4294967296 then some ((Lib.fields s.data.toList).map fun l => ⟨l.toArray⟩) else none) else none) else none
theorem strings_Fields.calls (s : ByteArray) (r : List ByteArray) (w : World) (h : strings_Fields.f s = some r) (hG : GlobOK w := by first | exact HGL.out | exact GlobOK.below HGL.out HB.out | exact GlobOK.below HGL.out (by repeat (first | (with_reducible first | exact HB.out | apply below_alloc | apply pw_below_drewN | apply below_drew1) | exact HB.out)) | (repeat (first | exact HGL.out | apply GlobOK.drewN | apply GlobOK.drew | apply GlobOK.alloc))) :
    Calls Tryd.prog 50 #[.string s] w fun e w' => ∃ v0_ : Value, e = .returned (v0_) ∧ Kd.R Kd.string 9 w' w.heap.size (fun _ => True) v0_ r ∧ Below w.heap.size w w' := by
  unfold strings_Fields.f at h
  by_cases h1 : s.size < 4000000000
  · rw [if_pos h1] at h
    by_cases h2 : s.data.toList.all (fun b => decide (b.toNat < 128)) = true
    · rw [if_pos h2] at h
      by_cases h3 : (Lib.fields s.data.toList).length ≤ 4294967296
      · rw [if_pos h3] at h
        obtain rfl := Option.some.inj h
        refine (Go.Proofs.Any.strings_Fields Tryd.lays157 (by kernel_rfl) (by kernel_rfl) s w (by omega) (fun j b hb => ?_) hG.tab_u8).mono ?_
        · exact of_decide_eq_true (List.all_eq_true.1 h2 b (List.mem_of_getElem? hb))
        · rintro e w' ⟨rfl, rfl⟩
          have hn := texts_new w 9 ((Lib.fields s.data.toList).map fun l => (⟨l.toArray⟩ : ByteArray)) (by rw [List.length_map]; exact h3)
          rw [List.length_map, List.map_map] at hn
          exact ⟨_, rfl, hn, below_alloc (Below.refl _ _) _⟩
      · rw [if_neg h3] at h
        cases h
    · rw [if_neg h2] at h
      cases h
  · rw [if_neg h1] at h
    cases h


/-! ### impl_KernelWords: function 13 -/
mutual
def impl_KernelWords.l0 : Nat → List (S39) → List ByteArray → Int → Int → Option ((List (S39)))
  | 0, _, _, _, _ => none
  | k + 1, x1, x7, x8, x9 => if x9 < x8 then (if 0 ≤ x9 then (if x9 < (x7.length : Int) then ((strings_Fields.f (rdOf ByteArray.empty x7 x9)).bind fun t153 => (impl_KernelWords.l1 k x1 x9 x7 x8 x9 t153 (t153.length : Int) 0)) else (none)) else (none)) else (some x1)
def impl_KernelWords.l1 : Nat → List (S39) → Int → List ByteArray → Int → Int → List ByteArray → Int → Int → Option ((List (S39)))
  | 0, _, _, _, _, _, _, _, _ => none
  | k + 1, x1, x2, x7, x8, x9, x15, x16, x17 => if x17 < x16 then (if 0 ≤ x17 then (if x17 < (x15.length : Int) then (if x1.length < 4398046511104 then (impl_KernelWords.l1 k (x1 ++ [(⟨rdOf ByteArray.empty x15 x17, wrap64 (x2 + 1), wrap64 (x17 + 1)⟩ : S39)]) x2 x7 x8 x9 x15 x16 (wrap64 (x17 + 1))) else (none)) else (none)) else (none)) else (impl_KernelWords.l0 k x1 x7 x8 (wrap64 (x9 + 1)))
end
def impl_KernelWords.f (k : Nat)  : Option ((List (S39))) := (strings_Split.f (⟨#[68, 85, 80, 32, 68, 82, 79, 80, 32, 83, 87, 65, 80, 32, 79, 86, 69, 82, 32, 82, 79, 84, 32, 78, 73, 80, 32, 84, 85, 67, 75, 32, 63, 68, 85, 80, 32, 50, 68, 85, 80, 32, 50, 68, 82, 79, 80, 32, 68, 69, 80, 84, 72, 32, 62, 82, 32, 82, 62, 32, 82, 64, 32, 43, 32, 45, 32, 42, 32, 47, 32, 77, 79, 68, 32, 65, 78, 68, 32, 79, 82, 32, 88, 79, 82, 32, 76, 83, 72, 73, 70, 84, 32, 82, 83, 72, 73, 70, 84, 32, 78, 69, 71, 65, 84, 69, 32, 65, 66, 83, 32, 73, 78, 86, 69, 82, 84, 32, 49, 43, 32, 49, 45, 32, 77, 73, 78, 32, 77, 65, 88, 32, 61, 32, 60, 62, 32, 60, 32, 62, 32, 85, 60, 32, 48, 61, 32, 48, 60, 32, 64, 32, 33, 32, 43, 33, 32, 72, 69, 82, 69, 32, 65, 76, 76, 79, 84, 32, 44, 32, 69, 77, 73, 84, 32, 46, 32, 67, 82, 32, 83, 80, 65, 67, 69, 32, 68, 69, 67, 73, 77, 65, 76, 32, 72, 69, 88, 32, 73, 32, 85, 78, 76, 79, 79, 80, 124, 69, 88, 73, 84, 32, 69, 88, 69, 67, 85, 84, 69, 32, 67, 65, 84, 67, 72, 32, 84, 72, 82, 79, 87, 124, 40, 76, 73, 84, 41, 32, 40, 66, 82, 65, 78, 67, 72, 41, 32, 40, 48, 66, 82, 65, 78, 67, 72, 41, 32, 40, 68, 79, 41, 32, 40, 76, 79, 79, 80, 41, 32, 40, 43, 76, 79, 79, 80, 41, 124, 72, 82, 69, 65, 68, 32, 72, 87, 82, 73, 84, 69, 32, 72, 65, 83, 75, 32, 72, 84, 73, 77, 69, 124, 58, 32, 59, 32, 73, 70, 32, 69, 76, 83, 69, 32, 84, 72, 69, 78, 32, 66, 69, 71, 73, 78, 32, 85, 78, 84, 73, 76, 32, 87, 72, 73, 76, 69, 32, 82, 69, 80, 69, 65, 84, 32, 68, 79, 32, 76, 79, 79, 80, 32, 43, 76, 79, 79, 80, 32, 82, 69, 67, 85, 82, 83, 69, 32, 86, 65, 82, 73, 65, 66, 76, 69, 32, 67, 79, 78, 83, 84, 65, 78, 84, 32, 39, 32, 91, 39, 93]⟩ : ByteArray) (⟨#[124]⟩ : ByteArray)).bind fun t149 => (impl_KernelWords.l0 k (([] : List (S39))) t149 (t149.length : Int) 0)
theorem impl_KernelWords.mono_l : ∀ k, (∀ y0 y1 y2 y3, LeO (impl_KernelWords.l0 k y0 y1 y2 y3) (impl_KernelWords.l0 (k + 1) y0 y1 y2 y3)) ∧ (∀ y0 y1 y2 y3 y4 y5 y6 y7, LeO (impl_KernelWords.l1 k y0 y1 y2 y3 y4 y5 y6 y7) (impl_KernelWords.l1 (k + 1) y0 y1 y2 y3 y4 y5 y6 y7))
  | 0 => ⟨fun _ _ _ _ r h => by simp [impl_KernelWords.l0] at h, fun _ _ _ _ _ _ _ _ r h => by simp [impl_KernelWords.l1] at h⟩
  | k + 1 => by
    obtain ⟨ih0, ih1⟩ := impl_KernelWords.mono_l k
    refine ⟨?_, ?_⟩
    · intro y0 y1 y2 y3
      unfold impl_KernelWords.l0
      repeat' first
      | (with_reducible exact ih0 _ _ _ _)
      | (with_reducible exact ih1 _ _ _ _ _ _ _ _)
      | (with_reducible exact LeO.refl _)
      | (with_reducible exact LeO.none _)
      | (with_reducible refine LeO.ite ?_ ?_)
      | (with_reducible refine LeO.bind ?_ (fun _ => ?_))
      | exact ih0 _ _ _ _
      | exact ih1 _ _ _ _ _ _ _ _
      | exact LeO.none _
      | refine LeO.ite ?_ ?_
      | refine LeO.bind ?_ (fun _ => ?_)
    · intro y0 y1 y2 y3 y4 y5 y6 y7
      unfold impl_KernelWords.l1
      repeat' first
      | (with_reducible exact ih0 _ _ _ _)
      | (with_reducible exact ih1 _ _ _ _ _ _ _ _)
      | (with_reducible exact LeO.refl _)
      | (with_reducible exact LeO.none _)
      | (with_reducible refine LeO.ite ?_ ?_)
      | (with_reducible refine LeO.bind ?_ (fun _ => ?_))
      | exact ih0 _ _ _ _
      | exact ih1 _ _ _ _ _ _ _ _
      | exact LeO.none _
      | refine LeO.ite ?_ ?_
      | refine LeO.bind ?_ (fun _ => ?_)
theorem impl_KernelWords.mono : ∀ k, LeO (impl_KernelWords.f k ) (impl_KernelWords.f (k + 1) ) := by
  intro  k
  obtain ⟨ih0, ih1⟩ := impl_KernelWords.mono_l k
  unfold impl_KernelWords.f
  repeat' first
      | (with_reducible exact ih0 _ _ _ _)
      | (with_reducible exact ih1 _ _ _ _ _ _ _ _)
      | (with_reducible exact LeO.refl _)
      | (with_reducible exact LeO.none _)
      | (with_reducible refine LeO.ite ?_ ?_)
      | (with_reducible refine LeO.bind ?_ (fun _ => ?_))
      | exact ih0 _ _ _ _
      | exact ih1 _ _ _ _ _ _ _ _
      | exact LeO.none _
      | refine LeO.ite ?_ ?_
      | refine LeO.bind ?_ (fun _ => ?_)
set_option maxHeartbeats 8000000 in
set_option maxRecDepth 100000 in
theorem impl_KernelWords.calls (k : Nat)  (r : List (S39)) (w : World) (h : impl_KernelWords.f k  = some r) (hG : GlobOK w := by first | exact HGL.out | exact GlobOK.below HGL.out HB.out | exact GlobOK.below HGL.out (by repeat (first | (with_reducible first | exact HB.out | apply below_alloc | apply pw_below_drewN | apply below_drew1) | exact HB.out)) | (repeat (first | exact HGL.out | apply GlobOK.drewN | apply GlobOK.drew | apply GlobOK.alloc))) :
    Calls Tryd.prog 13 #[] w fun e w' => ∃ v0_ : Value, e = .returned (v0_) ∧ Kd.R k39 39 w' w.heap.size (fun _ => True) v0_ r ∧ Below w.heap.size w w' := by
  have HGL := Aside0.mk hG
  clear hG
  have hu39 := Tryd.underlying39
  have HB := Aside0.mk (Below.refl w.heap.size w)
  have H : ((strings_Split.f (⟨#[68, 85, 80, 32, 68, 82, 79, 80, 32, 83, 87, 65, 80, 32, 79, 86, 69, 82, 32, 82, 79, 84, 32, 78, 73, 80, 32, 84, 85, 67, 75, 32, 63, 68, 85, 80, 32, 50, 68, 85, 80, 32, 50, 68, 82, 79, 80, 32, 68, 69, 80, 84, 72, 32, 62, 82, 32, 82, 62, 32, 82, 64, 32, 43, 32, 45, 32, 42, 32, 47, 32, 77, 79, 68, 32, 65, 78, 68, 32, 79, 82, 32, 88, 79, 82, 32, 76, 83, 72, 73, 70, 84, 32, 82, 83, 72, 73, 70, 84, 32, 78, 69, 71, 65, 84, 69, 32, 65, 66, 83, 32, 73, 78, 86, 69, 82, 84, 32, 49, 43, 32, 49, 45, 32, 77, 73, 78, 32, 77, 65, 88, 32, 61, 32, 60, 62, 32, 60, 32, 62, 32, 85, 60, 32, 48, 61, 32, 48, 60, 32, 64, 32, 33, 32, 43, 33, 32, 72, 69, 82, 69, 32, 65, 76, 76, 79, 84, 32, 44, 32, 69, 77, 73, 84, 32, 46, 32, 67, 82, 32, 83, 80, 65, 67, 69, 32, 68, 69, 67, 73, 77, 65, 76, 32, 72, 69, 88, 32, 73, 32, 85, 78, 76, 79, 79, 80, 124, 69, 88, 73, 84, 32, 69, 88, 69, 67, 85, 84, 69, 32, 67, 65, 84, 67, 72, 32, 84, 72, 82, 79, 87, 124, 40, 76, 73, 84, 41, 32, 40, 66, 82, 65, 78, 67, 72, 41, 32, 40, 48, 66, 82, 65, 78, 67, 72, 41, 32, 40, 68, 79, 41, 32, 40, 76, 79, 79, 80, 41, 32, 40, 43, 76, 79, 79, 80, 41, 124, 72, 82, 69, 65, 68, 32, 72, 87, 82, 73, 84, 69, 32, 72, 65, 83, 75, 32, 72, 84, 73, 77, 69, 124, 58, 32, 59, 32, 73, 70, 32, 69, 76, 83, 69, 32, 84, 72, 69, 78, 32, 66, 69, 71, 73, 78, 32, 85, 78, 84, 73, 76, 32, 87, 72, 73, 76, 69, 32, 82, 69, 80, 69, 65, 84, 32, 68, 79, 32, 76, 79, 79, 80, 32, 43, 76, 79, 79, 80, 32, 82, 69, 67, 85, 82, 83, 69, 32, 86, 65, 82, 73, 65, 66, 76, 69, 32, 67, 79, 78, 83, 84, 65, 78, 84, 32, 39, 32, 91, 39, 93]⟩ : ByteArray) (⟨#[124]⟩ : ByteArray)).bind fun t149 => (impl_KernelWords.l0 k (([] : List (S39))) t149 (t149.length : Int) 0)) = some r := h
  clear h
  obtain ⟨y146, hy146⟩ : ∃ y_ : List (S39), y_ = (([] : List (S39))) := ⟨_, rfl⟩
  replace H : ((strings_Split.f (⟨#[68, 85, 80, 32, 68, 82, 79, 80, 32, 83, 87, 65, 80, 32, 79, 86, 69, 82, 32, 82, 79, 84, 32, 78, 73, 80, 32, 84, 85, 67, 75, 32, 63, 68, 85, 80, 32, 50, 68, 85, 80, 32, 50, 68, 82, 79, 80, 32, 68, 69, 80, 84, 72, 32, 62, 82, 32, 82, 62, 32, 82, 64, 32, 43, 32, 45, 32, 42, 32, 47, 32, 77, 79, 68, 32, 65, 78, 68, 32, 79, 82, 32, 88, 79, 82, 32, 76, 83, 72, 73, 70, 84, 32, 82, 83, 72, 73, 70, 84, 32, 78, 69, 71, 65, 84, 69, 32, 65, 66, 83, 32, 73, 78, 86, 69, 82, 84, 32, 49, 43, 32, 49, 45, 32, 77, 73, 78, 32, 77, 65, 88, 32, 61, 32, 60, 62, 32, 60, 32, 62, 32, 85, 60, 32, 48, 61, 32, 48, 60, 32, 64, 32, 33, 32, 43, 33, 32, 72, 69, 82, 69, 32, 65, 76, 76, 79, 84, 32, 44, 32, 69, 77, 73, 84, 32, 46, 32, 67, 82, 32, 83, 80, 65, 67, 69, 32, 68, 69, 67, 73, 77, 65, 76, 32, 72, 69, 88, 32, 73, 32, 85, 78, 76, 79, 79, 80, 124, 69, 88, 73, 84, 32, 69, 88, 69, 67, 85, 84, 69, 32, 67, 65, 84, 67, 72, 32, 84, 72, 82, 79, 87, 124, 40, 76, 73, 84, 41, 32, 40, 66, 82, 65, 78, 67, 72, 41, 32, 40, 48, 66, 82, 65, 78, 67, 72, 41, 32, 40, 68, 79, 41, 32, 40, 76, 79, 79, 80, 41, 32, 40, 43, 76, 79, 79, 80, 41, 124, 72, 82, 69, 65, 68, 32, 72, 87, 82, 73, 84, 69, 32, 72, 65, 83, 75, 32, 72, 84, 73, 77, 69, 124, 58, 32, 59, 32, 73, 70, 32, 69, 76, 83, 69, 32, 84, 72, 69, 78, 32, 66, 69, 71, 73, 78, 32, 85, 78, 84, 73, 76, 32, 87, 72, 73, 76, 69, 32, 82, 69, 80, 69, 65, 84, 32, 68, 79, 32, 76, 79, 79, 80, 32, 43, 76, 79, 79, 80, 32, 82, 69, 67, 85, 82, 83, 69, 32, 86, 65, 82, 73, 65, 66, 76, 69, 32, 67, 79, 78, 83, 84, 65, 78, 84, 32, 39, 32, 91, 39, 93]⟩ : ByteArray) (⟨#[124]⟩ : ByteArray)).bind fun t149 => (impl_KernelWords.l0 k y146 t149 (t149.length : Int) 0)) = some r := by first | (rw [hy146]; with_reducible exact H) | (have H2_ := (Option.bind_some _ _).symm.trans H; rw [hy146]; with_reducible exact H2_) | (have H2_ := (Option.bind_some _ _).symm.trans H; with_reducible exact H2_) | with_reducible exact H | (rw [hy146]; exact H) | exact H
  have Ny146 := Aside0.mk hy146
  clear hy146
  replace H := Option.bind_eq_some_iff.mp H
  obtain ⟨t149, A10, H⟩ := H
  replace H : (impl_KernelWords.l0 k y146 t149 (t149.length : Int) 0) = some r := H
  have A1 := Aside0.mk A10
  clear A10
  have H' := Aside0.mk H
  clear H
  go_enter Tryd.func13, Tryd.ntmps13
  go_wp2_with (first | ((with_reducible refine gate_dst (N := 6) rfl ?_); refine Kd.R_lit k39 _ 39 ?hg (N := 6) ?hd (xs := ([] : List (S39))) (inner := []) (ok := fun _ => True) (okp := fun _ => True) ?hr ?hp (fun _ hk => hk) trivial (Below.refl _ _) (Nat.le_refl _) (by simp) ?_; (case hd => rfl); (case hg => rfl); (case hr => first | (go_simp; done) | (go_simp; rfl)); (case hp => exact (Reps.none _ _)); intro v147 w2 ho3 hb hg_ hnew_; clear hg_ hnew_; (first | rw [← Ny146.out] at ho3 | (simp only [Int.reduceToNat] at ho3; rw [← Ny146.out] at ho3)); have HO148 := Aside0.mk (Kd.R_lower ho3 (below_size (by repeat (first | (with_reducible first | exact HB.out | apply below_alloc | apply pw_below_drewN | apply below_drew1) | exact HB.out)))); replace HB := Aside0.mk (below_step (by repeat (first | (with_reducible first | exact HB.out | apply below_alloc | apply pw_below_drewN | apply below_drew1) | exact HB.out)) hb); clear hb ho3) | ((with_reducible refine gate_callee (f := 49) rfl ?_); refine goesL_ (some 7) rfl rfl Tryd.func49 (by kernel_rfl) rfl #[.string (⟨#[68, 85, 80, 32, 68, 82, 79, 80, 32, 83, 87, 65, 80, 32, 79, 86, 69, 82, 32, 82, 79, 84, 32, 78, 73, 80, 32, 84, 85, 67, 75, 32, 63, 68, 85, 80, 32, 50, 68, 85, 80, 32, 50, 68, 82, 79, 80, 32, 68, 69, 80, 84, 72, 32, 62, 82, 32, 82, 62, 32, 82, 64, 32, 43, 32, 45, 32, 42, 32, 47, 32, 77, 79, 68, 32, 65, 78, 68, 32, 79, 82, 32, 88, 79, 82, 32, 76, 83, 72, 73, 70, 84, 32, 82, 83, 72, 73, 70, 84, 32, 78, 69, 71, 65, 84, 69, 32, 65, 66, 83, 32, 73, 78, 86, 69, 82, 84, 32, 49, 43, 32, 49, 45, 32, 77, 73, 78, 32, 77, 65, 88, 32, 61, 32, 60, 62, 32, 60, 32, 62, 32, 85, 60, 32, 48, 61, 32, 48, 60, 32, 64, 32, 33, 32, 43, 33, 32, 72, 69, 82, 69, 32, 65, 76, 76, 79, 84, 32, 44, 32, 69, 77, 73, 84, 32, 46, 32, 67, 82, 32, 83, 80, 65, 67, 69, 32, 68, 69, 67, 73, 77, 65, 76, 32, 72, 69, 88, 32, 73, 32, 85, 78, 76, 79, 79, 80, 124, 69, 88, 73, 84, 32, 69, 88, 69, 67, 85, 84, 69, 32, 67, 65, 84, 67, 72, 32, 84, 72, 82, 79, 87, 124, 40, 76, 73, 84, 41, 32, 40, 66, 82, 65, 78, 67, 72, 41, 32, 40, 48, 66, 82, 65, 78, 67, 72, 41, 32, 40, 68, 79, 41, 32, 40, 76, 79, 79, 80, 41, 32, 40, 43, 76, 79, 79, 80, 41, 124, 72, 82, 69, 65, 68, 32, 72, 87, 82, 73, 84, 69, 32, 72, 65, 83, 75, 32, 72, 84, 73, 77, 69, 124, 58, 32, 59, 32, 73, 70, 32, 69, 76, 83, 69, 32, 84, 72, 69, 78, 32, 66, 69, 71, 73, 78, 32, 85, 78, 84, 73, 76, 32, 87, 72, 73, 76, 69, 32, 82, 69, 80, 69, 65, 84, 32, 68, 79, 32, 76, 79, 79, 80, 32, 43, 76, 79, 79, 80, 32, 82, 69, 67, 85, 82, 83, 69, 32, 86, 65, 82, 73, 65, 66, 76, 69, 32, 67, 79, 78, 83, 84, 65, 78, 84, 32, 39, 32, 91, 39, 93]⟩ : ByteArray), .string (⟨#[124]⟩ : ByteArray)] rfl (by (try simp only [List.map_toArray, List.map_cons, List.map_nil]); first | done | rfl | (simp only [List.length_drop, List.length_take]; rfl)) ?_; (with_reducible refine (strings_Split.calls (⟨#[68, 85, 80, 32, 68, 82, 79, 80, 32, 83, 87, 65, 80, 32, 79, 86, 69, 82, 32, 82, 79, 84, 32, 78, 73, 80, 32, 84, 85, 67, 75, 32, 63, 68, 85, 80, 32, 50, 68, 85, 80, 32, 50, 68, 82, 79, 80, 32, 68, 69, 80, 84, 72, 32, 62, 82, 32, 82, 62, 32, 82, 64, 32, 43, 32, 45, 32, 42, 32, 47, 32, 77, 79, 68, 32, 65, 78, 68, 32, 79, 82, 32, 88, 79, 82, 32, 76, 83, 72, 73, 70, 84, 32, 82, 83, 72, 73, 70, 84, 32, 78, 69, 71, 65, 84, 69, 32, 65, 66, 83, 32, 73, 78, 86, 69, 82, 84, 32, 49, 43, 32, 49, 45, 32, 77, 73, 78, 32, 77, 65, 88, 32, 61, 32, 60, 62, 32, 60, 32, 62, 32, 85, 60, 32, 48, 61, 32, 48, 60, 32, 64, 32, 33, 32, 43, 33, 32, 72, 69, 82, 69, 32, 65, 76, 76, 79, 84, 32, 44, 32, 69, 77, 73, 84, 32, 46, 32, 67, 82, 32, 83, 80, 65, 67, 69, 32, 68, 69, 67, 73, 77, 65, 76, 32, 72, 69, 88, 32, 73, 32, 85, 78, 76, 79, 79, 80, 124, 69, 88, 73, 84, 32, 69, 88, 69, 67, 85, 84, 69, 32, 67, 65, 84, 67, 72, 32, 84, 72, 82, 79, 87, 124, 40, 76, 73, 84, 41, 32, 40, 66, 82, 65, 78, 67, 72, 41, 32, 40, 48, 66, 82, 65, 78, 67, 72, 41, 32, 40, 68, 79, 41, 32, 40, 76, 79, 79, 80, 41, 32, 40, 43, 76, 79, 79, 80, 41, 124, 72, 82, 69, 65, 68, 32, 72, 87, 82, 73, 84, 69, 32, 72, 65, 83, 75, 32, 72, 84, 73, 77, 69, 124, 58, 32, 59, 32, 73, 70, 32, 69, 76, 83, 69, 32, 84, 72, 69, 78, 32, 66, 69, 71, 73, 78, 32, 85, 78, 84, 73, 76, 32, 87, 72, 73, 76, 69, 32, 82, 69, 80, 69, 65, 84, 32, 68, 79, 32, 76, 79, 79, 80, 32, 43, 76, 79, 79, 80, 32, 82, 69, 67, 85, 82, 83, 69, 32, 86, 65, 82, 73, 65, 66, 76, 69, 32, 67, 79, 78, 83, 84, 65, 78, 84, 32, 39, 32, 91, 39, 93]⟩ : ByteArray) (⟨#[124]⟩ : ByteArray) t149 _ A1.out).mono ?_); rintro e w4 ⟨v150, rfl, ho0, hb⟩; refine ⟨_, rfl, ?_⟩; replace HO148 := Aside0.mk (Kd.R_below (by (with_reducible repeat (first | apply Kd.R_alloc | apply Kd.R_drewN | apply Kd.R_drew)); exact HO148.out) hb); have HO151 := Aside0.mk (Kd.R_lower ho0 (below_size (by repeat (first | (with_reducible first | exact HB.out | apply below_alloc | apply pw_below_drewN | apply below_drew1) | exact HB.out)))); replace HB := Aside0.mk (below_step (by repeat (first | (with_reducible first | exact HB.out | apply below_alloc | apply pw_below_drewN | apply below_drew1) | exact HB.out)) hb); (try clear hb); (try clear hb2); (try clear hk); (try clear hi); (try clear ho0); obtain ⟨Ao5, co5, eo5⟩ := Kd.R_slice HO151.out; subst eo5))
  go_loopg [1, 9] k (fun kq v1 v9 w' => ∃ (x1_1 : List (S39)) (x9_1 : Int), v9 = .int .i64 x9_1 ∧ Aside0 (impl_KernelWords.l0 kq x1_1 t149 (t149.length : Int) x9_1 = some r) ∧ Aside0 (kq ≤ k) ∧ Aside0 (Kd.R k39 39 w' w.heap.size (fun _ => True) v1 x1_1) ∧ Aside0 (Kd.R Kd.string 9 w' w.heap.size (fun _ => True) (.slice Ao5 t149.length co5) t149) ∧ Aside0 (Below w.heap.size w w'))
  case atStart => exact ⟨(y146), (0), (by first | rfl | (simp; done) | (simp [*]; done)), H', ⟨Nat.le_refl _⟩, ⟨by (with_reducible repeat (first | apply Kd.R_alloc | apply Kd.R_drewN | apply Kd.R_drew)); exact HO148.out⟩, ⟨by (with_reducible repeat (first | apply Kd.R_alloc | apply Kd.R_drewN | apply Kd.R_drew)); exact HO151.out⟩, ⟨by repeat (first | (with_reducible first | exact HB.out | apply below_alloc | apply pw_below_drewN | apply below_drew1) | exact HB.out)⟩⟩
  case round =>
    clear H'
    try clear c1
    try clear p2
    try clear c4
    obtain ⟨x1_1, x9_1, rfl, HA, HK1, HO_1, HO_7, HB⟩ := hrel
    cases gk with
    | zero => exact absurd HA.out (by simp [impl_KernelWords.l0])
    | succ k1 =>
      have H := HA.out
      clear HA
      simp only [impl_KernelWords.l0] at H
      by_cases c6 : x9_1 < (t149.length : Int)
      · rw [if_pos c6] at H
        have c6b0 : decide (x9_1 < (t149.length : Int)) = true := decide_eq_true c6
        clear c6
        by_cases c7 : 0 ≤ x9_1
        · rw [if_pos c7] at H
          have c7b0 : decide (0 ≤ x9_1) = true := decide_eq_true c7
          clear c7
          by_cases c8 : x9_1 < (t149.length : Int)
          · rw [if_pos c8] at H
            have c8b0 : decide (x9_1 < (t149.length : Int)) = true := decide_eq_true c8
            clear c8
            replace H := Option.bind_eq_some_iff.mp H
            obtain ⟨t153, A90, H⟩ := H
            replace H : (impl_KernelWords.l1 k1 x1_1 x9_1 t149 (t149.length : Int) x9_1 t153 (t153.length : Int) 0) = some r := H
            have A9 := Aside0.mk A90
            clear A90
            have H' := Aside0.mk H
            clear H
            have p152 : 0 ≤ (x9_1 : Int) := of_decide_eq_true (by first | (with_reducible assumption) | assumption)
            have q152 : x9_1 < (t149.length : Int) := of_decide_eq_true (by first | (with_reducible assumption) | assumption)
            obtain ⟨ad152, e152, hx152_0⟩ := Kd.at_string (Kd.R_reads' HO_7.out).2.2 x9_1 p152 q152
            cases e152
            replace p152 := eq_true p152
            replace q152 := eq_true q152
            go_wp2_with (first | ((with_reducible refine gate_callee (f := 50) rfl ?_); refine goesL_ (some 15) rfl rfl Tryd.func50 (by kernel_rfl) rfl #[.string (rdOf ByteArray.empty t149 x9_1)] rfl (by (try simp only [List.map_toArray, List.map_cons, List.map_nil]); first | done | rfl | (simp only [List.length_drop, List.length_take]; rfl)) ?_; (with_reducible refine (strings_Fields.calls (rdOf ByteArray.empty t149 x9_1) t153 _ A9.out).mono ?_); rintro e w10 ⟨v154, rfl, ho0, hb⟩; refine ⟨_, rfl, ?_⟩; have n0_ := Aside0.mk (Kd.R_below (by (with_reducible repeat (first | apply Kd.R_alloc | apply Kd.R_drewN | apply Kd.R_drew)); exact HO_1.out) hb); have n1_ := Aside0.mk (Kd.R_elder' (by (with_reducible repeat (first | apply Kd.R_alloc | apply Kd.R_drewN | apply Kd.R_drew)); exact HO_7.out) (Kd.R_base ho0) hb); have n2_ := Aside0.mk (Kd.R_lower (Kd.R_new' ho0 (Kd.R_lt (by (with_reducible repeat (first | apply Kd.R_alloc | apply Kd.R_drewN | apply Kd.R_drew)); exact HO_7.out))) (below_size (by repeat (first | (with_reducible first | exact HB.out | apply below_alloc | apply pw_below_drewN | apply below_drew1) | exact HB.out)))); have n3_ := Aside0.mk (below_step (by repeat (first | (with_reducible first | exact HB.out | apply below_alloc | apply pw_below_drewN | apply below_drew1) | exact HB.out)) hb); clear HO_1; clear HO_7; clear HB; have HO_1 := n0_; have HO_7 := n1_; have HO155 := n2_; have HB := n3_; clear n0_ n1_ n2_ n3_; (try clear hb); (try clear hb2); (try clear hk); (try clear hi); (try clear ho0); obtain ⟨Ao11, co11, eo11⟩ := Kd.R_slice HO155.out; subst eo11))
            go_loopg [1, 17] k1 (fun kq v1 v17 w' => ∃ (x1_2 : List (S39)) (x17_2 : Int), v17 = .int .i64 x17_2 ∧ Aside0 (impl_KernelWords.l1 kq x1_2 x9_1 t149 (t149.length : Int) x9_1 t153 (t153.length : Int) x17_2 = some r) ∧ Aside0 (kq ≤ k1) ∧ Aside0 (Kd.R k39 39 w' w.heap.size (fun _ => True) v1 x1_2) ∧ Aside0 (Kd.R Kd.string 9 w' w.heap.size (fun k_ => some k_ ≠ ((.slice Ao11 t153.length co11) : Value).ownBlock) (.slice (some ad152) t149.length co5) t149) ∧ Aside0 (Kd.R Kd.string 9 w' w.heap.size (fun k_ => some k_ ≠ ((.slice (some ad152) t149.length co5) : Value).ownBlock) (.slice Ao11 t153.length co11) t153) ∧ Aside0 (Below w.heap.size w w'))
            case atStart => exact ⟨(x1_1), (0), (by first | rfl | (simp; done) | (simp [*]; done)), H', ⟨Nat.le_refl _⟩, ⟨by (with_reducible repeat (first | apply Kd.R_alloc | apply Kd.R_drewN | apply Kd.R_drew)); exact HO_1.out⟩, ⟨by (with_reducible repeat (first | apply Kd.R_alloc | apply Kd.R_drewN | apply Kd.R_drew)); exact Kd.R_mono HO_7.out (fun _ hk => hk.2)⟩, ⟨by (with_reducible repeat (first | apply Kd.R_alloc | apply Kd.R_drewN | apply Kd.R_drew)); exact Kd.R_mono HO155.out (fun _ hk => hk.2)⟩, ⟨by repeat (first | (with_reducible first | exact HB.out | apply below_alloc | apply pw_below_drewN | apply below_drew1) | exact HB.out)⟩⟩
            case round =>
              clear H'
              try clear c1
              try clear p1
              try clear q1
              try clear hx1
              try clear p2
              try clear c4
              try clear c5
              try clear c6
              try clear c6b0
              try clear c7
              try clear c7b0
              try clear c8
              try clear c8b0
              try clear hx152_0
              try clear p152
              try clear p2
              try clear q152
              obtain ⟨x1_2, x17_2, rfl, HA, HK2, HO_1, HO_7, HO_15, HB⟩ := hrel
              cases gk with
              | zero => exact absurd HA.out (by simp [impl_KernelWords.l1])
              | succ k2 =>
                have H := HA.out
                clear HA
                simp only [impl_KernelWords.l1] at H
                by_cases c12 : x17_2 < (t153.length : Int)
                · rw [if_pos c12] at H
                  have c12b0 : decide (x17_2 < (t153.length : Int)) = true := decide_eq_true c12
                  clear c12
                  by_cases c13 : 0 ≤ x17_2
                  · rw [if_pos c13] at H
                    have c13b0 : decide (0 ≤ x17_2) = true := decide_eq_true c13
                    clear c13
                    by_cases c14 : x17_2 < (t153.length : Int)
                    · rw [if_pos c14] at H
                      have c14b0 : decide (x17_2 < (t153.length : Int)) = true := decide_eq_true c14
                      clear c14
                      by_cases c15 : x1_2.length < 4398046511104
                      · rw [if_pos c15] at H
                        have LMc15 := Aside0.mk c15
                        clear c15
                        obtain ⟨y157, hy157⟩ : ∃ y_ : List (S39), y_ = (x1_2 ++ [(⟨rdOf ByteArray.empty t153 x17_2, wrap64 (x9_1 + 1), wrap64 (x17_2 + 1)⟩ : S39)]) := ⟨_, rfl⟩
                        replace H : (impl_KernelWords.l1 k2 y157 x9_1 t149 (t149.length : Int) x9_1 t153 (t153.length : Int) (wrap64 (x17_2 + 1))) = some r := by first | (rw [hy157]; with_reducible exact H) | (have H2_ := (Option.bind_some _ _).symm.trans H; rw [hy157]; with_reducible exact H2_) | (have H2_ := (Option.bind_some _ _).symm.trans H; with_reducible exact H2_) | with_reducible exact H | (rw [hy157]; exact H) | exact H
                        have Ny157 := Aside0.mk hy157
                        clear hy157
                        have H' := Aside0.mk H
                        clear H
                        have p156 : 0 ≤ (x17_2 : Int) := of_decide_eq_true (by first | (with_reducible assumption) | assumption)
                        have q156 : x17_2 < (t153.length : Int) := of_decide_eq_true (by first | (with_reducible assumption) | assumption)
                        obtain ⟨ad156, e156, hx156_0⟩ := Kd.at_string (Kd.R_reads' HO_15.out).2.2 x17_2 p156 q156
                        cases e156
                        replace p156 := eq_true p156
                        replace q156 := eq_true q156
                        go_wp2_with (first | ((with_reducible refine gate_builtin (b := .append) (xs := #[.tmp 22, .tmp 29]) rfl ?_); at_builtin; refine Kd.R_append k39 (w0 := w) w.heap.size rfl (.tmp 22) (.tmp 29) 22 39 (.agg #[(.string ⟨#[]⟩), (.int .i64 0), (.int .i64 0)]) 32 rfl Tryd.underlying22 info39 rfl (by decide) (by omega) u1 x1_2 (⟨rdOf ByteArray.empty t153 x17_2, wrap64 (x9_1 + 1), wrap64 (x17_2 + 1)⟩ : S39) [.string (rdOf ByteArray.empty t153 x17_2), .int .i64 (wrap64 (x9_1 + 1)), .int .i64 (wrap64 (x17_2 + 1))] (fun _ => True) (fun _ => False) rfl rfl ?aP (fun _ hk => hk.elim) ?aF ?aO ?aB ?aS ?aL ?_; (case aP => exact k39_mkM _ _ _ (⟨rdOf ByteArray.empty t153 x17_2, wrap64 (x9_1 + 1), wrap64 (x17_2 + 1)⟩ : S39)); (case aB => exact (by repeat (first | (with_reducible first | exact HB.out | apply below_alloc | apply pw_below_drewN | apply below_drew1) | exact HB.out))); (case aF => exact (fun _ _ => trivial)); (case aO => exact (by (with_reducible repeat (first | apply Kd.R_alloc | apply Kd.R_drewN | apply Kd.R_drew)); exact HO_1.out)); (case aS => exact (below_size (by repeat (first | (with_reducible first | exact HB.out | apply below_alloc | apply pw_below_drewN | apply below_drew1) | exact HB.out)))); (case aL => have := LMc15.out; omega); intro v158 w16 ho hb hg hat; rw [← Ny157.out] at ho; replace HO_7 := Aside0.mk (Kd.R_over' (by (with_reducible repeat (first | apply Kd.R_alloc | apply Kd.R_drewN | apply Kd.R_drew)); exact HO_7.out) (Kd.R_typed (by (with_reducible repeat (first | apply Kd.R_alloc | apply Kd.R_drewN | apply Kd.R_drew)); exact HO_1.out)) (by decide) hg); replace HO_15 := Aside0.mk (Kd.R_over' (by (with_reducible repeat (first | apply Kd.R_alloc | apply Kd.R_drewN | apply Kd.R_drew)); exact HO_15.out) (Kd.R_typed (by (with_reducible repeat (first | apply Kd.R_alloc | apply Kd.R_drewN | apply Kd.R_drew)); exact HO_1.out)) (by decide) hg); replace HB := Aside0.mk (hb); have HO159 := Aside0.mk (ho); clear HO_1; clear ho hb hg hat))
                        go_roundg k2
                        case measure => have := HK1.out; have := HK2.out; omega
                        case rel => exact ⟨(y157), (wrap64 (x17_2 + 1)), (by first | rfl | (simp; done) | (simp [*]; done)), H', ⟨by have := HK1.out; have := HK2.out; omega⟩, ⟨by (with_reducible repeat (first | apply Kd.R_alloc | apply Kd.R_drewN | apply Kd.R_drew)); exact HO159.out⟩, ⟨by (with_reducible repeat (first | apply Kd.R_alloc | apply Kd.R_drewN | apply Kd.R_drew)); exact HO_7.out⟩, ⟨by (with_reducible repeat (first | apply Kd.R_alloc | apply Kd.R_drewN | apply Kd.R_drew)); exact HO_15.out⟩, ⟨by repeat (first | (with_reducible first | exact HB.out | apply below_alloc | apply pw_below_drewN | apply below_drew1) | exact HB.out)⟩⟩
                      · rw [if_neg c15] at H
                        exact absurd H (by simp)
                    · rw [if_neg c14] at H
                      exact absurd H (by simp)
                  · rw [if_neg c13] at H
                    exact absurd H (by simp)
                · rw [if_neg c12] at H
                  have c12b0 : decide (x17_2 < (t153.length : Int)) = false := decide_eq_false c12
                  clear c12
                  have H' := Aside0.mk H
                  clear H
                  go_wp2
                  go_roundg k2
                  case measure => have := HK1.out; have := HK2.out; omega
                  case rel => exact ⟨(x1_2), (wrap64 (x9_1 + 1)), (by first | rfl | (simp; done) | (simp [*]; done)), H', ⟨by have := HK1.out; have := HK2.out; omega⟩, ⟨by (with_reducible repeat (first | apply Kd.R_alloc | apply Kd.R_drewN | apply Kd.R_drew)); exact HO_1.out⟩, ⟨by (with_reducible repeat (first | apply Kd.R_alloc | apply Kd.R_drewN | apply Kd.R_drew)); exact Kd.R_mono HO_7.out (fun _ hk => trivial)⟩, ⟨by repeat (first | (with_reducible first | exact HB.out | apply below_alloc | apply pw_below_drewN | apply below_drew1) | exact HB.out)⟩⟩
          · rw [if_neg c8] at H
            exact absurd H (by simp)
        · rw [if_neg c7] at H
          exact absurd H (by simp)
      · rw [if_neg c6] at H
        have c6b0 : decide (x9_1 < (t149.length : Int)) = false := decide_eq_false c6
        clear c6
        obtain rfl := Option.some.inj H
        go_wp2
        go_ret
        exact ⟨_, by first | rfl | (simp [errW_none, errW_some] <;> rfl) | (simp [*, errW_none, errW_some] <;> rfl), by (with_reducible repeat (first | apply Kd.R_alloc | apply Kd.R_drewN | apply Kd.R_drew)); exact HO_1.out, by repeat (first | (with_reducible first | exact HB.out | apply below_alloc | apply pw_below_drewN | apply below_drew1) | exact HB.out)⟩

-- NOT PRINTED: function 126 (slices_IndexFunc_Word_126)

-- NOT PRINTED: function 98 (slices_ContainsFunc_Word_98)

/-! ### impl_isLong_Word_1: function 99 -/
def impl_isLong_Word_1.f (l0 : List (S39)) : Option (Bool) := some (decide ((l0.length : Int) > 4096))
set_option maxHeartbeats 8000000 in
set_option maxRecDepth 100000 in
theorem impl_isLong_Word_1.calls (A0 : Option Addr) (c0 : Nat) (l0 : List (S39)) (r : Bool) (w : World) (hr0 : Kd.C k39 w A0 l0.length l0) (hc0 : l0.length ≤ c0) (h : impl_isLong_Word_1.f l0 = some r) :
    Calls Tryd.prog 99 #[.slice A0 l0.length c0] w fun e w' => e = .returned (.bool r) ∧ Drawn0 w w' := by
  have HR0 := Aside0.mk hr0
  have HC0 := Aside0.mk hc0
  clear hr0 hc0
  have H : (some (decide ((l0.length : Int) > 4096))) = some r := h
  clear h
  obtain rfl := Option.some.inj H
  go_enter Tryd.func99, Tryd.ntmps99
  go_wp2
  go_ret
  exact ⟨by first | rfl | (simp; done) | (simp [*]; done), by repeat (first | exact Drawn0.refl _ | apply Drawn0.step)⟩

end Go.Proofs.YtbbfahkmjfmmjaaDoor.PFnDict
