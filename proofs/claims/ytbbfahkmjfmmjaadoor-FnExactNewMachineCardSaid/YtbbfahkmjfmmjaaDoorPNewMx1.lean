-- laid by a program of this session out of the translation's own print: Lean checks it
import Derived.Test.YtbbfahkmjfmmjaaDoorPNewMx0
namespace Go.Proofs.YtbbfahkmjfmmjaaDoor.PNewM
open Go.RowKit Go.Proofs.YtbbfahkmjfmmjaaDoorW.PrintWords Go.Proofs.YtbbfahkmjfmmjaaDoorW.PrintLast Go.Proofs.YtbbfahkmjfmmjaaDoorW.PrintMore
attribute [local go_sem] max2_int min2_int max_two min_two max_three min_three max_four min_four   -- for this text's walks alone
set_option linter.unusedVariables false
set_option linter.unusedSimpArgs false

theorem bbu_ {w W : World} {g : Nat} {o : Obj} (h : Aside0 (w.heap[g]? = some o)) (u : w.heap[g]? = some o → W.heap[g]? = some o := by intro h; (with_reducible repeat (first | refine blk_drewN ?_ _ | refine blk_drew ?_ | refine blk_alloc ?_ _)); exact h) : W.heap[g]? = some o := u h.out
theorem bbb_ {w W W1 : World} {g : Nat} {o : Obj} (h : Aside0 (w.heap[g]? = some o)) (hb : Below W.heap.size W W1) (u : w.heap[g]? = some o → W.heap[g]? = some o := by intro h; (with_reducible repeat (first | refine blk_drewN ?_ _ | refine blk_drew ?_ | refine blk_alloc ?_ _)); exact h) : W1.heap[g]? = some o := blk_below (u h.out) hb
theorem brs6c_ {α : Type} {d : Kd α} {e base g t : Nat} {w : World} {ok : Nat → Prop} {v : Value} {xs : List α} {cs : Array Value} {a0 a1 a2 a3 a4 a5 : Value} (h : Aside0 (d.R e w base ok v xs)) (hb : Aside0 (w.heap[g]? = some (.cells cs t (0, 0)))) (ht : ∀ q, q ∈ e :: d.E → q ≠ t := by decide) : d.R e ((((((w.setCell ⟨g, 0, none⟩ a0).setCell ⟨g, 1, none⟩ a1).setCell ⟨g, 2, none⟩ a2).setCell ⟨g, 3, none⟩ a3).setCell ⟨g, 4, none⟩ a4).setCell ⟨g, 5, none⟩ a5) base (fun k => ok k ∧ k ≠ g) v xs :=
 (Kd.R_far (p := ⟨g, 5, none⟩) (Kd.R_far (p := ⟨g, 4, none⟩) (Kd.R_far (p := ⟨g, 3, none⟩) (Kd.R_far (p := ⟨g, 2, none⟩) (Kd.R_far (p := ⟨g, 1, none⟩) (Kd.R_far (p := ⟨g, 0, none⟩) (Kd.R_types h.out hb.out ht) (fun _ hk => hk.2) a0) (fun _ hk => hk.2) a1) (fun _ hk => hk.2) a2) (fun _ hk => hk.2) a3) (fun _ hk => hk.2) a4) (fun _ hk => hk.2) a5)
theorem bru_ {α : Type} {d : Kd α} {e base : Nat} {ok : Nat → Prop} {w W : World} {v : Value} {xs : List α} (h : Aside0 (d.R e w base ok v xs)) (u : d.R e w base ok v xs → d.R e W base ok v xs := by intro h; (with_reducible repeat (first | apply Kd.R_alloc | apply Kd.R_drewN | apply Kd.R_drew)); exact h) : d.R e W base ok v xs := u h.out
theorem be6_ {w : World} {g t : Nat} {a0 a1 a2 a3 a4 a5 : Value} (h : Aside0 (w.heap[g]? = some (.cells #[a0, a1, a2, a3, a4, a5] t (0, 0)))) : w.cell? ⟨g, 0, none⟩ = some a0 ∧ w.cell? ⟨g, 1, none⟩ = some a1 ∧ w.cell? ⟨g, 2, none⟩ = some a2 ∧ w.cell? ⟨g, 3, none⟩ = some a3 ∧ w.cell? ⟨g, 4, none⟩ = some a4 ∧ w.cell? ⟨g, 5, none⟩ = some a5 :=
 ⟨(blk_cell h.out 0).trans rfl, (blk_cell h.out 1).trans rfl, (blk_cell h.out 2).trans rfl, (blk_cell h.out 3).trans rfl, (blk_cell h.out 4).trans rfl, (blk_cell h.out 5).trans rfl⟩
theorem bf6_ {w : World} {g t : Nat} {cs : Array Value} (h : Aside0 (w.heap[g]? = some (.cells cs t (0, 0)))) : w.frozen? ⟨g, 0, none⟩ = false ∧ w.frozen? ⟨g, 1, none⟩ = false ∧ w.frozen? ⟨g, 2, none⟩ = false ∧ w.frozen? ⟨g, 3, none⟩ = false ∧ w.frozen? ⟨g, 4, none⟩ = false ∧ w.frozen? ⟨g, 5, none⟩ = false :=
 ⟨blk_frozen h.out 0, blk_frozen h.out 1, blk_frozen h.out 2, blk_frozen h.out 3, blk_frozen h.out 4, blk_frozen h.out 5⟩
theorem bq0_ {p : Prop} (h : p := by repeat (first | (with_reducible first | exact HB.out | apply below_alloc | apply pw_below_drewN | apply below_drew1 | refine below_set ?_ GE143.out) | exact HB.out)) : p := h
theorem bq1_ {p : Prop} (h : p := by repeat (first | (with_reducible first | exact HB.out | apply below_alloc | apply pw_below_drewN | apply below_drew1) | exact HB.out)) : p := h
theorem bq2_ {p : Prop} (h : p := by first | (with_reducible assumption) | assumption) : p := h
/-! ### spec_l04Prims: function 90 -/
def spec_l04Prims.f  : Option (List ByteArray) := some (([(⟨#[68, 85, 80]⟩ : ByteArray), (⟨#[68, 82, 79, 80]⟩ : ByteArray), (⟨#[83, 87, 65, 80]⟩ : ByteArray), (⟨#[79, 86, 69, 82]⟩ : ByteArray), (⟨#[82, 79, 84]⟩ : ByteArray), (⟨#[78, 73, 80]⟩ : ByteArray), (⟨#[84, 85, 67, 75]⟩ : ByteArray), (⟨#[63, 68, 85, 80]⟩ : ByteArray), (⟨#[50, 68, 85, 80]⟩ : ByteArray), (⟨#[50, 68, 82, 79, 80]⟩ : ByteArray), (⟨#[68, 69, 80, 84, 72]⟩ : ByteArray), (⟨#[62, 82]⟩ : ByteArray), (⟨#[82, 62]⟩ : ByteArray), (⟨#[82, 64]⟩ : ByteArray), (⟨#[43]⟩ : ByteArray), (⟨#[45]⟩ : ByteArray), (⟨#[42]⟩ : ByteArray), (⟨#[47]⟩ : ByteArray), (⟨#[77, 79, 68]⟩ : ByteArray), (⟨#[65, 78, 68]⟩ : ByteArray), (⟨#[79, 82]⟩ : ByteArray), (⟨#[88, 79, 82]⟩ : ByteArray), (⟨#[76, 83, 72, 73, 70, 84]⟩ : ByteArray), (⟨#[82, 83, 72, 73, 70, 84]⟩ : ByteArray), (⟨#[78, 69, 71, 65, 84, 69]⟩ : ByteArray), (⟨#[65, 66, 83]⟩ : ByteArray), (⟨#[73, 78, 86, 69, 82, 84]⟩ : ByteArray), (⟨#[49, 43]⟩ : ByteArray), (⟨#[49, 45]⟩ : ByteArray), (⟨#[77, 73, 78]⟩ : ByteArray), (⟨#[77, 65, 88]⟩ : ByteArray), (⟨#[61]⟩ : ByteArray), (⟨#[60, 62]⟩ : ByteArray), (⟨#[60]⟩ : ByteArray), (⟨#[62]⟩ : ByteArray), (⟨#[85, 60]⟩ : ByteArray), (⟨#[48, 61]⟩ : ByteArray), (⟨#[48, 60]⟩ : ByteArray), (⟨#[64]⟩ : ByteArray), (⟨#[33]⟩ : ByteArray), (⟨#[43, 33]⟩ : ByteArray), (⟨#[72, 69, 82, 69]⟩ : ByteArray), (⟨#[65, 76, 76, 79, 84]⟩ : ByteArray), (⟨#[44]⟩ : ByteArray), (⟨#[69, 77, 73, 84]⟩ : ByteArray), (⟨#[46]⟩ : ByteArray), (⟨#[67, 82]⟩ : ByteArray), (⟨#[83, 80, 65, 67, 69]⟩ : ByteArray), (⟨#[68, 69, 67, 73, 77, 65, 76]⟩ : ByteArray), (⟨#[72, 69, 88]⟩ : ByteArray), (⟨#[73]⟩ : ByteArray), (⟨#[85, 78, 76, 79, 79, 80]⟩ : ByteArray)] : List ByteArray))
set_option maxHeartbeats 8000000 in
set_option maxRecDepth 100000 in
theorem spec_l04Prims.calls  (r : List ByteArray) (w : World) (h : spec_l04Prims.f  = some r) :
  Calls Tryd.prog 90 #[] w fun e w' => ∃ v0_ : Value, e = .returned (v0_) ∧ Kd.R Kd.string 9 w' w.heap.size (fun _ => True) v0_ r ∧ Below w.heap.size w w' := by
 have HB := Aside0.mk (Below.refl w.heap.size w)
 have H : (some (([(⟨#[68, 85, 80]⟩ : ByteArray), (⟨#[68, 82, 79, 80]⟩ : ByteArray), (⟨#[83, 87, 65, 80]⟩ : ByteArray), (⟨#[79, 86, 69, 82]⟩ : ByteArray), (⟨#[82, 79, 84]⟩ : ByteArray), (⟨#[78, 73, 80]⟩ : ByteArray), (⟨#[84, 85, 67, 75]⟩ : ByteArray), (⟨#[63, 68, 85, 80]⟩ : ByteArray), (⟨#[50, 68, 85, 80]⟩ : ByteArray), (⟨#[50, 68, 82, 79, 80]⟩ : ByteArray), (⟨#[68, 69, 80, 84, 72]⟩ : ByteArray), (⟨#[62, 82]⟩ : ByteArray), (⟨#[82, 62]⟩ : ByteArray), (⟨#[82, 64]⟩ : ByteArray), (⟨#[43]⟩ : ByteArray), (⟨#[45]⟩ : ByteArray), (⟨#[42]⟩ : ByteArray), (⟨#[47]⟩ : ByteArray), (⟨#[77, 79, 68]⟩ : ByteArray), (⟨#[65, 78, 68]⟩ : ByteArray), (⟨#[79, 82]⟩ : ByteArray), (⟨#[88, 79, 82]⟩ : ByteArray), (⟨#[76, 83, 72, 73, 70, 84]⟩ : ByteArray), (⟨#[82, 83, 72, 73, 70, 84]⟩ : ByteArray), (⟨#[78, 69, 71, 65, 84, 69]⟩ : ByteArray), (⟨#[65, 66, 83]⟩ : ByteArray), (⟨#[73, 78, 86, 69, 82, 84]⟩ : ByteArray), (⟨#[49, 43]⟩ : ByteArray), (⟨#[49, 45]⟩ : ByteArray), (⟨#[77, 73, 78]⟩ : ByteArray), (⟨#[77, 65, 88]⟩ : ByteArray), (⟨#[61]⟩ : ByteArray), (⟨#[60, 62]⟩ : ByteArray), (⟨#[60]⟩ : ByteArray), (⟨#[62]⟩ : ByteArray), (⟨#[85, 60]⟩ : ByteArray), (⟨#[48, 61]⟩ : ByteArray), (⟨#[48, 60]⟩ : ByteArray), (⟨#[64]⟩ : ByteArray), (⟨#[33]⟩ : ByteArray), (⟨#[43, 33]⟩ : ByteArray), (⟨#[72, 69, 82, 69]⟩ : ByteArray), (⟨#[65, 76, 76, 79, 84]⟩ : ByteArray), (⟨#[44]⟩ : ByteArray), (⟨#[69, 77, 73, 84]⟩ : ByteArray), (⟨#[46]⟩ : ByteArray), (⟨#[67, 82]⟩ : ByteArray), (⟨#[83, 80, 65, 67, 69]⟩ : ByteArray), (⟨#[68, 69, 67, 73, 77, 65, 76]⟩ : ByteArray), (⟨#[72, 69, 88]⟩ : ByteArray), (⟨#[73]⟩ : ByteArray), (⟨#[85, 78, 76, 79, 79, 80]⟩ : ByteArray)] : List ByteArray))) = some r := h
 clear h
 obtain ⟨y101, hy101⟩ : ∃ y_ : List ByteArray, y_ = (([(⟨#[68, 85, 80]⟩ : ByteArray), (⟨#[68, 82, 79, 80]⟩ : ByteArray), (⟨#[83, 87, 65, 80]⟩ : ByteArray), (⟨#[79, 86, 69, 82]⟩ : ByteArray), (⟨#[82, 79, 84]⟩ : ByteArray), (⟨#[78, 73, 80]⟩ : ByteArray), (⟨#[84, 85, 67, 75]⟩ : ByteArray), (⟨#[63, 68, 85, 80]⟩ : ByteArray), (⟨#[50, 68, 85, 80]⟩ : ByteArray), (⟨#[50, 68, 82, 79, 80]⟩ : ByteArray), (⟨#[68, 69, 80, 84, 72]⟩ : ByteArray), (⟨#[62, 82]⟩ : ByteArray), (⟨#[82, 62]⟩ : ByteArray), (⟨#[82, 64]⟩ : ByteArray), (⟨#[43]⟩ : ByteArray), (⟨#[45]⟩ : ByteArray), (⟨#[42]⟩ : ByteArray), (⟨#[47]⟩ : ByteArray), (⟨#[77, 79, 68]⟩ : ByteArray), (⟨#[65, 78, 68]⟩ : ByteArray), (⟨#[79, 82]⟩ : ByteArray), (⟨#[88, 79, 82]⟩ : ByteArray), (⟨#[76, 83, 72, 73, 70, 84]⟩ : ByteArray), (⟨#[82, 83, 72, 73, 70, 84]⟩ : ByteArray), (⟨#[78, 69, 71, 65, 84, 69]⟩ : ByteArray), (⟨#[65, 66, 83]⟩ : ByteArray), (⟨#[73, 78, 86, 69, 82, 84]⟩ : ByteArray), (⟨#[49, 43]⟩ : ByteArray), (⟨#[49, 45]⟩ : ByteArray), (⟨#[77, 73, 78]⟩ : ByteArray), (⟨#[77, 65, 88]⟩ : ByteArray), (⟨#[61]⟩ : ByteArray), (⟨#[60, 62]⟩ : ByteArray), (⟨#[60]⟩ : ByteArray), (⟨#[62]⟩ : ByteArray), (⟨#[85, 60]⟩ : ByteArray), (⟨#[48, 61]⟩ : ByteArray), (⟨#[48, 60]⟩ : ByteArray), (⟨#[64]⟩ : ByteArray), (⟨#[33]⟩ : ByteArray), (⟨#[43, 33]⟩ : ByteArray), (⟨#[72, 69, 82, 69]⟩ : ByteArray), (⟨#[65, 76, 76, 79, 84]⟩ : ByteArray), (⟨#[44]⟩ : ByteArray), (⟨#[69, 77, 73, 84]⟩ : ByteArray), (⟨#[46]⟩ : ByteArray), (⟨#[67, 82]⟩ : ByteArray), (⟨#[83, 80, 65, 67, 69]⟩ : ByteArray), (⟨#[68, 69, 67, 73, 77, 65, 76]⟩ : ByteArray), (⟨#[72, 69, 88]⟩ : ByteArray), (⟨#[73]⟩ : ByteArray), (⟨#[85, 78, 76, 79, 79, 80]⟩ : ByteArray)] : List ByteArray)) := ⟨_, rfl⟩
 replace H : (some y101) = some r := by first | (rw [hy101]; with_reducible exact H) | (have H2_ := (Option.bind_some _ _).symm.trans H; rw [hy101]; with_reducible exact H2_) | (have H2_ := (Option.bind_some _ _).symm.trans H; with_reducible exact H2_) | with_reducible exact H | (rw [hy101]; exact H) | exact H
 have Ny101 := Aside0.mk hy101
 clear hy101
 obtain rfl := Option.some.inj H
 go_enter Tryd.func90, Tryd.ntmps90
 go_wp2_with (first | ((with_reducible refine gate_dst (N := 1) rfl ?_); refine Kd.R_lit Kd.string _ 9 ?hg (N := 1) ?hd (xs := ([(⟨#[68, 85, 80]⟩ : ByteArray), (⟨#[68, 82, 79, 80]⟩ : ByteArray), (⟨#[83, 87, 65, 80]⟩ : ByteArray), (⟨#[79, 86, 69, 82]⟩ : ByteArray), (⟨#[82, 79, 84]⟩ : ByteArray), (⟨#[78, 73, 80]⟩ : ByteArray), (⟨#[84, 85, 67, 75]⟩ : ByteArray), (⟨#[63, 68, 85, 80]⟩ : ByteArray), (⟨#[50, 68, 85, 80]⟩ : ByteArray), (⟨#[50, 68, 82, 79, 80]⟩ : ByteArray), (⟨#[68, 69, 80, 84, 72]⟩ : ByteArray), (⟨#[62, 82]⟩ : ByteArray), (⟨#[82, 62]⟩ : ByteArray), (⟨#[82, 64]⟩ : ByteArray), (⟨#[43]⟩ : ByteArray), (⟨#[45]⟩ : ByteArray), (⟨#[42]⟩ : ByteArray), (⟨#[47]⟩ : ByteArray), (⟨#[77, 79, 68]⟩ : ByteArray), (⟨#[65, 78, 68]⟩ : ByteArray), (⟨#[79, 82]⟩ : ByteArray), (⟨#[88, 79, 82]⟩ : ByteArray), (⟨#[76, 83, 72, 73, 70, 84]⟩ : ByteArray), (⟨#[82, 83, 72, 73, 70, 84]⟩ : ByteArray), (⟨#[78, 69, 71, 65, 84, 69]⟩ : ByteArray), (⟨#[65, 66, 83]⟩ : ByteArray), (⟨#[73, 78, 86, 69, 82, 84]⟩ : ByteArray), (⟨#[49, 43]⟩ : ByteArray), (⟨#[49, 45]⟩ : ByteArray), (⟨#[77, 73, 78]⟩ : ByteArray), (⟨#[77, 65, 88]⟩ : ByteArray), (⟨#[61]⟩ : ByteArray), (⟨#[60, 62]⟩ : ByteArray), (⟨#[60]⟩ : ByteArray), (⟨#[62]⟩ : ByteArray), (⟨#[85, 60]⟩ : ByteArray), (⟨#[48, 61]⟩ : ByteArray), (⟨#[48, 60]⟩ : ByteArray), (⟨#[64]⟩ : ByteArray), (⟨#[33]⟩ : ByteArray), (⟨#[43, 33]⟩ : ByteArray), (⟨#[72, 69, 82, 69]⟩ : ByteArray), (⟨#[65, 76, 76, 79, 84]⟩ : ByteArray), (⟨#[44]⟩ : ByteArray), (⟨#[69, 77, 73, 84]⟩ : ByteArray), (⟨#[46]⟩ : ByteArray), (⟨#[67, 82]⟩ : ByteArray), (⟨#[83, 80, 65, 67, 69]⟩ : ByteArray), (⟨#[68, 69, 67, 73, 77, 65, 76]⟩ : ByteArray), (⟨#[72, 69, 88]⟩ : ByteArray), (⟨#[73]⟩ : ByteArray), (⟨#[85, 78, 76, 79, 79, 80]⟩ : ByteArray)] : List ByteArray)) (inner := [.string (⟨#[68, 85, 80]⟩ : ByteArray), .string (⟨#[68, 82, 79, 80]⟩ : ByteArray), .string (⟨#[83, 87, 65, 80]⟩ : ByteArray), .string (⟨#[79, 86, 69, 82]⟩ : ByteArray), .string (⟨#[82, 79, 84]⟩ : ByteArray), .string (⟨#[78, 73, 80]⟩ : ByteArray), .string (⟨#[84, 85, 67, 75]⟩ : ByteArray), .string (⟨#[63, 68, 85, 80]⟩ : ByteArray), .string (⟨#[50, 68, 85, 80]⟩ : ByteArray), .string (⟨#[50, 68, 82, 79, 80]⟩ : ByteArray), .string (⟨#[68, 69, 80, 84, 72]⟩ : ByteArray), .string (⟨#[62, 82]⟩ : ByteArray), .string (⟨#[82, 62]⟩ : ByteArray), .string (⟨#[82, 64]⟩ : ByteArray), .string (⟨#[43]⟩ : ByteArray), .string (⟨#[45]⟩ : ByteArray), .string (⟨#[42]⟩ : ByteArray), .string (⟨#[47]⟩ : ByteArray), .string (⟨#[77, 79, 68]⟩ : ByteArray), .string (⟨#[65, 78, 68]⟩ : ByteArray), .string (⟨#[79, 82]⟩ : ByteArray), .string (⟨#[88, 79, 82]⟩ : ByteArray), .string (⟨#[76, 83, 72, 73, 70, 84]⟩ : ByteArray), .string (⟨#[82, 83, 72, 73, 70, 84]⟩ : ByteArray), .string (⟨#[78, 69, 71, 65, 84, 69]⟩ : ByteArray), .string (⟨#[65, 66, 83]⟩ : ByteArray), .string (⟨#[73, 78, 86, 69, 82, 84]⟩ : ByteArray), .string (⟨#[49, 43]⟩ : ByteArray), .string (⟨#[49, 45]⟩ : ByteArray), .string (⟨#[77, 73, 78]⟩ : ByteArray), .string (⟨#[77, 65, 88]⟩ : ByteArray), .string (⟨#[61]⟩ : ByteArray), .string (⟨#[60, 62]⟩ : ByteArray), .string (⟨#[60]⟩ : ByteArray), .string (⟨#[62]⟩ : ByteArray), .string (⟨#[85, 60]⟩ : ByteArray), .string (⟨#[48, 61]⟩ : ByteArray), .string (⟨#[48, 60]⟩ : ByteArray), .string (⟨#[64]⟩ : ByteArray), .string (⟨#[33]⟩ : ByteArray), .string (⟨#[43, 33]⟩ : ByteArray), .string (⟨#[72, 69, 82, 69]⟩ : ByteArray), .string (⟨#[65, 76, 76, 79, 84]⟩ : ByteArray), .string (⟨#[44]⟩ : ByteArray), .string (⟨#[69, 77, 73, 84]⟩ : ByteArray), .string (⟨#[46]⟩ : ByteArray), .string (⟨#[67, 82]⟩ : ByteArray), .string (⟨#[83, 80, 65, 67, 69]⟩ : ByteArray), .string (⟨#[68, 69, 67, 73, 77, 65, 76]⟩ : ByteArray), .string (⟨#[72, 69, 88]⟩ : ByteArray), .string (⟨#[73]⟩ : ByteArray), .string (⟨#[85, 78, 76, 79, 79, 80]⟩ : ByteArray)]) (ok := fun _ => True) (okp := fun _ => True) ?hr ?hp (fun _ hk => hk) trivial (Below.refl _ _) (Nat.le_refl _) (by simp) ?_; (case hd => rfl); (case hg => rfl); (case hr => first | (go_simp; done) | (go_simp; rfl)); (case hp => exact (Reps.one (show Kd.M Kd.string _ _ _ (⟨#[68, 85, 80]⟩ : ByteArray) [.string (⟨#[68, 85, 80]⟩ : ByteArray)] from rfl) (Reps.one (show Kd.M Kd.string _ _ _ (⟨#[68, 82, 79, 80]⟩ : ByteArray) [.string (⟨#[68, 82, 79, 80]⟩ : ByteArray)] from rfl) (Reps.one (show Kd.M Kd.string _ _ _ (⟨#[83, 87, 65, 80]⟩ : ByteArray) [.string (⟨#[83, 87, 65, 80]⟩ : ByteArray)] from rfl) (Reps.one (show Kd.M Kd.string _ _ _ (⟨#[79, 86, 69, 82]⟩ : ByteArray) [.string (⟨#[79, 86, 69, 82]⟩ : ByteArray)] from rfl) (Reps.one (show Kd.M Kd.string _ _ _ (⟨#[82, 79, 84]⟩ : ByteArray) [.string (⟨#[82, 79, 84]⟩ : ByteArray)] from rfl) (Reps.one (show Kd.M Kd.string _ _ _ (⟨#[78, 73, 80]⟩ : ByteArray) [.string (⟨#[78, 73, 80]⟩ : ByteArray)] from rfl) (Reps.one (show Kd.M Kd.string _ _ _ (⟨#[84, 85, 67, 75]⟩ : ByteArray) [.string (⟨#[84, 85, 67, 75]⟩ : ByteArray)] from rfl) (Reps.one (show Kd.M Kd.string _ _ _ (⟨#[63, 68, 85, 80]⟩ : ByteArray) [.string (⟨#[63, 68, 85, 80]⟩ : ByteArray)] from rfl) (Reps.one (show Kd.M Kd.string _ _ _ (⟨#[50, 68, 85, 80]⟩ : ByteArray) [.string (⟨#[50, 68, 85, 80]⟩ : ByteArray)] from rfl) (Reps.one (show Kd.M Kd.string _ _ _ (⟨#[50, 68, 82, 79, 80]⟩ : ByteArray) [.string (⟨#[50, 68, 82, 79, 80]⟩ : ByteArray)] from rfl) (Reps.one (show Kd.M Kd.string _ _ _ (⟨#[68, 69, 80, 84, 72]⟩ : ByteArray) [.string (⟨#[68, 69, 80, 84, 72]⟩ : ByteArray)] from rfl) (Reps.one (show Kd.M Kd.string _ _ _ (⟨#[62, 82]⟩ : ByteArray) [.string (⟨#[62, 82]⟩ : ByteArray)] from rfl) (Reps.one (show Kd.M Kd.string _ _ _ (⟨#[82, 62]⟩ : ByteArray) [.string (⟨#[82, 62]⟩ : ByteArray)] from rfl) (Reps.one (show Kd.M Kd.string _ _ _ (⟨#[82, 64]⟩ : ByteArray) [.string (⟨#[82, 64]⟩ : ByteArray)] from rfl) (Reps.one (show Kd.M Kd.string _ _ _ (⟨#[43]⟩ : ByteArray) [.string (⟨#[43]⟩ : ByteArray)] from rfl) (Reps.one (show Kd.M Kd.string _ _ _ (⟨#[45]⟩ : ByteArray) [.string (⟨#[45]⟩ : ByteArray)] from rfl) (Reps.one (show Kd.M Kd.string _ _ _ (⟨#[42]⟩ : ByteArray) [.string (⟨#[42]⟩ : ByteArray)] from rfl) (Reps.one (show Kd.M Kd.string _ _ _ (⟨#[47]⟩ : ByteArray) [.string (⟨#[47]⟩ : ByteArray)] from rfl) (Reps.one (show Kd.M Kd.string _ _ _ (⟨#[77, 79, 68]⟩ : ByteArray) [.string (⟨#[77, 79, 68]⟩ : ByteArray)] from rfl) (Reps.one (show Kd.M Kd.string _ _ _ (⟨#[65, 78, 68]⟩ : ByteArray) [.string (⟨#[65, 78, 68]⟩ : ByteArray)] from rfl) (Reps.one (show Kd.M Kd.string _ _ _ (⟨#[79, 82]⟩ : ByteArray) [.string (⟨#[79, 82]⟩ : ByteArray)] from rfl) (Reps.one (show Kd.M Kd.string _ _ _ (⟨#[88, 79, 82]⟩ : ByteArray) [.string (⟨#[88, 79, 82]⟩ : ByteArray)] from rfl) (Reps.one (show Kd.M Kd.string _ _ _ (⟨#[76, 83, 72, 73, 70, 84]⟩ : ByteArray) [.string (⟨#[76, 83, 72, 73, 70, 84]⟩ : ByteArray)] from rfl) (Reps.one (show Kd.M Kd.string _ _ _ (⟨#[82, 83, 72, 73, 70, 84]⟩ : ByteArray) [.string (⟨#[82, 83, 72, 73, 70, 84]⟩ : ByteArray)] from rfl) (Reps.one (show Kd.M Kd.string _ _ _ (⟨#[78, 69, 71, 65, 84, 69]⟩ : ByteArray) [.string (⟨#[78, 69, 71, 65, 84, 69]⟩ : ByteArray)] from rfl) (Reps.one (show Kd.M Kd.string _ _ _ (⟨#[65, 66, 83]⟩ : ByteArray) [.string (⟨#[65, 66, 83]⟩ : ByteArray)] from rfl) (Reps.one (show Kd.M Kd.string _ _ _ (⟨#[73, 78, 86, 69, 82, 84]⟩ : ByteArray) [.string (⟨#[73, 78, 86, 69, 82, 84]⟩ : ByteArray)] from rfl) (Reps.one (show Kd.M Kd.string _ _ _ (⟨#[49, 43]⟩ : ByteArray) [.string (⟨#[49, 43]⟩ : ByteArray)] from rfl) (Reps.one (show Kd.M Kd.string _ _ _ (⟨#[49, 45]⟩ : ByteArray) [.string (⟨#[49, 45]⟩ : ByteArray)] from rfl) (Reps.one (show Kd.M Kd.string _ _ _ (⟨#[77, 73, 78]⟩ : ByteArray) [.string (⟨#[77, 73, 78]⟩ : ByteArray)] from rfl) (Reps.one (show Kd.M Kd.string _ _ _ (⟨#[77, 65, 88]⟩ : ByteArray) [.string (⟨#[77, 65, 88]⟩ : ByteArray)] from rfl) (Reps.one (show Kd.M Kd.string _ _ _ (⟨#[61]⟩ : ByteArray) [.string (⟨#[61]⟩ : ByteArray)] from rfl) (Reps.one (show Kd.M Kd.string _ _ _ (⟨#[60, 62]⟩ : ByteArray) [.string (⟨#[60, 62]⟩ : ByteArray)] from rfl) (Reps.one (show Kd.M Kd.string _ _ _ (⟨#[60]⟩ : ByteArray) [.string (⟨#[60]⟩ : ByteArray)] from rfl) (Reps.one (show Kd.M Kd.string _ _ _ (⟨#[62]⟩ : ByteArray) [.string (⟨#[62]⟩ : ByteArray)] from rfl) (Reps.one (show Kd.M Kd.string _ _ _ (⟨#[85, 60]⟩ : ByteArray) [.string (⟨#[85, 60]⟩ : ByteArray)] from rfl) (Reps.one (show Kd.M Kd.string _ _ _ (⟨#[48, 61]⟩ : ByteArray) [.string (⟨#[48, 61]⟩ : ByteArray)] from rfl) (Reps.one (show Kd.M Kd.string _ _ _ (⟨#[48, 60]⟩ : ByteArray) [.string (⟨#[48, 60]⟩ : ByteArray)] from rfl) (Reps.one (show Kd.M Kd.string _ _ _ (⟨#[64]⟩ : ByteArray) [.string (⟨#[64]⟩ : ByteArray)] from rfl) (Reps.one (show Kd.M Kd.string _ _ _ (⟨#[33]⟩ : ByteArray) [.string (⟨#[33]⟩ : ByteArray)] from rfl) (Reps.one (show Kd.M Kd.string _ _ _ (⟨#[43, 33]⟩ : ByteArray) [.string (⟨#[43, 33]⟩ : ByteArray)] from rfl) (Reps.one (show Kd.M Kd.string _ _ _ (⟨#[72, 69, 82, 69]⟩ : ByteArray) [.string (⟨#[72, 69, 82, 69]⟩ : ByteArray)] from rfl) (Reps.one (show Kd.M Kd.string _ _ _ (⟨#[65, 76, 76, 79, 84]⟩ : ByteArray) [.string (⟨#[65, 76, 76, 79, 84]⟩ : ByteArray)] from rfl) (Reps.one (show Kd.M Kd.string _ _ _ (⟨#[44]⟩ : ByteArray) [.string (⟨#[44]⟩ : ByteArray)] from rfl) (Reps.one (show Kd.M Kd.string _ _ _ (⟨#[69, 77, 73, 84]⟩ : ByteArray) [.string (⟨#[69, 77, 73, 84]⟩ : ByteArray)] from rfl) (Reps.one (show Kd.M Kd.string _ _ _ (⟨#[46]⟩ : ByteArray) [.string (⟨#[46]⟩ : ByteArray)] from rfl) (Reps.one (show Kd.M Kd.string _ _ _ (⟨#[67, 82]⟩ : ByteArray) [.string (⟨#[67, 82]⟩ : ByteArray)] from rfl) (Reps.one (show Kd.M Kd.string _ _ _ (⟨#[83, 80, 65, 67, 69]⟩ : ByteArray) [.string (⟨#[83, 80, 65, 67, 69]⟩ : ByteArray)] from rfl) (Reps.one (show Kd.M Kd.string _ _ _ (⟨#[68, 69, 67, 73, 77, 65, 76]⟩ : ByteArray) [.string (⟨#[68, 69, 67, 73, 77, 65, 76]⟩ : ByteArray)] from rfl) (Reps.one (show Kd.M Kd.string _ _ _ (⟨#[72, 69, 88]⟩ : ByteArray) [.string (⟨#[72, 69, 88]⟩ : ByteArray)] from rfl) (Reps.one (show Kd.M Kd.string _ _ _ (⟨#[73]⟩ : ByteArray) [.string (⟨#[73]⟩ : ByteArray)] from rfl) (Reps.one (show Kd.M Kd.string _ _ _ (⟨#[85, 78, 76, 79, 79, 80]⟩ : ByteArray) [.string (⟨#[85, 78, 76, 79, 79, 80]⟩ : ByteArray)] from rfl) (Reps.none _ _)))))))))))))))))))))))))))))))))))))))))))))))))))))); intro v102 w1 ho2 hb hg_ hnew_; clear hg_ hnew_; (first | rw [← Ny101.out] at ho2 | (simp only [Int.reduceToNat] at ho2; rw [← Ny101.out] at ho2)); have HO103 := Aside0.mk (Kd.R_lower ho2 (below_size bq1_)); replace HB := Aside0.mk (below_step bq1_ hb); clear hb ho2))
 go_ret
 exact ⟨_, by first | rfl | (simp [errW_none, errW_some] <;> rfl) | (simp [*, errW_none, errW_some] <;> rfl), by (with_reducible repeat (first | apply Kd.R_alloc | apply Kd.R_drewN | apply Kd.R_drew)); exact HO103.out, by repeat (first | (with_reducible first | exact HB.out | apply below_alloc | apply pw_below_drewN | apply below_drew1) | exact HB.out)⟩

/-! ### spec_l04Flows: function 91 -/
def spec_l04Flows.f  : Option (List ByteArray) := some (([(⟨#[69, 88, 73, 84]⟩ : ByteArray), (⟨#[69, 88, 69, 67, 85, 84, 69]⟩ : ByteArray), (⟨#[67, 65, 84, 67, 72]⟩ : ByteArray), (⟨#[84, 72, 82, 79, 87]⟩ : ByteArray)] : List ByteArray))
set_option maxHeartbeats 8000000 in
set_option maxRecDepth 100000 in
theorem spec_l04Flows.calls  (r : List ByteArray) (w : World) (h : spec_l04Flows.f  = some r) :
  Calls Tryd.prog 91 #[] w fun e w' => ∃ v0_ : Value, e = .returned (v0_) ∧ Kd.R Kd.string 9 w' w.heap.size (fun _ => True) v0_ r ∧ Below w.heap.size w w' := by
 have HB := Aside0.mk (Below.refl w.heap.size w)
 have H : (some (([(⟨#[69, 88, 73, 84]⟩ : ByteArray), (⟨#[69, 88, 69, 67, 85, 84, 69]⟩ : ByteArray), (⟨#[67, 65, 84, 67, 72]⟩ : ByteArray), (⟨#[84, 72, 82, 79, 87]⟩ : ByteArray)] : List ByteArray))) = some r := h
 clear h
 obtain ⟨y104, hy104⟩ : ∃ y_ : List ByteArray, y_ = (([(⟨#[69, 88, 73, 84]⟩ : ByteArray), (⟨#[69, 88, 69, 67, 85, 84, 69]⟩ : ByteArray), (⟨#[67, 65, 84, 67, 72]⟩ : ByteArray), (⟨#[84, 72, 82, 79, 87]⟩ : ByteArray)] : List ByteArray)) := ⟨_, rfl⟩
 replace H : (some y104) = some r := by first | (rw [hy104]; with_reducible exact H) | (have H2_ := (Option.bind_some _ _).symm.trans H; rw [hy104]; with_reducible exact H2_) | (have H2_ := (Option.bind_some _ _).symm.trans H; with_reducible exact H2_) | with_reducible exact H | (rw [hy104]; exact H) | exact H
 have Ny104 := Aside0.mk hy104
 clear hy104
 obtain rfl := Option.some.inj H
 go_enter Tryd.func91, Tryd.ntmps91
 go_wp2_with (first | ((with_reducible refine gate_dst (N := 1) rfl ?_); refine Kd.R_lit Kd.string _ 9 ?hg (N := 1) ?hd (xs := ([(⟨#[69, 88, 73, 84]⟩ : ByteArray), (⟨#[69, 88, 69, 67, 85, 84, 69]⟩ : ByteArray), (⟨#[67, 65, 84, 67, 72]⟩ : ByteArray), (⟨#[84, 72, 82, 79, 87]⟩ : ByteArray)] : List ByteArray)) (inner := [.string (⟨#[69, 88, 73, 84]⟩ : ByteArray), .string (⟨#[69, 88, 69, 67, 85, 84, 69]⟩ : ByteArray), .string (⟨#[67, 65, 84, 67, 72]⟩ : ByteArray), .string (⟨#[84, 72, 82, 79, 87]⟩ : ByteArray)]) (ok := fun _ => True) (okp := fun _ => True) ?hr ?hp (fun _ hk => hk) trivial (Below.refl _ _) (Nat.le_refl _) (by simp) ?_; (case hd => rfl); (case hg => rfl); (case hr => first | (go_simp; done) | (go_simp; rfl)); (case hp => exact (Reps.one (show Kd.M Kd.string _ _ _ (⟨#[69, 88, 73, 84]⟩ : ByteArray) [.string (⟨#[69, 88, 73, 84]⟩ : ByteArray)] from rfl) (Reps.one (show Kd.M Kd.string _ _ _ (⟨#[69, 88, 69, 67, 85, 84, 69]⟩ : ByteArray) [.string (⟨#[69, 88, 69, 67, 85, 84, 69]⟩ : ByteArray)] from rfl) (Reps.one (show Kd.M Kd.string _ _ _ (⟨#[67, 65, 84, 67, 72]⟩ : ByteArray) [.string (⟨#[67, 65, 84, 67, 72]⟩ : ByteArray)] from rfl) (Reps.one (show Kd.M Kd.string _ _ _ (⟨#[84, 72, 82, 79, 87]⟩ : ByteArray) [.string (⟨#[84, 72, 82, 79, 87]⟩ : ByteArray)] from rfl) (Reps.none _ _)))))); intro v105 w1 ho2 hb hg_ hnew_; clear hg_ hnew_; (first | rw [← Ny104.out] at ho2 | (simp only [Int.reduceToNat] at ho2; rw [← Ny104.out] at ho2)); have HO106 := Aside0.mk (Kd.R_lower ho2 (below_size bq1_)); replace HB := Aside0.mk (below_step bq1_ hb); clear hb ho2))
 go_ret
 exact ⟨_, by first | rfl | (simp [errW_none, errW_some] <;> rfl) | (simp [*, errW_none, errW_some] <;> rfl), by (with_reducible repeat (first | apply Kd.R_alloc | apply Kd.R_drewN | apply Kd.R_drew)); exact HO106.out, by repeat (first | (with_reducible first | exact HB.out | apply below_alloc | apply pw_below_drewN | apply below_drew1) | exact HB.out)⟩

/-! ### spec_l04Inners: function 92 -/
def spec_l04Inners.f  : Option (List ByteArray) := some (([(⟨#[40, 76, 73, 84, 41]⟩ : ByteArray), (⟨#[40, 66, 82, 65, 78, 67, 72, 41]⟩ : ByteArray), (⟨#[40, 48, 66, 82, 65, 78, 67, 72, 41]⟩ : ByteArray), (⟨#[40, 68, 79, 41]⟩ : ByteArray), (⟨#[40, 76, 79, 79, 80, 41]⟩ : ByteArray), (⟨#[40, 43, 76, 79, 79, 80, 41]⟩ : ByteArray)] : List ByteArray))
set_option maxHeartbeats 8000000 in
set_option maxRecDepth 100000 in
theorem spec_l04Inners.calls  (r : List ByteArray) (w : World) (h : spec_l04Inners.f  = some r) :
  Calls Tryd.prog 92 #[] w fun e w' => ∃ v0_ : Value, e = .returned (v0_) ∧ Kd.R Kd.string 9 w' w.heap.size (fun _ => True) v0_ r ∧ Below w.heap.size w w' := by
 have HB := Aside0.mk (Below.refl w.heap.size w)
 have H : (some (([(⟨#[40, 76, 73, 84, 41]⟩ : ByteArray), (⟨#[40, 66, 82, 65, 78, 67, 72, 41]⟩ : ByteArray), (⟨#[40, 48, 66, 82, 65, 78, 67, 72, 41]⟩ : ByteArray), (⟨#[40, 68, 79, 41]⟩ : ByteArray), (⟨#[40, 76, 79, 79, 80, 41]⟩ : ByteArray), (⟨#[40, 43, 76, 79, 79, 80, 41]⟩ : ByteArray)] : List ByteArray))) = some r := h
 clear h
 obtain ⟨y107, hy107⟩ : ∃ y_ : List ByteArray, y_ = (([(⟨#[40, 76, 73, 84, 41]⟩ : ByteArray), (⟨#[40, 66, 82, 65, 78, 67, 72, 41]⟩ : ByteArray), (⟨#[40, 48, 66, 82, 65, 78, 67, 72, 41]⟩ : ByteArray), (⟨#[40, 68, 79, 41]⟩ : ByteArray), (⟨#[40, 76, 79, 79, 80, 41]⟩ : ByteArray), (⟨#[40, 43, 76, 79, 79, 80, 41]⟩ : ByteArray)] : List ByteArray)) := ⟨_, rfl⟩
 replace H : (some y107) = some r := by first | (rw [hy107]; with_reducible exact H) | (have H2_ := (Option.bind_some _ _).symm.trans H; rw [hy107]; with_reducible exact H2_) | (have H2_ := (Option.bind_some _ _).symm.trans H; with_reducible exact H2_) | with_reducible exact H | (rw [hy107]; exact H) | exact H
 have Ny107 := Aside0.mk hy107
 clear hy107
 obtain rfl := Option.some.inj H
 go_enter Tryd.func92, Tryd.ntmps92
 go_wp2_with (first | ((with_reducible refine gate_dst (N := 1) rfl ?_); refine Kd.R_lit Kd.string _ 9 ?hg (N := 1) ?hd (xs := ([(⟨#[40, 76, 73, 84, 41]⟩ : ByteArray), (⟨#[40, 66, 82, 65, 78, 67, 72, 41]⟩ : ByteArray), (⟨#[40, 48, 66, 82, 65, 78, 67, 72, 41]⟩ : ByteArray), (⟨#[40, 68, 79, 41]⟩ : ByteArray), (⟨#[40, 76, 79, 79, 80, 41]⟩ : ByteArray), (⟨#[40, 43, 76, 79, 79, 80, 41]⟩ : ByteArray)] : List ByteArray)) (inner := [.string (⟨#[40, 76, 73, 84, 41]⟩ : ByteArray), .string (⟨#[40, 66, 82, 65, 78, 67, 72, 41]⟩ : ByteArray), .string (⟨#[40, 48, 66, 82, 65, 78, 67, 72, 41]⟩ : ByteArray), .string (⟨#[40, 68, 79, 41]⟩ : ByteArray), .string (⟨#[40, 76, 79, 79, 80, 41]⟩ : ByteArray), .string (⟨#[40, 43, 76, 79, 79, 80, 41]⟩ : ByteArray)]) (ok := fun _ => True) (okp := fun _ => True) ?hr ?hp (fun _ hk => hk) trivial (Below.refl _ _) (Nat.le_refl _) (by simp) ?_; (case hd => rfl); (case hg => rfl); (case hr => first | (go_simp; done) | (go_simp; rfl)); (case hp => exact (Reps.one (show Kd.M Kd.string _ _ _ (⟨#[40, 76, 73, 84, 41]⟩ : ByteArray) [.string (⟨#[40, 76, 73, 84, 41]⟩ : ByteArray)] from rfl) (Reps.one (show Kd.M Kd.string _ _ _ (⟨#[40, 66, 82, 65, 78, 67, 72, 41]⟩ : ByteArray) [.string (⟨#[40, 66, 82, 65, 78, 67, 72, 41]⟩ : ByteArray)] from rfl) (Reps.one (show Kd.M Kd.string _ _ _ (⟨#[40, 48, 66, 82, 65, 78, 67, 72, 41]⟩ : ByteArray) [.string (⟨#[40, 48, 66, 82, 65, 78, 67, 72, 41]⟩ : ByteArray)] from rfl) (Reps.one (show Kd.M Kd.string _ _ _ (⟨#[40, 68, 79, 41]⟩ : ByteArray) [.string (⟨#[40, 68, 79, 41]⟩ : ByteArray)] from rfl) (Reps.one (show Kd.M Kd.string _ _ _ (⟨#[40, 76, 79, 79, 80, 41]⟩ : ByteArray) [.string (⟨#[40, 76, 79, 79, 80, 41]⟩ : ByteArray)] from rfl) (Reps.one (show Kd.M Kd.string _ _ _ (⟨#[40, 43, 76, 79, 79, 80, 41]⟩ : ByteArray) [.string (⟨#[40, 43, 76, 79, 79, 80, 41]⟩ : ByteArray)] from rfl) (Reps.none _ _)))))))); intro v108 w1 ho2 hb hg_ hnew_; clear hg_ hnew_; (first | rw [← Ny107.out] at ho2 | (simp only [Int.reduceToNat] at ho2; rw [← Ny107.out] at ho2)); have HO109 := Aside0.mk (Kd.R_lower ho2 (below_size bq1_)); replace HB := Aside0.mk (below_step bq1_ hb); clear hb ho2))
 go_ret
 exact ⟨_, by first | rfl | (simp [errW_none, errW_some] <;> rfl) | (simp [*, errW_none, errW_some] <;> rfl), by (with_reducible repeat (first | apply Kd.R_alloc | apply Kd.R_drewN | apply Kd.R_drew)); exact HO109.out, by repeat (first | (with_reducible first | exact HB.out | apply below_alloc | apply pw_below_drewN | apply below_drew1) | exact HB.out)⟩

/-! ### spec_l04Hosts: function 93 -/
def spec_l04Hosts.f  : Option (List ByteArray) := some (([(⟨#[72, 82, 69, 65, 68]⟩ : ByteArray), (⟨#[72, 87, 82, 73, 84, 69]⟩ : ByteArray), (⟨#[72, 65, 83, 75]⟩ : ByteArray), (⟨#[72, 84, 73, 77, 69]⟩ : ByteArray)] : List ByteArray))
set_option maxHeartbeats 8000000 in
set_option maxRecDepth 100000 in
theorem spec_l04Hosts.calls  (r : List ByteArray) (w : World) (h : spec_l04Hosts.f  = some r) :
  Calls Tryd.prog 93 #[] w fun e w' => ∃ v0_ : Value, e = .returned (v0_) ∧ Kd.R Kd.string 9 w' w.heap.size (fun _ => True) v0_ r ∧ Below w.heap.size w w' := by
 have HB := Aside0.mk (Below.refl w.heap.size w)
 have H : (some (([(⟨#[72, 82, 69, 65, 68]⟩ : ByteArray), (⟨#[72, 87, 82, 73, 84, 69]⟩ : ByteArray), (⟨#[72, 65, 83, 75]⟩ : ByteArray), (⟨#[72, 84, 73, 77, 69]⟩ : ByteArray)] : List ByteArray))) = some r := h
 clear h
 obtain ⟨y110, hy110⟩ : ∃ y_ : List ByteArray, y_ = (([(⟨#[72, 82, 69, 65, 68]⟩ : ByteArray), (⟨#[72, 87, 82, 73, 84, 69]⟩ : ByteArray), (⟨#[72, 65, 83, 75]⟩ : ByteArray), (⟨#[72, 84, 73, 77, 69]⟩ : ByteArray)] : List ByteArray)) := ⟨_, rfl⟩
 replace H : (some y110) = some r := by first | (rw [hy110]; with_reducible exact H) | (have H2_ := (Option.bind_some _ _).symm.trans H; rw [hy110]; with_reducible exact H2_) | (have H2_ := (Option.bind_some _ _).symm.trans H; with_reducible exact H2_) | with_reducible exact H | (rw [hy110]; exact H) | exact H
 have Ny110 := Aside0.mk hy110
 clear hy110
 obtain rfl := Option.some.inj H
 go_enter Tryd.func93, Tryd.ntmps93
 go_wp2_with (first | ((with_reducible refine gate_dst (N := 1) rfl ?_); refine Kd.R_lit Kd.string _ 9 ?hg (N := 1) ?hd (xs := ([(⟨#[72, 82, 69, 65, 68]⟩ : ByteArray), (⟨#[72, 87, 82, 73, 84, 69]⟩ : ByteArray), (⟨#[72, 65, 83, 75]⟩ : ByteArray), (⟨#[72, 84, 73, 77, 69]⟩ : ByteArray)] : List ByteArray)) (inner := [.string (⟨#[72, 82, 69, 65, 68]⟩ : ByteArray), .string (⟨#[72, 87, 82, 73, 84, 69]⟩ : ByteArray), .string (⟨#[72, 65, 83, 75]⟩ : ByteArray), .string (⟨#[72, 84, 73, 77, 69]⟩ : ByteArray)]) (ok := fun _ => True) (okp := fun _ => True) ?hr ?hp (fun _ hk => hk) trivial (Below.refl _ _) (Nat.le_refl _) (by simp) ?_; (case hd => rfl); (case hg => rfl); (case hr => first | (go_simp; done) | (go_simp; rfl)); (case hp => exact (Reps.one (show Kd.M Kd.string _ _ _ (⟨#[72, 82, 69, 65, 68]⟩ : ByteArray) [.string (⟨#[72, 82, 69, 65, 68]⟩ : ByteArray)] from rfl) (Reps.one (show Kd.M Kd.string _ _ _ (⟨#[72, 87, 82, 73, 84, 69]⟩ : ByteArray) [.string (⟨#[72, 87, 82, 73, 84, 69]⟩ : ByteArray)] from rfl) (Reps.one (show Kd.M Kd.string _ _ _ (⟨#[72, 65, 83, 75]⟩ : ByteArray) [.string (⟨#[72, 65, 83, 75]⟩ : ByteArray)] from rfl) (Reps.one (show Kd.M Kd.string _ _ _ (⟨#[72, 84, 73, 77, 69]⟩ : ByteArray) [.string (⟨#[72, 84, 73, 77, 69]⟩ : ByteArray)] from rfl) (Reps.none _ _)))))); intro v111 w1 ho2 hb hg_ hnew_; clear hg_ hnew_; (first | rw [← Ny110.out] at ho2 | (simp only [Int.reduceToNat] at ho2; rw [← Ny110.out] at ho2)); have HO112 := Aside0.mk (Kd.R_lower ho2 (below_size bq1_)); replace HB := Aside0.mk (below_step bq1_ hb); clear hb ho2))
 go_ret
 exact ⟨_, by first | rfl | (simp [errW_none, errW_some] <;> rfl) | (simp [*, errW_none, errW_some] <;> rfl), by (with_reducible repeat (first | apply Kd.R_alloc | apply Kd.R_drewN | apply Kd.R_drew)); exact HO112.out, by repeat (first | (with_reducible first | exact HB.out | apply below_alloc | apply pw_below_drewN | apply below_drew1) | exact HB.out)⟩

/-! ### spec_l04Syntax: function 94 -/
def spec_l04Syntax.f  : Option (List ByteArray) := some (([(⟨#[58]⟩ : ByteArray), (⟨#[59]⟩ : ByteArray), (⟨#[73, 70]⟩ : ByteArray), (⟨#[69, 76, 83, 69]⟩ : ByteArray), (⟨#[84, 72, 69, 78]⟩ : ByteArray), (⟨#[66, 69, 71, 73, 78]⟩ : ByteArray), (⟨#[85, 78, 84, 73, 76]⟩ : ByteArray), (⟨#[87, 72, 73, 76, 69]⟩ : ByteArray), (⟨#[82, 69, 80, 69, 65, 84]⟩ : ByteArray), (⟨#[68, 79]⟩ : ByteArray), (⟨#[76, 79, 79, 80]⟩ : ByteArray), (⟨#[43, 76, 79, 79, 80]⟩ : ByteArray), (⟨#[82, 69, 67, 85, 82, 83, 69]⟩ : ByteArray), (⟨#[86, 65, 82, 73, 65, 66, 76, 69]⟩ : ByteArray), (⟨#[67, 79, 78, 83, 84, 65, 78, 84]⟩ : ByteArray), (⟨#[39]⟩ : ByteArray), (⟨#[91, 39, 93]⟩ : ByteArray)] : List ByteArray))
set_option maxHeartbeats 8000000 in
set_option maxRecDepth 100000 in
theorem spec_l04Syntax.calls  (r : List ByteArray) (w : World) (h : spec_l04Syntax.f  = some r) :
  Calls Tryd.prog 94 #[] w fun e w' => ∃ v0_ : Value, e = .returned (v0_) ∧ Kd.R Kd.string 9 w' w.heap.size (fun _ => True) v0_ r ∧ Below w.heap.size w w' := by
 have HB := Aside0.mk (Below.refl w.heap.size w)
 have H : (some (([(⟨#[58]⟩ : ByteArray), (⟨#[59]⟩ : ByteArray), (⟨#[73, 70]⟩ : ByteArray), (⟨#[69, 76, 83, 69]⟩ : ByteArray), (⟨#[84, 72, 69, 78]⟩ : ByteArray), (⟨#[66, 69, 71, 73, 78]⟩ : ByteArray), (⟨#[85, 78, 84, 73, 76]⟩ : ByteArray), (⟨#[87, 72, 73, 76, 69]⟩ : ByteArray), (⟨#[82, 69, 80, 69, 65, 84]⟩ : ByteArray), (⟨#[68, 79]⟩ : ByteArray), (⟨#[76, 79, 79, 80]⟩ : ByteArray), (⟨#[43, 76, 79, 79, 80]⟩ : ByteArray), (⟨#[82, 69, 67, 85, 82, 83, 69]⟩ : ByteArray), (⟨#[86, 65, 82, 73, 65, 66, 76, 69]⟩ : ByteArray), (⟨#[67, 79, 78, 83, 84, 65, 78, 84]⟩ : ByteArray), (⟨#[39]⟩ : ByteArray), (⟨#[91, 39, 93]⟩ : ByteArray)] : List ByteArray))) = some r := h
 clear h
 obtain ⟨y113, hy113⟩ : ∃ y_ : List ByteArray, y_ = (([(⟨#[58]⟩ : ByteArray), (⟨#[59]⟩ : ByteArray), (⟨#[73, 70]⟩ : ByteArray), (⟨#[69, 76, 83, 69]⟩ : ByteArray), (⟨#[84, 72, 69, 78]⟩ : ByteArray), (⟨#[66, 69, 71, 73, 78]⟩ : ByteArray), (⟨#[85, 78, 84, 73, 76]⟩ : ByteArray), (⟨#[87, 72, 73, 76, 69]⟩ : ByteArray), (⟨#[82, 69, 80, 69, 65, 84]⟩ : ByteArray), (⟨#[68, 79]⟩ : ByteArray), (⟨#[76, 79, 79, 80]⟩ : ByteArray), (⟨#[43, 76, 79, 79, 80]⟩ : ByteArray), (⟨#[82, 69, 67, 85, 82, 83, 69]⟩ : ByteArray), (⟨#[86, 65, 82, 73, 65, 66, 76, 69]⟩ : ByteArray), (⟨#[67, 79, 78, 83, 84, 65, 78, 84]⟩ : ByteArray), (⟨#[39]⟩ : ByteArray), (⟨#[91, 39, 93]⟩ : ByteArray)] : List ByteArray)) := ⟨_, rfl⟩
 replace H : (some y113) = some r := by first | (rw [hy113]; with_reducible exact H) | (have H2_ := (Option.bind_some _ _).symm.trans H; rw [hy113]; with_reducible exact H2_) | (have H2_ := (Option.bind_some _ _).symm.trans H; with_reducible exact H2_) | with_reducible exact H | (rw [hy113]; exact H) | exact H
 have Ny113 := Aside0.mk hy113
 clear hy113
 obtain rfl := Option.some.inj H
 go_enter Tryd.func94, Tryd.ntmps94
 go_wp2_with (first | ((with_reducible refine gate_dst (N := 1) rfl ?_); refine Kd.R_lit Kd.string _ 9 ?hg (N := 1) ?hd (xs := ([(⟨#[58]⟩ : ByteArray), (⟨#[59]⟩ : ByteArray), (⟨#[73, 70]⟩ : ByteArray), (⟨#[69, 76, 83, 69]⟩ : ByteArray), (⟨#[84, 72, 69, 78]⟩ : ByteArray), (⟨#[66, 69, 71, 73, 78]⟩ : ByteArray), (⟨#[85, 78, 84, 73, 76]⟩ : ByteArray), (⟨#[87, 72, 73, 76, 69]⟩ : ByteArray), (⟨#[82, 69, 80, 69, 65, 84]⟩ : ByteArray), (⟨#[68, 79]⟩ : ByteArray), (⟨#[76, 79, 79, 80]⟩ : ByteArray), (⟨#[43, 76, 79, 79, 80]⟩ : ByteArray), (⟨#[82, 69, 67, 85, 82, 83, 69]⟩ : ByteArray), (⟨#[86, 65, 82, 73, 65, 66, 76, 69]⟩ : ByteArray), (⟨#[67, 79, 78, 83, 84, 65, 78, 84]⟩ : ByteArray), (⟨#[39]⟩ : ByteArray), (⟨#[91, 39, 93]⟩ : ByteArray)] : List ByteArray)) (inner := [.string (⟨#[58]⟩ : ByteArray), .string (⟨#[59]⟩ : ByteArray), .string (⟨#[73, 70]⟩ : ByteArray), .string (⟨#[69, 76, 83, 69]⟩ : ByteArray), .string (⟨#[84, 72, 69, 78]⟩ : ByteArray), .string (⟨#[66, 69, 71, 73, 78]⟩ : ByteArray), .string (⟨#[85, 78, 84, 73, 76]⟩ : ByteArray), .string (⟨#[87, 72, 73, 76, 69]⟩ : ByteArray), .string (⟨#[82, 69, 80, 69, 65, 84]⟩ : ByteArray), .string (⟨#[68, 79]⟩ : ByteArray), .string (⟨#[76, 79, 79, 80]⟩ : ByteArray), .string (⟨#[43, 76, 79, 79, 80]⟩ : ByteArray), .string (⟨#[82, 69, 67, 85, 82, 83, 69]⟩ : ByteArray), .string (⟨#[86, 65, 82, 73, 65, 66, 76, 69]⟩ : ByteArray), .string (⟨#[67, 79, 78, 83, 84, 65, 78, 84]⟩ : ByteArray), .string (⟨#[39]⟩ : ByteArray), .string (⟨#[91, 39, 93]⟩ : ByteArray)]) (ok := fun _ => True) (okp := fun _ => True) ?hr ?hp (fun _ hk => hk) trivial (Below.refl _ _) (Nat.le_refl _) (by simp) ?_; (case hd => rfl); (case hg => rfl); (case hr => first | (go_simp; done) | (go_simp; rfl)); (case hp => exact (Reps.one (show Kd.M Kd.string _ _ _ (⟨#[58]⟩ : ByteArray) [.string (⟨#[58]⟩ : ByteArray)] from rfl) (Reps.one (show Kd.M Kd.string _ _ _ (⟨#[59]⟩ : ByteArray) [.string (⟨#[59]⟩ : ByteArray)] from rfl) (Reps.one (show Kd.M Kd.string _ _ _ (⟨#[73, 70]⟩ : ByteArray) [.string (⟨#[73, 70]⟩ : ByteArray)] from rfl) (Reps.one (show Kd.M Kd.string _ _ _ (⟨#[69, 76, 83, 69]⟩ : ByteArray) [.string (⟨#[69, 76, 83, 69]⟩ : ByteArray)] from rfl) (Reps.one (show Kd.M Kd.string _ _ _ (⟨#[84, 72, 69, 78]⟩ : ByteArray) [.string (⟨#[84, 72, 69, 78]⟩ : ByteArray)] from rfl) (Reps.one (show Kd.M Kd.string _ _ _ (⟨#[66, 69, 71, 73, 78]⟩ : ByteArray) [.string (⟨#[66, 69, 71, 73, 78]⟩ : ByteArray)] from rfl) (Reps.one (show Kd.M Kd.string _ _ _ (⟨#[85, 78, 84, 73, 76]⟩ : ByteArray) [.string (⟨#[85, 78, 84, 73, 76]⟩ : ByteArray)] from rfl) (Reps.one (show Kd.M Kd.string _ _ _ (⟨#[87, 72, 73, 76, 69]⟩ : ByteArray) [.string (⟨#[87, 72, 73, 76, 69]⟩ : ByteArray)] from rfl) (Reps.one (show Kd.M Kd.string _ _ _ (⟨#[82, 69, 80, 69, 65, 84]⟩ : ByteArray) [.string (⟨#[82, 69, 80, 69, 65, 84]⟩ : ByteArray)] from rfl) (Reps.one (show Kd.M Kd.string _ _ _ (⟨#[68, 79]⟩ : ByteArray) [.string (⟨#[68, 79]⟩ : ByteArray)] from rfl) (Reps.one (show Kd.M Kd.string _ _ _ (⟨#[76, 79, 79, 80]⟩ : ByteArray) [.string (⟨#[76, 79, 79, 80]⟩ : ByteArray)] from rfl) (Reps.one (show Kd.M Kd.string _ _ _ (⟨#[43, 76, 79, 79, 80]⟩ : ByteArray) [.string (⟨#[43, 76, 79, 79, 80]⟩ : ByteArray)] from rfl) (Reps.one (show Kd.M Kd.string _ _ _ (⟨#[82, 69, 67, 85, 82, 83, 69]⟩ : ByteArray) [.string (⟨#[82, 69, 67, 85, 82, 83, 69]⟩ : ByteArray)] from rfl) (Reps.one (show Kd.M Kd.string _ _ _ (⟨#[86, 65, 82, 73, 65, 66, 76, 69]⟩ : ByteArray) [.string (⟨#[86, 65, 82, 73, 65, 66, 76, 69]⟩ : ByteArray)] from rfl) (Reps.one (show Kd.M Kd.string _ _ _ (⟨#[67, 79, 78, 83, 84, 65, 78, 84]⟩ : ByteArray) [.string (⟨#[67, 79, 78, 83, 84, 65, 78, 84]⟩ : ByteArray)] from rfl) (Reps.one (show Kd.M Kd.string _ _ _ (⟨#[39]⟩ : ByteArray) [.string (⟨#[39]⟩ : ByteArray)] from rfl) (Reps.one (show Kd.M Kd.string _ _ _ (⟨#[91, 39, 93]⟩ : ByteArray) [.string (⟨#[91, 39, 93]⟩ : ByteArray)] from rfl) (Reps.none _ _))))))))))))))))))); intro v114 w1 ho2 hb hg_ hnew_; clear hg_ hnew_; (first | rw [← Ny113.out] at ho2 | (simp only [Int.reduceToNat] at ho2; rw [← Ny113.out] at ho2)); have HO115 := Aside0.mk (Kd.R_lower ho2 (below_size bq1_)); replace HB := Aside0.mk (below_step bq1_ hb); clear hb ho2))
 go_ret
 exact ⟨_, by first | rfl | (simp [errW_none, errW_some] <;> rfl) | (simp [*, errW_none, errW_some] <;> rfl), by (with_reducible repeat (first | apply Kd.R_alloc | apply Kd.R_drewN | apply Kd.R_drew)); exact HO115.out, by repeat (first | (with_reducible first | exact HB.out | apply below_alloc | apply pw_below_drewN | apply below_drew1) | exact HB.out)⟩

/-! ### spec_l04Kernel: function 48 -/
mutual
def spec_l04Kernel.l0 : Nat → List (S39) → List (List ByteArray) → Int → Option ((List (S39)))
 | 0, _, _, _ => none
 | k + 1, x1, x2, x3 => if x3 < (x2.length : Int) then (spec_l04Kernel.l1 k x1 x2 x3 0) else (some x1)
def spec_l04Kernel.l1 : Nat → List (S39) → List (List ByteArray) → Int → Int → Option ((List (S39)))
 | 0, _, _, _, _ => none
 | k + 1, x1, x2, x3, x4 => if 0 ≤ x3 then (if x3 < (x2.length : Int) then (if x4 < ((rd_L1 x2 x3).length : Int) then (if 0 ≤ x4 then (if x1.length < 4398046511104 then (spec_l04Kernel.l1 k (x1 ++ [(⟨rdOf ByteArray.empty (rd_L1 x2 x3) x4, wrap64 (x3 + 1), wrap64 (x4 + 1)⟩ : S39)]) x2 x3 (wrap64 (x4 + 1))) else (none)) else (none)) else (spec_l04Kernel.l0 k x1 x2 (wrap64 (x3 + 1)))) else (none)) else (none)
end
def spec_l04Kernel.f (k : Nat)  : Option ((List (S39))) := (spec_l04Prims.f).bind fun t119 => ((spec_l04Flows.f).bind fun t122 => ((spec_l04Inners.f).bind fun t125 => ((spec_l04Hosts.f).bind fun t128 => ((spec_l04Syntax.f).bind fun t131 => (spec_l04Kernel.l0 k (([] : List (S39))) (([t119, t122, t125, t128, t131] : List (List ByteArray))) 0)))))
theorem spec_l04Kernel.mono_l : ∀ k, (∀ y0 y1 y2, LeO (spec_l04Kernel.l0 k y0 y1 y2) (spec_l04Kernel.l0 (k + 1) y0 y1 y2)) ∧ (∀ y0 y1 y2 y3, LeO (spec_l04Kernel.l1 k y0 y1 y2 y3) (spec_l04Kernel.l1 (k + 1) y0 y1 y2 y3))
 | 0 => ⟨fun _ _ _ r h => by simp [spec_l04Kernel.l0] at h, fun _ _ _ _ r h => by simp [spec_l04Kernel.l1] at h⟩
 | k + 1 => by
  obtain ⟨ih0, ih1⟩ := spec_l04Kernel.mono_l k
  refine ⟨?_, ?_⟩
  ·intro y0 y1 y2
   unfold spec_l04Kernel.l0
   repeat' first
   | (with_reducible exact ih0 _ _ _)
   | (with_reducible exact ih1 _ _ _ _)
   | (with_reducible exact LeO.refl _)
   | (with_reducible exact LeO.none _)
   | (with_reducible refine LeO.ite ?_ ?_)
   | (with_reducible refine LeO.bind ?_ (fun _ => ?_))
   | exact ih0 _ _ _
   | exact ih1 _ _ _ _
   | exact LeO.none _
   | refine LeO.ite ?_ ?_
   | refine LeO.bind ?_ (fun _ => ?_)
  ·intro y0 y1 y2 y3
   unfold spec_l04Kernel.l1
   repeat' first
   | (with_reducible exact ih0 _ _ _)
   | (with_reducible exact ih1 _ _ _ _)
   | (with_reducible exact LeO.refl _)
   | (with_reducible exact LeO.none _)
   | (with_reducible refine LeO.ite ?_ ?_)
   | (with_reducible refine LeO.bind ?_ (fun _ => ?_))
   | exact ih0 _ _ _
   | exact ih1 _ _ _ _
   | exact LeO.none _
   | refine LeO.ite ?_ ?_
   | refine LeO.bind ?_ (fun _ => ?_)
theorem spec_l04Kernel.mono : ∀ k, LeO (spec_l04Kernel.f k ) (spec_l04Kernel.f (k + 1) ) := by
 intro  k
 obtain ⟨ih0, ih1⟩ := spec_l04Kernel.mono_l k
 unfold spec_l04Kernel.f
 repeat' first
   | (with_reducible exact ih0 _ _ _)
   | (with_reducible exact ih1 _ _ _ _)
   | (with_reducible exact LeO.refl _)
   | (with_reducible exact LeO.none _)
   | (with_reducible refine LeO.ite ?_ ?_)
   | (with_reducible refine LeO.bind ?_ (fun _ => ?_))
   | exact ih0 _ _ _
   | exact ih1 _ _ _ _
   | exact LeO.none _
   | refine LeO.ite ?_ ?_
   | refine LeO.bind ?_ (fun _ => ?_)
set_option maxHeartbeats 8000000 in
set_option maxRecDepth 100000 in
theorem spec_l04Kernel.calls (k : Nat)  (r : List (S39)) (w : World) (h : spec_l04Kernel.f k  = some r) :
  Calls Tryd.prog 48 #[] w fun e w' => ∃ v0_ : Value, e = .returned (v0_) ∧ Kd.R k39 39 w' w.heap.size (fun _ => True) v0_ r ∧ Below w.heap.size w w' := by
 have hu39 := Tryd.underlying39
 have HB := Aside0.mk (Below.refl w.heap.size w)
 have H : ((spec_l04Prims.f).bind fun t119 => ((spec_l04Flows.f).bind fun t122 => ((spec_l04Inners.f).bind fun t125 => ((spec_l04Hosts.f).bind fun t128 => ((spec_l04Syntax.f).bind fun t131 => (spec_l04Kernel.l0 k (([] : List (S39))) (([t119, t122, t125, t128, t131] : List (List ByteArray))) 0)))))) = some r := h
 clear h
 obtain ⟨y116, hy116⟩ : ∃ y_ : List (S39), y_ = (([] : List (S39))) := ⟨_, rfl⟩
 replace H : ((spec_l04Prims.f).bind fun t119 => ((spec_l04Flows.f).bind fun t122 => ((spec_l04Inners.f).bind fun t125 => ((spec_l04Hosts.f).bind fun t128 => ((spec_l04Syntax.f).bind fun t131 => (spec_l04Kernel.l0 k y116 (([t119, t122, t125, t128, t131] : List (List ByteArray))) 0)))))) = some r := by first | (rw [hy116]; with_reducible exact H) | (have H2_ := (Option.bind_some _ _).symm.trans H; rw [hy116]; with_reducible exact H2_) | (have H2_ := (Option.bind_some _ _).symm.trans H; with_reducible exact H2_) | with_reducible exact H | (rw [hy116]; exact H) | exact H
 have Ny116 := Aside0.mk hy116
 clear hy116
 replace H := Option.bind_eq_some_iff.mp H
 obtain ⟨t119, A10, H⟩ := H
 replace H : ((spec_l04Flows.f).bind fun t122 => ((spec_l04Inners.f).bind fun t125 => ((spec_l04Hosts.f).bind fun t128 => ((spec_l04Syntax.f).bind fun t131 => (spec_l04Kernel.l0 k y116 (([t119, t122, t125, t128, t131] : List (List ByteArray))) 0))))) = some r := H
 have A1 := Aside0.mk A10
 clear A10
 replace H := Option.bind_eq_some_iff.mp H
 obtain ⟨t122, A20, H⟩ := H
 replace H : ((spec_l04Inners.f).bind fun t125 => ((spec_l04Hosts.f).bind fun t128 => ((spec_l04Syntax.f).bind fun t131 => (spec_l04Kernel.l0 k y116 (([t119, t122, t125, t128, t131] : List (List ByteArray))) 0)))) = some r := H
 have A2 := Aside0.mk A20
 clear A20
 replace H := Option.bind_eq_some_iff.mp H
 obtain ⟨t125, A30, H⟩ := H
 replace H : ((spec_l04Hosts.f).bind fun t128 => ((spec_l04Syntax.f).bind fun t131 => (spec_l04Kernel.l0 k y116 (([t119, t122, t125, t128, t131] : List (List ByteArray))) 0))) = some r := H
 have A3 := Aside0.mk A30
 clear A30
 replace H := Option.bind_eq_some_iff.mp H
 obtain ⟨t128, A40, H⟩ := H
 replace H : ((spec_l04Syntax.f).bind fun t131 => (spec_l04Kernel.l0 k y116 (([t119, t122, t125, t128, t131] : List (List ByteArray))) 0)) = some r := H
 have A4 := Aside0.mk A40
 clear A40
 replace H := Option.bind_eq_some_iff.mp H
 obtain ⟨t131, A50, H⟩ := H
 replace H : (spec_l04Kernel.l0 k y116 (([t119, t122, t125, t128, t131] : List (List ByteArray))) 0) = some r := H
 have A5 := Aside0.mk A50
 clear A50
 obtain ⟨y134, hy134⟩ : ∃ y_ : List (List ByteArray), y_ = (([t119, t122, t125, t128, t131] : List (List ByteArray))) := ⟨_, rfl⟩
 replace H : (spec_l04Kernel.l0 k y116 y134 0) = some r := by first | (rw [hy134]; with_reducible exact H) | (have H2_ := (Option.bind_some _ _).symm.trans H; rw [hy134]; with_reducible exact H2_) | (have H2_ := (Option.bind_some _ _).symm.trans H; with_reducible exact H2_) | with_reducible exact H | (rw [hy134]; exact H) | exact H
 have Ny134 := Aside0.mk hy134
 clear hy134
 have H' := Aside0.mk H
 clear H
 go_enter Tryd.func48, Tryd.ntmps48
 go_wp2_with (first | ((with_reducible refine gate_dst (N := 5) rfl ?_); refine Kd.R_lit k39 _ 39 ?hg (N := 5) ?hd (xs := ([] : List (S39))) (inner := []) (ok := fun _ => True) (okp := fun _ => True) ?hr ?hp (fun _ hk => hk) trivial (Below.refl _ _) (Nat.le_refl _) (by simp) ?_; (case hd => rfl); (case hg => rfl); (case hr => first | (go_simp; done) | (go_simp; rfl)); (case hp => exact (Reps.none _ _)); intro v117 w6 ho7 hb hg_ hnew_; clear hg_ hnew_; (first | rw [← Ny116.out] at ho7 | (simp only [Int.reduceToNat] at ho7; rw [← Ny116.out] at ho7)); have HO118 := Aside0.mk (Kd.R_lower ho7 (below_size bq1_)); replace HB := Aside0.mk (below_step bq1_ hb); clear hb ho7) | ((with_reducible refine gate_callee (f := 90) rfl ?_); refine goesL_ (some 6) rfl rfl Tryd.func90 (by kernel_rfl) rfl #[] rfl (by (try simp only [List.map_toArray, List.map_cons, List.map_nil]); first | done | rfl | (simp only [List.length_drop, List.length_take]; rfl)) ?_; (with_reducible refine (spec_l04Prims.calls  t119 _ A1.out).mono ?_); rintro e w8 ⟨v120, rfl, ho0, hb⟩; refine ⟨_, rfl, ?_⟩; replace HO118 := Aside0.mk (Kd.R_below (bru_ HO118) hb); have HO121 := Aside0.mk (Kd.R_lower ho0 (below_size bq1_)); replace HB := Aside0.mk (below_step bq1_ hb); (try clear hb); (try clear hb2); (try clear hk); (try clear hi); (try clear ho0)) | ((with_reducible refine gate_callee (f := 91) rfl ?_); refine goesL_ (some 7) rfl rfl Tryd.func91 (by kernel_rfl) rfl #[] rfl (by (try simp only [List.map_toArray, List.map_cons, List.map_nil]); first | done | rfl | (simp only [List.length_drop, List.length_take]; rfl)) ?_; (with_reducible refine (spec_l04Flows.calls  t122 _ A2.out).mono ?_); rintro e w9 ⟨v123, rfl, ho0, hb⟩; refine ⟨_, rfl, ?_⟩; have n0_ := Aside0.mk (Kd.R_below (bru_ HO118) hb); have n1_ := Aside0.mk (Kd.R_elder' (bru_ HO121) (Kd.R_base ho0) hb); have n2_ := Aside0.mk (Kd.R_lower (Kd.R_new' ho0 (Kd.R_lt (bru_ HO121))) (below_size bq1_)); have n3_ := Aside0.mk (below_step bq1_ hb); clear HO118; clear HO121; clear HB; have HO118 := n0_; have HO121 := n1_; have HO124 := n2_; have HB := n3_; clear n0_ n1_ n2_ n3_; (try clear hb); (try clear hb2); (try clear hk); (try clear hi); (try clear ho0)) | ((with_reducible refine gate_callee (f := 92) rfl ?_); refine goesL_ (some 8) rfl rfl Tryd.func92 (by kernel_rfl) rfl #[] rfl (by (try simp only [List.map_toArray, List.map_cons, List.map_nil]); first | done | rfl | (simp only [List.length_drop, List.length_take]; rfl)) ?_; (with_reducible refine (spec_l04Inners.calls  t125 _ A3.out).mono ?_); rintro e w10 ⟨v126, rfl, ho0, hb⟩; refine ⟨_, rfl, ?_⟩; have n0_ := Aside0.mk (Kd.R_below (bru_ HO118) hb); have n1_ := Aside0.mk (Kd.R_elder' (bru_ HO121) (Kd.R_base ho0) hb); have n2_ := Aside0.mk (Kd.R_elder' (bru_ HO124) (Kd.R_base ho0) hb); have n3_ := Aside0.mk (Kd.R_lower (Kd.R_new' (Kd.R_new' ho0 (Kd.R_lt (bru_ HO121))) (Kd.R_lt (bru_ HO124))) (below_size bq1_)); have n4_ := Aside0.mk (below_step bq1_ hb); clear HO118; clear HO121; clear HO124; clear HB; have HO118 := n0_; have HO121 := n1_; have HO124 := n2_; have HO127 := n3_; have HB := n4_; clear n0_ n1_ n2_ n3_ n4_; (try clear hb); (try clear hb2); (try clear hk); (try clear hi); (try clear ho0)) | ((with_reducible refine gate_callee (f := 93) rfl ?_); refine goesL_ (some 9) rfl rfl Tryd.func93 (by kernel_rfl) rfl #[] rfl (by (try simp only [List.map_toArray, List.map_cons, List.map_nil]); first | done | rfl | (simp only [List.length_drop, List.length_take]; rfl)) ?_; (with_reducible refine (spec_l04Hosts.calls  t128 _ A4.out).mono ?_); rintro e w11 ⟨v129, rfl, ho0, hb⟩; refine ⟨_, rfl, ?_⟩; have n0_ := Aside0.mk (Kd.R_below (bru_ HO118) hb); have n1_ := Aside0.mk (Kd.R_elder' (bru_ HO121) (Kd.R_base ho0) hb); have n2_ := Aside0.mk (Kd.R_elder' (bru_ HO124) (Kd.R_base ho0) hb); have n3_ := Aside0.mk (Kd.R_elder' (bru_ HO127) (Kd.R_base ho0) hb); have n4_ := Aside0.mk (Kd.R_lower (Kd.R_new' (Kd.R_new' (Kd.R_new' ho0 (Kd.R_lt (bru_ HO121))) (Kd.R_lt (bru_ HO124))) (Kd.R_lt (bru_ HO127))) (below_size bq1_)); have n5_ := Aside0.mk (below_step bq1_ hb); clear HO118; clear HO121; clear HO124; clear HO127; clear HB; have HO118 := n0_; have HO121 := n1_; have HO124 := n2_; have HO127 := n3_; have HO130 := n4_; have HB := n5_; clear n0_ n1_ n2_ n3_ n4_ n5_; (try clear hb); (try clear hb2); (try clear hk); (try clear hi); (try clear ho0)) | ((with_reducible refine gate_callee (f := 94) rfl ?_); refine goesL_ (some 10) rfl rfl Tryd.func94 (by kernel_rfl) rfl #[] rfl (by (try simp only [List.map_toArray, List.map_cons, List.map_nil]); first | done | rfl | (simp only [List.length_drop, List.length_take]; rfl)) ?_; (with_reducible refine (spec_l04Syntax.calls  t131 _ A5.out).mono ?_); rintro e w12 ⟨v132, rfl, ho0, hb⟩; refine ⟨_, rfl, ?_⟩; have n0_ := Aside0.mk (Kd.R_below (bru_ HO118) hb); have n1_ := Aside0.mk (Kd.R_elder' (bru_ HO121) (Kd.R_base ho0) hb); have n2_ := Aside0.mk (Kd.R_elder' (bru_ HO124) (Kd.R_base ho0) hb); have n3_ := Aside0.mk (Kd.R_elder' (bru_ HO127) (Kd.R_base ho0) hb); have n4_ := Aside0.mk (Kd.R_elder' (bru_ HO130) (Kd.R_base ho0) hb); have n5_ := Aside0.mk (Kd.R_lower (Kd.R_new' (Kd.R_new' (Kd.R_new' (Kd.R_new' ho0 (Kd.R_lt (bru_ HO121))) (Kd.R_lt (bru_ HO124))) (Kd.R_lt (bru_ HO127))) (Kd.R_lt (bru_ HO130))) (below_size bq1_)); have n6_ := Aside0.mk (below_step bq1_ hb); clear HO118; clear HO121; clear HO124; clear HO127; clear HO130; clear HB; have HO118 := n0_; have HO121 := n1_; have HO124 := n2_; have HO127 := n3_; have HO130 := n4_; have HO133 := n5_; have HB := n6_; clear n0_ n1_ n2_ n3_ n4_ n5_ n6_; (try clear hb); (try clear hb2); (try clear hk); (try clear hi); (try clear ho0); obtain ⟨Ao13, co13, eo13⟩ := Kd.R_slice HO121.out; subst eo13; obtain ⟨Ao14, co14, eo14⟩ := Kd.R_slice HO124.out; subst eo14; obtain ⟨Ao15, co15, eo15⟩ := Kd.R_slice HO127.out; subst eo15; obtain ⟨Ao16, co16, eo16⟩ := Kd.R_slice HO130.out; subst eo16; obtain ⟨Ao17, co17, eo17⟩ := Kd.R_slice HO133.out; subst eo17) | ((with_reducible refine gate_dst (N := 11) rfl ?_); refine Kd.N_lit (Kd.slice 9 Kd.string) _ 63 ?hg (N' := 11) ?hd (xs := ([t119, t122, t125, t128, t131] : List (List ByteArray))) (inner := [.slice Ao13 t119.length co13, .slice Ao14 t122.length co14, .slice Ao15 t125.length co15, .slice Ao16 t128.length co16, .slice Ao17 t131.length co17]) (ok := (fun k_ => some k_ ≠ (v117 : Value).ownBlock)) (okp := (fun k_ => some k_ ≠ (v117 : Value).ownBlock)) ?hr ?hp (fun _ hk => hk) ((show ∀ k_, w12.heap.size ≤ k_ → (fun k_ => some k_ ≠ (v117 : Value).ownBlock) k_ from fun k_ hk => Kd.fresh' (Kd.R_lt (bru_ HO118)) k_ hk) _ (Nat.le_refl _)) (Below.refl _ _) (Nat.le_refl _) (by simp) ?_; (case hd => rfl); (case hg => rfl); (case hr => first | (go_simp; done) | (go_simp; rfl)); (case hp => exact (Reps.one (show Kd.FK (Kd.slice 9 Kd.string) _ _ t119 [.slice Ao13 t119.length co13] from (Kd.FK_slice_mk (Kd.R_reads' (Kd.R_mono (ok' := (fun k_ => some k_ ≠ (v117 : Value).ownBlock)) (Kd.R_apart' (HO121.out) (Kd.R_typed HO118.out) (by decide)) (fun k_ hk => hk.2))).2.1 (by first | exact Kd.R_F (Kd.R_mono (ok' := (fun k_ => some k_ ≠ (v117 : Value).ownBlock)) (Kd.R_apart' (HO121.out) (Kd.R_typed HO118.out) (by decide)) (fun k_ hk => hk.2)) | exact Kd.F_drewN (Kd.R_F (Kd.R_mono (ok' := (fun k_ => some k_ ≠ (v117 : Value).ownBlock)) (Kd.R_apart' (HO121.out) (Kd.R_typed HO118.out) (by decide)) (fun k_ hk => hk.2))) _ | exact Kd.F_drewN (Kd.F_drewN (Kd.R_F (Kd.R_mono (ok' := (fun k_ => some k_ ≠ (v117 : Value).ownBlock)) (Kd.R_apart' (HO121.out) (Kd.R_typed HO118.out) (by decide)) (fun k_ hk => hk.2))) _) _))) (Reps.one (show Kd.FK (Kd.slice 9 Kd.string) _ _ t122 [.slice Ao14 t122.length co14] from (Kd.FK_slice_mk (Kd.R_reads' (Kd.R_mono (ok' := (fun k_ => some k_ ≠ (v117 : Value).ownBlock)) (Kd.R_apart' (HO124.out) (Kd.R_typed HO118.out) (by decide)) (fun k_ hk => hk.2))).2.1 (by first | exact Kd.R_F (Kd.R_mono (ok' := (fun k_ => some k_ ≠ (v117 : Value).ownBlock)) (Kd.R_apart' (HO124.out) (Kd.R_typed HO118.out) (by decide)) (fun k_ hk => hk.2)) | exact Kd.F_drewN (Kd.R_F (Kd.R_mono (ok' := (fun k_ => some k_ ≠ (v117 : Value).ownBlock)) (Kd.R_apart' (HO124.out) (Kd.R_typed HO118.out) (by decide)) (fun k_ hk => hk.2))) _ | exact Kd.F_drewN (Kd.F_drewN (Kd.R_F (Kd.R_mono (ok' := (fun k_ => some k_ ≠ (v117 : Value).ownBlock)) (Kd.R_apart' (HO124.out) (Kd.R_typed HO118.out) (by decide)) (fun k_ hk => hk.2))) _) _))) (Reps.one (show Kd.FK (Kd.slice 9 Kd.string) _ _ t125 [.slice Ao15 t125.length co15] from (Kd.FK_slice_mk (Kd.R_reads' (Kd.R_mono (ok' := (fun k_ => some k_ ≠ (v117 : Value).ownBlock)) (Kd.R_apart' (HO127.out) (Kd.R_typed HO118.out) (by decide)) (fun k_ hk => hk.2))).2.1 (by first | exact Kd.R_F (Kd.R_mono (ok' := (fun k_ => some k_ ≠ (v117 : Value).ownBlock)) (Kd.R_apart' (HO127.out) (Kd.R_typed HO118.out) (by decide)) (fun k_ hk => hk.2)) | exact Kd.F_drewN (Kd.R_F (Kd.R_mono (ok' := (fun k_ => some k_ ≠ (v117 : Value).ownBlock)) (Kd.R_apart' (HO127.out) (Kd.R_typed HO118.out) (by decide)) (fun k_ hk => hk.2))) _ | exact Kd.F_drewN (Kd.F_drewN (Kd.R_F (Kd.R_mono (ok' := (fun k_ => some k_ ≠ (v117 : Value).ownBlock)) (Kd.R_apart' (HO127.out) (Kd.R_typed HO118.out) (by decide)) (fun k_ hk => hk.2))) _) _))) (Reps.one (show Kd.FK (Kd.slice 9 Kd.string) _ _ t128 [.slice Ao16 t128.length co16] from (Kd.FK_slice_mk (Kd.R_reads' (Kd.R_mono (ok' := (fun k_ => some k_ ≠ (v117 : Value).ownBlock)) (Kd.R_apart' (HO130.out) (Kd.R_typed HO118.out) (by decide)) (fun k_ hk => hk.2))).2.1 (by first | exact Kd.R_F (Kd.R_mono (ok' := (fun k_ => some k_ ≠ (v117 : Value).ownBlock)) (Kd.R_apart' (HO130.out) (Kd.R_typed HO118.out) (by decide)) (fun k_ hk => hk.2)) | exact Kd.F_drewN (Kd.R_F (Kd.R_mono (ok' := (fun k_ => some k_ ≠ (v117 : Value).ownBlock)) (Kd.R_apart' (HO130.out) (Kd.R_typed HO118.out) (by decide)) (fun k_ hk => hk.2))) _ | exact Kd.F_drewN (Kd.F_drewN (Kd.R_F (Kd.R_mono (ok' := (fun k_ => some k_ ≠ (v117 : Value).ownBlock)) (Kd.R_apart' (HO130.out) (Kd.R_typed HO118.out) (by decide)) (fun k_ hk => hk.2))) _) _))) (Reps.one (show Kd.FK (Kd.slice 9 Kd.string) _ _ t131 [.slice Ao17 t131.length co17] from (Kd.FK_slice_mk (Kd.R_reads' (Kd.R_mono (ok' := (fun k_ => some k_ ≠ (v117 : Value).ownBlock)) (Kd.R_apart' (HO133.out) (Kd.R_typed HO118.out) (by decide)) (fun k_ hk => hk.2))).2.1 (by first | exact Kd.R_F (Kd.R_mono (ok' := (fun k_ => some k_ ≠ (v117 : Value).ownBlock)) (Kd.R_apart' (HO133.out) (Kd.R_typed HO118.out) (by decide)) (fun k_ hk => hk.2)) | exact Kd.F_drewN (Kd.R_F (Kd.R_mono (ok' := (fun k_ => some k_ ≠ (v117 : Value).ownBlock)) (Kd.R_apart' (HO133.out) (Kd.R_typed HO118.out) (by decide)) (fun k_ hk => hk.2))) _ | exact Kd.F_drewN (Kd.F_drewN (Kd.R_F (Kd.R_mono (ok' := (fun k_ => some k_ ≠ (v117 : Value).ownBlock)) (Kd.R_apart' (HO133.out) (Kd.R_typed HO118.out) (by decide)) (fun k_ hk => hk.2))) _) _))) (Reps.none _ _))))))); intro v135 w18 ho19 hb hg_ hnew_; clear hg_ hnew_; (first | rw [← Ny134.out] at ho19 | (simp only [Int.reduceToNat] at ho19; rw [← Ny134.out] at ho19)); replace HO118 := Aside0.mk (Kd.R_below (bru_ HO118) hb); have HO136 := Aside0.mk (Kd.N_lower ho19 (below_size bq1_)); replace HB := Aside0.mk (below_step bq1_ hb); clear HO121; clear HO124; clear HO127; clear HO130; clear HO133; clear hb ho19))
 go_loopg [1, 3] k (fun kq v1 v3 w' => ∃ (x1_1 : List (S39)) (x3_1 : Int), v3 = .int .i64 x3_1 ∧ Aside0 (spec_l04Kernel.l0 kq x1_1 y134 x3_1 = some r) ∧ Aside0 (kq ≤ k) ∧ Aside0 (Kd.R k39 39 w' w.heap.size (fun _ => True) v1 x1_1) ∧ Aside0 (Kd.N (Kd.slice 9 Kd.string) 63 w' w.heap.size (fun k_ => some k_ ≠ (v1 : Value).ownBlock) v135 y134) ∧ Aside0 (Below w.heap.size w w'))
 case atStart => exact ⟨(y116), (0), (by first | rfl | (simp; done) | (simp [*]; done)), H', ⟨Nat.le_refl _⟩, ⟨(bru_ HO118)⟩, ⟨by (with_reducible repeat (first | apply Kd.N_alloc | apply Kd.N_drewN | apply Kd.N_drew)); exact HO136.out⟩, ⟨by repeat (first | (with_reducible first | exact HB.out | apply below_alloc | apply pw_below_drewN | apply below_drew1) | exact HB.out)⟩⟩
 case round =>
  clear H'
  (try clear p2); (try clear c4); (try clear c9)
  obtain ⟨x1_1, x3_1, rfl, HA, HK1, HO_1, HO_2, HB⟩ := hrel
  cases gk with
  | zero => exact absurd HA.out (by simp [spec_l04Kernel.l0])
  | succ k1 =>
   have H := HA.out
   clear HA
   simp only [spec_l04Kernel.l0] at H
   by_cases c20 : x3_1 < (y134.length : Int)
   ·rw [if_pos c20] at H
    have c20b0 : decide (x3_1 < (y134.length : Int)) = true := decide_eq_true c20
    clear c20
    have H' := Aside0.mk H
    clear H
    obtain ⟨Ao21, co21, eo21⟩ := Kd.N_slice HO_2.out
    subst eo21
    go_wp2
    go_loopg [1, 4] k1 (fun kq v1 v4 w' => ∃ (x1_2 : List (S39)) (x4_2 : Int), v4 = .int .i64 x4_2 ∧ Aside0 (spec_l04Kernel.l1 kq x1_2 y134 x3_1 x4_2 = some r) ∧ Aside0 (kq ≤ k1) ∧ Aside0 (Kd.R k39 39 w' w.heap.size (fun _ => True) v1 x1_2) ∧ Aside0 (Kd.N (Kd.slice 9 Kd.string) 63 w' w.heap.size (fun k_ => some k_ ≠ (v1 : Value).ownBlock) (.slice Ao21 y134.length co21) y134) ∧ Aside0 (Below w.heap.size w w'))
    case atStart => exact ⟨(x1_1), (0), (by first | rfl | (simp; done) | (simp [*]; done)), H', ⟨Nat.le_refl _⟩, ⟨(bru_ HO_1)⟩, ⟨by (with_reducible repeat (first | apply Kd.N_alloc | apply Kd.N_drewN | apply Kd.N_drew)); exact HO_2.out⟩, ⟨by repeat (first | (with_reducible first | exact HB.out | apply below_alloc | apply pw_below_drewN | apply below_drew1) | exact HB.out)⟩⟩
    case round =>
     clear H'
     (try clear c2); (try clear p2); (try clear c4); (try clear c9); (try clear c20); (try clear c20b0); (try clear p2)
     obtain ⟨x1_2, x4_2, rfl, HA, HK2, HO_1, HO_2, HB⟩ := hrel
     cases gk with
     | zero => exact absurd HA.out (by simp [spec_l04Kernel.l1])
     | succ k2 =>
      have H := HA.out
      clear HA
      simp only [spec_l04Kernel.l1] at H
      by_cases c22 : 0 ≤ x3_1
      ·rw [if_pos c22] at H
       have c22b0 : decide (0 ≤ x3_1) = true := decide_eq_true c22
       clear c22
       by_cases c23 : x3_1 < (y134.length : Int)
       ·rw [if_pos c23] at H
        have c23b0 : decide (x3_1 < (y134.length : Int)) = true := decide_eq_true c23
        clear c23
        by_cases c24 : x4_2 < ((rd_L1 y134 x3_1).length : Int)
        ·rw [if_pos c24] at H
         have c24b0 : decide (x4_2 < ((rd_L1 y134 x3_1).length : Int)) = true := decide_eq_true c24
         clear c24
         by_cases c25 : 0 ≤ x4_2
         ·rw [if_pos c25] at H
          have c25b0 : decide (0 ≤ x4_2) = true := decide_eq_true c25
          clear c25
          by_cases c26 : x1_2.length < 4398046511104
          ·rw [if_pos c26] at H
           have LMc26 := Aside0.mk c26
           clear c26
           obtain ⟨y140, hy140⟩ : ∃ y_ : List (S39), y_ = (x1_2 ++ [(⟨rdOf ByteArray.empty (rd_L1 y134 x3_1) x4_2, wrap64 (x3_1 + 1), wrap64 (x4_2 + 1)⟩ : S39)]) := ⟨_, rfl⟩
           replace H : (spec_l04Kernel.l1 k2 y140 y134 x3_1 (wrap64 (x4_2 + 1))) = some r := by first | (rw [hy140]; with_reducible exact H) | (have H2_ := (Option.bind_some _ _).symm.trans H; rw [hy140]; with_reducible exact H2_) | (have H2_ := (Option.bind_some _ _).symm.trans H; with_reducible exact H2_) | with_reducible exact H | (rw [hy140]; exact H) | exact H
           have Ny140 := Aside0.mk hy140
           clear hy140
           have H' := Aside0.mk H
           clear H
           have p137 : 0 ≤ (x3_1 : Int) := of_decide_eq_true bq2_
           have q137 : x3_1 < (y134.length : Int) := of_decide_eq_true bq2_
           obtain ⟨ad137, A137_0, c137_0, e137, hx137_0, hl137_0, hi137_0⟩ := at_L1 (Kd.N_reads' HO_2.out).2.2 x3_1 p137 q137
           cases e137
           obtain ⟨ce137, hce137, hMe137, hcc137⟩ := Kd.N_get HO_2.out [] x3_1 p137 (by first | exact q137 | exact of_decide_eq_true bq2_ | (have e_ := (Kd.N_reads' HO_2.out).1; omega))
           obtain ⟨ua137_0, uc137_0, rfl, ul137_0, ge137_0⟩ := Kd.FK_slice_open hMe137
           have hv137_0 := hcc137 0 _ rfl
           rw [Nat.add_zero, show ((Kd.slice 9 Kd.string)).sz = 1 from rfl, Nat.mul_one] at hv137_0
           replace hv137_0 := Option.some.inj (hv137_0.symm.trans hx137_0)
           injection hv137_0 with hva_ hvn_ hvc_
           rw [hva_] at ge137_0
           rw [hvc_] at ul137_0
           have HL137_0 := Aside0.mk (show Kd.V Kd.string 9 _ w.heap.size _ _ (rd_L1 y134 x3_1) from Kd.V_mk ul137_0 ge137_0)
           clear hva_ hvn_ hvc_ ge137_0 ul137_0
           clear hcc137 hce137
           have HR137_0 := Aside0.mk hi137_0
           have HC137_0 := Aside0.mk hl137_0
           clear hi137_0 hl137_0
           replace p137 := eq_true p137
           replace q137 := eq_true q137
           have p138 : 0 ≤ (x3_1 : Int) := of_decide_eq_true bq2_
           have q138 : x3_1 < (y134.length : Int) := of_decide_eq_true bq2_
           obtain ⟨ad138, A138_0, c138_0, e138, hx138_0, hl138_0, hi138_0⟩ := at_L1 (Kd.N_reads' HO_2.out).2.2 x3_1 p138 q138
           obtain rfl : ad137 = ad138 := (by injection e138)
           obtain ⟨ce138, hce138, hMe138, hcc138⟩ := Kd.N_get HO_2.out [] x3_1 p138 (by first | exact q138 | exact of_decide_eq_true bq2_ | (have e_ := (Kd.N_reads' HO_2.out).1; omega))
           obtain ⟨ua138_0, uc138_0, rfl, ul138_0, ge138_0⟩ := Kd.FK_slice_open hMe138
           have hv138_0 := hcc138 0 _ rfl
           rw [Nat.add_zero, show ((Kd.slice 9 Kd.string)).sz = 1 from rfl, Nat.mul_one] at hv138_0
           replace hv138_0 := Option.some.inj (hv138_0.symm.trans hx138_0)
           injection hv138_0 with hva_ hvn_ hvc_
           rw [hva_] at ge138_0
           rw [hvc_] at ul138_0
           have HL138_0 := Aside0.mk (show Kd.V Kd.string 9 _ w.heap.size _ _ (rd_L1 y134 x3_1) from Kd.V_mk ul138_0 ge138_0)
           clear hva_ hvn_ hvc_ ge138_0 ul138_0
           clear hcc138 hce138
           have HR138_0 := Aside0.mk hi138_0
           have HC138_0 := Aside0.mk hl138_0
           clear hi138_0 hl138_0
           replace p138 := eq_true p138
           replace q138 := eq_true q138
           have ea_ := Option.some.inj (hx137_0.symm.trans hx138_0)
           injection ea_ with ea_ en_ ec_
           subst ea_
           subst ec_
           clear en_
           have p139 : 0 ≤ (x4_2 : Int) := of_decide_eq_true bq2_
           have q139 : x4_2 < ((rd_L1 y134 x3_1).length : Int) := of_decide_eq_true bq2_
           obtain ⟨ad139, e139, hx139_0⟩ := Kd.at_string (by repeat (first | (with_reducible exact HR138_0.out) | (with_reducible refine Kd.C_alloc ?_ _) | (with_reducible refine Kd.C_drewN ?_ _) | (with_reducible refine Kd.C_drew ?_) | exact HR138_0.out)) x4_2 p139 q139
           cases e139
           replace p139 := eq_true p139
           replace q139 := eq_true q139
           go_wp2_with (first | ((with_reducible refine gate_builtin (b := .append) (xs := #[.tmp 27, .tmp 40]) rfl ?_); at_builtin; refine Kd.R_append k39 (w0 := w) w.heap.size rfl (.tmp 27) (.tmp 40) 22 39 (.agg #[(.string ⟨#[]⟩), (.int .i64 0), (.int .i64 0)]) 32 rfl Tryd.underlying22 info39 rfl (by decide) (by omega) u1 x1_2 (⟨rdOf ByteArray.empty (rd_L1 y134 x3_1) x4_2, wrap64 (x3_1 + 1), wrap64 (x4_2 + 1)⟩ : S39) [.string (rdOf ByteArray.empty (rd_L1 y134 x3_1) x4_2), .int .i64 (wrap64 (x3_1 + 1)), .int .i64 (wrap64 (x4_2 + 1))] (fun _ => True) (fun _ => False) rfl rfl ?aP (fun _ hk => hk.elim) ?aF ?aO ?aB ?aS ?aL ?_; (case aP => exact k39_mkM _ _ _ (⟨rdOf ByteArray.empty (rd_L1 y134 x3_1) x4_2, wrap64 (x3_1 + 1), wrap64 (x4_2 + 1)⟩ : S39)); (case aB => exact bq1_); (case aF => exact (fun _ _ => trivial)); (case aO => exact (bru_ HO_1)); (case aS => exact (below_size bq1_)); (case aL => have := LMc26.out; omega); intro v141 w27 ho hb hg hat; rw [← Ny140.out] at ho; replace HO_2 := Aside0.mk (Kd.N_afterv (ok := (fun _ => True)) (by (with_reducible repeat (first | apply Kd.N_alloc | apply Kd.N_drewN | apply Kd.N_drew)); exact Kd.N_mono HO_2.out (fun _ hk => ⟨trivial, hk⟩)) hg hat); replace HL137_0 := Aside0.mk (Kd.V_afterv (ok := (fun k_ => some k_ ≠ (.slice (some ad137) y134.length co21 : Value).ownBlock)) (by (with_reducible repeat (first | apply Kd.V_alloc | apply Kd.V_drewN | apply Kd.V_drew)); exact Kd.V_mono HL137_0.out (fun _ hk => ⟨hk.2, hk.1⟩)) hg hat); replace HL138_0 := Aside0.mk (Kd.V_afterv (ok := (fun k_ => some k_ ≠ (.slice (some ad137) y134.length co21 : Value).ownBlock)) (by (with_reducible repeat (first | apply Kd.V_alloc | apply Kd.V_drewN | apply Kd.V_drew)); exact Kd.V_mono HL138_0.out (fun _ hk => ⟨hk.2, hk.1⟩)) hg hat); replace HB := Aside0.mk (hb); have HO142 := Aside0.mk (ho); clear HO_1; clear ho hb hg hat))
           go_roundg k2
           case measure => have := HK1.out; have := HK2.out; omega
           case rel => exact ⟨(y140), (wrap64 (x4_2 + 1)), (by first | rfl | (simp; done) | (simp [*]; done)), H', ⟨by have := HK1.out; have := HK2.out; omega⟩, ⟨(bru_ HO142)⟩, ⟨by (with_reducible repeat (first | apply Kd.N_alloc | apply Kd.N_drewN | apply Kd.N_drew)); exact Kd.N_mono HO_2.out (fun _ hk => hk.2)⟩, ⟨by repeat (first | (with_reducible first | exact HB.out | apply below_alloc | apply pw_below_drewN | apply below_drew1) | exact HB.out)⟩⟩
          ·rw [if_neg c26] at H
           exact absurd H (by simp)
         ·rw [if_neg c25] at H
          exact absurd H (by simp)
        ·rw [if_neg c24] at H
         have c24b0 : decide (x4_2 < ((rd_L1 y134 x3_1).length : Int)) = false := decide_eq_false c24
         clear c24
         have H' := Aside0.mk H
         clear H
         have p137 : 0 ≤ (x3_1 : Int) := of_decide_eq_true bq2_
         have q137 : x3_1 < (y134.length : Int) := of_decide_eq_true bq2_
         obtain ⟨ad137, A137_0, c137_0, e137, hx137_0, hl137_0, hi137_0⟩ := at_L1 (Kd.N_reads' HO_2.out).2.2 x3_1 p137 q137
         cases e137
         obtain ⟨ce137, hce137, hMe137, hcc137⟩ := Kd.N_get HO_2.out [] x3_1 p137 (by first | exact q137 | exact of_decide_eq_true bq2_ | (have e_ := (Kd.N_reads' HO_2.out).1; omega))
         obtain ⟨ua137_0, uc137_0, rfl, ul137_0, ge137_0⟩ := Kd.FK_slice_open hMe137
         have hv137_0 := hcc137 0 _ rfl
         rw [Nat.add_zero, show ((Kd.slice 9 Kd.string)).sz = 1 from rfl, Nat.mul_one] at hv137_0
         replace hv137_0 := Option.some.inj (hv137_0.symm.trans hx137_0)
         injection hv137_0 with hva_ hvn_ hvc_
         rw [hva_] at ge137_0
         rw [hvc_] at ul137_0
         have HL137_0 := Aside0.mk (show Kd.V Kd.string 9 _ w.heap.size _ _ (rd_L1 y134 x3_1) from Kd.V_mk ul137_0 ge137_0)
         clear hva_ hvn_ hvc_ ge137_0 ul137_0
         clear hcc137 hce137
         have HR137_0 := Aside0.mk hi137_0
         have HC137_0 := Aside0.mk hl137_0
         clear hi137_0 hl137_0
         replace p137 := eq_true p137
         replace q137 := eq_true q137
         go_wp2
         go_roundg k2
         case measure => have := HK1.out; have := HK2.out; omega
         case rel => exact ⟨(x1_2), (wrap64 (x3_1 + 1)), (by first | rfl | (simp; done) | (simp [*]; done)), H', ⟨by have := HK1.out; have := HK2.out; omega⟩, ⟨(bru_ HO_1)⟩, ⟨by (with_reducible repeat (first | apply Kd.N_alloc | apply Kd.N_drewN | apply Kd.N_drew)); exact HO_2.out⟩, ⟨by repeat (first | (with_reducible first | exact HB.out | apply below_alloc | apply pw_below_drewN | apply below_drew1) | exact HB.out)⟩⟩
       ·rw [if_neg c23] at H
        exact absurd H (by simp)
      ·rw [if_neg c22] at H
       exact absurd H (by simp)
   ·rw [if_neg c20] at H
    have c20b0 : decide (x3_1 < (y134.length : Int)) = false := decide_eq_false c20
    clear c20
    obtain rfl := Option.some.inj H
    obtain ⟨Ao28, co28, eo28⟩ := Kd.N_slice HO_2.out
    subst eo28
    go_wp2
    go_ret
    exact ⟨_, by first | rfl | (simp [errW_none, errW_some] <;> rfl) | (simp [*, errW_none, errW_some] <;> rfl), by (with_reducible repeat (first | apply Kd.R_alloc | apply Kd.R_drewN | apply Kd.R_drew)); exact HO_1.out, by repeat (first | (with_reducible first | exact HB.out | apply below_alloc | apply pw_below_drewN | apply below_drew1) | exact HB.out)⟩

/-! ### spec_l03New: function 110 -/
def spec_l03New.f  : Option (List Int × List Int × List Int × Int × Int × ByteArray) := if 32 ≤ 35184372088832 then (some ((([] : List Int)), (([] : List Int)), (List.replicate 32 0), 0, 10, (⟨#[]⟩ : ByteArray))) else (none)
set_option maxHeartbeats 8000000 in
set_option maxRecDepth 100000 in
theorem spec_l03New.calls  (r1 : List Int) (r2 : List Int) (r3 : List Int) (r4 : Int) (r5 : Int) (r6 : ByteArray) (w : World) (h : spec_l03New.f  = some (r1, r2, r3, r4, r5, r6)) :
  Calls Tryd.prog 110 #[] w fun e w' => ∃ v0_ v1_ v2_ : Value, e = .returned (.agg #[v0_, v1_, v2_, .int .i64 r4, .int .i64 r5, .string r6]) ∧ Kd.R (Kd.int .i64) 3 w' w.heap.size (fun k_ => some k_ ≠ (v1_ : Value).ownBlock ∧ some k_ ≠ (v2_ : Value).ownBlock) v0_ r1 ∧ Kd.R (Kd.int .i64) 3 w' w.heap.size (fun k_ => some k_ ≠ (v0_ : Value).ownBlock ∧ some k_ ≠ (v2_ : Value).ownBlock) v1_ r2 ∧ Kd.R (Kd.int .i64) 3 w' w.heap.size (fun k_ => some k_ ≠ (v0_ : Value).ownBlock ∧ some k_ ≠ (v1_ : Value).ownBlock) v2_ r3 ∧ Below w.heap.size w w' := by
 have hu52 := Tryd.underlying52
 have HB := Aside0.mk (Below.refl w.heap.size w)
 have H : (if 32 ≤ 35184372088832 then (some ((([] : List Int)), (([] : List Int)), (List.replicate 32 0), 0, 10, (⟨#[]⟩ : ByteArray))) else (none)) = some (r1, r2, r3, r4, r5, r6) := h
 clear h
 obtain ⟨y144, hy144⟩ : ∃ y_ : List Int, y_ = (([] : List Int)) := ⟨_, rfl⟩
 replace H : (if 32 ≤ 35184372088832 then (some (y144, (([] : List Int)), (List.replicate 32 0), 0, 10, (⟨#[]⟩ : ByteArray))) else (none)) = some (r1, r2, r3, r4, r5, r6) := by first | (rw [hy144]; with_reducible exact H) | (have H2_ := (Option.bind_some _ _).symm.trans H; rw [hy144]; with_reducible exact H2_) | (have H2_ := (Option.bind_some _ _).symm.trans H; with_reducible exact H2_) | with_reducible exact H | (rw [hy144]; exact H) | exact H
 have Ny144 := Aside0.mk hy144
 clear hy144
 obtain ⟨y147, hy147⟩ : ∃ y_ : List Int, y_ = (([] : List Int)) := ⟨_, rfl⟩
 replace H : (if 32 ≤ 35184372088832 then (some (y144, y147, (List.replicate 32 0), 0, 10, (⟨#[]⟩ : ByteArray))) else (none)) = some (r1, r2, r3, r4, r5, r6) := by first | (rw [hy147]; with_reducible exact H) | (have H2_ := (Option.bind_some _ _).symm.trans H; rw [hy147]; with_reducible exact H2_) | (have H2_ := (Option.bind_some _ _).symm.trans H; with_reducible exact H2_) | with_reducible exact H | (rw [hy147]; exact H) | exact H
 have Ny147 := Aside0.mk hy147
 clear hy147
 by_cases c1 : 32 ≤ 35184372088832
 ·rw [if_pos c1] at H
  have c1b0 := eq_true c1
  have c1b1 : decide (32 ≤ 35184372088832) = true := decide_eq_true c1
  clear c1
  obtain ⟨y150, hy150⟩ : ∃ y_ : List Int, y_ = (List.replicate 32 0) := ⟨_, rfl⟩
  replace H : (some (y144, y147, y150, 0, 10, (⟨#[]⟩ : ByteArray))) = some (r1, r2, r3, r4, r5, r6) := by first | (rw [hy150]; with_reducible exact H) | (have H2_ := (Option.bind_some _ _).symm.trans H; rw [hy150]; with_reducible exact H2_) | (have H2_ := (Option.bind_some _ _).symm.trans H; with_reducible exact H2_) | with_reducible exact H | (rw [hy150]; exact H) | exact H
  have Ny150 := Aside0.mk hy150
  clear hy150
  simp only [Option.some.injEq, Prod.mk.injEq] at H
  obtain ⟨rfl, rfl, rfl, rfl, rfl, rfl⟩ := H
  go_enter Tryd.func110, Tryd.ntmps110
  go_wp2_with (first | ((with_reducible refine gate_dst (N := 0) rfl ?_); refine box_event ?hg (N := 0) ?hd (cs := #[.slice none 0 0, .slice none 0 0, .slice none 0 0, .int .i64 0, .int .i64 0, .string (⟨#[]⟩ : ByteArray)]) (t := 52) ?hr ?_; (case hd => rfl); (case hg => rfl); (case hr => first | (go_simp; done) | (go_simp; rfl)); intro gb143 hg w2 hbox hb; have n0_ := Aside0.mk (below_step bq1_ hb); have n1_ := Aside0.mk (hbox); have n2_ := Aside0.mk ((by rw [hg]; exact (below_size bq1_) : w.heap.size ≤ gb143)); have n3_ := Aside0.mk ((by rw [hg]; exact (below_size bq1_) : w.heap.size ≤ gb143)); clear HB; have HB := n0_; have BK143 := n1_; have GW143 := n2_; have GE143 := n3_; clear n0_ n1_ n2_ n3_; clear hb hbox hg) | ((with_reducible refine gate_dst (N := 1) rfl ?_); refine Kd.R_lit (Kd.int .i64) _ 3 ?hg (N := 1) ?hd (xs := ([] : List Int)) (inner := []) (ok := fun _ => True) (okp := fun _ => True) ?hr ?hp (fun _ hk => hk) trivial (Below.refl _ _) (Nat.le_refl _) (by simp) ?_; (case hd => rfl); (case hg => rfl); (case hr => first | (go_simp; done) | (go_simp; rfl)); (case hp => exact (Reps.none _ _)); intro v145 w3 ho4 hb hg_ hnew_; clear hg_ hnew_; (first | rw [← Ny144.out] at ho4 | (simp only [Int.reduceToNat] at ho4; rw [← Ny144.out] at ho4)); have HO146 := Aside0.mk (Kd.R_lower ho4 (below_size bq0_)); replace BK143 := Aside0.mk (bbb_ BK143 hb); replace HB := Aside0.mk (below_step bq0_ hb); clear hb ho4) | ((with_reducible refine gate_dst (N := 2) rfl ?_); refine Kd.R_lit (Kd.int .i64) _ 3 ?hg (N := 2) ?hd (xs := ([] : List Int)) (inner := []) (ok := fun _ => True) (okp := fun _ => True) ?hr ?hp (fun _ hk => hk) trivial (Below.refl _ _) (Nat.le_refl _) (by simp) ?_; (case hd => rfl); (case hg => rfl); (case hr => first | (go_simp; done) | (go_simp; rfl)); (case hp => exact (Reps.none _ _)); intro v148 w5 ho6 hb hg_ hnew_; clear hg_ hnew_; (first | rw [← Ny147.out] at ho6 | (simp only [Int.reduceToNat] at ho6; rw [← Ny147.out] at ho6)); have n0_ := Aside0.mk (Kd.R_elder' (bru_ HO146) (Kd.R_base ho6) hb); have n1_ := Aside0.mk (Kd.R_lower (Kd.R_new' ho6 (Kd.R_lt (bru_ HO146))) (below_size bq0_)); have n2_ := Aside0.mk (bbb_ BK143 hb); have n3_ := Aside0.mk (below_step bq0_ hb); clear HO146; clear BK143; clear HB; have HO146 := n0_; have HO149 := n1_; have BK143 := n2_; have HB := n3_; clear n0_ n1_ n2_ n3_; clear hb ho6) | ((with_reducible refine gate_dst (N := 3) rfl ?_); refine Kd.R_make (Kd.int .i64) _ 3 rfl (N := 3) rfl 50 _ _ rfl 32 rfl rfl Tryd.underlying50 (.int .i64 0) 8 info3 rfl (by decide) (by omega) 0 (ok := fun _ => True) (okp := fun _ => True) rfl (fun _ hk => hk) trivial (by omega) (by omega) (Below.refl _ _) (Nat.le_refl _) ?_; intro v151 w7 ho8 hb hg_ hnew_; clear hg_ hnew_; (first | rw [← Ny150.out] at ho8 | (simp only [Int.reduceToNat] at ho8; rw [← Ny150.out] at ho8)); have n0_ := Aside0.mk (Kd.R_elder' (bru_ HO146) (Kd.R_base ho8) hb); have n1_ := Aside0.mk (Kd.R_elder' (bru_ HO149) (Kd.R_base ho8) hb); have n2_ := Aside0.mk (Kd.R_lower (Kd.R_new' (Kd.R_new' ho8 (Kd.R_lt (bru_ HO146))) (Kd.R_lt (bru_ HO149))) (below_size bq0_)); have n3_ := Aside0.mk (bbb_ BK143 hb); have n4_ := Aside0.mk (below_step bq0_ hb); clear HO146; clear HO149; clear BK143; clear HB; have HO146 := n0_; have HO149 := n1_; have HO152 := n2_; have BK143 := n3_; have HB := n4_; clear n0_ n1_ n2_ n3_ n4_; clear hb ho8; obtain ⟨Ao9, co9, eo9⟩ := Kd.R_slice HO152.out; subst eo9; obtain ⟨Ao10, co10, eo10⟩ := Kd.R_slice HO149.out; subst eo10; obtain ⟨Ao11, co11, eo11⟩ := Kd.R_slice HO146.out; subst eo11; obtain ⟨hcz12_0, hcz12_1, hcz12_2, hcz12_3, hcz12_4, hcz12_5⟩ := be6_ BK143; obtain ⟨hfz12_0, hfz12_1, hfz12_2, hfz12_3, hfz12_4, hfz12_5⟩ := bf6_ BK143))
  refine bodyPost_ret (results_cell_row rfl _ _ gb143 52 #[.slice Ao11 y144.length co11, .slice Ao10 y147.length co10, .slice Ao9 y150.length co9, .int .i64 0, .int .i64 10, .string (⟨#[]⟩ : ByteArray)] (0, 0) _ rfl (by (with_reducible repeat (first | refine blk_drewN ?_ _ | refine blk_drew ?_ | refine blk_alloc ?_ _)); refine blk_put (cs := #[.slice Ao11 y144.length co11, .slice Ao10 y147.length co10, .slice Ao9 y150.length co9, .int .i64 0, .int .i64 10, .string (⟨#[]⟩ : ByteArray)]) ?_ 5 _ rfl; (with_reducible repeat (first | refine blk_drewN ?_ _ | refine blk_drew ?_ | refine blk_alloc ?_ _)); refine blk_put (cs := #[.slice Ao11 y144.length co11, .slice Ao10 y147.length co10, .slice Ao9 y150.length co9, .int .i64 0, .int .i64 0, .string (⟨#[]⟩ : ByteArray)]) ?_ 4 _ rfl; (with_reducible repeat (first | refine blk_drewN ?_ _ | refine blk_drew ?_ | refine blk_alloc ?_ _)); refine blk_put (cs := #[.slice Ao11 y144.length co11, .slice Ao10 y147.length co10, .slice Ao9 y150.length co9, .int .i64 0, .int .i64 0, .string (⟨#[]⟩ : ByteArray)]) ?_ 3 _ rfl; (with_reducible repeat (first | refine blk_drewN ?_ _ | refine blk_drew ?_ | refine blk_alloc ?_ _)); refine blk_put (cs := #[.slice Ao11 y144.length co11, .slice Ao10 y147.length co10, .slice none 0 0, .int .i64 0, .int .i64 0, .string (⟨#[]⟩ : ByteArray)]) ?_ 2 _ rfl; (with_reducible repeat (first | refine blk_drewN ?_ _ | refine blk_drew ?_ | refine blk_alloc ?_ _)); refine blk_put (cs := #[.slice Ao11 y144.length co11, .slice none 0 0, .slice none 0 0, .int .i64 0, .int .i64 0, .string (⟨#[]⟩ : ByteArray)]) ?_ 1 _ rfl; (with_reducible repeat (first | refine blk_drewN ?_ _ | refine blk_drew ?_ | refine blk_alloc ?_ _)); refine blk_put (cs := #[.slice none 0 0, .slice none 0 0, .slice none 0 0, .int .i64 0, .int .i64 0, .string (⟨#[]⟩ : ByteArray)]) ?_ 0 _ rfl; (with_reducible repeat (first | refine blk_drewN ?_ _ | refine blk_drew ?_ | refine blk_alloc ?_ _)); exact BK143.out) Tryd.underlying52 rfl (by kernel_rfl)) rfl ?_
  exact ⟨_, _, _, by first | rfl | (simp [errW_none, errW_some] <;> rfl) | (simp [*, errW_none, errW_some] <;> rfl), by (with_reducible repeat (first | apply Kd.R_alloc | apply Kd.R_drewN | apply Kd.R_drew)); exact Kd.R_mono (brs6c_ HO146 BK143) (fun _ hk => ⟨hk.1.1.2, hk.1.2⟩), by (with_reducible repeat (first | apply Kd.R_alloc | apply Kd.R_drewN | apply Kd.R_drew)); exact Kd.R_mono (brs6c_ HO149 BK143) (fun _ hk => ⟨hk.1.1.2, hk.1.2⟩), by (with_reducible repeat (first | apply Kd.R_alloc | apply Kd.R_drewN | apply Kd.R_drew)); exact Kd.R_mono (brs6c_ HO152 BK143) (fun _ hk => ⟨hk.1.1.2, hk.1.2⟩), by repeat (first | (with_reducible first | exact HB.out | apply below_alloc | apply pw_below_drewN | apply below_drew1 | refine below_set ?_ GE143.out) | exact HB.out)⟩
 ·rw [if_neg c1] at H
  exact absurd H (by simp)

end Go.Proofs.YtbbfahkmjfmmjaaDoor.PNewM
