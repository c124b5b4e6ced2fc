-- laid by a program of this session out of the translation's own print: Lean checks it
import Derived.Test.YtcelnpmahnblpaaPFnDatax0
import Derived.Test.YtcelnpmahnblpaaPFnDatax1
namespace Go.Proofs.Ytcelnpmahnblpaa.PFnData
open Go.RowKit Go.Proofs.YtcelnpmahnblpaaW.PrintWords Go.Proofs.YtcelnpmahnblpaaW.PrintLast Go.Proofs.YtcelnpmahnblpaaW.PrintMore
attribute [local go_sem] max2_int min2_int max_two min_two max_three min_three max_four min_four   -- for this text's walks alone
set_option linter.unusedVariables false
set_option linter.unusedSimpArgs false

/-- A state of type 24 at block g of W; what its slices lead to came in by w0. -/
theorem cbu_ {w W : World} {g : Nat} {o : Obj} (h : Aside0 (w.heap[g]? = some o)) (u : w.heap[g]? = some o → W.heap[g]? = some o := by intro h; (with_reducible repeat (first | refine blk_drewN ?_ _ | refine blk_drew ?_ | refine blk_alloc ?_ _)); exact h) : W.heap[g]? = some o := u h.out
theorem cbb_ {w W W1 : World} {g : Nat} {o : Obj} (h : Aside0 (w.heap[g]? = some o)) (hb : Below W.heap.size W W1) (u : w.heap[g]? = some o → W.heap[g]? = some o := by intro h; (with_reducible repeat (first | refine blk_drewN ?_ _ | refine blk_drew ?_ | refine blk_alloc ?_ _)); exact h) : W1.heap[g]? = some o := blk_below (u h.out) hb
theorem cru_ {α : Type} {d : Kd α} {e base : Nat} {ok : Nat → Prop} {w W : World} {v : Value} {xs : List α} (h : Aside0 (d.R e w base ok v xs)) (u : d.R e w base ok v xs → d.R e W base ok v xs := by intro h; (with_reducible repeat (first | apply Kd.R_alloc | apply Kd.R_drewN | apply Kd.R_drew)); exact h) : d.R e W base ok v xs := u h.out
theorem ce6_ {w : World} {g t : Nat} {a0 a1 a2 a3 a4 a5 : Value} (h : Aside0 (w.heap[g]? = some (.cells #[a0, a1, a2, a3, a4, a5] t (0, 0)))) : w.cell? ⟨g, 0, none⟩ = some a0 ∧ w.cell? ⟨g, 1, none⟩ = some a1 ∧ w.cell? ⟨g, 2, none⟩ = some a2 ∧ w.cell? ⟨g, 3, none⟩ = some a3 ∧ w.cell? ⟨g, 4, none⟩ = some a4 ∧ w.cell? ⟨g, 5, none⟩ = some a5 :=
 ⟨(blk_cell h.out 0).trans rfl, (blk_cell h.out 1).trans rfl, (blk_cell h.out 2).trans rfl, (blk_cell h.out 3).trans rfl, (blk_cell h.out 4).trans rfl, (blk_cell h.out 5).trans rfl⟩
theorem cf6_ {w : World} {g t : Nat} {cs : Array Value} (h : Aside0 (w.heap[g]? = some (.cells cs t (0, 0)))) : w.frozen? ⟨g, 0, none⟩ = false ∧ w.frozen? ⟨g, 1, none⟩ = false ∧ w.frozen? ⟨g, 2, none⟩ = false ∧ w.frozen? ⟨g, 3, none⟩ = false ∧ w.frozen? ⟨g, 4, none⟩ = false ∧ w.frozen? ⟨g, 5, none⟩ = false :=
 ⟨blk_frozen h.out 0, blk_frozen h.out 1, blk_frozen h.out 2, blk_frozen h.out 3, blk_frozen h.out 4, blk_frozen h.out 5⟩
theorem cq0_ {p : Prop} (h : p := by repeat (first | (with_reducible first | exact HB.out | apply below_alloc | apply pw_below_drewN | apply below_drew1 | refine below_set ?_ GE127.out | refine below_set ?_ GE128.out) | exact HB.out)) : p := h
theorem cq1_ {p : Prop} (h : p := by repeat (first | (with_reducible first | exact HB.out | apply below_alloc | apply pw_below_drewN | apply below_drew1 | refine below_set ?_ GE127.out) | exact HB.out)) : p := h
theorem cq2_ {p : Prop} (h : p := by repeat (first | (with_reducible first | exact HB.out | apply below_alloc | apply pw_below_drewN | apply below_drew1) | exact HB.out)) : p := h
def IsS24 (w0 W : World) (g : Nat) (f0 : List Int) (f1 : List Int) (f2 : List Int) (f3 : Int) (f4 : Int) (f5 : ByteArray) : Prop := ∃ A0 c0, ∃ A1 c1, ∃ A2 c2, W.heap[g]? = some (.cells #[.slice A0 f0.length c0, .slice A1 f1.length c1, .slice A2 f2.length c2, .int .i64 f3, .int .i64 f4, .string f5] 24 (0, 0)) ∧ w0.heap.size ≤ g ∧ Kd.C (Kd.int .i64) w0 A0 f0.length f0 ∧ Kd.C (Kd.int .i64) w0 A1 f1.length f1 ∧ Kd.C (Kd.int .i64) w0 A2 f2.length f2
theorem IsS24.grown {w0 W : World} {g : Nat} {f0 : List Int} {f1 : List Int} {f2 : List Int} {f3 : Int} {f4 : Int} {f5 : ByteArray} {W1 : World} {row : Option Nat} (h : IsS24 w0 W g f0 f1 f2 f3 f4 f5) (hw : W.grownBy W1 row) (hne : some g ≠ row) : IsS24 w0 W1 g f0 f1 f2 f3 f4 f5 := by
 obtain ⟨A0, c0, A1, c1, A2, c2, hb, hg, hr0, hr1, hr2⟩ := h
 exact ⟨A0, c0, A1, c1, A2, c2, blk_grown hb hw hne, hg, hr0, hr1, hr2⟩
theorem IsS24.own_neN {w0 W : World} {g : Nat} {f0 : List Int} {f1 : List Int} {f2 : List Int} {f3 : Int} {f4 : Int} {f5 : ByteArray} {α : Type} {d : Kd α} {e : Nat} {base : Nat} {ok : Nat → Prop} {v : Value} {xs : List α} (h : IsS24 w0 W g f0 f1 f2 f3 f4 f5) (ho : Kd.N d e W base ok v xs) (ht : e ≠ 24) : some g ≠ v.ownBlock := by
 obtain ⟨A0, c0, A1, c1, A2, c2, hb, hg, hr0, hr1, hr2⟩ := h
 exact Kd.N_ne ho hb ht
theorem IsS24.fresh {w0 W : World} {g : Nat} {f0 : List Int} {f1 : List Int} {f2 : List Int} {f3 : Int} {f4 : Int} {f5 : ByteArray} (h : IsS24 w0 W g f0 f1 f2 f3 f4 f5) : ∀ k, W.heap.size ≤ k → k ≠ g := by
 obtain ⟨A0, c0, A1, c1, A2, c2, hb, hg, hr0, hr1, hr2⟩ := h
 exact Kd.freshB hb
theorem IsS24.kept {w0 W : World} {g : Nat} {f0 : List Int} {f1 : List Int} {f2 : List Int} {f3 : Int} {f4 : Int} {f5 : ByteArray} {W1 : World} {S : Nat → Prop} (h : IsS24 w0 W g f0 f1 f2 f3 f4 f5) (hk : Kept W W1 S) (hne : ¬ S g) : IsS24 w0 W1 g f0 f1 f2 f3 f4 f5 := by
 obtain ⟨A0, c0, A1, c1, A2, c2, hb, hg, hr0, hr1, hr2⟩ := h
 exact ⟨A0, c0, A1, c1, A2, c2, blk_kept hb hk hne, hg, hr0, hr1, hr2⟩
theorem IsS24.below {w0 W : World} {g : Nat} {f0 : List Int} {f1 : List Int} {f2 : List Int} {f3 : Int} {f4 : Int} {f5 : ByteArray} {W1 : World} (h : IsS24 w0 W g f0 f1 f2 f3 f4 f5) (hw : Below W.heap.size W W1) : IsS24 w0 W1 g f0 f1 f2 f3 f4 f5 := h.grown (grown_of_below hw none) (by simp)
theorem IsS24.alloc {w0 W : World} {g : Nat} {f0 : List Int} {f1 : List Int} {f2 : List Int} {f3 : Int} {f4 : Int} {f5 : ByteArray} (h : IsS24 w0 W g f0 f1 f2 f3 f4 f5) (o : Obj) : IsS24 w0 (W.alloc o) g f0 f1 f2 f3 f4 f5 := h.below (below_alloc (Below.refl _ _) o)
theorem IsS24.drewN {w0 W : World} {g : Nat} {f0 : List Int} {f1 : List Int} {f2 : List Int} {f3 : Int} {f4 : Int} {f5 : ByteArray} (h : IsS24 w0 W g f0 f1 f2 f3 f4 f5) (m : Nat) : IsS24 w0 (W.drewN m) g f0 f1 f2 f3 f4 f5 := h
theorem IsS24.drew {w0 W : World} {g : Nat} {f0 : List Int} {f1 : List Int} {f2 : List Int} {f3 : Int} {f4 : Int} {f5 : ByteArray} (h : IsS24 w0 W g f0 f1 f2 f3 f4 f5) : IsS24 w0 W.drew g f0 f1 f2 f3 f4 f5 := h
theorem IsS24.at_ {w0 W : World} {g : Nat} {f0 : List Int} {f1 : List Int} {f2 : List Int} {f3 : Int} {f4 : Int} {f5 : ByteArray} {w' : World} {m : Nat} (hq : W.drewN m = w') (h : IsS24 w0 W g f0 f1 f2 f3 f4 f5) : IsS24 w0 w' g f0 f1 f2 f3 f4 f5 := by subst hq; exact IsS24.drewN h m
theorem IsS24.apart {w0 W : World} {g : Nat} {f0 : List Int} {f1 : List Int} {f2 : List Int} {f3 : Int} {f4 : Int} {f5 : ByteArray} {α : Type} {d : Kd α} {e : Nat} {base : Nat} {ok : Nat → Prop} {v : Value} {xs : List α} (h : IsS24 w0 W g f0 f1 f2 f3 f4 f5) (ho : d.R e W base ok v xs) (ht : ∀ q, q ∈ e :: d.E → q ≠ 24) : d.R e W base (fun k => ok k ∧ k ≠ g) v xs := by
 obtain ⟨A0, c0, A1, c1, A2, c2, hb, hg, hr0, hr1, hr2⟩ := h
 exact Kd.R_types ho hb ht
theorem IsS24.own_ne {w0 W : World} {g : Nat} {f0 : List Int} {f1 : List Int} {f2 : List Int} {f3 : Int} {f4 : Int} {f5 : ByteArray} {α : Type} {d : Kd α} {e : Nat} {base : Nat} {ok : Nat → Prop} {v : Value} {xs : List α} (h : IsS24 w0 W g f0 f1 f2 f3 f4 f5) (ho : d.R e W base ok v xs) (ht : e ≠ 24) : some g ≠ v.ownBlock := by
 obtain ⟨A0, c0, A1, c1, A2, c2, hb, hg, hr0, hr1, hr2⟩ := h
 exact Kd.R_ne ho hb ht
theorem IsS24.apartQ {w0 W : World} {g : Nat} {f0 : List Int} {f1 : List Int} {f2 : List Int} {f3 : Int} {f4 : Int} {f5 : ByteArray} {α : Type} {d : Kd α} {e : Nat} {base : Nat} {ok : Nat → Prop} {v : Value} {xs : List α} (h : IsS24 w0 W g f0 f1 f2 f3 f4 f5) (ho : d.Q e W base ok v xs) (ht : ∀ q, q ∈ e :: d.E → q ≠ 24) : d.Q e W base (fun k => ok k ∧ k ≠ g) v xs := by
 obtain ⟨A0, c0, A1, c1, A2, c2, hb, hg, hr0, hr1, hr2⟩ := h
 exact Kd.Q_types ho hb ht
theorem IsS24.own_neQ {w0 W : World} {g : Nat} {f0 : List Int} {f1 : List Int} {f2 : List Int} {f3 : Int} {f4 : Int} {f5 : ByteArray} {α : Type} {d : Kd α} {e : Nat} {base : Nat} {ok : Nat → Prop} {v : Value} {xs : List α} (h : IsS24 w0 W g f0 f1 f2 f3 f4 f5) (ho : d.Q e W base ok v xs) (ht : e ≠ 24) : some g ≠ v.ownBlock := by
 obtain ⟨A0, c0, A1, c1, A2, c2, hb, hg, hr0, hr1, hr2⟩ := h
 exact Kd.Q_ne ho hb ht
theorem IsS24.apartS {w0 W : World} {g : Nat} {f0 : List Int} {f1 : List Int} {f2 : List Int} {f3 : Int} {f4 : Int} {f5 : ByteArray} {α : Type} {d : Kd α} {e : Nat} {base : Nat} {ok : Nat → Prop} {v : Value} {xs : List α} (h : IsS24 w0 W g f0 f1 f2 f3 f4 f5) (ho : d.S e W base ok v xs) (ht : ∀ q, q ∈ e :: d.E → q ≠ 24) : d.S e W base (fun k => ok k ∧ k ≠ g) v xs := by
 obtain ⟨A0, c0, A1, c1, A2, c2, hb, hg, hr0, hr1, hr2⟩ := h
 exact Kd.S_types ho hb ht
theorem IsS24.own_neS {w0 W : World} {g : Nat} {f0 : List Int} {f1 : List Int} {f2 : List Int} {f3 : Int} {f4 : Int} {f5 : ByteArray} {α : Type} {d : Kd α} {e : Nat} {base : Nat} {ok : Nat → Prop} {v : Value} {xs : List α} (h : IsS24 w0 W g f0 f1 f2 f3 f4 f5) (ho : d.S e W base ok v xs) (ht : e ≠ 24) : some g ≠ v.ownBlock := by
 obtain ⟨A0, c0, A1, c1, A2, c2, hb, hg, hr0, hr1, hr2⟩ := h
 exact Kd.S_ne ho hb ht
theorem IsS24.lt {w0 W : World} {g : Nat} {f0 : List Int} {f1 : List Int} {f2 : List Int} {f3 : Int} {f4 : Int} {f5 : ByteArray} (h : IsS24 w0 W g f0 f1 f2 f3 f4 f5) : g < W.heap.size := by
 obtain ⟨A0, c0, A1, c1, A2, c2, hb, hg, hr0, hr1, hr2⟩ := h
 exact blk_lt hb
theorem IsS24.ge {w0 W : World} {g : Nat} {f0 : List Int} {f1 : List Int} {f2 : List Int} {f3 : Int} {f4 : Int} {f5 : ByteArray} (h : IsS24 w0 W g f0 f1 f2 f3 f4 f5) : w0.heap.size ≤ g := by
 obtain ⟨A0, c0, A1, c1, A2, c2, hb, hg, hr0, hr1, hr2⟩ := h
 exact hg
theorem IsS24.ne_blk {w0 W : World} {g : Nat} {f0 : List Int} {f1 : List Int} {f2 : List Int} {f3 : Int} {f4 : Int} {f5 : ByteArray} {a : Nat} {cs : Array Value} {t : TypeId} {fr : Nat × Nat} (h : IsS24 w0 W g f0 f1 f2 f3 f4 f5) (hb2 : W.heap[a]? = some (.cells cs t fr)) (ht : t ≠ 24) : g ≠ a := by
 obtain ⟨A0, c0, A1, c1, A2, c2, hb, hg, hr0, hr1, hr2⟩ := h
 rintro rfl
 rw [hb] at hb2
 injection hb2 with hb2
 injection hb2 with _ ht2
 exact ht ht2.symm
theorem IsS24.far {w0 W : World} {g : Nat} {f0 : List Int} {f1 : List Int} {f2 : List Int} {f3 : Int} {f4 : Int} {f5 : ByteArray} {p : Addr} (h : IsS24 w0 W g f0 f1 f2 f3 f4 f5) (hne : g ≠ p.block) (u : Value) : IsS24 w0 (W.setCell p u) g f0 f1 f2 f3 f4 f5 := by
 obtain ⟨A0, c0, A1, c1, A2, c2, hb, hg, hr0, hr1, hr2⟩ := h
 exact ⟨A0, c0, A1, c1, A2, c2, blk_far hb hne u, hg, hr0, hr1, hr2⟩
theorem cellS24_0 {W : World} {g : Nat} {A0 : Option Addr} {c0 : Nat} {A1 : Option Addr} {c1 : Nat} {A2 : Option Addr} {c2 : Nat} {f0 : List Int} {f1 : List Int} {f2 : List Int} {f3 : Int} {f4 : Int} {f5 : ByteArray} (h : W.heap[g]? = some (.cells #[.slice A0 f0.length c0, .slice A1 f1.length c1, .slice A2 f2.length c2, .int .i64 f3, .int .i64 f4, .string f5] 24 (0, 0))) : W.cell? ⟨g, 0, none⟩ = some (.slice A0 f0.length c0) := (blk_cell h 0).trans rfl
theorem cellS24_1 {W : World} {g : Nat} {A0 : Option Addr} {c0 : Nat} {A1 : Option Addr} {c1 : Nat} {A2 : Option Addr} {c2 : Nat} {f0 : List Int} {f1 : List Int} {f2 : List Int} {f3 : Int} {f4 : Int} {f5 : ByteArray} (h : W.heap[g]? = some (.cells #[.slice A0 f0.length c0, .slice A1 f1.length c1, .slice A2 f2.length c2, .int .i64 f3, .int .i64 f4, .string f5] 24 (0, 0))) : W.cell? ⟨g, 1, none⟩ = some (.slice A1 f1.length c1) := (blk_cell h 1).trans rfl
theorem cellS24_2 {W : World} {g : Nat} {A0 : Option Addr} {c0 : Nat} {A1 : Option Addr} {c1 : Nat} {A2 : Option Addr} {c2 : Nat} {f0 : List Int} {f1 : List Int} {f2 : List Int} {f3 : Int} {f4 : Int} {f5 : ByteArray} (h : W.heap[g]? = some (.cells #[.slice A0 f0.length c0, .slice A1 f1.length c1, .slice A2 f2.length c2, .int .i64 f3, .int .i64 f4, .string f5] 24 (0, 0))) : W.cell? ⟨g, 2, none⟩ = some (.slice A2 f2.length c2) := (blk_cell h 2).trans rfl
theorem cellS24_3 {W : World} {g : Nat} {A0 : Option Addr} {c0 : Nat} {A1 : Option Addr} {c1 : Nat} {A2 : Option Addr} {c2 : Nat} {f0 : List Int} {f1 : List Int} {f2 : List Int} {f3 : Int} {f4 : Int} {f5 : ByteArray} (h : W.heap[g]? = some (.cells #[.slice A0 f0.length c0, .slice A1 f1.length c1, .slice A2 f2.length c2, .int .i64 f3, .int .i64 f4, .string f5] 24 (0, 0))) : W.cell? ⟨g, 3, none⟩ = some (.int .i64 f3) := (blk_cell h 3).trans rfl
theorem IsS24.set_3 {w0 W : World} {g : Nat} {f0 : List Int} {f1 : List Int} {f2 : List Int} {f3 : Int} {f4 : Int} {f5 : ByteArray} (h : IsS24 w0 W g f0 f1 f2 f3 f4 f5) (x : Int) : IsS24 w0 (W.setCell ⟨g, 3, none⟩ (.int .i64 x)) g f0 f1 f2 x f4 f5 := by
 obtain ⟨A0, c0, A1, c1, A2, c2, hb, hg, hr0, hr1, hr2⟩ := h
 exact ⟨A0, c0, A1, c1, A2, c2, by simpa using blk_set hb 3 (.int .i64 x), hg, hr0, hr1, hr2⟩
theorem cellS24_4 {W : World} {g : Nat} {A0 : Option Addr} {c0 : Nat} {A1 : Option Addr} {c1 : Nat} {A2 : Option Addr} {c2 : Nat} {f0 : List Int} {f1 : List Int} {f2 : List Int} {f3 : Int} {f4 : Int} {f5 : ByteArray} (h : W.heap[g]? = some (.cells #[.slice A0 f0.length c0, .slice A1 f1.length c1, .slice A2 f2.length c2, .int .i64 f3, .int .i64 f4, .string f5] 24 (0, 0))) : W.cell? ⟨g, 4, none⟩ = some (.int .i64 f4) := (blk_cell h 4).trans rfl
theorem IsS24.set_4 {w0 W : World} {g : Nat} {f0 : List Int} {f1 : List Int} {f2 : List Int} {f3 : Int} {f4 : Int} {f5 : ByteArray} (h : IsS24 w0 W g f0 f1 f2 f3 f4 f5) (x : Int) : IsS24 w0 (W.setCell ⟨g, 4, none⟩ (.int .i64 x)) g f0 f1 f2 f3 x f5 := by
 obtain ⟨A0, c0, A1, c1, A2, c2, hb, hg, hr0, hr1, hr2⟩ := h
 exact ⟨A0, c0, A1, c1, A2, c2, by simpa using blk_set hb 4 (.int .i64 x), hg, hr0, hr1, hr2⟩
theorem cellS24_5 {W : World} {g : Nat} {A0 : Option Addr} {c0 : Nat} {A1 : Option Addr} {c1 : Nat} {A2 : Option Addr} {c2 : Nat} {f0 : List Int} {f1 : List Int} {f2 : List Int} {f3 : Int} {f4 : Int} {f5 : ByteArray} (h : W.heap[g]? = some (.cells #[.slice A0 f0.length c0, .slice A1 f1.length c1, .slice A2 f2.length c2, .int .i64 f3, .int .i64 f4, .string f5] 24 (0, 0))) : W.cell? ⟨g, 5, none⟩ = some (.string f5) := (blk_cell h 5).trans rfl
theorem IsS24.set_5 {w0 W : World} {g : Nat} {f0 : List Int} {f1 : List Int} {f2 : List Int} {f3 : Int} {f4 : Int} {f5 : ByteArray} (h : IsS24 w0 W g f0 f1 f2 f3 f4 f5) (x : ByteArray) : IsS24 w0 (W.setCell ⟨g, 5, none⟩ (.string x)) g f0 f1 f2 f3 f4 x := by
 obtain ⟨A0, c0, A1, c1, A2, c2, hb, hg, hr0, hr1, hr2⟩ := h
 exact ⟨A0, c0, A1, c1, A2, c2, by simpa using blk_set hb 5 (.string x), hg, hr0, hr1, hr2⟩
theorem IsS24.new (w0 W : World) (A0 : Option Addr) (c0 : Nat) (A1 : Option Addr) (c1 : Nat) (A2 : Option Addr) (c2 : Nat) (f0 : List Int) (f1 : List Int) (f2 : List Int) (f3 : Int) (f4 : Int) (f5 : ByteArray) (hB : Below w0.heap.size w0 W) (hr0 : Kd.C (Kd.int .i64) w0 A0 f0.length f0) (hr1 : Kd.C (Kd.int .i64) w0 A1 f1.length f1) (hr2 : Kd.C (Kd.int .i64) w0 A2 f2.length f2) : IsS24 w0 (W.alloc (.cells #[.slice A0 f0.length c0, .slice A1 f1.length c1, .slice A2 f2.length c2, .int .i64 f3, .int .i64 f4, .string f5] 24)) W.heap.size f0 f1 f2 f3 f4 f5 := ⟨A0, c0, A1, c1, A2, c2, by simpa using heap_alloc_new W _, hB.size, hr0, hr1, hr2⟩

/-! ### impl_Data_cell: function 54 -/
def impl_Data_cell.f (s0_0 : List Int) (s0_1 : List Int) (s0_2 : List Int) (s0_3 : Int) (s0_4 : Int) (s0_5 : ByteArray) (a1 : Int) : Option (Int × Bool × Int × Int × ByteArray) := (impl_in.f a1 4096 (wrap64 ((wrap64 (4096 + (wrap64 (4 * s0_3)))) - 1))).bind fun t126 => (if t126 = true then (if (Int.tmod a1 4) = 0 then (some (wrap64 (Int.tdiv (wrap64 (a1 - 4096)) 4), true, s0_3, s0_4, s0_5)) else (some (0, false, s0_3, s0_4, s0_5))) else (some (0, false, s0_3, s0_4, s0_5)))
set_option maxHeartbeats 8000000 in
set_option maxRecDepth 100000 in
theorem impl_Data_cell.calls (g : Nat) (s0_0 : List Int) (s0_1 : List Int) (s0_2 : List Int) (s0_3 : Int) (s0_4 : Int) (s0_5 : ByteArray) (a1 : Int) (r1 : Int) (r2 : Bool) (r3 : Int) (r4 : Int) (r5 : ByteArray) (w0 w : World) (hI : IsS24 w0 w g s0_0 s0_1 s0_2 s0_3 s0_4 s0_5) (hB : Below w0.heap.size w0 w) (h : impl_Data_cell.f s0_0 s0_1 s0_2 s0_3 s0_4 s0_5 a1 = some (r1, r2, r3, r4, r5)) :
  Calls Try.prog 54 #[.pointer (some ⟨g, 0, none⟩), .int .i64 a1] w fun e w' => e = .returned (.tuple #[.int .i64 r1, .bool r2]) ∧ IsS24 w0 w' g s0_0 s0_1 s0_2 r3 r4 r5 ∧ Below w0.heap.size w0 w' ∧ KeepBut w w' g none := by
 have HI0 := am_ hI
 have HK := am_ (KeepBut.refl w g none)
 have HL := am_ hB.size
 clear hI
 have HW0 := am_ hB.size
 have HB := am_ hB
 clear hB
 have H : ((impl_in.f a1 4096 (wrap64 ((wrap64 (4096 + (wrap64 (4 * s0_3)))) - 1))).bind fun t126 => (if t126 = true then (if (Int.tmod a1 4) = 0 then (some (wrap64 (Int.tdiv (wrap64 (a1 - 4096)) 4), true, s0_3, s0_4, s0_5)) else (some (0, false, s0_3, s0_4, s0_5))) else (some (0, false, s0_3, s0_4, s0_5)))) = some (r1, r2, r3, r4, r5) := h
 clear h
 replace H := Option.bind_eq_some_iff.mp H
 obtain ⟨t126, A30, H⟩ := H
 replace H : (if t126 = true then (if (Int.tmod a1 4) = 0 then (some (wrap64 (Int.tdiv (wrap64 (a1 - 4096)) 4), true, s0_3, s0_4, s0_5)) else (some (0, false, s0_3, s0_4, s0_5))) else (some (0, false, s0_3, s0_4, s0_5))) = some (r1, r2, r3, r4, r5) := H
 have A3 := am_ A30
 clear A30
 by_cases c4 : t126 = true
 ·subst c4
  have H1 : (if (Int.tmod a1 4) = 0 then (some (wrap64 (Int.tdiv (wrap64 (a1 - 4096)) 4), true, s0_3, s0_4, s0_5)) else (some (0, false, s0_3, s0_4, s0_5))) = some (r1, r2, r3, r4, r5) := by rw [if_pos rfl] at H; first | done | exact H
  clear H
  have H := H1
  clear H1
  by_cases c5 : (Int.tmod a1 4) = 0
  ·rw [if_pos c5] at H
   have c5b0 : ((Int.tmod a1 4) == 0) = true := beq_iff_eq.mpr c5
   have c5b1 : ((Int.tmod a1 4) != 0) = false := bne_eq_false_iff_eq.mpr c5
   clear c5
   simp only [Option.some.injEq, Prod.mk.injEq] at H
   obtain ⟨rfl, rfl, rfl, rfl, rfl⟩ := H
   obtain ⟨ASz6_0, cSz6_0, ASz6_1, cSz6_1, ASz6_2, cSz6_2, HGz6, hgz6, HSz6_0, HSz6_1, HSz6_2⟩ := HI0.out
   have hcz6_0 := cellS24_0 HGz6
   have hcz6_1 := cellS24_1 HGz6
   have hcz6_2 := cellS24_2 HGz6
   have hcz6_3 := cellS24_3 HGz6
   have hcz6_4 := cellS24_4 HGz6
   have hcz6_5 := cellS24_5 HGz6
   have hfz6_3 := blk_frozen HGz6 3
   have hfz6_4 := blk_frozen HGz6 4
   have hfz6_5 := blk_frozen HGz6 5
   clear HGz6 hgz6
   go_enter Try.func54, Try.ntmps54
   go_wp2_with (first | ((with_reducible refine gate_callee (f := 49) rfl ?_); refine goesL_ (some 14) rfl rfl Try.func49 (by kernel_rfl) rfl #[.int .i64 a1, .int .i64 4096, .int .i64 (wrap64 ((wrap64 (4096 + (wrap64 (4 * s0_3)))) - 1))] rfl (by (try simp only [List.map_toArray, List.map_cons, List.map_nil]); first | done | rfl | (simp only [List.length_drop, List.length_take]; rfl)) ?_; (with_reducible refine (impl_in.calls a1 4096 (wrap64 ((wrap64 (4096 + (wrap64 (4 * s0_3)))) - 1)) true _ A3.out).mono ?_); rintro e w' ⟨rfl, ⟨nd, rfl⟩⟩; refine ⟨_, rfl, ?_⟩))
   go_ret2
   exact ⟨by first | rfl | (simp [errW_none, errW_some] <;> rfl) | (simp [*, errW_none, errW_some] <;> rfl), by repeat (first | (with_reducible first | exact HI0.out | apply IsS24.alloc | apply IsS24.drewN | apply IsS24.drew | apply IsS24.set_3 | apply IsS24.set_4 | apply IsS24.set_5) | exact HI0.out), by repeat (first | (with_reducible first | exact HB.out | apply below_alloc | apply pw_below_drewN | apply below_drew1 | refine below_set ?_ (IsS24.ge HI0.out)) | exact HB.out), by repeat (first | (with_reducible first | exact HK.out | apply KeepBut.set_ | apply keep_drewN | apply keep_drew | apply keep_alloc) | exact HK.out)⟩
  ·rw [if_neg c5] at H
   have c5b0 : ((Int.tmod a1 4) == 0) = false := beq_eq_false_iff_ne.mpr c5
   have c5b1 : ((Int.tmod a1 4) != 0) = true := bne_iff_ne.mpr c5
   simp only [Option.some.injEq, Prod.mk.injEq] at H
   obtain ⟨rfl, rfl, rfl, rfl, rfl⟩ := H
   obtain ⟨ASz7_0, cSz7_0, ASz7_1, cSz7_1, ASz7_2, cSz7_2, HGz7, hgz7, HSz7_0, HSz7_1, HSz7_2⟩ := HI0.out
   have hcz7_0 := cellS24_0 HGz7
   have hcz7_1 := cellS24_1 HGz7
   have hcz7_2 := cellS24_2 HGz7
   have hcz7_3 := cellS24_3 HGz7
   have hcz7_4 := cellS24_4 HGz7
   have hcz7_5 := cellS24_5 HGz7
   have hfz7_3 := blk_frozen HGz7 3
   have hfz7_4 := blk_frozen HGz7 4
   have hfz7_5 := blk_frozen HGz7 5
   clear HGz7 hgz7
   go_enter Try.func54, Try.ntmps54
   go_wp2_with (first | ((with_reducible refine gate_callee (f := 49) rfl ?_); refine goesL_ (some 14) rfl rfl Try.func49 (by kernel_rfl) rfl #[.int .i64 a1, .int .i64 4096, .int .i64 (wrap64 ((wrap64 (4096 + (wrap64 (4 * s0_3)))) - 1))] rfl (by (try simp only [List.map_toArray, List.map_cons, List.map_nil]); first | done | rfl | (simp only [List.length_drop, List.length_take]; rfl)) ?_; (with_reducible refine (impl_in.calls a1 4096 (wrap64 ((wrap64 (4096 + (wrap64 (4 * s0_3)))) - 1)) true _ A3.out).mono ?_); rintro e w' ⟨rfl, ⟨nd, rfl⟩⟩; refine ⟨_, rfl, ?_⟩))
   go_ret2
   exact ⟨by first | rfl | (simp [errW_none, errW_some] <;> rfl) | (simp [*, errW_none, errW_some] <;> rfl), by repeat (first | (with_reducible first | exact HI0.out | apply IsS24.alloc | apply IsS24.drewN | apply IsS24.drew | apply IsS24.set_3 | apply IsS24.set_4 | apply IsS24.set_5) | exact HI0.out), by repeat (first | (with_reducible first | exact HB.out | apply below_alloc | apply pw_below_drewN | apply below_drew1 | refine below_set ?_ (IsS24.ge HI0.out)) | exact HB.out), by repeat (first | (with_reducible first | exact HK.out | apply KeepBut.set_ | apply keep_drewN | apply keep_drew | apply keep_alloc) | exact HK.out)⟩
 ·replace c4 := Bool.eq_false_iff.mpr c4
  subst c4
  have H1 : (some (0, false, s0_3, s0_4, s0_5)) = some (r1, r2, r3, r4, r5) := by rw [if_neg (show ¬ (false = true) by decide)] at H; first | done | exact H
  clear H
  have H := H1
  clear H1
  simp only [Option.some.injEq, Prod.mk.injEq] at H
  obtain ⟨rfl, rfl, rfl, rfl, rfl⟩ := H
  obtain ⟨ASz8_0, cSz8_0, ASz8_1, cSz8_1, ASz8_2, cSz8_2, HGz8, hgz8, HSz8_0, HSz8_1, HSz8_2⟩ := HI0.out
  have hcz8_0 := cellS24_0 HGz8
  have hcz8_1 := cellS24_1 HGz8
  have hcz8_2 := cellS24_2 HGz8
  have hcz8_3 := cellS24_3 HGz8
  have hcz8_4 := cellS24_4 HGz8
  have hcz8_5 := cellS24_5 HGz8
  have hfz8_3 := blk_frozen HGz8 3
  have hfz8_4 := blk_frozen HGz8 4
  have hfz8_5 := blk_frozen HGz8 5
  clear HGz8 hgz8
  go_enter Try.func54, Try.ntmps54
  go_wp2_with (first | ((with_reducible refine gate_callee (f := 49) rfl ?_); refine goesL_ (some 14) rfl rfl Try.func49 (by kernel_rfl) rfl #[.int .i64 a1, .int .i64 4096, .int .i64 (wrap64 ((wrap64 (4096 + (wrap64 (4 * s0_3)))) - 1))] rfl (by (try simp only [List.map_toArray, List.map_cons, List.map_nil]); first | done | rfl | (simp only [List.length_drop, List.length_take]; rfl)) ?_; (with_reducible refine (impl_in.calls a1 4096 (wrap64 ((wrap64 (4096 + (wrap64 (4 * s0_3)))) - 1)) false _ A3.out).mono ?_); rintro e w' ⟨rfl, ⟨nd, rfl⟩⟩; refine ⟨_, rfl, ?_⟩))
  go_ret2
  exact ⟨by first | rfl | (simp [errW_none, errW_some] <;> rfl) | (simp [*, errW_none, errW_some] <;> rfl), by repeat (first | (with_reducible first | exact HI0.out | apply IsS24.alloc | apply IsS24.drewN | apply IsS24.drew | apply IsS24.set_3 | apply IsS24.set_4 | apply IsS24.set_5) | exact HI0.out), by repeat (first | (with_reducible first | exact HB.out | apply below_alloc | apply pw_below_drewN | apply below_drew1 | refine below_set ?_ (IsS24.ge HI0.out)) | exact HB.out), by repeat (first | (with_reducible first | exact HK.out | apply KeepBut.set_ | apply keep_drewN | apply keep_drew | apply keep_alloc) | exact HK.out)⟩

/-! ### impl_Fetch: function 26 -/
def impl_Fetch.f (k : Nat) (l0_0 l0_1 l0_2 : List Int) (a0_3 a0_4 : Int) (a0_5 : ByteArray) (a1 : Int) : Option (Int × Int × Int) := (impl_DataOK.f k l0_0 l0_1 l0_2 a0_3 a0_4 a0_5).bind fun t => if t = true then ((impl_Data_cell.f l0_0 l0_1 l0_2 a0_3 a0_4 a0_5 a1).bind fun b => if b.2.1 = true then (if 0 ≤ b.1 then (if b.1 < (l0_2.length : Int) then some (rd l0_2 b.1, 0, 0) else none) else none) else some (0, -9, 0)) else some (0, 0, 1)
theorem impl_Fetch.mono : ∀ a0 a1 a2 a3 a4 a5 a6 k, LeO (impl_Fetch.f k a0 a1 a2 a3 a4 a5 a6) (impl_Fetch.f (k + 1) a0 a1 a2 a3 a4 a5 a6) := by
 intro a0 a1 a2 a3 a4 a5 a6 k
 unfold impl_Fetch.f
 exact LeO.bind (impl_DataOK.mono _ _ _ _ _ _ _) (fun _ => LeO.refl _)
set_option maxHeartbeats 4000000 in
set_option maxRecDepth 100000 in
theorem impl_Fetch.calls (k : Nat) (A0_0 : Option Addr) (c0_0 : Nat) (l0_0 : List Int) (A0_1 : Option Addr) (c0_1 : Nat) (l0_1 : List Int) (A0_2 : Option Addr) (c0_2 : Nat) (l0_2 : List Int) (a0_3 : Int) (a0_4 : Int) (a0_5 : ByteArray) (a1 : Int) (r1 : Int) (r2 : Int) (r3 : Int) (w : World) (hr0_0 : Kd.C (Kd.int .i64) w A0_0 l0_0.length l0_0) (hc0_0 : l0_0.length ≤ c0_0) (hr0_1 : Kd.C (Kd.int .i64) w A0_1 l0_1.length l0_1) (hc0_1 : l0_1.length ≤ c0_1) (hr0_2 : Kd.C (Kd.int .i64) w A0_2 l0_2.length l0_2) (hc0_2 : l0_2.length ≤ c0_2) (h : impl_Fetch.f k l0_0 l0_1 l0_2 a0_3 a0_4 a0_5 a1 = some (r1, r2, r3)) :
  Calls Try.prog 26 #[.agg #[.slice A0_0 l0_0.length c0_0, .slice A0_1 l0_1.length c0_1, .slice A0_2 l0_2.length c0_2, .int .i64 a0_3, .int .i64 a0_4, .string a0_5], .int .i64 a1] w fun e w' => e = .returned (.tuple #[.int .i64 r1, .int .i64 r2, .int .i64 r3]) ∧ Below w.heap.size w w' := by
 have hu24 := Try.underlying24
 have HR0 := am_ hr0_0
 have HR1 := am_ hr0_1
 have HR2 := am_ hr0_2
 have HC0 := am_ hc0_0
 have HC1 := am_ hc0_1
 have HC2 := am_ hc0_2
 clear hr0_0 hr0_1 hr0_2 hc0_0 hc0_1 hc0_2
 unfold impl_Fetch.f at h
 obtain ⟨t, A2, H⟩ := Option.bind_eq_some_iff.mp h
 clear h
 have A2 := am_ A2
 by_cases c1 : t = true
 ·rw [if_pos c1] at H
  subst c1
  obtain ⟨⟨q1, q2, q3, q4, q5⟩, A3, H⟩ := Option.bind_eq_some_iff.mp H
  have A3 := am_ A3
  simp only [] at H
  by_cases c2 : q2 = true
  ·rw [if_pos c2] at H
   subst c2
   by_cases c3 : 0 ≤ q1
   ·rw [if_pos c3] at H
    by_cases c4 : q1 < (l0_2.length : Int)
    ·rw [if_pos c4] at H
     simp only [Option.some.injEq, Prod.mk.injEq] at H
     obtain ⟨rfl, rfl, rfl⟩ := H
     have C3 := am_ c3
     have C4 := am_ c4
     have p3 := eq_true c3
     have p4 := eq_true c4
     clear c3 c4
     go_enter Try.func26, Try.ntmps26
     go_wp2_with (first | ((with_reducible refine gate_dst (N := 2) rfl ?_); refine box_event ?hg (N := 2) ?hd (cs := #[.slice A0_0 l0_0.length c0_0, .slice A0_1 l0_1.length c0_1, .slice A0_2 l0_2.length c0_2, .int .i64 a0_3, .int .i64 a0_4, .string a0_5]) (t := 24) ?hr ?_; (case hd => rfl); (case hg => rfl); (case hr => first | (go_simp; done) | (go_simp; rfl)); intro gb hg w3 hbox hb; have BK := am_ hbox; have HB := am_ hb; have GE := am_ (show w.heap.size ≤ gb by rw [hg]; exact Nat.le_refl _); clear hg hbox hb; have hcz0 := cellS24_0 BK.out; have hcz1 := cellS24_1 BK.out; have hcz2 := cellS24_2 BK.out; have hcz3 := cellS24_3 BK.out; have hcz4 := cellS24_4 BK.out; have hcz5 := cellS24_5 BK.out) | ((with_reducible refine gate_callee (f := 22) rfl ?_); refine goesL_ (some 10) rfl rfl Try.func22 (by kernel_rfl) rfl #[.agg #[.slice A0_0 l0_0.length c0_0, .slice A0_1 l0_1.length c0_1, .slice A0_2 l0_2.length c0_2, .int .i64 a0_3, .int .i64 a0_4, .string a0_5]] rfl (by (try simp only [List.map_toArray, List.map_cons, List.map_nil]); first | done | rfl | (simp only [List.length_drop, List.length_take]; rfl)) ?_; (with_reducible refine (impl_DataOK.calls k A0_0 c0_0 l0_0 A0_1 c0_1 l0_1 A0_2 c0_2 l0_2 a0_3 a0_4 a0_5 true w3 (Kd.C_below HR0.out HB.out) HC0.out (Kd.C_below HR1.out HB.out) HC1.out (Kd.C_below HR2.out HB.out) HC2.out A2.out).mono ?_); rintro e w4 ⟨rfl, hb⟩; refine ⟨_, rfl, ?_⟩; replace BK := am_ (blk_below BK.out hb); replace HB := am_ (below_step HB.out hb); clear hb) | (go_at_call 54; have hI0 : IsS24 w w4 gb l0_0 l0_1 l0_2 a0_3 a0_4 a0_5 := ⟨A0_0, c0_0, A0_1, c0_1, A0_2, c0_2, BK.out, GE.out, HR0.out, HR1.out, HR2.out⟩; (with_reducible refine (impl_Data_cell.calls gb l0_0 l0_1 l0_2 a0_3 a0_4 a0_5 a1 q1 true q3 q4 q5 w w4 hI0 HB.out A3.out).mono ?_); rintro e w5 ⟨rfl, hi, hb, hkk⟩; clear hI0 hkk; obtain ⟨B0, d0, B1, d1, B2, d2, hblk, hge, C0, C1, C2⟩ := hi; obtain ⟨ad, eB2, hx⟩ := Kd.at_int C2 q1 C3.out C4.out; cases eB2; have hcy : w5.cell? ⟨gb, 2, none⟩ = some (.slice (some ad) l0_2.length d2) := cellS24_2 hblk; replace hx := pw_cell_below hb hx; clear HB; have HB := am_ hb; clear hb hblk hge C0 C1 C2))
     go_ret3
     exact ⟨rfl, HB.out⟩
    ·rw [if_neg c4] at H
     cases H
   ·rw [if_neg c3] at H
    cases H
  ·rw [if_neg c2] at H
   replace c2 := Bool.eq_false_iff.mpr c2
   subst c2
   simp only [Option.some.injEq, Prod.mk.injEq] at H
   obtain ⟨rfl, rfl, rfl⟩ := H
   go_enter Try.func26, Try.ntmps26
   go_wp2_with (first | ((with_reducible refine gate_dst (N := 2) rfl ?_); refine box_event ?hg (N := 2) ?hd (cs := #[.slice A0_0 l0_0.length c0_0, .slice A0_1 l0_1.length c0_1, .slice A0_2 l0_2.length c0_2, .int .i64 a0_3, .int .i64 a0_4, .string a0_5]) (t := 24) ?hr ?_; (case hd => rfl); (case hg => rfl); (case hr => first | (go_simp; done) | (go_simp; rfl)); intro gb hg w3 hbox hb; have BK := am_ hbox; have HB := am_ hb; have GE := am_ (show w.heap.size ≤ gb by rw [hg]; exact Nat.le_refl _); clear hg hbox hb; have hcz0 := cellS24_0 BK.out; have hcz1 := cellS24_1 BK.out; have hcz2 := cellS24_2 BK.out; have hcz3 := cellS24_3 BK.out; have hcz4 := cellS24_4 BK.out; have hcz5 := cellS24_5 BK.out) | ((with_reducible refine gate_callee (f := 22) rfl ?_); refine goesL_ (some 10) rfl rfl Try.func22 (by kernel_rfl) rfl #[.agg #[.slice A0_0 l0_0.length c0_0, .slice A0_1 l0_1.length c0_1, .slice A0_2 l0_2.length c0_2, .int .i64 a0_3, .int .i64 a0_4, .string a0_5]] rfl (by (try simp only [List.map_toArray, List.map_cons, List.map_nil]); first | done | rfl | (simp only [List.length_drop, List.length_take]; rfl)) ?_; (with_reducible refine (impl_DataOK.calls k A0_0 c0_0 l0_0 A0_1 c0_1 l0_1 A0_2 c0_2 l0_2 a0_3 a0_4 a0_5 true w3 (Kd.C_below HR0.out HB.out) HC0.out (Kd.C_below HR1.out HB.out) HC1.out (Kd.C_below HR2.out HB.out) HC2.out A2.out).mono ?_); rintro e w4 ⟨rfl, hb⟩; refine ⟨_, rfl, ?_⟩; replace BK := am_ (blk_below BK.out hb); replace HB := am_ (below_step HB.out hb); clear hb) | (go_at_call 54; have hI0 : IsS24 w w4 gb l0_0 l0_1 l0_2 a0_3 a0_4 a0_5 := ⟨A0_0, c0_0, A0_1, c0_1, A0_2, c0_2, BK.out, GE.out, HR0.out, HR1.out, HR2.out⟩; (with_reducible refine (impl_Data_cell.calls gb l0_0 l0_1 l0_2 a0_3 a0_4 a0_5 a1 q1 false q3 q4 q5 w w4 hI0 HB.out A3.out).mono ?_); rintro e w5 ⟨rfl, hi, hb, hkk⟩; clear hI0 hkk; clear hi HB; have HB := am_ hb; clear hb))
   go_ret3
   exact ⟨rfl, HB.out⟩
 ·rw [if_neg c1] at H
  replace c1 := Bool.eq_false_iff.mpr c1
  subst c1
  simp only [Option.some.injEq, Prod.mk.injEq] at H
  obtain ⟨rfl, rfl, rfl⟩ := H
  go_enter Try.func26, Try.ntmps26
  go_wp2_with (first | ((with_reducible refine gate_dst (N := 2) rfl ?_); refine box_event ?hg (N := 2) ?hd (cs := #[.slice A0_0 l0_0.length c0_0, .slice A0_1 l0_1.length c0_1, .slice A0_2 l0_2.length c0_2, .int .i64 a0_3, .int .i64 a0_4, .string a0_5]) (t := 24) ?hr ?_; (case hd => rfl); (case hg => rfl); (case hr => first | (go_simp; done) | (go_simp; rfl)); intro gb hg w3 hbox hb; have BK := am_ hbox; have HB := am_ hb; have GE := am_ (show w.heap.size ≤ gb by rw [hg]; exact Nat.le_refl _); clear hg hbox hb; have hcz0 := cellS24_0 BK.out; have hcz1 := cellS24_1 BK.out; have hcz2 := cellS24_2 BK.out; have hcz3 := cellS24_3 BK.out; have hcz4 := cellS24_4 BK.out; have hcz5 := cellS24_5 BK.out) | ((with_reducible refine gate_callee (f := 22) rfl ?_); refine goesL_ (some 10) rfl rfl Try.func22 (by kernel_rfl) rfl #[.agg #[.slice A0_0 l0_0.length c0_0, .slice A0_1 l0_1.length c0_1, .slice A0_2 l0_2.length c0_2, .int .i64 a0_3, .int .i64 a0_4, .string a0_5]] rfl (by (try simp only [List.map_toArray, List.map_cons, List.map_nil]); first | done | rfl | (simp only [List.length_drop, List.length_take]; rfl)) ?_; (with_reducible refine (impl_DataOK.calls k A0_0 c0_0 l0_0 A0_1 c0_1 l0_1 A0_2 c0_2 l0_2 a0_3 a0_4 a0_5 false w3 (Kd.C_below HR0.out HB.out) HC0.out (Kd.C_below HR1.out HB.out) HC1.out (Kd.C_below HR2.out HB.out) HC2.out A2.out).mono ?_); rintro e w4 ⟨rfl, hb⟩; refine ⟨_, rfl, ?_⟩; replace BK := am_ (blk_below BK.out hb); replace HB := am_ (below_step HB.out hb); clear hb))
  go_ret3
  exact ⟨rfl, HB.out⟩


/-! ### slices_Clone_int: function 94 -/
def slices_Clone_int.f (l0 : List Int) : Option (List Int) := if l0.length < 17592186044416 then some l0 else none
set_option maxHeartbeats 1000000 in
set_option maxRecDepth 100000 in
theorem slices_Clone_int.calls (A0 : Option Addr) (c0 : Nat) (l0 : List Int) (r : List Int) (w : World) (hr0 : Kd.C (Kd.int .i64) w A0 l0.length l0) (hc0 : l0.length ≤ c0) (h : slices_Clone_int.f l0 = some r) :
  Calls Try.prog 94 #[.slice A0 l0.length c0] w fun e w' => ∃ v0_ : Value, e = .returned (v0_) ∧ Kd.R (Kd.int .i64) 3 w' w.heap.size (fun _ => True) v0_ r ∧ Below w.heap.size w w' := by
 unfold slices_Clone_int.f at h
 by_cases LM : l0.length < 17592186044416
 ·rw [if_pos LM] at h
  obtain rfl := Option.some.inj h
  clear h
  rcases A0 with _ | ad
  ·obtain rfl : l0 = [] := by
    rcases Nat.eq_zero_or_pos l0.length with h0 | h0
    ·exact List.eq_nil_of_length_eq_zero h0
    ·obtain ⟨ad, he, _⟩ := hr0.2.2 h0
     cases he
   have hq := fun W : World => Go.Proofs.YtcelnpmahnblpaaO.eql_none (P := Try.prog) (t := 22) W Try.underlying22 0 c0
   clear hr0
   go_enter Try.func94, Try.ntmps94
   go_wp2
   go_ret
   exact ⟨_, rfl, Kd.R_nil _ _ _ _ _, Below.refl _ _⟩
  ·have hq := fun W : World => Go.Proofs.YtcelnpmahnblpaaO.eql_some (P := Try.prog) (t := 22) W Try.underlying22 ad l0.length c0
   have HR0 := am_ hr0
   have LM0 := am_ LM
   have HB := am_ (Below.refl w.heap.size w)
   clear hr0 LM
   obtain ⟨y0, hy0⟩ : ∃ y_ : List Int, y_ = [] := ⟨_, rfl⟩
   have Ny0 := am_ hy0
   have LM1 : Aside0 (y0.length + l0.length < 17592186044416) := ⟨by rw [hy0]; simpa using LM0.out⟩
   clear hy0 LM0
   go_enter Try.func94, Try.ntmps94
   go_wp2_with (first | ((with_reducible refine gate_dst (N := 5) rfl ?_); refine Kd.R_lit (Kd.int .i64) _ 3 ?hg (N := 5) ?hd (xs := ([] : List Int)) (inner := []) (ok := fun _ => True) (okp := fun _ => True) ?hr ?hp (fun _ hk => hk) trivial (Below.refl _ _) (Nat.le_refl _) (by simp) ?_; (case hd => rfl); (case hg => rfl); (case hr => first | (go_simp; done) | (go_simp; rfl)); (case hp => exact (Reps.none _ _)); intro v1 w6 ho7 hb hg_ hnew_; clear hg_ hnew_; rw [← Ny0.out] at ho7; have n0_ := am_ (Kd.R_lower ho7 (below_size cq2_)); have n1_ := am_ (below_step cq2_ hb); clear HB; have HO1 := n0_; have HB := n1_; clear n0_ n1_; clear hb ho7) | ((with_reducible refine gate_builtin (b := .append) (xs := #[.tmp 5, .tmp 6]) rfl ?_); at_builtin; refine Kd.R_append_rows (Kd.int .i64) (w0 := w) w.heap.size rfl (.tmp 5) (.tmp 6) 22 3 (.int .i64 0) 8 rfl Try.underlying22 info3 rfl (by decide) (by omega) v1 y0 l0 _ _ _ (fun _ => True) (fun _ => False) rfl rfl ?aO ?aR (fun _ _ h => h) (fun _ h => h.elim) ?aF ?aB ?aS ?aL ?_; (case aR => exact (Kd.C_below HR0.out HB.out)); (case aB => exact cq2_); (case aF => exact (fun _ _ => trivial)); (case aO => exact HO1.out); (case aS => exact (below_size cq2_)); (case aL => have := LM1.out; omega); intro v2 w17 ho hb hg hat; have n0_ := am_ (hb); have n1_ := am_ (ho); clear HB; clear HO1; have HB := n0_; have HO2 := n1_; clear n0_ n1_; clear ho hb hg hat))
   go_ret
   refine ⟨_, rfl, ?_, HB.out⟩
   have ho := HO2.out
   rw [Ny0.out, List.nil_append] at ho
   exact ho
 ·rw [if_neg LM] at h
  cases h

/-! ### impl_Data_copied: function 86 -/
def impl_Data_copied.f (l0_0 : List Int) (l0_1 : List Int) (l0_2 : List Int) (a0_3 : Int) (a0_4 : Int) (a0_5 : ByteArray) : Option (List Int × List Int × List Int × Int × Int × ByteArray) := (slices_Clone_int.f l0_0).bind fun t129 => ((slices_Clone_int.f l0_1).bind fun t132 => ((slices_Clone_int.f l0_2).bind fun t135 => (some (t129, t132, t135, a0_3, a0_4, a0_5))))
def impl_Data_copied.T1 : Bool × List (List Nat × List Nat) := (true, [([], []), ([0], [0]), ([1], [1]), ([], []), ([3], [3]), ([4, 2], [4]), ([], []), ([6], [6]), ([7, 5], [7]), ([0, 1, 2, 3, 4, 6, 7], []), ([9, 2, 8, 0, 1, 2, 3, 4, 6, 7], [2, 9]), ([0, 1, 2, 3, 4, 5, 6, 7, 9, 10], []), ([11, 5, 10, 0, 1, 2, 3, 4, 5, 6, 7, 9, 10], [5, 11]), ([0, 1, 2, 3, 4, 5, 6, 7, 8, 9, 10, 11, 12], []), ([13, 8, 12, 0, 1, 2, 3, 4, 5, 6, 7, 8, 9, 10, 11, 12], [8, 13])])
def impl_Data_copied.B1 : List Nat := [0, 1, 3, 0, 8, 31, 0, 64, 255, 223, 1023, 2047, 4095, 8191, 16383]
theorem impl_Data_copied.tab1 : rtab .any (opsOf Try.f86 1) = impl_Data_copied.T1 := by kernel_rfl
theorem impl_Data_copied.bits1 : waitsOk impl_Data_copied.T1.2 impl_Data_copied.B1 = true := by kernel_rfl
set_option maxHeartbeats 8000000 in
set_option maxRecDepth 100000 in
theorem impl_Data_copied.calls (A0_0 : Option Addr) (c0_0 : Nat) (l0_0 : List Int) (A0_1 : Option Addr) (c0_1 : Nat) (l0_1 : List Int) (A0_2 : Option Addr) (c0_2 : Nat) (l0_2 : List Int) (a0_3 : Int) (a0_4 : Int) (a0_5 : ByteArray) (r1 : List Int) (r2 : List Int) (r3 : List Int) (r4 : Int) (r5 : Int) (r6 : ByteArray) (w : World) (hr0_0 : Kd.C (Kd.int .i64) w A0_0 l0_0.length l0_0) (hc0_0 : l0_0.length ≤ c0_0) (hr0_1 : Kd.C (Kd.int .i64) w A0_1 l0_1.length l0_1) (hc0_1 : l0_1.length ≤ c0_1) (hr0_2 : Kd.C (Kd.int .i64) w A0_2 l0_2.length l0_2) (hc0_2 : l0_2.length ≤ c0_2) (h : impl_Data_copied.f l0_0 l0_1 l0_2 a0_3 a0_4 a0_5 = some (r1, r2, r3, r4, r5, r6)) :
  Calls Try.prog 86 #[.agg #[.slice A0_0 l0_0.length c0_0, .slice A0_1 l0_1.length c0_1, .slice A0_2 l0_2.length c0_2, .int .i64 a0_3, .int .i64 a0_4, .string a0_5]] w fun e w' => ∃ v0_ v1_ v2_ : Value, e = .returned (.agg #[v0_, v1_, v2_, .int .i64 r4, .int .i64 r5, .string r6]) ∧ Kd.R (Kd.int .i64) 3 w' w.heap.size (fun k_ => some k_ ≠ (v1_ : Value).ownBlock ∧ some k_ ≠ (v2_ : Value).ownBlock) v0_ r1 ∧ Kd.R (Kd.int .i64) 3 w' w.heap.size (fun k_ => some k_ ≠ (v0_ : Value).ownBlock ∧ some k_ ≠ (v2_ : Value).ownBlock) v1_ r2 ∧ Kd.R (Kd.int .i64) 3 w' w.heap.size (fun k_ => some k_ ≠ (v0_ : Value).ownBlock ∧ some k_ ≠ (v1_ : Value).ownBlock) v2_ r3 ∧ Below w.heap.size w w' := by
 have hu24 := Try.underlying24
 have HR0_0 := am_ hr0_0
 have HC0_0 := am_ hc0_0
 clear hr0_0 hc0_0
 have HR0_1 := am_ hr0_1
 have HC0_1 := am_ hc0_1
 clear hr0_1 hc0_1
 have HR0_2 := am_ hr0_2
 have HC0_2 := am_ hc0_2
 clear hr0_2 hc0_2
 have HB := am_ (Below.refl w.heap.size w)
 have H : ((slices_Clone_int.f l0_0).bind fun t129 => ((slices_Clone_int.f l0_1).bind fun t132 => ((slices_Clone_int.f l0_2).bind fun t135 => (some (t129, t132, t135, a0_3, a0_4, a0_5))))) = some (r1, r2, r3, r4, r5, r6) := h
 clear h
 replace H := Option.bind_eq_some_iff.mp H
 obtain ⟨t129, A20, H⟩ := H
 replace H : ((slices_Clone_int.f l0_1).bind fun t132 => ((slices_Clone_int.f l0_2).bind fun t135 => (some (t129, t132, t135, a0_3, a0_4, a0_5)))) = some (r1, r2, r3, r4, r5, r6) := H
 have A2 := am_ A20
 clear A20
 replace H := Option.bind_eq_some_iff.mp H
 obtain ⟨t132, A30, H⟩ := H
 replace H : ((slices_Clone_int.f l0_2).bind fun t135 => (some (t129, t132, t135, a0_3, a0_4, a0_5))) = some (r1, r2, r3, r4, r5, r6) := H
 have A3 := am_ A30
 clear A30
 replace H := Option.bind_eq_some_iff.mp H
 obtain ⟨t135, A40, H⟩ := H
 replace H : (some (t129, t132, t135, a0_3, a0_4, a0_5)) = some (r1, r2, r3, r4, r5, r6) := H
 have A4 := am_ A40
 clear A40
 simp only [Option.some.injEq, Prod.mk.injEq] at H
 obtain ⟨rfl, rfl, rfl, rfl, rfl, rfl⟩ := H
 go_enter Try.func86, Try.ntmps86
 try go_wp2_with (first | ((with_reducible refine gate_dst (N := 1) rfl ?_); refine box_event ?hg (N := 1) ?hd (cs := #[.slice A0_0 l0_0.length c0_0, .slice A0_1 l0_1.length c0_1, .slice A0_2 l0_2.length c0_2, .int .i64 a0_3, .int .i64 a0_4, .string a0_5]) (t := 24) ?hr ?_; (case hd => rfl); (case hg => rfl); (case hr => first | (go_simp; done) | (go_simp; rfl)); intro gb127 hg w5 hbox hb; have n0_ := am_ (below_step cq2_ hb); have n1_ := am_ (hbox); have n2_ := am_ ((by rw [hg]; exact (below_size cq2_) : w.heap.size ≤ gb127)); have n3_ := am_ ((by rw [hg]; exact (below_size cq2_) : w.heap.size ≤ gb127)); clear HB; have HB := n0_; have BK127 := n1_; have GW127 := n2_; have GE127 := n3_; clear n0_ n1_ n2_ n3_; clear hb hbox hg) | ((with_reducible refine gate_dst (N := 2) rfl ?_); refine box_event ?hg (N := 2) ?hd (cs := #[.slice none 0 0, .slice none 0 0, .slice none 0 0, .int .i64 0, .int .i64 0, .string (⟨#[]⟩ : ByteArray)]) (t := 24) ?hr ?_; (case hd => rfl); (case hg => rfl); (case hr => first | (go_simp; done) | (go_simp; rfl)); intro gb128 hg w6 hbox hb; have n0_ := am_ (cbb_ BK127 hb); have n1_ := am_ (below_step cq1_ hb); have n2_ := am_ (hbox); have n3_ := am_ ((by rw [hg]; exact (below_size cq1_) : w.heap.size ≤ gb128)); have n4_ := am_ ((by rw [hg]; exact (below_size cq1_) : w.heap.size ≤ gb128)); have n5_ := am_ ((by rw [hg]; exact Nat.ne_of_lt (blk_lt (g := gb127) (o := .cells #[.slice A0_0 l0_0.length c0_0, .slice A0_1 l0_1.length c0_1, .slice A0_2 l0_2.length c0_2, .int .i64 a0_3, .int .i64 a0_4, .string a0_5] 24 (0, 0)) (cbu_ BK127)) : gb127 ≠ gb128)); have n6_ := am_ ((by rw [hg]; exact Nat.ne_of_gt (blk_lt (g := gb127) (o := .cells #[.slice A0_0 l0_0.length c0_0, .slice A0_1 l0_1.length c0_1, .slice A0_2 l0_2.length c0_2, .int .i64 a0_3, .int .i64 a0_4, .string a0_5] 24 (0, 0)) (cbu_ BK127)) : gb128 ≠ gb127)); clear BK127; clear HB; have BK127 := n0_; have HB := n1_; have BK128 := n2_; have GW128 := n3_; have GE128 := n4_; have NB127_128 := n5_; have NB128_127 := n6_; clear n0_ n1_ n2_ n3_ n4_ n5_ n6_; clear hb hbox hg))
 replace BK127 := am_ (blk_drew BK127.out)
 replace BK128 := am_ (blk_drew BK128.out)
 replace HB := am_ (below_drew1 HB.out)
 refine start_ (n := 15) (S := fun w' => w'.cell? ⟨gb127, 0, none⟩ = some (.slice A0_0 l0_0.length c0_0) ∧ w'.cell? ⟨gb127, 1, none⟩ = some (.slice A0_1 l0_1.length c0_1) ∧ w'.cell? ⟨gb127, 2, none⟩ = some (.slice A0_2 l0_2.length c0_2) ∧ w'.cell? ⟨gb127, 3, none⟩ = some (.int .i64 a0_3) ∧ w'.cell? ⟨gb127, 4, none⟩ = some (.int .i64 a0_4) ∧ w'.cell? ⟨gb127, 5, none⟩ = some (.string a0_5)) (ds := [10, 12, 14]) #[false, false, false, false, false, false, false, false, false, false, false, false, false, false, false] (by kernel_rfl) rfl rfl ⟨(blk_cell BK127.out 0).trans rfl, (blk_cell BK127.out 1).trans rfl, (blk_cell BK127.out 2).trans rfl, (blk_cell BK127.out 3).trans rfl, (blk_cell BK127.out 4).trans rfl, (blk_cell BK127.out 5).trans rfl⟩ (fun hHeld => ?_); refine with_tabW impl_Data_copied.tab1 impl_Data_copied.bits1 (fun HT_ HW_ => ?_)
 generalize w6.drew = w7 at BK127 BK128 HB hHeld ⊢
 refine pure_ (i := 0) (N := some 3) (v := ?_) (a' := ?_) #[true, false, false, false, false, false, false, false, false, false, false, false, false, false, false] rfl rfl (any_of HT_.out (by kernel_rfl)) (fun _ _ _ h => h) (Or.inl ⟨by rfl, ?_⟩) ?_ ?_
 rotate_left
 ·intro w'
  go_simp
  with_reducible rfl
 rotate_left
 ·simp only [Act.put, List.setIfInBounds_toArray, List.set_cons_zero, List.set_cons_succ, i64_w, i32_w]
  rfl
 refine pure_ (i := 3) (N := some 6) (v := ?_) (a' := ?_) #[true, false, false, true, false, false, false, false, false, false, false, false, false, false, false] rfl rfl (any_of HT_.out (by kernel_rfl)) (fun _ _ _ h => h) (Or.inl ⟨by rfl, ?_⟩) ?_ ?_
 rotate_left
 ·intro w'
  go_simp
  with_reducible rfl
 rotate_left
 ·simp only [Act.put, List.setIfInBounds_toArray, List.set_cons_zero, List.set_cons_succ, i64_w, i32_w]
  rfl
 refine pure_ (i := 6) (N := some 9) (v := ?_) (a' := ?_) #[true, false, false, true, false, false, true, false, false, false, false, false, false, false, false] rfl rfl (any_of HT_.out (by kernel_rfl)) (fun _ _ _ h => h) (Or.inl ⟨by rfl, ?_⟩) ?_ ?_
 rotate_left
 ·intro w'
  go_simp
  with_reducible rfl
 rotate_left
 ·simp only [Act.put, List.setIfInBounds_toArray, List.set_cons_zero, List.set_cons_succ, i64_w, i32_w]
  rfl
 refine take_ (i := 1) (N := some 4) (v := ?_) (a' := ?_) #[true, true, false, true, false, false, true, false, false, false, false, false, false, false, false] rfl rfl (take_ofW HT_.out HW_.out (by kernel_rfl)) (fun _ _ _ h => h) (Or.inl ⟨by rfl, ?_⟩) hHeld ?_ ?_
 rotate_left
 ·rintro w' ⟨s0, s1, s2, s3, s4, s5⟩
  go_simp
  with_reducible rfl
 rotate_left
 ·simp only [Act.put, List.setIfInBounds_toArray, List.set_cons_zero, List.set_cons_succ, i64_w, i32_w]
  rfl
 refine take_ (i := 4) (N := some 7) (v := ?_) (a' := ?_) #[true, true, false, true, true, false, true, false, false, false, false, false, false, false, false] rfl rfl (take_ofW HT_.out HW_.out (by kernel_rfl)) (fun _ _ _ h => h) (Or.inl ⟨by rfl, ?_⟩) hHeld ?_ ?_
 rotate_left
 ·rintro w' ⟨s0, s1, s2, s3, s4, s5⟩
  go_simp
  with_reducible rfl
 rotate_left
 ·simp only [Act.put, List.setIfInBounds_toArray, List.set_cons_zero, List.set_cons_succ, i64_w, i32_w]
  rfl
 refine take_ (i := 7) (N := some 10) (v := ?_) (a' := ?_) #[true, true, false, true, true, false, true, true, false, false, false, false, false, false, false] rfl rfl (take_ofW HT_.out HW_.out (by kernel_rfl)) (fun _ _ _ h => h) (Or.inl ⟨by rfl, ?_⟩) hHeld ?_ ?_
 rotate_left
 ·rintro w' ⟨s0, s1, s2, s3, s4, s5⟩
  go_simp
  with_reducible rfl
 rotate_left
 ·simp only [Act.put, List.setIfInBounds_toArray, List.set_cons_zero, List.set_cons_succ, i64_w, i32_w]
  rfl
 refine one_ (i := 2) (N := some 5) #[true, true, true, true, true, false, true, true, false, false, false, false, false, false, false] rfl rfl (one_of HT_.out (by kernel_rfl)) (by decide) (fun K hK => ?_)
 refine goes_ Try.func94 (by kernel_rfl) rfl #[.slice A0_0 l0_0.length c0_0] (by rfl) rfl rfl (by (try simp only [List.map_toArray, List.map_cons, List.map_nil]); first | done | rfl | (simp only [List.length_drop, List.length_take]; rfl)) ?_
 with_reducible refine (slices_Clone_int.calls _ _ l0_0 t129 _ ?side1 ?side2 A2.out).mono ?_
 (case side1 => repeat (first | exact (Kd.C_below HR0_0.out HB.out) | (with_reducible refine Kd.C_alloc ?_ _) | (with_reducible refine Kd.C_drewN ?_ _) | (with_reducible refine Kd.C_drew ?_)))
 (case side2 => exact HC0_0.out)
 rintro e w8 ⟨v130, rfl, ho0, hb⟩
 refine ⟨_, rfl, ?_⟩
 have HO131 := am_ (Kd.R_lower ho0 (below_size cq0_))
 replace BK127 := am_ (cbb_ BK127 hb)
 replace BK128 := am_ (cbb_ BK128 hb)
 replace HB := am_ (below_step cq0_ hb)
 (try clear hb)
 (try clear hb2)
 (try clear hk)
 (try clear hi)
 (try clear ho0)
 refine hK.out _ _ ⟨(blk_cell BK127.out 0).trans rfl, (blk_cell BK127.out 1).trans rfl, (blk_cell BK127.out 2).trans rfl, (blk_cell BK127.out 3).trans rfl, (blk_cell BK127.out 4).trans rfl, (blk_cell BK127.out 5).trans rfl⟩ (fun hHeld => ?_)
 clear hK K
 refine norm_ (a' := ?_) ?_ ?_
 rotate_left
 ·show Act.put _ (some 5) _ = _
  simp only [Act.put, List.setIfInBounds_toArray, List.set_cons_zero, List.set_cons_succ, i64_w, i32_w]
  rfl
 refine pure_ (i := 9) (N := some 12) (v := ?_) (a' := ?_) #[true, true, true, true, true, false, true, true, false, true, false, false, false, false, false] rfl rfl (any_of HT_.out (by kernel_rfl)) (fun _ _ _ h => h) (Or.inl ⟨by rfl, ?_⟩) ?_ ?_
 rotate_left
 ·intro w'
  go_simp
  with_reducible rfl
 rotate_left
 ·simp only [Act.put, List.setIfInBounds_toArray, List.set_cons_zero, List.set_cons_succ, i64_w, i32_w]
  rfl
 refine one_ (i := 5) (N := some 8) #[true, true, true, true, true, true, true, true, false, true, false, false, false, false, false] rfl rfl (one_of HT_.out (by kernel_rfl)) (by decide) (fun K hK => ?_)
 refine goes_ Try.func94 (by kernel_rfl) rfl #[.slice A0_1 l0_1.length c0_1] (by rfl) rfl rfl (by (try simp only [List.map_toArray, List.map_cons, List.map_nil]); first | done | rfl | (simp only [List.length_drop, List.length_take]; rfl)) ?_
 with_reducible refine (slices_Clone_int.calls _ _ l0_1 t132 _ ?side1 ?side2 A3.out).mono ?_
 (case side1 => repeat (first | exact (Kd.C_below HR0_1.out HB.out) | (with_reducible refine Kd.C_alloc ?_ _) | (with_reducible refine Kd.C_drewN ?_ _) | (with_reducible refine Kd.C_drew ?_)))
 (case side2 => exact HC0_1.out)
 rintro e w9 ⟨v133, rfl, ho0, hb⟩
 refine ⟨_, rfl, ?_⟩
 have n0_ := am_ (Kd.R_elder' (cru_ HO131) (Kd.R_base ho0) hb)
 have n1_ := am_ (Kd.R_lower (Kd.R_new' ho0 (Kd.R_lt (cru_ HO131))) (below_size cq0_))
 have n2_ := am_ (cbb_ BK127 hb)
 have n3_ := am_ (cbb_ BK128 hb)
 have n4_ := am_ (below_step cq0_ hb)
 clear HO131
 clear BK127
 clear BK128
 clear HB
 have HO131 := n0_
 have HO134 := n1_
 have BK127 := n2_
 have BK128 := n3_
 have HB := n4_
 clear n0_ n1_ n2_ n3_ n4_
 (try clear hb)
 (try clear hb2)
 (try clear hk)
 (try clear hi)
 (try clear ho0)
 refine hK.out _ _ ⟨(blk_cell BK127.out 0).trans rfl, (blk_cell BK127.out 1).trans rfl, (blk_cell BK127.out 2).trans rfl, (blk_cell BK127.out 3).trans rfl, (blk_cell BK127.out 4).trans rfl, (blk_cell BK127.out 5).trans rfl⟩ (fun hHeld => ?_)
 clear hK K
 refine norm_ (a' := ?_) ?_ ?_
 rotate_left
 ·show Act.put _ (some 8) _ = _
  simp only [Act.put, List.setIfInBounds_toArray, List.set_cons_zero, List.set_cons_succ, i64_w, i32_w]
  rfl
 refine one_ (i := 8) (N := some 11) #[true, true, true, true, true, true, true, true, true, true, false, false, false, false, false] rfl rfl (one_of HT_.out (by kernel_rfl)) (by decide) (fun K hK => ?_)
 refine goes_ Try.func94 (by kernel_rfl) rfl #[.slice A0_2 l0_2.length c0_2] (by rfl) rfl rfl (by (try simp only [List.map_toArray, List.map_cons, List.map_nil]); first | done | rfl | (simp only [List.length_drop, List.length_take]; rfl)) ?_
 with_reducible refine (slices_Clone_int.calls _ _ l0_2 t135 _ ?side1 ?side2 A4.out).mono ?_
 (case side1 => repeat (first | exact (Kd.C_below HR0_2.out HB.out) | (with_reducible refine Kd.C_alloc ?_ _) | (with_reducible refine Kd.C_drewN ?_ _) | (with_reducible refine Kd.C_drew ?_)))
 (case side2 => exact HC0_2.out)
 rintro e w10 ⟨v136, rfl, ho0, hb⟩
 refine ⟨_, rfl, ?_⟩
 have n0_ := am_ (Kd.R_elder' (cru_ HO131) (Kd.R_base ho0) hb)
 have n1_ := am_ (Kd.R_elder' (cru_ HO134) (Kd.R_base ho0) hb)
 have n2_ := am_ (Kd.R_lower (Kd.R_new' (Kd.R_new' ho0 (Kd.R_lt (cru_ HO131))) (Kd.R_lt (cru_ HO134))) (below_size cq0_))
 have n3_ := am_ (cbb_ BK127 hb)
 have n4_ := am_ (cbb_ BK128 hb)
 have n5_ := am_ (below_step cq0_ hb)
 clear HO131
 clear HO134
 clear BK127
 clear BK128
 clear HB
 have HO131 := n0_
 have HO134 := n1_
 have HO137 := n2_
 have BK127 := n3_
 have BK128 := n4_
 have HB := n5_
 clear n0_ n1_ n2_ n3_ n4_ n5_
 (try clear hb)
 (try clear hb2)
 (try clear hk)
 (try clear hi)
 (try clear ho0)
 obtain ⟨Ao11, co11, eo11⟩ := Kd.R_slice HO131.out
 (first | subst eo11 | (injection eo11 with cf1_ cf2_ cf3_; have cf4_ := f1_.symm; have cf5_ := f3_.symm; clear cf1_ cf2_ cf3_; subst cf4_; subst cf5_))
 obtain ⟨Ao13, co13, eo13⟩ := Kd.R_slice HO134.out
 (first | subst eo13 | (injection eo13 with cf1_ cf2_ cf3_; have cf4_ := f1_.symm; have cf5_ := f3_.symm; clear cf1_ cf2_ cf3_; subst cf4_; subst cf5_))
 obtain ⟨Ao15, co15, eo15⟩ := Kd.R_slice HO137.out
 (first | subst eo15 | (injection eo15 with cf1_ cf2_ cf3_; have cf4_ := f1_.symm; have cf5_ := f3_.symm; clear cf1_ cf2_ cf3_; subst cf4_; subst cf5_))
 refine hK.out _ _ ⟨(blk_cell BK127.out 0).trans rfl, (blk_cell BK127.out 1).trans rfl, (blk_cell BK127.out 2).trans rfl, (blk_cell BK127.out 3).trans rfl, (blk_cell BK127.out 4).trans rfl, (blk_cell BK127.out 5).trans rfl⟩ (fun hHeld => ?_)
 clear hK K
 refine norm_ (a' := ?_) ?_ ?_
 rotate_left
 ·show Act.put _ (some 11) _ = _
  simp only [Act.put, List.setIfInBounds_toArray, List.set_cons_zero, List.set_cons_succ, i64_w, i32_w]
  rfl
 refine last_ (i := 10) (N := none) #[true, true, true, true, true, true, true, true, true, true, true, false, false, false, false] rfl rfl (one_of HT_.out (by kernel_rfl)) (by decide) (fun K hK => ?_)
 have hs12 : w10.cell? ⟨gb127, 0, none⟩ = some (.slice A0_0 l0_0.length c0_0) := (blk_cell BK127.out 0).trans rfl
 have hfs12 := blk_frozen BK127.out 0
 have hns12_1 := NB128_127.out
 have hms12_1 := NB127_128.out
 refine skip_ (w1 := ?_) (by rfl) rfl ?_ ?_
 rotate_left
 ·go_simp
  rfl
 refine hK.out _ _ ?_
 clear hK K
 refine pure_ (i := 11) (N := some 13) (v := ?_) (a' := ?_) #[true, true, true, true, true, true, true, true, true, true, true, true, false, false, false] rfl rfl (any_of HT_.out (by kernel_rfl)) (fun _ _ _ h => h) (Or.inl ⟨by rfl, ?_⟩) ?_ ?_
 rotate_left
 ·intro w'
  go_simp
  with_reducible rfl
 rotate_left
 ·simp only [Act.put, List.setIfInBounds_toArray, List.set_cons_zero, List.set_cons_succ, i64_w, i32_w]
  rfl
 refine last_ (i := 12) (N := none) #[true, true, true, true, true, true, true, true, true, true, true, true, true, false, false] rfl rfl (one_of HT_.out (by kernel_rfl)) (by decide) (fun K hK => ?_)
 have hs14 : w10.cell? ⟨gb127, 1, none⟩ = some (.slice A0_1 l0_1.length c0_1) := (blk_cell BK127.out 1).trans rfl
 have hfs14 := blk_frozen BK127.out 1
 have hns14_1 := NB128_127.out
 have hms14_1 := NB127_128.out
 refine skip_ (w1 := ?_) (by rfl) rfl ?_ ?_
 rotate_left
 ·go_simp
  rfl
 refine hK.out _ _ ?_
 clear hK K
 refine pure_ (i := 13) (N := some 14) (v := ?_) (a' := ?_) #[true, true, true, true, true, true, true, true, true, true, true, true, true, true, false] rfl rfl (any_of HT_.out (by kernel_rfl)) (fun _ _ _ h => h) (Or.inl ⟨by rfl, ?_⟩) ?_ ?_
 rotate_left
 ·intro w'
  go_simp
  with_reducible rfl
 rotate_left
 ·simp only [Act.put, List.setIfInBounds_toArray, List.set_cons_zero, List.set_cons_succ, i64_w, i32_w]
  rfl
 refine last_ (i := 14) (N := none) #[true, true, true, true, true, true, true, true, true, true, true, true, true, true, true] rfl rfl (one_of HT_.out (by kernel_rfl)) (by decide) (fun K hK => ?_)
 have hs16 : w10.cell? ⟨gb127, 2, none⟩ = some (.slice A0_2 l0_2.length c0_2) := (blk_cell BK127.out 2).trans rfl
 have hfs16 := blk_frozen BK127.out 2
 have hns16_1 := NB128_127.out
 have hms16_1 := NB127_128.out
 refine skip_ (w1 := ?_) (by rfl) rfl ?_ ?_
 rotate_left
 ·go_simp
  rfl
 refine hK.out _ _ ?_
 clear hK K
 refine done_ (done_of HT_.out (by kernel_rfl)) ?_
 have hnb17 := NB127_128.out
 have hnc17 := NB128_127.out
 obtain ⟨hcz18_0, hcz18_1, hcz18_2, hcz18_3, hcz18_4, hcz18_5⟩ := ce6_ BK127
 obtain ⟨hfz18_0, hfz18_1, hfz18_2, hfz18_3, hfz18_4, hfz18_5⟩ := cf6_ BK127
 obtain ⟨hcz19_0, hcz19_1, hcz19_2, hcz19_3, hcz19_4, hcz19_5⟩ := ce6_ BK128
 obtain ⟨hfz19_0, hfz19_1, hfz19_2, hfz19_3, hfz19_4, hfz19_5⟩ := cf6_ BK128
 try go_wp2
 refine bodyPost_ret (results_cell_row rfl _ _ gb128 24 #[.slice Ao11 t129.length co11, .slice Ao13 t132.length co13, .slice Ao15 t135.length co15, .int .i64 a0_3, .int .i64 a0_4, .string a0_5] (0, 0) _ rfl (by (with_reducible repeat (first | refine blk_drewN ?_ _ | refine blk_drew ?_ | refine blk_alloc ?_ _)); refine blk_put (cs := #[.slice Ao11 t129.length co11, .slice Ao13 t132.length co13, .slice Ao15 t135.length co15, .int .i64 a0_3, .int .i64 a0_4, .string (⟨#[]⟩ : ByteArray)]) ?_ 5 _ rfl; (with_reducible repeat (first | refine blk_drewN ?_ _ | refine blk_drew ?_ | refine blk_alloc ?_ _)); refine blk_put (cs := #[.slice Ao11 t129.length co11, .slice Ao13 t132.length co13, .slice Ao15 t135.length co15, .int .i64 a0_3, .int .i64 0, .string (⟨#[]⟩ : ByteArray)]) ?_ 4 _ rfl; (with_reducible repeat (first | refine blk_drewN ?_ _ | refine blk_drew ?_ | refine blk_alloc ?_ _)); refine blk_put (cs := #[.slice Ao11 t129.length co11, .slice Ao13 t132.length co13, .slice Ao15 t135.length co15, .int .i64 0, .int .i64 0, .string (⟨#[]⟩ : ByteArray)]) ?_ 3 _ rfl; (with_reducible repeat (first | refine blk_drewN ?_ _ | refine blk_drew ?_ | refine blk_alloc ?_ _)); refine blk_put (cs := #[.slice Ao11 t129.length co11, .slice Ao13 t132.length co13, .slice none 0 0, .int .i64 0, .int .i64 0, .string (⟨#[]⟩ : ByteArray)]) ?_ 2 _ rfl; (with_reducible repeat (first | refine blk_drewN ?_ _ | refine blk_drew ?_ | refine blk_alloc ?_ _)); refine blk_put (cs := #[.slice Ao11 t129.length co11, .slice none 0 0, .slice none 0 0, .int .i64 0, .int .i64 0, .string (⟨#[]⟩ : ByteArray)]) ?_ 1 _ rfl; (with_reducible repeat (first | refine blk_drewN ?_ _ | refine blk_drew ?_ | refine blk_alloc ?_ _)); refine blk_put (cs := #[.slice none 0 0, .slice none 0 0, .slice none 0 0, .int .i64 0, .int .i64 0, .string (⟨#[]⟩ : ByteArray)]) ?_ 0 _ rfl; (with_reducible repeat (first | refine blk_drewN ?_ _ | refine blk_drew ?_ | refine blk_alloc ?_ _)); refine blk_far ?_ NB128_127.out _; (with_reducible repeat (first | refine blk_drewN ?_ _ | refine blk_drew ?_ | refine blk_alloc ?_ _)); refine blk_far ?_ NB128_127.out _; (with_reducible repeat (first | refine blk_drewN ?_ _ | refine blk_drew ?_ | refine blk_alloc ?_ _)); refine blk_far ?_ NB128_127.out _; (with_reducible repeat (first | refine blk_drewN ?_ _ | refine blk_drew ?_ | refine blk_alloc ?_ _)); exact BK128.out) Try.underlying24 rfl (by kernel_rfl)) rfl ?_
 exact ⟨_, _, _, by first | rfl | (simp [errW_none, errW_some] <;> rfl) | (simp [*, errW_none, errW_some] <;> rfl), by (with_reducible repeat (first | apply Kd.R_alloc | apply Kd.R_drewN | apply Kd.R_drew)); exact Kd.R_mono (Kd.R_far (p := ⟨gb128, 5, none⟩) (Kd.R_far (p := ⟨gb128, 4, none⟩) (Kd.R_far (p := ⟨gb128, 3, none⟩) (Kd.R_far (p := ⟨gb128, 2, none⟩) (Kd.R_far (p := ⟨gb128, 1, none⟩) (Kd.R_far (p := ⟨gb128, 0, none⟩) (Kd.R_far (p := ⟨gb127, 2, none⟩) (Kd.R_far (p := ⟨gb127, 1, none⟩) (Kd.R_far (p := ⟨gb127, 0, none⟩) (Kd.R_types (Kd.R_types HO131.out BK127.out (by decide)) BK128.out (by decide)) (fun _ hk => hk.1.2) (.slice Ao11 t129.length co11)) (fun _ hk => hk.1.2) (.slice Ao13 t132.length co13)) (fun _ hk => hk.1.2) (.slice Ao15 t135.length co15)) (fun _ hk => hk.2) (.slice Ao11 t129.length co11)) (fun _ hk => hk.2) (.slice Ao13 t132.length co13)) (fun _ hk => hk.2) (.slice Ao15 t135.length co15)) (fun _ hk => hk.2) (.int .i64 a0_3)) (fun _ hk => hk.2) (.int .i64 a0_4)) (fun _ hk => hk.2) (.string a0_5)) (fun _ hk => ⟨hk.1.1.1.2, hk.1.1.2⟩), by (with_reducible repeat (first | apply Kd.R_alloc | apply Kd.R_drewN | apply Kd.R_drew)); exact Kd.R_mono (Kd.R_far (p := ⟨gb128, 5, none⟩) (Kd.R_far (p := ⟨gb128, 4, none⟩) (Kd.R_far (p := ⟨gb128, 3, none⟩) (Kd.R_far (p := ⟨gb128, 2, none⟩) (Kd.R_far (p := ⟨gb128, 1, none⟩) (Kd.R_far (p := ⟨gb128, 0, none⟩) (Kd.R_far (p := ⟨gb127, 2, none⟩) (Kd.R_far (p := ⟨gb127, 1, none⟩) (Kd.R_far (p := ⟨gb127, 0, none⟩) (Kd.R_types (Kd.R_types HO134.out BK127.out (by decide)) BK128.out (by decide)) (fun _ hk => hk.1.2) (.slice Ao11 t129.length co11)) (fun _ hk => hk.1.2) (.slice Ao13 t132.length co13)) (fun _ hk => hk.1.2) (.slice Ao15 t135.length co15)) (fun _ hk => hk.2) (.slice Ao11 t129.length co11)) (fun _ hk => hk.2) (.slice Ao13 t132.length co13)) (fun _ hk => hk.2) (.slice Ao15 t135.length co15)) (fun _ hk => hk.2) (.int .i64 a0_3)) (fun _ hk => hk.2) (.int .i64 a0_4)) (fun _ hk => hk.2) (.string a0_5)) (fun _ hk => ⟨hk.1.1.1.2, hk.1.1.2⟩), by (with_reducible repeat (first | apply Kd.R_alloc | apply Kd.R_drewN | apply Kd.R_drew)); exact Kd.R_mono (Kd.R_far (p := ⟨gb128, 5, none⟩) (Kd.R_far (p := ⟨gb128, 4, none⟩) (Kd.R_far (p := ⟨gb128, 3, none⟩) (Kd.R_far (p := ⟨gb128, 2, none⟩) (Kd.R_far (p := ⟨gb128, 1, none⟩) (Kd.R_far (p := ⟨gb128, 0, none⟩) (Kd.R_far (p := ⟨gb127, 2, none⟩) (Kd.R_far (p := ⟨gb127, 1, none⟩) (Kd.R_far (p := ⟨gb127, 0, none⟩) (Kd.R_types (Kd.R_types HO137.out BK127.out (by decide)) BK128.out (by decide)) (fun _ hk => hk.1.2) (.slice Ao11 t129.length co11)) (fun _ hk => hk.1.2) (.slice Ao13 t132.length co13)) (fun _ hk => hk.1.2) (.slice Ao15 t135.length co15)) (fun _ hk => hk.2) (.slice Ao11 t129.length co11)) (fun _ hk => hk.2) (.slice Ao13 t132.length co13)) (fun _ hk => hk.2) (.slice Ao15 t135.length co15)) (fun _ hk => hk.2) (.int .i64 a0_3)) (fun _ hk => hk.2) (.int .i64 a0_4)) (fun _ hk => hk.2) (.string a0_5)) (fun _ hk => ⟨hk.1.1.1.2, hk.1.1.2⟩), by repeat (first | (with_reducible first | exact HB.out | apply below_alloc | apply pw_below_drewN | apply below_drew1 | refine below_set ?_ GE127.out | refine below_set ?_ GE128.out) | exact HB.out)⟩

/-! ### impl_changed: function 57 -/
/-- Data held in block g: its cells, and three rows of the call's own, apart from each other. -/
structure Held (w0 W : World) (g : Nat) (A0 : Option Addr) (c0 : Nat) (A1 : Option Addr) (c1 : Nat) (A2 : Option Addr) (c2 : Nat) (s b c : List Int) (h n : Int) (o : ByteArray) : Prop where
 below : Below w0.heap.size w0 W
 ge : w0.heap.size ≤ g
 blk : W.heap[g]? = some (.cells #[.slice A0 s.length c0, .slice A1 b.length c1, .slice A2 c.length c2, .int .i64 h, .int .i64 n, .string o] 24 (0, 0))
 r0 : Kd.R (Kd.int .i64) 3 W w0.heap.size (fun k => some k ≠ (.slice A1 b.length c1 : Value).ownBlock ∧ some k ≠ (.slice A2 c.length c2 : Value).ownBlock) (.slice A0 s.length c0) s
 r1 : Kd.R (Kd.int .i64) 3 W w0.heap.size (fun k => some k ≠ (.slice A0 s.length c0 : Value).ownBlock ∧ some k ≠ (.slice A2 c.length c2 : Value).ownBlock) (.slice A1 b.length c1) b
 r2 : Kd.R (Kd.int .i64) 3 W w0.heap.size (fun k => some k ≠ (.slice A0 s.length c0 : Value).ownBlock ∧ some k ≠ (.slice A1 b.length c1 : Value).ownBlock) (.slice A2 c.length c2) c
/-- The same behind quiet steps that leave the old blocks alone. -/
theorem Held.step {w0 W W1 : World} {g : Nat} {A0 : Option Addr} {c0 : Nat} {A1 : Option Addr} {c1 : Nat} {A2 : Option Addr} {c2 : Nat} {s b c : List Int} {h n : Int} {o : ByteArray} (H : Held w0 W g A0 c0 A1 c1 A2 c2 s b c h n o) (hb : Below W.heap.size W W1) : Held w0 W1 g A0 c0 A1 c1 A2 c2 s b c h n o :=
 ⟨below_step H.below hb, H.ge, blk_below H.blk hb, Kd.R_below H.r0 hb, Kd.R_below H.r1 hb, Kd.R_below H.r2 hb⟩
/-- The rows behind a store into the block. -/
theorem Held.rows_set {W : World} {g : Nat} {B : Nat} {cs : Array Value} {j : Nat} {u : Value} {ok : Nat → Prop} {v : Value} {xs : List Int} (hb : W.heap[g]? = some (.cells cs 24 (0, 0))) (h : Kd.R (Kd.int .i64) 3 W B ok v xs) : Kd.R (Kd.int .i64) 3 (W.setCell ⟨g, j, none⟩ u) B ok v xs :=
 Kd.R_mono (Kd.R_far (p := ⟨g, j, none⟩) (Kd.R_types h hb (by decide)) (fun _ hk => hk.2) u) (fun _ hk => hk.1)
set_option maxHeartbeats 4000000 in
set_option maxRecDepth 100000 in
theorem push_calls (w0 W : World) (g : Nat) (A0 : Option Addr) (c0 : Nat) (A1 : Option Addr) (c1 : Nat) (A2 : Option Addr) (c2 : Nat) (s b c : List Int) (h n : Int) (o : ByteArray) (x : Int) (t : Int) (s' : List Int) (ht : ((s.length : Int) = 32 → t = -3 ∧ s' = s) ∧ (¬ (s.length : Int) = 32 → t = 0 ∧ s' = s ++ [x])) (H : Held w0 W g A0 c0 A1 c1 A2 c2 s b c h n o) (hl : s.length < 1000) :
  Calls Try.prog 67 #[.pointer (some ⟨g, 0, none⟩), .int .i64 x] W fun e W' => e = .returned (.int .i64 t) ∧ ∃ A0' c0', Held w0 W' g A0' c0' A1 c1 A2 c2 s' b c h n o := by
 have hz0 : W.cell? ⟨g, 0, none⟩ = some (.slice A0 s.length c0) := (blk_cell H.blk 0).trans rfl
 have hf0 := blk_frozen H.blk 0
 by_cases e : (s.length : Int) = 32
 ·have e0 : ((s.length : Int) == 32) = true := beq_iff_eq.mpr e
  obtain ⟨rfl, rfl⟩ := ht.1 e
  have HH := am_ H
  clear H hl e ht
  go_enter Try.func67, Try.ntmps67
  go_wp2
  go_ret
  exact ⟨rfl, _, _, HH.out⟩
 ·have e0 : ((s.length : Int) == 32) = false := beq_eq_false_iff_ne.mpr e
  obtain ⟨rfl, rfl⟩ := ht.2 e
  have HH := am_ H
  have HL := am_ hl
  clear H hl e ht
  go_enter Try.func67, Try.ntmps67
  go_wp2_with (first | ((with_reducible refine gate_builtin (b := .append) (xs := #[.tmp 15, .tmp 17]) rfl ?_); at_builtin; refine Kd.R_append (Kd.int .i64) (w0 := w0) w0.heap.size rfl (.tmp 15) (.tmp 17) 22 3 (.int .i64 0) 8 rfl Try.underlying22 info3 rfl (by decide) (by omega) (.slice A0 s.length c0) s x [.int .i64 x] (fun k => some k ≠ (.slice A1 b.length c1 : Value).ownBlock ∧ some k ≠ (.slice A2 c.length c2 : Value).ownBlock) (fun _ => False) rfl rfl ?aP (fun _ hk => hk.elim) ?aF ?aO ?aB ?aS ?aL ?_; (case aP => exact rfl); (case aB => exact (by repeat (first | (with_reducible first | exact HH.out.below | apply below_alloc | apply pw_below_drewN | apply below_drew1) | exact HH.out.below))); (case aF => exact (fun k_ hk => ⟨Kd.fresh' (Kd.R_lt (by (with_reducible repeat (first | apply Kd.R_alloc | apply Kd.R_drewN | apply Kd.R_drew)); exact HH.out.r1)) k_ hk, Kd.fresh' (Kd.R_lt (by (with_reducible repeat (first | apply Kd.R_alloc | apply Kd.R_drewN | apply Kd.R_drew)); exact HH.out.r2)) k_ hk⟩)); (case aO => exact (by (with_reducible repeat (first | apply Kd.R_alloc | apply Kd.R_drewN | apply Kd.R_drew)); exact HH.out.r0)); (case aS => exact (below_size (by repeat (first | (with_reducible first | exact HH.out.below | apply below_alloc | apply pw_below_drewN | apply below_drew1) | exact HH.out.below)))); (case aL => have := HL.out; omega); intro v1 w2 ho hb hg hat; have R1 := am_ (Kd.R_after (ok := (fun k => some k ≠ (.slice A2 c.length c2 : Value).ownBlock)) (by (with_reducible repeat (first | apply Kd.R_alloc | apply Kd.R_drewN | apply Kd.R_drew)); exact Kd.R_mono HH.out.r1 (fun _ hk => ⟨hk.2, hk.1⟩)) hg hat); have R2 := am_ (Kd.R_after (ok := (fun k => some k ≠ (.slice A1 b.length c1 : Value).ownBlock)) (by (with_reducible repeat (first | apply Kd.R_alloc | apply Kd.R_drewN | apply Kd.R_drew)); exact Kd.R_mono HH.out.r2 (fun _ hk => ⟨hk.2, hk.1⟩)) hg hat); have BK := am_ (blk_grown (g := g) (o := .cells #[.slice A0 s.length c0, .slice A1 b.length c1, .slice A2 c.length c2, .int .i64 h, .int .i64 n, .string o] 24 (0, 0)) (by (with_reducible repeat (first | refine blk_drewN ?_ _ | refine blk_drew ?_ | refine blk_alloc ?_ _)); exact HH.out.blk) hg (Kd.R_ne HH.out.r0 HH.out.blk (by decide))); have R0 := am_ ho; have HB := am_ hb; clear ho hb hg hat; obtain ⟨A, cc, ev⟩ := Kd.R_slice R0.out; subst ev; have hy0 : w2.cell? ⟨g, 0, none⟩ = some (.slice A0 s.length c0) := (blk_cell BK.out 0).trans rfl; have hyf := blk_frozen BK.out 0))
  go_ret
  exact ⟨rfl, A, cc, below_set HB.out HH.out.ge, HH.out.ge, blk_put BK.out 0 _ (by rw [List.length_append]; rfl), Held.rows_set BK.out (Kd.R_mono R0.out (fun _ hk => hk)), Held.rows_set BK.out (Kd.R_mono R1.out (fun _ hk => ⟨hk.2, hk.1⟩)), Held.rows_set BK.out (Kd.R_mono R2.out (fun _ hk => ⟨hk.2, hk.1⟩))⟩
set_option maxHeartbeats 4000000 in
set_option maxRecDepth 100000 in
theorem push1_calls (w0 W : World) (g q : Nat) (A0 : Option Addr) (c0 : Nat) (A1 : Option Addr) (c1 : Nat) (A2 : Option Addr) (c2 : Nat) (s b c : List Int) (h n : Int) (o : ByteArray) (x : Int) (t : Int) (s' : List Int) (ht : ((s.length : Int) = 32 → t = -3 ∧ s' = s) ∧ (¬ (s.length : Int) = 32 → t = 0 ∧ s' = s ++ [x])) (H : Held w0 W g A0 c0 A1 c1 A2 c2 s b c h n o) (hl : s.length < 1000) (hq : W.cell? ⟨q, 0, none⟩ = some (.int .i64 x)) :
  Calls Try.prog 66 #[.pointer (some ⟨g, 0, none⟩), .pointer (some ⟨q, 0, none⟩)] W fun e W' => e = .returned (.int .i64 t) ∧ ∃ A0' c0', Held w0 W' g A0' c0' A1 c1 A2 c2 s' b c h n o := by
 have HH := am_ H
 have HL := am_ hl
 have HT := am_ ht
 clear H hl ht
 go_enter Try.func66, Try.ntmps66
 go_wp2_with (first | (go_at_call 67; refine (push_calls w0 W g A0 c0 A1 c1 A2 c2 s b c h n o x t s' HT.out HH.out HL.out).mono ?_; rintro e w' ⟨rfl, hh⟩; have HF := am_ hh; clear hh))
 go_ret
 exact ⟨rfl, HF.out⟩

/-- A call of a function value that has captured variables, in a plain region. -/
theorem goesC_ {P : Program} {ops : Array Oper} {Q : Exit → Act → World → Prop} {rest : List Oper} {oi : Oper} {a : Act} {w : World} (N : Option Tmp) (hd : oi.dst = N) (hg : oi.guard = none) {f : FuncId} {fn : Func} {asx : Array Operand} {ts : Array TypeId} (c : Operand) (fr : Array Value) (hc : a.eval c = .func (.func f) #[] fr) (hf : P.funcs[f]? = some fn) (hname : (fn.name == "runtime.NumGoroutine") = false) (hb : fn.body.isSome = true) (args : Array Value)
  (hop : oi.op = .call { callee := .value c, args := asx, argTypes := ts }) (hargs : asx.map a.eval = args)
  (h : Calls P f (args ++ fr) w fun e w' => ∃ v, e = .returned v ∧ wpList P ops Q rest (a.put N v) w') : wpList P ops Q (oi :: rest) a w := by
 refine wpList_plain hg fun K hK => ?_
 have h1 : fn.name ≠ "runtime.NumGoroutine" := by simpa using hname
 have he : (callFunc f (args ++ fr)).run P w = .ok (.enter f (args ++ fr)) w := by
  obtain ⟨b, hb'⟩ := Option.isSome_iff_exists.1 hb
  simp [callFunc, hf, h1, hb']
 have hrun : (execOp a.eval oi).run P w = .ok (.enter f (args ++ fr)) w := by
  unfold execOp
  simp [hop, resolve, Deferred.ofValue, invoke, hc, hargs, he]
 unfold Oper.wp
 rw [hrun, Oper.upon_enter]
 refine h.mono fun e w'' hh => ?_
 obtain ⟨v, rfl, hk⟩ := hh
 subst hd
 exact hK _ _ hk
/-- A struct stored into a fresh block: held from then on. -/
theorem Held.store {w0 W : World} {g : Nat} {A0 : Option Addr} {c0 : Nat} {A1 : Option Addr} {c1 : Nat} {A2 : Option Addr} {c2 : Nat} {s b c : List Int} {h n : Int} {o : ByteArray} {z0 z1 z2 z3 z4 z5 : Value} (hB : Below w0.heap.size w0 W) (hg : w0.heap.size ≤ g) (hb : W.heap[g]? = some (.cells #[z0, z1, z2, z3, z4, z5] 24 (0, 0)))
  (r0 : Kd.R (Kd.int .i64) 3 W w0.heap.size (fun k => some k ≠ (.slice A1 b.length c1 : Value).ownBlock ∧ some k ≠ (.slice A2 c.length c2 : Value).ownBlock) (.slice A0 s.length c0) s)
  (r1 : Kd.R (Kd.int .i64) 3 W w0.heap.size (fun k => some k ≠ (.slice A0 s.length c0 : Value).ownBlock ∧ some k ≠ (.slice A2 c.length c2 : Value).ownBlock) (.slice A1 b.length c1) b)
  (r2 : Kd.R (Kd.int .i64) 3 W w0.heap.size (fun k => some k ≠ (.slice A0 s.length c0 : Value).ownBlock ∧ some k ≠ (.slice A1 b.length c1 : Value).ownBlock) (.slice A2 c.length c2) c) :
  Held w0 ((((((W.setCell ⟨g, 0, none⟩ (.slice A0 s.length c0)).setCell ⟨g, 1, none⟩ (.slice A1 b.length c1)).setCell ⟨g, 2, none⟩ (.slice A2 c.length c2)).setCell ⟨g, 3, none⟩ (.int .i64 h)).setCell ⟨g, 4, none⟩ (.int .i64 n)).setCell ⟨g, 5, none⟩ (.string o)) g A0 c0 A1 c1 A2 c2 s b c h n o := by
 have b1 := blk_put hb 0 (.slice A0 s.length c0) rfl
 have b2 := blk_put b1 1 (.slice A1 b.length c1) rfl
 have b3 := blk_put b2 2 (.slice A2 c.length c2) rfl
 have b4 := blk_put b3 3 (.int .i64 h) rfl
 have b5 := blk_put b4 4 (.int .i64 n) rfl
 have b6 := blk_put b5 5 (.string o) rfl
 exact ⟨below_set (below_set (below_set (below_set (below_set (below_set hB hg) hg) hg) hg) hg) hg, hg, b6,
  Held.rows_set b5 (Held.rows_set b4 (Held.rows_set b3 (Held.rows_set b2 (Held.rows_set b1 (Held.rows_set hb r0))))),
  Held.rows_set b5 (Held.rows_set b4 (Held.rows_set b3 (Held.rows_set b2 (Held.rows_set b1 (Held.rows_set hb r1))))),
  Held.rows_set b5 (Held.rows_set b4 (Held.rows_set b3 (Held.rows_set b2 (Held.rows_set b1 (Held.rows_set hb r2)))))⟩
/-- What follows a world that is as another below n. -/
theorem below_sized {n : Nat} {w W w2 : World} (h : Below n w W) (hn : n ≤ W.heap.size) (k : Below W.heap.size W w2) : Below n w w2 := h.trans (k.mono hn)
theorem below_setq {n : Nat} {w W : World} {g j : Nat} {v : Value} (h : Below n w W) (hg : n ≤ g) : Below n w (W.setCell ⟨g, j, none⟩ v) := h.setCell hg _
theorem below_at {w wq w2 : World} (e : wq.heap.size = w.heap.size) (h : Below w.heap.size wq w2) : Below wq.heap.size wq w2 := by rw [e]; exact h
theorem below_size' {w wq w2 : World} (e : wq.heap.size = w.heap.size) (h : Below w.heap.size wq w2) : w.heap.size ≤ w2.heap.size := e ▸ h.size
theorem below_both {n : Nat} {w W : World} (h : Below n w W) (p : Addr) (v : Value) : Below n (w.setCell p v) (W.setCell p v) := by
 refine ⟨h.os, h.tape, h.output, by simpa [World.setCell] using h.size, fun k hk => ?_⟩
 have e := h.block k hk
 simp only [World.setCell, Array.getElem?_modify, e]
theorem setCell_same (w : World) (p : Addr) (v : Value) : (w.setCell p v).heap.size = w.heap.size := by simp [World.setCell]
/-- A row of the call's own, behind a store into a block from before the call. -/
theorem rows_low {W : World} {B q : Nat} {u : Value} {ok : Nat → Prop} {v : Value} {xs : List Int} (h : Kd.R (Kd.int .i64) 3 W B ok v xs) (hq : q < B) : Kd.R (Kd.int .i64) 3 (W.setCell ⟨q, 0, none⟩ u) B ok v xs :=
 Kd.R_mono (Kd.R_move (Kd.R_bound h) (fun k hk => Below.heap_setCell W _ u k (by have := hk.2.1; show k ≠ q; omega))) (fun _ hk => hk.1)
theorem Held.setq {w0 W : World} {g q : Nat} {A0 : Option Addr} {c0 : Nat} {A1 : Option Addr} {c1 : Nat} {A2 : Option Addr} {c2 : Nat} {s b c : List Int} {h n : Int} {o : ByteArray} (H : Held w0 W g A0 c0 A1 c1 A2 c2 s b c h n o) (hq : q < w0.heap.size) (v : Value) : Held (w0.setCell ⟨q, 0, none⟩ v) (W.setCell ⟨q, 0, none⟩ v) g A0 c0 A1 c1 A2 c2 s b c h n o := by
 have ge := H.ge
 have e := setCell_same w0 ⟨q, 0, none⟩ v
 exact ⟨by rw [e]; exact below_both H.below _ _, by rw [e]; exact ge, blk_far H.blk (show g ≠ q by omega) v, by rw [e]; exact rows_low H.r0 hq, by rw [e]; exact rows_low H.r1 hq, by rw [e]; exact rows_low H.r2 hq⟩
theorem results_cttt {P : Program} {fn : Func} {p u v x : Tmp} {ty : TypeId} (h : fn.results = #[.cell p ty, .tmp u, .tmp v, .tmp x]) (tmps : Array Value) (w : World) (g : Nat) (t : TypeId) (cs : Array Value) (fr : Nat × Nat) (d : TypeDesc)
  (hp : tmps.getD p undef = .pointer (some ⟨g, 0, none⟩)) (hg : w.heap[g]? = some (.cells cs t fr))
  (hu : P.underlying ty = some d) (hd : (match d with | .struct _ | .array _ _ => true | _ => false) = true) (hi : (P.info? ty).map (·.size) = some cs.size) :
  (results fn tmps).run P w = .ok (.tuple #[.agg cs, tmps.getD u undef, tmps.getD v undef, tmps.getD x undef]) w := by
 have hp' : tmps[p]?.getD undef = .pointer (some ⟨g, 0, none⟩) := by simpa using hp
 simp [results, h, hp', asAddr, run_loadVar_row w g t ty cs fr d hg hu hd hi]
set_option maxHeartbeats 4000000 in
set_option maxRecDepth 100000 in
/-- impl.changed, over what is known of the change. -/
theorem changedQ_calls (A0 : Option Addr) (c0 : Nat) (A1 : Option Addr) (c1 : Nat) (A2 : Option Addr) (c2 : Nat) (s b c : List Int) (h n : Int) (o : ByteArray) (w wq : World) (hwq : wq.heap.size = w.heap.size) (hq0 : Kd.C (Kd.int .i64) wq A0 s.length s) (hq1 : Kd.C (Kd.int .i64) wq A1 b.length b) (hq2 : Kd.C (Kd.int .i64) wq A2 c.length c) (cl : FuncId) (fnc : Func) (fr : Array Value) (hcf : Try.prog.funcs[cl]? = some fnc) (hcn : (fnc.name == "runtime.NumGoroutine") = false) (hcb : fnc.body.isSome = true)
  (hr0 : Kd.C (Kd.int .i64) w A0 s.length s) (hc0 : s.length ≤ c0) (hr1 : Kd.C (Kd.int .i64) w A1 b.length b) (hc1 : b.length ≤ c1) (hr2 : Kd.C (Kd.int .i64) w A2 c.length c) (hc2 : c.length ≤ c2)
  (hcopy : impl_Data_copied.f s b c h n o = some (s, b, c, h, n, o)) (t : Int) (s' b' c' : List Int) (h' n' : Int) (o' : ByteArray)
  (hcl : ∀ (W0 W : World) (g : Nat) (B0 : Option Addr) (d0 : Nat) (B1 : Option Addr) (d1 : Nat) (B2 : Option Addr) (d2 : Nat), Below w.heap.size w W0 → Held W0 W g B0 d0 B1 d1 B2 d2 s b c h n o →
   Calls Try.prog cl (#[.pointer (some ⟨g, 0, none⟩)] ++ fr) W fun e W' => e = .returned (.int .i64 t) ∧ ∃ Wq : World, Below w.heap.size wq Wq ∧ Wq.heap.size = W0.heap.size ∧ (∀ k_ : Nat, w.heap.size ≤ k_ → Wq.heap[k_]? = W0.heap[k_]?) ∧ ∃ B0' d0' B1' d1' B2' d2', Held Wq W' g B0' d0' B1' d1' B2' d2' s' b' c' h' n' o') (ht : t = 0) :
  Calls Try.prog 57 #[.agg #[.slice A0 s.length c0, .slice A1 b.length c1, .slice A2 c.length c2, .int .i64 h, .int .i64 n, .string o], .func (.func cl) #[] fr] w fun e w' => ∃ v0 v1 v2 : Value, e = .returned (.tuple #[.agg #[v0, v1, v2, .int .i64 h', .int .i64 n', .string o'], .int .i64 t]) ∧ Kd.R (Kd.int .i64) 3 w' w.heap.size (fun k_ => some k_ ≠ (v1 : Value).ownBlock ∧ some k_ ≠ (v2 : Value).ownBlock) v0 s' ∧ Kd.R (Kd.int .i64) 3 w' w.heap.size (fun k_ => some k_ ≠ (v0 : Value).ownBlock ∧ some k_ ≠ (v2 : Value).ownBlock) v1 b' ∧ Kd.R (Kd.int .i64) 3 w' w.heap.size (fun k_ => some k_ ≠ (v0 : Value).ownBlock ∧ some k_ ≠ (v1 : Value).ownBlock) v2 c' ∧ Below w.heap.size wq w' := by
 have hu24 := Try.underlying24
 have HR0 := am_ hr0
 have HR1 := am_ hr1
 have HR2 := am_ hr2
 have HC0 := am_ hc0
 have HC1 := am_ hc1
 have HC2 := am_ hc2
 have HCL := am_ hcl
 have HQ0 := am_ hq0
 have HQ1 := am_ hq1
 have HQ2 := am_ hq2
 have HCO := am_ hcopy
 clear hr0 hr1 hr2 hc0 hc1 hc2 hcl hcopy hq0 hq1 hq2
 subst ht
 go_enter Try.func57, Try.ntmps57
 go_wp2_with (first
  | ((with_reducible refine gate_dst (N := 2) rfl ?_); refine box_event ?hg (N := 2) ?hd (cs := #[.slice A0 s.length c0, .slice A1 b.length c1, .slice A2 c.length c2, .int .i64 h, .int .i64 n, .string o]) (t := 24) ?hr ?_; (case hd => rfl); (case hg => rfl); (case hr => first | (go_simp; done) | (go_simp; rfl)); intro g2 hg w1 hbox hb; have BK2 := am_ hbox; have HB := am_ hb; have GE2 := am_ (show w.heap.size ≤ g2 by rw [hg]; exact Nat.le_refl _); clear hg hbox hb)
  | ((with_reducible refine gate_dst (N := 4) rfl ?_); refine box_event ?hg (N := 4) ?hd (cs := #[.slice none 0 0, .slice none 0 0, .slice none 0 0, .int .i64 0, .int .i64 0, .string (⟨#[]⟩ : ByteArray)]) (t := 24) ?hr ?_; (case hd => rfl); (case hg => rfl); (case hr => first | (go_simp; done) | (go_simp; rfl)); intro g4 hg w2 hbox hb; have BK4 := am_ hbox; replace BK2 := am_ (blk_below BK2.out hb); have GE4 := am_ (show w.heap.size ≤ g4 by rw [hg]; exact below_size HB.out); replace HB := am_ (below_step HB.out hb); clear hg hbox hb; have hcz0 : w2.cell? ⟨g2, 0, none⟩ = some (.slice A0 s.length c0) := (blk_cell BK2.out 0).trans rfl; have hcz1 : w2.cell? ⟨g2, 1, none⟩ = some (.slice A1 b.length c1) := (blk_cell BK2.out 1).trans rfl; have hcz2 : w2.cell? ⟨g2, 2, none⟩ = some (.slice A2 c.length c2) := (blk_cell BK2.out 2).trans rfl; have hcz3 : w2.cell? ⟨g2, 3, none⟩ = some (.int .i64 h) := (blk_cell BK2.out 3).trans rfl; have hcz4 : w2.cell? ⟨g2, 4, none⟩ = some (.int .i64 n) := (blk_cell BK2.out 4).trans rfl; have hcz5 : w2.cell? ⟨g2, 5, none⟩ = some (.string o) := (blk_cell BK2.out 5).trans rfl)
  | (go_at_call 86; (with_reducible refine (impl_Data_copied.calls A0 c0 s A1 c1 b A2 c2 c h n o s b c h n o w2 (Kd.C_below HR0.out HB.out) HC0.out (Kd.C_below HR1.out HB.out) HC1.out (Kd.C_below HR2.out HB.out) HC2.out HCO.out).mono ?_); rintro e w3 ⟨v0, v1, v2, rfl, x0, x1, x2, hb⟩; have X0 := am_ x0; have X1 := am_ x1; have X2 := am_ x2; have HB2 := am_ hb; clear x0 x1 x2 hb; obtain ⟨B0, d0, e0⟩ := Kd.R_slice X0.out; subst e0; obtain ⟨B1, d1, e1⟩ := Kd.R_slice X1.out; subst e1; obtain ⟨B2, d2, e2⟩ := Kd.R_slice X2.out; subst e2)
  | ((with_reducible refine gate_dst (N := 6) rfl ?_); refine box_event ?hg (N := 6) ?hd (cs := #[.slice none 0 0, .slice none 0 0, .slice none 0 0, .int .i64 0, .int .i64 0, .string (⟨#[]⟩ : ByteArray)]) (t := 24) ?hr ?_; (case hd => rfl); (case hg => rfl); (case hr => first | (go_simp; done) | (go_simp; rfl)); intro g6 hg w4 hbox hb; have BK6 := am_ hbox; have GE6 := am_ (show w2.heap.size ≤ g6 by rw [hg]; exact below_size HB2.out); replace X0 := am_ (Kd.R_below X0.out hb); replace X1 := am_ (Kd.R_below X1.out hb); replace X2 := am_ (Kd.R_below X2.out hb); replace HB2 := am_ (below_step HB2.out hb); clear hg hbox hb; have hcx0 : w4.cell? ⟨g6, 0, none⟩ = some (.slice none 0 0) := (blk_cell BK6.out 0).trans rfl; have hcx1 : w4.cell? ⟨g6, 1, none⟩ = some (.slice none 0 0) := (blk_cell BK6.out 1).trans rfl; have hcx2 : w4.cell? ⟨g6, 2, none⟩ = some (.slice none 0 0) := (blk_cell BK6.out 2).trans rfl; have hcx3 : w4.cell? ⟨g6, 3, none⟩ = some (.int .i64 0) := (blk_cell BK6.out 3).trans rfl; have hcx4 : w4.cell? ⟨g6, 4, none⟩ = some (.int .i64 0) := (blk_cell BK6.out 4).trans rfl; have hcx5 : w4.cell? ⟨g6, 5, none⟩ = some (.string (⟨#[]⟩ : ByteArray)) := (blk_cell BK6.out 5).trans rfl; have hcxf0 := blk_frozen (BK6.out) 0; have hcxf1 := blk_frozen (BK6.out) 1; have hcxf2 := blk_frozen (BK6.out) 2; have hcxf3 := blk_frozen (BK6.out) 3; have hcxf4 := blk_frozen (BK6.out) 4; have hcxf5 := blk_frozen (BK6.out) 5)
  | ((with_reducible refine Go.Proofs.YtcelnpmahnblpaaO.gate_tmp (t := 10) rfl ?_); refine goesC_ (some 11) rfl rfl (.tmp 10) fr rfl hcf hcn hcb #[.pointer (some ⟨g6, 0, none⟩)] rfl (by (try simp only [List.map_toArray, List.map_cons, List.map_nil]); first | done | rfl) ?_; refine (HCL.out w2 _ g6 B0 d0 B1 d1 B2 d2 HB.out (Held.store HB2.out GE6.out BK6.out X0.out X1.out X2.out)).mono ?_; rintro e w5 ⟨rfl, hh⟩; refine ⟨_, rfl, ?_⟩; obtain ⟨Wq, hQ1, hQ2, hQ3, E0, f0, E1, f1, E2, f2, HH⟩ := hh; have HBQ := am_ (below_sized hQ1 (show w.heap.size ≤ Wq.heap.size by rw [hQ2]; exact below_size HB.out) HH.below); have LO := am_ (show w.heap.size ≤ Wq.heap.size by rw [hQ2]; exact below_size HB.out); have HF := am_ HH; have BK5 := am_ (blk_below ((hQ3 g4 GE4.out).trans BK4.out) HH.below); clear HH hQ1 hQ2 hQ3; have hcy0 : w5.cell? ⟨g6, 0, none⟩ = some (.slice E0 s'.length f0) := (blk_cell HF.out.blk 0).trans rfl; have hcy1 : w5.cell? ⟨g6, 1, none⟩ = some (.slice E1 b'.length f1) := (blk_cell HF.out.blk 1).trans rfl; have hcy2 : w5.cell? ⟨g6, 2, none⟩ = some (.slice E2 c'.length f2) := (blk_cell HF.out.blk 2).trans rfl; have hcy3 : w5.cell? ⟨g6, 3, none⟩ = some (.int .i64 h') := (blk_cell HF.out.blk 3).trans rfl; have hcy4 : w5.cell? ⟨g6, 4, none⟩ = some (.int .i64 n') := (blk_cell HF.out.blk 4).trans rfl; have hcy5 : w5.cell? ⟨g6, 5, none⟩ = some (.string o') := (blk_cell HF.out.blk 5).trans rfl; have hcyf0 := blk_frozen (HF.out.blk) 0; have hcyf1 := blk_frozen (HF.out.blk) 1; have hcyf2 := blk_frozen (HF.out.blk) 2; have hcyf3 := blk_frozen (HF.out.blk) 3; have hcyf4 := blk_frozen (HF.out.blk) 4; have hcyf5 := blk_frozen (HF.out.blk) 5; have hcw0 : w5.cell? ⟨g4, 0, none⟩ = some (.slice none 0 0) := (blk_cell BK5.out 0).trans rfl; have hcw1 : w5.cell? ⟨g4, 1, none⟩ = some (.slice none 0 0) := (blk_cell BK5.out 1).trans rfl; have hcw2 : w5.cell? ⟨g4, 2, none⟩ = some (.slice none 0 0) := (blk_cell BK5.out 2).trans rfl; have hcw3 : w5.cell? ⟨g4, 3, none⟩ = some (.int .i64 0) := (blk_cell BK5.out 3).trans rfl; have hcw4 : w5.cell? ⟨g4, 4, none⟩ = some (.int .i64 0) := (blk_cell BK5.out 4).trans rfl; have hcw5 : w5.cell? ⟨g4, 5, none⟩ = some (.string (⟨#[]⟩ : ByteArray)) := (blk_cell BK5.out 5).trans rfl; have hcwf0 := blk_frozen (BK5.out) 0; have hcwf1 := blk_frozen (BK5.out) 1; have hcwf2 := blk_frozen (BK5.out) 2; have hcwf3 := blk_frozen (BK5.out) 3; have hcwf4 := blk_frozen (BK5.out) 4; have hcwf5 := blk_frozen (BK5.out) 5))
 have b1 := blk_put BK5.out 0 (.slice E0 s'.length f0) rfl
 have b2 := blk_put b1 1 (.slice E1 b'.length f1) rfl
 have b3 := blk_put b2 2 (.slice E2 c'.length f2) rfl
 have b4 := blk_put b3 3 (.int .i64 h') rfl
 have b5 := blk_put b4 4 (.int .i64 n') rfl
 have b6 := blk_put b5 5 (.string o') rfl
 have lo := LO.out
 have rows : ∀ {ok : Nat → Prop} {v : Value} {xs : List Int}, Kd.R (Kd.int .i64) 3 w5 Wq.heap.size ok v xs → Kd.R (Kd.int .i64) 3 ((((((w5.setCell ⟨g4, 0, none⟩ (.slice E0 s'.length f0)).setCell ⟨g4, 1, none⟩ (.slice E1 b'.length f1)).setCell ⟨g4, 2, none⟩ (.slice E2 c'.length f2)).setCell ⟨g4, 3, none⟩ (.int .i64 h')).setCell ⟨g4, 4, none⟩ (.int .i64 n')).setCell ⟨g4, 5, none⟩ (.string o')) w.heap.size ok v xs :=
  fun hh => Kd.R_lower (Held.rows_set b5 (Held.rows_set b4 (Held.rows_set b3 (Held.rows_set b2 (Held.rows_set b1 (Held.rows_set BK5.out hh)))))) lo
 refine bodyPost_ret (results_ct rfl _ _ g4 24 #[.slice E0 s'.length f0, .slice E1 b'.length f1, .slice E2 c'.length f2, .int .i64 h', .int .i64 n', .string o'] (0, 0) _ rfl b6 Try.underlying24 rfl (by kernel_rfl)) rfl ?_
 exact ⟨_, _, _, rfl, rows HF.out.r0, rows HF.out.r1, rows HF.out.r2, below_setq (below_setq (below_setq (below_setq (below_setq (below_setq HBQ.out GE4.out) GE4.out) GE4.out) GE4.out) GE4.out) GE4.out⟩
set_option maxHeartbeats 4000000 in
set_option maxRecDepth 100000 in
/-- impl.changed where the change throws: a copy of what came in. -/
theorem changedQ_throw (A0 : Option Addr) (c0 : Nat) (A1 : Option Addr) (c1 : Nat) (A2 : Option Addr) (c2 : Nat) (s b c : List Int) (h n : Int) (o : ByteArray) (w wq : World) (hwq : wq.heap.size = w.heap.size) (hq0 : Kd.C (Kd.int .i64) wq A0 s.length s) (hq1 : Kd.C (Kd.int .i64) wq A1 b.length b) (hq2 : Kd.C (Kd.int .i64) wq A2 c.length c) (cl : FuncId) (fnc : Func) (fr : Array Value) (hcf : Try.prog.funcs[cl]? = some fnc) (hcn : (fnc.name == "runtime.NumGoroutine") = false) (hcb : fnc.body.isSome = true)
  (hr0 : Kd.C (Kd.int .i64) w A0 s.length s) (hc0 : s.length ≤ c0) (hr1 : Kd.C (Kd.int .i64) w A1 b.length b) (hc1 : b.length ≤ c1) (hr2 : Kd.C (Kd.int .i64) w A2 c.length c) (hc2 : c.length ≤ c2)
  (hcopy : impl_Data_copied.f s b c h n o = some (s, b, c, h, n, o)) (t : Int) (s' b' c' : List Int) (h' n' : Int) (o' : ByteArray)
  (hcl : ∀ (W0 W : World) (g : Nat) (B0 : Option Addr) (d0 : Nat) (B1 : Option Addr) (d1 : Nat) (B2 : Option Addr) (d2 : Nat), Below w.heap.size w W0 → Held W0 W g B0 d0 B1 d1 B2 d2 s b c h n o →
   Calls Try.prog cl (#[.pointer (some ⟨g, 0, none⟩)] ++ fr) W fun e W' => e = .returned (.int .i64 t) ∧ ∃ Wq : World, Below w.heap.size wq Wq ∧ Wq.heap.size = W0.heap.size ∧ (∀ k_ : Nat, w.heap.size ≤ k_ → Wq.heap[k_]? = W0.heap[k_]?) ∧ ∃ B0' d0' B1' d1' B2' d2', Held Wq W' g B0' d0' B1' d1' B2' d2' s' b' c' h' n' o') (ht : ¬ t = 0) :
  Calls Try.prog 57 #[.agg #[.slice A0 s.length c0, .slice A1 b.length c1, .slice A2 c.length c2, .int .i64 h, .int .i64 n, .string o], .func (.func cl) #[] fr] w fun e w' => ∃ v0 v1 v2 : Value, e = .returned (.tuple #[.agg #[v0, v1, v2, .int .i64 h, .int .i64 n, .string o], .int .i64 t]) ∧ Kd.R (Kd.int .i64) 3 w' w.heap.size (fun k_ => some k_ ≠ (v1 : Value).ownBlock ∧ some k_ ≠ (v2 : Value).ownBlock) v0 s ∧ Kd.R (Kd.int .i64) 3 w' w.heap.size (fun k_ => some k_ ≠ (v0 : Value).ownBlock ∧ some k_ ≠ (v2 : Value).ownBlock) v1 b ∧ Kd.R (Kd.int .i64) 3 w' w.heap.size (fun k_ => some k_ ≠ (v0 : Value).ownBlock ∧ some k_ ≠ (v1 : Value).ownBlock) v2 c ∧ Below w.heap.size wq w' := by
 have hu24 := Try.underlying24
 have HR0 := am_ hr0
 have HR1 := am_ hr1
 have HR2 := am_ hr2
 have HC0 := am_ hc0
 have HC1 := am_ hc1
 have HC2 := am_ hc2
 have HCL := am_ hcl
 have HQ0 := am_ hq0
 have HQ1 := am_ hq1
 have HQ2 := am_ hq2
 have HCO := am_ hcopy
 clear hr0 hr1 hr2 hc0 hc1 hc2 hcl hcopy hq0 hq1 hq2
 have ht0 : (t == 0) = false := beq_eq_false_iff_ne.mpr ht
 have ht1 : (t != 0) = true := bne_iff_ne.mpr ht
 clear ht
 go_enter Try.func57, Try.ntmps57
 go_wp2_with (first
  | ((with_reducible refine gate_dst (N := 2) rfl ?_); refine box_event ?hg (N := 2) ?hd (cs := #[.slice A0 s.length c0, .slice A1 b.length c1, .slice A2 c.length c2, .int .i64 h, .int .i64 n, .string o]) (t := 24) ?hr ?_; (case hd => rfl); (case hg => rfl); (case hr => first | (go_simp; done) | (go_simp; rfl)); intro g2 hg w1 hbox hb; have BK2 := am_ hbox; have HB := am_ hb; have GE2 := am_ (show w.heap.size ≤ g2 by rw [hg]; exact Nat.le_refl _); clear hg hbox hb)
  | ((with_reducible refine gate_dst (N := 4) rfl ?_); refine box_event ?hg (N := 4) ?hd (cs := #[.slice none 0 0, .slice none 0 0, .slice none 0 0, .int .i64 0, .int .i64 0, .string (⟨#[]⟩ : ByteArray)]) (t := 24) ?hr ?_; (case hd => rfl); (case hg => rfl); (case hr => first | (go_simp; done) | (go_simp; rfl)); intro g4 hg w2 hbox hb; have BK4 := am_ hbox; replace BK2 := am_ (blk_below BK2.out hb); have GE4 := am_ (show w.heap.size ≤ g4 by rw [hg]; exact below_size HB.out); replace HB := am_ (below_step HB.out hb); clear hg hbox hb; have hcz0 : w2.cell? ⟨g2, 0, none⟩ = some (.slice A0 s.length c0) := (blk_cell BK2.out 0).trans rfl; have hcz1 : w2.cell? ⟨g2, 1, none⟩ = some (.slice A1 b.length c1) := (blk_cell BK2.out 1).trans rfl; have hcz2 : w2.cell? ⟨g2, 2, none⟩ = some (.slice A2 c.length c2) := (blk_cell BK2.out 2).trans rfl; have hcz3 : w2.cell? ⟨g2, 3, none⟩ = some (.int .i64 h) := (blk_cell BK2.out 3).trans rfl; have hcz4 : w2.cell? ⟨g2, 4, none⟩ = some (.int .i64 n) := (blk_cell BK2.out 4).trans rfl; have hcz5 : w2.cell? ⟨g2, 5, none⟩ = some (.string o) := (blk_cell BK2.out 5).trans rfl)
  | (go_at_call 86; (with_reducible refine (impl_Data_copied.calls A0 c0 s A1 c1 b A2 c2 c h n o s b c h n o w2 (Kd.C_below HR0.out HB.out) HC0.out (Kd.C_below HR1.out HB.out) HC1.out (Kd.C_below HR2.out HB.out) HC2.out HCO.out).mono ?_); rintro e w3 ⟨v0, v1, v2, rfl, x0, x1, x2, hb⟩; have X0 := am_ x0; have X1 := am_ x1; have X2 := am_ x2; have HB2 := am_ hb; clear x0 x1 x2 hb; obtain ⟨B0, d0, e0⟩ := Kd.R_slice X0.out; subst e0; obtain ⟨B1, d1, e1⟩ := Kd.R_slice X1.out; subst e1; obtain ⟨B2, d2, e2⟩ := Kd.R_slice X2.out; subst e2)
  | ((with_reducible refine gate_dst (N := 6) rfl ?_); refine box_event ?hg (N := 6) ?hd (cs := #[.slice none 0 0, .slice none 0 0, .slice none 0 0, .int .i64 0, .int .i64 0, .string (⟨#[]⟩ : ByteArray)]) (t := 24) ?hr ?_; (case hd => rfl); (case hg => rfl); (case hr => first | (go_simp; done) | (go_simp; rfl)); intro g6 hg w4 hbox hb; have BK6 := am_ hbox; have GE6 := am_ (show w2.heap.size ≤ g6 by rw [hg]; exact below_size HB2.out); replace X0 := am_ (Kd.R_below X0.out hb); replace X1 := am_ (Kd.R_below X1.out hb); replace X2 := am_ (Kd.R_below X2.out hb); replace HB2 := am_ (below_step HB2.out hb); clear hg hbox hb; have hcx0 : w4.cell? ⟨g6, 0, none⟩ = some (.slice none 0 0) := (blk_cell BK6.out 0).trans rfl; have hcx1 : w4.cell? ⟨g6, 1, none⟩ = some (.slice none 0 0) := (blk_cell BK6.out 1).trans rfl; have hcx2 : w4.cell? ⟨g6, 2, none⟩ = some (.slice none 0 0) := (blk_cell BK6.out 2).trans rfl; have hcx3 : w4.cell? ⟨g6, 3, none⟩ = some (.int .i64 0) := (blk_cell BK6.out 3).trans rfl; have hcx4 : w4.cell? ⟨g6, 4, none⟩ = some (.int .i64 0) := (blk_cell BK6.out 4).trans rfl; have hcx5 : w4.cell? ⟨g6, 5, none⟩ = some (.string (⟨#[]⟩ : ByteArray)) := (blk_cell BK6.out 5).trans rfl; have hcxf0 := blk_frozen (BK6.out) 0; have hcxf1 := blk_frozen (BK6.out) 1; have hcxf2 := blk_frozen (BK6.out) 2; have hcxf3 := blk_frozen (BK6.out) 3; have hcxf4 := blk_frozen (BK6.out) 4; have hcxf5 := blk_frozen (BK6.out) 5)
  | ((with_reducible refine Go.Proofs.YtcelnpmahnblpaaO.gate_tmp (t := 10) rfl ?_); refine goesC_ (some 11) rfl rfl (.tmp 10) fr rfl hcf hcn hcb #[.pointer (some ⟨g6, 0, none⟩)] rfl (by (try simp only [List.map_toArray, List.map_cons, List.map_nil]); first | done | rfl) ?_; refine (HCL.out w2 _ g6 B0 d0 B1 d1 B2 d2 HB.out (Held.store HB2.out GE6.out BK6.out X0.out X1.out X2.out)).mono ?_; rintro e w5 ⟨rfl, hh⟩; refine ⟨_, rfl, ?_⟩; obtain ⟨Wq, hQ1, hQ2, hQ3, E0, f0, E1, f1, E2, f2, HH⟩ := hh; have HBQ := am_ (below_sized hQ1 (show w.heap.size ≤ Wq.heap.size by rw [hQ2]; exact below_size HB.out) HH.below); have LO := am_ (show w.heap.size ≤ Wq.heap.size by rw [hQ2]; exact below_size HB.out); have HF := am_ HH; have BK5 := am_ (blk_below ((hQ3 g4 GE4.out).trans BK4.out) HH.below); have BK7 := am_ (blk_below ((hQ3 g2 GE2.out).trans BK2.out) HH.below); clear HH hQ1 hQ2 hQ3; have hcv0 : w5.cell? ⟨g2, 0, none⟩ = some (.slice A0 s.length c0) := (blk_cell BK7.out 0).trans rfl; have hcv1 : w5.cell? ⟨g2, 1, none⟩ = some (.slice A1 b.length c1) := (blk_cell BK7.out 1).trans rfl; have hcv2 : w5.cell? ⟨g2, 2, none⟩ = some (.slice A2 c.length c2) := (blk_cell BK7.out 2).trans rfl; have hcv3 : w5.cell? ⟨g2, 3, none⟩ = some (.int .i64 h) := (blk_cell BK7.out 3).trans rfl; have hcv4 : w5.cell? ⟨g2, 4, none⟩ = some (.int .i64 n) := (blk_cell BK7.out 4).trans rfl; have hcv5 : w5.cell? ⟨g2, 5, none⟩ = some (.string o) := (blk_cell BK7.out 5).trans rfl; have hcvf0 := blk_frozen (BK7.out) 0; have hcvf1 := blk_frozen (BK7.out) 1; have hcvf2 := blk_frozen (BK7.out) 2; have hcvf3 := blk_frozen (BK7.out) 3; have hcvf4 := blk_frozen (BK7.out) 4; have hcvf5 := blk_frozen (BK7.out) 5; have hcw0 : w5.cell? ⟨g4, 0, none⟩ = some (.slice none 0 0) := (blk_cell BK5.out 0).trans rfl; have hcw1 : w5.cell? ⟨g4, 1, none⟩ = some (.slice none 0 0) := (blk_cell BK5.out 1).trans rfl; have hcw2 : w5.cell? ⟨g4, 2, none⟩ = some (.slice none 0 0) := (blk_cell BK5.out 2).trans rfl; have hcw3 : w5.cell? ⟨g4, 3, none⟩ = some (.int .i64 0) := (blk_cell BK5.out 3).trans rfl; have hcw4 : w5.cell? ⟨g4, 4, none⟩ = some (.int .i64 0) := (blk_cell BK5.out 4).trans rfl; have hcw5 : w5.cell? ⟨g4, 5, none⟩ = some (.string (⟨#[]⟩ : ByteArray)) := (blk_cell BK5.out 5).trans rfl; have hcwf0 := blk_frozen (BK5.out) 0; have hcwf1 := blk_frozen (BK5.out) 1; have hcwf2 := blk_frozen (BK5.out) 2; have hcwf3 := blk_frozen (BK5.out) 3; have hcwf4 := blk_frozen (BK5.out) 4; have hcwf5 := blk_frozen (BK5.out) 5)
  | (go_at_call 86; (with_reducible refine (impl_Data_copied.calls A0 c0 s A1 c1 b A2 c2 c h n o s b c h n o w5 (Kd.C_below HQ0.out (below_at hwq HBQ.out)) HC0.out (Kd.C_below HQ1.out (below_at hwq HBQ.out)) HC1.out (Kd.C_below HQ2.out (below_at hwq HBQ.out)) HC2.out HCO.out).mono ?_); rintro e w6 ⟨y0, y1, y2, rfl, x0, x1, x2, hb⟩; have Y0 := am_ x0; have Y1 := am_ x1; have Y2 := am_ x2; have HB6 := am_ hb; have BK8 := am_ (blk_below BK5.out hb); clear x0 x1 x2 hb; obtain ⟨E0, f0, e0⟩ := Kd.R_slice Y0.out; subst e0; obtain ⟨E1, f1, e1⟩ := Kd.R_slice Y1.out; subst e1; obtain ⟨E2, f2, e2⟩ := Kd.R_slice Y2.out; subst e2; have hcu0 : w6.cell? ⟨g4, 0, none⟩ = some (.slice none 0 0) := (blk_cell BK8.out 0).trans rfl; have hcu1 : w6.cell? ⟨g4, 1, none⟩ = some (.slice none 0 0) := (blk_cell BK8.out 1).trans rfl; have hcu2 : w6.cell? ⟨g4, 2, none⟩ = some (.slice none 0 0) := (blk_cell BK8.out 2).trans rfl; have hcu3 : w6.cell? ⟨g4, 3, none⟩ = some (.int .i64 0) := (blk_cell BK8.out 3).trans rfl; have hcu4 : w6.cell? ⟨g4, 4, none⟩ = some (.int .i64 0) := (blk_cell BK8.out 4).trans rfl; have hcu5 : w6.cell? ⟨g4, 5, none⟩ = some (.string (⟨#[]⟩ : ByteArray)) := (blk_cell BK8.out 5).trans rfl; have hcuf0 := blk_frozen (BK8.out) 0; have hcuf1 := blk_frozen (BK8.out) 1; have hcuf2 := blk_frozen (BK8.out) 2; have hcuf3 := blk_frozen (BK8.out) 3; have hcuf4 := blk_frozen (BK8.out) 4; have hcuf5 := blk_frozen (BK8.out) 5))
 have b1 := blk_put BK8.out 0 (.slice E0 s.length f0) rfl
 have b2 := blk_put b1 1 (.slice E1 b.length f1) rfl
 have b3 := blk_put b2 2 (.slice E2 c.length f2) rfl
 have b4 := blk_put b3 3 (.int .i64 h) rfl
 have b5 := blk_put b4 4 (.int .i64 n) rfl
 have b6 := blk_put b5 5 (.string o) rfl
 have hb5 := HBQ.out
 have lo := below_size' hwq hb5
 have rows : ∀ {ok : Nat → Prop} {v : Value} {xs : List Int}, Kd.R (Kd.int .i64) 3 w6 w5.heap.size ok v xs → Kd.R (Kd.int .i64) 3 ((((((w6.setCell ⟨g4, 0, none⟩ (.slice E0 s.length f0)).setCell ⟨g4, 1, none⟩ (.slice E1 b.length f1)).setCell ⟨g4, 2, none⟩ (.slice E2 c.length f2)).setCell ⟨g4, 3, none⟩ (.int .i64 h)).setCell ⟨g4, 4, none⟩ (.int .i64 n)).setCell ⟨g4, 5, none⟩ (.string o)) w.heap.size ok v xs :=
  fun hh => Kd.R_lower (Held.rows_set b5 (Held.rows_set b4 (Held.rows_set b3 (Held.rows_set b2 (Held.rows_set b1 (Held.rows_set BK8.out hh)))))) lo
 refine bodyPost_ret (results_ct rfl _ _ g4 24 #[.slice E0 s.length f0, .slice E1 b.length f1, .slice E2 c.length f2, .int .i64 h, .int .i64 n, .string o] (0, 0) _ rfl b6 Try.underlying24 rfl (by kernel_rfl)) rfl ?_
 exact ⟨_, _, _, rfl, rows Y0.out, rows Y1.out, rows Y2.out, below_setq (below_setq (below_setq (below_setq (below_setq (below_setq (below_sized hb5 lo HB6.out) GE4.out) GE4.out) GE4.out) GE4.out) GE4.out) GE4.out⟩

/-- impl.changed, whatever the change throws. -/
theorem changedQ_both (A0 : Option Addr) (c0 : Nat) (A1 : Option Addr) (c1 : Nat) (A2 : Option Addr) (c2 : Nat) (s b c : List Int) (h n : Int) (o : ByteArray) (w wq : World) (hwq : wq.heap.size = w.heap.size) (hq0 : Kd.C (Kd.int .i64) wq A0 s.length s) (hq1 : Kd.C (Kd.int .i64) wq A1 b.length b) (hq2 : Kd.C (Kd.int .i64) wq A2 c.length c) (cl : FuncId) (fnc : Func) (fr : Array Value) (hcf : Try.prog.funcs[cl]? = some fnc) (hcn : (fnc.name == "runtime.NumGoroutine") = false) (hcb : fnc.body.isSome = true)
  (hr0 : Kd.C (Kd.int .i64) w A0 s.length s) (hc0 : s.length ≤ c0) (hr1 : Kd.C (Kd.int .i64) w A1 b.length b) (hc1 : b.length ≤ c1) (hr2 : Kd.C (Kd.int .i64) w A2 c.length c) (hc2 : c.length ≤ c2)
  (hcopy : impl_Data_copied.f s b c h n o = some (s, b, c, h, n, o)) (t : Int) (s' b' c' : List Int) (h' n' : Int) (o' : ByteArray) (rs rb rc : List Int) (rh rn : Int) (ro : ByteArray)
  (hcl : ∀ (W0 W : World) (g : Nat) (B0 : Option Addr) (d0 : Nat) (B1 : Option Addr) (d1 : Nat) (B2 : Option Addr) (d2 : Nat), Below w.heap.size w W0 → Held W0 W g B0 d0 B1 d1 B2 d2 s b c h n o →
   Calls Try.prog cl (#[.pointer (some ⟨g, 0, none⟩)] ++ fr) W fun e W' => e = .returned (.int .i64 t) ∧ ∃ Wq : World, Below w.heap.size wq Wq ∧ Wq.heap.size = W0.heap.size ∧ (∀ k_ : Nat, w.heap.size ≤ k_ → Wq.heap[k_]? = W0.heap[k_]?) ∧ ∃ B0' d0' B1' d1' B2' d2', Held Wq W' g B0' d0' B1' d1' B2' d2' s' b' c' h' n' o')
  (hsel : (t = 0 ∧ (rs, rb, rc, rh, rn, ro) = (s', b', c', h', n', o')) ∨ (¬ t = 0 ∧ (rs, rb, rc, rh, rn, ro) = (s, b, c, h, n, o))) :
  Calls Try.prog 57 #[.agg #[.slice A0 s.length c0, .slice A1 b.length c1, .slice A2 c.length c2, .int .i64 h, .int .i64 n, .string o], .func (.func cl) #[] fr] w fun e w' => ∃ v0 v1 v2 : Value, e = .returned (.tuple #[.agg #[v0, v1, v2, .int .i64 rh, .int .i64 rn, .string ro], .int .i64 t]) ∧ Kd.R (Kd.int .i64) 3 w' w.heap.size (fun k_ => some k_ ≠ (v1 : Value).ownBlock ∧ some k_ ≠ (v2 : Value).ownBlock) v0 rs ∧ Kd.R (Kd.int .i64) 3 w' w.heap.size (fun k_ => some k_ ≠ (v0 : Value).ownBlock ∧ some k_ ≠ (v2 : Value).ownBlock) v1 rb ∧ Kd.R (Kd.int .i64) 3 w' w.heap.size (fun k_ => some k_ ≠ (v0 : Value).ownBlock ∧ some k_ ≠ (v1 : Value).ownBlock) v2 rc ∧ Below w.heap.size wq w' := by
 rcases hsel with ⟨ht, e⟩ | ⟨ht, e⟩
 ·simp only [Prod.mk.injEq] at e
  obtain ⟨rfl, rfl, rfl, rfl, rfl, rfl⟩ := e
  exact changedQ_calls A0 c0 A1 c1 A2 c2 s b c h n o w wq hwq hq0 hq1 hq2 cl fnc fr hcf hcn hcb hr0 hc0 hr1 hc1 hr2 hc2 hcopy t _ _ _ _ _ _ hcl ht
 ·simp only [Prod.mk.injEq] at e
  obtain ⟨rfl, rfl, rfl, rfl, rfl, rfl⟩ := e
  exact changedQ_throw A0 c0 A1 c1 A2 c2 _ _ _ _ _ _ w wq hwq hq0 hq1 hq2 cl fnc fr hcf hcn hcb hr0 hc0 hr1 hc1 hr2 hc2 hcopy t s' b' c' h' n' o' hcl ht
theorem changed_calls (w : World) (cl : FuncId) (fnc : Func) (fr : Array Value) (hcf : Try.prog.funcs[cl]? = some fnc) (hcn : (fnc.name == "runtime.NumGoroutine") = false) (hcb : fnc.body.isSome = true)
  (A0 : Option Addr) (c0 : Nat) (A1 : Option Addr) (c1 : Nat) (A2 : Option Addr) (c2 : Nat) (s b c : List Int) (h n : Int) (o : ByteArray)
  (hr0 : Kd.C (Kd.int .i64) w A0 s.length s) (hc0 : s.length ≤ c0) (hr1 : Kd.C (Kd.int .i64) w A1 b.length b) (hc1 : b.length ≤ c1) (hr2 : Kd.C (Kd.int .i64) w A2 c.length c) (hc2 : c.length ≤ c2)
  (hcopy : impl_Data_copied.f s b c h n o = some (s, b, c, h, n, o)) (t : Int) (s' b' c' : List Int) (h' n' : Int) (o' : ByteArray)
  (hcl : ∀ (W0 W : World) (g : Nat) (B0 : Option Addr) (d0 : Nat) (B1 : Option Addr) (d1 : Nat) (B2 : Option Addr) (d2 : Nat), Below w.heap.size w W0 → Held W0 W g B0 d0 B1 d1 B2 d2 s b c h n o →
   Calls Try.prog cl (#[.pointer (some ⟨g, 0, none⟩)] ++ fr) W fun e W' => e = .returned (.int .i64 t) ∧ ∃ B0' d0' B1' d1' B2' d2', Held W0 W' g B0' d0' B1' d1' B2' d2' s' b' c' h' n' o') (ht : t = 0) :
  Calls Try.prog 57 #[.agg #[.slice A0 s.length c0, .slice A1 b.length c1, .slice A2 c.length c2, .int .i64 h, .int .i64 n, .string o], .func (.func cl) #[] fr] w fun e w' => ∃ v0 v1 v2 : Value, e = .returned (.tuple #[.agg #[v0, v1, v2, .int .i64 h', .int .i64 n', .string o'], .int .i64 t]) ∧ Kd.R (Kd.int .i64) 3 w' w.heap.size (fun k_ => some k_ ≠ (v1 : Value).ownBlock ∧ some k_ ≠ (v2 : Value).ownBlock) v0 s' ∧ Kd.R (Kd.int .i64) 3 w' w.heap.size (fun k_ => some k_ ≠ (v0 : Value).ownBlock ∧ some k_ ≠ (v2 : Value).ownBlock) v1 b' ∧ Kd.R (Kd.int .i64) 3 w' w.heap.size (fun k_ => some k_ ≠ (v0 : Value).ownBlock ∧ some k_ ≠ (v1 : Value).ownBlock) v2 c' ∧ Below w.heap.size w w' :=
 changedQ_calls A0 c0 A1 c1 A2 c2 s b c h n o w w rfl hr0 hr1 hr2 cl fnc fr hcf hcn hcb hr0 hc0 hr1 hc1 hr2 hc2 hcopy t s' b' c' h' n' o' (fun W0 W g B0 d0 B1 d1 B2 d2 hb hh => (hcl W0 W g B0 d0 B1 d1 B2 d2 hb hh).mono (fun e W' hx => ⟨hx.1, W0, hb, rfl, fun _ _ => rfl, hx.2⟩)) ht
theorem changed_throw (w : World) (cl : FuncId) (fnc : Func) (fr : Array Value) (hcf : Try.prog.funcs[cl]? = some fnc) (hcn : (fnc.name == "runtime.NumGoroutine") = false) (hcb : fnc.body.isSome = true)
  (A0 : Option Addr) (c0 : Nat) (A1 : Option Addr) (c1 : Nat) (A2 : Option Addr) (c2 : Nat) (s b c : List Int) (h n : Int) (o : ByteArray)
  (hr0 : Kd.C (Kd.int .i64) w A0 s.length s) (hc0 : s.length ≤ c0) (hr1 : Kd.C (Kd.int .i64) w A1 b.length b) (hc1 : b.length ≤ c1) (hr2 : Kd.C (Kd.int .i64) w A2 c.length c) (hc2 : c.length ≤ c2)
  (hcopy : impl_Data_copied.f s b c h n o = some (s, b, c, h, n, o)) (t : Int) (s' b' c' : List Int) (h' n' : Int) (o' : ByteArray)
  (hcl : ∀ (W0 W : World) (g : Nat) (B0 : Option Addr) (d0 : Nat) (B1 : Option Addr) (d1 : Nat) (B2 : Option Addr) (d2 : Nat), Below w.heap.size w W0 → Held W0 W g B0 d0 B1 d1 B2 d2 s b c h n o →
   Calls Try.prog cl (#[.pointer (some ⟨g, 0, none⟩)] ++ fr) W fun e W' => e = .returned (.int .i64 t) ∧ ∃ B0' d0' B1' d1' B2' d2', Held W0 W' g B0' d0' B1' d1' B2' d2' s' b' c' h' n' o') (ht : ¬ t = 0) :
  Calls Try.prog 57 #[.agg #[.slice A0 s.length c0, .slice A1 b.length c1, .slice A2 c.length c2, .int .i64 h, .int .i64 n, .string o], .func (.func cl) #[] fr] w fun e w' => ∃ v0 v1 v2 : Value, e = .returned (.tuple #[.agg #[v0, v1, v2, .int .i64 h, .int .i64 n, .string o], .int .i64 t]) ∧ Kd.R (Kd.int .i64) 3 w' w.heap.size (fun k_ => some k_ ≠ (v1 : Value).ownBlock ∧ some k_ ≠ (v2 : Value).ownBlock) v0 s ∧ Kd.R (Kd.int .i64) 3 w' w.heap.size (fun k_ => some k_ ≠ (v0 : Value).ownBlock ∧ some k_ ≠ (v2 : Value).ownBlock) v1 b ∧ Kd.R (Kd.int .i64) 3 w' w.heap.size (fun k_ => some k_ ≠ (v0 : Value).ownBlock ∧ some k_ ≠ (v1 : Value).ownBlock) v2 c ∧ Below w.heap.size w w' :=
 changedQ_throw A0 c0 A1 c1 A2 c2 s b c h n o w w rfl hr0 hr1 hr2 cl fnc fr hcf hcn hcb hr0 hc0 hr1 hc1 hr2 hc2 hcopy t s' b' c' h' n' o' (fun W0 W g B0 d0 B1 d1 B2 d2 hb hh => (hcl W0 W g B0 d0 B1 d1 B2 d2 hb hh).mono (fun e W' hx => ⟨hx.1, W0, hb, rfl, fun _ _ => rfl, hx.2⟩)) ht
theorem changed_both (w : World) (cl : FuncId) (fnc : Func) (fr : Array Value) (hcf : Try.prog.funcs[cl]? = some fnc) (hcn : (fnc.name == "runtime.NumGoroutine") = false) (hcb : fnc.body.isSome = true)
  (A0 : Option Addr) (c0 : Nat) (A1 : Option Addr) (c1 : Nat) (A2 : Option Addr) (c2 : Nat) (s b c : List Int) (h n : Int) (o : ByteArray)
  (hr0 : Kd.C (Kd.int .i64) w A0 s.length s) (hc0 : s.length ≤ c0) (hr1 : Kd.C (Kd.int .i64) w A1 b.length b) (hc1 : b.length ≤ c1) (hr2 : Kd.C (Kd.int .i64) w A2 c.length c) (hc2 : c.length ≤ c2)
  (hcopy : impl_Data_copied.f s b c h n o = some (s, b, c, h, n, o)) (t : Int) (s' b' c' : List Int) (h' n' : Int) (o' : ByteArray) (rs rb rc : List Int) (rh rn : Int) (ro : ByteArray)
  (hcl : ∀ (W0 W : World) (g : Nat) (B0 : Option Addr) (d0 : Nat) (B1 : Option Addr) (d1 : Nat) (B2 : Option Addr) (d2 : Nat), Below w.heap.size w W0 → Held W0 W g B0 d0 B1 d1 B2 d2 s b c h n o →
   Calls Try.prog cl (#[.pointer (some ⟨g, 0, none⟩)] ++ fr) W fun e W' => e = .returned (.int .i64 t) ∧ ∃ B0' d0' B1' d1' B2' d2', Held W0 W' g B0' d0' B1' d1' B2' d2' s' b' c' h' n' o')
  (hsel : (t = 0 ∧ (rs, rb, rc, rh, rn, ro) = (s', b', c', h', n', o')) ∨ (¬ t = 0 ∧ (rs, rb, rc, rh, rn, ro) = (s, b, c, h, n, o))) :
  Calls Try.prog 57 #[.agg #[.slice A0 s.length c0, .slice A1 b.length c1, .slice A2 c.length c2, .int .i64 h, .int .i64 n, .string o], .func (.func cl) #[] fr] w fun e w' => ∃ v0 v1 v2 : Value, e = .returned (.tuple #[.agg #[v0, v1, v2, .int .i64 rh, .int .i64 rn, .string ro], .int .i64 t]) ∧ Kd.R (Kd.int .i64) 3 w' w.heap.size (fun k_ => some k_ ≠ (v1 : Value).ownBlock ∧ some k_ ≠ (v2 : Value).ownBlock) v0 rs ∧ Kd.R (Kd.int .i64) 3 w' w.heap.size (fun k_ => some k_ ≠ (v0 : Value).ownBlock ∧ some k_ ≠ (v2 : Value).ownBlock) v1 rb ∧ Kd.R (Kd.int .i64) 3 w' w.heap.size (fun k_ => some k_ ≠ (v0 : Value).ownBlock ∧ some k_ ≠ (v1 : Value).ownBlock) v2 rc ∧ Below w.heap.size w w' := by
 rcases hsel with ⟨ht, e⟩ | ⟨ht, e⟩
 ·simp only [Prod.mk.injEq] at e
  obtain ⟨rfl, rfl, rfl, rfl, rfl, rfl⟩ := e
  exact changed_calls w cl fnc fr hcf hcn hcb A0 c0 A1 c1 A2 c2 s b c h n o hr0 hc0 hr1 hc1 hr2 hc2 hcopy t _ _ _ _ _ _ hcl ht
 ·simp only [Prod.mk.injEq] at e
  obtain ⟨rfl, rfl, rfl, rfl, rfl, rfl⟩ := e
  exact changed_throw w cl fnc fr hcf hcn hcb A0 c0 A1 c1 A2 c2 _ _ _ _ _ _ hr0 hc0 hr1 hc1 hr2 hc2 hcopy t s' b' c' h' n' o' hcl ht
theorem copied_same {s b c : List Int} {h n : Int} {o : ByteArray} {d : List Int × List Int × List Int × Int × Int × ByteArray} (H : impl_Data_copied.f s b c h n o = some d) : impl_Data_copied.f s b c h n o = some (s, b, c, h, n, o) := by
 unfold impl_Data_copied.f slices_Clone_int.f at H ⊢
 by_cases h0 : s.length < 17592186044416
 ·by_cases h1 : b.length < 17592186044416
  ·by_cases h2 : c.length < 17592186044416
   ·simp [h0, h1, h2]
   ·simp [h0, h1, h2] at H
  ·simp [h0, h1] at H
 ·simp [h0] at H
/-- Held behind a store into one of its whole numbers or its text. -/
theorem Held.set3 {w0 W : World} {g : Nat} {A0 : Option Addr} {c0 : Nat} {A1 : Option Addr} {c1 : Nat} {A2 : Option Addr} {c2 : Nat} {s b c : List Int} {h n : Int} {o : ByteArray} (H : Held w0 W g A0 c0 A1 c1 A2 c2 s b c h n o) (h' : Int) : Held w0 (W.setCell ⟨g, 3, none⟩ (.int .i64 h')) g A0 c0 A1 c1 A2 c2 s b c h' n o :=
 ⟨below_set H.below H.ge, H.ge, blk_put H.blk 3 _ rfl, Held.rows_set H.blk H.r0, Held.rows_set H.blk H.r1, Held.rows_set H.blk H.r2⟩
theorem Held.set5 {w0 W : World} {g : Nat} {A0 : Option Addr} {c0 : Nat} {A1 : Option Addr} {c1 : Nat} {A2 : Option Addr} {c2 : Nat} {s b c : List Int} {h n : Int} {o : ByteArray} (H : Held w0 W g A0 c0 A1 c1 A2 c2 s b c h n o) (o' : ByteArray) : Held w0 (W.setCell ⟨g, 5, none⟩ (.string o')) g A0 c0 A1 c1 A2 c2 s b c h n o' :=
 ⟨below_set H.below H.ge, H.ge, blk_put H.blk 5 _ rfl, Held.rows_set H.blk H.r0, Held.rows_set H.blk H.r1, Held.rows_set H.blk H.r2⟩
/-- Held behind a store into its cells. -/
theorem Held.put2 {w0 W : World} {g go : Nat} {A0 : Option Addr} {c0 : Nat} {A1 : Option Addr} {c1 c2 : Nat} {s b c : List Int} {h n : Int} {o : ByteArray} (H : Held w0 W g A0 c0 A1 c1 (some ⟨go, 0, none⟩) c2 s b c h n o) (i x : Int) : Held w0 (W.setCell ⟨go, i.toNat, none⟩ (.int .i64 x)) g A0 c0 A1 c1 (some ⟨go, 0, none⟩) c2 s b (c.set i.toNat x) h n o := by
 have hge : w0.heap.size ≤ go := Kd.R_base H.r2 go rfl
 have hne : g ≠ go := by
  have h_ := Kd.R_ne H.r2 H.blk (by decide)
  intro e_
  exact h_ (by rw [e_]; rfl)
 have hlen : (c.set i.toNat x).length = c.length := List.length_set
 exact ⟨below_set H.below hge, H.ge, by rw [hlen]; exact blk_far H.blk hne _, by rw [hlen]; exact Kd.R_far H.r0 (fun k hk e_ => hk.2 (by rw [e_]; rfl)) _, by rw [hlen]; exact Kd.R_far H.r1 (fun k hk e_ => hk.2 (by rw [e_]; rfl)) _, by rw [hlen]; exact (Kd.R_putg H.r2 i x).1⟩
theorem Held.drewN {w0 W : World} {g : Nat} {A0 : Option Addr} {c0 : Nat} {A1 : Option Addr} {c1 : Nat} {A2 : Option Addr} {c2 : Nat} {s b c : List Int} {h n : Int} {o : ByteArray} (H : Held w0 W g A0 c0 A1 c1 A2 c2 s b c h n o) (m : Nat) : Held w0 (W.drewN m) g A0 c0 A1 c1 A2 c2 s b c h n o := H.step (pw_below_drewN (Below.refl _ _) m)


-- NOT PRINTED: function 62 (impl_Data_pop)

-- NOT PRINTED: function 61 (impl_Pop_1)

end Go.Proofs.Ytcelnpmahnblpaa.PFnData
