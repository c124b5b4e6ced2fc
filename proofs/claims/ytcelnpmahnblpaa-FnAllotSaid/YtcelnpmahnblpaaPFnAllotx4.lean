-- laid by a program of this session out of the translation's own print: Lean checks it
import Derived.Test.YtcelnpmahnblpaaPFnAllotx0
import Derived.Test.YtcelnpmahnblpaaPFnAllotx1
import Derived.Test.YtcelnpmahnblpaaPFnAllotx2
import Derived.Test.YtcelnpmahnblpaaPFnAllotx3
namespace Go.Proofs.Ytcelnpmahnblpaa.PFnAllot
open Go.RowKit Go.Proofs.YtcelnpmahnblpaaW.PrintWords Go.Proofs.YtcelnpmahnblpaaW.PrintLast Go.Proofs.YtcelnpmahnblpaaW.PrintMore
attribute [local go_sem] max2_int min2_int max_two min_two max_three min_three max_four min_four   -- for this text's walks alone
set_option linter.unusedVariables false
set_option linter.unusedSimpArgs false

theorem ebu_ {w W : World} {g : Nat} {o : Obj} (h : Aside0 (w.heap[g]? = some o)) (u : w.heap[g]? = some o → W.heap[g]? = some o := by intro h; (with_reducible repeat (first | refine blk_drewN ?_ _ | refine blk_drew ?_ | refine blk_alloc ?_ _)); exact h) : W.heap[g]? = some o := u h.out
theorem ebb_ {w W W1 : World} {g : Nat} {o : Obj} (h : Aside0 (w.heap[g]? = some o)) (hb : Below W.heap.size W W1) (u : w.heap[g]? = some o → W.heap[g]? = some o := by intro h; (with_reducible repeat (first | refine blk_drewN ?_ _ | refine blk_drew ?_ | refine blk_alloc ?_ _)); exact h) : W1.heap[g]? = some o := blk_below (u h.out) hb
theorem ers6c_ {α : Type} {d : Kd α} {e base g t : Nat} {w : World} {ok : Nat → Prop} {v : Value} {xs : List α} {cs : Array Value} {a0 a1 a2 a3 a4 a5 : Value} (h : Aside0 (d.R e w base ok v xs)) (hb : Aside0 (w.heap[g]? = some (.cells cs t (0, 0)))) (ht : ∀ q, q ∈ e :: d.E → q ≠ t := by decide) : d.R e ((((((w.setCell ⟨g, 0, none⟩ a0).setCell ⟨g, 1, none⟩ a1).setCell ⟨g, 2, none⟩ a2).setCell ⟨g, 3, none⟩ a3).setCell ⟨g, 4, none⟩ a4).setCell ⟨g, 5, none⟩ a5) base (fun k => ok k ∧ k ≠ g) v xs :=
 (Kd.R_far (p := ⟨g, 5, none⟩) (Kd.R_far (p := ⟨g, 4, none⟩) (Kd.R_far (p := ⟨g, 3, none⟩) (Kd.R_far (p := ⟨g, 2, none⟩) (Kd.R_far (p := ⟨g, 1, none⟩) (Kd.R_far (p := ⟨g, 0, none⟩) (Kd.R_types h.out hb.out ht) (fun _ hk => hk.2) a0) (fun _ hk => hk.2) a1) (fun _ hk => hk.2) a2) (fun _ hk => hk.2) a3) (fun _ hk => hk.2) a4) (fun _ hk => hk.2) a5)
theorem eru_ {α : Type} {d : Kd α} {e base : Nat} {ok : Nat → Prop} {w W : World} {v : Value} {xs : List α} (h : Aside0 (d.R e w base ok v xs)) (u : d.R e w base ok v xs → d.R e W base ok v xs := by intro h; (with_reducible repeat (first | apply Kd.R_alloc | apply Kd.R_drewN | apply Kd.R_drew)); exact h) : d.R e W base ok v xs := u h.out
theorem ee6_ {w : World} {g t : Nat} {a0 a1 a2 a3 a4 a5 : Value} (h : Aside0 (w.heap[g]? = some (.cells #[a0, a1, a2, a3, a4, a5] t (0, 0)))) : w.cell? ⟨g, 0, none⟩ = some a0 ∧ w.cell? ⟨g, 1, none⟩ = some a1 ∧ w.cell? ⟨g, 2, none⟩ = some a2 ∧ w.cell? ⟨g, 3, none⟩ = some a3 ∧ w.cell? ⟨g, 4, none⟩ = some a4 ∧ w.cell? ⟨g, 5, none⟩ = some a5 :=
 ⟨(blk_cell h.out 0).trans rfl, (blk_cell h.out 1).trans rfl, (blk_cell h.out 2).trans rfl, (blk_cell h.out 3).trans rfl, (blk_cell h.out 4).trans rfl, (blk_cell h.out 5).trans rfl⟩
theorem ef6_ {w : World} {g t : Nat} {cs : Array Value} (h : Aside0 (w.heap[g]? = some (.cells cs t (0, 0)))) : w.frozen? ⟨g, 0, none⟩ = false ∧ w.frozen? ⟨g, 1, none⟩ = false ∧ w.frozen? ⟨g, 2, none⟩ = false ∧ w.frozen? ⟨g, 3, none⟩ = false ∧ w.frozen? ⟨g, 4, none⟩ = false ∧ w.frozen? ⟨g, 5, none⟩ = false :=
 ⟨blk_frozen h.out 0, blk_frozen h.out 1, blk_frozen h.out 2, blk_frozen h.out 3, blk_frozen h.out 4, blk_frozen h.out 5⟩
theorem eq0_ {p : Prop} (h : p := by repeat (first | (with_reducible first | exact HB.out | apply below_alloc | apply pw_below_drewN | apply below_drew1 | refine below_set ?_ GE225.out | refine below_set ?_ GE226.out) | exact HB.out)) : p := h
theorem eq1_ {p : Prop} (h : p := by repeat (first | (with_reducible first | exact HB.out | apply below_alloc | apply pw_below_drewN | apply below_drew1 | refine below_set ?_ GE236.out | refine below_set ?_ GE252.out) | exact HB.out)) : p := h
theorem eq2_ {p : Prop} (h : p := by repeat (first | (with_reducible first | exact HB.out | apply below_alloc | apply pw_below_drewN | apply below_drew1 | refine below_set ?_ GE225.out) | exact HB.out)) : p := h
theorem eq3_ {p : Prop} (h : p := by repeat (first | (with_reducible first | exact HB.out | apply below_alloc | apply pw_below_drewN | apply below_drew1 | refine below_set ?_ GE235.out) | exact HB.out)) : p := h
theorem eq4_ {p : Prop} (h : p := by repeat (first | (with_reducible first | exact HB.out | apply below_alloc | apply pw_below_drewN | apply below_drew1 | refine below_set ?_ GE236.out) | exact HB.out)) : p := h
theorem eq5_ {p : Prop} (h : p := by repeat (first | (with_reducible first | exact HB.out | apply below_alloc | apply pw_below_drewN | apply below_drew1) | exact HB.out)) : p := h
theorem eq6_ {p : Prop} (h : p := by rw [e_]; exact GW236.out) : p := h
/-! ### spec_l03Allot: function 68 -/
mutual
def spec_l03Allot.j0 : Nat → Int → Bool → List Int → List Int → List Int → Int → Int → ByteArray → Option (List Int × List Int × List Int × Int × Int × ByteArray × Int)
 | 0, _, _, _, _, _, _, _, _ => none
 | k + 1, x1, x18, x226000, x226001, x226002, x226003, x226004, x226005 => if x18 = true then (some (x226000, x226001, x226002, x226003, x226004, x226005, (-8))) else ((some (([] : List Int) : List Int)).bind fun y228 => (if y228.length + x226002.length < 17592186044416 then (spec_l03Allot.l0 k x1 x226003 x226000 x226001 (y228 ++ x226002) x226003 x226004 x226005) else (none)))
def spec_l03Allot.l0 : Nat → Int → Int → List Int → List Int → List Int → Int → Int → ByteArray → Option (List Int × List Int × List Int × Int × Int × ByteArray × Int)
 | 0, _, _, _, _, _, _, _, _ => none
 | k + 1, x1, x6, x226000, x226001, x226002, x226003, x226004, x226005 => if x6 < (wrap64 (x226003 + (wrap64 (Int.tdiv x1 4)))) then (if 0 ≤ x6 then (if x6 < (x226002.length : Int) then (spec_l03Allot.l0 k x1 (wrap64 (x6 + 1)) x226000 x226001 (x226002.set (x6 : Int).toNat 0) x226003 x226004 x226005) else (none)) else (none)) else (some (x226000, x226001, x226002, wrap64 (x226003 + (wrap64 (Int.tdiv x1 4))), x226004, x226005, 0))
end
def spec_l03Allot.f (k : Nat) (l0_0 : List Int) (l0_1 : List Int) (l0_2 : List Int) (a0_3 : Int) (a0_4 : Int) (a0_5 : ByteArray) (a1 : Int) : Option (List Int × List Int × List Int × Int × Int × ByteArray × Int) := if (Int.tmod a1 4) = 0 then ((spec_l01In.f (wrap64 (a0_3 + (wrap64 (Int.tdiv a1 4)))) 0 32).bind fun t227 => (spec_l03Allot.j0 k a1 (!t227) l0_0 l0_1 l0_2 a0_3 a0_4 a0_5)) else (spec_l03Allot.j0 k a1 true l0_0 l0_1 l0_2 a0_3 a0_4 a0_5)
theorem spec_l03Allot.mono_l : ∀ k, (∀ y0 y1 y2 y3 y4 y5 y6 y7, LeO (spec_l03Allot.j0 k y0 y1 y2 y3 y4 y5 y6 y7) (spec_l03Allot.j0 (k + 1) y0 y1 y2 y3 y4 y5 y6 y7)) ∧ (∀ y0 y1 y2 y3 y4 y5 y6 y7, LeO (spec_l03Allot.l0 k y0 y1 y2 y3 y4 y5 y6 y7) (spec_l03Allot.l0 (k + 1) y0 y1 y2 y3 y4 y5 y6 y7))
 | 0 => ⟨fun _ _ _ _ _ _ _ _ r h => by simp [spec_l03Allot.j0] at h, fun _ _ _ _ _ _ _ _ r h => by simp [spec_l03Allot.l0] at h⟩
 | k + 1 => by
  obtain ⟨ih0, ih1⟩ := spec_l03Allot.mono_l k
  refine ⟨?_, ?_⟩
  ·intro y0 y1 y2 y3 y4 y5 y6 y7
   unfold spec_l03Allot.j0
   repeat' first
   | (with_reducible exact ih0 _ _ _ _ _ _ _ _)
   | (with_reducible exact ih1 _ _ _ _ _ _ _ _)
   | (with_reducible exact LeO.refl _)
   | (with_reducible exact LeO.none _)
   | (with_reducible refine LeO.ite ?_ ?_)
   | (with_reducible refine LeO.bind ?_ (fun _ => ?_))
   | exact ih0 _ _ _ _ _ _ _ _
   | exact ih1 _ _ _ _ _ _ _ _
   | exact LeO.none _
   | refine LeO.ite ?_ ?_
   | refine LeO.bind ?_ (fun _ => ?_)
  ·intro y0 y1 y2 y3 y4 y5 y6 y7
   unfold spec_l03Allot.l0
   repeat' first
   | (with_reducible exact ih0 _ _ _ _ _ _ _ _)
   | (with_reducible exact ih1 _ _ _ _ _ _ _ _)
   | (with_reducible exact LeO.refl _)
   | (with_reducible exact LeO.none _)
   | (with_reducible refine LeO.ite ?_ ?_)
   | (with_reducible refine LeO.bind ?_ (fun _ => ?_))
   | exact ih0 _ _ _ _ _ _ _ _
   | exact ih1 _ _ _ _ _ _ _ _
   | exact LeO.none _
   | refine LeO.ite ?_ ?_
   | refine LeO.bind ?_ (fun _ => ?_)
theorem spec_l03Allot.mono : ∀ a0 a1 a2 a3 a4 a5 a6 k, LeO (spec_l03Allot.f k a0 a1 a2 a3 a4 a5 a6) (spec_l03Allot.f (k + 1) a0 a1 a2 a3 a4 a5 a6) := by
 intro a0 a1 a2 a3 a4 a5 a6 k
 obtain ⟨ih0, ih1⟩ := spec_l03Allot.mono_l k
 unfold spec_l03Allot.f
 repeat' first
   | (with_reducible exact ih0 _ _ _ _ _ _ _ _)
   | (with_reducible exact ih1 _ _ _ _ _ _ _ _)
   | (with_reducible exact LeO.refl _)
   | (with_reducible exact LeO.none _)
   | (with_reducible refine LeO.ite ?_ ?_)
   | (with_reducible refine LeO.bind ?_ (fun _ => ?_))
   | exact ih0 _ _ _ _ _ _ _ _
   | exact ih1 _ _ _ _ _ _ _ _
   | exact LeO.none _
   | refine LeO.ite ?_ ?_
   | refine LeO.bind ?_ (fun _ => ?_)
set_option maxHeartbeats 8000000 in
set_option maxRecDepth 100000 in
theorem spec_l03Allot.calls (k : Nat) (P0_0_ : Nat → Prop) (A0_0 : Option Addr) (c0_0 : Nat) (l0_0 : List Int) (P0_1_ : Nat → Prop) (A0_1 : Option Addr) (c0_1 : Nat) (l0_1 : List Int) (P0_2_ : Nat → Prop) (A0_2 : Option Addr) (c0_2 : Nat) (l0_2 : List Int) (a0_3 : Int) (a0_4 : Int) (a0_5 : ByteArray) (a1 : Int) (r1 : List Int) (r2 : List Int) (r3 : List Int) (r4 : Int) (r5 : Int) (r6 : ByteArray) (r7 : Int) (w : World) (hs0_0 : Kd.V (Kd.int .i64) 3 w w.heap.size (fun k_ => P0_0_ k_) (.slice A0_0 l0_0.length c0_0) l0_0) (hs0_1 : Kd.V (Kd.int .i64) 3 w w.heap.size (fun k_ => P0_1_ k_) (.slice A0_1 l0_1.length c0_1) l0_1) (hs0_2 : Kd.V (Kd.int .i64) 3 w w.heap.size (fun k_ => P0_2_ k_) (.slice A0_2 l0_2.length c0_2) l0_2) (h : spec_l03Allot.f k l0_0 l0_1 l0_2 a0_3 a0_4 a0_5 a1 = some (r1, r2, r3, r4, r5, r6, r7)) :
  Calls Try.prog 68 #[.agg #[.slice A0_0 l0_0.length c0_0, .slice A0_1 l0_1.length c0_1, .slice A0_2 l0_2.length c0_2, .int .i64 a0_3, .int .i64 a0_4, .string a0_5], .int .i64 a1] w fun e w' => ∃ v0_ v1_ v2_ : Value, e = .returned (.tuple #[.agg #[v0_, v1_, v2_, .int .i64 r4, .int .i64 r5, .string r6], .int .i64 r7]) ∧ Kd.V (Kd.int .i64) 3 w' w.heap.size (fun k_ => ((P0_0_ k_ ∨ P0_1_ k_ ∨ P0_2_ k_) ∨ w.heap.size ≤ k_)) v0_ r1 ∧ Kd.V (Kd.int .i64) 3 w' w.heap.size (fun k_ => ((P0_0_ k_ ∨ P0_1_ k_ ∨ P0_2_ k_) ∨ w.heap.size ≤ k_)) v1_ r2 ∧ Kd.V (Kd.int .i64) 3 w' w.heap.size (fun k_ => ((P0_0_ k_ ∨ P0_1_ k_ ∨ P0_2_ k_) ∨ w.heap.size ≤ k_)) v2_ r3 ∧ Below w.heap.size w w' := by
 have hu24 := Try.underlying24
 have HO0_0 := Aside0.mk (show Kd.V (Kd.int .i64) 3 w w.heap.size (fun k_ => ((P0_0_ k_ ∨ P0_1_ k_ ∨ P0_2_ k_) ∨ w.heap.size ≤ k_)) (.slice A0_0 l0_0.length c0_0) l0_0 from Kd.V_mono hs0_0 (fun k_ hk => .inl (.inl hk)))
 have HO0_1 := Aside0.mk (show Kd.V (Kd.int .i64) 3 w w.heap.size (fun k_ => ((P0_0_ k_ ∨ P0_1_ k_ ∨ P0_2_ k_) ∨ w.heap.size ≤ k_)) (.slice A0_1 l0_1.length c0_1) l0_1 from Kd.V_mono hs0_1 (fun k_ hk => .inl (.inr (.inl hk))))
 have HO0_2 := Aside0.mk (show Kd.V (Kd.int .i64) 3 w w.heap.size (fun k_ => ((P0_0_ k_ ∨ P0_1_ k_ ∨ P0_2_ k_) ∨ w.heap.size ≤ k_)) (.slice A0_2 l0_2.length c0_2) l0_2 from Kd.V_mono hs0_2 (fun k_ hk => .inl (.inr (.inr hk))))
 have HB := Aside0.mk (Below.refl w.heap.size w)
 have H : (if (Int.tmod a1 4) = 0 then ((spec_l01In.f (wrap64 (a0_3 + (wrap64 (Int.tdiv a1 4)))) 0 32).bind fun t227 => (spec_l03Allot.j0 k a1 (!t227) l0_0 l0_1 l0_2 a0_3 a0_4 a0_5)) else (spec_l03Allot.j0 k a1 true l0_0 l0_1 l0_2 a0_3 a0_4 a0_5)) = some (r1, r2, r3, r4, r5, r6, r7) := h
 clear h
 have HC3 := Aside0.mk H
 clear H
 go_enter Try.func68, Try.ntmps68
 go_upto_region 1 with (first | ((with_reducible refine gate_dst (N := 2) rfl ?_); refine box_event ?hg (N := 2) ?hd (cs := #[.slice A0_0 l0_0.length c0_0, .slice A0_1 l0_1.length c0_1, .slice A0_2 l0_2.length c0_2, .int .i64 a0_3, .int .i64 a0_4, .string a0_5]) (t := 24) ?hr ?_; (case hd => rfl); (case hg => rfl); (case hr => first | (go_simp; done) | (go_simp; rfl)); intro gb225 hg w4 hbox hb; have n0_ := Aside0.mk (Kd.V_below (Kd.V_elderB (by (with_reducible repeat (first | apply Kd.V_alloc | apply Kd.V_drewN | apply Kd.V_drew)); exact HO0_0.out) gb225 (Nat.le_of_eq hg.symm)) hb); have n1_ := Aside0.mk (Kd.V_below (Kd.V_elderB (by (with_reducible repeat (first | apply Kd.V_alloc | apply Kd.V_drewN | apply Kd.V_drew)); exact HO0_1.out) gb225 (Nat.le_of_eq hg.symm)) hb); have n2_ := Aside0.mk (Kd.V_below (Kd.V_elderB (by (with_reducible repeat (first | apply Kd.V_alloc | apply Kd.V_drewN | apply Kd.V_drew)); exact HO0_2.out) gb225 (Nat.le_of_eq hg.symm)) hb); have n3_ := Aside0.mk (below_step eq5_ hb); have n4_ := Aside0.mk (hbox); have n5_ := Aside0.mk ((by rw [hg]; exact (below_size eq5_) : w.heap.size ≤ gb225)); have n6_ := Aside0.mk ((by rw [hg]; exact (below_size eq5_) : w.heap.size ≤ gb225)); clear HO0_0; clear HO0_1; clear HO0_2; clear HB; have HO0_0 := n0_; have HO0_1 := n1_; have HO0_2 := n2_; have HB := n3_; have BK225 := n4_; have GW225 := n5_; have GE225 := n6_; clear n0_ n1_ n2_ n3_ n4_ n5_ n6_; clear hb hbox hg) | ((with_reducible refine gate_dst (N := 4) rfl ?_); refine box_event ?hg (N := 4) ?hd (cs := #[.slice none 0 0, .slice none 0 0, .slice none 0 0, .int .i64 0, .int .i64 0, .string (⟨#[]⟩ : ByteArray)]) (t := 24) ?hr ?_; (case hd => rfl); (case hg => rfl); (case hr => first | (go_simp; done) | (go_simp; rfl)); intro gb226 hg w5 hbox hb; have n0_ := Aside0.mk (Kd.V_below (Kd.V_elderB (by (with_reducible repeat (first | apply Kd.V_alloc | apply Kd.V_drewN | apply Kd.V_drew)); exact HO0_0.out) gb226 (Nat.le_of_eq hg.symm)) hb); have n1_ := Aside0.mk (Kd.V_below (Kd.V_elderB (by (with_reducible repeat (first | apply Kd.V_alloc | apply Kd.V_drewN | apply Kd.V_drew)); exact HO0_1.out) gb226 (Nat.le_of_eq hg.symm)) hb); have n2_ := Aside0.mk (Kd.V_below (Kd.V_elderB (by (with_reducible repeat (first | apply Kd.V_alloc | apply Kd.V_drewN | apply Kd.V_drew)); exact HO0_2.out) gb226 (Nat.le_of_eq hg.symm)) hb); have n3_ := Aside0.mk (ebb_ BK225 hb); have n4_ := Aside0.mk (below_step eq2_ hb); have n5_ := Aside0.mk (hbox); have n6_ := Aside0.mk ((by rw [hg]; exact (below_size eq2_) : w.heap.size ≤ gb226)); have n7_ := Aside0.mk ((by rw [hg]; exact (below_size eq2_) : w.heap.size ≤ gb226)); have n8_ := Aside0.mk ((by rw [hg]; exact Nat.ne_of_lt (blk_lt (g := gb225) (o := .cells #[.slice A0_0 l0_0.length c0_0, .slice A0_1 l0_1.length c0_1, .slice A0_2 l0_2.length c0_2, .int .i64 a0_3, .int .i64 a0_4, .string a0_5] 24 (0, 0)) (ebu_ BK225)) : gb225 ≠ gb226)); have n9_ := Aside0.mk ((by rw [hg]; exact Nat.ne_of_gt (blk_lt (g := gb225) (o := .cells #[.slice A0_0 l0_0.length c0_0, .slice A0_1 l0_1.length c0_1, .slice A0_2 l0_2.length c0_2, .int .i64 a0_3, .int .i64 a0_4, .string a0_5] 24 (0, 0)) (ebu_ BK225)) : gb226 ≠ gb225)); clear HO0_0; clear HO0_1; clear HO0_2; clear BK225; clear HB; have HO0_0 := n0_; have HO0_1 := n1_; have HO0_2 := n2_; have BK225 := n3_; have HB := n4_; have BK226 := n5_; have GW226 := n6_; have GE226 := n7_; have NB225_226 := n8_; have NB226_225 := n9_; clear n0_ n1_ n2_ n3_ n4_ n5_ n6_ n7_ n8_ n9_; clear hb hbox hg))
 (try simp only [Act.put, List.setIfInBounds_toArray, List.set_cons_zero, List.set_cons_succ])
 go_cut [18] (fun v18 wc => ∃ (kq : Nat) (x18_2 : Bool), v18 = .bool x18_2 ∧ Aside0 (spec_l03Allot.j0 kq a1 x18_2 l0_0 l0_1 l0_2 a0_3 a0_4 a0_5 = some (r1, r2, r3, r4, r5, r6, r7)) ∧ Aside0 (kq ≤ k) ∧ Aside0 (Kd.V (Kd.int .i64) 3 wc w.heap.size (fun k_ => ((P0_0_ k_ ∨ P0_1_ k_ ∨ P0_2_ k_) ∨ w.heap.size ≤ k_) ∧ k_ ≠ gb225 ∧ k_ ≠ gb226) (.slice A0_0 l0_0.length c0_0) l0_0) ∧ Aside0 (Kd.V (Kd.int .i64) 3 wc w.heap.size (fun k_ => ((P0_0_ k_ ∨ P0_1_ k_ ∨ P0_2_ k_) ∨ w.heap.size ≤ k_) ∧ k_ ≠ gb225 ∧ k_ ≠ gb226) (.slice A0_1 l0_1.length c0_1) l0_1) ∧ Aside0 (Kd.V (Kd.int .i64) 3 wc w.heap.size (fun k_ => ((P0_0_ k_ ∨ P0_1_ k_ ∨ P0_2_ k_) ∨ w.heap.size ≤ k_) ∧ k_ ≠ gb225 ∧ k_ ≠ gb226) (.slice A0_2 l0_2.length c0_2) l0_2) ∧ Aside0 (wc.heap[gb225]? = some (.cells #[(.slice A0_0 l0_0.length c0_0), (.slice A0_1 l0_1.length c0_1), (.slice A0_2 l0_2.length c0_2), .int .i64 a0_3, .int .i64 a0_4, .string a0_5] 24 (0, 0))) ∧ Aside0 (wc.heap[gb226]? = some (.cells #[(.slice none 0 0), (.slice none 0 0), (.slice none 0 0), .int .i64 0, .int .i64 0, .string (⟨#[]⟩ : ByteArray)] 24 (0, 0))) ∧ Aside0 (Below w.heap.size w wc))
 case first =>
  have H := HC3.out
  clear HC3
  by_cases c6 : (Int.tmod a1 4) = 0
  ·rw [if_pos c6] at H
   have c6b0 : ((Int.tmod a1 4) == 0) = true := beq_iff_eq.mpr c6
   have c6b1 : ((Int.tmod a1 4) != 0) = false := bne_eq_false_iff_eq.mpr c6
   clear c6
   (first | rw [c6b0] | (simp only [i64_w, i32_w]; rw [c6b0]) | skip)
   replace H := Option.bind_eq_some_iff.mp H
   obtain ⟨t227, A70, H⟩ := H
   replace H : (spec_l03Allot.j0 k a1 (!t227) l0_0 l0_1 l0_2 a0_3 a0_4 a0_5) = some (r1, r2, r3, r4, r5, r6, r7) := H
   have A7 := Aside0.mk A70
   clear A70
   have H' := Aside0.mk H
   clear H
   have hnb8 := NB225_226.out
   have hnc8 := NB226_225.out
   obtain ⟨hcz9_0, hcz9_1, hcz9_2, hcz9_3, hcz9_4, hcz9_5⟩ := ee6_ BK225
   obtain ⟨hfz9_0, hfz9_1, hfz9_2, hfz9_3, hfz9_4, hfz9_5⟩ := ef6_ BK225
   go_wp2_with (first | (go_at_call 79; (with_reducible refine (spec_l01In.calls (wrap64 (a0_3 + (wrap64 (Int.tdiv a1 4)))) 0 32 t227 _ A7.out).mono ?_); rintro e w' ⟨rfl, ⟨nd, rfl⟩⟩))
   go_meet
   case rel => exact ⟨_, (!t227), (by first | rfl | (simp; done) | (simp [*]; done)), H', ⟨by first | omega | exact Nat.le_refl _⟩, ⟨by (with_reducible repeat (first | apply Kd.V_alloc | apply Kd.V_drewN | apply Kd.V_drew)); exact Kd.V_mono HO0_0.out (fun _ hk => ⟨hk.1.1, ⟨hk.1.2, hk.2⟩⟩)⟩, ⟨by (with_reducible repeat (first | apply Kd.V_alloc | apply Kd.V_drewN | apply Kd.V_drew)); exact Kd.V_mono HO0_1.out (fun _ hk => ⟨hk.1.1, ⟨hk.1.2, hk.2⟩⟩)⟩, ⟨by (with_reducible repeat (first | apply Kd.V_alloc | apply Kd.V_drewN | apply Kd.V_drew)); exact Kd.V_mono HO0_2.out (fun _ hk => ⟨hk.1.1, ⟨hk.1.2, hk.2⟩⟩)⟩, ⟨(ebu_ BK225)⟩, ⟨(ebu_ BK226)⟩, ⟨eq0_⟩⟩
  ·rw [if_neg c6] at H
   have c6b0 : ((Int.tmod a1 4) == 0) = false := beq_eq_false_iff_ne.mpr c6
   have c6b1 : ((Int.tmod a1 4) != 0) = true := bne_iff_ne.mpr c6
   (first | rw [c6b0] | (simp only [i64_w, i32_w]; rw [c6b0]) | skip)
   have H' := Aside0.mk H
   clear H
   go_wp2
   go_meet
   case rel => exact ⟨_, (true), (by first | rfl | (simp; done) | (simp [*]; done)), H', ⟨by first | omega | exact Nat.le_refl _⟩, ⟨by (with_reducible repeat (first | apply Kd.V_alloc | apply Kd.V_drewN | apply Kd.V_drew)); exact Kd.V_mono HO0_0.out (fun _ hk => ⟨hk.1.1, ⟨hk.1.2, hk.2⟩⟩)⟩, ⟨by (with_reducible repeat (first | apply Kd.V_alloc | apply Kd.V_drewN | apply Kd.V_drew)); exact Kd.V_mono HO0_1.out (fun _ hk => ⟨hk.1.1, ⟨hk.1.2, hk.2⟩⟩)⟩, ⟨by (with_reducible repeat (first | apply Kd.V_alloc | apply Kd.V_drewN | apply Kd.V_drew)); exact Kd.V_mono HO0_2.out (fun _ hk => ⟨hk.1.1, ⟨hk.1.2, hk.2⟩⟩)⟩, ⟨(ebu_ BK225)⟩, ⟨(ebu_ BK226)⟩, ⟨eq0_⟩⟩
 case rest =>
  clear HC3
  try clear p2
  try clear c6
  try clear c6b0
  try clear c6b1
  try clear p6
  try clear c8
  try clear hcz9_0
  try clear hcz9_1
  try clear hcz9_2
  try clear hcz9_3
  try clear hcz9_4
  try clear hcz9_5
  try clear hfz9_0
  try clear hfz9_1
  try clear hfz9_2
  try clear hfz9_3
  try clear hfz9_4
  try clear hfz9_5
  obtain ⟨kq, x18_2, rfl, HA, HJ2, HO_226000, HO_226001, HO_226002, BK225, BK226, HB⟩ := hcut
  cases kq with
  | zero => exact absurd HA.out (by simp [spec_l03Allot.j0])
  | succ kj2 =>
   have H := HA.out
   clear HA
   simp only [spec_l03Allot.j0] at H
   by_cases c10 : x18_2 = true
   ·subst c10
    have H1 : (some (l0_0, l0_1, l0_2, a0_3, a0_4, a0_5, (-8))) = some (r1, r2, r3, r4, r5, r6, r7) := by rw [if_pos rfl] at H; first | done | exact H
    clear H
    have H := H1
    clear H1
    simp only [Option.some.injEq, Prod.mk.injEq] at H
    obtain ⟨rfl, rfl, rfl, rfl, rfl, rfl, rfl⟩ := H
    have hnb11 := NB225_226.out
    have hnc11 := NB226_225.out
    obtain ⟨hcz12_0, hcz12_1, hcz12_2, hcz12_3, hcz12_4, hcz12_5⟩ := ee6_ BK225
    obtain ⟨hfz12_0, hfz12_1, hfz12_2, hfz12_3, hfz12_4, hfz12_5⟩ := ef6_ BK225
    obtain ⟨hcz13_0, hcz13_1, hcz13_2, hcz13_3, hcz13_4, hcz13_5⟩ := ee6_ BK226
    obtain ⟨hfz13_0, hfz13_1, hfz13_2, hfz13_3, hfz13_4, hfz13_5⟩ := ef6_ BK226
    go_wp2
    refine bodyPost_ret (results_ct rfl _ _ gb226 24 #[.slice A0_0 l0_0.length c0_0, .slice A0_1 l0_1.length c0_1, .slice A0_2 l0_2.length c0_2, .int .i64 a0_3, .int .i64 a0_4, .string a0_5] (0, 0) _ rfl (by (with_reducible repeat (first | refine blk_drewN ?_ _ | refine blk_drew ?_ | refine blk_alloc ?_ _)); refine blk_put (cs := #[.slice A0_0 l0_0.length c0_0, .slice A0_1 l0_1.length c0_1, .slice A0_2 l0_2.length c0_2, .int .i64 a0_3, .int .i64 a0_4, .string (⟨#[]⟩ : ByteArray)]) ?_ 5 _ rfl; (with_reducible repeat (first | refine blk_drewN ?_ _ | refine blk_drew ?_ | refine blk_alloc ?_ _)); refine blk_put (cs := #[.slice A0_0 l0_0.length c0_0, .slice A0_1 l0_1.length c0_1, .slice A0_2 l0_2.length c0_2, .int .i64 a0_3, .int .i64 0, .string (⟨#[]⟩ : ByteArray)]) ?_ 4 _ rfl; (with_reducible repeat (first | refine blk_drewN ?_ _ | refine blk_drew ?_ | refine blk_alloc ?_ _)); refine blk_put (cs := #[.slice A0_0 l0_0.length c0_0, .slice A0_1 l0_1.length c0_1, .slice A0_2 l0_2.length c0_2, .int .i64 0, .int .i64 0, .string (⟨#[]⟩ : ByteArray)]) ?_ 3 _ rfl; (with_reducible repeat (first | refine blk_drewN ?_ _ | refine blk_drew ?_ | refine blk_alloc ?_ _)); refine blk_put (cs := #[.slice A0_0 l0_0.length c0_0, .slice A0_1 l0_1.length c0_1, .slice none 0 0, .int .i64 0, .int .i64 0, .string (⟨#[]⟩ : ByteArray)]) ?_ 2 _ rfl; (with_reducible repeat (first | refine blk_drewN ?_ _ | refine blk_drew ?_ | refine blk_alloc ?_ _)); refine blk_put (cs := #[.slice A0_0 l0_0.length c0_0, .slice none 0 0, .slice none 0 0, .int .i64 0, .int .i64 0, .string (⟨#[]⟩ : ByteArray)]) ?_ 1 _ rfl; (with_reducible repeat (first | refine blk_drewN ?_ _ | refine blk_drew ?_ | refine blk_alloc ?_ _)); refine blk_put (cs := #[.slice none 0 0, .slice none 0 0, .slice none 0 0, .int .i64 0, .int .i64 0, .string (⟨#[]⟩ : ByteArray)]) ?_ 0 _ rfl; (with_reducible repeat (first | refine blk_drewN ?_ _ | refine blk_drew ?_ | refine blk_alloc ?_ _)); exact BK226.out) Try.underlying24 rfl (by kernel_rfl)) rfl ?_
    exact ⟨_, _, _, by first | rfl | (simp [errW_none, errW_some] <;> rfl) | (simp [*, errW_none, errW_some] <;> rfl), by (with_reducible repeat (first | apply Kd.V_alloc | apply Kd.V_drewN | apply Kd.V_drew)); exact Kd.V_mono (Kd.V_far (p := ⟨gb226, 5, none⟩) (Kd.V_far (p := ⟨gb226, 4, none⟩) (Kd.V_far (p := ⟨gb226, 3, none⟩) (Kd.V_far (p := ⟨gb226, 2, none⟩) (Kd.V_far (p := ⟨gb226, 1, none⟩) (Kd.V_far (p := ⟨gb226, 0, none⟩) (Kd.V_mono HO_226000.out (fun k_ hk => (⟨hk, hk.2.2⟩ : _ ∧ k_ ≠ gb226))) (fun _ hk => hk.2) (.slice A0_0 l0_0.length c0_0)) (fun _ hk => hk.2) (.slice A0_1 l0_1.length c0_1)) (fun _ hk => hk.2) (.slice A0_2 l0_2.length c0_2)) (fun _ hk => hk.2) (.int .i64 a0_3)) (fun _ hk => hk.2) (.int .i64 a0_4)) (fun _ hk => hk.2) (.string a0_5)) (fun _ hk => hk.1.1), by (with_reducible repeat (first | apply Kd.V_alloc | apply Kd.V_drewN | apply Kd.V_drew)); exact Kd.V_mono (Kd.V_far (p := ⟨gb226, 5, none⟩) (Kd.V_far (p := ⟨gb226, 4, none⟩) (Kd.V_far (p := ⟨gb226, 3, none⟩) (Kd.V_far (p := ⟨gb226, 2, none⟩) (Kd.V_far (p := ⟨gb226, 1, none⟩) (Kd.V_far (p := ⟨gb226, 0, none⟩) (Kd.V_mono HO_226001.out (fun k_ hk => (⟨hk, hk.2.2⟩ : _ ∧ k_ ≠ gb226))) (fun _ hk => hk.2) (.slice A0_0 l0_0.length c0_0)) (fun _ hk => hk.2) (.slice A0_1 l0_1.length c0_1)) (fun _ hk => hk.2) (.slice A0_2 l0_2.length c0_2)) (fun _ hk => hk.2) (.int .i64 a0_3)) (fun _ hk => hk.2) (.int .i64 a0_4)) (fun _ hk => hk.2) (.string a0_5)) (fun _ hk => hk.1.1), by (with_reducible repeat (first | apply Kd.V_alloc | apply Kd.V_drewN | apply Kd.V_drew)); exact Kd.V_mono (Kd.V_far (p := ⟨gb226, 5, none⟩) (Kd.V_far (p := ⟨gb226, 4, none⟩) (Kd.V_far (p := ⟨gb226, 3, none⟩) (Kd.V_far (p := ⟨gb226, 2, none⟩) (Kd.V_far (p := ⟨gb226, 1, none⟩) (Kd.V_far (p := ⟨gb226, 0, none⟩) (Kd.V_mono HO_226002.out (fun k_ hk => (⟨hk, hk.2.2⟩ : _ ∧ k_ ≠ gb226))) (fun _ hk => hk.2) (.slice A0_0 l0_0.length c0_0)) (fun _ hk => hk.2) (.slice A0_1 l0_1.length c0_1)) (fun _ hk => hk.2) (.slice A0_2 l0_2.length c0_2)) (fun _ hk => hk.2) (.int .i64 a0_3)) (fun _ hk => hk.2) (.int .i64 a0_4)) (fun _ hk => hk.2) (.string a0_5)) (fun _ hk => hk.1.1), by repeat (first | (with_reducible first | exact HB.out | apply below_alloc | apply pw_below_drewN | apply below_drew1 | refine below_set ?_ GE225.out | refine below_set ?_ GE226.out) | exact HB.out)⟩
   ·replace c10 := Bool.eq_false_iff.mpr c10
    subst c10
    have H1 : ((some (([] : List Int) : List Int)).bind fun y228 => (if y228.length + l0_2.length < 17592186044416 then (spec_l03Allot.l0 kj2 a1 a0_3 l0_0 l0_1 (y228 ++ l0_2) a0_3 a0_4 a0_5) else (none))) = some (r1, r2, r3, r4, r5, r6, r7) := by rw [if_neg (show ¬ (false = true) by decide)] at H; first | done | exact H
    clear H
    have H := H1
    clear H1
    obtain ⟨y228, hy228⟩ : ∃ y_ : List Int, y_ = (([] : List Int)) := ⟨_, rfl⟩
    replace H : (if y228.length + l0_2.length < 17592186044416 then (spec_l03Allot.l0 kj2 a1 a0_3 l0_0 l0_1 (y228 ++ l0_2) a0_3 a0_4 a0_5) else (none)) = some (r1, r2, r3, r4, r5, r6, r7) := by first | (rw [hy228]; with_reducible exact H) | (have H2_ := (Option.bind_some _ _).symm.trans H; rw [hy228]; with_reducible exact H2_) | (have H2_ := (Option.bind_some _ _).symm.trans H; with_reducible exact H2_) | with_reducible exact H | (rw [hy228]; exact H) | exact H
    have Ny228 := Aside0.mk hy228
    clear hy228
    by_cases c14 : y228.length + l0_2.length < 17592186044416
    ·rw [if_pos c14] at H
     have LMc14 := Aside0.mk c14
     clear c14
     obtain ⟨y231, hy231⟩ : ∃ y_ : List Int, y_ = (y228 ++ l0_2) := ⟨_, rfl⟩
     replace H : (spec_l03Allot.l0 kj2 a1 a0_3 l0_0 l0_1 y231 a0_3 a0_4 a0_5) = some (r1, r2, r3, r4, r5, r6, r7) := by first | (rw [hy231]; with_reducible exact H) | (have H2_ := (Option.bind_some _ _).symm.trans H; rw [hy231]; with_reducible exact H2_) | (have H2_ := (Option.bind_some _ _).symm.trans H; with_reducible exact H2_) | with_reducible exact H | (rw [hy231]; exact H) | exact H
     have Ny231 := Aside0.mk hy231
     clear hy231
     have H' := Aside0.mk H
     clear H
     go_wp2_with (first | ((with_reducible refine gate_dst (N := 20) rfl ?_); refine Kd.R_lit (Kd.int .i64) _ 3 ?hg (N := 20) ?hd (xs := ([] : List Int)) (inner := []) (ok := fun _ => True) (okp := fun _ => True) ?hr ?hp (fun _ hk => hk) trivial (Below.refl _ _) (Nat.le_refl _) (by simp) ?_; (case hd => rfl); (case hg => rfl); (case hr => first | (go_simp; done) | (go_simp; rfl)); (case hp => exact (Reps.none _ _)); intro v229 w15 ho16 hb hg_ hnew_; clear hg_ hnew_; (first | rw [← Ny228.out] at ho16 | (simp only [Int.reduceToNat] at ho16; rw [← Ny228.out] at ho16)); replace HO_226000 := Aside0.mk (Kd.V_elder' (by (with_reducible repeat (first | apply Kd.V_alloc | apply Kd.V_drewN | apply Kd.V_drew)); exact HO_226000.out) (Kd.R_base ho16) hb); replace HO_226001 := Aside0.mk (Kd.V_elder' (by (with_reducible repeat (first | apply Kd.V_alloc | apply Kd.V_drewN | apply Kd.V_drew)); exact HO_226001.out) (Kd.R_base ho16) hb); replace HO_226002 := Aside0.mk (Kd.V_elder' (by (with_reducible repeat (first | apply Kd.V_alloc | apply Kd.V_drewN | apply Kd.V_drew)); exact HO_226002.out) (Kd.R_base ho16) hb); have HO230 := Aside0.mk (Kd.R_lower (Kd.R_newM (M := fun k_ => (w.heap.size ≤ k_)) ho16 (below_size eq0_) (fun k_ h_ => h_)) (below_size eq0_)); replace BK225 := Aside0.mk (ebb_ BK225 hb); replace BK226 := Aside0.mk (ebb_ BK226 hb); replace HB := Aside0.mk (below_step eq0_ hb); clear hb ho16; have hnb17 := NB225_226.out; have hnc17 := NB226_225.out; obtain ⟨hcz18_0, hcz18_1, hcz18_2, hcz18_3, hcz18_4, hcz18_5⟩ := ee6_ BK225; obtain ⟨hfz18_0, hfz18_1, hfz18_2, hfz18_3, hfz18_4, hfz18_5⟩ := ef6_ BK225) | ((with_reducible refine gate_builtin (b := .append) (xs := #[.tmp 20, .tmp 22]) rfl ?_); at_builtin; refine Kd.R_append_rows (Kd.int .i64) (w0 := w) w.heap.size rfl (.tmp 20) (.tmp 22) 22 3 (.int .i64 0) 8 rfl Try.underlying22 info3 rfl (by decide) (by omega) v229 y228 l0_2 _ _ _ (fun k_ => (w.heap.size ≤ k_)) (fun _ => False) rfl rfl ?aO ?aR (fun _ _ h => h) (fun _ h => h.elim) ?aF ?aB ?aS ?aL ?_; (case aR => repeat (first | exact (Kd.V_reads' HO_226002.out).2.2 | (with_reducible refine Kd.C_alloc ?_ _) | (with_reducible refine Kd.C_drewN ?_ _) | (with_reducible refine Kd.C_drew ?_))); (case aB => exact eq0_); (case aF => exact (fun k_ hk => (Nat.le_trans (below_size eq0_) hk))); (case aO => exact (by (with_reducible repeat (first | apply Kd.R_alloc | apply Kd.R_drewN | apply Kd.R_drew)); exact Kd.R_mono HO230.out (fun _ hk => hk.1))); (case aS => exact (below_size eq0_)); (case aL => have := LMc14.out; omega); intro v232 w19 ho hb hg hat; rw [← Ny231.out] at ho; replace HO_226000 := Aside0.mk (Kd.V_afterv (ok := (fun k_ => ((P0_0_ k_ ∨ P0_1_ k_ ∨ P0_2_ k_) ∨ w.heap.size ≤ k_) ∧ k_ ≠ gb225 ∧ k_ ≠ gb226)) (by (with_reducible repeat (first | apply Kd.V_alloc | apply Kd.V_drewN | apply Kd.V_drew)); exact HO_226000.out) hg hat); replace HO_226001 := Aside0.mk (Kd.V_afterv (ok := (fun k_ => ((P0_0_ k_ ∨ P0_1_ k_ ∨ P0_2_ k_) ∨ w.heap.size ≤ k_) ∧ k_ ≠ gb225 ∧ k_ ≠ gb226)) (by (with_reducible repeat (first | apply Kd.V_alloc | apply Kd.V_drewN | apply Kd.V_drew)); exact HO_226001.out) hg hat); replace HO_226002 := Aside0.mk (Kd.V_afterv (ok := (fun k_ => ((P0_0_ k_ ∨ P0_1_ k_ ∨ P0_2_ k_) ∨ w.heap.size ≤ k_) ∧ k_ ≠ gb225 ∧ k_ ≠ gb226)) (by (with_reducible repeat (first | apply Kd.V_alloc | apply Kd.V_drewN | apply Kd.V_drew)); exact HO_226002.out) hg hat); replace BK225 := Aside0.mk (blk_grown (g := gb225) (o := .cells #[.slice A0_0 l0_0.length c0_0, .slice A0_1 l0_1.length c0_1, .slice A0_2 l0_2.length c0_2, .int .i64 a0_3, .int .i64 a0_4, .string a0_5] 24 (0, 0)) (ebu_ BK225) hg (Kd.R_ne HO230.out BK225.out (by decide))); replace BK226 := Aside0.mk (blk_grown (g := gb226) (o := .cells #[.slice none 0 0, .slice none 0 0, .slice none 0 0, .int .i64 0, .int .i64 0, .string (⟨#[]⟩ : ByteArray)] 24 (0, 0)) (ebu_ BK226) hg (Kd.R_ne HO230.out BK226.out (by decide))); replace HB := Aside0.mk (hb); have HO233 := Aside0.mk (ho); clear HO230; clear ho hb hg hat; obtain ⟨Ao20, co20, eo20⟩ := Kd.R_slice HO233.out; subst eo20; obtain ⟨hcz21_0, hcz21_1, hcz21_2, hcz21_3, hcz21_4, hcz21_5⟩ := ee6_ BK225; obtain ⟨hfz21_0, hfz21_1, hfz21_2, hfz21_3, hfz21_4, hfz21_5⟩ := ef6_ BK225))
     go_loopg [6] kj2 (fun kq v6 w' => ∃ (x6_2 : Int) (x226000_2 : List Int) (x226001_2 : List Int) (x226002_2 : List Int) (u226000 : Value) (u226001 : Value) (u226002 : Value), v6 = .int .i64 x6_2 ∧ Aside0 (spec_l03Allot.l0 kq a1 x6_2 x226000_2 x226001_2 x226002_2 a0_3 a0_4 a0_5 = some (r1, r2, r3, r4, r5, r6, r7)) ∧ Aside0 (kq ≤ kj2) ∧ Aside0 (Kd.V (Kd.int .i64) 3 w' w.heap.size (fun k_ => ((P0_0_ k_ ∨ P0_1_ k_ ∨ P0_2_ k_) ∨ w.heap.size ≤ k_) ∧ some k_ ≠ (u226002 : Value).ownBlock ∧ k_ ≠ gb225 ∧ k_ ≠ gb226) u226000 x226000_2) ∧ Aside0 (Kd.V (Kd.int .i64) 3 w' w.heap.size (fun k_ => ((P0_0_ k_ ∨ P0_1_ k_ ∨ P0_2_ k_) ∨ w.heap.size ≤ k_) ∧ some k_ ≠ (u226002 : Value).ownBlock ∧ k_ ≠ gb225 ∧ k_ ≠ gb226) u226001 x226001_2) ∧ Aside0 (Kd.R (Kd.int .i64) 3 w' w.heap.size (fun k_ => (w.heap.size ≤ k_)) u226002 x226002_2) ∧ Aside0 (w'.heap[gb225]? = some (.cells #[u226000, u226001, u226002, .int .i64 a0_3, .int .i64 a0_4, .string a0_5] 24 (0, 0))) ∧ Aside0 (w'.heap[gb226]? = some (.cells #[(.slice none 0 0), (.slice none 0 0), (.slice none 0 0), .int .i64 0, .int .i64 0, .string (⟨#[]⟩ : ByteArray)] 24 (0, 0))) ∧ Aside0 (Below w.heap.size w w'))
     case atStart => exact ⟨(a0_3), (l0_0), (l0_1), (y231), (.slice A0_0 l0_0.length c0_0), (.slice A0_1 l0_1.length c0_1), (.slice Ao20 y231.length co20), (by first | rfl | (simp; done) | (simp [*]; done)), H', ⟨Nat.le_refl _⟩, ⟨by (with_reducible repeat (first | apply Kd.V_alloc | apply Kd.V_drewN | apply Kd.V_drew)); exact Kd.V_mono (Kd.V_far (p := ⟨gb225, 2, none⟩) (Kd.V_mono HO_226000.out (fun k_ hk => (⟨hk, hk.1.2.1⟩ : _ ∧ k_ ≠ gb225))) (fun _ hk => hk.2) (.slice Ao20 y231.length co20)) (fun _ hk => ⟨hk.1.1.1, ⟨hk.1.2, ⟨hk.1.1.2.1, hk.1.1.2.2⟩⟩⟩)⟩, ⟨by (with_reducible repeat (first | apply Kd.V_alloc | apply Kd.V_drewN | apply Kd.V_drew)); exact Kd.V_mono (Kd.V_far (p := ⟨gb225, 2, none⟩) (Kd.V_mono HO_226001.out (fun k_ hk => (⟨hk, hk.1.2.1⟩ : _ ∧ k_ ≠ gb225))) (fun _ hk => hk.2) (.slice Ao20 y231.length co20)) (fun _ hk => ⟨hk.1.1.1, ⟨hk.1.2, ⟨hk.1.1.2.1, hk.1.1.2.2⟩⟩⟩)⟩, ⟨by (with_reducible repeat (first | apply Kd.R_alloc | apply Kd.R_drewN | apply Kd.R_drew)); exact Kd.R_mono (Kd.R_far (p := ⟨gb225, 2, none⟩) (Kd.R_types HO233.out BK225.out (by decide)) (fun _ hk => hk.2) (.slice Ao20 y231.length co20)) (fun _ hk => hk.1)⟩, ⟨(by (with_reducible repeat (first | refine blk_drewN ?_ _ | refine blk_drew ?_ | refine blk_alloc ?_ _)); refine blk_put (cs := #[.slice A0_0 l0_0.length c0_0, .slice A0_1 l0_1.length c0_1, .slice A0_2 l0_2.length c0_2, .int .i64 a0_3, .int .i64 a0_4, .string a0_5]) ?_ 2 _ rfl; (with_reducible repeat (first | refine blk_drewN ?_ _ | refine blk_drew ?_ | refine blk_alloc ?_ _)); exact BK225.out)⟩, ⟨(by (with_reducible repeat (first | refine blk_drewN ?_ _ | refine blk_drew ?_ | refine blk_alloc ?_ _)); refine blk_far ?_ NB226_225.out _; (with_reducible repeat (first | refine blk_drewN ?_ _ | refine blk_drew ?_ | refine blk_alloc ?_ _)); exact BK226.out)⟩, ⟨eq0_⟩⟩
     case round =>
      clear H'
      try clear c1
      try clear p2
      try clear c6
      try clear c6b0
      try clear c6b1
      try clear p6
      try clear c8
      try clear c10
      try clear c11
      try clear c14
      try clear c17
      try clear hcz12_0
      try clear hcz12_1
      try clear hcz12_2
      try clear hcz12_3
      try clear hcz12_4
      try clear hcz12_5
      try clear hcz13_0
      try clear hcz13_1
      try clear hcz13_2
      try clear hcz13_3
      try clear hcz13_4
      try clear hcz13_5
      try clear hcz18_0
      try clear hcz18_1
      try clear hcz18_2
      try clear hcz18_3
      try clear hcz18_4
      try clear hcz18_5
      try clear hcz21_0
      try clear hcz21_1
      try clear hcz21_2
      try clear hcz21_3
      try clear hcz21_4
      try clear hcz21_5
      try clear hcz9_0
      try clear hcz9_1
      try clear hcz9_2
      try clear hcz9_3
      try clear hcz9_4
      try clear hcz9_5
      try clear hfz12_0
      try clear hfz12_1
      try clear hfz12_2
      try clear hfz12_3
      try clear hfz12_4
      try clear hfz12_5
      try clear hfz13_0
      try clear hfz13_1
      try clear hfz13_2
      try clear hfz13_3
      try clear hfz13_4
      try clear hfz13_5
      try clear hfz18_0
      try clear hfz18_1
      try clear hfz18_2
      try clear hfz18_3
      try clear hfz18_4
      try clear hfz18_5
      try clear hfz21_0
      try clear hfz21_1
      try clear hfz21_2
      try clear hfz21_3
      try clear hfz21_4
      try clear hfz21_5
      try clear hfz9_0
      try clear hfz9_1
      try clear hfz9_2
      try clear hfz9_3
      try clear hfz9_4
      try clear hfz9_5
      try clear p2
      try clear p6
      obtain ⟨x6_2, x226000_2, x226001_2, x226002_2, u226000, u226001, u226002, rfl, HA, HK2, HO_226000, HO_226001, HO_226002, BK225, BK226, HB⟩ := hrel
      cases gk with
      | zero => exact absurd HA.out (by simp [spec_l03Allot.l0])
      | succ k2 =>
       have H := HA.out
       clear HA
       simp only [spec_l03Allot.l0] at H
       by_cases c22 : x6_2 < (wrap64 (a0_3 + (wrap64 (Int.tdiv a1 4))))
       ·rw [if_pos c22] at H
        have c22b0 : decide (x6_2 < (wrap64 (a0_3 + (wrap64 (Int.tdiv a1 4))))) = true := decide_eq_true c22
        clear c22
        by_cases c23 : 0 ≤ x6_2
        ·rw [if_pos c23] at H
         have c23b0 : decide (0 ≤ x6_2) = true := decide_eq_true c23
         clear c23
         by_cases c24 : x6_2 < (x226002_2.length : Int)
         ·rw [if_pos c24] at H
          have c24b0 : decide (x6_2 < (x226002_2.length : Int)) = true := decide_eq_true c24
          clear c24
          obtain ⟨y234, hy234⟩ : ∃ y_ : List Int, y_ = (x226002_2.set (x6_2 : Int).toNat 0) := ⟨_, rfl⟩
          replace H : (spec_l03Allot.l0 k2 a1 (wrap64 (x6_2 + 1)) x226000_2 x226001_2 y234 a0_3 a0_4 a0_5) = some (r1, r2, r3, r4, r5, r6, r7) := by first | (rw [hy234]; with_reducible exact H) | (have H2_ := (Option.bind_some _ _).symm.trans H; rw [hy234]; with_reducible exact H2_) | (have H2_ := (Option.bind_some _ _).symm.trans H; with_reducible exact H2_) | with_reducible exact H | (rw [hy234]; exact H) | exact H
          have Ny234 := Aside0.mk hy234
          clear hy234
          have H' := Aside0.mk H
          clear H
          have hnb26 := NB225_226.out
          have hnc26 := NB226_225.out
          obtain ⟨hcz27_0, hcz27_1, hcz27_2, hcz27_3, hcz27_4, hcz27_5⟩ := ee6_ BK225
          obtain ⟨hfz27_0, hfz27_1, hfz27_2, hfz27_3, hfz27_4, hfz27_5⟩ := ef6_ BK225
          have p25 : 0 ≤ (x6_2 : Int) := of_decide_eq_true (by first | (with_reducible assumption) | assumption)
          have q25 : (x6_2 : Int) < ((x226002_2.length : Int) : Int) := of_decide_eq_true (by first | (with_reducible assumption) | assumption)
          obtain ⟨go25, co25, eo25, gb25, gl25, cl25, HG25⟩ := Kd.R_form HO_226002.out (by omega)
          (first | cases eo25 | (injection eo25 with ea_ en_ ec_; (first | subst ea_ | (injection ea_ with ea_; subst ea_)); subst ec_; clear en_))
          have GB25 := Aside0.mk gb25
          have GG25 := Aside0.mk HG25
          clear gb25 gl25 HG25
          obtain ⟨hx25_0, hf25_0⟩ := Kd.R_celln 0 HO_226002.out (x6_2 : Int) p25 q25
          replace p25 := eq_true p25
          replace q25 := eq_true q25
          have HP28 := Kd.R_putg HO_226002.out (x6_2 : Int) 0
          go_wp2_with (first | ((with_reducible refine gate_store (t := 3) (p := 39) rfl ?_); refine store_event (t := 3) (p := 39) (v := ?vo_w29) (w1 := (wr.setCell ⟨go25, (x6_2 : Int).toNat, none⟩ (.int .i64 0))) ?hg ?ho ?hn ?hr ?_; (case ho => rfl); (case hg => rfl); (case hn => rfl); (case hr => first | (go_simp; done) | (go_simp; rfl)); intro w29 hw; have hg : wr.grownBy w29 (some go25) := (by rw [hw]; exact HP28.2); have hp_ : Kd.R (Kd.int .i64) 3 w29 w.heap.size (fun k_ => (w.heap.size ≤ k_)) (.slice (some ⟨go25, 0, none⟩) x226002_2.length co25) y234 := (by rw [hw, Ny234.out]; exact HP28.1); clear HP28; have n0_ := Aside0.mk (Kd.V_afterv (v := (.slice (some ⟨go25, 0, none⟩) x226002_2.length co25)) (v1 := (.slice (some ⟨go25, 0, none⟩) x226002_2.length co25)) (ok := (fun k_ => ((P0_0_ k_ ∨ P0_1_ k_ ∨ P0_2_ k_) ∨ w.heap.size ≤ k_) ∧ k_ ≠ gb225 ∧ k_ ≠ gb226)) (by (with_reducible repeat (first | apply Kd.V_alloc | apply Kd.V_drewN | apply Kd.V_drew)); exact Kd.V_mono HO_226000.out (fun _ hk => ⟨⟨hk.1, ⟨hk.2.2.1, hk.2.2.2⟩⟩, hk.2.1⟩)) hg (.inl rfl)); have n1_ := Aside0.mk (Kd.V_afterv (v := (.slice (some ⟨go25, 0, none⟩) x226002_2.length co25)) (v1 := (.slice (some ⟨go25, 0, none⟩) x226002_2.length co25)) (ok := (fun k_ => ((P0_0_ k_ ∨ P0_1_ k_ ∨ P0_2_ k_) ∨ w.heap.size ≤ k_) ∧ k_ ≠ gb225 ∧ k_ ≠ gb226)) (by (with_reducible repeat (first | apply Kd.V_alloc | apply Kd.V_drewN | apply Kd.V_drew)); exact Kd.V_mono HO_226001.out (fun _ hk => ⟨⟨hk.1, ⟨hk.2.2.1, hk.2.2.2⟩⟩, hk.2.1⟩)) hg (.inl rfl)); have n2_ := Aside0.mk (hp_); have n3_ := Aside0.mk (blk_grown (g := gb225) (o := .cells #[u226000, u226001, .slice (some ⟨go25, 0, none⟩) x226002_2.length co25, .int .i64 a0_3, .int .i64 a0_4, .string a0_5] 24 (0, 0)) (ebu_ BK225) hg (Kd.R_ne HO_226002.out BK225.out (by decide))); have n4_ := Aside0.mk (blk_grown (g := gb226) (o := .cells #[.slice none 0 0, .slice none 0 0, .slice none 0 0, .int .i64 0, .int .i64 0, .string (⟨#[]⟩ : ByteArray)] 24 (0, 0)) (ebu_ BK226) hg (Kd.R_ne HO_226002.out BK226.out (by decide))); have n5_ := Aside0.mk ((by rw [hw]; exact below_set (HB.out) GB25.out : Below w.heap.size w w29)); clear HO_226000; clear HO_226001; clear HO_226002; clear BK225; clear BK226; clear HB; have HO_226000 := n0_; have HO_226001 := n1_; have HO_226002 := n2_; have BK225 := n3_; have BK226 := n4_; have HB := n5_; clear n0_ n1_ n2_ n3_ n4_ n5_; clear hg hw hp_))
          go_roundg k2
          case measure => have := HJ2.out; have := HK2.out; omega
          case rel => exact ⟨(wrap64 (x6_2 + 1)), (x226000_2), (x226001_2), (y234), (u226000), (u226001), (.slice (some ⟨go25, 0, none⟩) x226002_2.length co25), (by first | rfl | (simp; done) | (simp [*]; done)), H', ⟨by have := HJ2.out; have := HK2.out; omega⟩, ⟨by (with_reducible repeat (first | apply Kd.V_alloc | apply Kd.V_drewN | apply Kd.V_drew)); exact Kd.V_mono HO_226000.out (fun _ hk => ⟨hk.1.1, ⟨hk.2, ⟨hk.1.2.1, hk.1.2.2⟩⟩⟩)⟩, ⟨by (with_reducible repeat (first | apply Kd.V_alloc | apply Kd.V_drewN | apply Kd.V_drew)); exact Kd.V_mono HO_226001.out (fun _ hk => ⟨hk.1.1, ⟨hk.2, ⟨hk.1.2.1, hk.1.2.2⟩⟩⟩)⟩, ⟨(eru_ HO_226002)⟩, ⟨(ebu_ BK225)⟩, ⟨(ebu_ BK226)⟩, ⟨eq0_⟩⟩
         ·rw [if_neg c24] at H
          exact absurd H (by simp)
        ·rw [if_neg c23] at H
         exact absurd H (by simp)
       ·rw [if_neg c22] at H
        have c22b0 : decide (x6_2 < (wrap64 (a0_3 + (wrap64 (Int.tdiv a1 4))))) = false := decide_eq_false c22
        clear c22
        simp only [Option.some.injEq, Prod.mk.injEq] at H
        obtain ⟨rfl, rfl, rfl, rfl, rfl, rfl, rfl⟩ := H
        have hnb30 := NB225_226.out
        have hnc30 := NB226_225.out
        obtain ⟨hcz31_0, hcz31_1, hcz31_2, hcz31_3, hcz31_4, hcz31_5⟩ := ee6_ BK225
        obtain ⟨hfz31_0, hfz31_1, hfz31_2, hfz31_3, hfz31_4, hfz31_5⟩ := ef6_ BK225
        obtain ⟨Ao32, co32, eo32⟩ := Kd.V_slice HO_226000.out
        subst eo32
        obtain ⟨hcz33_0, hcz33_1, hcz33_2, hcz33_3, hcz33_4, hcz33_5⟩ := ee6_ BK226
        obtain ⟨hfz33_0, hfz33_1, hfz33_2, hfz33_3, hfz33_4, hfz33_5⟩ := ef6_ BK226
        obtain ⟨Ao34, co34, eo34⟩ := Kd.V_slice HO_226001.out
        subst eo34
        obtain ⟨Ao35, co35, eo35⟩ := Kd.R_slice HO_226002.out
        subst eo35
        go_wp2
        refine bodyPost_ret (results_ct rfl _ _ gb226 24 #[.slice Ao32 x226000_2.length co32, .slice Ao34 x226001_2.length co34, .slice Ao35 x226002_2.length co35, .int .i64 (wrap64 (a0_3 + (wrap64 (Int.tdiv a1 4)))), .int .i64 a0_4, .string a0_5] (0, 0) _ rfl (by (with_reducible repeat (first | refine blk_drewN ?_ _ | refine blk_drew ?_ | refine blk_alloc ?_ _)); refine blk_put (cs := #[.slice Ao32 x226000_2.length co32, .slice Ao34 x226001_2.length co34, .slice Ao35 x226002_2.length co35, .int .i64 (wrap64 (a0_3 + (wrap64 (Int.tdiv a1 4)))), .int .i64 a0_4, .string (⟨#[]⟩ : ByteArray)]) ?_ 5 _ rfl; (with_reducible repeat (first | refine blk_drewN ?_ _ | refine blk_drew ?_ | refine blk_alloc ?_ _)); refine blk_put (cs := #[.slice Ao32 x226000_2.length co32, .slice Ao34 x226001_2.length co34, .slice Ao35 x226002_2.length co35, .int .i64 (wrap64 (a0_3 + (wrap64 (Int.tdiv a1 4)))), .int .i64 0, .string (⟨#[]⟩ : ByteArray)]) ?_ 4 _ rfl; (with_reducible repeat (first | refine blk_drewN ?_ _ | refine blk_drew ?_ | refine blk_alloc ?_ _)); refine blk_put (cs := #[.slice Ao32 x226000_2.length co32, .slice Ao34 x226001_2.length co34, .slice Ao35 x226002_2.length co35, .int .i64 0, .int .i64 0, .string (⟨#[]⟩ : ByteArray)]) ?_ 3 _ rfl; (with_reducible repeat (first | refine blk_drewN ?_ _ | refine blk_drew ?_ | refine blk_alloc ?_ _)); refine blk_put (cs := #[.slice Ao32 x226000_2.length co32, .slice Ao34 x226001_2.length co34, .slice none 0 0, .int .i64 0, .int .i64 0, .string (⟨#[]⟩ : ByteArray)]) ?_ 2 _ rfl; (with_reducible repeat (first | refine blk_drewN ?_ _ | refine blk_drew ?_ | refine blk_alloc ?_ _)); refine blk_put (cs := #[.slice Ao32 x226000_2.length co32, .slice none 0 0, .slice none 0 0, .int .i64 0, .int .i64 0, .string (⟨#[]⟩ : ByteArray)]) ?_ 1 _ rfl; (with_reducible repeat (first | refine blk_drewN ?_ _ | refine blk_drew ?_ | refine blk_alloc ?_ _)); refine blk_put (cs := #[.slice none 0 0, .slice none 0 0, .slice none 0 0, .int .i64 0, .int .i64 0, .string (⟨#[]⟩ : ByteArray)]) ?_ 0 _ rfl; (with_reducible repeat (first | refine blk_drewN ?_ _ | refine blk_drew ?_ | refine blk_alloc ?_ _)); refine blk_far ?_ NB226_225.out _; (with_reducible repeat (first | refine blk_drewN ?_ _ | refine blk_drew ?_ | refine blk_alloc ?_ _)); exact BK226.out) Try.underlying24 rfl (by kernel_rfl)) rfl ?_
        exact ⟨_, _, _, by first | rfl | (simp [errW_none, errW_some] <;> rfl) | (simp [*, errW_none, errW_some] <;> rfl), by (with_reducible repeat (first | apply Kd.V_alloc | apply Kd.V_drewN | apply Kd.V_drew)); exact Kd.V_mono (Kd.V_far (p := ⟨gb226, 5, none⟩) (Kd.V_far (p := ⟨gb226, 4, none⟩) (Kd.V_far (p := ⟨gb226, 3, none⟩) (Kd.V_far (p := ⟨gb226, 2, none⟩) (Kd.V_far (p := ⟨gb226, 1, none⟩) (Kd.V_far (p := ⟨gb226, 0, none⟩) (Kd.V_far (p := ⟨gb225, 3, none⟩) (Kd.V_mono (Kd.V_mono HO_226000.out (fun k_ hk => (⟨hk, hk.2.2.1⟩ : _ ∧ k_ ≠ gb225))) (fun k_ hk => (⟨hk, hk.1.2.2.2⟩ : _ ∧ k_ ≠ gb226))) (fun _ hk => hk.1.2) (.int .i64 (wrap64 (a0_3 + (wrap64 (Int.tdiv a1 4)))))) (fun _ hk => hk.2) (.slice Ao32 x226000_2.length co32)) (fun _ hk => hk.2) (.slice Ao34 x226001_2.length co34)) (fun _ hk => hk.2) (.slice Ao35 x226002_2.length co35)) (fun _ hk => hk.2) (.int .i64 (wrap64 (a0_3 + (wrap64 (Int.tdiv a1 4)))))) (fun _ hk => hk.2) (.int .i64 a0_4)) (fun _ hk => hk.2) (.string a0_5)) (fun _ hk => hk.1.1.1), by (with_reducible repeat (first | apply Kd.V_alloc | apply Kd.V_drewN | apply Kd.V_drew)); exact Kd.V_mono (Kd.V_far (p := ⟨gb226, 5, none⟩) (Kd.V_far (p := ⟨gb226, 4, none⟩) (Kd.V_far (p := ⟨gb226, 3, none⟩) (Kd.V_far (p := ⟨gb226, 2, none⟩) (Kd.V_far (p := ⟨gb226, 1, none⟩) (Kd.V_far (p := ⟨gb226, 0, none⟩) (Kd.V_far (p := ⟨gb225, 3, none⟩) (Kd.V_mono (Kd.V_mono HO_226001.out (fun k_ hk => (⟨hk, hk.2.2.1⟩ : _ ∧ k_ ≠ gb225))) (fun k_ hk => (⟨hk, hk.1.2.2.2⟩ : _ ∧ k_ ≠ gb226))) (fun _ hk => hk.1.2) (.int .i64 (wrap64 (a0_3 + (wrap64 (Int.tdiv a1 4)))))) (fun _ hk => hk.2) (.slice Ao32 x226000_2.length co32)) (fun _ hk => hk.2) (.slice Ao34 x226001_2.length co34)) (fun _ hk => hk.2) (.slice Ao35 x226002_2.length co35)) (fun _ hk => hk.2) (.int .i64 (wrap64 (a0_3 + (wrap64 (Int.tdiv a1 4)))))) (fun _ hk => hk.2) (.int .i64 a0_4)) (fun _ hk => hk.2) (.string a0_5)) (fun _ hk => hk.1.1.1), Kd.V_mono (Kd.R_V (by (with_reducible repeat (first | apply Kd.R_alloc | apply Kd.R_drewN | apply Kd.R_drew)); exact Kd.R_mono (Kd.R_far (p := ⟨gb226, 5, none⟩) (Kd.R_far (p := ⟨gb226, 4, none⟩) (Kd.R_far (p := ⟨gb226, 3, none⟩) (Kd.R_far (p := ⟨gb226, 2, none⟩) (Kd.R_far (p := ⟨gb226, 1, none⟩) (Kd.R_far (p := ⟨gb226, 0, none⟩) (Kd.R_far (p := ⟨gb225, 3, none⟩) (Kd.R_types (Kd.R_types HO_226002.out BK225.out (by decide)) BK226.out (by decide)) (fun _ hk => hk.1.2) (.int .i64 (wrap64 (a0_3 + (wrap64 (Int.tdiv a1 4)))))) (fun _ hk => hk.2) (.slice Ao32 x226000_2.length co32)) (fun _ hk => hk.2) (.slice Ao34 x226001_2.length co34)) (fun _ hk => hk.2) (.slice Ao35 x226002_2.length co35)) (fun _ hk => hk.2) (.int .i64 (wrap64 (a0_3 + (wrap64 (Int.tdiv a1 4)))))) (fun _ hk => hk.2) (.int .i64 a0_4)) (fun _ hk => hk.2) (.string a0_5)) (fun _ hk => hk.1.1))) (fun k_ hk => by first | exact ⟨(.inr (hk.1)), hk.2⟩ | exact (.inr (hk))), by repeat (first | (with_reducible first | exact HB.out | apply below_alloc | apply pw_below_drewN | apply below_drew1 | refine below_set ?_ GE225.out | refine below_set ?_ GE226.out) | exact HB.out)⟩
    ·rw [if_neg c14] at H
     exact absurd H (by simp)

/-! ### spec_AllotCells: function 33 -/
def spec_AllotCells.f (k : Nat) (l0_0 : List Int) (l0_1 : List Int) (l0_2 : List Int) (a0_3 : Int) (a0_4 : Int) (a0_5 : ByteArray) (a1 : Int) : Option (List Int × List Int × List Int × Int × Int × ByteArray × Int × Int) := (spec_l03OK.f k l0_0 l0_1 l0_2 a0_3 a0_4 a0_5).bind fun t237 => (if t237 = true then ((spec_l01Cell.f a1).bind fun t238 => (if t238 = true then ((spec_l03Allot.f k l0_0 l0_1 l0_2 a0_3 a0_4 a0_5 a1).bind fun bt239 => ((spec_l03Own.f bt239.1 bt239.2.1 bt239.2.2.1 bt239.2.2.2.1 bt239.2.2.2.2.1 bt239.2.2.2.2.2.1).bind fun bt253 => (some (bt253.1, bt253.2.1, bt253.2.2.1, bt253.2.2.2.1, bt253.2.2.2.2.1, bt253.2.2.2.2.2, bt239.2.2.2.2.2.2, 0)))) else (some (([] : List Int), ([] : List Int), ([] : List Int), 0, 0, (⟨#[]⟩ : ByteArray), 0, 4)))) else (some (([] : List Int), ([] : List Int), ([] : List Int), 0, 0, (⟨#[]⟩ : ByteArray), 0, 1)))
theorem spec_AllotCells.mono : ∀ a0 a1 a2 a3 a4 a5 a6 k, LeO (spec_AllotCells.f k a0 a1 a2 a3 a4 a5 a6) (spec_AllotCells.f (k + 1) a0 a1 a2 a3 a4 a5 a6) := by
 intro a0 a1 a2 a3 a4 a5 a6 k
 unfold spec_AllotCells.f
 repeat' first
   | (with_reducible exact spec_l03Allot.mono _ _ _ _ _ _ _ _)
   | (with_reducible exact spec_l03OK.mono _ _ _ _ _ _ _)
   | (with_reducible exact LeO.refl _)
   | (with_reducible exact LeO.none _)
   | (with_reducible refine LeO.ite ?_ ?_)
   | (with_reducible refine LeO.bind ?_ (fun _ => ?_))
   | exact spec_l03Allot.mono _ _ _ _ _ _ _ _
   | exact spec_l03OK.mono _ _ _ _ _ _ _
   | exact LeO.none _
   | refine LeO.ite ?_ ?_
   | refine LeO.bind ?_ (fun _ => ?_)
set_option maxHeartbeats 8000000 in
set_option maxRecDepth 100000 in
theorem spec_AllotCells.calls (k : Nat) (A0_0 : Option Addr) (c0_0 : Nat) (l0_0 : List Int) (A0_1 : Option Addr) (c0_1 : Nat) (l0_1 : List Int) (A0_2 : Option Addr) (c0_2 : Nat) (l0_2 : List Int) (a0_3 : Int) (a0_4 : Int) (a0_5 : ByteArray) (a1 : Int) (r1 : List Int) (r2 : List Int) (r3 : List Int) (r4 : Int) (r5 : Int) (r6 : ByteArray) (r7 : Int) (r8 : Int) (w : World) (hr0_0 : Kd.C (Kd.int .i64) w A0_0 l0_0.length l0_0) (hc0_0 : l0_0.length ≤ c0_0) (hr0_1 : Kd.C (Kd.int .i64) w A0_1 l0_1.length l0_1) (hc0_1 : l0_1.length ≤ c0_1) (hr0_2 : Kd.C (Kd.int .i64) w A0_2 l0_2.length l0_2) (hc0_2 : l0_2.length ≤ c0_2) (h : spec_AllotCells.f k l0_0 l0_1 l0_2 a0_3 a0_4 a0_5 a1 = some (r1, r2, r3, r4, r5, r6, r7, r8)) :
  Calls Try.prog 33 #[.agg #[.slice A0_0 l0_0.length c0_0, .slice A0_1 l0_1.length c0_1, .slice A0_2 l0_2.length c0_2, .int .i64 a0_3, .int .i64 a0_4, .string a0_5], .int .i64 a1] w fun e w' => ∃ v0_ v1_ v2_ : Value, e = .returned (.tuple #[.agg #[v0_, v1_, v2_, .int .i64 r4, .int .i64 r5, .string r6], .int .i64 r7, .int .i64 r8]) ∧ Kd.R (Kd.int .i64) 3 w' w.heap.size (fun k_ => some k_ ≠ (v1_ : Value).ownBlock ∧ some k_ ≠ (v2_ : Value).ownBlock) v0_ r1 ∧ Kd.R (Kd.int .i64) 3 w' w.heap.size (fun k_ => some k_ ≠ (v0_ : Value).ownBlock ∧ some k_ ≠ (v2_ : Value).ownBlock) v1_ r2 ∧ Kd.R (Kd.int .i64) 3 w' w.heap.size (fun k_ => some k_ ≠ (v0_ : Value).ownBlock ∧ some k_ ≠ (v1_ : Value).ownBlock) v2_ r3 ∧ Below w.heap.size w w' := by
 have hu24 := Try.underlying24
 have HR0_0 := Aside0.mk hr0_0
 have HC0_0 := Aside0.mk hc0_0
 clear hr0_0 hc0_0
 have HR0_1 := Aside0.mk hr0_1
 have HC0_1 := Aside0.mk hc0_1
 clear hr0_1 hc0_1
 have HR0_2 := Aside0.mk hr0_2
 have HC0_2 := Aside0.mk hc0_2
 clear hr0_2 hc0_2
 have HB := Aside0.mk (Below.refl w.heap.size w)
 have H : ((spec_l03OK.f k l0_0 l0_1 l0_2 a0_3 a0_4 a0_5).bind fun t237 => (if t237 = true then ((spec_l01Cell.f a1).bind fun t238 => (if t238 = true then ((spec_l03Allot.f k l0_0 l0_1 l0_2 a0_3 a0_4 a0_5 a1).bind fun bt239 => ((spec_l03Own.f bt239.1 bt239.2.1 bt239.2.2.1 bt239.2.2.2.1 bt239.2.2.2.2.1 bt239.2.2.2.2.2.1).bind fun bt253 => (some (bt253.1, bt253.2.1, bt253.2.2.1, bt253.2.2.2.1, bt253.2.2.2.2.1, bt253.2.2.2.2.2, bt239.2.2.2.2.2.2, 0)))) else (some (([] : List Int), ([] : List Int), ([] : List Int), 0, 0, (⟨#[]⟩ : ByteArray), 0, 4)))) else (some (([] : List Int), ([] : List Int), ([] : List Int), 0, 0, (⟨#[]⟩ : ByteArray), 0, 1)))) = some (r1, r2, r3, r4, r5, r6, r7, r8) := h
 clear h
 replace H := Option.bind_eq_some_iff.mp H
 obtain ⟨t237, A30, H⟩ := H
 replace H : (if t237 = true then ((spec_l01Cell.f a1).bind fun t238 => (if t238 = true then ((spec_l03Allot.f k l0_0 l0_1 l0_2 a0_3 a0_4 a0_5 a1).bind fun bt239 => ((spec_l03Own.f bt239.1 bt239.2.1 bt239.2.2.1 bt239.2.2.2.1 bt239.2.2.2.2.1 bt239.2.2.2.2.2.1).bind fun bt253 => (some (bt253.1, bt253.2.1, bt253.2.2.1, bt253.2.2.2.1, bt253.2.2.2.2.1, bt253.2.2.2.2.2, bt239.2.2.2.2.2.2, 0)))) else (some (([] : List Int), ([] : List Int), ([] : List Int), 0, 0, (⟨#[]⟩ : ByteArray), 0, 4)))) else (some (([] : List Int), ([] : List Int), ([] : List Int), 0, 0, (⟨#[]⟩ : ByteArray), 0, 1))) = some (r1, r2, r3, r4, r5, r6, r7, r8) := H
 have A3 := Aside0.mk A30
 clear A30
 by_cases c4 : t237 = true
 ·subst c4
  have H1 : ((spec_l01Cell.f a1).bind fun t238 => (if t238 = true then ((spec_l03Allot.f k l0_0 l0_1 l0_2 a0_3 a0_4 a0_5 a1).bind fun bt239 => ((spec_l03Own.f bt239.1 bt239.2.1 bt239.2.2.1 bt239.2.2.2.1 bt239.2.2.2.2.1 bt239.2.2.2.2.2.1).bind fun bt253 => (some (bt253.1, bt253.2.1, bt253.2.2.1, bt253.2.2.2.1, bt253.2.2.2.2.1, bt253.2.2.2.2.2, bt239.2.2.2.2.2.2, 0)))) else (some (([] : List Int), ([] : List Int), ([] : List Int), 0, 0, (⟨#[]⟩ : ByteArray), 0, 4)))) = some (r1, r2, r3, r4, r5, r6, r7, r8) := by rw [if_pos rfl] at H; first | done | exact H
  clear H
  have H := H1
  clear H1
  replace H := Option.bind_eq_some_iff.mp H
  obtain ⟨t238, A50, H⟩ := H
  replace H : (if t238 = true then ((spec_l03Allot.f k l0_0 l0_1 l0_2 a0_3 a0_4 a0_5 a1).bind fun bt239 => ((spec_l03Own.f bt239.1 bt239.2.1 bt239.2.2.1 bt239.2.2.2.1 bt239.2.2.2.2.1 bt239.2.2.2.2.2.1).bind fun bt253 => (some (bt253.1, bt253.2.1, bt253.2.2.1, bt253.2.2.2.1, bt253.2.2.2.2.1, bt253.2.2.2.2.2, bt239.2.2.2.2.2.2, 0)))) else (some (([] : List Int), ([] : List Int), ([] : List Int), 0, 0, (⟨#[]⟩ : ByteArray), 0, 4))) = some (r1, r2, r3, r4, r5, r6, r7, r8) := H
  have A5 := Aside0.mk A50
  clear A50
  by_cases c6 : t238 = true
  ·subst c6
   have H1 : ((spec_l03Allot.f k l0_0 l0_1 l0_2 a0_3 a0_4 a0_5 a1).bind fun bt239 => ((spec_l03Own.f bt239.1 bt239.2.1 bt239.2.2.1 bt239.2.2.2.1 bt239.2.2.2.2.1 bt239.2.2.2.2.2.1).bind fun bt253 => (some (bt253.1, bt253.2.1, bt253.2.2.1, bt253.2.2.2.1, bt253.2.2.2.2.1, bt253.2.2.2.2.2, bt239.2.2.2.2.2.2, 0)))) = some (r1, r2, r3, r4, r5, r6, r7, r8) := by rw [if_pos rfl] at H; first | done | exact H
   clear H
   have H := H1
   clear H1
   replace H := Option.bind_eq_some_iff.mp H
   obtain ⟨⟨t239, t242, t245, t248, t249, t250, t251⟩, A70, H⟩ := H
   replace H : ((spec_l03Own.f t239 t242 t245 t248 t249 t250).bind fun bt253 => (some (bt253.1, bt253.2.1, bt253.2.2.1, bt253.2.2.2.1, bt253.2.2.2.2.1, bt253.2.2.2.2.2, t251, 0))) = some (r1, r2, r3, r4, r5, r6, r7, r8) := H
   have A7 := Aside0.mk A70
   clear A70
   replace H := Option.bind_eq_some_iff.mp H
   obtain ⟨⟨t253, t256, t259, t262, t263, t264⟩, A80, H⟩ := H
   replace H : (some (t253, t256, t259, t262, t263, t264, t251, 0)) = some (r1, r2, r3, r4, r5, r6, r7, r8) := H
   have A8 := Aside0.mk A80
   clear A80
   simp only [Option.some.injEq, Prod.mk.injEq] at H
   obtain ⟨rfl, rfl, rfl, rfl, rfl, rfl, rfl, rfl⟩ := H
   go_enter Try.func33, Try.ntmps33
   go_wp2_with (first | ((with_reducible refine gate_dst (N := 2) rfl ?_); refine box_event ?hg (N := 2) ?hd (cs := #[.slice A0_0 l0_0.length c0_0, .slice A0_1 l0_1.length c0_1, .slice A0_2 l0_2.length c0_2, .int .i64 a0_3, .int .i64 a0_4, .string a0_5]) (t := 24) ?hr ?_; (case hd => rfl); (case hg => rfl); (case hr => first | (go_simp; done) | (go_simp; rfl)); intro gb235 hg w9 hbox hb; have n0_ := Aside0.mk (below_step eq5_ hb); have n1_ := Aside0.mk (hbox); have n2_ := Aside0.mk ((by rw [hg]; exact (below_size eq5_) : w.heap.size ≤ gb235)); have n3_ := Aside0.mk ((by rw [hg]; exact (below_size eq5_) : w.heap.size ≤ gb235)); clear HB; have HB := n0_; have BK235 := n1_; have GW235 := n2_; have GE235 := n3_; clear n0_ n1_ n2_ n3_; clear hb hbox hg) | ((with_reducible refine gate_dst (N := 4) rfl ?_); refine box_event ?hg (N := 4) ?hd (cs := #[.slice none 0 0, .slice none 0 0, .slice none 0 0, .int .i64 0, .int .i64 0, .string (⟨#[]⟩ : ByteArray)]) (t := 24) ?hr ?_; (case hd => rfl); (case hg => rfl); (case hr => first | (go_simp; done) | (go_simp; rfl)); intro gb236 hg w10 hbox hb; have n0_ := Aside0.mk (ebb_ BK235 hb); have n1_ := Aside0.mk (below_step eq3_ hb); have n2_ := Aside0.mk (hbox); have n3_ := Aside0.mk ((by rw [hg]; exact (below_size eq3_) : w.heap.size ≤ gb236)); have n4_ := Aside0.mk ((by rw [hg]; exact (below_size eq3_) : w.heap.size ≤ gb236)); have n5_ := Aside0.mk ((by rw [hg]; exact Nat.ne_of_lt (blk_lt (g := gb235) (o := .cells #[.slice A0_0 l0_0.length c0_0, .slice A0_1 l0_1.length c0_1, .slice A0_2 l0_2.length c0_2, .int .i64 a0_3, .int .i64 a0_4, .string a0_5] 24 (0, 0)) (ebu_ BK235)) : gb235 ≠ gb236)); have n6_ := Aside0.mk ((by rw [hg]; exact Nat.ne_of_gt (blk_lt (g := gb235) (o := .cells #[.slice A0_0 l0_0.length c0_0, .slice A0_1 l0_1.length c0_1, .slice A0_2 l0_2.length c0_2, .int .i64 a0_3, .int .i64 a0_4, .string a0_5] 24 (0, 0)) (ebu_ BK235)) : gb236 ≠ gb235)); clear BK235; clear HB; have BK235 := n0_; have HB := n1_; have BK236 := n2_; have GW236 := n3_; have GE236 := n4_; have NB235_236 := n5_; have NB236_235 := n6_; clear n0_ n1_ n2_ n3_ n4_ n5_ n6_; clear hb hbox hg; have hnb11 := NB235_236.out; have hnc11 := NB236_235.out; obtain ⟨hcz12_0, hcz12_1, hcz12_2, hcz12_3, hcz12_4, hcz12_5⟩ := ee6_ BK235; obtain ⟨hfz12_0, hfz12_1, hfz12_2, hfz12_3, hfz12_4, hfz12_5⟩ := ef6_ BK235) | ((with_reducible refine gate_callee (f := 46) rfl ?_); refine goesL_ (some 10) rfl rfl Try.func46 (by kernel_rfl) rfl #[.agg #[.slice A0_0 l0_0.length c0_0, .slice A0_1 l0_1.length c0_1, .slice A0_2 l0_2.length c0_2, .int .i64 a0_3, .int .i64 a0_4, .string a0_5]] rfl (by (try simp only [List.map_toArray, List.map_cons, List.map_nil]); first | done | rfl | (simp only [List.length_drop, List.length_take]; rfl)) ?_; (with_reducible refine (spec_l03OK.calls k _ _ l0_0 _ _ l0_1 _ _ l0_2 a0_3 a0_4 a0_5 true _ ?side1 ?side2 ?side3 ?side4 ?side5 ?side6 A3.out).mono ?_); (case side1 => repeat (first | exact (Kd.C_below HR0_0.out HB.out) | (with_reducible refine Kd.C_alloc ?_ _) | (with_reducible refine Kd.C_drewN ?_ _) | (with_reducible refine Kd.C_drew ?_))); (case side2 => exact HC0_0.out); (case side3 => repeat (first | exact (Kd.C_below HR0_1.out HB.out) | (with_reducible refine Kd.C_alloc ?_ _) | (with_reducible refine Kd.C_drewN ?_ _) | (with_reducible refine Kd.C_drew ?_))); (case side4 => exact HC0_1.out); (case side5 => repeat (first | exact (Kd.C_below HR0_2.out HB.out) | (with_reducible refine Kd.C_alloc ?_ _) | (with_reducible refine Kd.C_drewN ?_ _) | (with_reducible refine Kd.C_drew ?_))); (case side6 => exact HC0_2.out); rintro e w13 ⟨rfl, hb⟩; refine ⟨_, rfl, ?_⟩; replace BK235 := Aside0.mk (ebb_ BK235 hb); replace BK236 := Aside0.mk (ebb_ BK236 hb); replace HB := Aside0.mk (below_step (by repeat (first | (with_reducible first | exact HB.out | apply below_alloc | apply pw_below_drewN | apply below_drew1 | refine below_set ?_ GE235.out | refine below_set ?_ GE236.out) | exact HB.out)) hb); (try clear hb); (try clear hb2); (try clear hk); (try clear hi)) | ((with_reducible refine gate_callee (f := 63) rfl ?_); refine goesL_ (some 14) rfl rfl Try.func63 (by kernel_rfl) rfl #[.int .i64 a1] rfl (by (try simp only [List.map_toArray, List.map_cons, List.map_nil]); first | done | rfl | (simp only [List.length_drop, List.length_take]; rfl)) ?_; (with_reducible refine (spec_l01Cell.calls a1 true _ A5.out).mono ?_); rintro e w' ⟨rfl, ⟨nd, rfl⟩⟩; refine ⟨_, rfl, ?_⟩; (first | (rw [drewN_self w13]; generalize hq_ : World.drewN w13 _ = w13; have n0_ := Aside0.mk (blk_at hq_ BK235.out); have n1_ := Aside0.mk (blk_at hq_ BK236.out); have n2_ := Aside0.mk (below_at hq_ HB.out); clear hq_ BK235 BK236 HB; have BK235 := n0_; have BK236 := n1_; have HB := n2_; clear n0_ n1_ n2_) | (try (rw [drewN_self w13]; generalize hq_ : World.drewN w13 _ = w13; have n0_ : Aside0 (w13.heap[gb235]? = some (.cells #[.slice A0_0 l0_0.length c0_0, .slice A0_1 l0_1.length c0_1, .slice A0_2 l0_2.length c0_2, .int .i64 a0_3, .int .i64 a0_4, .string a0_5] 24 (0, 0))) := ⟨by rw [← hq_]; exact (ebu_ BK235)⟩; have n1_ : Aside0 (w13.heap[gb236]? = some (.cells #[.slice none 0 0, .slice none 0 0, .slice none 0 0, .int .i64 0, .int .i64 0, .string (⟨#[]⟩ : ByteArray)] 24 (0, 0))) := ⟨by rw [← hq_]; exact (ebu_ BK236)⟩; have n2_ : Aside0 (Below w.heap.size w w13) := ⟨(by rw [← hq_]; exact (by repeat (first | (with_reducible first | exact HB.out | apply below_alloc | apply pw_below_drewN | apply below_drew1 | refine below_set ?_ GE235.out | refine below_set ?_ GE236.out) | exact HB.out)))⟩; clear BK235 BK236 HB hq_; have BK235 := n0_; have BK236 := n1_; have HB := n2_; clear n0_ n1_ n2_))); obtain ⟨hcz14_0, hcz14_1, hcz14_2, hcz14_3, hcz14_4, hcz14_5⟩ := ee6_ BK235; obtain ⟨hfz14_0, hfz14_1, hfz14_2, hfz14_3, hfz14_4, hfz14_5⟩ := ef6_ BK235) | ((with_reducible refine gate_callee (f := 68) rfl ?_); refine goesL_ (some 20) rfl rfl Try.func68 (by kernel_rfl) rfl #[.agg #[.slice A0_0 l0_0.length c0_0, .slice A0_1 l0_1.length c0_1, .slice A0_2 l0_2.length c0_2, .int .i64 a0_3, .int .i64 a0_4, .string a0_5], .int .i64 a1] rfl (by (try simp only [List.map_toArray, List.map_cons, List.map_nil]); first | done | rfl | (simp only [List.length_drop, List.length_take]; rfl)) ?_; (with_reducible refine (spec_l03Allot.calls k (fun k_ => k_ < w.heap.size) _ _ l0_0 (fun k_ => k_ < w.heap.size) _ _ l0_1 (fun k_ => k_ < w.heap.size) _ _ l0_2 a0_3 a0_4 a0_5 a1 t239 t242 t245 t248 t249 t250 t251 _ ?side1 ?side2 ?side3 A7.out).mono ?_); (case side1 => exact Kd.V_mk HC0_0.out (Kd.F_below (Kd.C_F (Kd.heap_int .i64) HR0_0.out) eq4_)); (case side2 => exact Kd.V_mk HC0_1.out (Kd.F_below (Kd.C_F (Kd.heap_int .i64) HR0_1.out) eq4_)); (case side3 => exact Kd.V_mk HC0_2.out (Kd.F_below (Kd.C_F (Kd.heap_int .i64) HR0_2.out) eq4_)); rintro e w15 ⟨v240, v243, v246, rfl, ho0, ho1, ho2, hb⟩; refine ⟨_, rfl, ?_⟩; have HO241 := Aside0.mk (Kd.V_lower (Kd.V_mono (ok' := fun k_ => k_ ≠ gb236) ho0 (fun k_ hk_ => Or.elim hk_ (fun hs_ => Or.elim hs_ (fun hs_ => fun e_ => Nat.not_le.2 hs_ eq6_) (fun hs_ => Or.elim hs_ (fun hs_ => fun e_ => Nat.not_le.2 hs_ eq6_) (fun hs_ => fun e_ => Nat.not_le.2 hs_ eq6_))) (fun hn_ => (Kd.freshB (g := gb236) (o := .cells #[.slice none 0 0, .slice none 0 0, .slice none 0 0, .int .i64 0, .int .i64 0, .string (⟨#[]⟩ : ByteArray)] 24 (0, 0)) (ebu_ BK236) k_ hn_)))) (below_size eq4_)); have HO244 := Aside0.mk (Kd.V_lower (Kd.V_mono (ok' := fun k_ => k_ ≠ gb236) ho1 (fun k_ hk_ => Or.elim hk_ (fun hs_ => Or.elim hs_ (fun hs_ => fun e_ => Nat.not_le.2 hs_ eq6_) (fun hs_ => Or.elim hs_ (fun hs_ => fun e_ => Nat.not_le.2 hs_ eq6_) (fun hs_ => fun e_ => Nat.not_le.2 hs_ eq6_))) (fun hn_ => (Kd.freshB (g := gb236) (o := .cells #[.slice none 0 0, .slice none 0 0, .slice none 0 0, .int .i64 0, .int .i64 0, .string (⟨#[]⟩ : ByteArray)] 24 (0, 0)) (ebu_ BK236) k_ hn_)))) (below_size eq4_)); have HO247 := Aside0.mk (Kd.V_lower (Kd.V_mono (ok' := fun k_ => k_ ≠ gb236) ho2 (fun k_ hk_ => Or.elim hk_ (fun hs_ => Or.elim hs_ (fun hs_ => fun e_ => Nat.not_le.2 hs_ eq6_) (fun hs_ => Or.elim hs_ (fun hs_ => fun e_ => Nat.not_le.2 hs_ eq6_) (fun hs_ => fun e_ => Nat.not_le.2 hs_ eq6_))) (fun hn_ => (Kd.freshB (g := gb236) (o := .cells #[.slice none 0 0, .slice none 0 0, .slice none 0 0, .int .i64 0, .int .i64 0, .string (⟨#[]⟩ : ByteArray)] 24 (0, 0)) (ebu_ BK236) k_ hn_)))) (below_size eq4_)); replace BK236 := Aside0.mk (ebb_ BK236 hb); replace HB := Aside0.mk (below_step eq4_ hb); (try clear hb); (try clear hb2); (try clear hk); (try clear hi); (try clear ho0); (try clear ho1); (try clear ho2)) | ((with_reducible refine gate_dst (N := 7) rfl ?_); refine box_event ?hg (N := 7) ?hd (cs := #[.slice none 0 0, .slice none 0 0, .slice none 0 0, .int .i64 0, .int .i64 0, .string (⟨#[]⟩ : ByteArray)]) (t := 24) ?hr ?_; (case hd => rfl); (case hg => rfl); (case hr => first | (go_simp; done) | (go_simp; rfl)); intro gb252 hg w16 hbox hb; have n0_ := Aside0.mk (Kd.V_below (Kd.V_elderB (by (with_reducible repeat (first | apply Kd.V_alloc | apply Kd.V_drewN | apply Kd.V_drew)); exact HO241.out) gb252 (Nat.le_of_eq hg.symm)) hb); have n1_ := Aside0.mk (Kd.V_below (Kd.V_elderB (by (with_reducible repeat (first | apply Kd.V_alloc | apply Kd.V_drewN | apply Kd.V_drew)); exact HO244.out) gb252 (Nat.le_of_eq hg.symm)) hb); have n2_ := Aside0.mk (Kd.V_below (Kd.V_elderB (by (with_reducible repeat (first | apply Kd.V_alloc | apply Kd.V_drewN | apply Kd.V_drew)); exact HO247.out) gb252 (Nat.le_of_eq hg.symm)) hb); have n3_ := Aside0.mk (ebb_ BK236 hb); have n4_ := Aside0.mk (below_step eq4_ hb); have n5_ := Aside0.mk (hbox); have n6_ := Aside0.mk ((by rw [hg]; exact (below_size eq4_) : w.heap.size ≤ gb252)); have n7_ := Aside0.mk ((by rw [hg]; exact (below_size eq4_) : w.heap.size ≤ gb252)); have n8_ := Aside0.mk ((by rw [hg]; exact Nat.ne_of_lt (blk_lt (g := gb236) (o := .cells #[.slice none 0 0, .slice none 0 0, .slice none 0 0, .int .i64 0, .int .i64 0, .string (⟨#[]⟩ : ByteArray)] 24 (0, 0)) (ebu_ BK236)) : gb236 ≠ gb252)); have n9_ := Aside0.mk ((by rw [hg]; exact Nat.ne_of_gt (blk_lt (g := gb236) (o := .cells #[.slice none 0 0, .slice none 0 0, .slice none 0 0, .int .i64 0, .int .i64 0, .string (⟨#[]⟩ : ByteArray)] 24 (0, 0)) (ebu_ BK236)) : gb252 ≠ gb236)); clear HO241; clear HO244; clear HO247; clear BK236; clear HB; have HO241 := n0_; have HO244 := n1_; have HO247 := n2_; have BK236 := n3_; have HB := n4_; have BK252 := n5_; have GW252 := n6_; have GE252 := n7_; have NB236_252 := n8_; have NB252_236 := n9_; clear n0_ n1_ n2_ n3_ n4_ n5_ n6_ n7_ n8_ n9_; clear hb hbox hg; obtain ⟨Ao17, co17, eo17⟩ := Kd.V_slice HO241.out; subst eo17; have hnb18 := NB252_236.out; have hnc18 := NB236_252.out; obtain ⟨hcz19_0, hcz19_1, hcz19_2, hcz19_3, hcz19_4, hcz19_5⟩ := ee6_ BK252; obtain ⟨hfz19_0, hfz19_1, hfz19_2, hfz19_3, hfz19_4, hfz19_5⟩ := ef6_ BK252; obtain ⟨Ao20, co20, eo20⟩ := Kd.V_slice HO244.out; subst eo20; obtain ⟨Ao21, co21, eo21⟩ := Kd.V_slice HO247.out; subst eo21) | ((with_reducible refine gate_callee (f := 56) rfl ?_); refine goesL_ (some 24) rfl rfl Try.func56 (by kernel_rfl) rfl #[.agg #[.slice Ao17 t239.length co17, .slice Ao20 t242.length co20, .slice Ao21 t245.length co21, .int .i64 t248, .int .i64 t249, .string t250]] rfl (by (try simp only [List.map_toArray, List.map_cons, List.map_nil]); first | done | rfl | (simp only [List.length_drop, List.length_take]; rfl)) ?_; (with_reducible refine (spec_l03Own.calls _ _ t239 _ _ t242 _ _ t245 t248 t249 t250 t253 t256 t259 t262 t263 t264 _ ?side1 ?side2 ?side3 ?side4 ?side5 ?side6 A8.out).mono ?_); (case side1 => refine (Kd.V_reads' (e := 3) (base := w.heap.size) (ok := fun k_ => (k_ ≠ gb236 ∧ k_ ≠ gb252)) (n := t239.length) (c := co17) ?_).2.2; exact (by (with_reducible repeat (first | apply Kd.V_alloc | apply Kd.V_drewN | apply Kd.V_drew)); exact (Kd.V_mono (Kd.V_far (p := ⟨gb252, 5, none⟩) (Kd.V_far (p := ⟨gb252, 4, none⟩) (Kd.V_far (p := ⟨gb252, 3, none⟩) (Kd.V_far (p := ⟨gb252, 2, none⟩) (Kd.V_far (p := ⟨gb252, 1, none⟩) (Kd.V_far (p := ⟨gb252, 0, none⟩) (Kd.V_mono HO241.out (fun k_ hk => (⟨hk, hk.2⟩ : _ ∧ k_ ≠ gb252))) (fun _ hk => hk.2) (.slice Ao17 t239.length co17)) (fun _ hk => hk.2) (.slice Ao20 t242.length co20)) (fun _ hk => hk.2) (.slice Ao21 t245.length co21)) (fun _ hk => hk.2) (.int .i64 t248)) (fun _ hk => hk.2) (.int .i64 t249)) (fun _ hk => hk.2) (.string t250)) (fun _ h_ => h_.1)))); (case side2 => exact (Kd.V_reads' HO241.out).2.1); (case side3 => refine (Kd.V_reads' (e := 3) (base := w.heap.size) (ok := fun k_ => (k_ ≠ gb236 ∧ k_ ≠ gb252)) (n := t242.length) (c := co20) ?_).2.2; exact (by (with_reducible repeat (first | apply Kd.V_alloc | apply Kd.V_drewN | apply Kd.V_drew)); exact (Kd.V_mono (Kd.V_far (p := ⟨gb252, 5, none⟩) (Kd.V_far (p := ⟨gb252, 4, none⟩) (Kd.V_far (p := ⟨gb252, 3, none⟩) (Kd.V_far (p := ⟨gb252, 2, none⟩) (Kd.V_far (p := ⟨gb252, 1, none⟩) (Kd.V_far (p := ⟨gb252, 0, none⟩) (Kd.V_mono HO244.out (fun k_ hk => (⟨hk, hk.2⟩ : _ ∧ k_ ≠ gb252))) (fun _ hk => hk.2) (.slice Ao17 t239.length co17)) (fun _ hk => hk.2) (.slice Ao20 t242.length co20)) (fun _ hk => hk.2) (.slice Ao21 t245.length co21)) (fun _ hk => hk.2) (.int .i64 t248)) (fun _ hk => hk.2) (.int .i64 t249)) (fun _ hk => hk.2) (.string t250)) (fun _ h_ => h_.1)))); (case side4 => exact (Kd.V_reads' HO244.out).2.1); (case side5 => refine (Kd.V_reads' (e := 3) (base := w.heap.size) (ok := fun k_ => (k_ ≠ gb236 ∧ k_ ≠ gb252)) (n := t245.length) (c := co21) ?_).2.2; exact (by (with_reducible repeat (first | apply Kd.V_alloc | apply Kd.V_drewN | apply Kd.V_drew)); exact (Kd.V_mono (Kd.V_far (p := ⟨gb252, 5, none⟩) (Kd.V_far (p := ⟨gb252, 4, none⟩) (Kd.V_far (p := ⟨gb252, 3, none⟩) (Kd.V_far (p := ⟨gb252, 2, none⟩) (Kd.V_far (p := ⟨gb252, 1, none⟩) (Kd.V_far (p := ⟨gb252, 0, none⟩) (Kd.V_mono HO247.out (fun k_ hk => (⟨hk, hk.2⟩ : _ ∧ k_ ≠ gb252))) (fun _ hk => hk.2) (.slice Ao17 t239.length co17)) (fun _ hk => hk.2) (.slice Ao20 t242.length co20)) (fun _ hk => hk.2) (.slice Ao21 t245.length co21)) (fun _ hk => hk.2) (.int .i64 t248)) (fun _ hk => hk.2) (.int .i64 t249)) (fun _ hk => hk.2) (.string t250)) (fun _ h_ => h_.1)))); (case side6 => exact (Kd.V_reads' HO247.out).2.1); rintro e w22 ⟨v254, v257, v260, rfl, ho0, ho1, ho2, hb⟩; refine ⟨_, rfl, ?_⟩; replace HO241 := Aside0.mk (Kd.V_mono (Kd.V_told (Kd.V_told (Kd.V_told (Kd.V_old (by (with_reducible repeat (first | apply Kd.V_alloc | apply Kd.V_drewN | apply Kd.V_drew)); exact (Kd.V_mono (Kd.V_far (p := ⟨gb252, 5, none⟩) (Kd.V_far (p := ⟨gb252, 4, none⟩) (Kd.V_far (p := ⟨gb252, 3, none⟩) (Kd.V_far (p := ⟨gb252, 2, none⟩) (Kd.V_far (p := ⟨gb252, 1, none⟩) (Kd.V_far (p := ⟨gb252, 0, none⟩) (Kd.V_mono HO241.out (fun k_ hk => (⟨hk, hk.2⟩ : _ ∧ k_ ≠ gb252))) (fun _ hk => hk.2) (.slice Ao17 t239.length co17)) (fun _ hk => hk.2) (.slice Ao20 t242.length co20)) (fun _ hk => hk.2) (.slice Ao21 t245.length co21)) (fun _ hk => hk.2) (.int .i64 t248)) (fun _ hk => hk.2) (.int .i64 t249)) (fun _ hk => hk.2) (.string t250)) (fun _ h_ => h_.1))) hb) (Kd.R_base ho0)) (Kd.R_base ho1)) (Kd.R_base ho2)) (fun _ h_ => h_.1)); replace HO244 := Aside0.mk (Kd.V_mono (Kd.V_told (Kd.V_told (Kd.V_told (Kd.V_old (by (with_reducible repeat (first | apply Kd.V_alloc | apply Kd.V_drewN | apply Kd.V_drew)); exact (Kd.V_mono (Kd.V_far (p := ⟨gb252, 5, none⟩) (Kd.V_far (p := ⟨gb252, 4, none⟩) (Kd.V_far (p := ⟨gb252, 3, none⟩) (Kd.V_far (p := ⟨gb252, 2, none⟩) (Kd.V_far (p := ⟨gb252, 1, none⟩) (Kd.V_far (p := ⟨gb252, 0, none⟩) (Kd.V_mono HO244.out (fun k_ hk => (⟨hk, hk.2⟩ : _ ∧ k_ ≠ gb252))) (fun _ hk => hk.2) (.slice Ao17 t239.length co17)) (fun _ hk => hk.2) (.slice Ao20 t242.length co20)) (fun _ hk => hk.2) (.slice Ao21 t245.length co21)) (fun _ hk => hk.2) (.int .i64 t248)) (fun _ hk => hk.2) (.int .i64 t249)) (fun _ hk => hk.2) (.string t250)) (fun _ h_ => h_.1))) hb) (Kd.R_base ho0)) (Kd.R_base ho1)) (Kd.R_base ho2)) (fun _ h_ => h_.1)); replace HO247 := Aside0.mk (Kd.V_mono (Kd.V_told (Kd.V_told (Kd.V_told (Kd.V_old (by (with_reducible repeat (first | apply Kd.V_alloc | apply Kd.V_drewN | apply Kd.V_drew)); exact (Kd.V_mono (Kd.V_far (p := ⟨gb252, 5, none⟩) (Kd.V_far (p := ⟨gb252, 4, none⟩) (Kd.V_far (p := ⟨gb252, 3, none⟩) (Kd.V_far (p := ⟨gb252, 2, none⟩) (Kd.V_far (p := ⟨gb252, 1, none⟩) (Kd.V_far (p := ⟨gb252, 0, none⟩) (Kd.V_mono HO247.out (fun k_ hk => (⟨hk, hk.2⟩ : _ ∧ k_ ≠ gb252))) (fun _ hk => hk.2) (.slice Ao17 t239.length co17)) (fun _ hk => hk.2) (.slice Ao20 t242.length co20)) (fun _ hk => hk.2) (.slice Ao21 t245.length co21)) (fun _ hk => hk.2) (.int .i64 t248)) (fun _ hk => hk.2) (.int .i64 t249)) (fun _ hk => hk.2) (.string t250)) (fun _ h_ => h_.1))) hb) (Kd.R_base ho0)) (Kd.R_base ho1)) (Kd.R_base ho2)) (fun _ h_ => h_.1)); have HO255 := Aside0.mk (Kd.R_lower ho0 (below_size eq1_)); have HO258 := Aside0.mk (Kd.R_lower ho1 (below_size eq1_)); have HO261 := Aside0.mk (Kd.R_lower ho2 (below_size eq1_)); replace BK236 := Aside0.mk (blk_below (g := gb236) (o := .cells #[.slice none 0 0, .slice none 0 0, .slice none 0 0, .int .i64 0, .int .i64 0, .string (⟨#[]⟩ : ByteArray)] 24 (0, 0)) (by (with_reducible repeat (first | refine blk_drewN ?_ _ | refine blk_drew ?_ | refine blk_alloc ?_ _)); refine blk_far ?_ NB236_252.out _; (with_reducible repeat (first | refine blk_drewN ?_ _ | refine blk_drew ?_ | refine blk_alloc ?_ _)); refine blk_far ?_ NB236_252.out _; (with_reducible repeat (first | refine blk_drewN ?_ _ | refine blk_drew ?_ | refine blk_alloc ?_ _)); refine blk_far ?_ NB236_252.out _; (with_reducible repeat (first | refine blk_drewN ?_ _ | refine blk_drew ?_ | refine blk_alloc ?_ _)); refine blk_far ?_ NB236_252.out _; (with_reducible repeat (first | refine blk_drewN ?_ _ | refine blk_drew ?_ | refine blk_alloc ?_ _)); refine blk_far ?_ NB236_252.out _; (with_reducible repeat (first | refine blk_drewN ?_ _ | refine blk_drew ?_ | refine blk_alloc ?_ _)); refine blk_far ?_ NB236_252.out _; (with_reducible repeat (first | refine blk_drewN ?_ _ | refine blk_drew ?_ | refine blk_alloc ?_ _)); exact BK236.out) hb); replace BK252 := Aside0.mk (blk_below (g := gb252) (o := .cells #[.slice Ao17 t239.length co17, .slice Ao20 t242.length co20, .slice Ao21 t245.length co21, .int .i64 t248, .int .i64 t249, .string t250] 24 (0, 0)) (by (with_reducible repeat (first | refine blk_drewN ?_ _ | refine blk_drew ?_ | refine blk_alloc ?_ _)); refine blk_put (cs := #[.slice Ao17 t239.length co17, .slice Ao20 t242.length co20, .slice Ao21 t245.length co21, .int .i64 t248, .int .i64 t249, .string (⟨#[]⟩ : ByteArray)]) ?_ 5 _ rfl; (with_reducible repeat (first | refine blk_drewN ?_ _ | refine blk_drew ?_ | refine blk_alloc ?_ _)); refine blk_put (cs := #[.slice Ao17 t239.length co17, .slice Ao20 t242.length co20, .slice Ao21 t245.length co21, .int .i64 t248, .int .i64 0, .string (⟨#[]⟩ : ByteArray)]) ?_ 4 _ rfl; (with_reducible repeat (first | refine blk_drewN ?_ _ | refine blk_drew ?_ | refine blk_alloc ?_ _)); refine blk_put (cs := #[.slice Ao17 t239.length co17, .slice Ao20 t242.length co20, .slice Ao21 t245.length co21, .int .i64 0, .int .i64 0, .string (⟨#[]⟩ : ByteArray)]) ?_ 3 _ rfl; (with_reducible repeat (first | refine blk_drewN ?_ _ | refine blk_drew ?_ | refine blk_alloc ?_ _)); refine blk_put (cs := #[.slice Ao17 t239.length co17, .slice Ao20 t242.length co20, .slice none 0 0, .int .i64 0, .int .i64 0, .string (⟨#[]⟩ : ByteArray)]) ?_ 2 _ rfl; (with_reducible repeat (first | refine blk_drewN ?_ _ | refine blk_drew ?_ | refine blk_alloc ?_ _)); refine blk_put (cs := #[.slice Ao17 t239.length co17, .slice none 0 0, .slice none 0 0, .int .i64 0, .int .i64 0, .string (⟨#[]⟩ : ByteArray)]) ?_ 1 _ rfl; (with_reducible repeat (first | refine blk_drewN ?_ _ | refine blk_drew ?_ | refine blk_alloc ?_ _)); refine blk_put (cs := #[.slice none 0 0, .slice none 0 0, .slice none 0 0, .int .i64 0, .int .i64 0, .string (⟨#[]⟩ : ByteArray)]) ?_ 0 _ rfl; (with_reducible repeat (first | refine blk_drewN ?_ _ | refine blk_drew ?_ | refine blk_alloc ?_ _)); exact BK252.out) hb); replace HB := Aside0.mk (below_step eq1_ hb); (try clear hb); (try clear hb2); (try clear hk); (try clear hi); (try clear ho0); (try clear ho1); (try clear ho2); obtain ⟨Ao23, co23, eo23⟩ := Kd.R_slice HO255.out; subst eo23; obtain ⟨hcz24_0, hcz24_1, hcz24_2, hcz24_3, hcz24_4, hcz24_5⟩ := ee6_ BK236; obtain ⟨hfz24_0, hfz24_1, hfz24_2, hfz24_3, hfz24_4, hfz24_5⟩ := ef6_ BK236; obtain ⟨Ao25, co25, eo25⟩ := Kd.R_slice HO258.out; subst eo25; obtain ⟨Ao26, co26, eo26⟩ := Kd.R_slice HO261.out; subst eo26))
   refine bodyPost_ret (results_ctt rfl _ _ gb236 24 #[.slice Ao23 t253.length co23, .slice Ao25 t256.length co25, .slice Ao26 t259.length co26, .int .i64 t262, .int .i64 t263, .string t264] (0, 0) _ rfl (by (with_reducible repeat (first | refine blk_drewN ?_ _ | refine blk_drew ?_ | refine blk_alloc ?_ _)); refine blk_put (cs := #[.slice Ao23 t253.length co23, .slice Ao25 t256.length co25, .slice Ao26 t259.length co26, .int .i64 t262, .int .i64 t263, .string (⟨#[]⟩ : ByteArray)]) ?_ 5 _ rfl; (with_reducible repeat (first | refine blk_drewN ?_ _ | refine blk_drew ?_ | refine blk_alloc ?_ _)); refine blk_put (cs := #[.slice Ao23 t253.length co23, .slice Ao25 t256.length co25, .slice Ao26 t259.length co26, .int .i64 t262, .int .i64 0, .string (⟨#[]⟩ : ByteArray)]) ?_ 4 _ rfl; (with_reducible repeat (first | refine blk_drewN ?_ _ | refine blk_drew ?_ | refine blk_alloc ?_ _)); refine blk_put (cs := #[.slice Ao23 t253.length co23, .slice Ao25 t256.length co25, .slice Ao26 t259.length co26, .int .i64 0, .int .i64 0, .string (⟨#[]⟩ : ByteArray)]) ?_ 3 _ rfl; (with_reducible repeat (first | refine blk_drewN ?_ _ | refine blk_drew ?_ | refine blk_alloc ?_ _)); refine blk_put (cs := #[.slice Ao23 t253.length co23, .slice Ao25 t256.length co25, .slice none 0 0, .int .i64 0, .int .i64 0, .string (⟨#[]⟩ : ByteArray)]) ?_ 2 _ rfl; (with_reducible repeat (first | refine blk_drewN ?_ _ | refine blk_drew ?_ | refine blk_alloc ?_ _)); refine blk_put (cs := #[.slice Ao23 t253.length co23, .slice none 0 0, .slice none 0 0, .int .i64 0, .int .i64 0, .string (⟨#[]⟩ : ByteArray)]) ?_ 1 _ rfl; (with_reducible repeat (first | refine blk_drewN ?_ _ | refine blk_drew ?_ | refine blk_alloc ?_ _)); refine blk_put (cs := #[.slice none 0 0, .slice none 0 0, .slice none 0 0, .int .i64 0, .int .i64 0, .string (⟨#[]⟩ : ByteArray)]) ?_ 0 _ rfl; (with_reducible repeat (first | refine blk_drewN ?_ _ | refine blk_drew ?_ | refine blk_alloc ?_ _)); exact BK236.out) Try.underlying24 rfl (by kernel_rfl)) rfl ?_
   exact ⟨_, _, _, by first | rfl | (simp [errW_none, errW_some] <;> rfl) | (simp [*, errW_none, errW_some] <;> rfl), by (with_reducible repeat (first | apply Kd.R_alloc | apply Kd.R_drewN | apply Kd.R_drew)); exact Kd.R_mono (ers6c_ HO255 BK236) (fun _ hk => ⟨hk.1.1, hk.1.2⟩), by (with_reducible repeat (first | apply Kd.R_alloc | apply Kd.R_drewN | apply Kd.R_drew)); exact Kd.R_mono (ers6c_ HO258 BK236) (fun _ hk => ⟨hk.1.1, hk.1.2⟩), by (with_reducible repeat (first | apply Kd.R_alloc | apply Kd.R_drewN | apply Kd.R_drew)); exact Kd.R_mono (ers6c_ HO261 BK236) (fun _ hk => ⟨hk.1.1, hk.1.2⟩), by repeat (first | (with_reducible first | exact HB.out | apply below_alloc | apply pw_below_drewN | apply below_drew1 | refine below_set ?_ GE236.out | refine below_set ?_ GE252.out) | exact HB.out)⟩
  ·replace c6 := Bool.eq_false_iff.mpr c6
   subst c6
   have H1 : (some (([] : List Int), ([] : List Int), ([] : List Int), 0, 0, (⟨#[]⟩ : ByteArray), 0, 4)) = some (r1, r2, r3, r4, r5, r6, r7, r8) := by rw [if_neg (show ¬ (false = true) by decide)] at H; first | done | exact H
   clear H
   have H := H1
   clear H1
   simp only [Option.some.injEq, Prod.mk.injEq] at H
   obtain ⟨rfl, rfl, rfl, rfl, rfl, rfl, rfl, rfl⟩ := H
   go_enter Try.func33, Try.ntmps33
   go_wp2_with (first | ((with_reducible refine gate_dst (N := 2) rfl ?_); refine box_event ?hg (N := 2) ?hd (cs := #[.slice A0_0 l0_0.length c0_0, .slice A0_1 l0_1.length c0_1, .slice A0_2 l0_2.length c0_2, .int .i64 a0_3, .int .i64 a0_4, .string a0_5]) (t := 24) ?hr ?_; (case hd => rfl); (case hg => rfl); (case hr => first | (go_simp; done) | (go_simp; rfl)); intro gb235 hg w27 hbox hb; have n0_ := Aside0.mk (below_step eq5_ hb); have n1_ := Aside0.mk (hbox); have n2_ := Aside0.mk ((by rw [hg]; exact (below_size eq5_) : w.heap.size ≤ gb235)); have n3_ := Aside0.mk ((by rw [hg]; exact (below_size eq5_) : w.heap.size ≤ gb235)); clear HB; have HB := n0_; have BK235 := n1_; have GW235 := n2_; have GE235 := n3_; clear n0_ n1_ n2_ n3_; clear hb hbox hg) | ((with_reducible refine gate_dst (N := 4) rfl ?_); refine box_event ?hg (N := 4) ?hd (cs := #[.slice none 0 0, .slice none 0 0, .slice none 0 0, .int .i64 0, .int .i64 0, .string (⟨#[]⟩ : ByteArray)]) (t := 24) ?hr ?_; (case hd => rfl); (case hg => rfl); (case hr => first | (go_simp; done) | (go_simp; rfl)); intro gb236 hg w28 hbox hb; have n0_ := Aside0.mk (ebb_ BK235 hb); have n1_ := Aside0.mk (below_step eq3_ hb); have n2_ := Aside0.mk (hbox); have n3_ := Aside0.mk ((by rw [hg]; exact (below_size eq3_) : w.heap.size ≤ gb236)); have n4_ := Aside0.mk ((by rw [hg]; exact (below_size eq3_) : w.heap.size ≤ gb236)); have n5_ := Aside0.mk ((by rw [hg]; exact Nat.ne_of_lt (blk_lt (g := gb235) (o := .cells #[.slice A0_0 l0_0.length c0_0, .slice A0_1 l0_1.length c0_1, .slice A0_2 l0_2.length c0_2, .int .i64 a0_3, .int .i64 a0_4, .string a0_5] 24 (0, 0)) (ebu_ BK235)) : gb235 ≠ gb236)); have n6_ := Aside0.mk ((by rw [hg]; exact Nat.ne_of_gt (blk_lt (g := gb235) (o := .cells #[.slice A0_0 l0_0.length c0_0, .slice A0_1 l0_1.length c0_1, .slice A0_2 l0_2.length c0_2, .int .i64 a0_3, .int .i64 a0_4, .string a0_5] 24 (0, 0)) (ebu_ BK235)) : gb236 ≠ gb235)); clear BK235; clear HB; have BK235 := n0_; have HB := n1_; have BK236 := n2_; have GW236 := n3_; have GE236 := n4_; have NB235_236 := n5_; have NB236_235 := n6_; clear n0_ n1_ n2_ n3_ n4_ n5_ n6_; clear hb hbox hg; have hnb29 := NB235_236.out; have hnc29 := NB236_235.out; obtain ⟨hcz30_0, hcz30_1, hcz30_2, hcz30_3, hcz30_4, hcz30_5⟩ := ee6_ BK235; obtain ⟨hfz30_0, hfz30_1, hfz30_2, hfz30_3, hfz30_4, hfz30_5⟩ := ef6_ BK235) | ((with_reducible refine gate_callee (f := 46) rfl ?_); refine goesL_ (some 10) rfl rfl Try.func46 (by kernel_rfl) rfl #[.agg #[.slice A0_0 l0_0.length c0_0, .slice A0_1 l0_1.length c0_1, .slice A0_2 l0_2.length c0_2, .int .i64 a0_3, .int .i64 a0_4, .string a0_5]] rfl (by (try simp only [List.map_toArray, List.map_cons, List.map_nil]); first | done | rfl | (simp only [List.length_drop, List.length_take]; rfl)) ?_; (with_reducible refine (spec_l03OK.calls k _ _ l0_0 _ _ l0_1 _ _ l0_2 a0_3 a0_4 a0_5 true _ ?side1 ?side2 ?side3 ?side4 ?side5 ?side6 A3.out).mono ?_); (case side1 => repeat (first | exact (Kd.C_below HR0_0.out HB.out) | (with_reducible refine Kd.C_alloc ?_ _) | (with_reducible refine Kd.C_drewN ?_ _) | (with_reducible refine Kd.C_drew ?_))); (case side2 => exact HC0_0.out); (case side3 => repeat (first | exact (Kd.C_below HR0_1.out HB.out) | (with_reducible refine Kd.C_alloc ?_ _) | (with_reducible refine Kd.C_drewN ?_ _) | (with_reducible refine Kd.C_drew ?_))); (case side4 => exact HC0_1.out); (case side5 => repeat (first | exact (Kd.C_below HR0_2.out HB.out) | (with_reducible refine Kd.C_alloc ?_ _) | (with_reducible refine Kd.C_drewN ?_ _) | (with_reducible refine Kd.C_drew ?_))); (case side6 => exact HC0_2.out); rintro e w31 ⟨rfl, hb⟩; refine ⟨_, rfl, ?_⟩; replace BK236 := Aside0.mk (ebb_ BK236 hb); replace HB := Aside0.mk (below_step eq4_ hb); (try clear hb); (try clear hb2); (try clear hk); (try clear hi)) | ((with_reducible refine gate_callee (f := 63) rfl ?_); refine goesL_ (some 14) rfl rfl Try.func63 (by kernel_rfl) rfl #[.int .i64 a1] rfl (by (try simp only [List.map_toArray, List.map_cons, List.map_nil]); first | done | rfl | (simp only [List.length_drop, List.length_take]; rfl)) ?_; (with_reducible refine (spec_l01Cell.calls a1 false _ A5.out).mono ?_); rintro e w' ⟨rfl, ⟨nd, rfl⟩⟩; refine ⟨_, rfl, ?_⟩; (first | (rw [drewN_self w31]; generalize hq_ : World.drewN w31 _ = w31; have n0_ := Aside0.mk (blk_at hq_ BK236.out); have n1_ := Aside0.mk (below_at hq_ HB.out); clear hq_ BK236 HB; have BK236 := n0_; have HB := n1_; clear n0_ n1_) | (try (rw [drewN_self w31]; generalize hq_ : World.drewN w31 _ = w31; have n0_ : Aside0 (w31.heap[gb236]? = some (.cells #[.slice none 0 0, .slice none 0 0, .slice none 0 0, .int .i64 0, .int .i64 0, .string (⟨#[]⟩ : ByteArray)] 24 (0, 0))) := ⟨by rw [← hq_]; exact (ebu_ BK236)⟩; have n1_ : Aside0 (Below w.heap.size w w31) := ⟨(by rw [← hq_]; exact eq4_)⟩; clear BK236 HB hq_; have BK236 := n0_; have HB := n1_; clear n0_ n1_))); obtain ⟨hcz32_0, hcz32_1, hcz32_2, hcz32_3, hcz32_4, hcz32_5⟩ := ee6_ BK236; obtain ⟨hfz32_0, hfz32_1, hfz32_2, hfz32_3, hfz32_4, hfz32_5⟩ := ef6_ BK236))
   refine bodyPost_ret (results_ctt rfl _ _ gb236 24 #[.slice none 0 0, .slice none 0 0, .slice none 0 0, .int .i64 0, .int .i64 0, .string (⟨#[]⟩ : ByteArray)] (0, 0) _ rfl (by (with_reducible repeat (first | refine blk_drewN ?_ _ | refine blk_drew ?_ | refine blk_alloc ?_ _)); refine blk_put (cs := #[.slice none 0 0, .slice none 0 0, .slice none 0 0, .int .i64 0, .int .i64 0, .string (⟨#[]⟩ : ByteArray)]) ?_ 5 _ rfl; (with_reducible repeat (first | refine blk_drewN ?_ _ | refine blk_drew ?_ | refine blk_alloc ?_ _)); refine blk_put (cs := #[.slice none 0 0, .slice none 0 0, .slice none 0 0, .int .i64 0, .int .i64 0, .string (⟨#[]⟩ : ByteArray)]) ?_ 4 _ rfl; (with_reducible repeat (first | refine blk_drewN ?_ _ | refine blk_drew ?_ | refine blk_alloc ?_ _)); refine blk_put (cs := #[.slice none 0 0, .slice none 0 0, .slice none 0 0, .int .i64 0, .int .i64 0, .string (⟨#[]⟩ : ByteArray)]) ?_ 3 _ rfl; (with_reducible repeat (first | refine blk_drewN ?_ _ | refine blk_drew ?_ | refine blk_alloc ?_ _)); refine blk_put (cs := #[.slice none 0 0, .slice none 0 0, .slice none 0 0, .int .i64 0, .int .i64 0, .string (⟨#[]⟩ : ByteArray)]) ?_ 2 _ rfl; (with_reducible repeat (first | refine blk_drewN ?_ _ | refine blk_drew ?_ | refine blk_alloc ?_ _)); refine blk_put (cs := #[.slice none 0 0, .slice none 0 0, .slice none 0 0, .int .i64 0, .int .i64 0, .string (⟨#[]⟩ : ByteArray)]) ?_ 1 _ rfl; (with_reducible repeat (first | refine blk_drewN ?_ _ | refine blk_drew ?_ | refine blk_alloc ?_ _)); refine blk_put (cs := #[.slice none 0 0, .slice none 0 0, .slice none 0 0, .int .i64 0, .int .i64 0, .string (⟨#[]⟩ : ByteArray)]) ?_ 0 _ rfl; (with_reducible repeat (first | refine blk_drewN ?_ _ | refine blk_drew ?_ | refine blk_alloc ?_ _)); exact BK236.out) Try.underlying24 rfl (by kernel_rfl)) rfl ?_
   exact ⟨_, _, _, by first | rfl | (simp [errW_none, errW_some] <;> rfl) | (simp [*, errW_none, errW_some] <;> rfl), by first | exact Kd.R_nil _ _ _ _ _ | exact Kd.N_nil _ _ _ _ _ | exact Kd.V_nil _ _ _ _ _ | exact Kd.Q_nil _ _ _ _ _ | exact Kd.S_nil _ _ _ _ _, by first | exact Kd.R_nil _ _ _ _ _ | exact Kd.N_nil _ _ _ _ _ | exact Kd.V_nil _ _ _ _ _ | exact Kd.Q_nil _ _ _ _ _ | exact Kd.S_nil _ _ _ _ _, by first | exact Kd.R_nil _ _ _ _ _ | exact Kd.N_nil _ _ _ _ _ | exact Kd.V_nil _ _ _ _ _ | exact Kd.Q_nil _ _ _ _ _ | exact Kd.S_nil _ _ _ _ _, by repeat (first | (with_reducible first | exact HB.out | apply below_alloc | apply pw_below_drewN | apply below_drew1 | refine below_set ?_ GE236.out) | exact HB.out)⟩
 ·replace c4 := Bool.eq_false_iff.mpr c4
  subst c4
  have H1 : (some (([] : List Int), ([] : List Int), ([] : List Int), 0, 0, (⟨#[]⟩ : ByteArray), 0, 1)) = some (r1, r2, r3, r4, r5, r6, r7, r8) := by rw [if_neg (show ¬ (false = true) by decide)] at H; first | done | exact H
  clear H
  have H := H1
  clear H1
  simp only [Option.some.injEq, Prod.mk.injEq] at H
  obtain ⟨rfl, rfl, rfl, rfl, rfl, rfl, rfl, rfl⟩ := H
  go_enter Try.func33, Try.ntmps33
  go_wp2_with (first | ((with_reducible refine gate_dst (N := 2) rfl ?_); refine box_event ?hg (N := 2) ?hd (cs := #[.slice A0_0 l0_0.length c0_0, .slice A0_1 l0_1.length c0_1, .slice A0_2 l0_2.length c0_2, .int .i64 a0_3, .int .i64 a0_4, .string a0_5]) (t := 24) ?hr ?_; (case hd => rfl); (case hg => rfl); (case hr => first | (go_simp; done) | (go_simp; rfl)); intro gb235 hg w33 hbox hb; have n0_ := Aside0.mk (below_step eq5_ hb); have n1_ := Aside0.mk (hbox); have n2_ := Aside0.mk ((by rw [hg]; exact (below_size eq5_) : w.heap.size ≤ gb235)); have n3_ := Aside0.mk ((by rw [hg]; exact (below_size eq5_) : w.heap.size ≤ gb235)); clear HB; have HB := n0_; have BK235 := n1_; have GW235 := n2_; have GE235 := n3_; clear n0_ n1_ n2_ n3_; clear hb hbox hg) | ((with_reducible refine gate_dst (N := 4) rfl ?_); refine box_event ?hg (N := 4) ?hd (cs := #[.slice none 0 0, .slice none 0 0, .slice none 0 0, .int .i64 0, .int .i64 0, .string (⟨#[]⟩ : ByteArray)]) (t := 24) ?hr ?_; (case hd => rfl); (case hg => rfl); (case hr => first | (go_simp; done) | (go_simp; rfl)); intro gb236 hg w34 hbox hb; have n0_ := Aside0.mk (ebb_ BK235 hb); have n1_ := Aside0.mk (below_step eq3_ hb); have n2_ := Aside0.mk (hbox); have n3_ := Aside0.mk ((by rw [hg]; exact (below_size eq3_) : w.heap.size ≤ gb236)); have n4_ := Aside0.mk ((by rw [hg]; exact (below_size eq3_) : w.heap.size ≤ gb236)); have n5_ := Aside0.mk ((by rw [hg]; exact Nat.ne_of_lt (blk_lt (g := gb235) (o := .cells #[.slice A0_0 l0_0.length c0_0, .slice A0_1 l0_1.length c0_1, .slice A0_2 l0_2.length c0_2, .int .i64 a0_3, .int .i64 a0_4, .string a0_5] 24 (0, 0)) (ebu_ BK235)) : gb235 ≠ gb236)); have n6_ := Aside0.mk ((by rw [hg]; exact Nat.ne_of_gt (blk_lt (g := gb235) (o := .cells #[.slice A0_0 l0_0.length c0_0, .slice A0_1 l0_1.length c0_1, .slice A0_2 l0_2.length c0_2, .int .i64 a0_3, .int .i64 a0_4, .string a0_5] 24 (0, 0)) (ebu_ BK235)) : gb236 ≠ gb235)); clear BK235; clear HB; have BK235 := n0_; have HB := n1_; have BK236 := n2_; have GW236 := n3_; have GE236 := n4_; have NB235_236 := n5_; have NB236_235 := n6_; clear n0_ n1_ n2_ n3_ n4_ n5_ n6_; clear hb hbox hg; have hnb35 := NB235_236.out; have hnc35 := NB236_235.out; obtain ⟨hcz36_0, hcz36_1, hcz36_2, hcz36_3, hcz36_4, hcz36_5⟩ := ee6_ BK235; obtain ⟨hfz36_0, hfz36_1, hfz36_2, hfz36_3, hfz36_4, hfz36_5⟩ := ef6_ BK235) | ((with_reducible refine gate_callee (f := 46) rfl ?_); refine goesL_ (some 10) rfl rfl Try.func46 (by kernel_rfl) rfl #[.agg #[.slice A0_0 l0_0.length c0_0, .slice A0_1 l0_1.length c0_1, .slice A0_2 l0_2.length c0_2, .int .i64 a0_3, .int .i64 a0_4, .string a0_5]] rfl (by (try simp only [List.map_toArray, List.map_cons, List.map_nil]); first | done | rfl | (simp only [List.length_drop, List.length_take]; rfl)) ?_; (with_reducible refine (spec_l03OK.calls k _ _ l0_0 _ _ l0_1 _ _ l0_2 a0_3 a0_4 a0_5 false _ ?side1 ?side2 ?side3 ?side4 ?side5 ?side6 A3.out).mono ?_); (case side1 => repeat (first | exact (Kd.C_below HR0_0.out HB.out) | (with_reducible refine Kd.C_alloc ?_ _) | (with_reducible refine Kd.C_drewN ?_ _) | (with_reducible refine Kd.C_drew ?_))); (case side2 => exact HC0_0.out); (case side3 => repeat (first | exact (Kd.C_below HR0_1.out HB.out) | (with_reducible refine Kd.C_alloc ?_ _) | (with_reducible refine Kd.C_drewN ?_ _) | (with_reducible refine Kd.C_drew ?_))); (case side4 => exact HC0_1.out); (case side5 => repeat (first | exact (Kd.C_below HR0_2.out HB.out) | (with_reducible refine Kd.C_alloc ?_ _) | (with_reducible refine Kd.C_drewN ?_ _) | (with_reducible refine Kd.C_drew ?_))); (case side6 => exact HC0_2.out); rintro e w37 ⟨rfl, hb⟩; refine ⟨_, rfl, ?_⟩; replace BK236 := Aside0.mk (ebb_ BK236 hb); replace HB := Aside0.mk (below_step eq4_ hb); (try clear hb); (try clear hb2); (try clear hk); (try clear hi); obtain ⟨hcz38_0, hcz38_1, hcz38_2, hcz38_3, hcz38_4, hcz38_5⟩ := ee6_ BK236; obtain ⟨hfz38_0, hfz38_1, hfz38_2, hfz38_3, hfz38_4, hfz38_5⟩ := ef6_ BK236))
  refine bodyPost_ret (results_ctt rfl _ _ gb236 24 #[.slice none 0 0, .slice none 0 0, .slice none 0 0, .int .i64 0, .int .i64 0, .string (⟨#[]⟩ : ByteArray)] (0, 0) _ rfl (by (with_reducible repeat (first | refine blk_drewN ?_ _ | refine blk_drew ?_ | refine blk_alloc ?_ _)); refine blk_put (cs := #[.slice none 0 0, .slice none 0 0, .slice none 0 0, .int .i64 0, .int .i64 0, .string (⟨#[]⟩ : ByteArray)]) ?_ 5 _ rfl; (with_reducible repeat (first | refine blk_drewN ?_ _ | refine blk_drew ?_ | refine blk_alloc ?_ _)); refine blk_put (cs := #[.slice none 0 0, .slice none 0 0, .slice none 0 0, .int .i64 0, .int .i64 0, .string (⟨#[]⟩ : ByteArray)]) ?_ 4 _ rfl; (with_reducible repeat (first | refine blk_drewN ?_ _ | refine blk_drew ?_ | refine blk_alloc ?_ _)); refine blk_put (cs := #[.slice none 0 0, .slice none 0 0, .slice none 0 0, .int .i64 0, .int .i64 0, .string (⟨#[]⟩ : ByteArray)]) ?_ 3 _ rfl; (with_reducible repeat (first | refine blk_drewN ?_ _ | refine blk_drew ?_ | refine blk_alloc ?_ _)); refine blk_put (cs := #[.slice none 0 0, .slice none 0 0, .slice none 0 0, .int .i64 0, .int .i64 0, .string (⟨#[]⟩ : ByteArray)]) ?_ 2 _ rfl; (with_reducible repeat (first | refine blk_drewN ?_ _ | refine blk_drew ?_ | refine blk_alloc ?_ _)); refine blk_put (cs := #[.slice none 0 0, .slice none 0 0, .slice none 0 0, .int .i64 0, .int .i64 0, .string (⟨#[]⟩ : ByteArray)]) ?_ 1 _ rfl; (with_reducible repeat (first | refine blk_drewN ?_ _ | refine blk_drew ?_ | refine blk_alloc ?_ _)); refine blk_put (cs := #[.slice none 0 0, .slice none 0 0, .slice none 0 0, .int .i64 0, .int .i64 0, .string (⟨#[]⟩ : ByteArray)]) ?_ 0 _ rfl; (with_reducible repeat (first | refine blk_drewN ?_ _ | refine blk_drew ?_ | refine blk_alloc ?_ _)); exact BK236.out) Try.underlying24 rfl (by kernel_rfl)) rfl ?_
  exact ⟨_, _, _, by first | rfl | (simp [errW_none, errW_some] <;> rfl) | (simp [*, errW_none, errW_some] <;> rfl), by first | exact Kd.R_nil _ _ _ _ _ | exact Kd.N_nil _ _ _ _ _ | exact Kd.V_nil _ _ _ _ _ | exact Kd.Q_nil _ _ _ _ _ | exact Kd.S_nil _ _ _ _ _, by first | exact Kd.R_nil _ _ _ _ _ | exact Kd.N_nil _ _ _ _ _ | exact Kd.V_nil _ _ _ _ _ | exact Kd.Q_nil _ _ _ _ _ | exact Kd.S_nil _ _ _ _ _, by first | exact Kd.R_nil _ _ _ _ _ | exact Kd.N_nil _ _ _ _ _ | exact Kd.V_nil _ _ _ _ _ | exact Kd.Q_nil _ _ _ _ _ | exact Kd.S_nil _ _ _ _ _, by repeat (first | (with_reducible first | exact HB.out | apply below_alloc | apply pw_below_drewN | apply below_drew1 | refine below_set ?_ GE236.out) | exact HB.out)⟩

/-! ### impl_dataCode: function 65 -/
def impl_dataCode.f (k : Nat) (l0_0 : List Int) (l0_1 : List Int) (l0_2 : List Int) (a0_3 : Int) (a0_4 : Int) (a0_5 : ByteArray) (a1 : Int) : Option (Int) := (impl_DataOK.f k l0_0 l0_1 l0_2 a0_3 a0_4 a0_5).bind fun t266 => (if t266 = true then ((impl_CellOK.f a1).bind fun t267 => (if t267 = true then (some 0) else (some 4))) else (some 1))
theorem impl_dataCode.mono : ∀ a0 a1 a2 a3 a4 a5 a6 k, LeO (impl_dataCode.f k a0 a1 a2 a3 a4 a5 a6) (impl_dataCode.f (k + 1) a0 a1 a2 a3 a4 a5 a6) := by
 intro a0 a1 a2 a3 a4 a5 a6 k
 unfold impl_dataCode.f
 repeat' first
   | (with_reducible exact impl_DataOK.mono _ _ _ _ _ _ _)
   | (with_reducible exact LeO.refl _)
   | (with_reducible exact LeO.none _)
   | (with_reducible refine LeO.ite ?_ ?_)
   | (with_reducible refine LeO.bind ?_ (fun _ => ?_))
   | exact impl_DataOK.mono _ _ _ _ _ _ _
   | exact LeO.none _
   | refine LeO.ite ?_ ?_
   | refine LeO.bind ?_ (fun _ => ?_)
set_option maxHeartbeats 8000000 in
set_option maxRecDepth 100000 in
theorem impl_dataCode.calls (k : Nat) (A0_0 : Option Addr) (c0_0 : Nat) (l0_0 : List Int) (A0_1 : Option Addr) (c0_1 : Nat) (l0_1 : List Int) (A0_2 : Option Addr) (c0_2 : Nat) (l0_2 : List Int) (a0_3 : Int) (a0_4 : Int) (a0_5 : ByteArray) (a1 : Int) (r : Int) (w : World) (hr0_0 : Kd.C (Kd.int .i64) w A0_0 l0_0.length l0_0) (hc0_0 : l0_0.length ≤ c0_0) (hr0_1 : Kd.C (Kd.int .i64) w A0_1 l0_1.length l0_1) (hc0_1 : l0_1.length ≤ c0_1) (hr0_2 : Kd.C (Kd.int .i64) w A0_2 l0_2.length l0_2) (hc0_2 : l0_2.length ≤ c0_2) (h : impl_dataCode.f k l0_0 l0_1 l0_2 a0_3 a0_4 a0_5 a1 = some r) :
  Calls Try.prog 65 #[.agg #[.slice A0_0 l0_0.length c0_0, .slice A0_1 l0_1.length c0_1, .slice A0_2 l0_2.length c0_2, .int .i64 a0_3, .int .i64 a0_4, .string a0_5], .int .i64 a1] w fun e w' => e = .returned (.int .i64 r) ∧ Below w.heap.size w w' := by
 have hu24 := Try.underlying24
 have HR0_0 := Aside0.mk hr0_0
 have HC0_0 := Aside0.mk hc0_0
 clear hr0_0 hc0_0
 have HR0_1 := Aside0.mk hr0_1
 have HC0_1 := Aside0.mk hc0_1
 clear hr0_1 hc0_1
 have HR0_2 := Aside0.mk hr0_2
 have HC0_2 := Aside0.mk hc0_2
 clear hr0_2 hc0_2
 have HB := Aside0.mk (Below.refl w.heap.size w)
 have H : ((impl_DataOK.f k l0_0 l0_1 l0_2 a0_3 a0_4 a0_5).bind fun t266 => (if t266 = true then ((impl_CellOK.f a1).bind fun t267 => (if t267 = true then (some 0) else (some 4))) else (some 1))) = some r := h
 clear h
 replace H := Option.bind_eq_some_iff.mp H
 obtain ⟨t266, A30, H⟩ := H
 replace H : (if t266 = true then ((impl_CellOK.f a1).bind fun t267 => (if t267 = true then (some 0) else (some 4))) else (some 1)) = some r := H
 have A3 := Aside0.mk A30
 clear A30
 by_cases c4 : t266 = true
 ·subst c4
  have H1 : ((impl_CellOK.f a1).bind fun t267 => (if t267 = true then (some 0) else (some 4))) = some r := by rw [if_pos rfl] at H; first | done | exact H
  clear H
  have H := H1
  clear H1
  replace H := Option.bind_eq_some_iff.mp H
  obtain ⟨t267, A50, H⟩ := H
  replace H : (if t267 = true then (some 0) else (some 4)) = some r := H
  have A5 := Aside0.mk A50
  clear A50
  by_cases c6 : t267 = true
  ·subst c6
   have H1 : (some 0) = some r := by rw [if_pos rfl] at H; first | done | exact H
   clear H
   have H := H1
   clear H1
   obtain rfl := Option.some.inj H
   go_enter Try.func65, Try.ntmps65
   go_wp2_with (first | ((with_reducible refine gate_dst (N := 2) rfl ?_); refine box_event ?hg (N := 2) ?hd (cs := #[.slice A0_0 l0_0.length c0_0, .slice A0_1 l0_1.length c0_1, .slice A0_2 l0_2.length c0_2, .int .i64 a0_3, .int .i64 a0_4, .string a0_5]) (t := 24) ?hr ?_; (case hd => rfl); (case hg => rfl); (case hr => first | (go_simp; done) | (go_simp; rfl)); intro gb265 hg w7 hbox hb; have n0_ := Aside0.mk (below_step eq5_ hb); have n1_ := Aside0.mk (hbox); have n2_ := Aside0.mk ((by rw [hg]; exact (below_size eq5_) : w.heap.size ≤ gb265)); have n3_ := Aside0.mk ((by rw [hg]; exact (below_size eq5_) : w.heap.size ≤ gb265)); clear HB; have HB := n0_; have BK265 := n1_; have GW265 := n2_; have GE265 := n3_; clear n0_ n1_ n2_ n3_; clear hb hbox hg; obtain ⟨hcz8_0, hcz8_1, hcz8_2, hcz8_3, hcz8_4, hcz8_5⟩ := ee6_ BK265; obtain ⟨hfz8_0, hfz8_1, hfz8_2, hfz8_3, hfz8_4, hfz8_5⟩ := ef6_ BK265) | ((with_reducible refine gate_callee (f := 22) rfl ?_); refine goesL_ (some 7) rfl rfl Try.func22 (by kernel_rfl) rfl #[.agg #[.slice A0_0 l0_0.length c0_0, .slice A0_1 l0_1.length c0_1, .slice A0_2 l0_2.length c0_2, .int .i64 a0_3, .int .i64 a0_4, .string a0_5]] rfl (by (try simp only [List.map_toArray, List.map_cons, List.map_nil]); first | done | rfl | (simp only [List.length_drop, List.length_take]; rfl)) ?_; (with_reducible refine (impl_DataOK.calls k _ _ l0_0 _ _ l0_1 _ _ l0_2 a0_3 a0_4 a0_5 true _ ?side1 ?side2 ?side3 ?side4 ?side5 ?side6 A3.out).mono ?_); (case side1 => repeat (first | exact (Kd.C_below HR0_0.out HB.out) | (with_reducible refine Kd.C_alloc ?_ _) | (with_reducible refine Kd.C_drewN ?_ _) | (with_reducible refine Kd.C_drew ?_))); (case side2 => exact HC0_0.out); (case side3 => repeat (first | exact (Kd.C_below HR0_1.out HB.out) | (with_reducible refine Kd.C_alloc ?_ _) | (with_reducible refine Kd.C_drewN ?_ _) | (with_reducible refine Kd.C_drew ?_))); (case side4 => exact HC0_1.out); (case side5 => repeat (first | exact (Kd.C_below HR0_2.out HB.out) | (with_reducible refine Kd.C_alloc ?_ _) | (with_reducible refine Kd.C_drewN ?_ _) | (with_reducible refine Kd.C_drew ?_))); (case side6 => exact HC0_2.out); rintro e w9 ⟨rfl, hb⟩; refine ⟨_, rfl, ?_⟩; replace HB := Aside0.mk (below_step eq5_ hb); (try clear hb); (try clear hb2); (try clear hk); (try clear hi)) | ((with_reducible refine gate_callee (f := 83) rfl ?_); refine goesL_ (some 11) rfl rfl Try.func83 (by kernel_rfl) rfl #[.int .i64 a1] rfl (by (try simp only [List.map_toArray, List.map_cons, List.map_nil]); first | done | rfl | (simp only [List.length_drop, List.length_take]; rfl)) ?_; (with_reducible refine (impl_CellOK.calls a1 true _ A5.out).mono ?_); rintro e w' ⟨rfl, ⟨nd, rfl⟩⟩; refine ⟨_, rfl, ?_⟩))
   go_ret
   exact ⟨by first | rfl | (simp [errW_none, errW_some] <;> rfl) | (simp [*, errW_none, errW_some] <;> rfl), by repeat (first | (with_reducible first | exact HB.out | apply below_alloc | apply pw_below_drewN | apply below_drew1) | exact HB.out)⟩
  ·replace c6 := Bool.eq_false_iff.mpr c6
   subst c6
   have H1 : (some 4) = some r := by rw [if_neg (show ¬ (false = true) by decide)] at H; first | done | exact H
   clear H
   have H := H1
   clear H1
   obtain rfl := Option.some.inj H
   go_enter Try.func65, Try.ntmps65
   go_wp2_with (first | ((with_reducible refine gate_dst (N := 2) rfl ?_); refine box_event ?hg (N := 2) ?hd (cs := #[.slice A0_0 l0_0.length c0_0, .slice A0_1 l0_1.length c0_1, .slice A0_2 l0_2.length c0_2, .int .i64 a0_3, .int .i64 a0_4, .string a0_5]) (t := 24) ?hr ?_; (case hd => rfl); (case hg => rfl); (case hr => first | (go_simp; done) | (go_simp; rfl)); intro gb265 hg w10 hbox hb; have n0_ := Aside0.mk (below_step eq5_ hb); have n1_ := Aside0.mk (hbox); have n2_ := Aside0.mk ((by rw [hg]; exact (below_size eq5_) : w.heap.size ≤ gb265)); have n3_ := Aside0.mk ((by rw [hg]; exact (below_size eq5_) : w.heap.size ≤ gb265)); clear HB; have HB := n0_; have BK265 := n1_; have GW265 := n2_; have GE265 := n3_; clear n0_ n1_ n2_ n3_; clear hb hbox hg; obtain ⟨hcz11_0, hcz11_1, hcz11_2, hcz11_3, hcz11_4, hcz11_5⟩ := ee6_ BK265; obtain ⟨hfz11_0, hfz11_1, hfz11_2, hfz11_3, hfz11_4, hfz11_5⟩ := ef6_ BK265) | ((with_reducible refine gate_callee (f := 22) rfl ?_); refine goesL_ (some 7) rfl rfl Try.func22 (by kernel_rfl) rfl #[.agg #[.slice A0_0 l0_0.length c0_0, .slice A0_1 l0_1.length c0_1, .slice A0_2 l0_2.length c0_2, .int .i64 a0_3, .int .i64 a0_4, .string a0_5]] rfl (by (try simp only [List.map_toArray, List.map_cons, List.map_nil]); first | done | rfl | (simp only [List.length_drop, List.length_take]; rfl)) ?_; (with_reducible refine (impl_DataOK.calls k _ _ l0_0 _ _ l0_1 _ _ l0_2 a0_3 a0_4 a0_5 true _ ?side1 ?side2 ?side3 ?side4 ?side5 ?side6 A3.out).mono ?_); (case side1 => repeat (first | exact (Kd.C_below HR0_0.out HB.out) | (with_reducible refine Kd.C_alloc ?_ _) | (with_reducible refine Kd.C_drewN ?_ _) | (with_reducible refine Kd.C_drew ?_))); (case side2 => exact HC0_0.out); (case side3 => repeat (first | exact (Kd.C_below HR0_1.out HB.out) | (with_reducible refine Kd.C_alloc ?_ _) | (with_reducible refine Kd.C_drewN ?_ _) | (with_reducible refine Kd.C_drew ?_))); (case side4 => exact HC0_1.out); (case side5 => repeat (first | exact (Kd.C_below HR0_2.out HB.out) | (with_reducible refine Kd.C_alloc ?_ _) | (with_reducible refine Kd.C_drewN ?_ _) | (with_reducible refine Kd.C_drew ?_))); (case side6 => exact HC0_2.out); rintro e w12 ⟨rfl, hb⟩; refine ⟨_, rfl, ?_⟩; replace HB := Aside0.mk (below_step eq5_ hb); (try clear hb); (try clear hb2); (try clear hk); (try clear hi)) | ((with_reducible refine gate_callee (f := 83) rfl ?_); refine goesL_ (some 11) rfl rfl Try.func83 (by kernel_rfl) rfl #[.int .i64 a1] rfl (by (try simp only [List.map_toArray, List.map_cons, List.map_nil]); first | done | rfl | (simp only [List.length_drop, List.length_take]; rfl)) ?_; (with_reducible refine (impl_CellOK.calls a1 false _ A5.out).mono ?_); rintro e w' ⟨rfl, ⟨nd, rfl⟩⟩; refine ⟨_, rfl, ?_⟩))
   go_ret
   exact ⟨by first | rfl | (simp [errW_none, errW_some] <;> rfl) | (simp [*, errW_none, errW_some] <;> rfl), by repeat (first | (with_reducible first | exact HB.out | apply below_alloc | apply pw_below_drewN | apply below_drew1) | exact HB.out)⟩
 ·replace c4 := Bool.eq_false_iff.mpr c4
  subst c4
  have H1 : (some 1) = some r := by rw [if_neg (show ¬ (false = true) by decide)] at H; first | done | exact H
  clear H
  have H := H1
  clear H1
  obtain rfl := Option.some.inj H
  go_enter Try.func65, Try.ntmps65
  go_wp2_with (first | ((with_reducible refine gate_dst (N := 2) rfl ?_); refine box_event ?hg (N := 2) ?hd (cs := #[.slice A0_0 l0_0.length c0_0, .slice A0_1 l0_1.length c0_1, .slice A0_2 l0_2.length c0_2, .int .i64 a0_3, .int .i64 a0_4, .string a0_5]) (t := 24) ?hr ?_; (case hd => rfl); (case hg => rfl); (case hr => first | (go_simp; done) | (go_simp; rfl)); intro gb265 hg w13 hbox hb; have n0_ := Aside0.mk (below_step eq5_ hb); have n1_ := Aside0.mk (hbox); have n2_ := Aside0.mk ((by rw [hg]; exact (below_size eq5_) : w.heap.size ≤ gb265)); have n3_ := Aside0.mk ((by rw [hg]; exact (below_size eq5_) : w.heap.size ≤ gb265)); clear HB; have HB := n0_; have BK265 := n1_; have GW265 := n2_; have GE265 := n3_; clear n0_ n1_ n2_ n3_; clear hb hbox hg; obtain ⟨hcz14_0, hcz14_1, hcz14_2, hcz14_3, hcz14_4, hcz14_5⟩ := ee6_ BK265; obtain ⟨hfz14_0, hfz14_1, hfz14_2, hfz14_3, hfz14_4, hfz14_5⟩ := ef6_ BK265) | ((with_reducible refine gate_callee (f := 22) rfl ?_); refine goesL_ (some 7) rfl rfl Try.func22 (by kernel_rfl) rfl #[.agg #[.slice A0_0 l0_0.length c0_0, .slice A0_1 l0_1.length c0_1, .slice A0_2 l0_2.length c0_2, .int .i64 a0_3, .int .i64 a0_4, .string a0_5]] rfl (by (try simp only [List.map_toArray, List.map_cons, List.map_nil]); first | done | rfl | (simp only [List.length_drop, List.length_take]; rfl)) ?_; (with_reducible refine (impl_DataOK.calls k _ _ l0_0 _ _ l0_1 _ _ l0_2 a0_3 a0_4 a0_5 false _ ?side1 ?side2 ?side3 ?side4 ?side5 ?side6 A3.out).mono ?_); (case side1 => repeat (first | exact (Kd.C_below HR0_0.out HB.out) | (with_reducible refine Kd.C_alloc ?_ _) | (with_reducible refine Kd.C_drewN ?_ _) | (with_reducible refine Kd.C_drew ?_))); (case side2 => exact HC0_0.out); (case side3 => repeat (first | exact (Kd.C_below HR0_1.out HB.out) | (with_reducible refine Kd.C_alloc ?_ _) | (with_reducible refine Kd.C_drewN ?_ _) | (with_reducible refine Kd.C_drew ?_))); (case side4 => exact HC0_1.out); (case side5 => repeat (first | exact (Kd.C_below HR0_2.out HB.out) | (with_reducible refine Kd.C_alloc ?_ _) | (with_reducible refine Kd.C_drewN ?_ _) | (with_reducible refine Kd.C_drew ?_))); (case side6 => exact HC0_2.out); rintro e w15 ⟨rfl, hb⟩; refine ⟨_, rfl, ?_⟩; replace HB := Aside0.mk (below_step eq5_ hb); (try clear hb); (try clear hb2); (try clear hk); (try clear hi)))
  go_ret
  exact ⟨by first | rfl | (simp [errW_none, errW_some] <;> rfl) | (simp [*, errW_none, errW_some] <;> rfl), by repeat (first | (with_reducible first | exact HB.out | apply below_alloc | apply pw_below_drewN | apply below_drew1) | exact HB.out)⟩

-- NOT PRINTED: function 70 (impl_Data_allot)

-- NOT PRINTED: function 69 (impl_AllotCells_1)

/-! ### impl_AllotCells: function 34 -/
def allotZ : Nat → List Int → Int → Int → Option (List Int)
 | 0, _, _, _ => none
 | k + 1, c, j, e => if j < e then (if 0 ≤ j then (if j < (c.length : Int) then allotZ k (c.set j.toNat 0) (j + 1) e else none) else none) else some c
set_option maxHeartbeats 4000000 in
set_option maxRecDepth 100000 in
/-- (*Data).allot over held data, where it throws. -/
theorem allot_no (w0 W : World) (g : Nat) (A0 : Option Addr) (c0 : Nat) (A1 : Option Addr) (c1 : Nat) (A2 : Option Addr) (c2 : Nat) (s b c : List Int) (h n : Int) (o : ByteArray) (x : Int) (hw : wrap64 (h + wrap64 (Int.tdiv x 4)) = h + Int.tdiv x 4)
  (ht : ¬ Int.tmod x 4 = 0 ∨ (Int.tmod x 4 = 0 ∧ impl_in.f (h + Int.tdiv x 4) 0 32 = some false)) (H : Held w0 W g A0 c0 A1 c1 A2 c2 s b c h n o) :
  Calls Try.prog 70 #[.pointer (some ⟨g, 0, none⟩), .int .i64 x] W fun e W' => e = .returned (.int .i64 (-8)) ∧ Held w0 W' g A0 c0 A1 c1 A2 c2 s b c h n o := by
 have HH := Aside0.mk H
 have hz3 : W.cell? ⟨g, 3, none⟩ = some (.int .i64 h) := (blk_cell H.blk 3).trans rfl
 have hf3 := blk_frozen H.blk 3
 have HW := Aside0.mk hw
 clear H hw
 rcases ht with ht | ⟨ht, hi⟩
 ·have e0 : (Int.tmod x 4 == 0) = false := beq_eq_false_iff_ne.mpr ht
  have e1 : (Int.tmod x 4 != 0) = true := bne_iff_ne.mpr ht
  clear ht
  go_enter Try.func70, Try.ntmps70
  go_wp2
  go_ret
  exact ⟨rfl, HH.out⟩
 ·have e0 : (Int.tmod x 4 == 0) = true := beq_iff_eq.mpr ht
  have e1 : (Int.tmod x 4 != 0) = false := bne_eq_false_iff_eq.mpr ht
  have HI := Aside0.mk hi
  clear ht hi
  go_enter Try.func70, Try.ntmps70
  go_wp2_with (first | (go_at_call 49; refine (impl_in.calls (wrap64 (h + wrap64 (Int.tdiv x 4))) 0 32 false _ (by rw [HW.out]; exact HI.out)).mono ?_; rintro e w' ⟨rfl, ⟨nd, rfl⟩⟩))
  go_ret
  exact ⟨rfl, HH.out.drewN _⟩
set_option maxHeartbeats 4000000 in
set_option maxRecDepth 100000 in
/-- (*Data).allot over held data, where it goes through. -/
theorem allot_yes (w0 W : World) (g : Nat) (A0 : Option Addr) (c0 : Nat) (A1 : Option Addr) (c1 : Nat) (A2 : Option Addr) (c2 : Nat) (s b c : List Int) (h n : Int) (o : ByteArray) (x : Int) (k : Nat) (c' : List Int) (hw : wrap64 (h + wrap64 (Int.tdiv x 4)) = h + Int.tdiv x 4) (hb : h + Int.tdiv x 4 ≤ 32 ∧ -100 ≤ h)
  (ht : Int.tmod x 4 = 0) (hi : impl_in.f (h + Int.tdiv x 4) 0 32 = some true) (hz : allotZ k c h (h + Int.tdiv x 4) = some c') (H : Held w0 W g A0 c0 A1 c1 A2 c2 s b c h n o) :
  Calls Try.prog 70 #[.pointer (some ⟨g, 0, none⟩), .int .i64 x] W fun e W' => e = .returned (.int .i64 0) ∧ ∃ A2' c2', Held w0 W' g A0 c0 A1 c1 A2' c2' s b c' (h + Int.tdiv x 4) n o := by
 have HH := Aside0.mk H
 have hz3 : W.cell? ⟨g, 3, none⟩ = some (.int .i64 h) := (blk_cell H.blk 3).trans rfl
 have hf3 := blk_frozen H.blk 3
 have HW := Aside0.mk hw
 have HLIM := Aside0.mk hb
 have H' := Aside0.mk hz
 have e0 : (Int.tmod x 4 == 0) = true := beq_iff_eq.mpr ht
 have e1 : (Int.tmod x 4 != 0) = false := bne_eq_false_iff_eq.mpr ht
 have HI := Aside0.mk hi
 clear H hw ht hi hz hb
 go_enter Try.func70, Try.ntmps70
 go_wp2_with (first | (go_at_call 49; refine (impl_in.calls (wrap64 (h + wrap64 (Int.tdiv x 4))) 0 32 true _ (by rw [HW.out]; exact HI.out)).mono ?_; rintro e w' ⟨rfl, ⟨nd, rfl⟩⟩))
 go_loopg [5] k (fun kq v5 w' => ∃ (j : Int) (cc : List Int) (A2' : Option Addr) (c2' : Nat), v5 = .int .i64 j ∧ Aside0 (allotZ kq cc j (h + Int.tdiv x 4) = some c') ∧ Aside0 (kq ≤ k) ∧ Aside0 (-100 ≤ j) ∧ Aside0 (Held w0 w' g A0 c0 A1 c1 A2' c2' s b cc h n o))
 case atStart => exact ⟨h, c, A2, c2, rfl, H', ⟨Nat.le_refl _⟩, ⟨HLIM.out.2⟩, ⟨HH.out.drewN _⟩⟩
 case round =>
  clear H' hz3 hf3
  obtain ⟨j, cc, B2, d2, rfl, HA, HK1, HJ, HX⟩ := hrel
  have hz3 : wr.cell? ⟨g, 3, none⟩ = some (.int .i64 h) := (blk_cell HX.out.blk 3).trans rfl
  have hz2 : wr.cell? ⟨g, 2, none⟩ = some (.slice B2 cc.length d2) := (blk_cell HX.out.blk 2).trans rfl
  have hf3 := blk_frozen HX.out.blk 3
  have hw := HW.out
  cases gk with
  | zero => exact absurd HA.out (by simp [allotZ])
  | succ k1 =>
   have H := HA.out
   clear HA
   simp only [allotZ] at H
   by_cases c3 : j < h + Int.tdiv x 4
   ·rw [if_pos c3] at H
    have c3b : decide (j < wrap64 (h + wrap64 (Int.tdiv x 4))) = true := by rw [hw]; exact decide_eq_true c3
    have C3 := Aside0.mk c3
    by_cases c4 : 0 ≤ j
    ·rw [if_pos c4] at H
     by_cases c5 : j < (cc.length : Int)
     ·rw [if_pos c5] at H
      have H1 := Aside0.mk H
      clear H c3
      obtain ⟨go, cap, e2, gb, gl, cl, HG⟩ := Kd.R_form HX.out.r2 (by omega)
      (first | cases e2 | (injection e2 with ea_ en_ ec_; (first | subst ea_ | (injection ea_ with ea_; subst ea_)); subst ec_; clear en_))
      obtain ⟨hx0, hfx⟩ := Kd.R_celln 0 HX.out.r2 j c4 c5
      clear gb gl HG
      have HN := Aside0.mk (HX.out.put2 j 0)
      have hwj : wrap64 (j + 1) = j + 1 := by have := HLIM.out; have := C3.out; unfold wrap64; omega
      have HWJ := Aside0.mk hwj
      clear hwj hw
      have p4 := eq_true c4
      have p5 := eq_true c5
      have C4 := Aside0.mk c4
      clear c4 c5
      go_wp2
      go_roundg k1
      case measure => have := HK1.out; omega
      case rel => exact ⟨j + 1, cc.set j.toNat 0, _, _, by rw [HWJ.out], H1, ⟨by have := HK1.out; omega⟩, ⟨by have := HJ.out; omega⟩, ⟨HN.out⟩⟩
     ·rw [if_neg c5] at H
      cases H
    ·rw [if_neg c4] at H
     cases H
   ·rw [if_neg c3] at H
    have c3b : decide (j < h + Int.tdiv x 4) = false := decide_eq_false c3
    obtain rfl := Option.some.inj H
    clear c3 H
    go_wp2
    go_ret
    exact ⟨rfl, _, _, by first | exact HX.out.set3 _ | (have hs := HX.out.set3 (h + Int.tdiv x 4); rw [HW.out]; exact hs)⟩
set_option maxHeartbeats 4000000 in
set_option maxRecDepth 100000 in
theorem allot1_no (w0 W : World) (g q : Nat) (A0 : Option Addr) (c0 : Nat) (A1 : Option Addr) (c1 : Nat) (A2 : Option Addr) (c2 : Nat) (s b c : List Int) (h n : Int) (o : ByteArray) (x : Int) (hw : wrap64 (h + wrap64 (Int.tdiv x 4)) = h + Int.tdiv x 4)
  (ht : ¬ Int.tmod x 4 = 0 ∨ (Int.tmod x 4 = 0 ∧ impl_in.f (h + Int.tdiv x 4) 0 32 = some false)) (H : Held w0 W g A0 c0 A1 c1 A2 c2 s b c h n o) (hq : W.cell? ⟨q, 0, none⟩ = some (.int .i64 x)) :
  Calls Try.prog 69 #[.pointer (some ⟨g, 0, none⟩), .pointer (some ⟨q, 0, none⟩)] W fun e W' => e = .returned (.int .i64 (-8)) ∧ Held w0 W' g A0 c0 A1 c1 A2 c2 s b c h n o := by
 have HH := Aside0.mk H
 have HT := Aside0.mk ht
 have HW := Aside0.mk hw
 clear H ht hw
 go_enter Try.func69, Try.ntmps69
 go_wp2_with (first | (go_at_call 70; refine (allot_no w0 W g A0 c0 A1 c1 A2 c2 s b c h n o x HW.out HT.out HH.out).mono ?_; rintro e w' ⟨rfl, hh⟩; have HF := Aside0.mk hh; clear hh))
 go_ret
 exact ⟨rfl, HF.out⟩
set_option maxHeartbeats 4000000 in
set_option maxRecDepth 100000 in
theorem allot1_yes (w0 W : World) (g q : Nat) (A0 : Option Addr) (c0 : Nat) (A1 : Option Addr) (c1 : Nat) (A2 : Option Addr) (c2 : Nat) (s b c : List Int) (h n : Int) (o : ByteArray) (x : Int) (k : Nat) (c' : List Int) (hw : wrap64 (h + wrap64 (Int.tdiv x 4)) = h + Int.tdiv x 4) (hb : h + Int.tdiv x 4 ≤ 32 ∧ -100 ≤ h)
  (ht : Int.tmod x 4 = 0) (hi : impl_in.f (h + Int.tdiv x 4) 0 32 = some true) (hz : allotZ k c h (h + Int.tdiv x 4) = some c') (H : Held w0 W g A0 c0 A1 c1 A2 c2 s b c h n o) (hq : W.cell? ⟨q, 0, none⟩ = some (.int .i64 x)) :
  Calls Try.prog 69 #[.pointer (some ⟨g, 0, none⟩), .pointer (some ⟨q, 0, none⟩)] W fun e W' => e = .returned (.int .i64 0) ∧ ∃ A2' c2', Held w0 W' g A0 c0 A1 c1 A2' c2' s b c' (h + Int.tdiv x 4) n o := by
 have HH := Aside0.mk H
 have HT := Aside0.mk ht
 have HW := Aside0.mk hw
 have HI := Aside0.mk hi
 have HZ := Aside0.mk hz
 have HBB := Aside0.mk hb
 clear H ht hw hi hz hb
 go_enter Try.func69, Try.ntmps69
 go_wp2_with (first | (go_at_call 70; refine (allot_yes w0 W g A0 c0 A1 c1 A2 c2 s b c h n o x k c' HW.out HBB.out HT.out HI.out HZ.out HH.out).mono ?_; rintro e w' ⟨rfl, hh⟩; have HF := Aside0.mk hh; clear hh))
 go_ret
 exact ⟨rfl, HF.out⟩
set_option maxHeartbeats 8000000 in
set_option maxRecDepth 100000 in
theorem AllotCells_run (k : Nat) (A0 : Option Addr) (c0 : Nat) (A1 : Option Addr) (c1 : Nat) (A2 : Option Addr) (c2 : Nat) (s b c : List Int) (h n : Int) (o : ByteArray) (x : Int) (t : Int) (s' b' c' : List Int) (h' n' : Int) (o' : ByteArray) (rs rb rc : List Int) (rh rn : Int) (ro : ByteArray) (w : World) (hr0 : Kd.C (Kd.int .i64) w A0 s.length s) (hc0 : s.length ≤ c0) (hr1 : Kd.C (Kd.int .i64) w A1 b.length b) (hc1 : b.length ≤ c1) (hr2 : Kd.C (Kd.int .i64) w A2 c.length c) (hc2 : c.length ≤ c2) (hk : impl_dataCode.f k s b c h n o x = some 0) (hcopy : impl_Data_copied.f s b c h n o = some (s, b, c, h, n, o)) (hcl : ∀ (q0 : Nat) (W0 W : World) (g : Nat) (B0 : Option Addr) (d0 : Nat) (B1 : Option Addr) (d1 : Nat) (B2 : Option Addr) (d2 : Nat), Held W0 W g B0 d0 B1 d1 B2 d2 s b c h n o → W.cell? ⟨q0, 0, none⟩ = some (.int .i64 x) → Calls Try.prog 69 #[.pointer (some ⟨g, 0, none⟩), .pointer (some ⟨q0, 0, none⟩)] W fun e W' => e = .returned (.int .i64 t) ∧ ∃ B0' d0' B1' d1' B2' d2', Held W0 W' g B0' d0' B1' d1' B2' d2' s' b' c' h' n' o') (hsel : (t = 0 ∧ (rs, rb, rc, rh, rn, ro) = (s', b', c', h', n', o')) ∨ (¬ t = 0 ∧ (rs, rb, rc, rh, rn, ro) = (s, b, c, h, n, o))) :
  Calls Try.prog 34 #[.agg #[.slice A0 s.length c0, .slice A1 b.length c1, .slice A2 c.length c2, .int .i64 h, .int .i64 n, .string o], .int .i64 x] w fun e w' => ∃ v0 v1 v2 : Value, e = .returned (.tuple #[.agg #[v0, v1, v2, .int .i64 rh, .int .i64 rn, .string ro], .int .i64 t, .int .i64 0]) ∧ Kd.R (Kd.int .i64) 3 w' w.heap.size (fun k_ => some k_ ≠ (v1 : Value).ownBlock ∧ some k_ ≠ (v2 : Value).ownBlock) v0 rs ∧ Kd.R (Kd.int .i64) 3 w' w.heap.size (fun k_ => some k_ ≠ (v0 : Value).ownBlock ∧ some k_ ≠ (v2 : Value).ownBlock) v1 rb ∧ Kd.R (Kd.int .i64) 3 w' w.heap.size (fun k_ => some k_ ≠ (v0 : Value).ownBlock ∧ some k_ ≠ (v1 : Value).ownBlock) v2 rc ∧ Below w.heap.size w w' := by
 have hu24 := Try.underlying24
 have HR0 := Aside0.mk hr0
 have HR1 := Aside0.mk hr1
 have HR2 := Aside0.mk hr2
 have HC0 := Aside0.mk hc0
 have HC1 := Aside0.mk hc1
 have HC2 := Aside0.mk hc2
 have HCO := Aside0.mk hcopy
 have HCL := Aside0.mk hcl
 have HSEL := Aside0.mk hsel
 have HB := Aside0.mk (Below.refl w.heap.size w)
 have HK := Aside0.mk hk
 clear hr0 hr1 hr2 hc0 hc1 hc2 hcopy hcl hsel hk
 go_enter Try.func34, Try.ntmps34
 go_wp2_with (first
  | ((with_reducible refine gate_dst (N := 2) rfl ?_); refine box_event ?hg (N := 2) ?hd (cs := #[.slice A0 s.length c0, .slice A1 b.length c1, .slice A2 c.length c2, .int .i64 h, .int .i64 n, .string o]) (t := 24) ?hr ?_; (case hd => rfl); (case hg => rfl); (case hr => first | (go_simp; done) | (go_simp; rfl)); intro g2 hg w1 hbox hb; have BKg2 := Aside0.mk hbox; have GEg2 := Aside0.mk (show w.heap.size ≤ g2 by rw [hg]; exact (below_size HB.out)); replace HB := Aside0.mk (below_step HB.out hb); clear hg hbox hb; have hq1 : w1.cell? ⟨g2, 0, none⟩ = some (.slice A0 s.length c0) := (blk_cell BKg2.out 0).trans rfl; have hz1 := blk_frozen (BKg2.out) 0; have hq2 : w1.cell? ⟨g2, 1, none⟩ = some (.slice A1 b.length c1) := (blk_cell BKg2.out 1).trans rfl; have hz2 := blk_frozen (BKg2.out) 1; have hq3 : w1.cell? ⟨g2, 2, none⟩ = some (.slice A2 c.length c2) := (blk_cell BKg2.out 2).trans rfl; have hz3 := blk_frozen (BKg2.out) 2; have hq4 : w1.cell? ⟨g2, 3, none⟩ = some (.int .i64 h) := (blk_cell BKg2.out 3).trans rfl; have hz4 := blk_frozen (BKg2.out) 3; have hq5 : w1.cell? ⟨g2, 4, none⟩ = some (.int .i64 n) := (blk_cell BKg2.out 4).trans rfl; have hz5 := blk_frozen (BKg2.out) 4; have hq6 : w1.cell? ⟨g2, 5, none⟩ = some (.string o) := (blk_cell BKg2.out 5).trans rfl; have hz6 := blk_frozen (BKg2.out) 5)
  | ((with_reducible refine gate_dst (N := 3) rfl ?_); refine box_event ?hg (N := 3) ?hd (cs := #[.int .i64 x]) (t := 3) ?hr ?_; (case hd => rfl); (case hg => rfl); (case hr => first | (go_simp; done) | (go_simp; rfl)); intro qx_ hg w2 hbox hb; have BKqx_ := Aside0.mk hbox; have GEqx_ := Aside0.mk (show w.heap.size ≤ qx_ by rw [hg]; exact (below_size HB.out)); have neqx__g2 : qx_ ≠ g2 := (by rw [hg]; exact Nat.ne_of_gt (blk_lt BKg2.out)); have neg2_qx_ : g2 ≠ qx_ := neqx__g2.symm; replace BKg2 := Aside0.mk (blk_below BKg2.out hb); replace HB := Aside0.mk (below_step HB.out hb); clear hg hbox hb; have hq7 : w2.cell? ⟨g2, 0, none⟩ = some (.slice A0 s.length c0) := (blk_cell BKg2.out 0).trans rfl; have hz7 := blk_frozen (BKg2.out) 0; have hq8 : w2.cell? ⟨g2, 1, none⟩ = some (.slice A1 b.length c1) := (blk_cell BKg2.out 1).trans rfl; have hz8 := blk_frozen (BKg2.out) 1; have hq9 : w2.cell? ⟨g2, 2, none⟩ = some (.slice A2 c.length c2) := (blk_cell BKg2.out 2).trans rfl; have hz9 := blk_frozen (BKg2.out) 2; have hq10 : w2.cell? ⟨g2, 3, none⟩ = some (.int .i64 h) := (blk_cell BKg2.out 3).trans rfl; have hz10 := blk_frozen (BKg2.out) 3; have hq11 : w2.cell? ⟨g2, 4, none⟩ = some (.int .i64 n) := (blk_cell BKg2.out 4).trans rfl; have hz11 := blk_frozen (BKg2.out) 4; have hq12 : w2.cell? ⟨g2, 5, none⟩ = some (.string o) := (blk_cell BKg2.out 5).trans rfl; have hz12 := blk_frozen (BKg2.out) 5; have hq13 : w2.cell? ⟨qx_, 0, none⟩ = some (.int .i64 x) := (blk_cell BKqx_.out 0).trans rfl; have hz13 := blk_frozen (BKqx_.out) 0)
  | ((with_reducible refine gate_dst (N := 4) rfl ?_); refine box_event ?hg (N := 4) ?hd (cs := #[.slice none 0 0, .slice none 0 0, .slice none 0 0, .int .i64 0, .int .i64 0, .string (⟨#[]⟩ : ByteArray)]) (t := 24) ?hr ?_; (case hd => rfl); (case hg => rfl); (case hr => first | (go_simp; done) | (go_simp; rfl)); intro g4 hg w3 hbox hb; have BKg4 := Aside0.mk hbox; have GEg4 := Aside0.mk (show w.heap.size ≤ g4 by rw [hg]; exact (below_size HB.out)); have neg4_g2 : g4 ≠ g2 := (by rw [hg]; exact Nat.ne_of_gt (blk_lt BKg2.out)); have neg2_g4 : g2 ≠ g4 := neg4_g2.symm; have neg4_qx_ : g4 ≠ qx_ := (by rw [hg]; exact Nat.ne_of_gt (blk_lt BKqx_.out)); have neqx__g4 : qx_ ≠ g4 := neg4_qx_.symm; replace BKg2 := Aside0.mk (blk_below BKg2.out hb); replace BKqx_ := Aside0.mk (blk_below BKqx_.out hb); replace HB := Aside0.mk (below_step HB.out hb); clear hg hbox hb; have hq14 : w3.cell? ⟨g2, 0, none⟩ = some (.slice A0 s.length c0) := (blk_cell BKg2.out 0).trans rfl; have hz14 := blk_frozen (BKg2.out) 0; have hq15 : w3.cell? ⟨g2, 1, none⟩ = some (.slice A1 b.length c1) := (blk_cell BKg2.out 1).trans rfl; have hz15 := blk_frozen (BKg2.out) 1; have hq16 : w3.cell? ⟨g2, 2, none⟩ = some (.slice A2 c.length c2) := (blk_cell BKg2.out 2).trans rfl; have hz16 := blk_frozen (BKg2.out) 2; have hq17 : w3.cell? ⟨g2, 3, none⟩ = some (.int .i64 h) := (blk_cell BKg2.out 3).trans rfl; have hz17 := blk_frozen (BKg2.out) 3; have hq18 : w3.cell? ⟨g2, 4, none⟩ = some (.int .i64 n) := (blk_cell BKg2.out 4).trans rfl; have hz18 := blk_frozen (BKg2.out) 4; have hq19 : w3.cell? ⟨g2, 5, none⟩ = some (.string o) := (blk_cell BKg2.out 5).trans rfl; have hz19 := blk_frozen (BKg2.out) 5; have hq20 : w3.cell? ⟨qx_, 0, none⟩ = some (.int .i64 x) := (blk_cell BKqx_.out 0).trans rfl; have hz20 := blk_frozen (BKqx_.out) 0; have hq21 : w3.cell? ⟨g4, 0, none⟩ = some (.slice none 0 0) := (blk_cell BKg4.out 0).trans rfl; have hz21 := blk_frozen (BKg4.out) 0; have hq22 : w3.cell? ⟨g4, 1, none⟩ = some (.slice none 0 0) := (blk_cell BKg4.out 1).trans rfl; have hz22 := blk_frozen (BKg4.out) 1; have hq23 : w3.cell? ⟨g4, 2, none⟩ = some (.slice none 0 0) := (blk_cell BKg4.out 2).trans rfl; have hz23 := blk_frozen (BKg4.out) 2; have hq24 : w3.cell? ⟨g4, 3, none⟩ = some (.int .i64 0) := (blk_cell BKg4.out 3).trans rfl; have hz24 := blk_frozen (BKg4.out) 3; have hq25 : w3.cell? ⟨g4, 4, none⟩ = some (.int .i64 0) := (blk_cell BKg4.out 4).trans rfl; have hz25 := blk_frozen (BKg4.out) 4; have hq26 : w3.cell? ⟨g4, 5, none⟩ = some (.string (⟨#[]⟩ : ByteArray)) := (blk_cell BKg4.out 5).trans rfl; have hz26 := blk_frozen (BKg4.out) 5)
  | (go_at_call 65; (with_reducible refine (impl_dataCode.calls k A0 c0 s A1 c1 b A2 c2 c h n o x 0 w3 (Kd.C_below HR0.out HB.out) HC0.out (Kd.C_below HR1.out HB.out) HC1.out (Kd.C_below HR2.out HB.out) HC2.out HK.out).mono ?_); rintro e w4 ⟨rfl, hb⟩; replace BKg2 := Aside0.mk (blk_below BKg2.out hb); replace BKqx_ := Aside0.mk (blk_below BKqx_.out hb); replace BKg4 := Aside0.mk (blk_below BKg4.out hb); replace HB := Aside0.mk (below_step HB.out hb); clear hb; have hq27 : w4.cell? ⟨g2, 0, none⟩ = some (.slice A0 s.length c0) := (blk_cell BKg2.out 0).trans rfl; have hz27 := blk_frozen (BKg2.out) 0; have hq28 : w4.cell? ⟨g2, 1, none⟩ = some (.slice A1 b.length c1) := (blk_cell BKg2.out 1).trans rfl; have hz28 := blk_frozen (BKg2.out) 1; have hq29 : w4.cell? ⟨g2, 2, none⟩ = some (.slice A2 c.length c2) := (blk_cell BKg2.out 2).trans rfl; have hz29 := blk_frozen (BKg2.out) 2; have hq30 : w4.cell? ⟨g2, 3, none⟩ = some (.int .i64 h) := (blk_cell BKg2.out 3).trans rfl; have hz30 := blk_frozen (BKg2.out) 3; have hq31 : w4.cell? ⟨g2, 4, none⟩ = some (.int .i64 n) := (blk_cell BKg2.out 4).trans rfl; have hz31 := blk_frozen (BKg2.out) 4; have hq32 : w4.cell? ⟨g2, 5, none⟩ = some (.string o) := (blk_cell BKg2.out 5).trans rfl; have hz32 := blk_frozen (BKg2.out) 5; have hq33 : w4.cell? ⟨qx_, 0, none⟩ = some (.int .i64 x) := (blk_cell BKqx_.out 0).trans rfl; have hz33 := blk_frozen (BKqx_.out) 0; have hq34 : w4.cell? ⟨g4, 0, none⟩ = some (.slice none 0 0) := (blk_cell BKg4.out 0).trans rfl; have hz34 := blk_frozen (BKg4.out) 0; have hq35 : w4.cell? ⟨g4, 1, none⟩ = some (.slice none 0 0) := (blk_cell BKg4.out 1).trans rfl; have hz35 := blk_frozen (BKg4.out) 1; have hq36 : w4.cell? ⟨g4, 2, none⟩ = some (.slice none 0 0) := (blk_cell BKg4.out 2).trans rfl; have hz36 := blk_frozen (BKg4.out) 2; have hq37 : w4.cell? ⟨g4, 3, none⟩ = some (.int .i64 0) := (blk_cell BKg4.out 3).trans rfl; have hz37 := blk_frozen (BKg4.out) 3; have hq38 : w4.cell? ⟨g4, 4, none⟩ = some (.int .i64 0) := (blk_cell BKg4.out 4).trans rfl; have hz38 := blk_frozen (BKg4.out) 4; have hq39 : w4.cell? ⟨g4, 5, none⟩ = some (.string (⟨#[]⟩ : ByteArray)) := (blk_cell BKg4.out 5).trans rfl; have hz39 := blk_frozen (BKg4.out) 5)
  | (go_at_call 57; refine (changed_both w4 69 Try.f69 #[.pointer (some ⟨qx_, 0, none⟩)] Try.func69 rfl rfl A0 c0 A1 c1 A2 c2 s b c h n o (Kd.C_below HR0.out HB.out) HC0.out (Kd.C_below HR1.out HB.out) HC1.out (Kd.C_below HR2.out HB.out) HC2.out HCO.out t s' b' c' h' n' o' rs rb rc rh rn ro (fun W0 W g B0 d0 B1 d1 B2 d2 hb0 hh => HCL.out qx_ W0 W g B0 d0 B1 d1 B2 d2 hh (pw_cell_below hh.below (pw_cell_below hb0 ((blk_cell BKqx_.out 0).trans rfl)))) HSEL.out).mono ?_; rintro e w5 ⟨v0, v1, v2, rfl, x0, x1, x2, hb⟩; have X0 := Aside0.mk (Kd.R_lower x0 (below_size HB.out)); have X1 := Aside0.mk (Kd.R_lower x1 (below_size HB.out)); have X2 := Aside0.mk (Kd.R_lower x2 (below_size HB.out)); clear x0 x1 x2; replace BKg2 := Aside0.mk (blk_below BKg2.out hb); replace BKqx_ := Aside0.mk (blk_below BKqx_.out hb); replace BKg4 := Aside0.mk (blk_below BKg4.out hb); replace HB := Aside0.mk (below_step HB.out hb); clear hb; obtain ⟨E0, f0, e0⟩ := Kd.R_slice X0.out; subst e0; obtain ⟨E1, f1, e1⟩ := Kd.R_slice X1.out; subst e1; obtain ⟨E2, f2, e2⟩ := Kd.R_slice X2.out; subst e2)
  | ((with_reducible refine gate_dst (N := 8) rfl ?_); refine box_event ?hg (N := 8) ?hd (cs := #[.slice none 0 0, .slice none 0 0, .slice none 0 0, .int .i64 0, .int .i64 0, .string (⟨#[]⟩ : ByteArray)]) (t := 24) ?hr ?_; (case hd => rfl); (case hg => rfl); (case hr => first | (go_simp; done) | (go_simp; rfl)); intro g8 hg w6 hbox hb; have BKg8 := Aside0.mk hbox; have GEg8 := Aside0.mk (show w.heap.size ≤ g8 by rw [hg]; exact (below_size HB.out)); have neg8_g2 : g8 ≠ g2 := (by rw [hg]; exact Nat.ne_of_gt (blk_lt BKg2.out)); have neg2_g8 : g2 ≠ g8 := neg8_g2.symm; have neg8_qx_ : g8 ≠ qx_ := (by rw [hg]; exact Nat.ne_of_gt (blk_lt BKqx_.out)); have neqx__g8 : qx_ ≠ g8 := neg8_qx_.symm; have neg8_g4 : g8 ≠ g4 := (by rw [hg]; exact Nat.ne_of_gt (blk_lt BKg4.out)); have neg4_g8 : g4 ≠ g8 := neg8_g4.symm; replace BKg2 := Aside0.mk (blk_below BKg2.out hb); replace BKqx_ := Aside0.mk (blk_below BKqx_.out hb); replace BKg4 := Aside0.mk (blk_below BKg4.out hb); replace X0 := Aside0.mk (Kd.R_below X0.out hb); replace X1 := Aside0.mk (Kd.R_below X1.out hb); replace X2 := Aside0.mk (Kd.R_below X2.out hb); replace HB := Aside0.mk (below_step HB.out hb); clear hg hbox hb; have hq40 : w6.cell? ⟨g2, 0, none⟩ = some (.slice A0 s.length c0) := (blk_cell BKg2.out 0).trans rfl; have hz40 := blk_frozen (BKg2.out) 0; have hq41 : w6.cell? ⟨g2, 1, none⟩ = some (.slice A1 b.length c1) := (blk_cell BKg2.out 1).trans rfl; have hz41 := blk_frozen (BKg2.out) 1; have hq42 : w6.cell? ⟨g2, 2, none⟩ = some (.slice A2 c.length c2) := (blk_cell BKg2.out 2).trans rfl; have hz42 := blk_frozen (BKg2.out) 2; have hq43 : w6.cell? ⟨g2, 3, none⟩ = some (.int .i64 h) := (blk_cell BKg2.out 3).trans rfl; have hz43 := blk_frozen (BKg2.out) 3; have hq44 : w6.cell? ⟨g2, 4, none⟩ = some (.int .i64 n) := (blk_cell BKg2.out 4).trans rfl; have hz44 := blk_frozen (BKg2.out) 4; have hq45 : w6.cell? ⟨g2, 5, none⟩ = some (.string o) := (blk_cell BKg2.out 5).trans rfl; have hz45 := blk_frozen (BKg2.out) 5; have hq46 : w6.cell? ⟨qx_, 0, none⟩ = some (.int .i64 x) := (blk_cell BKqx_.out 0).trans rfl; have hz46 := blk_frozen (BKqx_.out) 0; have hq47 : w6.cell? ⟨g4, 0, none⟩ = some (.slice none 0 0) := (blk_cell BKg4.out 0).trans rfl; have hz47 := blk_frozen (BKg4.out) 0; have hq48 : w6.cell? ⟨g4, 1, none⟩ = some (.slice none 0 0) := (blk_cell BKg4.out 1).trans rfl; have hz48 := blk_frozen (BKg4.out) 1; have hq49 : w6.cell? ⟨g4, 2, none⟩ = some (.slice none 0 0) := (blk_cell BKg4.out 2).trans rfl; have hz49 := blk_frozen (BKg4.out) 2; have hq50 : w6.cell? ⟨g4, 3, none⟩ = some (.int .i64 0) := (blk_cell BKg4.out 3).trans rfl; have hz50 := blk_frozen (BKg4.out) 3; have hq51 : w6.cell? ⟨g4, 4, none⟩ = some (.int .i64 0) := (blk_cell BKg4.out 4).trans rfl; have hz51 := blk_frozen (BKg4.out) 4; have hq52 : w6.cell? ⟨g4, 5, none⟩ = some (.string (⟨#[]⟩ : ByteArray)) := (blk_cell BKg4.out 5).trans rfl; have hz52 := blk_frozen (BKg4.out) 5; have hq53 : w6.cell? ⟨g8, 0, none⟩ = some (.slice none 0 0) := (blk_cell BKg8.out 0).trans rfl; have hz53 := blk_frozen (BKg8.out) 0; have hq54 : w6.cell? ⟨g8, 1, none⟩ = some (.slice none 0 0) := (blk_cell BKg8.out 1).trans rfl; have hz54 := blk_frozen (BKg8.out) 1; have hq55 : w6.cell? ⟨g8, 2, none⟩ = some (.slice none 0 0) := (blk_cell BKg8.out 2).trans rfl; have hz55 := blk_frozen (BKg8.out) 2; have hq56 : w6.cell? ⟨g8, 3, none⟩ = some (.int .i64 0) := (blk_cell BKg8.out 3).trans rfl; have hz56 := blk_frozen (BKg8.out) 3; have hq57 : w6.cell? ⟨g8, 4, none⟩ = some (.int .i64 0) := (blk_cell BKg8.out 4).trans rfl; have hz57 := blk_frozen (BKg8.out) 4; have hq58 : w6.cell? ⟨g8, 5, none⟩ = some (.string (⟨#[]⟩ : ByteArray)) := (blk_cell BKg8.out 5).trans rfl; have hz58 := blk_frozen (BKg8.out) 5))
 have a1 := blk_put BKg8.out 0 (.slice E0 rs.length f0) rfl
 have a2 := blk_put a1 1 (.slice E1 rb.length f1) rfl
 have a3 := blk_put a2 2 (.slice E2 rc.length f2) rfl
 have a4 := blk_put a3 3 (.int .i64 rh) rfl
 have a5 := blk_put a4 4 (.int .i64 rn) rfl
 have a6 := blk_put a5 5 (.string ro) rfl
 have d0 : ((((((w6.setCell ⟨g8, 0, none⟩ (.slice E0 rs.length f0)).setCell ⟨g8, 1, none⟩ (.slice E1 rb.length f1)).setCell ⟨g8, 2, none⟩ (.slice E2 rc.length f2)).setCell ⟨g8, 3, none⟩ (.int .i64 rh)).setCell ⟨g8, 4, none⟩ (.int .i64 rn)).setCell ⟨g8, 5, none⟩ (.string ro)).heap[g4]? = some (.cells #[.slice none 0 0, .slice none 0 0, .slice none 0 0, .int .i64 0, .int .i64 0, .string (⟨#[]⟩ : ByteArray)] 24 (0, 0)) := (blk_far (blk_far (blk_far (blk_far (blk_far (blk_far BKg4.out neg4_g8 _) neg4_g8 _) neg4_g8 _) neg4_g8 _) neg4_g8 _) neg4_g8 _)
 have d1 := blk_put d0 0 (.slice E0 rs.length f0) rfl
 have d2 := blk_put d1 1 (.slice E1 rb.length f1) rfl
 have d3 := blk_put d2 2 (.slice E2 rc.length f2) rfl
 have d4 := blk_put d3 3 (.int .i64 rh) rfl
 have d5 := blk_put d4 4 (.int .i64 rn) rfl
 have d6 := blk_put d5 5 (.string ro) rfl
 have rows : ∀ {ok : Nat → Prop} {v : Value} {xs : List Int}, Kd.R (Kd.int .i64) 3 w6 w.heap.size ok v xs → Kd.R (Kd.int .i64) 3 ((((((((((((w6.setCell ⟨g8, 0, none⟩ (.slice E0 rs.length f0)).setCell ⟨g8, 1, none⟩ (.slice E1 rb.length f1)).setCell ⟨g8, 2, none⟩ (.slice E2 rc.length f2)).setCell ⟨g8, 3, none⟩ (.int .i64 rh)).setCell ⟨g8, 4, none⟩ (.int .i64 rn)).setCell ⟨g8, 5, none⟩ (.string ro)).setCell ⟨g4, 0, none⟩ (.slice E0 rs.length f0)).setCell ⟨g4, 1, none⟩ (.slice E1 rb.length f1)).setCell ⟨g4, 2, none⟩ (.slice E2 rc.length f2)).setCell ⟨g4, 3, none⟩ (.int .i64 rh)).setCell ⟨g4, 4, none⟩ (.int .i64 rn)).setCell ⟨g4, 5, none⟩ (.string ro)) w.heap.size ok v xs := fun hh => (Held.rows_set d5 (Held.rows_set d4 (Held.rows_set d3 (Held.rows_set d2 (Held.rows_set d1 (Held.rows_set d0 (Held.rows_set a5 (Held.rows_set a4 (Held.rows_set a3 (Held.rows_set a2 (Held.rows_set a1 (Held.rows_set BKg8.out hh))))))))))))
 refine bodyPost_ret (results_ctt rfl _ _ g4 24 #[.slice E0 rs.length f0, .slice E1 rb.length f1, .slice E2 rc.length f2, .int .i64 rh, .int .i64 rn, .string ro] (0, 0) _ rfl d6 Try.underlying24 rfl (by kernel_rfl)) rfl ?_
 exact ⟨_, _, _, rfl, rows X0.out, rows X1.out, rows X2.out, (below_set (below_set (below_set (below_set (below_set (below_set (below_set (below_set (below_set (below_set (below_set (below_set HB.out GEg8.out) GEg8.out) GEg8.out) GEg8.out) GEg8.out) GEg8.out) GEg4.out) GEg4.out) GEg4.out) GEg4.out) GEg4.out) GEg4.out)⟩

set_option maxHeartbeats 8000000 in
set_option maxRecDepth 100000 in
theorem AllotCells_code (k : Nat) (A0 : Option Addr) (c0 : Nat) (A1 : Option Addr) (c1 : Nat) (A2 : Option Addr) (c2 : Nat) (s b c : List Int) (h n : Int) (o : ByteArray) (x : Int) (code : Int) (w : World) (hr0 : Kd.C (Kd.int .i64) w A0 s.length s) (hc0 : s.length ≤ c0) (hr1 : Kd.C (Kd.int .i64) w A1 b.length b) (hc1 : b.length ≤ c1) (hr2 : Kd.C (Kd.int .i64) w A2 c.length c) (hc2 : c.length ≤ c2) (hk : impl_dataCode.f k s b c h n o x = some code) (ht : ¬ code = 0) :
  Calls Try.prog 34 #[.agg #[.slice A0 s.length c0, .slice A1 b.length c1, .slice A2 c.length c2, .int .i64 h, .int .i64 n, .string o], .int .i64 x] w fun e w' => ∃ v0 v1 v2 : Value, e = .returned (.tuple #[.agg #[v0, v1, v2, .int .i64 0, .int .i64 0, .string (⟨#[]⟩ : ByteArray)], .int .i64 0, .int .i64 code]) ∧ Kd.R (Kd.int .i64) 3 w' w.heap.size (fun k_ => some k_ ≠ (v1 : Value).ownBlock ∧ some k_ ≠ (v2 : Value).ownBlock) v0 ([] : List Int) ∧ Kd.R (Kd.int .i64) 3 w' w.heap.size (fun k_ => some k_ ≠ (v0 : Value).ownBlock ∧ some k_ ≠ (v2 : Value).ownBlock) v1 ([] : List Int) ∧ Kd.R (Kd.int .i64) 3 w' w.heap.size (fun k_ => some k_ ≠ (v0 : Value).ownBlock ∧ some k_ ≠ (v1 : Value).ownBlock) v2 ([] : List Int) ∧ Below w.heap.size w w' := by
 have hu24 := Try.underlying24
 have HR0 := Aside0.mk hr0
 have HR1 := Aside0.mk hr1
 have HR2 := Aside0.mk hr2
 have HC0 := Aside0.mk hc0
 have HC1 := Aside0.mk hc1
 have HC2 := Aside0.mk hc2
 have HB := Aside0.mk (Below.refl w.heap.size w)
 have HK := Aside0.mk hk
 have ht0 : (code == 0) = false := beq_eq_false_iff_ne.mpr ht
 have ht1 : (code != 0) = true := bne_iff_ne.mpr ht
 clear hr0 hr1 hr2 hc0 hc1 hc2 hk ht
 go_enter Try.func34, Try.ntmps34
 go_wp2_with (first
  | ((with_reducible refine gate_dst (N := 2) rfl ?_); refine box_event ?hg (N := 2) ?hd (cs := #[.slice A0 s.length c0, .slice A1 b.length c1, .slice A2 c.length c2, .int .i64 h, .int .i64 n, .string o]) (t := 24) ?hr ?_; (case hd => rfl); (case hg => rfl); (case hr => first | (go_simp; done) | (go_simp; rfl)); intro g2 hg w1 hbox hb; have BKg2 := Aside0.mk hbox; have GEg2 := Aside0.mk (show w.heap.size ≤ g2 by rw [hg]; exact (below_size HB.out)); replace HB := Aside0.mk (below_step HB.out hb); clear hg hbox hb; have hq1 : w1.cell? ⟨g2, 0, none⟩ = some (.slice A0 s.length c0) := (blk_cell BKg2.out 0).trans rfl; have hz1 := blk_frozen (BKg2.out) 0; have hq2 : w1.cell? ⟨g2, 1, none⟩ = some (.slice A1 b.length c1) := (blk_cell BKg2.out 1).trans rfl; have hz2 := blk_frozen (BKg2.out) 1; have hq3 : w1.cell? ⟨g2, 2, none⟩ = some (.slice A2 c.length c2) := (blk_cell BKg2.out 2).trans rfl; have hz3 := blk_frozen (BKg2.out) 2; have hq4 : w1.cell? ⟨g2, 3, none⟩ = some (.int .i64 h) := (blk_cell BKg2.out 3).trans rfl; have hz4 := blk_frozen (BKg2.out) 3; have hq5 : w1.cell? ⟨g2, 4, none⟩ = some (.int .i64 n) := (blk_cell BKg2.out 4).trans rfl; have hz5 := blk_frozen (BKg2.out) 4; have hq6 : w1.cell? ⟨g2, 5, none⟩ = some (.string o) := (blk_cell BKg2.out 5).trans rfl; have hz6 := blk_frozen (BKg2.out) 5)
  | ((with_reducible refine gate_dst (N := 3) rfl ?_); refine box_event ?hg (N := 3) ?hd (cs := #[.int .i64 x]) (t := 3) ?hr ?_; (case hd => rfl); (case hg => rfl); (case hr => first | (go_simp; done) | (go_simp; rfl)); intro qx_ hg w2 hbox hb; have BKqx_ := Aside0.mk hbox; have GEqx_ := Aside0.mk (show w.heap.size ≤ qx_ by rw [hg]; exact (below_size HB.out)); have neqx__g2 : qx_ ≠ g2 := (by rw [hg]; exact Nat.ne_of_gt (blk_lt BKg2.out)); have neg2_qx_ : g2 ≠ qx_ := neqx__g2.symm; replace BKg2 := Aside0.mk (blk_below BKg2.out hb); replace HB := Aside0.mk (below_step HB.out hb); clear hg hbox hb; have hq7 : w2.cell? ⟨g2, 0, none⟩ = some (.slice A0 s.length c0) := (blk_cell BKg2.out 0).trans rfl; have hz7 := blk_frozen (BKg2.out) 0; have hq8 : w2.cell? ⟨g2, 1, none⟩ = some (.slice A1 b.length c1) := (blk_cell BKg2.out 1).trans rfl; have hz8 := blk_frozen (BKg2.out) 1; have hq9 : w2.cell? ⟨g2, 2, none⟩ = some (.slice A2 c.length c2) := (blk_cell BKg2.out 2).trans rfl; have hz9 := blk_frozen (BKg2.out) 2; have hq10 : w2.cell? ⟨g2, 3, none⟩ = some (.int .i64 h) := (blk_cell BKg2.out 3).trans rfl; have hz10 := blk_frozen (BKg2.out) 3; have hq11 : w2.cell? ⟨g2, 4, none⟩ = some (.int .i64 n) := (blk_cell BKg2.out 4).trans rfl; have hz11 := blk_frozen (BKg2.out) 4; have hq12 : w2.cell? ⟨g2, 5, none⟩ = some (.string o) := (blk_cell BKg2.out 5).trans rfl; have hz12 := blk_frozen (BKg2.out) 5; have hq13 : w2.cell? ⟨qx_, 0, none⟩ = some (.int .i64 x) := (blk_cell BKqx_.out 0).trans rfl; have hz13 := blk_frozen (BKqx_.out) 0)
  | ((with_reducible refine gate_dst (N := 4) rfl ?_); refine box_event ?hg (N := 4) ?hd (cs := #[.slice none 0 0, .slice none 0 0, .slice none 0 0, .int .i64 0, .int .i64 0, .string (⟨#[]⟩ : ByteArray)]) (t := 24) ?hr ?_; (case hd => rfl); (case hg => rfl); (case hr => first | (go_simp; done) | (go_simp; rfl)); intro g4 hg w3 hbox hb; have BKg4 := Aside0.mk hbox; have GEg4 := Aside0.mk (show w.heap.size ≤ g4 by rw [hg]; exact (below_size HB.out)); have neg4_g2 : g4 ≠ g2 := (by rw [hg]; exact Nat.ne_of_gt (blk_lt BKg2.out)); have neg2_g4 : g2 ≠ g4 := neg4_g2.symm; have neg4_qx_ : g4 ≠ qx_ := (by rw [hg]; exact Nat.ne_of_gt (blk_lt BKqx_.out)); have neqx__g4 : qx_ ≠ g4 := neg4_qx_.symm; replace BKg2 := Aside0.mk (blk_below BKg2.out hb); replace BKqx_ := Aside0.mk (blk_below BKqx_.out hb); replace HB := Aside0.mk (below_step HB.out hb); clear hg hbox hb; have hq14 : w3.cell? ⟨g2, 0, none⟩ = some (.slice A0 s.length c0) := (blk_cell BKg2.out 0).trans rfl; have hz14 := blk_frozen (BKg2.out) 0; have hq15 : w3.cell? ⟨g2, 1, none⟩ = some (.slice A1 b.length c1) := (blk_cell BKg2.out 1).trans rfl; have hz15 := blk_frozen (BKg2.out) 1; have hq16 : w3.cell? ⟨g2, 2, none⟩ = some (.slice A2 c.length c2) := (blk_cell BKg2.out 2).trans rfl; have hz16 := blk_frozen (BKg2.out) 2; have hq17 : w3.cell? ⟨g2, 3, none⟩ = some (.int .i64 h) := (blk_cell BKg2.out 3).trans rfl; have hz17 := blk_frozen (BKg2.out) 3; have hq18 : w3.cell? ⟨g2, 4, none⟩ = some (.int .i64 n) := (blk_cell BKg2.out 4).trans rfl; have hz18 := blk_frozen (BKg2.out) 4; have hq19 : w3.cell? ⟨g2, 5, none⟩ = some (.string o) := (blk_cell BKg2.out 5).trans rfl; have hz19 := blk_frozen (BKg2.out) 5; have hq20 : w3.cell? ⟨qx_, 0, none⟩ = some (.int .i64 x) := (blk_cell BKqx_.out 0).trans rfl; have hz20 := blk_frozen (BKqx_.out) 0; have hq21 : w3.cell? ⟨g4, 0, none⟩ = some (.slice none 0 0) := (blk_cell BKg4.out 0).trans rfl; have hz21 := blk_frozen (BKg4.out) 0; have hq22 : w3.cell? ⟨g4, 1, none⟩ = some (.slice none 0 0) := (blk_cell BKg4.out 1).trans rfl; have hz22 := blk_frozen (BKg4.out) 1; have hq23 : w3.cell? ⟨g4, 2, none⟩ = some (.slice none 0 0) := (blk_cell BKg4.out 2).trans rfl; have hz23 := blk_frozen (BKg4.out) 2; have hq24 : w3.cell? ⟨g4, 3, none⟩ = some (.int .i64 0) := (blk_cell BKg4.out 3).trans rfl; have hz24 := blk_frozen (BKg4.out) 3; have hq25 : w3.cell? ⟨g4, 4, none⟩ = some (.int .i64 0) := (blk_cell BKg4.out 4).trans rfl; have hz25 := blk_frozen (BKg4.out) 4; have hq26 : w3.cell? ⟨g4, 5, none⟩ = some (.string (⟨#[]⟩ : ByteArray)) := (blk_cell BKg4.out 5).trans rfl; have hz26 := blk_frozen (BKg4.out) 5)
  | (go_at_call 65; (with_reducible refine (impl_dataCode.calls k A0 c0 s A1 c1 b A2 c2 c h n o x code w3 (Kd.C_below HR0.out HB.out) HC0.out (Kd.C_below HR1.out HB.out) HC1.out (Kd.C_below HR2.out HB.out) HC2.out HK.out).mono ?_); rintro e w4 ⟨rfl, hb⟩; replace BKg2 := Aside0.mk (blk_below BKg2.out hb); replace BKqx_ := Aside0.mk (blk_below BKqx_.out hb); replace BKg4 := Aside0.mk (blk_below BKg4.out hb); replace HB := Aside0.mk (below_step HB.out hb); clear hb; have hq27 : w4.cell? ⟨g2, 0, none⟩ = some (.slice A0 s.length c0) := (blk_cell BKg2.out 0).trans rfl; have hz27 := blk_frozen (BKg2.out) 0; have hq28 : w4.cell? ⟨g2, 1, none⟩ = some (.slice A1 b.length c1) := (blk_cell BKg2.out 1).trans rfl; have hz28 := blk_frozen (BKg2.out) 1; have hq29 : w4.cell? ⟨g2, 2, none⟩ = some (.slice A2 c.length c2) := (blk_cell BKg2.out 2).trans rfl; have hz29 := blk_frozen (BKg2.out) 2; have hq30 : w4.cell? ⟨g2, 3, none⟩ = some (.int .i64 h) := (blk_cell BKg2.out 3).trans rfl; have hz30 := blk_frozen (BKg2.out) 3; have hq31 : w4.cell? ⟨g2, 4, none⟩ = some (.int .i64 n) := (blk_cell BKg2.out 4).trans rfl; have hz31 := blk_frozen (BKg2.out) 4; have hq32 : w4.cell? ⟨g2, 5, none⟩ = some (.string o) := (blk_cell BKg2.out 5).trans rfl; have hz32 := blk_frozen (BKg2.out) 5; have hq33 : w4.cell? ⟨qx_, 0, none⟩ = some (.int .i64 x) := (blk_cell BKqx_.out 0).trans rfl; have hz33 := blk_frozen (BKqx_.out) 0; have hq34 : w4.cell? ⟨g4, 0, none⟩ = some (.slice none 0 0) := (blk_cell BKg4.out 0).trans rfl; have hz34 := blk_frozen (BKg4.out) 0; have hq35 : w4.cell? ⟨g4, 1, none⟩ = some (.slice none 0 0) := (blk_cell BKg4.out 1).trans rfl; have hz35 := blk_frozen (BKg4.out) 1; have hq36 : w4.cell? ⟨g4, 2, none⟩ = some (.slice none 0 0) := (blk_cell BKg4.out 2).trans rfl; have hz36 := blk_frozen (BKg4.out) 2; have hq37 : w4.cell? ⟨g4, 3, none⟩ = some (.int .i64 0) := (blk_cell BKg4.out 3).trans rfl; have hz37 := blk_frozen (BKg4.out) 3; have hq38 : w4.cell? ⟨g4, 4, none⟩ = some (.int .i64 0) := (blk_cell BKg4.out 4).trans rfl; have hz38 := blk_frozen (BKg4.out) 4; have hq39 : w4.cell? ⟨g4, 5, none⟩ = some (.string (⟨#[]⟩ : ByteArray)) := (blk_cell BKg4.out 5).trans rfl; have hz39 := blk_frozen (BKg4.out) 5))
 have d1 := blk_put BKg4.out 0 (.slice none 0 0) rfl
 have d2 := blk_put d1 1 (.slice none 0 0) rfl
 have d3 := blk_put d2 2 (.slice none 0 0) rfl
 have d4 := blk_put d3 3 (.int .i64 0) rfl
 have d5 := blk_put d4 4 (.int .i64 0) rfl
 have d6 := blk_put d5 5 (.string (⟨#[]⟩ : ByteArray)) rfl
 refine bodyPost_ret (results_ctt rfl _ _ g4 24 #[.slice none 0 0, .slice none 0 0, .slice none 0 0, .int .i64 0, .int .i64 0, .string (⟨#[]⟩ : ByteArray)] (0, 0) _ rfl d6 Try.underlying24 rfl (by kernel_rfl)) rfl ?_
 exact ⟨_, _, _, rfl, Kd.R_nil _ _ _ _ _, Kd.R_nil _ _ _ _ _, Kd.R_nil _ _ _ _ _, (below_set (below_set (below_set (below_set (below_set (below_set HB.out GEg4.out) GEg4.out) GEg4.out) GEg4.out) GEg4.out) GEg4.out)⟩
def impl_AllotCells.f (k : Nat) (s b c : List Int) (h n : Int) (o : ByteArray) (x : Int) : Option (List Int × List Int × List Int × Int × Int × ByteArray × Int × Int) := (impl_dataCode.f k s b c h n o x).bind fun t => if t = 0 then ((impl_Data_copied.f s b c h n o).bind fun _ => if -100 ≤ h then (if wrap64 (h + wrap64 (Int.tdiv x 4)) = h + Int.tdiv x 4 then (if Int.tmod x 4 = 0 then ((impl_in.f (h + Int.tdiv x 4) 0 32).bind fun i => if i = true then (if h + Int.tdiv x 4 ≤ 32 then ((allotZ k c h (h + Int.tdiv x 4)).bind fun c' => some (s, b, c', h + Int.tdiv x 4, n, o, 0, 0)) else none) else some (s, b, c, h, n, o, -8, 0)) else some (s, b, c, h, n, o, -8, 0)) else none) else none) else some ([], [], [], 0, 0, ⟨#[]⟩, 0, t)
theorem allotZ.mono : ∀ k c j e, LeO (allotZ k c j e) (allotZ (k + 1) c j e) := by
 intro k
 induction k with
 | zero => intro c j e r h; simp [allotZ] at h
 | succ k ih =>
  intro c j e r h
  rw [allotZ] at h ⊢
  by_cases c3 : j < e
  ·rw [if_pos c3] at h ⊢
   by_cases c4 : 0 ≤ j
   ·rw [if_pos c4] at h ⊢
    by_cases c5 : j < (c.length : Int)
    ·rw [if_pos c5] at h ⊢
     exact ih _ _ _ r h
    ·rw [if_neg c5] at h
     cases h
   ·rw [if_neg c4] at h
    cases h
  ·rw [if_neg c3] at h ⊢
   exact h
theorem impl_AllotCells.mono : ∀ a0 a1 a2 a3 a4 a5 a6 k, LeO (impl_AllotCells.f k a0 a1 a2 a3 a4 a5 a6) (impl_AllotCells.f (k + 1) a0 a1 a2 a3 a4 a5 a6) := by
 intro a0 a1 a2 a3 a4 a5 a6 k
 unfold impl_AllotCells.f
 refine LeO.bind (impl_dataCode.mono _ _ _ _ _ _ _ _) (fun t => ?_)
 by_cases ht : t = 0
 ·rw [if_pos ht, if_pos ht]
  refine LeO.bind (LeO.refl _) (fun _ => ?_)
  by_cases h1 : -100 ≤ a3
  ·rw [if_pos h1, if_pos h1]
   by_cases h2 : wrap64 (a3 + wrap64 (Int.tdiv a6 4)) = a3 + Int.tdiv a6 4
   ·rw [if_pos h2, if_pos h2]
    by_cases h3 : Int.tmod a6 4 = 0
    ·rw [if_pos h3, if_pos h3]
     refine LeO.bind (LeO.refl _) (fun i => ?_)
     by_cases h4 : i = true
     ·rw [if_pos h4, if_pos h4]
      by_cases h5 : a3 + Int.tdiv a6 4 ≤ 32
      ·rw [if_pos h5, if_pos h5]
       exact LeO.bind (allotZ.mono _ _ _ _) (fun _ => LeO.refl _)
      ·rw [if_neg h5, if_neg h5]
       exact LeO.refl _
     ·rw [if_neg h4, if_neg h4]
      exact LeO.refl _
    ·rw [if_neg h3, if_neg h3]
     exact LeO.refl _
   ·rw [if_neg h2, if_neg h2]
    exact LeO.refl _
  ·rw [if_neg h1, if_neg h1]
   exact LeO.refl _
 ·rw [if_neg ht, if_neg ht]
  exact LeO.refl _
theorem impl_AllotCells.calls (k : Nat) (A0_0 : Option Addr) (c0_0 : Nat) (l0_0 : List Int) (A0_1 : Option Addr) (c0_1 : Nat) (l0_1 : List Int) (A0_2 : Option Addr) (c0_2 : Nat) (l0_2 : List Int) (a0_3 : Int) (a0_4 : Int) (a0_5 : ByteArray) (a1 : Int) (r1 : List Int) (r2 : List Int) (r3 : List Int) (r4 : Int) (r5 : Int) (r6 : ByteArray) (r7 : Int) (r8 : Int) (w : World) (hr0_0 : Kd.C (Kd.int .i64) w A0_0 l0_0.length l0_0) (hc0_0 : l0_0.length ≤ c0_0) (hr0_1 : Kd.C (Kd.int .i64) w A0_1 l0_1.length l0_1) (hc0_1 : l0_1.length ≤ c0_1) (hr0_2 : Kd.C (Kd.int .i64) w A0_2 l0_2.length l0_2) (hc0_2 : l0_2.length ≤ c0_2) (h : impl_AllotCells.f k l0_0 l0_1 l0_2 a0_3 a0_4 a0_5 a1 = some (r1, r2, r3, r4, r5, r6, r7, r8)) :
  Calls Try.prog 34 #[.agg #[.slice A0_0 l0_0.length c0_0, .slice A0_1 l0_1.length c0_1, .slice A0_2 l0_2.length c0_2, .int .i64 a0_3, .int .i64 a0_4, .string a0_5], .int .i64 a1] w fun e w' => ∃ v0_ v1_ v2_ : Value, e = .returned (.tuple #[.agg #[v0_, v1_, v2_, .int .i64 r4, .int .i64 r5, .string r6], .int .i64 r7, .int .i64 r8]) ∧ Kd.R (Kd.int .i64) 3 w' w.heap.size (fun k_ => some k_ ≠ (v1_ : Value).ownBlock ∧ some k_ ≠ (v2_ : Value).ownBlock) v0_ r1 ∧ Kd.R (Kd.int .i64) 3 w' w.heap.size (fun k_ => some k_ ≠ (v0_ : Value).ownBlock ∧ some k_ ≠ (v2_ : Value).ownBlock) v1_ r2 ∧ Kd.R (Kd.int .i64) 3 w' w.heap.size (fun k_ => some k_ ≠ (v0_ : Value).ownBlock ∧ some k_ ≠ (v1_ : Value).ownBlock) v2_ r3 ∧ Below w.heap.size w w' := by
 unfold impl_AllotCells.f at h
 obtain ⟨t, A2, H⟩ := Option.bind_eq_some_iff.mp h
 by_cases c1 : t = 0
 ·rw [if_pos c1] at H
  subst c1
  obtain ⟨d, A3, H⟩ := Option.bind_eq_some_iff.mp H
  by_cases h1 : -100 ≤ a0_3
  ·rw [if_pos h1] at H
   by_cases h2 : wrap64 (a0_3 + wrap64 (Int.tdiv a1 4)) = a0_3 + Int.tdiv a1 4
   ·rw [if_pos h2] at H
    have no : (¬ Int.tmod a1 4 = 0 ∨ (Int.tmod a1 4 = 0 ∧ impl_in.f (a0_3 + Int.tdiv a1 4) 0 32 = some false)) → (l0_0, l0_1, l0_2, a0_3, a0_4, a0_5, (-8 : Int), (0 : Int)) = (r1, r2, r3, r4, r5, r6, r7, r8) → Calls Try.prog 34 #[.agg #[.slice A0_0 l0_0.length c0_0, .slice A0_1 l0_1.length c0_1, .slice A0_2 l0_2.length c0_2, .int .i64 a0_3, .int .i64 a0_4, .string a0_5], .int .i64 a1] w fun e w' => ∃ v0_ v1_ v2_ : Value, e = .returned (.tuple #[.agg #[v0_, v1_, v2_, .int .i64 r4, .int .i64 r5, .string r6], .int .i64 r7, .int .i64 r8]) ∧ Kd.R (Kd.int .i64) 3 w' w.heap.size (fun k_ => some k_ ≠ (v1_ : Value).ownBlock ∧ some k_ ≠ (v2_ : Value).ownBlock) v0_ r1 ∧ Kd.R (Kd.int .i64) 3 w' w.heap.size (fun k_ => some k_ ≠ (v0_ : Value).ownBlock ∧ some k_ ≠ (v2_ : Value).ownBlock) v1_ r2 ∧ Kd.R (Kd.int .i64) 3 w' w.heap.size (fun k_ => some k_ ≠ (v0_ : Value).ownBlock ∧ some k_ ≠ (v1_ : Value).ownBlock) v2_ r3 ∧ Below w.heap.size w w' := fun hn e => by
     simp only [Prod.mk.injEq] at e
     obtain ⟨rfl, rfl, rfl, rfl, rfl, rfl, rfl, rfl⟩ := e
     exact AllotCells_run k A0_0 c0_0 A0_1 c0_1 A0_2 c0_2 _ _ _ _ _ _ a1 (-8) _ _ _ _ _ _ _ _ _ _ _ _ w hr0_0 hc0_0 hr0_1 hc0_1 hr0_2 hc0_2 A2 (copied_same A3)
      (fun q W0 W g B0 d0 B1 d1 B2 d2 hh hq => (allot1_no W0 W g q B0 d0 B1 d1 B2 d2 _ _ _ _ _ _ a1 h2 hn hh hq).mono (fun e W' hx => ⟨hx.1, _, _, _, _, _, _, hx.2⟩)) (.inr ⟨by decide, rfl⟩)
    by_cases h3 : Int.tmod a1 4 = 0
    ·rw [if_pos h3] at H
     obtain ⟨i, A4, H⟩ := Option.bind_eq_some_iff.mp H
     cases i with
     | true =>
      rw [if_pos rfl] at H
      by_cases h5 : a0_3 + Int.tdiv a1 4 ≤ 32
      ·rw [if_pos h5] at H
       obtain ⟨c', A5, H⟩ := Option.bind_eq_some_iff.mp H
       simp only [Option.some.injEq, Prod.mk.injEq] at H
       obtain ⟨rfl, rfl, rfl, rfl, rfl, rfl, rfl, rfl⟩ := H
       exact AllotCells_run k A0_0 c0_0 A0_1 c0_1 A0_2 c0_2 _ _ _ _ _ _ a1 0 _ _ _ _ _ _ _ _ _ _ _ _ w hr0_0 hc0_0 hr0_1 hc0_1 hr0_2 hc0_2 A2 (copied_same A3)
        (fun q W0 W g B0 d0 B1 d1 B2 d2 hh hq => (allot1_yes W0 W g q B0 d0 B1 d1 B2 d2 _ _ _ _ _ _ a1 k _ h2 ⟨h5, h1⟩ h3 A4 A5 hh hq).mono (fun e W' hx => ⟨hx.1, by obtain ⟨_, p, q, hy⟩ := hx; exact ⟨_, _, _, _, p, q, hy⟩⟩)) (.inl ⟨rfl, rfl⟩)
      ·rw [if_neg h5] at H
       cases H
     | false =>
      rw [if_neg (by decide)] at H
      exact no (.inr ⟨h3, A4⟩) (Option.some.inj H)
    ·rw [if_neg h3] at H
     exact no (.inl h3) (Option.some.inj H)
   ·rw [if_neg h2] at H
    cases H
  ·rw [if_neg h1] at H
   cases H
 ·rw [if_neg c1] at H
  simp only [Option.some.injEq, Prod.mk.injEq] at H
  obtain ⟨rfl, rfl, rfl, rfl, rfl, rfl, rfl, rfl⟩ := H
  exact AllotCells_code k A0_0 c0_0 A0_1 c0_1 A0_2 c0_2 _ _ _ _ _ _ a1 _ w hr0_0 hc0_0 hr0_1 hc0_1 hr0_2 hc0_2 A2 c1


end Go.Proofs.Ytcelnpmahnblpaa.PFnAllot
