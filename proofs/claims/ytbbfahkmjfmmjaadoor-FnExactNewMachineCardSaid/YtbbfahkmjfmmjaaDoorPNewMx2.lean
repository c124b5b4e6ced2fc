-- laid by a program of this session out of the translation's own print: Lean checks it
import Derived.Test.YtbbfahkmjfmmjaaDoorPNewMx0
namespace Go.Proofs.YtbbfahkmjfmmjaaDoor.PNewM
open Go.RowKit Go.Proofs.YtbbfahkmjfmmjaaDoorW.PrintWords Go.Proofs.YtbbfahkmjfmmjaaDoorW.PrintLast Go.Proofs.YtbbfahkmjfmmjaaDoorW.PrintMore
attribute [local go_sem] max2_int min2_int max_two min_two max_three min_three max_four min_four   -- for this text's walks alone
set_option linter.unusedVariables false
set_option linter.unusedSimpArgs false

theorem cbu_ {w W : World} {g : Nat} {o : Obj} (h : Aside0 (w.heap[g]? = some o)) (u : w.heap[g]? = some o → W.heap[g]? = some o := by intro h; (with_reducible repeat (first | refine blk_drewN ?_ _ | refine blk_drew ?_ | refine blk_alloc ?_ _)); exact h) : W.heap[g]? = some o := u h.out
theorem cbb_ {w W W1 : World} {g : Nat} {o : Obj} (h : Aside0 (w.heap[g]? = some o)) (hb : Below W.heap.size W W1) (u : w.heap[g]? = some o → W.heap[g]? = some o := by intro h; (with_reducible repeat (first | refine blk_drewN ?_ _ | refine blk_drew ?_ | refine blk_alloc ?_ _)); exact h) : W1.heap[g]? = some o := blk_below (u h.out) hb
theorem crs5c_ {α : Type} {d : Kd α} {e base g t : Nat} {w : World} {ok : Nat → Prop} {v : Value} {xs : List α} {cs : Array Value} {a0 a1 a2 a3 a4 : Value} (h : Aside0 (d.R e w base ok v xs)) (hb : Aside0 (w.heap[g]? = some (.cells cs t (0, 0)))) (ht : ∀ q, q ∈ e :: d.E → q ≠ t := by decide) : d.R e (((((w.setCell ⟨g, 0, none⟩ a0).setCell ⟨g, 1, none⟩ a1).setCell ⟨g, 2, none⟩ a2).setCell ⟨g, 3, none⟩ a3).setCell ⟨g, 4, none⟩ a4) base (fun k => ok k ∧ k ≠ g) v xs :=
 (Kd.R_far (p := ⟨g, 4, none⟩) (Kd.R_far (p := ⟨g, 3, none⟩) (Kd.R_far (p := ⟨g, 2, none⟩) (Kd.R_far (p := ⟨g, 1, none⟩) (Kd.R_far (p := ⟨g, 0, none⟩) (Kd.R_types h.out hb.out ht) (fun _ hk => hk.2) a0) (fun _ hk => hk.2) a1) (fun _ hk => hk.2) a2) (fun _ hk => hk.2) a3) (fun _ hk => hk.2) a4)
theorem cru_ {α : Type} {d : Kd α} {e base : Nat} {ok : Nat → Prop} {w W : World} {v : Value} {xs : List α} (h : Aside0 (d.R e w base ok v xs)) (u : d.R e w base ok v xs → d.R e W base ok v xs := by intro h; (with_reducible repeat (first | apply Kd.R_alloc | apply Kd.R_drewN | apply Kd.R_drew)); exact h) : d.R e W base ok v xs := u h.out
theorem cq0_ {p : Prop} (h : p := by repeat (first | (with_reducible first | exact HB.out | apply below_alloc | apply pw_below_drewN | apply below_drew1 | refine below_set ?_ GE153.out) | exact HB.out)) : p := h
theorem cq1_ {p : Prop} (h : p := by (with_reducible repeat (first | apply Kd.R_alloc | apply Kd.R_drewN | apply Kd.R_drew)); exact Kd.R_mono HO159.out (fun _ hk => hk.2)) : p := h
theorem cq2_ {p : Prop} (h : p := by (with_reducible repeat (first | apply Kd.R_alloc | apply Kd.R_drewN | apply Kd.R_drew)); exact Kd.R_mono HO162.out (fun _ hk => hk.2)) : p := h
theorem cq3_ {p : Prop} (h : p := by repeat (first | (with_reducible first | exact HB.out | apply below_alloc | apply pw_below_drewN | apply below_drew1) | exact HB.out)) : p := h
theorem cq4_ {p : Prop} (h : p := by simp) : p := h
/-! ### spec_l06New: function 111 -/
def spec_l06New.f  : Option (List Bool × List Int × List Int × Int × (List (S137))) := if 4 ≤ 281474976710656 then (if 8 ≤ 35184372088832 then (some ((List.replicate 4 false), (List.replicate 8 0), (([] : List Int)), 0, (([] : List (S137))))) else (none)) else (none)
set_option maxHeartbeats 8000000 in
set_option maxRecDepth 100000 in
theorem spec_l06New.calls  (r1 : List Bool) (r2 : List Int) (r3 : List Int) (r4 : Int) (r5 : List (S137)) (w : World) (h : spec_l06New.f  = some (r1, r2, r3, r4, r5)) :
  Calls Tryd.prog 111 #[] w fun e w' => ∃ v0_ v1_ v2_ v4_ : Value, e = .returned (.agg #[v0_, v1_, v2_, .int .i64 r4, v4_]) ∧ Kd.R Kd.bool 4 w' w.heap.size (fun _ => True) v0_ r1 ∧ Kd.R (Kd.int .i64) 3 w' w.heap.size (fun k_ => some k_ ≠ (v2_ : Value).ownBlock) v1_ r2 ∧ Kd.R (Kd.int .i64) 3 w' w.heap.size (fun k_ => some k_ ≠ (v1_ : Value).ownBlock) v2_ r3 ∧ Kd.R k137 137 w' w.heap.size (fun _ => True) v4_ r5 ∧ Below w.heap.size w w' := by
 have hu56 := Tryd.underlying56
 have HB := Aside0.mk (Below.refl w.heap.size w)
 have H : (if 4 ≤ 281474976710656 then (if 8 ≤ 35184372088832 then (some ((List.replicate 4 false), (List.replicate 8 0), (([] : List Int)), 0, (([] : List (S137))))) else (none)) else (none)) = some (r1, r2, r3, r4, r5) := h
 clear h
 by_cases c1 : 4 ≤ 281474976710656
 ·rw [if_pos c1] at H
  have c1b0 := eq_true c1
  have c1b1 : decide (4 ≤ 281474976710656) = true := decide_eq_true c1
  clear c1
  obtain ⟨y154, hy154⟩ : ∃ y_ : List Bool, y_ = (List.replicate 4 false) := ⟨_, rfl⟩
  replace H : (if 8 ≤ 35184372088832 then (some (y154, (List.replicate 8 0), (([] : List Int)), 0, (([] : List (S137))))) else (none)) = some (r1, r2, r3, r4, r5) := by first | (rw [hy154]; with_reducible exact H) | (have H2_ := (Option.bind_some _ _).symm.trans H; rw [hy154]; with_reducible exact H2_) | (have H2_ := (Option.bind_some _ _).symm.trans H; with_reducible exact H2_) | with_reducible exact H | (rw [hy154]; exact H) | exact H
  have Ny154 := Aside0.mk hy154
  clear hy154
  by_cases c2 : 8 ≤ 35184372088832
  ·rw [if_pos c2] at H
   have c2b0 := eq_true c2
   have c2b1 : decide (8 ≤ 35184372088832) = true := decide_eq_true c2
   clear c2
   obtain ⟨y157, hy157⟩ : ∃ y_ : List Int, y_ = (List.replicate 8 0) := ⟨_, rfl⟩
   replace H : (some (y154, y157, (([] : List Int)), 0, (([] : List (S137))))) = some (r1, r2, r3, r4, r5) := by first | (rw [hy157]; with_reducible exact H) | (have H2_ := (Option.bind_some _ _).symm.trans H; rw [hy157]; with_reducible exact H2_) | (have H2_ := (Option.bind_some _ _).symm.trans H; with_reducible exact H2_) | with_reducible exact H | (rw [hy157]; exact H) | exact H
   have Ny157 := Aside0.mk hy157
   clear hy157
   obtain ⟨y160, hy160⟩ : ∃ y_ : List Int, y_ = (([] : List Int)) := ⟨_, rfl⟩
   replace H : (some (y154, y157, y160, 0, (([] : List (S137))))) = some (r1, r2, r3, r4, r5) := by first | (rw [hy160]; with_reducible exact H) | (have H2_ := (Option.bind_some _ _).symm.trans H; rw [hy160]; with_reducible exact H2_) | (have H2_ := (Option.bind_some _ _).symm.trans H; with_reducible exact H2_) | with_reducible exact H | (rw [hy160]; exact H) | exact H
   have Ny160 := Aside0.mk hy160
   clear hy160
   obtain ⟨y163, hy163⟩ : ∃ y_ : List (S137), y_ = (([] : List (S137))) := ⟨_, rfl⟩
   replace H : (some (y154, y157, y160, 0, y163)) = some (r1, r2, r3, r4, r5) := by first | (rw [hy163]; with_reducible exact H) | (have H2_ := (Option.bind_some _ _).symm.trans H; rw [hy163]; with_reducible exact H2_) | (have H2_ := (Option.bind_some _ _).symm.trans H; with_reducible exact H2_) | with_reducible exact H | (rw [hy163]; exact H) | exact H
   have Ny163 := Aside0.mk hy163
   clear hy163
   simp only [Option.some.injEq, Prod.mk.injEq] at H
   obtain ⟨rfl, rfl, rfl, rfl, rfl⟩ := H
   go_enter Tryd.func111, Tryd.ntmps111
   try go_wp2_with (first | ((with_reducible refine gate_dst (N := 0) rfl ?_); refine box_event ?hg (N := 0) ?hd (cs := #[.slice none 0 0, .slice none 0 0, .slice none 0 0, .int .i64 0, .slice none 0 0]) (t := 56) ?hr ?_; (case hd => rfl); (case hg => rfl); (case hr => first | (go_simp; done) | (go_simp; rfl)); intro gb153 hg w3 hbox hb; have n0_ := Aside0.mk (below_step cq3_ hb); have n1_ := Aside0.mk (hbox); have n2_ := Aside0.mk ((by rw [hg]; exact (below_size cq3_) : w.heap.size ≤ gb153)); have n3_ := Aside0.mk ((by rw [hg]; exact (below_size cq3_) : w.heap.size ≤ gb153)); clear HB; have HB := n0_; have BK153 := n1_; have GW153 := n2_; have GE153 := n3_; clear n0_ n1_ n2_ n3_; clear hb hbox hg))
   replace BK153 := Aside0.mk (blk_drew BK153.out)
   replace HB := Aside0.mk (below_drew1 HB.out)
   refine start_ (n := 6) (S := fun w' => True) (ds := []) #[false, false, false, false, false, false] (by kernel_rfl) rfl rfl trivial (fun hHeld => ?_)
   generalize w3.drew = w4 at BK153 HB hHeld ⊢
   refine join_ (σ := Value × Value × Value × Value) 2 #[true, true, true, true, false, false] (fun s_ => [(1, s_.1), (2, s_.2.1), (3, s_.2.2.1), (4, s_.2.2.2)]) (fun s_ w' => (Kd.R Kd.bool 4 w' w.heap.size (fun _ => True) s_.1 y154) ∧ (Kd.R (Kd.int .i64) 3 w' w.heap.size (fun k_ => some k_ ≠ (s_.2.2.1 : Value).ownBlock) s_.2.1 y157) ∧ (Kd.R (Kd.int .i64) 3 w' w.heap.size (fun k_ => some k_ ≠ (s_.2.1 : Value).ownBlock) s_.2.2.1 y160) ∧ (Kd.R k137 137 w' w.heap.size (fun _ => True) s_.2.2.2 y163) ∧ (w'.heap[gb153]? = some (.cells #[.slice none 0 0, .slice none 0 0, .slice none 0 0, .int .i64 0, .slice none 0 0] 56 (0, 0))) ∧ (Below w.heap.size w w')) ?_ ?_
   rotate_left
   ·intro hJ0_1_2_3
    refine join_ (σ := Value × Value × Value) 3 #[true, true, true, false, false, false] (fun s_ => [(1, s_.1), (2, s_.2.1), (3, s_.2.2)]) (fun s_ w' => (Kd.R Kd.bool 4 w' w.heap.size (fun _ => True) s_.1 y154) ∧ (Kd.R (Kd.int .i64) 3 w' w.heap.size (fun k_ => some k_ ≠ (s_.2.2 : Value).ownBlock) s_.2.1 y157) ∧ (Kd.R (Kd.int .i64) 3 w' w.heap.size (fun k_ => some k_ ≠ (s_.2.1 : Value).ownBlock) s_.2.2 y160) ∧ (w'.heap[gb153]? = some (.cells #[.slice none 0 0, .slice none 0 0, .slice none 0 0, .int .i64 0, .slice none 0 0] 56 (0, 0))) ∧ (Below w.heap.size w w')) ?_ ?_
    rotate_left
    ·intro hJ0_1_2
     refine join_ (σ := Value × Value × Value) 3 #[true, true, false, true, false, false] (fun s_ => [(1, s_.1), (2, s_.2.1), (4, s_.2.2)]) (fun s_ w' => (Kd.R Kd.bool 4 w' w.heap.size (fun _ => True) s_.1 y154) ∧ (Kd.R (Kd.int .i64) 3 w' w.heap.size (fun _ => True) s_.2.1 y157) ∧ (Kd.R k137 137 w' w.heap.size (fun _ => True) s_.2.2 y163) ∧ (w'.heap[gb153]? = some (.cells #[.slice none 0 0, .slice none 0 0, .slice none 0 0, .int .i64 0, .slice none 0 0] 56 (0, 0))) ∧ (Below w.heap.size w w')) ?_ ?_
     rotate_left
     ·intro hJ0_1_3
      refine join_ (σ := Value × Value × Value) 3 #[true, false, true, true, false, false] (fun s_ => [(1, s_.1), (3, s_.2.1), (4, s_.2.2)]) (fun s_ w' => (Kd.R Kd.bool 4 w' w.heap.size (fun _ => True) s_.1 y154) ∧ (Kd.R (Kd.int .i64) 3 w' w.heap.size (fun _ => True) s_.2.1 y160) ∧ (Kd.R k137 137 w' w.heap.size (fun _ => True) s_.2.2 y163) ∧ (w'.heap[gb153]? = some (.cells #[.slice none 0 0, .slice none 0 0, .slice none 0 0, .int .i64 0, .slice none 0 0] 56 (0, 0))) ∧ (Below w.heap.size w w')) ?_ ?_
      rotate_left
      ·intro hJ0_2_3
       refine join_ (σ := Value × Value × Value) 3 #[false, true, true, true, false, false] (fun s_ => [(2, s_.1), (3, s_.2.1), (4, s_.2.2)]) (fun s_ w' => (Kd.R (Kd.int .i64) 3 w' w.heap.size (fun k_ => some k_ ≠ (s_.2.1 : Value).ownBlock) s_.1 y157) ∧ (Kd.R (Kd.int .i64) 3 w' w.heap.size (fun k_ => some k_ ≠ (s_.1 : Value).ownBlock) s_.2.1 y160) ∧ (Kd.R k137 137 w' w.heap.size (fun _ => True) s_.2.2 y163) ∧ (w'.heap[gb153]? = some (.cells #[.slice none 0 0, .slice none 0 0, .slice none 0 0, .int .i64 0, .slice none 0 0] 56 (0, 0))) ∧ (Below w.heap.size w w')) ?_ ?_
       rotate_left
       ·intro hJ1_2_3
        refine join_ (σ := Value × Value) 4 #[true, true, false, false, false, false] (fun s_ => [(1, s_.1), (2, s_.2)]) (fun s_ w' => (Kd.R Kd.bool 4 w' w.heap.size (fun _ => True) s_.1 y154) ∧ (Kd.R (Kd.int .i64) 3 w' w.heap.size (fun _ => True) s_.2 y157) ∧ (w'.heap[gb153]? = some (.cells #[.slice none 0 0, .slice none 0 0, .slice none 0 0, .int .i64 0, .slice none 0 0] 56 (0, 0))) ∧ (Below w.heap.size w w')) ?_ ?_
        rotate_left
        ·intro hJ0_1
         refine join_ (σ := Value × Value) 4 #[true, false, true, false, false, false] (fun s_ => [(1, s_.1), (3, s_.2)]) (fun s_ w' => (Kd.R Kd.bool 4 w' w.heap.size (fun _ => True) s_.1 y154) ∧ (Kd.R (Kd.int .i64) 3 w' w.heap.size (fun _ => True) s_.2 y160) ∧ (w'.heap[gb153]? = some (.cells #[.slice none 0 0, .slice none 0 0, .slice none 0 0, .int .i64 0, .slice none 0 0] 56 (0, 0))) ∧ (Below w.heap.size w w')) ?_ ?_
         rotate_left
         ·intro hJ0_2
          refine join_ (σ := Value × Value) 4 #[true, false, false, true, false, false] (fun s_ => [(1, s_.1), (4, s_.2)]) (fun s_ w' => (Kd.R Kd.bool 4 w' w.heap.size (fun _ => True) s_.1 y154) ∧ (Kd.R k137 137 w' w.heap.size (fun _ => True) s_.2 y163) ∧ (w'.heap[gb153]? = some (.cells #[.slice none 0 0, .slice none 0 0, .slice none 0 0, .int .i64 0, .slice none 0 0] 56 (0, 0))) ∧ (Below w.heap.size w w')) ?_ ?_
          rotate_left
          ·intro hJ0_3
           refine join_ (σ := Value × Value) 4 #[false, true, true, false, false, false] (fun s_ => [(2, s_.1), (3, s_.2)]) (fun s_ w' => (Kd.R (Kd.int .i64) 3 w' w.heap.size (fun k_ => some k_ ≠ (s_.2 : Value).ownBlock) s_.1 y157) ∧ (Kd.R (Kd.int .i64) 3 w' w.heap.size (fun k_ => some k_ ≠ (s_.1 : Value).ownBlock) s_.2 y160) ∧ (w'.heap[gb153]? = some (.cells #[.slice none 0 0, .slice none 0 0, .slice none 0 0, .int .i64 0, .slice none 0 0] 56 (0, 0))) ∧ (Below w.heap.size w w')) ?_ ?_
           rotate_left
           ·intro hJ1_2
            refine join_ (σ := Value × Value) 4 #[false, true, false, true, false, false] (fun s_ => [(2, s_.1), (4, s_.2)]) (fun s_ w' => (Kd.R (Kd.int .i64) 3 w' w.heap.size (fun _ => True) s_.1 y157) ∧ (Kd.R k137 137 w' w.heap.size (fun _ => True) s_.2 y163) ∧ (w'.heap[gb153]? = some (.cells #[.slice none 0 0, .slice none 0 0, .slice none 0 0, .int .i64 0, .slice none 0 0] 56 (0, 0))) ∧ (Below w.heap.size w w')) ?_ ?_
            rotate_left
            ·intro hJ1_3
             refine join_ (σ := Value × Value) 4 #[false, false, true, true, false, false] (fun s_ => [(3, s_.1), (4, s_.2)]) (fun s_ w' => (Kd.R (Kd.int .i64) 3 w' w.heap.size (fun _ => True) s_.1 y160) ∧ (Kd.R k137 137 w' w.heap.size (fun _ => True) s_.2 y163) ∧ (w'.heap[gb153]? = some (.cells #[.slice none 0 0, .slice none 0 0, .slice none 0 0, .int .i64 0, .slice none 0 0] 56 (0, 0))) ∧ (Below w.heap.size w w')) ?_ ?_
             rotate_left
             ·intro hJ2_3
              refine join_ (σ := Value) 5 #[true, false, false, false, false, false] (fun s_ => [(1, s_)]) (fun s_ w' => (Kd.R Kd.bool 4 w' w.heap.size (fun _ => True) s_ y154) ∧ (w'.heap[gb153]? = some (.cells #[.slice none 0 0, .slice none 0 0, .slice none 0 0, .int .i64 0, .slice none 0 0] 56 (0, 0))) ∧ (Below w.heap.size w w')) ?_ ?_
              rotate_left
              ·intro hJ0
               refine join_ (σ := Value) 5 #[false, true, false, false, false, false] (fun s_ => [(2, s_)]) (fun s_ w' => (Kd.R (Kd.int .i64) 3 w' w.heap.size (fun _ => True) s_ y157) ∧ (w'.heap[gb153]? = some (.cells #[.slice none 0 0, .slice none 0 0, .slice none 0 0, .int .i64 0, .slice none 0 0] 56 (0, 0))) ∧ (Below w.heap.size w w')) ?_ ?_
               rotate_left
               ·intro hJ1
                refine join_ (σ := Value) 5 #[false, false, true, false, false, false] (fun s_ => [(3, s_)]) (fun s_ w' => (Kd.R (Kd.int .i64) 3 w' w.heap.size (fun _ => True) s_ y160) ∧ (w'.heap[gb153]? = some (.cells #[.slice none 0 0, .slice none 0 0, .slice none 0 0, .int .i64 0, .slice none 0 0] 56 (0, 0))) ∧ (Below w.heap.size w w')) ?_ ?_
                rotate_left
                ·intro hJ2
                 refine join_ (σ := Value) 5 #[false, false, false, true, false, false] (fun s_ => [(4, s_)]) (fun s_ w' => (Kd.R k137 137 w' w.heap.size (fun _ => True) s_ y163) ∧ (w'.heap[gb153]? = some (.cells #[.slice none 0 0, .slice none 0 0, .slice none 0 0, .int .i64 0, .slice none 0 0] 56 (0, 0))) ∧ (Below w.heap.size w w')) ?_ ?_
                 rotate_left
                 ·intro hJ3
                  refine four_ (i := 0) (j := 1) (k := 2) (m := 3) (Ni := some 1) (Nj := some 2) (Nk := some 3) (Nm := some 4) #[true, false, false, false, false, false] #[false, true, false, false, false, false] #[false, false, true, false, false, false] #[false, false, false, true, false, false] rfl rfl rfl rfl rfl rfl rfl rfl (by kernel_rfl) (by decide) (by decide) (by decide) (by decide) (fun K hK => ?_) (fun K hK => ?_) (fun K hK => ?_) (fun K hK => ?_)
                  ·skip
                   refine Kd.R_make_step Kd.bool _ 4 (by rfl) (N := 1) rfl 53 _ _ rfl 4 rfl rfl Tryd.underlying53 (.bool false) 1 info4 rfl (by decide) (by omega) false (ok := fun _ => True) (okp := fun _ => True) rfl (fun _ hk => hk) trivial (by omega) (by omega) (Below.refl _ _) (Nat.le_refl _) ?_
                   intro v155 w5 ho6 hb hg_ hnew_
                   clear hg_ hnew_
                   (first | rw [← Ny154.out] at ho6 | (simp only [Int.reduceToNat] at ho6; rw [← Ny154.out] at ho6))
                   have HO156 := Aside0.mk (Kd.R_lower ho6 (below_size cq0_))
                   replace BK153 := Aside0.mk (cbb_ BK153 hb)
                   replace HB := Aside0.mk (below_step cq0_ hb)
                   clear hb ho6
                   refine hK.out _ _ trivial (fun hHeld => ?_)
                   clear hK K
                   refine norm_ (a' := ?_) ?_ ?_
                   rotate_left
                   ·show Act.put _ (some 1) _ = _
                    simp only [Act.put, List.setIfInBounds_toArray, List.set_cons_zero, List.set_cons_succ, i64_w, i32_w]
                    rfl
                   exact norm_ (by first | (simp only [putAll, Act.put, List.setIfInBounds_toArray, List.set_cons_zero, List.set_cons_succ]; done) | (simp only [putAll, Act.put, List.setIfInBounds_toArray, List.set_cons_zero, List.set_cons_succ]; rfl)) (hJ0 (v155) _ ⟨(cru_ HO156), (cbu_ BK153), cq0_⟩)
                  ·skip
                   refine Kd.R_make_step (Kd.int .i64) _ 3 (by rfl) (N := 2) rfl 50 _ _ rfl 8 rfl rfl Tryd.underlying50 (.int .i64 0) 8 info3 rfl (by decide) (by omega) 0 (ok := fun _ => True) (okp := fun _ => True) rfl (fun _ hk => hk) trivial (by omega) (by omega) (Below.refl _ _) (Nat.le_refl _) ?_
                   intro v158 w5 ho6 hb hg_ hnew_
                   clear hg_ hnew_
                   (first | rw [← Ny157.out] at ho6 | (simp only [Int.reduceToNat] at ho6; rw [← Ny157.out] at ho6))
                   have HO159 := Aside0.mk (Kd.R_lower ho6 (below_size cq0_))
                   replace BK153 := Aside0.mk (cbb_ BK153 hb)
                   replace HB := Aside0.mk (below_step cq0_ hb)
                   clear hb ho6
                   refine hK.out _ _ trivial (fun hHeld => ?_)
                   clear hK K
                   refine norm_ (a' := ?_) ?_ ?_
                   rotate_left
                   ·show Act.put _ (some 2) _ = _
                    simp only [Act.put, List.setIfInBounds_toArray, List.set_cons_zero, List.set_cons_succ, i64_w, i32_w]
                    rfl
                   exact norm_ (by first | (simp only [putAll, Act.put, List.setIfInBounds_toArray, List.set_cons_zero, List.set_cons_succ]; done) | (simp only [putAll, Act.put, List.setIfInBounds_toArray, List.set_cons_zero, List.set_cons_succ]; rfl)) (hJ1 (v158) _ ⟨(cru_ HO159), (cbu_ BK153), cq0_⟩)
                  ·skip
                   refine Kd.R_lit_step (Kd.int .i64) _ 3 ?hg (N := 3) ?hd (xs := ([] : List Int)) (inner := []) (ok := fun _ => True) (okp := fun _ => True) ?hr ?hp (fun _ hk => hk) trivial (Below.refl _ _) (Nat.le_refl _) cq4_ ?_; (case hd => rfl); (case hg => rfl); (case hr => first | (go_simp; done) | (go_simp; rfl)); (case hp => exact (Reps.none _ _))
                   intro v161 w5 ho6 hb hg_ hnew_
                   clear hg_ hnew_
                   (first | rw [← Ny160.out] at ho6 | (simp only [Int.reduceToNat] at ho6; rw [← Ny160.out] at ho6))
                   have HO162 := Aside0.mk (Kd.R_lower ho6 (below_size cq0_))
                   replace BK153 := Aside0.mk (cbb_ BK153 hb)
                   replace HB := Aside0.mk (below_step cq0_ hb)
                   clear hb ho6
                   refine hK.out _ _ trivial (fun hHeld => ?_)
                   clear hK K
                   refine norm_ (a' := ?_) ?_ ?_
                   rotate_left
                   ·show Act.put _ (some 3) _ = _
                    simp only [Act.put, List.setIfInBounds_toArray, List.set_cons_zero, List.set_cons_succ, i64_w, i32_w]
                    rfl
                   exact norm_ (by first | (simp only [putAll, Act.put, List.setIfInBounds_toArray, List.set_cons_zero, List.set_cons_succ]; done) | (simp only [putAll, Act.put, List.setIfInBounds_toArray, List.set_cons_zero, List.set_cons_succ]; rfl)) (hJ2 (v161) _ ⟨(cru_ HO162), (cbu_ BK153), cq0_⟩)
                  ·skip
                   refine Kd.R_lit_step k137 _ 137 ?hg (N := 4) ?hd (xs := ([] : List (S137))) (inner := []) (ok := fun _ => True) (okp := fun _ => True) ?hr ?hp (fun _ hk => hk) trivial (Below.refl _ _) (Nat.le_refl _) cq4_ ?_; (case hd => rfl); (case hg => rfl); (case hr => first | (go_simp; done) | (go_simp; rfl)); (case hp => exact (Reps.none _ _))
                   intro v164 w5 ho6 hb hg_ hnew_
                   clear hg_ hnew_
                   (first | rw [← Ny163.out] at ho6 | (simp only [Int.reduceToNat] at ho6; rw [← Ny163.out] at ho6))
                   have HO165 := Aside0.mk (Kd.R_lower ho6 (below_size cq0_))
                   replace BK153 := Aside0.mk (cbb_ BK153 hb)
                   replace HB := Aside0.mk (below_step cq0_ hb)
                   clear hb ho6
                   refine hK.out _ _ trivial (fun hHeld => ?_)
                   clear hK K
                   refine norm_ (a' := ?_) ?_ ?_
                   rotate_left
                   ·show Act.put _ (some 4) _ = _
                    simp only [Act.put, List.setIfInBounds_toArray, List.set_cons_zero, List.set_cons_succ, i64_w, i32_w]
                    rfl
                   exact norm_ (by first | (simp only [putAll, Act.put, List.setIfInBounds_toArray, List.set_cons_zero, List.set_cons_succ]; done) | (simp only [putAll, Act.put, List.setIfInBounds_toArray, List.set_cons_zero, List.set_cons_succ]; rfl)) (hJ3 (v164) _ ⟨(cru_ HO165), (cbu_ BK153), cq0_⟩)
                 ·skip
                  rintro v164 w7 ⟨h0_, h1_, h2_⟩
                  have n0_ : Aside0 (Kd.R k137 137 w7 w.heap.size (fun _ => True) v164 y163) := ⟨h0_⟩
                  have n1_ : Aside0 (w7.heap[gb153]? = some (.cells #[.slice none 0 0, .slice none 0 0, .slice none 0 0, .int .i64 0, .slice none 0 0] 56 (0, 0))) := ⟨h1_⟩
                  have n2_ : Aside0 (Below w.heap.size w w7) := ⟨h2_⟩
                  clear BK153
                  clear HB
                  clear h0_ h1_ h2_
                  have HO165 := n0_
                  have BK153 := n1_
                  have HB := n2_
                  clear n0_ n1_ n2_
                  have hHeld := trivial
                  refine norm_ (a' := ?_) ?_ ?_
                  rotate_left
                  ·simp only [putAll, Act.put, List.setIfInBounds_toArray, List.set_cons_zero, List.set_cons_succ]
                   rfl
                  refine three_ (i := 0) (j := 1) (k := 2) (Ni := some 1) (Nj := some 2) (Nk := some 3) #[true, false, false, true, false, false] #[false, true, false, true, false, false] #[false, false, true, true, false, false] rfl rfl rfl rfl rfl rfl (by kernel_rfl) (by decide) (by decide) (by decide) (fun K hK => ?_) (fun K hK => ?_) (fun K hK => ?_)
                  ·skip
                   refine Kd.R_make_step Kd.bool _ 4 (by rfl) (N := 1) rfl 53 _ _ rfl 4 rfl rfl Tryd.underlying53 (.bool false) 1 info4 rfl (by decide) (by omega) false (ok := fun _ => True) (okp := fun _ => True) rfl (fun _ hk => hk) trivial (by omega) (by omega) (Below.refl _ _) (Nat.le_refl _) ?_
                   intro v155 w8 ho9 hb hg_ hnew_
                   clear hg_ hnew_
                   (first | rw [← Ny154.out] at ho9 | (simp only [Int.reduceToNat] at ho9; rw [← Ny154.out] at ho9))
                   replace HO165 := Aside0.mk (Kd.R_below (cru_ HO165) hb)
                   have HO156 := Aside0.mk (Kd.R_lower ho9 (below_size cq0_))
                   replace BK153 := Aside0.mk (cbb_ BK153 hb)
                   replace HB := Aside0.mk (below_step cq0_ hb)
                   clear hb ho9
                   refine hK.out _ _ trivial (fun hHeld => ?_)
                   clear hK K
                   refine norm_ (a' := ?_) ?_ ?_
                   rotate_left
                   ·show Act.put _ (some 1) _ = _
                    simp only [Act.put, List.setIfInBounds_toArray, List.set_cons_zero, List.set_cons_succ, i64_w, i32_w]
                    rfl
                   exact norm_ (by first | (simp only [putAll, Act.put, List.setIfInBounds_toArray, List.set_cons_zero, List.set_cons_succ]; done) | (simp only [putAll, Act.put, List.setIfInBounds_toArray, List.set_cons_zero, List.set_cons_succ]; rfl)) (hJ0_3 (v155, v164) _ ⟨(cru_ HO156), (cru_ HO165), (cbu_ BK153), cq0_⟩)
                  ·skip
                   refine Kd.R_make_step (Kd.int .i64) _ 3 (by rfl) (N := 2) rfl 50 _ _ rfl 8 rfl rfl Tryd.underlying50 (.int .i64 0) 8 info3 rfl (by decide) (by omega) 0 (ok := fun _ => True) (okp := fun _ => True) rfl (fun _ hk => hk) trivial (by omega) (by omega) (Below.refl _ _) (Nat.le_refl _) ?_
                   intro v158 w8 ho9 hb hg_ hnew_
                   clear hg_ hnew_
                   (first | rw [← Ny157.out] at ho9 | (simp only [Int.reduceToNat] at ho9; rw [← Ny157.out] at ho9))
                   replace HO165 := Aside0.mk (Kd.R_below (cru_ HO165) hb)
                   have HO159 := Aside0.mk (Kd.R_lower ho9 (below_size cq0_))
                   replace BK153 := Aside0.mk (cbb_ BK153 hb)
                   replace HB := Aside0.mk (below_step cq0_ hb)
                   clear hb ho9
                   refine hK.out _ _ trivial (fun hHeld => ?_)
                   clear hK K
                   refine norm_ (a' := ?_) ?_ ?_
                   rotate_left
                   ·show Act.put _ (some 2) _ = _
                    simp only [Act.put, List.setIfInBounds_toArray, List.set_cons_zero, List.set_cons_succ, i64_w, i32_w]
                    rfl
                   exact norm_ (by first | (simp only [putAll, Act.put, List.setIfInBounds_toArray, List.set_cons_zero, List.set_cons_succ]; done) | (simp only [putAll, Act.put, List.setIfInBounds_toArray, List.set_cons_zero, List.set_cons_succ]; rfl)) (hJ1_3 (v158, v164) _ ⟨(cru_ HO159), (cru_ HO165), (cbu_ BK153), cq0_⟩)
                  ·skip
                   refine Kd.R_lit_step (Kd.int .i64) _ 3 ?hg (N := 3) ?hd (xs := ([] : List Int)) (inner := []) (ok := fun _ => True) (okp := fun _ => True) ?hr ?hp (fun _ hk => hk) trivial (Below.refl _ _) (Nat.le_refl _) cq4_ ?_; (case hd => rfl); (case hg => rfl); (case hr => first | (go_simp; done) | (go_simp; rfl)); (case hp => exact (Reps.none _ _))
                   intro v161 w8 ho9 hb hg_ hnew_
                   clear hg_ hnew_
                   (first | rw [← Ny160.out] at ho9 | (simp only [Int.reduceToNat] at ho9; rw [← Ny160.out] at ho9))
                   replace HO165 := Aside0.mk (Kd.R_below (cru_ HO165) hb)
                   have HO162 := Aside0.mk (Kd.R_lower ho9 (below_size cq0_))
                   replace BK153 := Aside0.mk (cbb_ BK153 hb)
                   replace HB := Aside0.mk (below_step cq0_ hb)
                   clear hb ho9
                   refine hK.out _ _ trivial (fun hHeld => ?_)
                   clear hK K
                   refine norm_ (a' := ?_) ?_ ?_
                   rotate_left
                   ·show Act.put _ (some 3) _ = _
                    simp only [Act.put, List.setIfInBounds_toArray, List.set_cons_zero, List.set_cons_succ, i64_w, i32_w]
                    rfl
                   exact norm_ (by first | (simp only [putAll, Act.put, List.setIfInBounds_toArray, List.set_cons_zero, List.set_cons_succ]; done) | (simp only [putAll, Act.put, List.setIfInBounds_toArray, List.set_cons_zero, List.set_cons_succ]; rfl)) (hJ2_3 (v161, v164) _ ⟨(cru_ HO162), (cru_ HO165), (cbu_ BK153), cq0_⟩)
                ·skip
                 rintro v161 w7 ⟨h0_, h1_, h2_⟩
                 have n0_ : Aside0 (Kd.R (Kd.int .i64) 3 w7 w.heap.size (fun _ => True) v161 y160) := ⟨h0_⟩
                 have n1_ : Aside0 (w7.heap[gb153]? = some (.cells #[.slice none 0 0, .slice none 0 0, .slice none 0 0, .int .i64 0, .slice none 0 0] 56 (0, 0))) := ⟨h1_⟩
                 have n2_ : Aside0 (Below w.heap.size w w7) := ⟨h2_⟩
                 clear BK153
                 clear HB
                 clear h0_ h1_ h2_
                 have HO162 := n0_
                 have BK153 := n1_
                 have HB := n2_
                 clear n0_ n1_ n2_
                 have hHeld := trivial
                 refine norm_ (a' := ?_) ?_ ?_
                 rotate_left
                 ·simp only [putAll, Act.put, List.setIfInBounds_toArray, List.set_cons_zero, List.set_cons_succ]
                  rfl
                 refine three_ (i := 0) (j := 1) (k := 3) (Ni := some 1) (Nj := some 2) (Nk := some 4) #[true, false, true, false, false, false] #[false, true, true, false, false, false] #[false, false, true, true, false, false] rfl rfl rfl rfl rfl rfl (by kernel_rfl) (by decide) (by decide) (by decide) (fun K hK => ?_) (fun K hK => ?_) (fun K hK => ?_)
                 ·skip
                  refine Kd.R_make_step Kd.bool _ 4 (by rfl) (N := 1) rfl 53 _ _ rfl 4 rfl rfl Tryd.underlying53 (.bool false) 1 info4 rfl (by decide) (by omega) false (ok := fun _ => True) (okp := fun _ => True) rfl (fun _ hk => hk) trivial (by omega) (by omega) (Below.refl _ _) (Nat.le_refl _) ?_
                  intro v155 w8 ho9 hb hg_ hnew_
                  clear hg_ hnew_
                  (first | rw [← Ny154.out] at ho9 | (simp only [Int.reduceToNat] at ho9; rw [← Ny154.out] at ho9))
                  replace HO162 := Aside0.mk (Kd.R_below (cru_ HO162) hb)
                  have HO156 := Aside0.mk (Kd.R_lower ho9 (below_size cq0_))
                  replace BK153 := Aside0.mk (cbb_ BK153 hb)
                  replace HB := Aside0.mk (below_step cq0_ hb)
                  clear hb ho9
                  refine hK.out _ _ trivial (fun hHeld => ?_)
                  clear hK K
                  refine norm_ (a' := ?_) ?_ ?_
                  rotate_left
                  ·show Act.put _ (some 1) _ = _
                   simp only [Act.put, List.setIfInBounds_toArray, List.set_cons_zero, List.set_cons_succ, i64_w, i32_w]
                   rfl
                  exact norm_ (by first | (simp only [putAll, Act.put, List.setIfInBounds_toArray, List.set_cons_zero, List.set_cons_succ]; done) | (simp only [putAll, Act.put, List.setIfInBounds_toArray, List.set_cons_zero, List.set_cons_succ]; rfl)) (hJ0_2 (v155, v161) _ ⟨(cru_ HO156), (cru_ HO162), (cbu_ BK153), cq0_⟩)
                 ·skip
                  refine Kd.R_make_step (Kd.int .i64) _ 3 (by rfl) (N := 2) rfl 50 _ _ rfl 8 rfl rfl Tryd.underlying50 (.int .i64 0) 8 info3 rfl (by decide) (by omega) 0 (ok := fun _ => True) (okp := fun _ => True) rfl (fun _ hk => hk) trivial (by omega) (by omega) (Below.refl _ _) (Nat.le_refl _) ?_
                  intro v158 w8 ho9 hb hg_ hnew_
                  clear hg_ hnew_
                  (first | rw [← Ny157.out] at ho9 | (simp only [Int.reduceToNat] at ho9; rw [← Ny157.out] at ho9))
                  have n0_ := Aside0.mk (Kd.R_elder' (cru_ HO162) (Kd.R_base ho9) hb)
                  have n1_ := Aside0.mk (Kd.R_lower (Kd.R_new' ho9 (Kd.R_lt (cru_ HO162))) (below_size cq0_))
                  have n2_ := Aside0.mk (cbb_ BK153 hb)
                  have n3_ := Aside0.mk (below_step cq0_ hb)
                  clear HO162
                  clear BK153
                  clear HB
                  have HO162 := n0_
                  have HO159 := n1_
                  have BK153 := n2_
                  have HB := n3_
                  clear n0_ n1_ n2_ n3_
                  clear hb ho9
                  refine hK.out _ _ trivial (fun hHeld => ?_)
                  clear hK K
                  refine norm_ (a' := ?_) ?_ ?_
                  rotate_left
                  ·show Act.put _ (some 2) _ = _
                   simp only [Act.put, List.setIfInBounds_toArray, List.set_cons_zero, List.set_cons_succ, i64_w, i32_w]
                   rfl
                  exact norm_ (by first | (simp only [putAll, Act.put, List.setIfInBounds_toArray, List.set_cons_zero, List.set_cons_succ]; done) | (simp only [putAll, Act.put, List.setIfInBounds_toArray, List.set_cons_zero, List.set_cons_succ]; rfl)) (hJ1_2 (v158, v161) _ ⟨cq1_, cq2_, (cbu_ BK153), cq0_⟩)
                 ·skip
                  refine Kd.R_lit_step k137 _ 137 ?hg (N := 4) ?hd (xs := ([] : List (S137))) (inner := []) (ok := fun _ => True) (okp := fun _ => True) ?hr ?hp (fun _ hk => hk) trivial (Below.refl _ _) (Nat.le_refl _) cq4_ ?_; (case hd => rfl); (case hg => rfl); (case hr => first | (go_simp; done) | (go_simp; rfl)); (case hp => exact (Reps.none _ _))
                  intro v164 w8 ho9 hb hg_ hnew_
                  clear hg_ hnew_
                  (first | rw [← Ny163.out] at ho9 | (simp only [Int.reduceToNat] at ho9; rw [← Ny163.out] at ho9))
                  replace HO162 := Aside0.mk (Kd.R_below (cru_ HO162) hb)
                  have HO165 := Aside0.mk (Kd.R_lower ho9 (below_size cq0_))
                  replace BK153 := Aside0.mk (cbb_ BK153 hb)
                  replace HB := Aside0.mk (below_step cq0_ hb)
                  clear hb ho9
                  refine hK.out _ _ trivial (fun hHeld => ?_)
                  clear hK K
                  refine norm_ (a' := ?_) ?_ ?_
                  rotate_left
                  ·show Act.put _ (some 4) _ = _
                   simp only [Act.put, List.setIfInBounds_toArray, List.set_cons_zero, List.set_cons_succ, i64_w, i32_w]
                   rfl
                  exact norm_ (by first | (simp only [putAll, Act.put, List.setIfInBounds_toArray, List.set_cons_zero, List.set_cons_succ]; done) | (simp only [putAll, Act.put, List.setIfInBounds_toArray, List.set_cons_zero, List.set_cons_succ]; rfl)) (hJ2_3 (v161, v164) _ ⟨(cru_ HO162), (cru_ HO165), (cbu_ BK153), cq0_⟩)
               ·skip
                rintro v158 w7 ⟨h0_, h1_, h2_⟩
                have n0_ : Aside0 (Kd.R (Kd.int .i64) 3 w7 w.heap.size (fun _ => True) v158 y157) := ⟨h0_⟩
                have n1_ : Aside0 (w7.heap[gb153]? = some (.cells #[.slice none 0 0, .slice none 0 0, .slice none 0 0, .int .i64 0, .slice none 0 0] 56 (0, 0))) := ⟨h1_⟩
                have n2_ : Aside0 (Below w.heap.size w w7) := ⟨h2_⟩
                clear BK153
                clear HB
                clear h0_ h1_ h2_
                have HO159 := n0_
                have BK153 := n1_
                have HB := n2_
                clear n0_ n1_ n2_
                have hHeld := trivial
                refine norm_ (a' := ?_) ?_ ?_
                rotate_left
                ·simp only [putAll, Act.put, List.setIfInBounds_toArray, List.set_cons_zero, List.set_cons_succ]
                 rfl
                refine three_ (i := 0) (j := 2) (k := 3) (Ni := some 1) (Nj := some 3) (Nk := some 4) #[true, true, false, false, false, false] #[false, true, true, false, false, false] #[false, true, false, true, false, false] rfl rfl rfl rfl rfl rfl (by kernel_rfl) (by decide) (by decide) (by decide) (fun K hK => ?_) (fun K hK => ?_) (fun K hK => ?_)
                ·skip
                 refine Kd.R_make_step Kd.bool _ 4 (by rfl) (N := 1) rfl 53 _ _ rfl 4 rfl rfl Tryd.underlying53 (.bool false) 1 info4 rfl (by decide) (by omega) false (ok := fun _ => True) (okp := fun _ => True) rfl (fun _ hk => hk) trivial (by omega) (by omega) (Below.refl _ _) (Nat.le_refl _) ?_
                 intro v155 w8 ho9 hb hg_ hnew_
                 clear hg_ hnew_
                 (first | rw [← Ny154.out] at ho9 | (simp only [Int.reduceToNat] at ho9; rw [← Ny154.out] at ho9))
                 replace HO159 := Aside0.mk (Kd.R_below (cru_ HO159) hb)
                 have HO156 := Aside0.mk (Kd.R_lower ho9 (below_size cq0_))
                 replace BK153 := Aside0.mk (cbb_ BK153 hb)
                 replace HB := Aside0.mk (below_step cq0_ hb)
                 clear hb ho9
                 refine hK.out _ _ trivial (fun hHeld => ?_)
                 clear hK K
                 refine norm_ (a' := ?_) ?_ ?_
                 rotate_left
                 ·show Act.put _ (some 1) _ = _
                  simp only [Act.put, List.setIfInBounds_toArray, List.set_cons_zero, List.set_cons_succ, i64_w, i32_w]
                  rfl
                 exact norm_ (by first | (simp only [putAll, Act.put, List.setIfInBounds_toArray, List.set_cons_zero, List.set_cons_succ]; done) | (simp only [putAll, Act.put, List.setIfInBounds_toArray, List.set_cons_zero, List.set_cons_succ]; rfl)) (hJ0_1 (v155, v158) _ ⟨(cru_ HO156), (cru_ HO159), (cbu_ BK153), cq0_⟩)
                ·skip
                 refine Kd.R_lit_step (Kd.int .i64) _ 3 ?hg (N := 3) ?hd (xs := ([] : List Int)) (inner := []) (ok := fun _ => True) (okp := fun _ => True) ?hr ?hp (fun _ hk => hk) trivial (Below.refl _ _) (Nat.le_refl _) cq4_ ?_; (case hd => rfl); (case hg => rfl); (case hr => first | (go_simp; done) | (go_simp; rfl)); (case hp => exact (Reps.none _ _))
                 intro v161 w8 ho9 hb hg_ hnew_
                 clear hg_ hnew_
                 (first | rw [← Ny160.out] at ho9 | (simp only [Int.reduceToNat] at ho9; rw [← Ny160.out] at ho9))
                 have n0_ := Aside0.mk (Kd.R_elder' (cru_ HO159) (Kd.R_base ho9) hb)
                 have n1_ := Aside0.mk (Kd.R_lower (Kd.R_new' ho9 (Kd.R_lt (cru_ HO159))) (below_size cq0_))
                 have n2_ := Aside0.mk (cbb_ BK153 hb)
                 have n3_ := Aside0.mk (below_step cq0_ hb)
                 clear HO159
                 clear BK153
                 clear HB
                 have HO159 := n0_
                 have HO162 := n1_
                 have BK153 := n2_
                 have HB := n3_
                 clear n0_ n1_ n2_ n3_
                 clear hb ho9
                 refine hK.out _ _ trivial (fun hHeld => ?_)
                 clear hK K
                 refine norm_ (a' := ?_) ?_ ?_
                 rotate_left
                 ·show Act.put _ (some 3) _ = _
                  simp only [Act.put, List.setIfInBounds_toArray, List.set_cons_zero, List.set_cons_succ, i64_w, i32_w]
                  rfl
                 exact norm_ (by first | (simp only [putAll, Act.put, List.setIfInBounds_toArray, List.set_cons_zero, List.set_cons_succ]; done) | (simp only [putAll, Act.put, List.setIfInBounds_toArray, List.set_cons_zero, List.set_cons_succ]; rfl)) (hJ1_2 (v158, v161) _ ⟨cq1_, cq2_, (cbu_ BK153), cq0_⟩)
                ·skip
                 refine Kd.R_lit_step k137 _ 137 ?hg (N := 4) ?hd (xs := ([] : List (S137))) (inner := []) (ok := fun _ => True) (okp := fun _ => True) ?hr ?hp (fun _ hk => hk) trivial (Below.refl _ _) (Nat.le_refl _) cq4_ ?_; (case hd => rfl); (case hg => rfl); (case hr => first | (go_simp; done) | (go_simp; rfl)); (case hp => exact (Reps.none _ _))
                 intro v164 w8 ho9 hb hg_ hnew_
                 clear hg_ hnew_
                 (first | rw [← Ny163.out] at ho9 | (simp only [Int.reduceToNat] at ho9; rw [← Ny163.out] at ho9))
                 replace HO159 := Aside0.mk (Kd.R_below (cru_ HO159) hb)
                 have HO165 := Aside0.mk (Kd.R_lower ho9 (below_size cq0_))
                 replace BK153 := Aside0.mk (cbb_ BK153 hb)
                 replace HB := Aside0.mk (below_step cq0_ hb)
                 clear hb ho9
                 refine hK.out _ _ trivial (fun hHeld => ?_)
                 clear hK K
                 refine norm_ (a' := ?_) ?_ ?_
                 rotate_left
                 ·show Act.put _ (some 4) _ = _
                  simp only [Act.put, List.setIfInBounds_toArray, List.set_cons_zero, List.set_cons_succ, i64_w, i32_w]
                  rfl
                 exact norm_ (by first | (simp only [putAll, Act.put, List.setIfInBounds_toArray, List.set_cons_zero, List.set_cons_succ]; done) | (simp only [putAll, Act.put, List.setIfInBounds_toArray, List.set_cons_zero, List.set_cons_succ]; rfl)) (hJ1_3 (v158, v164) _ ⟨(cru_ HO159), (cru_ HO165), (cbu_ BK153), cq0_⟩)
              ·skip
               rintro v155 w7 ⟨h0_, h1_, h2_⟩
               have n0_ : Aside0 (Kd.R Kd.bool 4 w7 w.heap.size (fun _ => True) v155 y154) := ⟨h0_⟩
               have n1_ : Aside0 (w7.heap[gb153]? = some (.cells #[.slice none 0 0, .slice none 0 0, .slice none 0 0, .int .i64 0, .slice none 0 0] 56 (0, 0))) := ⟨h1_⟩
               have n2_ : Aside0 (Below w.heap.size w w7) := ⟨h2_⟩
               clear BK153
               clear HB
               clear h0_ h1_ h2_
               have HO156 := n0_
               have BK153 := n1_
               have HB := n2_
               clear n0_ n1_ n2_
               have hHeld := trivial
               refine norm_ (a' := ?_) ?_ ?_
               rotate_left
               ·simp only [putAll, Act.put, List.setIfInBounds_toArray, List.set_cons_zero, List.set_cons_succ]
                rfl
               refine three_ (i := 1) (j := 2) (k := 3) (Ni := some 2) (Nj := some 3) (Nk := some 4) #[true, true, false, false, false, false] #[true, false, true, false, false, false] #[true, false, false, true, false, false] rfl rfl rfl rfl rfl rfl (by kernel_rfl) (by decide) (by decide) (by decide) (fun K hK => ?_) (fun K hK => ?_) (fun K hK => ?_)
               ·skip
                refine Kd.R_make_step (Kd.int .i64) _ 3 (by rfl) (N := 2) rfl 50 _ _ rfl 8 rfl rfl Tryd.underlying50 (.int .i64 0) 8 info3 rfl (by decide) (by omega) 0 (ok := fun _ => True) (okp := fun _ => True) rfl (fun _ hk => hk) trivial (by omega) (by omega) (Below.refl _ _) (Nat.le_refl _) ?_
                intro v158 w8 ho9 hb hg_ hnew_
                clear hg_ hnew_
                (first | rw [← Ny157.out] at ho9 | (simp only [Int.reduceToNat] at ho9; rw [← Ny157.out] at ho9))
                replace HO156 := Aside0.mk (Kd.R_below (cru_ HO156) hb)
                have HO159 := Aside0.mk (Kd.R_lower ho9 (below_size cq0_))
                replace BK153 := Aside0.mk (cbb_ BK153 hb)
                replace HB := Aside0.mk (below_step cq0_ hb)
                clear hb ho9
                refine hK.out _ _ trivial (fun hHeld => ?_)
                clear hK K
                refine norm_ (a' := ?_) ?_ ?_
                rotate_left
                ·show Act.put _ (some 2) _ = _
                 simp only [Act.put, List.setIfInBounds_toArray, List.set_cons_zero, List.set_cons_succ, i64_w, i32_w]
                 rfl
                exact norm_ (by first | (simp only [putAll, Act.put, List.setIfInBounds_toArray, List.set_cons_zero, List.set_cons_succ]; done) | (simp only [putAll, Act.put, List.setIfInBounds_toArray, List.set_cons_zero, List.set_cons_succ]; rfl)) (hJ0_1 (v155, v158) _ ⟨(cru_ HO156), (cru_ HO159), (cbu_ BK153), cq0_⟩)
               ·skip
                refine Kd.R_lit_step (Kd.int .i64) _ 3 ?hg (N := 3) ?hd (xs := ([] : List Int)) (inner := []) (ok := fun _ => True) (okp := fun _ => True) ?hr ?hp (fun _ hk => hk) trivial (Below.refl _ _) (Nat.le_refl _) cq4_ ?_; (case hd => rfl); (case hg => rfl); (case hr => first | (go_simp; done) | (go_simp; rfl)); (case hp => exact (Reps.none _ _))
                intro v161 w8 ho9 hb hg_ hnew_
                clear hg_ hnew_
                (first | rw [← Ny160.out] at ho9 | (simp only [Int.reduceToNat] at ho9; rw [← Ny160.out] at ho9))
                replace HO156 := Aside0.mk (Kd.R_below (cru_ HO156) hb)
                have HO162 := Aside0.mk (Kd.R_lower ho9 (below_size cq0_))
                replace BK153 := Aside0.mk (cbb_ BK153 hb)
                replace HB := Aside0.mk (below_step cq0_ hb)
                clear hb ho9
                refine hK.out _ _ trivial (fun hHeld => ?_)
                clear hK K
                refine norm_ (a' := ?_) ?_ ?_
                rotate_left
                ·show Act.put _ (some 3) _ = _
                 simp only [Act.put, List.setIfInBounds_toArray, List.set_cons_zero, List.set_cons_succ, i64_w, i32_w]
                 rfl
                exact norm_ (by first | (simp only [putAll, Act.put, List.setIfInBounds_toArray, List.set_cons_zero, List.set_cons_succ]; done) | (simp only [putAll, Act.put, List.setIfInBounds_toArray, List.set_cons_zero, List.set_cons_succ]; rfl)) (hJ0_2 (v155, v161) _ ⟨(cru_ HO156), (cru_ HO162), (cbu_ BK153), cq0_⟩)
               ·skip
                refine Kd.R_lit_step k137 _ 137 ?hg (N := 4) ?hd (xs := ([] : List (S137))) (inner := []) (ok := fun _ => True) (okp := fun _ => True) ?hr ?hp (fun _ hk => hk) trivial (Below.refl _ _) (Nat.le_refl _) cq4_ ?_; (case hd => rfl); (case hg => rfl); (case hr => first | (go_simp; done) | (go_simp; rfl)); (case hp => exact (Reps.none _ _))
                intro v164 w8 ho9 hb hg_ hnew_
                clear hg_ hnew_
                (first | rw [← Ny163.out] at ho9 | (simp only [Int.reduceToNat] at ho9; rw [← Ny163.out] at ho9))
                replace HO156 := Aside0.mk (Kd.R_below (cru_ HO156) hb)
                have HO165 := Aside0.mk (Kd.R_lower ho9 (below_size cq0_))
                replace BK153 := Aside0.mk (cbb_ BK153 hb)
                replace HB := Aside0.mk (below_step cq0_ hb)
                clear hb ho9
                refine hK.out _ _ trivial (fun hHeld => ?_)
                clear hK K
                refine norm_ (a' := ?_) ?_ ?_
                rotate_left
                ·show Act.put _ (some 4) _ = _
                 simp only [Act.put, List.setIfInBounds_toArray, List.set_cons_zero, List.set_cons_succ, i64_w, i32_w]
                 rfl
                exact norm_ (by first | (simp only [putAll, Act.put, List.setIfInBounds_toArray, List.set_cons_zero, List.set_cons_succ]; done) | (simp only [putAll, Act.put, List.setIfInBounds_toArray, List.set_cons_zero, List.set_cons_succ]; rfl)) (hJ0_3 (v155, v164) _ ⟨(cru_ HO156), (cru_ HO165), (cbu_ BK153), cq0_⟩)
             ·skip
              rintro ⟨v161, v164⟩ w9 ⟨h0_, h1_, h2_, h3_⟩
              have n0_ : Aside0 (Kd.R (Kd.int .i64) 3 w9 w.heap.size (fun _ => True) v161 y160) := ⟨h0_⟩
              have n1_ : Aside0 (Kd.R k137 137 w9 w.heap.size (fun _ => True) v164 y163) := ⟨h1_⟩
              have n2_ : Aside0 (w9.heap[gb153]? = some (.cells #[.slice none 0 0, .slice none 0 0, .slice none 0 0, .int .i64 0, .slice none 0 0] 56 (0, 0))) := ⟨h2_⟩
              have n3_ : Aside0 (Below w.heap.size w w9) := ⟨h3_⟩
              clear BK153
              clear HB
              clear h0_ h1_ h2_ h3_
              have HO162 := n0_
              have HO165 := n1_
              have BK153 := n2_
              have HB := n3_
              clear n0_ n1_ n2_ n3_
              have hHeld := trivial
              refine norm_ (a' := ?_) ?_ ?_
              rotate_left
              ·simp only [putAll, Act.put, List.setIfInBounds_toArray, List.set_cons_zero, List.set_cons_succ]
               rfl
              refine two_ (i := 0) (j := 1) (Ni := some 1) (Nj := some 2) #[true, false, true, true, false, false] #[false, true, true, true, false, false] rfl rfl rfl rfl (by kernel_rfl) (by decide) (by decide) (fun K hK => ?_) (fun K hK => ?_)
              ·skip
               refine Kd.R_make_step Kd.bool _ 4 (by rfl) (N := 1) rfl 53 _ _ rfl 4 rfl rfl Tryd.underlying53 (.bool false) 1 info4 rfl (by decide) (by omega) false (ok := fun _ => True) (okp := fun _ => True) rfl (fun _ hk => hk) trivial (by omega) (by omega) (Below.refl _ _) (Nat.le_refl _) ?_
               intro v155 w10 ho11 hb hg_ hnew_
               clear hg_ hnew_
               (first | rw [← Ny154.out] at ho11 | (simp only [Int.reduceToNat] at ho11; rw [← Ny154.out] at ho11))
               replace HO162 := Aside0.mk (Kd.R_below (cru_ HO162) hb)
               replace HO165 := Aside0.mk (Kd.R_below (cru_ HO165) hb)
               have HO156 := Aside0.mk (Kd.R_lower ho11 (below_size cq0_))
               replace BK153 := Aside0.mk (cbb_ BK153 hb)
               replace HB := Aside0.mk (below_step cq0_ hb)
               clear hb ho11
               refine hK.out _ _ trivial (fun hHeld => ?_)
               clear hK K
               refine norm_ (a' := ?_) ?_ ?_
               rotate_left
               ·show Act.put _ (some 1) _ = _
                simp only [Act.put, List.setIfInBounds_toArray, List.set_cons_zero, List.set_cons_succ, i64_w, i32_w]
                rfl
               exact norm_ (by first | (simp only [putAll, Act.put, List.setIfInBounds_toArray, List.set_cons_zero, List.set_cons_succ]; done) | (simp only [putAll, Act.put, List.setIfInBounds_toArray, List.set_cons_zero, List.set_cons_succ]; rfl)) (hJ0_2_3 (v155, v161, v164) _ ⟨(cru_ HO156), (cru_ HO162), (cru_ HO165), (cbu_ BK153), cq0_⟩)
              ·skip
               refine Kd.R_make_step (Kd.int .i64) _ 3 (by rfl) (N := 2) rfl 50 _ _ rfl 8 rfl rfl Tryd.underlying50 (.int .i64 0) 8 info3 rfl (by decide) (by omega) 0 (ok := fun _ => True) (okp := fun _ => True) rfl (fun _ hk => hk) trivial (by omega) (by omega) (Below.refl _ _) (Nat.le_refl _) ?_
               intro v158 w10 ho11 hb hg_ hnew_
               clear hg_ hnew_
               (first | rw [← Ny157.out] at ho11 | (simp only [Int.reduceToNat] at ho11; rw [← Ny157.out] at ho11))
               have n0_ := Aside0.mk (Kd.R_elder' (cru_ HO162) (Kd.R_base ho11) hb)
               have n1_ := Aside0.mk (Kd.R_below (cru_ HO165) hb)
               have n2_ := Aside0.mk (Kd.R_lower (Kd.R_new' ho11 (Kd.R_lt (cru_ HO162))) (below_size cq0_))
               have n3_ := Aside0.mk (cbb_ BK153 hb)
               have n4_ := Aside0.mk (below_step cq0_ hb)
               clear HO162
               clear HO165
               clear BK153
               clear HB
               have HO162 := n0_
               have HO165 := n1_
               have HO159 := n2_
               have BK153 := n3_
               have HB := n4_
               clear n0_ n1_ n2_ n3_ n4_
               clear hb ho11
               refine hK.out _ _ trivial (fun hHeld => ?_)
               clear hK K
               refine norm_ (a' := ?_) ?_ ?_
               rotate_left
               ·show Act.put _ (some 2) _ = _
                simp only [Act.put, List.setIfInBounds_toArray, List.set_cons_zero, List.set_cons_succ, i64_w, i32_w]
                rfl
               exact norm_ (by first | (simp only [putAll, Act.put, List.setIfInBounds_toArray, List.set_cons_zero, List.set_cons_succ]; done) | (simp only [putAll, Act.put, List.setIfInBounds_toArray, List.set_cons_zero, List.set_cons_succ]; rfl)) (hJ1_2_3 (v158, v161, v164) _ ⟨cq1_, cq2_, (cru_ HO165), (cbu_ BK153), cq0_⟩)
            ·skip
             rintro ⟨v158, v164⟩ w9 ⟨h0_, h1_, h2_, h3_⟩
             have n0_ : Aside0 (Kd.R (Kd.int .i64) 3 w9 w.heap.size (fun _ => True) v158 y157) := ⟨h0_⟩
             have n1_ : Aside0 (Kd.R k137 137 w9 w.heap.size (fun _ => True) v164 y163) := ⟨h1_⟩
             have n2_ : Aside0 (w9.heap[gb153]? = some (.cells #[.slice none 0 0, .slice none 0 0, .slice none 0 0, .int .i64 0, .slice none 0 0] 56 (0, 0))) := ⟨h2_⟩
             have n3_ : Aside0 (Below w.heap.size w w9) := ⟨h3_⟩
             clear BK153
             clear HB
             clear h0_ h1_ h2_ h3_
             have HO159 := n0_
             have HO165 := n1_
             have BK153 := n2_
             have HB := n3_
             clear n0_ n1_ n2_ n3_
             have hHeld := trivial
             refine norm_ (a' := ?_) ?_ ?_
             rotate_left
             ·simp only [putAll, Act.put, List.setIfInBounds_toArray, List.set_cons_zero, List.set_cons_succ]
              rfl
             refine two_ (i := 0) (j := 2) (Ni := some 1) (Nj := some 3) #[true, true, false, true, false, false] #[false, true, true, true, false, false] rfl rfl rfl rfl (by kernel_rfl) (by decide) (by decide) (fun K hK => ?_) (fun K hK => ?_)
             ·skip
              refine Kd.R_make_step Kd.bool _ 4 (by rfl) (N := 1) rfl 53 _ _ rfl 4 rfl rfl Tryd.underlying53 (.bool false) 1 info4 rfl (by decide) (by omega) false (ok := fun _ => True) (okp := fun _ => True) rfl (fun _ hk => hk) trivial (by omega) (by omega) (Below.refl _ _) (Nat.le_refl _) ?_
              intro v155 w10 ho11 hb hg_ hnew_
              clear hg_ hnew_
              (first | rw [← Ny154.out] at ho11 | (simp only [Int.reduceToNat] at ho11; rw [← Ny154.out] at ho11))
              replace HO159 := Aside0.mk (Kd.R_below (cru_ HO159) hb)
              replace HO165 := Aside0.mk (Kd.R_below (cru_ HO165) hb)
              have HO156 := Aside0.mk (Kd.R_lower ho11 (below_size cq0_))
              replace BK153 := Aside0.mk (cbb_ BK153 hb)
              replace HB := Aside0.mk (below_step cq0_ hb)
              clear hb ho11
              refine hK.out _ _ trivial (fun hHeld => ?_)
              clear hK K
              refine norm_ (a' := ?_) ?_ ?_
              rotate_left
              ·show Act.put _ (some 1) _ = _
               simp only [Act.put, List.setIfInBounds_toArray, List.set_cons_zero, List.set_cons_succ, i64_w, i32_w]
               rfl
              exact norm_ (by first | (simp only [putAll, Act.put, List.setIfInBounds_toArray, List.set_cons_zero, List.set_cons_succ]; done) | (simp only [putAll, Act.put, List.setIfInBounds_toArray, List.set_cons_zero, List.set_cons_succ]; rfl)) (hJ0_1_3 (v155, v158, v164) _ ⟨(cru_ HO156), (cru_ HO159), (cru_ HO165), (cbu_ BK153), cq0_⟩)
             ·skip
              refine Kd.R_lit_step (Kd.int .i64) _ 3 ?hg (N := 3) ?hd (xs := ([] : List Int)) (inner := []) (ok := fun _ => True) (okp := fun _ => True) ?hr ?hp (fun _ hk => hk) trivial (Below.refl _ _) (Nat.le_refl _) cq4_ ?_; (case hd => rfl); (case hg => rfl); (case hr => first | (go_simp; done) | (go_simp; rfl)); (case hp => exact (Reps.none _ _))
              intro v161 w10 ho11 hb hg_ hnew_
              clear hg_ hnew_
              (first | rw [← Ny160.out] at ho11 | (simp only [Int.reduceToNat] at ho11; rw [← Ny160.out] at ho11))
              have n0_ := Aside0.mk (Kd.R_elder' (cru_ HO159) (Kd.R_base ho11) hb)
              have n1_ := Aside0.mk (Kd.R_below (cru_ HO165) hb)
              have n2_ := Aside0.mk (Kd.R_lower (Kd.R_new' ho11 (Kd.R_lt (cru_ HO159))) (below_size cq0_))
              have n3_ := Aside0.mk (cbb_ BK153 hb)
              have n4_ := Aside0.mk (below_step cq0_ hb)
              clear HO159
              clear HO165
              clear BK153
              clear HB
              have HO159 := n0_
              have HO165 := n1_
              have HO162 := n2_
              have BK153 := n3_
              have HB := n4_
              clear n0_ n1_ n2_ n3_ n4_
              clear hb ho11
              refine hK.out _ _ trivial (fun hHeld => ?_)
              clear hK K
              refine norm_ (a' := ?_) ?_ ?_
              rotate_left
              ·show Act.put _ (some 3) _ = _
               simp only [Act.put, List.setIfInBounds_toArray, List.set_cons_zero, List.set_cons_succ, i64_w, i32_w]
               rfl
              exact norm_ (by first | (simp only [putAll, Act.put, List.setIfInBounds_toArray, List.set_cons_zero, List.set_cons_succ]; done) | (simp only [putAll, Act.put, List.setIfInBounds_toArray, List.set_cons_zero, List.set_cons_succ]; rfl)) (hJ1_2_3 (v158, v161, v164) _ ⟨cq1_, cq2_, (cru_ HO165), (cbu_ BK153), cq0_⟩)
           ·skip
            rintro ⟨v158, v161⟩ w9 ⟨h0_, h1_, h2_, h3_⟩
            have n0_ : Aside0 (Kd.R (Kd.int .i64) 3 w9 w.heap.size (fun k_ => some k_ ≠ (v161 : Value).ownBlock) v158 y157) := ⟨h0_⟩
            have n1_ : Aside0 (Kd.R (Kd.int .i64) 3 w9 w.heap.size (fun k_ => some k_ ≠ (v158 : Value).ownBlock) v161 y160) := ⟨h1_⟩
            have n2_ : Aside0 (w9.heap[gb153]? = some (.cells #[.slice none 0 0, .slice none 0 0, .slice none 0 0, .int .i64 0, .slice none 0 0] 56 (0, 0))) := ⟨h2_⟩
            have n3_ : Aside0 (Below w.heap.size w w9) := ⟨h3_⟩
            clear BK153
            clear HB
            clear h0_ h1_ h2_ h3_
            have HO159 := n0_
            have HO162 := n1_
            have BK153 := n2_
            have HB := n3_
            clear n0_ n1_ n2_ n3_
            have hHeld := trivial
            refine norm_ (a' := ?_) ?_ ?_
            rotate_left
            ·simp only [putAll, Act.put, List.setIfInBounds_toArray, List.set_cons_zero, List.set_cons_succ]
             rfl
            refine two_ (i := 0) (j := 3) (Ni := some 1) (Nj := some 4) #[true, true, true, false, false, false] #[false, true, true, true, false, false] rfl rfl rfl rfl (by kernel_rfl) (by decide) (by decide) (fun K hK => ?_) (fun K hK => ?_)
            ·skip
             refine Kd.R_make_step Kd.bool _ 4 (by rfl) (N := 1) rfl 53 _ _ rfl 4 rfl rfl Tryd.underlying53 (.bool false) 1 info4 rfl (by decide) (by omega) false (ok := fun _ => True) (okp := fun _ => True) rfl (fun _ hk => hk) trivial (by omega) (by omega) (Below.refl _ _) (Nat.le_refl _) ?_
             intro v155 w10 ho11 hb hg_ hnew_
             clear hg_ hnew_
             (first | rw [← Ny154.out] at ho11 | (simp only [Int.reduceToNat] at ho11; rw [← Ny154.out] at ho11))
             replace HO159 := Aside0.mk (Kd.R_below (cru_ HO159) hb)
             replace HO162 := Aside0.mk (Kd.R_below (cru_ HO162) hb)
             have HO156 := Aside0.mk (Kd.R_lower ho11 (below_size cq0_))
             replace BK153 := Aside0.mk (cbb_ BK153 hb)
             replace HB := Aside0.mk (below_step cq0_ hb)
             clear hb ho11
             refine hK.out _ _ trivial (fun hHeld => ?_)
             clear hK K
             refine norm_ (a' := ?_) ?_ ?_
             rotate_left
             ·show Act.put _ (some 1) _ = _
              simp only [Act.put, List.setIfInBounds_toArray, List.set_cons_zero, List.set_cons_succ, i64_w, i32_w]
              rfl
             exact norm_ (by first | (simp only [putAll, Act.put, List.setIfInBounds_toArray, List.set_cons_zero, List.set_cons_succ]; done) | (simp only [putAll, Act.put, List.setIfInBounds_toArray, List.set_cons_zero, List.set_cons_succ]; rfl)) (hJ0_1_2 (v155, v158, v161) _ ⟨(cru_ HO156), (cru_ HO159), (cru_ HO162), (cbu_ BK153), cq0_⟩)
            ·skip
             refine Kd.R_lit_step k137 _ 137 ?hg (N := 4) ?hd (xs := ([] : List (S137))) (inner := []) (ok := fun _ => True) (okp := fun _ => True) ?hr ?hp (fun _ hk => hk) trivial (Below.refl _ _) (Nat.le_refl _) cq4_ ?_; (case hd => rfl); (case hg => rfl); (case hr => first | (go_simp; done) | (go_simp; rfl)); (case hp => exact (Reps.none _ _))
             intro v164 w10 ho11 hb hg_ hnew_
             clear hg_ hnew_
             (first | rw [← Ny163.out] at ho11 | (simp only [Int.reduceToNat] at ho11; rw [← Ny163.out] at ho11))
             replace HO159 := Aside0.mk (Kd.R_below (cru_ HO159) hb)
             replace HO162 := Aside0.mk (Kd.R_below (cru_ HO162) hb)
             have HO165 := Aside0.mk (Kd.R_lower ho11 (below_size cq0_))
             replace BK153 := Aside0.mk (cbb_ BK153 hb)
             replace HB := Aside0.mk (below_step cq0_ hb)
             clear hb ho11
             refine hK.out _ _ trivial (fun hHeld => ?_)
             clear hK K
             refine norm_ (a' := ?_) ?_ ?_
             rotate_left
             ·show Act.put _ (some 4) _ = _
              simp only [Act.put, List.setIfInBounds_toArray, List.set_cons_zero, List.set_cons_succ, i64_w, i32_w]
              rfl
             exact norm_ (by first | (simp only [putAll, Act.put, List.setIfInBounds_toArray, List.set_cons_zero, List.set_cons_succ]; done) | (simp only [putAll, Act.put, List.setIfInBounds_toArray, List.set_cons_zero, List.set_cons_succ]; rfl)) (hJ1_2_3 (v158, v161, v164) _ ⟨(cru_ HO159), (cru_ HO162), (cru_ HO165), (cbu_ BK153), cq0_⟩)
          ·skip
           rintro ⟨v155, v164⟩ w9 ⟨h0_, h1_, h2_, h3_⟩
           have n0_ : Aside0 (Kd.R Kd.bool 4 w9 w.heap.size (fun _ => True) v155 y154) := ⟨h0_⟩
           have n1_ : Aside0 (Kd.R k137 137 w9 w.heap.size (fun _ => True) v164 y163) := ⟨h1_⟩
           have n2_ : Aside0 (w9.heap[gb153]? = some (.cells #[.slice none 0 0, .slice none 0 0, .slice none 0 0, .int .i64 0, .slice none 0 0] 56 (0, 0))) := ⟨h2_⟩
           have n3_ : Aside0 (Below w.heap.size w w9) := ⟨h3_⟩
           clear BK153
           clear HB
           clear h0_ h1_ h2_ h3_
           have HO156 := n0_
           have HO165 := n1_
           have BK153 := n2_
           have HB := n3_
           clear n0_ n1_ n2_ n3_
           have hHeld := trivial
           refine norm_ (a' := ?_) ?_ ?_
           rotate_left
           ·simp only [putAll, Act.put, List.setIfInBounds_toArray, List.set_cons_zero, List.set_cons_succ]
            rfl
           refine two_ (i := 1) (j := 2) (Ni := some 2) (Nj := some 3) #[true, true, false, true, false, false] #[true, false, true, true, false, false] rfl rfl rfl rfl (by kernel_rfl) (by decide) (by decide) (fun K hK => ?_) (fun K hK => ?_)
           ·skip
            refine Kd.R_make_step (Kd.int .i64) _ 3 (by rfl) (N := 2) rfl 50 _ _ rfl 8 rfl rfl Tryd.underlying50 (.int .i64 0) 8 info3 rfl (by decide) (by omega) 0 (ok := fun _ => True) (okp := fun _ => True) rfl (fun _ hk => hk) trivial (by omega) (by omega) (Below.refl _ _) (Nat.le_refl _) ?_
            intro v158 w10 ho11 hb hg_ hnew_
            clear hg_ hnew_
            (first | rw [← Ny157.out] at ho11 | (simp only [Int.reduceToNat] at ho11; rw [← Ny157.out] at ho11))
            replace HO156 := Aside0.mk (Kd.R_below (cru_ HO156) hb)
            replace HO165 := Aside0.mk (Kd.R_below (cru_ HO165) hb)
            have HO159 := Aside0.mk (Kd.R_lower ho11 (below_size cq0_))
            replace BK153 := Aside0.mk (cbb_ BK153 hb)
            replace HB := Aside0.mk (below_step cq0_ hb)
            clear hb ho11
            refine hK.out _ _ trivial (fun hHeld => ?_)
            clear hK K
            refine norm_ (a' := ?_) ?_ ?_
            rotate_left
            ·show Act.put _ (some 2) _ = _
             simp only [Act.put, List.setIfInBounds_toArray, List.set_cons_zero, List.set_cons_succ, i64_w, i32_w]
             rfl
            exact norm_ (by first | (simp only [putAll, Act.put, List.setIfInBounds_toArray, List.set_cons_zero, List.set_cons_succ]; done) | (simp only [putAll, Act.put, List.setIfInBounds_toArray, List.set_cons_zero, List.set_cons_succ]; rfl)) (hJ0_1_3 (v155, v158, v164) _ ⟨(cru_ HO156), (cru_ HO159), (cru_ HO165), (cbu_ BK153), cq0_⟩)
           ·skip
            refine Kd.R_lit_step (Kd.int .i64) _ 3 ?hg (N := 3) ?hd (xs := ([] : List Int)) (inner := []) (ok := fun _ => True) (okp := fun _ => True) ?hr ?hp (fun _ hk => hk) trivial (Below.refl _ _) (Nat.le_refl _) cq4_ ?_; (case hd => rfl); (case hg => rfl); (case hr => first | (go_simp; done) | (go_simp; rfl)); (case hp => exact (Reps.none _ _))
            intro v161 w10 ho11 hb hg_ hnew_
            clear hg_ hnew_
            (first | rw [← Ny160.out] at ho11 | (simp only [Int.reduceToNat] at ho11; rw [← Ny160.out] at ho11))
            replace HO156 := Aside0.mk (Kd.R_below (cru_ HO156) hb)
            replace HO165 := Aside0.mk (Kd.R_below (cru_ HO165) hb)
            have HO162 := Aside0.mk (Kd.R_lower ho11 (below_size cq0_))
            replace BK153 := Aside0.mk (cbb_ BK153 hb)
            replace HB := Aside0.mk (below_step cq0_ hb)
            clear hb ho11
            refine hK.out _ _ trivial (fun hHeld => ?_)
            clear hK K
            refine norm_ (a' := ?_) ?_ ?_
            rotate_left
            ·show Act.put _ (some 3) _ = _
             simp only [Act.put, List.setIfInBounds_toArray, List.set_cons_zero, List.set_cons_succ, i64_w, i32_w]
             rfl
            exact norm_ (by first | (simp only [putAll, Act.put, List.setIfInBounds_toArray, List.set_cons_zero, List.set_cons_succ]; done) | (simp only [putAll, Act.put, List.setIfInBounds_toArray, List.set_cons_zero, List.set_cons_succ]; rfl)) (hJ0_2_3 (v155, v161, v164) _ ⟨(cru_ HO156), (cru_ HO162), (cru_ HO165), (cbu_ BK153), cq0_⟩)
         ·skip
          rintro ⟨v155, v161⟩ w9 ⟨h0_, h1_, h2_, h3_⟩
          have n0_ : Aside0 (Kd.R Kd.bool 4 w9 w.heap.size (fun _ => True) v155 y154) := ⟨h0_⟩
          have n1_ : Aside0 (Kd.R (Kd.int .i64) 3 w9 w.heap.size (fun _ => True) v161 y160) := ⟨h1_⟩
          have n2_ : Aside0 (w9.heap[gb153]? = some (.cells #[.slice none 0 0, .slice none 0 0, .slice none 0 0, .int .i64 0, .slice none 0 0] 56 (0, 0))) := ⟨h2_⟩
          have n3_ : Aside0 (Below w.heap.size w w9) := ⟨h3_⟩
          clear BK153
          clear HB
          clear h0_ h1_ h2_ h3_
          have HO156 := n0_
          have HO162 := n1_
          have BK153 := n2_
          have HB := n3_
          clear n0_ n1_ n2_ n3_
          have hHeld := trivial
          refine norm_ (a' := ?_) ?_ ?_
          rotate_left
          ·simp only [putAll, Act.put, List.setIfInBounds_toArray, List.set_cons_zero, List.set_cons_succ]
           rfl
          refine two_ (i := 1) (j := 3) (Ni := some 2) (Nj := some 4) #[true, true, true, false, false, false] #[true, false, true, true, false, false] rfl rfl rfl rfl (by kernel_rfl) (by decide) (by decide) (fun K hK => ?_) (fun K hK => ?_)
          ·skip
           refine Kd.R_make_step (Kd.int .i64) _ 3 (by rfl) (N := 2) rfl 50 _ _ rfl 8 rfl rfl Tryd.underlying50 (.int .i64 0) 8 info3 rfl (by decide) (by omega) 0 (ok := fun _ => True) (okp := fun _ => True) rfl (fun _ hk => hk) trivial (by omega) (by omega) (Below.refl _ _) (Nat.le_refl _) ?_
           intro v158 w10 ho11 hb hg_ hnew_
           clear hg_ hnew_
           (first | rw [← Ny157.out] at ho11 | (simp only [Int.reduceToNat] at ho11; rw [← Ny157.out] at ho11))
           have n0_ := Aside0.mk (Kd.R_below (cru_ HO156) hb)
           have n1_ := Aside0.mk (Kd.R_elder' (cru_ HO162) (Kd.R_base ho11) hb)
           have n2_ := Aside0.mk (Kd.R_lower (Kd.R_new' ho11 (Kd.R_lt (cru_ HO162))) (below_size cq0_))
           have n3_ := Aside0.mk (cbb_ BK153 hb)
           have n4_ := Aside0.mk (below_step cq0_ hb)
           clear HO156
           clear HO162
           clear BK153
           clear HB
           have HO156 := n0_
           have HO162 := n1_
           have HO159 := n2_
           have BK153 := n3_
           have HB := n4_
           clear n0_ n1_ n2_ n3_ n4_
           clear hb ho11
           refine hK.out _ _ trivial (fun hHeld => ?_)
           clear hK K
           refine norm_ (a' := ?_) ?_ ?_
           rotate_left
           ·show Act.put _ (some 2) _ = _
            simp only [Act.put, List.setIfInBounds_toArray, List.set_cons_zero, List.set_cons_succ, i64_w, i32_w]
            rfl
           exact norm_ (by first | (simp only [putAll, Act.put, List.setIfInBounds_toArray, List.set_cons_zero, List.set_cons_succ]; done) | (simp only [putAll, Act.put, List.setIfInBounds_toArray, List.set_cons_zero, List.set_cons_succ]; rfl)) (hJ0_1_2 (v155, v158, v161) _ ⟨(cru_ HO156), cq1_, cq2_, (cbu_ BK153), cq0_⟩)
          ·skip
           refine Kd.R_lit_step k137 _ 137 ?hg (N := 4) ?hd (xs := ([] : List (S137))) (inner := []) (ok := fun _ => True) (okp := fun _ => True) ?hr ?hp (fun _ hk => hk) trivial (Below.refl _ _) (Nat.le_refl _) cq4_ ?_; (case hd => rfl); (case hg => rfl); (case hr => first | (go_simp; done) | (go_simp; rfl)); (case hp => exact (Reps.none _ _))
           intro v164 w10 ho11 hb hg_ hnew_
           clear hg_ hnew_
           (first | rw [← Ny163.out] at ho11 | (simp only [Int.reduceToNat] at ho11; rw [← Ny163.out] at ho11))
           replace HO156 := Aside0.mk (Kd.R_below (cru_ HO156) hb)
           replace HO162 := Aside0.mk (Kd.R_below (cru_ HO162) hb)
           have HO165 := Aside0.mk (Kd.R_lower ho11 (below_size cq0_))
           replace BK153 := Aside0.mk (cbb_ BK153 hb)
           replace HB := Aside0.mk (below_step cq0_ hb)
           clear hb ho11
           refine hK.out _ _ trivial (fun hHeld => ?_)
           clear hK K
           refine norm_ (a' := ?_) ?_ ?_
           rotate_left
           ·show Act.put _ (some 4) _ = _
            simp only [Act.put, List.setIfInBounds_toArray, List.set_cons_zero, List.set_cons_succ, i64_w, i32_w]
            rfl
           exact norm_ (by first | (simp only [putAll, Act.put, List.setIfInBounds_toArray, List.set_cons_zero, List.set_cons_succ]; done) | (simp only [putAll, Act.put, List.setIfInBounds_toArray, List.set_cons_zero, List.set_cons_succ]; rfl)) (hJ0_2_3 (v155, v161, v164) _ ⟨(cru_ HO156), (cru_ HO162), (cru_ HO165), (cbu_ BK153), cq0_⟩)
        ·skip
         rintro ⟨v155, v158⟩ w9 ⟨h0_, h1_, h2_, h3_⟩
         have n0_ : Aside0 (Kd.R Kd.bool 4 w9 w.heap.size (fun _ => True) v155 y154) := ⟨h0_⟩
         have n1_ : Aside0 (Kd.R (Kd.int .i64) 3 w9 w.heap.size (fun _ => True) v158 y157) := ⟨h1_⟩
         have n2_ : Aside0 (w9.heap[gb153]? = some (.cells #[.slice none 0 0, .slice none 0 0, .slice none 0 0, .int .i64 0, .slice none 0 0] 56 (0, 0))) := ⟨h2_⟩
         have n3_ : Aside0 (Below w.heap.size w w9) := ⟨h3_⟩
         clear BK153
         clear HB
         clear h0_ h1_ h2_ h3_
         have HO156 := n0_
         have HO159 := n1_
         have BK153 := n2_
         have HB := n3_
         clear n0_ n1_ n2_ n3_
         have hHeld := trivial
         refine norm_ (a' := ?_) ?_ ?_
         rotate_left
         ·simp only [putAll, Act.put, List.setIfInBounds_toArray, List.set_cons_zero, List.set_cons_succ]
          rfl
         refine two_ (i := 2) (j := 3) (Ni := some 3) (Nj := some 4) #[true, true, true, false, false, false] #[true, true, false, true, false, false] rfl rfl rfl rfl (by kernel_rfl) (by decide) (by decide) (fun K hK => ?_) (fun K hK => ?_)
         ·skip
          refine Kd.R_lit_step (Kd.int .i64) _ 3 ?hg (N := 3) ?hd (xs := ([] : List Int)) (inner := []) (ok := fun _ => True) (okp := fun _ => True) ?hr ?hp (fun _ hk => hk) trivial (Below.refl _ _) (Nat.le_refl _) cq4_ ?_; (case hd => rfl); (case hg => rfl); (case hr => first | (go_simp; done) | (go_simp; rfl)); (case hp => exact (Reps.none _ _))
          intro v161 w10 ho11 hb hg_ hnew_
          clear hg_ hnew_
          (first | rw [← Ny160.out] at ho11 | (simp only [Int.reduceToNat] at ho11; rw [← Ny160.out] at ho11))
          have n0_ := Aside0.mk (Kd.R_below (cru_ HO156) hb)
          have n1_ := Aside0.mk (Kd.R_elder' (cru_ HO159) (Kd.R_base ho11) hb)
          have n2_ := Aside0.mk (Kd.R_lower (Kd.R_new' ho11 (Kd.R_lt (cru_ HO159))) (below_size cq0_))
          have n3_ := Aside0.mk (cbb_ BK153 hb)
          have n4_ := Aside0.mk (below_step cq0_ hb)
          clear HO156
          clear HO159
          clear BK153
          clear HB
          have HO156 := n0_
          have HO159 := n1_
          have HO162 := n2_
          have BK153 := n3_
          have HB := n4_
          clear n0_ n1_ n2_ n3_ n4_
          clear hb ho11
          refine hK.out _ _ trivial (fun hHeld => ?_)
          clear hK K
          refine norm_ (a' := ?_) ?_ ?_
          rotate_left
          ·show Act.put _ (some 3) _ = _
           simp only [Act.put, List.setIfInBounds_toArray, List.set_cons_zero, List.set_cons_succ, i64_w, i32_w]
           rfl
          exact norm_ (by first | (simp only [putAll, Act.put, List.setIfInBounds_toArray, List.set_cons_zero, List.set_cons_succ]; done) | (simp only [putAll, Act.put, List.setIfInBounds_toArray, List.set_cons_zero, List.set_cons_succ]; rfl)) (hJ0_1_2 (v155, v158, v161) _ ⟨(cru_ HO156), cq1_, cq2_, (cbu_ BK153), cq0_⟩)
         ·skip
          refine Kd.R_lit_step k137 _ 137 ?hg (N := 4) ?hd (xs := ([] : List (S137))) (inner := []) (ok := fun _ => True) (okp := fun _ => True) ?hr ?hp (fun _ hk => hk) trivial (Below.refl _ _) (Nat.le_refl _) cq4_ ?_; (case hd => rfl); (case hg => rfl); (case hr => first | (go_simp; done) | (go_simp; rfl)); (case hp => exact (Reps.none _ _))
          intro v164 w10 ho11 hb hg_ hnew_
          clear hg_ hnew_
          (first | rw [← Ny163.out] at ho11 | (simp only [Int.reduceToNat] at ho11; rw [← Ny163.out] at ho11))
          replace HO156 := Aside0.mk (Kd.R_below (cru_ HO156) hb)
          replace HO159 := Aside0.mk (Kd.R_below (cru_ HO159) hb)
          have HO165 := Aside0.mk (Kd.R_lower ho11 (below_size cq0_))
          replace BK153 := Aside0.mk (cbb_ BK153 hb)
          replace HB := Aside0.mk (below_step cq0_ hb)
          clear hb ho11
          refine hK.out _ _ trivial (fun hHeld => ?_)
          clear hK K
          refine norm_ (a' := ?_) ?_ ?_
          rotate_left
          ·show Act.put _ (some 4) _ = _
           simp only [Act.put, List.setIfInBounds_toArray, List.set_cons_zero, List.set_cons_succ, i64_w, i32_w]
           rfl
          exact norm_ (by first | (simp only [putAll, Act.put, List.setIfInBounds_toArray, List.set_cons_zero, List.set_cons_succ]; done) | (simp only [putAll, Act.put, List.setIfInBounds_toArray, List.set_cons_zero, List.set_cons_succ]; rfl)) (hJ0_1_3 (v155, v158, v164) _ ⟨(cru_ HO156), (cru_ HO159), (cru_ HO165), (cbu_ BK153), cq0_⟩)
       ·skip
        rintro ⟨v158, v161, v164⟩ w11 ⟨h0_, h1_, h2_, h3_, h4_⟩
        have n0_ : Aside0 (Kd.R (Kd.int .i64) 3 w11 w.heap.size (fun k_ => some k_ ≠ (v161 : Value).ownBlock) v158 y157) := ⟨h0_⟩
        have n1_ : Aside0 (Kd.R (Kd.int .i64) 3 w11 w.heap.size (fun k_ => some k_ ≠ (v158 : Value).ownBlock) v161 y160) := ⟨h1_⟩
        have n2_ : Aside0 (Kd.R k137 137 w11 w.heap.size (fun _ => True) v164 y163) := ⟨h2_⟩
        have n3_ : Aside0 (w11.heap[gb153]? = some (.cells #[.slice none 0 0, .slice none 0 0, .slice none 0 0, .int .i64 0, .slice none 0 0] 56 (0, 0))) := ⟨h3_⟩
        have n4_ : Aside0 (Below w.heap.size w w11) := ⟨h4_⟩
        clear BK153
        clear HB
        clear h0_ h1_ h2_ h3_ h4_
        have HO159 := n0_
        have HO162 := n1_
        have HO165 := n2_
        have BK153 := n3_
        have HB := n4_
        clear n0_ n1_ n2_ n3_ n4_
        have hHeld := trivial
        refine norm_ (a' := ?_) ?_ ?_
        rotate_left
        ·simp only [putAll, Act.put, List.setIfInBounds_toArray, List.set_cons_zero, List.set_cons_succ]
         rfl
        refine one_ (i := 0) (N := some 1) #[true, true, true, true, false, false] rfl rfl (by kernel_rfl) (by decide) (fun K hK => ?_)
        refine Kd.R_make_step Kd.bool _ 4 (by rfl) (N := 1) rfl 53 _ _ rfl 4 rfl rfl Tryd.underlying53 (.bool false) 1 info4 rfl (by decide) (by omega) false (ok := fun _ => True) (okp := fun _ => True) rfl (fun _ hk => hk) trivial (by omega) (by omega) (Below.refl _ _) (Nat.le_refl _) ?_
        intro v155 w12 ho13 hb hg_ hnew_
        clear hg_ hnew_
        (first | rw [← Ny154.out] at ho13 | (simp only [Int.reduceToNat] at ho13; rw [← Ny154.out] at ho13))
        replace HO159 := Aside0.mk (Kd.R_below (cru_ HO159) hb)
        replace HO162 := Aside0.mk (Kd.R_below (cru_ HO162) hb)
        replace HO165 := Aside0.mk (Kd.R_below (cru_ HO165) hb)
        have HO156 := Aside0.mk (Kd.R_lower ho13 (below_size cq0_))
        replace BK153 := Aside0.mk (cbb_ BK153 hb)
        replace HB := Aside0.mk (below_step cq0_ hb)
        clear hb ho13
        obtain ⟨Ao14, co14, eo14⟩ := Kd.R_slice HO165.out
        (first | subst eo14 | (injection eo14 with cf1_ cf2_ cf3_; have cf4_ := f1_.symm; have cf5_ := f3_.symm; clear cf1_ cf2_ cf3_; subst cf4_; subst cf5_))
        obtain ⟨Ao15, co15, eo15⟩ := Kd.R_slice HO162.out
        (first | subst eo15 | (injection eo15 with cf1_ cf2_ cf3_; have cf4_ := f1_.symm; have cf5_ := f3_.symm; clear cf1_ cf2_ cf3_; subst cf4_; subst cf5_))
        obtain ⟨Ao16, co16, eo16⟩ := Kd.R_slice HO159.out
        (first | subst eo16 | (injection eo16 with cf1_ cf2_ cf3_; have cf4_ := f1_.symm; have cf5_ := f3_.symm; clear cf1_ cf2_ cf3_; subst cf4_; subst cf5_))
        obtain ⟨Ao17, co17, eo17⟩ := Kd.R_slice HO156.out
        (first | subst eo17 | (injection eo17 with cf1_ cf2_ cf3_; have cf4_ := f1_.symm; have cf5_ := f3_.symm; clear cf1_ cf2_ cf3_; subst cf4_; subst cf5_))
        refine hK.out _ _ trivial (fun hHeld => ?_)
        clear hK K
        refine norm_ (a' := ?_) ?_ ?_
        rotate_left
        ·show Act.put _ (some 1) _ = _
         simp only [Act.put, List.setIfInBounds_toArray, List.set_cons_zero, List.set_cons_succ, i64_w, i32_w]
         rfl
        exact norm_ (by first | (simp only [putAll, Act.put, List.setIfInBounds_toArray, List.set_cons_zero, List.set_cons_succ]; done) | (simp only [putAll, Act.put, List.setIfInBounds_toArray, List.set_cons_zero, List.set_cons_succ]; rfl)) (hJ0_1_2_3 (.slice Ao17 y154.length co17, .slice Ao16 y157.length co16, .slice Ao15 y160.length co15, .slice Ao14 y163.length co14) _ ⟨(cru_ HO156), (cru_ HO159), (cru_ HO162), (cru_ HO165), (cbu_ BK153), cq0_⟩)
      ·skip
       rintro ⟨v155, v161, v164⟩ w11 ⟨h0_, h1_, h2_, h3_, h4_⟩
       have n0_ : Aside0 (Kd.R Kd.bool 4 w11 w.heap.size (fun _ => True) v155 y154) := ⟨h0_⟩
       have n1_ : Aside0 (Kd.R (Kd.int .i64) 3 w11 w.heap.size (fun _ => True) v161 y160) := ⟨h1_⟩
       have n2_ : Aside0 (Kd.R k137 137 w11 w.heap.size (fun _ => True) v164 y163) := ⟨h2_⟩
       have n3_ : Aside0 (w11.heap[gb153]? = some (.cells #[.slice none 0 0, .slice none 0 0, .slice none 0 0, .int .i64 0, .slice none 0 0] 56 (0, 0))) := ⟨h3_⟩
       have n4_ : Aside0 (Below w.heap.size w w11) := ⟨h4_⟩
       clear BK153
       clear HB
       clear h0_ h1_ h2_ h3_ h4_
       have HO156 := n0_
       have HO162 := n1_
       have HO165 := n2_
       have BK153 := n3_
       have HB := n4_
       clear n0_ n1_ n2_ n3_ n4_
       have hHeld := trivial
       refine norm_ (a' := ?_) ?_ ?_
       rotate_left
       ·simp only [putAll, Act.put, List.setIfInBounds_toArray, List.set_cons_zero, List.set_cons_succ]
        rfl
       refine one_ (i := 1) (N := some 2) #[true, true, true, true, false, false] rfl rfl (by kernel_rfl) (by decide) (fun K hK => ?_)
       refine Kd.R_make_step (Kd.int .i64) _ 3 (by rfl) (N := 2) rfl 50 _ _ rfl 8 rfl rfl Tryd.underlying50 (.int .i64 0) 8 info3 rfl (by decide) (by omega) 0 (ok := fun _ => True) (okp := fun _ => True) rfl (fun _ hk => hk) trivial (by omega) (by omega) (Below.refl _ _) (Nat.le_refl _) ?_
       intro v158 w12 ho13 hb hg_ hnew_
       clear hg_ hnew_
       (first | rw [← Ny157.out] at ho13 | (simp only [Int.reduceToNat] at ho13; rw [← Ny157.out] at ho13))
       have n0_ := Aside0.mk (Kd.R_below (cru_ HO156) hb)
       have n1_ := Aside0.mk (Kd.R_elder' (cru_ HO162) (Kd.R_base ho13) hb)
       have n2_ := Aside0.mk (Kd.R_below (cru_ HO165) hb)
       have n3_ := Aside0.mk (Kd.R_lower (Kd.R_new' ho13 (Kd.R_lt (cru_ HO162))) (below_size cq0_))
       have n4_ := Aside0.mk (cbb_ BK153 hb)
       have n5_ := Aside0.mk (below_step cq0_ hb)
       clear HO156
       clear HO162
       clear HO165
       clear BK153
       clear HB
       have HO156 := n0_
       have HO162 := n1_
       have HO165 := n2_
       have HO159 := n3_
       have BK153 := n4_
       have HB := n5_
       clear n0_ n1_ n2_ n3_ n4_ n5_
       clear hb ho13
       obtain ⟨Ao14, co14, eo14⟩ := Kd.R_slice HO165.out
       (first | subst eo14 | (injection eo14 with cf1_ cf2_ cf3_; have cf4_ := f1_.symm; have cf5_ := f3_.symm; clear cf1_ cf2_ cf3_; subst cf4_; subst cf5_))
       obtain ⟨Ao15, co15, eo15⟩ := Kd.R_slice HO162.out
       (first | subst eo15 | (injection eo15 with cf1_ cf2_ cf3_; have cf4_ := f1_.symm; have cf5_ := f3_.symm; clear cf1_ cf2_ cf3_; subst cf4_; subst cf5_))
       obtain ⟨Ao16, co16, eo16⟩ := Kd.R_slice HO159.out
       (first | subst eo16 | (injection eo16 with cf1_ cf2_ cf3_; have cf4_ := f1_.symm; have cf5_ := f3_.symm; clear cf1_ cf2_ cf3_; subst cf4_; subst cf5_))
       obtain ⟨Ao17, co17, eo17⟩ := Kd.R_slice HO156.out
       (first | subst eo17 | (injection eo17 with cf1_ cf2_ cf3_; have cf4_ := f1_.symm; have cf5_ := f3_.symm; clear cf1_ cf2_ cf3_; subst cf4_; subst cf5_))
       refine hK.out _ _ trivial (fun hHeld => ?_)
       clear hK K
       refine norm_ (a' := ?_) ?_ ?_
       rotate_left
       ·show Act.put _ (some 2) _ = _
        simp only [Act.put, List.setIfInBounds_toArray, List.set_cons_zero, List.set_cons_succ, i64_w, i32_w]
        rfl
       exact norm_ (by first | (simp only [putAll, Act.put, List.setIfInBounds_toArray, List.set_cons_zero, List.set_cons_succ]; done) | (simp only [putAll, Act.put, List.setIfInBounds_toArray, List.set_cons_zero, List.set_cons_succ]; rfl)) (hJ0_1_2_3 (.slice Ao17 y154.length co17, .slice Ao16 y157.length co16, .slice Ao15 y160.length co15, .slice Ao14 y163.length co14) _ ⟨(cru_ HO156), cq1_, cq2_, (cru_ HO165), (cbu_ BK153), cq0_⟩)
     ·skip
      rintro ⟨v155, v158, v164⟩ w11 ⟨h0_, h1_, h2_, h3_, h4_⟩
      have n0_ : Aside0 (Kd.R Kd.bool 4 w11 w.heap.size (fun _ => True) v155 y154) := ⟨h0_⟩
      have n1_ : Aside0 (Kd.R (Kd.int .i64) 3 w11 w.heap.size (fun _ => True) v158 y157) := ⟨h1_⟩
      have n2_ : Aside0 (Kd.R k137 137 w11 w.heap.size (fun _ => True) v164 y163) := ⟨h2_⟩
      have n3_ : Aside0 (w11.heap[gb153]? = some (.cells #[.slice none 0 0, .slice none 0 0, .slice none 0 0, .int .i64 0, .slice none 0 0] 56 (0, 0))) := ⟨h3_⟩
      have n4_ : Aside0 (Below w.heap.size w w11) := ⟨h4_⟩
      clear BK153
      clear HB
      clear h0_ h1_ h2_ h3_ h4_
      have HO156 := n0_
      have HO159 := n1_
      have HO165 := n2_
      have BK153 := n3_
      have HB := n4_
      clear n0_ n1_ n2_ n3_ n4_
      have hHeld := trivial
      refine norm_ (a' := ?_) ?_ ?_
      rotate_left
      ·simp only [putAll, Act.put, List.setIfInBounds_toArray, List.set_cons_zero, List.set_cons_succ]
       rfl
      refine one_ (i := 2) (N := some 3) #[true, true, true, true, false, false] rfl rfl (by kernel_rfl) (by decide) (fun K hK => ?_)
      refine Kd.R_lit_step (Kd.int .i64) _ 3 ?hg (N := 3) ?hd (xs := ([] : List Int)) (inner := []) (ok := fun _ => True) (okp := fun _ => True) ?hr ?hp (fun _ hk => hk) trivial (Below.refl _ _) (Nat.le_refl _) cq4_ ?_; (case hd => rfl); (case hg => rfl); (case hr => first | (go_simp; done) | (go_simp; rfl)); (case hp => exact (Reps.none _ _))
      intro v161 w12 ho13 hb hg_ hnew_
      clear hg_ hnew_
      (first | rw [← Ny160.out] at ho13 | (simp only [Int.reduceToNat] at ho13; rw [← Ny160.out] at ho13))
      have n0_ := Aside0.mk (Kd.R_below (cru_ HO156) hb)
      have n1_ := Aside0.mk (Kd.R_elder' (cru_ HO159) (Kd.R_base ho13) hb)
      have n2_ := Aside0.mk (Kd.R_below (cru_ HO165) hb)
      have n3_ := Aside0.mk (Kd.R_lower (Kd.R_new' ho13 (Kd.R_lt (cru_ HO159))) (below_size cq0_))
      have n4_ := Aside0.mk (cbb_ BK153 hb)
      have n5_ := Aside0.mk (below_step cq0_ hb)
      clear HO156
      clear HO159
      clear HO165
      clear BK153
      clear HB
      have HO156 := n0_
      have HO159 := n1_
      have HO165 := n2_
      have HO162 := n3_
      have BK153 := n4_
      have HB := n5_
      clear n0_ n1_ n2_ n3_ n4_ n5_
      clear hb ho13
      obtain ⟨Ao14, co14, eo14⟩ := Kd.R_slice HO165.out
      (first | subst eo14 | (injection eo14 with cf1_ cf2_ cf3_; have cf4_ := f1_.symm; have cf5_ := f3_.symm; clear cf1_ cf2_ cf3_; subst cf4_; subst cf5_))
      obtain ⟨Ao15, co15, eo15⟩ := Kd.R_slice HO162.out
      (first | subst eo15 | (injection eo15 with cf1_ cf2_ cf3_; have cf4_ := f1_.symm; have cf5_ := f3_.symm; clear cf1_ cf2_ cf3_; subst cf4_; subst cf5_))
      obtain ⟨Ao16, co16, eo16⟩ := Kd.R_slice HO159.out
      (first | subst eo16 | (injection eo16 with cf1_ cf2_ cf3_; have cf4_ := f1_.symm; have cf5_ := f3_.symm; clear cf1_ cf2_ cf3_; subst cf4_; subst cf5_))
      obtain ⟨Ao17, co17, eo17⟩ := Kd.R_slice HO156.out
      (first | subst eo17 | (injection eo17 with cf1_ cf2_ cf3_; have cf4_ := f1_.symm; have cf5_ := f3_.symm; clear cf1_ cf2_ cf3_; subst cf4_; subst cf5_))
      refine hK.out _ _ trivial (fun hHeld => ?_)
      clear hK K
      refine norm_ (a' := ?_) ?_ ?_
      rotate_left
      ·show Act.put _ (some 3) _ = _
       simp only [Act.put, List.setIfInBounds_toArray, List.set_cons_zero, List.set_cons_succ, i64_w, i32_w]
       rfl
      exact norm_ (by first | (simp only [putAll, Act.put, List.setIfInBounds_toArray, List.set_cons_zero, List.set_cons_succ]; done) | (simp only [putAll, Act.put, List.setIfInBounds_toArray, List.set_cons_zero, List.set_cons_succ]; rfl)) (hJ0_1_2_3 (.slice Ao17 y154.length co17, .slice Ao16 y157.length co16, .slice Ao15 y160.length co15, .slice Ao14 y163.length co14) _ ⟨(cru_ HO156), cq1_, cq2_, (cru_ HO165), (cbu_ BK153), cq0_⟩)
    ·skip
     rintro ⟨v155, v158, v161⟩ w11 ⟨h0_, h1_, h2_, h3_, h4_⟩
     have n0_ : Aside0 (Kd.R Kd.bool 4 w11 w.heap.size (fun _ => True) v155 y154) := ⟨h0_⟩
     have n1_ : Aside0 (Kd.R (Kd.int .i64) 3 w11 w.heap.size (fun k_ => some k_ ≠ (v161 : Value).ownBlock) v158 y157) := ⟨h1_⟩
     have n2_ : Aside0 (Kd.R (Kd.int .i64) 3 w11 w.heap.size (fun k_ => some k_ ≠ (v158 : Value).ownBlock) v161 y160) := ⟨h2_⟩
     have n3_ : Aside0 (w11.heap[gb153]? = some (.cells #[.slice none 0 0, .slice none 0 0, .slice none 0 0, .int .i64 0, .slice none 0 0] 56 (0, 0))) := ⟨h3_⟩
     have n4_ : Aside0 (Below w.heap.size w w11) := ⟨h4_⟩
     clear BK153
     clear HB
     clear h0_ h1_ h2_ h3_ h4_
     have HO156 := n0_
     have HO159 := n1_
     have HO162 := n2_
     have BK153 := n3_
     have HB := n4_
     clear n0_ n1_ n2_ n3_ n4_
     have hHeld := trivial
     refine norm_ (a' := ?_) ?_ ?_
     rotate_left
     ·simp only [putAll, Act.put, List.setIfInBounds_toArray, List.set_cons_zero, List.set_cons_succ]
      rfl
     refine one_ (i := 3) (N := some 4) #[true, true, true, true, false, false] rfl rfl (by kernel_rfl) (by decide) (fun K hK => ?_)
     refine Kd.R_lit_step k137 _ 137 ?hg (N := 4) ?hd (xs := ([] : List (S137))) (inner := []) (ok := fun _ => True) (okp := fun _ => True) ?hr ?hp (fun _ hk => hk) trivial (Below.refl _ _) (Nat.le_refl _) cq4_ ?_; (case hd => rfl); (case hg => rfl); (case hr => first | (go_simp; done) | (go_simp; rfl)); (case hp => exact (Reps.none _ _))
     intro v164 w12 ho13 hb hg_ hnew_
     clear hg_ hnew_
     (first | rw [← Ny163.out] at ho13 | (simp only [Int.reduceToNat] at ho13; rw [← Ny163.out] at ho13))
     replace HO156 := Aside0.mk (Kd.R_below (cru_ HO156) hb)
     replace HO159 := Aside0.mk (Kd.R_below (cru_ HO159) hb)
     replace HO162 := Aside0.mk (Kd.R_below (cru_ HO162) hb)
     have HO165 := Aside0.mk (Kd.R_lower ho13 (below_size cq0_))
     replace BK153 := Aside0.mk (cbb_ BK153 hb)
     replace HB := Aside0.mk (below_step cq0_ hb)
     clear hb ho13
     obtain ⟨Ao14, co14, eo14⟩ := Kd.R_slice HO165.out
     (first | subst eo14 | (injection eo14 with cf1_ cf2_ cf3_; have cf4_ := f1_.symm; have cf5_ := f3_.symm; clear cf1_ cf2_ cf3_; subst cf4_; subst cf5_))
     obtain ⟨Ao15, co15, eo15⟩ := Kd.R_slice HO162.out
     (first | subst eo15 | (injection eo15 with cf1_ cf2_ cf3_; have cf4_ := f1_.symm; have cf5_ := f3_.symm; clear cf1_ cf2_ cf3_; subst cf4_; subst cf5_))
     obtain ⟨Ao16, co16, eo16⟩ := Kd.R_slice HO159.out
     (first | subst eo16 | (injection eo16 with cf1_ cf2_ cf3_; have cf4_ := f1_.symm; have cf5_ := f3_.symm; clear cf1_ cf2_ cf3_; subst cf4_; subst cf5_))
     obtain ⟨Ao17, co17, eo17⟩ := Kd.R_slice HO156.out
     (first | subst eo17 | (injection eo17 with cf1_ cf2_ cf3_; have cf4_ := f1_.symm; have cf5_ := f3_.symm; clear cf1_ cf2_ cf3_; subst cf4_; subst cf5_))
     refine hK.out _ _ trivial (fun hHeld => ?_)
     clear hK K
     refine norm_ (a' := ?_) ?_ ?_
     rotate_left
     ·show Act.put _ (some 4) _ = _
      simp only [Act.put, List.setIfInBounds_toArray, List.set_cons_zero, List.set_cons_succ, i64_w, i32_w]
      rfl
     exact norm_ (by first | (simp only [putAll, Act.put, List.setIfInBounds_toArray, List.set_cons_zero, List.set_cons_succ]; done) | (simp only [putAll, Act.put, List.setIfInBounds_toArray, List.set_cons_zero, List.set_cons_succ]; rfl)) (hJ0_1_2_3 (.slice Ao17 y154.length co17, .slice Ao16 y157.length co16, .slice Ao15 y160.length co15, .slice Ao14 y163.length co14) _ ⟨(cru_ HO156), (cru_ HO159), (cru_ HO162), (cru_ HO165), (cbu_ BK153), cq0_⟩)
   rintro ⟨v155, v158, v161, v164⟩ w17 ⟨h0_, h1_, h2_, h3_, h4_, h5_⟩
   have n0_ : Aside0 (Kd.R Kd.bool 4 w17 w.heap.size (fun _ => True) v155 y154) := ⟨h0_⟩
   have n1_ : Aside0 (Kd.R (Kd.int .i64) 3 w17 w.heap.size (fun k_ => some k_ ≠ (v161 : Value).ownBlock) v158 y157) := ⟨h1_⟩
   have n2_ : Aside0 (Kd.R (Kd.int .i64) 3 w17 w.heap.size (fun k_ => some k_ ≠ (v158 : Value).ownBlock) v161 y160) := ⟨h2_⟩
   have n3_ : Aside0 (Kd.R k137 137 w17 w.heap.size (fun _ => True) v164 y163) := ⟨h3_⟩
   have n4_ : Aside0 (w17.heap[gb153]? = some (.cells #[.slice none 0 0, .slice none 0 0, .slice none 0 0, .int .i64 0, .slice none 0 0] 56 (0, 0))) := ⟨h4_⟩
   have n5_ : Aside0 (Below w.heap.size w w17) := ⟨h5_⟩
   clear BK153
   clear HB
   clear h0_ h1_ h2_ h3_ h4_ h5_
   have HO156 := n0_
   have HO159 := n1_
   have HO162 := n2_
   have HO165 := n3_
   have BK153 := n4_
   have HB := n5_
   clear n0_ n1_ n2_ n3_ n4_ n5_
   have hHeld := trivial
   obtain ⟨Ao18, co18, eo18⟩ := Kd.R_slice HO165.out
   (first | subst eo18 | (injection eo18 with cf1_ cf2_ cf3_; have cf4_ := f1_.symm; have cf5_ := f3_.symm; clear cf1_ cf2_ cf3_; subst cf4_; subst cf5_))
   obtain ⟨Ao19, co19, eo19⟩ := Kd.R_slice HO162.out
   (first | subst eo19 | (injection eo19 with cf1_ cf2_ cf3_; have cf4_ := f1_.symm; have cf5_ := f3_.symm; clear cf1_ cf2_ cf3_; subst cf4_; subst cf5_))
   obtain ⟨Ao20, co20, eo20⟩ := Kd.R_slice HO159.out
   (first | subst eo20 | (injection eo20 with cf1_ cf2_ cf3_; have cf4_ := f1_.symm; have cf5_ := f3_.symm; clear cf1_ cf2_ cf3_; subst cf4_; subst cf5_))
   obtain ⟨Ao21, co21, eo21⟩ := Kd.R_slice HO156.out
   (first | subst eo21 | (injection eo21 with cf1_ cf2_ cf3_; have cf4_ := f1_.symm; have cf5_ := f3_.symm; clear cf1_ cf2_ cf3_; subst cf4_; subst cf5_))
   refine norm_ (a' := ?_) ?_ ?_
   rotate_left
   ·simp only [putAll, Act.put, List.setIfInBounds_toArray, List.set_cons_zero, List.set_cons_succ]
    rfl
   refine pure_ (i := 4) (N := some 5) (v := ?_) (a' := ?_) #[true, true, true, true, true, false] rfl rfl (by kernel_rfl) (fun _ _ _ h => h) (Or.inl ⟨by rfl, ?_⟩) ?_ ?_
   rotate_left
   ·intro w'
    go_simp
    with_reducible rfl
   rotate_left
   ·simp only [Act.put, List.setIfInBounds_toArray, List.set_cons_zero, List.set_cons_succ, i64_w, i32_w]
    rfl
   refine one_ (i := 5) (N := none) #[true, true, true, true, true, true] rfl rfl (by kernel_rfl) (by decide) (fun K hK => ?_)
   have hs22 : w17.cell? ⟨gb153, 0, none⟩ = some (.slice none 0 0) := (blk_cell BK153.out 0).trans rfl
   have hfs22 := blk_frozen BK153.out 0
   have hs23 : w17.cell? ⟨gb153, 1, none⟩ = some (.slice none 0 0) := (blk_cell BK153.out 1).trans rfl
   have hfs23 := blk_frozen BK153.out 1
   have hs24 : w17.cell? ⟨gb153, 2, none⟩ = some (.slice none 0 0) := (blk_cell BK153.out 2).trans rfl
   have hfs24 := blk_frozen BK153.out 2
   have hs25 : w17.cell? ⟨gb153, 3, none⟩ = some (.int .i64 0) := (blk_cell BK153.out 3).trans rfl
   have hfs25 := blk_frozen BK153.out 3
   have hs26 : w17.cell? ⟨gb153, 4, none⟩ = some (.slice none 0 0) := (blk_cell BK153.out 4).trans rfl
   have hfs26 := blk_frozen BK153.out 4
   refine skip_ (w1 := ?_) (by rfl) rfl ?_ ?_
   rotate_left
   ·go_simp
    rfl
   refine hK.out _ _ trivial (fun hHeld => ?_)
   clear hK K
   refine done_ (by kernel_rfl) ?_
   try go_wp2
   refine bodyPost_ret (results_cell_row rfl _ _ gb153 56 #[.slice Ao21 y154.length co21, .slice Ao20 y157.length co20, .slice Ao19 y160.length co19, .int .i64 0, .slice Ao18 y163.length co18] (0, 0) _ rfl (by (with_reducible repeat (first | refine blk_drewN ?_ _ | refine blk_drew ?_ | refine blk_alloc ?_ _)); refine blk_put (cs := #[.slice Ao21 y154.length co21, .slice Ao20 y157.length co20, .slice Ao19 y160.length co19, .int .i64 0, .slice none 0 0]) ?_ 4 _ rfl; (with_reducible repeat (first | refine blk_drewN ?_ _ | refine blk_drew ?_ | refine blk_alloc ?_ _)); refine blk_put (cs := #[.slice Ao21 y154.length co21, .slice Ao20 y157.length co20, .slice Ao19 y160.length co19, .int .i64 0, .slice none 0 0]) ?_ 3 _ rfl; (with_reducible repeat (first | refine blk_drewN ?_ _ | refine blk_drew ?_ | refine blk_alloc ?_ _)); refine blk_put (cs := #[.slice Ao21 y154.length co21, .slice Ao20 y157.length co20, .slice none 0 0, .int .i64 0, .slice none 0 0]) ?_ 2 _ rfl; (with_reducible repeat (first | refine blk_drewN ?_ _ | refine blk_drew ?_ | refine blk_alloc ?_ _)); refine blk_put (cs := #[.slice Ao21 y154.length co21, .slice none 0 0, .slice none 0 0, .int .i64 0, .slice none 0 0]) ?_ 1 _ rfl; (with_reducible repeat (first | refine blk_drewN ?_ _ | refine blk_drew ?_ | refine blk_alloc ?_ _)); refine blk_put (cs := #[.slice none 0 0, .slice none 0 0, .slice none 0 0, .int .i64 0, .slice none 0 0]) ?_ 0 _ rfl; (with_reducible repeat (first | refine blk_drewN ?_ _ | refine blk_drew ?_ | refine blk_alloc ?_ _)); exact BK153.out) Tryd.underlying56 rfl (by kernel_rfl)) rfl ?_
   exact ⟨_, _, _, _, by first | rfl | (simp [errW_none, errW_some] <;> rfl) | (simp [*, errW_none, errW_some] <;> rfl), by (with_reducible repeat (first | apply Kd.R_alloc | apply Kd.R_drewN | apply Kd.R_drew)); exact Kd.R_mono (crs5c_ HO156 BK153) (fun _ hk => trivial), by (with_reducible repeat (first | apply Kd.R_alloc | apply Kd.R_drewN | apply Kd.R_drew)); exact Kd.R_mono (crs5c_ HO159 BK153) (fun _ hk => hk.1), by (with_reducible repeat (first | apply Kd.R_alloc | apply Kd.R_drewN | apply Kd.R_drew)); exact Kd.R_mono (crs5c_ HO162 BK153) (fun _ hk => hk.1), by (with_reducible repeat (first | apply Kd.R_alloc | apply Kd.R_drewN | apply Kd.R_drew)); exact Kd.R_mono (crs5c_ HO165 BK153) (fun _ hk => trivial), by repeat (first | (with_reducible first | exact HB.out | apply below_alloc | apply pw_below_drewN | apply below_drew1 | refine below_set ?_ GE153.out) | exact HB.out)⟩
  ·rw [if_neg c2] at H
   exact absurd H cq4_
 ·rw [if_neg c1] at H
  exact absurd H cq4_

end Go.Proofs.YtbbfahkmjfmmjaaDoor.PNewM
