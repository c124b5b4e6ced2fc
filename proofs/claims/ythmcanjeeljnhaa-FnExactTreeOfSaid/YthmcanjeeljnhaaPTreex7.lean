-- laid by a program of this session out of the translation's own print: Lean checks it
import Derived.Test.YthmcanjeeljnhaaPTreex0
import Derived.Test.YthmcanjeeljnhaaPTreeTN
namespace Go.Proofs.Ythmcanjeeljnhaa.PTree
open Go.RowKit Go.Proofs.YthmcanjeeljnhaaW.PrintWords Go.Proofs.YthmcanjeeljnhaaW.PrintLast Go.Proofs.YthmcanjeeljnhaaW.PrintMore
attribute [local go_sem] max2_int min2_int max_two min_two max_three min_three max_four min_four   -- for this text's walks alone
set_option linter.unusedVariables false
set_option linter.unusedSimpArgs false

/-- A state of type 49 at block g of W; what its slices lead to came in by w0. -/
def IsS49 (w0 W : World) (g : Nat) (f0 : List (S44)) (f1 : Int) : Prop := ∃ A0 c0, W.heap[g]? = some (.cells #[.slice A0 f0.length c0, .int .i64 f1] 49 (0, 0)) ∧ w0.heap.size ≤ g ∧ Kd.C k44 w0 A0 f0.length f0
/-! ### impl_grower_structure: function 38 -/
/-! ### impl_grower_row: function 24 -/
mutual
def impl_grower_structure.j0 : Nat → Int → Int → Bool → List (S44) → Int → Int → Int → List (S53) → Option (Int × Int × (List (S53)) × (List (S53)) × Int)
  | 0, _, _, _, _, _, _, _, _ => none
  | k + 1, x1, x6, x28, x1000, x1001, x299000, x299001, x299002 => if x28 = true then ((impl_grower_row.f k x1000 x1001).bind fun bt300 => (some (x299000, 1, x299002, bt300.1, wrap64 (bt300.2 + 1)))) else (if x6 = 8 then ((impl_grower_row.f k x1000 x1001).bind fun bt304 => (some (8, x299001, x299002, bt304.1, wrap64 (bt304.2 + 1)))) else (if x1 = 3 then (some (x299000, x299001, x299002, ([] : List (S53)), x1001)) else (some (x6, x299001, x299002, ([] : List (S53)), x1001))))
def impl_grower_structure.f : Nat → List (S44) → Int → Int → Option (Int × Int × (List (S53)) × (List (S53)) × Int)
  | 0, _, _, _ => none
  | k + 1, s0_0, s0_1, a1 => (impl_grower_row.f k s0_0 s0_1).bind fun bt294 => (if 0 ≤ bt294.2 then (if bt294.2 < (s0_0.length : Int) then (if a1 = 3 then (impl_grower_structure.j0 k a1 ((rd_T44 s0_0 bt294.2).f0) (((rd_T44 s0_0 bt294.2).f0) == 4) s0_0 (wrap64 (bt294.2 + 1)) 3 0 bt294.1) else (impl_grower_structure.j0 k a1 ((rd_T44 s0_0 bt294.2).f0) false s0_0 (wrap64 (bt294.2 + 1)) 3 0 bt294.1)) else (none)) else (none))
def impl_grower_row.l0 : Nat → List (S53) → List (S44) → Int → Option ((List (S53)) × Int)
  | 0, _, _, _ => none
  | k + 1, x3, x1000, x1001 => if x1001 < (x1000.length : Int) then (if 0 ≤ x1001 then (if ((rd_T44 x1000 x1001).f0) = 1 then (impl_grower_row.j1 k x3 ((rd_T44 x1000 x1001).f0) (((rd_T44 x1000 x1001).f0) == 1) x1000 x1001 ((rd_T44 x1000 x1001).f0) ((rd_T44 x1000 x1001).f1)) else (if ((rd_T44 x1000 x1001).f0) = 2 then (impl_grower_row.j1 k x3 ((rd_T44 x1000 x1001).f0) (((rd_T44 x1000 x1001).f0) == 2) x1000 x1001 ((rd_T44 x1000 x1001).f0) ((rd_T44 x1000 x1001).f1)) else (impl_grower_row.j1 k x3 ((rd_T44 x1000 x1001).f0) (((rd_T44 x1000 x1001).f0) == 13) x1000 x1001 ((rd_T44 x1000 x1001).f0) ((rd_T44 x1000 x1001).f1)))) else (none)) else (some (x3, x1001))
def impl_grower_row.j1 : Nat → List (S53) → Int → Bool → List (S44) → Int → Int → Int → Option ((List (S53)) × Int)
  | 0, _, _, _, _, _, _, _ => none
  | k + 1, x3, x27, x29, x1000, x1001, x313000, x313001 => if x29 = true then (if x3.length < 2199023255552 then (impl_grower_row.l0 k (x3 ++ [(⟨x313000, x313001, ([] : List (S53)), ([] : List (S53))⟩ : S53)]) x1000 (wrap64 (x1001 + 1))) else (none)) else (if x27 = 3 then ((impl_grower_structure.f k x1000 (wrap64 (x1001 + 1)) x313000).bind fun bt316 => (if x3.length < 2199023255552 then (impl_grower_row.l0 k (x3 ++ [(⟨bt316.1, bt316.2.1, bt316.2.2.1, bt316.2.2.2.1⟩ : S53)]) x1000 bt316.2.2.2.2) else (none))) else (if x27 = 6 then ((impl_grower_structure.f k x1000 (wrap64 (x1001 + 1)) x313000).bind fun bt328 => (if x3.length < 2199023255552 then (impl_grower_row.l0 k (x3 ++ [(⟨bt328.1, bt328.2.1, bt328.2.2.1, bt328.2.2.2.1⟩ : S53)]) x1000 bt328.2.2.2.2) else (none))) else (if x27 = 10 then ((impl_grower_structure.f k x1000 (wrap64 (x1001 + 1)) x313000).bind fun bt340 => (if x3.length < 2199023255552 then (impl_grower_row.l0 k (x3 ++ [(⟨bt340.1, bt340.2.1, bt340.2.2.1, bt340.2.2.2.1⟩ : S53)]) x1000 bt340.2.2.2.2) else (none))) else (some (x3, x1001)))))
def impl_grower_row.f : Nat → List (S44) → Int → Option ((List (S53)) × Int)
  | 0, _, _ => none
  | k + 1, s0_0, s0_1 => impl_grower_row.l0 k (([] : List (S53))) s0_0 s0_1
end
theorem impl_grower_structure.mono_j : ∀ k, (∀ y0 y1 y2, LeO (impl_grower_structure.f k y0 y1 y2) (impl_grower_structure.f (k + 1) y0 y1 y2)) ∧ (∀ y0 y1 y2 y3 y4 y5 y6 y7, LeO (impl_grower_structure.j0 k y0 y1 y2 y3 y4 y5 y6 y7) (impl_grower_structure.j0 (k + 1) y0 y1 y2 y3 y4 y5 y6 y7)) ∧ (∀ y0 y1, LeO (impl_grower_row.f k y0 y1) (impl_grower_row.f (k + 1) y0 y1)) ∧ (∀ y0 y1 y2, LeO (impl_grower_row.l0 k y0 y1 y2) (impl_grower_row.l0 (k + 1) y0 y1 y2)) ∧ (∀ y0 y1 y2 y3 y4 y5 y6, LeO (impl_grower_row.j1 k y0 y1 y2 y3 y4 y5 y6) (impl_grower_row.j1 (k + 1) y0 y1 y2 y3 y4 y5 y6))
  | 0 => ⟨fun _ _ _ r h => by simp [impl_grower_structure.f] at h, fun _ _ _ _ _ _ _ _ r h => by simp [impl_grower_structure.j0] at h, fun _ _ r h => by simp [impl_grower_row.f] at h, fun _ _ _ r h => by simp [impl_grower_row.l0] at h, fun _ _ _ _ _ _ _ r h => by simp [impl_grower_row.j1] at h⟩
  | k + 1 => by
    obtain ⟨ih0, ih1, ih2, ih3, ih4⟩ := impl_grower_structure.mono_j k
    refine ⟨?_, ?_, ?_, ?_, ?_⟩
    · intro y0 y1 y2
      unfold impl_grower_structure.f
      repeat' first
      | (with_reducible exact ih0 _ _ _)
      | (with_reducible exact ih1 _ _ _ _ _ _ _ _)
      | (with_reducible exact ih2 _ _)
      | (with_reducible exact ih3 _ _ _)
      | (with_reducible exact ih4 _ _ _ _ _ _ _)
      | (with_reducible exact LeO.refl _)
      | (with_reducible exact LeO.none _)
      | (with_reducible refine LeO.ite ?_ ?_)
      | (with_reducible refine LeO.bind ?_ (fun _ => ?_))
      | exact ih0 _ _ _
      | exact ih1 _ _ _ _ _ _ _ _
      | exact ih2 _ _
      | exact ih3 _ _ _
      | exact ih4 _ _ _ _ _ _ _
      | exact LeO.none _
      | refine LeO.ite ?_ ?_
      | refine LeO.bind ?_ (fun _ => ?_)
    · intro y0 y1 y2 y3 y4 y5 y6 y7
      unfold impl_grower_structure.j0
      repeat' first
      | (with_reducible exact ih0 _ _ _)
      | (with_reducible exact ih1 _ _ _ _ _ _ _ _)
      | (with_reducible exact ih2 _ _)
      | (with_reducible exact ih3 _ _ _)
      | (with_reducible exact ih4 _ _ _ _ _ _ _)
      | (with_reducible exact LeO.refl _)
      | (with_reducible exact LeO.none _)
      | (with_reducible refine LeO.ite ?_ ?_)
      | (with_reducible refine LeO.bind ?_ (fun _ => ?_))
      | exact ih0 _ _ _
      | exact ih1 _ _ _ _ _ _ _ _
      | exact ih2 _ _
      | exact ih3 _ _ _
      | exact ih4 _ _ _ _ _ _ _
      | exact LeO.none _
      | refine LeO.ite ?_ ?_
      | refine LeO.bind ?_ (fun _ => ?_)
    · intro y0 y1
      unfold impl_grower_row.f
      repeat' first
      | (with_reducible exact ih0 _ _ _)
      | (with_reducible exact ih1 _ _ _ _ _ _ _ _)
      | (with_reducible exact ih2 _ _)
      | (with_reducible exact ih3 _ _ _)
      | (with_reducible exact ih4 _ _ _ _ _ _ _)
      | (with_reducible exact LeO.refl _)
      | (with_reducible exact LeO.none _)
      | (with_reducible refine LeO.ite ?_ ?_)
      | (with_reducible refine LeO.bind ?_ (fun _ => ?_))
      | exact ih0 _ _ _
      | exact ih1 _ _ _ _ _ _ _ _
      | exact ih2 _ _
      | exact ih3 _ _ _
      | exact ih4 _ _ _ _ _ _ _
      | exact LeO.none _
      | refine LeO.ite ?_ ?_
      | refine LeO.bind ?_ (fun _ => ?_)
    · intro y0 y1 y2
      unfold impl_grower_row.l0
      repeat' first
      | (with_reducible exact ih0 _ _ _)
      | (with_reducible exact ih1 _ _ _ _ _ _ _ _)
      | (with_reducible exact ih2 _ _)
      | (with_reducible exact ih3 _ _ _)
      | (with_reducible exact ih4 _ _ _ _ _ _ _)
      | (with_reducible exact LeO.refl _)
      | (with_reducible exact LeO.none _)
      | (with_reducible refine LeO.ite ?_ ?_)
      | (with_reducible refine LeO.bind ?_ (fun _ => ?_))
      | exact ih0 _ _ _
      | exact ih1 _ _ _ _ _ _ _ _
      | exact ih2 _ _
      | exact ih3 _ _ _
      | exact ih4 _ _ _ _ _ _ _
      | exact LeO.none _
      | refine LeO.ite ?_ ?_
      | refine LeO.bind ?_ (fun _ => ?_)
    · intro y0 y1 y2 y3 y4 y5 y6
      unfold impl_grower_row.j1
      repeat' first
      | (with_reducible exact ih0 _ _ _)
      | (with_reducible exact ih1 _ _ _ _ _ _ _ _)
      | (with_reducible exact ih2 _ _)
      | (with_reducible exact ih3 _ _ _)
      | (with_reducible exact ih4 _ _ _ _ _ _ _)
      | (with_reducible exact LeO.refl _)
      | (with_reducible exact LeO.none _)
      | (with_reducible refine LeO.ite ?_ ?_)
      | (with_reducible refine LeO.bind ?_ (fun _ => ?_))
      | exact ih0 _ _ _
      | exact ih1 _ _ _ _ _ _ _ _
      | exact ih2 _ _
      | exact ih3 _ _ _
      | exact ih4 _ _ _ _ _ _ _
      | exact LeO.none _
      | refine LeO.ite ?_ ?_
      | refine LeO.bind ?_ (fun _ => ?_)
theorem impl_grower_structure.mono_l : ∀ k, (∀ y0 y1 y2, LeO (impl_grower_structure.f k y0 y1 y2) (impl_grower_structure.f (k + 1) y0 y1 y2)) ∧ (∀ y0 y1 y2 y3 y4 y5 y6 y7, LeO (impl_grower_structure.j0 k y0 y1 y2 y3 y4 y5 y6 y7) (impl_grower_structure.j0 (k + 1) y0 y1 y2 y3 y4 y5 y6 y7)) := by
  intro k
  obtain ⟨i0, i1, i2, i3, i4⟩ := impl_grower_structure.mono_j k
  exact ⟨i0, i1⟩
theorem impl_grower_structure.mono : ∀ a0 a1 a2 k, LeO (impl_grower_structure.f k a0 a1 a2) (impl_grower_structure.f (k + 1) a0 a1 a2) := by
  intro a0 a1 a2 k
  obtain ⟨i0, i1, i2, i3, i4⟩ := impl_grower_structure.mono_j k
  exact i0 a0 a1 a2
theorem impl_grower_row.mono_l : ∀ k, (∀ y0 y1, LeO (impl_grower_row.f k y0 y1) (impl_grower_row.f (k + 1) y0 y1)) ∧ (∀ y0 y1 y2, LeO (impl_grower_row.l0 k y0 y1 y2) (impl_grower_row.l0 (k + 1) y0 y1 y2)) ∧ (∀ y0 y1 y2 y3 y4 y5 y6, LeO (impl_grower_row.j1 k y0 y1 y2 y3 y4 y5 y6) (impl_grower_row.j1 (k + 1) y0 y1 y2 y3 y4 y5 y6)) := by
  intro k
  obtain ⟨i0, i1, i2, i3, i4⟩ := impl_grower_structure.mono_j k
  exact ⟨i2, i3, i4⟩
theorem impl_grower_row.mono : ∀ a0 a1 k, LeO (impl_grower_row.f k a0 a1) (impl_grower_row.f (k + 1) a0 a1) := by
  intro a0 a1 k
  obtain ⟨i0, i1, i2, i3, i4⟩ := impl_grower_structure.mono_j k
  exact i2 a0 a1
theorem IsS49.grown {w0 W : World} {g : Nat} {f0 : List (S44)} {f1 : Int} {W1 : World} {row : Option Nat} (h : IsS49 w0 W g f0 f1) (hw : W.grownBy W1 row) (hne : some g ≠ row) : IsS49 w0 W1 g f0 f1 := by
  obtain ⟨A0, c0, hb, hg, hr0⟩ := h
  exact ⟨A0, c0, blk_grown hb hw hne, hg, hr0⟩
theorem IsS49.own_neN {w0 W : World} {g : Nat} {f0 : List (S44)} {f1 : Int} {α : Type} {d : Kd α} {e : Nat} {base : Nat} {ok : Nat → Prop} {v : Value} {xs : List α} (h : IsS49 w0 W g f0 f1) (ho : Kd.N d e W base ok v xs) (ht : e ≠ 49) : some g ≠ v.ownBlock := by
  obtain ⟨A0, c0, hb, hg, hr0⟩ := h
  exact Kd.N_ne ho hb ht
theorem IsS49.fresh {w0 W : World} {g : Nat} {f0 : List (S44)} {f1 : Int} (h : IsS49 w0 W g f0 f1) : ∀ k, W.heap.size ≤ k → k ≠ g := by
  obtain ⟨A0, c0, hb, hg, hr0⟩ := h
  exact Kd.freshB hb
theorem IsS49.kept {w0 W : World} {g : Nat} {f0 : List (S44)} {f1 : Int} {W1 : World} {S : Nat → Prop} (h : IsS49 w0 W g f0 f1) (hk : Kept W W1 S) (hne : ¬ S g) : IsS49 w0 W1 g f0 f1 := by
  obtain ⟨A0, c0, hb, hg, hr0⟩ := h
  exact ⟨A0, c0, blk_kept hb hk hne, hg, hr0⟩
theorem IsS49.below {w0 W : World} {g : Nat} {f0 : List (S44)} {f1 : Int} {W1 : World} (h : IsS49 w0 W g f0 f1) (hw : Below W.heap.size W W1) : IsS49 w0 W1 g f0 f1 := h.grown (grown_of_below hw none) (by simp)
theorem IsS49.alloc {w0 W : World} {g : Nat} {f0 : List (S44)} {f1 : Int} (h : IsS49 w0 W g f0 f1) (o : Obj) : IsS49 w0 (W.alloc o) g f0 f1 := h.below (below_alloc (Below.refl _ _) o)
theorem IsS49.drewN {w0 W : World} {g : Nat} {f0 : List (S44)} {f1 : Int} (h : IsS49 w0 W g f0 f1) (m : Nat) : IsS49 w0 (W.drewN m) g f0 f1 := h
theorem IsS49.drew {w0 W : World} {g : Nat} {f0 : List (S44)} {f1 : Int} (h : IsS49 w0 W g f0 f1) : IsS49 w0 W.drew g f0 f1 := h
theorem IsS49.at_ {w0 W : World} {g : Nat} {f0 : List (S44)} {f1 : Int} {w' : World} {m : Nat} (hq : W.drewN m = w') (h : IsS49 w0 W g f0 f1) : IsS49 w0 w' g f0 f1 := by subst hq; exact IsS49.drewN h m
theorem IsS49.apart {w0 W : World} {g : Nat} {f0 : List (S44)} {f1 : Int} {α : Type} {d : Kd α} {e : Nat} {base : Nat} {ok : Nat → Prop} {v : Value} {xs : List α} (h : IsS49 w0 W g f0 f1) (ho : d.R e W base ok v xs) (ht : ∀ q, q ∈ e :: d.E → q ≠ 49) : d.R e W base (fun k => ok k ∧ k ≠ g) v xs := by
  obtain ⟨A0, c0, hb, hg, hr0⟩ := h
  exact Kd.R_types ho hb ht
theorem IsS49.own_ne {w0 W : World} {g : Nat} {f0 : List (S44)} {f1 : Int} {α : Type} {d : Kd α} {e : Nat} {base : Nat} {ok : Nat → Prop} {v : Value} {xs : List α} (h : IsS49 w0 W g f0 f1) (ho : d.R e W base ok v xs) (ht : e ≠ 49) : some g ≠ v.ownBlock := by
  obtain ⟨A0, c0, hb, hg, hr0⟩ := h
  exact Kd.R_ne ho hb ht
theorem IsS49.apartQ {w0 W : World} {g : Nat} {f0 : List (S44)} {f1 : Int} {α : Type} {d : Kd α} {e : Nat} {base : Nat} {ok : Nat → Prop} {v : Value} {xs : List α} (h : IsS49 w0 W g f0 f1) (ho : d.Q e W base ok v xs) (ht : ∀ q, q ∈ e :: d.E → q ≠ 49) : d.Q e W base (fun k => ok k ∧ k ≠ g) v xs := by
  obtain ⟨A0, c0, hb, hg, hr0⟩ := h
  exact Kd.Q_types ho hb ht
theorem IsS49.own_neQ {w0 W : World} {g : Nat} {f0 : List (S44)} {f1 : Int} {α : Type} {d : Kd α} {e : Nat} {base : Nat} {ok : Nat → Prop} {v : Value} {xs : List α} (h : IsS49 w0 W g f0 f1) (ho : d.Q e W base ok v xs) (ht : e ≠ 49) : some g ≠ v.ownBlock := by
  obtain ⟨A0, c0, hb, hg, hr0⟩ := h
  exact Kd.Q_ne ho hb ht
theorem IsS49.apartS {w0 W : World} {g : Nat} {f0 : List (S44)} {f1 : Int} {α : Type} {d : Kd α} {e : Nat} {base : Nat} {ok : Nat → Prop} {v : Value} {xs : List α} (h : IsS49 w0 W g f0 f1) (ho : d.S e W base ok v xs) (ht : ∀ q, q ∈ e :: d.E → q ≠ 49) : d.S e W base (fun k => ok k ∧ k ≠ g) v xs := by
  obtain ⟨A0, c0, hb, hg, hr0⟩ := h
  exact Kd.S_types ho hb ht
theorem IsS49.own_neS {w0 W : World} {g : Nat} {f0 : List (S44)} {f1 : Int} {α : Type} {d : Kd α} {e : Nat} {base : Nat} {ok : Nat → Prop} {v : Value} {xs : List α} (h : IsS49 w0 W g f0 f1) (ho : d.S e W base ok v xs) (ht : e ≠ 49) : some g ≠ v.ownBlock := by
  obtain ⟨A0, c0, hb, hg, hr0⟩ := h
  exact Kd.S_ne ho hb ht
theorem IsS49.lt {w0 W : World} {g : Nat} {f0 : List (S44)} {f1 : Int} (h : IsS49 w0 W g f0 f1) : g < W.heap.size := by
  obtain ⟨A0, c0, hb, hg, hr0⟩ := h
  exact blk_lt hb
theorem IsS49.ge {w0 W : World} {g : Nat} {f0 : List (S44)} {f1 : Int} (h : IsS49 w0 W g f0 f1) : w0.heap.size ≤ g := by
  obtain ⟨A0, c0, hb, hg, hr0⟩ := h
  exact hg
theorem IsS49.ne_blk {w0 W : World} {g : Nat} {f0 : List (S44)} {f1 : Int} {a : Nat} {cs : Array Value} {t : TypeId} {fr : Nat × Nat} (h : IsS49 w0 W g f0 f1) (hb2 : W.heap[a]? = some (.cells cs t fr)) (ht : t ≠ 49) : g ≠ a := by
  obtain ⟨A0, c0, hb, hg, hr0⟩ := h
  rintro rfl
  rw [hb] at hb2
  injection hb2 with hb2
  injection hb2 with _ ht2
  exact ht ht2.symm
theorem IsS49.far {w0 W : World} {g : Nat} {f0 : List (S44)} {f1 : Int} {p : Addr} (h : IsS49 w0 W g f0 f1) (hne : g ≠ p.block) (u : Value) : IsS49 w0 (W.setCell p u) g f0 f1 := by
  obtain ⟨A0, c0, hb, hg, hr0⟩ := h
  exact ⟨A0, c0, blk_far hb hne u, hg, hr0⟩
theorem cellS49_0 {W : World} {g : Nat} {A0 : Option Addr} {c0 : Nat} {f0 : List (S44)} {f1 : Int} (h : W.heap[g]? = some (.cells #[.slice A0 f0.length c0, .int .i64 f1] 49 (0, 0))) : W.cell? ⟨g, 0, none⟩ = some (.slice A0 f0.length c0) := (blk_cell h 0).trans rfl
theorem cellS49_1 {W : World} {g : Nat} {A0 : Option Addr} {c0 : Nat} {f0 : List (S44)} {f1 : Int} (h : W.heap[g]? = some (.cells #[.slice A0 f0.length c0, .int .i64 f1] 49 (0, 0))) : W.cell? ⟨g, 1, none⟩ = some (.int .i64 f1) := (blk_cell h 1).trans rfl
theorem IsS49.set_1 {w0 W : World} {g : Nat} {f0 : List (S44)} {f1 : Int} (h : IsS49 w0 W g f0 f1) (x : Int) : IsS49 w0 (W.setCell ⟨g, 1, none⟩ (.int .i64 x)) g f0 x := by
  obtain ⟨A0, c0, hb, hg, hr0⟩ := h
  exact ⟨A0, c0, by simpa using blk_set hb 1 (.int .i64 x), hg, hr0⟩
theorem IsS49.new (w0 W : World) (A0 : Option Addr) (c0 : Nat) (f0 : List (S44)) (f1 : Int) (hB : Below w0.heap.size w0 W) (hr0 : Kd.C k44 w0 A0 f0.length f0) : IsS49 w0 (W.alloc (.cells #[.slice A0 f0.length c0, .int .i64 f1] 49)) W.heap.size f0 f1 := ⟨A0, c0, by simpa using heap_alloc_new W _, hB.size, hr0⟩

theorem IsS49.apartT {w0 W : World} {g : Nat} {f0 : List (S44)} {f1 : Int} {base : Nat} {ok : Nat → Prop} {v : Value} {xs : List S53} (h : IsS49 w0 W g f0 f1) (ho : TN W base ok v xs) (ht : (53 : Nat) ≠ 49) : TN W base (fun k => ok k ∧ k ≠ g) v xs := by
  obtain ⟨A0, c0, hh, _⟩ := h
  exact TN.R_types ho hh ht
theorem IsS49.own_neT {w0 W : World} {g : Nat} {f0 : List (S44)} {f1 : Int} {base : Nat} {ok : Nat → Prop} {v : Value} {xs : List S53} (h : IsS49 w0 W g f0 f1) (ho : TN W base ok v xs) (ht : (53 : Nat) ≠ 49) : some g ≠ v.ownBlock := IsS49.own_ne h ho.row ht
def impl_grower_row.T2 : Bool × List (List Nat × List Nat) := (true, [([], []), ([0], [0]), ([1], [1]), ([2], [2]), ([], []), ([4], [4]), ([5], [5]), ([6], [6]), ([7], [7]), ([3, 8], [3, 8])])
def impl_grower_row.B2 : List Nat := [0, 1, 3, 7, 0, 16, 48, 112, 240, 511]
theorem impl_grower_row.tab2 : rtab .any (opsOf Try.f24 2) = impl_grower_row.T2 := by kernel_rfl
theorem impl_grower_row.bits2 : waitsOk impl_grower_row.T2.2 impl_grower_row.B2 = true := by kernel_rfl
def impl_grower_row.T3 : Bool × List (List Nat × List Nat) := (true, [([], []), ([0], [0]), ([1], [1]), ([2], [2]), ([], []), ([4], [4]), ([5], [5]), ([6], [6]), ([3, 7], [3, 7]), ([8], [8]), ([], []), ([10, 9, 0, 1, 2, 3, 4, 5, 6, 7, 8, 9, 10], [9, 10])])
def impl_grower_row.B3 : List Nat := [0, 1, 3, 7, 0, 16, 48, 112, 255, 511, 0, 2047]
theorem impl_grower_row.tab3 : rtab .any (opsOf Try.f24 3) = impl_grower_row.T3 := by kernel_rfl
theorem impl_grower_row.bits3 : waitsOk impl_grower_row.T3.2 impl_grower_row.B3 = true := by kernel_rfl
set_option maxHeartbeats 8000000 in
set_option maxRecDepth 100000 in
theorem impl_grower_structure.calls_ (k : Nat) (IHO : ∀ m, m < k → ∀ (g : Nat) (s0_0 : List (S44)) (s0_1 : Int) (r1 : List (S53)) (r2 : Int) (w0 w : World) (hI : IsS49 w0 w g s0_0 s0_1) (hB : Below w0.heap.size w0 w) (h : impl_grower_row.f m s0_0 s0_1 = some (r1, r2)),
    Calls Try.prog 24 #[.pointer (some ⟨g, 0, none⟩)] w fun e w' => ∃ v0_ : Value, e = .returned (v0_) ∧ TN w' w.heap.size (fun _ => True) v0_ r1 ∧ IsS49 w0 w' g s0_0 r2 ∧ Below w0.heap.size w0 w' ∧ KeepBut w w' g none) (ih : ∀ m, m < k → ∀ (g : Nat) (s0_0 : List (S44)) (s0_1 : Int) (a1 : Int) (r1 : Int) (r2 : Int) (r3 : List (S53)) (r4 : List (S53)) (r5 : Int) (w0 w : World) (hI : IsS49 w0 w g s0_0 s0_1) (hB : Below w0.heap.size w0 w) (h : impl_grower_structure.f m s0_0 s0_1 a1 = some (r1, r2, r3, r4, r5)),
    Calls Try.prog 38 #[.pointer (some ⟨g, 0, none⟩), .int .i64 a1] w fun e w' => ∃ (v2_ v3_ : Value) (m_ : Nat), e = .returned (.agg #[.int .i64 r1, .int .i64 r2, v2_, v3_]) ∧ TN w' w.heap.size (fun k_ => some k_ ≠ (v3_ : Value).ownBlock ∧ k_ < m_) v2_ r3 ∧ TN w' w.heap.size (fun k_ => some k_ ≠ (v2_ : Value).ownBlock ∧ m_ ≤ k_) v3_ r4 ∧ IsS49 w0 w' g s0_0 r5 ∧ Below w0.heap.size w0 w' ∧ KeepBut w w' g none) : ∀ (g : Nat) (s0_0 : List (S44)) (s0_1 : Int) (a1 : Int) (r1 : Int) (r2 : Int) (r3 : List (S53)) (r4 : List (S53)) (r5 : Int) (w0 w : World) (hI : IsS49 w0 w g s0_0 s0_1) (hB : Below w0.heap.size w0 w) (h : impl_grower_structure.f k s0_0 s0_1 a1 = some (r1, r2, r3, r4, r5)),
    Calls Try.prog 38 #[.pointer (some ⟨g, 0, none⟩), .int .i64 a1] w fun e w' => ∃ (v2_ v3_ : Value) (m_ : Nat), e = .returned (.agg #[.int .i64 r1, .int .i64 r2, v2_, v3_]) ∧ TN w' w.heap.size (fun k_ => some k_ ≠ (v3_ : Value).ownBlock ∧ k_ < m_) v2_ r3 ∧ TN w' w.heap.size (fun k_ => some k_ ≠ (v2_ : Value).ownBlock ∧ m_ ≤ k_) v3_ r4 ∧ IsS49 w0 w' g s0_0 r5 ∧ Below w0.heap.size w0 w' ∧ KeepBut w w' g none := by
  intro g s0_0 s0_1 a1 r1 r2 r3 r4 r5 w0 w hI hB h
  cases k with
  | zero => exact absurd h (by simp [impl_grower_structure.f])
  | succ k =>
  simp only [impl_grower_structure.f] at h
  have hu53 := Try.underlying53
  have HI0 := Aside0.mk hI
  have HK := Aside0.mk (KeepBut.refl w g none)
  have HL := Aside0.mk hB.size
  clear hI
  have HW0 := Aside0.mk hB.size
  have HB := Aside0.mk hB
  clear hB
  have H : ((impl_grower_row.f k s0_0 s0_1).bind fun bt294 => (if 0 ≤ bt294.2 then (if bt294.2 < (s0_0.length : Int) then (if a1 = 3 then (impl_grower_structure.j0 k a1 ((rd_T44 s0_0 bt294.2).f0) (((rd_T44 s0_0 bt294.2).f0) == 4) s0_0 (wrap64 (bt294.2 + 1)) 3 0 bt294.1) else (impl_grower_structure.j0 k a1 ((rd_T44 s0_0 bt294.2).f0) false s0_0 (wrap64 (bt294.2 + 1)) 3 0 bt294.1)) else (none)) else (none))) = some (r1, r2, r3, r4, r5) := h
  clear h
  replace H := Option.bind_eq_some_iff.mp H
  obtain ⟨⟨t294, t297⟩, A30, H⟩ := H
  replace H : (if 0 ≤ t297 then (if t297 < (s0_0.length : Int) then (if a1 = 3 then (impl_grower_structure.j0 k a1 ((rd_T44 s0_0 t297).f0) (((rd_T44 s0_0 t297).f0) == 4) s0_0 (wrap64 (t297 + 1)) 3 0 t294) else (impl_grower_structure.j0 k a1 ((rd_T44 s0_0 t297).f0) false s0_0 (wrap64 (t297 + 1)) 3 0 t294)) else (none)) else (none)) = some (r1, r2, r3, r4, r5) := H
  have A3 := Aside0.mk A30
  clear A30
  by_cases c4 : 0 ≤ t297
  · rw [if_pos c4] at H
    have c4b0 : decide (0 ≤ t297) = true := decide_eq_true c4
    clear c4
    by_cases c5 : t297 < (s0_0.length : Int)
    · rw [if_pos c5] at H
      have c5b0 : decide (t297 < (s0_0.length : Int)) = true := decide_eq_true c5
      clear c5
      have HC6 := Aside0.mk H
      clear H
      go_enter Try.func38, Try.ntmps38
      go_upto_region 4 with (first | ((with_reducible refine gate_dst (N := 4) rfl ?_); refine box_event ?hg (N := 4) ?hd (cs := #[.int .i64 0, .int .i64 0, .slice none 0 0, .slice none 0 0]) (t := 53) ?hr ?_; (case hd => rfl); (case hg => rfl); (case hr => first | (go_simp; done) | (go_simp; rfl)); intro gb293 hg w7 hbox hb; have n0_ := Aside0.mk (IsS49.below (by repeat (first | (with_reducible first | exact HI0.out | apply IsS49.alloc | apply IsS49.drewN | apply IsS49.drew | apply IsS49.set_1) | exact HI0.out)) hb); have n1_ := Aside0.mk (KeepBut.trans (by repeat (first | (with_reducible first | exact HK.out | apply KeepBut.set_ | apply keep_drewN | apply keep_drew | apply keep_alloc) | exact HK.out)) (KeepBut.of_below hb g none) (.inl rfl)); have n2_ := Aside0.mk (below_step (by repeat (first | (with_reducible first | exact HB.out | apply below_alloc | apply pw_below_drewN | apply below_drew1 | refine below_set ?_ (IsS49.ge HI0.out)) | exact HB.out)) hb); have n3_ := Aside0.mk (hbox); have n4_ := Aside0.mk ((by rw [hg]; exact (keep_size (w := w) (g := g) (row := none) (by repeat (first | (with_reducible first | exact HK.out | apply KeepBut.set_ | apply keep_drewN | apply keep_drew | apply keep_alloc) | exact HK.out))) : w.heap.size ≤ gb293)); have n5_ := Aside0.mk ((Nat.le_trans HW0.out (by rw [hg]; exact (keep_size (w := w) (g := g) (row := none) (by repeat (first | (with_reducible first | exact HK.out | apply KeepBut.set_ | apply keep_drewN | apply keep_drew | apply keep_alloc) | exact HK.out))) : w.heap.size ≤ gb293) : w0.heap.size ≤ gb293)); have n6_ := Aside0.mk ((by rw [hg]; exact Nat.ne_of_lt (IsS49.lt (show IsS49 w0 _ g s0_0 s0_1 from by repeat (first | (with_reducible first | exact HI0.out | apply IsS49.alloc | apply IsS49.drewN | apply IsS49.drew | apply IsS49.set_1) | exact HI0.out))) : g ≠ gb293)); have n7_ := Aside0.mk ((by rw [hg]; exact Nat.ne_of_gt (IsS49.lt (show IsS49 w0 _ g s0_0 s0_1 from by repeat (first | (with_reducible first | exact HI0.out | apply IsS49.alloc | apply IsS49.drewN | apply IsS49.drew | apply IsS49.set_1) | exact HI0.out))) : gb293 ≠ g)); clear HI0; clear HK; clear HB; have HI0 := n0_; have HK := n1_; have HB := n2_; have BK293 := n3_; have GW293 := n4_; have GE293 := n5_; have NB0_293 := n6_; have NB293_0 := n7_; clear n0_ n1_ n2_ n3_ n4_ n5_ n6_ n7_; clear hb hbox hg) | (go_at_call 24; (with_reducible refine (IHO k (by omega) g s0_0 s0_1 t294 t297 w0 _ ?side1 ?side2 A3.out).mono ?_); (case side1 => repeat (first | (with_reducible first | exact HI0.out | apply IsS49.alloc | apply IsS49.drewN | apply IsS49.drew | apply IsS49.set_1 | (apply IsS49.far; (case hne => exact NB0_293.out))) | exact HI0.out)); (case side2 => repeat (first | (with_reducible first | exact HB.out | apply below_alloc | apply pw_below_drewN | apply below_drew1 | refine below_set ?_ (IsS49.ge HI0.out) | refine below_set ?_ GE293.out) | exact HB.out)); rintro e w8 ⟨v295, rfl, ho0, hi, hb, hk⟩; have n0_ := Aside0.mk (KeepBut.blk hk (g' := gb293) (o := .cells #[.int .i64 0, .int .i64 0, .slice none 0 0, .slice none 0 0] 53 (0, 0)) (by (with_reducible repeat (first | refine blk_drewN ?_ _ | refine blk_drew ?_ | refine blk_alloc ?_ _)); exact BK293.out) NB293_0.out (by simp)); have n1_ := Aside0.mk (TN.R_lower (TN.R_newB ho0 (g := gb293) (o := .cells #[.int .i64 0, .int .i64 0, .slice none 0 0, .slice none 0 0] 53 (0, 0)) (by (with_reducible repeat (first | refine blk_drewN ?_ _ | refine blk_drew ?_ | refine blk_alloc ?_ _)); exact BK293.out)) (keep_size (w := w) (g := g) (row := none) (by repeat (first | (with_reducible first | exact HK.out | apply KeepBut.set_ | apply keep_drewN | apply keep_drew | apply keep_alloc | refine keep_far ?_ GW293.out _) | exact HK.out)))); have n2_ := Aside0.mk (KeepBut.trans (by repeat (first | (with_reducible first | exact HK.out | apply KeepBut.set_ | apply keep_drewN | apply keep_drew | apply keep_alloc | refine keep_far ?_ GW293.out _) | exact HK.out)) hk (.inl rfl)); have n3_ := Aside0.mk (hb); have n4_ := Aside0.mk (hi); clear BK293; clear HK; clear HB; clear HI0; have BK293 := n0_; have HO296 := n1_; have HK := n2_; have HB := n3_; have HI0 := n4_; clear n0_ n1_ n2_ n3_ n4_; (try clear hb); (try clear hb2); (try clear hk); (try clear hi); (try clear ho0); obtain ⟨Ao9, co9, eo9⟩ := TN.R_slice HO296.out; subst eo9) | ((with_reducible refine gate_dst (N := 5) rfl ?_); refine box_event ?hg (N := 5) ?hd (cs := #[.int .i64 0, .int .i64 0, .slice none 0 0, .slice none 0 0]) (t := 53) ?hr ?_; (case hd => rfl); (case hg => rfl); (case hr => first | (go_simp; done) | (go_simp; rfl)); intro gb298 hg w10 hbox hb; have n0_ := Aside0.mk (TN.R_below (TN.R_elderB (by (with_reducible repeat (first | apply TN.R_alloc | apply TN.R_drewN | apply TN.R_drew)); exact HO296.out) gb298 (Nat.le_of_eq hg.symm)) hb); have n1_ := Aside0.mk (IsS49.below (by repeat (first | (with_reducible first | exact HI0.out | apply IsS49.alloc | apply IsS49.drewN | apply IsS49.drew | apply IsS49.set_1 | (apply IsS49.far; (case hne => exact NB0_293.out))) | exact HI0.out)) hb); have n2_ := Aside0.mk (blk_below (g := gb293) (o := .cells #[.int .i64 0, .int .i64 0, .slice none 0 0, .slice none 0 0] 53 (0, 0)) (by (with_reducible repeat (first | refine blk_drewN ?_ _ | refine blk_drew ?_ | refine blk_alloc ?_ _)); exact BK293.out) hb); have n3_ := Aside0.mk (KeepBut.trans (by repeat (first | (with_reducible first | exact HK.out | apply KeepBut.set_ | apply keep_drewN | apply keep_drew | apply keep_alloc | refine keep_far ?_ GW293.out _) | exact HK.out)) (KeepBut.of_below hb g none) (.inl rfl)); have n4_ := Aside0.mk (below_step (by repeat (first | (with_reducible first | exact HB.out | apply below_alloc | apply pw_below_drewN | apply below_drew1 | refine below_set ?_ (IsS49.ge HI0.out) | refine below_set ?_ GE293.out) | exact HB.out)) hb); have n5_ := Aside0.mk (hbox); have n6_ := Aside0.mk ((by rw [hg]; exact (keep_size (w := w) (g := g) (row := none) (by repeat (first | (with_reducible first | exact HK.out | apply KeepBut.set_ | apply keep_drewN | apply keep_drew | apply keep_alloc | refine keep_far ?_ GW293.out _) | exact HK.out))) : w.heap.size ≤ gb298)); have n7_ := Aside0.mk ((Nat.le_trans HW0.out (by rw [hg]; exact (keep_size (w := w) (g := g) (row := none) (by repeat (first | (with_reducible first | exact HK.out | apply KeepBut.set_ | apply keep_drewN | apply keep_drew | apply keep_alloc | refine keep_far ?_ GW293.out _) | exact HK.out))) : w.heap.size ≤ gb298) : w0.heap.size ≤ gb298)); have n8_ := Aside0.mk ((by rw [hg]; exact Nat.ne_of_lt (blk_lt (g := gb293) (o := .cells #[.int .i64 0, .int .i64 0, .slice none 0 0, .slice none 0 0] 53 (0, 0)) (by (with_reducible repeat (first | refine blk_drewN ?_ _ | refine blk_drew ?_ | refine blk_alloc ?_ _)); exact BK293.out)) : gb293 ≠ gb298)); have n9_ := Aside0.mk ((by rw [hg]; exact Nat.ne_of_gt (blk_lt (g := gb293) (o := .cells #[.int .i64 0, .int .i64 0, .slice none 0 0, .slice none 0 0] 53 (0, 0)) (by (with_reducible repeat (first | refine blk_drewN ?_ _ | refine blk_drew ?_ | refine blk_alloc ?_ _)); exact BK293.out)) : gb298 ≠ gb293)); have n10_ := Aside0.mk ((by rw [hg]; exact Nat.ne_of_lt (IsS49.lt (show IsS49 w0 _ g s0_0 t297 from by repeat (first | (with_reducible first | exact HI0.out | apply IsS49.alloc | apply IsS49.drewN | apply IsS49.drew | apply IsS49.set_1 | (apply IsS49.far; (case hne => exact NB0_293.out))) | exact HI0.out))) : g ≠ gb298)); have n11_ := Aside0.mk ((by rw [hg]; exact Nat.ne_of_gt (IsS49.lt (show IsS49 w0 _ g s0_0 t297 from by repeat (first | (with_reducible first | exact HI0.out | apply IsS49.alloc | apply IsS49.drewN | apply IsS49.drew | apply IsS49.set_1 | (apply IsS49.far; (case hne => exact NB0_293.out))) | exact HI0.out))) : gb298 ≠ g)); clear HO296; clear HI0; clear BK293; clear HK; clear HB; have HO296 := n0_; have HI0 := n1_; have BK293 := n2_; have HK := n3_; have HB := n4_; have BK298 := n5_; have GW298 := n6_; have GE298 := n7_; have NB293_298 := n8_; have NB298_293 := n9_; have NB0_298 := n10_; have NB298_0 := n11_; clear n0_ n1_ n2_ n3_ n4_ n5_ n6_ n7_ n8_ n9_ n10_ n11_; clear hb hbox hg; have hnb11 := NB298_293.out; have hnc11 := NB293_298.out; have hnb12 := NB298_0.out; have hnc12 := NB0_298.out; have hcz13_0 : w10.cell? ⟨gb298, 0, none⟩ = some (.int .i64 0) := (blk_cell BK298.out 0).trans rfl; have hcz13_1 : w10.cell? ⟨gb298, 1, none⟩ = some (.int .i64 0) := (blk_cell BK298.out 1).trans rfl; have hcz13_2 : w10.cell? ⟨gb298, 2, none⟩ = some (.slice none 0 0) := (blk_cell BK298.out 2).trans rfl; have hcz13_3 : w10.cell? ⟨gb298, 3, none⟩ = some (.slice none 0 0) := (blk_cell BK298.out 3).trans rfl; have hfz13_0 := blk_frozen BK298.out 0; have hfz13_1 := blk_frozen BK298.out 1; have hfz13_2 := blk_frozen BK298.out 2; have hfz13_3 := blk_frozen BK298.out 3; obtain ⟨ASz14_0, cSz14_0, HGz14, hgz14, HSz14_0⟩ := HI0.out; have hcz14_0 := cellS49_0 HGz14; have hcz14_1 := cellS49_1 HGz14; have hfz14_1 := blk_frozen HGz14 1; clear HGz14 hgz14; have p299 : 0 ≤ (t297 : Int) := of_decide_eq_true (by first | (with_reducible assumption) | assumption); have q299 : t297 < (s0_0.length : Int) := of_decide_eq_true (by first | (with_reducible assumption) | assumption); obtain ⟨ad299, e299, hx299_0, hx299_1⟩ := at_T44 HSz14_0 t297 p299 q299; cases e299; have hn299_0 : ad299.block ≠ gb298 := Nat.ne_of_lt (Nat.lt_of_lt_of_le (by have := World.block_lt_of_cell? _ _ hx299_0; first | rwa [add_block] at this | exact this) GE298.out); have hn299_1 : ad299.block ≠ gb298 := Nat.ne_of_lt (Nat.lt_of_lt_of_le (by have := World.block_lt_of_cell? _ _ hx299_0; first | rwa [add_block] at this | exact this) GE298.out); have hn299_2 : ad299.block ≠ gb298 := Nat.ne_of_lt (Nat.lt_of_lt_of_le (by have := World.block_lt_of_cell? _ _ hx299_0; first | rwa [add_block] at this | exact this) GE298.out); have hn299_3 : ad299.block ≠ gb298 := Nat.ne_of_lt (Nat.lt_of_lt_of_le (by have := World.block_lt_of_cell? _ _ hx299_0; first | rwa [add_block] at this | exact this) GE298.out); replace hx299_0 := pw_cell_below HB.out hx299_0; replace hx299_1 := pw_cell_below HB.out hx299_1; replace hx299_0 := (cell_far (p := ⟨gb298, 0, none⟩) (by first | (rw [add_block]; exact hn299_0) | (show (Addr.add _ _).block ≠ _; rw [add_block]; exact hn299_0) | exact hn299_0) (.int .i64 3)).trans hx299_0; replace hx299_1 := (cell_far (p := ⟨gb298, 0, none⟩) (by first | (rw [add_block]; exact hn299_0) | (show (Addr.add _ _).block ≠ _; rw [add_block]; exact hn299_0) | exact hn299_0) (.int .i64 3)).trans hx299_1; replace hx299_0 := (cell_far (p := ⟨gb298, 1, none⟩) (by first | (rw [add_block]; exact hn299_1) | (show (Addr.add _ _).block ≠ _; rw [add_block]; exact hn299_1) | exact hn299_1) (.int .i64 0)).trans hx299_0; replace hx299_1 := (cell_far (p := ⟨gb298, 1, none⟩) (by first | (rw [add_block]; exact hn299_1) | (show (Addr.add _ _).block ≠ _; rw [add_block]; exact hn299_1) | exact hn299_1) (.int .i64 0)).trans hx299_1; replace hx299_0 := (cell_far (p := ⟨gb298, 2, none⟩) (by first | (rw [add_block]; exact hn299_2) | (show (Addr.add _ _).block ≠ _; rw [add_block]; exact hn299_2) | exact hn299_2) (.slice Ao9 t294.length co9)).trans hx299_0; replace hx299_1 := (cell_far (p := ⟨gb298, 2, none⟩) (by first | (rw [add_block]; exact hn299_2) | (show (Addr.add _ _).block ≠ _; rw [add_block]; exact hn299_2) | exact hn299_2) (.slice Ao9 t294.length co9)).trans hx299_1; replace hx299_0 := (cell_far (p := ⟨gb298, 3, none⟩) (by first | (rw [add_block]; exact hn299_3) | (show (Addr.add _ _).block ≠ _; rw [add_block]; exact hn299_3) | exact hn299_3) (.slice none 0 0)).trans hx299_0; replace hx299_1 := (cell_far (p := ⟨gb298, 3, none⟩) (by first | (rw [add_block]; exact hn299_3) | (show (Addr.add _ _).block ≠ _; rw [add_block]; exact hn299_3) | exact hn299_3) (.slice none 0 0)).trans hx299_1; (try have hy299_0 := fun (n_ : Nat) => (show ((((((w10.drewN n_).setCell ⟨gb298, 0, none⟩ (.int .i64 3)).setCell ⟨gb298, 1, none⟩ (.int .i64 0)).setCell ⟨gb298, 2, none⟩ (.slice Ao9 t294.length co9)).setCell ⟨gb298, 3, none⟩ (.slice none 0 0))).cell? _ = some _ from hx299_0)); (try have hy299_1 := fun (n_ : Nat) => (show ((((((w10.drewN n_).setCell ⟨gb298, 0, none⟩ (.int .i64 3)).setCell ⟨gb298, 1, none⟩ (.int .i64 0)).setCell ⟨gb298, 2, none⟩ (.slice Ao9 t294.length co9)).setCell ⟨gb298, 3, none⟩ (.slice none 0 0))).cell? _ = some _ from hx299_1)); clear hn299_0; clear hn299_1; clear hn299_2; clear hn299_3; replace p299 := eq_true p299; replace q299 := eq_true q299))
      repeat (go_quiet (first | ((with_reducible refine gate_dst (N := 4) rfl ?_); refine box_event ?hg (N := 4) ?hd (cs := #[.int .i64 0, .int .i64 0, .slice none 0 0, .slice none 0 0]) (t := 53) ?hr ?_; (case hd => rfl); (case hg => rfl); (case hr => first | (go_simp; done) | (go_simp; rfl)); intro gb293 hg w7 hbox hb; have n0_ := Aside0.mk (IsS49.below (by repeat (first | (with_reducible first | exact HI0.out | apply IsS49.alloc | apply IsS49.drewN | apply IsS49.drew | apply IsS49.set_1) | exact HI0.out)) hb); have n1_ := Aside0.mk (KeepBut.trans (by repeat (first | (with_reducible first | exact HK.out | apply KeepBut.set_ | apply keep_drewN | apply keep_drew | apply keep_alloc) | exact HK.out)) (KeepBut.of_below hb g none) (.inl rfl)); have n2_ := Aside0.mk (below_step (by repeat (first | (with_reducible first | exact HB.out | apply below_alloc | apply pw_below_drewN | apply below_drew1 | refine below_set ?_ (IsS49.ge HI0.out)) | exact HB.out)) hb); have n3_ := Aside0.mk (hbox); have n4_ := Aside0.mk ((by rw [hg]; exact (keep_size (w := w) (g := g) (row := none) (by repeat (first | (with_reducible first | exact HK.out | apply KeepBut.set_ | apply keep_drewN | apply keep_drew | apply keep_alloc) | exact HK.out))) : w.heap.size ≤ gb293)); have n5_ := Aside0.mk ((Nat.le_trans HW0.out (by rw [hg]; exact (keep_size (w := w) (g := g) (row := none) (by repeat (first | (with_reducible first | exact HK.out | apply KeepBut.set_ | apply keep_drewN | apply keep_drew | apply keep_alloc) | exact HK.out))) : w.heap.size ≤ gb293) : w0.heap.size ≤ gb293)); have n6_ := Aside0.mk ((by rw [hg]; exact Nat.ne_of_lt (IsS49.lt (show IsS49 w0 _ g s0_0 s0_1 from by repeat (first | (with_reducible first | exact HI0.out | apply IsS49.alloc | apply IsS49.drewN | apply IsS49.drew | apply IsS49.set_1) | exact HI0.out))) : g ≠ gb293)); have n7_ := Aside0.mk ((by rw [hg]; exact Nat.ne_of_gt (IsS49.lt (show IsS49 w0 _ g s0_0 s0_1 from by repeat (first | (with_reducible first | exact HI0.out | apply IsS49.alloc | apply IsS49.drewN | apply IsS49.drew | apply IsS49.set_1) | exact HI0.out))) : gb293 ≠ g)); clear HI0; clear HK; clear HB; have HI0 := n0_; have HK := n1_; have HB := n2_; have BK293 := n3_; have GW293 := n4_; have GE293 := n5_; have NB0_293 := n6_; have NB293_0 := n7_; clear n0_ n1_ n2_ n3_ n4_ n5_ n6_ n7_; clear hb hbox hg) | (go_at_call 24; (with_reducible refine (IHO k (by omega) g s0_0 s0_1 t294 t297 w0 _ ?side1 ?side2 A3.out).mono ?_); (case side1 => repeat (first | (with_reducible first | exact HI0.out | apply IsS49.alloc | apply IsS49.drewN | apply IsS49.drew | apply IsS49.set_1 | (apply IsS49.far; (case hne => exact NB0_293.out))) | exact HI0.out)); (case side2 => repeat (first | (with_reducible first | exact HB.out | apply below_alloc | apply pw_below_drewN | apply below_drew1 | refine below_set ?_ (IsS49.ge HI0.out) | refine below_set ?_ GE293.out) | exact HB.out)); rintro e w8 ⟨v295, rfl, ho0, hi, hb, hk⟩; have n0_ := Aside0.mk (KeepBut.blk hk (g' := gb293) (o := .cells #[.int .i64 0, .int .i64 0, .slice none 0 0, .slice none 0 0] 53 (0, 0)) (by (with_reducible repeat (first | refine blk_drewN ?_ _ | refine blk_drew ?_ | refine blk_alloc ?_ _)); exact BK293.out) NB293_0.out (by simp)); have n1_ := Aside0.mk (TN.R_lower (TN.R_newB ho0 (g := gb293) (o := .cells #[.int .i64 0, .int .i64 0, .slice none 0 0, .slice none 0 0] 53 (0, 0)) (by (with_reducible repeat (first | refine blk_drewN ?_ _ | refine blk_drew ?_ | refine blk_alloc ?_ _)); exact BK293.out)) (keep_size (w := w) (g := g) (row := none) (by repeat (first | (with_reducible first | exact HK.out | apply KeepBut.set_ | apply keep_drewN | apply keep_drew | apply keep_alloc | refine keep_far ?_ GW293.out _) | exact HK.out)))); have n2_ := Aside0.mk (KeepBut.trans (by repeat (first | (with_reducible first | exact HK.out | apply KeepBut.set_ | apply keep_drewN | apply keep_drew | apply keep_alloc | refine keep_far ?_ GW293.out _) | exact HK.out)) hk (.inl rfl)); have n3_ := Aside0.mk (hb); have n4_ := Aside0.mk (hi); clear BK293; clear HK; clear HB; clear HI0; have BK293 := n0_; have HO296 := n1_; have HK := n2_; have HB := n3_; have HI0 := n4_; clear n0_ n1_ n2_ n3_ n4_; (try clear hb); (try clear hb2); (try clear hk); (try clear hi); (try clear ho0); obtain ⟨Ao9, co9, eo9⟩ := TN.R_slice HO296.out; subst eo9) | ((with_reducible refine gate_dst (N := 5) rfl ?_); refine box_event ?hg (N := 5) ?hd (cs := #[.int .i64 0, .int .i64 0, .slice none 0 0, .slice none 0 0]) (t := 53) ?hr ?_; (case hd => rfl); (case hg => rfl); (case hr => first | (go_simp; done) | (go_simp; rfl)); intro gb298 hg w10 hbox hb; have n0_ := Aside0.mk (TN.R_below (TN.R_elderB (by (with_reducible repeat (first | apply TN.R_alloc | apply TN.R_drewN | apply TN.R_drew)); exact HO296.out) gb298 (Nat.le_of_eq hg.symm)) hb); have n1_ := Aside0.mk (IsS49.below (by repeat (first | (with_reducible first | exact HI0.out | apply IsS49.alloc | apply IsS49.drewN | apply IsS49.drew | apply IsS49.set_1 | (apply IsS49.far; (case hne => exact NB0_293.out))) | exact HI0.out)) hb); have n2_ := Aside0.mk (blk_below (g := gb293) (o := .cells #[.int .i64 0, .int .i64 0, .slice none 0 0, .slice none 0 0] 53 (0, 0)) (by (with_reducible repeat (first | refine blk_drewN ?_ _ | refine blk_drew ?_ | refine blk_alloc ?_ _)); exact BK293.out) hb); have n3_ := Aside0.mk (KeepBut.trans (by repeat (first | (with_reducible first | exact HK.out | apply KeepBut.set_ | apply keep_drewN | apply keep_drew | apply keep_alloc | refine keep_far ?_ GW293.out _) | exact HK.out)) (KeepBut.of_below hb g none) (.inl rfl)); have n4_ := Aside0.mk (below_step (by repeat (first | (with_reducible first | exact HB.out | apply below_alloc | apply pw_below_drewN | apply below_drew1 | refine below_set ?_ (IsS49.ge HI0.out) | refine below_set ?_ GE293.out) | exact HB.out)) hb); have n5_ := Aside0.mk (hbox); have n6_ := Aside0.mk ((by rw [hg]; exact (keep_size (w := w) (g := g) (row := none) (by repeat (first | (with_reducible first | exact HK.out | apply KeepBut.set_ | apply keep_drewN | apply keep_drew | apply keep_alloc | refine keep_far ?_ GW293.out _) | exact HK.out))) : w.heap.size ≤ gb298)); have n7_ := Aside0.mk ((Nat.le_trans HW0.out (by rw [hg]; exact (keep_size (w := w) (g := g) (row := none) (by repeat (first | (with_reducible first | exact HK.out | apply KeepBut.set_ | apply keep_drewN | apply keep_drew | apply keep_alloc | refine keep_far ?_ GW293.out _) | exact HK.out))) : w.heap.size ≤ gb298) : w0.heap.size ≤ gb298)); have n8_ := Aside0.mk ((by rw [hg]; exact Nat.ne_of_lt (blk_lt (g := gb293) (o := .cells #[.int .i64 0, .int .i64 0, .slice none 0 0, .slice none 0 0] 53 (0, 0)) (by (with_reducible repeat (first | refine blk_drewN ?_ _ | refine blk_drew ?_ | refine blk_alloc ?_ _)); exact BK293.out)) : gb293 ≠ gb298)); have n9_ := Aside0.mk ((by rw [hg]; exact Nat.ne_of_gt (blk_lt (g := gb293) (o := .cells #[.int .i64 0, .int .i64 0, .slice none 0 0, .slice none 0 0] 53 (0, 0)) (by (with_reducible repeat (first | refine blk_drewN ?_ _ | refine blk_drew ?_ | refine blk_alloc ?_ _)); exact BK293.out)) : gb298 ≠ gb293)); have n10_ := Aside0.mk ((by rw [hg]; exact Nat.ne_of_lt (IsS49.lt (show IsS49 w0 _ g s0_0 t297 from by repeat (first | (with_reducible first | exact HI0.out | apply IsS49.alloc | apply IsS49.drewN | apply IsS49.drew | apply IsS49.set_1 | (apply IsS49.far; (case hne => exact NB0_293.out))) | exact HI0.out))) : g ≠ gb298)); have n11_ := Aside0.mk ((by rw [hg]; exact Nat.ne_of_gt (IsS49.lt (show IsS49 w0 _ g s0_0 t297 from by repeat (first | (with_reducible first | exact HI0.out | apply IsS49.alloc | apply IsS49.drewN | apply IsS49.drew | apply IsS49.set_1 | (apply IsS49.far; (case hne => exact NB0_293.out))) | exact HI0.out))) : gb298 ≠ g)); clear HO296; clear HI0; clear BK293; clear HK; clear HB; have HO296 := n0_; have HI0 := n1_; have BK293 := n2_; have HK := n3_; have HB := n4_; have BK298 := n5_; have GW298 := n6_; have GE298 := n7_; have NB293_298 := n8_; have NB298_293 := n9_; have NB0_298 := n10_; have NB298_0 := n11_; clear n0_ n1_ n2_ n3_ n4_ n5_ n6_ n7_ n8_ n9_ n10_ n11_; clear hb hbox hg; have hnb11 := NB298_293.out; have hnc11 := NB293_298.out; have hnb12 := NB298_0.out; have hnc12 := NB0_298.out; have hcz13_0 : w10.cell? ⟨gb298, 0, none⟩ = some (.int .i64 0) := (blk_cell BK298.out 0).trans rfl; have hcz13_1 : w10.cell? ⟨gb298, 1, none⟩ = some (.int .i64 0) := (blk_cell BK298.out 1).trans rfl; have hcz13_2 : w10.cell? ⟨gb298, 2, none⟩ = some (.slice none 0 0) := (blk_cell BK298.out 2).trans rfl; have hcz13_3 : w10.cell? ⟨gb298, 3, none⟩ = some (.slice none 0 0) := (blk_cell BK298.out 3).trans rfl; have hfz13_0 := blk_frozen BK298.out 0; have hfz13_1 := blk_frozen BK298.out 1; have hfz13_2 := blk_frozen BK298.out 2; have hfz13_3 := blk_frozen BK298.out 3; obtain ⟨ASz14_0, cSz14_0, HGz14, hgz14, HSz14_0⟩ := HI0.out; have hcz14_0 := cellS49_0 HGz14; have hcz14_1 := cellS49_1 HGz14; have hfz14_1 := blk_frozen HGz14 1; clear HGz14 hgz14; have p299 : 0 ≤ (t297 : Int) := of_decide_eq_true (by first | (with_reducible assumption) | assumption); have q299 : t297 < (s0_0.length : Int) := of_decide_eq_true (by first | (with_reducible assumption) | assumption); obtain ⟨ad299, e299, hx299_0, hx299_1⟩ := at_T44 HSz14_0 t297 p299 q299; cases e299; have hn299_0 : ad299.block ≠ gb298 := Nat.ne_of_lt (Nat.lt_of_lt_of_le (by have := World.block_lt_of_cell? _ _ hx299_0; first | rwa [add_block] at this | exact this) GE298.out); have hn299_1 : ad299.block ≠ gb298 := Nat.ne_of_lt (Nat.lt_of_lt_of_le (by have := World.block_lt_of_cell? _ _ hx299_0; first | rwa [add_block] at this | exact this) GE298.out); have hn299_2 : ad299.block ≠ gb298 := Nat.ne_of_lt (Nat.lt_of_lt_of_le (by have := World.block_lt_of_cell? _ _ hx299_0; first | rwa [add_block] at this | exact this) GE298.out); have hn299_3 : ad299.block ≠ gb298 := Nat.ne_of_lt (Nat.lt_of_lt_of_le (by have := World.block_lt_of_cell? _ _ hx299_0; first | rwa [add_block] at this | exact this) GE298.out); replace hx299_0 := pw_cell_below HB.out hx299_0; replace hx299_1 := pw_cell_below HB.out hx299_1; replace hx299_0 := (cell_far (p := ⟨gb298, 0, none⟩) (by first | (rw [add_block]; exact hn299_0) | (show (Addr.add _ _).block ≠ _; rw [add_block]; exact hn299_0) | exact hn299_0) (.int .i64 3)).trans hx299_0; replace hx299_1 := (cell_far (p := ⟨gb298, 0, none⟩) (by first | (rw [add_block]; exact hn299_0) | (show (Addr.add _ _).block ≠ _; rw [add_block]; exact hn299_0) | exact hn299_0) (.int .i64 3)).trans hx299_1; replace hx299_0 := (cell_far (p := ⟨gb298, 1, none⟩) (by first | (rw [add_block]; exact hn299_1) | (show (Addr.add _ _).block ≠ _; rw [add_block]; exact hn299_1) | exact hn299_1) (.int .i64 0)).trans hx299_0; replace hx299_1 := (cell_far (p := ⟨gb298, 1, none⟩) (by first | (rw [add_block]; exact hn299_1) | (show (Addr.add _ _).block ≠ _; rw [add_block]; exact hn299_1) | exact hn299_1) (.int .i64 0)).trans hx299_1; replace hx299_0 := (cell_far (p := ⟨gb298, 2, none⟩) (by first | (rw [add_block]; exact hn299_2) | (show (Addr.add _ _).block ≠ _; rw [add_block]; exact hn299_2) | exact hn299_2) (.slice Ao9 t294.length co9)).trans hx299_0; replace hx299_1 := (cell_far (p := ⟨gb298, 2, none⟩) (by first | (rw [add_block]; exact hn299_2) | (show (Addr.add _ _).block ≠ _; rw [add_block]; exact hn299_2) | exact hn299_2) (.slice Ao9 t294.length co9)).trans hx299_1; replace hx299_0 := (cell_far (p := ⟨gb298, 3, none⟩) (by first | (rw [add_block]; exact hn299_3) | (show (Addr.add _ _).block ≠ _; rw [add_block]; exact hn299_3) | exact hn299_3) (.slice none 0 0)).trans hx299_0; replace hx299_1 := (cell_far (p := ⟨gb298, 3, none⟩) (by first | (rw [add_block]; exact hn299_3) | (show (Addr.add _ _).block ≠ _; rw [add_block]; exact hn299_3) | exact hn299_3) (.slice none 0 0)).trans hx299_1; (try have hy299_0 := fun (n_ : Nat) => (show ((((((w10.drewN n_).setCell ⟨gb298, 0, none⟩ (.int .i64 3)).setCell ⟨gb298, 1, none⟩ (.int .i64 0)).setCell ⟨gb298, 2, none⟩ (.slice Ao9 t294.length co9)).setCell ⟨gb298, 3, none⟩ (.slice none 0 0))).cell? _ = some _ from hx299_0)); (try have hy299_1 := fun (n_ : Nat) => (show ((((((w10.drewN n_).setCell ⟨gb298, 0, none⟩ (.int .i64 3)).setCell ⟨gb298, 1, none⟩ (.int .i64 0)).setCell ⟨gb298, 2, none⟩ (.slice Ao9 t294.length co9)).setCell ⟨gb298, 3, none⟩ (.slice none 0 0))).cell? _ = some _ from hx299_1)); clear hn299_0; clear hn299_1; clear hn299_2; clear hn299_3; replace p299 := eq_true p299; replace q299 := eq_true q299)); go_upto_region 4 with (first | ((with_reducible refine gate_dst (N := 4) rfl ?_); refine box_event ?hg (N := 4) ?hd (cs := #[.int .i64 0, .int .i64 0, .slice none 0 0, .slice none 0 0]) (t := 53) ?hr ?_; (case hd => rfl); (case hg => rfl); (case hr => first | (go_simp; done) | (go_simp; rfl)); intro gb293 hg w7 hbox hb; have n0_ := Aside0.mk (IsS49.below (by repeat (first | (with_reducible first | exact HI0.out | apply IsS49.alloc | apply IsS49.drewN | apply IsS49.drew | apply IsS49.set_1) | exact HI0.out)) hb); have n1_ := Aside0.mk (KeepBut.trans (by repeat (first | (with_reducible first | exact HK.out | apply KeepBut.set_ | apply keep_drewN | apply keep_drew | apply keep_alloc) | exact HK.out)) (KeepBut.of_below hb g none) (.inl rfl)); have n2_ := Aside0.mk (below_step (by repeat (first | (with_reducible first | exact HB.out | apply below_alloc | apply pw_below_drewN | apply below_drew1 | refine below_set ?_ (IsS49.ge HI0.out)) | exact HB.out)) hb); have n3_ := Aside0.mk (hbox); have n4_ := Aside0.mk ((by rw [hg]; exact (keep_size (w := w) (g := g) (row := none) (by repeat (first | (with_reducible first | exact HK.out | apply KeepBut.set_ | apply keep_drewN | apply keep_drew | apply keep_alloc) | exact HK.out))) : w.heap.size ≤ gb293)); have n5_ := Aside0.mk ((Nat.le_trans HW0.out (by rw [hg]; exact (keep_size (w := w) (g := g) (row := none) (by repeat (first | (with_reducible first | exact HK.out | apply KeepBut.set_ | apply keep_drewN | apply keep_drew | apply keep_alloc) | exact HK.out))) : w.heap.size ≤ gb293) : w0.heap.size ≤ gb293)); have n6_ := Aside0.mk ((by rw [hg]; exact Nat.ne_of_lt (IsS49.lt (show IsS49 w0 _ g s0_0 s0_1 from by repeat (first | (with_reducible first | exact HI0.out | apply IsS49.alloc | apply IsS49.drewN | apply IsS49.drew | apply IsS49.set_1) | exact HI0.out))) : g ≠ gb293)); have n7_ := Aside0.mk ((by rw [hg]; exact Nat.ne_of_gt (IsS49.lt (show IsS49 w0 _ g s0_0 s0_1 from by repeat (first | (with_reducible first | exact HI0.out | apply IsS49.alloc | apply IsS49.drewN | apply IsS49.drew | apply IsS49.set_1) | exact HI0.out))) : gb293 ≠ g)); clear HI0; clear HK; clear HB; have HI0 := n0_; have HK := n1_; have HB := n2_; have BK293 := n3_; have GW293 := n4_; have GE293 := n5_; have NB0_293 := n6_; have NB293_0 := n7_; clear n0_ n1_ n2_ n3_ n4_ n5_ n6_ n7_; clear hb hbox hg) | (go_at_call 24; (with_reducible refine (IHO k (by omega) g s0_0 s0_1 t294 t297 w0 _ ?side1 ?side2 A3.out).mono ?_); (case side1 => repeat (first | (with_reducible first | exact HI0.out | apply IsS49.alloc | apply IsS49.drewN | apply IsS49.drew | apply IsS49.set_1 | (apply IsS49.far; (case hne => exact NB0_293.out))) | exact HI0.out)); (case side2 => repeat (first | (with_reducible first | exact HB.out | apply below_alloc | apply pw_below_drewN | apply below_drew1 | refine below_set ?_ (IsS49.ge HI0.out) | refine below_set ?_ GE293.out) | exact HB.out)); rintro e w8 ⟨v295, rfl, ho0, hi, hb, hk⟩; have n0_ := Aside0.mk (KeepBut.blk hk (g' := gb293) (o := .cells #[.int .i64 0, .int .i64 0, .slice none 0 0, .slice none 0 0] 53 (0, 0)) (by (with_reducible repeat (first | refine blk_drewN ?_ _ | refine blk_drew ?_ | refine blk_alloc ?_ _)); exact BK293.out) NB293_0.out (by simp)); have n1_ := Aside0.mk (TN.R_lower (TN.R_newB ho0 (g := gb293) (o := .cells #[.int .i64 0, .int .i64 0, .slice none 0 0, .slice none 0 0] 53 (0, 0)) (by (with_reducible repeat (first | refine blk_drewN ?_ _ | refine blk_drew ?_ | refine blk_alloc ?_ _)); exact BK293.out)) (keep_size (w := w) (g := g) (row := none) (by repeat (first | (with_reducible first | exact HK.out | apply KeepBut.set_ | apply keep_drewN | apply keep_drew | apply keep_alloc | refine keep_far ?_ GW293.out _) | exact HK.out)))); have n2_ := Aside0.mk (KeepBut.trans (by repeat (first | (with_reducible first | exact HK.out | apply KeepBut.set_ | apply keep_drewN | apply keep_drew | apply keep_alloc | refine keep_far ?_ GW293.out _) | exact HK.out)) hk (.inl rfl)); have n3_ := Aside0.mk (hb); have n4_ := Aside0.mk (hi); clear BK293; clear HK; clear HB; clear HI0; have BK293 := n0_; have HO296 := n1_; have HK := n2_; have HB := n3_; have HI0 := n4_; clear n0_ n1_ n2_ n3_ n4_; (try clear hb); (try clear hb2); (try clear hk); (try clear hi); (try clear ho0); obtain ⟨Ao9, co9, eo9⟩ := TN.R_slice HO296.out; subst eo9) | ((with_reducible refine gate_dst (N := 5) rfl ?_); refine box_event ?hg (N := 5) ?hd (cs := #[.int .i64 0, .int .i64 0, .slice none 0 0, .slice none 0 0]) (t := 53) ?hr ?_; (case hd => rfl); (case hg => rfl); (case hr => first | (go_simp; done) | (go_simp; rfl)); intro gb298 hg w10 hbox hb; have n0_ := Aside0.mk (TN.R_below (TN.R_elderB (by (with_reducible repeat (first | apply TN.R_alloc | apply TN.R_drewN | apply TN.R_drew)); exact HO296.out) gb298 (Nat.le_of_eq hg.symm)) hb); have n1_ := Aside0.mk (IsS49.below (by repeat (first | (with_reducible first | exact HI0.out | apply IsS49.alloc | apply IsS49.drewN | apply IsS49.drew | apply IsS49.set_1 | (apply IsS49.far; (case hne => exact NB0_293.out))) | exact HI0.out)) hb); have n2_ := Aside0.mk (blk_below (g := gb293) (o := .cells #[.int .i64 0, .int .i64 0, .slice none 0 0, .slice none 0 0] 53 (0, 0)) (by (with_reducible repeat (first | refine blk_drewN ?_ _ | refine blk_drew ?_ | refine blk_alloc ?_ _)); exact BK293.out) hb); have n3_ := Aside0.mk (KeepBut.trans (by repeat (first | (with_reducible first | exact HK.out | apply KeepBut.set_ | apply keep_drewN | apply keep_drew | apply keep_alloc | refine keep_far ?_ GW293.out _) | exact HK.out)) (KeepBut.of_below hb g none) (.inl rfl)); have n4_ := Aside0.mk (below_step (by repeat (first | (with_reducible first | exact HB.out | apply below_alloc | apply pw_below_drewN | apply below_drew1 | refine below_set ?_ (IsS49.ge HI0.out) | refine below_set ?_ GE293.out) | exact HB.out)) hb); have n5_ := Aside0.mk (hbox); have n6_ := Aside0.mk ((by rw [hg]; exact (keep_size (w := w) (g := g) (row := none) (by repeat (first | (with_reducible first | exact HK.out | apply KeepBut.set_ | apply keep_drewN | apply keep_drew | apply keep_alloc | refine keep_far ?_ GW293.out _) | exact HK.out))) : w.heap.size ≤ gb298)); have n7_ := Aside0.mk ((Nat.le_trans HW0.out (by rw [hg]; exact (keep_size (w := w) (g := g) (row := none) (by repeat (first | (with_reducible first | exact HK.out | apply KeepBut.set_ | apply keep_drewN | apply keep_drew | apply keep_alloc | refine keep_far ?_ GW293.out _) | exact HK.out))) : w.heap.size ≤ gb298) : w0.heap.size ≤ gb298)); have n8_ := Aside0.mk ((by rw [hg]; exact Nat.ne_of_lt (blk_lt (g := gb293) (o := .cells #[.int .i64 0, .int .i64 0, .slice none 0 0, .slice none 0 0] 53 (0, 0)) (by (with_reducible repeat (first | refine blk_drewN ?_ _ | refine blk_drew ?_ | refine blk_alloc ?_ _)); exact BK293.out)) : gb293 ≠ gb298)); have n9_ := Aside0.mk ((by rw [hg]; exact Nat.ne_of_gt (blk_lt (g := gb293) (o := .cells #[.int .i64 0, .int .i64 0, .slice none 0 0, .slice none 0 0] 53 (0, 0)) (by (with_reducible repeat (first | refine blk_drewN ?_ _ | refine blk_drew ?_ | refine blk_alloc ?_ _)); exact BK293.out)) : gb298 ≠ gb293)); have n10_ := Aside0.mk ((by rw [hg]; exact Nat.ne_of_lt (IsS49.lt (show IsS49 w0 _ g s0_0 t297 from by repeat (first | (with_reducible first | exact HI0.out | apply IsS49.alloc | apply IsS49.drewN | apply IsS49.drew | apply IsS49.set_1 | (apply IsS49.far; (case hne => exact NB0_293.out))) | exact HI0.out))) : g ≠ gb298)); have n11_ := Aside0.mk ((by rw [hg]; exact Nat.ne_of_gt (IsS49.lt (show IsS49 w0 _ g s0_0 t297 from by repeat (first | (with_reducible first | exact HI0.out | apply IsS49.alloc | apply IsS49.drewN | apply IsS49.drew | apply IsS49.set_1 | (apply IsS49.far; (case hne => exact NB0_293.out))) | exact HI0.out))) : gb298 ≠ g)); clear HO296; clear HI0; clear BK293; clear HK; clear HB; have HO296 := n0_; have HI0 := n1_; have BK293 := n2_; have HK := n3_; have HB := n4_; have BK298 := n5_; have GW298 := n6_; have GE298 := n7_; have NB293_298 := n8_; have NB298_293 := n9_; have NB0_298 := n10_; have NB298_0 := n11_; clear n0_ n1_ n2_ n3_ n4_ n5_ n6_ n7_ n8_ n9_ n10_ n11_; clear hb hbox hg; have hnb11 := NB298_293.out; have hnc11 := NB293_298.out; have hnb12 := NB298_0.out; have hnc12 := NB0_298.out; have hcz13_0 : w10.cell? ⟨gb298, 0, none⟩ = some (.int .i64 0) := (blk_cell BK298.out 0).trans rfl; have hcz13_1 : w10.cell? ⟨gb298, 1, none⟩ = some (.int .i64 0) := (blk_cell BK298.out 1).trans rfl; have hcz13_2 : w10.cell? ⟨gb298, 2, none⟩ = some (.slice none 0 0) := (blk_cell BK298.out 2).trans rfl; have hcz13_3 : w10.cell? ⟨gb298, 3, none⟩ = some (.slice none 0 0) := (blk_cell BK298.out 3).trans rfl; have hfz13_0 := blk_frozen BK298.out 0; have hfz13_1 := blk_frozen BK298.out 1; have hfz13_2 := blk_frozen BK298.out 2; have hfz13_3 := blk_frozen BK298.out 3; obtain ⟨ASz14_0, cSz14_0, HGz14, hgz14, HSz14_0⟩ := HI0.out; have hcz14_0 := cellS49_0 HGz14; have hcz14_1 := cellS49_1 HGz14; have hfz14_1 := blk_frozen HGz14 1; clear HGz14 hgz14; have p299 : 0 ≤ (t297 : Int) := of_decide_eq_true (by first | (with_reducible assumption) | assumption); have q299 : t297 < (s0_0.length : Int) := of_decide_eq_true (by first | (with_reducible assumption) | assumption); obtain ⟨ad299, e299, hx299_0, hx299_1⟩ := at_T44 HSz14_0 t297 p299 q299; cases e299; have hn299_0 : ad299.block ≠ gb298 := Nat.ne_of_lt (Nat.lt_of_lt_of_le (by have := World.block_lt_of_cell? _ _ hx299_0; first | rwa [add_block] at this | exact this) GE298.out); have hn299_1 : ad299.block ≠ gb298 := Nat.ne_of_lt (Nat.lt_of_lt_of_le (by have := World.block_lt_of_cell? _ _ hx299_0; first | rwa [add_block] at this | exact this) GE298.out); have hn299_2 : ad299.block ≠ gb298 := Nat.ne_of_lt (Nat.lt_of_lt_of_le (by have := World.block_lt_of_cell? _ _ hx299_0; first | rwa [add_block] at this | exact this) GE298.out); have hn299_3 : ad299.block ≠ gb298 := Nat.ne_of_lt (Nat.lt_of_lt_of_le (by have := World.block_lt_of_cell? _ _ hx299_0; first | rwa [add_block] at this | exact this) GE298.out); replace hx299_0 := pw_cell_below HB.out hx299_0; replace hx299_1 := pw_cell_below HB.out hx299_1; replace hx299_0 := (cell_far (p := ⟨gb298, 0, none⟩) (by first | (rw [add_block]; exact hn299_0) | (show (Addr.add _ _).block ≠ _; rw [add_block]; exact hn299_0) | exact hn299_0) (.int .i64 3)).trans hx299_0; replace hx299_1 := (cell_far (p := ⟨gb298, 0, none⟩) (by first | (rw [add_block]; exact hn299_0) | (show (Addr.add _ _).block ≠ _; rw [add_block]; exact hn299_0) | exact hn299_0) (.int .i64 3)).trans hx299_1; replace hx299_0 := (cell_far (p := ⟨gb298, 1, none⟩) (by first | (rw [add_block]; exact hn299_1) | (show (Addr.add _ _).block ≠ _; rw [add_block]; exact hn299_1) | exact hn299_1) (.int .i64 0)).trans hx299_0; replace hx299_1 := (cell_far (p := ⟨gb298, 1, none⟩) (by first | (rw [add_block]; exact hn299_1) | (show (Addr.add _ _).block ≠ _; rw [add_block]; exact hn299_1) | exact hn299_1) (.int .i64 0)).trans hx299_1; replace hx299_0 := (cell_far (p := ⟨gb298, 2, none⟩) (by first | (rw [add_block]; exact hn299_2) | (show (Addr.add _ _).block ≠ _; rw [add_block]; exact hn299_2) | exact hn299_2) (.slice Ao9 t294.length co9)).trans hx299_0; replace hx299_1 := (cell_far (p := ⟨gb298, 2, none⟩) (by first | (rw [add_block]; exact hn299_2) | (show (Addr.add _ _).block ≠ _; rw [add_block]; exact hn299_2) | exact hn299_2) (.slice Ao9 t294.length co9)).trans hx299_1; replace hx299_0 := (cell_far (p := ⟨gb298, 3, none⟩) (by first | (rw [add_block]; exact hn299_3) | (show (Addr.add _ _).block ≠ _; rw [add_block]; exact hn299_3) | exact hn299_3) (.slice none 0 0)).trans hx299_0; replace hx299_1 := (cell_far (p := ⟨gb298, 3, none⟩) (by first | (rw [add_block]; exact hn299_3) | (show (Addr.add _ _).block ≠ _; rw [add_block]; exact hn299_3) | exact hn299_3) (.slice none 0 0)).trans hx299_1; (try have hy299_0 := fun (n_ : Nat) => (show ((((((w10.drewN n_).setCell ⟨gb298, 0, none⟩ (.int .i64 3)).setCell ⟨gb298, 1, none⟩ (.int .i64 0)).setCell ⟨gb298, 2, none⟩ (.slice Ao9 t294.length co9)).setCell ⟨gb298, 3, none⟩ (.slice none 0 0))).cell? _ = some _ from hx299_0)); (try have hy299_1 := fun (n_ : Nat) => (show ((((((w10.drewN n_).setCell ⟨gb298, 0, none⟩ (.int .i64 3)).setCell ⟨gb298, 1, none⟩ (.int .i64 0)).setCell ⟨gb298, 2, none⟩ (.slice Ao9 t294.length co9)).setCell ⟨gb298, 3, none⟩ (.slice none 0 0))).cell? _ = some _ from hx299_1)); clear hn299_0; clear hn299_1; clear hn299_2; clear hn299_3; replace p299 := eq_true p299; replace q299 := eq_true q299)))
      (try simp only [Act.put, List.setIfInBounds_toArray, List.set_cons_zero, List.set_cons_succ])
      go_cut [28] (fun v28 wc => ∃ (kq : Nat) (x28_5 : Bool), v28 = .bool x28_5 ∧ Aside0 (impl_grower_structure.j0 kq a1 ((rd_T44 s0_0 t297).f0) x28_5 s0_0 (wrap64 (t297 + 1)) 3 0 t294 = some (r1, r2, r3, r4, r5)) ∧ Aside0 (kq ≤ k) ∧ Aside0 (TN wc w.heap.size (fun k_ => k_ ≠ gb293 ∧ k_ ≠ gb298) (.slice Ao9 t294.length co9) t294) ∧ Aside0 (wc.heap[gb293]? = some (.cells #[.int .i64 0, .int .i64 0, (.slice none 0 0), (.slice none 0 0)] 53 (0, 0))) ∧ Aside0 (wc.heap[gb298]? = some (.cells #[.int .i64 3, .int .i64 0, (.slice Ao9 t294.length co9), (.slice none 0 0)] 53 (0, 0))) ∧ Aside0 (IsS49 w0 wc g s0_0 (wrap64 (t297 + 1))) ∧ Aside0 (KeepBut w wc g none) ∧ Aside0 (Below w0.heap.size w0 wc))
      case first =>
        have H := HC6.out
        clear HC6
        by_cases c15 : a1 = 3
        · rw [if_pos c15] at H
          have c15b0 : (a1 == 3) = true := beq_iff_eq.mpr c15
          have c15b1 : (a1 != 3) = false := bne_eq_false_iff_eq.mpr c15
          clear c15
          (first | rw [c15b0] | (simp only [i64_w, i32_w]; rw [c15b0]) | skip)
          have H' := Aside0.mk H
          clear H
          go_wp2
          repeat (go_quiet (fail); try go_wp2)
          go_meet
          case rel => exact ⟨_, ((((rd_T44 s0_0 t297).f0) == 4)), (by first | rfl | (simp; done) | (simp [*]; done)), H', ⟨by first | omega | exact Nat.le_refl _⟩, ⟨by (with_reducible repeat (first | apply TN.R_alloc | apply TN.R_drewN | apply TN.R_drew)); exact TN.R_mono (TN.R_far (p := ⟨g, 1, none⟩) (TN.R_drewN (TN.R_far (p := ⟨gb298, 3, none⟩) (TN.R_far (p := ⟨gb298, 2, none⟩) (TN.R_far (p := ⟨gb298, 1, none⟩) (TN.R_far (p := ⟨gb298, 0, none⟩) (IsS49.apartT HI0.out (TN.R_mono HO296.out (fun k_ hk => (⟨hk, hk.2⟩ : _ ∧ k_ ≠ gb298))) (by decide)) (fun _ hk => hk.1.2) (.int .i64 3)) (fun _ hk => hk.1.2) (.int .i64 0)) (fun _ hk => hk.1.2) (.slice Ao9 t294.length co9)) (fun _ hk => hk.1.2) (.slice none 0 0)) _) (fun _ hk => hk.2) (.int .i64 (wrap64 (t297 + 1)))) (fun _ hk => ⟨hk.1.1.1.2, hk.1.1.2⟩)⟩, ⟨by (with_reducible repeat (first | refine blk_drewN ?_ _ | refine blk_drew ?_ | refine blk_alloc ?_ _)); refine blk_far ?_ NB293_0.out _; (with_reducible repeat (first | refine blk_drewN ?_ _ | refine blk_drew ?_ | refine blk_alloc ?_ _)); refine blk_far ?_ NB293_298.out _; (with_reducible repeat (first | refine blk_drewN ?_ _ | refine blk_drew ?_ | refine blk_alloc ?_ _)); refine blk_far ?_ NB293_298.out _; (with_reducible repeat (first | refine blk_drewN ?_ _ | refine blk_drew ?_ | refine blk_alloc ?_ _)); refine blk_far ?_ NB293_298.out _; (with_reducible repeat (first | refine blk_drewN ?_ _ | refine blk_drew ?_ | refine blk_alloc ?_ _)); refine blk_far ?_ NB293_298.out _; (with_reducible repeat (first | refine blk_drewN ?_ _ | refine blk_drew ?_ | refine blk_alloc ?_ _)); exact BK293.out⟩, ⟨by (with_reducible repeat (first | refine blk_drewN ?_ _ | refine blk_drew ?_ | refine blk_alloc ?_ _)); refine blk_far ?_ NB298_0.out _; (with_reducible repeat (first | refine blk_drewN ?_ _ | refine blk_drew ?_ | refine blk_alloc ?_ _)); refine blk_put (cs := #[.int .i64 3, .int .i64 0, .slice Ao9 t294.length co9, .slice none 0 0]) ?_ 3 _ rfl; (with_reducible repeat (first | refine blk_drewN ?_ _ | refine blk_drew ?_ | refine blk_alloc ?_ _)); refine blk_put (cs := #[.int .i64 3, .int .i64 0, .slice none 0 0, .slice none 0 0]) ?_ 2 _ rfl; (with_reducible repeat (first | refine blk_drewN ?_ _ | refine blk_drew ?_ | refine blk_alloc ?_ _)); refine blk_put (cs := #[.int .i64 3, .int .i64 0, .slice none 0 0, .slice none 0 0]) ?_ 1 _ rfl; (with_reducible repeat (first | refine blk_drewN ?_ _ | refine blk_drew ?_ | refine blk_alloc ?_ _)); refine blk_put (cs := #[.int .i64 0, .int .i64 0, .slice none 0 0, .slice none 0 0]) ?_ 0 _ rfl; (with_reducible repeat (first | refine blk_drewN ?_ _ | refine blk_drew ?_ | refine blk_alloc ?_ _)); exact BK298.out⟩, ⟨by repeat (first | (with_reducible first | exact HI0.out | apply IsS49.alloc | apply IsS49.drewN | apply IsS49.drew | apply IsS49.set_1 | (apply IsS49.far; (case hne => exact NB0_293.out)) | (apply IsS49.far; (case hne => exact NB0_298.out))) | exact HI0.out)⟩, ⟨by repeat (first | (with_reducible first | exact HK.out | apply KeepBut.set_ | apply keep_drewN | apply keep_drew | apply keep_alloc | refine keep_far ?_ GW293.out _ | refine keep_far ?_ GW298.out _) | exact HK.out)⟩, ⟨by repeat (first | (with_reducible first | exact HB.out | apply below_alloc | apply pw_below_drewN | apply below_drew1 | refine below_set ?_ (IsS49.ge HI0.out) | refine below_set ?_ GE293.out | refine below_set ?_ GE298.out) | exact HB.out)⟩⟩
        · rw [if_neg c15] at H
          have c15b0 : (a1 == 3) = false := beq_eq_false_iff_ne.mpr c15
          have c15b1 : (a1 != 3) = true := bne_iff_ne.mpr c15
          (first | rw [c15b0] | (simp only [i64_w, i32_w]; rw [c15b0]) | skip)
          have H' := Aside0.mk H
          clear H
          go_wp2
          repeat (go_quiet (fail); try go_wp2)
          go_meet
          case rel => exact ⟨_, (false), (by first | rfl | (simp; done) | (simp [*]; done)), H', ⟨by first | omega | exact Nat.le_refl _⟩, ⟨by (with_reducible repeat (first | apply TN.R_alloc | apply TN.R_drewN | apply TN.R_drew)); exact TN.R_mono (TN.R_far (p := ⟨g, 1, none⟩) (TN.R_drewN (TN.R_far (p := ⟨gb298, 3, none⟩) (TN.R_far (p := ⟨gb298, 2, none⟩) (TN.R_far (p := ⟨gb298, 1, none⟩) (TN.R_far (p := ⟨gb298, 0, none⟩) (IsS49.apartT HI0.out (TN.R_mono HO296.out (fun k_ hk => (⟨hk, hk.2⟩ : _ ∧ k_ ≠ gb298))) (by decide)) (fun _ hk => hk.1.2) (.int .i64 3)) (fun _ hk => hk.1.2) (.int .i64 0)) (fun _ hk => hk.1.2) (.slice Ao9 t294.length co9)) (fun _ hk => hk.1.2) (.slice none 0 0)) _) (fun _ hk => hk.2) (.int .i64 (wrap64 (t297 + 1)))) (fun _ hk => ⟨hk.1.1.1.2, hk.1.1.2⟩)⟩, ⟨by (with_reducible repeat (first | refine blk_drewN ?_ _ | refine blk_drew ?_ | refine blk_alloc ?_ _)); refine blk_far ?_ NB293_0.out _; (with_reducible repeat (first | refine blk_drewN ?_ _ | refine blk_drew ?_ | refine blk_alloc ?_ _)); refine blk_far ?_ NB293_298.out _; (with_reducible repeat (first | refine blk_drewN ?_ _ | refine blk_drew ?_ | refine blk_alloc ?_ _)); refine blk_far ?_ NB293_298.out _; (with_reducible repeat (first | refine blk_drewN ?_ _ | refine blk_drew ?_ | refine blk_alloc ?_ _)); refine blk_far ?_ NB293_298.out _; (with_reducible repeat (first | refine blk_drewN ?_ _ | refine blk_drew ?_ | refine blk_alloc ?_ _)); refine blk_far ?_ NB293_298.out _; (with_reducible repeat (first | refine blk_drewN ?_ _ | refine blk_drew ?_ | refine blk_alloc ?_ _)); exact BK293.out⟩, ⟨by (with_reducible repeat (first | refine blk_drewN ?_ _ | refine blk_drew ?_ | refine blk_alloc ?_ _)); refine blk_far ?_ NB298_0.out _; (with_reducible repeat (first | refine blk_drewN ?_ _ | refine blk_drew ?_ | refine blk_alloc ?_ _)); refine blk_put (cs := #[.int .i64 3, .int .i64 0, .slice Ao9 t294.length co9, .slice none 0 0]) ?_ 3 _ rfl; (with_reducible repeat (first | refine blk_drewN ?_ _ | refine blk_drew ?_ | refine blk_alloc ?_ _)); refine blk_put (cs := #[.int .i64 3, .int .i64 0, .slice none 0 0, .slice none 0 0]) ?_ 2 _ rfl; (with_reducible repeat (first | refine blk_drewN ?_ _ | refine blk_drew ?_ | refine blk_alloc ?_ _)); refine blk_put (cs := #[.int .i64 3, .int .i64 0, .slice none 0 0, .slice none 0 0]) ?_ 1 _ rfl; (with_reducible repeat (first | refine blk_drewN ?_ _ | refine blk_drew ?_ | refine blk_alloc ?_ _)); refine blk_put (cs := #[.int .i64 0, .int .i64 0, .slice none 0 0, .slice none 0 0]) ?_ 0 _ rfl; (with_reducible repeat (first | refine blk_drewN ?_ _ | refine blk_drew ?_ | refine blk_alloc ?_ _)); exact BK298.out⟩, ⟨by repeat (first | (with_reducible first | exact HI0.out | apply IsS49.alloc | apply IsS49.drewN | apply IsS49.drew | apply IsS49.set_1 | (apply IsS49.far; (case hne => exact NB0_293.out)) | (apply IsS49.far; (case hne => exact NB0_298.out))) | exact HI0.out)⟩, ⟨by repeat (first | (with_reducible first | exact HK.out | apply KeepBut.set_ | apply keep_drewN | apply keep_drew | apply keep_alloc | refine keep_far ?_ GW293.out _ | refine keep_far ?_ GW298.out _) | exact HK.out)⟩, ⟨by repeat (first | (with_reducible first | exact HB.out | apply below_alloc | apply pw_below_drewN | apply below_drew1 | refine below_set ?_ (IsS49.ge HI0.out) | refine below_set ?_ GE293.out | refine below_set ?_ GE298.out) | exact HB.out)⟩⟩
      case rest =>
        clear HC6
        try clear c1
        try clear p2
        try clear q2
        try clear hx2
        try clear c3
        try clear c4
        try clear c4b0
        try clear c5
        try clear c5b0
        try clear p6
        try clear c11
        try clear c12
        try clear c15
        try clear c15b0
        try clear c15b1
        try clear hcz13_0
        try clear hcz13_1
        try clear hcz13_2
        try clear hcz13_3
        try clear hcz14_0
        try clear hcz14_1
        try clear hfz13_0
        try clear hfz13_1
        try clear hfz13_2
        try clear hfz13_3
        try clear hfz14_1
        try clear hx299_0
        try clear hx299_1
        try clear p299
        try clear q299
        obtain ⟨kq, x28_5, rfl, HA, HJ5, HO_299002, BK293, BK298, HI0, HK, HB⟩ := hcut
        cases kq with
        | zero => exact absurd HA.out (by simp [impl_grower_structure.j0])
        | succ kj5 =>
          have H := HA.out
          clear HA
          simp only [impl_grower_structure.j0] at H
          by_cases c16 : x28_5 = true
          · subst c16
            have H1 : ((impl_grower_row.f kj5 s0_0 (wrap64 (t297 + 1))).bind fun bt300 => (some (3, 1, t294, bt300.1, wrap64 (bt300.2 + 1)))) = some (r1, r2, r3, r4, r5) := by rw [if_pos rfl] at H; first | done | exact H
            clear H
            have H := H1
            clear H1
            replace H := Option.bind_eq_some_iff.mp H
            obtain ⟨⟨t300, t303⟩, A170, H⟩ := H
            replace H : (some (3, 1, t294, t300, wrap64 (t303 + 1))) = some (r1, r2, r3, r4, r5) := H
            have A17 := Aside0.mk A170
            clear A170
            simp only [Option.some.injEq, Prod.mk.injEq] at H
            obtain ⟨rfl, rfl, rfl, rfl, rfl⟩ := H
            have hnb18 := NB298_293.out
            have hnc18 := NB293_298.out
            have hnb19 := NB298_0.out
            have hnc19 := NB0_298.out
            have hcz20_0 : wc.cell? ⟨gb298, 0, none⟩ = some (.int .i64 3) := (blk_cell BK298.out 0).trans rfl
            have hcz20_1 : wc.cell? ⟨gb298, 1, none⟩ = some (.int .i64 0) := (blk_cell BK298.out 1).trans rfl
            have hcz20_2 : wc.cell? ⟨gb298, 2, none⟩ = some (.slice Ao9 t294.length co9) := (blk_cell BK298.out 2).trans rfl
            have hcz20_3 : wc.cell? ⟨gb298, 3, none⟩ = some (.slice none 0 0) := (blk_cell BK298.out 3).trans rfl
            have hfz20_0 := blk_frozen BK298.out 0
            have hfz20_1 := blk_frozen BK298.out 1
            have hfz20_2 := blk_frozen BK298.out 2
            have hfz20_3 := blk_frozen BK298.out 3
            go_wp2_with (first | (go_at_call 24; (with_reducible refine (IHO kj5 (by have := HJ5.out; omega) g s0_0 (wrap64 (t297 + 1)) t300 t303 w0 _ ?side1 ?side2 A17.out).mono ?_); (case side1 => repeat (first | (with_reducible first | exact HI0.out | apply IsS49.alloc | apply IsS49.drewN | apply IsS49.drew | apply IsS49.set_1 | (apply IsS49.far; (case hne => exact NB0_293.out)) | (apply IsS49.far; (case hne => exact NB0_298.out))) | exact HI0.out)); (case side2 => repeat (first | (with_reducible first | exact HB.out | apply below_alloc | apply pw_below_drewN | apply below_drew1 | refine below_set ?_ (IsS49.ge HI0.out) | refine below_set ?_ GE293.out | refine below_set ?_ GE298.out) | exact HB.out)); rintro e w21 ⟨v301, rfl, ho0, hi, hb, hk⟩; have n0_ := Aside0.mk (TN.R_keepN (TN.R_told (TN.R_oldK (IsS49.apartT (show IsS49 w0 _ g s0_0 (wrap64 (t297 + 1)) from by repeat (first | (with_reducible first | exact HI0.out | apply IsS49.alloc | apply IsS49.drewN | apply IsS49.drew | apply IsS49.set_1 | (apply IsS49.far; (case hne => exact NB0_293.out)) | (apply IsS49.far; (case hne => exact NB0_298.out))) | exact HI0.out)) (by (with_reducible repeat (first | apply TN.R_alloc | apply TN.R_drewN | apply TN.R_drew)); exact (TN.R_mono (TN.R_far (p := ⟨gb298, 1, none⟩) (TN.R_mono HO_299002.out (fun k_ hk => (⟨hk, hk.2⟩ : _ ∧ k_ ≠ gb298))) (fun _ hk => hk.2) (.int .i64 1)) (fun _ h_ => h_.1))) (by decide)) hk) (TN.R_base ho0))); have n1_ := Aside0.mk (KeepBut.blk hk (g' := gb293) (o := .cells #[.int .i64 0, .int .i64 0, .slice none 0 0, .slice none 0 0] 53 (0, 0)) (by (with_reducible repeat (first | refine blk_drewN ?_ _ | refine blk_drew ?_ | refine blk_alloc ?_ _)); refine blk_far ?_ NB293_298.out _; (with_reducible repeat (first | refine blk_drewN ?_ _ | refine blk_drew ?_ | refine blk_alloc ?_ _)); exact BK293.out) NB293_0.out (by simp)); have n2_ := Aside0.mk (KeepBut.blk hk (g' := gb298) (o := .cells #[.int .i64 3, .int .i64 1, .slice Ao9 t294.length co9, .slice none 0 0] 53 (0, 0)) (by (with_reducible repeat (first | refine blk_drewN ?_ _ | refine blk_drew ?_ | refine blk_alloc ?_ _)); refine blk_put (cs := #[.int .i64 3, .int .i64 0, .slice Ao9 t294.length co9, .slice none 0 0]) ?_ 1 _ rfl; (with_reducible repeat (first | refine blk_drewN ?_ _ | refine blk_drew ?_ | refine blk_alloc ?_ _)); exact BK298.out) NB298_0.out (by simp)); have n3_ := Aside0.mk (TN.R_lower (TN.R_newB (TN.R_newB (TN.R_new' ho0 (TN.R_lt (by (with_reducible repeat (first | apply TN.R_alloc | apply TN.R_drewN | apply TN.R_drew)); exact (TN.R_mono (TN.R_far (p := ⟨gb298, 1, none⟩) (TN.R_mono HO_299002.out (fun k_ hk => (⟨hk, hk.2⟩ : _ ∧ k_ ≠ gb298))) (fun _ hk => hk.2) (.int .i64 1)) (fun _ h_ => h_.1))))) (g := gb293) (o := .cells #[.int .i64 0, .int .i64 0, .slice none 0 0, .slice none 0 0] 53 (0, 0)) (by (with_reducible repeat (first | refine blk_drewN ?_ _ | refine blk_drew ?_ | refine blk_alloc ?_ _)); refine blk_far ?_ NB293_298.out _; (with_reducible repeat (first | refine blk_drewN ?_ _ | refine blk_drew ?_ | refine blk_alloc ?_ _)); exact BK293.out)) (g := gb298) (o := .cells #[.int .i64 3, .int .i64 1, .slice Ao9 t294.length co9, .slice none 0 0] 53 (0, 0)) (by (with_reducible repeat (first | refine blk_drewN ?_ _ | refine blk_drew ?_ | refine blk_alloc ?_ _)); refine blk_put (cs := #[.int .i64 3, .int .i64 0, .slice Ao9 t294.length co9, .slice none 0 0]) ?_ 1 _ rfl; (with_reducible repeat (first | refine blk_drewN ?_ _ | refine blk_drew ?_ | refine blk_alloc ?_ _)); exact BK298.out)) (keep_size (w := w) (g := g) (row := none) (by repeat (first | (with_reducible first | exact HK.out | apply KeepBut.set_ | apply keep_drewN | apply keep_drew | apply keep_alloc | refine keep_far ?_ GW293.out _ | refine keep_far ?_ GW298.out _) | exact HK.out)))); have n4_ := Aside0.mk (KeepBut.trans (by repeat (first | (with_reducible first | exact HK.out | apply KeepBut.set_ | apply keep_drewN | apply keep_drew | apply keep_alloc | refine keep_far ?_ GW293.out _ | refine keep_far ?_ GW298.out _) | exact HK.out)) hk (.inl rfl)); have n5_ := Aside0.mk (hb); have n6_ := Aside0.mk (hi); clear HO_299002; clear BK293; clear BK298; clear HK; clear HB; clear HI0; have HO_299002 := n0_; have BK293 := n1_; have BK298 := n2_; have HO302 := n3_; have HK := n4_; have HB := n5_; have HI0 := n6_; clear n0_ n1_ n2_ n3_ n4_ n5_ n6_; (try clear hb); (try clear hb2); (try clear hk); (try clear hi); (try clear ho0); obtain ⟨Ao22, co22, eo22⟩ := TN.R_slice HO302.out; subst eo22; have hcz23_0 : w21.cell? ⟨gb298, 0, none⟩ = some (.int .i64 3) := (blk_cell BK298.out 0).trans rfl; have hcz23_1 : w21.cell? ⟨gb298, 1, none⟩ = some (.int .i64 1) := (blk_cell BK298.out 1).trans rfl; have hcz23_2 : w21.cell? ⟨gb298, 2, none⟩ = some (.slice Ao9 t294.length co9) := (blk_cell BK298.out 2).trans rfl; have hcz23_3 : w21.cell? ⟨gb298, 3, none⟩ = some (.slice none 0 0) := (blk_cell BK298.out 3).trans rfl; have hfz23_0 := blk_frozen BK298.out 0; have hfz23_1 := blk_frozen BK298.out 1; have hfz23_2 := blk_frozen BK298.out 2; have hfz23_3 := blk_frozen BK298.out 3; obtain ⟨ASz24_0, cSz24_0, HGz24, hgz24, HSz24_0⟩ := HI0.out; have hcz24_0 := cellS49_0 HGz24; have hcz24_1 := cellS49_1 HGz24; have hfz24_1 := blk_frozen HGz24 1; clear HGz24 hgz24; have hnb25 := NB293_0.out; have hnc25 := NB0_293.out; have hcz26_0 : w21.cell? ⟨gb293, 0, none⟩ = some (.int .i64 0) := (blk_cell BK293.out 0).trans rfl; have hcz26_1 : w21.cell? ⟨gb293, 1, none⟩ = some (.int .i64 0) := (blk_cell BK293.out 1).trans rfl; have hcz26_2 : w21.cell? ⟨gb293, 2, none⟩ = some (.slice none 0 0) := (blk_cell BK293.out 2).trans rfl; have hcz26_3 : w21.cell? ⟨gb293, 3, none⟩ = some (.slice none 0 0) := (blk_cell BK293.out 3).trans rfl; have hfz26_0 := blk_frozen BK293.out 0; have hfz26_1 := blk_frozen BK293.out 1; have hfz26_2 := blk_frozen BK293.out 2; have hfz26_3 := blk_frozen BK293.out 3))
            repeat (go_quiet (first | (go_at_call 24; (with_reducible refine (IHO kj5 (by have := HJ5.out; omega) g s0_0 (wrap64 (t297 + 1)) t300 t303 w0 _ ?side1 ?side2 A17.out).mono ?_); (case side1 => repeat (first | (with_reducible first | exact HI0.out | apply IsS49.alloc | apply IsS49.drewN | apply IsS49.drew | apply IsS49.set_1 | (apply IsS49.far; (case hne => exact NB0_293.out)) | (apply IsS49.far; (case hne => exact NB0_298.out))) | exact HI0.out)); (case side2 => repeat (first | (with_reducible first | exact HB.out | apply below_alloc | apply pw_below_drewN | apply below_drew1 | refine below_set ?_ (IsS49.ge HI0.out) | refine below_set ?_ GE293.out | refine below_set ?_ GE298.out) | exact HB.out)); rintro e w21 ⟨v301, rfl, ho0, hi, hb, hk⟩; have n0_ := Aside0.mk (TN.R_keepN (TN.R_told (TN.R_oldK (IsS49.apartT (show IsS49 w0 _ g s0_0 (wrap64 (t297 + 1)) from by repeat (first | (with_reducible first | exact HI0.out | apply IsS49.alloc | apply IsS49.drewN | apply IsS49.drew | apply IsS49.set_1 | (apply IsS49.far; (case hne => exact NB0_293.out)) | (apply IsS49.far; (case hne => exact NB0_298.out))) | exact HI0.out)) (by (with_reducible repeat (first | apply TN.R_alloc | apply TN.R_drewN | apply TN.R_drew)); exact (TN.R_mono (TN.R_far (p := ⟨gb298, 1, none⟩) (TN.R_mono HO_299002.out (fun k_ hk => (⟨hk, hk.2⟩ : _ ∧ k_ ≠ gb298))) (fun _ hk => hk.2) (.int .i64 1)) (fun _ h_ => h_.1))) (by decide)) hk) (TN.R_base ho0))); have n1_ := Aside0.mk (KeepBut.blk hk (g' := gb293) (o := .cells #[.int .i64 0, .int .i64 0, .slice none 0 0, .slice none 0 0] 53 (0, 0)) (by (with_reducible repeat (first | refine blk_drewN ?_ _ | refine blk_drew ?_ | refine blk_alloc ?_ _)); refine blk_far ?_ NB293_298.out _; (with_reducible repeat (first | refine blk_drewN ?_ _ | refine blk_drew ?_ | refine blk_alloc ?_ _)); exact BK293.out) NB293_0.out (by simp)); have n2_ := Aside0.mk (KeepBut.blk hk (g' := gb298) (o := .cells #[.int .i64 3, .int .i64 1, .slice Ao9 t294.length co9, .slice none 0 0] 53 (0, 0)) (by (with_reducible repeat (first | refine blk_drewN ?_ _ | refine blk_drew ?_ | refine blk_alloc ?_ _)); refine blk_put (cs := #[.int .i64 3, .int .i64 0, .slice Ao9 t294.length co9, .slice none 0 0]) ?_ 1 _ rfl; (with_reducible repeat (first | refine blk_drewN ?_ _ | refine blk_drew ?_ | refine blk_alloc ?_ _)); exact BK298.out) NB298_0.out (by simp)); have n3_ := Aside0.mk (TN.R_lower (TN.R_newB (TN.R_newB (TN.R_new' ho0 (TN.R_lt (by (with_reducible repeat (first | apply TN.R_alloc | apply TN.R_drewN | apply TN.R_drew)); exact (TN.R_mono (TN.R_far (p := ⟨gb298, 1, none⟩) (TN.R_mono HO_299002.out (fun k_ hk => (⟨hk, hk.2⟩ : _ ∧ k_ ≠ gb298))) (fun _ hk => hk.2) (.int .i64 1)) (fun _ h_ => h_.1))))) (g := gb293) (o := .cells #[.int .i64 0, .int .i64 0, .slice none 0 0, .slice none 0 0] 53 (0, 0)) (by (with_reducible repeat (first | refine blk_drewN ?_ _ | refine blk_drew ?_ | refine blk_alloc ?_ _)); refine blk_far ?_ NB293_298.out _; (with_reducible repeat (first | refine blk_drewN ?_ _ | refine blk_drew ?_ | refine blk_alloc ?_ _)); exact BK293.out)) (g := gb298) (o := .cells #[.int .i64 3, .int .i64 1, .slice Ao9 t294.length co9, .slice none 0 0] 53 (0, 0)) (by (with_reducible repeat (first | refine blk_drewN ?_ _ | refine blk_drew ?_ | refine blk_alloc ?_ _)); refine blk_put (cs := #[.int .i64 3, .int .i64 0, .slice Ao9 t294.length co9, .slice none 0 0]) ?_ 1 _ rfl; (with_reducible repeat (first | refine blk_drewN ?_ _ | refine blk_drew ?_ | refine blk_alloc ?_ _)); exact BK298.out)) (keep_size (w := w) (g := g) (row := none) (by repeat (first | (with_reducible first | exact HK.out | apply KeepBut.set_ | apply keep_drewN | apply keep_drew | apply keep_alloc | refine keep_far ?_ GW293.out _ | refine keep_far ?_ GW298.out _) | exact HK.out)))); have n4_ := Aside0.mk (KeepBut.trans (by repeat (first | (with_reducible first | exact HK.out | apply KeepBut.set_ | apply keep_drewN | apply keep_drew | apply keep_alloc | refine keep_far ?_ GW293.out _ | refine keep_far ?_ GW298.out _) | exact HK.out)) hk (.inl rfl)); have n5_ := Aside0.mk (hb); have n6_ := Aside0.mk (hi); clear HO_299002; clear BK293; clear BK298; clear HK; clear HB; clear HI0; have HO_299002 := n0_; have BK293 := n1_; have BK298 := n2_; have HO302 := n3_; have HK := n4_; have HB := n5_; have HI0 := n6_; clear n0_ n1_ n2_ n3_ n4_ n5_ n6_; (try clear hb); (try clear hb2); (try clear hk); (try clear hi); (try clear ho0); obtain ⟨Ao22, co22, eo22⟩ := TN.R_slice HO302.out; subst eo22; have hcz23_0 : w21.cell? ⟨gb298, 0, none⟩ = some (.int .i64 3) := (blk_cell BK298.out 0).trans rfl; have hcz23_1 : w21.cell? ⟨gb298, 1, none⟩ = some (.int .i64 1) := (blk_cell BK298.out 1).trans rfl; have hcz23_2 : w21.cell? ⟨gb298, 2, none⟩ = some (.slice Ao9 t294.length co9) := (blk_cell BK298.out 2).trans rfl; have hcz23_3 : w21.cell? ⟨gb298, 3, none⟩ = some (.slice none 0 0) := (blk_cell BK298.out 3).trans rfl; have hfz23_0 := blk_frozen BK298.out 0; have hfz23_1 := blk_frozen BK298.out 1; have hfz23_2 := blk_frozen BK298.out 2; have hfz23_3 := blk_frozen BK298.out 3; obtain ⟨ASz24_0, cSz24_0, HGz24, hgz24, HSz24_0⟩ := HI0.out; have hcz24_0 := cellS49_0 HGz24; have hcz24_1 := cellS49_1 HGz24; have hfz24_1 := blk_frozen HGz24 1; clear HGz24 hgz24; have hnb25 := NB293_0.out; have hnc25 := NB0_293.out; have hcz26_0 : w21.cell? ⟨gb293, 0, none⟩ = some (.int .i64 0) := (blk_cell BK293.out 0).trans rfl; have hcz26_1 : w21.cell? ⟨gb293, 1, none⟩ = some (.int .i64 0) := (blk_cell BK293.out 1).trans rfl; have hcz26_2 : w21.cell? ⟨gb293, 2, none⟩ = some (.slice none 0 0) := (blk_cell BK293.out 2).trans rfl; have hcz26_3 : w21.cell? ⟨gb293, 3, none⟩ = some (.slice none 0 0) := (blk_cell BK293.out 3).trans rfl; have hfz26_0 := blk_frozen BK293.out 0; have hfz26_1 := blk_frozen BK293.out 1; have hfz26_2 := blk_frozen BK293.out 2; have hfz26_3 := blk_frozen BK293.out 3)); try go_wp2_with (first | (go_at_call 24; (with_reducible refine (IHO kj5 (by have := HJ5.out; omega) g s0_0 (wrap64 (t297 + 1)) t300 t303 w0 _ ?side1 ?side2 A17.out).mono ?_); (case side1 => repeat (first | (with_reducible first | exact HI0.out | apply IsS49.alloc | apply IsS49.drewN | apply IsS49.drew | apply IsS49.set_1 | (apply IsS49.far; (case hne => exact NB0_293.out)) | (apply IsS49.far; (case hne => exact NB0_298.out))) | exact HI0.out)); (case side2 => repeat (first | (with_reducible first | exact HB.out | apply below_alloc | apply pw_below_drewN | apply below_drew1 | refine below_set ?_ (IsS49.ge HI0.out) | refine below_set ?_ GE293.out | refine below_set ?_ GE298.out) | exact HB.out)); rintro e w21 ⟨v301, rfl, ho0, hi, hb, hk⟩; have n0_ := Aside0.mk (TN.R_keepN (TN.R_told (TN.R_oldK (IsS49.apartT (show IsS49 w0 _ g s0_0 (wrap64 (t297 + 1)) from by repeat (first | (with_reducible first | exact HI0.out | apply IsS49.alloc | apply IsS49.drewN | apply IsS49.drew | apply IsS49.set_1 | (apply IsS49.far; (case hne => exact NB0_293.out)) | (apply IsS49.far; (case hne => exact NB0_298.out))) | exact HI0.out)) (by (with_reducible repeat (first | apply TN.R_alloc | apply TN.R_drewN | apply TN.R_drew)); exact (TN.R_mono (TN.R_far (p := ⟨gb298, 1, none⟩) (TN.R_mono HO_299002.out (fun k_ hk => (⟨hk, hk.2⟩ : _ ∧ k_ ≠ gb298))) (fun _ hk => hk.2) (.int .i64 1)) (fun _ h_ => h_.1))) (by decide)) hk) (TN.R_base ho0))); have n1_ := Aside0.mk (KeepBut.blk hk (g' := gb293) (o := .cells #[.int .i64 0, .int .i64 0, .slice none 0 0, .slice none 0 0] 53 (0, 0)) (by (with_reducible repeat (first | refine blk_drewN ?_ _ | refine blk_drew ?_ | refine blk_alloc ?_ _)); refine blk_far ?_ NB293_298.out _; (with_reducible repeat (first | refine blk_drewN ?_ _ | refine blk_drew ?_ | refine blk_alloc ?_ _)); exact BK293.out) NB293_0.out (by simp)); have n2_ := Aside0.mk (KeepBut.blk hk (g' := gb298) (o := .cells #[.int .i64 3, .int .i64 1, .slice Ao9 t294.length co9, .slice none 0 0] 53 (0, 0)) (by (with_reducible repeat (first | refine blk_drewN ?_ _ | refine blk_drew ?_ | refine blk_alloc ?_ _)); refine blk_put (cs := #[.int .i64 3, .int .i64 0, .slice Ao9 t294.length co9, .slice none 0 0]) ?_ 1 _ rfl; (with_reducible repeat (first | refine blk_drewN ?_ _ | refine blk_drew ?_ | refine blk_alloc ?_ _)); exact BK298.out) NB298_0.out (by simp)); have n3_ := Aside0.mk (TN.R_lower (TN.R_newB (TN.R_newB (TN.R_new' ho0 (TN.R_lt (by (with_reducible repeat (first | apply TN.R_alloc | apply TN.R_drewN | apply TN.R_drew)); exact (TN.R_mono (TN.R_far (p := ⟨gb298, 1, none⟩) (TN.R_mono HO_299002.out (fun k_ hk => (⟨hk, hk.2⟩ : _ ∧ k_ ≠ gb298))) (fun _ hk => hk.2) (.int .i64 1)) (fun _ h_ => h_.1))))) (g := gb293) (o := .cells #[.int .i64 0, .int .i64 0, .slice none 0 0, .slice none 0 0] 53 (0, 0)) (by (with_reducible repeat (first | refine blk_drewN ?_ _ | refine blk_drew ?_ | refine blk_alloc ?_ _)); refine blk_far ?_ NB293_298.out _; (with_reducible repeat (first | refine blk_drewN ?_ _ | refine blk_drew ?_ | refine blk_alloc ?_ _)); exact BK293.out)) (g := gb298) (o := .cells #[.int .i64 3, .int .i64 1, .slice Ao9 t294.length co9, .slice none 0 0] 53 (0, 0)) (by (with_reducible repeat (first | refine blk_drewN ?_ _ | refine blk_drew ?_ | refine blk_alloc ?_ _)); refine blk_put (cs := #[.int .i64 3, .int .i64 0, .slice Ao9 t294.length co9, .slice none 0 0]) ?_ 1 _ rfl; (with_reducible repeat (first | refine blk_drewN ?_ _ | refine blk_drew ?_ | refine blk_alloc ?_ _)); exact BK298.out)) (keep_size (w := w) (g := g) (row := none) (by repeat (first | (with_reducible first | exact HK.out | apply KeepBut.set_ | apply keep_drewN | apply keep_drew | apply keep_alloc | refine keep_far ?_ GW293.out _ | refine keep_far ?_ GW298.out _) | exact HK.out)))); have n4_ := Aside0.mk (KeepBut.trans (by repeat (first | (with_reducible first | exact HK.out | apply KeepBut.set_ | apply keep_drewN | apply keep_drew | apply keep_alloc | refine keep_far ?_ GW293.out _ | refine keep_far ?_ GW298.out _) | exact HK.out)) hk (.inl rfl)); have n5_ := Aside0.mk (hb); have n6_ := Aside0.mk (hi); clear HO_299002; clear BK293; clear BK298; clear HK; clear HB; clear HI0; have HO_299002 := n0_; have BK293 := n1_; have BK298 := n2_; have HO302 := n3_; have HK := n4_; have HB := n5_; have HI0 := n6_; clear n0_ n1_ n2_ n3_ n4_ n5_ n6_; (try clear hb); (try clear hb2); (try clear hk); (try clear hi); (try clear ho0); obtain ⟨Ao22, co22, eo22⟩ := TN.R_slice HO302.out; subst eo22; have hcz23_0 : w21.cell? ⟨gb298, 0, none⟩ = some (.int .i64 3) := (blk_cell BK298.out 0).trans rfl; have hcz23_1 : w21.cell? ⟨gb298, 1, none⟩ = some (.int .i64 1) := (blk_cell BK298.out 1).trans rfl; have hcz23_2 : w21.cell? ⟨gb298, 2, none⟩ = some (.slice Ao9 t294.length co9) := (blk_cell BK298.out 2).trans rfl; have hcz23_3 : w21.cell? ⟨gb298, 3, none⟩ = some (.slice none 0 0) := (blk_cell BK298.out 3).trans rfl; have hfz23_0 := blk_frozen BK298.out 0; have hfz23_1 := blk_frozen BK298.out 1; have hfz23_2 := blk_frozen BK298.out 2; have hfz23_3 := blk_frozen BK298.out 3; obtain ⟨ASz24_0, cSz24_0, HGz24, hgz24, HSz24_0⟩ := HI0.out; have hcz24_0 := cellS49_0 HGz24; have hcz24_1 := cellS49_1 HGz24; have hfz24_1 := blk_frozen HGz24 1; clear HGz24 hgz24; have hnb25 := NB293_0.out; have hnc25 := NB0_293.out; have hcz26_0 : w21.cell? ⟨gb293, 0, none⟩ = some (.int .i64 0) := (blk_cell BK293.out 0).trans rfl; have hcz26_1 : w21.cell? ⟨gb293, 1, none⟩ = some (.int .i64 0) := (blk_cell BK293.out 1).trans rfl; have hcz26_2 : w21.cell? ⟨gb293, 2, none⟩ = some (.slice none 0 0) := (blk_cell BK293.out 2).trans rfl; have hcz26_3 : w21.cell? ⟨gb293, 3, none⟩ = some (.slice none 0 0) := (blk_cell BK293.out 3).trans rfl; have hfz26_0 := blk_frozen BK293.out 0; have hfz26_1 := blk_frozen BK293.out 1; have hfz26_2 := blk_frozen BK293.out 2; have hfz26_3 := blk_frozen BK293.out 3)))
            refine bodyPost_ret (results_cell_row rfl _ _ gb293 53 #[.int .i64 3, .int .i64 1, .slice Ao9 t294.length co9, .slice Ao22 t300.length co22] (0, 0) _ rfl (by (with_reducible repeat (first | refine blk_drewN ?_ _ | refine blk_drew ?_ | refine blk_alloc ?_ _)); refine blk_put (cs := #[.int .i64 3, .int .i64 1, .slice Ao9 t294.length co9, .slice none 0 0]) ?_ 3 _ rfl; (with_reducible repeat (first | refine blk_drewN ?_ _ | refine blk_drew ?_ | refine blk_alloc ?_ _)); refine blk_put (cs := #[.int .i64 3, .int .i64 1, .slice none 0 0, .slice none 0 0]) ?_ 2 _ rfl; (with_reducible repeat (first | refine blk_drewN ?_ _ | refine blk_drew ?_ | refine blk_alloc ?_ _)); refine blk_put (cs := #[.int .i64 3, .int .i64 0, .slice none 0 0, .slice none 0 0]) ?_ 1 _ rfl; (with_reducible repeat (first | refine blk_drewN ?_ _ | refine blk_drew ?_ | refine blk_alloc ?_ _)); refine blk_put (cs := #[.int .i64 0, .int .i64 0, .slice none 0 0, .slice none 0 0]) ?_ 0 _ rfl; (with_reducible repeat (first | refine blk_drewN ?_ _ | refine blk_drew ?_ | refine blk_alloc ?_ _)); refine blk_far ?_ NB293_0.out _; (with_reducible repeat (first | refine blk_drewN ?_ _ | refine blk_drew ?_ | refine blk_alloc ?_ _)); refine blk_far ?_ NB293_298.out _; (with_reducible repeat (first | refine blk_drewN ?_ _ | refine blk_drew ?_ | refine blk_alloc ?_ _)); exact BK293.out) Try.underlying53 rfl (by kernel_rfl)) rfl ?_
            exact ⟨_, _, _, by first | rfl | (simp [errW_none, errW_some] <;> rfl) | (simp [*, errW_none, errW_some] <;> rfl), by (with_reducible repeat (first | apply TN.R_alloc | apply TN.R_drewN | apply TN.R_drew)); exact TN.R_mono (TN.R_far (p := ⟨gb293, 3, none⟩) (TN.R_far (p := ⟨gb293, 2, none⟩) (TN.R_far (p := ⟨gb293, 1, none⟩) (TN.R_far (p := ⟨gb293, 0, none⟩) (TN.R_far (p := ⟨g, 1, none⟩) (TN.R_far (p := ⟨gb298, 3, none⟩) (TN.R_mono (IsS49.apartT HI0.out (TN.R_mono HO_299002.out (fun k_ hk => (⟨hk, hk.1.2⟩ : _ ∧ k_ ≠ gb298))) (by decide)) (fun k_ hk => (⟨hk, hk.1.1.1.1⟩ : _ ∧ k_ ≠ gb293))) (fun _ hk => hk.1.1.2) (.slice Ao22 t300.length co22)) (fun _ hk => hk.1.2) (.int .i64 (wrap64 (t303 + 1)))) (fun _ hk => hk.2) (.int .i64 3)) (fun _ hk => hk.2) (.int .i64 1)) (fun _ hk => hk.2) (.slice Ao9 t294.length co9)) (fun _ hk => hk.2) (.slice Ao22 t300.length co22)) (fun _ hk => hk.1.1.1.2), by (with_reducible repeat (first | apply TN.R_alloc | apply TN.R_drewN | apply TN.R_drew)); exact TN.R_mono (TN.R_far (p := ⟨gb293, 3, none⟩) (TN.R_far (p := ⟨gb293, 2, none⟩) (TN.R_far (p := ⟨gb293, 1, none⟩) (TN.R_far (p := ⟨gb293, 0, none⟩) (TN.R_far (p := ⟨g, 1, none⟩) (TN.R_far (p := ⟨gb298, 3, none⟩) (TN.R_mono (IsS49.apartT HI0.out (TN.R_mono HO302.out (fun k_ hk => (⟨hk, hk.2⟩ : _ ∧ k_ ≠ gb298))) (by decide)) (fun k_ hk => (⟨hk, hk.1.1.1.2⟩ : _ ∧ k_ ≠ gb293))) (fun _ hk => hk.1.1.2) (.slice Ao22 t300.length co22)) (fun _ hk => hk.1.2) (.int .i64 (wrap64 (t303 + 1)))) (fun _ hk => hk.2) (.int .i64 3)) (fun _ hk => hk.2) (.int .i64 1)) (fun _ hk => hk.2) (.slice Ao9 t294.length co9)) (fun _ hk => hk.2) (.slice Ao22 t300.length co22)) (fun _ hk => hk.1.1.1.1.1.2), by repeat (first | (with_reducible first | exact HI0.out | apply IsS49.alloc | apply IsS49.drewN | apply IsS49.drew | apply IsS49.set_1 | (apply IsS49.far; (case hne => exact NB0_293.out)) | (apply IsS49.far; (case hne => exact NB0_298.out))) | exact HI0.out), by repeat (first | (with_reducible first | exact HB.out | apply below_alloc | apply pw_below_drewN | apply below_drew1 | refine below_set ?_ (IsS49.ge HI0.out) | refine below_set ?_ GE293.out | refine below_set ?_ GE298.out) | exact HB.out), by repeat (first | (with_reducible first | exact HK.out | apply KeepBut.set_ | apply keep_drewN | apply keep_drew | apply keep_alloc | refine keep_far ?_ GW293.out _ | refine keep_far ?_ GW298.out _) | exact HK.out)⟩
          · replace c16 := Bool.eq_false_iff.mpr c16
            subst c16
            have H1 : (if ((rd_T44 s0_0 t297).f0) = 8 then ((impl_grower_row.f kj5 s0_0 (wrap64 (t297 + 1))).bind fun bt304 => (some (8, 0, t294, bt304.1, wrap64 (bt304.2 + 1)))) else (if a1 = 3 then (some (3, 0, t294, ([] : List (S53)), (wrap64 (t297 + 1)))) else (some (((rd_T44 s0_0 t297).f0), 0, t294, ([] : List (S53)), (wrap64 (t297 + 1)))))) = some (r1, r2, r3, r4, r5) := by rw [if_neg (show ¬ (false = true) by decide)] at H; first | done | exact H
            clear H
            have H := H1
            clear H1
            by_cases c27 : ((rd_T44 s0_0 t297).f0) = 8
            · rw [if_pos c27] at H
              have c27b0 : (((rd_T44 s0_0 t297).f0) == 8) = true := beq_iff_eq.mpr c27
              have c27b1 : (((rd_T44 s0_0 t297).f0) != 8) = false := bne_eq_false_iff_eq.mpr c27
              clear c27
              replace H := Option.bind_eq_some_iff.mp H
              obtain ⟨⟨t304, t307⟩, A280, H⟩ := H
              replace H : (some (8, 0, t294, t304, wrap64 (t307 + 1))) = some (r1, r2, r3, r4, r5) := H
              have A28 := Aside0.mk A280
              clear A280
              simp only [Option.some.injEq, Prod.mk.injEq] at H
              obtain ⟨rfl, rfl, rfl, rfl, rfl⟩ := H
              have hnb29 := NB298_293.out
              have hnc29 := NB293_298.out
              have hnb30 := NB298_0.out
              have hnc30 := NB0_298.out
              have hcz31_0 : wc.cell? ⟨gb298, 0, none⟩ = some (.int .i64 3) := (blk_cell BK298.out 0).trans rfl
              have hcz31_1 : wc.cell? ⟨gb298, 1, none⟩ = some (.int .i64 0) := (blk_cell BK298.out 1).trans rfl
              have hcz31_2 : wc.cell? ⟨gb298, 2, none⟩ = some (.slice Ao9 t294.length co9) := (blk_cell BK298.out 2).trans rfl
              have hcz31_3 : wc.cell? ⟨gb298, 3, none⟩ = some (.slice none 0 0) := (blk_cell BK298.out 3).trans rfl
              have hfz31_0 := blk_frozen BK298.out 0
              have hfz31_1 := blk_frozen BK298.out 1
              have hfz31_2 := blk_frozen BK298.out 2
              have hfz31_3 := blk_frozen BK298.out 3
              go_wp2_with (first | (go_at_call 24; (with_reducible refine (IHO kj5 (by have := HJ5.out; omega) g s0_0 (wrap64 (t297 + 1)) t304 t307 w0 _ ?side1 ?side2 A28.out).mono ?_); (case side1 => repeat (first | (with_reducible first | exact HI0.out | apply IsS49.alloc | apply IsS49.drewN | apply IsS49.drew | apply IsS49.set_1 | (apply IsS49.far; (case hne => exact NB0_293.out)) | (apply IsS49.far; (case hne => exact NB0_298.out))) | exact HI0.out)); (case side2 => repeat (first | (with_reducible first | exact HB.out | apply below_alloc | apply pw_below_drewN | apply below_drew1 | refine below_set ?_ (IsS49.ge HI0.out) | refine below_set ?_ GE293.out | refine below_set ?_ GE298.out) | exact HB.out)); rintro e w32 ⟨v305, rfl, ho0, hi, hb, hk⟩; have n0_ := Aside0.mk (TN.R_keepN (TN.R_told (TN.R_oldK (IsS49.apartT (show IsS49 w0 _ g s0_0 (wrap64 (t297 + 1)) from by repeat (first | (with_reducible first | exact HI0.out | apply IsS49.alloc | apply IsS49.drewN | apply IsS49.drew | apply IsS49.set_1 | (apply IsS49.far; (case hne => exact NB0_293.out)) | (apply IsS49.far; (case hne => exact NB0_298.out))) | exact HI0.out)) (by (with_reducible repeat (first | apply TN.R_alloc | apply TN.R_drewN | apply TN.R_drew)); exact (TN.R_mono (TN.R_far (p := ⟨gb298, 0, none⟩) (TN.R_mono HO_299002.out (fun k_ hk => (⟨hk, hk.2⟩ : _ ∧ k_ ≠ gb298))) (fun _ hk => hk.2) (.int .i64 8)) (fun _ h_ => h_.1))) (by decide)) hk) (TN.R_base ho0))); have n1_ := Aside0.mk (KeepBut.blk hk (g' := gb293) (o := .cells #[.int .i64 0, .int .i64 0, .slice none 0 0, .slice none 0 0] 53 (0, 0)) (by (with_reducible repeat (first | refine blk_drewN ?_ _ | refine blk_drew ?_ | refine blk_alloc ?_ _)); refine blk_far ?_ NB293_298.out _; (with_reducible repeat (first | refine blk_drewN ?_ _ | refine blk_drew ?_ | refine blk_alloc ?_ _)); exact BK293.out) NB293_0.out (by simp)); have n2_ := Aside0.mk (KeepBut.blk hk (g' := gb298) (o := .cells #[.int .i64 8, .int .i64 0, .slice Ao9 t294.length co9, .slice none 0 0] 53 (0, 0)) (by (with_reducible repeat (first | refine blk_drewN ?_ _ | refine blk_drew ?_ | refine blk_alloc ?_ _)); refine blk_put (cs := #[.int .i64 3, .int .i64 0, .slice Ao9 t294.length co9, .slice none 0 0]) ?_ 0 _ rfl; (with_reducible repeat (first | refine blk_drewN ?_ _ | refine blk_drew ?_ | refine blk_alloc ?_ _)); exact BK298.out) NB298_0.out (by simp)); have n3_ := Aside0.mk (TN.R_lower (TN.R_newB (TN.R_newB (TN.R_new' ho0 (TN.R_lt (by (with_reducible repeat (first | apply TN.R_alloc | apply TN.R_drewN | apply TN.R_drew)); exact (TN.R_mono (TN.R_far (p := ⟨gb298, 0, none⟩) (TN.R_mono HO_299002.out (fun k_ hk => (⟨hk, hk.2⟩ : _ ∧ k_ ≠ gb298))) (fun _ hk => hk.2) (.int .i64 8)) (fun _ h_ => h_.1))))) (g := gb293) (o := .cells #[.int .i64 0, .int .i64 0, .slice none 0 0, .slice none 0 0] 53 (0, 0)) (by (with_reducible repeat (first | refine blk_drewN ?_ _ | refine blk_drew ?_ | refine blk_alloc ?_ _)); refine blk_far ?_ NB293_298.out _; (with_reducible repeat (first | refine blk_drewN ?_ _ | refine blk_drew ?_ | refine blk_alloc ?_ _)); exact BK293.out)) (g := gb298) (o := .cells #[.int .i64 8, .int .i64 0, .slice Ao9 t294.length co9, .slice none 0 0] 53 (0, 0)) (by (with_reducible repeat (first | refine blk_drewN ?_ _ | refine blk_drew ?_ | refine blk_alloc ?_ _)); refine blk_put (cs := #[.int .i64 3, .int .i64 0, .slice Ao9 t294.length co9, .slice none 0 0]) ?_ 0 _ rfl; (with_reducible repeat (first | refine blk_drewN ?_ _ | refine blk_drew ?_ | refine blk_alloc ?_ _)); exact BK298.out)) (keep_size (w := w) (g := g) (row := none) (by repeat (first | (with_reducible first | exact HK.out | apply KeepBut.set_ | apply keep_drewN | apply keep_drew | apply keep_alloc | refine keep_far ?_ GW293.out _ | refine keep_far ?_ GW298.out _) | exact HK.out)))); have n4_ := Aside0.mk (KeepBut.trans (by repeat (first | (with_reducible first | exact HK.out | apply KeepBut.set_ | apply keep_drewN | apply keep_drew | apply keep_alloc | refine keep_far ?_ GW293.out _ | refine keep_far ?_ GW298.out _) | exact HK.out)) hk (.inl rfl)); have n5_ := Aside0.mk (hb); have n6_ := Aside0.mk (hi); clear HO_299002; clear BK293; clear BK298; clear HK; clear HB; clear HI0; have HO_299002 := n0_; have BK293 := n1_; have BK298 := n2_; have HO306 := n3_; have HK := n4_; have HB := n5_; have HI0 := n6_; clear n0_ n1_ n2_ n3_ n4_ n5_ n6_; (try clear hb); (try clear hb2); (try clear hk); (try clear hi); (try clear ho0); obtain ⟨Ao33, co33, eo33⟩ := TN.R_slice HO306.out; subst eo33; have hcz34_0 : w32.cell? ⟨gb298, 0, none⟩ = some (.int .i64 8) := (blk_cell BK298.out 0).trans rfl; have hcz34_1 : w32.cell? ⟨gb298, 1, none⟩ = some (.int .i64 0) := (blk_cell BK298.out 1).trans rfl; have hcz34_2 : w32.cell? ⟨gb298, 2, none⟩ = some (.slice Ao9 t294.length co9) := (blk_cell BK298.out 2).trans rfl; have hcz34_3 : w32.cell? ⟨gb298, 3, none⟩ = some (.slice none 0 0) := (blk_cell BK298.out 3).trans rfl; have hfz34_0 := blk_frozen BK298.out 0; have hfz34_1 := blk_frozen BK298.out 1; have hfz34_2 := blk_frozen BK298.out 2; have hfz34_3 := blk_frozen BK298.out 3; obtain ⟨ASz35_0, cSz35_0, HGz35, hgz35, HSz35_0⟩ := HI0.out; have hcz35_0 := cellS49_0 HGz35; have hcz35_1 := cellS49_1 HGz35; have hfz35_1 := blk_frozen HGz35 1; clear HGz35 hgz35; have hnb36 := NB293_0.out; have hnc36 := NB0_293.out; have hcz37_0 : w32.cell? ⟨gb293, 0, none⟩ = some (.int .i64 0) := (blk_cell BK293.out 0).trans rfl; have hcz37_1 : w32.cell? ⟨gb293, 1, none⟩ = some (.int .i64 0) := (blk_cell BK293.out 1).trans rfl; have hcz37_2 : w32.cell? ⟨gb293, 2, none⟩ = some (.slice none 0 0) := (blk_cell BK293.out 2).trans rfl; have hcz37_3 : w32.cell? ⟨gb293, 3, none⟩ = some (.slice none 0 0) := (blk_cell BK293.out 3).trans rfl; have hfz37_0 := blk_frozen BK293.out 0; have hfz37_1 := blk_frozen BK293.out 1; have hfz37_2 := blk_frozen BK293.out 2; have hfz37_3 := blk_frozen BK293.out 3))
              repeat (go_quiet (first | (go_at_call 24; (with_reducible refine (IHO kj5 (by have := HJ5.out; omega) g s0_0 (wrap64 (t297 + 1)) t304 t307 w0 _ ?side1 ?side2 A28.out).mono ?_); (case side1 => repeat (first | (with_reducible first | exact HI0.out | apply IsS49.alloc | apply IsS49.drewN | apply IsS49.drew | apply IsS49.set_1 | (apply IsS49.far; (case hne => exact NB0_293.out)) | (apply IsS49.far; (case hne => exact NB0_298.out))) | exact HI0.out)); (case side2 => repeat (first | (with_reducible first | exact HB.out | apply below_alloc | apply pw_below_drewN | apply below_drew1 | refine below_set ?_ (IsS49.ge HI0.out) | refine below_set ?_ GE293.out | refine below_set ?_ GE298.out) | exact HB.out)); rintro e w32 ⟨v305, rfl, ho0, hi, hb, hk⟩; have n0_ := Aside0.mk (TN.R_keepN (TN.R_told (TN.R_oldK (IsS49.apartT (show IsS49 w0 _ g s0_0 (wrap64 (t297 + 1)) from by repeat (first | (with_reducible first | exact HI0.out | apply IsS49.alloc | apply IsS49.drewN | apply IsS49.drew | apply IsS49.set_1 | (apply IsS49.far; (case hne => exact NB0_293.out)) | (apply IsS49.far; (case hne => exact NB0_298.out))) | exact HI0.out)) (by (with_reducible repeat (first | apply TN.R_alloc | apply TN.R_drewN | apply TN.R_drew)); exact (TN.R_mono (TN.R_far (p := ⟨gb298, 0, none⟩) (TN.R_mono HO_299002.out (fun k_ hk => (⟨hk, hk.2⟩ : _ ∧ k_ ≠ gb298))) (fun _ hk => hk.2) (.int .i64 8)) (fun _ h_ => h_.1))) (by decide)) hk) (TN.R_base ho0))); have n1_ := Aside0.mk (KeepBut.blk hk (g' := gb293) (o := .cells #[.int .i64 0, .int .i64 0, .slice none 0 0, .slice none 0 0] 53 (0, 0)) (by (with_reducible repeat (first | refine blk_drewN ?_ _ | refine blk_drew ?_ | refine blk_alloc ?_ _)); refine blk_far ?_ NB293_298.out _; (with_reducible repeat (first | refine blk_drewN ?_ _ | refine blk_drew ?_ | refine blk_alloc ?_ _)); exact BK293.out) NB293_0.out (by simp)); have n2_ := Aside0.mk (KeepBut.blk hk (g' := gb298) (o := .cells #[.int .i64 8, .int .i64 0, .slice Ao9 t294.length co9, .slice none 0 0] 53 (0, 0)) (by (with_reducible repeat (first | refine blk_drewN ?_ _ | refine blk_drew ?_ | refine blk_alloc ?_ _)); refine blk_put (cs := #[.int .i64 3, .int .i64 0, .slice Ao9 t294.length co9, .slice none 0 0]) ?_ 0 _ rfl; (with_reducible repeat (first | refine blk_drewN ?_ _ | refine blk_drew ?_ | refine blk_alloc ?_ _)); exact BK298.out) NB298_0.out (by simp)); have n3_ := Aside0.mk (TN.R_lower (TN.R_newB (TN.R_newB (TN.R_new' ho0 (TN.R_lt (by (with_reducible repeat (first | apply TN.R_alloc | apply TN.R_drewN | apply TN.R_drew)); exact (TN.R_mono (TN.R_far (p := ⟨gb298, 0, none⟩) (TN.R_mono HO_299002.out (fun k_ hk => (⟨hk, hk.2⟩ : _ ∧ k_ ≠ gb298))) (fun _ hk => hk.2) (.int .i64 8)) (fun _ h_ => h_.1))))) (g := gb293) (o := .cells #[.int .i64 0, .int .i64 0, .slice none 0 0, .slice none 0 0] 53 (0, 0)) (by (with_reducible repeat (first | refine blk_drewN ?_ _ | refine blk_drew ?_ | refine blk_alloc ?_ _)); refine blk_far ?_ NB293_298.out _; (with_reducible repeat (first | refine blk_drewN ?_ _ | refine blk_drew ?_ | refine blk_alloc ?_ _)); exact BK293.out)) (g := gb298) (o := .cells #[.int .i64 8, .int .i64 0, .slice Ao9 t294.length co9, .slice none 0 0] 53 (0, 0)) (by (with_reducible repeat (first | refine blk_drewN ?_ _ | refine blk_drew ?_ | refine blk_alloc ?_ _)); refine blk_put (cs := #[.int .i64 3, .int .i64 0, .slice Ao9 t294.length co9, .slice none 0 0]) ?_ 0 _ rfl; (with_reducible repeat (first | refine blk_drewN ?_ _ | refine blk_drew ?_ | refine blk_alloc ?_ _)); exact BK298.out)) (keep_size (w := w) (g := g) (row := none) (by repeat (first | (with_reducible first | exact HK.out | apply KeepBut.set_ | apply keep_drewN | apply keep_drew | apply keep_alloc | refine keep_far ?_ GW293.out _ | refine keep_far ?_ GW298.out _) | exact HK.out)))); have n4_ := Aside0.mk (KeepBut.trans (by repeat (first | (with_reducible first | exact HK.out | apply KeepBut.set_ | apply keep_drewN | apply keep_drew | apply keep_alloc | refine keep_far ?_ GW293.out _ | refine keep_far ?_ GW298.out _) | exact HK.out)) hk (.inl rfl)); have n5_ := Aside0.mk (hb); have n6_ := Aside0.mk (hi); clear HO_299002; clear BK293; clear BK298; clear HK; clear HB; clear HI0; have HO_299002 := n0_; have BK293 := n1_; have BK298 := n2_; have HO306 := n3_; have HK := n4_; have HB := n5_; have HI0 := n6_; clear n0_ n1_ n2_ n3_ n4_ n5_ n6_; (try clear hb); (try clear hb2); (try clear hk); (try clear hi); (try clear ho0); obtain ⟨Ao33, co33, eo33⟩ := TN.R_slice HO306.out; subst eo33; have hcz34_0 : w32.cell? ⟨gb298, 0, none⟩ = some (.int .i64 8) := (blk_cell BK298.out 0).trans rfl; have hcz34_1 : w32.cell? ⟨gb298, 1, none⟩ = some (.int .i64 0) := (blk_cell BK298.out 1).trans rfl; have hcz34_2 : w32.cell? ⟨gb298, 2, none⟩ = some (.slice Ao9 t294.length co9) := (blk_cell BK298.out 2).trans rfl; have hcz34_3 : w32.cell? ⟨gb298, 3, none⟩ = some (.slice none 0 0) := (blk_cell BK298.out 3).trans rfl; have hfz34_0 := blk_frozen BK298.out 0; have hfz34_1 := blk_frozen BK298.out 1; have hfz34_2 := blk_frozen BK298.out 2; have hfz34_3 := blk_frozen BK298.out 3; obtain ⟨ASz35_0, cSz35_0, HGz35, hgz35, HSz35_0⟩ := HI0.out; have hcz35_0 := cellS49_0 HGz35; have hcz35_1 := cellS49_1 HGz35; have hfz35_1 := blk_frozen HGz35 1; clear HGz35 hgz35; have hnb36 := NB293_0.out; have hnc36 := NB0_293.out; have hcz37_0 : w32.cell? ⟨gb293, 0, none⟩ = some (.int .i64 0) := (blk_cell BK293.out 0).trans rfl; have hcz37_1 : w32.cell? ⟨gb293, 1, none⟩ = some (.int .i64 0) := (blk_cell BK293.out 1).trans rfl; have hcz37_2 : w32.cell? ⟨gb293, 2, none⟩ = some (.slice none 0 0) := (blk_cell BK293.out 2).trans rfl; have hcz37_3 : w32.cell? ⟨gb293, 3, none⟩ = some (.slice none 0 0) := (blk_cell BK293.out 3).trans rfl; have hfz37_0 := blk_frozen BK293.out 0; have hfz37_1 := blk_frozen BK293.out 1; have hfz37_2 := blk_frozen BK293.out 2; have hfz37_3 := blk_frozen BK293.out 3)); try go_wp2_with (first | (go_at_call 24; (with_reducible refine (IHO kj5 (by have := HJ5.out; omega) g s0_0 (wrap64 (t297 + 1)) t304 t307 w0 _ ?side1 ?side2 A28.out).mono ?_); (case side1 => repeat (first | (with_reducible first | exact HI0.out | apply IsS49.alloc | apply IsS49.drewN | apply IsS49.drew | apply IsS49.set_1 | (apply IsS49.far; (case hne => exact NB0_293.out)) | (apply IsS49.far; (case hne => exact NB0_298.out))) | exact HI0.out)); (case side2 => repeat (first | (with_reducible first | exact HB.out | apply below_alloc | apply pw_below_drewN | apply below_drew1 | refine below_set ?_ (IsS49.ge HI0.out) | refine below_set ?_ GE293.out | refine below_set ?_ GE298.out) | exact HB.out)); rintro e w32 ⟨v305, rfl, ho0, hi, hb, hk⟩; have n0_ := Aside0.mk (TN.R_keepN (TN.R_told (TN.R_oldK (IsS49.apartT (show IsS49 w0 _ g s0_0 (wrap64 (t297 + 1)) from by repeat (first | (with_reducible first | exact HI0.out | apply IsS49.alloc | apply IsS49.drewN | apply IsS49.drew | apply IsS49.set_1 | (apply IsS49.far; (case hne => exact NB0_293.out)) | (apply IsS49.far; (case hne => exact NB0_298.out))) | exact HI0.out)) (by (with_reducible repeat (first | apply TN.R_alloc | apply TN.R_drewN | apply TN.R_drew)); exact (TN.R_mono (TN.R_far (p := ⟨gb298, 0, none⟩) (TN.R_mono HO_299002.out (fun k_ hk => (⟨hk, hk.2⟩ : _ ∧ k_ ≠ gb298))) (fun _ hk => hk.2) (.int .i64 8)) (fun _ h_ => h_.1))) (by decide)) hk) (TN.R_base ho0))); have n1_ := Aside0.mk (KeepBut.blk hk (g' := gb293) (o := .cells #[.int .i64 0, .int .i64 0, .slice none 0 0, .slice none 0 0] 53 (0, 0)) (by (with_reducible repeat (first | refine blk_drewN ?_ _ | refine blk_drew ?_ | refine blk_alloc ?_ _)); refine blk_far ?_ NB293_298.out _; (with_reducible repeat (first | refine blk_drewN ?_ _ | refine blk_drew ?_ | refine blk_alloc ?_ _)); exact BK293.out) NB293_0.out (by simp)); have n2_ := Aside0.mk (KeepBut.blk hk (g' := gb298) (o := .cells #[.int .i64 8, .int .i64 0, .slice Ao9 t294.length co9, .slice none 0 0] 53 (0, 0)) (by (with_reducible repeat (first | refine blk_drewN ?_ _ | refine blk_drew ?_ | refine blk_alloc ?_ _)); refine blk_put (cs := #[.int .i64 3, .int .i64 0, .slice Ao9 t294.length co9, .slice none 0 0]) ?_ 0 _ rfl; (with_reducible repeat (first | refine blk_drewN ?_ _ | refine blk_drew ?_ | refine blk_alloc ?_ _)); exact BK298.out) NB298_0.out (by simp)); have n3_ := Aside0.mk (TN.R_lower (TN.R_newB (TN.R_newB (TN.R_new' ho0 (TN.R_lt (by (with_reducible repeat (first | apply TN.R_alloc | apply TN.R_drewN | apply TN.R_drew)); exact (TN.R_mono (TN.R_far (p := ⟨gb298, 0, none⟩) (TN.R_mono HO_299002.out (fun k_ hk => (⟨hk, hk.2⟩ : _ ∧ k_ ≠ gb298))) (fun _ hk => hk.2) (.int .i64 8)) (fun _ h_ => h_.1))))) (g := gb293) (o := .cells #[.int .i64 0, .int .i64 0, .slice none 0 0, .slice none 0 0] 53 (0, 0)) (by (with_reducible repeat (first | refine blk_drewN ?_ _ | refine blk_drew ?_ | refine blk_alloc ?_ _)); refine blk_far ?_ NB293_298.out _; (with_reducible repeat (first | refine blk_drewN ?_ _ | refine blk_drew ?_ | refine blk_alloc ?_ _)); exact BK293.out)) (g := gb298) (o := .cells #[.int .i64 8, .int .i64 0, .slice Ao9 t294.length co9, .slice none 0 0] 53 (0, 0)) (by (with_reducible repeat (first | refine blk_drewN ?_ _ | refine blk_drew ?_ | refine blk_alloc ?_ _)); refine blk_put (cs := #[.int .i64 3, .int .i64 0, .slice Ao9 t294.length co9, .slice none 0 0]) ?_ 0 _ rfl; (with_reducible repeat (first | refine blk_drewN ?_ _ | refine blk_drew ?_ | refine blk_alloc ?_ _)); exact BK298.out)) (keep_size (w := w) (g := g) (row := none) (by repeat (first | (with_reducible first | exact HK.out | apply KeepBut.set_ | apply keep_drewN | apply keep_drew | apply keep_alloc | refine keep_far ?_ GW293.out _ | refine keep_far ?_ GW298.out _) | exact HK.out)))); have n4_ := Aside0.mk (KeepBut.trans (by repeat (first | (with_reducible first | exact HK.out | apply KeepBut.set_ | apply keep_drewN | apply keep_drew | apply keep_alloc | refine keep_far ?_ GW293.out _ | refine keep_far ?_ GW298.out _) | exact HK.out)) hk (.inl rfl)); have n5_ := Aside0.mk (hb); have n6_ := Aside0.mk (hi); clear HO_299002; clear BK293; clear BK298; clear HK; clear HB; clear HI0; have HO_299002 := n0_; have BK293 := n1_; have BK298 := n2_; have HO306 := n3_; have HK := n4_; have HB := n5_; have HI0 := n6_; clear n0_ n1_ n2_ n3_ n4_ n5_ n6_; (try clear hb); (try clear hb2); (try clear hk); (try clear hi); (try clear ho0); obtain ⟨Ao33, co33, eo33⟩ := TN.R_slice HO306.out; subst eo33; have hcz34_0 : w32.cell? ⟨gb298, 0, none⟩ = some (.int .i64 8) := (blk_cell BK298.out 0).trans rfl; have hcz34_1 : w32.cell? ⟨gb298, 1, none⟩ = some (.int .i64 0) := (blk_cell BK298.out 1).trans rfl; have hcz34_2 : w32.cell? ⟨gb298, 2, none⟩ = some (.slice Ao9 t294.length co9) := (blk_cell BK298.out 2).trans rfl; have hcz34_3 : w32.cell? ⟨gb298, 3, none⟩ = some (.slice none 0 0) := (blk_cell BK298.out 3).trans rfl; have hfz34_0 := blk_frozen BK298.out 0; have hfz34_1 := blk_frozen BK298.out 1; have hfz34_2 := blk_frozen BK298.out 2; have hfz34_3 := blk_frozen BK298.out 3; obtain ⟨ASz35_0, cSz35_0, HGz35, hgz35, HSz35_0⟩ := HI0.out; have hcz35_0 := cellS49_0 HGz35; have hcz35_1 := cellS49_1 HGz35; have hfz35_1 := blk_frozen HGz35 1; clear HGz35 hgz35; have hnb36 := NB293_0.out; have hnc36 := NB0_293.out; have hcz37_0 : w32.cell? ⟨gb293, 0, none⟩ = some (.int .i64 0) := (blk_cell BK293.out 0).trans rfl; have hcz37_1 : w32.cell? ⟨gb293, 1, none⟩ = some (.int .i64 0) := (blk_cell BK293.out 1).trans rfl; have hcz37_2 : w32.cell? ⟨gb293, 2, none⟩ = some (.slice none 0 0) := (blk_cell BK293.out 2).trans rfl; have hcz37_3 : w32.cell? ⟨gb293, 3, none⟩ = some (.slice none 0 0) := (blk_cell BK293.out 3).trans rfl; have hfz37_0 := blk_frozen BK293.out 0; have hfz37_1 := blk_frozen BK293.out 1; have hfz37_2 := blk_frozen BK293.out 2; have hfz37_3 := blk_frozen BK293.out 3)))
              refine bodyPost_ret (results_cell_row rfl _ _ gb293 53 #[.int .i64 8, .int .i64 0, .slice Ao9 t294.length co9, .slice Ao33 t304.length co33] (0, 0) _ rfl (by (with_reducible repeat (first | refine blk_drewN ?_ _ | refine blk_drew ?_ | refine blk_alloc ?_ _)); refine blk_put (cs := #[.int .i64 8, .int .i64 0, .slice Ao9 t294.length co9, .slice none 0 0]) ?_ 3 _ rfl; (with_reducible repeat (first | refine blk_drewN ?_ _ | refine blk_drew ?_ | refine blk_alloc ?_ _)); refine blk_put (cs := #[.int .i64 8, .int .i64 0, .slice none 0 0, .slice none 0 0]) ?_ 2 _ rfl; (with_reducible repeat (first | refine blk_drewN ?_ _ | refine blk_drew ?_ | refine blk_alloc ?_ _)); refine blk_put (cs := #[.int .i64 8, .int .i64 0, .slice none 0 0, .slice none 0 0]) ?_ 1 _ rfl; (with_reducible repeat (first | refine blk_drewN ?_ _ | refine blk_drew ?_ | refine blk_alloc ?_ _)); refine blk_put (cs := #[.int .i64 0, .int .i64 0, .slice none 0 0, .slice none 0 0]) ?_ 0 _ rfl; (with_reducible repeat (first | refine blk_drewN ?_ _ | refine blk_drew ?_ | refine blk_alloc ?_ _)); refine blk_far ?_ NB293_0.out _; (with_reducible repeat (first | refine blk_drewN ?_ _ | refine blk_drew ?_ | refine blk_alloc ?_ _)); refine blk_far ?_ NB293_298.out _; (with_reducible repeat (first | refine blk_drewN ?_ _ | refine blk_drew ?_ | refine blk_alloc ?_ _)); exact BK293.out) Try.underlying53 rfl (by kernel_rfl)) rfl ?_
              exact ⟨_, _, _, by first | rfl | (simp [errW_none, errW_some] <;> rfl) | (simp [*, errW_none, errW_some] <;> rfl), by (with_reducible repeat (first | apply TN.R_alloc | apply TN.R_drewN | apply TN.R_drew)); exact TN.R_mono (TN.R_far (p := ⟨gb293, 3, none⟩) (TN.R_far (p := ⟨gb293, 2, none⟩) (TN.R_far (p := ⟨gb293, 1, none⟩) (TN.R_far (p := ⟨gb293, 0, none⟩) (TN.R_far (p := ⟨g, 1, none⟩) (TN.R_far (p := ⟨gb298, 3, none⟩) (TN.R_mono (IsS49.apartT HI0.out (TN.R_mono HO_299002.out (fun k_ hk => (⟨hk, hk.1.2⟩ : _ ∧ k_ ≠ gb298))) (by decide)) (fun k_ hk => (⟨hk, hk.1.1.1.1⟩ : _ ∧ k_ ≠ gb293))) (fun _ hk => hk.1.1.2) (.slice Ao33 t304.length co33)) (fun _ hk => hk.1.2) (.int .i64 (wrap64 (t307 + 1)))) (fun _ hk => hk.2) (.int .i64 8)) (fun _ hk => hk.2) (.int .i64 0)) (fun _ hk => hk.2) (.slice Ao9 t294.length co9)) (fun _ hk => hk.2) (.slice Ao33 t304.length co33)) (fun _ hk => hk.1.1.1.2), by (with_reducible repeat (first | apply TN.R_alloc | apply TN.R_drewN | apply TN.R_drew)); exact TN.R_mono (TN.R_far (p := ⟨gb293, 3, none⟩) (TN.R_far (p := ⟨gb293, 2, none⟩) (TN.R_far (p := ⟨gb293, 1, none⟩) (TN.R_far (p := ⟨gb293, 0, none⟩) (TN.R_far (p := ⟨g, 1, none⟩) (TN.R_far (p := ⟨gb298, 3, none⟩) (TN.R_mono (IsS49.apartT HI0.out (TN.R_mono HO306.out (fun k_ hk => (⟨hk, hk.2⟩ : _ ∧ k_ ≠ gb298))) (by decide)) (fun k_ hk => (⟨hk, hk.1.1.1.2⟩ : _ ∧ k_ ≠ gb293))) (fun _ hk => hk.1.1.2) (.slice Ao33 t304.length co33)) (fun _ hk => hk.1.2) (.int .i64 (wrap64 (t307 + 1)))) (fun _ hk => hk.2) (.int .i64 8)) (fun _ hk => hk.2) (.int .i64 0)) (fun _ hk => hk.2) (.slice Ao9 t294.length co9)) (fun _ hk => hk.2) (.slice Ao33 t304.length co33)) (fun _ hk => hk.1.1.1.1.1.2), by repeat (first | (with_reducible first | exact HI0.out | apply IsS49.alloc | apply IsS49.drewN | apply IsS49.drew | apply IsS49.set_1 | (apply IsS49.far; (case hne => exact NB0_293.out)) | (apply IsS49.far; (case hne => exact NB0_298.out))) | exact HI0.out), by repeat (first | (with_reducible first | exact HB.out | apply below_alloc | apply pw_below_drewN | apply below_drew1 | refine below_set ?_ (IsS49.ge HI0.out) | refine below_set ?_ GE293.out | refine below_set ?_ GE298.out) | exact HB.out), by repeat (first | (with_reducible first | exact HK.out | apply KeepBut.set_ | apply keep_drewN | apply keep_drew | apply keep_alloc | refine keep_far ?_ GW293.out _ | refine keep_far ?_ GW298.out _) | exact HK.out)⟩
            · rw [if_neg c27] at H
              have c27b0 : (((rd_T44 s0_0 t297).f0) == 8) = false := beq_eq_false_iff_ne.mpr c27
              have c27b1 : (((rd_T44 s0_0 t297).f0) != 8) = true := bne_iff_ne.mpr c27
              by_cases c38 : a1 = 3
              · rw [if_pos c38] at H
                have c38b0 : (a1 == 3) = true := beq_iff_eq.mpr c38
                have c38b1 : (a1 != 3) = false := bne_eq_false_iff_eq.mpr c38
                clear c38
                simp only [Option.some.injEq, Prod.mk.injEq] at H
                obtain ⟨rfl, rfl, rfl, rfl, rfl⟩ := H
                have hnb39 := NB298_293.out
                have hnc39 := NB293_298.out
                have hnb40 := NB298_0.out
                have hnc40 := NB0_298.out
                have hcz41_0 : wc.cell? ⟨gb298, 0, none⟩ = some (.int .i64 3) := (blk_cell BK298.out 0).trans rfl
                have hcz41_1 : wc.cell? ⟨gb298, 1, none⟩ = some (.int .i64 0) := (blk_cell BK298.out 1).trans rfl
                have hcz41_2 : wc.cell? ⟨gb298, 2, none⟩ = some (.slice Ao9 t294.length co9) := (blk_cell BK298.out 2).trans rfl
                have hcz41_3 : wc.cell? ⟨gb298, 3, none⟩ = some (.slice none 0 0) := (blk_cell BK298.out 3).trans rfl
                have hfz41_0 := blk_frozen BK298.out 0
                have hfz41_1 := blk_frozen BK298.out 1
                have hfz41_2 := blk_frozen BK298.out 2
                have hfz41_3 := blk_frozen BK298.out 3
                have hnb42 := NB293_0.out
                have hnc42 := NB0_293.out
                have hcz43_0 : wc.cell? ⟨gb293, 0, none⟩ = some (.int .i64 0) := (blk_cell BK293.out 0).trans rfl
                have hcz43_1 : wc.cell? ⟨gb293, 1, none⟩ = some (.int .i64 0) := (blk_cell BK293.out 1).trans rfl
                have hcz43_2 : wc.cell? ⟨gb293, 2, none⟩ = some (.slice none 0 0) := (blk_cell BK293.out 2).trans rfl
                have hcz43_3 : wc.cell? ⟨gb293, 3, none⟩ = some (.slice none 0 0) := (blk_cell BK293.out 3).trans rfl
                have hfz43_0 := blk_frozen BK293.out 0
                have hfz43_1 := blk_frozen BK293.out 1
                have hfz43_2 := blk_frozen BK293.out 2
                have hfz43_3 := blk_frozen BK293.out 3
                go_wp2
                repeat (go_quiet (fail); try go_wp2)
                refine bodyPost_ret (results_cell_row rfl _ _ gb293 53 #[.int .i64 3, .int .i64 0, .slice Ao9 t294.length co9, .slice none 0 0] (0, 0) _ rfl (by (with_reducible repeat (first | refine blk_drewN ?_ _ | refine blk_drew ?_ | refine blk_alloc ?_ _)); refine blk_put (cs := #[.int .i64 3, .int .i64 0, .slice Ao9 t294.length co9, .slice none 0 0]) ?_ 3 _ rfl; (with_reducible repeat (first | refine blk_drewN ?_ _ | refine blk_drew ?_ | refine blk_alloc ?_ _)); refine blk_put (cs := #[.int .i64 3, .int .i64 0, .slice none 0 0, .slice none 0 0]) ?_ 2 _ rfl; (with_reducible repeat (first | refine blk_drewN ?_ _ | refine blk_drew ?_ | refine blk_alloc ?_ _)); refine blk_put (cs := #[.int .i64 3, .int .i64 0, .slice none 0 0, .slice none 0 0]) ?_ 1 _ rfl; (with_reducible repeat (first | refine blk_drewN ?_ _ | refine blk_drew ?_ | refine blk_alloc ?_ _)); refine blk_put (cs := #[.int .i64 0, .int .i64 0, .slice none 0 0, .slice none 0 0]) ?_ 0 _ rfl; (with_reducible repeat (first | refine blk_drewN ?_ _ | refine blk_drew ?_ | refine blk_alloc ?_ _)); exact BK293.out) Try.underlying53 rfl (by kernel_rfl)) rfl ?_
                exact ⟨_, _, _, by first | rfl | (simp [errW_none, errW_some] <;> rfl) | (simp [*, errW_none, errW_some] <;> rfl), by (with_reducible repeat (first | apply TN.R_alloc | apply TN.R_drewN | apply TN.R_drew)); exact TN.R_mono (TN.R_bound (TN.R_far (p := ⟨gb293, 3, none⟩) (TN.R_far (p := ⟨gb293, 2, none⟩) (TN.R_far (p := ⟨gb293, 1, none⟩) (TN.R_far (p := ⟨gb293, 0, none⟩) (TN.R_mono HO_299002.out (fun k_ hk => (⟨hk, hk.1⟩ : _ ∧ k_ ≠ gb293))) (fun _ hk => hk.2) (.int .i64 3)) (fun _ hk => hk.2) (.int .i64 0)) (fun _ hk => hk.2) (.slice Ao9 t294.length co9)) (fun _ hk => hk.2) (.slice none 0 0))) (fun _ hk => ⟨by simp [Value.ownBlock], hk.2.2.1⟩), by exact TN.R_nil _ _ _, by repeat (first | (with_reducible first | exact HI0.out | apply IsS49.alloc | apply IsS49.drewN | apply IsS49.drew | apply IsS49.set_1 | (apply IsS49.far; (case hne => exact NB0_293.out)) | (apply IsS49.far; (case hne => exact NB0_298.out))) | exact HI0.out), by repeat (first | (with_reducible first | exact HB.out | apply below_alloc | apply pw_below_drewN | apply below_drew1 | refine below_set ?_ (IsS49.ge HI0.out) | refine below_set ?_ GE293.out | refine below_set ?_ GE298.out) | exact HB.out), by repeat (first | (with_reducible first | exact HK.out | apply KeepBut.set_ | apply keep_drewN | apply keep_drew | apply keep_alloc | refine keep_far ?_ GW293.out _ | refine keep_far ?_ GW298.out _) | exact HK.out)⟩
              · rw [if_neg c38] at H
                have c38b0 : (a1 == 3) = false := beq_eq_false_iff_ne.mpr c38
                have c38b1 : (a1 != 3) = true := bne_iff_ne.mpr c38
                simp only [Option.some.injEq, Prod.mk.injEq] at H
                obtain ⟨rfl, rfl, rfl, rfl, rfl⟩ := H
                have hnb44 := NB298_293.out
                have hnc44 := NB293_298.out
                have hnb45 := NB298_0.out
                have hnc45 := NB0_298.out
                have hcz46_0 : wc.cell? ⟨gb298, 0, none⟩ = some (.int .i64 3) := (blk_cell BK298.out 0).trans rfl
                have hcz46_1 : wc.cell? ⟨gb298, 1, none⟩ = some (.int .i64 0) := (blk_cell BK298.out 1).trans rfl
                have hcz46_2 : wc.cell? ⟨gb298, 2, none⟩ = some (.slice Ao9 t294.length co9) := (blk_cell BK298.out 2).trans rfl
                have hcz46_3 : wc.cell? ⟨gb298, 3, none⟩ = some (.slice none 0 0) := (blk_cell BK298.out 3).trans rfl
                have hfz46_0 := blk_frozen BK298.out 0
                have hfz46_1 := blk_frozen BK298.out 1
                have hfz46_2 := blk_frozen BK298.out 2
                have hfz46_3 := blk_frozen BK298.out 3
                have hnb47 := NB293_0.out
                have hnc47 := NB0_293.out
                have hcz48_0 : wc.cell? ⟨gb293, 0, none⟩ = some (.int .i64 0) := (blk_cell BK293.out 0).trans rfl
                have hcz48_1 : wc.cell? ⟨gb293, 1, none⟩ = some (.int .i64 0) := (blk_cell BK293.out 1).trans rfl
                have hcz48_2 : wc.cell? ⟨gb293, 2, none⟩ = some (.slice none 0 0) := (blk_cell BK293.out 2).trans rfl
                have hcz48_3 : wc.cell? ⟨gb293, 3, none⟩ = some (.slice none 0 0) := (blk_cell BK293.out 3).trans rfl
                have hfz48_0 := blk_frozen BK293.out 0
                have hfz48_1 := blk_frozen BK293.out 1
                have hfz48_2 := blk_frozen BK293.out 2
                have hfz48_3 := blk_frozen BK293.out 3
                go_wp2
                repeat (go_quiet (fail); try go_wp2)
                refine bodyPost_ret (results_cell_row rfl _ _ gb293 53 #[.int .i64 ((rd_T44 s0_0 t297).f0), .int .i64 0, .slice Ao9 t294.length co9, .slice none 0 0] (0, 0) _ rfl (by (with_reducible repeat (first | refine blk_drewN ?_ _ | refine blk_drew ?_ | refine blk_alloc ?_ _)); refine blk_put (cs := #[.int .i64 ((rd_T44 s0_0 t297).f0), .int .i64 0, .slice Ao9 t294.length co9, .slice none 0 0]) ?_ 3 _ rfl; (with_reducible repeat (first | refine blk_drewN ?_ _ | refine blk_drew ?_ | refine blk_alloc ?_ _)); refine blk_put (cs := #[.int .i64 ((rd_T44 s0_0 t297).f0), .int .i64 0, .slice none 0 0, .slice none 0 0]) ?_ 2 _ rfl; (with_reducible repeat (first | refine blk_drewN ?_ _ | refine blk_drew ?_ | refine blk_alloc ?_ _)); refine blk_put (cs := #[.int .i64 ((rd_T44 s0_0 t297).f0), .int .i64 0, .slice none 0 0, .slice none 0 0]) ?_ 1 _ rfl; (with_reducible repeat (first | refine blk_drewN ?_ _ | refine blk_drew ?_ | refine blk_alloc ?_ _)); refine blk_put (cs := #[.int .i64 0, .int .i64 0, .slice none 0 0, .slice none 0 0]) ?_ 0 _ rfl; (with_reducible repeat (first | refine blk_drewN ?_ _ | refine blk_drew ?_ | refine blk_alloc ?_ _)); refine blk_far ?_ NB293_298.out _; (with_reducible repeat (first | refine blk_drewN ?_ _ | refine blk_drew ?_ | refine blk_alloc ?_ _)); exact BK293.out) Try.underlying53 rfl (by kernel_rfl)) rfl ?_
                exact ⟨_, _, _, by first | rfl | (simp [errW_none, errW_some] <;> rfl) | (simp [*, errW_none, errW_some] <;> rfl), by (with_reducible repeat (first | apply TN.R_alloc | apply TN.R_drewN | apply TN.R_drew)); exact TN.R_mono (TN.R_bound (TN.R_far (p := ⟨gb293, 3, none⟩) (TN.R_far (p := ⟨gb293, 2, none⟩) (TN.R_far (p := ⟨gb293, 1, none⟩) (TN.R_far (p := ⟨gb293, 0, none⟩) (TN.R_far (p := ⟨gb298, 0, none⟩) (TN.R_mono (TN.R_mono HO_299002.out (fun k_ hk => (⟨hk, hk.2⟩ : _ ∧ k_ ≠ gb298))) (fun k_ hk => (⟨hk, hk.1.1⟩ : _ ∧ k_ ≠ gb293))) (fun _ hk => hk.1.2) (.int .i64 ((rd_T44 s0_0 t297).f0))) (fun _ hk => hk.2) (.int .i64 ((rd_T44 s0_0 t297).f0))) (fun _ hk => hk.2) (.int .i64 0)) (fun _ hk => hk.2) (.slice Ao9 t294.length co9)) (fun _ hk => hk.2) (.slice none 0 0))) (fun _ hk => ⟨by simp [Value.ownBlock], hk.2.2.1⟩), by exact TN.R_nil _ _ _, by repeat (first | (with_reducible first | exact HI0.out | apply IsS49.alloc | apply IsS49.drewN | apply IsS49.drew | apply IsS49.set_1 | (apply IsS49.far; (case hne => exact NB0_293.out)) | (apply IsS49.far; (case hne => exact NB0_298.out))) | exact HI0.out), by repeat (first | (with_reducible first | exact HB.out | apply below_alloc | apply pw_below_drewN | apply below_drew1 | refine below_set ?_ (IsS49.ge HI0.out) | refine below_set ?_ GE293.out | refine below_set ?_ GE298.out) | exact HB.out), by repeat (first | (with_reducible first | exact HK.out | apply KeepBut.set_ | apply keep_drewN | apply keep_drew | apply keep_alloc | refine keep_far ?_ GW293.out _ | refine keep_far ?_ GW298.out _) | exact HK.out)⟩
    · rw [if_neg c5] at H
      exact absurd H (by simp)
  · rw [if_neg c4] at H
    exact absurd H (by simp)
set_option maxHeartbeats 8000000 in
set_option maxRecDepth 100000 in
theorem impl_grower_row.calls_ (k : Nat) (IHO : ∀ m, m < k → ∀ (g : Nat) (s0_0 : List (S44)) (s0_1 : Int) (a1 : Int) (r1 : Int) (r2 : Int) (r3 : List (S53)) (r4 : List (S53)) (r5 : Int) (w0 w : World) (hI : IsS49 w0 w g s0_0 s0_1) (hB : Below w0.heap.size w0 w) (h : impl_grower_structure.f m s0_0 s0_1 a1 = some (r1, r2, r3, r4, r5)),
    Calls Try.prog 38 #[.pointer (some ⟨g, 0, none⟩), .int .i64 a1] w fun e w' => ∃ (v2_ v3_ : Value) (m_ : Nat), e = .returned (.agg #[.int .i64 r1, .int .i64 r2, v2_, v3_]) ∧ TN w' w.heap.size (fun k_ => some k_ ≠ (v3_ : Value).ownBlock ∧ k_ < m_) v2_ r3 ∧ TN w' w.heap.size (fun k_ => some k_ ≠ (v2_ : Value).ownBlock ∧ m_ ≤ k_) v3_ r4 ∧ IsS49 w0 w' g s0_0 r5 ∧ Below w0.heap.size w0 w' ∧ KeepBut w w' g none) (ih : ∀ m, m < k → ∀ (g : Nat) (s0_0 : List (S44)) (s0_1 : Int) (r1 : List (S53)) (r2 : Int) (w0 w : World) (hI : IsS49 w0 w g s0_0 s0_1) (hB : Below w0.heap.size w0 w) (h : impl_grower_row.f m s0_0 s0_1 = some (r1, r2)),
    Calls Try.prog 24 #[.pointer (some ⟨g, 0, none⟩)] w fun e w' => ∃ v0_ : Value, e = .returned (v0_) ∧ TN w' w.heap.size (fun _ => True) v0_ r1 ∧ IsS49 w0 w' g s0_0 r2 ∧ Below w0.heap.size w0 w' ∧ KeepBut w w' g none) : ∀ (g : Nat) (s0_0 : List (S44)) (s0_1 : Int) (r1 : List (S53)) (r2 : Int) (w0 w : World) (hI : IsS49 w0 w g s0_0 s0_1) (hB : Below w0.heap.size w0 w) (h : impl_grower_row.f k s0_0 s0_1 = some (r1, r2)),
    Calls Try.prog 24 #[.pointer (some ⟨g, 0, none⟩)] w fun e w' => ∃ v0_ : Value, e = .returned (v0_) ∧ TN w' w.heap.size (fun _ => True) v0_ r1 ∧ IsS49 w0 w' g s0_0 r2 ∧ Below w0.heap.size w0 w' ∧ KeepBut w w' g none := by
  intro g s0_0 s0_1 r1 r2 w0 w hI hB h
  cases k with
  | zero => exact absurd h (by simp [impl_grower_row.f])
  | succ k =>
  simp only [impl_grower_row.f] at h
  have hu44 := Try.underlying44
  have hu53 := Try.underlying53
  have HI0 := Aside0.mk hI
  have HK := Aside0.mk (KeepBut.refl w g none)
  have HL := Aside0.mk hB.size
  clear hI
  have HW0 := Aside0.mk hB.size
  have HB := Aside0.mk hB
  clear hB
  have H : (impl_grower_row.l0 k (([] : List (S53))) s0_0 s0_1) = some (r1, r2) := h
  clear h
  obtain ⟨y308, hy308⟩ : ∃ y_ : List (S53), y_ = (([] : List (S53))) := ⟨_, rfl⟩
  replace H : (impl_grower_row.l0 k y308 s0_0 s0_1) = some (r1, r2) := by first | (rw [hy308]; with_reducible exact H) | (have H2_ := (Option.bind_some _ _).symm.trans H; rw [hy308]; with_reducible exact H2_) | (have H2_ := (Option.bind_some _ _).symm.trans H; with_reducible exact H2_) | with_reducible exact H | (rw [hy308]; exact H) | exact H
  have Ny308 := Aside0.mk hy308
  clear hy308
  have H' := Aside0.mk H
  clear H
  go_enter Try.func24, Try.ntmps24
  go_wp2_with (first | ((with_reducible refine gate_dst (N := 5) rfl ?_); refine Kd.R_lit (Kd.raw 4) _ 53 ?hg (N := 5) ?hd (xs := ([] : List (List Value))) (inner := []) (ok := fun _ => True) (okp := fun _ => True) ?hr ?hp (fun _ hk => hk) trivial (Below.refl _ _) (Nat.le_refl _) (by simp) ?_; (case hd => rfl); (case hg => rfl); (case hr => first | (go_simp; done) | (go_simp; rfl)); (case hp => exact (Reps.none _ _)); intro v309 w2 ho3 hb hg_ hnew_; clear hg_ hnew_; replace ho3 := TN.of_empty ho3; (first | rw [← Ny308.out] at ho3 | (simp only [Int.reduceToNat] at ho3; rw [← Ny308.out] at ho3)); have n0_ := Aside0.mk (TN.R_lower ho3 (keep_size (w := w) (g := g) (row := none) (by repeat (first | (with_reducible first | exact HK.out | apply KeepBut.set_ | apply keep_drewN | apply keep_drew | apply keep_alloc) | exact HK.out)))); have n1_ := Aside0.mk (IsS49.below (by repeat (first | (with_reducible first | exact HI0.out | apply IsS49.alloc | apply IsS49.drewN | apply IsS49.drew | apply IsS49.set_1) | exact HI0.out)) hb); have n2_ := Aside0.mk (KeepBut.trans (by repeat (first | (with_reducible first | exact HK.out | apply KeepBut.set_ | apply keep_drewN | apply keep_drew | apply keep_alloc) | exact HK.out)) (KeepBut.of_below hb g none) (.inl rfl)); have n3_ := Aside0.mk (below_step (by repeat (first | (with_reducible first | exact HB.out | apply below_alloc | apply pw_below_drewN | apply below_drew1 | refine below_set ?_ (IsS49.ge HI0.out)) | exact HB.out)) hb); clear HI0; clear HK; clear HB; have HO310 := n0_; have HI0 := n1_; have HK := n2_; have HB := n3_; clear n0_ n1_ n2_ n3_; clear hb ho3))
  go_loopg [3] k (fun kq v3 w' => ∃ (x3_1 : List (S53)) (x1001_1 : Int), Aside0 (impl_grower_row.l0 kq x3_1 s0_0 x1001_1 = some (r1, r2)) ∧ Aside0 (kq ≤ k) ∧ Aside0 (TN w' w.heap.size (fun _ => True) v3 x3_1) ∧ Aside0 (IsS49 w0 w' g s0_0 x1001_1) ∧ Aside0 (KeepBut w w' g none) ∧ Aside0 (Below w0.heap.size w0 w'))
  case atStart => exact ⟨(y308), (s0_1), H', ⟨Nat.le_refl _⟩, ⟨by (with_reducible repeat (first | apply TN.R_alloc | apply TN.R_drewN | apply TN.R_drew)); exact HO310.out⟩, ⟨by repeat (first | (with_reducible first | exact HI0.out | apply IsS49.alloc | apply IsS49.drewN | apply IsS49.drew | apply IsS49.set_1) | exact HI0.out)⟩, ⟨by repeat (first | (with_reducible first | exact HK.out | apply KeepBut.set_ | apply keep_drewN | apply keep_drew | apply keep_alloc) | exact HK.out)⟩, ⟨by repeat (first | (with_reducible first | exact HB.out | apply below_alloc | apply pw_below_drewN | apply below_drew1 | refine below_set ?_ (IsS49.ge HI0.out)) | exact HB.out)⟩⟩
  case round =>
    clear H'
    try clear c2
    try clear p2
    obtain ⟨x3_1, x1001_1, HA, HK1, HO_3, HI0, HK, HB⟩ := hrel
    cases gk with
    | zero => exact absurd HA.out (by simp [impl_grower_row.l0])
    | succ k1 =>
      have H := HA.out
      clear HA
      simp only [impl_grower_row.l0] at H
      by_cases c4 : x1001_1 < (s0_0.length : Int)
      · rw [if_pos c4] at H
        have c4b0 : decide (x1001_1 < (s0_0.length : Int)) = true := decide_eq_true c4
        clear c4
        by_cases c5 : 0 ≤ x1001_1
        · rw [if_pos c5] at H
          have c5b0 : decide (0 ≤ x1001_1) = true := decide_eq_true c5
          clear c5
          have HC6 := Aside0.mk H
          clear H
          try go_wp2
          replace HO_3 := Aside0.mk (TN.R_drew HO_3.out)
          replace HI0 := Aside0.mk (IsS49.drew HI0.out)
          replace HK := Aside0.mk (keep_drew HK.out)
          replace HB := Aside0.mk (below_drew1 HB.out)
          obtain ⟨ASz8_0, cSz8_0, HGz8, hgz8, HSz8_0⟩ := HI0.out
          have hcz8_0 := cellS49_0 HGz8
          have hcz8_1 := cellS49_1 HGz8
          have hfz8_1 := blk_frozen HGz8 1
          clear HGz8 hgz8
          refine start_ (n := 10) (S := fun w' => w'.cell? ⟨g, 0, none⟩ = some (.slice ASz8_0 s0_0.length cSz8_0) ∧ w'.cell? ⟨g, 1, none⟩ = some (.int .i64 x1001_1)) (ds := []) #[false, false, false, false, false, false, false, false, false, false] (by kernel_rfl) rfl rfl ⟨hcz8_0, hcz8_1⟩ (fun hHeld => ?_); refine with_tabW impl_grower_row.tab2 impl_grower_row.bits2 (fun HT_ HW_ => ?_)
          generalize wr.drew = w7 at HO_3 HI0 HK HB hfz8_1 hHeld ⊢
          refine pure_ (i := 0) (N := some 6) (v := ?_) (a' := ?_) #[true, false, false, false, false, false, false, false, false, false] rfl rfl (any_of HT_.out (by kernel_rfl)) (fun _ _ _ h => h) (Or.inl ⟨by rfl, ?_⟩) ?_ ?_
          rotate_left
          · intro w'
            go_simp
            with_reducible rfl
          rotate_left
          · simp only [Act.put, List.setIfInBounds_toArray, List.set_cons_zero, List.set_cons_succ, i64_w, i32_w]
            rfl
          refine pure_ (i := 1) (N := some 7) (v := ?_) (a' := ?_) #[true, true, false, false, false, false, false, false, false, false] rfl rfl (any_of HT_.out (by kernel_rfl)) (fun _ _ _ h => h) (Or.inl ⟨by rfl, ?_⟩) ?_ ?_
          rotate_left
          · intro w'
            go_simp
            with_reducible rfl
          rotate_left
          · simp only [Act.put, List.setIfInBounds_toArray, List.set_cons_zero, List.set_cons_succ, i64_w, i32_w]
            rfl
          refine pure_ (i := 2) (N := some 8) (v := ?_) (a' := ?_) #[true, true, true, false, false, false, false, false, false, false] rfl rfl (any_of HT_.out (by kernel_rfl)) (fun _ _ _ h => h) (Or.inl ⟨by rfl, ?_⟩) ?_ ?_
          rotate_left
          · intro w'
            go_simp
            with_reducible rfl
          rotate_left
          · simp only [Act.put, List.setIfInBounds_toArray, List.set_cons_zero, List.set_cons_succ, i64_w, i32_w]
            rfl
          refine pure_ (i := 4) (N := some 10) (v := ?_) (a' := ?_) #[true, true, true, false, true, false, false, false, false, false] rfl rfl (any_of HT_.out (by kernel_rfl)) (fun _ _ _ h => h) (Or.inl ⟨by rfl, ?_⟩) ?_ ?_
          rotate_left
          · intro w'
            go_simp
            with_reducible rfl
          rotate_left
          · simp only [Act.put, List.setIfInBounds_toArray, List.set_cons_zero, List.set_cons_succ, i64_w, i32_w]
            rfl
          refine pure_ (i := 5) (N := some 11) (v := ?_) (a' := ?_) #[true, true, true, false, true, true, false, false, false, false] rfl rfl (any_of HT_.out (by kernel_rfl)) (fun _ _ _ h => h) (Or.inl ⟨by rfl, ?_⟩) ?_ ?_
          rotate_left
          · intro w'
            go_simp
            with_reducible rfl
          rotate_left
          · simp only [Act.put, List.setIfInBounds_toArray, List.set_cons_zero, List.set_cons_succ, i64_w, i32_w]
            rfl
          refine pure_ (i := 6) (N := some 12) (v := ?_) (a' := ?_) #[true, true, true, false, true, true, true, false, false, false] rfl rfl (any_of HT_.out (by kernel_rfl)) (fun _ _ _ h => h) (Or.inl ⟨by rfl, ?_⟩) ?_ ?_
          rotate_left
          · intro w'
            go_simp
            with_reducible rfl
          rotate_left
          · simp only [Act.put, List.setIfInBounds_toArray, List.set_cons_zero, List.set_cons_succ, i64_w, i32_w]
            rfl
          refine take_ (i := 3) (N := some 9) (v := ?_) (a' := ?_) #[true, true, true, true, true, true, true, false, false, false] rfl rfl (take_ofW HT_.out HW_.out (by kernel_rfl)) (fun _ _ _ h => h) (Or.inl ⟨by rfl, ?_⟩) hHeld ?_ ?_
          rotate_left
          · rintro w' ⟨s0, s1⟩
            go_simp
            with_reducible rfl
          rotate_left
          · simp only [Act.put, List.setIfInBounds_toArray, List.set_cons_zero, List.set_cons_succ, i64_w, i32_w]
            rfl
          refine take_ (i := 7) (N := some 13) (v := ?_) (a' := ?_) #[true, true, true, true, true, true, true, true, false, false] rfl rfl (take_ofW HT_.out HW_.out (by kernel_rfl)) (fun _ _ _ h => h) (Or.inl ⟨by rfl, ?_⟩) hHeld ?_ ?_
          rotate_left
          · rintro w' ⟨s0, s1⟩
            go_simp
            with_reducible rfl
          rotate_left
          · simp only [Act.put, List.setIfInBounds_toArray, List.set_cons_zero, List.set_cons_succ, i64_w, i32_w]
            rfl
          refine pure_ (i := 8) (N := some 14) (v := ?_) (a' := ?_) #[true, true, true, true, true, true, true, true, true, false] rfl rfl (any_of HT_.out (by kernel_rfl)) (fun _ _ _ h => h) (Or.inl ⟨by rfl, ?_⟩) ?_ ?_
          rotate_left
          · intro w'
            go_simp
            with_reducible rfl
          rotate_left
          · simp only [Act.put, List.setIfInBounds_toArray, List.set_cons_zero, List.set_cons_succ, i64_w, i32_w]
            rfl
          refine pure_ (i := 9) (N := some 15) (v := ?_) (a' := ?_) #[true, true, true, true, true, true, true, true, true, true] rfl rfl (any_of HT_.out (by kernel_rfl)) (fun _ _ _ h => h) (Or.inl ⟨by rfl, ?_⟩) ?_ ?_
          rotate_left
          · intro w'
            go_simp
            with_reducible rfl
          rotate_left
          · simp only [Act.put, List.setIfInBounds_toArray, List.set_cons_zero, List.set_cons_succ, i64_w, i32_w]
            rfl
          refine done_ (done_of HT_.out (by kernel_rfl)) ?_
          try go_wp2
          replace HO_3 := Aside0.mk (TN.R_drew HO_3.out)
          replace HI0 := Aside0.mk (IsS49.drew HI0.out)
          replace HK := Aside0.mk (keep_drew HK.out)
          replace HB := Aside0.mk (below_drew1 HB.out)
          obtain ⟨ASz10_0, cSz10_0, HGz10, hgz10, HSz10_0⟩ := HI0.out
          have hcz10_0 := cellS49_0 HGz10
          have hcz10_1 := cellS49_1 HGz10
          have hfz10_1 := blk_frozen HGz10 1
          clear HGz10 hgz10
          have p311 : 0 ≤ (x1001_1 : Int) := of_decide_eq_true (by first | (with_reducible assumption) | assumption)
          have q311 : x1001_1 < (s0_0.length : Int) := of_decide_eq_true (by first | (with_reducible assumption) | assumption)
          obtain ⟨ad311, e311, hx311_0, hx311_1⟩ := at_T44 HSz10_0 x1001_1 p311 q311
          have hw311_1 := hx311_1
          have hw311_0 := hx311_0
          cases e311
          replace hx311_0 := pw_cell_below HB.out hx311_0
          replace hx311_1 := pw_cell_below HB.out hx311_1
          replace p311 := eq_true p311
          replace q311 := eq_true q311
          refine start_ (n := 12) (S := fun w' => w'.cell? ⟨g, 0, none⟩ = some (.slice (some ad311) s0_0.length cSz10_0) ∧ w'.cell? ⟨g, 1, none⟩ = some (.int .i64 x1001_1) ∧ w'.cell? (ad311.add ((x1001_1).toNat * 2)) = some (.int .i64 ((rd_T44 s0_0 x1001_1).f0)) ∧ w'.cell? ⟨(ad311.add ((x1001_1).toNat * 2)).block, (ad311.add ((x1001_1).toNat * 2)).off + 1, none⟩ = some (.int .i64 ((rd_T44 s0_0 x1001_1).f1))) (ds := []) #[false, false, false, false, false, false, false, false, false, false, false, false] (by kernel_rfl) rfl rfl ⟨hcz10_0, hcz10_1, ((HB.out.cell (World.block_lt_of_cell? w0 _ hw311_0)).trans hw311_0), ((HB.out.cell (World.block_lt_of_cell? w0 _ hw311_1)).trans hw311_1)⟩ (fun hHeld => ?_); refine with_tabW impl_grower_row.tab3 impl_grower_row.bits3 (fun HT_ HW_ => ?_)
          generalize w7.drew = w9 at hcz10_0 hcz10_1 HO_3 HI0 HK HB hfz10_1 hx311_0 hx311_1 hHeld ⊢
          refine pure_ (i := 0) (N := some 16) (v := ?_) (a' := ?_) #[true, false, false, false, false, false, false, false, false, false, false, false] rfl rfl (any_of HT_.out (by kernel_rfl)) (fun _ _ _ h => h) (Or.inl ⟨by rfl, ?_⟩) ?_ ?_
          rotate_left
          · intro w'
            go_simp
            with_reducible rfl
          rotate_left
          · simp only [Act.put, List.setIfInBounds_toArray, List.set_cons_zero, List.set_cons_succ, i64_w, i32_w]
            rfl
          refine pure_ (i := 1) (N := some 17) (v := ?_) (a' := ?_) #[true, true, false, false, false, false, false, false, false, false, false, false] rfl rfl (any_of HT_.out (by kernel_rfl)) (fun _ _ _ h => h) (Or.inl ⟨by rfl, ?_⟩) ?_ ?_
          rotate_left
          · intro w'
            go_simp
            with_reducible rfl
          rotate_left
          · simp only [Act.put, List.setIfInBounds_toArray, List.set_cons_zero, List.set_cons_succ, i64_w, i32_w]
            rfl
          refine pure_ (i := 2) (N := some 18) (v := ?_) (a' := ?_) #[true, true, true, false, false, false, false, false, false, false, false, false] rfl rfl (any_of HT_.out (by kernel_rfl)) (fun _ _ _ h => h) (Or.inl ⟨by rfl, ?_⟩) ?_ ?_
          rotate_left
          · intro w'
            go_simp
            with_reducible rfl
          rotate_left
          · simp only [Act.put, List.setIfInBounds_toArray, List.set_cons_zero, List.set_cons_succ, i64_w, i32_w]
            rfl
          refine pure_ (i := 4) (N := some 20) (v := ?_) (a' := ?_) #[true, true, true, false, true, false, false, false, false, false, false, false] rfl rfl (any_of HT_.out (by kernel_rfl)) (fun _ _ _ h => h) (Or.inl ⟨by rfl, ?_⟩) ?_ ?_
          rotate_left
          · intro w'
            go_simp
            with_reducible rfl
          rotate_left
          · simp only [Act.put, List.setIfInBounds_toArray, List.set_cons_zero, List.set_cons_succ, i64_w, i32_w]
            rfl
          refine pure_ (i := 5) (N := some 21) (v := ?_) (a' := ?_) #[true, true, true, false, true, true, false, false, false, false, false, false] rfl rfl (any_of HT_.out (by kernel_rfl)) (fun _ _ _ h => h) (Or.inl ⟨by rfl, ?_⟩) ?_ ?_
          rotate_left
          · intro w'
            go_simp
            with_reducible rfl
          rotate_left
          · simp only [Act.put, List.setIfInBounds_toArray, List.set_cons_zero, List.set_cons_succ, i64_w, i32_w]
            rfl
          refine pure_ (i := 6) (N := some 22) (v := ?_) (a' := ?_) #[true, true, true, false, true, true, true, false, false, false, false, false] rfl rfl (any_of HT_.out (by kernel_rfl)) (fun _ _ _ h => h) (Or.inl ⟨by rfl, ?_⟩) ?_ ?_
          rotate_left
          · intro w'
            go_simp
            with_reducible rfl
          rotate_left
          · simp only [Act.put, List.setIfInBounds_toArray, List.set_cons_zero, List.set_cons_succ, i64_w, i32_w]
            rfl
          refine take_ (i := 3) (N := some 19) (v := ?_) (a' := ?_) #[true, true, true, true, true, true, true, false, false, false, false, false] rfl rfl (take_ofW HT_.out HW_.out (by kernel_rfl)) (fun _ _ _ h => h) (Or.inl ⟨by rfl, ?_⟩) hHeld ?_ ?_
          rotate_left
          · rintro w' ⟨s0, s1, s2, s3⟩
            go_simp
            with_reducible rfl
          rotate_left
          · simp only [Act.put, List.setIfInBounds_toArray, List.set_cons_zero, List.set_cons_succ, i64_w, i32_w]
            rfl
          refine take_ (i := 7) (N := some 23) (v := ?_) (a' := ?_) #[true, true, true, true, true, true, true, true, false, false, false, false] rfl rfl (take_ofW HT_.out HW_.out (by kernel_rfl)) (fun _ _ _ h => h) (Or.inl ⟨by rfl, ?_⟩) hHeld ?_ ?_
          rotate_left
          · rintro w' ⟨s0, s1, s2, s3⟩
            go_simp
            with_reducible rfl
          rotate_left
          · simp only [Act.put, List.setIfInBounds_toArray, List.set_cons_zero, List.set_cons_succ, i64_w, i32_w]
            rfl
          refine pure_ (i := 8) (N := some 24) (v := ?_) (a' := ?_) #[true, true, true, true, true, true, true, true, true, false, false, false] rfl rfl (any_of HT_.out (by kernel_rfl)) (fun _ _ _ h => h) (Or.inl ⟨by rfl, ?_⟩) ?_ ?_
          rotate_left
          · intro w'
            go_simp
            with_reducible rfl
          rotate_left
          · simp only [Act.put, List.setIfInBounds_toArray, List.set_cons_zero, List.set_cons_succ, i64_w, i32_w]
            rfl
          refine take_ (i := 9) (N := some 25) (v := ?_) (a' := ?_) #[true, true, true, true, true, true, true, true, true, true, false, false] rfl rfl (take_ofW HT_.out HW_.out (by kernel_rfl)) (fun _ _ _ h => h) (Or.inl ⟨by rfl, ?_⟩) hHeld ?_ ?_
          rotate_left
          · rintro w' ⟨s0, s1, s2, s3⟩
            go_simp
            with_reducible rfl
          rotate_left
          · simp only [Act.put, List.setIfInBounds_toArray, List.set_cons_zero, List.set_cons_succ, i64_w, i32_w]
            rfl
          refine one_ (i := 10) (N := some 4) #[true, true, true, true, true, true, true, true, true, true, true, false] rfl rfl (one_of HT_.out (by kernel_rfl)) (by decide) (fun K hK => ?_)
          refine box_step ?hg (N := 4) ?hd (cs := #[.int .i64 0, .int .i64 0]) (t := 44) ?hr ?_; (case hd => rfl); (case hg => rfl); (case hr => first | (go_simp; done) | (go_simp; rfl))
          intro gb312 hg w11 hbox hb
          have n0_ := Aside0.mk (TN.R_below (by (with_reducible repeat (first | apply TN.R_alloc | apply TN.R_drewN | apply TN.R_drew)); exact HO_3.out) hb)
          have n1_ := Aside0.mk (IsS49.below (by repeat (first | (with_reducible first | exact HI0.out | apply IsS49.alloc | apply IsS49.drewN | apply IsS49.drew | apply IsS49.set_1) | exact HI0.out)) hb)
          have n2_ := Aside0.mk (KeepBut.trans (by repeat (first | (with_reducible first | exact HK.out | apply KeepBut.set_ | apply keep_drewN | apply keep_drew | apply keep_alloc) | exact HK.out)) (KeepBut.of_below hb g none) (.inl rfl))
          have n3_ := Aside0.mk (below_step (by repeat (first | (with_reducible first | exact HB.out | apply below_alloc | apply pw_below_drewN | apply below_drew1 | refine below_set ?_ (IsS49.ge HI0.out)) | exact HB.out)) hb)
          have n4_ := Aside0.mk (hbox)
          have n5_ := Aside0.mk ((by rw [hg]; exact (keep_size (w := w) (g := g) (row := none) (by repeat (first | (with_reducible first | exact HK.out | apply KeepBut.set_ | apply keep_drewN | apply keep_drew | apply keep_alloc) | exact HK.out))) : w.heap.size ≤ gb312))
          have n6_ := Aside0.mk ((Nat.le_trans HW0.out (by rw [hg]; exact (keep_size (w := w) (g := g) (row := none) (by repeat (first | (with_reducible first | exact HK.out | apply KeepBut.set_ | apply keep_drewN | apply keep_drew | apply keep_alloc) | exact HK.out))) : w.heap.size ≤ gb312) : w0.heap.size ≤ gb312))
          have n7_ := Aside0.mk ((by rw [hg]; exact Nat.ne_of_lt (IsS49.lt (show IsS49 w0 _ g s0_0 x1001_1 from by repeat (first | (with_reducible first | exact HI0.out | apply IsS49.alloc | apply IsS49.drewN | apply IsS49.drew | apply IsS49.set_1) | exact HI0.out))) : g ≠ gb312))
          have n8_ := Aside0.mk ((by rw [hg]; exact Nat.ne_of_gt (IsS49.lt (show IsS49 w0 _ g s0_0 x1001_1 from by repeat (first | (with_reducible first | exact HI0.out | apply IsS49.alloc | apply IsS49.drewN | apply IsS49.drew | apply IsS49.set_1) | exact HI0.out))) : gb312 ≠ g))
          clear HO_3
          clear HI0
          clear HK
          clear HB
          have HO_3 := n0_
          have HI0 := n1_
          have HK := n2_
          have HB := n3_
          have BK312 := n4_
          have GW312 := n5_
          have GE312 := n6_
          have NB0_312 := n7_
          have NB312_0 := n8_
          clear n0_ n1_ n2_ n3_ n4_ n5_ n6_ n7_ n8_
          replace hcz10_0 := pw_cell_below hb hcz10_0; replace hcz10_1 := pw_cell_below hb hcz10_1; clear hb hbox hg
          refine hK.out _ _ ⟨hcz10_0, hcz10_1, ((HB.out.cell (World.block_lt_of_cell? w0 _ hw311_0)).trans hw311_0), ((HB.out.cell (World.block_lt_of_cell? w0 _ hw311_1)).trans hw311_1)⟩ (fun hHeld => ?_)
          clear hK K
          refine norm_ (a' := ?_) ?_ ?_
          rotate_left
          · show Act.put _ (some 4) _ = _
            simp only [Act.put, List.setIfInBounds_toArray, List.set_cons_zero, List.set_cons_succ, i64_w, i32_w]
            rfl
          refine one_ (i := 11) (N := none) #[true, true, true, true, true, true, true, true, true, true, true, true] rfl rfl (one_of HT_.out (by kernel_rfl)) (by decide) (fun K hK => ?_)
          have hs12 : w11.cell? ⟨gb312, 0, none⟩ = some (.int .i64 0) := (blk_cell BK312.out 0).trans rfl
          have hfs12 := blk_frozen BK312.out 0
          have hs13 : w11.cell? ⟨gb312, 1, none⟩ = some (.int .i64 0) := (blk_cell BK312.out 1).trans rfl
          have hfs13 := blk_frozen BK312.out 1
          refine skip_ (w1 := ?_) (by rfl) rfl ?_ ?_
          rotate_left
          · go_simp
            rfl
          refine hK.out _ _ ⟨((cell_far (p := ⟨gb312, _, none⟩) NB0_312.out _).trans (((cell_far (p := ⟨gb312, _, none⟩) NB0_312.out _).trans (hHeld.1)))), ((cell_far (p := ⟨gb312, _, none⟩) NB0_312.out _).trans (((cell_far (p := ⟨gb312, _, none⟩) NB0_312.out _).trans (hHeld.2.1)))), ((cell_far (p := ⟨gb312, _, none⟩) (by first | exact Nat.ne_of_lt (Nat.lt_of_lt_of_le (by have := World.block_lt_of_cell? _ _ hw311_0; first | rwa [add_block] at this | exact this) GE312.out) | (rw [add_block]; exact Nat.ne_of_lt (Nat.lt_of_lt_of_le (by have := World.block_lt_of_cell? _ _ hw311_0; first | rwa [add_block] at this | exact this) GE312.out)) | (show (Addr.add _ _).block ≠ _; rw [add_block]; exact Nat.ne_of_lt (Nat.lt_of_lt_of_le (by have := World.block_lt_of_cell? _ _ hw311_0; first | rwa [add_block] at this | exact this) GE312.out)) | (dsimp only; exact Nat.ne_of_lt (Nat.lt_of_lt_of_le (by have := World.block_lt_of_cell? _ _ hw311_0; first | rwa [add_block] at this | exact this) GE312.out))) _).trans (((cell_far (p := ⟨gb312, _, none⟩) (by first | exact Nat.ne_of_lt (Nat.lt_of_lt_of_le (by have := World.block_lt_of_cell? _ _ hw311_0; first | rwa [add_block] at this | exact this) GE312.out) | (rw [add_block]; exact Nat.ne_of_lt (Nat.lt_of_lt_of_le (by have := World.block_lt_of_cell? _ _ hw311_0; first | rwa [add_block] at this | exact this) GE312.out)) | (show (Addr.add _ _).block ≠ _; rw [add_block]; exact Nat.ne_of_lt (Nat.lt_of_lt_of_le (by have := World.block_lt_of_cell? _ _ hw311_0; first | rwa [add_block] at this | exact this) GE312.out)) | (dsimp only; exact Nat.ne_of_lt (Nat.lt_of_lt_of_le (by have := World.block_lt_of_cell? _ _ hw311_0; first | rwa [add_block] at this | exact this) GE312.out))) _).trans (hHeld.2.2.1)))), ((cell_far (p := ⟨gb312, _, none⟩) (by first | exact Nat.ne_of_lt (Nat.lt_of_lt_of_le (by have := World.block_lt_of_cell? _ _ hw311_1; first | rwa [add_block] at this | exact this) GE312.out) | (rw [add_block]; exact Nat.ne_of_lt (Nat.lt_of_lt_of_le (by have := World.block_lt_of_cell? _ _ hw311_1; first | rwa [add_block] at this | exact this) GE312.out)) | (show (Addr.add _ _).block ≠ _; rw [add_block]; exact Nat.ne_of_lt (Nat.lt_of_lt_of_le (by have := World.block_lt_of_cell? _ _ hw311_1; first | rwa [add_block] at this | exact this) GE312.out)) | (dsimp only; exact Nat.ne_of_lt (Nat.lt_of_lt_of_le (by have := World.block_lt_of_cell? _ _ hw311_1; first | rwa [add_block] at this | exact this) GE312.out))) _).trans (((cell_far (p := ⟨gb312, _, none⟩) (by first | exact Nat.ne_of_lt (Nat.lt_of_lt_of_le (by have := World.block_lt_of_cell? _ _ hw311_1; first | rwa [add_block] at this | exact this) GE312.out) | (rw [add_block]; exact Nat.ne_of_lt (Nat.lt_of_lt_of_le (by have := World.block_lt_of_cell? _ _ hw311_1; first | rwa [add_block] at this | exact this) GE312.out)) | (show (Addr.add _ _).block ≠ _; rw [add_block]; exact Nat.ne_of_lt (Nat.lt_of_lt_of_le (by have := World.block_lt_of_cell? _ _ hw311_1; first | rwa [add_block] at this | exact this) GE312.out)) | (dsimp only; exact Nat.ne_of_lt (Nat.lt_of_lt_of_le (by have := World.block_lt_of_cell? _ _ hw311_1; first | rwa [add_block] at this | exact this) GE312.out))) _).trans (hHeld.2.2.2))))⟩ (fun hHeld => ?_)
          clear hK K
          refine done_ (done_of HT_.out (by kernel_rfl)) ?_
          have hnb14 := NB312_0.out
          have hnc14 := NB0_312.out
          have hcz15_0 : w11.cell? ⟨gb312, 0, none⟩ = some (.int .i64 0) := (blk_cell BK312.out 0).trans rfl
          have hcz15_1 : w11.cell? ⟨gb312, 1, none⟩ = some (.int .i64 0) := (blk_cell BK312.out 1).trans rfl
          have hfz15_0 := blk_frozen BK312.out 0
          have hfz15_1 := blk_frozen BK312.out 1
          go_upto_if 29 with (fail)
          go_cut [29] (fun v29 wc => ∃ (kq : Nat) (x29_5 : Bool), v29 = .bool x29_5 ∧ Aside0 (impl_grower_row.j1 kq x3_1 ((rd_T44 s0_0 x1001_1).f0) x29_5 s0_0 x1001_1 ((rd_T44 s0_0 x1001_1).f0) ((rd_T44 s0_0 x1001_1).f1) = some (r1, r2)) ∧ Aside0 (kq ≤ k1) ∧ Aside0 (TN wc w.heap.size (fun _ => True) u3 x3_1) ∧ Aside0 (wc.heap[gb312]? = some (.cells #[.int .i64 ((rd_T44 s0_0 x1001_1).f0), .int .i64 ((rd_T44 s0_0 x1001_1).f1)] 44 (0, 0))) ∧ Aside0 (IsS49 w0 wc g s0_0 x1001_1) ∧ Aside0 (KeepBut w wc g none) ∧ Aside0 (Below w0.heap.size w0 wc))
          case first =>
            have H := HC6.out
            clear HC6
            by_cases c16 : ((rd_T44 s0_0 x1001_1).f0) = 1
            · rw [if_pos c16] at H
              have c16b0 : (((rd_T44 s0_0 x1001_1).f0) == 1) = true := beq_iff_eq.mpr c16
              have c16b1 : (((rd_T44 s0_0 x1001_1).f0) != 1) = false := bne_eq_false_iff_eq.mpr c16
              clear c16
              (first | rw [c16b0] | (simp only [i64_w, i32_w]; rw [c16b0]) | skip)
              have H' := Aside0.mk H
              clear H
              go_wp2
              go_meet
              case rel => exact ⟨_, ((((rd_T44 s0_0 x1001_1).f0) == 1)), (by first | rfl | (simp; done) | (simp [*]; done)), H', ⟨by have := HK1.out; first | omega | exact Nat.le_refl _⟩, ⟨by (with_reducible repeat (first | apply TN.R_alloc | apply TN.R_drewN | apply TN.R_drew)); exact TN.R_mono (TN.R_far (p := ⟨gb312, 1, none⟩) (TN.R_far (p := ⟨gb312, 0, none⟩) (TN.R_types HO_3.out BK312.out (by decide)) (fun _ hk => hk.2) (.int .i64 ((rd_T44 s0_0 x1001_1).f0))) (fun _ hk => hk.2) (.int .i64 ((rd_T44 s0_0 x1001_1).f1))) (fun _ hk => trivial)⟩, ⟨by (with_reducible repeat (first | refine blk_drewN ?_ _ | refine blk_drew ?_ | refine blk_alloc ?_ _)); refine blk_put (cs := #[.int .i64 ((rd_T44 s0_0 x1001_1).f0), .int .i64 0]) ?_ 1 _ rfl; (with_reducible repeat (first | refine blk_drewN ?_ _ | refine blk_drew ?_ | refine blk_alloc ?_ _)); refine blk_put (cs := #[.int .i64 0, .int .i64 0]) ?_ 0 _ rfl; (with_reducible repeat (first | refine blk_drewN ?_ _ | refine blk_drew ?_ | refine blk_alloc ?_ _)); exact BK312.out⟩, ⟨by repeat (first | (with_reducible first | exact HI0.out | apply IsS49.alloc | apply IsS49.drewN | apply IsS49.drew | apply IsS49.set_1 | (apply IsS49.far; (case hne => exact NB0_312.out))) | exact HI0.out)⟩, ⟨by repeat (first | (with_reducible first | exact HK.out | apply KeepBut.set_ | apply keep_drewN | apply keep_drew | apply keep_alloc | refine keep_far ?_ GW312.out _) | exact HK.out)⟩, ⟨by repeat (first | (with_reducible first | exact HB.out | apply below_alloc | apply pw_below_drewN | apply below_drew1 | refine below_set ?_ (IsS49.ge HI0.out) | refine below_set ?_ GE312.out) | exact HB.out)⟩⟩
            · rw [if_neg c16] at H
              have c16b0 : (((rd_T44 s0_0 x1001_1).f0) == 1) = false := beq_eq_false_iff_ne.mpr c16
              have c16b1 : (((rd_T44 s0_0 x1001_1).f0) != 1) = true := bne_iff_ne.mpr c16
              (first | rw [c16b0] | (simp only [i64_w, i32_w]; rw [c16b0]) | skip)
              by_cases c17 : ((rd_T44 s0_0 x1001_1).f0) = 2
              · rw [if_pos c17] at H
                have c17b0 : (((rd_T44 s0_0 x1001_1).f0) == 2) = true := beq_iff_eq.mpr c17
                have c17b1 : (((rd_T44 s0_0 x1001_1).f0) != 2) = false := bne_eq_false_iff_eq.mpr c17
                clear c17
                have H' := Aside0.mk H
                clear H
                go_wp2
                go_meet
                case rel => exact ⟨_, ((((rd_T44 s0_0 x1001_1).f0) == 2)), (by first | rfl | (simp; done) | (simp [*]; done)), H', ⟨by have := HK1.out; first | omega | exact Nat.le_refl _⟩, ⟨by (with_reducible repeat (first | apply TN.R_alloc | apply TN.R_drewN | apply TN.R_drew)); exact TN.R_mono (TN.R_far (p := ⟨gb312, 1, none⟩) (TN.R_far (p := ⟨gb312, 0, none⟩) (TN.R_types HO_3.out BK312.out (by decide)) (fun _ hk => hk.2) (.int .i64 ((rd_T44 s0_0 x1001_1).f0))) (fun _ hk => hk.2) (.int .i64 ((rd_T44 s0_0 x1001_1).f1))) (fun _ hk => trivial)⟩, ⟨by (with_reducible repeat (first | refine blk_drewN ?_ _ | refine blk_drew ?_ | refine blk_alloc ?_ _)); refine blk_put (cs := #[.int .i64 ((rd_T44 s0_0 x1001_1).f0), .int .i64 0]) ?_ 1 _ rfl; (with_reducible repeat (first | refine blk_drewN ?_ _ | refine blk_drew ?_ | refine blk_alloc ?_ _)); refine blk_put (cs := #[.int .i64 0, .int .i64 0]) ?_ 0 _ rfl; (with_reducible repeat (first | refine blk_drewN ?_ _ | refine blk_drew ?_ | refine blk_alloc ?_ _)); exact BK312.out⟩, ⟨by repeat (first | (with_reducible first | exact HI0.out | apply IsS49.alloc | apply IsS49.drewN | apply IsS49.drew | apply IsS49.set_1 | (apply IsS49.far; (case hne => exact NB0_312.out))) | exact HI0.out)⟩, ⟨by repeat (first | (with_reducible first | exact HK.out | apply KeepBut.set_ | apply keep_drewN | apply keep_drew | apply keep_alloc | refine keep_far ?_ GW312.out _) | exact HK.out)⟩, ⟨by repeat (first | (with_reducible first | exact HB.out | apply below_alloc | apply pw_below_drewN | apply below_drew1 | refine below_set ?_ (IsS49.ge HI0.out) | refine below_set ?_ GE312.out) | exact HB.out)⟩⟩
              · rw [if_neg c17] at H
                have c17b0 : (((rd_T44 s0_0 x1001_1).f0) == 2) = false := beq_eq_false_iff_ne.mpr c17
                have c17b1 : (((rd_T44 s0_0 x1001_1).f0) != 2) = true := bne_iff_ne.mpr c17
                have H' := Aside0.mk H
                clear H
                go_wp2
                go_meet
                case rel => exact ⟨_, ((((rd_T44 s0_0 x1001_1).f0) == 13)), (by first | rfl | (simp; done) | (simp [*]; done)), H', ⟨by have := HK1.out; first | omega | exact Nat.le_refl _⟩, ⟨by (with_reducible repeat (first | apply TN.R_alloc | apply TN.R_drewN | apply TN.R_drew)); exact TN.R_mono (TN.R_far (p := ⟨gb312, 1, none⟩) (TN.R_far (p := ⟨gb312, 0, none⟩) (TN.R_types HO_3.out BK312.out (by decide)) (fun _ hk => hk.2) (.int .i64 ((rd_T44 s0_0 x1001_1).f0))) (fun _ hk => hk.2) (.int .i64 ((rd_T44 s0_0 x1001_1).f1))) (fun _ hk => trivial)⟩, ⟨by (with_reducible repeat (first | refine blk_drewN ?_ _ | refine blk_drew ?_ | refine blk_alloc ?_ _)); refine blk_put (cs := #[.int .i64 ((rd_T44 s0_0 x1001_1).f0), .int .i64 0]) ?_ 1 _ rfl; (with_reducible repeat (first | refine blk_drewN ?_ _ | refine blk_drew ?_ | refine blk_alloc ?_ _)); refine blk_put (cs := #[.int .i64 0, .int .i64 0]) ?_ 0 _ rfl; (with_reducible repeat (first | refine blk_drewN ?_ _ | refine blk_drew ?_ | refine blk_alloc ?_ _)); exact BK312.out⟩, ⟨by repeat (first | (with_reducible first | exact HI0.out | apply IsS49.alloc | apply IsS49.drewN | apply IsS49.drew | apply IsS49.set_1 | (apply IsS49.far; (case hne => exact NB0_312.out))) | exact HI0.out)⟩, ⟨by repeat (first | (with_reducible first | exact HK.out | apply KeepBut.set_ | apply keep_drewN | apply keep_drew | apply keep_alloc | refine keep_far ?_ GW312.out _) | exact HK.out)⟩, ⟨by repeat (first | (with_reducible first | exact HB.out | apply below_alloc | apply pw_below_drewN | apply below_drew1 | refine below_set ?_ (IsS49.ge HI0.out) | refine below_set ?_ GE312.out) | exact HB.out)⟩⟩
          case rest =>
            clear HC6
            try clear c1
            try clear c2
            try clear p2
            try clear p3
            try clear q3
            try clear hx3
            try clear c4
            try clear c4b0
            try clear c5
            try clear c5b0
            try clear c14
            try clear c16
            try clear c16b0
            try clear c16b1
            try clear c17
            try clear c17b0
            try clear c17b1
            try clear hcz10_0
            try clear hcz10_1
            try clear hcz15_0
            try clear hcz15_1
            try clear hcz8_0
            try clear hcz8_1
            try clear hfz10_1
            try clear hfz15_0
            try clear hfz15_1
            try clear hfz8_1
            try clear hx311_0
            try clear hx311_1
            try clear p2
            try clear p311
            try clear q311
            obtain ⟨kq, x29_5, rfl, HA, HJ5, HO_3, BK312, HI0, HK, HB⟩ := hcut
            cases kq with
            | zero => exact absurd HA.out (by simp [impl_grower_row.j1])
            | succ kj5 =>
              have H := HA.out
              clear HA
              simp only [impl_grower_row.j1] at H
              by_cases c18 : x29_5 = true
              · subst c18
                have H1 : (if x3_1.length < 2199023255552 then (impl_grower_row.l0 kj5 (x3_1 ++ [(⟨((rd_T44 s0_0 x1001_1).f0), ((rd_T44 s0_0 x1001_1).f1), ([] : List (S53)), ([] : List (S53))⟩ : S53)]) s0_0 (wrap64 (x1001_1 + 1))) else (none)) = some (r1, r2) := by rw [if_pos rfl] at H; first | done | exact H
                clear H
                have H := H1
                clear H1
                by_cases c19 : x3_1.length < 2199023255552
                · rw [if_pos c19] at H
                  have LMc19 := Aside0.mk c19
                  clear c19
                  obtain ⟨y313, hy313⟩ : ∃ y_ : List (S53), y_ = (x3_1 ++ [(⟨((rd_T44 s0_0 x1001_1).f0), ((rd_T44 s0_0 x1001_1).f1), ([] : List (S53)), ([] : List (S53))⟩ : S53)]) := ⟨_, rfl⟩
                  replace H : (impl_grower_row.l0 kj5 y313 s0_0 (wrap64 (x1001_1 + 1))) = some (r1, r2) := by first | (rw [hy313]; with_reducible exact H) | (have H2_ := (Option.bind_some _ _).symm.trans H; rw [hy313]; with_reducible exact H2_) | (have H2_ := (Option.bind_some _ _).symm.trans H; with_reducible exact H2_) | with_reducible exact H | (rw [hy313]; exact H) | exact H
                  have Ny313 := Aside0.mk hy313
                  clear hy313
                  have H' := Aside0.mk H
                  clear H
                  have hnb20 := NB312_0.out
                  have hnc20 := NB0_312.out
                  have hcz21_0 : wc.cell? ⟨gb312, 0, none⟩ = some (.int .i64 ((rd_T44 s0_0 x1001_1).f0)) := (blk_cell BK312.out 0).trans rfl
                  have hcz21_1 : wc.cell? ⟨gb312, 1, none⟩ = some (.int .i64 ((rd_T44 s0_0 x1001_1).f1)) := (blk_cell BK312.out 1).trans rfl
                  have hfz21_0 := blk_frozen BK312.out 0
                  have hfz21_1 := blk_frozen BK312.out 1
                  go_wp2_with (first | ((with_reducible refine gate_builtin (b := .append) (xs := #[.tmp 33, .tmp 39]) rfl ?_); at_builtin; refine TN.R_append w.heap.size rfl (.tmp 33) (.tmp 39) 24 53 (.agg #[(.int .i64 0), (.int .i64 0), (.slice none 0 0), (.slice none 0 0)]) 64 rfl Try.underlying24 rfl info53 rfl (by omega) u3 x3_1 (⟨((rd_T44 s0_0 x1001_1).f0), ((rd_T44 s0_0 x1001_1).f1), ([] : List (S53)), ([] : List (S53))⟩ : S53) (.slice none 0 0) (.slice none 0 0) (okO := fun _ => True) (okA := fun _ => False) (okB := fun _ => False) rfl rfl ?aA ?aB ?aO (fun _ _ h_ => h_.elim) (fun _ _ h_ => h_.elim) (fun _ h_ _ => h_.elim) (Below.refl _ _) ?aS ?aL ?_; (case aA => exact TN.R_nil _ _ _); (case aB => exact TN.R_nil _ _ _); (case aO => exact (by (with_reducible repeat (first | apply TN.R_alloc | apply TN.R_drewN | apply TN.R_drew)); exact HO_3.out)); (case aS => exact (keep_size (w := w) (g := g) (row := none) (by repeat (first | (with_reducible first | exact HK.out | apply KeepBut.set_ | apply keep_drewN | apply keep_drew | apply keep_alloc | refine keep_far ?_ GW312.out _) | exact HK.out)))); (case aL => have := LMc19.out; omega); intro v314 w22 ho hb hg hat; rw [← Ny313.out] at ho; have n0_ := Aside0.mk (blk_grown (g := gb312) (o := .cells #[.int .i64 ((rd_T44 s0_0 x1001_1).f0), .int .i64 ((rd_T44 s0_0 x1001_1).f1)] 44 (0, 0)) (by (with_reducible repeat (first | refine blk_drewN ?_ _ | refine blk_drew ?_ | refine blk_alloc ?_ _)); exact BK312.out) hg (TN.R_ne HO_3.out BK312.out (by decide))); have n1_ := Aside0.mk (IsS49.grown (by repeat (first | (with_reducible first | exact HI0.out | apply IsS49.alloc | apply IsS49.drewN | apply IsS49.drew | apply IsS49.set_1 | (apply IsS49.far; (case hne => exact NB0_312.out))) | exact HI0.out)) hg (IsS49.own_neT HI0.out HO_3.out (by decide))); have n2_ := Aside0.mk (below_weaken (by repeat (first | (with_reducible first | exact HB.out | apply below_alloc | apply pw_below_drewN | apply below_drew1 | refine below_set ?_ (IsS49.ge HI0.out) | refine below_set ?_ GE312.out) | exact HB.out)) HL.out hb); have n3_ := Aside0.mk (KeepBut.trans (by repeat (first | (with_reducible first | exact HK.out | apply KeepBut.set_ | apply keep_drewN | apply keep_drew | apply keep_alloc | refine keep_far ?_ GW312.out _) | exact HK.out)) (KeepBut.of_grown hg g) (TN.R_base2 HO_3.out)); have n4_ := Aside0.mk (ho); clear BK312; clear HI0; clear HB; clear HK; clear HO_3; have BK312 := n0_; have HI0 := n1_; have HB := n2_; have HK := n3_; have HO315 := n4_; clear n0_ n1_ n2_ n3_ n4_; clear ho hb hg hat; obtain ⟨ASz23_0, cSz23_0, HGz23, hgz23, HSz23_0⟩ := HI0.out; have hcz23_0 := cellS49_0 HGz23; have hcz23_1 := cellS49_1 HGz23; have hfz23_1 := blk_frozen HGz23 1; clear HGz23 hgz23))
                  go_roundg kj5
                  case measure => have := HK1.out; have := HJ5.out; omega
                  case rel => exact ⟨(y313), (wrap64 (x1001_1 + 1)), H', ⟨by have := HK1.out; have := HJ5.out; omega⟩, ⟨by (with_reducible repeat (first | apply TN.R_alloc | apply TN.R_drewN | apply TN.R_drew)); exact TN.R_mono (TN.R_far (p := ⟨g, 1, none⟩) (IsS49.apartT HI0.out HO315.out (by decide)) (fun _ hk => hk.2) (.int .i64 (wrap64 (x1001_1 + 1)))) (fun _ hk => trivial)⟩, ⟨by repeat (first | (with_reducible first | exact HI0.out | apply IsS49.alloc | apply IsS49.drewN | apply IsS49.drew | apply IsS49.set_1 | (apply IsS49.far; (case hne => exact NB0_312.out))) | exact HI0.out)⟩, ⟨by repeat (first | (with_reducible first | exact HK.out | apply KeepBut.set_ | apply keep_drewN | apply keep_drew | apply keep_alloc | refine keep_far ?_ GW312.out _) | exact HK.out)⟩, ⟨by repeat (first | (with_reducible first | exact HB.out | apply below_alloc | apply pw_below_drewN | apply below_drew1 | refine below_set ?_ (IsS49.ge HI0.out) | refine below_set ?_ GE312.out) | exact HB.out)⟩⟩
                · rw [if_neg c19] at H
                  exact absurd H (by simp)
              · replace c18 := Bool.eq_false_iff.mpr c18
                subst c18
                have H1 : (if ((rd_T44 s0_0 x1001_1).f0) = 3 then ((impl_grower_structure.f kj5 s0_0 (wrap64 (x1001_1 + 1)) ((rd_T44 s0_0 x1001_1).f0)).bind fun bt316 => (if x3_1.length < 2199023255552 then (impl_grower_row.l0 kj5 (x3_1 ++ [(⟨bt316.1, bt316.2.1, bt316.2.2.1, bt316.2.2.2.1⟩ : S53)]) s0_0 bt316.2.2.2.2) else (none))) else (if ((rd_T44 s0_0 x1001_1).f0) = 6 then ((impl_grower_structure.f kj5 s0_0 (wrap64 (x1001_1 + 1)) ((rd_T44 s0_0 x1001_1).f0)).bind fun bt328 => (if x3_1.length < 2199023255552 then (impl_grower_row.l0 kj5 (x3_1 ++ [(⟨bt328.1, bt328.2.1, bt328.2.2.1, bt328.2.2.2.1⟩ : S53)]) s0_0 bt328.2.2.2.2) else (none))) else (if ((rd_T44 s0_0 x1001_1).f0) = 10 then ((impl_grower_structure.f kj5 s0_0 (wrap64 (x1001_1 + 1)) ((rd_T44 s0_0 x1001_1).f0)).bind fun bt340 => (if x3_1.length < 2199023255552 then (impl_grower_row.l0 kj5 (x3_1 ++ [(⟨bt340.1, bt340.2.1, bt340.2.2.1, bt340.2.2.2.1⟩ : S53)]) s0_0 bt340.2.2.2.2) else (none))) else (some (x3_1, x1001_1))))) = some (r1, r2) := by rw [if_neg (show ¬ (false = true) by decide)] at H; first | done | exact H
                clear H
                have H := H1
                clear H1
                by_cases c24 : ((rd_T44 s0_0 x1001_1).f0) = 3
                · rw [if_pos c24] at H
                  have c24b0 : (((rd_T44 s0_0 x1001_1).f0) == 3) = true := beq_iff_eq.mpr c24
                  have c24b1 : (((rd_T44 s0_0 x1001_1).f0) != 3) = false := bne_eq_false_iff_eq.mpr c24
                  clear c24
                  replace H := Option.bind_eq_some_iff.mp H
                  obtain ⟨⟨t316, t317, t318, t321, t324⟩, A250, H⟩ := H
                  replace H : (if x3_1.length < 2199023255552 then (impl_grower_row.l0 kj5 (x3_1 ++ [(⟨t316, t317, t318, t321⟩ : S53)]) s0_0 t324) else (none)) = some (r1, r2) := H
                  have A25 := Aside0.mk A250
                  clear A250
                  by_cases c26 : x3_1.length < 2199023255552
                  · rw [if_pos c26] at H
                    have LMc26 := Aside0.mk c26
                    clear c26
                    obtain ⟨y325, hy325⟩ : ∃ y_ : List (S53), y_ = (x3_1 ++ [(⟨t316, t317, t318, t321⟩ : S53)]) := ⟨_, rfl⟩
                    replace H : (impl_grower_row.l0 kj5 y325 s0_0 t324) = some (r1, r2) := by first | (rw [hy325]; with_reducible exact H) | (have H2_ := (Option.bind_some _ _).symm.trans H; rw [hy325]; with_reducible exact H2_) | (have H2_ := (Option.bind_some _ _).symm.trans H; with_reducible exact H2_) | with_reducible exact H | (rw [hy325]; exact H) | exact H
                    have Ny325 := Aside0.mk hy325
                    clear hy325
                    have H' := Aside0.mk H
                    clear H
                    obtain ⟨ASz27_0, cSz27_0, HGz27, hgz27, HSz27_0⟩ := HI0.out
                    have hcz27_0 := cellS49_0 HGz27
                    have hcz27_1 := cellS49_1 HGz27
                    have hfz27_1 := blk_frozen HGz27 1
                    clear HGz27 hgz27
                    have hnb28 := NB312_0.out
                    have hnc28 := NB0_312.out
                    have hcz29_0 : wc.cell? ⟨gb312, 0, none⟩ = some (.int .i64 ((rd_T44 s0_0 x1001_1).f0)) := (blk_cell BK312.out 0).trans rfl
                    have hcz29_1 : wc.cell? ⟨gb312, 1, none⟩ = some (.int .i64 ((rd_T44 s0_0 x1001_1).f1)) := (blk_cell BK312.out 1).trans rfl
                    have hfz29_0 := blk_frozen BK312.out 0
                    have hfz29_1 := blk_frozen BK312.out 1
                    go_wp2_with (first | ((with_reducible refine gate_callee (f := 38) rfl ?_); refine goesL_ (some 63) rfl rfl Try.func38 (by kernel_rfl) rfl #[.pointer (some ⟨g, 0, none⟩), .int .i64 ((rd_T44 s0_0 x1001_1).f0)] rfl (by (try simp only [List.map_toArray, List.map_cons, List.map_nil]); first | done | rfl | (simp only [List.length_drop, List.length_take]; rfl)) ?_; (with_reducible refine (IHO kj5 (by have := HK1.out; have := HJ5.out; omega) g s0_0 (wrap64 (x1001_1 + 1)) ((rd_T44 s0_0 x1001_1).f0) t316 t317 t318 t321 t324 w0 _ ?side1 ?side2 A25.out).mono ?_); (case side1 => repeat (first | (with_reducible first | exact HI0.out | apply IsS49.alloc | apply IsS49.drewN | apply IsS49.drew | apply IsS49.set_1 | (apply IsS49.far; (case hne => exact NB0_312.out))) | exact HI0.out)); (case side2 => repeat (first | (with_reducible first | exact HB.out | apply below_alloc | apply pw_below_drewN | apply below_drew1 | refine below_set ?_ (IsS49.ge HI0.out) | refine below_set ?_ GE312.out) | exact HB.out)); rintro e w30 ⟨v319, v322, mz, rfl, ho0, ho1, hi, hb, hk⟩; refine ⟨_, rfl, ?_⟩; have n0_ := Aside0.mk (TN.R_keepN (TN.R_told (TN.R_told (TN.R_oldK (IsS49.apartT (show IsS49 w0 _ g s0_0 (wrap64 (x1001_1 + 1)) from by repeat (first | (with_reducible first | exact HI0.out | apply IsS49.alloc | apply IsS49.drewN | apply IsS49.drew | apply IsS49.set_1 | (apply IsS49.far; (case hne => exact NB0_312.out))) | exact HI0.out)) (by (with_reducible repeat (first | apply TN.R_alloc | apply TN.R_drewN | apply TN.R_drew)); exact (TN.R_mono (TN.R_far (p := ⟨g, 1, none⟩) (IsS49.apartT HI0.out HO_3.out (by decide)) (fun _ hk => hk.2) (.int .i64 (wrap64 (x1001_1 + 1)))) (fun _ h_ => h_.1))) (by decide)) hk) (TN.R_base ho0)) (TN.R_base ho1))); have n1_ := Aside0.mk (KeepBut.blk hk (g' := gb312) (o := .cells #[.int .i64 ((rd_T44 s0_0 x1001_1).f0), .int .i64 ((rd_T44 s0_0 x1001_1).f1)] 44 (0, 0)) (by (with_reducible repeat (first | refine blk_drewN ?_ _ | refine blk_drew ?_ | refine blk_alloc ?_ _)); refine blk_far ?_ NB312_0.out _; (with_reducible repeat (first | refine blk_drewN ?_ _ | refine blk_drew ?_ | refine blk_alloc ?_ _)); exact BK312.out) NB312_0.out (by simp)); have n2_ := Aside0.mk (TN.R_lower (TN.R_new' ho0 (TN.R_lt (by (with_reducible repeat (first | apply TN.R_alloc | apply TN.R_drewN | apply TN.R_drew)); exact (TN.R_mono (TN.R_far (p := ⟨g, 1, none⟩) (IsS49.apartT HI0.out HO_3.out (by decide)) (fun _ hk => hk.2) (.int .i64 (wrap64 (x1001_1 + 1)))) (fun _ h_ => h_.1))))) (keep_size (w := w) (g := g) (row := none) (by repeat (first | (with_reducible first | exact HK.out | apply KeepBut.set_ | apply keep_drewN | apply keep_drew | apply keep_alloc | refine keep_far ?_ GW312.out _) | exact HK.out)))); have n3_ := Aside0.mk (TN.R_lower (TN.R_new' ho1 (TN.R_lt (by (with_reducible repeat (first | apply TN.R_alloc | apply TN.R_drewN | apply TN.R_drew)); exact (TN.R_mono (TN.R_far (p := ⟨g, 1, none⟩) (IsS49.apartT HI0.out HO_3.out (by decide)) (fun _ hk => hk.2) (.int .i64 (wrap64 (x1001_1 + 1)))) (fun _ h_ => h_.1))))) (keep_size (w := w) (g := g) (row := none) (by repeat (first | (with_reducible first | exact HK.out | apply KeepBut.set_ | apply keep_drewN | apply keep_drew | apply keep_alloc | refine keep_far ?_ GW312.out _) | exact HK.out)))); have n4_ := Aside0.mk (KeepBut.trans (by repeat (first | (with_reducible first | exact HK.out | apply KeepBut.set_ | apply keep_drewN | apply keep_drew | apply keep_alloc | refine keep_far ?_ GW312.out _) | exact HK.out)) hk (.inl rfl)); have n5_ := Aside0.mk (hb); have n6_ := Aside0.mk (hi); clear HO_3; clear BK312; clear HK; clear HB; clear HI0; have HO_3 := n0_; have BK312 := n1_; have HO320 := n2_; have HO323 := n3_; have HK := n4_; have HB := n5_; have HI0 := n6_; clear n0_ n1_ n2_ n3_ n4_ n5_ n6_; (try clear hb); (try clear hb2); (try clear hk); (try clear hi); (try clear ho0); (try clear ho1); obtain ⟨Ao32, co32, eo32⟩ := TN.R_slice HO320.out; subst eo32; obtain ⟨Ao33, co33, eo33⟩ := TN.R_slice HO323.out; subst eo33) | ((with_reducible refine gate_builtin (b := .append) (xs := #[.tmp 59, .tmp 64]) rfl ?_); at_builtin; refine TN.R_append w.heap.size rfl (.tmp 59) (.tmp 64) 24 53 (.agg #[(.int .i64 0), (.int .i64 0), (.slice none 0 0), (.slice none 0 0)]) 64 rfl Try.underlying24 rfl info53 rfl (by omega) u3 x3_1 (⟨t316, t317, t318, t321⟩ : S53) (.slice Ao32 t318.length co32) (.slice Ao33 t321.length co33) rfl rfl HO320.out HO323.out HO_3.out ?a1 ?a2 ?a3 (Below.refl _ _) ?aS ?aL ?_; (case a1 => exact (fun _ h1 h2 => absurd h1.2.2 (Nat.not_lt.2 h2.2.2))); (case a2 => exact (fun _ h1 h2 => absurd h1.2.2 (Nat.not_lt.2 h2.2.2))); (case a3 => exact (fun _ h1 h2 => absurd h1.1.2 (Nat.not_lt.2 h2.1.2))); (case aS => exact (keep_size (w := w) (g := g) (row := none) (by repeat (first | (with_reducible first | exact HK.out | apply KeepBut.set_ | apply keep_drewN | apply keep_drew | apply keep_alloc | refine keep_far ?_ GW312.out _) | exact HK.out)))); (case aL => have := LMc26.out; omega); intro v326 w31 ho hb hg hat; rw [← Ny325.out] at ho; have n0_ := Aside0.mk (blk_grown (g := gb312) (o := .cells #[.int .i64 ((rd_T44 s0_0 x1001_1).f0), .int .i64 ((rd_T44 s0_0 x1001_1).f1)] 44 (0, 0)) (by (with_reducible repeat (first | refine blk_drewN ?_ _ | refine blk_drew ?_ | refine blk_alloc ?_ _)); exact BK312.out) hg (TN.R_ne HO_3.out BK312.out (by decide))); have n1_ := Aside0.mk (IsS49.grown (by repeat (first | (with_reducible first | exact HI0.out | apply IsS49.alloc | apply IsS49.drewN | apply IsS49.drew | apply IsS49.set_1 | (apply IsS49.far; (case hne => exact NB0_312.out))) | exact HI0.out)) hg (IsS49.own_neT HI0.out HO_3.out (by decide))); have n2_ := Aside0.mk (below_weaken (by repeat (first | (with_reducible first | exact HB.out | apply below_alloc | apply pw_below_drewN | apply below_drew1 | refine below_set ?_ (IsS49.ge HI0.out) | refine below_set ?_ GE312.out) | exact HB.out)) HL.out hb); have n3_ := Aside0.mk (KeepBut.trans (by repeat (first | (with_reducible first | exact HK.out | apply KeepBut.set_ | apply keep_drewN | apply keep_drew | apply keep_alloc | refine keep_far ?_ GW312.out _) | exact HK.out)) (KeepBut.of_grown hg g) (TN.R_base2 HO_3.out)); have n4_ := Aside0.mk (ho); clear BK312; clear HI0; clear HB; clear HK; clear HO_3; clear HO320; clear HO323; have BK312 := n0_; have HI0 := n1_; have HB := n2_; have HK := n3_; have HO327 := n4_; clear n0_ n1_ n2_ n3_ n4_; clear ho hb hg hat))
                    go_roundg kj5
                    case measure => have := HK1.out; have := HJ5.out; omega
                    case rel => exact ⟨(y325), (t324), H', ⟨by have := HK1.out; have := HJ5.out; omega⟩, ⟨by (with_reducible repeat (first | apply TN.R_alloc | apply TN.R_drewN | apply TN.R_drew)); exact HO327.out⟩, ⟨by repeat (first | (with_reducible first | exact HI0.out | apply IsS49.alloc | apply IsS49.drewN | apply IsS49.drew | apply IsS49.set_1 | (apply IsS49.far; (case hne => exact NB0_312.out))) | exact HI0.out)⟩, ⟨by repeat (first | (with_reducible first | exact HK.out | apply KeepBut.set_ | apply keep_drewN | apply keep_drew | apply keep_alloc | refine keep_far ?_ GW312.out _) | exact HK.out)⟩, ⟨by repeat (first | (with_reducible first | exact HB.out | apply below_alloc | apply pw_below_drewN | apply below_drew1 | refine below_set ?_ (IsS49.ge HI0.out) | refine below_set ?_ GE312.out) | exact HB.out)⟩⟩
                  · rw [if_neg c26] at H
                    exact absurd H (by simp)
                · rw [if_neg c24] at H
                  have c24b0 : (((rd_T44 s0_0 x1001_1).f0) == 3) = false := beq_eq_false_iff_ne.mpr c24
                  have c24b1 : (((rd_T44 s0_0 x1001_1).f0) != 3) = true := bne_iff_ne.mpr c24
                  by_cases c34 : ((rd_T44 s0_0 x1001_1).f0) = 6
                  · rw [if_pos c34] at H
                    have c34b0 : (((rd_T44 s0_0 x1001_1).f0) == 6) = true := beq_iff_eq.mpr c34
                    have c34b1 : (((rd_T44 s0_0 x1001_1).f0) != 6) = false := bne_eq_false_iff_eq.mpr c34
                    clear c34
                    replace H := Option.bind_eq_some_iff.mp H
                    obtain ⟨⟨t328, t329, t330, t333, t336⟩, A350, H⟩ := H
                    replace H : (if x3_1.length < 2199023255552 then (impl_grower_row.l0 kj5 (x3_1 ++ [(⟨t328, t329, t330, t333⟩ : S53)]) s0_0 t336) else (none)) = some (r1, r2) := H
                    have A35 := Aside0.mk A350
                    clear A350
                    by_cases c36 : x3_1.length < 2199023255552
                    · rw [if_pos c36] at H
                      have LMc36 := Aside0.mk c36
                      clear c36
                      obtain ⟨y337, hy337⟩ : ∃ y_ : List (S53), y_ = (x3_1 ++ [(⟨t328, t329, t330, t333⟩ : S53)]) := ⟨_, rfl⟩
                      replace H : (impl_grower_row.l0 kj5 y337 s0_0 t336) = some (r1, r2) := by first | (rw [hy337]; with_reducible exact H) | (have H2_ := (Option.bind_some _ _).symm.trans H; rw [hy337]; with_reducible exact H2_) | (have H2_ := (Option.bind_some _ _).symm.trans H; with_reducible exact H2_) | with_reducible exact H | (rw [hy337]; exact H) | exact H
                      have Ny337 := Aside0.mk hy337
                      clear hy337
                      have H' := Aside0.mk H
                      clear H
                      obtain ⟨ASz37_0, cSz37_0, HGz37, hgz37, HSz37_0⟩ := HI0.out
                      have hcz37_0 := cellS49_0 HGz37
                      have hcz37_1 := cellS49_1 HGz37
                      have hfz37_1 := blk_frozen HGz37 1
                      clear HGz37 hgz37
                      have hnb38 := NB312_0.out
                      have hnc38 := NB0_312.out
                      have hcz39_0 : wc.cell? ⟨gb312, 0, none⟩ = some (.int .i64 ((rd_T44 s0_0 x1001_1).f0)) := (blk_cell BK312.out 0).trans rfl
                      have hcz39_1 : wc.cell? ⟨gb312, 1, none⟩ = some (.int .i64 ((rd_T44 s0_0 x1001_1).f1)) := (blk_cell BK312.out 1).trans rfl
                      have hfz39_0 := blk_frozen BK312.out 0
                      have hfz39_1 := blk_frozen BK312.out 1
                      go_wp2_with (first | ((with_reducible refine gate_callee (f := 38) rfl ?_); refine goesL_ (some 63) rfl rfl Try.func38 (by kernel_rfl) rfl #[.pointer (some ⟨g, 0, none⟩), .int .i64 ((rd_T44 s0_0 x1001_1).f0)] rfl (by (try simp only [List.map_toArray, List.map_cons, List.map_nil]); first | done | rfl | (simp only [List.length_drop, List.length_take]; rfl)) ?_; (with_reducible refine (IHO kj5 (by have := HK1.out; have := HJ5.out; omega) g s0_0 (wrap64 (x1001_1 + 1)) ((rd_T44 s0_0 x1001_1).f0) t328 t329 t330 t333 t336 w0 _ ?side1 ?side2 A35.out).mono ?_); (case side1 => repeat (first | (with_reducible first | exact HI0.out | apply IsS49.alloc | apply IsS49.drewN | apply IsS49.drew | apply IsS49.set_1 | (apply IsS49.far; (case hne => exact NB0_312.out))) | exact HI0.out)); (case side2 => repeat (first | (with_reducible first | exact HB.out | apply below_alloc | apply pw_below_drewN | apply below_drew1 | refine below_set ?_ (IsS49.ge HI0.out) | refine below_set ?_ GE312.out) | exact HB.out)); rintro e w40 ⟨v331, v334, mz, rfl, ho0, ho1, hi, hb, hk⟩; refine ⟨_, rfl, ?_⟩; have n0_ := Aside0.mk (TN.R_keepN (TN.R_told (TN.R_told (TN.R_oldK (IsS49.apartT (show IsS49 w0 _ g s0_0 (wrap64 (x1001_1 + 1)) from by repeat (first | (with_reducible first | exact HI0.out | apply IsS49.alloc | apply IsS49.drewN | apply IsS49.drew | apply IsS49.set_1 | (apply IsS49.far; (case hne => exact NB0_312.out))) | exact HI0.out)) (by (with_reducible repeat (first | apply TN.R_alloc | apply TN.R_drewN | apply TN.R_drew)); exact (TN.R_mono (TN.R_far (p := ⟨g, 1, none⟩) (IsS49.apartT HI0.out HO_3.out (by decide)) (fun _ hk => hk.2) (.int .i64 (wrap64 (x1001_1 + 1)))) (fun _ h_ => h_.1))) (by decide)) hk) (TN.R_base ho0)) (TN.R_base ho1))); have n1_ := Aside0.mk (KeepBut.blk hk (g' := gb312) (o := .cells #[.int .i64 ((rd_T44 s0_0 x1001_1).f0), .int .i64 ((rd_T44 s0_0 x1001_1).f1)] 44 (0, 0)) (by (with_reducible repeat (first | refine blk_drewN ?_ _ | refine blk_drew ?_ | refine blk_alloc ?_ _)); refine blk_far ?_ NB312_0.out _; (with_reducible repeat (first | refine blk_drewN ?_ _ | refine blk_drew ?_ | refine blk_alloc ?_ _)); exact BK312.out) NB312_0.out (by simp)); have n2_ := Aside0.mk (TN.R_lower (TN.R_new' ho0 (TN.R_lt (by (with_reducible repeat (first | apply TN.R_alloc | apply TN.R_drewN | apply TN.R_drew)); exact (TN.R_mono (TN.R_far (p := ⟨g, 1, none⟩) (IsS49.apartT HI0.out HO_3.out (by decide)) (fun _ hk => hk.2) (.int .i64 (wrap64 (x1001_1 + 1)))) (fun _ h_ => h_.1))))) (keep_size (w := w) (g := g) (row := none) (by repeat (first | (with_reducible first | exact HK.out | apply KeepBut.set_ | apply keep_drewN | apply keep_drew | apply keep_alloc | refine keep_far ?_ GW312.out _) | exact HK.out)))); have n3_ := Aside0.mk (TN.R_lower (TN.R_new' ho1 (TN.R_lt (by (with_reducible repeat (first | apply TN.R_alloc | apply TN.R_drewN | apply TN.R_drew)); exact (TN.R_mono (TN.R_far (p := ⟨g, 1, none⟩) (IsS49.apartT HI0.out HO_3.out (by decide)) (fun _ hk => hk.2) (.int .i64 (wrap64 (x1001_1 + 1)))) (fun _ h_ => h_.1))))) (keep_size (w := w) (g := g) (row := none) (by repeat (first | (with_reducible first | exact HK.out | apply KeepBut.set_ | apply keep_drewN | apply keep_drew | apply keep_alloc | refine keep_far ?_ GW312.out _) | exact HK.out)))); have n4_ := Aside0.mk (KeepBut.trans (by repeat (first | (with_reducible first | exact HK.out | apply KeepBut.set_ | apply keep_drewN | apply keep_drew | apply keep_alloc | refine keep_far ?_ GW312.out _) | exact HK.out)) hk (.inl rfl)); have n5_ := Aside0.mk (hb); have n6_ := Aside0.mk (hi); clear HO_3; clear BK312; clear HK; clear HB; clear HI0; have HO_3 := n0_; have BK312 := n1_; have HO332 := n2_; have HO335 := n3_; have HK := n4_; have HB := n5_; have HI0 := n6_; clear n0_ n1_ n2_ n3_ n4_ n5_ n6_; (try clear hb); (try clear hb2); (try clear hk); (try clear hi); (try clear ho0); (try clear ho1); obtain ⟨Ao42, co42, eo42⟩ := TN.R_slice HO332.out; subst eo42; obtain ⟨Ao43, co43, eo43⟩ := TN.R_slice HO335.out; subst eo43) | ((with_reducible refine gate_builtin (b := .append) (xs := #[.tmp 59, .tmp 64]) rfl ?_); at_builtin; refine TN.R_append w.heap.size rfl (.tmp 59) (.tmp 64) 24 53 (.agg #[(.int .i64 0), (.int .i64 0), (.slice none 0 0), (.slice none 0 0)]) 64 rfl Try.underlying24 rfl info53 rfl (by omega) u3 x3_1 (⟨t328, t329, t330, t333⟩ : S53) (.slice Ao42 t330.length co42) (.slice Ao43 t333.length co43) rfl rfl HO332.out HO335.out HO_3.out ?a1 ?a2 ?a3 (Below.refl _ _) ?aS ?aL ?_; (case a1 => exact (fun _ h1 h2 => absurd h1.2.2 (Nat.not_lt.2 h2.2.2))); (case a2 => exact (fun _ h1 h2 => absurd h1.2.2 (Nat.not_lt.2 h2.2.2))); (case a3 => exact (fun _ h1 h2 => absurd h1.1.2 (Nat.not_lt.2 h2.1.2))); (case aS => exact (keep_size (w := w) (g := g) (row := none) (by repeat (first | (with_reducible first | exact HK.out | apply KeepBut.set_ | apply keep_drewN | apply keep_drew | apply keep_alloc | refine keep_far ?_ GW312.out _) | exact HK.out)))); (case aL => have := LMc36.out; omega); intro v338 w41 ho hb hg hat; rw [← Ny337.out] at ho; have n0_ := Aside0.mk (blk_grown (g := gb312) (o := .cells #[.int .i64 ((rd_T44 s0_0 x1001_1).f0), .int .i64 ((rd_T44 s0_0 x1001_1).f1)] 44 (0, 0)) (by (with_reducible repeat (first | refine blk_drewN ?_ _ | refine blk_drew ?_ | refine blk_alloc ?_ _)); exact BK312.out) hg (TN.R_ne HO_3.out BK312.out (by decide))); have n1_ := Aside0.mk (IsS49.grown (by repeat (first | (with_reducible first | exact HI0.out | apply IsS49.alloc | apply IsS49.drewN | apply IsS49.drew | apply IsS49.set_1 | (apply IsS49.far; (case hne => exact NB0_312.out))) | exact HI0.out)) hg (IsS49.own_neT HI0.out HO_3.out (by decide))); have n2_ := Aside0.mk (below_weaken (by repeat (first | (with_reducible first | exact HB.out | apply below_alloc | apply pw_below_drewN | apply below_drew1 | refine below_set ?_ (IsS49.ge HI0.out) | refine below_set ?_ GE312.out) | exact HB.out)) HL.out hb); have n3_ := Aside0.mk (KeepBut.trans (by repeat (first | (with_reducible first | exact HK.out | apply KeepBut.set_ | apply keep_drewN | apply keep_drew | apply keep_alloc | refine keep_far ?_ GW312.out _) | exact HK.out)) (KeepBut.of_grown hg g) (TN.R_base2 HO_3.out)); have n4_ := Aside0.mk (ho); clear BK312; clear HI0; clear HB; clear HK; clear HO_3; clear HO332; clear HO335; have BK312 := n0_; have HI0 := n1_; have HB := n2_; have HK := n3_; have HO339 := n4_; clear n0_ n1_ n2_ n3_ n4_; clear ho hb hg hat))
                      go_roundg kj5
                      case measure => have := HK1.out; have := HJ5.out; omega
                      case rel => exact ⟨(y337), (t336), H', ⟨by have := HK1.out; have := HJ5.out; omega⟩, ⟨by (with_reducible repeat (first | apply TN.R_alloc | apply TN.R_drewN | apply TN.R_drew)); exact HO339.out⟩, ⟨by repeat (first | (with_reducible first | exact HI0.out | apply IsS49.alloc | apply IsS49.drewN | apply IsS49.drew | apply IsS49.set_1 | (apply IsS49.far; (case hne => exact NB0_312.out))) | exact HI0.out)⟩, ⟨by repeat (first | (with_reducible first | exact HK.out | apply KeepBut.set_ | apply keep_drewN | apply keep_drew | apply keep_alloc | refine keep_far ?_ GW312.out _) | exact HK.out)⟩, ⟨by repeat (first | (with_reducible first | exact HB.out | apply below_alloc | apply pw_below_drewN | apply below_drew1 | refine below_set ?_ (IsS49.ge HI0.out) | refine below_set ?_ GE312.out) | exact HB.out)⟩⟩
                    · rw [if_neg c36] at H
                      exact absurd H (by simp)
                  · rw [if_neg c34] at H
                    have c34b0 : (((rd_T44 s0_0 x1001_1).f0) == 6) = false := beq_eq_false_iff_ne.mpr c34
                    have c34b1 : (((rd_T44 s0_0 x1001_1).f0) != 6) = true := bne_iff_ne.mpr c34
                    by_cases c44 : ((rd_T44 s0_0 x1001_1).f0) = 10
                    · rw [if_pos c44] at H
                      have c44b0 : (((rd_T44 s0_0 x1001_1).f0) == 10) = true := beq_iff_eq.mpr c44
                      have c44b1 : (((rd_T44 s0_0 x1001_1).f0) != 10) = false := bne_eq_false_iff_eq.mpr c44
                      clear c44
                      replace H := Option.bind_eq_some_iff.mp H
                      obtain ⟨⟨t340, t341, t342, t345, t348⟩, A450, H⟩ := H
                      replace H : (if x3_1.length < 2199023255552 then (impl_grower_row.l0 kj5 (x3_1 ++ [(⟨t340, t341, t342, t345⟩ : S53)]) s0_0 t348) else (none)) = some (r1, r2) := H
                      have A45 := Aside0.mk A450
                      clear A450
                      by_cases c46 : x3_1.length < 2199023255552
                      · rw [if_pos c46] at H
                        have LMc46 := Aside0.mk c46
                        clear c46
                        obtain ⟨y349, hy349⟩ : ∃ y_ : List (S53), y_ = (x3_1 ++ [(⟨t340, t341, t342, t345⟩ : S53)]) := ⟨_, rfl⟩
                        replace H : (impl_grower_row.l0 kj5 y349 s0_0 t348) = some (r1, r2) := by first | (rw [hy349]; with_reducible exact H) | (have H2_ := (Option.bind_some _ _).symm.trans H; rw [hy349]; with_reducible exact H2_) | (have H2_ := (Option.bind_some _ _).symm.trans H; with_reducible exact H2_) | with_reducible exact H | (rw [hy349]; exact H) | exact H
                        have Ny349 := Aside0.mk hy349
                        clear hy349
                        have H' := Aside0.mk H
                        clear H
                        obtain ⟨ASz47_0, cSz47_0, HGz47, hgz47, HSz47_0⟩ := HI0.out
                        have hcz47_0 := cellS49_0 HGz47
                        have hcz47_1 := cellS49_1 HGz47
                        have hfz47_1 := blk_frozen HGz47 1
                        clear HGz47 hgz47
                        have hnb48 := NB312_0.out
                        have hnc48 := NB0_312.out
                        have hcz49_0 : wc.cell? ⟨gb312, 0, none⟩ = some (.int .i64 ((rd_T44 s0_0 x1001_1).f0)) := (blk_cell BK312.out 0).trans rfl
                        have hcz49_1 : wc.cell? ⟨gb312, 1, none⟩ = some (.int .i64 ((rd_T44 s0_0 x1001_1).f1)) := (blk_cell BK312.out 1).trans rfl
                        have hfz49_0 := blk_frozen BK312.out 0
                        have hfz49_1 := blk_frozen BK312.out 1
                        go_wp2_with (first | ((with_reducible refine gate_callee (f := 38) rfl ?_); refine goesL_ (some 63) rfl rfl Try.func38 (by kernel_rfl) rfl #[.pointer (some ⟨g, 0, none⟩), .int .i64 ((rd_T44 s0_0 x1001_1).f0)] rfl (by (try simp only [List.map_toArray, List.map_cons, List.map_nil]); first | done | rfl | (simp only [List.length_drop, List.length_take]; rfl)) ?_; (with_reducible refine (IHO kj5 (by have := HK1.out; have := HJ5.out; omega) g s0_0 (wrap64 (x1001_1 + 1)) ((rd_T44 s0_0 x1001_1).f0) t340 t341 t342 t345 t348 w0 _ ?side1 ?side2 A45.out).mono ?_); (case side1 => repeat (first | (with_reducible first | exact HI0.out | apply IsS49.alloc | apply IsS49.drewN | apply IsS49.drew | apply IsS49.set_1 | (apply IsS49.far; (case hne => exact NB0_312.out))) | exact HI0.out)); (case side2 => repeat (first | (with_reducible first | exact HB.out | apply below_alloc | apply pw_below_drewN | apply below_drew1 | refine below_set ?_ (IsS49.ge HI0.out) | refine below_set ?_ GE312.out) | exact HB.out)); rintro e w50 ⟨v343, v346, mz, rfl, ho0, ho1, hi, hb, hk⟩; refine ⟨_, rfl, ?_⟩; have n0_ := Aside0.mk (TN.R_keepN (TN.R_told (TN.R_told (TN.R_oldK (IsS49.apartT (show IsS49 w0 _ g s0_0 (wrap64 (x1001_1 + 1)) from by repeat (first | (with_reducible first | exact HI0.out | apply IsS49.alloc | apply IsS49.drewN | apply IsS49.drew | apply IsS49.set_1 | (apply IsS49.far; (case hne => exact NB0_312.out))) | exact HI0.out)) (by (with_reducible repeat (first | apply TN.R_alloc | apply TN.R_drewN | apply TN.R_drew)); exact (TN.R_mono (TN.R_far (p := ⟨g, 1, none⟩) (IsS49.apartT HI0.out HO_3.out (by decide)) (fun _ hk => hk.2) (.int .i64 (wrap64 (x1001_1 + 1)))) (fun _ h_ => h_.1))) (by decide)) hk) (TN.R_base ho0)) (TN.R_base ho1))); have n1_ := Aside0.mk (KeepBut.blk hk (g' := gb312) (o := .cells #[.int .i64 ((rd_T44 s0_0 x1001_1).f0), .int .i64 ((rd_T44 s0_0 x1001_1).f1)] 44 (0, 0)) (by (with_reducible repeat (first | refine blk_drewN ?_ _ | refine blk_drew ?_ | refine blk_alloc ?_ _)); refine blk_far ?_ NB312_0.out _; (with_reducible repeat (first | refine blk_drewN ?_ _ | refine blk_drew ?_ | refine blk_alloc ?_ _)); exact BK312.out) NB312_0.out (by simp)); have n2_ := Aside0.mk (TN.R_lower (TN.R_new' ho0 (TN.R_lt (by (with_reducible repeat (first | apply TN.R_alloc | apply TN.R_drewN | apply TN.R_drew)); exact (TN.R_mono (TN.R_far (p := ⟨g, 1, none⟩) (IsS49.apartT HI0.out HO_3.out (by decide)) (fun _ hk => hk.2) (.int .i64 (wrap64 (x1001_1 + 1)))) (fun _ h_ => h_.1))))) (keep_size (w := w) (g := g) (row := none) (by repeat (first | (with_reducible first | exact HK.out | apply KeepBut.set_ | apply keep_drewN | apply keep_drew | apply keep_alloc | refine keep_far ?_ GW312.out _) | exact HK.out)))); have n3_ := Aside0.mk (TN.R_lower (TN.R_new' ho1 (TN.R_lt (by (with_reducible repeat (first | apply TN.R_alloc | apply TN.R_drewN | apply TN.R_drew)); exact (TN.R_mono (TN.R_far (p := ⟨g, 1, none⟩) (IsS49.apartT HI0.out HO_3.out (by decide)) (fun _ hk => hk.2) (.int .i64 (wrap64 (x1001_1 + 1)))) (fun _ h_ => h_.1))))) (keep_size (w := w) (g := g) (row := none) (by repeat (first | (with_reducible first | exact HK.out | apply KeepBut.set_ | apply keep_drewN | apply keep_drew | apply keep_alloc | refine keep_far ?_ GW312.out _) | exact HK.out)))); have n4_ := Aside0.mk (KeepBut.trans (by repeat (first | (with_reducible first | exact HK.out | apply KeepBut.set_ | apply keep_drewN | apply keep_drew | apply keep_alloc | refine keep_far ?_ GW312.out _) | exact HK.out)) hk (.inl rfl)); have n5_ := Aside0.mk (hb); have n6_ := Aside0.mk (hi); clear HO_3; clear BK312; clear HK; clear HB; clear HI0; have HO_3 := n0_; have BK312 := n1_; have HO344 := n2_; have HO347 := n3_; have HK := n4_; have HB := n5_; have HI0 := n6_; clear n0_ n1_ n2_ n3_ n4_ n5_ n6_; (try clear hb); (try clear hb2); (try clear hk); (try clear hi); (try clear ho0); (try clear ho1); obtain ⟨Ao52, co52, eo52⟩ := TN.R_slice HO344.out; subst eo52; obtain ⟨Ao53, co53, eo53⟩ := TN.R_slice HO347.out; subst eo53) | ((with_reducible refine gate_builtin (b := .append) (xs := #[.tmp 59, .tmp 64]) rfl ?_); at_builtin; refine TN.R_append w.heap.size rfl (.tmp 59) (.tmp 64) 24 53 (.agg #[(.int .i64 0), (.int .i64 0), (.slice none 0 0), (.slice none 0 0)]) 64 rfl Try.underlying24 rfl info53 rfl (by omega) u3 x3_1 (⟨t340, t341, t342, t345⟩ : S53) (.slice Ao52 t342.length co52) (.slice Ao53 t345.length co53) rfl rfl HO344.out HO347.out HO_3.out ?a1 ?a2 ?a3 (Below.refl _ _) ?aS ?aL ?_; (case a1 => exact (fun _ h1 h2 => absurd h1.2.2 (Nat.not_lt.2 h2.2.2))); (case a2 => exact (fun _ h1 h2 => absurd h1.2.2 (Nat.not_lt.2 h2.2.2))); (case a3 => exact (fun _ h1 h2 => absurd h1.1.2 (Nat.not_lt.2 h2.1.2))); (case aS => exact (keep_size (w := w) (g := g) (row := none) (by repeat (first | (with_reducible first | exact HK.out | apply KeepBut.set_ | apply keep_drewN | apply keep_drew | apply keep_alloc | refine keep_far ?_ GW312.out _) | exact HK.out)))); (case aL => have := LMc46.out; omega); intro v350 w51 ho hb hg hat; rw [← Ny349.out] at ho; have n0_ := Aside0.mk (blk_grown (g := gb312) (o := .cells #[.int .i64 ((rd_T44 s0_0 x1001_1).f0), .int .i64 ((rd_T44 s0_0 x1001_1).f1)] 44 (0, 0)) (by (with_reducible repeat (first | refine blk_drewN ?_ _ | refine blk_drew ?_ | refine blk_alloc ?_ _)); exact BK312.out) hg (TN.R_ne HO_3.out BK312.out (by decide))); have n1_ := Aside0.mk (IsS49.grown (by repeat (first | (with_reducible first | exact HI0.out | apply IsS49.alloc | apply IsS49.drewN | apply IsS49.drew | apply IsS49.set_1 | (apply IsS49.far; (case hne => exact NB0_312.out))) | exact HI0.out)) hg (IsS49.own_neT HI0.out HO_3.out (by decide))); have n2_ := Aside0.mk (below_weaken (by repeat (first | (with_reducible first | exact HB.out | apply below_alloc | apply pw_below_drewN | apply below_drew1 | refine below_set ?_ (IsS49.ge HI0.out) | refine below_set ?_ GE312.out) | exact HB.out)) HL.out hb); have n3_ := Aside0.mk (KeepBut.trans (by repeat (first | (with_reducible first | exact HK.out | apply KeepBut.set_ | apply keep_drewN | apply keep_drew | apply keep_alloc | refine keep_far ?_ GW312.out _) | exact HK.out)) (KeepBut.of_grown hg g) (TN.R_base2 HO_3.out)); have n4_ := Aside0.mk (ho); clear BK312; clear HI0; clear HB; clear HK; clear HO_3; clear HO344; clear HO347; have BK312 := n0_; have HI0 := n1_; have HB := n2_; have HK := n3_; have HO351 := n4_; clear n0_ n1_ n2_ n3_ n4_; clear ho hb hg hat))
                        go_roundg kj5
                        case measure => have := HK1.out; have := HJ5.out; omega
                        case rel => exact ⟨(y349), (t348), H', ⟨by have := HK1.out; have := HJ5.out; omega⟩, ⟨by (with_reducible repeat (first | apply TN.R_alloc | apply TN.R_drewN | apply TN.R_drew)); exact HO351.out⟩, ⟨by repeat (first | (with_reducible first | exact HI0.out | apply IsS49.alloc | apply IsS49.drewN | apply IsS49.drew | apply IsS49.set_1 | (apply IsS49.far; (case hne => exact NB0_312.out))) | exact HI0.out)⟩, ⟨by repeat (first | (with_reducible first | exact HK.out | apply KeepBut.set_ | apply keep_drewN | apply keep_drew | apply keep_alloc | refine keep_far ?_ GW312.out _) | exact HK.out)⟩, ⟨by repeat (first | (with_reducible first | exact HB.out | apply below_alloc | apply pw_below_drewN | apply below_drew1 | refine below_set ?_ (IsS49.ge HI0.out) | refine below_set ?_ GE312.out) | exact HB.out)⟩⟩
                      · rw [if_neg c46] at H
                        exact absurd H (by simp)
                    · rw [if_neg c44] at H
                      have c44b0 : (((rd_T44 s0_0 x1001_1).f0) == 10) = false := beq_eq_false_iff_ne.mpr c44
                      have c44b1 : (((rd_T44 s0_0 x1001_1).f0) != 10) = true := bne_iff_ne.mpr c44
                      simp only [Option.some.injEq, Prod.mk.injEq] at H
                      obtain ⟨rfl, rfl⟩ := H
                      go_wp2
                      go_ret
                      exact ⟨_, by first | rfl | (simp [errW_none, errW_some] <;> rfl) | (simp [*, errW_none, errW_some] <;> rfl), by (with_reducible repeat (first | apply TN.R_alloc | apply TN.R_drewN | apply TN.R_drew)); exact HO_3.out, by repeat (first | (with_reducible first | exact HI0.out | apply IsS49.alloc | apply IsS49.drewN | apply IsS49.drew | apply IsS49.set_1 | (apply IsS49.far; (case hne => exact NB0_312.out))) | exact HI0.out), by repeat (first | (with_reducible first | exact HB.out | apply below_alloc | apply pw_below_drewN | apply below_drew1 | refine below_set ?_ (IsS49.ge HI0.out) | refine below_set ?_ GE312.out) | exact HB.out), by repeat (first | (with_reducible first | exact HK.out | apply KeepBut.set_ | apply keep_drewN | apply keep_drew | apply keep_alloc | refine keep_far ?_ GW312.out _) | exact HK.out)⟩
        · rw [if_neg c5] at H
          exact absurd H (by simp)
      · rw [if_neg c4] at H
        have c4b0 : decide (x1001_1 < (s0_0.length : Int)) = false := decide_eq_false c4
        clear c4
        simp only [Option.some.injEq, Prod.mk.injEq] at H
        obtain ⟨rfl, rfl⟩ := H
        try go_wp2
        replace HO_3 := Aside0.mk (TN.R_drew HO_3.out)
        replace HI0 := Aside0.mk (IsS49.drew HI0.out)
        replace HK := Aside0.mk (keep_drew HK.out)
        replace HB := Aside0.mk (below_drew1 HB.out)
        obtain ⟨ASz55_0, cSz55_0, HGz55, hgz55, HSz55_0⟩ := HI0.out
        have hcz55_0 := cellS49_0 HGz55
        have hcz55_1 := cellS49_1 HGz55
        have hfz55_1 := blk_frozen HGz55 1
        clear HGz55 hgz55
        refine start_ (n := 10) (S := fun w' => w'.cell? ⟨g, 0, none⟩ = some (.slice ASz55_0 s0_0.length cSz55_0) ∧ w'.cell? ⟨g, 1, none⟩ = some (.int .i64 x1001_1)) (ds := []) #[false, false, false, false, false, false, false, false, false, false] (by kernel_rfl) rfl rfl ⟨hcz55_0, hcz55_1⟩ (fun hHeld => ?_); refine with_tabW impl_grower_row.tab2 impl_grower_row.bits2 (fun HT_ HW_ => ?_)
        generalize wr.drew = w54 at HO_3 HI0 HK HB hfz55_1 hHeld ⊢
        refine pure_ (i := 0) (N := some 6) (v := ?_) (a' := ?_) #[true, false, false, false, false, false, false, false, false, false] rfl rfl (any_of HT_.out (by kernel_rfl)) (fun _ _ _ h => h) (Or.inl ⟨by rfl, ?_⟩) ?_ ?_
        rotate_left
        · intro w'
          go_simp
          with_reducible rfl
        rotate_left
        · simp only [Act.put, List.setIfInBounds_toArray, List.set_cons_zero, List.set_cons_succ, i64_w, i32_w]
          rfl
        refine pure_ (i := 1) (N := some 7) (v := ?_) (a' := ?_) #[true, true, false, false, false, false, false, false, false, false] rfl rfl (any_of HT_.out (by kernel_rfl)) (fun _ _ _ h => h) (Or.inl ⟨by rfl, ?_⟩) ?_ ?_
        rotate_left
        · intro w'
          go_simp
          with_reducible rfl
        rotate_left
        · simp only [Act.put, List.setIfInBounds_toArray, List.set_cons_zero, List.set_cons_succ, i64_w, i32_w]
          rfl
        refine pure_ (i := 2) (N := some 8) (v := ?_) (a' := ?_) #[true, true, true, false, false, false, false, false, false, false] rfl rfl (any_of HT_.out (by kernel_rfl)) (fun _ _ _ h => h) (Or.inl ⟨by rfl, ?_⟩) ?_ ?_
        rotate_left
        · intro w'
          go_simp
          with_reducible rfl
        rotate_left
        · simp only [Act.put, List.setIfInBounds_toArray, List.set_cons_zero, List.set_cons_succ, i64_w, i32_w]
          rfl
        refine pure_ (i := 4) (N := some 10) (v := ?_) (a' := ?_) #[true, true, true, false, true, false, false, false, false, false] rfl rfl (any_of HT_.out (by kernel_rfl)) (fun _ _ _ h => h) (Or.inl ⟨by rfl, ?_⟩) ?_ ?_
        rotate_left
        · intro w'
          go_simp
          with_reducible rfl
        rotate_left
        · simp only [Act.put, List.setIfInBounds_toArray, List.set_cons_zero, List.set_cons_succ, i64_w, i32_w]
          rfl
        refine pure_ (i := 5) (N := some 11) (v := ?_) (a' := ?_) #[true, true, true, false, true, true, false, false, false, false] rfl rfl (any_of HT_.out (by kernel_rfl)) (fun _ _ _ h => h) (Or.inl ⟨by rfl, ?_⟩) ?_ ?_
        rotate_left
        · intro w'
          go_simp
          with_reducible rfl
        rotate_left
        · simp only [Act.put, List.setIfInBounds_toArray, List.set_cons_zero, List.set_cons_succ, i64_w, i32_w]
          rfl
        refine pure_ (i := 6) (N := some 12) (v := ?_) (a' := ?_) #[true, true, true, false, true, true, true, false, false, false] rfl rfl (any_of HT_.out (by kernel_rfl)) (fun _ _ _ h => h) (Or.inl ⟨by rfl, ?_⟩) ?_ ?_
        rotate_left
        · intro w'
          go_simp
          with_reducible rfl
        rotate_left
        · simp only [Act.put, List.setIfInBounds_toArray, List.set_cons_zero, List.set_cons_succ, i64_w, i32_w]
          rfl
        refine take_ (i := 3) (N := some 9) (v := ?_) (a' := ?_) #[true, true, true, true, true, true, true, false, false, false] rfl rfl (take_ofW HT_.out HW_.out (by kernel_rfl)) (fun _ _ _ h => h) (Or.inl ⟨by rfl, ?_⟩) hHeld ?_ ?_
        rotate_left
        · rintro w' ⟨s0, s1⟩
          go_simp
          with_reducible rfl
        rotate_left
        · simp only [Act.put, List.setIfInBounds_toArray, List.set_cons_zero, List.set_cons_succ, i64_w, i32_w]
          rfl
        refine take_ (i := 7) (N := some 13) (v := ?_) (a' := ?_) #[true, true, true, true, true, true, true, true, false, false] rfl rfl (take_ofW HT_.out HW_.out (by kernel_rfl)) (fun _ _ _ h => h) (Or.inl ⟨by rfl, ?_⟩) hHeld ?_ ?_
        rotate_left
        · rintro w' ⟨s0, s1⟩
          go_simp
          with_reducible rfl
        rotate_left
        · simp only [Act.put, List.setIfInBounds_toArray, List.set_cons_zero, List.set_cons_succ, i64_w, i32_w]
          rfl
        refine pure_ (i := 8) (N := some 14) (v := ?_) (a' := ?_) #[true, true, true, true, true, true, true, true, true, false] rfl rfl (any_of HT_.out (by kernel_rfl)) (fun _ _ _ h => h) (Or.inl ⟨by rfl, ?_⟩) ?_ ?_
        rotate_left
        · intro w'
          go_simp
          with_reducible rfl
        rotate_left
        · simp only [Act.put, List.setIfInBounds_toArray, List.set_cons_zero, List.set_cons_succ, i64_w, i32_w]
          rfl
        refine pure_ (i := 9) (N := some 15) (v := ?_) (a' := ?_) #[true, true, true, true, true, true, true, true, true, true] rfl rfl (any_of HT_.out (by kernel_rfl)) (fun _ _ _ h => h) (Or.inl ⟨by rfl, ?_⟩) ?_ ?_
        rotate_left
        · intro w'
          go_simp
          with_reducible rfl
        rotate_left
        · simp only [Act.put, List.setIfInBounds_toArray, List.set_cons_zero, List.set_cons_succ, i64_w, i32_w]
          rfl
        refine done_ (done_of HT_.out (by kernel_rfl)) ?_
        try go_wp2
        go_ret
        exact ⟨_, by first | rfl | (simp [errW_none, errW_some] <;> rfl) | (simp [*, errW_none, errW_some] <;> rfl), by (with_reducible repeat (first | apply TN.R_alloc | apply TN.R_drewN | apply TN.R_drew)); exact HO_3.out, by repeat (first | (with_reducible first | exact HI0.out | apply IsS49.alloc | apply IsS49.drewN | apply IsS49.drew | apply IsS49.set_1) | exact HI0.out), by repeat (first | (with_reducible first | exact HB.out | apply below_alloc | apply pw_below_drewN | apply below_drew1 | refine below_set ?_ (IsS49.ge HI0.out)) | exact HB.out), by repeat (first | (with_reducible first | exact HK.out | apply KeepBut.set_ | apply keep_drewN | apply keep_drew | apply keep_alloc) | exact HK.out)⟩
theorem impl_grower_structure.calls_j (k : Nat) : (∀ (g : Nat) (s0_0 : List (S44)) (s0_1 : Int) (a1 : Int) (r1 : Int) (r2 : Int) (r3 : List (S53)) (r4 : List (S53)) (r5 : Int) (w0 w : World) (hI : IsS49 w0 w g s0_0 s0_1) (hB : Below w0.heap.size w0 w) (h : impl_grower_structure.f k s0_0 s0_1 a1 = some (r1, r2, r3, r4, r5)),
    Calls Try.prog 38 #[.pointer (some ⟨g, 0, none⟩), .int .i64 a1] w fun e w' => ∃ (v2_ v3_ : Value) (m_ : Nat), e = .returned (.agg #[.int .i64 r1, .int .i64 r2, v2_, v3_]) ∧ TN w' w.heap.size (fun k_ => some k_ ≠ (v3_ : Value).ownBlock ∧ k_ < m_) v2_ r3 ∧ TN w' w.heap.size (fun k_ => some k_ ≠ (v2_ : Value).ownBlock ∧ m_ ≤ k_) v3_ r4 ∧ IsS49 w0 w' g s0_0 r5 ∧ Below w0.heap.size w0 w' ∧ KeepBut w w' g none) ∧ (∀ (g : Nat) (s0_0 : List (S44)) (s0_1 : Int) (r1 : List (S53)) (r2 : Int) (w0 w : World) (hI : IsS49 w0 w g s0_0 s0_1) (hB : Below w0.heap.size w0 w) (h : impl_grower_row.f k s0_0 s0_1 = some (r1, r2)),
    Calls Try.prog 24 #[.pointer (some ⟨g, 0, none⟩)] w fun e w' => ∃ v0_ : Value, e = .returned (v0_) ∧ TN w' w.heap.size (fun _ => True) v0_ r1 ∧ IsS49 w0 w' g s0_0 r2 ∧ Below w0.heap.size w0 w' ∧ KeepBut w w' g none) := by
  induction k using Nat.strongRecOn with
  | _ k ih => exact ⟨impl_grower_structure.calls_ k (fun m hm => (ih m hm).2) (fun m hm => (ih m hm).1), impl_grower_row.calls_ k (fun m hm => (ih m hm).1) (fun m hm => (ih m hm).2)⟩
theorem impl_grower_structure.calls (k : Nat) : ∀ (g : Nat) (s0_0 : List (S44)) (s0_1 : Int) (a1 : Int) (r1 : Int) (r2 : Int) (r3 : List (S53)) (r4 : List (S53)) (r5 : Int) (w0 w : World) (hI : IsS49 w0 w g s0_0 s0_1) (hB : Below w0.heap.size w0 w) (h : impl_grower_structure.f k s0_0 s0_1 a1 = some (r1, r2, r3, r4, r5)),
    Calls Try.prog 38 #[.pointer (some ⟨g, 0, none⟩), .int .i64 a1] w fun e w' => ∃ (v2_ v3_ : Value) (m_ : Nat), e = .returned (.agg #[.int .i64 r1, .int .i64 r2, v2_, v3_]) ∧ TN w' w.heap.size (fun k_ => some k_ ≠ (v3_ : Value).ownBlock ∧ k_ < m_) v2_ r3 ∧ TN w' w.heap.size (fun k_ => some k_ ≠ (v2_ : Value).ownBlock ∧ m_ ≤ k_) v3_ r4 ∧ IsS49 w0 w' g s0_0 r5 ∧ Below w0.heap.size w0 w' ∧ KeepBut w w' g none := (impl_grower_structure.calls_j k).1
theorem impl_grower_row.calls (k : Nat) : ∀ (g : Nat) (s0_0 : List (S44)) (s0_1 : Int) (r1 : List (S53)) (r2 : Int) (w0 w : World) (hI : IsS49 w0 w g s0_0 s0_1) (hB : Below w0.heap.size w0 w) (h : impl_grower_row.f k s0_0 s0_1 = some (r1, r2)),
    Calls Try.prog 24 #[.pointer (some ⟨g, 0, none⟩)] w fun e w' => ∃ v0_ : Value, e = .returned (v0_) ∧ TN w' w.heap.size (fun _ => True) v0_ r1 ∧ IsS49 w0 w' g s0_0 r2 ∧ Below w0.heap.size w0 w' ∧ KeepBut w w' g none := (impl_grower_structure.calls_j k).2

end Go.Proofs.Ythmcanjeeljnhaa.PTree
