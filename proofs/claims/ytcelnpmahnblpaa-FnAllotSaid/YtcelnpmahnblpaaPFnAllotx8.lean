-- laid by a program of this session out of the translation's own print: Lean checks it
import Derived.Test.YtcelnpmahnblpaaPFnAllotx0
import Derived.Test.YtcelnpmahnblpaaPFnAllotx1
import Derived.Test.YtcelnpmahnblpaaPFnAllotx2
import Derived.Test.YtcelnpmahnblpaaPFnAllotx3
import Derived.Test.YtcelnpmahnblpaaPFnAllotx4
import Derived.Test.YtcelnpmahnblpaaPFnAllotx7
namespace Go.Proofs.Ytcelnpmahnblpaa.PFnAllot
open Go.RowKit Go.Proofs.YtcelnpmahnblpaaW.PrintWords Go.Proofs.YtcelnpmahnblpaaW.PrintLast Go.Proofs.YtcelnpmahnblpaaW.PrintMore
attribute [local go_sem] max2_int min2_int max_two min_two max_three min_three max_four min_four   -- for this text's walks alone
set_option linter.unusedVariables false
set_option linter.unusedSimpArgs false

theorem irs6c_ {α : Type} {d : Kd α} {e base g t : Nat} {w : World} {ok : Nat → Prop} {v : Value} {xs : List α} {cs : Array Value} {a0 a1 a2 a3 a4 a5 : Value} (h : Aside0 (d.R e w base ok v xs)) (hb : Aside0 (w.heap[g]? = some (.cells cs t (0, 0)))) (ht : ∀ q, q ∈ e :: d.E → q ≠ t := by decide) : d.R e ((((((w.setCell ⟨g, 0, none⟩ a0).setCell ⟨g, 1, none⟩ a1).setCell ⟨g, 2, none⟩ a2).setCell ⟨g, 3, none⟩ a3).setCell ⟨g, 4, none⟩ a4).setCell ⟨g, 5, none⟩ a5) base (fun k => ok k ∧ k ≠ g) v xs :=
 (Kd.R_far (p := ⟨g, 5, none⟩) (Kd.R_far (p := ⟨g, 4, none⟩) (Kd.R_far (p := ⟨g, 3, none⟩) (Kd.R_far (p := ⟨g, 2, none⟩) (Kd.R_far (p := ⟨g, 1, none⟩) (Kd.R_far (p := ⟨g, 0, none⟩) (Kd.R_types h.out hb.out ht) (fun _ hk => hk.2) a0) (fun _ hk => hk.2) a1) (fun _ hk => hk.2) a2) (fun _ hk => hk.2) a3) (fun _ hk => hk.2) a4) (fun _ hk => hk.2) a5)
theorem irs6_ {α : Type} {d : Kd α} {e base g t : Nat} {w : World} {ok : Nat → Prop} {v : Value} {xs : List α} {cs : Array Value} {a0 a1 a2 a3 a4 a5 : Value} (h : Aside0 (d.R e w base ok v xs)) (hb : Aside0 (w.heap[g]? = some (.cells cs t (0, 0)))) (ht : ∀ q, q ∈ e :: d.E → q ≠ t := by decide) : d.R e ((((((w.setCell ⟨g, 0, none⟩ a0).setCell ⟨g, 1, none⟩ a1).setCell ⟨g, 2, none⟩ a2).setCell ⟨g, 3, none⟩ a3).setCell ⟨g, 4, none⟩ a4).setCell ⟨g, 5, none⟩ a5) base ok v xs :=
 Kd.R_mono (Kd.R_far (p := ⟨g, 5, none⟩) (Kd.R_far (p := ⟨g, 4, none⟩) (Kd.R_far (p := ⟨g, 3, none⟩) (Kd.R_far (p := ⟨g, 2, none⟩) (Kd.R_far (p := ⟨g, 1, none⟩) (Kd.R_far (p := ⟨g, 0, none⟩) (Kd.R_types h.out hb.out ht) (fun _ hk => hk.2) a0) (fun _ hk => hk.2) a1) (fun _ hk => hk.2) a2) (fun _ hk => hk.2) a3) (fun _ hk => hk.2) a4) (fun _ hk => hk.2) a5) (fun _ h_ => h_.1)
theorem iru_ {α : Type} {d : Kd α} {e base : Nat} {ok : Nat → Prop} {w W : World} {v : Value} {xs : List α} (h : Aside0 (d.R e w base ok v xs)) (u : d.R e w base ok v xs → d.R e W base ok v xs := by intro h; (with_reducible repeat (first | apply Kd.R_alloc | apply Kd.R_drewN | apply Kd.R_drew)); exact h) : d.R e W base ok v xs := u h.out
theorem ie6_ {w : World} {g t : Nat} {a0 a1 a2 a3 a4 a5 : Value} (h : Aside0 (w.heap[g]? = some (.cells #[a0, a1, a2, a3, a4, a5] t (0, 0)))) : w.cell? ⟨g, 0, none⟩ = some a0 ∧ w.cell? ⟨g, 1, none⟩ = some a1 ∧ w.cell? ⟨g, 2, none⟩ = some a2 ∧ w.cell? ⟨g, 3, none⟩ = some a3 ∧ w.cell? ⟨g, 4, none⟩ = some a4 ∧ w.cell? ⟨g, 5, none⟩ = some a5 :=
 ⟨(blk_cell h.out 0).trans rfl, (blk_cell h.out 1).trans rfl, (blk_cell h.out 2).trans rfl, (blk_cell h.out 3).trans rfl, (blk_cell h.out 4).trans rfl, (blk_cell h.out 5).trans rfl⟩
theorem if6_ {w : World} {g t : Nat} {cs : Array Value} (h : Aside0 (w.heap[g]? = some (.cells cs t (0, 0)))) : w.frozen? ⟨g, 0, none⟩ = false ∧ w.frozen? ⟨g, 1, none⟩ = false ∧ w.frozen? ⟨g, 2, none⟩ = false ∧ w.frozen? ⟨g, 3, none⟩ = false ∧ w.frozen? ⟨g, 4, none⟩ = false ∧ w.frozen? ⟨g, 5, none⟩ = false :=
 ⟨blk_frozen h.out 0, blk_frozen h.out 1, blk_frozen h.out 2, blk_frozen h.out 3, blk_frozen h.out 4, blk_frozen h.out 5⟩
/-- Not a row's own block. -/
def inb_ {α : Type} (A : Option Addr) (s : List α) (c k : Nat) : Prop := some k ≠ (.slice A s.length c : Value).ownBlock
/-! ### laws_FnAllot: function 12 -/
mutual
def laws_FnAllot.j0 : Nat → List Int → List Int → Bool → Option (Bool)
 | 0, _, _, _ => none
 | k + 1, x0, x1, x28 => if x28 = true then (some true) else ((spec_DataDrawn.f k x0).bind fun bt448 => ((laws_at.f x1 0 12).bind fun t461 => ((impl_AllotCells.f k bt448.1 bt448.2.1 bt448.2.2.1 bt448.2.2.2.1 bt448.2.2.2.2.1 bt448.2.2.2.2.2 (wrap64 (4 * (wrap64 (t461 - 4))))).bind fun bt462 => ((spec_AllotCells.f k bt448.1 bt448.2.1 bt448.2.2.1 bt448.2.2.2.1 bt448.2.2.2.2.1 bt448.2.2.2.2.2 (wrap64 (4 * (wrap64 (t461 - 4))))).bind fun bt477 => (if bt462.2.2.2.2.2.2.2 = 0 then (if bt462.2.2.2.2.2.2.1 = bt477.2.2.2.2.2.2.1 then ((impl_SameData.f k bt462.1 bt462.2.1 bt462.2.2.1 bt462.2.2.2.1 bt462.2.2.2.2.1 bt462.2.2.2.2.2.1 bt477.1 bt477.2.1 bt477.2.2.1 bt477.2.2.2.1 bt477.2.2.2.2.1 bt477.2.2.2.2.2.1).bind fun t492 => (if t492 = true then (if (wrap64 (bt448.2.2.2.1 + (wrap64 (Int.tdiv (wrap64 (4 * (wrap64 (t461 - 4)))) 4)))) ≥ 0 then (laws_FnAllot.j1 k x1 ((bt477.2.2.2.2.2.2.1 == 0) != (decide ((wrap64 (bt448.2.2.2.1 + (wrap64 (Int.tdiv (wrap64 (4 * (wrap64 (t461 - 4)))) 4)))) ≤ 32))) bt448.1 bt448.2.1 bt448.2.2.1 bt448.2.2.2.1 bt448.2.2.2.2.1 bt448.2.2.2.2.2 bt462.1 bt462.2.1 bt462.2.2.1 bt462.2.2.2.1 bt462.2.2.2.2.1 bt462.2.2.2.2.2.1 bt477.1 bt477.2.1 bt477.2.2.1 bt477.2.2.2.1 bt477.2.2.2.2.1 bt477.2.2.2.2.2.1) else (laws_FnAllot.j1 k x1 ((bt477.2.2.2.2.2.2.1 == 0) != false) bt448.1 bt448.2.1 bt448.2.2.1 bt448.2.2.2.1 bt448.2.2.2.2.1 bt448.2.2.2.2.2 bt462.1 bt462.2.1 bt462.2.2.1 bt462.2.2.2.1 bt462.2.2.2.2.1 bt462.2.2.2.2.2.1 bt477.1 bt477.2.1 bt477.2.2.1 bt477.2.2.2.1 bt477.2.2.2.2.1 bt477.2.2.2.2.2.1)) else (laws_FnAllot.j1 k x1 true bt448.1 bt448.2.1 bt448.2.2.1 bt448.2.2.2.1 bt448.2.2.2.2.1 bt448.2.2.2.2.2 bt462.1 bt462.2.1 bt462.2.2.1 bt462.2.2.2.1 bt462.2.2.2.2.1 bt462.2.2.2.2.2.1 bt477.1 bt477.2.1 bt477.2.2.1 bt477.2.2.2.1 bt477.2.2.2.2.1 bt477.2.2.2.2.2.1))) else (laws_FnAllot.j1 k x1 true bt448.1 bt448.2.1 bt448.2.2.1 bt448.2.2.2.1 bt448.2.2.2.2.1 bt448.2.2.2.2.2 bt462.1 bt462.2.1 bt462.2.2.1 bt462.2.2.2.1 bt462.2.2.2.2.1 bt462.2.2.2.2.2.1 bt477.1 bt477.2.1 bt477.2.2.1 bt477.2.2.2.1 bt477.2.2.2.2.1 bt477.2.2.2.2.2.1)) else (laws_FnAllot.j1 k x1 true bt448.1 bt448.2.1 bt448.2.2.1 bt448.2.2.2.1 bt448.2.2.2.2.1 bt448.2.2.2.2.2 bt462.1 bt462.2.1 bt462.2.2.1 bt462.2.2.2.1 bt462.2.2.2.2.1 bt462.2.2.2.2.2.1 bt477.1 bt477.2.1 bt477.2.2.1 bt477.2.2.2.1 bt477.2.2.2.2.1 bt477.2.2.2.2.2.1))))))
def laws_FnAllot.j1 : Nat → List Int → Bool → List Int → List Int → List Int → Int → Int → ByteArray → List Int → List Int → List Int → Int → Int → ByteArray → List Int → List Int → List Int → Int → Int → ByteArray → Option (Bool)
 | 0, _, _, _, _, _, _, _, _, _, _, _, _, _, _, _, _, _, _, _, _ => none
 | k + 1, x1, x80, x461000, x461001, x461002, x461003, x461004, x461005, x477000, x477001, x477002, x477003, x477004, x477005, x492000, x492001, x492002, x492003, x492004, x492005 => if x80 = true then (some false) else (laws_FnAllot.l0 k x1 x461003 x461000 x461001 x461002 x461003 x461004 x461005 x477000 x477001 x477002 x477003 x477004 x477005 x492000 x492001 x492002 x492003 x492004 x492005)
def laws_FnAllot.l0 : Nat → List Int → Int → List Int → List Int → List Int → Int → Int → ByteArray → List Int → List Int → List Int → Int → Int → ByteArray → List Int → List Int → List Int → Int → Int → ByteArray → Option (Bool)
 | 0, _, _, _, _, _, _, _, _, _, _, _, _, _, _, _, _, _, _, _, _ => none
 | k + 1, x1, x13, x461000, x461001, x461002, x461003, x461004, x461005, x477000, x477001, x477002, x477003, x477004, x477005, x492000, x492001, x492002, x492003, x492004, x492005 => if x13 < x492003 then (if 0 ≤ x13 then (if x13 < (x477002.length : Int) then (if (rd x477002 x13) = 0 then (laws_FnAllot.l0 k x1 (wrap64 (x13 + 1)) x461000 x461001 x461002 x461003 x461004 x461005 x477000 x477001 x477002 x477003 x477004 x477005 x492000 x492001 x492002 x492003 x492004 x492005) else (some false)) else (none)) else (none)) else ((spec_PlainWord.f x1).bind fun t494 => ((impl_Say.f k x461000 x461001 x461002 x461003 x461004 x461005 t494).bind fun bt495 => ((spec_Say.f k x461000 x461001 x461002 x461003 x461004 x461005 t494).bind fun bt510 => (if bt495.2.2.2.2.2.2.2 = 0 then (if bt495.2.2.2.2.2.2.1 = bt510.2.2.2.2.2.2.1 then ((impl_SameData.f k bt495.1 bt495.2.1 bt495.2.2.1 bt495.2.2.2.1 bt495.2.2.2.2.1 bt495.2.2.2.2.2.1 bt510.1 bt510.2.1 bt510.2.2.1 bt510.2.2.2.1 bt510.2.2.2.2.1 bt510.2.2.2.2.2.1).bind fun t525 => (if t525 = true then (if bt510.2.2.2.2.2.2.1 = 0 then (if x461005.size + t494.size ≤ 9223372036854775807 then (if bt495.2.2.2.2.2.1.toList = (x461005 ++ t494).toList then ((impl_NewData.f).bind fun bt526 => ((spec_NewData.f).bind fun bt538 => ((impl_SameData.f k bt526.1 bt526.2.1 bt526.2.2.1 bt526.2.2.2.1 bt526.2.2.2.2.1 bt526.2.2.2.2.2 bt538.1 bt538.2.1 bt538.2.2.1 bt538.2.2.2.1 bt538.2.2.2.2.1 bt538.2.2.2.2.2).bind fun t550 => (some t550)))) else (some false)) else (none)) else ((impl_NewData.f).bind fun bt551 => ((spec_NewData.f).bind fun bt563 => ((impl_SameData.f k bt551.1 bt551.2.1 bt551.2.2.1 bt551.2.2.2.1 bt551.2.2.2.2.1 bt551.2.2.2.2.2 bt563.1 bt563.2.1 bt563.2.2.1 bt563.2.2.2.1 bt563.2.2.2.2.1 bt563.2.2.2.2.2).bind fun t575 => (some t575))))) else (some false))) else (some false)) else (some false)))))
end
def laws_FnAllot.f (k : Nat) (l0 : List Int) (l1 : List Int) : Option (Bool) := if (l0.length : Int) > 1048576 then (laws_FnAllot.j0 k l0 l1 true) else (laws_FnAllot.j0 k l0 l1 (decide ((l1.length : Int) > 1048576)))
theorem laws_FnAllot.mono_l : ∀ k, (∀ y0 y1 y2, LeO (laws_FnAllot.j0 k y0 y1 y2) (laws_FnAllot.j0 (k + 1) y0 y1 y2)) ∧ (∀ y0 y1 y2 y3 y4 y5 y6 y7 y8 y9 y10 y11 y12 y13 y14 y15 y16 y17 y18 y19, LeO (laws_FnAllot.j1 k y0 y1 y2 y3 y4 y5 y6 y7 y8 y9 y10 y11 y12 y13 y14 y15 y16 y17 y18 y19) (laws_FnAllot.j1 (k + 1) y0 y1 y2 y3 y4 y5 y6 y7 y8 y9 y10 y11 y12 y13 y14 y15 y16 y17 y18 y19)) ∧ (∀ y0 y1 y2 y3 y4 y5 y6 y7 y8 y9 y10 y11 y12 y13 y14 y15 y16 y17 y18 y19, LeO (laws_FnAllot.l0 k y0 y1 y2 y3 y4 y5 y6 y7 y8 y9 y10 y11 y12 y13 y14 y15 y16 y17 y18 y19) (laws_FnAllot.l0 (k + 1) y0 y1 y2 y3 y4 y5 y6 y7 y8 y9 y10 y11 y12 y13 y14 y15 y16 y17 y18 y19))
 | 0 => ⟨fun _ _ _ r h => by simp [laws_FnAllot.j0] at h, fun _ _ _ _ _ _ _ _ _ _ _ _ _ _ _ _ _ _ _ _ r h => by simp [laws_FnAllot.j1] at h, fun _ _ _ _ _ _ _ _ _ _ _ _ _ _ _ _ _ _ _ _ r h => by simp [laws_FnAllot.l0] at h⟩
 | k + 1 => by
  obtain ⟨ih0, ih1, ih2⟩ := laws_FnAllot.mono_l k
  refine ⟨?_, ?_, ?_⟩
  ·intro y0 y1 y2
   unfold laws_FnAllot.j0
   repeat' first
   | (with_reducible exact ih0 _ _ _)
   | (with_reducible exact ih1 _ _ _ _ _ _ _ _ _ _ _ _ _ _ _ _ _ _ _ _)
   | (with_reducible exact ih2 _ _ _ _ _ _ _ _ _ _ _ _ _ _ _ _ _ _ _ _)
   | (with_reducible exact impl_AllotCells.mono _ _ _ _ _ _ _ _)
   | (with_reducible exact impl_SameData.mono _ _ _ _ _ _ _ _ _ _ _ _ _)
   | (with_reducible exact impl_Say.mono _ _ _ _ _ _ _ _)
   | (with_reducible exact spec_AllotCells.mono _ _ _ _ _ _ _ _)
   | (with_reducible exact spec_DataDrawn.mono _ _)
   | (with_reducible exact spec_Say.mono _ _ _ _ _ _ _ _)
   | (with_reducible exact LeO.refl _)
   | (with_reducible exact LeO.none _)
   | (with_reducible refine LeO.ite ?_ ?_)
   | (with_reducible refine LeO.bind ?_ (fun _ => ?_))
   | exact ih0 _ _ _
   | exact ih1 _ _ _ _ _ _ _ _ _ _ _ _ _ _ _ _ _ _ _ _
   | exact ih2 _ _ _ _ _ _ _ _ _ _ _ _ _ _ _ _ _ _ _ _
   | exact impl_AllotCells.mono _ _ _ _ _ _ _ _
   | exact impl_SameData.mono _ _ _ _ _ _ _ _ _ _ _ _ _
   | exact impl_Say.mono _ _ _ _ _ _ _ _
   | exact spec_AllotCells.mono _ _ _ _ _ _ _ _
   | exact spec_DataDrawn.mono _ _
   | exact spec_Say.mono _ _ _ _ _ _ _ _
   | exact LeO.none _
   | refine LeO.ite ?_ ?_
   | refine LeO.bind ?_ (fun _ => ?_)
  ·intro y0 y1 y2 y3 y4 y5 y6 y7 y8 y9 y10 y11 y12 y13 y14 y15 y16 y17 y18 y19
   unfold laws_FnAllot.j1
   repeat' first
   | (with_reducible exact ih0 _ _ _)
   | (with_reducible exact ih1 _ _ _ _ _ _ _ _ _ _ _ _ _ _ _ _ _ _ _ _)
   | (with_reducible exact ih2 _ _ _ _ _ _ _ _ _ _ _ _ _ _ _ _ _ _ _ _)
   | (with_reducible exact impl_AllotCells.mono _ _ _ _ _ _ _ _)
   | (with_reducible exact impl_SameData.mono _ _ _ _ _ _ _ _ _ _ _ _ _)
   | (with_reducible exact impl_Say.mono _ _ _ _ _ _ _ _)
   | (with_reducible exact spec_AllotCells.mono _ _ _ _ _ _ _ _)
   | (with_reducible exact spec_DataDrawn.mono _ _)
   | (with_reducible exact spec_Say.mono _ _ _ _ _ _ _ _)
   | (with_reducible exact LeO.refl _)
   | (with_reducible exact LeO.none _)
   | (with_reducible refine LeO.ite ?_ ?_)
   | (with_reducible refine LeO.bind ?_ (fun _ => ?_))
   | exact ih0 _ _ _
   | exact ih1 _ _ _ _ _ _ _ _ _ _ _ _ _ _ _ _ _ _ _ _
   | exact ih2 _ _ _ _ _ _ _ _ _ _ _ _ _ _ _ _ _ _ _ _
   | exact impl_AllotCells.mono _ _ _ _ _ _ _ _
   | exact impl_SameData.mono _ _ _ _ _ _ _ _ _ _ _ _ _
   | exact impl_Say.mono _ _ _ _ _ _ _ _
   | exact spec_AllotCells.mono _ _ _ _ _ _ _ _
   | exact spec_DataDrawn.mono _ _
   | exact spec_Say.mono _ _ _ _ _ _ _ _
   | exact LeO.none _
   | refine LeO.ite ?_ ?_
   | refine LeO.bind ?_ (fun _ => ?_)
  ·intro y0 y1 y2 y3 y4 y5 y6 y7 y8 y9 y10 y11 y12 y13 y14 y15 y16 y17 y18 y19
   unfold laws_FnAllot.l0
   repeat' first
   | (with_reducible exact ih0 _ _ _)
   | (with_reducible exact ih1 _ _ _ _ _ _ _ _ _ _ _ _ _ _ _ _ _ _ _ _)
   | (with_reducible exact ih2 _ _ _ _ _ _ _ _ _ _ _ _ _ _ _ _ _ _ _ _)
   | (with_reducible exact impl_AllotCells.mono _ _ _ _ _ _ _ _)
   | (with_reducible exact impl_SameData.mono _ _ _ _ _ _ _ _ _ _ _ _ _)
   | (with_reducible exact impl_Say.mono _ _ _ _ _ _ _ _)
   | (with_reducible exact spec_AllotCells.mono _ _ _ _ _ _ _ _)
   | (with_reducible exact spec_DataDrawn.mono _ _)
   | (with_reducible exact spec_Say.mono _ _ _ _ _ _ _ _)
   | (with_reducible exact LeO.refl _)
   | (with_reducible exact LeO.none _)
   | (with_reducible refine LeO.ite ?_ ?_)
   | (with_reducible refine LeO.bind ?_ (fun _ => ?_))
   | exact ih0 _ _ _
   | exact ih1 _ _ _ _ _ _ _ _ _ _ _ _ _ _ _ _ _ _ _ _
   | exact ih2 _ _ _ _ _ _ _ _ _ _ _ _ _ _ _ _ _ _ _ _
   | exact impl_AllotCells.mono _ _ _ _ _ _ _ _
   | exact impl_SameData.mono _ _ _ _ _ _ _ _ _ _ _ _ _
   | exact impl_Say.mono _ _ _ _ _ _ _ _
   | exact spec_AllotCells.mono _ _ _ _ _ _ _ _
   | exact spec_DataDrawn.mono _ _
   | exact spec_Say.mono _ _ _ _ _ _ _ _
   | exact LeO.none _
   | refine LeO.ite ?_ ?_
   | refine LeO.bind ?_ (fun _ => ?_)
theorem laws_FnAllot.mono : ∀ a0 a1 k, LeO (laws_FnAllot.f k a0 a1) (laws_FnAllot.f (k + 1) a0 a1) := by
 intro a0 a1 k
 obtain ⟨ih0, ih1, ih2⟩ := laws_FnAllot.mono_l k
 unfold laws_FnAllot.f
 repeat' first
   | (with_reducible exact ih0 _ _ _)
   | (with_reducible exact ih1 _ _ _ _ _ _ _ _ _ _ _ _ _ _ _ _ _ _ _ _)
   | (with_reducible exact ih2 _ _ _ _ _ _ _ _ _ _ _ _ _ _ _ _ _ _ _ _)
   | (with_reducible exact impl_AllotCells.mono _ _ _ _ _ _ _ _)
   | (with_reducible exact impl_SameData.mono _ _ _ _ _ _ _ _ _ _ _ _ _)
   | (with_reducible exact impl_Say.mono _ _ _ _ _ _ _ _)
   | (with_reducible exact spec_AllotCells.mono _ _ _ _ _ _ _ _)
   | (with_reducible exact spec_DataDrawn.mono _ _)
   | (with_reducible exact spec_Say.mono _ _ _ _ _ _ _ _)
   | (with_reducible exact LeO.refl _)
   | (with_reducible exact LeO.none _)
   | (with_reducible refine LeO.ite ?_ ?_)
   | (with_reducible refine LeO.bind ?_ (fun _ => ?_))
   | exact ih0 _ _ _
   | exact ih1 _ _ _ _ _ _ _ _ _ _ _ _ _ _ _ _ _ _ _ _
   | exact ih2 _ _ _ _ _ _ _ _ _ _ _ _ _ _ _ _ _ _ _ _
   | exact impl_AllotCells.mono _ _ _ _ _ _ _ _
   | exact impl_SameData.mono _ _ _ _ _ _ _ _ _ _ _ _ _
   | exact impl_Say.mono _ _ _ _ _ _ _ _
   | exact spec_AllotCells.mono _ _ _ _ _ _ _ _
   | exact spec_DataDrawn.mono _ _
   | exact spec_Say.mono _ _ _ _ _ _ _ _
   | exact LeO.none _
   | refine LeO.ite ?_ ?_
   | refine LeO.bind ?_ (fun _ => ?_)
theorem am_ {p : Prop} (h : p) : Aside0 p := Aside0.mk h
end Go.Proofs.Ytcelnpmahnblpaa.PFnAllot
