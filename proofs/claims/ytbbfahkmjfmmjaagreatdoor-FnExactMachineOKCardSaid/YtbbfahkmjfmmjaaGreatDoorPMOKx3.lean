-- laid by a program of this session out of the translation's own print: Lean checks it
import Derived.Test.YtbbfahkmjfmmjaaGreatDoorPMOKx0
import Derived.Test.YtbbfahkmjfmmjaaGreatDoorPMOKx1
import Derived.Test.YtbbfahkmjfmmjaaGreatDoorPMOKx2
namespace Go.Proofs.YtbbfahkmjfmmjaaGreatDoor.PMOK
open Go.RowKit Go.Proofs.YtbbfahkmjfmmjaaGreatDoorW.PrintWords Go.Proofs.YtbbfahkmjfmmjaaGreatDoorW.PrintLast Go.Proofs.YtbbfahkmjfmmjaaGreatDoorW.PrintMore
attribute [local go_sem] max2_int min2_int max_two min_two max_three min_three max_four min_four   -- for this text's walks alone
set_option linter.unusedVariables false
set_option linter.unusedSimpArgs false

attribute [local go_sem high] eqA75
/-! ### spec_l04Kernel: function 90 -/
mutual
def spec_l04Kernel.l0 : Nat → List (S75) → List (List ByteArray) → Int → Option ((List (S75)))
 | 0, _, _, _ => none
 | k + 1, x1, x2, x3 => if x3 < (x2.length : Int) then (spec_l04Kernel.l1 k x1 x2 x3 0) else (some x1)
def spec_l04Kernel.l1 : Nat → List (S75) → List (List ByteArray) → Int → Int → Option ((List (S75)))
 | 0, _, _, _, _ => none
 | k + 1, x1, x2, x3, x4 => if 0 ≤ x3 then (if x3 < (x2.length : Int) then (if x4 < ((rd_L6 x2 x3).length : Int) then (if 0 ≤ x4 then (if x1.length < 4398046511104 then (spec_l04Kernel.l1 k (x1 ++ [(⟨rdOf ByteArray.empty (rd_L6 x2 x3) x4, wrap64 (x3 + 1), wrap64 (x4 + 1)⟩ : S75)]) x2 x3 (wrap64 (x4 + 1))) else (none)) else (none)) else (spec_l04Kernel.l0 k x1 x2 (wrap64 (x3 + 1)))) else (none)) else (none)
end
def spec_l04Kernel.f (k : Nat)  : Option ((List (S75))) := (spec_l04Prims.f).bind fun t137 => ((spec_l04Flows.f).bind fun t140 => ((spec_l04Inners.f).bind fun t143 => ((spec_l04Hosts.f).bind fun t146 => ((spec_l04Syntax.f).bind fun t149 => (spec_l04Kernel.l0 k (([] : List (S75))) (([t137, t140, t143, t146, t149] : List (List ByteArray))) 0)))))
theorem spec_l04Kernel.mono_l : ∀ k, (∀ y0 y1 y2, LeO (spec_l04Kernel.l0 k y0 y1 y2) (spec_l04Kernel.l0 (k + 1) y0 y1 y2)) ∧ (∀ y0 y1 y2 y3, LeO (spec_l04Kernel.l1 k y0 y1 y2 y3) (spec_l04Kernel.l1 (k + 1) y0 y1 y2 y3))
 | 0 => ⟨fun _ _ _ r h => by simp [spec_l04Kernel.l0] at h, fun _ _ _ _ r h => by simp [spec_l04Kernel.l1] at h⟩
 | k + 1 => by
  obtain ⟨ih0, ih1⟩ := spec_l04Kernel.mono_l k
  refine ⟨?_, ?_⟩
  ·intro y0 y1 y2
   unfold spec_l04Kernel.l0
   repeat' first
   | (with_reducible exact ih0 _ _ _)
   | (with_reducible exact ih1 _ _ _ _)
   | (with_reducible exact LeO.refl _)
   | (with_reducible exact LeO.none _)
   | (with_reducible refine LeO.ite ?_ ?_)
   | (with_reducible refine LeO.bind ?_ (fun _ => ?_))
   | exact ih0 _ _ _
   | exact ih1 _ _ _ _
   | exact LeO.none _
   | refine LeO.ite ?_ ?_
   | refine LeO.bind ?_ (fun _ => ?_)
  ·intro y0 y1 y2 y3
   unfold spec_l04Kernel.l1
   repeat' first
   | (with_reducible exact ih0 _ _ _)
   | (with_reducible exact ih1 _ _ _ _)
   | (with_reducible exact LeO.refl _)
   | (with_reducible exact LeO.none _)
   | (with_reducible refine LeO.ite ?_ ?_)
   | (with_reducible refine LeO.bind ?_ (fun _ => ?_))
   | exact ih0 _ _ _
   | exact ih1 _ _ _ _
   | exact LeO.none _
   | refine LeO.ite ?_ ?_
   | refine LeO.bind ?_ (fun _ => ?_)
theorem spec_l04Kernel.mono : ∀ k, LeO (spec_l04Kernel.f k ) (spec_l04Kernel.f (k + 1) ) := by
 intro  k
 obtain ⟨ih0, ih1⟩ := spec_l04Kernel.mono_l k
 unfold spec_l04Kernel.f
 repeat' first
   | (with_reducible exact ih0 _ _ _)
   | (with_reducible exact ih1 _ _ _ _)
   | (with_reducible exact LeO.refl _)
   | (with_reducible exact LeO.none _)
   | (with_reducible refine LeO.ite ?_ ?_)
   | (with_reducible refine LeO.bind ?_ (fun _ => ?_))
   | exact ih0 _ _ _
   | exact ih1 _ _ _ _
   | exact LeO.none _
   | refine LeO.ite ?_ ?_
   | refine LeO.bind ?_ (fun _ => ?_)
set_option maxHeartbeats 8000000 in
set_option maxRecDepth 100000 in
theorem spec_l04Kernel.calls (k : Nat)  (r : List (S75)) (w : World) (h : spec_l04Kernel.f k  = some r) :
  Calls Tryz.prog 90 #[] w fun e w' => ∃ v0_ : Value, e = .returned (v0_) ∧ Kd.R k75 75 w' w.heap.size (fun _ => True) v0_ r ∧ Below w.heap.size w w' := by
 have hu75 := Tryz.underlying75
 have HB := am_ (Below.refl w.heap.size w)
 have H : ((spec_l04Prims.f).bind fun t137 => ((spec_l04Flows.f).bind fun t140 => ((spec_l04Inners.f).bind fun t143 => ((spec_l04Hosts.f).bind fun t146 => ((spec_l04Syntax.f).bind fun t149 => (spec_l04Kernel.l0 k (([] : List (S75))) (([t137, t140, t143, t146, t149] : List (List ByteArray))) 0)))))) = some r := h
 clear h
 obtain ⟨y134, hy134⟩ : ∃ y_ : List (S75), y_ = (([] : List (S75))) := ⟨_, rfl⟩
 replace H : ((spec_l04Prims.f).bind fun t137 => ((spec_l04Flows.f).bind fun t140 => ((spec_l04Inners.f).bind fun t143 => ((spec_l04Hosts.f).bind fun t146 => ((spec_l04Syntax.f).bind fun t149 => (spec_l04Kernel.l0 k y134 (([t137, t140, t143, t146, t149] : List (List ByteArray))) 0)))))) = some r := by first | (rw [hy134]; with_reducible exact H) | (have H2_ := (Option.bind_some _ _).symm.trans H; rw [hy134]; with_reducible exact H2_) | (have H2_ := (Option.bind_some _ _).symm.trans H; with_reducible exact H2_) | with_reducible exact H | (rw [hy134]; exact H) | exact H
 have Ny134 := am_ hy134
 clear hy134
 replace H := Option.bind_eq_some_iff.mp H
 obtain ⟨t137, A10, H⟩ := H
 replace H : ((spec_l04Flows.f).bind fun t140 => ((spec_l04Inners.f).bind fun t143 => ((spec_l04Hosts.f).bind fun t146 => ((spec_l04Syntax.f).bind fun t149 => (spec_l04Kernel.l0 k y134 (([t137, t140, t143, t146, t149] : List (List ByteArray))) 0))))) = some r := H
 have A1 := am_ A10
 clear A10
 replace H := Option.bind_eq_some_iff.mp H
 obtain ⟨t140, A20, H⟩ := H
 replace H : ((spec_l04Inners.f).bind fun t143 => ((spec_l04Hosts.f).bind fun t146 => ((spec_l04Syntax.f).bind fun t149 => (spec_l04Kernel.l0 k y134 (([t137, t140, t143, t146, t149] : List (List ByteArray))) 0)))) = some r := H
 have A2 := am_ A20
 clear A20
 replace H := Option.bind_eq_some_iff.mp H
 obtain ⟨t143, A30, H⟩ := H
 replace H : ((spec_l04Hosts.f).bind fun t146 => ((spec_l04Syntax.f).bind fun t149 => (spec_l04Kernel.l0 k y134 (([t137, t140, t143, t146, t149] : List (List ByteArray))) 0))) = some r := H
 have A3 := am_ A30
 clear A30
 replace H := Option.bind_eq_some_iff.mp H
 obtain ⟨t146, A40, H⟩ := H
 replace H : ((spec_l04Syntax.f).bind fun t149 => (spec_l04Kernel.l0 k y134 (([t137, t140, t143, t146, t149] : List (List ByteArray))) 0)) = some r := H
 have A4 := am_ A40
 clear A40
 replace H := Option.bind_eq_some_iff.mp H
 obtain ⟨t149, A50, H⟩ := H
 replace H : (spec_l04Kernel.l0 k y134 (([t137, t140, t143, t146, t149] : List (List ByteArray))) 0) = some r := H
 have A5 := am_ A50
 clear A50
 obtain ⟨y152, hy152⟩ : ∃ y_ : List (List ByteArray), y_ = (([t137, t140, t143, t146, t149] : List (List ByteArray))) := ⟨_, rfl⟩
 replace H : (spec_l04Kernel.l0 k y134 y152 0) = some r := by first | (rw [hy152]; with_reducible exact H) | (have H2_ := (Option.bind_some _ _).symm.trans H; rw [hy152]; with_reducible exact H2_) | (have H2_ := (Option.bind_some _ _).symm.trans H; with_reducible exact H2_) | with_reducible exact H | (rw [hy152]; exact H) | exact H
 have Ny152 := am_ hy152
 clear hy152
 have H' := am_ H
 clear H
 go_enter Tryz.func90, Tryz.ntmps90
 go_wp2_with (first | ((with_reducible refine gate_dst (N := 5) rfl ?_); refine Kd.R_lit k75 _ 75 ?hg (N := 5) ?hd (xs := ([] : List (S75))) (inner := []) (ok := fun _ => True) (okp := fun _ => True) ?hr ?hp (fun _ hk => hk) trivial (Below.refl _ _) (Nat.le_refl _) (by simp) ?_; (case hd => rfl); (case hg => rfl); (case hr => first | (go_simp; done) | (go_simp; rfl)); (case hp => exact (Reps.none _ _)); intro v135 w6 ho7 hb hg_ hnew_; clear hg_ hnew_; (first | rw [← Ny134.out] at ho7 | (simp only [Int.reduceToNat] at ho7; rw [← Ny134.out] at ho7)); have HO136 := am_ (Kd.R_lower ho7 (below_size ybl_)); replace HB := yst_ hb; clear hb ho7) | ((with_reducible refine gate_callee (f := 96) rfl ?_); refine goesL_ (some 6) rfl rfl Tryz.func96 (by kernel_rfl) rfl #[] rfl yk1_ ?_; (with_reducible refine (spec_l04Prims.calls  t137 _ A1.out).mono ?_); rintro e w8 ⟨v138, rfl, ho0, hb⟩; refine ⟨_, rfl, ?_⟩; replace HO136 := am_ (Kd.R_below (yru_ HO136) hb); have HO139 := am_ (Kd.R_lower ho0 (below_size ybl_)); replace HB := yst_ hb; (try clear hb); (try clear hb2); (try clear hk); (try clear hi); (try clear ho0)) | ((with_reducible refine gate_callee (f := 97) rfl ?_); refine goesL_ (some 7) rfl rfl Tryz.func97 (by kernel_rfl) rfl #[] rfl yk1_ ?_; (with_reducible refine (spec_l04Flows.calls  t140 _ A2.out).mono ?_); rintro e w9 ⟨v141, rfl, ho0, hb⟩; refine ⟨_, rfl, ?_⟩; replace HO136 := am_ (Kd.R_below (yru_ HO136) hb); have HO142 := am_ (Kd.R_lower (Kd.R_new' ho0 (Kd.R_lt (yru_ HO139))) (below_size ybl_)); replace HO139 := am_ (Kd.R_elder' (yru_ HO139) (Kd.R_base ho0) hb); replace HB := yst_ hb; (try clear hb); (try clear hb2); (try clear hk); (try clear hi); (try clear ho0)) | ((with_reducible refine gate_callee (f := 98) rfl ?_); refine goesL_ (some 8) rfl rfl Tryz.func98 (by kernel_rfl) rfl #[] rfl yk1_ ?_; (with_reducible refine (spec_l04Inners.calls  t143 _ A3.out).mono ?_); rintro e w10 ⟨v144, rfl, ho0, hb⟩; refine ⟨_, rfl, ?_⟩; replace HO136 := am_ (Kd.R_below (yru_ HO136) hb); have HO145 := am_ (Kd.R_lower (Kd.R_new' (Kd.R_new' ho0 (Kd.R_lt (yru_ HO139))) (Kd.R_lt (yru_ HO142))) (below_size ybl_)); replace HO139 := am_ (Kd.R_elder' (yru_ HO139) (Kd.R_base ho0) hb); replace HO142 := am_ (Kd.R_elder' (yru_ HO142) (Kd.R_base ho0) hb); replace HB := yst_ hb; (try clear hb); (try clear hb2); (try clear hk); (try clear hi); (try clear ho0)) | ((with_reducible refine gate_callee (f := 99) rfl ?_); refine goesL_ (some 9) rfl rfl Tryz.func99 (by kernel_rfl) rfl #[] rfl yk1_ ?_; (with_reducible refine (spec_l04Hosts.calls  t146 _ A4.out).mono ?_); rintro e w11 ⟨v147, rfl, ho0, hb⟩; refine ⟨_, rfl, ?_⟩; replace HO136 := am_ (Kd.R_below (yru_ HO136) hb); have HO148 := am_ (Kd.R_lower (Kd.R_new' (Kd.R_new' (Kd.R_new' ho0 (Kd.R_lt (yru_ HO139))) (Kd.R_lt (yru_ HO142))) (Kd.R_lt (yru_ HO145))) (below_size ybl_)); replace HO139 := am_ (Kd.R_elder' (yru_ HO139) (Kd.R_base ho0) hb); replace HO142 := am_ (Kd.R_elder' (yru_ HO142) (Kd.R_base ho0) hb); replace HO145 := am_ (Kd.R_elder' (yru_ HO145) (Kd.R_base ho0) hb); replace HB := yst_ hb; (try clear hb); (try clear hb2); (try clear hk); (try clear hi); (try clear ho0)) | ((with_reducible refine gate_callee (f := 100) rfl ?_); refine goesL_ (some 10) rfl rfl Tryz.func100 (by kernel_rfl) rfl #[] rfl yk1_ ?_; (with_reducible refine (spec_l04Syntax.calls  t149 _ A5.out).mono ?_); rintro e w12 ⟨v150, rfl, ho0, hb⟩; refine ⟨_, rfl, ?_⟩; replace HO136 := am_ (Kd.R_below (yru_ HO136) hb); have HO151 := am_ (Kd.R_lower (Kd.R_new' (Kd.R_new' (Kd.R_new' (Kd.R_new' ho0 (Kd.R_lt (yru_ HO139))) (Kd.R_lt (yru_ HO142))) (Kd.R_lt (yru_ HO145))) (Kd.R_lt (yru_ HO148))) (below_size ybl_)); replace HO139 := am_ (Kd.R_elder' (yru_ HO139) (Kd.R_base ho0) hb); replace HO142 := am_ (Kd.R_elder' (yru_ HO142) (Kd.R_base ho0) hb); replace HO145 := am_ (Kd.R_elder' (yru_ HO145) (Kd.R_base ho0) hb); replace HO148 := am_ (Kd.R_elder' (yru_ HO148) (Kd.R_base ho0) hb); replace HB := yst_ hb; (try clear hb); (try clear hb2); (try clear hk); (try clear hi); (try clear ho0); obtain ⟨Ao13, co13, eo13⟩ := Kd.R_slice HO139.out; subst eo13; obtain ⟨Ao14, co14, eo14⟩ := Kd.R_slice HO142.out; subst eo14; obtain ⟨Ao15, co15, eo15⟩ := Kd.R_slice HO145.out; subst eo15; obtain ⟨Ao16, co16, eo16⟩ := Kd.R_slice HO148.out; subst eo16; obtain ⟨Ao17, co17, eo17⟩ := Kd.R_slice HO151.out; subst eo17) | ((with_reducible refine gate_dst (N := 11) rfl ?_); refine Kd.N_lit (Kd.slice 9 Kd.string) _ 106 ?hg (N' := 11) ?hd (xs := ([t137, t140, t143, t146, t149] : List (List ByteArray))) (inner := [.slice Ao13 t137.length co13, .slice Ao14 t140.length co14, .slice Ao15 t143.length co15, .slice Ao16 t146.length co16, .slice Ao17 t149.length co17]) (ok := (fun k_ => some k_ ≠ (v135 : Value).ownBlock)) (okp := (fun k_ => some k_ ≠ (v135 : Value).ownBlock)) ?hr ?hp (fun _ hk => hk) ((show ∀ k_, w12.heap.size ≤ k_ → (fun k_ => some k_ ≠ (v135 : Value).ownBlock) k_ from fun k_ hk => Kd.fresh' (Kd.R_lt (yru_ HO136)) k_ hk) _ (Nat.le_refl _)) (Below.refl _ _) (Nat.le_refl _) (by simp) ?_; (case hd => rfl); (case hg => rfl); (case hr => first | (go_simp; done) | (go_simp; rfl)); (case hp => exact (Reps.one (show Kd.FK (Kd.slice 9 Kd.string) _ _ t137 [.slice Ao13 t137.length co13] from (Kd.FK_slice_mk (Kd.R_reads' (Kd.R_mono (ok' := (fun k_ => some k_ ≠ (v135 : Value).ownBlock)) (Kd.R_apart' (HO139.out) (Kd.R_typed HO136.out) (by decide)) (fun k_ hk => hk.2))).2.1 (by first | exact Kd.R_F (Kd.R_mono (ok' := (fun k_ => some k_ ≠ (v135 : Value).ownBlock)) (Kd.R_apart' (HO139.out) (Kd.R_typed HO136.out) (by decide)) (fun k_ hk => hk.2)) | exact Kd.F_drewN (Kd.R_F (Kd.R_mono (ok' := (fun k_ => some k_ ≠ (v135 : Value).ownBlock)) (Kd.R_apart' (HO139.out) (Kd.R_typed HO136.out) (by decide)) (fun k_ hk => hk.2))) _ | exact Kd.F_drewN (Kd.F_drewN (Kd.R_F (Kd.R_mono (ok' := (fun k_ => some k_ ≠ (v135 : Value).ownBlock)) (Kd.R_apart' (HO139.out) (Kd.R_typed HO136.out) (by decide)) (fun k_ hk => hk.2))) _) _))) (Reps.one (show Kd.FK (Kd.slice 9 Kd.string) _ _ t140 [.slice Ao14 t140.length co14] from (Kd.FK_slice_mk (Kd.R_reads' (Kd.R_mono (ok' := (fun k_ => some k_ ≠ (v135 : Value).ownBlock)) (Kd.R_apart' (HO142.out) (Kd.R_typed HO136.out) (by decide)) (fun k_ hk => hk.2))).2.1 (by first | exact Kd.R_F (Kd.R_mono (ok' := (fun k_ => some k_ ≠ (v135 : Value).ownBlock)) (Kd.R_apart' (HO142.out) (Kd.R_typed HO136.out) (by decide)) (fun k_ hk => hk.2)) | exact Kd.F_drewN (Kd.R_F (Kd.R_mono (ok' := (fun k_ => some k_ ≠ (v135 : Value).ownBlock)) (Kd.R_apart' (HO142.out) (Kd.R_typed HO136.out) (by decide)) (fun k_ hk => hk.2))) _ | exact Kd.F_drewN (Kd.F_drewN (Kd.R_F (Kd.R_mono (ok' := (fun k_ => some k_ ≠ (v135 : Value).ownBlock)) (Kd.R_apart' (HO142.out) (Kd.R_typed HO136.out) (by decide)) (fun k_ hk => hk.2))) _) _))) (Reps.one (show Kd.FK (Kd.slice 9 Kd.string) _ _ t143 [.slice Ao15 t143.length co15] from (Kd.FK_slice_mk (Kd.R_reads' (Kd.R_mono (ok' := (fun k_ => some k_ ≠ (v135 : Value).ownBlock)) (Kd.R_apart' (HO145.out) (Kd.R_typed HO136.out) (by decide)) (fun k_ hk => hk.2))).2.1 (by first | exact Kd.R_F (Kd.R_mono (ok' := (fun k_ => some k_ ≠ (v135 : Value).ownBlock)) (Kd.R_apart' (HO145.out) (Kd.R_typed HO136.out) (by decide)) (fun k_ hk => hk.2)) | exact Kd.F_drewN (Kd.R_F (Kd.R_mono (ok' := (fun k_ => some k_ ≠ (v135 : Value).ownBlock)) (Kd.R_apart' (HO145.out) (Kd.R_typed HO136.out) (by decide)) (fun k_ hk => hk.2))) _ | exact Kd.F_drewN (Kd.F_drewN (Kd.R_F (Kd.R_mono (ok' := (fun k_ => some k_ ≠ (v135 : Value).ownBlock)) (Kd.R_apart' (HO145.out) (Kd.R_typed HO136.out) (by decide)) (fun k_ hk => hk.2))) _) _))) (Reps.one (show Kd.FK (Kd.slice 9 Kd.string) _ _ t146 [.slice Ao16 t146.length co16] from (Kd.FK_slice_mk (Kd.R_reads' (Kd.R_mono (ok' := (fun k_ => some k_ ≠ (v135 : Value).ownBlock)) (Kd.R_apart' (HO148.out) (Kd.R_typed HO136.out) (by decide)) (fun k_ hk => hk.2))).2.1 (by first | exact Kd.R_F (Kd.R_mono (ok' := (fun k_ => some k_ ≠ (v135 : Value).ownBlock)) (Kd.R_apart' (HO148.out) (Kd.R_typed HO136.out) (by decide)) (fun k_ hk => hk.2)) | exact Kd.F_drewN (Kd.R_F (Kd.R_mono (ok' := (fun k_ => some k_ ≠ (v135 : Value).ownBlock)) (Kd.R_apart' (HO148.out) (Kd.R_typed HO136.out) (by decide)) (fun k_ hk => hk.2))) _ | exact Kd.F_drewN (Kd.F_drewN (Kd.R_F (Kd.R_mono (ok' := (fun k_ => some k_ ≠ (v135 : Value).ownBlock)) (Kd.R_apart' (HO148.out) (Kd.R_typed HO136.out) (by decide)) (fun k_ hk => hk.2))) _) _))) (Reps.one (show Kd.FK (Kd.slice 9 Kd.string) _ _ t149 [.slice Ao17 t149.length co17] from (Kd.FK_slice_mk (Kd.R_reads' (Kd.R_mono (ok' := (fun k_ => some k_ ≠ (v135 : Value).ownBlock)) (Kd.R_apart' (HO151.out) (Kd.R_typed HO136.out) (by decide)) (fun k_ hk => hk.2))).2.1 (by first | exact Kd.R_F (Kd.R_mono (ok' := (fun k_ => some k_ ≠ (v135 : Value).ownBlock)) (Kd.R_apart' (HO151.out) (Kd.R_typed HO136.out) (by decide)) (fun k_ hk => hk.2)) | exact Kd.F_drewN (Kd.R_F (Kd.R_mono (ok' := (fun k_ => some k_ ≠ (v135 : Value).ownBlock)) (Kd.R_apart' (HO151.out) (Kd.R_typed HO136.out) (by decide)) (fun k_ hk => hk.2))) _ | exact Kd.F_drewN (Kd.F_drewN (Kd.R_F (Kd.R_mono (ok' := (fun k_ => some k_ ≠ (v135 : Value).ownBlock)) (Kd.R_apart' (HO151.out) (Kd.R_typed HO136.out) (by decide)) (fun k_ hk => hk.2))) _) _))) (Reps.none _ _))))))); intro v153 w18 ho19 hb hg_ hnew_; clear hg_ hnew_; (first | rw [← Ny152.out] at ho19 | (simp only [Int.reduceToNat] at ho19; rw [← Ny152.out] at ho19)); replace HO136 := am_ (Kd.R_below (yru_ HO136) hb); have HO154 := am_ (Kd.N_lower ho19 (below_size ybl_)); replace HB := yst_ hb; clear HO139; clear HO142; clear HO145; clear HO148; clear HO151; clear hb ho19))
 go_loopg [1, 3] k (fun kq v1 v3 w' => ∃ (x1_1 : List (S75)) (x3_1 : Int), v3 = .int .i64 x3_1 ∧ Aside0 (spec_l04Kernel.l0 kq x1_1 y152 x3_1 = some r) ∧ Aside0 (kq ≤ k) ∧ Aside0 (Kd.R k75 75 w' w.heap.size (fun _ => True) v1 x1_1) ∧ Aside0 (Kd.N (Kd.slice 9 Kd.string) 106 w' w.heap.size (fun k_ => some k_ ≠ (v1 : Value).ownBlock) v153 y152) ∧ Aside0 (Below w.heap.size w w'))
 case atStart => exact ⟨(y134), (0), (by first | rfl | (simp; done) | (simp [*]; done)), H', ⟨Nat.le_refl _⟩, ⟨(yru_ HO136)⟩, ⟨by (with_reducible repeat (first | apply Kd.N_alloc | apply Kd.N_drewN | apply Kd.N_drew)); exact HO154.out⟩, ⟨ybl_⟩⟩
 case round =>
  clear H'
  try clear c1
  try clear p2
  try clear c9
  try clear c10
  obtain ⟨x1_1, x3_1, rfl, HA, HK1, HO_1, HO_2, HB⟩ := hrel
  cases gk with
  | zero => exact absurd HA.out (by simp [spec_l04Kernel.l0])
  | succ k1 =>
   have H := HA.out
   clear HA
   simp only [spec_l04Kernel.l0] at H
   by_cases c20 : x3_1 < (y152.length : Int)
   ·rw [if_pos c20] at H
    have c20b0 : decide (x3_1 < (y152.length : Int)) = true := decide_eq_true c20
    clear c20
    have H' := am_ H
    clear H
    obtain ⟨Ao21, co21, eo21⟩ := Kd.N_slice HO_2.out
    subst eo21
    go_wp2
    go_loopg [1, 4] k1 (fun kq v1 v4 w' => ∃ (x1_2 : List (S75)) (x4_2 : Int), v4 = .int .i64 x4_2 ∧ Aside0 (spec_l04Kernel.l1 kq x1_2 y152 x3_1 x4_2 = some r) ∧ Aside0 (kq ≤ k1) ∧ Aside0 (Kd.R k75 75 w' w.heap.size (fun _ => True) v1 x1_2) ∧ Aside0 (Kd.N (Kd.slice 9 Kd.string) 106 w' w.heap.size (fun k_ => some k_ ≠ (v1 : Value).ownBlock) (.slice Ao21 y152.length co21) y152) ∧ Aside0 (Below w.heap.size w w'))
    case atStart => exact ⟨(x1_1), (0), (by first | rfl | (simp; done) | (simp [*]; done)), H', ⟨Nat.le_refl _⟩, ⟨(yru_ HO_1)⟩, ⟨by (with_reducible repeat (first | apply Kd.N_alloc | apply Kd.N_drewN | apply Kd.N_drew)); exact HO_2.out⟩, ⟨ybl_⟩⟩
    case round =>
     clear H'
     try clear c1
     try clear c2
     try clear p2
     try clear c9
     try clear c10
     try clear c20
     try clear c20b0
     try clear p2
     obtain ⟨x1_2, x4_2, rfl, HA, HK2, HO_1, HO_2, HB⟩ := hrel
     cases gk with
     | zero => exact absurd HA.out (by simp [spec_l04Kernel.l1])
     | succ k2 =>
      have H := HA.out
      clear HA
      simp only [spec_l04Kernel.l1] at H
      by_cases c22 : 0 ≤ x3_1
      ·rw [if_pos c22] at H
       have c22b0 : decide (0 ≤ x3_1) = true := decide_eq_true c22
       clear c22
       by_cases c23 : x3_1 < (y152.length : Int)
       ·rw [if_pos c23] at H
        have c23b0 : decide (x3_1 < (y152.length : Int)) = true := decide_eq_true c23
        clear c23
        by_cases c24 : x4_2 < ((rd_L6 y152 x3_1).length : Int)
        ·rw [if_pos c24] at H
         have c24b0 : decide (x4_2 < ((rd_L6 y152 x3_1).length : Int)) = true := decide_eq_true c24
         clear c24
         by_cases c25 : 0 ≤ x4_2
         ·rw [if_pos c25] at H
          have c25b0 : decide (0 ≤ x4_2) = true := decide_eq_true c25
          clear c25
          by_cases c26 : x1_2.length < 4398046511104
          ·rw [if_pos c26] at H
           have LMc26 := am_ c26
           clear c26
           obtain ⟨y158, hy158⟩ : ∃ y_ : List (S75), y_ = (x1_2 ++ [(⟨rdOf ByteArray.empty (rd_L6 y152 x3_1) x4_2, wrap64 (x3_1 + 1), wrap64 (x4_2 + 1)⟩ : S75)]) := ⟨_, rfl⟩
           replace H : (spec_l04Kernel.l1 k2 y158 y152 x3_1 (wrap64 (x4_2 + 1))) = some r := by first | (rw [hy158]; with_reducible exact H) | (have H2_ := (Option.bind_some _ _).symm.trans H; rw [hy158]; with_reducible exact H2_) | (have H2_ := (Option.bind_some _ _).symm.trans H; with_reducible exact H2_) | with_reducible exact H | (rw [hy158]; exact H) | exact H
           have Ny158 := am_ hy158
           clear hy158
           have H' := am_ H
           clear H
           have p155 : 0 ≤ (x3_1 : Int) := of_decide_eq_true yqv11_
           have q155 : x3_1 < (y152.length : Int) := of_decide_eq_true yqv11_
           obtain ⟨ad155, A155_0, c155_0, e155, hx155_0, hl155_0, hi155_0⟩ := at_L6 (Kd.N_reads' HO_2.out).2.2 x3_1 p155 q155
           cases e155
           obtain ⟨ce155, hce155, hMe155, hcc155⟩ := Kd.N_get HO_2.out [] x3_1 p155 (by first | exact q155 | exact of_decide_eq_true yqv11_ | (have e_ := (Kd.N_reads' HO_2.out).1; omega))
           obtain ⟨ua155_0, uc155_0, rfl, ul155_0, ge155_0⟩ := Kd.FK_slice_open hMe155
           have hv155_0 := hcc155 0 _ rfl
           rw [Nat.add_zero, show ((Kd.slice 9 Kd.string)).sz = 1 from rfl, Nat.mul_one] at hv155_0
           replace hv155_0 := Option.some.inj (hv155_0.symm.trans hx155_0)
           injection hv155_0 with hva_ hvn_ hvc_
           rw [hva_] at ge155_0
           rw [hvc_] at ul155_0
           have HL155_0 := am_ (show Kd.V Kd.string 9 _ w.heap.size _ _ (rd_L6 y152 x3_1) from Kd.V_mk ul155_0 ge155_0)
           clear hva_ hvn_ hvc_ ge155_0 ul155_0
           clear hcc155 hce155
           have HR155_0 := am_ hi155_0
           have HC155_0 := am_ hl155_0
           clear hi155_0 hl155_0
           replace p155 := eq_true p155
           replace q155 := eq_true q155
           have p156 : 0 ≤ (x3_1 : Int) := of_decide_eq_true yqv11_
           have q156 : x3_1 < (y152.length : Int) := of_decide_eq_true yqv11_
           obtain ⟨ad156, A156_0, c156_0, e156, hx156_0, hl156_0, hi156_0⟩ := at_L6 (Kd.N_reads' HO_2.out).2.2 x3_1 p156 q156
           obtain rfl : ad155 = ad156 := (by injection e156)
           obtain ⟨ce156, hce156, hMe156, hcc156⟩ := Kd.N_get HO_2.out [] x3_1 p156 (by first | exact q156 | exact of_decide_eq_true yqv11_ | (have e_ := (Kd.N_reads' HO_2.out).1; omega))
           obtain ⟨ua156_0, uc156_0, rfl, ul156_0, ge156_0⟩ := Kd.FK_slice_open hMe156
           have hv156_0 := hcc156 0 _ rfl
           rw [Nat.add_zero, show ((Kd.slice 9 Kd.string)).sz = 1 from rfl, Nat.mul_one] at hv156_0
           replace hv156_0 := Option.some.inj (hv156_0.symm.trans hx156_0)
           injection hv156_0 with hva_ hvn_ hvc_
           rw [hva_] at ge156_0
           rw [hvc_] at ul156_0
           have HL156_0 := am_ (show Kd.V Kd.string 9 _ w.heap.size _ _ (rd_L6 y152 x3_1) from Kd.V_mk ul156_0 ge156_0)
           clear hva_ hvn_ hvc_ ge156_0 ul156_0
           clear hcc156 hce156
           have HR156_0 := am_ hi156_0
           have HC156_0 := am_ hl156_0
           clear hi156_0 hl156_0
           replace p156 := eq_true p156
           replace q156 := eq_true q156
           have ea_ := Option.some.inj (hx155_0.symm.trans hx156_0)
           injection ea_ with ea_ en_ ec_
           subst ea_
           subst ec_
           clear en_
           have p157 : 0 ≤ (x4_2 : Int) := of_decide_eq_true yqv11_
           have q157 : x4_2 < ((rd_L6 y152 x3_1).length : Int) := of_decide_eq_true yqv11_
           obtain ⟨ad157, e157, hx157_0⟩ := Kd.at_string (by repeat (first | (with_reducible exact HR156_0.out) | (with_reducible refine Kd.C_alloc ?_ _) | (with_reducible refine Kd.C_drewN ?_ _) | (with_reducible refine Kd.C_drew ?_) | exact HR156_0.out)) x4_2 p157 q157
           cases e157
           replace p157 := eq_true p157
           replace q157 := eq_true q157
           go_wp2_with (first | ((with_reducible refine gate_builtin (b := .append) (xs := #[.tmp 27, .tmp 40]) rfl ?_); at_builtin; refine Kd.R_append k75 (w0 := w) w.heap.size rfl (.tmp 27) (.tmp 40) 35 75 (.agg #[(.string ⟨#[]⟩), (.int .i64 0), (.int .i64 0)]) 32 rfl Tryz.underlying35 info75 rfl (by decide) (by omega) u1 x1_2 (⟨rdOf ByteArray.empty (rd_L6 y152 x3_1) x4_2, wrap64 (x3_1 + 1), wrap64 (x4_2 + 1)⟩ : S75) [.string (rdOf ByteArray.empty (rd_L6 y152 x3_1) x4_2), .int .i64 (wrap64 (x3_1 + 1)), .int .i64 (wrap64 (x4_2 + 1))] (fun _ => True) (fun _ => False) rfl rfl ?aP (fun _ hk => hk.elim) ?aF ?aO ?aB ?aS ?aL ?_; (case aP => exact k75_mkM _ _ _ (⟨rdOf ByteArray.empty (rd_L6 y152 x3_1) x4_2, wrap64 (x3_1 + 1), wrap64 (x4_2 + 1)⟩ : S75)); (case aB => exact ybl_); (case aF => exact (fun _ _ => trivial)); (case aO => exact (yru_ HO_1)); (case aS => exact (below_size ybl_)); (case aL => have := LMc26.out; omega); intro v159 w27 ho hb hg hat; rw [← Ny158.out] at ho; replace HO_2 := am_ (Kd.N_afterv (ok := (fun _ => True)) (by (with_reducible repeat (first | apply Kd.N_alloc | apply Kd.N_drewN | apply Kd.N_drew)); exact Kd.N_mono HO_2.out (fun _ hk => ⟨trivial, hk⟩)) hg hat); replace HL155_0 := am_ (Kd.V_afterv (ok := (fun k_ => some k_ ≠ (.slice (some ad155) y152.length co21 : Value).ownBlock)) (by (with_reducible repeat (first | apply Kd.V_alloc | apply Kd.V_drewN | apply Kd.V_drew)); exact Kd.V_mono HL155_0.out (fun _ hk => ⟨hk.2, hk.1⟩)) hg hat); replace HL156_0 := am_ (Kd.V_afterv (ok := (fun k_ => some k_ ≠ (.slice (some ad155) y152.length co21 : Value).ownBlock)) (by (with_reducible repeat (first | apply Kd.V_alloc | apply Kd.V_drewN | apply Kd.V_drew)); exact Kd.V_mono HL156_0.out (fun _ hk => ⟨hk.2, hk.1⟩)) hg hat); replace HB := am_ (hb); have HO160 := am_ (ho); clear HO_1; clear ho hb hg hat))
           go_roundg k2
           case measure => have := HK1.out; have := HK2.out; omega
           case rel => exact ⟨(y158), (wrap64 (x4_2 + 1)), (by first | rfl | (simp; done) | (simp [*]; done)), H', ⟨by have := HK1.out; have := HK2.out; omega⟩, ⟨(yru_ HO160)⟩, ⟨by (with_reducible repeat (first | apply Kd.N_alloc | apply Kd.N_drewN | apply Kd.N_drew)); exact Kd.N_mono HO_2.out (fun _ hk => hk.2)⟩, ⟨ybl_⟩⟩
          ·rw [if_neg c26] at H
           exact absurd H (by simp)
         ·rw [if_neg c25] at H
          exact absurd H (by simp)
        ·rw [if_neg c24] at H
         have c24b0 : decide (x4_2 < ((rd_L6 y152 x3_1).length : Int)) = false := decide_eq_false c24
         clear c24
         have H' := am_ H
         clear H
         have p155 : 0 ≤ (x3_1 : Int) := of_decide_eq_true yqv11_
         have q155 : x3_1 < (y152.length : Int) := of_decide_eq_true yqv11_
         obtain ⟨ad155, A155_0, c155_0, e155, hx155_0, hl155_0, hi155_0⟩ := at_L6 (Kd.N_reads' HO_2.out).2.2 x3_1 p155 q155
         cases e155
         obtain ⟨ce155, hce155, hMe155, hcc155⟩ := Kd.N_get HO_2.out [] x3_1 p155 (by first | exact q155 | exact of_decide_eq_true yqv11_ | (have e_ := (Kd.N_reads' HO_2.out).1; omega))
         obtain ⟨ua155_0, uc155_0, rfl, ul155_0, ge155_0⟩ := Kd.FK_slice_open hMe155
         have hv155_0 := hcc155 0 _ rfl
         rw [Nat.add_zero, show ((Kd.slice 9 Kd.string)).sz = 1 from rfl, Nat.mul_one] at hv155_0
         replace hv155_0 := Option.some.inj (hv155_0.symm.trans hx155_0)
         injection hv155_0 with hva_ hvn_ hvc_
         rw [hva_] at ge155_0
         rw [hvc_] at ul155_0
         have HL155_0 := am_ (show Kd.V Kd.string 9 _ w.heap.size _ _ (rd_L6 y152 x3_1) from Kd.V_mk ul155_0 ge155_0)
         clear hva_ hvn_ hvc_ ge155_0 ul155_0
         clear hcc155 hce155
         have HR155_0 := am_ hi155_0
         have HC155_0 := am_ hl155_0
         clear hi155_0 hl155_0
         replace p155 := eq_true p155
         replace q155 := eq_true q155
         go_wp2
         go_roundg k2
         case measure => have := HK1.out; have := HK2.out; omega
         case rel => exact ⟨(x1_2), (wrap64 (x3_1 + 1)), (by first | rfl | (simp; done) | (simp [*]; done)), H', ⟨by have := HK1.out; have := HK2.out; omega⟩, ⟨(yru_ HO_1)⟩, ⟨by (with_reducible repeat (first | apply Kd.N_alloc | apply Kd.N_drewN | apply Kd.N_drew)); exact HO_2.out⟩, ⟨ybl_⟩⟩
       ·rw [if_neg c23] at H
        exact absurd H (by simp)
      ·rw [if_neg c22] at H
       exact absurd H (by simp)
   ·rw [if_neg c20] at H
    have c20b0 : decide (x3_1 < (y152.length : Int)) = false := decide_eq_false c20
    clear c20
    obtain rfl := Option.some.inj H
    obtain ⟨Ao28, co28, eo28⟩ := Kd.N_slice HO_2.out
    subst eo28
    go_wp2
    go_ret
    exact ⟨_, yk0_, by (with_reducible repeat (first | apply Kd.R_alloc | apply Kd.R_drewN | apply Kd.R_drew)); exact HO_1.out, ybl_⟩

/-! ### spec_l04Same: function 73 -/
def spec_l04Same.l0 : Nat → List (S75) → List (S75) → Int → Option (Bool)
 | 0, _, _, _ => none
 | k + 1, x0, x3, x4 => if x4 < (x3.length : Int) then (if 0 ≤ x4 then (if x4 < (x0.length : Int) then (if (!((((rd_T75 x0 x4).f0).toList) == (((rd_T75 x3 x4).f0).toList)) || (!(((rd_T75 x0 x4).f1) == ((rd_T75 x3 x4).f1)) || (!(((rd_T75 x0 x4).f2) == ((rd_T75 x3 x4).f2))))) = true then (some false) else (spec_l04Same.l0 k x0 x3 (wrap64 (x4 + 1)))) else (none)) else (none)) else (some true)
def spec_l04Same.f (k : Nat) (l0 : List (S75)) : Option (Bool) := (spec_l04Kernel.f k).bind fun t161 => (if (l0.length : Int) < (t161.length : Int) then (some false) else (spec_l04Same.l0 k l0 t161 0))
theorem spec_l04Same.mono_l : ∀ k, (∀ y0 y1 y2, LeO (spec_l04Same.l0 k y0 y1 y2) (spec_l04Same.l0 (k + 1) y0 y1 y2))
 | 0 => fun _ _ _ r h => by simp [spec_l04Same.l0] at h
 | k + 1 => by
  have ih0 := spec_l04Same.mono_l k
  ·intro y0 y1 y2
   unfold spec_l04Same.l0
   repeat' first
   | (with_reducible exact ih0 _ _ _)
   | (with_reducible exact spec_l04Kernel.mono _)
   | (with_reducible exact LeO.refl _)
   | (with_reducible exact LeO.none _)
   | (with_reducible refine LeO.ite ?_ ?_)
   | (with_reducible refine LeO.bind ?_ (fun _ => ?_))
   | exact ih0 _ _ _
   | exact spec_l04Kernel.mono _
   | exact LeO.none _
   | refine LeO.ite ?_ ?_
   | refine LeO.bind ?_ (fun _ => ?_)
theorem spec_l04Same.mono : ∀ a0 k, LeO (spec_l04Same.f k a0) (spec_l04Same.f (k + 1) a0) := by
 intro a0 k
 have ih0 := spec_l04Same.mono_l k
 unfold spec_l04Same.f
 repeat' first
   | (with_reducible exact ih0 _ _ _)
   | (with_reducible exact spec_l04Kernel.mono _)
   | (with_reducible exact LeO.refl _)
   | (with_reducible exact LeO.none _)
   | (with_reducible refine LeO.ite ?_ ?_)
   | (with_reducible refine LeO.bind ?_ (fun _ => ?_))
   | exact ih0 _ _ _
   | exact spec_l04Kernel.mono _
   | exact LeO.none _
   | refine LeO.ite ?_ ?_
   | refine LeO.bind ?_ (fun _ => ?_)
set_option maxHeartbeats 8000000 in
set_option maxRecDepth 100000 in
theorem spec_l04Same.calls (k : Nat) (A0 : Option Addr) (c0 : Nat) (l0 : List (S75)) (r : Bool) (w : World) (hr0 : Kd.C k75 w A0 l0.length l0) (hc0 : l0.length ≤ c0) (h : spec_l04Same.f k l0 = some r) :
  Calls Tryz.prog 73 #[.slice A0 l0.length c0] w fun e w' => e = .returned (.bool r) ∧ Below w.heap.size w w' := by
 have hu75 := Tryz.underlying75
 have HR0 := am_ hr0
 have HC0 := am_ hc0
 clear hr0 hc0
 have HB := am_ (Below.refl w.heap.size w)
 have H : ((spec_l04Kernel.f k).bind fun t161 => (if (l0.length : Int) < (t161.length : Int) then (some false) else (spec_l04Same.l0 k l0 t161 0))) = some r := h
 clear h
 replace H := Option.bind_eq_some_iff.mp H
 obtain ⟨t161, A20, H⟩ := H
 replace H : (if (l0.length : Int) < (t161.length : Int) then (some false) else (spec_l04Same.l0 k l0 t161 0)) = some r := H
 have A2 := am_ A20
 clear A20
 by_cases c3 : (l0.length : Int) < (t161.length : Int)
 ·rw [if_pos c3] at H
  have c3b0 : decide ((l0.length : Int) < (t161.length : Int)) = true := decide_eq_true c3
  have c3b1 : decide (l0.length < t161.length) = true := decide_eq_true (Int.ofNat_lt.mp c3)
  clear c3
  obtain rfl := Option.some.inj H
  go_enter Tryz.func73, Tryz.ntmps73
  go_wp2_with (first | (go_at_call 90; (with_reducible refine (spec_l04Kernel.calls k  t161 _ A2.out).mono ?_); rintro e w4 ⟨v162, rfl, ho0, hb⟩; have HO163 := am_ (Kd.R_lower ho0 (below_size ybl_)); replace HB := yst_ hb; (try clear hb); (try clear hb2); (try clear hk); (try clear hi); (try clear ho0); obtain ⟨Ao5, co5, eo5⟩ := Kd.R_slice HO163.out; subst eo5))
  repeat (go_quiet (first | (go_at_call 90; (with_reducible refine (spec_l04Kernel.calls k  t161 _ A2.out).mono ?_); rintro e w4 ⟨v162, rfl, ho0, hb⟩; have HO163 := am_ (Kd.R_lower ho0 (below_size ybl_)); replace HB := yst_ hb; (try clear hb); (try clear hb2); (try clear hk); (try clear hi); (try clear ho0); obtain ⟨Ao5, co5, eo5⟩ := Kd.R_slice HO163.out; subst eo5)); try go_wp2_with (first | (go_at_call 90; (with_reducible refine (spec_l04Kernel.calls k  t161 _ A2.out).mono ?_); rintro e w4 ⟨v162, rfl, ho0, hb⟩; have HO163 := am_ (Kd.R_lower ho0 (below_size ybl_)); replace HB := yst_ hb; (try clear hb); (try clear hb2); (try clear hk); (try clear hi); (try clear ho0); obtain ⟨Ao5, co5, eo5⟩ := Kd.R_slice HO163.out; subst eo5)))
  go_ret
  exact ⟨yk0_, ybl_⟩
 ·rw [if_neg c3] at H
  have c3b0 : decide ((l0.length : Int) < (t161.length : Int)) = false := decide_eq_false c3
  have c3b1 : decide (l0.length < t161.length) = false := decide_eq_false (fun h => c3 (Int.ofNat_lt.mpr h))
  clear c3
  have H' := am_ H
  clear H
  go_enter Tryz.func73, Tryz.ntmps73
  go_wp2_with (first | (go_at_call 90; (with_reducible refine (spec_l04Kernel.calls k  t161 _ A2.out).mono ?_); rintro e w6 ⟨v162, rfl, ho0, hb⟩; have HO163 := am_ (Kd.R_lower ho0 (below_size ybl_)); replace HB := yst_ hb; (try clear hb); (try clear hb2); (try clear hk); (try clear hi); (try clear ho0); obtain ⟨Ao7, co7, eo7⟩ := Kd.R_slice HO163.out; subst eo7))
  repeat (go_quiet (first | (go_at_call 90; (with_reducible refine (spec_l04Kernel.calls k  t161 _ A2.out).mono ?_); rintro e w6 ⟨v162, rfl, ho0, hb⟩; have HO163 := am_ (Kd.R_lower ho0 (below_size ybl_)); replace HB := yst_ hb; (try clear hb); (try clear hb2); (try clear hk); (try clear hi); (try clear ho0); obtain ⟨Ao7, co7, eo7⟩ := Kd.R_slice HO163.out; subst eo7)); try go_wp2_with (first | (go_at_call 90; (with_reducible refine (spec_l04Kernel.calls k  t161 _ A2.out).mono ?_); rintro e w6 ⟨v162, rfl, ho0, hb⟩; have HO163 := am_ (Kd.R_lower ho0 (below_size ybl_)); replace HB := yst_ hb; (try clear hb); (try clear hb2); (try clear hk); (try clear hi); (try clear ho0); obtain ⟨Ao7, co7, eo7⟩ := Kd.R_slice HO163.out; subst eo7)))
  go_loopg [4] k (fun kq v4 w' => ∃ (x4_1 : Int), v4 = .int .i64 x4_1 ∧ Aside0 (spec_l04Same.l0 kq l0 t161 x4_1 = some r) ∧ Aside0 (kq ≤ k) ∧ Aside0 (Kd.R k75 75 w' w.heap.size (fun _ => True) (.slice Ao7 t161.length co7) t161) ∧ Aside0 (Below w.heap.size w w'))
  case atStart => exact ⟨(0), (by first | rfl | (simp; done) | (simp [*]; done)), H', ⟨Nat.le_refl _⟩, ⟨(yru_ HO163)⟩, ⟨ybl_⟩⟩
  case round =>
   clear H'
   try clear p2
   try clear c3
   try clear c3b0
   try clear c3b1
   try clear c7
   obtain ⟨x4_1, rfl, HA, HK1, HO_3, HB⟩ := hrel
   cases gk with
   | zero => exact absurd HA.out (by simp [spec_l04Same.l0])
   | succ k1 =>
    have H := HA.out
    clear HA
    simp only [spec_l04Same.l0] at H
    by_cases c8 : x4_1 < (t161.length : Int)
    ·rw [if_pos c8] at H
     have c8b0 : decide (x4_1 < (t161.length : Int)) = true := decide_eq_true c8
     clear c8
     by_cases c9 : 0 ≤ x4_1
     ·rw [if_pos c9] at H
      have c9b0 : decide (0 ≤ x4_1) = true := decide_eq_true c9
      clear c9
      by_cases c10 : x4_1 < (l0.length : Int)
      ·rw [if_pos c10] at H
       have c10b0 : decide (x4_1 < (l0.length : Int)) = true := decide_eq_true c10
       clear c10
       by_cases c11 : (!((((rd_T75 l0 x4_1).f0).toList) == (((rd_T75 t161 x4_1).f0).toList)) || (!(((rd_T75 l0 x4_1).f1) == ((rd_T75 t161 x4_1).f1)) || (!(((rd_T75 l0 x4_1).f2) == ((rd_T75 t161 x4_1).f2))))) = true
       ·rw [if_pos c11] at H
        have c11b0 : (!((((rd_T75 l0 x4_1).f0).toList) == (((rd_T75 t161 x4_1).f0).toList)) || (!(((rd_T75 l0 x4_1).f1) == ((rd_T75 t161 x4_1).f1)) || (!(((rd_T75 l0 x4_1).f2) == ((rd_T75 t161 x4_1).f2))))) = true := c11
        clear c11
        obtain rfl := Option.some.inj H
        have p164 : 0 ≤ (x4_1 : Int) := of_decide_eq_true yqv11_
        have q164 : x4_1 < (l0.length : Int) := of_decide_eq_true yqv11_
        obtain ⟨ad164, e164, hx164_0, hx164_1, hx164_2⟩ := at_T75 HR0.out x4_1 p164 q164
        cases e164
        replace hx164_0 := ycst_ HB hx164_0
        replace hx164_1 := ycst_ HB hx164_1
        replace hx164_2 := ycst_ HB hx164_2
        replace p164 := eq_true p164
        replace q164 := eq_true q164
        have p165 : 0 ≤ (x4_1 : Int) := of_decide_eq_true yqv11_
        have q165 : x4_1 < (t161.length : Int) := of_decide_eq_true yqv11_
        obtain ⟨ad165, e165, hx165_0, hx165_1, hx165_2⟩ := at_T75 (Kd.R_reads' HO_3.out).2.2 x4_1 p165 q165
        cases e165
        replace p165 := eq_true p165
        replace q165 := eq_true q165
        go_wp2
        repeat (go_quiet (fail); try go_wp2)
        go_ret
        exact ⟨yk0_, ybl_⟩
       ·rw [if_neg c11] at H
        have c11b0 : (!((((rd_T75 l0 x4_1).f0).toList) == (((rd_T75 t161 x4_1).f0).toList)) || (!(((rd_T75 l0 x4_1).f1) == ((rd_T75 t161 x4_1).f1)) || (!(((rd_T75 l0 x4_1).f2) == ((rd_T75 t161 x4_1).f2))))) = false := by simpa using c11
        clear c11
        have H' := am_ H
        clear H
        have p164 : 0 ≤ (x4_1 : Int) := of_decide_eq_true yqv11_
        have q164 : x4_1 < (l0.length : Int) := of_decide_eq_true yqv11_
        obtain ⟨ad164, e164, hx164_0, hx164_1, hx164_2⟩ := at_T75 HR0.out x4_1 p164 q164
        cases e164
        replace hx164_0 := ycst_ HB hx164_0
        replace hx164_1 := ycst_ HB hx164_1
        replace hx164_2 := ycst_ HB hx164_2
        replace p164 := eq_true p164
        replace q164 := eq_true q164
        have p165 : 0 ≤ (x4_1 : Int) := of_decide_eq_true yqv11_
        have q165 : x4_1 < (t161.length : Int) := of_decide_eq_true yqv11_
        obtain ⟨ad165, e165, hx165_0, hx165_1, hx165_2⟩ := at_T75 (Kd.R_reads' HO_3.out).2.2 x4_1 p165 q165
        cases e165
        replace p165 := eq_true p165
        replace q165 := eq_true q165
        go_wp2
        repeat (go_quiet (fail); try go_wp2)
        go_roundg k1
        case measure => have := HK1.out; omega
        case rel => exact ⟨(wrap64 (x4_1 + 1)), (by first | rfl | (simp; done) | (simp [*]; done)), H', ⟨by have := HK1.out; omega⟩, ⟨(yru_ HO_3)⟩, ⟨ybl_⟩⟩
      ·rw [if_neg c10] at H
       exact absurd H (by simp)
     ·rw [if_neg c9] at H
      exact absurd H (by simp)
    ·rw [if_neg c8] at H
     have c8b0 : decide (x4_1 < (t161.length : Int)) = false := decide_eq_false c8
     clear c8
     obtain rfl := Option.some.inj H
     go_wp2
     repeat (go_quiet (fail); try go_wp2)
     go_ret
     exact ⟨yk0_, ybl_⟩

/-! ### spec_l01In: function 43 -/
def spec_l01In.f (a0 : Int) (a1 : Int) (a2 : Int) : Option (Bool) := if a0 ≥ a1 then (some (decide (a0 ≤ a2))) else (some false)
set_option maxHeartbeats 8000000 in
set_option maxRecDepth 100000 in
theorem spec_l01In.calls (a0 : Int) (a1 : Int) (a2 : Int) (r : Bool) (w : World) (h : spec_l01In.f a0 a1 a2 = some r) :
  Calls Tryz.prog 43 #[.int .i64 a0, .int .i64 a1, .int .i64 a2] w fun e w' => e = .returned (.bool r) ∧ Drawn0 w w' := by
 have H : (if a0 ≥ a1 then (some (decide (a0 ≤ a2))) else (some false)) = some r := h
 clear h
 by_cases c4 : a0 ≥ a1
 ·rw [if_pos c4] at H
  have c4b0 : decide (a1 ≤ a0) = true := decide_eq_true c4
  clear c4
  obtain rfl := Option.some.inj H
  go_enter Tryz.func43, Tryz.ntmps43
  go_wp2
  go_ret
  exact ⟨by first | rfl | (simp; done) | (simp [*]; done), by repeat (first | exact Drawn0.refl _ | apply Drawn0.step)⟩
 ·rw [if_neg c4] at H
  have c4b0 : decide (a1 ≤ a0) = false := decide_eq_false c4
  clear c4
  obtain rfl := Option.some.inj H
  go_enter Tryz.func43, Tryz.ntmps43
  go_wp2
  go_ret
  exact ⟨by first | rfl | (simp; done) | (simp [*]; done), by repeat (first | exact Drawn0.refl _ | apply Drawn0.step)⟩

/-! ### spec_l01Cell: function 75 -/
def spec_l01Cell.f (a0 : Int) : Option (Bool) := (spec_l01In.f a0 (-2147483648) 2147483647).bind fun t166 => (some t166)
set_option maxHeartbeats 8000000 in
set_option maxRecDepth 100000 in
theorem spec_l01Cell.calls (a0 : Int) (r : Bool) (w : World) (h : spec_l01Cell.f a0 = some r) :
  Calls Tryz.prog 75 #[.int .i64 a0] w fun e w' => e = .returned (.bool r) ∧ Drawn0 w w' := by
 have H : ((spec_l01In.f a0 (-2147483648) 2147483647).bind fun t166 => (some t166)) = some r := h
 clear h
 replace H := Option.bind_eq_some_iff.mp H
 obtain ⟨t166, A20, H⟩ := H
 replace H : (some t166) = some r := H
 have A2 := am_ A20
 clear A20
 obtain rfl := Option.some.inj H
 go_enter Tryz.func75, Tryz.ntmps75
 go_wp2_with (first | ((with_reducible refine gate_callee (f := 43) rfl ?_); refine goesL_ (some 4) rfl rfl Tryz.func43 (by kernel_rfl) rfl #[.int .i64 a0, .int .i64 (-2147483648), .int .i64 2147483647] rfl yk1_ ?_; (with_reducible refine (spec_l01In.calls a0 (-2147483648) 2147483647 t166 _ A2.out).mono ?_); rintro e w' ⟨rfl, ⟨nd, rfl⟩⟩; refine ⟨_, rfl, ?_⟩))
 go_ret
 exact ⟨by first | rfl | (simp; done) | (simp [*]; done), by repeat (first | exact Drawn0.refl _ | apply Drawn0.step)⟩

/-! ### spec_l02Word: function 91 -/
def spec_l02Word.l0 : Nat → ByteArray → Int → Option (Bool)
 | 0, _, _ => none
 | k + 1, x0, x3 => if x3 < (x0.size : Int) then (if 0 ≤ x3 then ((spec_l01In.f (wrap64 (bt x0 x3)) 33 126).bind fun t168 => (if t168 = true then (spec_l02Word.l0 k x0 (wrap64 (x3 + 1))) else (some false))) else (none)) else (some true)
def spec_l02Word.f (k : Nat) (a0 : ByteArray) : Option (Bool) := (spec_l01In.f (a0.size : Int) 1 12).bind fun t167 => (if t167 = true then (spec_l02Word.l0 k a0 0) else (some false))
theorem spec_l02Word.mono_l : ∀ k, (∀ y0 y1, LeO (spec_l02Word.l0 k y0 y1) (spec_l02Word.l0 (k + 1) y0 y1))
 | 0 => fun _ _ r h => by simp [spec_l02Word.l0] at h
 | k + 1 => by
  have ih0 := spec_l02Word.mono_l k
  ·intro y0 y1
   unfold spec_l02Word.l0
   repeat' first
   | (with_reducible exact ih0 _ _)
   | (with_reducible exact LeO.refl _)
   | (with_reducible exact LeO.none _)
   | (with_reducible refine LeO.ite ?_ ?_)
   | (with_reducible refine LeO.bind ?_ (fun _ => ?_))
   | exact ih0 _ _
   | exact LeO.none _
   | refine LeO.ite ?_ ?_
   | refine LeO.bind ?_ (fun _ => ?_)
theorem spec_l02Word.mono : ∀ a0 k, LeO (spec_l02Word.f k a0) (spec_l02Word.f (k + 1) a0) := by
 intro a0 k
 have ih0 := spec_l02Word.mono_l k
 unfold spec_l02Word.f
 repeat' first
   | (with_reducible exact ih0 _ _)
   | (with_reducible exact LeO.refl _)
   | (with_reducible exact LeO.none _)
   | (with_reducible refine LeO.ite ?_ ?_)
   | (with_reducible refine LeO.bind ?_ (fun _ => ?_))
   | exact ih0 _ _
   | exact LeO.none _
   | refine LeO.ite ?_ ?_
   | refine LeO.bind ?_ (fun _ => ?_)
set_option maxHeartbeats 8000000 in
set_option maxRecDepth 100000 in
theorem spec_l02Word.calls (k : Nat) (a0 : ByteArray) (r : Bool) (w : World) (h : spec_l02Word.f k a0 = some r) :
  Calls Tryz.prog 91 #[.string a0] w fun e w' => e = .returned (.bool r) ∧ Drawn0 w w' := by
 have H : ((spec_l01In.f (a0.size : Int) 1 12).bind fun t167 => (if t167 = true then (spec_l02Word.l0 k a0 0) else (some false))) = some r := h
 clear h
 replace H := Option.bind_eq_some_iff.mp H
 obtain ⟨t167, A20, H⟩ := H
 replace H : (if t167 = true then (spec_l02Word.l0 k a0 0) else (some false)) = some r := H
 have A2 := am_ A20
 clear A20
 by_cases c3 : t167 = true
 ·subst c3
  have H1 : (spec_l02Word.l0 k a0 0) = some r := by rw [if_pos rfl] at H; first | done | exact H
  clear H
  have H := H1
  clear H1
  have H' := am_ H
  clear H
  go_enter Tryz.func91, Tryz.ntmps91
  go_wp2_with (first | ((with_reducible refine gate_callee (f := 43) rfl ?_); refine goesL_ (some 6) rfl rfl Tryz.func43 (by kernel_rfl) rfl #[.int .i64 (a0.size : Int), .int .i64 1, .int .i64 12] rfl yk1_ ?_; (with_reducible refine (spec_l01In.calls (a0.size : Int) 1 12 true _ A2.out).mono ?_); rintro e w' ⟨rfl, ⟨nd, rfl⟩⟩; refine ⟨_, rfl, ?_⟩))
  go_loopg [3] k (fun kq v3 w' => ∃ (x3_1 : Int), v3 = .int .i64 x3_1 ∧ Aside0 (spec_l02Word.l0 kq a0 x3_1 = some r) ∧ Aside0 (kq ≤ k) ∧ Drawn0 w w')
  case atStart => exact ⟨(0), (by first | rfl | (simp; done) | (simp [*]; done)), H', ⟨Nat.le_refl _⟩, by repeat (first | exact Drawn0.refl _ | apply Drawn0.step)⟩
  case round =>
   clear H'
   try clear p2
   try clear c3
   obtain ⟨x3_1, rfl, HA, HK1, ⟨m1, rfl⟩⟩ := hrel
   cases gk with
   | zero => exact absurd HA.out (by simp [spec_l02Word.l0])
   | succ k1 =>
    have H := HA.out
    clear HA
    simp only [spec_l02Word.l0] at H
    by_cases c4 : x3_1 < (a0.size : Int)
    ·rw [if_pos c4] at H
     have c4b0 : decide (x3_1 < (a0.size : Int)) = true := decide_eq_true c4
     clear c4
     by_cases c5 : 0 ≤ x3_1
     ·rw [if_pos c5] at H
      have c5b0 : decide (0 ≤ x3_1) = true := decide_eq_true c5
      clear c5
      replace H := Option.bind_eq_some_iff.mp H
      obtain ⟨t168, A70, H⟩ := H
      replace H : (if t168 = true then (spec_l02Word.l0 k1 a0 (wrap64 (x3_1 + 1))) else (some false)) = some r := H
      have A7 := am_ A70
      clear A70
      by_cases c8 : t168 = true
      ·subst c8
       have H1 : (spec_l02Word.l0 k1 a0 (wrap64 (x3_1 + 1))) = some r := by rw [if_pos rfl] at H; first | done | exact H
       clear H
       have H := H1
       clear H1
       have H' := am_ H
       clear H
       have p6 : 0 ≤ (x3_1 : Int) := of_decide_eq_true yqv11_
       have q6 : x3_1 < (a0.size : Int) := of_decide_eq_true yqv11_
       have hx6 := bt_at a0 x3_1
       replace p6 := eq_true p6
       replace q6 := eq_true q6
       go_wp2_with (first | ((with_reducible refine gate_callee (f := 43) rfl ?_); refine goesL_ (some 18) rfl rfl Tryz.func43 (by kernel_rfl) rfl #[.int .i64 (wrap64 (bt a0 x3_1)), .int .i64 33, .int .i64 126] rfl yk1_ ?_; (with_reducible refine (spec_l01In.calls (wrap64 (bt a0 x3_1)) 33 126 true _ A7.out).mono ?_); rintro e w' ⟨rfl, ⟨nd, rfl⟩⟩; refine ⟨_, rfl, ?_⟩))
       go_roundg k1
       case measure => have := HK1.out; omega
       case rel => exact ⟨(wrap64 (x3_1 + 1)), (by first | rfl | (simp; done) | (simp [*]; done)), H', ⟨by have := HK1.out; omega⟩, by repeat (first | exact Drawn0.refl _ | apply Drawn0.step)⟩
      ·replace c8 := Bool.eq_false_iff.mpr c8
       subst c8
       have H1 : (some false) = some r := by rw [if_neg (show ¬ (false = true) by decide)] at H; first | done | exact H
       clear H
       have H := H1
       clear H1
       obtain rfl := Option.some.inj H
       have p6 : 0 ≤ (x3_1 : Int) := of_decide_eq_true yqv11_
       have q6 : x3_1 < (a0.size : Int) := of_decide_eq_true yqv11_
       have hx6 := bt_at a0 x3_1
       replace p6 := eq_true p6
       replace q6 := eq_true q6
       go_wp2_with (first | ((with_reducible refine gate_callee (f := 43) rfl ?_); refine goesL_ (some 18) rfl rfl Tryz.func43 (by kernel_rfl) rfl #[.int .i64 (wrap64 (bt a0 x3_1)), .int .i64 33, .int .i64 126] rfl yk1_ ?_; (with_reducible refine (spec_l01In.calls (wrap64 (bt a0 x3_1)) 33 126 false _ A7.out).mono ?_); rintro e w' ⟨rfl, ⟨nd, rfl⟩⟩; refine ⟨_, rfl, ?_⟩))
       go_ret
       exact ⟨by first | rfl | (simp; done) | (simp [*]; done), by repeat (first | exact Drawn0.refl _ | apply Drawn0.step)⟩
     ·rw [if_neg c5] at H
      exact absurd H (by simp)
    ·rw [if_neg c4] at H
     have c4b0 : decide (x3_1 < (a0.size : Int)) = false := decide_eq_false c4
     clear c4
     obtain rfl := Option.some.inj H
     go_wp2
     go_ret
     exact ⟨by first | rfl | (simp; done) | (simp [*]; done), by repeat (first | exact Drawn0.refl _ | apply Drawn0.step)⟩
 ·replace c3 := Bool.eq_false_iff.mpr c3
  subst c3
  have H1 : (some false) = some r := by rw [if_neg (show ¬ (false = true) by decide)] at H; first | done | exact H
  clear H
  have H := H1
  clear H1
  obtain rfl := Option.some.inj H
  go_enter Tryz.func91, Tryz.ntmps91
  go_wp2_with (first | ((with_reducible refine gate_callee (f := 43) rfl ?_); refine goesL_ (some 6) rfl rfl Tryz.func43 (by kernel_rfl) rfl #[.int .i64 (a0.size : Int), .int .i64 1, .int .i64 12] rfl yk1_ ?_; (with_reducible refine (spec_l01In.calls (a0.size : Int) 1 12 false _ A2.out).mono ?_); rintro e w' ⟨rfl, ⟨nd, rfl⟩⟩; refine ⟨_, rfl, ?_⟩))
  go_ret
  exact ⟨by first | rfl | (simp; done) | (simp [*]; done), by repeat (first | exact Drawn0.refl _ | apply Drawn0.step)⟩

/-! ### spec_l04User: function 74 -/
def spec_l04User.f (k : Nat) (a0_0 : ByteArray) (a0_1 : Int) (a0_2 : Int) : Option (Bool) := (spec_l02Word.f k a0_0).bind fun t170 => (if t170 = true then (if a0_1 = 6 then ((spec_l01In.f a0_2 0 399).bind fun t171 => (some t171)) else (if a0_1 = 7 then ((spec_l01In.f a0_2 4096 4220).bind fun t172 => (if t172 = true then (some ((Int.tmod a0_2 4) == 0)) else (some false))) else (if a0_1 = 8 then ((spec_l01Cell.f a0_2).bind fun t173 => (some t173)) else (some false)))) else (some false))
theorem spec_l04User.mono : ∀ a0 a1 a2 k, LeO (spec_l04User.f k a0 a1 a2) (spec_l04User.f (k + 1) a0 a1 a2) := by
 intro a0 a1 a2 k
 unfold spec_l04User.f
 repeat' first
   | (with_reducible exact spec_l02Word.mono _ _)
   | (with_reducible exact LeO.refl _)
   | (with_reducible exact LeO.none _)
   | (with_reducible refine LeO.ite ?_ ?_)
   | (with_reducible refine LeO.bind ?_ (fun _ => ?_))
   | exact spec_l02Word.mono _ _
   | exact LeO.none _
   | refine LeO.ite ?_ ?_
   | refine LeO.bind ?_ (fun _ => ?_)
set_option maxHeartbeats 8000000 in
set_option maxRecDepth 100000 in
theorem spec_l04User.calls (k : Nat) (a0_0 : ByteArray) (a0_1 : Int) (a0_2 : Int) (r : Bool) (w : World) (h : spec_l04User.f k a0_0 a0_1 a0_2 = some r) :
  Calls Tryz.prog 74 #[.agg #[.string a0_0, .int .i64 a0_1, .int .i64 a0_2]] w fun e w' => e = .returned (.bool r) ∧ Below w.heap.size w w' := by
 have hu75 := Tryz.underlying75
 have HB := am_ (Below.refl w.heap.size w)
 have H : ((spec_l02Word.f k a0_0).bind fun t170 => (if t170 = true then (if a0_1 = 6 then ((spec_l01In.f a0_2 0 399).bind fun t171 => (some t171)) else (if a0_1 = 7 then ((spec_l01In.f a0_2 4096 4220).bind fun t172 => (if t172 = true then (some ((Int.tmod a0_2 4) == 0)) else (some false))) else (if a0_1 = 8 then ((spec_l01Cell.f a0_2).bind fun t173 => (some t173)) else (some false)))) else (some false))) = some r := h
 clear h
 replace H := Option.bind_eq_some_iff.mp H
 obtain ⟨t170, A20, H⟩ := H
 replace H : (if t170 = true then (if a0_1 = 6 then ((spec_l01In.f a0_2 0 399).bind fun t171 => (some t171)) else (if a0_1 = 7 then ((spec_l01In.f a0_2 4096 4220).bind fun t172 => (if t172 = true then (some ((Int.tmod a0_2 4) == 0)) else (some false))) else (if a0_1 = 8 then ((spec_l01Cell.f a0_2).bind fun t173 => (some t173)) else (some false)))) else (some false)) = some r := H
 have A2 := am_ A20
 clear A20
 by_cases c3 : t170 = true
 ·subst c3
  have H1 : (if a0_1 = 6 then ((spec_l01In.f a0_2 0 399).bind fun t171 => (some t171)) else (if a0_1 = 7 then ((spec_l01In.f a0_2 4096 4220).bind fun t172 => (if t172 = true then (some ((Int.tmod a0_2 4) == 0)) else (some false))) else (if a0_1 = 8 then ((spec_l01Cell.f a0_2).bind fun t173 => (some t173)) else (some false)))) = some r := by rw [if_pos rfl] at H; first | done | exact H
  clear H
  have H := H1
  clear H1
  by_cases c4 : a0_1 = 6
  ·rw [if_pos c4] at H
   have c4b0 : (a0_1 == 6) = true := beq_iff_eq.mpr c4
   have c4b1 : (a0_1 != 6) = false := bne_eq_false_iff_eq.mpr c4
   clear c4
   replace H := Option.bind_eq_some_iff.mp H
   obtain ⟨t171, A50, H⟩ := H
   replace H : (some t171) = some r := H
   have A5 := am_ A50
   clear A50
   obtain rfl := Option.some.inj H
   go_enter Tryz.func74, Tryz.ntmps74
   go_wp2_with (first | ((with_reducible refine gate_dst (N := 1) rfl ?_); refine box_event ?hg (N := 1) ?hd (cs := #[.string a0_0, .int .i64 a0_1, .int .i64 a0_2]) (t := 75) ?hr ?_; (case hd => rfl); (case hg => rfl); (case hr => first | (go_simp; done) | (go_simp; rfl)); intro gb169 hg w6 hbox hb; have BK169 := am_ (hbox); have GW169 := am_ ((ybsz_ hg : w.heap.size ≤ gb169)); have GE169 := GW169; replace HB := yst_ hb; clear hb hbox hg; have hcz7 := ye3_ BK169; have hfz7 := yf3_ BK169) | ((with_reducible refine gate_callee (f := 91) rfl ?_); refine goesL_ (some 5) rfl rfl Tryz.func91 (by kernel_rfl) rfl #[.string a0_0] rfl yk1_ ?_; (with_reducible refine (spec_l02Word.calls k a0_0 true _ A2.out).mono ?_); rintro e w' ⟨rfl, ⟨nd, rfl⟩⟩; refine ⟨_, rfl, ?_⟩) | ((with_reducible refine gate_callee (f := 43) rfl ?_); refine goesL_ (some 13) rfl rfl Tryz.func43 (by kernel_rfl) rfl #[.int .i64 a0_2, .int .i64 0, .int .i64 399] rfl yk1_ ?_; (with_reducible refine (spec_l01In.calls a0_2 0 399 t171 _ A5.out).mono ?_); rintro e w' ⟨rfl, ⟨nd, rfl⟩⟩; refine ⟨_, rfl, ?_⟩))
   go_ret
   exact ⟨yk0_, ybl_⟩
  ·rw [if_neg c4] at H
   have c4b0 : (a0_1 == 6) = false := beq_eq_false_iff_ne.mpr c4
   have c4b1 : (a0_1 != 6) = true := bne_iff_ne.mpr c4
   by_cases c8 : a0_1 = 7
   ·rw [if_pos c8] at H
    have c8b0 : (a0_1 == 7) = true := beq_iff_eq.mpr c8
    have c8b1 : (a0_1 != 7) = false := bne_eq_false_iff_eq.mpr c8
    clear c8
    replace H := Option.bind_eq_some_iff.mp H
    obtain ⟨t172, A90, H⟩ := H
    replace H : (if t172 = true then (some ((Int.tmod a0_2 4) == 0)) else (some false)) = some r := H
    have A9 := am_ A90
    clear A90
    by_cases c10 : t172 = true
    ·subst c10
     have H1 : (some ((Int.tmod a0_2 4) == 0)) = some r := by rw [if_pos rfl] at H; first | done | exact H
     clear H
     have H := H1
     clear H1
     obtain rfl := Option.some.inj H
     go_enter Tryz.func74, Tryz.ntmps74
     go_wp2_with (first | ((with_reducible refine gate_dst (N := 1) rfl ?_); refine box_event ?hg (N := 1) ?hd (cs := #[.string a0_0, .int .i64 a0_1, .int .i64 a0_2]) (t := 75) ?hr ?_; (case hd => rfl); (case hg => rfl); (case hr => first | (go_simp; done) | (go_simp; rfl)); intro gb169 hg w11 hbox hb; have BK169 := am_ (hbox); have GW169 := am_ ((ybsz_ hg : w.heap.size ≤ gb169)); have GE169 := GW169; replace HB := yst_ hb; clear hb hbox hg; have hcz12 := ye3_ BK169; have hfz12 := yf3_ BK169) | ((with_reducible refine gate_callee (f := 91) rfl ?_); refine goesL_ (some 5) rfl rfl Tryz.func91 (by kernel_rfl) rfl #[.string a0_0] rfl yk1_ ?_; (with_reducible refine (spec_l02Word.calls k a0_0 true _ A2.out).mono ?_); rintro e w' ⟨rfl, ⟨nd, rfl⟩⟩; refine ⟨_, rfl, ?_⟩) | ((with_reducible refine gate_callee (f := 43) rfl ?_); refine goesL_ (some 18) rfl rfl Tryz.func43 (by kernel_rfl) rfl #[.int .i64 a0_2, .int .i64 4096, .int .i64 4220] rfl yk1_ ?_; (with_reducible refine (spec_l01In.calls a0_2 4096 4220 true _ A9.out).mono ?_); rintro e w' ⟨rfl, ⟨nd, rfl⟩⟩; refine ⟨_, rfl, ?_⟩))
     go_ret
     exact ⟨yk0_, ybl_⟩
    ·replace c10 := Bool.eq_false_iff.mpr c10
     subst c10
     have H1 : (some false) = some r := by rw [if_neg (show ¬ (false = true) by decide)] at H; first | done | exact H
     clear H
     have H := H1
     clear H1
     obtain rfl := Option.some.inj H
     go_enter Tryz.func74, Tryz.ntmps74
     go_wp2_with (first | ((with_reducible refine gate_dst (N := 1) rfl ?_); refine box_event ?hg (N := 1) ?hd (cs := #[.string a0_0, .int .i64 a0_1, .int .i64 a0_2]) (t := 75) ?hr ?_; (case hd => rfl); (case hg => rfl); (case hr => first | (go_simp; done) | (go_simp; rfl)); intro gb169 hg w13 hbox hb; have BK169 := am_ (hbox); have GW169 := am_ ((ybsz_ hg : w.heap.size ≤ gb169)); have GE169 := GW169; replace HB := yst_ hb; clear hb hbox hg; have hcz14 := ye3_ BK169; have hfz14 := yf3_ BK169) | ((with_reducible refine gate_callee (f := 91) rfl ?_); refine goesL_ (some 5) rfl rfl Tryz.func91 (by kernel_rfl) rfl #[.string a0_0] rfl yk1_ ?_; (with_reducible refine (spec_l02Word.calls k a0_0 true _ A2.out).mono ?_); rintro e w' ⟨rfl, ⟨nd, rfl⟩⟩; refine ⟨_, rfl, ?_⟩) | ((with_reducible refine gate_callee (f := 43) rfl ?_); refine goesL_ (some 18) rfl rfl Tryz.func43 (by kernel_rfl) rfl #[.int .i64 a0_2, .int .i64 4096, .int .i64 4220] rfl yk1_ ?_; (with_reducible refine (spec_l01In.calls a0_2 4096 4220 false _ A9.out).mono ?_); rintro e w' ⟨rfl, ⟨nd, rfl⟩⟩; refine ⟨_, rfl, ?_⟩))
     go_ret
     exact ⟨yk0_, ybl_⟩
   ·rw [if_neg c8] at H
    have c8b0 : (a0_1 == 7) = false := beq_eq_false_iff_ne.mpr c8
    have c8b1 : (a0_1 != 7) = true := bne_iff_ne.mpr c8
    by_cases c15 : a0_1 = 8
    ·rw [if_pos c15] at H
     have c15b0 : (a0_1 == 8) = true := beq_iff_eq.mpr c15
     have c15b1 : (a0_1 != 8) = false := bne_eq_false_iff_eq.mpr c15
     clear c15
     replace H := Option.bind_eq_some_iff.mp H
     obtain ⟨t173, A160, H⟩ := H
     replace H : (some t173) = some r := H
     have A16 := am_ A160
     clear A160
     obtain rfl := Option.some.inj H
     go_enter Tryz.func74, Tryz.ntmps74
     go_wp2_with (first | ((with_reducible refine gate_dst (N := 1) rfl ?_); refine box_event ?hg (N := 1) ?hd (cs := #[.string a0_0, .int .i64 a0_1, .int .i64 a0_2]) (t := 75) ?hr ?_; (case hd => rfl); (case hg => rfl); (case hr => first | (go_simp; done) | (go_simp; rfl)); intro gb169 hg w17 hbox hb; have BK169 := am_ (hbox); have GW169 := am_ ((ybsz_ hg : w.heap.size ≤ gb169)); have GE169 := GW169; replace HB := yst_ hb; clear hb hbox hg; have hcz18 := ye3_ BK169; have hfz18 := yf3_ BK169) | ((with_reducible refine gate_callee (f := 91) rfl ?_); refine goesL_ (some 5) rfl rfl Tryz.func91 (by kernel_rfl) rfl #[.string a0_0] rfl yk1_ ?_; (with_reducible refine (spec_l02Word.calls k a0_0 true _ A2.out).mono ?_); rintro e w' ⟨rfl, ⟨nd, rfl⟩⟩; refine ⟨_, rfl, ?_⟩) | ((with_reducible refine gate_callee (f := 75) rfl ?_); refine goesL_ (some 29) rfl rfl Tryz.func75 (by kernel_rfl) rfl #[.int .i64 a0_2] rfl yk1_ ?_; (with_reducible refine (spec_l01Cell.calls a0_2 t173 _ A16.out).mono ?_); rintro e w' ⟨rfl, ⟨nd, rfl⟩⟩; refine ⟨_, rfl, ?_⟩))
     go_ret
     exact ⟨yk0_, ybl_⟩
    ·rw [if_neg c15] at H
     have c15b0 : (a0_1 == 8) = false := beq_eq_false_iff_ne.mpr c15
     have c15b1 : (a0_1 != 8) = true := bne_iff_ne.mpr c15
     obtain rfl := Option.some.inj H
     go_enter Tryz.func74, Tryz.ntmps74
     go_wp2_with (first | ((with_reducible refine gate_dst (N := 1) rfl ?_); refine box_event ?hg (N := 1) ?hd (cs := #[.string a0_0, .int .i64 a0_1, .int .i64 a0_2]) (t := 75) ?hr ?_; (case hd => rfl); (case hg => rfl); (case hr => first | (go_simp; done) | (go_simp; rfl)); intro gb169 hg w19 hbox hb; have BK169 := am_ (hbox); have GW169 := am_ ((ybsz_ hg : w.heap.size ≤ gb169)); have GE169 := GW169; replace HB := yst_ hb; clear hb hbox hg; have hcz20 := ye3_ BK169; have hfz20 := yf3_ BK169) | ((with_reducible refine gate_callee (f := 91) rfl ?_); refine goesL_ (some 5) rfl rfl Tryz.func91 (by kernel_rfl) rfl #[.string a0_0] rfl yk1_ ?_; (with_reducible refine (spec_l02Word.calls k a0_0 true _ A2.out).mono ?_); rintro e w' ⟨rfl, ⟨nd, rfl⟩⟩; refine ⟨_, rfl, ?_⟩))
     go_ret
     exact ⟨yk0_, ybl_⟩
 ·replace c3 := Bool.eq_false_iff.mpr c3
  subst c3
  have H1 : (some false) = some r := by rw [if_neg (show ¬ (false = true) by decide)] at H; first | done | exact H
  clear H
  have H := H1
  clear H1
  obtain rfl := Option.some.inj H
  go_enter Tryz.func74, Tryz.ntmps74
  go_wp2_with (first | ((with_reducible refine gate_dst (N := 1) rfl ?_); refine box_event ?hg (N := 1) ?hd (cs := #[.string a0_0, .int .i64 a0_1, .int .i64 a0_2]) (t := 75) ?hr ?_; (case hd => rfl); (case hg => rfl); (case hr => first | (go_simp; done) | (go_simp; rfl)); intro gb169 hg w21 hbox hb; have BK169 := am_ (hbox); have GW169 := am_ ((ybsz_ hg : w.heap.size ≤ gb169)); have GE169 := GW169; replace HB := yst_ hb; clear hb hbox hg; have hcz22 := ye3_ BK169; have hfz22 := yf3_ BK169) | ((with_reducible refine gate_callee (f := 91) rfl ?_); refine goesL_ (some 5) rfl rfl Tryz.func91 (by kernel_rfl) rfl #[.string a0_0] rfl yk1_ ?_; (with_reducible refine (spec_l02Word.calls k a0_0 false _ A2.out).mono ?_); rintro e w' ⟨rfl, ⟨nd, rfl⟩⟩; refine ⟨_, rfl, ?_⟩))
  go_ret
  exact ⟨yk0_, ybl_⟩

end Go.Proofs.YtbbfahkmjfmmjaaGreatDoor.PMOK
