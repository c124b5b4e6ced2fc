-- laid by a program of this session out of the translation's own print: Lean checks it
import Derived.Test.YtbbfahkmjfmmjaaDoorPDictx0
import Derived.Test.YtbbfahkmjfmmjaaDoorPDictx2
import Derived.Test.YtbbfahkmjfmmjaaDoorPDictx3
import Derived.Test.YtbbfahkmjfmmjaaDoorPDictx8
import Derived.Test.YtbbfahkmjfmmjaaDoorPDictx9
import Derived.Test.YtbbfahkmjfmmjaaDoorPDictx10
namespace Go.Proofs.YtbbfahkmjfmmjaaDoor.PDict
open Go.RowKit Go.Proofs.YtbbfahkmjfmmjaaDoorW.PrintWords Go.Proofs.YtbbfahkmjfmmjaaDoorW.PrintLast Go.Proofs.YtbbfahkmjfmmjaaDoorW.PrintMore
attribute [local go_sem] max2_int min2_int max_two min_two max_three min_three max_four min_four   -- for this text's walks alone
set_option linter.unusedVariables false
set_option linter.unusedSimpArgs false

/-! ### laws_FnExactAddWord: function 7 -/
def laws_FnExactAddWord.f (k : Nat) (l0 : List (S35)) (a1_0 : ByteArray) (a1_1 : Int) (a1_2 : Int) : Option (Bool) := (laws_szWordS.f k l0 1048576).bind fun t334 => (if t334 < 0 then (some true) else ((laws_szWord.f a1_0 a1_1 a1_2 t334).bind fun t335 => (if t335 < 0 then (some true) else ((laws_toWordS.f k l0).bind fun t336 => ((laws_toWord.f a1_0 a1_1 a1_2).bind fun bt339 => ((spec_AddWord.f k t336 bt339.1 bt339.2.1 bt339.2.2).bind fun bt342 => ((laws_toWordS.f k l0).bind fun t347 => ((laws_toWord.f a1_0 a1_1 a1_2).bind fun bt350 => ((impl_AddWord.f k t347 bt350.1 bt350.2.1 bt350.2.2).bind fun bt353 => ((laws_eqWordS.f k bt353.1 bt342.1).bind fun t358 => (if t358 = true then (if bt353.2.1 = bt342.2.1 then (if bt353.2.2 = bt342.2.2 then ((laws_toWordS.f k l0).bind fun t359 => ((laws_eqWordS.f k t347 t359).bind fun t362 => (if t362 = true then ((laws_markWordS.f k t347 1).bind fun bt363 => (if bt363.1 < 0 then (some false) else ((laws_eqWordS.f k bt353.1 bt342.1).bind fun t365 => (if t365 = true then ((laws_markWordS.f k bt353.1 1).bind fun bt366 => ((laws_heldWordS.f k bt366.2 1).bind fun t368 => (if t368 < 0 then (some false) else (if t368 = bt366.1 then ((laws_toWordS.f k l0).bind fun t369 => ((laws_toWord.f a1_0 a1_1 a1_2).bind fun bt372 => ((impl_AddWord.f k t369 bt372.1 bt372.2.1 bt372.2.2).bind fun bt375 => ((laws_eqWordS.f k bt375.1 bt342.1).bind fun t380 => (if t380 = true then (if bt375.2.1 = bt342.2.1 then (if bt375.2.2 = bt342.2.2 then ((laws_heldWordS.f k bt366.2 1).bind fun t381 => (if t381 < 0 then (some false) else (if t381 = bt366.1 then (some true) else (some false)))) else (some false)) else (some false)) else (some false)))))) else (some false))))) else (some false))))) else (some false)))) else (some false)) else (some false)) else (some false))))))))))))
theorem laws_FnExactAddWord.mono : ∀ a0 a1 a2 a3 k, LeO (laws_FnExactAddWord.f k a0 a1 a2 a3) (laws_FnExactAddWord.f (k + 1) a0 a1 a2 a3) := by
  intro a0 a1 a2 a3 k
  unfold laws_FnExactAddWord.f
  repeat' first
      | (with_reducible exact impl_AddWord.mono _ _ _ _ _)
      | (with_reducible exact laws_eqWordS.mono _ _ _)
      | (with_reducible exact laws_heldWordS.mono _ _ _)
      | (with_reducible exact laws_markWordS.mono _ _ _)
      | (with_reducible exact laws_szWordS.mono _ _ _)
      | (with_reducible exact laws_toWordS.mono _ _)
      | (with_reducible exact spec_AddWord.mono _ _ _ _ _)
      | (with_reducible exact LeO.refl _)
      | (with_reducible exact LeO.none _)
      | (with_reducible refine LeO.ite ?_ ?_)
      | (with_reducible refine LeO.bind ?_ (fun _ => ?_))
      | exact impl_AddWord.mono _ _ _ _ _
      | exact laws_eqWordS.mono _ _ _
      | exact laws_heldWordS.mono _ _ _
      | exact laws_markWordS.mono _ _ _
      | exact laws_szWordS.mono _ _ _
      | exact laws_toWordS.mono _ _
      | exact spec_AddWord.mono _ _ _ _ _
      | exact LeO.none _
      | refine LeO.ite ?_ ?_
      | refine LeO.bind ?_ (fun _ => ?_)
def laws_FnExactAddWord.T8 : Bool × List (List Nat × List Nat) := (true, [([], []), ([0], [0]), ([], []), ([2, 1], [2]), ([1, 3, 3], [1, 3]), ([4], [4]), ([5], [5]), ([5], [5]), ([5], [5]), ([6, 4, 0, 1, 2, 3, 4, 5, 6], [6]), ([7, 9, 0, 1, 2, 3, 4, 5, 6, 7, 9], [7]), ([8, 10, 0, 1, 2, 3, 4, 5, 6, 7, 8, 9, 10], [8])])
def laws_FnExactAddWord.B8 : List Nat := [0, 1, 0, 7, 15, 31, 63, 63, 63, 127, 767, 2047]
theorem laws_FnExactAddWord.tab8 : rtab .any (opsOf Tryd.f7 8) = laws_FnExactAddWord.T8 := by kernel_rfl
theorem laws_FnExactAddWord.bits8 : waitsOk laws_FnExactAddWord.T8.2 laws_FnExactAddWord.B8 = true := by kernel_rfl
def laws_FnExactAddWord.T27 : Bool × List (List Nat × List Nat) := (true, [([], []), ([0], [0]), ([], []), ([2, 1], [2]), ([1, 3, 3], [1, 3]), ([4], [4]), ([5], [5]), ([5], [5]), ([5], [5]), ([6, 4, 0, 1, 2, 3, 4, 5, 6], [6]), ([7, 9, 0, 1, 2, 3, 4, 5, 6, 7, 9], [7]), ([8, 10, 0, 1, 2, 3, 4, 5, 6, 7, 8, 9, 10], [8])])
def laws_FnExactAddWord.B27 : List Nat := [0, 1, 0, 7, 15, 31, 63, 63, 63, 127, 767, 2047]
theorem laws_FnExactAddWord.tab27 : rtab .any (opsOf Tryd.f7 27) = laws_FnExactAddWord.T27 := by kernel_rfl
theorem laws_FnExactAddWord.bits27 : waitsOk laws_FnExactAddWord.T27.2 laws_FnExactAddWord.B27 = true := by kernel_rfl
set_option maxHeartbeats 8000000 in
set_option maxRecDepth 100000 in
theorem laws_FnExactAddWord.calls (k : Nat) (A0 : Option Addr) (c0 : Nat) (l0 : List (S35)) (a1_0 : ByteArray) (a1_1 : Int) (a1_2 : Int) (w : World) (hr0 : Kd.C k35 w A0 l0.length l0) (hc0 : l0.length ≤ c0) (h : laws_FnExactAddWord.f k l0 a1_0 a1_1 a1_2 = some true) (hG : GlobOK w := by first | exact HGL.out | exact GlobOK.below HGL.out HB.out | exact GlobOK.below HGL.out (by repeat (first | (with_reducible first | exact HB.out | apply below_alloc | apply pw_below_drewN | apply below_drew1) | exact HB.out)) | (repeat (first | exact HGL.out | apply GlobOK.drewN | apply GlobOK.drew | apply GlobOK.alloc))) :
    Calls Tryd.prog 7 #[.slice A0 l0.length c0, .agg #[.string a1_0, .int .i64 a1_1, .int .i64 a1_2]] w fun e w' => e = .returned (.bool true) ∧ Below w.heap.size w w' := by
  have HGL := Aside0.mk hG
  clear hG
  have hu35 := Tryd.underlying35
  have HR0 := Aside0.mk hr0
  have HC0 := Aside0.mk hc0
  clear hr0 hc0
  have HB := Aside0.mk (Below.refl w.heap.size w)
  have H : ((laws_szWordS.f k l0 1048576).bind fun t334 => (if t334 < 0 then (some true) else ((laws_szWord.f a1_0 a1_1 a1_2 t334).bind fun t335 => (if t335 < 0 then (some true) else ((laws_toWordS.f k l0).bind fun t336 => ((laws_toWord.f a1_0 a1_1 a1_2).bind fun bt339 => ((spec_AddWord.f k t336 bt339.1 bt339.2.1 bt339.2.2).bind fun bt342 => ((laws_toWordS.f k l0).bind fun t347 => ((laws_toWord.f a1_0 a1_1 a1_2).bind fun bt350 => ((impl_AddWord.f k t347 bt350.1 bt350.2.1 bt350.2.2).bind fun bt353 => ((laws_eqWordS.f k bt353.1 bt342.1).bind fun t358 => (if t358 = true then (if bt353.2.1 = bt342.2.1 then (if bt353.2.2 = bt342.2.2 then ((laws_toWordS.f k l0).bind fun t359 => ((laws_eqWordS.f k t347 t359).bind fun t362 => (if t362 = true then ((laws_markWordS.f k t347 1).bind fun bt363 => (if bt363.1 < 0 then (some false) else ((laws_eqWordS.f k bt353.1 bt342.1).bind fun t365 => (if t365 = true then ((laws_markWordS.f k bt353.1 1).bind fun bt366 => ((laws_heldWordS.f k bt366.2 1).bind fun t368 => (if t368 < 0 then (some false) else (if t368 = bt366.1 then ((laws_toWordS.f k l0).bind fun t369 => ((laws_toWord.f a1_0 a1_1 a1_2).bind fun bt372 => ((impl_AddWord.f k t369 bt372.1 bt372.2.1 bt372.2.2).bind fun bt375 => ((laws_eqWordS.f k bt375.1 bt342.1).bind fun t380 => (if t380 = true then (if bt375.2.1 = bt342.2.1 then (if bt375.2.2 = bt342.2.2 then ((laws_heldWordS.f k bt366.2 1).bind fun t381 => (if t381 < 0 then (some false) else (if t381 = bt366.1 then (some true) else (some false)))) else (some false)) else (some false)) else (some false)))))) else (some false))))) else (some false))))) else (some false)))) else (some false)) else (some false)) else (some false))))))))))))) = some true := h
  clear h
  replace H := Option.bind_eq_some_iff.mp H
  obtain ⟨t334, A30, H⟩ := H
  replace H : (if t334 < 0 then (some true) else ((laws_szWord.f a1_0 a1_1 a1_2 t334).bind fun t335 => (if t335 < 0 then (some true) else ((laws_toWordS.f k l0).bind fun t336 => ((laws_toWord.f a1_0 a1_1 a1_2).bind fun bt339 => ((spec_AddWord.f k t336 bt339.1 bt339.2.1 bt339.2.2).bind fun bt342 => ((laws_toWordS.f k l0).bind fun t347 => ((laws_toWord.f a1_0 a1_1 a1_2).bind fun bt350 => ((impl_AddWord.f k t347 bt350.1 bt350.2.1 bt350.2.2).bind fun bt353 => ((laws_eqWordS.f k bt353.1 bt342.1).bind fun t358 => (if t358 = true then (if bt353.2.1 = bt342.2.1 then (if bt353.2.2 = bt342.2.2 then ((laws_toWordS.f k l0).bind fun t359 => ((laws_eqWordS.f k t347 t359).bind fun t362 => (if t362 = true then ((laws_markWordS.f k t347 1).bind fun bt363 => (if bt363.1 < 0 then (some false) else ((laws_eqWordS.f k bt353.1 bt342.1).bind fun t365 => (if t365 = true then ((laws_markWordS.f k bt353.1 1).bind fun bt366 => ((laws_heldWordS.f k bt366.2 1).bind fun t368 => (if t368 < 0 then (some false) else (if t368 = bt366.1 then ((laws_toWordS.f k l0).bind fun t369 => ((laws_toWord.f a1_0 a1_1 a1_2).bind fun bt372 => ((impl_AddWord.f k t369 bt372.1 bt372.2.1 bt372.2.2).bind fun bt375 => ((laws_eqWordS.f k bt375.1 bt342.1).bind fun t380 => (if t380 = true then (if bt375.2.1 = bt342.2.1 then (if bt375.2.2 = bt342.2.2 then ((laws_heldWordS.f k bt366.2 1).bind fun t381 => (if t381 < 0 then (some false) else (if t381 = bt366.1 then (some true) else (some false)))) else (some false)) else (some false)) else (some false)))))) else (some false))))) else (some false))))) else (some false)))) else (some false)) else (some false)) else (some false)))))))))))) = some true := H
  have A3 := Aside0.mk A30
  clear A30
  by_cases c4 : t334 < 0
  · rw [if_pos c4] at H
    have c4b0 : decide (t334 < 0) = true := decide_eq_true c4
    clear c4
    clear H
    go_enter Tryd.func7, Tryd.ntmps7
    go_wp2_with (first | ((with_reducible refine gate_dst (N := 3) rfl ?_); refine box_event ?hg (N := 3) ?hd (cs := #[.string a1_0, .int .i64 a1_1, .int .i64 a1_2]) (t := 35) ?hr ?_; (case hd => rfl); (case hg => rfl); (case hr => first | (go_simp; done) | (go_simp; rfl)); intro gb333 hg w5 hbox hb; have n0_ := Aside0.mk (below_step (by repeat (first | (with_reducible first | exact HB.out | apply below_alloc | apply pw_below_drewN | apply below_drew1) | exact HB.out)) hb); have n1_ := Aside0.mk (hbox); have n2_ := Aside0.mk ((by rw [hg]; exact (below_size (by repeat (first | (with_reducible first | exact HB.out | apply below_alloc | apply pw_below_drewN | apply below_drew1) | exact HB.out))) : w.heap.size ≤ gb333)); have n3_ := Aside0.mk ((by rw [hg]; exact (below_size (by repeat (first | (with_reducible first | exact HB.out | apply below_alloc | apply pw_below_drewN | apply below_drew1) | exact HB.out))) : w.heap.size ≤ gb333)); clear HB; have HB := n0_; have BK333 := n1_; have GW333 := n2_; have GE333 := n3_; clear n0_ n1_ n2_ n3_; clear hb hbox hg) | ((with_reducible refine gate_callee (f := 17) rfl ?_); refine goesL_ (some 21) rfl rfl Tryd.func17 (by kernel_rfl) rfl #[.slice A0 l0.length c0, .int .i64 1048576] rfl (by (try simp only [List.map_toArray, List.map_cons, List.map_nil]); first | done | rfl | (simp only [List.length_drop, List.length_take]; rfl)) ?_; (with_reducible refine (laws_szWordS.calls k _ _ l0 1048576 t334 _ ?side1 ?side2 A3.out).mono ?_); (case side1 => repeat (first | exact (Kd.C_below HR0.out HB.out) | (with_reducible refine Kd.C_alloc ?_ _) | (with_reducible refine Kd.C_drewN ?_ _) | (with_reducible refine Kd.C_drew ?_))); (case side2 => exact HC0.out); rintro e w6 ⟨rfl, hb⟩; refine ⟨_, rfl, ?_⟩; replace HB := Aside0.mk (below_step (by repeat (first | (with_reducible first | exact HB.out | apply below_alloc | apply pw_below_drewN | apply below_drew1) | exact HB.out)) hb); (try clear hb); (try clear hb2); (try clear hk); (try clear hi)))
    all_goals go_ret
    exact ⟨by first | rfl | (simp [errW_none, errW_some] <;> rfl) | (simp [*, errW_none, errW_some] <;> rfl), by repeat (first | (with_reducible first | exact HB.out | apply below_alloc | apply pw_below_drewN | apply below_drew1) | exact HB.out)⟩
    all_goals (exfalso; simp only [beq_iff_eq, decide_eq_decide, decide_eq_true_eq, decide_eq_false_iff_not] at *; omega)
  · rw [if_neg c4] at H
    have c4b0 : decide (t334 < 0) = false := decide_eq_false c4
    clear c4
    replace H := Option.bind_eq_some_iff.mp H
    obtain ⟨t335, A70, H⟩ := H
    replace H : (if t335 < 0 then (some true) else ((laws_toWordS.f k l0).bind fun t336 => ((laws_toWord.f a1_0 a1_1 a1_2).bind fun bt339 => ((spec_AddWord.f k t336 bt339.1 bt339.2.1 bt339.2.2).bind fun bt342 => ((laws_toWordS.f k l0).bind fun t347 => ((laws_toWord.f a1_0 a1_1 a1_2).bind fun bt350 => ((impl_AddWord.f k t347 bt350.1 bt350.2.1 bt350.2.2).bind fun bt353 => ((laws_eqWordS.f k bt353.1 bt342.1).bind fun t358 => (if t358 = true then (if bt353.2.1 = bt342.2.1 then (if bt353.2.2 = bt342.2.2 then ((laws_toWordS.f k l0).bind fun t359 => ((laws_eqWordS.f k t347 t359).bind fun t362 => (if t362 = true then ((laws_markWordS.f k t347 1).bind fun bt363 => (if bt363.1 < 0 then (some false) else ((laws_eqWordS.f k bt353.1 bt342.1).bind fun t365 => (if t365 = true then ((laws_markWordS.f k bt353.1 1).bind fun bt366 => ((laws_heldWordS.f k bt366.2 1).bind fun t368 => (if t368 < 0 then (some false) else (if t368 = bt366.1 then ((laws_toWordS.f k l0).bind fun t369 => ((laws_toWord.f a1_0 a1_1 a1_2).bind fun bt372 => ((impl_AddWord.f k t369 bt372.1 bt372.2.1 bt372.2.2).bind fun bt375 => ((laws_eqWordS.f k bt375.1 bt342.1).bind fun t380 => (if t380 = true then (if bt375.2.1 = bt342.2.1 then (if bt375.2.2 = bt342.2.2 then ((laws_heldWordS.f k bt366.2 1).bind fun t381 => (if t381 < 0 then (some false) else (if t381 = bt366.1 then (some true) else (some false)))) else (some false)) else (some false)) else (some false)))))) else (some false))))) else (some false))))) else (some false)))) else (some false)) else (some false)) else (some false)))))))))) = some true := H
    have A7 := Aside0.mk A70
    clear A70
    by_cases c8 : t335 < 0
    · rw [if_pos c8] at H
      have c8b0 : decide (t335 < 0) = true := decide_eq_true c8
      clear c8
      clear H
      go_enter Tryd.func7, Tryd.ntmps7
      go_wp2_with (first | ((with_reducible refine gate_dst (N := 3) rfl ?_); refine box_event ?hg (N := 3) ?hd (cs := #[.string a1_0, .int .i64 a1_1, .int .i64 a1_2]) (t := 35) ?hr ?_; (case hd => rfl); (case hg => rfl); (case hr => first | (go_simp; done) | (go_simp; rfl)); intro gb333 hg w9 hbox hb; have n0_ := Aside0.mk (below_step (by repeat (first | (with_reducible first | exact HB.out | apply below_alloc | apply pw_below_drewN | apply below_drew1) | exact HB.out)) hb); have n1_ := Aside0.mk (hbox); have n2_ := Aside0.mk ((by rw [hg]; exact (below_size (by repeat (first | (with_reducible first | exact HB.out | apply below_alloc | apply pw_below_drewN | apply below_drew1) | exact HB.out))) : w.heap.size ≤ gb333)); have n3_ := Aside0.mk ((by rw [hg]; exact (below_size (by repeat (first | (with_reducible first | exact HB.out | apply below_alloc | apply pw_below_drewN | apply below_drew1) | exact HB.out))) : w.heap.size ≤ gb333)); clear HB; have HB := n0_; have BK333 := n1_; have GW333 := n2_; have GE333 := n3_; clear n0_ n1_ n2_ n3_; clear hb hbox hg) | ((with_reducible refine gate_callee (f := 17) rfl ?_); refine goesL_ (some 21) rfl rfl Tryd.func17 (by kernel_rfl) rfl #[.slice A0 l0.length c0, .int .i64 1048576] rfl (by (try simp only [List.map_toArray, List.map_cons, List.map_nil]); first | done | rfl | (simp only [List.length_drop, List.length_take]; rfl)) ?_; (with_reducible refine (laws_szWordS.calls k _ _ l0 1048576 t334 _ ?side1 ?side2 A3.out).mono ?_); (case side1 => repeat (first | exact (Kd.C_below HR0.out HB.out) | (with_reducible refine Kd.C_alloc ?_ _) | (with_reducible refine Kd.C_drewN ?_ _) | (with_reducible refine Kd.C_drew ?_))); (case side2 => exact HC0.out); rintro e w10 ⟨rfl, hb⟩; refine ⟨_, rfl, ?_⟩; replace BK333 := Aside0.mk (blk_below (g := gb333) (o := .cells #[.string a1_0, .int .i64 a1_1, .int .i64 a1_2] 35 (0, 0)) (by (with_reducible repeat (first | refine blk_drewN ?_ _ | refine blk_drew ?_ | refine blk_alloc ?_ _)); exact BK333.out) hb); replace HB := Aside0.mk (below_step (by repeat (first | (with_reducible first | exact HB.out | apply below_alloc | apply pw_below_drewN | apply below_drew1 | refine below_set ?_ GE333.out) | exact HB.out)) hb); (try clear hb); (try clear hb2); (try clear hk); (try clear hi); have hcz11_0 : w10.cell? ⟨gb333, 0, none⟩ = some (.string a1_0) := (blk_cell BK333.out 0).trans rfl; have hcz11_1 : w10.cell? ⟨gb333, 1, none⟩ = some (.int .i64 a1_1) := (blk_cell BK333.out 1).trans rfl; have hcz11_2 : w10.cell? ⟨gb333, 2, none⟩ = some (.int .i64 a1_2) := (blk_cell BK333.out 2).trans rfl; have hfz11_0 := blk_frozen BK333.out 0; have hfz11_1 := blk_frozen BK333.out 1; have hfz11_2 := blk_frozen BK333.out 2) | ((with_reducible refine gate_callee (f := 25) rfl ?_); refine goesL_ (some 26) rfl rfl Tryd.func25 (by kernel_rfl) rfl #[.agg #[.string a1_0, .int .i64 a1_1, .int .i64 a1_2], .int .i64 t334] rfl (by (try simp only [List.map_toArray, List.map_cons, List.map_nil]); first | done | rfl | (simp only [List.length_drop, List.length_take]; rfl)) ?_; (with_reducible refine (laws_szWord.calls a1_0 a1_1 a1_2 t334 t335 _ A7.out).mono ?_); rintro e w12 ⟨rfl, hb⟩; refine ⟨_, rfl, ?_⟩; replace HB := Aside0.mk (below_step (by repeat (first | (with_reducible first | exact HB.out | apply below_alloc | apply pw_below_drewN | apply below_drew1) | exact HB.out)) hb); (try clear hb); (try clear hb2); (try clear hk); (try clear hi)))
      all_goals go_ret
      exact ⟨by first | rfl | (simp [errW_none, errW_some] <;> rfl) | (simp [*, errW_none, errW_some] <;> rfl), by repeat (first | (with_reducible first | exact HB.out | apply below_alloc | apply pw_below_drewN | apply below_drew1) | exact HB.out)⟩
      all_goals (exfalso; simp only [beq_iff_eq, decide_eq_decide, decide_eq_true_eq, decide_eq_false_iff_not] at *; omega)
    · rw [if_neg c8] at H
      have c8b0 : decide (t335 < 0) = false := decide_eq_false c8
      clear c8
      replace H := Option.bind_eq_some_iff.mp H
      obtain ⟨t336, A130, H⟩ := H
      replace H : ((laws_toWord.f a1_0 a1_1 a1_2).bind fun bt339 => ((spec_AddWord.f k t336 bt339.1 bt339.2.1 bt339.2.2).bind fun bt342 => ((laws_toWordS.f k l0).bind fun t347 => ((laws_toWord.f a1_0 a1_1 a1_2).bind fun bt350 => ((impl_AddWord.f k t347 bt350.1 bt350.2.1 bt350.2.2).bind fun bt353 => ((laws_eqWordS.f k bt353.1 bt342.1).bind fun t358 => (if t358 = true then (if bt353.2.1 = bt342.2.1 then (if bt353.2.2 = bt342.2.2 then ((laws_toWordS.f k l0).bind fun t359 => ((laws_eqWordS.f k t347 t359).bind fun t362 => (if t362 = true then ((laws_markWordS.f k t347 1).bind fun bt363 => (if bt363.1 < 0 then (some false) else ((laws_eqWordS.f k bt353.1 bt342.1).bind fun t365 => (if t365 = true then ((laws_markWordS.f k bt353.1 1).bind fun bt366 => ((laws_heldWordS.f k bt366.2 1).bind fun t368 => (if t368 < 0 then (some false) else (if t368 = bt366.1 then ((laws_toWordS.f k l0).bind fun t369 => ((laws_toWord.f a1_0 a1_1 a1_2).bind fun bt372 => ((impl_AddWord.f k t369 bt372.1 bt372.2.1 bt372.2.2).bind fun bt375 => ((laws_eqWordS.f k bt375.1 bt342.1).bind fun t380 => (if t380 = true then (if bt375.2.1 = bt342.2.1 then (if bt375.2.2 = bt342.2.2 then ((laws_heldWordS.f k bt366.2 1).bind fun t381 => (if t381 < 0 then (some false) else (if t381 = bt366.1 then (some true) else (some false)))) else (some false)) else (some false)) else (some false)))))) else (some false))))) else (some false))))) else (some false)))) else (some false)) else (some false)) else (some false)))))))) = some true := H
      have A13 := Aside0.mk A130
      clear A130
      replace H := Option.bind_eq_some_iff.mp H
      obtain ⟨⟨t339, t340, t341⟩, A140, H⟩ := H
      replace H : ((spec_AddWord.f k t336 t339 t340 t341).bind fun bt342 => ((laws_toWordS.f k l0).bind fun t347 => ((laws_toWord.f a1_0 a1_1 a1_2).bind fun bt350 => ((impl_AddWord.f k t347 bt350.1 bt350.2.1 bt350.2.2).bind fun bt353 => ((laws_eqWordS.f k bt353.1 bt342.1).bind fun t358 => (if t358 = true then (if bt353.2.1 = bt342.2.1 then (if bt353.2.2 = bt342.2.2 then ((laws_toWordS.f k l0).bind fun t359 => ((laws_eqWordS.f k t347 t359).bind fun t362 => (if t362 = true then ((laws_markWordS.f k t347 1).bind fun bt363 => (if bt363.1 < 0 then (some false) else ((laws_eqWordS.f k bt353.1 bt342.1).bind fun t365 => (if t365 = true then ((laws_markWordS.f k bt353.1 1).bind fun bt366 => ((laws_heldWordS.f k bt366.2 1).bind fun t368 => (if t368 < 0 then (some false) else (if t368 = bt366.1 then ((laws_toWordS.f k l0).bind fun t369 => ((laws_toWord.f a1_0 a1_1 a1_2).bind fun bt372 => ((impl_AddWord.f k t369 bt372.1 bt372.2.1 bt372.2.2).bind fun bt375 => ((laws_eqWordS.f k bt375.1 bt342.1).bind fun t380 => (if t380 = true then (if bt375.2.1 = bt342.2.1 then (if bt375.2.2 = bt342.2.2 then ((laws_heldWordS.f k bt366.2 1).bind fun t381 => (if t381 < 0 then (some false) else (if t381 = bt366.1 then (some true) else (some false)))) else (some false)) else (some false)) else (some false)))))) else (some false))))) else (some false))))) else (some false)))) else (some false)) else (some false)) else (some false))))))) = some true := H
      have A14 := Aside0.mk A140
      clear A140
      replace H := Option.bind_eq_some_iff.mp H
      obtain ⟨⟨t342, t345, t346⟩, A150, H⟩ := H
      replace H : ((laws_toWordS.f k l0).bind fun t347 => ((laws_toWord.f a1_0 a1_1 a1_2).bind fun bt350 => ((impl_AddWord.f k t347 bt350.1 bt350.2.1 bt350.2.2).bind fun bt353 => ((laws_eqWordS.f k bt353.1 t342).bind fun t358 => (if t358 = true then (if bt353.2.1 = t345 then (if bt353.2.2 = t346 then ((laws_toWordS.f k l0).bind fun t359 => ((laws_eqWordS.f k t347 t359).bind fun t362 => (if t362 = true then ((laws_markWordS.f k t347 1).bind fun bt363 => (if bt363.1 < 0 then (some false) else ((laws_eqWordS.f k bt353.1 t342).bind fun t365 => (if t365 = true then ((laws_markWordS.f k bt353.1 1).bind fun bt366 => ((laws_heldWordS.f k bt366.2 1).bind fun t368 => (if t368 < 0 then (some false) else (if t368 = bt366.1 then ((laws_toWordS.f k l0).bind fun t369 => ((laws_toWord.f a1_0 a1_1 a1_2).bind fun bt372 => ((impl_AddWord.f k t369 bt372.1 bt372.2.1 bt372.2.2).bind fun bt375 => ((laws_eqWordS.f k bt375.1 t342).bind fun t380 => (if t380 = true then (if bt375.2.1 = t345 then (if bt375.2.2 = t346 then ((laws_heldWordS.f k bt366.2 1).bind fun t381 => (if t381 < 0 then (some false) else (if t381 = bt366.1 then (some true) else (some false)))) else (some false)) else (some false)) else (some false)))))) else (some false))))) else (some false))))) else (some false)))) else (some false)) else (some false)) else (some false)))))) = some true := H
      have A15 := Aside0.mk A150
      clear A150
      replace H := Option.bind_eq_some_iff.mp H
      obtain ⟨t347, A160, H⟩ := H
      replace H : ((laws_toWord.f a1_0 a1_1 a1_2).bind fun bt350 => ((impl_AddWord.f k t347 bt350.1 bt350.2.1 bt350.2.2).bind fun bt353 => ((laws_eqWordS.f k bt353.1 t342).bind fun t358 => (if t358 = true then (if bt353.2.1 = t345 then (if bt353.2.2 = t346 then ((laws_toWordS.f k l0).bind fun t359 => ((laws_eqWordS.f k t347 t359).bind fun t362 => (if t362 = true then ((laws_markWordS.f k t347 1).bind fun bt363 => (if bt363.1 < 0 then (some false) else ((laws_eqWordS.f k bt353.1 t342).bind fun t365 => (if t365 = true then ((laws_markWordS.f k bt353.1 1).bind fun bt366 => ((laws_heldWordS.f k bt366.2 1).bind fun t368 => (if t368 < 0 then (some false) else (if t368 = bt366.1 then ((laws_toWordS.f k l0).bind fun t369 => ((laws_toWord.f a1_0 a1_1 a1_2).bind fun bt372 => ((impl_AddWord.f k t369 bt372.1 bt372.2.1 bt372.2.2).bind fun bt375 => ((laws_eqWordS.f k bt375.1 t342).bind fun t380 => (if t380 = true then (if bt375.2.1 = t345 then (if bt375.2.2 = t346 then ((laws_heldWordS.f k bt366.2 1).bind fun t381 => (if t381 < 0 then (some false) else (if t381 = bt366.1 then (some true) else (some false)))) else (some false)) else (some false)) else (some false)))))) else (some false))))) else (some false))))) else (some false)))) else (some false)) else (some false)) else (some false))))) = some true := H
      have A16 := Aside0.mk A160
      clear A160
      replace H := Option.bind_eq_some_iff.mp H
      obtain ⟨⟨t350, t351, t352⟩, A170, H⟩ := H
      replace H : ((impl_AddWord.f k t347 t350 t351 t352).bind fun bt353 => ((laws_eqWordS.f k bt353.1 t342).bind fun t358 => (if t358 = true then (if bt353.2.1 = t345 then (if bt353.2.2 = t346 then ((laws_toWordS.f k l0).bind fun t359 => ((laws_eqWordS.f k t347 t359).bind fun t362 => (if t362 = true then ((laws_markWordS.f k t347 1).bind fun bt363 => (if bt363.1 < 0 then (some false) else ((laws_eqWordS.f k bt353.1 t342).bind fun t365 => (if t365 = true then ((laws_markWordS.f k bt353.1 1).bind fun bt366 => ((laws_heldWordS.f k bt366.2 1).bind fun t368 => (if t368 < 0 then (some false) else (if t368 = bt366.1 then ((laws_toWordS.f k l0).bind fun t369 => ((laws_toWord.f a1_0 a1_1 a1_2).bind fun bt372 => ((impl_AddWord.f k t369 bt372.1 bt372.2.1 bt372.2.2).bind fun bt375 => ((laws_eqWordS.f k bt375.1 t342).bind fun t380 => (if t380 = true then (if bt375.2.1 = t345 then (if bt375.2.2 = t346 then ((laws_heldWordS.f k bt366.2 1).bind fun t381 => (if t381 < 0 then (some false) else (if t381 = bt366.1 then (some true) else (some false)))) else (some false)) else (some false)) else (some false)))))) else (some false))))) else (some false))))) else (some false)))) else (some false)) else (some false)) else (some false)))) = some true := H
      have A17 := Aside0.mk A170
      clear A170
      replace H := Option.bind_eq_some_iff.mp H
      obtain ⟨⟨t353, t356, t357⟩, A180, H⟩ := H
      replace H : ((laws_eqWordS.f k t353 t342).bind fun t358 => (if t358 = true then (if t356 = t345 then (if t357 = t346 then ((laws_toWordS.f k l0).bind fun t359 => ((laws_eqWordS.f k t347 t359).bind fun t362 => (if t362 = true then ((laws_markWordS.f k t347 1).bind fun bt363 => (if bt363.1 < 0 then (some false) else ((laws_eqWordS.f k t353 t342).bind fun t365 => (if t365 = true then ((laws_markWordS.f k t353 1).bind fun bt366 => ((laws_heldWordS.f k bt366.2 1).bind fun t368 => (if t368 < 0 then (some false) else (if t368 = bt366.1 then ((laws_toWordS.f k l0).bind fun t369 => ((laws_toWord.f a1_0 a1_1 a1_2).bind fun bt372 => ((impl_AddWord.f k t369 bt372.1 bt372.2.1 bt372.2.2).bind fun bt375 => ((laws_eqWordS.f k bt375.1 t342).bind fun t380 => (if t380 = true then (if bt375.2.1 = t345 then (if bt375.2.2 = t346 then ((laws_heldWordS.f k bt366.2 1).bind fun t381 => (if t381 < 0 then (some false) else (if t381 = bt366.1 then (some true) else (some false)))) else (some false)) else (some false)) else (some false)))))) else (some false))))) else (some false))))) else (some false)))) else (some false)) else (some false)) else (some false))) = some true := H
      have A18 := Aside0.mk A180
      clear A180
      replace H := Option.bind_eq_some_iff.mp H
      obtain ⟨t358, A190, H⟩ := H
      replace H : (if t358 = true then (if t356 = t345 then (if t357 = t346 then ((laws_toWordS.f k l0).bind fun t359 => ((laws_eqWordS.f k t347 t359).bind fun t362 => (if t362 = true then ((laws_markWordS.f k t347 1).bind fun bt363 => (if bt363.1 < 0 then (some false) else ((laws_eqWordS.f k t353 t342).bind fun t365 => (if t365 = true then ((laws_markWordS.f k t353 1).bind fun bt366 => ((laws_heldWordS.f k bt366.2 1).bind fun t368 => (if t368 < 0 then (some false) else (if t368 = bt366.1 then ((laws_toWordS.f k l0).bind fun t369 => ((laws_toWord.f a1_0 a1_1 a1_2).bind fun bt372 => ((impl_AddWord.f k t369 bt372.1 bt372.2.1 bt372.2.2).bind fun bt375 => ((laws_eqWordS.f k bt375.1 t342).bind fun t380 => (if t380 = true then (if bt375.2.1 = t345 then (if bt375.2.2 = t346 then ((laws_heldWordS.f k bt366.2 1).bind fun t381 => (if t381 < 0 then (some false) else (if t381 = bt366.1 then (some true) else (some false)))) else (some false)) else (some false)) else (some false)))))) else (some false))))) else (some false))))) else (some false)))) else (some false)) else (some false)) else (some false)) = some true := H
      have A19 := Aside0.mk A190
      clear A190
      by_cases c20 : t358 = true
      · subst c20
        have H1 : (if t356 = t345 then (if t357 = t346 then ((laws_toWordS.f k l0).bind fun t359 => ((laws_eqWordS.f k t347 t359).bind fun t362 => (if t362 = true then ((laws_markWordS.f k t347 1).bind fun bt363 => (if bt363.1 < 0 then (some false) else ((laws_eqWordS.f k t353 t342).bind fun t365 => (if t365 = true then ((laws_markWordS.f k t353 1).bind fun bt366 => ((laws_heldWordS.f k bt366.2 1).bind fun t368 => (if t368 < 0 then (some false) else (if t368 = bt366.1 then ((laws_toWordS.f k l0).bind fun t369 => ((laws_toWord.f a1_0 a1_1 a1_2).bind fun bt372 => ((impl_AddWord.f k t369 bt372.1 bt372.2.1 bt372.2.2).bind fun bt375 => ((laws_eqWordS.f k bt375.1 t342).bind fun t380 => (if t380 = true then (if bt375.2.1 = t345 then (if bt375.2.2 = t346 then ((laws_heldWordS.f k bt366.2 1).bind fun t381 => (if t381 < 0 then (some false) else (if t381 = bt366.1 then (some true) else (some false)))) else (some false)) else (some false)) else (some false)))))) else (some false))))) else (some false))))) else (some false)))) else (some false)) else (some false)) = some true := by rw [if_pos rfl] at H; first | done | exact H
        clear H
        have H := H1
        clear H1
        by_cases c21 : t356 = t345
        · rw [if_pos c21] at H
          have c21b0 : (t356 == t345) = true := beq_iff_eq.mpr c21
          have c21b1 : (t356 != t345) = false := bne_eq_false_iff_eq.mpr c21
          clear c21
          by_cases c22 : t357 = t346
          · rw [if_pos c22] at H
            have c22b0 : (t357 == t346) = true := beq_iff_eq.mpr c22
            have c22b1 : (t357 != t346) = false := bne_eq_false_iff_eq.mpr c22
            clear c22
            replace H := Option.bind_eq_some_iff.mp H
            obtain ⟨t359, A230, H⟩ := H
            replace H : ((laws_eqWordS.f k t347 t359).bind fun t362 => (if t362 = true then ((laws_markWordS.f k t347 1).bind fun bt363 => (if bt363.1 < 0 then (some false) else ((laws_eqWordS.f k t353 t342).bind fun t365 => (if t365 = true then ((laws_markWordS.f k t353 1).bind fun bt366 => ((laws_heldWordS.f k bt366.2 1).bind fun t368 => (if t368 < 0 then (some false) else (if t368 = bt366.1 then ((laws_toWordS.f k l0).bind fun t369 => ((laws_toWord.f a1_0 a1_1 a1_2).bind fun bt372 => ((impl_AddWord.f k t369 bt372.1 bt372.2.1 bt372.2.2).bind fun bt375 => ((laws_eqWordS.f k bt375.1 t342).bind fun t380 => (if t380 = true then (if bt375.2.1 = t345 then (if bt375.2.2 = t346 then ((laws_heldWordS.f k bt366.2 1).bind fun t381 => (if t381 < 0 then (some false) else (if t381 = bt366.1 then (some true) else (some false)))) else (some false)) else (some false)) else (some false)))))) else (some false))))) else (some false))))) else (some false))) = some true := H
            have A23 := Aside0.mk A230
            clear A230
            replace H := Option.bind_eq_some_iff.mp H
            obtain ⟨t362, A240, H⟩ := H
            replace H : (if t362 = true then ((laws_markWordS.f k t347 1).bind fun bt363 => (if bt363.1 < 0 then (some false) else ((laws_eqWordS.f k t353 t342).bind fun t365 => (if t365 = true then ((laws_markWordS.f k t353 1).bind fun bt366 => ((laws_heldWordS.f k bt366.2 1).bind fun t368 => (if t368 < 0 then (some false) else (if t368 = bt366.1 then ((laws_toWordS.f k l0).bind fun t369 => ((laws_toWord.f a1_0 a1_1 a1_2).bind fun bt372 => ((impl_AddWord.f k t369 bt372.1 bt372.2.1 bt372.2.2).bind fun bt375 => ((laws_eqWordS.f k bt375.1 t342).bind fun t380 => (if t380 = true then (if bt375.2.1 = t345 then (if bt375.2.2 = t346 then ((laws_heldWordS.f k bt366.2 1).bind fun t381 => (if t381 < 0 then (some false) else (if t381 = bt366.1 then (some true) else (some false)))) else (some false)) else (some false)) else (some false)))))) else (some false))))) else (some false))))) else (some false)) = some true := H
            have A24 := Aside0.mk A240
            clear A240
            by_cases c25 : t362 = true
            · subst c25
              have H1 : ((laws_markWordS.f k t347 1).bind fun bt363 => (if bt363.1 < 0 then (some false) else ((laws_eqWordS.f k t353 t342).bind fun t365 => (if t365 = true then ((laws_markWordS.f k t353 1).bind fun bt366 => ((laws_heldWordS.f k bt366.2 1).bind fun t368 => (if t368 < 0 then (some false) else (if t368 = bt366.1 then ((laws_toWordS.f k l0).bind fun t369 => ((laws_toWord.f a1_0 a1_1 a1_2).bind fun bt372 => ((impl_AddWord.f k t369 bt372.1 bt372.2.1 bt372.2.2).bind fun bt375 => ((laws_eqWordS.f k bt375.1 t342).bind fun t380 => (if t380 = true then (if bt375.2.1 = t345 then (if bt375.2.2 = t346 then ((laws_heldWordS.f k bt366.2 1).bind fun t381 => (if t381 < 0 then (some false) else (if t381 = bt366.1 then (some true) else (some false)))) else (some false)) else (some false)) else (some false)))))) else (some false))))) else (some false))))) = some true := by rw [if_pos rfl] at H; first | done | exact H
              clear H
              have H := H1
              clear H1
              replace H := Option.bind_eq_some_iff.mp H
              obtain ⟨⟨t363, t364⟩, A260, H⟩ := H
              replace H : (if t363 < 0 then (some false) else ((laws_eqWordS.f k t353 t342).bind fun t365 => (if t365 = true then ((laws_markWordS.f k t353 1).bind fun bt366 => ((laws_heldWordS.f k bt366.2 1).bind fun t368 => (if t368 < 0 then (some false) else (if t368 = bt366.1 then ((laws_toWordS.f k l0).bind fun t369 => ((laws_toWord.f a1_0 a1_1 a1_2).bind fun bt372 => ((impl_AddWord.f k t369 bt372.1 bt372.2.1 bt372.2.2).bind fun bt375 => ((laws_eqWordS.f k bt375.1 t342).bind fun t380 => (if t380 = true then (if bt375.2.1 = t345 then (if bt375.2.2 = t346 then ((laws_heldWordS.f k bt366.2 1).bind fun t381 => (if t381 < 0 then (some false) else (if t381 = bt366.1 then (some true) else (some false)))) else (some false)) else (some false)) else (some false)))))) else (some false))))) else (some false)))) = some true := H
              have A26 := Aside0.mk A260
              clear A260
              by_cases c27 : t363 < 0
              · rw [if_pos c27] at H
                have c27b0 : decide (t363 < 0) = true := decide_eq_true c27
                clear c27
                exact absurd (Option.some.inj H) (by decide)
              · rw [if_neg c27] at H
                have c27b0 : decide (t363 < 0) = false := decide_eq_false c27
                clear c27
                replace H := Option.bind_eq_some_iff.mp H
                obtain ⟨t365, A280, H⟩ := H
                replace H : (if t365 = true then ((laws_markWordS.f k t353 1).bind fun bt366 => ((laws_heldWordS.f k bt366.2 1).bind fun t368 => (if t368 < 0 then (some false) else (if t368 = bt366.1 then ((laws_toWordS.f k l0).bind fun t369 => ((laws_toWord.f a1_0 a1_1 a1_2).bind fun bt372 => ((impl_AddWord.f k t369 bt372.1 bt372.2.1 bt372.2.2).bind fun bt375 => ((laws_eqWordS.f k bt375.1 t342).bind fun t380 => (if t380 = true then (if bt375.2.1 = t345 then (if bt375.2.2 = t346 then ((laws_heldWordS.f k bt366.2 1).bind fun t381 => (if t381 < 0 then (some false) else (if t381 = bt366.1 then (some true) else (some false)))) else (some false)) else (some false)) else (some false)))))) else (some false))))) else (some false)) = some true := H
                have A28 := Aside0.mk A280
                clear A280
                by_cases c29 : t365 = true
                · subst c29
                  have H1 : ((laws_markWordS.f k t353 1).bind fun bt366 => ((laws_heldWordS.f k bt366.2 1).bind fun t368 => (if t368 < 0 then (some false) else (if t368 = bt366.1 then ((laws_toWordS.f k l0).bind fun t369 => ((laws_toWord.f a1_0 a1_1 a1_2).bind fun bt372 => ((impl_AddWord.f k t369 bt372.1 bt372.2.1 bt372.2.2).bind fun bt375 => ((laws_eqWordS.f k bt375.1 t342).bind fun t380 => (if t380 = true then (if bt375.2.1 = t345 then (if bt375.2.2 = t346 then ((laws_heldWordS.f k bt366.2 1).bind fun t381 => (if t381 < 0 then (some false) else (if t381 = bt366.1 then (some true) else (some false)))) else (some false)) else (some false)) else (some false)))))) else (some false))))) = some true := by rw [if_pos rfl] at H; first | done | exact H
                  clear H
                  have H := H1
                  clear H1
                  replace H := Option.bind_eq_some_iff.mp H
                  obtain ⟨⟨t366, t367⟩, A300, H⟩ := H
                  replace H : ((laws_heldWordS.f k t367 1).bind fun t368 => (if t368 < 0 then (some false) else (if t368 = t366 then ((laws_toWordS.f k l0).bind fun t369 => ((laws_toWord.f a1_0 a1_1 a1_2).bind fun bt372 => ((impl_AddWord.f k t369 bt372.1 bt372.2.1 bt372.2.2).bind fun bt375 => ((laws_eqWordS.f k bt375.1 t342).bind fun t380 => (if t380 = true then (if bt375.2.1 = t345 then (if bt375.2.2 = t346 then ((laws_heldWordS.f k t367 1).bind fun t381 => (if t381 < 0 then (some false) else (if t381 = t366 then (some true) else (some false)))) else (some false)) else (some false)) else (some false)))))) else (some false)))) = some true := H
                  have A30 := Aside0.mk A300
                  clear A300
                  replace H := Option.bind_eq_some_iff.mp H
                  obtain ⟨t368, A310, H⟩ := H
                  replace H : (if t368 < 0 then (some false) else (if t368 = t366 then ((laws_toWordS.f k l0).bind fun t369 => ((laws_toWord.f a1_0 a1_1 a1_2).bind fun bt372 => ((impl_AddWord.f k t369 bt372.1 bt372.2.1 bt372.2.2).bind fun bt375 => ((laws_eqWordS.f k bt375.1 t342).bind fun t380 => (if t380 = true then (if bt375.2.1 = t345 then (if bt375.2.2 = t346 then ((laws_heldWordS.f k t367 1).bind fun t381 => (if t381 < 0 then (some false) else (if t381 = t366 then (some true) else (some false)))) else (some false)) else (some false)) else (some false)))))) else (some false))) = some true := H
                  have A31 := Aside0.mk A310
                  clear A310
                  by_cases c32 : t368 < 0
                  · rw [if_pos c32] at H
                    have c32b0 : decide (t368 < 0) = true := decide_eq_true c32
                    clear c32
                    exact absurd (Option.some.inj H) (by decide)
                  · rw [if_neg c32] at H
                    have c32b0 : decide (t368 < 0) = false := decide_eq_false c32
                    clear c32
                    by_cases c33 : t368 = t366
                    · rw [if_pos c33] at H
                      have c33b0 : (t368 == t366) = true := beq_iff_eq.mpr c33
                      have c33b1 : (t368 != t366) = false := bne_eq_false_iff_eq.mpr c33
                      clear c33
                      replace H := Option.bind_eq_some_iff.mp H
                      obtain ⟨t369, A340, H⟩ := H
                      replace H : ((laws_toWord.f a1_0 a1_1 a1_2).bind fun bt372 => ((impl_AddWord.f k t369 bt372.1 bt372.2.1 bt372.2.2).bind fun bt375 => ((laws_eqWordS.f k bt375.1 t342).bind fun t380 => (if t380 = true then (if bt375.2.1 = t345 then (if bt375.2.2 = t346 then ((laws_heldWordS.f k t367 1).bind fun t381 => (if t381 < 0 then (some false) else (if t381 = t366 then (some true) else (some false)))) else (some false)) else (some false)) else (some false))))) = some true := H
                      have A34 := Aside0.mk A340
                      clear A340
                      replace H := Option.bind_eq_some_iff.mp H
                      obtain ⟨⟨t372, t373, t374⟩, A350, H⟩ := H
                      replace H : ((impl_AddWord.f k t369 t372 t373 t374).bind fun bt375 => ((laws_eqWordS.f k bt375.1 t342).bind fun t380 => (if t380 = true then (if bt375.2.1 = t345 then (if bt375.2.2 = t346 then ((laws_heldWordS.f k t367 1).bind fun t381 => (if t381 < 0 then (some false) else (if t381 = t366 then (some true) else (some false)))) else (some false)) else (some false)) else (some false)))) = some true := H
                      have A35 := Aside0.mk A350
                      clear A350
                      replace H := Option.bind_eq_some_iff.mp H
                      obtain ⟨⟨t375, t378, t379⟩, A360, H⟩ := H
                      replace H : ((laws_eqWordS.f k t375 t342).bind fun t380 => (if t380 = true then (if t378 = t345 then (if t379 = t346 then ((laws_heldWordS.f k t367 1).bind fun t381 => (if t381 < 0 then (some false) else (if t381 = t366 then (some true) else (some false)))) else (some false)) else (some false)) else (some false))) = some true := H
                      have A36 := Aside0.mk A360
                      clear A360
                      replace H := Option.bind_eq_some_iff.mp H
                      obtain ⟨t380, A370, H⟩ := H
                      replace H : (if t380 = true then (if t378 = t345 then (if t379 = t346 then ((laws_heldWordS.f k t367 1).bind fun t381 => (if t381 < 0 then (some false) else (if t381 = t366 then (some true) else (some false)))) else (some false)) else (some false)) else (some false)) = some true := H
                      have A37 := Aside0.mk A370
                      clear A370
                      by_cases c38 : t380 = true
                      · subst c38
                        have H1 : (if t378 = t345 then (if t379 = t346 then ((laws_heldWordS.f k t367 1).bind fun t381 => (if t381 < 0 then (some false) else (if t381 = t366 then (some true) else (some false)))) else (some false)) else (some false)) = some true := by rw [if_pos rfl] at H; first | done | exact H
                        clear H
                        have H := H1
                        clear H1
                        by_cases c39 : t378 = t345
                        · rw [if_pos c39] at H
                          have c39b0 : (t378 == t345) = true := beq_iff_eq.mpr c39
                          have c39b1 : (t378 != t345) = false := bne_eq_false_iff_eq.mpr c39
                          clear c39
                          by_cases c40 : t379 = t346
                          · rw [if_pos c40] at H
                            have c40b0 : (t379 == t346) = true := beq_iff_eq.mpr c40
                            have c40b1 : (t379 != t346) = false := bne_eq_false_iff_eq.mpr c40
                            clear c40
                            replace H := Option.bind_eq_some_iff.mp H
                            obtain ⟨t381, A410, H⟩ := H
                            replace H : (if t381 < 0 then (some false) else (if t381 = t366 then (some true) else (some false))) = some true := H
                            have A41 := Aside0.mk A410
                            clear A410
                            by_cases c42 : t381 < 0
                            · rw [if_pos c42] at H
                              have c42b0 : decide (t381 < 0) = true := decide_eq_true c42
                              clear c42
                              exact absurd (Option.some.inj H) (by decide)
                            · rw [if_neg c42] at H
                              have c42b0 : decide (t381 < 0) = false := decide_eq_false c42
                              clear c42
                              by_cases c43 : t381 = t366
                              · rw [if_pos c43] at H
                                have c43b0 : (t381 == t366) = true := beq_iff_eq.mpr c43
                                have c43b1 : (t381 != t366) = false := bne_eq_false_iff_eq.mpr c43
                                clear c43
                                clear H
                                go_enter Tryd.func7, Tryd.ntmps7
                                try go_wp2_with (first | ((with_reducible refine gate_dst (N := 3) rfl ?_); refine box_event ?hg (N := 3) ?hd (cs := #[.string a1_0, .int .i64 a1_1, .int .i64 a1_2]) (t := 35) ?hr ?_; (case hd => rfl); (case hg => rfl); (case hr => first | (go_simp; done) | (go_simp; rfl)); intro gb333 hg w44 hbox hb; have n0_ := Aside0.mk (below_step (by repeat (first | (with_reducible first | exact HB.out | apply below_alloc | apply pw_below_drewN | apply below_drew1) | exact HB.out)) hb); have n1_ := Aside0.mk (hbox); have n2_ := Aside0.mk ((by rw [hg]; exact (below_size (by repeat (first | (with_reducible first | exact HB.out | apply below_alloc | apply pw_below_drewN | apply below_drew1) | exact HB.out))) : w.heap.size ≤ gb333)); have n3_ := Aside0.mk ((by rw [hg]; exact (below_size (by repeat (first | (with_reducible first | exact HB.out | apply below_alloc | apply pw_below_drewN | apply below_drew1) | exact HB.out))) : w.heap.size ≤ gb333)); clear HB; have HB := n0_; have BK333 := n1_; have GW333 := n2_; have GE333 := n3_; clear n0_ n1_ n2_ n3_; clear hb hbox hg) | ((with_reducible refine gate_callee (f := 17) rfl ?_); refine goesL_ (some 21) rfl rfl Tryd.func17 (by kernel_rfl) rfl #[.slice A0 l0.length c0, .int .i64 1048576] rfl (by (try simp only [List.map_toArray, List.map_cons, List.map_nil]); first | done | rfl | (simp only [List.length_drop, List.length_take]; rfl)) ?_; (with_reducible refine (laws_szWordS.calls k _ _ l0 1048576 t334 _ ?side1 ?side2 A3.out).mono ?_); (case side1 => repeat (first | exact (Kd.C_below HR0.out HB.out) | (with_reducible refine Kd.C_alloc ?_ _) | (with_reducible refine Kd.C_drewN ?_ _) | (with_reducible refine Kd.C_drew ?_))); (case side2 => exact HC0.out); rintro e w45 ⟨rfl, hb⟩; refine ⟨_, rfl, ?_⟩; replace BK333 := Aside0.mk (blk_below (g := gb333) (o := .cells #[.string a1_0, .int .i64 a1_1, .int .i64 a1_2] 35 (0, 0)) (by (with_reducible repeat (first | refine blk_drewN ?_ _ | refine blk_drew ?_ | refine blk_alloc ?_ _)); exact BK333.out) hb); replace HB := Aside0.mk (below_step (by repeat (first | (with_reducible first | exact HB.out | apply below_alloc | apply pw_below_drewN | apply below_drew1 | refine below_set ?_ GE333.out) | exact HB.out)) hb); (try clear hb); (try clear hb2); (try clear hk); (try clear hi); have hcz46_0 : w45.cell? ⟨gb333, 0, none⟩ = some (.string a1_0) := (blk_cell BK333.out 0).trans rfl; have hcz46_1 : w45.cell? ⟨gb333, 1, none⟩ = some (.int .i64 a1_1) := (blk_cell BK333.out 1).trans rfl; have hcz46_2 : w45.cell? ⟨gb333, 2, none⟩ = some (.int .i64 a1_2) := (blk_cell BK333.out 2).trans rfl; have hfz46_0 := blk_frozen BK333.out 0; have hfz46_1 := blk_frozen BK333.out 1; have hfz46_2 := blk_frozen BK333.out 2) | ((with_reducible refine gate_callee (f := 25) rfl ?_); refine goesL_ (some 26) rfl rfl Tryd.func25 (by kernel_rfl) rfl #[.agg #[.string a1_0, .int .i64 a1_1, .int .i64 a1_2], .int .i64 t334] rfl (by (try simp only [List.map_toArray, List.map_cons, List.map_nil]); first | done | rfl | (simp only [List.length_drop, List.length_take]; rfl)) ?_; (with_reducible refine (laws_szWord.calls a1_0 a1_1 a1_2 t334 t335 _ A7.out).mono ?_); rintro e w47 ⟨rfl, hb⟩; refine ⟨_, rfl, ?_⟩; replace BK333 := Aside0.mk (blk_below (g := gb333) (o := .cells #[.string a1_0, .int .i64 a1_1, .int .i64 a1_2] 35 (0, 0)) (by (with_reducible repeat (first | refine blk_drewN ?_ _ | refine blk_drew ?_ | refine blk_alloc ?_ _)); exact BK333.out) hb); replace HB := Aside0.mk (below_step (by repeat (first | (with_reducible first | exact HB.out | apply below_alloc | apply pw_below_drewN | apply below_drew1 | refine below_set ?_ GE333.out) | exact HB.out)) hb); (try clear hb); (try clear hb2); (try clear hk); (try clear hi)))
                                replace BK333 := Aside0.mk (blk_drew BK333.out)
                                replace HB := Aside0.mk (below_drew1 HB.out)
                                refine start_ (n := 12) (S := fun w' => w'.cell? ⟨gb333, 0, none⟩ = some (.string a1_0) ∧ w'.cell? ⟨gb333, 1, none⟩ = some (.int .i64 a1_1) ∧ w'.cell? ⟨gb333, 2, none⟩ = some (.int .i64 a1_2)) (ds := []) #[false, false, false, false, false, false, false, false, false, false, false, false] (by kernel_rfl) rfl rfl ⟨(blk_cell BK333.out 0).trans rfl, (blk_cell BK333.out 1).trans rfl, (blk_cell BK333.out 2).trans rfl⟩ (fun hHeld => ?_); refine with_tabW laws_FnExactAddWord.tab8 laws_FnExactAddWord.bits8 (fun HT_ HW_ => ?_)
                                generalize w47.drew = w48 at BK333 HB hHeld ⊢
                                refine pure_ (i := 0) (N := some 30) (v := ?_) (a' := ?_) #[true, false, false, false, false, false, false, false, false, false, false, false] rfl rfl (any_of HT_.out (by kernel_rfl)) (fun _ _ _ h => h) (Or.inl ⟨by rfl, ?_⟩) ?_ ?_
                                rotate_left
                                · intro w'
                                  go_simp
                                  with_reducible rfl
                                rotate_left
                                · simp only [Act.put, List.setIfInBounds_toArray, List.set_cons_zero, List.set_cons_succ, i64_w, i32_w]
                                  rfl
                                refine take_ (i := 2) (N := some 32) (v := ?_) (a' := ?_) #[true, false, true, false, false, false, false, false, false, false, false, false] rfl rfl (take_ofW HT_.out HW_.out (by kernel_rfl)) (fun _ _ _ h => h) (Or.inl ⟨by rfl, ?_⟩) hHeld ?_ ?_
                                rotate_left
                                · rintro w' ⟨s0, s1, s2⟩
                                  go_simp
                                  with_reducible rfl
                                rotate_left
                                · simp only [Act.put, List.setIfInBounds_toArray, List.set_cons_zero, List.set_cons_succ, i64_w, i32_w]
                                  rfl
                                refine one_ (i := 1) (N := some 31) #[true, true, true, false, false, false, false, false, false, false, false, false] rfl rfl (one_of HT_.out (by kernel_rfl)) (by decide) (fun K hK => ?_)
                                refine goes_ Tryd.func19 (by kernel_rfl) rfl #[.slice A0 l0.length c0] (by rfl) rfl rfl (by (try simp only [List.map_toArray, List.map_cons, List.map_nil]); first | done | rfl | (simp only [List.length_drop, List.length_take]; rfl)) ?_
                                with_reducible refine (laws_toWordS.calls k _ _ l0 t336 _ ?side1 ?side2 A13.out).mono ?_
                                (case side1 => repeat (first | exact (Kd.C_below HR0.out HB.out) | (with_reducible refine Kd.C_alloc ?_ _) | (with_reducible refine Kd.C_drewN ?_ _) | (with_reducible refine Kd.C_drew ?_)))
                                (case side2 => exact HC0.out)
                                rintro e w49 ⟨v337, rfl, ho0, hb⟩
                                refine ⟨_, rfl, ?_⟩
                                have HO338 := Aside0.mk (Kd.R_lower ho0 (below_size (by repeat (first | (with_reducible first | exact HB.out | apply below_alloc | apply pw_below_drewN | apply below_drew1 | refine below_set ?_ GE333.out) | exact HB.out))))
                                replace BK333 := Aside0.mk (blk_below (g := gb333) (o := .cells #[.string a1_0, .int .i64 a1_1, .int .i64 a1_2] 35 (0, 0)) (by (with_reducible repeat (first | refine blk_drewN ?_ _ | refine blk_drew ?_ | refine blk_alloc ?_ _)); exact BK333.out) hb)
                                replace HB := Aside0.mk (below_step (by repeat (first | (with_reducible first | exact HB.out | apply below_alloc | apply pw_below_drewN | apply below_drew1 | refine below_set ?_ GE333.out) | exact HB.out)) hb)
                                (try clear hb)
                                (try clear hb2)
                                (try clear hk)
                                (try clear hi)
                                (try clear ho0)
                                refine hK.out _ _ ⟨(blk_cell BK333.out 0).trans rfl, (blk_cell BK333.out 1).trans rfl, (blk_cell BK333.out 2).trans rfl⟩ (fun hHeld => ?_)
                                clear hK K
                                refine norm_ (a' := ?_) ?_ ?_
                                rotate_left
                                · show Act.put _ (some 31) _ = _
                                  simp only [Act.put, List.setIfInBounds_toArray, List.set_cons_zero, List.set_cons_succ, i64_w, i32_w]
                                  rfl
                                refine one_ (i := 3) (N := some 33) #[true, true, true, true, false, false, false, false, false, false, false, false] rfl rfl (one_of HT_.out (by kernel_rfl)) (by decide) (fun K hK => ?_)
                                refine goes_ Tryd.func27 (by kernel_rfl) rfl #[.agg #[.string a1_0, .int .i64 a1_1, .int .i64 a1_2]] (by rfl) rfl rfl (by (try simp only [List.map_toArray, List.map_cons, List.map_nil]); first | done | rfl | (simp only [List.length_drop, List.length_take]; rfl)) ?_
                                with_reducible refine (laws_toWord.calls a1_0 a1_1 a1_2 t339 t340 t341 _ A14.out).mono ?_
                                rintro e w50 ⟨rfl, hb⟩
                                refine ⟨_, rfl, ?_⟩
                                replace HO338 := Aside0.mk (Kd.R_below (by (with_reducible repeat (first | apply Kd.R_alloc | apply Kd.R_drewN | apply Kd.R_drew)); exact HO338.out) hb)
                                replace BK333 := Aside0.mk (blk_below (g := gb333) (o := .cells #[.string a1_0, .int .i64 a1_1, .int .i64 a1_2] 35 (0, 0)) (by (with_reducible repeat (first | refine blk_drewN ?_ _ | refine blk_drew ?_ | refine blk_alloc ?_ _)); exact BK333.out) hb)
                                replace HB := Aside0.mk (below_step (by repeat (first | (with_reducible first | exact HB.out | apply below_alloc | apply pw_below_drewN | apply below_drew1 | refine below_set ?_ GE333.out) | exact HB.out)) hb)
                                (try clear hb)
                                (try clear hb2)
                                (try clear hk)
                                (try clear hi)
                                obtain ⟨Ao51, co51, eo51⟩ := Kd.R_slice HO338.out
                                (first | subst eo51 | (injection eo51 with f1_ f2_ f3_; have f4_ := f1_.symm; have f5_ := f3_.symm; clear f1_ f2_ f3_; subst f4_; subst f5_))
                                refine hK.out _ _ ⟨(blk_cell BK333.out 0).trans rfl, (blk_cell BK333.out 1).trans rfl, (blk_cell BK333.out 2).trans rfl⟩ (fun hHeld => ?_)
                                clear hK K
                                refine norm_ (a' := ?_) ?_ ?_
                                rotate_left
                                · show Act.put _ (some 33) _ = _
                                  simp only [Act.put, List.setIfInBounds_toArray, List.set_cons_zero, List.set_cons_succ, i64_w, i32_w]
                                  rfl
                                refine one_ (i := 4) (N := some 34) #[true, true, true, true, true, false, false, false, false, false, false, false] rfl rfl (one_of HT_.out (by kernel_rfl)) (by decide) (fun K hK => ?_)
                                refine goes_ Tryd.func26 (by kernel_rfl) rfl #[.slice Ao51 t336.length co51, .agg #[.string t339, .int .i64 t340, .int .i64 t341]] (by rfl) rfl rfl (by (try simp only [List.map_toArray, List.map_cons, List.map_nil]); first | done | rfl | (simp only [List.length_drop, List.length_take]; rfl)) ?_
                                with_reducible refine (spec_AddWord.calls k _ _ t336 t339 t340 t341 t342 t345 t346 _ ?side1 ?side2 A15.out).mono ?_
                                (case side1 => repeat (first | exact (Kd.R_reads' HO338.out).2.2 | (with_reducible refine Kd.C_alloc ?_ _) | (with_reducible refine Kd.C_drewN ?_ _) | (with_reducible refine Kd.C_drew ?_)))
                                (case side2 => exact (Kd.R_reads' HO338.out).2.1)
                                rintro e w52 ⟨v343, rfl, ho0, hb⟩
                                refine ⟨_, rfl, ?_⟩
                                have n0_ := Aside0.mk (Kd.R_elder' (by (with_reducible repeat (first | apply Kd.R_alloc | apply Kd.R_drewN | apply Kd.R_drew)); exact HO338.out) (Kd.R_base ho0) hb)
                                have n1_ := Aside0.mk (Kd.R_lower (Kd.R_new' ho0 (Kd.R_lt (by (with_reducible repeat (first | apply Kd.R_alloc | apply Kd.R_drewN | apply Kd.R_drew)); exact HO338.out))) (below_size (by repeat (first | (with_reducible first | exact HB.out | apply below_alloc | apply pw_below_drewN | apply below_drew1 | refine below_set ?_ GE333.out) | exact HB.out))))
                                have n2_ := Aside0.mk (blk_below (g := gb333) (o := .cells #[.string a1_0, .int .i64 a1_1, .int .i64 a1_2] 35 (0, 0)) (by (with_reducible repeat (first | refine blk_drewN ?_ _ | refine blk_drew ?_ | refine blk_alloc ?_ _)); exact BK333.out) hb)
                                have n3_ := Aside0.mk (below_step (by repeat (first | (with_reducible first | exact HB.out | apply below_alloc | apply pw_below_drewN | apply below_drew1 | refine below_set ?_ GE333.out) | exact HB.out)) hb)
                                clear HO338
                                clear BK333
                                clear HB
                                have HO338 := n0_
                                have HO344 := n1_
                                have BK333 := n2_
                                have HB := n3_
                                clear n0_ n1_ n2_ n3_
                                (try clear hb)
                                (try clear hb2)
                                (try clear hk)
                                (try clear hi)
                                (try clear ho0)
                                refine hK.out _ _ ⟨(blk_cell BK333.out 0).trans rfl, (blk_cell BK333.out 1).trans rfl, (blk_cell BK333.out 2).trans rfl⟩ (fun hHeld => ?_)
                                clear hK K
                                refine norm_ (a' := ?_) ?_ ?_
                                rotate_left
                                · show Act.put _ (some 34) _ = _
                                  simp only [Act.put, List.setIfInBounds_toArray, List.set_cons_zero, List.set_cons_succ, i64_w, i32_w]
                                  rfl
                                refine pure_ (i := 5) (N := some 29) (v := ?_) (a' := ?_) #[true, true, true, true, true, true, false, false, false, false, false, false] rfl rfl (any_of HT_.out (by kernel_rfl)) (fun _ _ _ h => h) (Or.inl ⟨by rfl, ?_⟩) ?_ ?_
                                rotate_left
                                · intro w'
                                  go_simp
                                  with_reducible rfl
                                rotate_left
                                · simp only [Act.put, List.setIfInBounds_toArray, List.set_cons_zero, List.set_cons_succ, i64_w, i32_w]
                                  rfl
                                refine pure_ (i := 6) (N := some 35) (v := ?_) (a' := ?_) #[true, true, true, true, true, true, true, false, false, false, false, false] rfl rfl (any_of HT_.out (by kernel_rfl)) (fun _ _ _ h => h) (Or.inl ⟨by rfl, ?_⟩) ?_ ?_
                                rotate_left
                                · intro w'
                                  go_simp
                                  with_reducible rfl
                                rotate_left
                                · simp only [Act.put, List.setIfInBounds_toArray, List.set_cons_zero, List.set_cons_succ, i64_w, i32_w]
                                  rfl
                                refine pure_ (i := 7) (N := some 36) (v := ?_) (a' := ?_) #[true, true, true, true, true, true, true, true, false, false, false, false] rfl rfl (any_of HT_.out (by kernel_rfl)) (fun _ _ _ h => h) (Or.inl ⟨by rfl, ?_⟩) ?_ ?_
                                rotate_left
                                · intro w'
                                  go_simp
                                  with_reducible rfl
                                rotate_left
                                · simp only [Act.put, List.setIfInBounds_toArray, List.set_cons_zero, List.set_cons_succ, i64_w, i32_w]
                                  rfl
                                refine pure_ (i := 8) (N := some 37) (v := ?_) (a' := ?_) #[true, true, true, true, true, true, true, true, true, false, false, false] rfl rfl (any_of HT_.out (by kernel_rfl)) (fun _ _ _ h => h) (Or.inl ⟨by rfl, ?_⟩) ?_ ?_
                                rotate_left
                                · intro w'
                                  go_simp
                                  with_reducible rfl
                                rotate_left
                                · simp only [Act.put, List.setIfInBounds_toArray, List.set_cons_zero, List.set_cons_succ, i64_w, i32_w]
                                  rfl
                                refine pure_ (i := 9) (N := some 6) (v := ?_) (a' := ?_) #[true, true, true, true, true, true, true, true, true, true, false, false] rfl rfl (any_of HT_.out (by kernel_rfl)) (fun _ _ _ h => h) (Or.inl ⟨by rfl, ?_⟩) ?_ ?_
                                rotate_left
                                · intro w'
                                  go_simp
                                  with_reducible rfl
                                rotate_left
                                · simp only [Act.put, List.setIfInBounds_toArray, List.set_cons_zero, List.set_cons_succ, i64_w, i32_w]
                                  rfl
                                refine pure_ (i := 10) (N := some 7) (v := ?_) (a' := ?_) #[true, true, true, true, true, true, true, true, true, true, true, false] rfl rfl (any_of HT_.out (by kernel_rfl)) (fun _ _ _ h => h) (Or.inl ⟨by rfl, ?_⟩) ?_ ?_
                                rotate_left
                                · intro w'
                                  go_simp
                                  with_reducible rfl
                                rotate_left
                                · simp only [Act.put, List.setIfInBounds_toArray, List.set_cons_zero, List.set_cons_succ, i64_w, i32_w]
                                  rfl
                                refine pure_ (i := 11) (N := some 8) (v := ?_) (a' := ?_) #[true, true, true, true, true, true, true, true, true, true, true, true] rfl rfl (any_of HT_.out (by kernel_rfl)) (fun _ _ _ h => h) (Or.inl ⟨by rfl, ?_⟩) ?_ ?_
                                rotate_left
                                · intro w'
                                  go_simp
                                  with_reducible rfl
                                rotate_left
                                · simp only [Act.put, List.setIfInBounds_toArray, List.set_cons_zero, List.set_cons_succ, i64_w, i32_w]
                                  rfl
                                refine done_ (done_of HT_.out (by kernel_rfl)) ?_
                                try go_wp2_with (first | ((with_reducible refine gate_callee (f := 19) rfl ?_); refine goesL_ (some 39) rfl rfl Tryd.func19 (by kernel_rfl) rfl #[.slice A0 l0.length c0] rfl (by (try simp only [List.map_toArray, List.map_cons, List.map_nil]); first | done | rfl | (simp only [List.length_drop, List.length_take]; rfl)) ?_; (with_reducible refine (laws_toWordS.calls k _ _ l0 t347 _ ?side1 ?side2 A16.out).mono ?_); (case side1 => repeat (first | exact (Kd.C_below HR0.out HB.out) | (with_reducible refine Kd.C_alloc ?_ _) | (with_reducible refine Kd.C_drewN ?_ _) | (with_reducible refine Kd.C_drew ?_))); (case side2 => exact HC0.out); rintro e w53 ⟨v348, rfl, ho0, hb⟩; refine ⟨_, rfl, ?_⟩; have n0_ := Aside0.mk (Kd.R_elder' (by (with_reducible repeat (first | apply Kd.R_alloc | apply Kd.R_drewN | apply Kd.R_drew)); exact HO338.out) (Kd.R_base ho0) hb); have n1_ := Aside0.mk (Kd.R_elder' (by (with_reducible repeat (first | apply Kd.R_alloc | apply Kd.R_drewN | apply Kd.R_drew)); exact HO344.out) (Kd.R_base ho0) hb); have n2_ := Aside0.mk (Kd.R_lower (Kd.R_new' (Kd.R_new' ho0 (Kd.R_lt (by (with_reducible repeat (first | apply Kd.R_alloc | apply Kd.R_drewN | apply Kd.R_drew)); exact HO338.out))) (Kd.R_lt (by (with_reducible repeat (first | apply Kd.R_alloc | apply Kd.R_drewN | apply Kd.R_drew)); exact HO344.out))) (below_size (by repeat (first | (with_reducible first | exact HB.out | apply below_alloc | apply pw_below_drewN | apply below_drew1 | refine below_set ?_ GE333.out) | exact HB.out)))); have n3_ := Aside0.mk (blk_below (g := gb333) (o := .cells #[.string a1_0, .int .i64 a1_1, .int .i64 a1_2] 35 (0, 0)) (by (with_reducible repeat (first | refine blk_drewN ?_ _ | refine blk_drew ?_ | refine blk_alloc ?_ _)); exact BK333.out) hb); have n4_ := Aside0.mk (below_step (by repeat (first | (with_reducible first | exact HB.out | apply below_alloc | apply pw_below_drewN | apply below_drew1 | refine below_set ?_ GE333.out) | exact HB.out)) hb); clear HO338; clear HO344; clear BK333; clear HB; have HO338 := n0_; have HO344 := n1_; have HO349 := n2_; have BK333 := n3_; have HB := n4_; clear n0_ n1_ n2_ n3_ n4_; (try clear hb); (try clear hb2); (try clear hk); (try clear hi); (try clear ho0); have hcz54_0 : w53.cell? ⟨gb333, 0, none⟩ = some (.string a1_0) := (blk_cell BK333.out 0).trans rfl; have hcz54_1 : w53.cell? ⟨gb333, 1, none⟩ = some (.int .i64 a1_1) := (blk_cell BK333.out 1).trans rfl; have hcz54_2 : w53.cell? ⟨gb333, 2, none⟩ = some (.int .i64 a1_2) := (blk_cell BK333.out 2).trans rfl; have hfz54_0 := blk_frozen BK333.out 0; have hfz54_1 := blk_frozen BK333.out 1; have hfz54_2 := blk_frozen BK333.out 2) | ((with_reducible refine gate_callee (f := 27) rfl ?_); refine goesL_ (some 43) rfl rfl Tryd.func27 (by kernel_rfl) rfl #[.agg #[.string a1_0, .int .i64 a1_1, .int .i64 a1_2]] rfl (by (try simp only [List.map_toArray, List.map_cons, List.map_nil]); first | done | rfl | (simp only [List.length_drop, List.length_take]; rfl)) ?_; (with_reducible refine (laws_toWord.calls a1_0 a1_1 a1_2 t350 t351 t352 _ A17.out).mono ?_); rintro e w55 ⟨rfl, hb⟩; refine ⟨_, rfl, ?_⟩; replace HO338 := Aside0.mk (Kd.R_below (by (with_reducible repeat (first | apply Kd.R_alloc | apply Kd.R_drewN | apply Kd.R_drew)); exact HO338.out) hb); replace HO344 := Aside0.mk (Kd.R_below (by (with_reducible repeat (first | apply Kd.R_alloc | apply Kd.R_drewN | apply Kd.R_drew)); exact HO344.out) hb); replace HO349 := Aside0.mk (Kd.R_below (by (with_reducible repeat (first | apply Kd.R_alloc | apply Kd.R_drewN | apply Kd.R_drew)); exact HO349.out) hb); replace BK333 := Aside0.mk (blk_below (g := gb333) (o := .cells #[.string a1_0, .int .i64 a1_1, .int .i64 a1_2] 35 (0, 0)) (by (with_reducible repeat (first | refine blk_drewN ?_ _ | refine blk_drew ?_ | refine blk_alloc ?_ _)); exact BK333.out) hb); replace HB := Aside0.mk (below_step (by repeat (first | (with_reducible first | exact HB.out | apply below_alloc | apply pw_below_drewN | apply below_drew1 | refine below_set ?_ GE333.out) | exact HB.out)) hb); (try clear hb); (try clear hb2); (try clear hk); (try clear hi); obtain ⟨Ao56, co56, eo56⟩ := Kd.R_slice HO349.out; subst eo56) | ((with_reducible refine gate_callee (f := 28) rfl ?_); refine goesL_ (some 44) rfl rfl Tryd.func28 (by kernel_rfl) rfl #[.slice Ao56 t347.length co56, .agg #[.string t350, .int .i64 t351, .int .i64 t352]] rfl (by (try simp only [List.map_toArray, List.map_cons, List.map_nil]); first | done | rfl | (simp only [List.length_drop, List.length_take]; rfl)) ?_; (with_reducible refine (impl_AddWord.calls k (fun k_ => some k_ = (.slice Ao56 t347.length co56 : Value).ownBlock) _ _ t347 t350 t351 t352 t353 t356 t357 _ ?side1 A18.out).mono ?_); (case side1 => exact Kd.R_V (Kd.R_tight rfl (Kd.R_types (HO349.out) BK333.out (by decide)))); rintro e w57 ⟨v354, rfl, ho0, hb⟩; refine ⟨_, rfl, ?_⟩; have n0_ := Aside0.mk (Kd.R_elder' (by (with_reducible repeat (first | apply Kd.R_alloc | apply Kd.R_drewN | apply Kd.R_drew)); exact HO338.out) (Kd.R_base ho0) hb); have n1_ := Aside0.mk (Kd.R_elder' (by (with_reducible repeat (first | apply Kd.R_alloc | apply Kd.R_drewN | apply Kd.R_drew)); exact HO344.out) (Kd.R_base ho0) hb); have n2_ := Aside0.mk (Kd.R_elder' (by (with_reducible repeat (first | apply Kd.R_alloc | apply Kd.R_drewN | apply Kd.R_drew)); exact HO349.out) (Kd.R_base ho0) hb); have n3_ := Aside0.mk (Kd.R_lower (Kd.R_new' (Kd.R_new' (Kd.R_new' (Kd.R_mono (ok' := fun k_ => True) ho0 (fun _ hk_ => trivial)) (Kd.R_lt (by (with_reducible repeat (first | apply Kd.R_alloc | apply Kd.R_drewN | apply Kd.R_drew)); exact HO338.out))) (Kd.R_lt (by (with_reducible repeat (first | apply Kd.R_alloc | apply Kd.R_drewN | apply Kd.R_drew)); exact HO344.out))) (Kd.R_lt (by (with_reducible repeat (first | apply Kd.R_alloc | apply Kd.R_drewN | apply Kd.R_drew)); exact HO349.out))) (below_size (by repeat (first | (with_reducible first | exact HB.out | apply below_alloc | apply pw_below_drewN | apply below_drew1 | refine below_set ?_ GE333.out) | exact HB.out)))); have n4_ := Aside0.mk (blk_below (g := gb333) (o := .cells #[.string a1_0, .int .i64 a1_1, .int .i64 a1_2] 35 (0, 0)) (by (with_reducible repeat (first | refine blk_drewN ?_ _ | refine blk_drew ?_ | refine blk_alloc ?_ _)); exact BK333.out) hb); have n5_ := Aside0.mk (below_step (by repeat (first | (with_reducible first | exact HB.out | apply below_alloc | apply pw_below_drewN | apply below_drew1 | refine below_set ?_ GE333.out) | exact HB.out)) hb); clear HO338; clear HO344; clear HO349; clear BK333; clear HB; have HO338 := n0_; have HO344 := n1_; have HO349 := n2_; have HO355 := n3_; have BK333 := n4_; have HB := n5_; clear n0_ n1_ n2_ n3_ n4_ n5_; (try clear hb); (try clear hb2); (try clear hk); (try clear hi); (try clear ho0); obtain ⟨Ao58, co58, eo58⟩ := Kd.R_slice HO355.out; subst eo58; obtain ⟨Ao59, co59, eo59⟩ := Kd.R_slice HO344.out; subst eo59) | ((with_reducible refine gate_callee (f := 14) rfl ?_); refine goesL_ (some 50) rfl rfl Tryd.func14 (by kernel_rfl) rfl #[.slice Ao58 t353.length co58, .slice Ao59 t342.length co59] rfl (by (try simp only [List.map_toArray, List.map_cons, List.map_nil]); first | done | rfl | (simp only [List.length_drop, List.length_take]; rfl)) ?_; (with_reducible refine (laws_eqWordS.calls k _ _ t353 _ _ t342 true _ ?side1 ?side2 ?side3 ?side4 A19.out).mono ?_); (case side1 => repeat (first | exact (Kd.R_reads' HO355.out).2.2 | (with_reducible refine Kd.C_alloc ?_ _) | (with_reducible refine Kd.C_drewN ?_ _) | (with_reducible refine Kd.C_drew ?_))); (case side2 => exact (Kd.R_reads' HO355.out).2.1); (case side3 => repeat (first | exact (Kd.R_reads' HO344.out).2.2 | (with_reducible refine Kd.C_alloc ?_ _) | (with_reducible refine Kd.C_drewN ?_ _) | (with_reducible refine Kd.C_drew ?_))); (case side4 => exact (Kd.R_reads' HO344.out).2.1); rintro e w60 ⟨rfl, hb⟩; refine ⟨_, rfl, ?_⟩; replace HO338 := Aside0.mk (Kd.R_below (by (with_reducible repeat (first | apply Kd.R_alloc | apply Kd.R_drewN | apply Kd.R_drew)); exact HO338.out) hb); replace HO344 := Aside0.mk (Kd.R_below (by (with_reducible repeat (first | apply Kd.R_alloc | apply Kd.R_drewN | apply Kd.R_drew)); exact HO344.out) hb); replace HO349 := Aside0.mk (Kd.R_below (by (with_reducible repeat (first | apply Kd.R_alloc | apply Kd.R_drewN | apply Kd.R_drew)); exact HO349.out) hb); replace HO355 := Aside0.mk (Kd.R_below (by (with_reducible repeat (first | apply Kd.R_alloc | apply Kd.R_drewN | apply Kd.R_drew)); exact HO355.out) hb); replace BK333 := Aside0.mk (blk_below (g := gb333) (o := .cells #[.string a1_0, .int .i64 a1_1, .int .i64 a1_2] 35 (0, 0)) (by (with_reducible repeat (first | refine blk_drewN ?_ _ | refine blk_drew ?_ | refine blk_alloc ?_ _)); exact BK333.out) hb); replace HB := Aside0.mk (below_step (by repeat (first | (with_reducible first | exact HB.out | apply below_alloc | apply pw_below_drewN | apply below_drew1 | refine below_set ?_ GE333.out) | exact HB.out)) hb); (try clear hb); (try clear hb2); (try clear hk); (try clear hi)) | ((with_reducible refine gate_callee (f := 19) rfl ?_); refine goesL_ (some 64) rfl rfl Tryd.func19 (by kernel_rfl) rfl #[.slice A0 l0.length c0] rfl (by (try simp only [List.map_toArray, List.map_cons, List.map_nil]); first | done | rfl | (simp only [List.length_drop, List.length_take]; rfl)) ?_; (with_reducible refine (laws_toWordS.calls k _ _ l0 t359 _ ?side1 ?side2 A23.out).mono ?_); (case side1 => repeat (first | exact (Kd.C_below HR0.out HB.out) | (with_reducible refine Kd.C_alloc ?_ _) | (with_reducible refine Kd.C_drewN ?_ _) | (with_reducible refine Kd.C_drew ?_))); (case side2 => exact HC0.out); rintro e w61 ⟨v360, rfl, ho0, hb⟩; refine ⟨_, rfl, ?_⟩; have n0_ := Aside0.mk (Kd.R_elder' (by (with_reducible repeat (first | apply Kd.R_alloc | apply Kd.R_drewN | apply Kd.R_drew)); exact HO338.out) (Kd.R_base ho0) hb); have n1_ := Aside0.mk (Kd.R_elder' (by (with_reducible repeat (first | apply Kd.R_alloc | apply Kd.R_drewN | apply Kd.R_drew)); exact HO344.out) (Kd.R_base ho0) hb); have n2_ := Aside0.mk (Kd.R_elder' (by (with_reducible repeat (first | apply Kd.R_alloc | apply Kd.R_drewN | apply Kd.R_drew)); exact HO349.out) (Kd.R_base ho0) hb); have n3_ := Aside0.mk (Kd.R_elder' (by (with_reducible repeat (first | apply Kd.R_alloc | apply Kd.R_drewN | apply Kd.R_drew)); exact HO355.out) (Kd.R_base ho0) hb); have n4_ := Aside0.mk (Kd.R_lower (Kd.R_new' (Kd.R_new' (Kd.R_new' (Kd.R_new' ho0 (Kd.R_lt (by (with_reducible repeat (first | apply Kd.R_alloc | apply Kd.R_drewN | apply Kd.R_drew)); exact HO338.out))) (Kd.R_lt (by (with_reducible repeat (first | apply Kd.R_alloc | apply Kd.R_drewN | apply Kd.R_drew)); exact HO344.out))) (Kd.R_lt (by (with_reducible repeat (first | apply Kd.R_alloc | apply Kd.R_drewN | apply Kd.R_drew)); exact HO349.out))) (Kd.R_lt (by (with_reducible repeat (first | apply Kd.R_alloc | apply Kd.R_drewN | apply Kd.R_drew)); exact HO355.out))) (below_size (by repeat (first | (with_reducible first | exact HB.out | apply below_alloc | apply pw_below_drewN | apply below_drew1 | refine below_set ?_ GE333.out) | exact HB.out)))); have n5_ := Aside0.mk (blk_below (g := gb333) (o := .cells #[.string a1_0, .int .i64 a1_1, .int .i64 a1_2] 35 (0, 0)) (by (with_reducible repeat (first | refine blk_drewN ?_ _ | refine blk_drew ?_ | refine blk_alloc ?_ _)); exact BK333.out) hb); have n6_ := Aside0.mk (below_step (by repeat (first | (with_reducible first | exact HB.out | apply below_alloc | apply pw_below_drewN | apply below_drew1 | refine below_set ?_ GE333.out) | exact HB.out)) hb); clear HO338; clear HO344; clear HO349; clear HO355; clear BK333; clear HB; have HO338 := n0_; have HO344 := n1_; have HO349 := n2_; have HO355 := n3_; have HO361 := n4_; have BK333 := n5_; have HB := n6_; clear n0_ n1_ n2_ n3_ n4_ n5_ n6_; (try clear hb); (try clear hb2); (try clear hk); (try clear hi); (try clear ho0); obtain ⟨Ao62, co62, eo62⟩ := Kd.R_slice HO361.out; subst eo62) | ((with_reducible refine gate_callee (f := 14) rfl ?_); refine goesL_ (some 65) rfl rfl Tryd.func14 (by kernel_rfl) rfl #[.slice Ao56 t347.length co56, .slice Ao62 t359.length co62] rfl (by (try simp only [List.map_toArray, List.map_cons, List.map_nil]); first | done | rfl | (simp only [List.length_drop, List.length_take]; rfl)) ?_; (with_reducible refine (laws_eqWordS.calls k _ _ t347 _ _ t359 true _ ?side1 ?side2 ?side3 ?side4 A24.out).mono ?_); (case side1 => repeat (first | exact (Kd.R_reads' HO349.out).2.2 | (with_reducible refine Kd.C_alloc ?_ _) | (with_reducible refine Kd.C_drewN ?_ _) | (with_reducible refine Kd.C_drew ?_))); (case side2 => exact (Kd.R_reads' HO349.out).2.1); (case side3 => repeat (first | exact (Kd.R_reads' HO361.out).2.2 | (with_reducible refine Kd.C_alloc ?_ _) | (with_reducible refine Kd.C_drewN ?_ _) | (with_reducible refine Kd.C_drew ?_))); (case side4 => exact (Kd.R_reads' HO361.out).2.1); rintro e w63 ⟨rfl, hb⟩; refine ⟨_, rfl, ?_⟩; replace HO338 := Aside0.mk (Kd.R_below (by (with_reducible repeat (first | apply Kd.R_alloc | apply Kd.R_drewN | apply Kd.R_drew)); exact HO338.out) hb); replace HO344 := Aside0.mk (Kd.R_below (by (with_reducible repeat (first | apply Kd.R_alloc | apply Kd.R_drewN | apply Kd.R_drew)); exact HO344.out) hb); replace HO349 := Aside0.mk (Kd.R_below (by (with_reducible repeat (first | apply Kd.R_alloc | apply Kd.R_drewN | apply Kd.R_drew)); exact HO349.out) hb); replace HO355 := Aside0.mk (Kd.R_below (by (with_reducible repeat (first | apply Kd.R_alloc | apply Kd.R_drewN | apply Kd.R_drew)); exact HO355.out) hb); replace HO361 := Aside0.mk (Kd.R_below (by (with_reducible repeat (first | apply Kd.R_alloc | apply Kd.R_drewN | apply Kd.R_drew)); exact HO361.out) hb); replace BK333 := Aside0.mk (blk_below (g := gb333) (o := .cells #[.string a1_0, .int .i64 a1_1, .int .i64 a1_2] 35 (0, 0)) (by (with_reducible repeat (first | refine blk_drewN ?_ _ | refine blk_drew ?_ | refine blk_alloc ?_ _)); exact BK333.out) hb); replace HB := Aside0.mk (below_step (by repeat (first | (with_reducible first | exact HB.out | apply below_alloc | apply pw_below_drewN | apply below_drew1 | refine below_set ?_ GE333.out) | exact HB.out)) hb); (try clear hb); (try clear hb2); (try clear hk); (try clear hi)) | ((with_reducible refine gate_callee (f := 15) rfl ?_); refine goesL_ (some 69) rfl rfl Tryd.func15 (by kernel_rfl) rfl #[.slice Ao56 t347.length co56, .int .i64 1] rfl (by (try simp only [List.map_toArray, List.map_cons, List.map_nil]); first | done | rfl | (simp only [List.length_drop, List.length_take]; rfl)) ?_; (with_reducible refine (laws_markWordS.calls k (fun k_ => some k_ = (.slice Ao56 t347.length co56 : Value).ownBlock) (.slice Ao56 t347.length co56) t347 1 t363 t364 w _ ?side1 ?side2 A26.out).mono ?_); (case side1 => repeat (first | (with_reducible first | exact HB.out | apply below_alloc | apply pw_below_drewN | apply below_drew1 | refine below_set ?_ GE333.out) | exact HB.out)); (case side2 => exact Kd.R_tight rfl HO349.out); rintro e w64 ⟨rfl, hy0, hb, hkp⟩; refine ⟨_, rfl, ?_⟩; replace BK333 := Aside0.mk (blk_kept (by (with_reducible repeat (first | refine blk_drewN ?_ _ | refine blk_drew ?_ | refine blk_alloc ?_ _)); exact BK333.out) hkp (fun hs_ => (fun e_ => (Kd.R_ne HO349.out BK333.out (by decide)) e_) hs_)); replace HO338 := Aside0.mk (Kd.R_mono (ok' := fun k_ => some k_ ≠ (.slice Ao59 t342.length co59 : Value).ownBlock ∧ some k_ ≠ (.slice Ao56 t347.length co56 : Value).ownBlock ∧ some k_ ≠ (.slice Ao58 t353.length co58 : Value).ownBlock ∧ some k_ ≠ (.slice Ao62 t359.length co62 : Value).ownBlock) (Kd.R_keptB (HO338.out) hkp (fun k_ hk_ hs_ => (hk_.1.1.2) hs_)) (fun k_ hk_ => ⟨hk_.1.1.1.1.2, hk_.1.1.1.2, hk_.1.1.2, hk_.1.2⟩)); replace HO344 := Aside0.mk (Kd.R_mono (ok' := fun k_ => some k_ ≠ (.slice Ao51 t336.length co51 : Value).ownBlock ∧ some k_ ≠ (.slice Ao56 t347.length co56 : Value).ownBlock ∧ some k_ ≠ (.slice Ao58 t353.length co58 : Value).ownBlock ∧ some k_ ≠ (.slice Ao62 t359.length co62 : Value).ownBlock) (Kd.R_keptB (HO344.out) hkp (fun k_ hk_ hs_ => (hk_.1.1.2) hs_)) (fun k_ hk_ => ⟨hk_.1.1.1.1.2, hk_.1.1.1.2, hk_.1.1.2, hk_.1.2⟩)); replace HO349 := Aside0.mk (Kd.R_reok rfl hy0 (fun k_ e_ => HO349.out.1 k_ e_)); replace HO355 := Aside0.mk (Kd.R_mono (ok' := fun k_ => some k_ ≠ (.slice Ao51 t336.length co51 : Value).ownBlock ∧ some k_ ≠ (.slice Ao59 t342.length co59 : Value).ownBlock ∧ some k_ ≠ (.slice Ao56 t347.length co56 : Value).ownBlock ∧ some k_ ≠ (.slice Ao62 t359.length co62 : Value).ownBlock) (Kd.R_keptB (HO355.out) hkp (fun k_ hk_ hs_ => (hk_.1.2) hs_)) (fun k_ hk_ => ⟨hk_.1.1.1.1.2, hk_.1.1.1.2, hk_.1.1.2, hk_.1.2⟩)); replace HO361 := Aside0.mk (Kd.R_mono (ok' := fun k_ => some k_ ≠ (.slice Ao51 t336.length co51 : Value).ownBlock ∧ some k_ ≠ (.slice Ao59 t342.length co59 : Value).ownBlock ∧ some k_ ≠ (.slice Ao56 t347.length co56 : Value).ownBlock ∧ some k_ ≠ (.slice Ao58 t353.length co58 : Value).ownBlock) (Kd.R_keptB (HO361.out) hkp (fun k_ hk_ hs_ => (hk_.1.2) hs_)) (fun k_ hk_ => ⟨hk_.1.1.1.1.2, hk_.1.1.1.2, hk_.1.1.2, hk_.1.2⟩)); replace HB := Aside0.mk (hb); (try clear hb); (try clear hkp); (try clear hy0)) | (go_at_call 14; (with_reducible refine (laws_eqWordS.calls k _ _ t353 _ _ t342 true _ ?side1 ?side2 ?side3 ?side4 A28.out).mono ?_); (case side1 => repeat (first | exact (Kd.R_reads' HO355.out).2.2 | (with_reducible refine Kd.C_alloc ?_ _) | (with_reducible refine Kd.C_drewN ?_ _) | (with_reducible refine Kd.C_drew ?_))); (case side2 => exact (Kd.R_reads' HO355.out).2.1); (case side3 => repeat (first | exact (Kd.R_reads' HO344.out).2.2 | (with_reducible refine Kd.C_alloc ?_ _) | (with_reducible refine Kd.C_drewN ?_ _) | (with_reducible refine Kd.C_drew ?_))); (case side4 => exact (Kd.R_reads' HO344.out).2.1); rintro e w65 ⟨rfl, hb⟩; replace HO338 := Aside0.mk (Kd.R_below (by (with_reducible repeat (first | apply Kd.R_alloc | apply Kd.R_drewN | apply Kd.R_drew)); exact HO338.out) hb); replace HO344 := Aside0.mk (Kd.R_below (by (with_reducible repeat (first | apply Kd.R_alloc | apply Kd.R_drewN | apply Kd.R_drew)); exact HO344.out) hb); replace HO349 := Aside0.mk (Kd.R_below (by (with_reducible repeat (first | apply Kd.R_alloc | apply Kd.R_drewN | apply Kd.R_drew)); exact HO349.out) hb); replace HO355 := Aside0.mk (Kd.R_below (by (with_reducible repeat (first | apply Kd.R_alloc | apply Kd.R_drewN | apply Kd.R_drew)); exact HO355.out) hb); replace HO361 := Aside0.mk (Kd.R_below (by (with_reducible repeat (first | apply Kd.R_alloc | apply Kd.R_drewN | apply Kd.R_drew)); exact HO361.out) hb); replace BK333 := Aside0.mk (blk_below (g := gb333) (o := .cells #[.string a1_0, .int .i64 a1_1, .int .i64 a1_2] 35 (0, 0)) (by (with_reducible repeat (first | refine blk_drewN ?_ _ | refine blk_drew ?_ | refine blk_alloc ?_ _)); exact BK333.out) hb); replace HB := Aside0.mk (below_step (by repeat (first | (with_reducible first | exact HB.out | apply below_alloc | apply pw_below_drewN | apply below_drew1 | refine below_set ?_ GE333.out) | exact HB.out)) hb); (try clear hb); (try clear hb2); (try clear hk); (try clear hi)) | ((with_reducible refine gate_callee (f := 15) rfl ?_); refine goesL_ (some 90) rfl rfl Tryd.func15 (by kernel_rfl) rfl #[.slice Ao58 t353.length co58, .int .i64 1] rfl (by (try simp only [List.map_toArray, List.map_cons, List.map_nil]); first | done | rfl | (simp only [List.length_drop, List.length_take]; rfl)) ?_; (with_reducible refine (laws_markWordS.calls k (fun k_ => some k_ = (.slice Ao58 t353.length co58 : Value).ownBlock) (.slice Ao58 t353.length co58) t353 1 t366 t367 w _ ?side1 ?side2 A30.out).mono ?_); (case side1 => repeat (first | (with_reducible first | exact HB.out | apply below_alloc | apply pw_below_drewN | apply below_drew1 | refine below_set ?_ GE333.out) | exact HB.out)); (case side2 => exact Kd.R_tight rfl HO355.out); rintro e w66 ⟨rfl, hy0, hb, hkp⟩; refine ⟨_, rfl, ?_⟩; replace BK333 := Aside0.mk (blk_kept (by (with_reducible repeat (first | refine blk_drewN ?_ _ | refine blk_drew ?_ | refine blk_alloc ?_ _)); exact BK333.out) hkp (fun hs_ => (fun e_ => (Kd.R_ne HO355.out BK333.out (by decide)) e_) hs_)); replace HO338 := Aside0.mk (Kd.R_mono (ok' := fun k_ => some k_ ≠ (.slice Ao59 t342.length co59 : Value).ownBlock ∧ some k_ ≠ (.slice Ao56 t347.length co56 : Value).ownBlock ∧ some k_ ≠ (.slice Ao58 t353.length co58 : Value).ownBlock ∧ some k_ ≠ (.slice Ao62 t359.length co62 : Value).ownBlock) (Kd.R_keptB (HO338.out) hkp (fun k_ hk_ hs_ => (hk_.2.2.1) hs_)) (fun k_ hk_ => ⟨hk_.1.1, hk_.1.2.1, hk_.1.2.2.1, hk_.1.2.2.2⟩)); replace HO344 := Aside0.mk (Kd.R_mono (ok' := fun k_ => some k_ ≠ (.slice Ao51 t336.length co51 : Value).ownBlock ∧ some k_ ≠ (.slice Ao56 t347.length co56 : Value).ownBlock ∧ some k_ ≠ (.slice Ao58 t353.length co58 : Value).ownBlock ∧ some k_ ≠ (.slice Ao62 t359.length co62 : Value).ownBlock) (Kd.R_keptB (HO344.out) hkp (fun k_ hk_ hs_ => (hk_.2.2.1) hs_)) (fun k_ hk_ => ⟨hk_.1.1, hk_.1.2.1, hk_.1.2.2.1, hk_.1.2.2.2⟩)); replace HO349 := Aside0.mk (Kd.R_mono (ok' := fun k_ => some k_ ≠ (.slice Ao51 t336.length co51 : Value).ownBlock ∧ some k_ ≠ (.slice Ao59 t342.length co59 : Value).ownBlock ∧ some k_ ≠ (.slice Ao58 t353.length co58 : Value).ownBlock ∧ some k_ ≠ (.slice Ao62 t359.length co62 : Value).ownBlock) (Kd.R_keptB (HO349.out) hkp (fun k_ hk_ hs_ => (hk_.1.2) hs_)) (fun k_ hk_ => ⟨hk_.1.1.1.1.2, hk_.1.1.1.2, hk_.1.1.2, hk_.1.2⟩)); replace HO355 := Aside0.mk (Kd.R_reok rfl hy0 (fun k_ e_ => HO355.out.1 k_ e_)); replace HO361 := Aside0.mk (Kd.R_mono (ok' := fun k_ => some k_ ≠ (.slice Ao51 t336.length co51 : Value).ownBlock ∧ some k_ ≠ (.slice Ao59 t342.length co59 : Value).ownBlock ∧ some k_ ≠ (.slice Ao56 t347.length co56 : Value).ownBlock ∧ some k_ ≠ (.slice Ao58 t353.length co58 : Value).ownBlock) (Kd.R_keptB (HO361.out) hkp (fun k_ hk_ hs_ => (hk_.2.2.2) hs_)) (fun k_ hk_ => ⟨hk_.1.1, hk_.1.2.1, hk_.1.2.2.1, hk_.1.2.2.2⟩)); replace HB := Aside0.mk (hb); (try clear hb); (try clear hkp); (try clear hy0)) | ((with_reducible refine gate_callee (f := 16) rfl ?_); refine goesL_ (some 93) rfl rfl Tryd.func16 (by kernel_rfl) rfl #[.slice Ao58 t367.length co58, .int .i64 1] rfl (by (try simp only [List.map_toArray, List.map_cons, List.map_nil]); first | done | (rw [show t367.length = t353.length from (Kd.R_reads' HO355.out).1.symm] <;> rfl) | rfl | (simp only [List.length_drop, List.length_take]; rfl)) ?_; (with_reducible refine (laws_heldWordS.calls k _ _ t367 1 t368 _ ?side1 ?side2 A31.out).mono ?_); (case side1 => repeat (first | exact (Kd.R_reads' HO355.out).2.2 | (with_reducible refine Kd.C_alloc ?_ _) | (with_reducible refine Kd.C_drewN ?_ _) | (with_reducible refine Kd.C_drew ?_))); (case side2 => rw [show t367.length = t353.length from (Kd.R_reads' HO355.out).1.symm]; exact (Kd.R_reads' HO355.out).2.1); rintro e w67 ⟨rfl, hb⟩; refine ⟨_, rfl, ?_⟩; replace HO338 := Aside0.mk (Kd.R_below (by (with_reducible repeat (first | apply Kd.R_alloc | apply Kd.R_drewN | apply Kd.R_drew)); exact HO338.out) hb); replace HO344 := Aside0.mk (Kd.R_below (by (with_reducible repeat (first | apply Kd.R_alloc | apply Kd.R_drewN | apply Kd.R_drew)); exact HO344.out) hb); replace HO349 := Aside0.mk (Kd.R_below (by (with_reducible repeat (first | apply Kd.R_alloc | apply Kd.R_drewN | apply Kd.R_drew)); exact HO349.out) hb); replace HO355 := Aside0.mk (Kd.R_below (by (with_reducible repeat (first | apply Kd.R_alloc | apply Kd.R_drewN | apply Kd.R_drew)); exact HO355.out) hb); replace HO361 := Aside0.mk (Kd.R_below (by (with_reducible repeat (first | apply Kd.R_alloc | apply Kd.R_drewN | apply Kd.R_drew)); exact HO361.out) hb); replace BK333 := Aside0.mk (blk_below (g := gb333) (o := .cells #[.string a1_0, .int .i64 a1_1, .int .i64 a1_2] 35 (0, 0)) (by (with_reducible repeat (first | refine blk_drewN ?_ _ | refine blk_drew ?_ | refine blk_alloc ?_ _)); exact BK333.out) hb); replace HB := Aside0.mk (below_step (by repeat (first | (with_reducible first | exact HB.out | apply below_alloc | apply pw_below_drewN | apply below_drew1 | refine below_set ?_ GE333.out) | exact HB.out)) hb); (try clear hb); (try clear hb2); (try clear hk); (try clear hi)))
                                replace HO338 := Aside0.mk (Kd.R_drew HO338.out)
                                replace HO344 := Aside0.mk (Kd.R_drew HO344.out)
                                replace HO349 := Aside0.mk (Kd.R_drew HO349.out)
                                replace HO355 := Aside0.mk (Kd.R_drew HO355.out)
                                replace HO361 := Aside0.mk (Kd.R_drew HO361.out)
                                replace BK333 := Aside0.mk (blk_drew BK333.out)
                                replace HB := Aside0.mk (below_drew1 HB.out)
                                refine start_ (n := 12) (S := fun w' => w'.cell? ⟨gb333, 0, none⟩ = some (.string a1_0) ∧ w'.cell? ⟨gb333, 1, none⟩ = some (.int .i64 a1_1) ∧ w'.cell? ⟨gb333, 2, none⟩ = some (.int .i64 a1_2)) (ds := []) #[false, false, false, false, false, false, false, false, false, false, false, false] (by kernel_rfl) rfl rfl ⟨(blk_cell BK333.out 0).trans rfl, (blk_cell BK333.out 1).trans rfl, (blk_cell BK333.out 2).trans rfl⟩ (fun hHeld => ?_); refine with_tabW laws_FnExactAddWord.tab27 laws_FnExactAddWord.bits27 (fun HT_ HW_ => ?_)
                                generalize w67.drew = w68 at HO338 HO344 HO349 HO355 HO361 BK333 HB hHeld ⊢
                                refine pure_ (i := 0) (N := some 100) (v := ?_) (a' := ?_) #[true, false, false, false, false, false, false, false, false, false, false, false] rfl rfl (any_of HT_.out (by kernel_rfl)) (fun _ _ _ h => h) (Or.inl ⟨by rfl, ?_⟩) ?_ ?_
                                rotate_left
                                · intro w'
                                  go_simp
                                  with_reducible rfl
                                rotate_left
                                · simp only [Act.put, List.setIfInBounds_toArray, List.set_cons_zero, List.set_cons_succ, i64_w, i32_w]
                                  rfl
                                refine take_ (i := 2) (N := some 102) (v := ?_) (a' := ?_) #[true, false, true, false, false, false, false, false, false, false, false, false] rfl rfl (take_ofW HT_.out HW_.out (by kernel_rfl)) (fun _ _ _ h => h) (Or.inl ⟨by rfl, ?_⟩) hHeld ?_ ?_
                                rotate_left
                                · rintro w' ⟨s0, s1, s2⟩
                                  go_simp
                                  with_reducible rfl
                                rotate_left
                                · simp only [Act.put, List.setIfInBounds_toArray, List.set_cons_zero, List.set_cons_succ, i64_w, i32_w]
                                  rfl
                                refine one_ (i := 1) (N := some 101) #[true, true, true, false, false, false, false, false, false, false, false, false] rfl rfl (one_of HT_.out (by kernel_rfl)) (by decide) (fun K hK => ?_)
                                refine goes_ Tryd.func19 (by kernel_rfl) rfl #[.slice A0 l0.length c0] (by rfl) rfl rfl (by (try simp only [List.map_toArray, List.map_cons, List.map_nil]); first | done | rfl | (simp only [List.length_drop, List.length_take]; rfl)) ?_
                                with_reducible refine (laws_toWordS.calls k _ _ l0 t369 _ ?side1 ?side2 A34.out).mono ?_
                                (case side1 => repeat (first | exact (Kd.C_below HR0.out HB.out) | (with_reducible refine Kd.C_alloc ?_ _) | (with_reducible refine Kd.C_drewN ?_ _) | (with_reducible refine Kd.C_drew ?_)))
                                (case side2 => exact HC0.out)
                                rintro e w69 ⟨v370, rfl, ho0, hb⟩
                                refine ⟨_, rfl, ?_⟩
                                have n0_ := Aside0.mk (Kd.R_elder' (by (with_reducible repeat (first | apply Kd.R_alloc | apply Kd.R_drewN | apply Kd.R_drew)); exact HO338.out) (Kd.R_base ho0) hb)
                                have n1_ := Aside0.mk (Kd.R_elder' (by (with_reducible repeat (first | apply Kd.R_alloc | apply Kd.R_drewN | apply Kd.R_drew)); exact HO344.out) (Kd.R_base ho0) hb)
                                have n2_ := Aside0.mk (Kd.R_elder' (by (with_reducible repeat (first | apply Kd.R_alloc | apply Kd.R_drewN | apply Kd.R_drew)); exact HO349.out) (Kd.R_base ho0) hb)
                                have n3_ := Aside0.mk (Kd.R_elder' (by (with_reducible repeat (first | apply Kd.R_alloc | apply Kd.R_drewN | apply Kd.R_drew)); exact HO355.out) (Kd.R_base ho0) hb)
                                have n4_ := Aside0.mk (Kd.R_elder' (by (with_reducible repeat (first | apply Kd.R_alloc | apply Kd.R_drewN | apply Kd.R_drew)); exact HO361.out) (Kd.R_base ho0) hb)
                                have n5_ := Aside0.mk (Kd.R_lower (Kd.R_new' (Kd.R_new' (Kd.R_new' (Kd.R_new' (Kd.R_new' ho0 (Kd.R_lt (by (with_reducible repeat (first | apply Kd.R_alloc | apply Kd.R_drewN | apply Kd.R_drew)); exact HO338.out))) (Kd.R_lt (by (with_reducible repeat (first | apply Kd.R_alloc | apply Kd.R_drewN | apply Kd.R_drew)); exact HO344.out))) (Kd.R_lt (by (with_reducible repeat (first | apply Kd.R_alloc | apply Kd.R_drewN | apply Kd.R_drew)); exact HO349.out))) (Kd.R_lt (by (with_reducible repeat (first | apply Kd.R_alloc | apply Kd.R_drewN | apply Kd.R_drew)); exact HO355.out))) (Kd.R_lt (by (with_reducible repeat (first | apply Kd.R_alloc | apply Kd.R_drewN | apply Kd.R_drew)); exact HO361.out))) (below_size (by repeat (first | (with_reducible first | exact HB.out | apply below_alloc | apply pw_below_drewN | apply below_drew1 | refine below_set ?_ GE333.out) | exact HB.out))))
                                have n6_ := Aside0.mk (blk_below (g := gb333) (o := .cells #[.string a1_0, .int .i64 a1_1, .int .i64 a1_2] 35 (0, 0)) (by (with_reducible repeat (first | refine blk_drewN ?_ _ | refine blk_drew ?_ | refine blk_alloc ?_ _)); exact BK333.out) hb)
                                have n7_ := Aside0.mk (below_step (by repeat (first | (with_reducible first | exact HB.out | apply below_alloc | apply pw_below_drewN | apply below_drew1 | refine below_set ?_ GE333.out) | exact HB.out)) hb)
                                clear HO338
                                clear HO344
                                clear HO349
                                clear HO355
                                clear HO361
                                clear BK333
                                clear HB
                                have HO338 := n0_
                                have HO344 := n1_
                                have HO349 := n2_
                                have HO355 := n3_
                                have HO361 := n4_
                                have HO371 := n5_
                                have BK333 := n6_
                                have HB := n7_
                                clear n0_ n1_ n2_ n3_ n4_ n5_ n6_ n7_
                                (try clear hb)
                                (try clear hb2)
                                (try clear hk)
                                (try clear hi)
                                (try clear ho0)
                                refine hK.out _ _ ⟨(blk_cell BK333.out 0).trans rfl, (blk_cell BK333.out 1).trans rfl, (blk_cell BK333.out 2).trans rfl⟩ (fun hHeld => ?_)
                                clear hK K
                                refine norm_ (a' := ?_) ?_ ?_
                                rotate_left
                                · show Act.put _ (some 101) _ = _
                                  simp only [Act.put, List.setIfInBounds_toArray, List.set_cons_zero, List.set_cons_succ, i64_w, i32_w]
                                  rfl
                                refine one_ (i := 3) (N := some 103) #[true, true, true, true, false, false, false, false, false, false, false, false] rfl rfl (one_of HT_.out (by kernel_rfl)) (by decide) (fun K hK => ?_)
                                refine goes_ Tryd.func27 (by kernel_rfl) rfl #[.agg #[.string a1_0, .int .i64 a1_1, .int .i64 a1_2]] (by rfl) rfl rfl (by (try simp only [List.map_toArray, List.map_cons, List.map_nil]); first | done | rfl | (simp only [List.length_drop, List.length_take]; rfl)) ?_
                                with_reducible refine (laws_toWord.calls a1_0 a1_1 a1_2 t372 t373 t374 _ A35.out).mono ?_
                                rintro e w70 ⟨rfl, hb⟩
                                refine ⟨_, rfl, ?_⟩
                                replace HO338 := Aside0.mk (Kd.R_below (by (with_reducible repeat (first | apply Kd.R_alloc | apply Kd.R_drewN | apply Kd.R_drew)); exact HO338.out) hb)
                                replace HO344 := Aside0.mk (Kd.R_below (by (with_reducible repeat (first | apply Kd.R_alloc | apply Kd.R_drewN | apply Kd.R_drew)); exact HO344.out) hb)
                                replace HO349 := Aside0.mk (Kd.R_below (by (with_reducible repeat (first | apply Kd.R_alloc | apply Kd.R_drewN | apply Kd.R_drew)); exact HO349.out) hb)
                                replace HO355 := Aside0.mk (Kd.R_below (by (with_reducible repeat (first | apply Kd.R_alloc | apply Kd.R_drewN | apply Kd.R_drew)); exact HO355.out) hb)
                                replace HO361 := Aside0.mk (Kd.R_below (by (with_reducible repeat (first | apply Kd.R_alloc | apply Kd.R_drewN | apply Kd.R_drew)); exact HO361.out) hb)
                                replace HO371 := Aside0.mk (Kd.R_below (by (with_reducible repeat (first | apply Kd.R_alloc | apply Kd.R_drewN | apply Kd.R_drew)); exact HO371.out) hb)
                                replace BK333 := Aside0.mk (blk_below (g := gb333) (o := .cells #[.string a1_0, .int .i64 a1_1, .int .i64 a1_2] 35 (0, 0)) (by (with_reducible repeat (first | refine blk_drewN ?_ _ | refine blk_drew ?_ | refine blk_alloc ?_ _)); exact BK333.out) hb)
                                replace HB := Aside0.mk (below_step (by repeat (first | (with_reducible first | exact HB.out | apply below_alloc | apply pw_below_drewN | apply below_drew1 | refine below_set ?_ GE333.out) | exact HB.out)) hb)
                                (try clear hb)
                                (try clear hb2)
                                (try clear hk)
                                (try clear hi)
                                obtain ⟨Ao71, co71, eo71⟩ := Kd.R_slice HO371.out
                                (first | subst eo71 | (injection eo71 with f1_ f2_ f3_; have f4_ := f1_.symm; have f5_ := f3_.symm; clear f1_ f2_ f3_; subst f4_; subst f5_))
                                refine hK.out _ _ ⟨(blk_cell BK333.out 0).trans rfl, (blk_cell BK333.out 1).trans rfl, (blk_cell BK333.out 2).trans rfl⟩ (fun hHeld => ?_)
                                clear hK K
                                refine norm_ (a' := ?_) ?_ ?_
                                rotate_left
                                · show Act.put _ (some 103) _ = _
                                  simp only [Act.put, List.setIfInBounds_toArray, List.set_cons_zero, List.set_cons_succ, i64_w, i32_w]
                                  rfl
                                refine one_ (i := 4) (N := some 104) #[true, true, true, true, true, false, false, false, false, false, false, false] rfl rfl (one_of HT_.out (by kernel_rfl)) (by decide) (fun K hK => ?_)
                                refine goes_ Tryd.func28 (by kernel_rfl) rfl #[.slice Ao71 t369.length co71, .agg #[.string t372, .int .i64 t373, .int .i64 t374]] (by rfl) rfl rfl (by (try simp only [List.map_toArray, List.map_cons, List.map_nil]); first | done | rfl | (simp only [List.length_drop, List.length_take]; rfl)) ?_
                                with_reducible refine (impl_AddWord.calls k (fun k_ => some k_ = (.slice Ao71 t369.length co71 : Value).ownBlock) _ _ t369 t372 t373 t374 t375 t378 t379 _ ?side1 A36.out).mono ?_
                                (case side1 => exact Kd.R_V (Kd.R_tight rfl (Kd.R_types (HO371.out) BK333.out (by decide))))
                                rintro e w72 ⟨v376, rfl, ho0, hb⟩
                                refine ⟨_, rfl, ?_⟩
                                have n0_ := Aside0.mk (Kd.R_elder' (by (with_reducible repeat (first | apply Kd.R_alloc | apply Kd.R_drewN | apply Kd.R_drew)); exact HO338.out) (Kd.R_base ho0) hb)
                                have n1_ := Aside0.mk (Kd.R_elder' (by (with_reducible repeat (first | apply Kd.R_alloc | apply Kd.R_drewN | apply Kd.R_drew)); exact HO344.out) (Kd.R_base ho0) hb)
                                have n2_ := Aside0.mk (Kd.R_elder' (by (with_reducible repeat (first | apply Kd.R_alloc | apply Kd.R_drewN | apply Kd.R_drew)); exact HO349.out) (Kd.R_base ho0) hb)
                                have n3_ := Aside0.mk (Kd.R_elder' (by (with_reducible repeat (first | apply Kd.R_alloc | apply Kd.R_drewN | apply Kd.R_drew)); exact HO355.out) (Kd.R_base ho0) hb)
                                have n4_ := Aside0.mk (Kd.R_elder' (by (with_reducible repeat (first | apply Kd.R_alloc | apply Kd.R_drewN | apply Kd.R_drew)); exact HO361.out) (Kd.R_base ho0) hb)
                                have n5_ := Aside0.mk (Kd.R_elder' (by (with_reducible repeat (first | apply Kd.R_alloc | apply Kd.R_drewN | apply Kd.R_drew)); exact HO371.out) (Kd.R_base ho0) hb)
                                have n6_ := Aside0.mk (Kd.R_lower (Kd.R_new' (Kd.R_new' (Kd.R_new' (Kd.R_new' (Kd.R_new' (Kd.R_new' (Kd.R_mono (ok' := fun k_ => True) ho0 (fun _ hk_ => trivial)) (Kd.R_lt (by (with_reducible repeat (first | apply Kd.R_alloc | apply Kd.R_drewN | apply Kd.R_drew)); exact HO338.out))) (Kd.R_lt (by (with_reducible repeat (first | apply Kd.R_alloc | apply Kd.R_drewN | apply Kd.R_drew)); exact HO344.out))) (Kd.R_lt (by (with_reducible repeat (first | apply Kd.R_alloc | apply Kd.R_drewN | apply Kd.R_drew)); exact HO349.out))) (Kd.R_lt (by (with_reducible repeat (first | apply Kd.R_alloc | apply Kd.R_drewN | apply Kd.R_drew)); exact HO355.out))) (Kd.R_lt (by (with_reducible repeat (first | apply Kd.R_alloc | apply Kd.R_drewN | apply Kd.R_drew)); exact HO361.out))) (Kd.R_lt (by (with_reducible repeat (first | apply Kd.R_alloc | apply Kd.R_drewN | apply Kd.R_drew)); exact HO371.out))) (below_size (by repeat (first | (with_reducible first | exact HB.out | apply below_alloc | apply pw_below_drewN | apply below_drew1 | refine below_set ?_ GE333.out) | exact HB.out))))
                                have n7_ := Aside0.mk (blk_below (g := gb333) (o := .cells #[.string a1_0, .int .i64 a1_1, .int .i64 a1_2] 35 (0, 0)) (by (with_reducible repeat (first | refine blk_drewN ?_ _ | refine blk_drew ?_ | refine blk_alloc ?_ _)); exact BK333.out) hb)
                                have n8_ := Aside0.mk (below_step (by repeat (first | (with_reducible first | exact HB.out | apply below_alloc | apply pw_below_drewN | apply below_drew1 | refine below_set ?_ GE333.out) | exact HB.out)) hb)
                                clear HO338
                                clear HO344
                                clear HO349
                                clear HO355
                                clear HO361
                                clear HO371
                                clear BK333
                                clear HB
                                have HO338 := n0_
                                have HO344 := n1_
                                have HO349 := n2_
                                have HO355 := n3_
                                have HO361 := n4_
                                have HO371 := n5_
                                have HO377 := n6_
                                have BK333 := n7_
                                have HB := n8_
                                clear n0_ n1_ n2_ n3_ n4_ n5_ n6_ n7_ n8_
                                (try clear hb)
                                (try clear hb2)
                                (try clear hk)
                                (try clear hi)
                                (try clear ho0)
                                refine hK.out _ _ ⟨(blk_cell BK333.out 0).trans rfl, (blk_cell BK333.out 1).trans rfl, (blk_cell BK333.out 2).trans rfl⟩ (fun hHeld => ?_)
                                clear hK K
                                refine norm_ (a' := ?_) ?_ ?_
                                rotate_left
                                · show Act.put _ (some 104) _ = _
                                  simp only [Act.put, List.setIfInBounds_toArray, List.set_cons_zero, List.set_cons_succ, i64_w, i32_w]
                                  rfl
                                refine pure_ (i := 5) (N := some 99) (v := ?_) (a' := ?_) #[true, true, true, true, true, true, false, false, false, false, false, false] rfl rfl (any_of HT_.out (by kernel_rfl)) (fun _ _ _ h => h) (Or.inl ⟨by rfl, ?_⟩) ?_ ?_
                                rotate_left
                                · intro w'
                                  go_simp
                                  with_reducible rfl
                                rotate_left
                                · simp only [Act.put, List.setIfInBounds_toArray, List.set_cons_zero, List.set_cons_succ, i64_w, i32_w]
                                  rfl
                                refine pure_ (i := 6) (N := some 105) (v := ?_) (a' := ?_) #[true, true, true, true, true, true, true, false, false, false, false, false] rfl rfl (any_of HT_.out (by kernel_rfl)) (fun _ _ _ h => h) (Or.inl ⟨by rfl, ?_⟩) ?_ ?_
                                rotate_left
                                · intro w'
                                  go_simp
                                  with_reducible rfl
                                rotate_left
                                · simp only [Act.put, List.setIfInBounds_toArray, List.set_cons_zero, List.set_cons_succ, i64_w, i32_w]
                                  rfl
                                refine pure_ (i := 7) (N := some 106) (v := ?_) (a' := ?_) #[true, true, true, true, true, true, true, true, false, false, false, false] rfl rfl (any_of HT_.out (by kernel_rfl)) (fun _ _ _ h => h) (Or.inl ⟨by rfl, ?_⟩) ?_ ?_
                                rotate_left
                                · intro w'
                                  go_simp
                                  with_reducible rfl
                                rotate_left
                                · simp only [Act.put, List.setIfInBounds_toArray, List.set_cons_zero, List.set_cons_succ, i64_w, i32_w]
                                  rfl
                                refine pure_ (i := 8) (N := some 107) (v := ?_) (a' := ?_) #[true, true, true, true, true, true, true, true, true, false, false, false] rfl rfl (any_of HT_.out (by kernel_rfl)) (fun _ _ _ h => h) (Or.inl ⟨by rfl, ?_⟩) ?_ ?_
                                rotate_left
                                · intro w'
                                  go_simp
                                  with_reducible rfl
                                rotate_left
                                · simp only [Act.put, List.setIfInBounds_toArray, List.set_cons_zero, List.set_cons_succ, i64_w, i32_w]
                                  rfl
                                refine pure_ (i := 9) (N := some 16) (v := ?_) (a' := ?_) #[true, true, true, true, true, true, true, true, true, true, false, false] rfl rfl (any_of HT_.out (by kernel_rfl)) (fun _ _ _ h => h) (Or.inl ⟨by rfl, ?_⟩) ?_ ?_
                                rotate_left
                                · intro w'
                                  go_simp
                                  with_reducible rfl
                                rotate_left
                                · simp only [Act.put, List.setIfInBounds_toArray, List.set_cons_zero, List.set_cons_succ, i64_w, i32_w]
                                  rfl
                                refine pure_ (i := 10) (N := some 17) (v := ?_) (a' := ?_) #[true, true, true, true, true, true, true, true, true, true, true, false] rfl rfl (any_of HT_.out (by kernel_rfl)) (fun _ _ _ h => h) (Or.inl ⟨by rfl, ?_⟩) ?_ ?_
                                rotate_left
                                · intro w'
                                  go_simp
                                  with_reducible rfl
                                rotate_left
                                · simp only [Act.put, List.setIfInBounds_toArray, List.set_cons_zero, List.set_cons_succ, i64_w, i32_w]
                                  rfl
                                refine pure_ (i := 11) (N := some 18) (v := ?_) (a' := ?_) #[true, true, true, true, true, true, true, true, true, true, true, true] rfl rfl (any_of HT_.out (by kernel_rfl)) (fun _ _ _ h => h) (Or.inl ⟨by rfl, ?_⟩) ?_ ?_
                                rotate_left
                                · intro w'
                                  go_simp
                                  with_reducible rfl
                                rotate_left
                                · simp only [Act.put, List.setIfInBounds_toArray, List.set_cons_zero, List.set_cons_succ, i64_w, i32_w]
                                  rfl
                                refine done_ (done_of HT_.out (by kernel_rfl)) ?_
                                clear HO338
                                replace HO344 := Aside0.mk (Kd.R_mono (ok' := fun k_ => some k_ ≠ (.slice Ao58 t353.length co58 : Value).ownBlock ∧ some k_ ≠ (v376 : Value).ownBlock) HO344.out (fun k_ hk_ => ⟨hk_.1.1.2.2.1, hk_.2⟩))
                                clear HO349
                                replace HO355 := Aside0.mk (Kd.R_mono (ok' := fun k_ => some k_ ≠ (.slice Ao59 t342.length co59 : Value).ownBlock ∧ some k_ ≠ (v376 : Value).ownBlock) HO355.out (fun k_ hk_ => ⟨hk_.1.1.2.1, hk_.2⟩))
                                clear HO361
                                clear HO371
                                replace HO377 := Aside0.mk (Kd.R_mono (ok' := fun k_ => some k_ ≠ (.slice Ao59 t342.length co59 : Value).ownBlock ∧ some k_ ≠ (.slice Ao58 t353.length co58 : Value).ownBlock) HO377.out (fun k_ hk_ => ⟨hk_.1.1.1.1.2, hk_.1.1.2⟩))
                                obtain ⟨Ao73, co73, eo73⟩ := Kd.R_slice HO377.out
                                subst eo73
                                try go_wp2_with (first | ((with_reducible refine gate_callee (f := 14) rfl ?_); refine goesL_ (some 110) rfl rfl Tryd.func14 (by kernel_rfl) rfl #[.slice Ao73 t375.length co73, .slice Ao59 t342.length co59] rfl (by (try simp only [List.map_toArray, List.map_cons, List.map_nil]); first | done | rfl | (simp only [List.length_drop, List.length_take]; rfl)) ?_; (with_reducible refine (laws_eqWordS.calls k _ _ t375 _ _ t342 true _ ?side1 ?side2 ?side3 ?side4 A37.out).mono ?_); (case side1 => repeat (first | exact (Kd.R_reads' HO377.out).2.2 | (with_reducible refine Kd.C_alloc ?_ _) | (with_reducible refine Kd.C_drewN ?_ _) | (with_reducible refine Kd.C_drew ?_))); (case side2 => exact (Kd.R_reads' HO377.out).2.1); (case side3 => repeat (first | exact (Kd.R_reads' HO344.out).2.2 | (with_reducible refine Kd.C_alloc ?_ _) | (with_reducible refine Kd.C_drewN ?_ _) | (with_reducible refine Kd.C_drew ?_))); (case side4 => exact (Kd.R_reads' HO344.out).2.1); rintro e w74 ⟨rfl, hb⟩; refine ⟨_, rfl, ?_⟩; replace HO344 := Aside0.mk (Kd.R_below (by (with_reducible repeat (first | apply Kd.R_alloc | apply Kd.R_drewN | apply Kd.R_drew)); exact HO344.out) hb); replace HO355 := Aside0.mk (Kd.R_below (by (with_reducible repeat (first | apply Kd.R_alloc | apply Kd.R_drewN | apply Kd.R_drew)); exact HO355.out) hb); replace HO377 := Aside0.mk (Kd.R_below (by (with_reducible repeat (first | apply Kd.R_alloc | apply Kd.R_drewN | apply Kd.R_drew)); exact HO377.out) hb); replace HB := Aside0.mk (below_step (by repeat (first | (with_reducible first | exact HB.out | apply below_alloc | apply pw_below_drewN | apply below_drew1) | exact HB.out)) hb); (try clear hb); (try clear hb2); (try clear hk); (try clear hi); clear HO344; replace HO355 := Aside0.mk (Kd.R_mono (ok' := fun k_ => True) HO355.out (fun k_ hk_ => trivial)); clear HO377) | ((with_reducible refine gate_callee (f := 16) rfl ?_); refine goesL_ (some 124) rfl rfl Tryd.func16 (by kernel_rfl) rfl #[.slice Ao58 t367.length co58, .int .i64 1] rfl (by (try simp only [List.map_toArray, List.map_cons, List.map_nil]); first | done | (rw [show t367.length = t353.length from (Kd.R_reads' HO355.out).1.symm] <;> rfl) | rfl | (simp only [List.length_drop, List.length_take]; rfl)) ?_; (with_reducible refine (laws_heldWordS.calls k _ _ t367 1 t381 _ ?side1 ?side2 A41.out).mono ?_); (case side1 => repeat (first | exact (Kd.R_reads' HO355.out).2.2 | (with_reducible refine Kd.C_alloc ?_ _) | (with_reducible refine Kd.C_drewN ?_ _) | (with_reducible refine Kd.C_drew ?_))); (case side2 => rw [show t367.length = t353.length from (Kd.R_reads' HO355.out).1.symm]; exact (Kd.R_reads' HO355.out).2.1); rintro e w75 ⟨rfl, hb⟩; refine ⟨_, rfl, ?_⟩; replace HO355 := Aside0.mk (Kd.R_below (by (with_reducible repeat (first | apply Kd.R_alloc | apply Kd.R_drewN | apply Kd.R_drew)); exact HO355.out) hb); replace HB := Aside0.mk (below_step (by repeat (first | (with_reducible first | exact HB.out | apply below_alloc | apply pw_below_drewN | apply below_drew1) | exact HB.out)) hb); (try clear hb); (try clear hb2); (try clear hk); (try clear hi)))
                                all_goals go_ret
                                exact ⟨by first | rfl | (simp [errW_none, errW_some] <;> rfl) | (simp [*, errW_none, errW_some] <;> rfl), by repeat (first | (with_reducible first | exact HB.out | apply below_alloc | apply pw_below_drewN | apply below_drew1) | exact HB.out)⟩
                                all_goals (exfalso; simp only [beq_iff_eq, decide_eq_decide, decide_eq_true_eq, decide_eq_false_iff_not] at *; omega)
                              · rw [if_neg c43] at H
                                have c43b0 : (t381 == t366) = false := beq_eq_false_iff_ne.mpr c43
                                have c43b1 : (t381 != t366) = true := bne_iff_ne.mpr c43
                                exact absurd (Option.some.inj H) (by decide)
                          · rw [if_neg c40] at H
                            have c40b0 : (t379 == t346) = false := beq_eq_false_iff_ne.mpr c40
                            have c40b1 : (t379 != t346) = true := bne_iff_ne.mpr c40
                            exact absurd (Option.some.inj H) (by decide)
                        · rw [if_neg c39] at H
                          have c39b0 : (t378 == t345) = false := beq_eq_false_iff_ne.mpr c39
                          have c39b1 : (t378 != t345) = true := bne_iff_ne.mpr c39
                          exact absurd (Option.some.inj H) (by decide)
                      · replace c38 := Bool.eq_false_iff.mpr c38
                        subst c38
                        have H1 : (some false) = some true := by rw [if_neg (show ¬ (false = true) by decide)] at H; first | done | exact H
                        clear H
                        have H := H1
                        clear H1
                        exact absurd (Option.some.inj H) (by decide)
                    · rw [if_neg c33] at H
                      have c33b0 : (t368 == t366) = false := beq_eq_false_iff_ne.mpr c33
                      have c33b1 : (t368 != t366) = true := bne_iff_ne.mpr c33
                      exact absurd (Option.some.inj H) (by decide)
                · replace c29 := Bool.eq_false_iff.mpr c29
                  subst c29
                  have H1 : (some false) = some true := by rw [if_neg (show ¬ (false = true) by decide)] at H; first | done | exact H
                  clear H
                  have H := H1
                  clear H1
                  exact absurd (Option.some.inj H) (by decide)
            · replace c25 := Bool.eq_false_iff.mpr c25
              subst c25
              have H1 : (some false) = some true := by rw [if_neg (show ¬ (false = true) by decide)] at H; first | done | exact H
              clear H
              have H := H1
              clear H1
              exact absurd (Option.some.inj H) (by decide)
          · rw [if_neg c22] at H
            have c22b0 : (t357 == t346) = false := beq_eq_false_iff_ne.mpr c22
            have c22b1 : (t357 != t346) = true := bne_iff_ne.mpr c22
            exact absurd (Option.some.inj H) (by decide)
        · rw [if_neg c21] at H
          have c21b0 : (t356 == t345) = false := beq_eq_false_iff_ne.mpr c21
          have c21b1 : (t356 != t345) = true := bne_iff_ne.mpr c21
          exact absurd (Option.some.inj H) (by decide)
      · replace c20 := Bool.eq_false_iff.mpr c20
        subst c20
        have H1 : (some false) = some true := by rw [if_neg (show ¬ (false = true) by decide)] at H; first | done | exact H
        clear H
        have H := H1
        clear H1
        exact absurd (Option.some.inj H) (by decide)
/-- The pure statement of laws_FnExactAddWord: plain data, no memory. -/
def laws_FnExactAddWord.Pure : Prop := ∀ (l0 : List (S35)) (a1_0 : ByteArray) (a1_1 : Int) (a1_2 : Int), (l0.length ≤ 9223372036854775807 ∧ ∀ e0_, e0_ ∈ l0 → (e0_.f0.size ≤ 9223372036854775807) ∧ ((Lit.int .i64 e0_.f1).wf = true) ∧ ((Lit.int .i64 e0_.f2).wf = true)) → (a1_0.size ≤ 9223372036854775807) → ((Lit.int .i64 a1_1).wf = true) → ((Lit.int .i64 a1_2).wf = true) → ∃ k, laws_FnExactAddWord.f k l0 a1_0 a1_1 a1_2 = some true

end Go.Proofs.YtbbfahkmjfmmjaaDoor.PDict
