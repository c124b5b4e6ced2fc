-- laid by a program of this session out of the translation's own print: Lean checks it
import Derived.Test.YtbbfahkmjfmmjaaDoorPFnExactFindWordx0
import Derived.Test.YtbbfahkmjfmmjaaDoorPFnExactFindWordx4
import Derived.Test.YtbbfahkmjfmmjaaDoorPFnExactFindWordx6
namespace Go.Proofs.YtbbfahkmjfmmjaaDoor.PFnExactFindWord
open Go.RowKit Go.Proofs.YtbbfahkmjfmmjaaDoorW.PrintWords Go.Proofs.YtbbfahkmjfmmjaaDoorW.PrintLast Go.Proofs.YtbbfahkmjfmmjaaDoorW.PrintMore
attribute [local go_sem] max2_int min2_int max_two min_two max_three min_three max_four min_four   -- for this text's walks alone
set_option linter.unusedVariables false
set_option linter.unusedSimpArgs false

/-! ### impl_DictOK_1: function 58 -/
def impl_DictOK_1.f (k : Nat) (a0_0 : ByteArray) (a0_1 : Int) (a0_2 : Int) : Option (Bool) := (impl_Word_isScript.f k a0_0 a0_1 a0_2).bind fun t241 => (some (!t241))
theorem impl_DictOK_1.mono : ∀ a0 a1 a2 k, LeO (impl_DictOK_1.f k a0 a1 a2) (impl_DictOK_1.f (k + 1) a0 a1 a2) := by
  intro a0 a1 a2 k
  unfold impl_DictOK_1.f
  repeat' first
      | (with_reducible exact impl_Word_isScript.mono _ _ _ _)
      | (with_reducible exact LeO.refl _)
      | (with_reducible exact LeO.none _)
      | (with_reducible refine LeO.ite ?_ ?_)
      | (with_reducible refine LeO.bind ?_ (fun _ => ?_))
      | exact impl_Word_isScript.mono _ _ _ _
      | exact LeO.none _
      | refine LeO.ite ?_ ?_
      | refine LeO.bind ?_ (fun _ => ?_)
set_option maxHeartbeats 8000000 in
set_option maxRecDepth 100000 in
theorem impl_DictOK_1.calls (k : Nat) (a0_0 : ByteArray) (a0_1 : Int) (a0_2 : Int) (r : Bool) (w : World) (h : impl_DictOK_1.f k a0_0 a0_1 a0_2 = some r) :
    Calls Tryd.prog 58 #[.agg #[.string a0_0, .int .i64 a0_1, .int .i64 a0_2]] w fun e w' => e = .returned (.bool r) ∧ Below w.heap.size w w' := by
  have hu39 := Tryd.underlying39
  have HB := Aside0.mk (Below.refl w.heap.size w)
  have H : ((impl_Word_isScript.f k a0_0 a0_1 a0_2).bind fun t241 => (some (!t241))) = some r := h
  clear h
  replace H := Option.bind_eq_some_iff.mp H
  obtain ⟨t241, A20, H⟩ := H
  replace H : (some (!t241)) = some r := H
  have A2 := Aside0.mk A20
  clear A20
  obtain rfl := Option.some.inj H
  go_enter Tryd.func58, Tryd.ntmps58
  go_wp2_with (first | ((with_reducible refine gate_dst (N := 1) rfl ?_); refine box_event ?hg (N := 1) ?hd (cs := #[.string a0_0, .int .i64 a0_1, .int .i64 a0_2]) (t := 39) ?hr ?_; (case hd => rfl); (case hg => rfl); (case hr => first | (go_simp; done) | (go_simp; rfl)); intro gb240 hg w3 hbox hb; have n0_ := Aside0.mk (below_step (by repeat (first | (with_reducible first | exact HB.out | apply below_alloc | apply pw_below_drewN | apply below_drew1) | exact HB.out)) hb); have n1_ := Aside0.mk (hbox); have n2_ := Aside0.mk ((by rw [hg]; exact (below_size (by repeat (first | (with_reducible first | exact HB.out | apply below_alloc | apply pw_below_drewN | apply below_drew1) | exact HB.out))) : w.heap.size ≤ gb240)); have n3_ := Aside0.mk ((by rw [hg]; exact (below_size (by repeat (first | (with_reducible first | exact HB.out | apply below_alloc | apply pw_below_drewN | apply below_drew1) | exact HB.out))) : w.heap.size ≤ gb240)); clear HB; have HB := n0_; have BK240 := n1_; have GW240 := n2_; have GE240 := n3_; clear n0_ n1_ n2_ n3_; clear hb hbox hg; have hcz4_0 : w3.cell? ⟨gb240, 0, none⟩ = some (.string a0_0) := (blk_cell BK240.out 0).trans rfl; have hcz4_1 : w3.cell? ⟨gb240, 1, none⟩ = some (.int .i64 a0_1) := (blk_cell BK240.out 1).trans rfl; have hcz4_2 : w3.cell? ⟨gb240, 2, none⟩ = some (.int .i64 a0_2) := (blk_cell BK240.out 2).trans rfl; have hfz4_0 := blk_frozen BK240.out 0; have hfz4_1 := blk_frozen BK240.out 1; have hfz4_2 := blk_frozen BK240.out 2) | ((with_reducible refine gate_callee (f := 59) rfl ?_); refine goesL_ (some 4) rfl rfl Tryd.func59 (by kernel_rfl) rfl #[.agg #[.string a0_0, .int .i64 a0_1, .int .i64 a0_2]] rfl (by (try simp only [List.map_toArray, List.map_cons, List.map_nil]); first | done | rfl | (simp only [List.length_drop, List.length_take]; rfl)) ?_; (with_reducible refine (impl_Word_isScript.calls k a0_0 a0_1 a0_2 t241 _ A2.out).mono ?_); rintro e w5 ⟨rfl, hb⟩; refine ⟨_, rfl, ?_⟩; replace HB := Aside0.mk (below_step (by repeat (first | (with_reducible first | exact HB.out | apply below_alloc | apply pw_below_drewN | apply below_drew1) | exact HB.out)) hb); (try clear hb); (try clear hb2); (try clear hk); (try clear hi)))
  go_ret
  exact ⟨by first | rfl | (simp [errW_none, errW_some] <;> rfl) | (simp [*, errW_none, errW_some] <;> rfl), by repeat (first | (with_reducible first | exact HB.out | apply below_alloc | apply pw_below_drewN | apply below_drew1) | exact HB.out)⟩

/-! ### slices_IndexFunc_Word_at_impl_DictOK_1: function 197 -/
def slices_IndexFunc_Word_at_impl_DictOK_1.l0 : Nat → List (S39) → Int → Int → Option (Int)
  | 0, _, _, _ => none
  | k + 1, x0, x7, x8 => if x8 < x7 then (if 0 ≤ x8 then (if x8 < (x0.length : Int) then ((impl_DictOK_1.f k ((rd_T39 x0 x8).f0) ((rd_T39 x0 x8).f1) ((rd_T39 x0 x8).f2)).bind fun t243 => (if t243 = true then (some x8) else (slices_IndexFunc_Word_at_impl_DictOK_1.l0 k x0 x7 (wrap64 (x8 + 1))))) else (none)) else (none)) else (some (-1))
def slices_IndexFunc_Word_at_impl_DictOK_1.f (k : Nat) (l0 : List (S39))  : Option (Int) := slices_IndexFunc_Word_at_impl_DictOK_1.l0 k l0 (l0.length : Int) 0
theorem slices_IndexFunc_Word_at_impl_DictOK_1.mono_l : ∀ k, (∀ y0 y1 y2, LeO (slices_IndexFunc_Word_at_impl_DictOK_1.l0 k y0 y1 y2) (slices_IndexFunc_Word_at_impl_DictOK_1.l0 (k + 1) y0 y1 y2))
  | 0 => fun _ _ _ r h => by simp [slices_IndexFunc_Word_at_impl_DictOK_1.l0] at h
  | k + 1 => by
    have ih0 := slices_IndexFunc_Word_at_impl_DictOK_1.mono_l k
    · intro y0 y1 y2
      unfold slices_IndexFunc_Word_at_impl_DictOK_1.l0
      repeat' first
      | (with_reducible exact ih0 _ _ _)
      | (with_reducible exact impl_DictOK_1.mono _ _ _ _)
      | (with_reducible exact LeO.refl _)
      | (with_reducible exact LeO.none _)
      | (with_reducible refine LeO.ite ?_ ?_)
      | (with_reducible refine LeO.bind ?_ (fun _ => ?_))
      | exact ih0 _ _ _
      | exact impl_DictOK_1.mono _ _ _ _
      | exact LeO.none _
      | refine LeO.ite ?_ ?_
      | refine LeO.bind ?_ (fun _ => ?_)
theorem slices_IndexFunc_Word_at_impl_DictOK_1.mono : ∀ a0 k, LeO (slices_IndexFunc_Word_at_impl_DictOK_1.f k a0) (slices_IndexFunc_Word_at_impl_DictOK_1.f (k + 1) a0) := by
  intro a0 k
  have ih0 := slices_IndexFunc_Word_at_impl_DictOK_1.mono_l k
  unfold slices_IndexFunc_Word_at_impl_DictOK_1.f
  repeat' first
      | (with_reducible exact ih0 _ _ _)
      | (with_reducible exact impl_DictOK_1.mono _ _ _ _)
      | (with_reducible exact LeO.refl _)
      | (with_reducible exact LeO.none _)
      | (with_reducible refine LeO.ite ?_ ?_)
      | (with_reducible refine LeO.bind ?_ (fun _ => ?_))
      | exact ih0 _ _ _
      | exact impl_DictOK_1.mono _ _ _ _
      | exact LeO.none _
      | refine LeO.ite ?_ ?_
      | refine LeO.bind ?_ (fun _ => ?_)
set_option maxHeartbeats 8000000 in
set_option maxRecDepth 100000 in
theorem slices_IndexFunc_Word_at_impl_DictOK_1.calls (k : Nat) (A0 : Option Addr) (c0 : Nat) (l0 : List (S39))  (r : Int) (w : World) (hr0 : Kd.C k39 w A0 l0.length l0) (hc0 : l0.length ≤ c0) (h : slices_IndexFunc_Word_at_impl_DictOK_1.f k l0 = some r) :
    Calls Tryd.prog 100 #[.slice A0 l0.length c0, .func (.func 58) #[] #[]] w fun e w' => e = .returned (.int .i64 r) ∧ Below w.heap.size w w' := by
  have hu39 := Tryd.underlying39
  have HR0 := Aside0.mk hr0
  have HC0 := Aside0.mk hc0
  clear hr0 hc0
  have HB := Aside0.mk (Below.refl w.heap.size w)
  have H : (slices_IndexFunc_Word_at_impl_DictOK_1.l0 k l0 (l0.length : Int) 0) = some r := h
  clear h
  have H' := Aside0.mk H
  clear H
  go_enter Tryd.func100, Tryd.ntmps100
  go_wp2
  go_loopg [8] k (fun kq v8 w' => ∃ (x8_1 : Int), v8 = .int .i64 x8_1 ∧ Aside0 (slices_IndexFunc_Word_at_impl_DictOK_1.l0 kq l0 (l0.length : Int) x8_1 = some r) ∧ Aside0 (kq ≤ k) ∧ Aside0 (Below w.heap.size w w'))
  case atStart => exact ⟨(0), (by first | rfl | (simp; done) | (simp [*]; done)), H', ⟨Nat.le_refl _⟩, ⟨by repeat (first | (with_reducible first | exact HB.out | apply below_alloc | apply pw_below_drewN | apply below_drew1) | exact HB.out)⟩⟩
  case round =>
    clear H'
    try clear c1
    try clear p2
    obtain ⟨x8_1, rfl, HA, HK1, HB⟩ := hrel
    cases gk with
    | zero => exact absurd HA.out (by simp [slices_IndexFunc_Word_at_impl_DictOK_1.l0])
    | succ k1 =>
      have H := HA.out
      clear HA
      simp only [slices_IndexFunc_Word_at_impl_DictOK_1.l0] at H
      by_cases c3 : x8_1 < (l0.length : Int)
      · rw [if_pos c3] at H
        have c3b0 : decide (x8_1 < (l0.length : Int)) = true := decide_eq_true c3
        clear c3
        by_cases c4 : 0 ≤ x8_1
        · rw [if_pos c4] at H
          have c4b0 : decide (0 ≤ x8_1) = true := decide_eq_true c4
          clear c4
          by_cases c5 : x8_1 < (l0.length : Int)
          · rw [if_pos c5] at H
            have c5b0 : decide (x8_1 < (l0.length : Int)) = true := decide_eq_true c5
            clear c5
            replace H := Option.bind_eq_some_iff.mp H
            obtain ⟨t243, A60, H⟩ := H
            replace H : (if t243 = true then (some x8_1) else (slices_IndexFunc_Word_at_impl_DictOK_1.l0 k1 l0 (l0.length : Int) (wrap64 (x8_1 + 1)))) = some r := H
            have A6 := Aside0.mk A60
            clear A60
            by_cases c7 : t243 = true
            · subst c7
              have H1 : (some x8_1) = some r := by rw [if_pos rfl] at H; first | done | exact H
              clear H
              have H := H1
              clear H1
              obtain rfl := Option.some.inj H
              have p242 : 0 ≤ (x8_1 : Int) := of_decide_eq_true (by first | (with_reducible assumption) | assumption)
              have q242 : x8_1 < (l0.length : Int) := of_decide_eq_true (by first | (with_reducible assumption) | assumption)
              obtain ⟨ad242, e242, hx242_0, hx242_1, hx242_2⟩ := at_T39 HR0.out x8_1 p242 q242
              cases e242
              replace hx242_0 := (HB.out.cell (World.block_lt_of_cell? w _ hx242_0)).trans hx242_0
              replace hx242_1 := (HB.out.cell (World.block_lt_of_cell? w _ hx242_1)).trans hx242_1
              replace hx242_2 := (HB.out.cell (World.block_lt_of_cell? w _ hx242_2)).trans hx242_2
              replace p242 := eq_true p242
              replace q242 := eq_true q242
              go_wp2_with (first | ((with_reducible refine Go.Proofs.YtbbfahkmjfmmjaaDoorO.gate_tmp (t := 11) rfl ?_); refine Go.Proofs.YtbbfahkmjfmmjaaDoorO.goesT_ (some 16) rfl rfl (.tmp 11) rfl Tryd.func58 (by kernel_rfl) rfl #[.agg #[.string ((rd_T39 l0 x8_1).f0), .int .i64 ((rd_T39 l0 x8_1).f1), .int .i64 ((rd_T39 l0 x8_1).f2)]] rfl (by (try simp only [List.map_toArray, List.map_cons, List.map_nil]); first | done | rfl | (simp only [List.length_drop, List.length_take]; rfl)) ?_; (with_reducible refine (impl_DictOK_1.calls k1 ((rd_T39 l0 x8_1).f0) ((rd_T39 l0 x8_1).f1) ((rd_T39 l0 x8_1).f2) true _ A6.out).mono ?_); rintro e w8 ⟨rfl, hb⟩; refine ⟨_, rfl, ?_⟩; replace HB := Aside0.mk (below_step (by repeat (first | (with_reducible first | exact HB.out | apply below_alloc | apply pw_below_drewN | apply below_drew1) | exact HB.out)) hb); (try clear hb); (try clear hb2); (try clear hk); (try clear hi)))
              go_ret
              exact ⟨by first | rfl | (simp [errW_none, errW_some] <;> rfl) | (simp [*, errW_none, errW_some] <;> rfl), by repeat (first | (with_reducible first | exact HB.out | apply below_alloc | apply pw_below_drewN | apply below_drew1) | exact HB.out)⟩
            · replace c7 := Bool.eq_false_iff.mpr c7
              subst c7
              have H1 : (slices_IndexFunc_Word_at_impl_DictOK_1.l0 k1 l0 (l0.length : Int) (wrap64 (x8_1 + 1))) = some r := by rw [if_neg (show ¬ (false = true) by decide)] at H; first | done | exact H
              clear H
              have H := H1
              clear H1
              have H' := Aside0.mk H
              clear H
              have p242 : 0 ≤ (x8_1 : Int) := of_decide_eq_true (by first | (with_reducible assumption) | assumption)
              have q242 : x8_1 < (l0.length : Int) := of_decide_eq_true (by first | (with_reducible assumption) | assumption)
              obtain ⟨ad242, e242, hx242_0, hx242_1, hx242_2⟩ := at_T39 HR0.out x8_1 p242 q242
              cases e242
              replace hx242_0 := (HB.out.cell (World.block_lt_of_cell? w _ hx242_0)).trans hx242_0
              replace hx242_1 := (HB.out.cell (World.block_lt_of_cell? w _ hx242_1)).trans hx242_1
              replace hx242_2 := (HB.out.cell (World.block_lt_of_cell? w _ hx242_2)).trans hx242_2
              replace p242 := eq_true p242
              replace q242 := eq_true q242
              go_wp2_with (first | ((with_reducible refine Go.Proofs.YtbbfahkmjfmmjaaDoorO.gate_tmp (t := 11) rfl ?_); refine Go.Proofs.YtbbfahkmjfmmjaaDoorO.goesT_ (some 16) rfl rfl (.tmp 11) rfl Tryd.func58 (by kernel_rfl) rfl #[.agg #[.string ((rd_T39 l0 x8_1).f0), .int .i64 ((rd_T39 l0 x8_1).f1), .int .i64 ((rd_T39 l0 x8_1).f2)]] rfl (by (try simp only [List.map_toArray, List.map_cons, List.map_nil]); first | done | rfl | (simp only [List.length_drop, List.length_take]; rfl)) ?_; (with_reducible refine (impl_DictOK_1.calls k1 ((rd_T39 l0 x8_1).f0) ((rd_T39 l0 x8_1).f1) ((rd_T39 l0 x8_1).f2) false _ A6.out).mono ?_); rintro e w9 ⟨rfl, hb⟩; refine ⟨_, rfl, ?_⟩; replace HB := Aside0.mk (below_step (by repeat (first | (with_reducible first | exact HB.out | apply below_alloc | apply pw_below_drewN | apply below_drew1) | exact HB.out)) hb); (try clear hb); (try clear hb2); (try clear hk); (try clear hi)))
              go_roundg k1
              case measure => have := HK1.out; omega
              case rel => exact ⟨(wrap64 (x8_1 + 1)), (by first | rfl | (simp; done) | (simp [*]; done)), H', ⟨by have := HK1.out; omega⟩, ⟨by repeat (first | (with_reducible first | exact HB.out | apply below_alloc | apply pw_below_drewN | apply below_drew1) | exact HB.out)⟩⟩
          · rw [if_neg c5] at H
            exact absurd H (by simp)
        · rw [if_neg c4] at H
          exact absurd H (by simp)
      · rw [if_neg c3] at H
        have c3b0 : decide (x8_1 < (l0.length : Int)) = false := decide_eq_false c3
        clear c3
        obtain rfl := Option.some.inj H
        go_wp2
        go_ret
        exact ⟨by first | rfl | (simp [errW_none, errW_some] <;> rfl) | (simp [*, errW_none, errW_some] <;> rfl), by repeat (first | (with_reducible first | exact HB.out | apply below_alloc | apply pw_below_drewN | apply below_drew1) | exact HB.out)⟩

/-! ### slices_ContainsFunc_Word_at_impl_DictOK_1: function 196 -/
def slices_ContainsFunc_Word_at_impl_DictOK_1.f (k : Nat) (l0 : List (S39))  : Option (Bool) := (slices_IndexFunc_Word_at_impl_DictOK_1.f k l0).bind fun t244 => (some (decide (t244 ≥ 0)))
theorem slices_ContainsFunc_Word_at_impl_DictOK_1.mono : ∀ a0 k, LeO (slices_ContainsFunc_Word_at_impl_DictOK_1.f k a0) (slices_ContainsFunc_Word_at_impl_DictOK_1.f (k + 1) a0) := by
  intro a0 k
  unfold slices_ContainsFunc_Word_at_impl_DictOK_1.f
  repeat' first
      | (with_reducible exact slices_IndexFunc_Word_at_impl_DictOK_1.mono _ _)
      | (with_reducible exact LeO.refl _)
      | (with_reducible exact LeO.none _)
      | (with_reducible refine LeO.ite ?_ ?_)
      | (with_reducible refine LeO.bind ?_ (fun _ => ?_))
      | exact slices_IndexFunc_Word_at_impl_DictOK_1.mono _ _
      | exact LeO.none _
      | refine LeO.ite ?_ ?_
      | refine LeO.bind ?_ (fun _ => ?_)
set_option maxHeartbeats 8000000 in
set_option maxRecDepth 100000 in
theorem slices_ContainsFunc_Word_at_impl_DictOK_1.calls (k : Nat) (A0 : Option Addr) (c0 : Nat) (l0 : List (S39))  (r : Bool) (w : World) (hr0 : Kd.C k39 w A0 l0.length l0) (hc0 : l0.length ≤ c0) (h : slices_ContainsFunc_Word_at_impl_DictOK_1.f k l0 = some r) :
    Calls Tryd.prog 57 #[.slice A0 l0.length c0, .func (.func 58) #[] #[]] w fun e w' => e = .returned (.bool r) ∧ Below w.heap.size w w' := by
  have HR0 := Aside0.mk hr0
  have HC0 := Aside0.mk hc0
  clear hr0 hc0
  have HB := Aside0.mk (Below.refl w.heap.size w)
  have H : ((slices_IndexFunc_Word_at_impl_DictOK_1.f k l0).bind fun t244 => (some (decide (t244 ≥ 0)))) = some r := h
  clear h
  replace H := Option.bind_eq_some_iff.mp H
  obtain ⟨t244, A30, H⟩ := H
  replace H : (some (decide (t244 ≥ 0))) = some r := H
  have A3 := Aside0.mk A30
  clear A30
  obtain rfl := Option.some.inj H
  go_enter Tryd.func57, Tryd.ntmps57
  go_wp2_with (first | ((with_reducible refine gate_callee (f := 100) rfl ?_); refine goesL_ (some 7) rfl rfl Tryd.func100 (by kernel_rfl) rfl #[.slice A0 l0.length c0, .func (.func 58) #[] #[]] rfl (by (try simp only [List.map_toArray, List.map_cons, List.map_nil]); first | done | rfl | (simp only [List.length_drop, List.length_take]; rfl)) ?_; (with_reducible refine (slices_IndexFunc_Word_at_impl_DictOK_1.calls k _ _ l0  t244 _ ?side1 ?side2 A3.out).mono ?_); (case side1 => repeat (first | exact HR0.out | (with_reducible refine Kd.C_alloc ?_ _) | (with_reducible refine Kd.C_drewN ?_ _) | (with_reducible refine Kd.C_drew ?_))); (case side2 => exact HC0.out); rintro e w4 ⟨rfl, hb⟩; refine ⟨_, rfl, ?_⟩; replace HB := Aside0.mk (below_step (by repeat (first | (with_reducible first | exact HB.out | apply below_alloc | apply pw_below_drewN | apply below_drew1) | exact HB.out)) hb); (try clear hb); (try clear hb2); (try clear hk); (try clear hi)))
  go_ret
  exact ⟨by first | rfl | (simp [errW_none, errW_some] <;> rfl) | (simp [*, errW_none, errW_some] <;> rfl), by repeat (first | (with_reducible first | exact HB.out | apply below_alloc | apply pw_below_drewN | apply below_drew1) | exact HB.out)⟩

/-! ### impl_DictOK: function 22 -/
def impl_DictOK.f (k : Nat) (l0 : List (S39)) : Option (Bool) := if (l0.length : Int) ≤ 103 then ((impl_KernelSame.f k l0).bind fun t245 => (if t245 = true then (if 83 ≤ (l0.length : Int) then ((slices_ContainsFunc_Word_at_impl_DictOK_1.f k (l0.drop 83)).bind fun t250 => (some (!t250))) else (none)) else (some false))) else (some false)
theorem impl_DictOK.mono : ∀ a0 k, LeO (impl_DictOK.f k a0) (impl_DictOK.f (k + 1) a0) := by
  intro a0 k
  unfold impl_DictOK.f
  repeat' first
      | (with_reducible exact impl_KernelSame.mono _ _)
      | (with_reducible exact slices_ContainsFunc_Word_at_impl_DictOK_1.mono _ _)
      | (with_reducible exact LeO.refl _)
      | (with_reducible exact LeO.none _)
      | (with_reducible refine LeO.ite ?_ ?_)
      | (with_reducible refine LeO.bind ?_ (fun _ => ?_))
      | exact impl_KernelSame.mono _ _
      | exact slices_ContainsFunc_Word_at_impl_DictOK_1.mono _ _
      | exact LeO.none _
      | refine LeO.ite ?_ ?_
      | refine LeO.bind ?_ (fun _ => ?_)
set_option maxHeartbeats 8000000 in
set_option maxRecDepth 100000 in
theorem impl_DictOK.calls (k : Nat) (A0 : Option Addr) (c0 : Nat) (l0 : List (S39)) (r : Bool) (w : World) (hr0 : Kd.C k39 w A0 l0.length l0) (hc0 : l0.length ≤ c0) (h : impl_DictOK.f k l0 = some r) (hG : GlobOK w := by first | exact HGL.out | exact GlobOK.below HGL.out HB.out | exact GlobOK.below HGL.out (by repeat (first | (with_reducible first | exact HB.out | apply below_alloc | apply pw_below_drewN | apply below_drew1) | exact HB.out)) | (repeat (first | exact HGL.out | apply GlobOK.drewN | apply GlobOK.drew | apply GlobOK.alloc))) :
    Calls Tryd.prog 22 #[.slice A0 l0.length c0] w fun e w' => e = .returned (.bool r) ∧ Below w.heap.size w w' := by
  have HGL := Aside0.mk hG
  clear hG
  have HR0 := Aside0.mk hr0
  have HC0 := Aside0.mk hc0
  clear hr0 hc0
  have HB := Aside0.mk (Below.refl w.heap.size w)
  have H : (if (l0.length : Int) ≤ 103 then ((impl_KernelSame.f k l0).bind fun t245 => (if t245 = true then (if 83 ≤ (l0.length : Int) then ((slices_ContainsFunc_Word_at_impl_DictOK_1.f k (l0.drop 83)).bind fun t250 => (some (!t250))) else (none)) else (some false))) else (some false)) = some r := h
  clear h
  by_cases c2 : (l0.length : Int) ≤ 103
  · rw [if_pos c2] at H
    have c2b0 : decide ((l0.length : Int) ≤ 103) = true := decide_eq_true c2
    have c2b1 : decide (l0.length ≤ 103) = true := decide_eq_true (by omega)
    clear c2
    replace H := Option.bind_eq_some_iff.mp H
    obtain ⟨t245, A30, H⟩ := H
    replace H : (if t245 = true then (if 83 ≤ (l0.length : Int) then ((slices_ContainsFunc_Word_at_impl_DictOK_1.f k (l0.drop 83)).bind fun t250 => (some (!t250))) else (none)) else (some false)) = some r := H
    have A3 := Aside0.mk A30
    clear A30
    by_cases c4 : t245 = true
    · subst c4
      have H1 : (if 83 ≤ (l0.length : Int) then ((slices_ContainsFunc_Word_at_impl_DictOK_1.f k (l0.drop 83)).bind fun t250 => (some (!t250))) else (none)) = some r := by rw [if_pos rfl] at H; first | done | exact H
      clear H
      have H := H1
      clear H1
      by_cases c5 : 83 ≤ (l0.length : Int)
      · rw [if_pos c5] at H
        have c5b0 := eq_true c5
        have c5b1 : decide (83 ≤ (l0.length : Int)) = true := decide_eq_true c5
        clear c5
        obtain ⟨y246, hy246⟩ : ∃ y_ : List (S39), y_ = (l0.drop 83) := ⟨_, rfl⟩
        replace H : ((slices_ContainsFunc_Word_at_impl_DictOK_1.f k y246).bind fun t250 => (some (!t250))) = some r := by first | (rw [hy246]; with_reducible exact H) | (have H2_ := (Option.bind_some _ _).symm.trans H; rw [hy246]; with_reducible exact H2_) | (have H2_ := (Option.bind_some _ _).symm.trans H; with_reducible exact H2_) | with_reducible exact H | (rw [hy246]; exact H) | exact H
        have Ny246 := Aside0.mk hy246
        clear hy246
        replace H := Option.bind_eq_some_iff.mp H
        obtain ⟨t250, A60, H⟩ := H
        replace H : (some (!t250)) = some r := H
        have A6 := Aside0.mk A60
        clear A60
        obtain rfl := Option.some.inj H
        go_enter Tryd.func22, Tryd.ntmps22
        go_wp2_with (first | (go_at_call 20; (with_reducible refine (impl_KernelSame.calls k (fun k_ => k_ < w.heap.size) _ _ l0 true _ ?side1 A3.out).mono ?_); (case side1 => exact Kd.V_mk HC0.out (Kd.F_below (Kd.C_F k39_heap HR0.out) (by repeat (first | (with_reducible first | exact HB.out | apply below_alloc | apply pw_below_drewN | apply below_drew1) | exact HB.out)))); rintro e w7 ⟨rfl, hb⟩; replace HB := Aside0.mk (below_step (by repeat (first | (with_reducible first | exact HB.out | apply below_alloc | apply pw_below_drewN | apply below_drew1) | exact HB.out)) hb); (try clear hb); (try clear hb2); (try clear hk); (try clear hi); have q8 : (83 : Int) ≤ ((l0.length : Int) : Int) := of_decide_eq_true (by first | (with_reducible assumption) | assumption); obtain ⟨i08, hi08, _, hsz8, _⟩ := info_parts info39; have hroom8 : l0.length ≤ c0 := HC0.out; have hC8 : Kd.C k39 _ A0 l0.length l0 := HR0.out; have hcut8 := cut_from (P := Tryd.prog) 22 39 .i64 Tryd.underlying22 hi08 3 hsz8 A0 l0.length c0 83 (by omega) q8; have hr8 := Kd.C_drop (m := (83 : Int).toNat) (c := c0) hC8 (by omega) hroom8; obtain ⟨A8, hA8⟩ : ∃ A1, A1 = (if c0 = (83 : Int).toNat then A0 else (A0 : Option Addr).map (·.add ((83 : Int).toNat * 3))) := ⟨_, rfl⟩; obtain ⟨c8, hc8⟩ : ∃ c1, c1 = c0 - (83 : Int).toNat := ⟨_, rfl⟩; have hy8 : y246.length = l0.length - (83 : Int).toNat := (by rw [Ny246.out, List.length_drop] <;> omega); rw [show (l0).drop (83 : Int).toNat = y246 from Ny246.out.symm] at hr8; replace hr8 : Kd.C k39 _ A8 y246.length y246 := (by rw [hA8]; exact hr8); rw [← hy8, ← hA8, ← hc8] at hcut8; have HR249 := Aside0.mk hr8; have HC249 := Aside0.mk (show y246.length ≤ c8 from by rw [hy8, hc8]; exact Nat.sub_le_sub_right hroom8 _); clear hr8 hC8 hroom8 hi08 hsz8 hc8; have KY8 := Aside0.mk hy8; have KA8 := Aside0.mk hA8; clear hy8 hA8; replace q8 := eq_true q8) | (go_at_call 57; (with_reducible refine (slices_ContainsFunc_Word_at_impl_DictOK_1.calls k _ _ y246  t250 _ ?side1 ?side2 A6.out).mono ?_); (case side1 => repeat (first | exact (Kd.C_below HR249.out HB.out) | (with_reducible refine Kd.C_alloc ?_ _) | (with_reducible refine Kd.C_drewN ?_ _) | (with_reducible refine Kd.C_drew ?_))); (case side2 => exact HC249.out); rintro e w9 ⟨rfl, hb⟩; replace HB := Aside0.mk (below_step (by repeat (first | (with_reducible first | exact HB.out | apply below_alloc | apply pw_below_drewN | apply below_drew1) | exact HB.out)) hb); (try clear hb); (try clear hb2); (try clear hk); (try clear hi)))
        go_ret
        exact ⟨by first | rfl | (simp [errW_none, errW_some] <;> rfl) | (simp [*, errW_none, errW_some] <;> rfl), by repeat (first | (with_reducible first | exact HB.out | apply below_alloc | apply pw_below_drewN | apply below_drew1) | exact HB.out)⟩
      · rw [if_neg c5] at H
        exact absurd H (by simp)
    · replace c4 := Bool.eq_false_iff.mpr c4
      subst c4
      have H1 : (some false) = some r := by rw [if_neg (show ¬ (false = true) by decide)] at H; first | done | exact H
      clear H
      have H := H1
      clear H1
      obtain rfl := Option.some.inj H
      go_enter Tryd.func22, Tryd.ntmps22
      go_wp2_with (first | (go_at_call 20; (with_reducible refine (impl_KernelSame.calls k (fun k_ => k_ < w.heap.size) _ _ l0 false _ ?side1 A3.out).mono ?_); (case side1 => exact Kd.V_mk HC0.out (Kd.F_below (Kd.C_F k39_heap HR0.out) (by repeat (first | (with_reducible first | exact HB.out | apply below_alloc | apply pw_below_drewN | apply below_drew1) | exact HB.out)))); rintro e w10 ⟨rfl, hb⟩; replace HB := Aside0.mk (below_step (by repeat (first | (with_reducible first | exact HB.out | apply below_alloc | apply pw_below_drewN | apply below_drew1) | exact HB.out)) hb); (try clear hb); (try clear hb2); (try clear hk); (try clear hi)))
      go_ret
      exact ⟨by first | rfl | (simp [errW_none, errW_some] <;> rfl) | (simp [*, errW_none, errW_some] <;> rfl), by repeat (first | (with_reducible first | exact HB.out | apply below_alloc | apply pw_below_drewN | apply below_drew1) | exact HB.out)⟩
  · rw [if_neg c2] at H
    have c2b0 : decide ((l0.length : Int) ≤ 103) = false := decide_eq_false c2
    have c2b1 : decide (l0.length ≤ 103) = false := decide_eq_false (by omega)
    clear c2
    obtain rfl := Option.some.inj H
    go_enter Tryd.func22, Tryd.ntmps22
    go_wp2
    go_ret
    exact ⟨by first | rfl | (simp [errW_none, errW_some] <;> rfl) | (simp [*, errW_none, errW_some] <;> rfl), by repeat (first | (with_reducible first | exact HB.out | apply below_alloc | apply pw_below_drewN | apply below_drew1) | exact HB.out)⟩

-- NOT PRINTED: function 129 (slices_Backward_Word_1)

-- NOT PRINTED: function 105 (slices_Backward_Word)

/-! ### impl_UpperOf: function 34 -/
/-- A block of bytes that a conversion made: its first cells are these numbers, none of them frozen. -/
def Up (w : World) (b : Nat) (xs : List Int) : Prop := ∃ (cs : Array Value) (q : Nat), w.heap[b]? = some (.cells cs 5 (q, q + 1)) ∧ xs.length ≤ q ∧ xs.length ≤ cs.size ∧ ∀ j, j < xs.length → cs[j]? = some (.int .u8 (xs.getD j 0))
theorem Up.cell {w : World} {b : Nat} {xs : List Int} (h : Up w b xs) (x : Int) (h0 : 0 ≤ x) (h1 : x < (xs.length : Int)) : w.cell? ⟨b, x.toNat, none⟩ = some (.int .u8 (rd xs x)) := by
  obtain ⟨cs, q, hh, _, _, hc⟩ := h
  simp only [World.cell?, hh]
  exact hc x.toNat (by omega)
theorem Up.frozen {w : World} {b : Nat} {xs : List Int} (h : Up w b xs) (x : Int) (h0 : 0 ≤ x) (h1 : x < (xs.length : Int)) : w.frozen? ⟨b, x.toNat, none⟩ = false := by
  obtain ⟨cs, q, hh, hq, _, _⟩ := h
  simp [World.frozen?, hh]
  omega
theorem Up.put {w : World} {b : Nat} {xs : List Int} (h : Up w b xs) (x : Int) (h0 : 0 ≤ x) (h1 : x < (xs.length : Int)) (v : Int) : Up (w.setCell ⟨b, x.toNat, none⟩ (.int .u8 v)) b (xs.set x.toNat v) := by
  obtain ⟨cs, q, hh, hq, hs, hc⟩ := h
  refine ⟨cs.setIfInBounds x.toNat (.int .u8 v), q, ?_, by simpa using hq, by simpa using hs, fun j hj => ?_⟩
  · simp [World.setCell, Array.getElem?_modify, hh]
  · rw [List.length_set] at hj
    rw [Array.getElem?_setIfInBounds]
    by_cases e : x.toNat = j
    · subst e
      rw [if_pos rfl, if_pos (by omega)]
      simp [List.getD_eq_getElem?_getD, hj]
    · rw [if_neg e, hc j hj]
      simp [List.getD_eq_getElem?_getD, e]
theorem Up.reads {w : World} {b : Nat} {xs : List Int} (h : Up w b xs) (hl : xs.length ≤ 9223372036854775807) : ReadsOf (Value.int .u8) (0 : Int) w (some ⟨b, 0, none⟩) xs.length xs := by
  refine ⟨rfl, hl, fun _ => ⟨_, rfl, fun j hj => ?_⟩⟩
  have := h.cell (j : Int) (by omega) (by omega)
  by_cases e : j = 0
  · subst e
    simpa [Addr.add, rd] using this
  · simpa [Addr.add, rd, e] using this
/-- The bytes of a text, as numbers. -/
def numsB (s : ByteArray) : List Int := s.data.toList.map fun c => (c.toNat : Int)
theorem numsB_length (s : ByteArray) : (numsB s).length = s.size := by
  show (s.data.toList.map fun c => (c.toNat : Int)).length = s.data.size
  simp
theorem Up.made (w : World) (s : ByteArray) : Up (Lib.bytesWorld w 5 s) w.heap.size (numsB s) := by
  refine ⟨_, _, Lib.bytesWorld_at_new w _ s, ?_, ?_, fun j hj => ?_⟩
  · rw [numsB_length]
    show s.data.size ≤ _
    simp [Lib.bytesCells]
  · rw [numsB_length]
    show s.data.size ≤ _
    simp [Lib.bytesCells]
  · rw [numsB_length] at hj
    have := Lib.bytesWorld_cell w 5 s j hj
    simp only [World.cell?, Lib.bytesWorld_at_new] at this
    rw [if_neg (by simp)] at this
    rw [this]
    have hj' : j < s.data.toList.length := by
      have : s.size = s.data.toList.length := by simp
      omega
    simp [numsB, List.getD_eq_getElem?_getD, List.getElem?_map, List.getElem?_eq_getElem hj']
theorem below_bytes (w : World) (s : ByteArray) : Below w.heap.size w (Lib.bytesWorld w 5 s) := by
  refine ⟨?_, ?_, ?_, by rw [Lib.bytesWorld_size]; omega, fun j hj => Lib.bytesWorld_at_old w _ s j hj⟩ <;> simp [Lib.bytesWorld, World.freeze, World.alloc, World.drew, -World.alloc_eq, -World.drew_eq]
/-- A byte, a small letter made a capital. -/
def up1 (n : Int) : Int := if 97 ≤ n then (if n ≤ 122 then (n - 32) % 256 else n) else n
def impl_UpperOf.f (s : ByteArray) : Option ByteArray := if (s.size : Int) > 65536 then some ⟨#[]⟩ else some (strOfNums ((numsB s).map up1))
/-- The numbers when i of them have been looked at. -/
def Mid (s : ByteArray) (xs : List Int) (x : Int) : Prop := xs.length = s.size ∧ (∀ j : Nat, j < xs.length → xs.getD j 0 = if (j : Int) < x then up1 ((numsB s).getD j 0) else (numsB s).getD j 0)
theorem Mid.start (s : ByteArray) : Mid s (numsB s) 0 := ⟨numsB_length s, fun j _ => by rw [if_neg (by omega)]⟩
theorem Mid.stay {s : ByteArray} {xs : List Int} {x : Int} (h : Mid s xs x) (h0 : 0 ≤ x) (h1 : x < (s.size : Int)) (he : up1 (rd xs x) = rd xs x) : Mid s xs (x + 1) := by
  refine ⟨h.1, fun j hj => ?_⟩
  rw [h.2 j hj]
  by_cases e : (j : Int) < x
  · rw [if_pos e, if_pos (by omega)]
  · rw [if_neg e]
    by_cases e2 : (j : Int) = x
    · rw [if_pos (by omega)]
      have h3 := h.2 j hj
      rw [if_neg e] at h3
      have h4 : rd xs x = (numsB s).getD j 0 := by rw [← h3, ← e2]; simp [rd]
      rw [h4] at he
      exact he.symm
    · rw [if_neg (by omega)]
theorem Mid.put {s : ByteArray} {xs : List Int} {x : Int} (h : Mid s xs x) (h0 : 0 ≤ x) (h1 : x < (s.size : Int)) : Mid s (xs.set x.toNat (up1 (rd xs x))) (x + 1) := by
  refine ⟨by simpa using h.1, fun j hj => ?_⟩
  rw [List.length_set] at hj
  by_cases e2 : x.toNat = j
  · have h3 := h.2 j hj
    rw [if_neg (by omega)] at h3
    rw [if_pos (by omega), ← h3, ← e2]
    have h5 : x.toNat < xs.length := by omega
    simp [List.getD_eq_getElem?_getD, rd, h5]
  · rw [show (xs.set x.toNat (up1 (rd xs x))).getD j 0 = xs.getD j 0 by simp [List.getD_eq_getElem?_getD, e2], h.2 j hj]
    by_cases e : (j : Int) < x
    · rw [if_pos e, if_pos (by omega)]
    · rw [if_neg e, if_neg (by omega)]
theorem Mid.done {s : ByteArray} {xs : List Int} {x : Int} (h : Mid s xs x) (h1 : (s.size : Int) ≤ x) : xs = (numsB s).map up1 := by
  apply List.ext_getElem (by rw [h.1, List.length_map, numsB_length])
  intro j h2 h3
  have h4 := h.2 j h2
  have hl : xs.length = s.size := h.1
  have h5 : j < (numsB s).length := by rw [numsB_length]; omega
  rw [if_pos (by omega)] at h4
  simpa [List.getD_eq_getElem?_getD, List.getElem?_eq_getElem h2, List.getElem?_eq_getElem h5] using h4
set_option maxHeartbeats 4000000 in
set_option maxRecDepth 100000 in
theorem impl_UpperOf.calls (s : ByteArray) (r : ByteArray) (w : World) (h : impl_UpperOf.f s = some r) :
    Calls Tryd.prog 34 #[.string s] w fun e w' => e = .returned (.string r) ∧ Below w.heap.size w w' := by
  unfold impl_UpperOf.f at h
  by_cases c1 : (s.size : Int) > 65536
  · rw [if_pos c1] at h
    have c1b : decide ((s.size : Int) > 65536) = true := decide_eq_true c1
    have c1c : decide (65536 < (s.size : Int)) = true := decide_eq_true c1
    clear c1
    obtain rfl := Option.some.inj h
    clear h
    go_enter Tryd.func34, Tryd.ntmps34
    go_wp2
    go_ret
    exact ⟨rfl, Below.refl _ _⟩
  · rw [if_neg c1] at h
    have HS := Aside0.mk (show s.size ≤ 65536 by omega)
    have c1b : decide ((s.size : Int) > 65536) = false := decide_eq_false c1
    have c1c : decide (65536 < (s.size : Int)) = false := decide_eq_false c1
    clear c1
    have HR := Aside0.mk (Option.some.inj h)
    clear h
    obtain ⟨b, hb⟩ : ∃ b, b = w.heap.size := ⟨_, rfl⟩
    obtain ⟨cp, hcp⟩ : ∃ c, c = grownCap w s.size 0 5 := ⟨_, rfl⟩
    obtain ⟨w1, hw1⟩ : ∃ W, W = Lib.bytesWorld w 5 s := ⟨_, rfl⟩
    have hcv := Lib.run_convert_string_bytes (P := Tryd.prog) w 9 45 5 s Tryd.underlying9 Tryd.underlying45 Tryd.underlying5
    rw [← hb, ← hcp, ← hw1] at hcv
    have HU := Aside0.mk (show Up w1 b (numsB s) by rw [hw1, hb]; exact Up.made w s)
    have HB := Aside0.mk (show Below w.heap.size w w1 by rw [hw1]; exact below_bytes w s)
    have HG := Aside0.mk (show w.heap.size ≤ b by omega)
    clear hb hcp hw1
    go_enter Tryd.func34, Tryd.ntmps34
    go_wp2
    clear hcv
    go_loopg [13] (s.size + 1) (fun kq v13 w' => ∃ (xs : List Int) (x : Int), v13 = .int .i64 x ∧ Aside0 (0 ≤ x ∧ x + (kq : Int) = (s.size : Int) + 1 ∧ 1 ≤ kq) ∧ Aside0 (Mid s xs x) ∧ Aside0 (Up w' b xs) ∧ Aside0 (Below w.heap.size w w'))
    case atStart => exact ⟨numsB s, 0, rfl, ⟨by omega, by omega, by omega⟩, ⟨Mid.start s⟩, HU, HB⟩
    case round =>
      clear HU HB
      obtain ⟨xs, x, rfl, HX, HM, HU, HB⟩ := hrel
      have hx0 : 0 ≤ x := HX.out.1
      cases gk with
      | zero => exact absurd HX.out.2.2 (by omega)
      | succ k1 =>
        by_cases c4 : x < (s.size : Int)
        · have c4b : decide (x < (s.size : Int)) = true := decide_eq_true c4
          have hl : (xs.length : Int) = (s.size : Int) := by have := HM.out.1; omega
          have hx6 := HU.out.cell x hx0 (by omega)
          have hf6 := HU.out.frozen x hx0 (by omega)
          have HL := Aside0.mk (And.intro c4 hl)
          have p6 := eq_true hx0
          have q6 := eq_true c4
          clear hl c4 hx0
          by_cases c7 : 97 ≤ rd xs x
          · have c7b : decide (97 ≤ rd xs x) = true := decide_eq_true c7
            have C7 := Aside0.mk c7
            clear c7
            by_cases c8 : rd xs x ≤ 122
            · have c8b : decide (rd xs x ≤ 122) = true := decide_eq_true c8
              have C8 := Aside0.mk c8
              clear c8
              go_wp2_with (first | ((with_reducible refine gate_store (t := 5) (p := 28) rfl ?_); refine store_event (t := 5) (p := 28) (v := ?vo) (w1 := (wr.setCell ⟨b, x.toNat, none⟩ (.int .u8 ((rd xs x - 32) % 256)))) ?hg ?ho ?hn ?hr ?_; (case ho => rfl); (case hg => rfl); (case hn => rfl); (case hr => first | (go_simp; done) | (go_simp; rfl)); intro w11 hw; have n0_ : Aside0 (Up w11 b (xs.set x.toNat (up1 (rd xs x)))) := ⟨by rw [hw, show up1 (rd xs x) = (rd xs x - 32) % 256 by simp only [up1, C7.out, C8.out, if_true]]; exact HU.out.put x HX.out.1 (by have := HL.out; omega) _⟩; have n1_ : Aside0 (Below w.heap.size w w11) := ⟨by rw [hw]; exact below_set HB.out HG.out⟩; clear HU HB hx6 hf6; have HU := n0_; have HB := n1_; clear n0_ n1_ hw))
              go_roundg k1
              case measure => omega
              case rel => exact ⟨_, x + 1, (by rw [show wrap64 (x + 1) = x + 1 by have := HX.out; have := HS.out; unfold wrap64; omega]), ⟨by have := HX.out; have := HL.out; omega⟩, ⟨HM.out.put HX.out.1 HL.out.1⟩, HU, HB⟩
            · have c8b : decide (rd xs x ≤ 122) = false := decide_eq_false c8
              have C8 := Aside0.mk c8
              clear c8
              go_wp2
              go_roundg k1
              case measure => omega
              case rel => exact ⟨xs, x + 1, (by rw [show wrap64 (x + 1) = x + 1 by have := HX.out; have := HS.out; unfold wrap64; omega]), ⟨by have := HX.out; have := HL.out; omega⟩, ⟨HM.out.stay HX.out.1 HL.out.1 (by have h7 := C7.out; have h8 := C8.out; unfold up1; repeat' split; all_goals first | rfl | omega)⟩, HU, HB⟩
          · have c7b : decide (97 ≤ rd xs x) = false := decide_eq_false c7
            have C7 := Aside0.mk c7
            clear c7
            go_wp2
            go_roundg k1
            case measure => omega
            case rel => exact ⟨xs, x + 1, (by rw [show wrap64 (x + 1) = x + 1 by have := HX.out; have := HS.out; unfold wrap64; omega]), ⟨by have := HX.out; have := HL.out; omega⟩, ⟨HM.out.stay HX.out.1 HL.out.1 (by have h7 := C7.out; unfold up1; repeat' split; all_goals first | rfl | omega)⟩, HU, HB⟩
        · have c4b : decide (x < (s.size : Int)) = false := decide_eq_false c4
          have hd := HM.out.done (by omega)
          have hcv := string_of_reads (P := Tryd.prog) (c := cp) Tryd.underlying45 Tryd.underlying5 Tryd.underlying9 (HU.out.reads (by have := HM.out.1; have := HS.out; omega))
          rw [HM.out.1, hd, HR.out] at hcv
          clear hd c4 hx0
          go_wp2
          go_ret
          exact ⟨rfl, HB.out⟩


/-! ### impl_SameWord: function 106 -/
def impl_SameWord.f (k : Nat) (a0 : ByteArray) (a1 : ByteArray) : Option (Bool) := (impl_WordOK.f k a0).bind fun t251 => (if t251 = true then ((impl_WordOK.f k a1).bind fun t252 => (if t252 = true then ((impl_UpperOf.f a0).bind fun t253 => ((impl_UpperOf.f a1).bind fun t254 => (some (t253.toList == t254.toList)))) else (some false))) else (some false))
theorem impl_SameWord.mono : ∀ a0 a1 k, LeO (impl_SameWord.f k a0 a1) (impl_SameWord.f (k + 1) a0 a1) := by
  intro a0 a1 k
  unfold impl_SameWord.f
  repeat' first
      | (with_reducible exact impl_WordOK.mono _ _)
      | (with_reducible exact LeO.refl _)
      | (with_reducible exact LeO.none _)
      | (with_reducible refine LeO.ite ?_ ?_)
      | (with_reducible refine LeO.bind ?_ (fun _ => ?_))
      | exact impl_WordOK.mono _ _
      | exact LeO.none _
      | refine LeO.ite ?_ ?_
      | refine LeO.bind ?_ (fun _ => ?_)
set_option maxHeartbeats 8000000 in
set_option maxRecDepth 100000 in
theorem impl_SameWord.calls (k : Nat) (a0 : ByteArray) (a1 : ByteArray) (r : Bool) (w : World) (h : impl_SameWord.f k a0 a1 = some r) :
    Calls Tryd.prog 106 #[.string a0, .string a1] w fun e w' => e = .returned (.bool r) ∧ Below w.heap.size w w' := by
  have HB := Aside0.mk (Below.refl w.heap.size w)
  have H : ((impl_WordOK.f k a0).bind fun t251 => (if t251 = true then ((impl_WordOK.f k a1).bind fun t252 => (if t252 = true then ((impl_UpperOf.f a0).bind fun t253 => ((impl_UpperOf.f a1).bind fun t254 => (some (t253.toList == t254.toList)))) else (some false))) else (some false))) = some r := h
  clear h
  replace H := Option.bind_eq_some_iff.mp H
  obtain ⟨t251, A30, H⟩ := H
  replace H : (if t251 = true then ((impl_WordOK.f k a1).bind fun t252 => (if t252 = true then ((impl_UpperOf.f a0).bind fun t253 => ((impl_UpperOf.f a1).bind fun t254 => (some (t253.toList == t254.toList)))) else (some false))) else (some false)) = some r := H
  have A3 := Aside0.mk A30
  clear A30
  by_cases c4 : t251 = true
  · subst c4
    have H1 : ((impl_WordOK.f k a1).bind fun t252 => (if t252 = true then ((impl_UpperOf.f a0).bind fun t253 => ((impl_UpperOf.f a1).bind fun t254 => (some (t253.toList == t254.toList)))) else (some false))) = some r := by rw [if_pos rfl] at H; first | done | exact H
    clear H
    have H := H1
    clear H1
    replace H := Option.bind_eq_some_iff.mp H
    obtain ⟨t252, A50, H⟩ := H
    replace H : (if t252 = true then ((impl_UpperOf.f a0).bind fun t253 => ((impl_UpperOf.f a1).bind fun t254 => (some (t253.toList == t254.toList)))) else (some false)) = some r := H
    have A5 := Aside0.mk A50
    clear A50
    by_cases c6 : t252 = true
    · subst c6
      have H1 : ((impl_UpperOf.f a0).bind fun t253 => ((impl_UpperOf.f a1).bind fun t254 => (some (t253.toList == t254.toList)))) = some r := by rw [if_pos rfl] at H; first | done | exact H
      clear H
      have H := H1
      clear H1
      replace H := Option.bind_eq_some_iff.mp H
      obtain ⟨t253, A70, H⟩ := H
      replace H : ((impl_UpperOf.f a1).bind fun t254 => (some (t253.toList == t254.toList))) = some r := H
      have A7 := Aside0.mk A70
      clear A70
      replace H := Option.bind_eq_some_iff.mp H
      obtain ⟨t254, A80, H⟩ := H
      replace H : (some (t253.toList == t254.toList)) = some r := H
      have A8 := Aside0.mk A80
      clear A80
      obtain rfl := Option.some.inj H
      go_enter Tryd.func106, Tryd.ntmps106
      go_wp2_with (first | ((with_reducible refine gate_callee (f := 101) rfl ?_); refine goesL_ (some 6) rfl rfl Tryd.func101 (by kernel_rfl) rfl #[.string a0] rfl (by (try simp only [List.map_toArray, List.map_cons, List.map_nil]); first | done | rfl | (simp only [List.length_drop, List.length_take]; rfl)) ?_; (with_reducible refine (impl_WordOK.calls k a0 true _ A3.out).mono ?_); rintro e w' ⟨rfl, ⟨nd, rfl⟩⟩; refine ⟨_, rfl, ?_⟩) | (go_at_call 101; (with_reducible refine (impl_WordOK.calls k a1 true _ A5.out).mono ?_); rintro e w' ⟨rfl, ⟨nd, rfl⟩⟩) | (go_at_call 34; (with_reducible refine (impl_UpperOf.calls a0 t253 _ A7.out).mono ?_); rintro e w9 ⟨rfl, hb⟩; replace HB := Aside0.mk (below_step (by repeat (first | (with_reducible first | exact HB.out | apply below_alloc | apply pw_below_drewN | apply below_drew1) | exact HB.out)) hb); (try clear hb); (try clear hb2); (try clear hk); (try clear hi)) | (go_at_call 34; (with_reducible refine (impl_UpperOf.calls a1 t254 _ A8.out).mono ?_); rintro e w10 ⟨rfl, hb⟩; replace HB := Aside0.mk (below_step (by repeat (first | (with_reducible first | exact HB.out | apply below_alloc | apply pw_below_drewN | apply below_drew1) | exact HB.out)) hb); (try clear hb); (try clear hb2); (try clear hk); (try clear hi)))
      go_ret
      exact ⟨by first | rfl | (simp [errW_none, errW_some] <;> rfl) | (simp [*, errW_none, errW_some] <;> rfl), by repeat (first | (with_reducible first | exact HB.out | apply below_alloc | apply pw_below_drewN | apply below_drew1) | exact HB.out)⟩
    · replace c6 := Bool.eq_false_iff.mpr c6
      subst c6
      have H1 : (some false) = some r := by rw [if_neg (show ¬ (false = true) by decide)] at H; first | done | exact H
      clear H
      have H := H1
      clear H1
      obtain rfl := Option.some.inj H
      go_enter Tryd.func106, Tryd.ntmps106
      go_wp2_with (first | ((with_reducible refine gate_callee (f := 101) rfl ?_); refine goesL_ (some 6) rfl rfl Tryd.func101 (by kernel_rfl) rfl #[.string a0] rfl (by (try simp only [List.map_toArray, List.map_cons, List.map_nil]); first | done | rfl | (simp only [List.length_drop, List.length_take]; rfl)) ?_; (with_reducible refine (impl_WordOK.calls k a0 true _ A3.out).mono ?_); rintro e w' ⟨rfl, ⟨nd, rfl⟩⟩; refine ⟨_, rfl, ?_⟩) | (go_at_call 101; (with_reducible refine (impl_WordOK.calls k a1 false _ A5.out).mono ?_); rintro e w' ⟨rfl, ⟨nd, rfl⟩⟩))
      go_ret
      exact ⟨by first | rfl | (simp [errW_none, errW_some] <;> rfl) | (simp [*, errW_none, errW_some] <;> rfl), by repeat (first | (with_reducible first | exact HB.out | apply below_alloc | apply pw_below_drewN | apply below_drew1) | exact HB.out)⟩
  · replace c4 := Bool.eq_false_iff.mpr c4
    subst c4
    have H1 : (some false) = some r := by rw [if_neg (show ¬ (false = true) by decide)] at H; first | done | exact H
    clear H
    have H := H1
    clear H1
    obtain rfl := Option.some.inj H
    go_enter Tryd.func106, Tryd.ntmps106
    go_wp2_with (first | ((with_reducible refine gate_callee (f := 101) rfl ?_); refine goesL_ (some 6) rfl rfl Tryd.func101 (by kernel_rfl) rfl #[.string a0] rfl (by (try simp only [List.map_toArray, List.map_cons, List.map_nil]); first | done | rfl | (simp only [List.length_drop, List.length_take]; rfl)) ?_; (with_reducible refine (impl_WordOK.calls k a0 false _ A3.out).mono ?_); rintro e w' ⟨rfl, ⟨nd, rfl⟩⟩; refine ⟨_, rfl, ?_⟩))
    go_ret
    exact ⟨by first | rfl | (simp [errW_none, errW_some] <;> rfl) | (simp [*, errW_none, errW_some] <;> rfl), by repeat (first | (with_reducible first | exact HB.out | apply below_alloc | apply pw_below_drewN | apply below_drew1) | exact HB.out)⟩

/-! ### impl_findWord: function 66 -/
/-- The indices of n elements, from the last one down. -/
def impl_findWord.all (n : Nat) : List (Fin n) := (List.finRange n).reverse
theorem impl_findWord.all_length (n : Nat) : (impl_findWord.all n).length = n := by simp [impl_findWord.all]
theorem impl_findWord.all_get (n k : Nat) (h : k < n) : (impl_findWord.all n)[k]? = some ⟨n - 1 - k, by omega⟩ := by
  rw [impl_findWord.all, List.getElem?_reverse (by simpa using h), List.length_finRange, List.getElem?_eq_getElem (by simp; omega), List.getElem_finRange]
  rfl
theorem impl_findWord.all_take (n k : Nat) (h : k < n) : (impl_findWord.all n).take (k + 1) = (impl_findWord.all n).take k ++ [⟨n - 1 - k, by omega⟩] := by
  rw [List.take_add_one, impl_findWord.all_get n k h]; rfl
/-- Which of the words bear the name (and are no inner ones). -/
def impl_findWord.tab (k : Nat) (a : ByteArray) : List S39 → Option (List Bool)
  | [] => some []
  | x :: xs => (impl_SameWord.f k x.f0 a).bind fun t => (impl_findWord.tab k a xs).bind fun ts => some ((t && x.f1 != 3) :: ts)
/-- The number of the last one of them; 0 if there is none. -/
def impl_findWord.last : List Bool → Int
  | [] => 0
  | t :: ts => if impl_findWord.last ts = 0 then (if t = true then 1 else 0) else impl_findWord.last ts + 1
def impl_findWord.f (k : Nat) (l0 : List S39) (a1 : ByteArray) : Option Int := if l0.length * 32 ≤ 140737488351232 then (impl_findWord.tab k a1 l0).bind fun ts => some (impl_findWord.last ts) else none
theorem impl_findWord.tab_mono (a : ByteArray) (k : Nat) : ∀ l, LeO (impl_findWord.tab k a l) (impl_findWord.tab (k + 1) a l)
  | [] => LeO.refl _
  | x :: xs => LeO.bind (impl_SameWord.mono _ _ _) (fun _ => LeO.bind (impl_findWord.tab_mono a k xs) (fun _ => LeO.refl _))
theorem impl_findWord.mono : ∀ a0 a1 k, LeO (impl_findWord.f k a0 a1) (impl_findWord.f (k + 1) a0 a1) := by
  intro a0 a1 k
  unfold impl_findWord.f
  exact LeO.ite (LeO.bind (impl_findWord.tab_mono _ _ _) (fun _ => LeO.refl _)) (LeO.refl _)
theorem impl_findWord.tab_at (k : Nat) (a : ByteArray) : ∀ (l : List S39) (ts : List Bool), impl_findWord.tab k a l = some ts → ts.length = l.length ∧ ∀ i : Nat, i < l.length → ∃ t, impl_SameWord.f k (rd_T39 l (i : Int)).f0 a = some t ∧ ts[i]? = some (t && (rd_T39 l (i : Int)).f1 != 3)
  | [], ts, h => by
    obtain rfl := Option.some.inj h
    exact ⟨rfl, fun i hi => absurd hi (by simp)⟩
  | x :: xs, ts, h => by
    obtain ⟨t, h1, h⟩ := Option.bind_eq_some_iff.mp h
    obtain ⟨us, h2, h⟩ := Option.bind_eq_some_iff.mp h
    obtain rfl := Option.some.inj h
    obtain ⟨e, ih⟩ := impl_findWord.tab_at k a xs us h2
    refine ⟨by simp [e], fun i hi => ?_⟩
    cases i with
    | zero => exact ⟨t, h1, rfl⟩
    | succ i => exact ih i (by simpa using hi)
theorem impl_findWord.last_nonneg : ∀ ts, 0 ≤ impl_findWord.last ts
  | [] => by simp [impl_findWord.last]
  | t :: ts => by
    have := impl_findWord.last_nonneg ts
    unfold impl_findWord.last
    split
    · split <;> omega
    · omega
theorem impl_findWord.last_zero : ∀ ts : List Bool, (∀ i : Nat, i < ts.length → ts[i]? = some false) → impl_findWord.last ts = 0
  | [], _ => rfl
  | t :: ts, h => by
    have h0 := h 0 (by simp)
    obtain rfl : t = false := by simpa using h0
    unfold impl_findWord.last
    rw [if_pos (impl_findWord.last_zero ts (fun i hi => by simpa using h (i + 1) (by simpa using hi)))]
    rfl
theorem impl_findWord.last_at : ∀ (ts : List Bool) (x : Nat), ts[x]? = some true → (∀ j : Nat, x < j → j < ts.length → ts[j]? = some false) → impl_findWord.last ts = (x : Int) + 1
  | [], x, h, _ => by simp at h
  | t :: ts, 0, h, hf => by
    obtain rfl : t = true := by simpa using h
    unfold impl_findWord.last
    rw [if_pos (impl_findWord.last_zero ts (fun i hi => by simpa using hf (i + 1) (by omega) (by simpa using hi)))]
    rfl
  | t :: ts, x + 1, h, hf => by
    have e := impl_findWord.last_at ts x (by simpa using h) (fun j hj hl => by simpa using hf (j + 1) (by omega) (by simpa using hl))
    unfold impl_findWord.last
    rw [e, if_neg (by omega)]
    simp
theorem impl_findWord.pre_at (n : Nat) (ini rest : List (Fin n)) (x : Fin n) (h : ini ++ [x] ++ rest = impl_findWord.all n) (j : Fin n) (hj : x.1 < j.1) : j ∈ ini := by
  have hx : (impl_findWord.all n)[ini.length]? = some x := by rw [← h]; simp
  have hl : ini.length < n := by
    have := (List.getElem?_eq_some_iff.1 hx).1
    rwa [impl_findWord.all_length] at this
  rw [impl_findWord.all_get n _ hl] at hx
  have hx' := congrArg Fin.val (Option.some.inj hx)
  simp only at hx'
  have hk := impl_findWord.all_get n (n - 1 - j.1) (by omega)
  rw [← h, List.append_assoc, List.getElem?_append_left (by omega)] at hk
  have := List.mem_of_getElem? hk
  have e : (⟨n - 1 - (n - 1 - j.1), by omega⟩ : Fin n) = j := Fin.ext (by show n - 1 - (n - 1 - j.1) = j.1; omega)
  rwa [e] at this
def impl_findWord.encs (l : List S39) (x : Fin l.length) : Array Value := #[.int .i64 (x.1 : Int), .agg #[.string (rd_T39 l (x.1 : Int)).f0, .int .i64 (rd_T39 l (x.1 : Int)).f1, .int .i64 (rd_T39 l (x.1 : Int)).f2]]
section
attribute [local go_sem] Oper.semAt_some
set_option maxRecDepth 100000 in
set_option maxHeartbeats 4000000 in
theorem impl_findWord.seq (n : Nat) (hn : 1 ≤ n) (Bs : Nat) (A0 : Option Addr) (c0 : Nat) (l0 : List S39) (hreach : l0.length * 32 ≤ 140737488351232) (W0 : World) (hr0 : Kd.C k39 W0 A0 l0.length l0) (hBl : Bs < W0.heap.size) (hBs : W0.cell? ⟨Bs, 0, none⟩ = some (.slice A0 l0.length c0)) :
    SeqStopsK Fence.wide n Tryd.prog 129 #[.pointer (some ⟨Bs, 0, none⟩)] (impl_findWord.encs l0) (Below W0.heap.size) (fun ys => ys = impl_findWord.all l0.length) (fun pre => pre <+: impl_findWord.all l0.length) l0.length W0 := fun l J Jx W hW _ _ hY h0 => by
  refine callsIn_of_wp Tryd.func129 rfl trivial ?_ rfl
  simp only [Tryd.ntmps129, List.size_toArray, List.length_cons, List.length_nil, Nat.reduceAdd, Nat.reduceSub, Array.replicate_succ, Array.replicate_zero, List.push_toArray, List.append_toArray, List.nil_append, List.cons_append]
  have hBsW : W.cell? ⟨Bs, 0, none⟩ = some (.slice A0 l0.length c0) := (hW.cell (p := ⟨Bs, 0, none⟩) hBl).trans hBs
  have hw1 : IntKind.i64.wrap ((l0.length : Int) - 1) = (l0.length : Int) - 1 := by rw [i64_w]; unfold wrap64; omega
  gi_wp2
  gi_loopw [3] (fun i wr => ∃ k : Nat, k ≤ l0.length ∧ i = .int .i64 ((l0.length : Int) - 1 - k) ∧ J ((impl_findWord.all l0.length).take k) wr ∧ Below W0.heap.size W0 wr)
    (fun i _ => (intOf i + 1).toNat)
  case atStart => exact ⟨0, Nat.zero_le _, by simp, h0, hW⟩
  case round =>
    obtain ⟨k, hk, rfl, hJs, hnx⟩ := hrel
    by_cases hlt : k < l0.length
    · have hbs : wr.cell? ⟨Bs, 0, none⟩ = some (.slice A0 l0.length c0) := (hnx.cell (p := ⟨Bs, 0, none⟩) hBl).trans hBs
      have p1 : 0 ≤ (l0.length : Int) - 1 - k := by omega
      have q1 : (l0.length : Int) - 1 - k < l0.length := by omega
      obtain ⟨ad, e, hx0, hx1, hx2⟩ := at_T39 (Kd.C_below hr0 hnx) _ p1 q1
      cases e
      obtain ⟨fn, tmps, assign, body, hy, hR⟩ := hY _ ⟨l0.length - 1 - k, by omega⟩ wr hJs (by rw [List.length_take, impl_findWord.all_length]; omega)
      have he : ((l0.length - 1 - k : Nat) : Int) = (l0.length : Int) - 1 - k := by omega
      simp only [impl_findWord.encs, he] at hy
      have ht : ((l0.length : Int) - 1 - k).toNat = l0.length - 1 - k := by omega
      rw [ht] at hx0 hx1 hx2
      have hw2 : IntKind.i64.wrap ((l0.length : Int) - 1 - k - 1) = (l0.length : Int) - 1 - k - 1 := by rw [i64_w]; unfold wrap64; omega
      gi_wp2
      refine hR.mono ?_
      rintro e W3 (⟨rfl, hJ3, hk3⟩ | ⟨rfl, hJx3⟩)
      · gi_wp2
        go_roundw
        case rel => exact ⟨k + 1, by omega, by simp; omega, by rw [impl_findWord.all_take _ _ hlt]; exact hJ3, hnx.trans hk3⟩
        case measure => simp [intOf]; omega
      · gi_wp2
        refine bodyPost_ret (results_none rfl _ _ _) rfl ?_
        exact ⟨⟨_, rfl⟩, .inr ⟨_, by rw [← impl_findWord.all_take _ _ hlt]; exact List.take_prefix _ _, hJx3⟩⟩
    · obtain rfl : k = l0.length := by omega
      have hneg : ¬ (0 ≤ (l0.length : Int) - 1 - l0.length) := by omega
      gi_wp2
      go_end0
      rw [List.take_of_length_le (by rw [impl_findWord.all_length]; exact Nat.le_refl _)] at hJs
      exact ⟨⟨_, rfl⟩, .inl (by first | exact hJs | exact ⟨_, rfl, hJs⟩)⟩
def impl_findWord.Box3 (l0 : List S39) (x : Fin l0.length) (W : World) (B : Nat) : Prop := W.heap[B]? = some (.cells #[.string (rd_T39 l0 (x.1 : Int)).f0, .int .i64 (rd_T39 l0 (x.1 : Int)).f1, .int .i64 (rd_T39 l0 (x.1 : Int)).f2] 39 (0, 0))
theorem impl_findWord.Box3.own {l0 : List S39} {x : Fin l0.length} {X Y : World} {B : Nat} {row : Option Nat} (h : impl_findWord.Box3 l0 x X B) (hg : X.grownBy Y row) (hr : ∀ r, row = some r → ∃ o : Obj, X.heap[r]? = some o ∧ o.isCells = false) : impl_findWord.Box3 l0 x Y B :=
  (hg.block B (Array.getElem?_eq_some_iff.1 h).1 (fun e => by
    obtain ⟨o, ho, hc⟩ := hr B e.symm
    rw [show X.heap[B]? = _ from h] at ho
    cases ho
    cases hc)).trans h
theorem impl_findWord.Box3.cells {l0 : List S39} {x : Fin l0.length} {W : World} {B : Nat} (h : impl_findWord.Box3 l0 x W B) : W.cell? ⟨B, 0, none⟩ = some (.string (rd_T39 l0 (x.1 : Int)).f0) ∧ W.cell? ⟨B, 1, none⟩ = some (.int .i64 (rd_T39 l0 (x.1 : Int)).f1) ∧ B < W.heap.size :=
  ⟨by simp [World.cell?, show W.heap[B]? = _ from h], by simp [World.cell?, show W.heap[B]? = _ from h], (Array.getElem?_eq_some_iff.1 h).1⟩
theorem impl_findWord.keeps {B : Nat} {W W' : World} (h : Below W.heap.size W W') : KeepsFrom B W W' := ⟨h.size, fun k _ _ hk _ => (h.block k (Array.getElem?_eq_some_iff.1 hk).1).trans hk⟩
set_option maxHeartbeats 1000000 in
theorem impl_findWord.back (n : Nat) (a : Option Addr) (len cap : Nat) (w : World) :
    CallsIn Fence.wide n Tryd.prog 105 #[.slice a len cap] w fun e w' => e = .returned (.func (.func 129) #[] #[.pointer (some ⟨w.heap.size, 0, none⟩)]) ∧ w' = w.alloc (.cells #[.slice a len cap] 22) := by
  refine callsIn_of_wp Tryd.func105 rfl trivial ?_ rfl
  simp only [Tryd.ntmps105, List.size_toArray, List.length_cons, List.length_nil, Nat.reduceAdd, Nat.reduceSub, Array.replicate_succ, Array.replicate_zero, List.push_toArray, List.append_toArray, List.nil_append, List.cons_append]
  gi_wp2
  go_ret
  exact ⟨rfl, rfl⟩
set_option maxRecDepth 100000 in
set_option maxHeartbeats 4000000 in
theorem impl_findWord.calls (k : Nat) (A0 : Option Addr) (c0 : Nat) (l0 : List S39) (a1 : ByteArray) (r : Int) (w : World) (hr0 : Kd.C k39 w A0 l0.length l0) (hc0 : l0.length ≤ c0) (h : impl_findWord.f k l0 a1 = some r) :
    Calls Tryd.prog 66 #[.slice A0 l0.length c0, .string a1] w fun e w' => e = .returned (.int .i64 r) ∧ Below w.heap.size w w' := by
  unfold impl_findWord.f at h
  by_cases hreach : l0.length * 32 ≤ 140737488351232
  case neg =>
    rw [if_neg hreach] at h
    cases h
  rw [if_pos hreach] at h
  obtain ⟨ts, hts, h⟩ := Option.bind_eq_some_iff.mp h
  obtain rfl := Option.some.inj h
  obtain ⟨hlen, htab⟩ := impl_findWord.tab_at k a1 l0 ts hts
  clear h hts
  refine (callsIn_wide (n := 8)).1 ?_
  refine callsIn_of_wp_marks Tryd.func66 rfl trivial ?_ rfl
  simp only [Tryd.ntmps66, List.size_toArray, List.length_cons, List.length_nil, Nat.reduceAdd, Nat.reduceSub, Array.replicate_succ, Array.replicate_zero, List.push_toArray, List.append_toArray, List.nil_append, List.cons_append]
  gi_wp2_with (refine ⟨trivial, ?_⟩; gi_at_call 105; refine (impl_findWord.back _ _ _ _ _).mono ?_; rintro e w' ⟨rfl, rfl⟩)
  have bA := ((Boxed.new w 9 (.string a1)).alloc (.cells #[.int .i64 0] 3)).alloc (.cells #[.slice A0 l0.length c0] 22)
  have bR := (Boxed.new (w.alloc (.cells #[.string a1] 9)) 3 (.int .i64 0)).alloc (.cells #[.slice A0 l0.length c0] 22)
  have bS := Boxed.new ((w.alloc (.cells #[.string a1] 9)).alloc (.cells #[.int .i64 0] 3)) 22 (.slice A0 l0.length c0)
  simp only [World.size_alloc] at bR bS
  have hB0 : Below w.heap.size w (((w.alloc (.cells #[.string a1] 9)).alloc (.cells #[.int .i64 0] 3)).alloc (.cells #[.slice A0 l0.length c0] 22)) := (((Below.refl _ w).alloc (Nat.le_refl _) _).alloc (by simp) _).alloc (by simp; omega) _
  have hsz : (((w.alloc (.cells #[.string a1] 9)).alloc (.cells #[.int .i64 0] 3)).alloc (.cells #[.slice A0 l0.length c0] 22)).heap.size = w.heap.size + 3 := by simp
  obtain ⟨W0, hW0⟩ : ∃ W0, ((w.alloc (.cells #[.string a1] 9)).alloc (.cells #[.int .i64 0] 3)).alloc (.cells #[.slice A0 l0.length c0] 22) = W0 := ⟨_, rfl⟩
  rw [hW0] at bA bR bS hB0 hsz ⊢
  clear hW0
  refine wpIn_rangeFunc_ownH rfl (by omega) (gf := 129) (lb := #[.pointer (some ⟨w.heap.size + 1 + 1, 0, none⟩)]) rfl trivial (enters_of Tryd.func129 (by kernel_rfl) rfl)
    (impl_findWord.seq 7 (by omega) (w.heap.size + 1 + 1) A0 c0 l0 hreach W0 (Kd.C_below hr0 hB0) (by omega) bS.cell) belowK_t (belowK_b (Nat.le_refl _)) (Below.refl _ _) (fun _ => rfl)
    (fun pre W => ((∀ i ∈ pre, ts[i.1]? = some false) ∧ Boxed W w.heap.size 9 (.string a1) ∧ Boxed W (w.heap.size + 1) 3 (.int .i64 0) ∧ W0.heap.size ≤ W.heap.size) ∧ Below w.heap.size w W)
    (fun c pre W => (c = .ret ∧ ∃ ini x, pre = ini ++ [x] ∧ (∀ i ∈ ini, ts[i.1]? = some false) ∧ ts[x.1]? = some true ∧ Boxed W (w.heap.size + 1) 3 (.int .i64 ((x.1 : Int) + 1))) ∧ Below w.heap.size w W)
    (OwnFrom.and (OwnFrom.and (ownFrom_pure _ (fun pre : List (Fin l0.length) => ∀ i ∈ pre, ts[i.1]? = some false)) (OwnFrom.and (Own.from (boxed_own _ _ (fun _ => _)) _) (OwnFrom.and (Own.from (boxed_own _ _ (fun _ => _)) _) (fun _ _ _ _ hs hg _ => Nat.le_trans hs hg.size)))) (ownFrom_below (Nat.le_refl _) (by omega)))
    (fun c => OwnFrom.and (Own.from (fun s A B row hs hg hr => by obtain ⟨hc, ini, x, e1, e2, e3, e4⟩ := hs; exact ⟨hc, ini, x, e1, e2, e3, boxed_own _ _ (fun (_ : Unit) => _) () A B row e4 hg hr⟩) _) (ownFrom_below (Nat.le_refl _) (by omega)))
    ⟨⟨by simp, bA, bR, Nat.le_refl _⟩, hB0⟩
    (fun x a' W => ∃ Bx, w.heap.size + 2 < Bx ∧ impl_findWord.Box3 l0 x W Bx ∧ a' = { tmps := #[.slice A0 l0.length c0, .string a1, undef, .pointer (some ⟨w.heap.size, 0, none⟩), .pointer (some ⟨w.heap.size + 1, 0, none⟩), .int .i64 (x.1 : Int), .pointer (some ⟨Bx, 0, none⟩), .slice A0 l0.length c0, .func (.func 129) #[] #[.pointer (some ⟨w.heap.size + 1 + 1, 0, none⟩)], .int .i64 (x.1 : Int), .agg #[.string (rd_T39 l0 (x.1 : Int)).f0, .int .i64 (rd_T39 l0 (x.1 : Int)).f1, .int .i64 (rd_T39 l0 (x.1 : Int)).f2], undef, undef, undef, undef, undef, undef, undef, undef, undef, undef, undef], defers := [] })
    (fun x a' _ X Y row hs hg hr => by obtain ⟨Bx, h1, h2, h3⟩ := hs; exact ⟨Bx, h1, h2.own hg (fun r e => (hr r e).2), h3⟩)
    ?assign ?body ?done ?stop
  case assign =>
    rintro l pre x W K ⟨⟨hf, bA1, bR1, hz1⟩, hB1⟩ hK
    have hs1 := hB1.size
    have hs2 := bR1.lt
    simp only [impl_findWord.encs]
    gi_wp2
    exact hK _ _ ((KeepsOthers.alloc _ _).from _) ((Below.refl _ W).alloc hz1 _) ⟨⟨hf, bA1.alloc _, bR1.alloc _, by rw [World.size_alloc]; omega⟩, hB1.alloc hB1.size _⟩ ⟨W.heap.size, by omega, World.alloc_heap_new W _, rfl⟩
  case body =>
    rintro l pre x a' W hl ⟨r, hr⟩ ⟨⟨hf, bA1, bR1, hz1⟩, hB1⟩ ⟨Bx, hBx, bX, rfl⟩ hlt
    obtain ⟨t, ht, htx⟩ := htab x.1 x.2
    obtain ⟨cX0, cX1, hXl⟩ := bX.cells
    have cA := bA1.cell
    have hs1 := hB1.size
    have hx2 := x.2
    have h1' : 1 ≤ 8 - 1 - 1 := by omega
    cases t
    · have hfx : ts[x.1]? = some false := by simpa using htx
      gi_wp2_with (refine ⟨trivial, ?_⟩; gi_at_call 106; refine (CallsIn.inRound l (callsIn_wide.2 (impl_SameWord.calls k _ _ false _ ht))).mono ?_; rintro e w' ⟨rfl, hb⟩)
      exact ⟨impl_findWord.keeps hb, hb.mono hz1, ⟨fun i hi => (List.mem_append.1 hi).elim (hf i) (fun e => by rw [List.mem_singleton] at e; rw [e]; exact hfx), (hb.block _ bA1.lt).trans bA1, (hb.block _ bR1.lt).trans bR1, Nat.le_trans hz1 hb.size⟩, hB1.trans (hb.mono hs1)⟩
    · gi_wp2_with (refine ⟨trivial, ?_⟩; gi_at_call 106; refine (CallsIn.inRound l (callsIn_wide.2 (impl_SameWord.calls k _ _ true _ ht))).mono ?_; rintro e w' ⟨rfl, hb⟩; have cX1' := (hb.cell (p := ⟨Bx, 1, none⟩) hXl).trans cX1; have bR2 : Boxed w' (w.heap.size + 1) 3 (.int .i64 0) := (hb.block _ bR1.lt).trans bR1; have cR2 := bR2.cell; have fR2 := bR2.frozen)
      · have hc : ((rd_T39 l0 (x.1 : Int)).f1 != 3) = true := by assumption
        rw [hc] at htx
        exact ⟨(impl_findWord.keeps hb).trans ((KeepsOthers.setCell _ _ _).from _), ⟨rfl, pre, x, rfl, hf, htx, bR2.set _⟩, (hB1.trans (hb.mono hs1)).setCell (p := ⟨w.heap.size + 1, 0, none⟩) (by simp) _⟩
      · have hc : ((rd_T39 l0 (x.1 : Int)).f1 != 3) = false := by first | assumption | (have h3 : (rd_T39 l0 (x.1 : Int)).f1 = 3 := by assumption; rw [h3]; rfl) | (have h3 : ¬ (rd_T39 l0 (x.1 : Int)).f1 ≠ 3 := by assumption; rw [Classical.not_not.mp h3]; rfl)
        rw [hc] at htx
        exact ⟨impl_findWord.keeps hb, hb.mono hz1, ⟨fun i hi => (List.mem_append.1 hi).elim (hf i) (fun e => by rw [List.mem_singleton] at e; rw [e]; exact htx), (hb.block _ bA1.lt).trans bA1, (hb.block _ bR1.lt).trans bR1, Nat.le_trans hz1 hb.size⟩, hB1.trans (hb.mono hs1)⟩
  case done =>
    rintro D ys W hD rfl ⟨⟨hf, bA1, bR1, hz1⟩, hB1⟩ hK
    have e0 : impl_findWord.last ts = 0 := impl_findWord.last_zero ts (fun i hi => hf ⟨i, by omega⟩ (by simp [impl_findWord.all]))
    have cR := bR1.cell
    have fR := bR1.frozen
    gi_wp2
    have hK' := (KeepsOthers.setCell W ⟨w.heap.size + 1, 0, none⟩ (.int .i64 0)).same D _ hK rfl
    refine ⟨by simp, .inl ⟨_, _, rfl, run_takeDeferred hK', ?_⟩⟩
    have hc5 := cell_kept (World.cell?_setCell_same' W ⟨w.heap.size + 1, 0, none⟩ (.int .i64 0) (by rw [cR]; rfl)) (grownBy_putObj' _ D (.deferred none)) (fun r e => by cases e; exact ⟨_, hK', rfl⟩)
    refine ⟨.int .i64 0, ?_, by rw [e0], (hB1.setCell (p := ⟨w.heap.size + 1, 0, none⟩) (by simp) _).trans (belowK_b (w := w) (Nat.le_refl _) _ D _ _ (by omega) hK' rfl rfl)⟩
    simp [results, Tryd.f66, go_sem, hc5]
  case stop =>
    rintro D c pre W hD hp ⟨⟨rfl, ini, x, rfl, hf, hx, bR1⟩, hB1⟩ hK
    obtain ⟨rest, hrest⟩ := hp
    have e0 : impl_findWord.last ts = (x.1 : Int) + 1 := impl_findWord.last_at ts x.1 hx (fun j hj hjl => hf ⟨j, by omega⟩ (impl_findWord.pre_at _ ini rest x hrest ⟨j, by omega⟩ hj))
    have cR := bR1.cell
    have fR := bR1.frozen
    gi_wp2
    refine ⟨by simp, .inl ⟨_, _, rfl, run_takeDeferred hK, ?_⟩⟩
    have hc5 := cell_kept cR (grownBy_putObj' _ D (.deferred none)) (fun r e => by cases e; exact ⟨_, hK, rfl⟩)
    refine ⟨.int .i64 ((x.1 : Int) + 1), ?_, by rw [e0], hB1.trans (belowK_b (w := w) (Nat.le_refl _) W D _ _ (by omega) hK rfl rfl)⟩
    simp [results, Tryd.f66, go_sem, hc5]
end


end Go.Proofs.YtbbfahkmjfmmjaaDoor.PFnExactFindWord
