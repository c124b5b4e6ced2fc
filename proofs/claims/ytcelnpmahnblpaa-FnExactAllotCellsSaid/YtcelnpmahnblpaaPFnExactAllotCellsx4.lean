-- laid by a program of this session out of the translation's own print: Lean checks it
import Derived.Test.YtcelnpmahnblpaaPFnExactAllotCellsx0
import Derived.Test.YtcelnpmahnblpaaPFnExactAllotCellsx3
namespace Go.Proofs.Ytcelnpmahnblpaa.PFnExactAllotCells
open Go.RowKit Go.Proofs.YtcelnpmahnblpaaW.PrintWords Go.Proofs.YtcelnpmahnblpaaW.PrintLast Go.Proofs.YtcelnpmahnblpaaW.PrintMore
attribute [local go_sem] max2_int min2_int max_two min_two max_three min_three max_four min_four   -- for this text's walks alone
set_option linter.unusedVariables false
set_option linter.unusedSimpArgs false

/-! ### impl_changed: function 57 -/
/-- Data held in block g: its cells, and three rows of the call's own, apart from each other. -/
structure Held (w0 W : World) (g : Nat) (A0 : Option Addr) (c0 : Nat) (A1 : Option Addr) (c1 : Nat) (A2 : Option Addr) (c2 : Nat) (s b c : List Int) (h n : Int) (o : ByteArray) : Prop where
  below : Below w0.heap.size w0 W
  ge : w0.heap.size ≤ g
  blk : W.heap[g]? = some (.cells #[.slice A0 s.length c0, .slice A1 b.length c1, .slice A2 c.length c2, .int .i64 h, .int .i64 n, .string o] 24 (0, 0))
  r0 : Kd.R (Kd.int .i64) 3 W w0.heap.size (fun k => some k ≠ (.slice A1 b.length c1 : Value).ownBlock ∧ some k ≠ (.slice A2 c.length c2 : Value).ownBlock) (.slice A0 s.length c0) s
  r1 : Kd.R (Kd.int .i64) 3 W w0.heap.size (fun k => some k ≠ (.slice A0 s.length c0 : Value).ownBlock ∧ some k ≠ (.slice A2 c.length c2 : Value).ownBlock) (.slice A1 b.length c1) b
  r2 : Kd.R (Kd.int .i64) 3 W w0.heap.size (fun k => some k ≠ (.slice A0 s.length c0 : Value).ownBlock ∧ some k ≠ (.slice A1 b.length c1 : Value).ownBlock) (.slice A2 c.length c2) c
/-- The same behind quiet steps that leave the old blocks alone. -/
theorem Held.step {w0 W W1 : World} {g : Nat} {A0 : Option Addr} {c0 : Nat} {A1 : Option Addr} {c1 : Nat} {A2 : Option Addr} {c2 : Nat} {s b c : List Int} {h n : Int} {o : ByteArray} (H : Held w0 W g A0 c0 A1 c1 A2 c2 s b c h n o) (hb : Below W.heap.size W W1) : Held w0 W1 g A0 c0 A1 c1 A2 c2 s b c h n o :=
  ⟨below_step H.below hb, H.ge, blk_below H.blk hb, Kd.R_below H.r0 hb, Kd.R_below H.r1 hb, Kd.R_below H.r2 hb⟩
/-- The rows behind a store into the block. -/
theorem Held.rows_set {W : World} {g : Nat} {B : Nat} {cs : Array Value} {j : Nat} {u : Value} {ok : Nat → Prop} {v : Value} {xs : List Int} (hb : W.heap[g]? = some (.cells cs 24 (0, 0))) (h : Kd.R (Kd.int .i64) 3 W B ok v xs) : Kd.R (Kd.int .i64) 3 (W.setCell ⟨g, j, none⟩ u) B ok v xs :=
  Kd.R_mono (Kd.R_far (p := ⟨g, j, none⟩) (Kd.R_types h hb (by decide)) (fun _ hk => hk.2) u) (fun _ hk => hk.1)
set_option maxHeartbeats 4000000 in
set_option maxRecDepth 100000 in
theorem push_calls (w0 W : World) (g : Nat) (A0 : Option Addr) (c0 : Nat) (A1 : Option Addr) (c1 : Nat) (A2 : Option Addr) (c2 : Nat) (s b c : List Int) (h n : Int) (o : ByteArray) (x : Int) (t : Int) (s' : List Int) (ht : ((s.length : Int) = 32 → t = -3 ∧ s' = s) ∧ (¬ (s.length : Int) = 32 → t = 0 ∧ s' = s ++ [x])) (H : Held w0 W g A0 c0 A1 c1 A2 c2 s b c h n o) (hl : s.length < 1000) :
    Calls Try.prog 67 #[.pointer (some ⟨g, 0, none⟩), .int .i64 x] W fun e W' => e = .returned (.int .i64 t) ∧ ∃ A0' c0', Held w0 W' g A0' c0' A1 c1 A2 c2 s' b c h n o := by
  have hz0 : W.cell? ⟨g, 0, none⟩ = some (.slice A0 s.length c0) := (blk_cell H.blk 0).trans rfl
  have hf0 := blk_frozen H.blk 0
  by_cases e : (s.length : Int) = 32
  · have e0 : ((s.length : Int) == 32) = true := beq_iff_eq.mpr e
    obtain ⟨rfl, rfl⟩ := ht.1 e
    have HH := Aside0.mk H
    clear H hl e ht
    go_enter Try.func67, Try.ntmps67
    go_wp2
    go_ret
    exact ⟨rfl, _, _, HH.out⟩
  · have e0 : ((s.length : Int) == 32) = false := beq_eq_false_iff_ne.mpr e
    obtain ⟨rfl, rfl⟩ := ht.2 e
    have HH := Aside0.mk H
    have HL := Aside0.mk hl
    clear H hl e ht
    go_enter Try.func67, Try.ntmps67
    go_wp2_with (first | ((with_reducible refine gate_builtin (b := .append) (xs := #[.tmp 15, .tmp 17]) rfl ?_); at_builtin; refine Kd.R_append (Kd.int .i64) (w0 := w0) w0.heap.size rfl (.tmp 15) (.tmp 17) 22 3 (.int .i64 0) 8 rfl Try.underlying22 info3 rfl (by decide) (by omega) (.slice A0 s.length c0) s x [.int .i64 x] (fun k => some k ≠ (.slice A1 b.length c1 : Value).ownBlock ∧ some k ≠ (.slice A2 c.length c2 : Value).ownBlock) (fun _ => False) rfl rfl ?aP (fun _ hk => hk.elim) ?aF ?aO ?aB ?aS ?aL ?_; (case aP => exact rfl); (case aB => exact (by repeat (first | (with_reducible first | exact HH.out.below | apply below_alloc | apply pw_below_drewN | apply below_drew1) | exact HH.out.below))); (case aF => exact (fun k_ hk => ⟨Kd.fresh' (Kd.R_lt (by (with_reducible repeat (first | apply Kd.R_alloc | apply Kd.R_drewN | apply Kd.R_drew)); exact HH.out.r1)) k_ hk, Kd.fresh' (Kd.R_lt (by (with_reducible repeat (first | apply Kd.R_alloc | apply Kd.R_drewN | apply Kd.R_drew)); exact HH.out.r2)) k_ hk⟩)); (case aO => exact (by (with_reducible repeat (first | apply Kd.R_alloc | apply Kd.R_drewN | apply Kd.R_drew)); exact HH.out.r0)); (case aS => exact (below_size (by repeat (first | (with_reducible first | exact HH.out.below | apply below_alloc | apply pw_below_drewN | apply below_drew1) | exact HH.out.below)))); (case aL => have := HL.out; omega); intro v1 w2 ho hb hg hat; have R1 := Aside0.mk (Kd.R_after (ok := (fun k => some k ≠ (.slice A2 c.length c2 : Value).ownBlock)) (by (with_reducible repeat (first | apply Kd.R_alloc | apply Kd.R_drewN | apply Kd.R_drew)); exact Kd.R_mono HH.out.r1 (fun _ hk => ⟨hk.2, hk.1⟩)) hg hat); have R2 := Aside0.mk (Kd.R_after (ok := (fun k => some k ≠ (.slice A1 b.length c1 : Value).ownBlock)) (by (with_reducible repeat (first | apply Kd.R_alloc | apply Kd.R_drewN | apply Kd.R_drew)); exact Kd.R_mono HH.out.r2 (fun _ hk => ⟨hk.2, hk.1⟩)) hg hat); have BK := Aside0.mk (blk_grown (g := g) (o := .cells #[.slice A0 s.length c0, .slice A1 b.length c1, .slice A2 c.length c2, .int .i64 h, .int .i64 n, .string o] 24 (0, 0)) (by (with_reducible repeat (first | refine blk_drewN ?_ _ | refine blk_drew ?_ | refine blk_alloc ?_ _)); exact HH.out.blk) hg (Kd.R_ne HH.out.r0 HH.out.blk (by decide))); have R0 := Aside0.mk ho; have HB := Aside0.mk hb; clear ho hb hg hat; obtain ⟨A, cc, ev⟩ := Kd.R_slice R0.out; subst ev; have hy0 : w2.cell? ⟨g, 0, none⟩ = some (.slice A0 s.length c0) := (blk_cell BK.out 0).trans rfl; have hyf := blk_frozen BK.out 0))
    go_ret
    exact ⟨rfl, A, cc, below_set HB.out HH.out.ge, HH.out.ge, blk_put BK.out 0 _ (by rw [List.length_append]; rfl), Held.rows_set BK.out (Kd.R_mono R0.out (fun _ hk => hk)), Held.rows_set BK.out (Kd.R_mono R1.out (fun _ hk => ⟨hk.2, hk.1⟩)), Held.rows_set BK.out (Kd.R_mono R2.out (fun _ hk => ⟨hk.2, hk.1⟩))⟩
set_option maxHeartbeats 4000000 in
set_option maxRecDepth 100000 in
theorem push1_calls (w0 W : World) (g q : Nat) (A0 : Option Addr) (c0 : Nat) (A1 : Option Addr) (c1 : Nat) (A2 : Option Addr) (c2 : Nat) (s b c : List Int) (h n : Int) (o : ByteArray) (x : Int) (t : Int) (s' : List Int) (ht : ((s.length : Int) = 32 → t = -3 ∧ s' = s) ∧ (¬ (s.length : Int) = 32 → t = 0 ∧ s' = s ++ [x])) (H : Held w0 W g A0 c0 A1 c1 A2 c2 s b c h n o) (hl : s.length < 1000) (hq : W.cell? ⟨q, 0, none⟩ = some (.int .i64 x)) :
    Calls Try.prog 66 #[.pointer (some ⟨g, 0, none⟩), .pointer (some ⟨q, 0, none⟩)] W fun e W' => e = .returned (.int .i64 t) ∧ ∃ A0' c0', Held w0 W' g A0' c0' A1 c1 A2 c2 s' b c h n o := by
  have HH := Aside0.mk H
  have HL := Aside0.mk hl
  have HT := Aside0.mk ht
  clear H hl ht
  go_enter Try.func66, Try.ntmps66
  go_wp2_with (first | (go_at_call 67; refine (push_calls w0 W g A0 c0 A1 c1 A2 c2 s b c h n o x t s' HT.out HH.out HL.out).mono ?_; rintro e w' ⟨rfl, hh⟩; have HF := Aside0.mk hh; clear hh))
  go_ret
  exact ⟨rfl, HF.out⟩

/-- A call of a function value that has captured variables, in a plain region. -/
theorem goesC_ {P : Program} {ops : Array Oper} {Q : Exit → Act → World → Prop} {rest : List Oper} {oi : Oper} {a : Act} {w : World} (N : Option Tmp) (hd : oi.dst = N) (hg : oi.guard = none) {f : FuncId} {fn : Func} {asx : Array Operand} {ts : Array TypeId} (c : Operand) (fr : Array Value) (hc : a.eval c = .func (.func f) #[] fr) (hf : P.funcs[f]? = some fn) (hname : (fn.name == "runtime.NumGoroutine") = false) (hb : fn.body.isSome = true) (args : Array Value)
    (hop : oi.op = .call { callee := .value c, args := asx, argTypes := ts }) (hargs : asx.map a.eval = args)
    (h : Calls P f (args ++ fr) w fun e w' => ∃ v, e = .returned v ∧ wpList P ops Q rest (a.put N v) w') : wpList P ops Q (oi :: rest) a w := by
  refine wpList_plain hg fun K hK => ?_
  have h1 : fn.name ≠ "runtime.NumGoroutine" := by simpa using hname
  have he : (callFunc f (args ++ fr)).run P w = .ok (.enter f (args ++ fr)) w := by
    obtain ⟨b, hb'⟩ := Option.isSome_iff_exists.1 hb
    simp [callFunc, hf, h1, hb']
  have hrun : (execOp a.eval oi).run P w = .ok (.enter f (args ++ fr)) w := by
    unfold execOp
    simp [hop, resolve, Deferred.ofValue, invoke, hc, hargs, he]
  unfold Oper.wp
  rw [hrun, Oper.upon_enter]
  refine h.mono fun e w'' hh => ?_
  obtain ⟨v, rfl, hk⟩ := hh
  subst hd
  exact hK _ _ hk
/-- A struct stored into a fresh block: held from then on. -/
theorem Held.store {w0 W : World} {g : Nat} {A0 : Option Addr} {c0 : Nat} {A1 : Option Addr} {c1 : Nat} {A2 : Option Addr} {c2 : Nat} {s b c : List Int} {h n : Int} {o : ByteArray} {z0 z1 z2 z3 z4 z5 : Value} (hB : Below w0.heap.size w0 W) (hg : w0.heap.size ≤ g) (hb : W.heap[g]? = some (.cells #[z0, z1, z2, z3, z4, z5] 24 (0, 0)))
    (r0 : Kd.R (Kd.int .i64) 3 W w0.heap.size (fun k => some k ≠ (.slice A1 b.length c1 : Value).ownBlock ∧ some k ≠ (.slice A2 c.length c2 : Value).ownBlock) (.slice A0 s.length c0) s)
    (r1 : Kd.R (Kd.int .i64) 3 W w0.heap.size (fun k => some k ≠ (.slice A0 s.length c0 : Value).ownBlock ∧ some k ≠ (.slice A2 c.length c2 : Value).ownBlock) (.slice A1 b.length c1) b)
    (r2 : Kd.R (Kd.int .i64) 3 W w0.heap.size (fun k => some k ≠ (.slice A0 s.length c0 : Value).ownBlock ∧ some k ≠ (.slice A1 b.length c1 : Value).ownBlock) (.slice A2 c.length c2) c) :
    Held w0 ((((((W.setCell ⟨g, 0, none⟩ (.slice A0 s.length c0)).setCell ⟨g, 1, none⟩ (.slice A1 b.length c1)).setCell ⟨g, 2, none⟩ (.slice A2 c.length c2)).setCell ⟨g, 3, none⟩ (.int .i64 h)).setCell ⟨g, 4, none⟩ (.int .i64 n)).setCell ⟨g, 5, none⟩ (.string o)) g A0 c0 A1 c1 A2 c2 s b c h n o := by
  have b1 := blk_put hb 0 (.slice A0 s.length c0) rfl
  have b2 := blk_put b1 1 (.slice A1 b.length c1) rfl
  have b3 := blk_put b2 2 (.slice A2 c.length c2) rfl
  have b4 := blk_put b3 3 (.int .i64 h) rfl
  have b5 := blk_put b4 4 (.int .i64 n) rfl
  have b6 := blk_put b5 5 (.string o) rfl
  exact ⟨below_set (below_set (below_set (below_set (below_set (below_set hB hg) hg) hg) hg) hg) hg, hg, b6,
    Held.rows_set b5 (Held.rows_set b4 (Held.rows_set b3 (Held.rows_set b2 (Held.rows_set b1 (Held.rows_set hb r0))))),
    Held.rows_set b5 (Held.rows_set b4 (Held.rows_set b3 (Held.rows_set b2 (Held.rows_set b1 (Held.rows_set hb r1))))),
    Held.rows_set b5 (Held.rows_set b4 (Held.rows_set b3 (Held.rows_set b2 (Held.rows_set b1 (Held.rows_set hb r2)))))⟩
set_option maxHeartbeats 4000000 in
set_option maxRecDepth 100000 in
/-- impl.changed, over what is known of the change. -/
theorem changed_calls (w : World) (cl : FuncId) (fnc : Func) (fr : Array Value) (hcf : Try.prog.funcs[cl]? = some fnc) (hcn : (fnc.name == "runtime.NumGoroutine") = false) (hcb : fnc.body.isSome = true)
    (A0 : Option Addr) (c0 : Nat) (A1 : Option Addr) (c1 : Nat) (A2 : Option Addr) (c2 : Nat) (s b c : List Int) (h n : Int) (o : ByteArray)
    (hr0 : Kd.C (Kd.int .i64) w A0 s.length s) (hc0 : s.length ≤ c0) (hr1 : Kd.C (Kd.int .i64) w A1 b.length b) (hc1 : b.length ≤ c1) (hr2 : Kd.C (Kd.int .i64) w A2 c.length c) (hc2 : c.length ≤ c2)
    (hcopy : impl_Data_copied.f s b c h n o = some (s, b, c, h, n, o)) (t : Int) (s' b' c' : List Int) (h' n' : Int) (o' : ByteArray)
    (hcl : ∀ (W0 W : World) (g : Nat) (B0 : Option Addr) (d0 : Nat) (B1 : Option Addr) (d1 : Nat) (B2 : Option Addr) (d2 : Nat), Below w.heap.size w W0 → Held W0 W g B0 d0 B1 d1 B2 d2 s b c h n o →
      Calls Try.prog cl (#[.pointer (some ⟨g, 0, none⟩)] ++ fr) W fun e W' => e = .returned (.int .i64 t) ∧ ∃ B0' d0' B1' d1' B2' d2', Held W0 W' g B0' d0' B1' d1' B2' d2' s' b' c' h' n' o') (ht : t = 0) :
    Calls Try.prog 57 #[.agg #[.slice A0 s.length c0, .slice A1 b.length c1, .slice A2 c.length c2, .int .i64 h, .int .i64 n, .string o], .func (.func cl) #[] fr] w fun e w' => ∃ v0 v1 v2 : Value, e = .returned (.tuple #[.agg #[v0, v1, v2, .int .i64 h', .int .i64 n', .string o'], .int .i64 t]) ∧ Kd.R (Kd.int .i64) 3 w' w.heap.size (fun k_ => some k_ ≠ (v1 : Value).ownBlock ∧ some k_ ≠ (v2 : Value).ownBlock) v0 s' ∧ Kd.R (Kd.int .i64) 3 w' w.heap.size (fun k_ => some k_ ≠ (v0 : Value).ownBlock ∧ some k_ ≠ (v2 : Value).ownBlock) v1 b' ∧ Kd.R (Kd.int .i64) 3 w' w.heap.size (fun k_ => some k_ ≠ (v0 : Value).ownBlock ∧ some k_ ≠ (v1 : Value).ownBlock) v2 c' ∧ Below w.heap.size w w' := by
  have hu24 := Try.underlying24
  have HR0 := Aside0.mk hr0
  have HR1 := Aside0.mk hr1
  have HR2 := Aside0.mk hr2
  have HC0 := Aside0.mk hc0
  have HC1 := Aside0.mk hc1
  have HC2 := Aside0.mk hc2
  have HCL := Aside0.mk hcl
  have HCO := Aside0.mk hcopy
  clear hr0 hr1 hr2 hc0 hc1 hc2 hcl hcopy
  subst ht
  go_enter Try.func57, Try.ntmps57
  go_wp2_with (first
    | ((with_reducible refine gate_dst (N := 2) rfl ?_); refine box_event ?hg (N := 2) ?hd (cs := #[.slice A0 s.length c0, .slice A1 b.length c1, .slice A2 c.length c2, .int .i64 h, .int .i64 n, .string o]) (t := 24) ?hr ?_; (case hd => rfl); (case hg => rfl); (case hr => first | (go_simp; done) | (go_simp; rfl)); intro g2 hg w1 hbox hb; have BK2 := Aside0.mk hbox; have HB := Aside0.mk hb; have GE2 := Aside0.mk (show w.heap.size ≤ g2 by rw [hg]; exact Nat.le_refl _); clear hg hbox hb)
    | ((with_reducible refine gate_dst (N := 4) rfl ?_); refine box_event ?hg (N := 4) ?hd (cs := #[.slice none 0 0, .slice none 0 0, .slice none 0 0, .int .i64 0, .int .i64 0, .string (⟨#[]⟩ : ByteArray)]) (t := 24) ?hr ?_; (case hd => rfl); (case hg => rfl); (case hr => first | (go_simp; done) | (go_simp; rfl)); intro g4 hg w2 hbox hb; have BK4 := Aside0.mk hbox; replace BK2 := Aside0.mk (blk_below BK2.out hb); have GE4 := Aside0.mk (show w.heap.size ≤ g4 by rw [hg]; exact below_size HB.out); replace HB := Aside0.mk (below_step HB.out hb); clear hg hbox hb; have hcz0 : w2.cell? ⟨g2, 0, none⟩ = some (.slice A0 s.length c0) := (blk_cell BK2.out 0).trans rfl; have hcz1 : w2.cell? ⟨g2, 1, none⟩ = some (.slice A1 b.length c1) := (blk_cell BK2.out 1).trans rfl; have hcz2 : w2.cell? ⟨g2, 2, none⟩ = some (.slice A2 c.length c2) := (blk_cell BK2.out 2).trans rfl; have hcz3 : w2.cell? ⟨g2, 3, none⟩ = some (.int .i64 h) := (blk_cell BK2.out 3).trans rfl; have hcz4 : w2.cell? ⟨g2, 4, none⟩ = some (.int .i64 n) := (blk_cell BK2.out 4).trans rfl; have hcz5 : w2.cell? ⟨g2, 5, none⟩ = some (.string o) := (blk_cell BK2.out 5).trans rfl)
    | (go_at_call 86; (with_reducible refine (impl_Data_copied.calls A0 c0 s A1 c1 b A2 c2 c h n o s b c h n o w2 (Kd.C_below HR0.out HB.out) HC0.out (Kd.C_below HR1.out HB.out) HC1.out (Kd.C_below HR2.out HB.out) HC2.out HCO.out).mono ?_); rintro e w3 ⟨v0, v1, v2, rfl, x0, x1, x2, hb⟩; have X0 := Aside0.mk x0; have X1 := Aside0.mk x1; have X2 := Aside0.mk x2; have HB2 := Aside0.mk hb; clear x0 x1 x2 hb; obtain ⟨B0, d0, e0⟩ := Kd.R_slice X0.out; subst e0; obtain ⟨B1, d1, e1⟩ := Kd.R_slice X1.out; subst e1; obtain ⟨B2, d2, e2⟩ := Kd.R_slice X2.out; subst e2)
    | ((with_reducible refine gate_dst (N := 6) rfl ?_); refine box_event ?hg (N := 6) ?hd (cs := #[.slice none 0 0, .slice none 0 0, .slice none 0 0, .int .i64 0, .int .i64 0, .string (⟨#[]⟩ : ByteArray)]) (t := 24) ?hr ?_; (case hd => rfl); (case hg => rfl); (case hr => first | (go_simp; done) | (go_simp; rfl)); intro g6 hg w4 hbox hb; have BK6 := Aside0.mk hbox; have GE6 := Aside0.mk (show w2.heap.size ≤ g6 by rw [hg]; exact below_size HB2.out); replace X0 := Aside0.mk (Kd.R_below X0.out hb); replace X1 := Aside0.mk (Kd.R_below X1.out hb); replace X2 := Aside0.mk (Kd.R_below X2.out hb); replace HB2 := Aside0.mk (below_step HB2.out hb); clear hg hbox hb; have hcx0 : w4.cell? ⟨g6, 0, none⟩ = some (.slice none 0 0) := (blk_cell BK6.out 0).trans rfl; have hcx1 : w4.cell? ⟨g6, 1, none⟩ = some (.slice none 0 0) := (blk_cell BK6.out 1).trans rfl; have hcx2 : w4.cell? ⟨g6, 2, none⟩ = some (.slice none 0 0) := (blk_cell BK6.out 2).trans rfl; have hcx3 : w4.cell? ⟨g6, 3, none⟩ = some (.int .i64 0) := (blk_cell BK6.out 3).trans rfl; have hcx4 : w4.cell? ⟨g6, 4, none⟩ = some (.int .i64 0) := (blk_cell BK6.out 4).trans rfl; have hcx5 : w4.cell? ⟨g6, 5, none⟩ = some (.string (⟨#[]⟩ : ByteArray)) := (blk_cell BK6.out 5).trans rfl; have hcxf0 := blk_frozen (BK6.out) 0; have hcxf1 := blk_frozen (BK6.out) 1; have hcxf2 := blk_frozen (BK6.out) 2; have hcxf3 := blk_frozen (BK6.out) 3; have hcxf4 := blk_frozen (BK6.out) 4; have hcxf5 := blk_frozen (BK6.out) 5)
    | ((with_reducible refine Go.Proofs.YtcelnpmahnblpaaO.gate_tmp (t := 10) rfl ?_); refine goesC_ (some 11) rfl rfl (.tmp 10) fr rfl hcf hcn hcb #[.pointer (some ⟨g6, 0, none⟩)] rfl (by (try simp only [List.map_toArray, List.map_cons, List.map_nil]); first | done | rfl) ?_; refine (HCL.out w2 _ g6 B0 d0 B1 d1 B2 d2 HB.out (Held.store HB2.out GE6.out BK6.out X0.out X1.out X2.out)).mono ?_; rintro e w5 ⟨rfl, hh⟩; refine ⟨_, rfl, ?_⟩; obtain ⟨E0, f0, E1, f1, E2, f2, HH⟩ := hh; have HF := Aside0.mk HH; have BK5 := Aside0.mk (blk_below BK4.out HH.below); clear HH; have hcy0 : w5.cell? ⟨g6, 0, none⟩ = some (.slice E0 s'.length f0) := (blk_cell HF.out.blk 0).trans rfl; have hcy1 : w5.cell? ⟨g6, 1, none⟩ = some (.slice E1 b'.length f1) := (blk_cell HF.out.blk 1).trans rfl; have hcy2 : w5.cell? ⟨g6, 2, none⟩ = some (.slice E2 c'.length f2) := (blk_cell HF.out.blk 2).trans rfl; have hcy3 : w5.cell? ⟨g6, 3, none⟩ = some (.int .i64 h') := (blk_cell HF.out.blk 3).trans rfl; have hcy4 : w5.cell? ⟨g6, 4, none⟩ = some (.int .i64 n') := (blk_cell HF.out.blk 4).trans rfl; have hcy5 : w5.cell? ⟨g6, 5, none⟩ = some (.string o') := (blk_cell HF.out.blk 5).trans rfl; have hcyf0 := blk_frozen (HF.out.blk) 0; have hcyf1 := blk_frozen (HF.out.blk) 1; have hcyf2 := blk_frozen (HF.out.blk) 2; have hcyf3 := blk_frozen (HF.out.blk) 3; have hcyf4 := blk_frozen (HF.out.blk) 4; have hcyf5 := blk_frozen (HF.out.blk) 5; have hcw0 : w5.cell? ⟨g4, 0, none⟩ = some (.slice none 0 0) := (blk_cell BK5.out 0).trans rfl; have hcw1 : w5.cell? ⟨g4, 1, none⟩ = some (.slice none 0 0) := (blk_cell BK5.out 1).trans rfl; have hcw2 : w5.cell? ⟨g4, 2, none⟩ = some (.slice none 0 0) := (blk_cell BK5.out 2).trans rfl; have hcw3 : w5.cell? ⟨g4, 3, none⟩ = some (.int .i64 0) := (blk_cell BK5.out 3).trans rfl; have hcw4 : w5.cell? ⟨g4, 4, none⟩ = some (.int .i64 0) := (blk_cell BK5.out 4).trans rfl; have hcw5 : w5.cell? ⟨g4, 5, none⟩ = some (.string (⟨#[]⟩ : ByteArray)) := (blk_cell BK5.out 5).trans rfl; have hcwf0 := blk_frozen (BK5.out) 0; have hcwf1 := blk_frozen (BK5.out) 1; have hcwf2 := blk_frozen (BK5.out) 2; have hcwf3 := blk_frozen (BK5.out) 3; have hcwf4 := blk_frozen (BK5.out) 4; have hcwf5 := blk_frozen (BK5.out) 5))
  have b1 := blk_put BK5.out 0 (.slice E0 s'.length f0) rfl
  have b2 := blk_put b1 1 (.slice E1 b'.length f1) rfl
  have b3 := blk_put b2 2 (.slice E2 c'.length f2) rfl
  have b4 := blk_put b3 3 (.int .i64 h') rfl
  have b5 := blk_put b4 4 (.int .i64 n') rfl
  have b6 := blk_put b5 5 (.string o') rfl
  have lo := below_size HB.out
  have rows : ∀ {ok : Nat → Prop} {v : Value} {xs : List Int}, Kd.R (Kd.int .i64) 3 w5 w2.heap.size ok v xs → Kd.R (Kd.int .i64) 3 ((((((w5.setCell ⟨g4, 0, none⟩ (.slice E0 s'.length f0)).setCell ⟨g4, 1, none⟩ (.slice E1 b'.length f1)).setCell ⟨g4, 2, none⟩ (.slice E2 c'.length f2)).setCell ⟨g4, 3, none⟩ (.int .i64 h')).setCell ⟨g4, 4, none⟩ (.int .i64 n')).setCell ⟨g4, 5, none⟩ (.string o')) w.heap.size ok v xs :=
    fun hh => Kd.R_lower (Held.rows_set b5 (Held.rows_set b4 (Held.rows_set b3 (Held.rows_set b2 (Held.rows_set b1 (Held.rows_set BK5.out hh)))))) lo
  refine bodyPost_ret (results_ct rfl _ _ g4 24 #[.slice E0 s'.length f0, .slice E1 b'.length f1, .slice E2 c'.length f2, .int .i64 h', .int .i64 n', .string o'] (0, 0) _ rfl b6 Try.underlying24 rfl (by kernel_rfl)) rfl ?_
  exact ⟨_, _, _, rfl, rows HF.out.r0, rows HF.out.r1, rows HF.out.r2, below_set (below_set (below_set (below_set (below_set (below_set (below_step HB.out HF.out.below) GE4.out) GE4.out) GE4.out) GE4.out) GE4.out) GE4.out⟩
set_option maxHeartbeats 4000000 in
set_option maxRecDepth 100000 in
/-- impl.changed where the change throws: a copy of what came in. -/
theorem changed_throw (w : World) (cl : FuncId) (fnc : Func) (fr : Array Value) (hcf : Try.prog.funcs[cl]? = some fnc) (hcn : (fnc.name == "runtime.NumGoroutine") = false) (hcb : fnc.body.isSome = true)
    (A0 : Option Addr) (c0 : Nat) (A1 : Option Addr) (c1 : Nat) (A2 : Option Addr) (c2 : Nat) (s b c : List Int) (h n : Int) (o : ByteArray)
    (hr0 : Kd.C (Kd.int .i64) w A0 s.length s) (hc0 : s.length ≤ c0) (hr1 : Kd.C (Kd.int .i64) w A1 b.length b) (hc1 : b.length ≤ c1) (hr2 : Kd.C (Kd.int .i64) w A2 c.length c) (hc2 : c.length ≤ c2)
    (hcopy : impl_Data_copied.f s b c h n o = some (s, b, c, h, n, o)) (t : Int) (s' b' c' : List Int) (h' n' : Int) (o' : ByteArray)
    (hcl : ∀ (W0 W : World) (g : Nat) (B0 : Option Addr) (d0 : Nat) (B1 : Option Addr) (d1 : Nat) (B2 : Option Addr) (d2 : Nat), Below w.heap.size w W0 → Held W0 W g B0 d0 B1 d1 B2 d2 s b c h n o →
      Calls Try.prog cl (#[.pointer (some ⟨g, 0, none⟩)] ++ fr) W fun e W' => e = .returned (.int .i64 t) ∧ ∃ B0' d0' B1' d1' B2' d2', Held W0 W' g B0' d0' B1' d1' B2' d2' s' b' c' h' n' o') (ht : ¬ t = 0) :
    Calls Try.prog 57 #[.agg #[.slice A0 s.length c0, .slice A1 b.length c1, .slice A2 c.length c2, .int .i64 h, .int .i64 n, .string o], .func (.func cl) #[] fr] w fun e w' => ∃ v0 v1 v2 : Value, e = .returned (.tuple #[.agg #[v0, v1, v2, .int .i64 h, .int .i64 n, .string o], .int .i64 t]) ∧ Kd.R (Kd.int .i64) 3 w' w.heap.size (fun k_ => some k_ ≠ (v1 : Value).ownBlock ∧ some k_ ≠ (v2 : Value).ownBlock) v0 s ∧ Kd.R (Kd.int .i64) 3 w' w.heap.size (fun k_ => some k_ ≠ (v0 : Value).ownBlock ∧ some k_ ≠ (v2 : Value).ownBlock) v1 b ∧ Kd.R (Kd.int .i64) 3 w' w.heap.size (fun k_ => some k_ ≠ (v0 : Value).ownBlock ∧ some k_ ≠ (v1 : Value).ownBlock) v2 c ∧ Below w.heap.size w w' := by
  have hu24 := Try.underlying24
  have HR0 := Aside0.mk hr0
  have HR1 := Aside0.mk hr1
  have HR2 := Aside0.mk hr2
  have HC0 := Aside0.mk hc0
  have HC1 := Aside0.mk hc1
  have HC2 := Aside0.mk hc2
  have HCL := Aside0.mk hcl
  have HCO := Aside0.mk hcopy
  clear hr0 hr1 hr2 hc0 hc1 hc2 hcl hcopy
  have ht0 : (t == 0) = false := beq_eq_false_iff_ne.mpr ht
  have ht1 : (t != 0) = true := bne_iff_ne.mpr ht
  clear ht
  go_enter Try.func57, Try.ntmps57
  go_wp2_with (first
    | ((with_reducible refine gate_dst (N := 2) rfl ?_); refine box_event ?hg (N := 2) ?hd (cs := #[.slice A0 s.length c0, .slice A1 b.length c1, .slice A2 c.length c2, .int .i64 h, .int .i64 n, .string o]) (t := 24) ?hr ?_; (case hd => rfl); (case hg => rfl); (case hr => first | (go_simp; done) | (go_simp; rfl)); intro g2 hg w1 hbox hb; have BK2 := Aside0.mk hbox; have HB := Aside0.mk hb; have GE2 := Aside0.mk (show w.heap.size ≤ g2 by rw [hg]; exact Nat.le_refl _); clear hg hbox hb)
    | ((with_reducible refine gate_dst (N := 4) rfl ?_); refine box_event ?hg (N := 4) ?hd (cs := #[.slice none 0 0, .slice none 0 0, .slice none 0 0, .int .i64 0, .int .i64 0, .string (⟨#[]⟩ : ByteArray)]) (t := 24) ?hr ?_; (case hd => rfl); (case hg => rfl); (case hr => first | (go_simp; done) | (go_simp; rfl)); intro g4 hg w2 hbox hb; have BK4 := Aside0.mk hbox; replace BK2 := Aside0.mk (blk_below BK2.out hb); have GE4 := Aside0.mk (show w.heap.size ≤ g4 by rw [hg]; exact below_size HB.out); replace HB := Aside0.mk (below_step HB.out hb); clear hg hbox hb; have hcz0 : w2.cell? ⟨g2, 0, none⟩ = some (.slice A0 s.length c0) := (blk_cell BK2.out 0).trans rfl; have hcz1 : w2.cell? ⟨g2, 1, none⟩ = some (.slice A1 b.length c1) := (blk_cell BK2.out 1).trans rfl; have hcz2 : w2.cell? ⟨g2, 2, none⟩ = some (.slice A2 c.length c2) := (blk_cell BK2.out 2).trans rfl; have hcz3 : w2.cell? ⟨g2, 3, none⟩ = some (.int .i64 h) := (blk_cell BK2.out 3).trans rfl; have hcz4 : w2.cell? ⟨g2, 4, none⟩ = some (.int .i64 n) := (blk_cell BK2.out 4).trans rfl; have hcz5 : w2.cell? ⟨g2, 5, none⟩ = some (.string o) := (blk_cell BK2.out 5).trans rfl)
    | (go_at_call 86; (with_reducible refine (impl_Data_copied.calls A0 c0 s A1 c1 b A2 c2 c h n o s b c h n o w2 (Kd.C_below HR0.out HB.out) HC0.out (Kd.C_below HR1.out HB.out) HC1.out (Kd.C_below HR2.out HB.out) HC2.out HCO.out).mono ?_); rintro e w3 ⟨v0, v1, v2, rfl, x0, x1, x2, hb⟩; have X0 := Aside0.mk x0; have X1 := Aside0.mk x1; have X2 := Aside0.mk x2; have HB2 := Aside0.mk hb; clear x0 x1 x2 hb; obtain ⟨B0, d0, e0⟩ := Kd.R_slice X0.out; subst e0; obtain ⟨B1, d1, e1⟩ := Kd.R_slice X1.out; subst e1; obtain ⟨B2, d2, e2⟩ := Kd.R_slice X2.out; subst e2)
    | ((with_reducible refine gate_dst (N := 6) rfl ?_); refine box_event ?hg (N := 6) ?hd (cs := #[.slice none 0 0, .slice none 0 0, .slice none 0 0, .int .i64 0, .int .i64 0, .string (⟨#[]⟩ : ByteArray)]) (t := 24) ?hr ?_; (case hd => rfl); (case hg => rfl); (case hr => first | (go_simp; done) | (go_simp; rfl)); intro g6 hg w4 hbox hb; have BK6 := Aside0.mk hbox; have GE6 := Aside0.mk (show w2.heap.size ≤ g6 by rw [hg]; exact below_size HB2.out); replace X0 := Aside0.mk (Kd.R_below X0.out hb); replace X1 := Aside0.mk (Kd.R_below X1.out hb); replace X2 := Aside0.mk (Kd.R_below X2.out hb); replace HB2 := Aside0.mk (below_step HB2.out hb); clear hg hbox hb; have hcx0 : w4.cell? ⟨g6, 0, none⟩ = some (.slice none 0 0) := (blk_cell BK6.out 0).trans rfl; have hcx1 : w4.cell? ⟨g6, 1, none⟩ = some (.slice none 0 0) := (blk_cell BK6.out 1).trans rfl; have hcx2 : w4.cell? ⟨g6, 2, none⟩ = some (.slice none 0 0) := (blk_cell BK6.out 2).trans rfl; have hcx3 : w4.cell? ⟨g6, 3, none⟩ = some (.int .i64 0) := (blk_cell BK6.out 3).trans rfl; have hcx4 : w4.cell? ⟨g6, 4, none⟩ = some (.int .i64 0) := (blk_cell BK6.out 4).trans rfl; have hcx5 : w4.cell? ⟨g6, 5, none⟩ = some (.string (⟨#[]⟩ : ByteArray)) := (blk_cell BK6.out 5).trans rfl; have hcxf0 := blk_frozen (BK6.out) 0; have hcxf1 := blk_frozen (BK6.out) 1; have hcxf2 := blk_frozen (BK6.out) 2; have hcxf3 := blk_frozen (BK6.out) 3; have hcxf4 := blk_frozen (BK6.out) 4; have hcxf5 := blk_frozen (BK6.out) 5)
    | ((with_reducible refine Go.Proofs.YtcelnpmahnblpaaO.gate_tmp (t := 10) rfl ?_); refine goesC_ (some 11) rfl rfl (.tmp 10) fr rfl hcf hcn hcb #[.pointer (some ⟨g6, 0, none⟩)] rfl (by (try simp only [List.map_toArray, List.map_cons, List.map_nil]); first | done | rfl) ?_; refine (HCL.out w2 _ g6 B0 d0 B1 d1 B2 d2 HB.out (Held.store HB2.out GE6.out BK6.out X0.out X1.out X2.out)).mono ?_; rintro e w5 ⟨rfl, hh⟩; refine ⟨_, rfl, ?_⟩; obtain ⟨E0, f0, E1, f1, E2, f2, HH⟩ := hh; have HF := Aside0.mk HH; have BK5 := Aside0.mk (blk_below BK4.out HH.below); have BK7 := Aside0.mk (blk_below BK2.out HH.below); clear HH; have hcv0 : w5.cell? ⟨g2, 0, none⟩ = some (.slice A0 s.length c0) := (blk_cell BK7.out 0).trans rfl; have hcv1 : w5.cell? ⟨g2, 1, none⟩ = some (.slice A1 b.length c1) := (blk_cell BK7.out 1).trans rfl; have hcv2 : w5.cell? ⟨g2, 2, none⟩ = some (.slice A2 c.length c2) := (blk_cell BK7.out 2).trans rfl; have hcv3 : w5.cell? ⟨g2, 3, none⟩ = some (.int .i64 h) := (blk_cell BK7.out 3).trans rfl; have hcv4 : w5.cell? ⟨g2, 4, none⟩ = some (.int .i64 n) := (blk_cell BK7.out 4).trans rfl; have hcv5 : w5.cell? ⟨g2, 5, none⟩ = some (.string o) := (blk_cell BK7.out 5).trans rfl; have hcvf0 := blk_frozen (BK7.out) 0; have hcvf1 := blk_frozen (BK7.out) 1; have hcvf2 := blk_frozen (BK7.out) 2; have hcvf3 := blk_frozen (BK7.out) 3; have hcvf4 := blk_frozen (BK7.out) 4; have hcvf5 := blk_frozen (BK7.out) 5; have hcw0 : w5.cell? ⟨g4, 0, none⟩ = some (.slice none 0 0) := (blk_cell BK5.out 0).trans rfl; have hcw1 : w5.cell? ⟨g4, 1, none⟩ = some (.slice none 0 0) := (blk_cell BK5.out 1).trans rfl; have hcw2 : w5.cell? ⟨g4, 2, none⟩ = some (.slice none 0 0) := (blk_cell BK5.out 2).trans rfl; have hcw3 : w5.cell? ⟨g4, 3, none⟩ = some (.int .i64 0) := (blk_cell BK5.out 3).trans rfl; have hcw4 : w5.cell? ⟨g4, 4, none⟩ = some (.int .i64 0) := (blk_cell BK5.out 4).trans rfl; have hcw5 : w5.cell? ⟨g4, 5, none⟩ = some (.string (⟨#[]⟩ : ByteArray)) := (blk_cell BK5.out 5).trans rfl; have hcwf0 := blk_frozen (BK5.out) 0; have hcwf1 := blk_frozen (BK5.out) 1; have hcwf2 := blk_frozen (BK5.out) 2; have hcwf3 := blk_frozen (BK5.out) 3; have hcwf4 := blk_frozen (BK5.out) 4; have hcwf5 := blk_frozen (BK5.out) 5)
    | (go_at_call 86; (with_reducible refine (impl_Data_copied.calls A0 c0 s A1 c1 b A2 c2 c h n o s b c h n o w5 (Kd.C_below HR0.out (below_step HB.out HF.out.below)) HC0.out (Kd.C_below HR1.out (below_step HB.out HF.out.below)) HC1.out (Kd.C_below HR2.out (below_step HB.out HF.out.below)) HC2.out HCO.out).mono ?_); rintro e w6 ⟨y0, y1, y2, rfl, x0, x1, x2, hb⟩; have Y0 := Aside0.mk x0; have Y1 := Aside0.mk x1; have Y2 := Aside0.mk x2; have HB6 := Aside0.mk hb; have BK8 := Aside0.mk (blk_below BK5.out hb); clear x0 x1 x2 hb; obtain ⟨E0, f0, e0⟩ := Kd.R_slice Y0.out; subst e0; obtain ⟨E1, f1, e1⟩ := Kd.R_slice Y1.out; subst e1; obtain ⟨E2, f2, e2⟩ := Kd.R_slice Y2.out; subst e2; have hcu0 : w6.cell? ⟨g4, 0, none⟩ = some (.slice none 0 0) := (blk_cell BK8.out 0).trans rfl; have hcu1 : w6.cell? ⟨g4, 1, none⟩ = some (.slice none 0 0) := (blk_cell BK8.out 1).trans rfl; have hcu2 : w6.cell? ⟨g4, 2, none⟩ = some (.slice none 0 0) := (blk_cell BK8.out 2).trans rfl; have hcu3 : w6.cell? ⟨g4, 3, none⟩ = some (.int .i64 0) := (blk_cell BK8.out 3).trans rfl; have hcu4 : w6.cell? ⟨g4, 4, none⟩ = some (.int .i64 0) := (blk_cell BK8.out 4).trans rfl; have hcu5 : w6.cell? ⟨g4, 5, none⟩ = some (.string (⟨#[]⟩ : ByteArray)) := (blk_cell BK8.out 5).trans rfl; have hcuf0 := blk_frozen (BK8.out) 0; have hcuf1 := blk_frozen (BK8.out) 1; have hcuf2 := blk_frozen (BK8.out) 2; have hcuf3 := blk_frozen (BK8.out) 3; have hcuf4 := blk_frozen (BK8.out) 4; have hcuf5 := blk_frozen (BK8.out) 5))
  have b1 := blk_put BK8.out 0 (.slice E0 s.length f0) rfl
  have b2 := blk_put b1 1 (.slice E1 b.length f1) rfl
  have b3 := blk_put b2 2 (.slice E2 c.length f2) rfl
  have b4 := blk_put b3 3 (.int .i64 h) rfl
  have b5 := blk_put b4 4 (.int .i64 n) rfl
  have b6 := blk_put b5 5 (.string o) rfl
  have hb5 := below_step HB.out HF.out.below
  have lo := below_size hb5
  have rows : ∀ {ok : Nat → Prop} {v : Value} {xs : List Int}, Kd.R (Kd.int .i64) 3 w6 w5.heap.size ok v xs → Kd.R (Kd.int .i64) 3 ((((((w6.setCell ⟨g4, 0, none⟩ (.slice E0 s.length f0)).setCell ⟨g4, 1, none⟩ (.slice E1 b.length f1)).setCell ⟨g4, 2, none⟩ (.slice E2 c.length f2)).setCell ⟨g4, 3, none⟩ (.int .i64 h)).setCell ⟨g4, 4, none⟩ (.int .i64 n)).setCell ⟨g4, 5, none⟩ (.string o)) w.heap.size ok v xs :=
    fun hh => Kd.R_lower (Held.rows_set b5 (Held.rows_set b4 (Held.rows_set b3 (Held.rows_set b2 (Held.rows_set b1 (Held.rows_set BK8.out hh)))))) lo
  refine bodyPost_ret (results_ct rfl _ _ g4 24 #[.slice E0 s.length f0, .slice E1 b.length f1, .slice E2 c.length f2, .int .i64 h, .int .i64 n, .string o] (0, 0) _ rfl b6 Try.underlying24 rfl (by kernel_rfl)) rfl ?_
  exact ⟨_, _, _, rfl, rows Y0.out, rows Y1.out, rows Y2.out, below_set (below_set (below_set (below_set (below_set (below_set (below_step hb5 HB6.out) GE4.out) GE4.out) GE4.out) GE4.out) GE4.out) GE4.out⟩

/-- impl.changed, whatever the change throws. -/
theorem changed_both (w : World) (cl : FuncId) (fnc : Func) (fr : Array Value) (hcf : Try.prog.funcs[cl]? = some fnc) (hcn : (fnc.name == "runtime.NumGoroutine") = false) (hcb : fnc.body.isSome = true)
    (A0 : Option Addr) (c0 : Nat) (A1 : Option Addr) (c1 : Nat) (A2 : Option Addr) (c2 : Nat) (s b c : List Int) (h n : Int) (o : ByteArray)
    (hr0 : Kd.C (Kd.int .i64) w A0 s.length s) (hc0 : s.length ≤ c0) (hr1 : Kd.C (Kd.int .i64) w A1 b.length b) (hc1 : b.length ≤ c1) (hr2 : Kd.C (Kd.int .i64) w A2 c.length c) (hc2 : c.length ≤ c2)
    (hcopy : impl_Data_copied.f s b c h n o = some (s, b, c, h, n, o)) (t : Int) (s' b' c' : List Int) (h' n' : Int) (o' : ByteArray) (rs rb rc : List Int) (rh rn : Int) (ro : ByteArray)
    (hcl : ∀ (W0 W : World) (g : Nat) (B0 : Option Addr) (d0 : Nat) (B1 : Option Addr) (d1 : Nat) (B2 : Option Addr) (d2 : Nat), Below w.heap.size w W0 → Held W0 W g B0 d0 B1 d1 B2 d2 s b c h n o →
      Calls Try.prog cl (#[.pointer (some ⟨g, 0, none⟩)] ++ fr) W fun e W' => e = .returned (.int .i64 t) ∧ ∃ B0' d0' B1' d1' B2' d2', Held W0 W' g B0' d0' B1' d1' B2' d2' s' b' c' h' n' o')
    (hsel : (t = 0 ∧ (rs, rb, rc, rh, rn, ro) = (s', b', c', h', n', o')) ∨ (¬ t = 0 ∧ (rs, rb, rc, rh, rn, ro) = (s, b, c, h, n, o))) :
    Calls Try.prog 57 #[.agg #[.slice A0 s.length c0, .slice A1 b.length c1, .slice A2 c.length c2, .int .i64 h, .int .i64 n, .string o], .func (.func cl) #[] fr] w fun e w' => ∃ v0 v1 v2 : Value, e = .returned (.tuple #[.agg #[v0, v1, v2, .int .i64 rh, .int .i64 rn, .string ro], .int .i64 t]) ∧ Kd.R (Kd.int .i64) 3 w' w.heap.size (fun k_ => some k_ ≠ (v1 : Value).ownBlock ∧ some k_ ≠ (v2 : Value).ownBlock) v0 rs ∧ Kd.R (Kd.int .i64) 3 w' w.heap.size (fun k_ => some k_ ≠ (v0 : Value).ownBlock ∧ some k_ ≠ (v2 : Value).ownBlock) v1 rb ∧ Kd.R (Kd.int .i64) 3 w' w.heap.size (fun k_ => some k_ ≠ (v0 : Value).ownBlock ∧ some k_ ≠ (v1 : Value).ownBlock) v2 rc ∧ Below w.heap.size w w' := by
  rcases hsel with ⟨ht, e⟩ | ⟨ht, e⟩
  · simp only [Prod.mk.injEq] at e
    obtain ⟨rfl, rfl, rfl, rfl, rfl, rfl⟩ := e
    exact changed_calls w cl fnc fr hcf hcn hcb A0 c0 A1 c1 A2 c2 s b c h n o hr0 hc0 hr1 hc1 hr2 hc2 hcopy t _ _ _ _ _ _ hcl ht
  · simp only [Prod.mk.injEq] at e
    obtain ⟨rfl, rfl, rfl, rfl, rfl, rfl⟩ := e
    exact changed_throw w cl fnc fr hcf hcn hcb A0 c0 A1 c1 A2 c2 _ _ _ _ _ _ hr0 hc0 hr1 hc1 hr2 hc2 hcopy t s' b' c' h' n' o' hcl ht
theorem copied_same {s b c : List Int} {h n : Int} {o : ByteArray} {d : List Int × List Int × List Int × Int × Int × ByteArray} (H : impl_Data_copied.f s b c h n o = some d) : impl_Data_copied.f s b c h n o = some (s, b, c, h, n, o) := by
  unfold impl_Data_copied.f slices_Clone_int.f at H ⊢
  by_cases h0 : s.length < 17592186044416
  · by_cases h1 : b.length < 17592186044416
    · by_cases h2 : c.length < 17592186044416
      · simp [h0, h1, h2]
      · simp [h0, h1, h2] at H
    · simp [h0, h1] at H
  · simp [h0] at H
/-- Held behind a store into one of its whole numbers or its text. -/
theorem Held.set3 {w0 W : World} {g : Nat} {A0 : Option Addr} {c0 : Nat} {A1 : Option Addr} {c1 : Nat} {A2 : Option Addr} {c2 : Nat} {s b c : List Int} {h n : Int} {o : ByteArray} (H : Held w0 W g A0 c0 A1 c1 A2 c2 s b c h n o) (h' : Int) : Held w0 (W.setCell ⟨g, 3, none⟩ (.int .i64 h')) g A0 c0 A1 c1 A2 c2 s b c h' n o :=
  ⟨below_set H.below H.ge, H.ge, blk_put H.blk 3 _ rfl, Held.rows_set H.blk H.r0, Held.rows_set H.blk H.r1, Held.rows_set H.blk H.r2⟩
theorem Held.set5 {w0 W : World} {g : Nat} {A0 : Option Addr} {c0 : Nat} {A1 : Option Addr} {c1 : Nat} {A2 : Option Addr} {c2 : Nat} {s b c : List Int} {h n : Int} {o : ByteArray} (H : Held w0 W g A0 c0 A1 c1 A2 c2 s b c h n o) (o' : ByteArray) : Held w0 (W.setCell ⟨g, 5, none⟩ (.string o')) g A0 c0 A1 c1 A2 c2 s b c h n o' :=
  ⟨below_set H.below H.ge, H.ge, blk_put H.blk 5 _ rfl, Held.rows_set H.blk H.r0, Held.rows_set H.blk H.r1, Held.rows_set H.blk H.r2⟩
/-- Held behind a store into its cells. -/
theorem Held.put2 {w0 W : World} {g go : Nat} {A0 : Option Addr} {c0 : Nat} {A1 : Option Addr} {c1 c2 : Nat} {s b c : List Int} {h n : Int} {o : ByteArray} (H : Held w0 W g A0 c0 A1 c1 (some ⟨go, 0, none⟩) c2 s b c h n o) (i x : Int) : Held w0 (W.setCell ⟨go, i.toNat, none⟩ (.int .i64 x)) g A0 c0 A1 c1 (some ⟨go, 0, none⟩) c2 s b (c.set i.toNat x) h n o := by
  have hge : w0.heap.size ≤ go := Kd.R_base H.r2 go rfl
  have hne : g ≠ go := by
    have h_ := Kd.R_ne H.r2 H.blk (by decide)
    intro e_
    exact h_ (by rw [e_]; rfl)
  have hlen : (c.set i.toNat x).length = c.length := List.length_set
  exact ⟨below_set H.below hge, H.ge, by rw [hlen]; exact blk_far H.blk hne _, by rw [hlen]; exact Kd.R_far H.r0 (fun k hk e_ => hk.2 (by rw [e_]; rfl)) _, by rw [hlen]; exact Kd.R_far H.r1 (fun k hk e_ => hk.2 (by rw [e_]; rfl)) _, by rw [hlen]; exact (Kd.R_putg H.r2 i x).1⟩
theorem Held.drewN {w0 W : World} {g : Nat} {A0 : Option Addr} {c0 : Nat} {A1 : Option Addr} {c1 : Nat} {A2 : Option Addr} {c2 : Nat} {s b c : List Int} {h n : Int} {o : ByteArray} (H : Held w0 W g A0 c0 A1 c1 A2 c2 s b c h n o) (m : Nat) : Held w0 (W.drewN m) g A0 c0 A1 c1 A2 c2 s b c h n o := H.step (pw_below_drewN (Below.refl _ _) m)


-- NOT PRINTED: function 92 (slices_IndexFunc_int)

-- NOT PRINTED: function 81 (slices_ContainsFunc_int)

/-! ### impl_WrapCell: function 93 -/
def impl_WrapCell.f (a0 : Int) : Option (Int) := some (wrap64 (wrap32 (a0)))
set_option maxHeartbeats 8000000 in
set_option maxRecDepth 100000 in
theorem impl_WrapCell.calls (a0 : Int) (r : Int) (w : World) (h : impl_WrapCell.f a0 = some r) :
    Calls Try.prog 93 #[.int .i64 a0] w fun e w' => e = .returned (.int .i64 r) ∧ Drawn0 w w' := by
  have H : (some (wrap64 (wrap32 (a0)))) = some r := h
  clear h
  obtain rfl := Option.some.inj H
  go_enter Try.func93, Try.ntmps93
  go_wp2
  go_ret
  exact ⟨by first | rfl | (simp; done) | (simp [*]; done), by repeat (first | exact Drawn0.refl _ | apply Drawn0.step)⟩

/-! ### impl_CellOK: function 83 -/
def impl_CellOK.f (a0 : Int) : Option (Bool) := (impl_WrapCell.f a0).bind fun t223 => (some (t223 == a0))
set_option maxHeartbeats 8000000 in
set_option maxRecDepth 100000 in
theorem impl_CellOK.calls (a0 : Int) (r : Bool) (w : World) (h : impl_CellOK.f a0 = some r) :
    Calls Try.prog 83 #[.int .i64 a0] w fun e w' => e = .returned (.bool r) ∧ Drawn0 w w' := by
  have H : ((impl_WrapCell.f a0).bind fun t223 => (some (t223 == a0))) = some r := h
  clear h
  replace H := Option.bind_eq_some_iff.mp H
  obtain ⟨t223, A20, H⟩ := H
  replace H : (some (t223 == a0)) = some r := H
  have A2 := Aside0.mk A20
  clear A20
  obtain rfl := Option.some.inj H
  go_enter Try.func83, Try.ntmps83
  go_wp2_with (first | ((with_reducible refine gate_callee (f := 93) rfl ?_); refine goesL_ (some 4) rfl rfl Try.func93 (by kernel_rfl) rfl #[.int .i64 a0] rfl (by (try simp only [List.map_toArray, List.map_cons, List.map_nil]); first | done | rfl | (simp only [List.length_drop, List.length_take]; rfl)) ?_; (with_reducible refine (impl_WrapCell.calls a0 t223 _ A2.out).mono ?_); rintro e w' ⟨rfl, ⟨nd, rfl⟩⟩; refine ⟨_, rfl, ?_⟩))
  go_ret
  exact ⟨by first | rfl | (simp; done) | (simp [*]; done), by repeat (first | exact Drawn0.refl _ | apply Drawn0.step)⟩

/-! ### impl_areCells_1: function 82 -/
def impl_areCells_1.f (a0 : Int) : Option (Bool) := (impl_CellOK.f a0).bind fun t224 => (some (!t224))
set_option maxHeartbeats 8000000 in
set_option maxRecDepth 100000 in
theorem impl_areCells_1.calls (a0 : Int) (r : Bool) (w : World) (h : impl_areCells_1.f a0 = some r) :
    Calls Try.prog 82 #[.int .i64 a0] w fun e w' => e = .returned (.bool r) ∧ Drawn0 w w' := by
  have H : ((impl_CellOK.f a0).bind fun t224 => (some (!t224))) = some r := h
  clear h
  replace H := Option.bind_eq_some_iff.mp H
  obtain ⟨t224, A20, H⟩ := H
  replace H : (some (!t224)) = some r := H
  have A2 := Aside0.mk A20
  clear A20
  obtain rfl := Option.some.inj H
  go_enter Try.func82, Try.ntmps82
  go_wp2_with (first | ((with_reducible refine gate_callee (f := 83) rfl ?_); refine goesL_ (some 4) rfl rfl Try.func83 (by kernel_rfl) rfl #[.int .i64 a0] rfl (by (try simp only [List.map_toArray, List.map_cons, List.map_nil]); first | done | rfl | (simp only [List.length_drop, List.length_take]; rfl)) ?_; (with_reducible refine (impl_CellOK.calls a0 t224 _ A2.out).mono ?_); rintro e w' ⟨rfl, ⟨nd, rfl⟩⟩; refine ⟨_, rfl, ?_⟩))
  go_ret
  exact ⟨by first | rfl | (simp; done) | (simp [*]; done), by repeat (first | exact Drawn0.refl _ | apply Drawn0.step)⟩

/-! ### slices_IndexFunc_int_at_impl_areCells_1: function 114 -/
def slices_IndexFunc_int_at_impl_areCells_1.l0 : Nat → List Int → Int → Int → Option (Int)
  | 0, _, _, _ => none
  | k + 1, x0, x7, x8 => if x8 < x7 then (if 0 ≤ x8 then (if x8 < (x0.length : Int) then ((impl_areCells_1.f (rd x0 x8)).bind fun t226 => (if t226 = true then (some x8) else (slices_IndexFunc_int_at_impl_areCells_1.l0 k x0 x7 (wrap64 (x8 + 1))))) else (none)) else (none)) else (some (-1))
def slices_IndexFunc_int_at_impl_areCells_1.f (k : Nat) (l0 : List Int)  : Option (Int) := slices_IndexFunc_int_at_impl_areCells_1.l0 k l0 (l0.length : Int) 0
theorem slices_IndexFunc_int_at_impl_areCells_1.mono_l : ∀ k, (∀ y0 y1 y2, LeO (slices_IndexFunc_int_at_impl_areCells_1.l0 k y0 y1 y2) (slices_IndexFunc_int_at_impl_areCells_1.l0 (k + 1) y0 y1 y2))
  | 0 => fun _ _ _ r h => by simp [slices_IndexFunc_int_at_impl_areCells_1.l0] at h
  | k + 1 => by
    have ih0 := slices_IndexFunc_int_at_impl_areCells_1.mono_l k
    · intro y0 y1 y2
      unfold slices_IndexFunc_int_at_impl_areCells_1.l0
      repeat' first
      | (with_reducible exact ih0 _ _ _)
      | (with_reducible exact LeO.refl _)
      | (with_reducible exact LeO.none _)
      | (with_reducible refine LeO.ite ?_ ?_)
      | (with_reducible refine LeO.bind ?_ (fun _ => ?_))
      | exact ih0 _ _ _
      | exact LeO.none _
      | refine LeO.ite ?_ ?_
      | refine LeO.bind ?_ (fun _ => ?_)
theorem slices_IndexFunc_int_at_impl_areCells_1.mono : ∀ a0 k, LeO (slices_IndexFunc_int_at_impl_areCells_1.f k a0) (slices_IndexFunc_int_at_impl_areCells_1.f (k + 1) a0) := by
  intro a0 k
  have ih0 := slices_IndexFunc_int_at_impl_areCells_1.mono_l k
  unfold slices_IndexFunc_int_at_impl_areCells_1.f
  repeat' first
      | (with_reducible exact ih0 _ _ _)
      | (with_reducible exact LeO.refl _)
      | (with_reducible exact LeO.none _)
      | (with_reducible refine LeO.ite ?_ ?_)
      | (with_reducible refine LeO.bind ?_ (fun _ => ?_))
      | exact ih0 _ _ _
      | exact LeO.none _
      | refine LeO.ite ?_ ?_
      | refine LeO.bind ?_ (fun _ => ?_)
set_option maxHeartbeats 8000000 in
set_option maxRecDepth 100000 in
theorem slices_IndexFunc_int_at_impl_areCells_1.calls (k : Nat) (A0 : Option Addr) (c0 : Nat) (l0 : List Int)  (r : Int) (w : World) (hr0 : Kd.C (Kd.int .i64) w A0 l0.length l0) (hc0 : l0.length ≤ c0) (h : slices_IndexFunc_int_at_impl_areCells_1.f k l0 = some r) :
    Calls Try.prog 92 #[.slice A0 l0.length c0, .func (.func 82) #[] #[]] w fun e w' => e = .returned (.int .i64 r) ∧ Drawn0 w w' := by
  have HR0 := Aside0.mk hr0
  have HC0 := Aside0.mk hc0
  clear hr0 hc0
  have H : (slices_IndexFunc_int_at_impl_areCells_1.l0 k l0 (l0.length : Int) 0) = some r := h
  clear h
  have H' := Aside0.mk H
  clear H
  go_enter Try.func92, Try.ntmps92
  go_wp2
  go_loopg [8] k (fun kq v8 w' => ∃ (x8_1 : Int), v8 = .int .i64 x8_1 ∧ Aside0 (slices_IndexFunc_int_at_impl_areCells_1.l0 kq l0 (l0.length : Int) x8_1 = some r) ∧ Aside0 (kq ≤ k) ∧ Drawn0 w w')
  case atStart => exact ⟨(0), (by first | rfl | (simp; done) | (simp [*]; done)), H', ⟨Nat.le_refl _⟩, by repeat (first | exact Drawn0.refl _ | apply Drawn0.step)⟩
  case round =>
    clear H'
    try clear p2
    obtain ⟨x8_1, rfl, HA, HK1, ⟨m1, rfl⟩⟩ := hrel
    cases gk with
    | zero => exact absurd HA.out (by simp [slices_IndexFunc_int_at_impl_areCells_1.l0])
    | succ k1 =>
      have H := HA.out
      clear HA
      simp only [slices_IndexFunc_int_at_impl_areCells_1.l0] at H
      by_cases c3 : x8_1 < (l0.length : Int)
      · rw [if_pos c3] at H
        have c3b0 : decide (x8_1 < (l0.length : Int)) = true := decide_eq_true c3
        clear c3
        by_cases c4 : 0 ≤ x8_1
        · rw [if_pos c4] at H
          have c4b0 : decide (0 ≤ x8_1) = true := decide_eq_true c4
          clear c4
          by_cases c5 : x8_1 < (l0.length : Int)
          · rw [if_pos c5] at H
            have c5b0 : decide (x8_1 < (l0.length : Int)) = true := decide_eq_true c5
            clear c5
            replace H := Option.bind_eq_some_iff.mp H
            obtain ⟨t226, A60, H⟩ := H
            replace H : (if t226 = true then (some x8_1) else (slices_IndexFunc_int_at_impl_areCells_1.l0 k1 l0 (l0.length : Int) (wrap64 (x8_1 + 1)))) = some r := H
            have A6 := Aside0.mk A60
            clear A60
            by_cases c7 : t226 = true
            · subst c7
              have H1 : (some x8_1) = some r := by rw [if_pos rfl] at H; first | done | exact H
              clear H
              have H := H1
              clear H1
              obtain rfl := Option.some.inj H
              have p225 : 0 ≤ (x8_1 : Int) := of_decide_eq_true (by first | (with_reducible assumption) | assumption)
              have q225 : x8_1 < (l0.length : Int) := of_decide_eq_true (by first | (with_reducible assumption) | assumption)
              obtain ⟨ad225, e225, hx225_0⟩ := Kd.at_int HR0.out x8_1 p225 q225
              cases e225
              replace p225 := eq_true p225
              replace q225 := eq_true q225
              go_wp2_with (first | ((with_reducible refine Go.Proofs.YtcelnpmahnblpaaO.gate_tmp (t := 11) rfl ?_); refine Go.Proofs.YtcelnpmahnblpaaO.goesT_ (some 16) rfl rfl (.tmp 11) rfl Try.func82 (by kernel_rfl) rfl #[.int .i64 (rd l0 x8_1)] rfl (by (try simp only [List.map_toArray, List.map_cons, List.map_nil]); first | done | rfl | (simp only [List.length_drop, List.length_take]; rfl)) ?_; (with_reducible refine (impl_areCells_1.calls (rd l0 x8_1) true _ A6.out).mono ?_); rintro e w' ⟨rfl, ⟨nd, rfl⟩⟩; refine ⟨_, rfl, ?_⟩))
              go_ret
              exact ⟨by first | rfl | (simp; done) | (simp [*]; done), by repeat (first | exact Drawn0.refl _ | apply Drawn0.step)⟩
            · replace c7 := Bool.eq_false_iff.mpr c7
              subst c7
              have H1 : (slices_IndexFunc_int_at_impl_areCells_1.l0 k1 l0 (l0.length : Int) (wrap64 (x8_1 + 1))) = some r := by rw [if_neg (show ¬ (false = true) by decide)] at H; first | done | exact H
              clear H
              have H := H1
              clear H1
              have H' := Aside0.mk H
              clear H
              have p225 : 0 ≤ (x8_1 : Int) := of_decide_eq_true (by first | (with_reducible assumption) | assumption)
              have q225 : x8_1 < (l0.length : Int) := of_decide_eq_true (by first | (with_reducible assumption) | assumption)
              obtain ⟨ad225, e225, hx225_0⟩ := Kd.at_int HR0.out x8_1 p225 q225
              cases e225
              replace p225 := eq_true p225
              replace q225 := eq_true q225
              go_wp2_with (first | ((with_reducible refine Go.Proofs.YtcelnpmahnblpaaO.gate_tmp (t := 11) rfl ?_); refine Go.Proofs.YtcelnpmahnblpaaO.goesT_ (some 16) rfl rfl (.tmp 11) rfl Try.func82 (by kernel_rfl) rfl #[.int .i64 (rd l0 x8_1)] rfl (by (try simp only [List.map_toArray, List.map_cons, List.map_nil]); first | done | rfl | (simp only [List.length_drop, List.length_take]; rfl)) ?_; (with_reducible refine (impl_areCells_1.calls (rd l0 x8_1) false _ A6.out).mono ?_); rintro e w' ⟨rfl, ⟨nd, rfl⟩⟩; refine ⟨_, rfl, ?_⟩))
              go_roundg k1
              case measure => have := HK1.out; omega
              case rel => exact ⟨(wrap64 (x8_1 + 1)), (by first | rfl | (simp; done) | (simp [*]; done)), H', ⟨by have := HK1.out; omega⟩, by repeat (first | exact Drawn0.refl _ | apply Drawn0.step)⟩
          · rw [if_neg c5] at H
            exact absurd H (by simp)
        · rw [if_neg c4] at H
          exact absurd H (by simp)
      · rw [if_neg c3] at H
        have c3b0 : decide (x8_1 < (l0.length : Int)) = false := decide_eq_false c3
        clear c3
        obtain rfl := Option.some.inj H
        go_wp2
        go_ret
        exact ⟨by first | rfl | (simp; done) | (simp [*]; done), by repeat (first | exact Drawn0.refl _ | apply Drawn0.step)⟩

/-! ### slices_ContainsFunc_int_at_impl_areCells_1: function 113 -/
def slices_ContainsFunc_int_at_impl_areCells_1.f (k : Nat) (l0 : List Int)  : Option (Bool) := (slices_IndexFunc_int_at_impl_areCells_1.f k l0).bind fun t227 => (some (decide (t227 ≥ 0)))
theorem slices_ContainsFunc_int_at_impl_areCells_1.mono : ∀ a0 k, LeO (slices_ContainsFunc_int_at_impl_areCells_1.f k a0) (slices_ContainsFunc_int_at_impl_areCells_1.f (k + 1) a0) := by
  intro a0 k
  unfold slices_ContainsFunc_int_at_impl_areCells_1.f
  repeat' first
      | (with_reducible exact slices_IndexFunc_int_at_impl_areCells_1.mono _ _)
      | (with_reducible exact LeO.refl _)
      | (with_reducible exact LeO.none _)
      | (with_reducible refine LeO.ite ?_ ?_)
      | (with_reducible refine LeO.bind ?_ (fun _ => ?_))
      | exact slices_IndexFunc_int_at_impl_areCells_1.mono _ _
      | exact LeO.none _
      | refine LeO.ite ?_ ?_
      | refine LeO.bind ?_ (fun _ => ?_)
set_option maxHeartbeats 8000000 in
set_option maxRecDepth 100000 in
theorem slices_ContainsFunc_int_at_impl_areCells_1.calls (k : Nat) (A0 : Option Addr) (c0 : Nat) (l0 : List Int)  (r : Bool) (w : World) (hr0 : Kd.C (Kd.int .i64) w A0 l0.length l0) (hc0 : l0.length ≤ c0) (h : slices_ContainsFunc_int_at_impl_areCells_1.f k l0 = some r) :
    Calls Try.prog 81 #[.slice A0 l0.length c0, .func (.func 82) #[] #[]] w fun e w' => e = .returned (.bool r) ∧ Drawn0 w w' := by
  have HR0 := Aside0.mk hr0
  have HC0 := Aside0.mk hc0
  clear hr0 hc0
  have H : ((slices_IndexFunc_int_at_impl_areCells_1.f k l0).bind fun t227 => (some (decide (t227 ≥ 0)))) = some r := h
  clear h
  replace H := Option.bind_eq_some_iff.mp H
  obtain ⟨t227, A30, H⟩ := H
  replace H : (some (decide (t227 ≥ 0))) = some r := H
  have A3 := Aside0.mk A30
  clear A30
  obtain rfl := Option.some.inj H
  go_enter Try.func81, Try.ntmps81
  go_wp2_with (first | ((with_reducible refine gate_callee (f := 92) rfl ?_); refine goesL_ (some 7) rfl rfl Try.func92 (by kernel_rfl) rfl #[.slice A0 l0.length c0, .func (.func 82) #[] #[]] rfl (by (try simp only [List.map_toArray, List.map_cons, List.map_nil]); first | done | rfl | (simp only [List.length_drop, List.length_take]; rfl)) ?_; (with_reducible refine (slices_IndexFunc_int_at_impl_areCells_1.calls k _ _ l0  t227 _ ?side1 ?side2 A3.out).mono ?_); (case side1 => repeat (first | exact HR0.out | (with_reducible refine Kd.C_alloc ?_ _) | (with_reducible refine Kd.C_drewN ?_ _) | (with_reducible refine Kd.C_drew ?_))); (case side2 => exact HC0.out); rintro e w' ⟨rfl, ⟨nd, rfl⟩⟩; refine ⟨_, rfl, ?_⟩))
  go_ret
  exact ⟨by first | rfl | (simp; done) | (simp [*]; done), by repeat (first | exact Drawn0.refl _ | apply Drawn0.step)⟩

/-! ### impl_areCells: function 48 -/
def impl_areCells.f (k : Nat) (l0 : List Int) (a1 : Int) : Option (Bool) := if (l0.length : Int) ≤ a1 then ((slices_ContainsFunc_int_at_impl_areCells_1.f k l0).bind fun t228 => (some (!t228))) else (some false)
theorem impl_areCells.mono : ∀ a0 a1 k, LeO (impl_areCells.f k a0 a1) (impl_areCells.f (k + 1) a0 a1) := by
  intro a0 a1 k
  unfold impl_areCells.f
  repeat' first
      | (with_reducible exact slices_ContainsFunc_int_at_impl_areCells_1.mono _ _)
      | (with_reducible exact LeO.refl _)
      | (with_reducible exact LeO.none _)
      | (with_reducible refine LeO.ite ?_ ?_)
      | (with_reducible refine LeO.bind ?_ (fun _ => ?_))
      | exact slices_ContainsFunc_int_at_impl_areCells_1.mono _ _
      | exact LeO.none _
      | refine LeO.ite ?_ ?_
      | refine LeO.bind ?_ (fun _ => ?_)
set_option maxHeartbeats 8000000 in
set_option maxRecDepth 100000 in
theorem impl_areCells.calls (k : Nat) (A0 : Option Addr) (c0 : Nat) (l0 : List Int) (a1 : Int) (r : Bool) (w : World) (hr0 : Kd.C (Kd.int .i64) w A0 l0.length l0) (hc0 : l0.length ≤ c0) (h : impl_areCells.f k l0 a1 = some r) :
    Calls Try.prog 48 #[.slice A0 l0.length c0, .int .i64 a1] w fun e w' => e = .returned (.bool r) ∧ Drawn0 w w' := by
  have HR0 := Aside0.mk hr0
  have HC0 := Aside0.mk hc0
  clear hr0 hc0
  have H : (if (l0.length : Int) ≤ a1 then ((slices_ContainsFunc_int_at_impl_areCells_1.f k l0).bind fun t228 => (some (!t228))) else (some false)) = some r := h
  clear h
  by_cases c3 : (l0.length : Int) ≤ a1
  · rw [if_pos c3] at H
    have c3b0 : decide ((l0.length : Int) ≤ a1) = true := decide_eq_true c3
    clear c3
    replace H := Option.bind_eq_some_iff.mp H
    obtain ⟨t228, A40, H⟩ := H
    replace H : (some (!t228)) = some r := H
    have A4 := Aside0.mk A40
    clear A40
    obtain rfl := Option.some.inj H
    go_enter Try.func48, Try.ntmps48
    go_wp2_with (first | (go_at_call 81; (with_reducible refine (slices_ContainsFunc_int_at_impl_areCells_1.calls k _ _ l0  t228 _ ?side1 ?side2 A4.out).mono ?_); (case side1 => repeat (first | exact HR0.out | (with_reducible refine Kd.C_alloc ?_ _) | (with_reducible refine Kd.C_drewN ?_ _) | (with_reducible refine Kd.C_drew ?_))); (case side2 => exact HC0.out); rintro e w' ⟨rfl, ⟨nd, rfl⟩⟩))
    go_ret
    exact ⟨by first | rfl | (simp; done) | (simp [*]; done), by repeat (first | exact Drawn0.refl _ | apply Drawn0.step)⟩
  · rw [if_neg c3] at H
    have c3b0 : decide ((l0.length : Int) ≤ a1) = false := decide_eq_false c3
    clear c3
    obtain rfl := Option.some.inj H
    go_enter Try.func48, Try.ntmps48
    go_wp2
    go_ret
    exact ⟨by first | rfl | (simp; done) | (simp [*]; done), by repeat (first | exact Drawn0.refl _ | apply Drawn0.step)⟩

/-! ### impl_in: function 49 -/
def impl_in.f (a0 : Int) (a1 : Int) (a2 : Int) : Option (Bool) := if a1 ≤ a0 then (some (decide (a0 ≤ a2))) else (some false)
set_option maxHeartbeats 8000000 in
set_option maxRecDepth 100000 in
theorem impl_in.calls (a0 : Int) (a1 : Int) (a2 : Int) (r : Bool) (w : World) (h : impl_in.f a0 a1 a2 = some r) :
    Calls Try.prog 49 #[.int .i64 a0, .int .i64 a1, .int .i64 a2] w fun e w' => e = .returned (.bool r) ∧ Drawn0 w w' := by
  have H : (if a1 ≤ a0 then (some (decide (a0 ≤ a2))) else (some false)) = some r := h
  clear h
  by_cases c4 : a1 ≤ a0
  · rw [if_pos c4] at H
    have c4b0 : decide (a1 ≤ a0) = true := decide_eq_true c4
    clear c4
    obtain rfl := Option.some.inj H
    go_enter Try.func49, Try.ntmps49
    go_wp2
    go_ret
    exact ⟨by first | rfl | (simp; done) | (simp [*]; done), by repeat (first | exact Drawn0.refl _ | apply Drawn0.step)⟩
  · rw [if_neg c4] at H
    have c4b0 : decide (a1 ≤ a0) = false := decide_eq_false c4
    clear c4
    obtain rfl := Option.some.inj H
    go_enter Try.func49, Try.ntmps49
    go_wp2
    go_ret
    exact ⟨by first | rfl | (simp; done) | (simp [*]; done), by repeat (first | exact Drawn0.refl _ | apply Drawn0.step)⟩

/-! ### impl_isBase: function 50 -/
def impl_isBase.f (a0 : Int) : Option (Bool) := (impl_in.f a0 2 16).bind fun t229 => (some t229)
set_option maxHeartbeats 8000000 in
set_option maxRecDepth 100000 in
theorem impl_isBase.calls (a0 : Int) (r : Bool) (w : World) (h : impl_isBase.f a0 = some r) :
    Calls Try.prog 50 #[.int .i64 a0] w fun e w' => e = .returned (.bool r) ∧ Drawn0 w w' := by
  have H : ((impl_in.f a0 2 16).bind fun t229 => (some t229)) = some r := h
  clear h
  replace H := Option.bind_eq_some_iff.mp H
  obtain ⟨t229, A20, H⟩ := H
  replace H : (some t229) = some r := H
  have A2 := Aside0.mk A20
  clear A20
  obtain rfl := Option.some.inj H
  go_enter Try.func50, Try.ntmps50
  go_wp2_with (first | ((with_reducible refine gate_callee (f := 49) rfl ?_); refine goesL_ (some 4) rfl rfl Try.func49 (by kernel_rfl) rfl #[.int .i64 a0, .int .i64 2, .int .i64 16] rfl (by (try simp only [List.map_toArray, List.map_cons, List.map_nil]); first | done | rfl | (simp only [List.length_drop, List.length_take]; rfl)) ?_; (with_reducible refine (impl_in.calls a0 2 16 t229 _ A2.out).mono ?_); rintro e w' ⟨rfl, ⟨nd, rfl⟩⟩; refine ⟨_, rfl, ?_⟩))
  go_ret
  exact ⟨by first | rfl | (simp; done) | (simp [*]; done), by repeat (first | exact Drawn0.refl _ | apply Drawn0.step)⟩

/-! ### impl_DataOK: function 22 -/
def impl_DataOK.f (k : Nat) (l0_0 : List Int) (l0_1 : List Int) (l0_2 : List Int) (a0_3 : Int) (a0_4 : Int) (a0_5 : ByteArray) : Option (Bool) := (impl_areCells.f k l0_0 32).bind fun t231 => (if t231 = true then ((impl_areCells.f k l0_1 32).bind fun t232 => (if t232 = true then ((impl_areCells.f k l0_2 32).bind fun t233 => (if t233 = true then (if (l0_2.length : Int) = 32 then ((impl_in.f a0_3 0 32).bind fun t234 => (if t234 = true then ((impl_isBase.f a0_4).bind fun t235 => (if t235 = true then (some (decide ((a0_5.size : Int) ≤ 300))) else (some false))) else (some false))) else (some false)) else (some false))) else (some false))) else (some false))
theorem impl_DataOK.mono : ∀ a0 a1 a2 a3 a4 a5 k, LeO (impl_DataOK.f k a0 a1 a2 a3 a4 a5) (impl_DataOK.f (k + 1) a0 a1 a2 a3 a4 a5) := by
  intro a0 a1 a2 a3 a4 a5 k
  unfold impl_DataOK.f
  repeat' first
      | (with_reducible exact impl_areCells.mono _ _ _)
      | (with_reducible exact LeO.refl _)
      | (with_reducible exact LeO.none _)
      | (with_reducible refine LeO.ite ?_ ?_)
      | (with_reducible refine LeO.bind ?_ (fun _ => ?_))
      | exact impl_areCells.mono _ _ _
      | exact LeO.none _
      | refine LeO.ite ?_ ?_
      | refine LeO.bind ?_ (fun _ => ?_)
set_option maxHeartbeats 8000000 in
set_option maxRecDepth 100000 in
theorem impl_DataOK.calls (k : Nat) (A0_0 : Option Addr) (c0_0 : Nat) (l0_0 : List Int) (A0_1 : Option Addr) (c0_1 : Nat) (l0_1 : List Int) (A0_2 : Option Addr) (c0_2 : Nat) (l0_2 : List Int) (a0_3 : Int) (a0_4 : Int) (a0_5 : ByteArray) (r : Bool) (w : World) (hr0_0 : Kd.C (Kd.int .i64) w A0_0 l0_0.length l0_0) (hc0_0 : l0_0.length ≤ c0_0) (hr0_1 : Kd.C (Kd.int .i64) w A0_1 l0_1.length l0_1) (hc0_1 : l0_1.length ≤ c0_1) (hr0_2 : Kd.C (Kd.int .i64) w A0_2 l0_2.length l0_2) (hc0_2 : l0_2.length ≤ c0_2) (h : impl_DataOK.f k l0_0 l0_1 l0_2 a0_3 a0_4 a0_5 = some r) :
    Calls Try.prog 22 #[.agg #[.slice A0_0 l0_0.length c0_0, .slice A0_1 l0_1.length c0_1, .slice A0_2 l0_2.length c0_2, .int .i64 a0_3, .int .i64 a0_4, .string a0_5]] w fun e w' => e = .returned (.bool r) ∧ Below w.heap.size w w' := by
  have hu24 := Try.underlying24
  have HR0_0 := Aside0.mk hr0_0
  have HC0_0 := Aside0.mk hc0_0
  clear hr0_0 hc0_0
  have HR0_1 := Aside0.mk hr0_1
  have HC0_1 := Aside0.mk hc0_1
  clear hr0_1 hc0_1
  have HR0_2 := Aside0.mk hr0_2
  have HC0_2 := Aside0.mk hc0_2
  clear hr0_2 hc0_2
  have HB := Aside0.mk (Below.refl w.heap.size w)
  have H : ((impl_areCells.f k l0_0 32).bind fun t231 => (if t231 = true then ((impl_areCells.f k l0_1 32).bind fun t232 => (if t232 = true then ((impl_areCells.f k l0_2 32).bind fun t233 => (if t233 = true then (if (l0_2.length : Int) = 32 then ((impl_in.f a0_3 0 32).bind fun t234 => (if t234 = true then ((impl_isBase.f a0_4).bind fun t235 => (if t235 = true then (some (decide ((a0_5.size : Int) ≤ 300))) else (some false))) else (some false))) else (some false)) else (some false))) else (some false))) else (some false))) = some r := h
  clear h
  replace H := Option.bind_eq_some_iff.mp H
  obtain ⟨t231, A20, H⟩ := H
  replace H : (if t231 = true then ((impl_areCells.f k l0_1 32).bind fun t232 => (if t232 = true then ((impl_areCells.f k l0_2 32).bind fun t233 => (if t233 = true then (if (l0_2.length : Int) = 32 then ((impl_in.f a0_3 0 32).bind fun t234 => (if t234 = true then ((impl_isBase.f a0_4).bind fun t235 => (if t235 = true then (some (decide ((a0_5.size : Int) ≤ 300))) else (some false))) else (some false))) else (some false)) else (some false))) else (some false))) else (some false)) = some r := H
  have A2 := Aside0.mk A20
  clear A20
  by_cases c3 : t231 = true
  · subst c3
    have H1 : ((impl_areCells.f k l0_1 32).bind fun t232 => (if t232 = true then ((impl_areCells.f k l0_2 32).bind fun t233 => (if t233 = true then (if (l0_2.length : Int) = 32 then ((impl_in.f a0_3 0 32).bind fun t234 => (if t234 = true then ((impl_isBase.f a0_4).bind fun t235 => (if t235 = true then (some (decide ((a0_5.size : Int) ≤ 300))) else (some false))) else (some false))) else (some false)) else (some false))) else (some false))) = some r := by rw [if_pos rfl] at H; first | done | exact H
    clear H
    have H := H1
    clear H1
    replace H := Option.bind_eq_some_iff.mp H
    obtain ⟨t232, A40, H⟩ := H
    replace H : (if t232 = true then ((impl_areCells.f k l0_2 32).bind fun t233 => (if t233 = true then (if (l0_2.length : Int) = 32 then ((impl_in.f a0_3 0 32).bind fun t234 => (if t234 = true then ((impl_isBase.f a0_4).bind fun t235 => (if t235 = true then (some (decide ((a0_5.size : Int) ≤ 300))) else (some false))) else (some false))) else (some false)) else (some false))) else (some false)) = some r := H
    have A4 := Aside0.mk A40
    clear A40
    by_cases c5 : t232 = true
    · subst c5
      have H1 : ((impl_areCells.f k l0_2 32).bind fun t233 => (if t233 = true then (if (l0_2.length : Int) = 32 then ((impl_in.f a0_3 0 32).bind fun t234 => (if t234 = true then ((impl_isBase.f a0_4).bind fun t235 => (if t235 = true then (some (decide ((a0_5.size : Int) ≤ 300))) else (some false))) else (some false))) else (some false)) else (some false))) = some r := by rw [if_pos rfl] at H; first | done | exact H
      clear H
      have H := H1
      clear H1
      replace H := Option.bind_eq_some_iff.mp H
      obtain ⟨t233, A60, H⟩ := H
      replace H : (if t233 = true then (if (l0_2.length : Int) = 32 then ((impl_in.f a0_3 0 32).bind fun t234 => (if t234 = true then ((impl_isBase.f a0_4).bind fun t235 => (if t235 = true then (some (decide ((a0_5.size : Int) ≤ 300))) else (some false))) else (some false))) else (some false)) else (some false)) = some r := H
      have A6 := Aside0.mk A60
      clear A60
      by_cases c7 : t233 = true
      · subst c7
        have H1 : (if (l0_2.length : Int) = 32 then ((impl_in.f a0_3 0 32).bind fun t234 => (if t234 = true then ((impl_isBase.f a0_4).bind fun t235 => (if t235 = true then (some (decide ((a0_5.size : Int) ≤ 300))) else (some false))) else (some false))) else (some false)) = some r := by rw [if_pos rfl] at H; first | done | exact H
        clear H
        have H := H1
        clear H1
        by_cases c8 : (l0_2.length : Int) = 32
        · rw [if_pos c8] at H
          have c8b0 : ((l0_2.length : Int) == 32) = true := beq_iff_eq.mpr c8
          have c8b1 : ((l0_2.length : Int) != 32) = false := bne_eq_false_iff_eq.mpr c8
          clear c8
          replace H := Option.bind_eq_some_iff.mp H
          obtain ⟨t234, A90, H⟩ := H
          replace H : (if t234 = true then ((impl_isBase.f a0_4).bind fun t235 => (if t235 = true then (some (decide ((a0_5.size : Int) ≤ 300))) else (some false))) else (some false)) = some r := H
          have A9 := Aside0.mk A90
          clear A90
          by_cases c10 : t234 = true
          · subst c10
            have H1 : ((impl_isBase.f a0_4).bind fun t235 => (if t235 = true then (some (decide ((a0_5.size : Int) ≤ 300))) else (some false))) = some r := by rw [if_pos rfl] at H; first | done | exact H
            clear H
            have H := H1
            clear H1
            replace H := Option.bind_eq_some_iff.mp H
            obtain ⟨t235, A110, H⟩ := H
            replace H : (if t235 = true then (some (decide ((a0_5.size : Int) ≤ 300))) else (some false)) = some r := H
            have A11 := Aside0.mk A110
            clear A110
            by_cases c12 : t235 = true
            · subst c12
              have H1 : (some (decide ((a0_5.size : Int) ≤ 300))) = some r := by rw [if_pos rfl] at H; first | done | exact H
              clear H
              have H := H1
              clear H1
              obtain rfl := Option.some.inj H
              go_enter Try.func22, Try.ntmps22
              go_wp2_with (first | ((with_reducible refine gate_dst (N := 1) rfl ?_); (try (refine gate_guard (by rfl) ?_; dsimp only)); refine box_event ?hg (N := 1) ?hd (cs := #[.slice A0_0 l0_0.length c0_0, .slice A0_1 l0_1.length c0_1, .slice A0_2 l0_2.length c0_2, .int .i64 a0_3, .int .i64 a0_4, .string a0_5]) (t := 24) ?hr ?_; (case hd => rfl); (case hg => rfl); (case hr => first | (go_simp; done) | (go_simp; rfl)); intro gb230 hg w13 hbox hb; have n0_ := Aside0.mk (below_step (by repeat (first | (with_reducible first | exact HB.out | apply below_alloc | apply pw_below_drewN | apply below_drew1) | exact HB.out)) hb); have n1_ := Aside0.mk (hbox); have n2_ := Aside0.mk ((by rw [hg]; exact (below_size (by repeat (first | (with_reducible first | exact HB.out | apply below_alloc | apply pw_below_drewN | apply below_drew1) | exact HB.out))) : w.heap.size ≤ gb230)); have n3_ := Aside0.mk ((by rw [hg]; exact (below_size (by repeat (first | (with_reducible first | exact HB.out | apply below_alloc | apply pw_below_drewN | apply below_drew1) | exact HB.out))) : w.heap.size ≤ gb230)); clear HB; have HB := n0_; have BK230 := n1_; have GW230 := n2_; have GE230 := n3_; clear n0_ n1_ n2_ n3_; clear hb hbox hg; have hcz14_0 : w13.cell? ⟨gb230, 0, none⟩ = some (.slice A0_0 l0_0.length c0_0) := (blk_cell BK230.out 0).trans rfl; have hcz14_1 : w13.cell? ⟨gb230, 1, none⟩ = some (.slice A0_1 l0_1.length c0_1) := (blk_cell BK230.out 1).trans rfl; have hcz14_2 : w13.cell? ⟨gb230, 2, none⟩ = some (.slice A0_2 l0_2.length c0_2) := (blk_cell BK230.out 2).trans rfl; have hcz14_3 : w13.cell? ⟨gb230, 3, none⟩ = some (.int .i64 a0_3) := (blk_cell BK230.out 3).trans rfl; have hcz14_4 : w13.cell? ⟨gb230, 4, none⟩ = some (.int .i64 a0_4) := (blk_cell BK230.out 4).trans rfl; have hcz14_5 : w13.cell? ⟨gb230, 5, none⟩ = some (.string a0_5) := (blk_cell BK230.out 5).trans rfl; have hfz14_0 := blk_frozen BK230.out 0; have hfz14_1 := blk_frozen BK230.out 1; have hfz14_2 := blk_frozen BK230.out 2; have hfz14_3 := blk_frozen BK230.out 3; have hfz14_4 := blk_frozen BK230.out 4; have hfz14_5 := blk_frozen BK230.out 5) | ((with_reducible refine gate_callee (f := 48) rfl ?_); refine goesL_ (some 5) rfl rfl Try.func48 (by kernel_rfl) rfl #[.slice A0_0 l0_0.length c0_0, .int .i64 32] rfl (by (try simp only [List.map_toArray, List.map_cons, List.map_nil]); first | done | rfl | (simp only [List.length_drop, List.length_take]; rfl)) ?_; (with_reducible refine (impl_areCells.calls k _ _ l0_0 32 true _ ?side1 ?side2 A2.out).mono ?_); (case side1 => repeat (first | exact (Kd.C_below HR0_0.out HB.out) | (with_reducible refine Kd.C_alloc ?_ _) | (with_reducible refine Kd.C_drewN ?_ _) | (with_reducible refine Kd.C_drew ?_))); (case side2 => exact HC0_0.out); rintro e w' ⟨rfl, ⟨nd, rfl⟩⟩; refine ⟨_, rfl, ?_⟩) | (go_at_call 48; (with_reducible refine (impl_areCells.calls k _ _ l0_1 32 true _ ?side1 ?side2 A4.out).mono ?_); (case side1 => repeat (first | exact (Kd.C_below HR0_1.out (by repeat (first | (with_reducible first | exact HB.out | apply below_alloc | apply pw_below_drewN | apply below_drew1 | refine below_set ?_ GE230.out) | exact HB.out))) | (with_reducible refine Kd.C_alloc ?_ _) | (with_reducible refine Kd.C_drewN ?_ _) | (with_reducible refine Kd.C_drew ?_))); (case side2 => exact HC0_1.out); rintro e w' ⟨rfl, ⟨nd, rfl⟩⟩) | (go_at_call 48; (with_reducible refine (impl_areCells.calls k _ _ l0_2 32 true _ ?side1 ?side2 A6.out).mono ?_); (case side1 => repeat (first | exact (Kd.C_below HR0_2.out (by repeat (first | (with_reducible first | exact HB.out | apply below_alloc | apply pw_below_drewN | apply below_drew1 | refine below_set ?_ GE230.out) | exact HB.out))) | (with_reducible refine Kd.C_alloc ?_ _) | (with_reducible refine Kd.C_drewN ?_ _) | (with_reducible refine Kd.C_drew ?_))); (case side2 => exact HC0_2.out); rintro e w' ⟨rfl, ⟨nd, rfl⟩⟩) | (go_at_call 49; (with_reducible refine (impl_in.calls a0_3 0 32 true _ A9.out).mono ?_); rintro e w' ⟨rfl, ⟨nd, rfl⟩⟩) | (go_at_call 50; (with_reducible refine (impl_isBase.calls a0_4 true _ A11.out).mono ?_); rintro e w' ⟨rfl, ⟨nd, rfl⟩⟩))
              go_ret
              exact ⟨by first | rfl | (simp [errW_none, errW_some] <;> rfl) | (simp [*, errW_none, errW_some] <;> rfl), by repeat (first | (with_reducible first | exact HB.out | apply below_alloc | apply pw_below_drewN | apply below_drew1 | refine below_set ?_ GE230.out) | exact HB.out)⟩
            · replace c12 := Bool.eq_false_iff.mpr c12
              subst c12
              have H1 : (some false) = some r := by rw [if_neg (show ¬ (false = true) by decide)] at H; first | done | exact H
              clear H
              have H := H1
              clear H1
              obtain rfl := Option.some.inj H
              go_enter Try.func22, Try.ntmps22
              go_wp2_with (first | ((with_reducible refine gate_dst (N := 1) rfl ?_); (try (refine gate_guard (by rfl) ?_; dsimp only)); refine box_event ?hg (N := 1) ?hd (cs := #[.slice A0_0 l0_0.length c0_0, .slice A0_1 l0_1.length c0_1, .slice A0_2 l0_2.length c0_2, .int .i64 a0_3, .int .i64 a0_4, .string a0_5]) (t := 24) ?hr ?_; (case hd => rfl); (case hg => rfl); (case hr => first | (go_simp; done) | (go_simp; rfl)); intro gb230 hg w15 hbox hb; have n0_ := Aside0.mk (below_step (by repeat (first | (with_reducible first | exact HB.out | apply below_alloc | apply pw_below_drewN | apply below_drew1) | exact HB.out)) hb); have n1_ := Aside0.mk (hbox); have n2_ := Aside0.mk ((by rw [hg]; exact (below_size (by repeat (first | (with_reducible first | exact HB.out | apply below_alloc | apply pw_below_drewN | apply below_drew1) | exact HB.out))) : w.heap.size ≤ gb230)); have n3_ := Aside0.mk ((by rw [hg]; exact (below_size (by repeat (first | (with_reducible first | exact HB.out | apply below_alloc | apply pw_below_drewN | apply below_drew1) | exact HB.out))) : w.heap.size ≤ gb230)); clear HB; have HB := n0_; have BK230 := n1_; have GW230 := n2_; have GE230 := n3_; clear n0_ n1_ n2_ n3_; clear hb hbox hg; have hcz16_0 : w15.cell? ⟨gb230, 0, none⟩ = some (.slice A0_0 l0_0.length c0_0) := (blk_cell BK230.out 0).trans rfl; have hcz16_1 : w15.cell? ⟨gb230, 1, none⟩ = some (.slice A0_1 l0_1.length c0_1) := (blk_cell BK230.out 1).trans rfl; have hcz16_2 : w15.cell? ⟨gb230, 2, none⟩ = some (.slice A0_2 l0_2.length c0_2) := (blk_cell BK230.out 2).trans rfl; have hcz16_3 : w15.cell? ⟨gb230, 3, none⟩ = some (.int .i64 a0_3) := (blk_cell BK230.out 3).trans rfl; have hcz16_4 : w15.cell? ⟨gb230, 4, none⟩ = some (.int .i64 a0_4) := (blk_cell BK230.out 4).trans rfl; have hcz16_5 : w15.cell? ⟨gb230, 5, none⟩ = some (.string a0_5) := (blk_cell BK230.out 5).trans rfl; have hfz16_0 := blk_frozen BK230.out 0; have hfz16_1 := blk_frozen BK230.out 1; have hfz16_2 := blk_frozen BK230.out 2; have hfz16_3 := blk_frozen BK230.out 3; have hfz16_4 := blk_frozen BK230.out 4; have hfz16_5 := blk_frozen BK230.out 5) | ((with_reducible refine gate_callee (f := 48) rfl ?_); refine goesL_ (some 5) rfl rfl Try.func48 (by kernel_rfl) rfl #[.slice A0_0 l0_0.length c0_0, .int .i64 32] rfl (by (try simp only [List.map_toArray, List.map_cons, List.map_nil]); first | done | rfl | (simp only [List.length_drop, List.length_take]; rfl)) ?_; (with_reducible refine (impl_areCells.calls k _ _ l0_0 32 true _ ?side1 ?side2 A2.out).mono ?_); (case side1 => repeat (first | exact (Kd.C_below HR0_0.out HB.out) | (with_reducible refine Kd.C_alloc ?_ _) | (with_reducible refine Kd.C_drewN ?_ _) | (with_reducible refine Kd.C_drew ?_))); (case side2 => exact HC0_0.out); rintro e w' ⟨rfl, ⟨nd, rfl⟩⟩; refine ⟨_, rfl, ?_⟩) | (go_at_call 48; (with_reducible refine (impl_areCells.calls k _ _ l0_1 32 true _ ?side1 ?side2 A4.out).mono ?_); (case side1 => repeat (first | exact (Kd.C_below HR0_1.out (by repeat (first | (with_reducible first | exact HB.out | apply below_alloc | apply pw_below_drewN | apply below_drew1 | refine below_set ?_ GE230.out) | exact HB.out))) | (with_reducible refine Kd.C_alloc ?_ _) | (with_reducible refine Kd.C_drewN ?_ _) | (with_reducible refine Kd.C_drew ?_))); (case side2 => exact HC0_1.out); rintro e w' ⟨rfl, ⟨nd, rfl⟩⟩) | (go_at_call 48; (with_reducible refine (impl_areCells.calls k _ _ l0_2 32 true _ ?side1 ?side2 A6.out).mono ?_); (case side1 => repeat (first | exact (Kd.C_below HR0_2.out (by repeat (first | (with_reducible first | exact HB.out | apply below_alloc | apply pw_below_drewN | apply below_drew1 | refine below_set ?_ GE230.out) | exact HB.out))) | (with_reducible refine Kd.C_alloc ?_ _) | (with_reducible refine Kd.C_drewN ?_ _) | (with_reducible refine Kd.C_drew ?_))); (case side2 => exact HC0_2.out); rintro e w' ⟨rfl, ⟨nd, rfl⟩⟩) | (go_at_call 49; (with_reducible refine (impl_in.calls a0_3 0 32 true _ A9.out).mono ?_); rintro e w' ⟨rfl, ⟨nd, rfl⟩⟩) | (go_at_call 50; (with_reducible refine (impl_isBase.calls a0_4 false _ A11.out).mono ?_); rintro e w' ⟨rfl, ⟨nd, rfl⟩⟩))
              go_ret
              exact ⟨by first | rfl | (simp [errW_none, errW_some] <;> rfl) | (simp [*, errW_none, errW_some] <;> rfl), by repeat (first | (with_reducible first | exact HB.out | apply below_alloc | apply pw_below_drewN | apply below_drew1) | exact HB.out)⟩
          · replace c10 := Bool.eq_false_iff.mpr c10
            subst c10
            have H1 : (some false) = some r := by rw [if_neg (show ¬ (false = true) by decide)] at H; first | done | exact H
            clear H
            have H := H1
            clear H1
            obtain rfl := Option.some.inj H
            go_enter Try.func22, Try.ntmps22
            go_wp2_with (first | ((with_reducible refine gate_dst (N := 1) rfl ?_); (try (refine gate_guard (by rfl) ?_; dsimp only)); refine box_event ?hg (N := 1) ?hd (cs := #[.slice A0_0 l0_0.length c0_0, .slice A0_1 l0_1.length c0_1, .slice A0_2 l0_2.length c0_2, .int .i64 a0_3, .int .i64 a0_4, .string a0_5]) (t := 24) ?hr ?_; (case hd => rfl); (case hg => rfl); (case hr => first | (go_simp; done) | (go_simp; rfl)); intro gb230 hg w17 hbox hb; have n0_ := Aside0.mk (below_step (by repeat (first | (with_reducible first | exact HB.out | apply below_alloc | apply pw_below_drewN | apply below_drew1) | exact HB.out)) hb); have n1_ := Aside0.mk (hbox); have n2_ := Aside0.mk ((by rw [hg]; exact (below_size (by repeat (first | (with_reducible first | exact HB.out | apply below_alloc | apply pw_below_drewN | apply below_drew1) | exact HB.out))) : w.heap.size ≤ gb230)); have n3_ := Aside0.mk ((by rw [hg]; exact (below_size (by repeat (first | (with_reducible first | exact HB.out | apply below_alloc | apply pw_below_drewN | apply below_drew1) | exact HB.out))) : w.heap.size ≤ gb230)); clear HB; have HB := n0_; have BK230 := n1_; have GW230 := n2_; have GE230 := n3_; clear n0_ n1_ n2_ n3_; clear hb hbox hg; have hcz18_0 : w17.cell? ⟨gb230, 0, none⟩ = some (.slice A0_0 l0_0.length c0_0) := (blk_cell BK230.out 0).trans rfl; have hcz18_1 : w17.cell? ⟨gb230, 1, none⟩ = some (.slice A0_1 l0_1.length c0_1) := (blk_cell BK230.out 1).trans rfl; have hcz18_2 : w17.cell? ⟨gb230, 2, none⟩ = some (.slice A0_2 l0_2.length c0_2) := (blk_cell BK230.out 2).trans rfl; have hcz18_3 : w17.cell? ⟨gb230, 3, none⟩ = some (.int .i64 a0_3) := (blk_cell BK230.out 3).trans rfl; have hcz18_4 : w17.cell? ⟨gb230, 4, none⟩ = some (.int .i64 a0_4) := (blk_cell BK230.out 4).trans rfl; have hcz18_5 : w17.cell? ⟨gb230, 5, none⟩ = some (.string a0_5) := (blk_cell BK230.out 5).trans rfl; have hfz18_0 := blk_frozen BK230.out 0; have hfz18_1 := blk_frozen BK230.out 1; have hfz18_2 := blk_frozen BK230.out 2; have hfz18_3 := blk_frozen BK230.out 3; have hfz18_4 := blk_frozen BK230.out 4; have hfz18_5 := blk_frozen BK230.out 5) | ((with_reducible refine gate_callee (f := 48) rfl ?_); refine goesL_ (some 5) rfl rfl Try.func48 (by kernel_rfl) rfl #[.slice A0_0 l0_0.length c0_0, .int .i64 32] rfl (by (try simp only [List.map_toArray, List.map_cons, List.map_nil]); first | done | rfl | (simp only [List.length_drop, List.length_take]; rfl)) ?_; (with_reducible refine (impl_areCells.calls k _ _ l0_0 32 true _ ?side1 ?side2 A2.out).mono ?_); (case side1 => repeat (first | exact (Kd.C_below HR0_0.out HB.out) | (with_reducible refine Kd.C_alloc ?_ _) | (with_reducible refine Kd.C_drewN ?_ _) | (with_reducible refine Kd.C_drew ?_))); (case side2 => exact HC0_0.out); rintro e w' ⟨rfl, ⟨nd, rfl⟩⟩; refine ⟨_, rfl, ?_⟩) | (go_at_call 48; (with_reducible refine (impl_areCells.calls k _ _ l0_1 32 true _ ?side1 ?side2 A4.out).mono ?_); (case side1 => repeat (first | exact (Kd.C_below HR0_1.out (by repeat (first | (with_reducible first | exact HB.out | apply below_alloc | apply pw_below_drewN | apply below_drew1 | refine below_set ?_ GE230.out) | exact HB.out))) | (with_reducible refine Kd.C_alloc ?_ _) | (with_reducible refine Kd.C_drewN ?_ _) | (with_reducible refine Kd.C_drew ?_))); (case side2 => exact HC0_1.out); rintro e w' ⟨rfl, ⟨nd, rfl⟩⟩) | (go_at_call 48; (with_reducible refine (impl_areCells.calls k _ _ l0_2 32 true _ ?side1 ?side2 A6.out).mono ?_); (case side1 => repeat (first | exact (Kd.C_below HR0_2.out (by repeat (first | (with_reducible first | exact HB.out | apply below_alloc | apply pw_below_drewN | apply below_drew1 | refine below_set ?_ GE230.out) | exact HB.out))) | (with_reducible refine Kd.C_alloc ?_ _) | (with_reducible refine Kd.C_drewN ?_ _) | (with_reducible refine Kd.C_drew ?_))); (case side2 => exact HC0_2.out); rintro e w' ⟨rfl, ⟨nd, rfl⟩⟩) | (go_at_call 49; (with_reducible refine (impl_in.calls a0_3 0 32 false _ A9.out).mono ?_); rintro e w' ⟨rfl, ⟨nd, rfl⟩⟩))
            go_ret
            exact ⟨by first | rfl | (simp [errW_none, errW_some] <;> rfl) | (simp [*, errW_none, errW_some] <;> rfl), by repeat (first | (with_reducible first | exact HB.out | apply below_alloc | apply pw_below_drewN | apply below_drew1) | exact HB.out)⟩
        · rw [if_neg c8] at H
          have c8b0 : ((l0_2.length : Int) == 32) = false := beq_eq_false_iff_ne.mpr c8
          have c8b1 : ((l0_2.length : Int) != 32) = true := bne_iff_ne.mpr c8
          obtain rfl := Option.some.inj H
          go_enter Try.func22, Try.ntmps22
          go_wp2_with (first | ((with_reducible refine gate_dst (N := 1) rfl ?_); (try (refine gate_guard (by rfl) ?_; dsimp only)); refine box_event ?hg (N := 1) ?hd (cs := #[.slice A0_0 l0_0.length c0_0, .slice A0_1 l0_1.length c0_1, .slice A0_2 l0_2.length c0_2, .int .i64 a0_3, .int .i64 a0_4, .string a0_5]) (t := 24) ?hr ?_; (case hd => rfl); (case hg => rfl); (case hr => first | (go_simp; done) | (go_simp; rfl)); intro gb230 hg w19 hbox hb; have n0_ := Aside0.mk (below_step (by repeat (first | (with_reducible first | exact HB.out | apply below_alloc | apply pw_below_drewN | apply below_drew1) | exact HB.out)) hb); have n1_ := Aside0.mk (hbox); have n2_ := Aside0.mk ((by rw [hg]; exact (below_size (by repeat (first | (with_reducible first | exact HB.out | apply below_alloc | apply pw_below_drewN | apply below_drew1) | exact HB.out))) : w.heap.size ≤ gb230)); have n3_ := Aside0.mk ((by rw [hg]; exact (below_size (by repeat (first | (with_reducible first | exact HB.out | apply below_alloc | apply pw_below_drewN | apply below_drew1) | exact HB.out))) : w.heap.size ≤ gb230)); clear HB; have HB := n0_; have BK230 := n1_; have GW230 := n2_; have GE230 := n3_; clear n0_ n1_ n2_ n3_; clear hb hbox hg; have hcz20_0 : w19.cell? ⟨gb230, 0, none⟩ = some (.slice A0_0 l0_0.length c0_0) := (blk_cell BK230.out 0).trans rfl; have hcz20_1 : w19.cell? ⟨gb230, 1, none⟩ = some (.slice A0_1 l0_1.length c0_1) := (blk_cell BK230.out 1).trans rfl; have hcz20_2 : w19.cell? ⟨gb230, 2, none⟩ = some (.slice A0_2 l0_2.length c0_2) := (blk_cell BK230.out 2).trans rfl; have hcz20_3 : w19.cell? ⟨gb230, 3, none⟩ = some (.int .i64 a0_3) := (blk_cell BK230.out 3).trans rfl; have hcz20_4 : w19.cell? ⟨gb230, 4, none⟩ = some (.int .i64 a0_4) := (blk_cell BK230.out 4).trans rfl; have hcz20_5 : w19.cell? ⟨gb230, 5, none⟩ = some (.string a0_5) := (blk_cell BK230.out 5).trans rfl; have hfz20_0 := blk_frozen BK230.out 0; have hfz20_1 := blk_frozen BK230.out 1; have hfz20_2 := blk_frozen BK230.out 2; have hfz20_3 := blk_frozen BK230.out 3; have hfz20_4 := blk_frozen BK230.out 4; have hfz20_5 := blk_frozen BK230.out 5) | ((with_reducible refine gate_callee (f := 48) rfl ?_); refine goesL_ (some 5) rfl rfl Try.func48 (by kernel_rfl) rfl #[.slice A0_0 l0_0.length c0_0, .int .i64 32] rfl (by (try simp only [List.map_toArray, List.map_cons, List.map_nil]); first | done | rfl | (simp only [List.length_drop, List.length_take]; rfl)) ?_; (with_reducible refine (impl_areCells.calls k _ _ l0_0 32 true _ ?side1 ?side2 A2.out).mono ?_); (case side1 => repeat (first | exact (Kd.C_below HR0_0.out HB.out) | (with_reducible refine Kd.C_alloc ?_ _) | (with_reducible refine Kd.C_drewN ?_ _) | (with_reducible refine Kd.C_drew ?_))); (case side2 => exact HC0_0.out); rintro e w' ⟨rfl, ⟨nd, rfl⟩⟩; refine ⟨_, rfl, ?_⟩) | (go_at_call 48; (with_reducible refine (impl_areCells.calls k _ _ l0_1 32 true _ ?side1 ?side2 A4.out).mono ?_); (case side1 => repeat (first | exact (Kd.C_below HR0_1.out (by repeat (first | (with_reducible first | exact HB.out | apply below_alloc | apply pw_below_drewN | apply below_drew1 | refine below_set ?_ GE230.out) | exact HB.out))) | (with_reducible refine Kd.C_alloc ?_ _) | (with_reducible refine Kd.C_drewN ?_ _) | (with_reducible refine Kd.C_drew ?_))); (case side2 => exact HC0_1.out); rintro e w' ⟨rfl, ⟨nd, rfl⟩⟩) | (go_at_call 48; (with_reducible refine (impl_areCells.calls k _ _ l0_2 32 true _ ?side1 ?side2 A6.out).mono ?_); (case side1 => repeat (first | exact (Kd.C_below HR0_2.out (by repeat (first | (with_reducible first | exact HB.out | apply below_alloc | apply pw_below_drewN | apply below_drew1 | refine below_set ?_ GE230.out) | exact HB.out))) | (with_reducible refine Kd.C_alloc ?_ _) | (with_reducible refine Kd.C_drewN ?_ _) | (with_reducible refine Kd.C_drew ?_))); (case side2 => exact HC0_2.out); rintro e w' ⟨rfl, ⟨nd, rfl⟩⟩))
          go_ret
          exact ⟨by first | rfl | (simp [errW_none, errW_some] <;> rfl) | (simp [*, errW_none, errW_some] <;> rfl), by repeat (first | (with_reducible first | exact HB.out | apply below_alloc | apply pw_below_drewN | apply below_drew1 | refine below_set ?_ GE230.out) | exact HB.out)⟩
      · replace c7 := Bool.eq_false_iff.mpr c7
        subst c7
        have H1 : (some false) = some r := by rw [if_neg (show ¬ (false = true) by decide)] at H; first | done | exact H
        clear H
        have H := H1
        clear H1
        obtain rfl := Option.some.inj H
        go_enter Try.func22, Try.ntmps22
        go_wp2_with (first | ((with_reducible refine gate_dst (N := 1) rfl ?_); (try (refine gate_guard (by rfl) ?_; dsimp only)); refine box_event ?hg (N := 1) ?hd (cs := #[.slice A0_0 l0_0.length c0_0, .slice A0_1 l0_1.length c0_1, .slice A0_2 l0_2.length c0_2, .int .i64 a0_3, .int .i64 a0_4, .string a0_5]) (t := 24) ?hr ?_; (case hd => rfl); (case hg => rfl); (case hr => first | (go_simp; done) | (go_simp; rfl)); intro gb230 hg w21 hbox hb; have n0_ := Aside0.mk (below_step (by repeat (first | (with_reducible first | exact HB.out | apply below_alloc | apply pw_below_drewN | apply below_drew1) | exact HB.out)) hb); have n1_ := Aside0.mk (hbox); have n2_ := Aside0.mk ((by rw [hg]; exact (below_size (by repeat (first | (with_reducible first | exact HB.out | apply below_alloc | apply pw_below_drewN | apply below_drew1) | exact HB.out))) : w.heap.size ≤ gb230)); have n3_ := Aside0.mk ((by rw [hg]; exact (below_size (by repeat (first | (with_reducible first | exact HB.out | apply below_alloc | apply pw_below_drewN | apply below_drew1) | exact HB.out))) : w.heap.size ≤ gb230)); clear HB; have HB := n0_; have BK230 := n1_; have GW230 := n2_; have GE230 := n3_; clear n0_ n1_ n2_ n3_; clear hb hbox hg; have hcz22_0 : w21.cell? ⟨gb230, 0, none⟩ = some (.slice A0_0 l0_0.length c0_0) := (blk_cell BK230.out 0).trans rfl; have hcz22_1 : w21.cell? ⟨gb230, 1, none⟩ = some (.slice A0_1 l0_1.length c0_1) := (blk_cell BK230.out 1).trans rfl; have hcz22_2 : w21.cell? ⟨gb230, 2, none⟩ = some (.slice A0_2 l0_2.length c0_2) := (blk_cell BK230.out 2).trans rfl; have hcz22_3 : w21.cell? ⟨gb230, 3, none⟩ = some (.int .i64 a0_3) := (blk_cell BK230.out 3).trans rfl; have hcz22_4 : w21.cell? ⟨gb230, 4, none⟩ = some (.int .i64 a0_4) := (blk_cell BK230.out 4).trans rfl; have hcz22_5 : w21.cell? ⟨gb230, 5, none⟩ = some (.string a0_5) := (blk_cell BK230.out 5).trans rfl; have hfz22_0 := blk_frozen BK230.out 0; have hfz22_1 := blk_frozen BK230.out 1; have hfz22_2 := blk_frozen BK230.out 2; have hfz22_3 := blk_frozen BK230.out 3; have hfz22_4 := blk_frozen BK230.out 4; have hfz22_5 := blk_frozen BK230.out 5) | ((with_reducible refine gate_callee (f := 48) rfl ?_); refine goesL_ (some 5) rfl rfl Try.func48 (by kernel_rfl) rfl #[.slice A0_0 l0_0.length c0_0, .int .i64 32] rfl (by (try simp only [List.map_toArray, List.map_cons, List.map_nil]); first | done | rfl | (simp only [List.length_drop, List.length_take]; rfl)) ?_; (with_reducible refine (impl_areCells.calls k _ _ l0_0 32 true _ ?side1 ?side2 A2.out).mono ?_); (case side1 => repeat (first | exact (Kd.C_below HR0_0.out HB.out) | (with_reducible refine Kd.C_alloc ?_ _) | (with_reducible refine Kd.C_drewN ?_ _) | (with_reducible refine Kd.C_drew ?_))); (case side2 => exact HC0_0.out); rintro e w' ⟨rfl, ⟨nd, rfl⟩⟩; refine ⟨_, rfl, ?_⟩) | (go_at_call 48; (with_reducible refine (impl_areCells.calls k _ _ l0_1 32 true _ ?side1 ?side2 A4.out).mono ?_); (case side1 => repeat (first | exact (Kd.C_below HR0_1.out (by repeat (first | (with_reducible first | exact HB.out | apply below_alloc | apply pw_below_drewN | apply below_drew1 | refine below_set ?_ GE230.out) | exact HB.out))) | (with_reducible refine Kd.C_alloc ?_ _) | (with_reducible refine Kd.C_drewN ?_ _) | (with_reducible refine Kd.C_drew ?_))); (case side2 => exact HC0_1.out); rintro e w' ⟨rfl, ⟨nd, rfl⟩⟩) | (go_at_call 48; (with_reducible refine (impl_areCells.calls k _ _ l0_2 32 false _ ?side1 ?side2 A6.out).mono ?_); (case side1 => repeat (first | exact (Kd.C_below HR0_2.out (by repeat (first | (with_reducible first | exact HB.out | apply below_alloc | apply pw_below_drewN | apply below_drew1) | exact HB.out))) | (with_reducible refine Kd.C_alloc ?_ _) | (with_reducible refine Kd.C_drewN ?_ _) | (with_reducible refine Kd.C_drew ?_))); (case side2 => exact HC0_2.out); rintro e w' ⟨rfl, ⟨nd, rfl⟩⟩))
        go_ret
        exact ⟨by first | rfl | (simp [errW_none, errW_some] <;> rfl) | (simp [*, errW_none, errW_some] <;> rfl), by repeat (first | (with_reducible first | exact HB.out | apply below_alloc | apply pw_below_drewN | apply below_drew1) | exact HB.out)⟩
    · replace c5 := Bool.eq_false_iff.mpr c5
      subst c5
      have H1 : (some false) = some r := by rw [if_neg (show ¬ (false = true) by decide)] at H; first | done | exact H
      clear H
      have H := H1
      clear H1
      obtain rfl := Option.some.inj H
      go_enter Try.func22, Try.ntmps22
      go_wp2_with (first | ((with_reducible refine gate_dst (N := 1) rfl ?_); (try (refine gate_guard (by rfl) ?_; dsimp only)); refine box_event ?hg (N := 1) ?hd (cs := #[.slice A0_0 l0_0.length c0_0, .slice A0_1 l0_1.length c0_1, .slice A0_2 l0_2.length c0_2, .int .i64 a0_3, .int .i64 a0_4, .string a0_5]) (t := 24) ?hr ?_; (case hd => rfl); (case hg => rfl); (case hr => first | (go_simp; done) | (go_simp; rfl)); intro gb230 hg w23 hbox hb; have n0_ := Aside0.mk (below_step (by repeat (first | (with_reducible first | exact HB.out | apply below_alloc | apply pw_below_drewN | apply below_drew1) | exact HB.out)) hb); have n1_ := Aside0.mk (hbox); have n2_ := Aside0.mk ((by rw [hg]; exact (below_size (by repeat (first | (with_reducible first | exact HB.out | apply below_alloc | apply pw_below_drewN | apply below_drew1) | exact HB.out))) : w.heap.size ≤ gb230)); have n3_ := Aside0.mk ((by rw [hg]; exact (below_size (by repeat (first | (with_reducible first | exact HB.out | apply below_alloc | apply pw_below_drewN | apply below_drew1) | exact HB.out))) : w.heap.size ≤ gb230)); clear HB; have HB := n0_; have BK230 := n1_; have GW230 := n2_; have GE230 := n3_; clear n0_ n1_ n2_ n3_; clear hb hbox hg; have hcz24_0 : w23.cell? ⟨gb230, 0, none⟩ = some (.slice A0_0 l0_0.length c0_0) := (blk_cell BK230.out 0).trans rfl; have hcz24_1 : w23.cell? ⟨gb230, 1, none⟩ = some (.slice A0_1 l0_1.length c0_1) := (blk_cell BK230.out 1).trans rfl; have hcz24_2 : w23.cell? ⟨gb230, 2, none⟩ = some (.slice A0_2 l0_2.length c0_2) := (blk_cell BK230.out 2).trans rfl; have hcz24_3 : w23.cell? ⟨gb230, 3, none⟩ = some (.int .i64 a0_3) := (blk_cell BK230.out 3).trans rfl; have hcz24_4 : w23.cell? ⟨gb230, 4, none⟩ = some (.int .i64 a0_4) := (blk_cell BK230.out 4).trans rfl; have hcz24_5 : w23.cell? ⟨gb230, 5, none⟩ = some (.string a0_5) := (blk_cell BK230.out 5).trans rfl; have hfz24_0 := blk_frozen BK230.out 0; have hfz24_1 := blk_frozen BK230.out 1; have hfz24_2 := blk_frozen BK230.out 2; have hfz24_3 := blk_frozen BK230.out 3; have hfz24_4 := blk_frozen BK230.out 4; have hfz24_5 := blk_frozen BK230.out 5) | ((with_reducible refine gate_callee (f := 48) rfl ?_); refine goesL_ (some 5) rfl rfl Try.func48 (by kernel_rfl) rfl #[.slice A0_0 l0_0.length c0_0, .int .i64 32] rfl (by (try simp only [List.map_toArray, List.map_cons, List.map_nil]); first | done | rfl | (simp only [List.length_drop, List.length_take]; rfl)) ?_; (with_reducible refine (impl_areCells.calls k _ _ l0_0 32 true _ ?side1 ?side2 A2.out).mono ?_); (case side1 => repeat (first | exact (Kd.C_below HR0_0.out HB.out) | (with_reducible refine Kd.C_alloc ?_ _) | (with_reducible refine Kd.C_drewN ?_ _) | (with_reducible refine Kd.C_drew ?_))); (case side2 => exact HC0_0.out); rintro e w' ⟨rfl, ⟨nd, rfl⟩⟩; refine ⟨_, rfl, ?_⟩) | (go_at_call 48; (with_reducible refine (impl_areCells.calls k _ _ l0_1 32 false _ ?side1 ?side2 A4.out).mono ?_); (case side1 => repeat (first | exact (Kd.C_below HR0_1.out (by repeat (first | (with_reducible first | exact HB.out | apply below_alloc | apply pw_below_drewN | apply below_drew1) | exact HB.out))) | (with_reducible refine Kd.C_alloc ?_ _) | (with_reducible refine Kd.C_drewN ?_ _) | (with_reducible refine Kd.C_drew ?_))); (case side2 => exact HC0_1.out); rintro e w' ⟨rfl, ⟨nd, rfl⟩⟩))
      go_ret
      exact ⟨by first | rfl | (simp [errW_none, errW_some] <;> rfl) | (simp [*, errW_none, errW_some] <;> rfl), by repeat (first | (with_reducible first | exact HB.out | apply below_alloc | apply pw_below_drewN | apply below_drew1) | exact HB.out)⟩
  · replace c3 := Bool.eq_false_iff.mpr c3
    subst c3
    have H1 : (some false) = some r := by rw [if_neg (show ¬ (false = true) by decide)] at H; first | done | exact H
    clear H
    have H := H1
    clear H1
    obtain rfl := Option.some.inj H
    go_enter Try.func22, Try.ntmps22
    go_wp2_with (first | ((with_reducible refine gate_dst (N := 1) rfl ?_); (try (refine gate_guard (by rfl) ?_; dsimp only)); refine box_event ?hg (N := 1) ?hd (cs := #[.slice A0_0 l0_0.length c0_0, .slice A0_1 l0_1.length c0_1, .slice A0_2 l0_2.length c0_2, .int .i64 a0_3, .int .i64 a0_4, .string a0_5]) (t := 24) ?hr ?_; (case hd => rfl); (case hg => rfl); (case hr => first | (go_simp; done) | (go_simp; rfl)); intro gb230 hg w25 hbox hb; have n0_ := Aside0.mk (below_step (by repeat (first | (with_reducible first | exact HB.out | apply below_alloc | apply pw_below_drewN | apply below_drew1) | exact HB.out)) hb); have n1_ := Aside0.mk (hbox); have n2_ := Aside0.mk ((by rw [hg]; exact (below_size (by repeat (first | (with_reducible first | exact HB.out | apply below_alloc | apply pw_below_drewN | apply below_drew1) | exact HB.out))) : w.heap.size ≤ gb230)); have n3_ := Aside0.mk ((by rw [hg]; exact (below_size (by repeat (first | (with_reducible first | exact HB.out | apply below_alloc | apply pw_below_drewN | apply below_drew1) | exact HB.out))) : w.heap.size ≤ gb230)); clear HB; have HB := n0_; have BK230 := n1_; have GW230 := n2_; have GE230 := n3_; clear n0_ n1_ n2_ n3_; clear hb hbox hg; have hcz26_0 : w25.cell? ⟨gb230, 0, none⟩ = some (.slice A0_0 l0_0.length c0_0) := (blk_cell BK230.out 0).trans rfl; have hcz26_1 : w25.cell? ⟨gb230, 1, none⟩ = some (.slice A0_1 l0_1.length c0_1) := (blk_cell BK230.out 1).trans rfl; have hcz26_2 : w25.cell? ⟨gb230, 2, none⟩ = some (.slice A0_2 l0_2.length c0_2) := (blk_cell BK230.out 2).trans rfl; have hcz26_3 : w25.cell? ⟨gb230, 3, none⟩ = some (.int .i64 a0_3) := (blk_cell BK230.out 3).trans rfl; have hcz26_4 : w25.cell? ⟨gb230, 4, none⟩ = some (.int .i64 a0_4) := (blk_cell BK230.out 4).trans rfl; have hcz26_5 : w25.cell? ⟨gb230, 5, none⟩ = some (.string a0_5) := (blk_cell BK230.out 5).trans rfl; have hfz26_0 := blk_frozen BK230.out 0; have hfz26_1 := blk_frozen BK230.out 1; have hfz26_2 := blk_frozen BK230.out 2; have hfz26_3 := blk_frozen BK230.out 3; have hfz26_4 := blk_frozen BK230.out 4; have hfz26_5 := blk_frozen BK230.out 5) | ((with_reducible refine gate_callee (f := 48) rfl ?_); refine goesL_ (some 5) rfl rfl Try.func48 (by kernel_rfl) rfl #[.slice A0_0 l0_0.length c0_0, .int .i64 32] rfl (by (try simp only [List.map_toArray, List.map_cons, List.map_nil]); first | done | rfl | (simp only [List.length_drop, List.length_take]; rfl)) ?_; (with_reducible refine (impl_areCells.calls k _ _ l0_0 32 false _ ?side1 ?side2 A2.out).mono ?_); (case side1 => repeat (first | exact (Kd.C_below HR0_0.out HB.out) | (with_reducible refine Kd.C_alloc ?_ _) | (with_reducible refine Kd.C_drewN ?_ _) | (with_reducible refine Kd.C_drew ?_))); (case side2 => exact HC0_0.out); rintro e w' ⟨rfl, ⟨nd, rfl⟩⟩; refine ⟨_, rfl, ?_⟩))
    go_ret
    exact ⟨by first | rfl | (simp [errW_none, errW_some] <;> rfl) | (simp [*, errW_none, errW_some] <;> rfl), by repeat (first | (with_reducible first | exact HB.out | apply below_alloc | apply pw_below_drewN | apply below_drew1) | exact HB.out)⟩

/-! ### impl_dataCode: function 65 -/
def impl_dataCode.f (k : Nat) (l0_0 : List Int) (l0_1 : List Int) (l0_2 : List Int) (a0_3 : Int) (a0_4 : Int) (a0_5 : ByteArray) (a1 : Int) : Option (Int) := (impl_DataOK.f k l0_0 l0_1 l0_2 a0_3 a0_4 a0_5).bind fun t237 => (if t237 = true then ((impl_CellOK.f a1).bind fun t238 => (if t238 = true then (some 0) else (some 4))) else (some 1))
theorem impl_dataCode.mono : ∀ a0 a1 a2 a3 a4 a5 a6 k, LeO (impl_dataCode.f k a0 a1 a2 a3 a4 a5 a6) (impl_dataCode.f (k + 1) a0 a1 a2 a3 a4 a5 a6) := by
  intro a0 a1 a2 a3 a4 a5 a6 k
  unfold impl_dataCode.f
  repeat' first
      | (with_reducible exact impl_DataOK.mono _ _ _ _ _ _ _)
      | (with_reducible exact LeO.refl _)
      | (with_reducible exact LeO.none _)
      | (with_reducible refine LeO.ite ?_ ?_)
      | (with_reducible refine LeO.bind ?_ (fun _ => ?_))
      | exact impl_DataOK.mono _ _ _ _ _ _ _
      | exact LeO.none _
      | refine LeO.ite ?_ ?_
      | refine LeO.bind ?_ (fun _ => ?_)
set_option maxHeartbeats 8000000 in
set_option maxRecDepth 100000 in
theorem impl_dataCode.calls (k : Nat) (A0_0 : Option Addr) (c0_0 : Nat) (l0_0 : List Int) (A0_1 : Option Addr) (c0_1 : Nat) (l0_1 : List Int) (A0_2 : Option Addr) (c0_2 : Nat) (l0_2 : List Int) (a0_3 : Int) (a0_4 : Int) (a0_5 : ByteArray) (a1 : Int) (r : Int) (w : World) (hr0_0 : Kd.C (Kd.int .i64) w A0_0 l0_0.length l0_0) (hc0_0 : l0_0.length ≤ c0_0) (hr0_1 : Kd.C (Kd.int .i64) w A0_1 l0_1.length l0_1) (hc0_1 : l0_1.length ≤ c0_1) (hr0_2 : Kd.C (Kd.int .i64) w A0_2 l0_2.length l0_2) (hc0_2 : l0_2.length ≤ c0_2) (h : impl_dataCode.f k l0_0 l0_1 l0_2 a0_3 a0_4 a0_5 a1 = some r) :
    Calls Try.prog 65 #[.agg #[.slice A0_0 l0_0.length c0_0, .slice A0_1 l0_1.length c0_1, .slice A0_2 l0_2.length c0_2, .int .i64 a0_3, .int .i64 a0_4, .string a0_5], .int .i64 a1] w fun e w' => e = .returned (.int .i64 r) ∧ Below w.heap.size w w' := by
  have hu24 := Try.underlying24
  have HR0_0 := Aside0.mk hr0_0
  have HC0_0 := Aside0.mk hc0_0
  clear hr0_0 hc0_0
  have HR0_1 := Aside0.mk hr0_1
  have HC0_1 := Aside0.mk hc0_1
  clear hr0_1 hc0_1
  have HR0_2 := Aside0.mk hr0_2
  have HC0_2 := Aside0.mk hc0_2
  clear hr0_2 hc0_2
  have HB := Aside0.mk (Below.refl w.heap.size w)
  have H : ((impl_DataOK.f k l0_0 l0_1 l0_2 a0_3 a0_4 a0_5).bind fun t237 => (if t237 = true then ((impl_CellOK.f a1).bind fun t238 => (if t238 = true then (some 0) else (some 4))) else (some 1))) = some r := h
  clear h
  replace H := Option.bind_eq_some_iff.mp H
  obtain ⟨t237, A30, H⟩ := H
  replace H : (if t237 = true then ((impl_CellOK.f a1).bind fun t238 => (if t238 = true then (some 0) else (some 4))) else (some 1)) = some r := H
  have A3 := Aside0.mk A30
  clear A30
  by_cases c4 : t237 = true
  · subst c4
    have H1 : ((impl_CellOK.f a1).bind fun t238 => (if t238 = true then (some 0) else (some 4))) = some r := by rw [if_pos rfl] at H; first | done | exact H
    clear H
    have H := H1
    clear H1
    replace H := Option.bind_eq_some_iff.mp H
    obtain ⟨t238, A50, H⟩ := H
    replace H : (if t238 = true then (some 0) else (some 4)) = some r := H
    have A5 := Aside0.mk A50
    clear A50
    by_cases c6 : t238 = true
    · subst c6
      have H1 : (some 0) = some r := by rw [if_pos rfl] at H; first | done | exact H
      clear H
      have H := H1
      clear H1
      obtain rfl := Option.some.inj H
      go_enter Try.func65, Try.ntmps65
      go_wp2_with (first | ((with_reducible refine gate_dst (N := 2) rfl ?_); refine box_event ?hg (N := 2) ?hd (cs := #[.slice A0_0 l0_0.length c0_0, .slice A0_1 l0_1.length c0_1, .slice A0_2 l0_2.length c0_2, .int .i64 a0_3, .int .i64 a0_4, .string a0_5]) (t := 24) ?hr ?_; (case hd => rfl); (case hg => rfl); (case hr => first | (go_simp; done) | (go_simp; rfl)); intro gb236 hg w7 hbox hb; have n0_ := Aside0.mk (below_step (by repeat (first | (with_reducible first | exact HB.out | apply below_alloc | apply pw_below_drewN | apply below_drew1) | exact HB.out)) hb); have n1_ := Aside0.mk (hbox); have n2_ := Aside0.mk ((by rw [hg]; exact (below_size (by repeat (first | (with_reducible first | exact HB.out | apply below_alloc | apply pw_below_drewN | apply below_drew1) | exact HB.out))) : w.heap.size ≤ gb236)); have n3_ := Aside0.mk ((by rw [hg]; exact (below_size (by repeat (first | (with_reducible first | exact HB.out | apply below_alloc | apply pw_below_drewN | apply below_drew1) | exact HB.out))) : w.heap.size ≤ gb236)); clear HB; have HB := n0_; have BK236 := n1_; have GW236 := n2_; have GE236 := n3_; clear n0_ n1_ n2_ n3_; clear hb hbox hg; have hcz8_0 : w7.cell? ⟨gb236, 0, none⟩ = some (.slice A0_0 l0_0.length c0_0) := (blk_cell BK236.out 0).trans rfl; have hcz8_1 : w7.cell? ⟨gb236, 1, none⟩ = some (.slice A0_1 l0_1.length c0_1) := (blk_cell BK236.out 1).trans rfl; have hcz8_2 : w7.cell? ⟨gb236, 2, none⟩ = some (.slice A0_2 l0_2.length c0_2) := (blk_cell BK236.out 2).trans rfl; have hcz8_3 : w7.cell? ⟨gb236, 3, none⟩ = some (.int .i64 a0_3) := (blk_cell BK236.out 3).trans rfl; have hcz8_4 : w7.cell? ⟨gb236, 4, none⟩ = some (.int .i64 a0_4) := (blk_cell BK236.out 4).trans rfl; have hcz8_5 : w7.cell? ⟨gb236, 5, none⟩ = some (.string a0_5) := (blk_cell BK236.out 5).trans rfl; have hfz8_0 := blk_frozen BK236.out 0; have hfz8_1 := blk_frozen BK236.out 1; have hfz8_2 := blk_frozen BK236.out 2; have hfz8_3 := blk_frozen BK236.out 3; have hfz8_4 := blk_frozen BK236.out 4; have hfz8_5 := blk_frozen BK236.out 5) | ((with_reducible refine gate_callee (f := 22) rfl ?_); refine goesL_ (some 7) rfl rfl Try.func22 (by kernel_rfl) rfl #[.agg #[.slice A0_0 l0_0.length c0_0, .slice A0_1 l0_1.length c0_1, .slice A0_2 l0_2.length c0_2, .int .i64 a0_3, .int .i64 a0_4, .string a0_5]] rfl (by (try simp only [List.map_toArray, List.map_cons, List.map_nil]); first | done | rfl | (simp only [List.length_drop, List.length_take]; rfl)) ?_; (with_reducible refine (impl_DataOK.calls k _ _ l0_0 _ _ l0_1 _ _ l0_2 a0_3 a0_4 a0_5 true _ ?side1 ?side2 ?side3 ?side4 ?side5 ?side6 A3.out).mono ?_); (case side1 => repeat (first | exact (Kd.C_below HR0_0.out HB.out) | (with_reducible refine Kd.C_alloc ?_ _) | (with_reducible refine Kd.C_drewN ?_ _) | (with_reducible refine Kd.C_drew ?_))); (case side2 => exact HC0_0.out); (case side3 => repeat (first | exact (Kd.C_below HR0_1.out HB.out) | (with_reducible refine Kd.C_alloc ?_ _) | (with_reducible refine Kd.C_drewN ?_ _) | (with_reducible refine Kd.C_drew ?_))); (case side4 => exact HC0_1.out); (case side5 => repeat (first | exact (Kd.C_below HR0_2.out HB.out) | (with_reducible refine Kd.C_alloc ?_ _) | (with_reducible refine Kd.C_drewN ?_ _) | (with_reducible refine Kd.C_drew ?_))); (case side6 => exact HC0_2.out); rintro e w9 ⟨rfl, hb⟩; refine ⟨_, rfl, ?_⟩; replace HB := Aside0.mk (below_step (by repeat (first | (with_reducible first | exact HB.out | apply below_alloc | apply pw_below_drewN | apply below_drew1) | exact HB.out)) hb); (try clear hb); (try clear hb2); (try clear hk); (try clear hi)) | ((with_reducible refine gate_callee (f := 83) rfl ?_); refine goesL_ (some 11) rfl rfl Try.func83 (by kernel_rfl) rfl #[.int .i64 a1] rfl (by (try simp only [List.map_toArray, List.map_cons, List.map_nil]); first | done | rfl | (simp only [List.length_drop, List.length_take]; rfl)) ?_; (with_reducible refine (impl_CellOK.calls a1 true _ A5.out).mono ?_); rintro e w' ⟨rfl, ⟨nd, rfl⟩⟩; refine ⟨_, rfl, ?_⟩))
      go_ret
      exact ⟨by first | rfl | (simp [errW_none, errW_some] <;> rfl) | (simp [*, errW_none, errW_some] <;> rfl), by repeat (first | (with_reducible first | exact HB.out | apply below_alloc | apply pw_below_drewN | apply below_drew1) | exact HB.out)⟩
    · replace c6 := Bool.eq_false_iff.mpr c6
      subst c6
      have H1 : (some 4) = some r := by rw [if_neg (show ¬ (false = true) by decide)] at H; first | done | exact H
      clear H
      have H := H1
      clear H1
      obtain rfl := Option.some.inj H
      go_enter Try.func65, Try.ntmps65
      go_wp2_with (first | ((with_reducible refine gate_dst (N := 2) rfl ?_); refine box_event ?hg (N := 2) ?hd (cs := #[.slice A0_0 l0_0.length c0_0, .slice A0_1 l0_1.length c0_1, .slice A0_2 l0_2.length c0_2, .int .i64 a0_3, .int .i64 a0_4, .string a0_5]) (t := 24) ?hr ?_; (case hd => rfl); (case hg => rfl); (case hr => first | (go_simp; done) | (go_simp; rfl)); intro gb236 hg w10 hbox hb; have n0_ := Aside0.mk (below_step (by repeat (first | (with_reducible first | exact HB.out | apply below_alloc | apply pw_below_drewN | apply below_drew1) | exact HB.out)) hb); have n1_ := Aside0.mk (hbox); have n2_ := Aside0.mk ((by rw [hg]; exact (below_size (by repeat (first | (with_reducible first | exact HB.out | apply below_alloc | apply pw_below_drewN | apply below_drew1) | exact HB.out))) : w.heap.size ≤ gb236)); have n3_ := Aside0.mk ((by rw [hg]; exact (below_size (by repeat (first | (with_reducible first | exact HB.out | apply below_alloc | apply pw_below_drewN | apply below_drew1) | exact HB.out))) : w.heap.size ≤ gb236)); clear HB; have HB := n0_; have BK236 := n1_; have GW236 := n2_; have GE236 := n3_; clear n0_ n1_ n2_ n3_; clear hb hbox hg; have hcz11_0 : w10.cell? ⟨gb236, 0, none⟩ = some (.slice A0_0 l0_0.length c0_0) := (blk_cell BK236.out 0).trans rfl; have hcz11_1 : w10.cell? ⟨gb236, 1, none⟩ = some (.slice A0_1 l0_1.length c0_1) := (blk_cell BK236.out 1).trans rfl; have hcz11_2 : w10.cell? ⟨gb236, 2, none⟩ = some (.slice A0_2 l0_2.length c0_2) := (blk_cell BK236.out 2).trans rfl; have hcz11_3 : w10.cell? ⟨gb236, 3, none⟩ = some (.int .i64 a0_3) := (blk_cell BK236.out 3).trans rfl; have hcz11_4 : w10.cell? ⟨gb236, 4, none⟩ = some (.int .i64 a0_4) := (blk_cell BK236.out 4).trans rfl; have hcz11_5 : w10.cell? ⟨gb236, 5, none⟩ = some (.string a0_5) := (blk_cell BK236.out 5).trans rfl; have hfz11_0 := blk_frozen BK236.out 0; have hfz11_1 := blk_frozen BK236.out 1; have hfz11_2 := blk_frozen BK236.out 2; have hfz11_3 := blk_frozen BK236.out 3; have hfz11_4 := blk_frozen BK236.out 4; have hfz11_5 := blk_frozen BK236.out 5) | ((with_reducible refine gate_callee (f := 22) rfl ?_); refine goesL_ (some 7) rfl rfl Try.func22 (by kernel_rfl) rfl #[.agg #[.slice A0_0 l0_0.length c0_0, .slice A0_1 l0_1.length c0_1, .slice A0_2 l0_2.length c0_2, .int .i64 a0_3, .int .i64 a0_4, .string a0_5]] rfl (by (try simp only [List.map_toArray, List.map_cons, List.map_nil]); first | done | rfl | (simp only [List.length_drop, List.length_take]; rfl)) ?_; (with_reducible refine (impl_DataOK.calls k _ _ l0_0 _ _ l0_1 _ _ l0_2 a0_3 a0_4 a0_5 true _ ?side1 ?side2 ?side3 ?side4 ?side5 ?side6 A3.out).mono ?_); (case side1 => repeat (first | exact (Kd.C_below HR0_0.out HB.out) | (with_reducible refine Kd.C_alloc ?_ _) | (with_reducible refine Kd.C_drewN ?_ _) | (with_reducible refine Kd.C_drew ?_))); (case side2 => exact HC0_0.out); (case side3 => repeat (first | exact (Kd.C_below HR0_1.out HB.out) | (with_reducible refine Kd.C_alloc ?_ _) | (with_reducible refine Kd.C_drewN ?_ _) | (with_reducible refine Kd.C_drew ?_))); (case side4 => exact HC0_1.out); (case side5 => repeat (first | exact (Kd.C_below HR0_2.out HB.out) | (with_reducible refine Kd.C_alloc ?_ _) | (with_reducible refine Kd.C_drewN ?_ _) | (with_reducible refine Kd.C_drew ?_))); (case side6 => exact HC0_2.out); rintro e w12 ⟨rfl, hb⟩; refine ⟨_, rfl, ?_⟩; replace HB := Aside0.mk (below_step (by repeat (first | (with_reducible first | exact HB.out | apply below_alloc | apply pw_below_drewN | apply below_drew1) | exact HB.out)) hb); (try clear hb); (try clear hb2); (try clear hk); (try clear hi)) | ((with_reducible refine gate_callee (f := 83) rfl ?_); refine goesL_ (some 11) rfl rfl Try.func83 (by kernel_rfl) rfl #[.int .i64 a1] rfl (by (try simp only [List.map_toArray, List.map_cons, List.map_nil]); first | done | rfl | (simp only [List.length_drop, List.length_take]; rfl)) ?_; (with_reducible refine (impl_CellOK.calls a1 false _ A5.out).mono ?_); rintro e w' ⟨rfl, ⟨nd, rfl⟩⟩; refine ⟨_, rfl, ?_⟩))
      go_ret
      exact ⟨by first | rfl | (simp [errW_none, errW_some] <;> rfl) | (simp [*, errW_none, errW_some] <;> rfl), by repeat (first | (with_reducible first | exact HB.out | apply below_alloc | apply pw_below_drewN | apply below_drew1) | exact HB.out)⟩
  · replace c4 := Bool.eq_false_iff.mpr c4
    subst c4
    have H1 : (some 1) = some r := by rw [if_neg (show ¬ (false = true) by decide)] at H; first | done | exact H
    clear H
    have H := H1
    clear H1
    obtain rfl := Option.some.inj H
    go_enter Try.func65, Try.ntmps65
    go_wp2_with (first | ((with_reducible refine gate_dst (N := 2) rfl ?_); refine box_event ?hg (N := 2) ?hd (cs := #[.slice A0_0 l0_0.length c0_0, .slice A0_1 l0_1.length c0_1, .slice A0_2 l0_2.length c0_2, .int .i64 a0_3, .int .i64 a0_4, .string a0_5]) (t := 24) ?hr ?_; (case hd => rfl); (case hg => rfl); (case hr => first | (go_simp; done) | (go_simp; rfl)); intro gb236 hg w13 hbox hb; have n0_ := Aside0.mk (below_step (by repeat (first | (with_reducible first | exact HB.out | apply below_alloc | apply pw_below_drewN | apply below_drew1) | exact HB.out)) hb); have n1_ := Aside0.mk (hbox); have n2_ := Aside0.mk ((by rw [hg]; exact (below_size (by repeat (first | (with_reducible first | exact HB.out | apply below_alloc | apply pw_below_drewN | apply below_drew1) | exact HB.out))) : w.heap.size ≤ gb236)); have n3_ := Aside0.mk ((by rw [hg]; exact (below_size (by repeat (first | (with_reducible first | exact HB.out | apply below_alloc | apply pw_below_drewN | apply below_drew1) | exact HB.out))) : w.heap.size ≤ gb236)); clear HB; have HB := n0_; have BK236 := n1_; have GW236 := n2_; have GE236 := n3_; clear n0_ n1_ n2_ n3_; clear hb hbox hg; have hcz14_0 : w13.cell? ⟨gb236, 0, none⟩ = some (.slice A0_0 l0_0.length c0_0) := (blk_cell BK236.out 0).trans rfl; have hcz14_1 : w13.cell? ⟨gb236, 1, none⟩ = some (.slice A0_1 l0_1.length c0_1) := (blk_cell BK236.out 1).trans rfl; have hcz14_2 : w13.cell? ⟨gb236, 2, none⟩ = some (.slice A0_2 l0_2.length c0_2) := (blk_cell BK236.out 2).trans rfl; have hcz14_3 : w13.cell? ⟨gb236, 3, none⟩ = some (.int .i64 a0_3) := (blk_cell BK236.out 3).trans rfl; have hcz14_4 : w13.cell? ⟨gb236, 4, none⟩ = some (.int .i64 a0_4) := (blk_cell BK236.out 4).trans rfl; have hcz14_5 : w13.cell? ⟨gb236, 5, none⟩ = some (.string a0_5) := (blk_cell BK236.out 5).trans rfl; have hfz14_0 := blk_frozen BK236.out 0; have hfz14_1 := blk_frozen BK236.out 1; have hfz14_2 := blk_frozen BK236.out 2; have hfz14_3 := blk_frozen BK236.out 3; have hfz14_4 := blk_frozen BK236.out 4; have hfz14_5 := blk_frozen BK236.out 5) | ((with_reducible refine gate_callee (f := 22) rfl ?_); refine goesL_ (some 7) rfl rfl Try.func22 (by kernel_rfl) rfl #[.agg #[.slice A0_0 l0_0.length c0_0, .slice A0_1 l0_1.length c0_1, .slice A0_2 l0_2.length c0_2, .int .i64 a0_3, .int .i64 a0_4, .string a0_5]] rfl (by (try simp only [List.map_toArray, List.map_cons, List.map_nil]); first | done | rfl | (simp only [List.length_drop, List.length_take]; rfl)) ?_; (with_reducible refine (impl_DataOK.calls k _ _ l0_0 _ _ l0_1 _ _ l0_2 a0_3 a0_4 a0_5 false _ ?side1 ?side2 ?side3 ?side4 ?side5 ?side6 A3.out).mono ?_); (case side1 => repeat (first | exact (Kd.C_below HR0_0.out HB.out) | (with_reducible refine Kd.C_alloc ?_ _) | (with_reducible refine Kd.C_drewN ?_ _) | (with_reducible refine Kd.C_drew ?_))); (case side2 => exact HC0_0.out); (case side3 => repeat (first | exact (Kd.C_below HR0_1.out HB.out) | (with_reducible refine Kd.C_alloc ?_ _) | (with_reducible refine Kd.C_drewN ?_ _) | (with_reducible refine Kd.C_drew ?_))); (case side4 => exact HC0_1.out); (case side5 => repeat (first | exact (Kd.C_below HR0_2.out HB.out) | (with_reducible refine Kd.C_alloc ?_ _) | (with_reducible refine Kd.C_drewN ?_ _) | (with_reducible refine Kd.C_drew ?_))); (case side6 => exact HC0_2.out); rintro e w15 ⟨rfl, hb⟩; refine ⟨_, rfl, ?_⟩; replace HB := Aside0.mk (below_step (by repeat (first | (with_reducible first | exact HB.out | apply below_alloc | apply pw_below_drewN | apply below_drew1) | exact HB.out)) hb); (try clear hb); (try clear hb2); (try clear hk); (try clear hi)))
    go_ret
    exact ⟨by first | rfl | (simp [errW_none, errW_some] <;> rfl) | (simp [*, errW_none, errW_some] <;> rfl), by repeat (first | (with_reducible first | exact HB.out | apply below_alloc | apply pw_below_drewN | apply below_drew1) | exact HB.out)⟩

-- NOT PRINTED: function 70 (impl_Data_allot)

-- NOT PRINTED: function 69 (impl_AllotCells_1)

end Go.Proofs.Ytcelnpmahnblpaa.PFnExactAllotCells
