-- laid by a program of this session out of the translation's own print: Lean checks it
import Derived.Test.YtcelnpmahnblpaaPFnExactPopx0
import Derived.Test.YtcelnpmahnblpaaPFnExactPopx3
namespace Go.Proofs.Ytcelnpmahnblpaa.PFnExactPop
open Go.RowKit Go.Proofs.YtcelnpmahnblpaaW.PrintWords Go.Proofs.YtcelnpmahnblpaaW.PrintLast Go.Proofs.YtcelnpmahnblpaaW.PrintMore
attribute [local go_sem] max2_int min2_int max_two min_two max_three min_three max_four min_four   -- for this text's walks alone
set_option linter.unusedVariables false
set_option linter.unusedSimpArgs false

/-! ### impl_changed: function 57 -/
/-- Data held in block g: its cells, and three rows of the call's own, apart from each other. -/
structure Held (w0 W : World) (g : Nat) (A0 : Option Addr) (c0 : Nat) (A1 : Option Addr) (c1 : Nat) (A2 : Option Addr) (c2 : Nat) (s b c : List Int) (h n : Int) (o : ByteArray) : Prop where
  below : Below w0.heap.size w0 W
  ge : w0.heap.size ≤ g
  blk : W.heap[g]? = some (.cells #[.slice A0 s.length c0, .slice A1 b.length c1, .slice A2 c.length c2, .int .i64 h, .int .i64 n, .string o] 24 (0, 0))
  r0 : Kd.R (Kd.int .i64) 3 W w0.heap.size (fun k => some k ≠ (.slice A1 b.length c1 : Value).ownBlock ∧ some k ≠ (.slice A2 c.length c2 : Value).ownBlock) (.slice A0 s.length c0) s
  r1 : Kd.R (Kd.int .i64) 3 W w0.heap.size (fun k => some k ≠ (.slice A0 s.length c0 : Value).ownBlock ∧ some k ≠ (.slice A2 c.length c2 : Value).ownBlock) (.slice A1 b.length c1) b
  r2 : Kd.R (Kd.int .i64) 3 W w0.heap.size (fun k => some k ≠ (.slice A0 s.length c0 : Value).ownBlock ∧ some k ≠ (.slice A1 b.length c1 : Value).ownBlock) (.slice A2 c.length c2) c
/-- The same behind quiet steps that leave the old blocks alone. -/
theorem Held.step {w0 W W1 : World} {g : Nat} {A0 : Option Addr} {c0 : Nat} {A1 : Option Addr} {c1 : Nat} {A2 : Option Addr} {c2 : Nat} {s b c : List Int} {h n : Int} {o : ByteArray} (H : Held w0 W g A0 c0 A1 c1 A2 c2 s b c h n o) (hb : Below W.heap.size W W1) : Held w0 W1 g A0 c0 A1 c1 A2 c2 s b c h n o :=
  ⟨below_step H.below hb, H.ge, blk_below H.blk hb, Kd.R_below H.r0 hb, Kd.R_below H.r1 hb, Kd.R_below H.r2 hb⟩
/-- The rows behind a store into the block. -/
theorem Held.rows_set {W : World} {g : Nat} {B : Nat} {cs : Array Value} {j : Nat} {u : Value} {ok : Nat → Prop} {v : Value} {xs : List Int} (hb : W.heap[g]? = some (.cells cs 24 (0, 0))) (h : Kd.R (Kd.int .i64) 3 W B ok v xs) : Kd.R (Kd.int .i64) 3 (W.setCell ⟨g, j, none⟩ u) B ok v xs :=
  Kd.R_mono (Kd.R_far (p := ⟨g, j, none⟩) (Kd.R_types h hb (by decide)) (fun _ hk => hk.2) u) (fun _ hk => hk.1)
set_option maxHeartbeats 4000000 in
set_option maxRecDepth 100000 in
theorem push_calls (w0 W : World) (g : Nat) (A0 : Option Addr) (c0 : Nat) (A1 : Option Addr) (c1 : Nat) (A2 : Option Addr) (c2 : Nat) (s b c : List Int) (h n : Int) (o : ByteArray) (x : Int) (t : Int) (s' : List Int) (ht : ((s.length : Int) = 32 → t = -3 ∧ s' = s) ∧ (¬ (s.length : Int) = 32 → t = 0 ∧ s' = s ++ [x])) (H : Held w0 W g A0 c0 A1 c1 A2 c2 s b c h n o) (hl : s.length < 1000) :
    Calls Try.prog 67 #[.pointer (some ⟨g, 0, none⟩), .int .i64 x] W fun e W' => e = .returned (.int .i64 t) ∧ ∃ A0' c0', Held w0 W' g A0' c0' A1 c1 A2 c2 s' b c h n o := by
  have hz0 : W.cell? ⟨g, 0, none⟩ = some (.slice A0 s.length c0) := (blk_cell H.blk 0).trans rfl
  have hf0 := blk_frozen H.blk 0
  by_cases e : (s.length : Int) = 32
  · have e0 : ((s.length : Int) == 32) = true := beq_iff_eq.mpr e
    obtain ⟨rfl, rfl⟩ := ht.1 e
    have HH := Aside0.mk H
    clear H hl e ht
    go_enter Try.func67, Try.ntmps67
    go_wp2
    go_ret
    exact ⟨rfl, _, _, HH.out⟩
  · have e0 : ((s.length : Int) == 32) = false := beq_eq_false_iff_ne.mpr e
    obtain ⟨rfl, rfl⟩ := ht.2 e
    have HH := Aside0.mk H
    have HL := Aside0.mk hl
    clear H hl e ht
    go_enter Try.func67, Try.ntmps67
    go_wp2_with (first | ((with_reducible refine gate_builtin (b := .append) (xs := #[.tmp 15, .tmp 17]) rfl ?_); at_builtin; refine Kd.R_append (Kd.int .i64) (w0 := w0) w0.heap.size rfl (.tmp 15) (.tmp 17) 22 3 (.int .i64 0) 8 rfl Try.underlying22 info3 rfl (by decide) (by omega) (.slice A0 s.length c0) s x [.int .i64 x] (fun k => some k ≠ (.slice A1 b.length c1 : Value).ownBlock ∧ some k ≠ (.slice A2 c.length c2 : Value).ownBlock) (fun _ => False) rfl rfl ?aP (fun _ hk => hk.elim) ?aF ?aO ?aB ?aS ?aL ?_; (case aP => exact rfl); (case aB => exact (by repeat (first | (with_reducible first | exact HH.out.below | apply below_alloc | apply pw_below_drewN | apply below_drew1) | exact HH.out.below))); (case aF => exact (fun k_ hk => ⟨Kd.fresh' (Kd.R_lt (by (with_reducible repeat (first | apply Kd.R_alloc | apply Kd.R_drewN | apply Kd.R_drew)); exact HH.out.r1)) k_ hk, Kd.fresh' (Kd.R_lt (by (with_reducible repeat (first | apply Kd.R_alloc | apply Kd.R_drewN | apply Kd.R_drew)); exact HH.out.r2)) k_ hk⟩)); (case aO => exact (by (with_reducible repeat (first | apply Kd.R_alloc | apply Kd.R_drewN | apply Kd.R_drew)); exact HH.out.r0)); (case aS => exact (below_size (by repeat (first | (with_reducible first | exact HH.out.below | apply below_alloc | apply pw_below_drewN | apply below_drew1) | exact HH.out.below)))); (case aL => have := HL.out; omega); intro v1 w2 ho hb hg hat; have R1 := Aside0.mk (Kd.R_after (ok := (fun k => some k ≠ (.slice A2 c.length c2 : Value).ownBlock)) (by (with_reducible repeat (first | apply Kd.R_alloc | apply Kd.R_drewN | apply Kd.R_drew)); exact Kd.R_mono HH.out.r1 (fun _ hk => ⟨hk.2, hk.1⟩)) hg hat); have R2 := Aside0.mk (Kd.R_after (ok := (fun k => some k ≠ (.slice A1 b.length c1 : Value).ownBlock)) (by (with_reducible repeat (first | apply Kd.R_alloc | apply Kd.R_drewN | apply Kd.R_drew)); exact Kd.R_mono HH.out.r2 (fun _ hk => ⟨hk.2, hk.1⟩)) hg hat); have BK := Aside0.mk (blk_grown (g := g) (o := .cells #[.slice A0 s.length c0, .slice A1 b.length c1, .slice A2 c.length c2, .int .i64 h, .int .i64 n, .string o] 24 (0, 0)) (by (with_reducible repeat (first | refine blk_drewN ?_ _ | refine blk_drew ?_ | refine blk_alloc ?_ _)); exact HH.out.blk) hg (Kd.R_ne HH.out.r0 HH.out.blk (by decide))); have R0 := Aside0.mk ho; have HB := Aside0.mk hb; clear ho hb hg hat; obtain ⟨A, cc, ev⟩ := Kd.R_slice R0.out; subst ev; have hy0 : w2.cell? ⟨g, 0, none⟩ = some (.slice A0 s.length c0) := (blk_cell BK.out 0).trans rfl; have hyf := blk_frozen BK.out 0))
    go_ret
    exact ⟨rfl, A, cc, below_set HB.out HH.out.ge, HH.out.ge, blk_put BK.out 0 _ (by rw [List.length_append]; rfl), Held.rows_set BK.out (Kd.R_mono R0.out (fun _ hk => hk)), Held.rows_set BK.out (Kd.R_mono R1.out (fun _ hk => ⟨hk.2, hk.1⟩)), Held.rows_set BK.out (Kd.R_mono R2.out (fun _ hk => ⟨hk.2, hk.1⟩))⟩
set_option maxHeartbeats 4000000 in
set_option maxRecDepth 100000 in
theorem push1_calls (w0 W : World) (g q : Nat) (A0 : Option Addr) (c0 : Nat) (A1 : Option Addr) (c1 : Nat) (A2 : Option Addr) (c2 : Nat) (s b c : List Int) (h n : Int) (o : ByteArray) (x : Int) (t : Int) (s' : List Int) (ht : ((s.length : Int) = 32 → t = -3 ∧ s' = s) ∧ (¬ (s.length : Int) = 32 → t = 0 ∧ s' = s ++ [x])) (H : Held w0 W g A0 c0 A1 c1 A2 c2 s b c h n o) (hl : s.length < 1000) (hq : W.cell? ⟨q, 0, none⟩ = some (.int .i64 x)) :
    Calls Try.prog 66 #[.pointer (some ⟨g, 0, none⟩), .pointer (some ⟨q, 0, none⟩)] W fun e W' => e = .returned (.int .i64 t) ∧ ∃ A0' c0', Held w0 W' g A0' c0' A1 c1 A2 c2 s' b c h n o := by
  have HH := Aside0.mk H
  have HL := Aside0.mk hl
  have HT := Aside0.mk ht
  clear H hl ht
  go_enter Try.func66, Try.ntmps66
  go_wp2_with (first | (go_at_call 67; refine (push_calls w0 W g A0 c0 A1 c1 A2 c2 s b c h n o x t s' HT.out HH.out HL.out).mono ?_; rintro e w' ⟨rfl, hh⟩; have HF := Aside0.mk hh; clear hh))
  go_ret
  exact ⟨rfl, HF.out⟩

/-- A call of a function value that has captured variables, in a plain region. -/
theorem goesC_ {P : Program} {ops : Array Oper} {Q : Exit → Act → World → Prop} {rest : List Oper} {oi : Oper} {a : Act} {w : World} (N : Option Tmp) (hd : oi.dst = N) (hg : oi.guard = none) {f : FuncId} {fn : Func} {asx : Array Operand} {ts : Array TypeId} (c : Operand) (fr : Array Value) (hc : a.eval c = .func (.func f) #[] fr) (hf : P.funcs[f]? = some fn) (hname : (fn.name == "runtime.NumGoroutine") = false) (hb : fn.body.isSome = true) (args : Array Value)
    (hop : oi.op = .call { callee := .value c, args := asx, argTypes := ts }) (hargs : asx.map a.eval = args)
    (h : Calls P f (args ++ fr) w fun e w' => ∃ v, e = .returned v ∧ wpList P ops Q rest (a.put N v) w') : wpList P ops Q (oi :: rest) a w := by
  refine wpList_plain hg fun K hK => ?_
  have h1 : fn.name ≠ "runtime.NumGoroutine" := by simpa using hname
  have he : (callFunc f (args ++ fr)).run P w = .ok (.enter f (args ++ fr)) w := by
    obtain ⟨b, hb'⟩ := Option.isSome_iff_exists.1 hb
    simp [callFunc, hf, h1, hb']
  have hrun : (execOp a.eval oi).run P w = .ok (.enter f (args ++ fr)) w := by
    unfold execOp
    simp [hop, resolve, Deferred.ofValue, invoke, hc, hargs, he]
  unfold Oper.wp
  rw [hrun, Oper.upon_enter]
  refine h.mono fun e w'' hh => ?_
  obtain ⟨v, rfl, hk⟩ := hh
  subst hd
  exact hK _ _ hk
/-- A struct stored into a fresh block: held from then on. -/
theorem Held.store {w0 W : World} {g : Nat} {A0 : Option Addr} {c0 : Nat} {A1 : Option Addr} {c1 : Nat} {A2 : Option Addr} {c2 : Nat} {s b c : List Int} {h n : Int} {o : ByteArray} {z0 z1 z2 z3 z4 z5 : Value} (hB : Below w0.heap.size w0 W) (hg : w0.heap.size ≤ g) (hb : W.heap[g]? = some (.cells #[z0, z1, z2, z3, z4, z5] 24 (0, 0)))
    (r0 : Kd.R (Kd.int .i64) 3 W w0.heap.size (fun k => some k ≠ (.slice A1 b.length c1 : Value).ownBlock ∧ some k ≠ (.slice A2 c.length c2 : Value).ownBlock) (.slice A0 s.length c0) s)
    (r1 : Kd.R (Kd.int .i64) 3 W w0.heap.size (fun k => some k ≠ (.slice A0 s.length c0 : Value).ownBlock ∧ some k ≠ (.slice A2 c.length c2 : Value).ownBlock) (.slice A1 b.length c1) b)
    (r2 : Kd.R (Kd.int .i64) 3 W w0.heap.size (fun k => some k ≠ (.slice A0 s.length c0 : Value).ownBlock ∧ some k ≠ (.slice A1 b.length c1 : Value).ownBlock) (.slice A2 c.length c2) c) :
    Held w0 ((((((W.setCell ⟨g, 0, none⟩ (.slice A0 s.length c0)).setCell ⟨g, 1, none⟩ (.slice A1 b.length c1)).setCell ⟨g, 2, none⟩ (.slice A2 c.length c2)).setCell ⟨g, 3, none⟩ (.int .i64 h)).setCell ⟨g, 4, none⟩ (.int .i64 n)).setCell ⟨g, 5, none⟩ (.string o)) g A0 c0 A1 c1 A2 c2 s b c h n o := by
  have b1 := blk_put hb 0 (.slice A0 s.length c0) rfl
  have b2 := blk_put b1 1 (.slice A1 b.length c1) rfl
  have b3 := blk_put b2 2 (.slice A2 c.length c2) rfl
  have b4 := blk_put b3 3 (.int .i64 h) rfl
  have b5 := blk_put b4 4 (.int .i64 n) rfl
  have b6 := blk_put b5 5 (.string o) rfl
  exact ⟨below_set (below_set (below_set (below_set (below_set (below_set hB hg) hg) hg) hg) hg) hg, hg, b6,
    Held.rows_set b5 (Held.rows_set b4 (Held.rows_set b3 (Held.rows_set b2 (Held.rows_set b1 (Held.rows_set hb r0))))),
    Held.rows_set b5 (Held.rows_set b4 (Held.rows_set b3 (Held.rows_set b2 (Held.rows_set b1 (Held.rows_set hb r1))))),
    Held.rows_set b5 (Held.rows_set b4 (Held.rows_set b3 (Held.rows_set b2 (Held.rows_set b1 (Held.rows_set hb r2)))))⟩
set_option maxHeartbeats 4000000 in
set_option maxRecDepth 100000 in
/-- impl.changed, over what is known of the change. -/
theorem changed_calls (w : World) (cl : FuncId) (fnc : Func) (fr : Array Value) (hcf : Try.prog.funcs[cl]? = some fnc) (hcn : (fnc.name == "runtime.NumGoroutine") = false) (hcb : fnc.body.isSome = true)
    (A0 : Option Addr) (c0 : Nat) (A1 : Option Addr) (c1 : Nat) (A2 : Option Addr) (c2 : Nat) (s b c : List Int) (h n : Int) (o : ByteArray)
    (hr0 : Kd.C (Kd.int .i64) w A0 s.length s) (hc0 : s.length ≤ c0) (hr1 : Kd.C (Kd.int .i64) w A1 b.length b) (hc1 : b.length ≤ c1) (hr2 : Kd.C (Kd.int .i64) w A2 c.length c) (hc2 : c.length ≤ c2)
    (hcopy : impl_Data_copied.f s b c h n o = some (s, b, c, h, n, o)) (t : Int) (s' b' c' : List Int) (h' n' : Int) (o' : ByteArray)
    (hcl : ∀ (W0 W : World) (g : Nat) (B0 : Option Addr) (d0 : Nat) (B1 : Option Addr) (d1 : Nat) (B2 : Option Addr) (d2 : Nat), Below w.heap.size w W0 → Held W0 W g B0 d0 B1 d1 B2 d2 s b c h n o →
      Calls Try.prog cl (#[.pointer (some ⟨g, 0, none⟩)] ++ fr) W fun e W' => e = .returned (.int .i64 t) ∧ ∃ B0' d0' B1' d1' B2' d2', Held W0 W' g B0' d0' B1' d1' B2' d2' s' b' c' h' n' o') (ht : t = 0) :
    Calls Try.prog 57 #[.agg #[.slice A0 s.length c0, .slice A1 b.length c1, .slice A2 c.length c2, .int .i64 h, .int .i64 n, .string o], .func (.func cl) #[] fr] w fun e w' => ∃ v0 v1 v2 : Value, e = .returned (.tuple #[.agg #[v0, v1, v2, .int .i64 h', .int .i64 n', .string o'], .int .i64 t]) ∧ Kd.R (Kd.int .i64) 3 w' w.heap.size (fun k_ => some k_ ≠ (v1 : Value).ownBlock ∧ some k_ ≠ (v2 : Value).ownBlock) v0 s' ∧ Kd.R (Kd.int .i64) 3 w' w.heap.size (fun k_ => some k_ ≠ (v0 : Value).ownBlock ∧ some k_ ≠ (v2 : Value).ownBlock) v1 b' ∧ Kd.R (Kd.int .i64) 3 w' w.heap.size (fun k_ => some k_ ≠ (v0 : Value).ownBlock ∧ some k_ ≠ (v1 : Value).ownBlock) v2 c' ∧ Below w.heap.size w w' := by
  have hu24 := Try.underlying24
  have HR0 := Aside0.mk hr0
  have HR1 := Aside0.mk hr1
  have HR2 := Aside0.mk hr2
  have HC0 := Aside0.mk hc0
  have HC1 := Aside0.mk hc1
  have HC2 := Aside0.mk hc2
  have HCL := Aside0.mk hcl
  have HCO := Aside0.mk hcopy
  clear hr0 hr1 hr2 hc0 hc1 hc2 hcl hcopy
  subst ht
  go_enter Try.func57, Try.ntmps57
  go_wp2_with (first
    | ((with_reducible refine gate_dst (N := 2) rfl ?_); refine box_event ?hg (N := 2) ?hd (cs := #[.slice A0 s.length c0, .slice A1 b.length c1, .slice A2 c.length c2, .int .i64 h, .int .i64 n, .string o]) (t := 24) ?hr ?_; (case hd => rfl); (case hg => rfl); (case hr => first | (go_simp; done) | (go_simp; rfl)); intro g2 hg w1 hbox hb; have BK2 := Aside0.mk hbox; have HB := Aside0.mk hb; have GE2 := Aside0.mk (show w.heap.size ≤ g2 by rw [hg]; exact Nat.le_refl _); clear hg hbox hb)
    | ((with_reducible refine gate_dst (N := 4) rfl ?_); refine box_event ?hg (N := 4) ?hd (cs := #[.slice none 0 0, .slice none 0 0, .slice none 0 0, .int .i64 0, .int .i64 0, .string (⟨#[]⟩ : ByteArray)]) (t := 24) ?hr ?_; (case hd => rfl); (case hg => rfl); (case hr => first | (go_simp; done) | (go_simp; rfl)); intro g4 hg w2 hbox hb; have BK4 := Aside0.mk hbox; replace BK2 := Aside0.mk (blk_below BK2.out hb); have GE4 := Aside0.mk (show w.heap.size ≤ g4 by rw [hg]; exact below_size HB.out); replace HB := Aside0.mk (below_step HB.out hb); clear hg hbox hb; have hcz0 : w2.cell? ⟨g2, 0, none⟩ = some (.slice A0 s.length c0) := (blk_cell BK2.out 0).trans rfl; have hcz1 : w2.cell? ⟨g2, 1, none⟩ = some (.slice A1 b.length c1) := (blk_cell BK2.out 1).trans rfl; have hcz2 : w2.cell? ⟨g2, 2, none⟩ = some (.slice A2 c.length c2) := (blk_cell BK2.out 2).trans rfl; have hcz3 : w2.cell? ⟨g2, 3, none⟩ = some (.int .i64 h) := (blk_cell BK2.out 3).trans rfl; have hcz4 : w2.cell? ⟨g2, 4, none⟩ = some (.int .i64 n) := (blk_cell BK2.out 4).trans rfl; have hcz5 : w2.cell? ⟨g2, 5, none⟩ = some (.string o) := (blk_cell BK2.out 5).trans rfl)
    | (go_at_call 86; (with_reducible refine (impl_Data_copied.calls A0 c0 s A1 c1 b A2 c2 c h n o s b c h n o w2 (Kd.C_below HR0.out HB.out) HC0.out (Kd.C_below HR1.out HB.out) HC1.out (Kd.C_below HR2.out HB.out) HC2.out HCO.out).mono ?_); rintro e w3 ⟨v0, v1, v2, rfl, x0, x1, x2, hb⟩; have X0 := Aside0.mk x0; have X1 := Aside0.mk x1; have X2 := Aside0.mk x2; have HB2 := Aside0.mk hb; clear x0 x1 x2 hb; obtain ⟨B0, d0, e0⟩ := Kd.R_slice X0.out; subst e0; obtain ⟨B1, d1, e1⟩ := Kd.R_slice X1.out; subst e1; obtain ⟨B2, d2, e2⟩ := Kd.R_slice X2.out; subst e2)
    | ((with_reducible refine gate_dst (N := 6) rfl ?_); refine box_event ?hg (N := 6) ?hd (cs := #[.slice none 0 0, .slice none 0 0, .slice none 0 0, .int .i64 0, .int .i64 0, .string (⟨#[]⟩ : ByteArray)]) (t := 24) ?hr ?_; (case hd => rfl); (case hg => rfl); (case hr => first | (go_simp; done) | (go_simp; rfl)); intro g6 hg w4 hbox hb; have BK6 := Aside0.mk hbox; have GE6 := Aside0.mk (show w2.heap.size ≤ g6 by rw [hg]; exact below_size HB2.out); replace X0 := Aside0.mk (Kd.R_below X0.out hb); replace X1 := Aside0.mk (Kd.R_below X1.out hb); replace X2 := Aside0.mk (Kd.R_below X2.out hb); replace HB2 := Aside0.mk (below_step HB2.out hb); clear hg hbox hb; have hcx0 : w4.cell? ⟨g6, 0, none⟩ = some (.slice none 0 0) := (blk_cell BK6.out 0).trans rfl; have hcx1 : w4.cell? ⟨g6, 1, none⟩ = some (.slice none 0 0) := (blk_cell BK6.out 1).trans rfl; have hcx2 : w4.cell? ⟨g6, 2, none⟩ = some (.slice none 0 0) := (blk_cell BK6.out 2).trans rfl; have hcx3 : w4.cell? ⟨g6, 3, none⟩ = some (.int .i64 0) := (blk_cell BK6.out 3).trans rfl; have hcx4 : w4.cell? ⟨g6, 4, none⟩ = some (.int .i64 0) := (blk_cell BK6.out 4).trans rfl; have hcx5 : w4.cell? ⟨g6, 5, none⟩ = some (.string (⟨#[]⟩ : ByteArray)) := (blk_cell BK6.out 5).trans rfl; have hcxf0 := blk_frozen (BK6.out) 0; have hcxf1 := blk_frozen (BK6.out) 1; have hcxf2 := blk_frozen (BK6.out) 2; have hcxf3 := blk_frozen (BK6.out) 3; have hcxf4 := blk_frozen (BK6.out) 4; have hcxf5 := blk_frozen (BK6.out) 5)
    | ((with_reducible refine Go.Proofs.YtcelnpmahnblpaaO.gate_tmp (t := 10) rfl ?_); refine goesC_ (some 11) rfl rfl (.tmp 10) fr rfl hcf hcn hcb #[.pointer (some ⟨g6, 0, none⟩)] rfl (by (try simp only [List.map_toArray, List.map_cons, List.map_nil]); first | done | rfl) ?_; refine (HCL.out w2 _ g6 B0 d0 B1 d1 B2 d2 HB.out (Held.store HB2.out GE6.out BK6.out X0.out X1.out X2.out)).mono ?_; rintro e w5 ⟨rfl, hh⟩; refine ⟨_, rfl, ?_⟩; obtain ⟨E0, f0, E1, f1, E2, f2, HH⟩ := hh; have HF := Aside0.mk HH; have BK5 := Aside0.mk (blk_below BK4.out HH.below); clear HH; have hcy0 : w5.cell? ⟨g6, 0, none⟩ = some (.slice E0 s'.length f0) := (blk_cell HF.out.blk 0).trans rfl; have hcy1 : w5.cell? ⟨g6, 1, none⟩ = some (.slice E1 b'.length f1) := (blk_cell HF.out.blk 1).trans rfl; have hcy2 : w5.cell? ⟨g6, 2, none⟩ = some (.slice E2 c'.length f2) := (blk_cell HF.out.blk 2).trans rfl; have hcy3 : w5.cell? ⟨g6, 3, none⟩ = some (.int .i64 h') := (blk_cell HF.out.blk 3).trans rfl; have hcy4 : w5.cell? ⟨g6, 4, none⟩ = some (.int .i64 n') := (blk_cell HF.out.blk 4).trans rfl; have hcy5 : w5.cell? ⟨g6, 5, none⟩ = some (.string o') := (blk_cell HF.out.blk 5).trans rfl; have hcyf0 := blk_frozen (HF.out.blk) 0; have hcyf1 := blk_frozen (HF.out.blk) 1; have hcyf2 := blk_frozen (HF.out.blk) 2; have hcyf3 := blk_frozen (HF.out.blk) 3; have hcyf4 := blk_frozen (HF.out.blk) 4; have hcyf5 := blk_frozen (HF.out.blk) 5; have hcw0 : w5.cell? ⟨g4, 0, none⟩ = some (.slice none 0 0) := (blk_cell BK5.out 0).trans rfl; have hcw1 : w5.cell? ⟨g4, 1, none⟩ = some (.slice none 0 0) := (blk_cell BK5.out 1).trans rfl; have hcw2 : w5.cell? ⟨g4, 2, none⟩ = some (.slice none 0 0) := (blk_cell BK5.out 2).trans rfl; have hcw3 : w5.cell? ⟨g4, 3, none⟩ = some (.int .i64 0) := (blk_cell BK5.out 3).trans rfl; have hcw4 : w5.cell? ⟨g4, 4, none⟩ = some (.int .i64 0) := (blk_cell BK5.out 4).trans rfl; have hcw5 : w5.cell? ⟨g4, 5, none⟩ = some (.string (⟨#[]⟩ : ByteArray)) := (blk_cell BK5.out 5).trans rfl; have hcwf0 := blk_frozen (BK5.out) 0; have hcwf1 := blk_frozen (BK5.out) 1; have hcwf2 := blk_frozen (BK5.out) 2; have hcwf3 := blk_frozen (BK5.out) 3; have hcwf4 := blk_frozen (BK5.out) 4; have hcwf5 := blk_frozen (BK5.out) 5))
  have b1 := blk_put BK5.out 0 (.slice E0 s'.length f0) rfl
  have b2 := blk_put b1 1 (.slice E1 b'.length f1) rfl
  have b3 := blk_put b2 2 (.slice E2 c'.length f2) rfl
  have b4 := blk_put b3 3 (.int .i64 h') rfl
  have b5 := blk_put b4 4 (.int .i64 n') rfl
  have b6 := blk_put b5 5 (.string o') rfl
  have lo := below_size HB.out
  have rows : ∀ {ok : Nat → Prop} {v : Value} {xs : List Int}, Kd.R (Kd.int .i64) 3 w5 w2.heap.size ok v xs → Kd.R (Kd.int .i64) 3 ((((((w5.setCell ⟨g4, 0, none⟩ (.slice E0 s'.length f0)).setCell ⟨g4, 1, none⟩ (.slice E1 b'.length f1)).setCell ⟨g4, 2, none⟩ (.slice E2 c'.length f2)).setCell ⟨g4, 3, none⟩ (.int .i64 h')).setCell ⟨g4, 4, none⟩ (.int .i64 n')).setCell ⟨g4, 5, none⟩ (.string o')) w.heap.size ok v xs :=
    fun hh => Kd.R_lower (Held.rows_set b5 (Held.rows_set b4 (Held.rows_set b3 (Held.rows_set b2 (Held.rows_set b1 (Held.rows_set BK5.out hh)))))) lo
  refine bodyPost_ret (results_ct rfl _ _ g4 24 #[.slice E0 s'.length f0, .slice E1 b'.length f1, .slice E2 c'.length f2, .int .i64 h', .int .i64 n', .string o'] (0, 0) _ rfl b6 Try.underlying24 rfl (by kernel_rfl)) rfl ?_
  exact ⟨_, _, _, rfl, rows HF.out.r0, rows HF.out.r1, rows HF.out.r2, below_set (below_set (below_set (below_set (below_set (below_set (below_step HB.out HF.out.below) GE4.out) GE4.out) GE4.out) GE4.out) GE4.out) GE4.out⟩
set_option maxHeartbeats 4000000 in
set_option maxRecDepth 100000 in
/-- impl.changed where the change throws: a copy of what came in. -/
theorem changed_throw (w : World) (cl : FuncId) (fnc : Func) (fr : Array Value) (hcf : Try.prog.funcs[cl]? = some fnc) (hcn : (fnc.name == "runtime.NumGoroutine") = false) (hcb : fnc.body.isSome = true)
    (A0 : Option Addr) (c0 : Nat) (A1 : Option Addr) (c1 : Nat) (A2 : Option Addr) (c2 : Nat) (s b c : List Int) (h n : Int) (o : ByteArray)
    (hr0 : Kd.C (Kd.int .i64) w A0 s.length s) (hc0 : s.length ≤ c0) (hr1 : Kd.C (Kd.int .i64) w A1 b.length b) (hc1 : b.length ≤ c1) (hr2 : Kd.C (Kd.int .i64) w A2 c.length c) (hc2 : c.length ≤ c2)
    (hcopy : impl_Data_copied.f s b c h n o = some (s, b, c, h, n, o)) (t : Int) (s' b' c' : List Int) (h' n' : Int) (o' : ByteArray)
    (hcl : ∀ (W0 W : World) (g : Nat) (B0 : Option Addr) (d0 : Nat) (B1 : Option Addr) (d1 : Nat) (B2 : Option Addr) (d2 : Nat), Below w.heap.size w W0 → Held W0 W g B0 d0 B1 d1 B2 d2 s b c h n o →
      Calls Try.prog cl (#[.pointer (some ⟨g, 0, none⟩)] ++ fr) W fun e W' => e = .returned (.int .i64 t) ∧ ∃ B0' d0' B1' d1' B2' d2', Held W0 W' g B0' d0' B1' d1' B2' d2' s' b' c' h' n' o') (ht : ¬ t = 0) :
    Calls Try.prog 57 #[.agg #[.slice A0 s.length c0, .slice A1 b.length c1, .slice A2 c.length c2, .int .i64 h, .int .i64 n, .string o], .func (.func cl) #[] fr] w fun e w' => ∃ v0 v1 v2 : Value, e = .returned (.tuple #[.agg #[v0, v1, v2, .int .i64 h, .int .i64 n, .string o], .int .i64 t]) ∧ Kd.R (Kd.int .i64) 3 w' w.heap.size (fun k_ => some k_ ≠ (v1 : Value).ownBlock ∧ some k_ ≠ (v2 : Value).ownBlock) v0 s ∧ Kd.R (Kd.int .i64) 3 w' w.heap.size (fun k_ => some k_ ≠ (v0 : Value).ownBlock ∧ some k_ ≠ (v2 : Value).ownBlock) v1 b ∧ Kd.R (Kd.int .i64) 3 w' w.heap.size (fun k_ => some k_ ≠ (v0 : Value).ownBlock ∧ some k_ ≠ (v1 : Value).ownBlock) v2 c ∧ Below w.heap.size w w' := by
  have hu24 := Try.underlying24
  have HR0 := Aside0.mk hr0
  have HR1 := Aside0.mk hr1
  have HR2 := Aside0.mk hr2
  have HC0 := Aside0.mk hc0
  have HC1 := Aside0.mk hc1
  have HC2 := Aside0.mk hc2
  have HCL := Aside0.mk hcl
  have HCO := Aside0.mk hcopy
  clear hr0 hr1 hr2 hc0 hc1 hc2 hcl hcopy
  have ht0 : (t == 0) = false := beq_eq_false_iff_ne.mpr ht
  have ht1 : (t != 0) = true := bne_iff_ne.mpr ht
  clear ht
  go_enter Try.func57, Try.ntmps57
  go_wp2_with (first
    | ((with_reducible refine gate_dst (N := 2) rfl ?_); refine box_event ?hg (N := 2) ?hd (cs := #[.slice A0 s.length c0, .slice A1 b.length c1, .slice A2 c.length c2, .int .i64 h, .int .i64 n, .string o]) (t := 24) ?hr ?_; (case hd => rfl); (case hg => rfl); (case hr => first | (go_simp; done) | (go_simp; rfl)); intro g2 hg w1 hbox hb; have BK2 := Aside0.mk hbox; have HB := Aside0.mk hb; have GE2 := Aside0.mk (show w.heap.size ≤ g2 by rw [hg]; exact Nat.le_refl _); clear hg hbox hb)
    | ((with_reducible refine gate_dst (N := 4) rfl ?_); refine box_event ?hg (N := 4) ?hd (cs := #[.slice none 0 0, .slice none 0 0, .slice none 0 0, .int .i64 0, .int .i64 0, .string (⟨#[]⟩ : ByteArray)]) (t := 24) ?hr ?_; (case hd => rfl); (case hg => rfl); (case hr => first | (go_simp; done) | (go_simp; rfl)); intro g4 hg w2 hbox hb; have BK4 := Aside0.mk hbox; replace BK2 := Aside0.mk (blk_below BK2.out hb); have GE4 := Aside0.mk (show w.heap.size ≤ g4 by rw [hg]; exact below_size HB.out); replace HB := Aside0.mk (below_step HB.out hb); clear hg hbox hb; have hcz0 : w2.cell? ⟨g2, 0, none⟩ = some (.slice A0 s.length c0) := (blk_cell BK2.out 0).trans rfl; have hcz1 : w2.cell? ⟨g2, 1, none⟩ = some (.slice A1 b.length c1) := (blk_cell BK2.out 1).trans rfl; have hcz2 : w2.cell? ⟨g2, 2, none⟩ = some (.slice A2 c.length c2) := (blk_cell BK2.out 2).trans rfl; have hcz3 : w2.cell? ⟨g2, 3, none⟩ = some (.int .i64 h) := (blk_cell BK2.out 3).trans rfl; have hcz4 : w2.cell? ⟨g2, 4, none⟩ = some (.int .i64 n) := (blk_cell BK2.out 4).trans rfl; have hcz5 : w2.cell? ⟨g2, 5, none⟩ = some (.string o) := (blk_cell BK2.out 5).trans rfl)
    | (go_at_call 86; (with_reducible refine (impl_Data_copied.calls A0 c0 s A1 c1 b A2 c2 c h n o s b c h n o w2 (Kd.C_below HR0.out HB.out) HC0.out (Kd.C_below HR1.out HB.out) HC1.out (Kd.C_below HR2.out HB.out) HC2.out HCO.out).mono ?_); rintro e w3 ⟨v0, v1, v2, rfl, x0, x1, x2, hb⟩; have X0 := Aside0.mk x0; have X1 := Aside0.mk x1; have X2 := Aside0.mk x2; have HB2 := Aside0.mk hb; clear x0 x1 x2 hb; obtain ⟨B0, d0, e0⟩ := Kd.R_slice X0.out; subst e0; obtain ⟨B1, d1, e1⟩ := Kd.R_slice X1.out; subst e1; obtain ⟨B2, d2, e2⟩ := Kd.R_slice X2.out; subst e2)
    | ((with_reducible refine gate_dst (N := 6) rfl ?_); refine box_event ?hg (N := 6) ?hd (cs := #[.slice none 0 0, .slice none 0 0, .slice none 0 0, .int .i64 0, .int .i64 0, .string (⟨#[]⟩ : ByteArray)]) (t := 24) ?hr ?_; (case hd => rfl); (case hg => rfl); (case hr => first | (go_simp; done) | (go_simp; rfl)); intro g6 hg w4 hbox hb; have BK6 := Aside0.mk hbox; have GE6 := Aside0.mk (show w2.heap.size ≤ g6 by rw [hg]; exact below_size HB2.out); replace X0 := Aside0.mk (Kd.R_below X0.out hb); replace X1 := Aside0.mk (Kd.R_below X1.out hb); replace X2 := Aside0.mk (Kd.R_below X2.out hb); replace HB2 := Aside0.mk (below_step HB2.out hb); clear hg hbox hb; have hcx0 : w4.cell? ⟨g6, 0, none⟩ = some (.slice none 0 0) := (blk_cell BK6.out 0).trans rfl; have hcx1 : w4.cell? ⟨g6, 1, none⟩ = some (.slice none 0 0) := (blk_cell BK6.out 1).trans rfl; have hcx2 : w4.cell? ⟨g6, 2, none⟩ = some (.slice none 0 0) := (blk_cell BK6.out 2).trans rfl; have hcx3 : w4.cell? ⟨g6, 3, none⟩ = some (.int .i64 0) := (blk_cell BK6.out 3).trans rfl; have hcx4 : w4.cell? ⟨g6, 4, none⟩ = some (.int .i64 0) := (blk_cell BK6.out 4).trans rfl; have hcx5 : w4.cell? ⟨g6, 5, none⟩ = some (.string (⟨#[]⟩ : ByteArray)) := (blk_cell BK6.out 5).trans rfl; have hcxf0 := blk_frozen (BK6.out) 0; have hcxf1 := blk_frozen (BK6.out) 1; have hcxf2 := blk_frozen (BK6.out) 2; have hcxf3 := blk_frozen (BK6.out) 3; have hcxf4 := blk_frozen (BK6.out) 4; have hcxf5 := blk_frozen (BK6.out) 5)
    | ((with_reducible refine Go.Proofs.YtcelnpmahnblpaaO.gate_tmp (t := 10) rfl ?_); refine goesC_ (some 11) rfl rfl (.tmp 10) fr rfl hcf hcn hcb #[.pointer (some ⟨g6, 0, none⟩)] rfl (by (try simp only [List.map_toArray, List.map_cons, List.map_nil]); first | done | rfl) ?_; refine (HCL.out w2 _ g6 B0 d0 B1 d1 B2 d2 HB.out (Held.store HB2.out GE6.out BK6.out X0.out X1.out X2.out)).mono ?_; rintro e w5 ⟨rfl, hh⟩; refine ⟨_, rfl, ?_⟩; obtain ⟨E0, f0, E1, f1, E2, f2, HH⟩ := hh; have HF := Aside0.mk HH; have BK5 := Aside0.mk (blk_below BK4.out HH.below); have BK7 := Aside0.mk (blk_below BK2.out HH.below); clear HH; have hcv0 : w5.cell? ⟨g2, 0, none⟩ = some (.slice A0 s.length c0) := (blk_cell BK7.out 0).trans rfl; have hcv1 : w5.cell? ⟨g2, 1, none⟩ = some (.slice A1 b.length c1) := (blk_cell BK7.out 1).trans rfl; have hcv2 : w5.cell? ⟨g2, 2, none⟩ = some (.slice A2 c.length c2) := (blk_cell BK7.out 2).trans rfl; have hcv3 : w5.cell? ⟨g2, 3, none⟩ = some (.int .i64 h) := (blk_cell BK7.out 3).trans rfl; have hcv4 : w5.cell? ⟨g2, 4, none⟩ = some (.int .i64 n) := (blk_cell BK7.out 4).trans rfl; have hcv5 : w5.cell? ⟨g2, 5, none⟩ = some (.string o) := (blk_cell BK7.out 5).trans rfl; have hcvf0 := blk_frozen (BK7.out) 0; have hcvf1 := blk_frozen (BK7.out) 1; have hcvf2 := blk_frozen (BK7.out) 2; have hcvf3 := blk_frozen (BK7.out) 3; have hcvf4 := blk_frozen (BK7.out) 4; have hcvf5 := blk_frozen (BK7.out) 5; have hcw0 : w5.cell? ⟨g4, 0, none⟩ = some (.slice none 0 0) := (blk_cell BK5.out 0).trans rfl; have hcw1 : w5.cell? ⟨g4, 1, none⟩ = some (.slice none 0 0) := (blk_cell BK5.out 1).trans rfl; have hcw2 : w5.cell? ⟨g4, 2, none⟩ = some (.slice none 0 0) := (blk_cell BK5.out 2).trans rfl; have hcw3 : w5.cell? ⟨g4, 3, none⟩ = some (.int .i64 0) := (blk_cell BK5.out 3).trans rfl; have hcw4 : w5.cell? ⟨g4, 4, none⟩ = some (.int .i64 0) := (blk_cell BK5.out 4).trans rfl; have hcw5 : w5.cell? ⟨g4, 5, none⟩ = some (.string (⟨#[]⟩ : ByteArray)) := (blk_cell BK5.out 5).trans rfl; have hcwf0 := blk_frozen (BK5.out) 0; have hcwf1 := blk_frozen (BK5.out) 1; have hcwf2 := blk_frozen (BK5.out) 2; have hcwf3 := blk_frozen (BK5.out) 3; have hcwf4 := blk_frozen (BK5.out) 4; have hcwf5 := blk_frozen (BK5.out) 5)
    | (go_at_call 86; (with_reducible refine (impl_Data_copied.calls A0 c0 s A1 c1 b A2 c2 c h n o s b c h n o w5 (Kd.C_below HR0.out (below_step HB.out HF.out.below)) HC0.out (Kd.C_below HR1.out (below_step HB.out HF.out.below)) HC1.out (Kd.C_below HR2.out (below_step HB.out HF.out.below)) HC2.out HCO.out).mono ?_); rintro e w6 ⟨y0, y1, y2, rfl, x0, x1, x2, hb⟩; have Y0 := Aside0.mk x0; have Y1 := Aside0.mk x1; have Y2 := Aside0.mk x2; have HB6 := Aside0.mk hb; have BK8 := Aside0.mk (blk_below BK5.out hb); clear x0 x1 x2 hb; obtain ⟨E0, f0, e0⟩ := Kd.R_slice Y0.out; subst e0; obtain ⟨E1, f1, e1⟩ := Kd.R_slice Y1.out; subst e1; obtain ⟨E2, f2, e2⟩ := Kd.R_slice Y2.out; subst e2; have hcu0 : w6.cell? ⟨g4, 0, none⟩ = some (.slice none 0 0) := (blk_cell BK8.out 0).trans rfl; have hcu1 : w6.cell? ⟨g4, 1, none⟩ = some (.slice none 0 0) := (blk_cell BK8.out 1).trans rfl; have hcu2 : w6.cell? ⟨g4, 2, none⟩ = some (.slice none 0 0) := (blk_cell BK8.out 2).trans rfl; have hcu3 : w6.cell? ⟨g4, 3, none⟩ = some (.int .i64 0) := (blk_cell BK8.out 3).trans rfl; have hcu4 : w6.cell? ⟨g4, 4, none⟩ = some (.int .i64 0) := (blk_cell BK8.out 4).trans rfl; have hcu5 : w6.cell? ⟨g4, 5, none⟩ = some (.string (⟨#[]⟩ : ByteArray)) := (blk_cell BK8.out 5).trans rfl; have hcuf0 := blk_frozen (BK8.out) 0; have hcuf1 := blk_frozen (BK8.out) 1; have hcuf2 := blk_frozen (BK8.out) 2; have hcuf3 := blk_frozen (BK8.out) 3; have hcuf4 := blk_frozen (BK8.out) 4; have hcuf5 := blk_frozen (BK8.out) 5))
  have b1 := blk_put BK8.out 0 (.slice E0 s.length f0) rfl
  have b2 := blk_put b1 1 (.slice E1 b.length f1) rfl
  have b3 := blk_put b2 2 (.slice E2 c.length f2) rfl
  have b4 := blk_put b3 3 (.int .i64 h) rfl
  have b5 := blk_put b4 4 (.int .i64 n) rfl
  have b6 := blk_put b5 5 (.string o) rfl
  have hb5 := below_step HB.out HF.out.below
  have lo := below_size hb5
  have rows : ∀ {ok : Nat → Prop} {v : Value} {xs : List Int}, Kd.R (Kd.int .i64) 3 w6 w5.heap.size ok v xs → Kd.R (Kd.int .i64) 3 ((((((w6.setCell ⟨g4, 0, none⟩ (.slice E0 s.length f0)).setCell ⟨g4, 1, none⟩ (.slice E1 b.length f1)).setCell ⟨g4, 2, none⟩ (.slice E2 c.length f2)).setCell ⟨g4, 3, none⟩ (.int .i64 h)).setCell ⟨g4, 4, none⟩ (.int .i64 n)).setCell ⟨g4, 5, none⟩ (.string o)) w.heap.size ok v xs :=
    fun hh => Kd.R_lower (Held.rows_set b5 (Held.rows_set b4 (Held.rows_set b3 (Held.rows_set b2 (Held.rows_set b1 (Held.rows_set BK8.out hh)))))) lo
  refine bodyPost_ret (results_ct rfl _ _ g4 24 #[.slice E0 s.length f0, .slice E1 b.length f1, .slice E2 c.length f2, .int .i64 h, .int .i64 n, .string o] (0, 0) _ rfl b6 Try.underlying24 rfl (by kernel_rfl)) rfl ?_
  exact ⟨_, _, _, rfl, rows Y0.out, rows Y1.out, rows Y2.out, below_set (below_set (below_set (below_set (below_set (below_set (below_step hb5 HB6.out) GE4.out) GE4.out) GE4.out) GE4.out) GE4.out) GE4.out⟩

/-- impl.changed, whatever the change throws. -/
theorem changed_both (w : World) (cl : FuncId) (fnc : Func) (fr : Array Value) (hcf : Try.prog.funcs[cl]? = some fnc) (hcn : (fnc.name == "runtime.NumGoroutine") = false) (hcb : fnc.body.isSome = true)
    (A0 : Option Addr) (c0 : Nat) (A1 : Option Addr) (c1 : Nat) (A2 : Option Addr) (c2 : Nat) (s b c : List Int) (h n : Int) (o : ByteArray)
    (hr0 : Kd.C (Kd.int .i64) w A0 s.length s) (hc0 : s.length ≤ c0) (hr1 : Kd.C (Kd.int .i64) w A1 b.length b) (hc1 : b.length ≤ c1) (hr2 : Kd.C (Kd.int .i64) w A2 c.length c) (hc2 : c.length ≤ c2)
    (hcopy : impl_Data_copied.f s b c h n o = some (s, b, c, h, n, o)) (t : Int) (s' b' c' : List Int) (h' n' : Int) (o' : ByteArray) (rs rb rc : List Int) (rh rn : Int) (ro : ByteArray)
    (hcl : ∀ (W0 W : World) (g : Nat) (B0 : Option Addr) (d0 : Nat) (B1 : Option Addr) (d1 : Nat) (B2 : Option Addr) (d2 : Nat), Below w.heap.size w W0 → Held W0 W g B0 d0 B1 d1 B2 d2 s b c h n o →
      Calls Try.prog cl (#[.pointer (some ⟨g, 0, none⟩)] ++ fr) W fun e W' => e = .returned (.int .i64 t) ∧ ∃ B0' d0' B1' d1' B2' d2', Held W0 W' g B0' d0' B1' d1' B2' d2' s' b' c' h' n' o')
    (hsel : (t = 0 ∧ (rs, rb, rc, rh, rn, ro) = (s', b', c', h', n', o')) ∨ (¬ t = 0 ∧ (rs, rb, rc, rh, rn, ro) = (s, b, c, h, n, o))) :
    Calls Try.prog 57 #[.agg #[.slice A0 s.length c0, .slice A1 b.length c1, .slice A2 c.length c2, .int .i64 h, .int .i64 n, .string o], .func (.func cl) #[] fr] w fun e w' => ∃ v0 v1 v2 : Value, e = .returned (.tuple #[.agg #[v0, v1, v2, .int .i64 rh, .int .i64 rn, .string ro], .int .i64 t]) ∧ Kd.R (Kd.int .i64) 3 w' w.heap.size (fun k_ => some k_ ≠ (v1 : Value).ownBlock ∧ some k_ ≠ (v2 : Value).ownBlock) v0 rs ∧ Kd.R (Kd.int .i64) 3 w' w.heap.size (fun k_ => some k_ ≠ (v0 : Value).ownBlock ∧ some k_ ≠ (v2 : Value).ownBlock) v1 rb ∧ Kd.R (Kd.int .i64) 3 w' w.heap.size (fun k_ => some k_ ≠ (v0 : Value).ownBlock ∧ some k_ ≠ (v1 : Value).ownBlock) v2 rc ∧ Below w.heap.size w w' := by
  rcases hsel with ⟨ht, e⟩ | ⟨ht, e⟩
  · simp only [Prod.mk.injEq] at e
    obtain ⟨rfl, rfl, rfl, rfl, rfl, rfl⟩ := e
    exact changed_calls w cl fnc fr hcf hcn hcb A0 c0 A1 c1 A2 c2 s b c h n o hr0 hc0 hr1 hc1 hr2 hc2 hcopy t _ _ _ _ _ _ hcl ht
  · simp only [Prod.mk.injEq] at e
    obtain ⟨rfl, rfl, rfl, rfl, rfl, rfl⟩ := e
    exact changed_throw w cl fnc fr hcf hcn hcb A0 c0 A1 c1 A2 c2 _ _ _ _ _ _ hr0 hc0 hr1 hc1 hr2 hc2 hcopy t s' b' c' h' n' o' hcl ht
theorem copied_same {s b c : List Int} {h n : Int} {o : ByteArray} {d : List Int × List Int × List Int × Int × Int × ByteArray} (H : impl_Data_copied.f s b c h n o = some d) : impl_Data_copied.f s b c h n o = some (s, b, c, h, n, o) := by
  unfold impl_Data_copied.f slices_Clone_int.f at H ⊢
  by_cases h0 : s.length < 17592186044416
  · by_cases h1 : b.length < 17592186044416
    · by_cases h2 : c.length < 17592186044416
      · simp [h0, h1, h2]
      · simp [h0, h1, h2] at H
    · simp [h0, h1] at H
  · simp [h0] at H
/-- Held behind a store into one of its whole numbers or its text. -/
theorem Held.set3 {w0 W : World} {g : Nat} {A0 : Option Addr} {c0 : Nat} {A1 : Option Addr} {c1 : Nat} {A2 : Option Addr} {c2 : Nat} {s b c : List Int} {h n : Int} {o : ByteArray} (H : Held w0 W g A0 c0 A1 c1 A2 c2 s b c h n o) (h' : Int) : Held w0 (W.setCell ⟨g, 3, none⟩ (.int .i64 h')) g A0 c0 A1 c1 A2 c2 s b c h' n o :=
  ⟨below_set H.below H.ge, H.ge, blk_put H.blk 3 _ rfl, Held.rows_set H.blk H.r0, Held.rows_set H.blk H.r1, Held.rows_set H.blk H.r2⟩
theorem Held.set5 {w0 W : World} {g : Nat} {A0 : Option Addr} {c0 : Nat} {A1 : Option Addr} {c1 : Nat} {A2 : Option Addr} {c2 : Nat} {s b c : List Int} {h n : Int} {o : ByteArray} (H : Held w0 W g A0 c0 A1 c1 A2 c2 s b c h n o) (o' : ByteArray) : Held w0 (W.setCell ⟨g, 5, none⟩ (.string o')) g A0 c0 A1 c1 A2 c2 s b c h n o' :=
  ⟨below_set H.below H.ge, H.ge, blk_put H.blk 5 _ rfl, Held.rows_set H.blk H.r0, Held.rows_set H.blk H.r1, Held.rows_set H.blk H.r2⟩
/-- Held behind a store into its cells. -/
theorem Held.put2 {w0 W : World} {g go : Nat} {A0 : Option Addr} {c0 : Nat} {A1 : Option Addr} {c1 c2 : Nat} {s b c : List Int} {h n : Int} {o : ByteArray} (H : Held w0 W g A0 c0 A1 c1 (some ⟨go, 0, none⟩) c2 s b c h n o) (i x : Int) : Held w0 (W.setCell ⟨go, i.toNat, none⟩ (.int .i64 x)) g A0 c0 A1 c1 (some ⟨go, 0, none⟩) c2 s b (c.set i.toNat x) h n o := by
  have hge : w0.heap.size ≤ go := Kd.R_base H.r2 go rfl
  have hne : g ≠ go := by
    have h_ := Kd.R_ne H.r2 H.blk (by decide)
    intro e_
    exact h_ (by rw [e_]; rfl)
  have hlen : (c.set i.toNat x).length = c.length := List.length_set
  exact ⟨below_set H.below hge, H.ge, by rw [hlen]; exact blk_far H.blk hne _, by rw [hlen]; exact Kd.R_far H.r0 (fun k hk e_ => hk.2 (by rw [e_]; rfl)) _, by rw [hlen]; exact Kd.R_far H.r1 (fun k hk e_ => hk.2 (by rw [e_]; rfl)) _, by rw [hlen]; exact (Kd.R_putg H.r2 i x).1⟩
theorem Held.drewN {w0 W : World} {g : Nat} {A0 : Option Addr} {c0 : Nat} {A1 : Option Addr} {c1 : Nat} {A2 : Option Addr} {c2 : Nat} {s b c : List Int} {h n : Int} {o : ByteArray} (H : Held w0 W g A0 c0 A1 c1 A2 c2 s b c h n o) (m : Nat) : Held w0 (W.drewN m) g A0 c0 A1 c1 A2 c2 s b c h n o := H.step (pw_below_drewN (Below.refl _ _) m)


-- NOT PRINTED: function 62 (impl_Data_pop)

-- NOT PRINTED: function 61 (impl_Pop_1)

/-! ### impl_Pop: function 30 -/
/-- What follows a world that is as another below n. -/
theorem below_sized {n : Nat} {w W w2 : World} (h : Below n w W) (hn : n ≤ W.heap.size) (k : Below W.heap.size W w2) : Below n w w2 := h.trans (k.mono hn)
theorem below_setq {n : Nat} {w W : World} {g j : Nat} {v : Value} (h : Below n w W) (hg : n ≤ g) : Below n w (W.setCell ⟨g, j, none⟩ v) := h.setCell hg _
theorem below_at {w wq w2 : World} (e : wq.heap.size = w.heap.size) (h : Below w.heap.size wq w2) : Below wq.heap.size wq w2 := by rw [e]; exact h
theorem below_size' {w wq w2 : World} (e : wq.heap.size = w.heap.size) (h : Below w.heap.size wq w2) : w.heap.size ≤ w2.heap.size := e ▸ h.size
theorem below_both {n : Nat} {w W : World} (h : Below n w W) (p : Addr) (v : Value) : Below n (w.setCell p v) (W.setCell p v) := by
  refine ⟨h.os, h.tape, h.output, by simpa [World.setCell] using h.size, fun k hk => ?_⟩
  have e := h.block k hk
  simp only [World.setCell, Array.getElem?_modify, e]
theorem setCell_same (w : World) (p : Addr) (v : Value) : (w.setCell p v).heap.size = w.heap.size := by simp [World.setCell]
/-- A row of the call's own, behind a store into a block from before the call. -/
theorem rows_low {W : World} {B q : Nat} {u : Value} {ok : Nat → Prop} {v : Value} {xs : List Int} (h : Kd.R (Kd.int .i64) 3 W B ok v xs) (hq : q < B) : Kd.R (Kd.int .i64) 3 (W.setCell ⟨q, 0, none⟩ u) B ok v xs :=
  Kd.R_mono (Kd.R_move (Kd.R_bound h) (fun k hk => Below.heap_setCell W _ u k (by have := hk.2.1; show k ≠ q; omega))) (fun _ hk => hk.1)
theorem Held.setq {w0 W : World} {g q : Nat} {A0 : Option Addr} {c0 : Nat} {A1 : Option Addr} {c1 : Nat} {A2 : Option Addr} {c2 : Nat} {s b c : List Int} {h n : Int} {o : ByteArray} (H : Held w0 W g A0 c0 A1 c1 A2 c2 s b c h n o) (hq : q < w0.heap.size) (v : Value) : Held (w0.setCell ⟨q, 0, none⟩ v) (W.setCell ⟨q, 0, none⟩ v) g A0 c0 A1 c1 A2 c2 s b c h n o := by
  have ge := H.ge
  have e := setCell_same w0 ⟨q, 0, none⟩ v
  exact ⟨by rw [e]; exact below_both H.below _ _, by rw [e]; exact ge, blk_far H.blk (show g ≠ q by omega) v, by rw [e]; exact rows_low H.r0 hq, by rw [e]; exact rows_low H.r1 hq, by rw [e]; exact rows_low H.r2 hq⟩
theorem results_cttt {P : Program} {fn : Func} {p u v x : Tmp} {ty : TypeId} (h : fn.results = #[.cell p ty, .tmp u, .tmp v, .tmp x]) (tmps : Array Value) (w : World) (g : Nat) (t : TypeId) (cs : Array Value) (fr : Nat × Nat) (d : TypeDesc)
    (hp : tmps.getD p undef = .pointer (some ⟨g, 0, none⟩)) (hg : w.heap[g]? = some (.cells cs t fr))
    (hu : P.underlying ty = some d) (hd : (match d with | .struct _ | .array _ _ => true | _ => false) = true) (hi : (P.info? ty).map (·.size) = some cs.size) :
    (results fn tmps).run P w = .ok (.tuple #[.agg cs, tmps.getD u undef, tmps.getD v undef, tmps.getD x undef]) w := by
  have hp' : tmps[p]?.getD undef = .pointer (some ⟨g, 0, none⟩) := by simpa using hp
  simp [results, h, hp', asAddr, run_loadVar_row w g t ty cs fr d hg hu hd hi]
set_option maxHeartbeats 4000000 in
set_option maxRecDepth 100000 in
/-- (*Data).pop over held data. -/
theorem pop_calls (w0 W : World) (g : Nat) (A0 : Option Addr) (c0 : Nat) (A1 : Option Addr) (c1 : Nat) (A2 : Option Addr) (c2 : Nat) (s b c : List Int) (h n : Int) (o : ByteArray) (v t : Int) (s' : List Int) (hl : s.length < 1000)
    (ht : (s = [] ∧ v = 0 ∧ t = -4 ∧ s' = s) ∨ (0 < s.length ∧ v = rdOf 0 s ((s.length : Int) - 1) ∧ t = 0 ∧ s' = s.take (s.length - 1))) (H : Held w0 W g A0 c0 A1 c1 A2 c2 s b c h n o) :
    Calls Try.prog 62 #[.pointer (some ⟨g, 0, none⟩)] W fun e W' => e = .returned (.tuple #[.int .i64 v, .int .i64 t]) ∧ ∃ A0' c0', Held w0 W' g A0' c0' A1 c1 A2 c2 s' b c h n o := by
  have HH := Aside0.mk H
  have hz0 : W.cell? ⟨g, 0, none⟩ = some (.slice A0 s.length c0) := (blk_cell H.blk 0).trans rfl
  have hf0 := blk_frozen H.blk 0
  rcases ht with ⟨rfl, rfl, rfl, rfl⟩ | ⟨p, rfl, rfl, rfl⟩
  · clear H hl
    go_enter Try.func62, Try.ntmps62
    go_wp2
    go_ret2
    exact ⟨rfl, _, _, HH.out⟩
  · obtain ⟨go, cap, e2, gb, gl, cl, HG⟩ := Kd.R_form H.r0 p
    (first | cases e2 | (injection e2 with ea_ en_ ec_; (first | subst ea_ | (injection ea_ with ea_; subst ea_)); subst ec_; clear en_))
    obtain ⟨i, hi⟩ : ∃ i : Int, i = (s.length : Int) - 1 := ⟨_, rfl⟩
    have hw : wrap64 ((s.length : Int) - 1) = i := by rw [hi]; unfold wrap64; omega
    have q0 : 0 ≤ i := by omega
    have q1 : i < (s.length : Int) := by omega
    have q2 : i ≤ (c0 : Int) := by have := (Kd.R_reads' H.r0).2.1; omega
    obtain ⟨hx0, hfx⟩ := Kd.R_celln 0 H.r0 i q0 q1
    have e0 : decide (i < 0) = false := decide_eq_false (by omega)
    have e1 : (i < 0) = False := eq_false (by omega)
    have en : i.toNat = (s.take (s.length - 1)).length := by rw [List.length_take]; omega
    have HR := Aside0.mk (show Kd.R (Kd.int .i64) 3 W w0.heap.size (fun k => some k ≠ (.slice A1 b.length c1 : Value).ownBlock ∧ some k ≠ (.slice A2 c.length c2 : Value).ownBlock) (.slice (some ⟨go, 0, none⟩) (s.take (s.length - 1)).length c0) (s.take (s.length - 1)) from by
      have := Kd.R_take (m := s.length - 1) H.r0 (by omega)
      rw [List.length_take, Nat.min_eq_left (by omega)]
      exact this)
    have hv : rdOf 0 s ((s.length : Int) - 1) = rdOf 0 s i := by rw [hi]
    rw [hv]
    have EN := Aside0.mk en
    replace q0 := eq_true q0
    replace q1 := eq_true q1
    replace q2 := eq_true q2
    clear H gb gl HG p hl hi hv en
    go_enter Try.func62, Try.ntmps62
    go_wp2
    go_ret2
    rw [EN.out]
    exact ⟨rfl, _, c0, below_set HH.out.below HH.out.ge, HH.out.ge, blk_put HH.out.blk 0 _ rfl, Held.rows_set HH.out.blk HR.out, Held.rows_set HH.out.blk (Kd.R_mono HH.out.r1 (fun _ hk => hk)), Held.rows_set HH.out.blk (Kd.R_mono HH.out.r2 (fun _ hk => hk))⟩
set_option maxHeartbeats 4000000 in
set_option maxRecDepth 100000 in
theorem pop1_calls (w0 W : World) (g q : Nat) (A0 : Option Addr) (c0 : Nat) (A1 : Option Addr) (c1 : Nat) (A2 : Option Addr) (c2 : Nat) (s b c : List Int) (h n : Int) (o : ByteArray) (u v t : Int) (s' : List Int) (hl : s.length < 1000)
    (ht : (s = [] ∧ v = 0 ∧ t = -4 ∧ s' = s) ∨ (0 < s.length ∧ v = rdOf 0 s ((s.length : Int) - 1) ∧ t = 0 ∧ s' = s.take (s.length - 1))) (hq : w0.heap[q]? = some (.cells #[.int .i64 u] 3 (0, 0))) (H : Held w0 W g A0 c0 A1 c1 A2 c2 s b c h n o) :
    Calls Try.prog 61 #[.pointer (some ⟨g, 0, none⟩), .pointer (some ⟨q, 0, none⟩)] W fun e W' => e = .returned (.int .i64 t) ∧ ∃ A0' c0', Held (w0.setCell ⟨q, 0, none⟩ (.int .i64 v)) W' g A0' c0' A1 c1 A2 c2 s' b c h n o := by
  have HH := Aside0.mk H
  have HL := Aside0.mk hl
  have HT := Aside0.mk ht
  have HQ := Aside0.mk hq
  clear H hl ht hq
  go_enter Try.func61, Try.ntmps61
  go_wp2_with (first | (go_at_call 62; refine (pop_calls w0 W g A0 c0 A1 c1 A2 c2 s b c h n o v t s' HL.out HT.out HH.out).mono ?_; rintro e w' ⟨rfl, hh⟩; obtain ⟨A0', c0', HF⟩ := hh; have BQ := Aside0.mk (blk_below HQ.out HF.below); have hz9 : w'.cell? ⟨q, 0, none⟩ = some (.int .i64 u) := (blk_cell BQ.out 0).trans rfl; have hf9 := blk_frozen BQ.out 0; have HF := Aside0.mk HF))
  go_ret
  exact ⟨rfl, _, _, HF.out.setq (blk_lt HQ.out) _⟩
set_option maxHeartbeats 4000000 in
set_option maxRecDepth 100000 in
/-- impl.changed, over what is known of the change. -/
theorem changedQ_calls (A0 : Option Addr) (c0 : Nat) (A1 : Option Addr) (c1 : Nat) (A2 : Option Addr) (c2 : Nat) (s b c : List Int) (h n : Int) (o : ByteArray) (w wq : World) (hwq : wq.heap.size = w.heap.size) (hq0 : Kd.C (Kd.int .i64) wq A0 s.length s) (hq1 : Kd.C (Kd.int .i64) wq A1 b.length b) (hq2 : Kd.C (Kd.int .i64) wq A2 c.length c) (cl : FuncId) (fnc : Func) (fr : Array Value) (hcf : Try.prog.funcs[cl]? = some fnc) (hcn : (fnc.name == "runtime.NumGoroutine") = false) (hcb : fnc.body.isSome = true)
    (hr0 : Kd.C (Kd.int .i64) w A0 s.length s) (hc0 : s.length ≤ c0) (hr1 : Kd.C (Kd.int .i64) w A1 b.length b) (hc1 : b.length ≤ c1) (hr2 : Kd.C (Kd.int .i64) w A2 c.length c) (hc2 : c.length ≤ c2)
    (hcopy : impl_Data_copied.f s b c h n o = some (s, b, c, h, n, o)) (t : Int) (s' b' c' : List Int) (h' n' : Int) (o' : ByteArray)
    (hcl : ∀ (W0 W : World) (g : Nat) (B0 : Option Addr) (d0 : Nat) (B1 : Option Addr) (d1 : Nat) (B2 : Option Addr) (d2 : Nat), Below w.heap.size w W0 → Held W0 W g B0 d0 B1 d1 B2 d2 s b c h n o →
      Calls Try.prog cl (#[.pointer (some ⟨g, 0, none⟩)] ++ fr) W fun e W' => e = .returned (.int .i64 t) ∧ ∃ Wq : World, Below w.heap.size wq Wq ∧ Wq.heap.size = W0.heap.size ∧ (∀ k_ : Nat, w.heap.size ≤ k_ → Wq.heap[k_]? = W0.heap[k_]?) ∧ ∃ B0' d0' B1' d1' B2' d2', Held Wq W' g B0' d0' B1' d1' B2' d2' s' b' c' h' n' o') (ht : t = 0) :
    Calls Try.prog 57 #[.agg #[.slice A0 s.length c0, .slice A1 b.length c1, .slice A2 c.length c2, .int .i64 h, .int .i64 n, .string o], .func (.func cl) #[] fr] w fun e w' => ∃ v0 v1 v2 : Value, e = .returned (.tuple #[.agg #[v0, v1, v2, .int .i64 h', .int .i64 n', .string o'], .int .i64 t]) ∧ Kd.R (Kd.int .i64) 3 w' w.heap.size (fun k_ => some k_ ≠ (v1 : Value).ownBlock ∧ some k_ ≠ (v2 : Value).ownBlock) v0 s' ∧ Kd.R (Kd.int .i64) 3 w' w.heap.size (fun k_ => some k_ ≠ (v0 : Value).ownBlock ∧ some k_ ≠ (v2 : Value).ownBlock) v1 b' ∧ Kd.R (Kd.int .i64) 3 w' w.heap.size (fun k_ => some k_ ≠ (v0 : Value).ownBlock ∧ some k_ ≠ (v1 : Value).ownBlock) v2 c' ∧ Below w.heap.size wq w' := by
  have hu24 := Try.underlying24
  have HR0 := Aside0.mk hr0
  have HR1 := Aside0.mk hr1
  have HR2 := Aside0.mk hr2
  have HC0 := Aside0.mk hc0
  have HC1 := Aside0.mk hc1
  have HC2 := Aside0.mk hc2
  have HCL := Aside0.mk hcl
  have HQ0 := Aside0.mk hq0
  have HQ1 := Aside0.mk hq1
  have HQ2 := Aside0.mk hq2
  have HCO := Aside0.mk hcopy
  clear hr0 hr1 hr2 hc0 hc1 hc2 hcl hcopy hq0 hq1 hq2
  subst ht
  go_enter Try.func57, Try.ntmps57
  go_wp2_with (first
    | ((with_reducible refine gate_dst (N := 2) rfl ?_); refine box_event ?hg (N := 2) ?hd (cs := #[.slice A0 s.length c0, .slice A1 b.length c1, .slice A2 c.length c2, .int .i64 h, .int .i64 n, .string o]) (t := 24) ?hr ?_; (case hd => rfl); (case hg => rfl); (case hr => first | (go_simp; done) | (go_simp; rfl)); intro g2 hg w1 hbox hb; have BK2 := Aside0.mk hbox; have HB := Aside0.mk hb; have GE2 := Aside0.mk (show w.heap.size ≤ g2 by rw [hg]; exact Nat.le_refl _); clear hg hbox hb)
    | ((with_reducible refine gate_dst (N := 4) rfl ?_); refine box_event ?hg (N := 4) ?hd (cs := #[.slice none 0 0, .slice none 0 0, .slice none 0 0, .int .i64 0, .int .i64 0, .string (⟨#[]⟩ : ByteArray)]) (t := 24) ?hr ?_; (case hd => rfl); (case hg => rfl); (case hr => first | (go_simp; done) | (go_simp; rfl)); intro g4 hg w2 hbox hb; have BK4 := Aside0.mk hbox; replace BK2 := Aside0.mk (blk_below BK2.out hb); have GE4 := Aside0.mk (show w.heap.size ≤ g4 by rw [hg]; exact below_size HB.out); replace HB := Aside0.mk (below_step HB.out hb); clear hg hbox hb; have hcz0 : w2.cell? ⟨g2, 0, none⟩ = some (.slice A0 s.length c0) := (blk_cell BK2.out 0).trans rfl; have hcz1 : w2.cell? ⟨g2, 1, none⟩ = some (.slice A1 b.length c1) := (blk_cell BK2.out 1).trans rfl; have hcz2 : w2.cell? ⟨g2, 2, none⟩ = some (.slice A2 c.length c2) := (blk_cell BK2.out 2).trans rfl; have hcz3 : w2.cell? ⟨g2, 3, none⟩ = some (.int .i64 h) := (blk_cell BK2.out 3).trans rfl; have hcz4 : w2.cell? ⟨g2, 4, none⟩ = some (.int .i64 n) := (blk_cell BK2.out 4).trans rfl; have hcz5 : w2.cell? ⟨g2, 5, none⟩ = some (.string o) := (blk_cell BK2.out 5).trans rfl)
    | (go_at_call 86; (with_reducible refine (impl_Data_copied.calls A0 c0 s A1 c1 b A2 c2 c h n o s b c h n o w2 (Kd.C_below HR0.out HB.out) HC0.out (Kd.C_below HR1.out HB.out) HC1.out (Kd.C_below HR2.out HB.out) HC2.out HCO.out).mono ?_); rintro e w3 ⟨v0, v1, v2, rfl, x0, x1, x2, hb⟩; have X0 := Aside0.mk x0; have X1 := Aside0.mk x1; have X2 := Aside0.mk x2; have HB2 := Aside0.mk hb; clear x0 x1 x2 hb; obtain ⟨B0, d0, e0⟩ := Kd.R_slice X0.out; subst e0; obtain ⟨B1, d1, e1⟩ := Kd.R_slice X1.out; subst e1; obtain ⟨B2, d2, e2⟩ := Kd.R_slice X2.out; subst e2)
    | ((with_reducible refine gate_dst (N := 6) rfl ?_); refine box_event ?hg (N := 6) ?hd (cs := #[.slice none 0 0, .slice none 0 0, .slice none 0 0, .int .i64 0, .int .i64 0, .string (⟨#[]⟩ : ByteArray)]) (t := 24) ?hr ?_; (case hd => rfl); (case hg => rfl); (case hr => first | (go_simp; done) | (go_simp; rfl)); intro g6 hg w4 hbox hb; have BK6 := Aside0.mk hbox; have GE6 := Aside0.mk (show w2.heap.size ≤ g6 by rw [hg]; exact below_size HB2.out); replace X0 := Aside0.mk (Kd.R_below X0.out hb); replace X1 := Aside0.mk (Kd.R_below X1.out hb); replace X2 := Aside0.mk (Kd.R_below X2.out hb); replace HB2 := Aside0.mk (below_step HB2.out hb); clear hg hbox hb; have hcx0 : w4.cell? ⟨g6, 0, none⟩ = some (.slice none 0 0) := (blk_cell BK6.out 0).trans rfl; have hcx1 : w4.cell? ⟨g6, 1, none⟩ = some (.slice none 0 0) := (blk_cell BK6.out 1).trans rfl; have hcx2 : w4.cell? ⟨g6, 2, none⟩ = some (.slice none 0 0) := (blk_cell BK6.out 2).trans rfl; have hcx3 : w4.cell? ⟨g6, 3, none⟩ = some (.int .i64 0) := (blk_cell BK6.out 3).trans rfl; have hcx4 : w4.cell? ⟨g6, 4, none⟩ = some (.int .i64 0) := (blk_cell BK6.out 4).trans rfl; have hcx5 : w4.cell? ⟨g6, 5, none⟩ = some (.string (⟨#[]⟩ : ByteArray)) := (blk_cell BK6.out 5).trans rfl; have hcxf0 := blk_frozen (BK6.out) 0; have hcxf1 := blk_frozen (BK6.out) 1; have hcxf2 := blk_frozen (BK6.out) 2; have hcxf3 := blk_frozen (BK6.out) 3; have hcxf4 := blk_frozen (BK6.out) 4; have hcxf5 := blk_frozen (BK6.out) 5)
    | ((with_reducible refine Go.Proofs.YtcelnpmahnblpaaO.gate_tmp (t := 10) rfl ?_); refine goesC_ (some 11) rfl rfl (.tmp 10) fr rfl hcf hcn hcb #[.pointer (some ⟨g6, 0, none⟩)] rfl (by (try simp only [List.map_toArray, List.map_cons, List.map_nil]); first | done | rfl) ?_; refine (HCL.out w2 _ g6 B0 d0 B1 d1 B2 d2 HB.out (Held.store HB2.out GE6.out BK6.out X0.out X1.out X2.out)).mono ?_; rintro e w5 ⟨rfl, hh⟩; refine ⟨_, rfl, ?_⟩; obtain ⟨Wq, hQ1, hQ2, hQ3, E0, f0, E1, f1, E2, f2, HH⟩ := hh; have HBQ := Aside0.mk (below_sized hQ1 (show w.heap.size ≤ Wq.heap.size by rw [hQ2]; exact below_size HB.out) HH.below); have LO := Aside0.mk (show w.heap.size ≤ Wq.heap.size by rw [hQ2]; exact below_size HB.out); have HF := Aside0.mk HH; have BK5 := Aside0.mk (blk_below ((hQ3 g4 GE4.out).trans BK4.out) HH.below); clear HH hQ1 hQ2 hQ3; have hcy0 : w5.cell? ⟨g6, 0, none⟩ = some (.slice E0 s'.length f0) := (blk_cell HF.out.blk 0).trans rfl; have hcy1 : w5.cell? ⟨g6, 1, none⟩ = some (.slice E1 b'.length f1) := (blk_cell HF.out.blk 1).trans rfl; have hcy2 : w5.cell? ⟨g6, 2, none⟩ = some (.slice E2 c'.length f2) := (blk_cell HF.out.blk 2).trans rfl; have hcy3 : w5.cell? ⟨g6, 3, none⟩ = some (.int .i64 h') := (blk_cell HF.out.blk 3).trans rfl; have hcy4 : w5.cell? ⟨g6, 4, none⟩ = some (.int .i64 n') := (blk_cell HF.out.blk 4).trans rfl; have hcy5 : w5.cell? ⟨g6, 5, none⟩ = some (.string o') := (blk_cell HF.out.blk 5).trans rfl; have hcyf0 := blk_frozen (HF.out.blk) 0; have hcyf1 := blk_frozen (HF.out.blk) 1; have hcyf2 := blk_frozen (HF.out.blk) 2; have hcyf3 := blk_frozen (HF.out.blk) 3; have hcyf4 := blk_frozen (HF.out.blk) 4; have hcyf5 := blk_frozen (HF.out.blk) 5; have hcw0 : w5.cell? ⟨g4, 0, none⟩ = some (.slice none 0 0) := (blk_cell BK5.out 0).trans rfl; have hcw1 : w5.cell? ⟨g4, 1, none⟩ = some (.slice none 0 0) := (blk_cell BK5.out 1).trans rfl; have hcw2 : w5.cell? ⟨g4, 2, none⟩ = some (.slice none 0 0) := (blk_cell BK5.out 2).trans rfl; have hcw3 : w5.cell? ⟨g4, 3, none⟩ = some (.int .i64 0) := (blk_cell BK5.out 3).trans rfl; have hcw4 : w5.cell? ⟨g4, 4, none⟩ = some (.int .i64 0) := (blk_cell BK5.out 4).trans rfl; have hcw5 : w5.cell? ⟨g4, 5, none⟩ = some (.string (⟨#[]⟩ : ByteArray)) := (blk_cell BK5.out 5).trans rfl; have hcwf0 := blk_frozen (BK5.out) 0; have hcwf1 := blk_frozen (BK5.out) 1; have hcwf2 := blk_frozen (BK5.out) 2; have hcwf3 := blk_frozen (BK5.out) 3; have hcwf4 := blk_frozen (BK5.out) 4; have hcwf5 := blk_frozen (BK5.out) 5))
  have b1 := blk_put BK5.out 0 (.slice E0 s'.length f0) rfl
  have b2 := blk_put b1 1 (.slice E1 b'.length f1) rfl
  have b3 := blk_put b2 2 (.slice E2 c'.length f2) rfl
  have b4 := blk_put b3 3 (.int .i64 h') rfl
  have b5 := blk_put b4 4 (.int .i64 n') rfl
  have b6 := blk_put b5 5 (.string o') rfl
  have lo := LO.out
  have rows : ∀ {ok : Nat → Prop} {v : Value} {xs : List Int}, Kd.R (Kd.int .i64) 3 w5 Wq.heap.size ok v xs → Kd.R (Kd.int .i64) 3 ((((((w5.setCell ⟨g4, 0, none⟩ (.slice E0 s'.length f0)).setCell ⟨g4, 1, none⟩ (.slice E1 b'.length f1)).setCell ⟨g4, 2, none⟩ (.slice E2 c'.length f2)).setCell ⟨g4, 3, none⟩ (.int .i64 h')).setCell ⟨g4, 4, none⟩ (.int .i64 n')).setCell ⟨g4, 5, none⟩ (.string o')) w.heap.size ok v xs :=
    fun hh => Kd.R_lower (Held.rows_set b5 (Held.rows_set b4 (Held.rows_set b3 (Held.rows_set b2 (Held.rows_set b1 (Held.rows_set BK5.out hh)))))) lo
  refine bodyPost_ret (results_ct rfl _ _ g4 24 #[.slice E0 s'.length f0, .slice E1 b'.length f1, .slice E2 c'.length f2, .int .i64 h', .int .i64 n', .string o'] (0, 0) _ rfl b6 Try.underlying24 rfl (by kernel_rfl)) rfl ?_
  exact ⟨_, _, _, rfl, rows HF.out.r0, rows HF.out.r1, rows HF.out.r2, below_setq (below_setq (below_setq (below_setq (below_setq (below_setq HBQ.out GE4.out) GE4.out) GE4.out) GE4.out) GE4.out) GE4.out⟩
set_option maxHeartbeats 4000000 in
set_option maxRecDepth 100000 in
/-- impl.changed where the change throws: a copy of what came in. -/
theorem changedQ_throw (A0 : Option Addr) (c0 : Nat) (A1 : Option Addr) (c1 : Nat) (A2 : Option Addr) (c2 : Nat) (s b c : List Int) (h n : Int) (o : ByteArray) (w wq : World) (hwq : wq.heap.size = w.heap.size) (hq0 : Kd.C (Kd.int .i64) wq A0 s.length s) (hq1 : Kd.C (Kd.int .i64) wq A1 b.length b) (hq2 : Kd.C (Kd.int .i64) wq A2 c.length c) (cl : FuncId) (fnc : Func) (fr : Array Value) (hcf : Try.prog.funcs[cl]? = some fnc) (hcn : (fnc.name == "runtime.NumGoroutine") = false) (hcb : fnc.body.isSome = true)
    (hr0 : Kd.C (Kd.int .i64) w A0 s.length s) (hc0 : s.length ≤ c0) (hr1 : Kd.C (Kd.int .i64) w A1 b.length b) (hc1 : b.length ≤ c1) (hr2 : Kd.C (Kd.int .i64) w A2 c.length c) (hc2 : c.length ≤ c2)
    (hcopy : impl_Data_copied.f s b c h n o = some (s, b, c, h, n, o)) (t : Int) (s' b' c' : List Int) (h' n' : Int) (o' : ByteArray)
    (hcl : ∀ (W0 W : World) (g : Nat) (B0 : Option Addr) (d0 : Nat) (B1 : Option Addr) (d1 : Nat) (B2 : Option Addr) (d2 : Nat), Below w.heap.size w W0 → Held W0 W g B0 d0 B1 d1 B2 d2 s b c h n o →
      Calls Try.prog cl (#[.pointer (some ⟨g, 0, none⟩)] ++ fr) W fun e W' => e = .returned (.int .i64 t) ∧ ∃ Wq : World, Below w.heap.size wq Wq ∧ Wq.heap.size = W0.heap.size ∧ (∀ k_ : Nat, w.heap.size ≤ k_ → Wq.heap[k_]? = W0.heap[k_]?) ∧ ∃ B0' d0' B1' d1' B2' d2', Held Wq W' g B0' d0' B1' d1' B2' d2' s' b' c' h' n' o') (ht : ¬ t = 0) :
    Calls Try.prog 57 #[.agg #[.slice A0 s.length c0, .slice A1 b.length c1, .slice A2 c.length c2, .int .i64 h, .int .i64 n, .string o], .func (.func cl) #[] fr] w fun e w' => ∃ v0 v1 v2 : Value, e = .returned (.tuple #[.agg #[v0, v1, v2, .int .i64 h, .int .i64 n, .string o], .int .i64 t]) ∧ Kd.R (Kd.int .i64) 3 w' w.heap.size (fun k_ => some k_ ≠ (v1 : Value).ownBlock ∧ some k_ ≠ (v2 : Value).ownBlock) v0 s ∧ Kd.R (Kd.int .i64) 3 w' w.heap.size (fun k_ => some k_ ≠ (v0 : Value).ownBlock ∧ some k_ ≠ (v2 : Value).ownBlock) v1 b ∧ Kd.R (Kd.int .i64) 3 w' w.heap.size (fun k_ => some k_ ≠ (v0 : Value).ownBlock ∧ some k_ ≠ (v1 : Value).ownBlock) v2 c ∧ Below w.heap.size wq w' := by
  have hu24 := Try.underlying24
  have HR0 := Aside0.mk hr0
  have HR1 := Aside0.mk hr1
  have HR2 := Aside0.mk hr2
  have HC0 := Aside0.mk hc0
  have HC1 := Aside0.mk hc1
  have HC2 := Aside0.mk hc2
  have HCL := Aside0.mk hcl
  have HQ0 := Aside0.mk hq0
  have HQ1 := Aside0.mk hq1
  have HQ2 := Aside0.mk hq2
  have HCO := Aside0.mk hcopy
  clear hr0 hr1 hr2 hc0 hc1 hc2 hcl hcopy hq0 hq1 hq2
  have ht0 : (t == 0) = false := beq_eq_false_iff_ne.mpr ht
  have ht1 : (t != 0) = true := bne_iff_ne.mpr ht
  clear ht
  go_enter Try.func57, Try.ntmps57
  go_wp2_with (first
    | ((with_reducible refine gate_dst (N := 2) rfl ?_); refine box_event ?hg (N := 2) ?hd (cs := #[.slice A0 s.length c0, .slice A1 b.length c1, .slice A2 c.length c2, .int .i64 h, .int .i64 n, .string o]) (t := 24) ?hr ?_; (case hd => rfl); (case hg => rfl); (case hr => first | (go_simp; done) | (go_simp; rfl)); intro g2 hg w1 hbox hb; have BK2 := Aside0.mk hbox; have HB := Aside0.mk hb; have GE2 := Aside0.mk (show w.heap.size ≤ g2 by rw [hg]; exact Nat.le_refl _); clear hg hbox hb)
    | ((with_reducible refine gate_dst (N := 4) rfl ?_); refine box_event ?hg (N := 4) ?hd (cs := #[.slice none 0 0, .slice none 0 0, .slice none 0 0, .int .i64 0, .int .i64 0, .string (⟨#[]⟩ : ByteArray)]) (t := 24) ?hr ?_; (case hd => rfl); (case hg => rfl); (case hr => first | (go_simp; done) | (go_simp; rfl)); intro g4 hg w2 hbox hb; have BK4 := Aside0.mk hbox; replace BK2 := Aside0.mk (blk_below BK2.out hb); have GE4 := Aside0.mk (show w.heap.size ≤ g4 by rw [hg]; exact below_size HB.out); replace HB := Aside0.mk (below_step HB.out hb); clear hg hbox hb; have hcz0 : w2.cell? ⟨g2, 0, none⟩ = some (.slice A0 s.length c0) := (blk_cell BK2.out 0).trans rfl; have hcz1 : w2.cell? ⟨g2, 1, none⟩ = some (.slice A1 b.length c1) := (blk_cell BK2.out 1).trans rfl; have hcz2 : w2.cell? ⟨g2, 2, none⟩ = some (.slice A2 c.length c2) := (blk_cell BK2.out 2).trans rfl; have hcz3 : w2.cell? ⟨g2, 3, none⟩ = some (.int .i64 h) := (blk_cell BK2.out 3).trans rfl; have hcz4 : w2.cell? ⟨g2, 4, none⟩ = some (.int .i64 n) := (blk_cell BK2.out 4).trans rfl; have hcz5 : w2.cell? ⟨g2, 5, none⟩ = some (.string o) := (blk_cell BK2.out 5).trans rfl)
    | (go_at_call 86; (with_reducible refine (impl_Data_copied.calls A0 c0 s A1 c1 b A2 c2 c h n o s b c h n o w2 (Kd.C_below HR0.out HB.out) HC0.out (Kd.C_below HR1.out HB.out) HC1.out (Kd.C_below HR2.out HB.out) HC2.out HCO.out).mono ?_); rintro e w3 ⟨v0, v1, v2, rfl, x0, x1, x2, hb⟩; have X0 := Aside0.mk x0; have X1 := Aside0.mk x1; have X2 := Aside0.mk x2; have HB2 := Aside0.mk hb; clear x0 x1 x2 hb; obtain ⟨B0, d0, e0⟩ := Kd.R_slice X0.out; subst e0; obtain ⟨B1, d1, e1⟩ := Kd.R_slice X1.out; subst e1; obtain ⟨B2, d2, e2⟩ := Kd.R_slice X2.out; subst e2)
    | ((with_reducible refine gate_dst (N := 6) rfl ?_); refine box_event ?hg (N := 6) ?hd (cs := #[.slice none 0 0, .slice none 0 0, .slice none 0 0, .int .i64 0, .int .i64 0, .string (⟨#[]⟩ : ByteArray)]) (t := 24) ?hr ?_; (case hd => rfl); (case hg => rfl); (case hr => first | (go_simp; done) | (go_simp; rfl)); intro g6 hg w4 hbox hb; have BK6 := Aside0.mk hbox; have GE6 := Aside0.mk (show w2.heap.size ≤ g6 by rw [hg]; exact below_size HB2.out); replace X0 := Aside0.mk (Kd.R_below X0.out hb); replace X1 := Aside0.mk (Kd.R_below X1.out hb); replace X2 := Aside0.mk (Kd.R_below X2.out hb); replace HB2 := Aside0.mk (below_step HB2.out hb); clear hg hbox hb; have hcx0 : w4.cell? ⟨g6, 0, none⟩ = some (.slice none 0 0) := (blk_cell BK6.out 0).trans rfl; have hcx1 : w4.cell? ⟨g6, 1, none⟩ = some (.slice none 0 0) := (blk_cell BK6.out 1).trans rfl; have hcx2 : w4.cell? ⟨g6, 2, none⟩ = some (.slice none 0 0) := (blk_cell BK6.out 2).trans rfl; have hcx3 : w4.cell? ⟨g6, 3, none⟩ = some (.int .i64 0) := (blk_cell BK6.out 3).trans rfl; have hcx4 : w4.cell? ⟨g6, 4, none⟩ = some (.int .i64 0) := (blk_cell BK6.out 4).trans rfl; have hcx5 : w4.cell? ⟨g6, 5, none⟩ = some (.string (⟨#[]⟩ : ByteArray)) := (blk_cell BK6.out 5).trans rfl; have hcxf0 := blk_frozen (BK6.out) 0; have hcxf1 := blk_frozen (BK6.out) 1; have hcxf2 := blk_frozen (BK6.out) 2; have hcxf3 := blk_frozen (BK6.out) 3; have hcxf4 := blk_frozen (BK6.out) 4; have hcxf5 := blk_frozen (BK6.out) 5)
    | ((with_reducible refine Go.Proofs.YtcelnpmahnblpaaO.gate_tmp (t := 10) rfl ?_); refine goesC_ (some 11) rfl rfl (.tmp 10) fr rfl hcf hcn hcb #[.pointer (some ⟨g6, 0, none⟩)] rfl (by (try simp only [List.map_toArray, List.map_cons, List.map_nil]); first | done | rfl) ?_; refine (HCL.out w2 _ g6 B0 d0 B1 d1 B2 d2 HB.out (Held.store HB2.out GE6.out BK6.out X0.out X1.out X2.out)).mono ?_; rintro e w5 ⟨rfl, hh⟩; refine ⟨_, rfl, ?_⟩; obtain ⟨Wq, hQ1, hQ2, hQ3, E0, f0, E1, f1, E2, f2, HH⟩ := hh; have HBQ := Aside0.mk (below_sized hQ1 (show w.heap.size ≤ Wq.heap.size by rw [hQ2]; exact below_size HB.out) HH.below); have LO := Aside0.mk (show w.heap.size ≤ Wq.heap.size by rw [hQ2]; exact below_size HB.out); have HF := Aside0.mk HH; have BK5 := Aside0.mk (blk_below ((hQ3 g4 GE4.out).trans BK4.out) HH.below); have BK7 := Aside0.mk (blk_below ((hQ3 g2 GE2.out).trans BK2.out) HH.below); clear HH hQ1 hQ2 hQ3; have hcv0 : w5.cell? ⟨g2, 0, none⟩ = some (.slice A0 s.length c0) := (blk_cell BK7.out 0).trans rfl; have hcv1 : w5.cell? ⟨g2, 1, none⟩ = some (.slice A1 b.length c1) := (blk_cell BK7.out 1).trans rfl; have hcv2 : w5.cell? ⟨g2, 2, none⟩ = some (.slice A2 c.length c2) := (blk_cell BK7.out 2).trans rfl; have hcv3 : w5.cell? ⟨g2, 3, none⟩ = some (.int .i64 h) := (blk_cell BK7.out 3).trans rfl; have hcv4 : w5.cell? ⟨g2, 4, none⟩ = some (.int .i64 n) := (blk_cell BK7.out 4).trans rfl; have hcv5 : w5.cell? ⟨g2, 5, none⟩ = some (.string o) := (blk_cell BK7.out 5).trans rfl; have hcvf0 := blk_frozen (BK7.out) 0; have hcvf1 := blk_frozen (BK7.out) 1; have hcvf2 := blk_frozen (BK7.out) 2; have hcvf3 := blk_frozen (BK7.out) 3; have hcvf4 := blk_frozen (BK7.out) 4; have hcvf5 := blk_frozen (BK7.out) 5; have hcw0 : w5.cell? ⟨g4, 0, none⟩ = some (.slice none 0 0) := (blk_cell BK5.out 0).trans rfl; have hcw1 : w5.cell? ⟨g4, 1, none⟩ = some (.slice none 0 0) := (blk_cell BK5.out 1).trans rfl; have hcw2 : w5.cell? ⟨g4, 2, none⟩ = some (.slice none 0 0) := (blk_cell BK5.out 2).trans rfl; have hcw3 : w5.cell? ⟨g4, 3, none⟩ = some (.int .i64 0) := (blk_cell BK5.out 3).trans rfl; have hcw4 : w5.cell? ⟨g4, 4, none⟩ = some (.int .i64 0) := (blk_cell BK5.out 4).trans rfl; have hcw5 : w5.cell? ⟨g4, 5, none⟩ = some (.string (⟨#[]⟩ : ByteArray)) := (blk_cell BK5.out 5).trans rfl; have hcwf0 := blk_frozen (BK5.out) 0; have hcwf1 := blk_frozen (BK5.out) 1; have hcwf2 := blk_frozen (BK5.out) 2; have hcwf3 := blk_frozen (BK5.out) 3; have hcwf4 := blk_frozen (BK5.out) 4; have hcwf5 := blk_frozen (BK5.out) 5)
    | (go_at_call 86; (with_reducible refine (impl_Data_copied.calls A0 c0 s A1 c1 b A2 c2 c h n o s b c h n o w5 (Kd.C_below HQ0.out (below_at hwq HBQ.out)) HC0.out (Kd.C_below HQ1.out (below_at hwq HBQ.out)) HC1.out (Kd.C_below HQ2.out (below_at hwq HBQ.out)) HC2.out HCO.out).mono ?_); rintro e w6 ⟨y0, y1, y2, rfl, x0, x1, x2, hb⟩; have Y0 := Aside0.mk x0; have Y1 := Aside0.mk x1; have Y2 := Aside0.mk x2; have HB6 := Aside0.mk hb; have BK8 := Aside0.mk (blk_below BK5.out hb); clear x0 x1 x2 hb; obtain ⟨E0, f0, e0⟩ := Kd.R_slice Y0.out; subst e0; obtain ⟨E1, f1, e1⟩ := Kd.R_slice Y1.out; subst e1; obtain ⟨E2, f2, e2⟩ := Kd.R_slice Y2.out; subst e2; have hcu0 : w6.cell? ⟨g4, 0, none⟩ = some (.slice none 0 0) := (blk_cell BK8.out 0).trans rfl; have hcu1 : w6.cell? ⟨g4, 1, none⟩ = some (.slice none 0 0) := (blk_cell BK8.out 1).trans rfl; have hcu2 : w6.cell? ⟨g4, 2, none⟩ = some (.slice none 0 0) := (blk_cell BK8.out 2).trans rfl; have hcu3 : w6.cell? ⟨g4, 3, none⟩ = some (.int .i64 0) := (blk_cell BK8.out 3).trans rfl; have hcu4 : w6.cell? ⟨g4, 4, none⟩ = some (.int .i64 0) := (blk_cell BK8.out 4).trans rfl; have hcu5 : w6.cell? ⟨g4, 5, none⟩ = some (.string (⟨#[]⟩ : ByteArray)) := (blk_cell BK8.out 5).trans rfl; have hcuf0 := blk_frozen (BK8.out) 0; have hcuf1 := blk_frozen (BK8.out) 1; have hcuf2 := blk_frozen (BK8.out) 2; have hcuf3 := blk_frozen (BK8.out) 3; have hcuf4 := blk_frozen (BK8.out) 4; have hcuf5 := blk_frozen (BK8.out) 5))
  have b1 := blk_put BK8.out 0 (.slice E0 s.length f0) rfl
  have b2 := blk_put b1 1 (.slice E1 b.length f1) rfl
  have b3 := blk_put b2 2 (.slice E2 c.length f2) rfl
  have b4 := blk_put b3 3 (.int .i64 h) rfl
  have b5 := blk_put b4 4 (.int .i64 n) rfl
  have b6 := blk_put b5 5 (.string o) rfl
  have hb5 := HBQ.out
  have lo := below_size' hwq hb5
  have rows : ∀ {ok : Nat → Prop} {v : Value} {xs : List Int}, Kd.R (Kd.int .i64) 3 w6 w5.heap.size ok v xs → Kd.R (Kd.int .i64) 3 ((((((w6.setCell ⟨g4, 0, none⟩ (.slice E0 s.length f0)).setCell ⟨g4, 1, none⟩ (.slice E1 b.length f1)).setCell ⟨g4, 2, none⟩ (.slice E2 c.length f2)).setCell ⟨g4, 3, none⟩ (.int .i64 h)).setCell ⟨g4, 4, none⟩ (.int .i64 n)).setCell ⟨g4, 5, none⟩ (.string o)) w.heap.size ok v xs :=
    fun hh => Kd.R_lower (Held.rows_set b5 (Held.rows_set b4 (Held.rows_set b3 (Held.rows_set b2 (Held.rows_set b1 (Held.rows_set BK8.out hh)))))) lo
  refine bodyPost_ret (results_ct rfl _ _ g4 24 #[.slice E0 s.length f0, .slice E1 b.length f1, .slice E2 c.length f2, .int .i64 h, .int .i64 n, .string o] (0, 0) _ rfl b6 Try.underlying24 rfl (by kernel_rfl)) rfl ?_
  exact ⟨_, _, _, rfl, rows Y0.out, rows Y1.out, rows Y2.out, below_setq (below_setq (below_setq (below_setq (below_setq (below_setq (below_sized hb5 lo HB6.out) GE4.out) GE4.out) GE4.out) GE4.out) GE4.out) GE4.out⟩

/-- impl.changed, whatever the change throws. -/
theorem changedQ_both (A0 : Option Addr) (c0 : Nat) (A1 : Option Addr) (c1 : Nat) (A2 : Option Addr) (c2 : Nat) (s b c : List Int) (h n : Int) (o : ByteArray) (w wq : World) (hwq : wq.heap.size = w.heap.size) (hq0 : Kd.C (Kd.int .i64) wq A0 s.length s) (hq1 : Kd.C (Kd.int .i64) wq A1 b.length b) (hq2 : Kd.C (Kd.int .i64) wq A2 c.length c) (cl : FuncId) (fnc : Func) (fr : Array Value) (hcf : Try.prog.funcs[cl]? = some fnc) (hcn : (fnc.name == "runtime.NumGoroutine") = false) (hcb : fnc.body.isSome = true)
    (hr0 : Kd.C (Kd.int .i64) w A0 s.length s) (hc0 : s.length ≤ c0) (hr1 : Kd.C (Kd.int .i64) w A1 b.length b) (hc1 : b.length ≤ c1) (hr2 : Kd.C (Kd.int .i64) w A2 c.length c) (hc2 : c.length ≤ c2)
    (hcopy : impl_Data_copied.f s b c h n o = some (s, b, c, h, n, o)) (t : Int) (s' b' c' : List Int) (h' n' : Int) (o' : ByteArray) (rs rb rc : List Int) (rh rn : Int) (ro : ByteArray)
    (hcl : ∀ (W0 W : World) (g : Nat) (B0 : Option Addr) (d0 : Nat) (B1 : Option Addr) (d1 : Nat) (B2 : Option Addr) (d2 : Nat), Below w.heap.size w W0 → Held W0 W g B0 d0 B1 d1 B2 d2 s b c h n o →
      Calls Try.prog cl (#[.pointer (some ⟨g, 0, none⟩)] ++ fr) W fun e W' => e = .returned (.int .i64 t) ∧ ∃ Wq : World, Below w.heap.size wq Wq ∧ Wq.heap.size = W0.heap.size ∧ (∀ k_ : Nat, w.heap.size ≤ k_ → Wq.heap[k_]? = W0.heap[k_]?) ∧ ∃ B0' d0' B1' d1' B2' d2', Held Wq W' g B0' d0' B1' d1' B2' d2' s' b' c' h' n' o')
    (hsel : (t = 0 ∧ (rs, rb, rc, rh, rn, ro) = (s', b', c', h', n', o')) ∨ (¬ t = 0 ∧ (rs, rb, rc, rh, rn, ro) = (s, b, c, h, n, o))) :
    Calls Try.prog 57 #[.agg #[.slice A0 s.length c0, .slice A1 b.length c1, .slice A2 c.length c2, .int .i64 h, .int .i64 n, .string o], .func (.func cl) #[] fr] w fun e w' => ∃ v0 v1 v2 : Value, e = .returned (.tuple #[.agg #[v0, v1, v2, .int .i64 rh, .int .i64 rn, .string ro], .int .i64 t]) ∧ Kd.R (Kd.int .i64) 3 w' w.heap.size (fun k_ => some k_ ≠ (v1 : Value).ownBlock ∧ some k_ ≠ (v2 : Value).ownBlock) v0 rs ∧ Kd.R (Kd.int .i64) 3 w' w.heap.size (fun k_ => some k_ ≠ (v0 : Value).ownBlock ∧ some k_ ≠ (v2 : Value).ownBlock) v1 rb ∧ Kd.R (Kd.int .i64) 3 w' w.heap.size (fun k_ => some k_ ≠ (v0 : Value).ownBlock ∧ some k_ ≠ (v1 : Value).ownBlock) v2 rc ∧ Below w.heap.size wq w' := by
  rcases hsel with ⟨ht, e⟩ | ⟨ht, e⟩
  · simp only [Prod.mk.injEq] at e
    obtain ⟨rfl, rfl, rfl, rfl, rfl, rfl⟩ := e
    exact changedQ_calls A0 c0 A1 c1 A2 c2 s b c h n o w wq hwq hq0 hq1 hq2 cl fnc fr hcf hcn hcb hr0 hc0 hr1 hc1 hr2 hc2 hcopy t _ _ _ _ _ _ hcl ht
  · simp only [Prod.mk.injEq] at e
    obtain ⟨rfl, rfl, rfl, rfl, rfl, rfl⟩ := e
    exact changedQ_throw A0 c0 A1 c1 A2 c2 _ _ _ _ _ _ w wq hwq hq0 hq1 hq2 cl fnc fr hcf hcn hcb hr0 hc0 hr1 hc1 hr2 hc2 hcopy t s' b' c' h' n' o' hcl ht
set_option maxHeartbeats 8000000 in
set_option maxRecDepth 100000 in
theorem Pop_run (k : Nat) (A0 : Option Addr) (c0 : Nat) (A1 : Option Addr) (c1 : Nat) (A2 : Option Addr) (c2 : Nat) (s b c : List Int) (h n : Int) (o : ByteArray) (v t : Int) (s' b' c' : List Int) (h' n' : Int) (o' : ByteArray) (rs rb rc : List Int) (rh rn : Int) (ro : ByteArray) (w : World) (hr0 : Kd.C (Kd.int .i64) w A0 s.length s) (hc0 : s.length ≤ c0) (hr1 : Kd.C (Kd.int .i64) w A1 b.length b) (hc1 : b.length ≤ c1) (hr2 : Kd.C (Kd.int .i64) w A2 c.length c) (hc2 : c.length ≤ c2) (hk : impl_DataOK.f k s b c h n o = some true) (hcopy : impl_Data_copied.f s b c h n o = some (s, b, c, h, n, o)) (hcl : ∀ (q : Nat) (W0 W : World) (g : Nat) (B0 : Option Addr) (d0 : Nat) (B1 : Option Addr) (d1 : Nat) (B2 : Option Addr) (d2 : Nat), W0.heap[q]? = some (.cells #[.int .i64 0] 3 (0, 0)) → Held W0 W g B0 d0 B1 d1 B2 d2 s b c h n o → Calls Try.prog 61 #[.pointer (some ⟨g, 0, none⟩), .pointer (some ⟨q, 0, none⟩)] W fun e W' => e = .returned (.int .i64 t) ∧ ∃ B0' d0' B1' d1' B2' d2', Held (W0.setCell ⟨q, 0, none⟩ (.int .i64 v)) W' g B0' d0' B1' d1' B2' d2' s' b' c' h' n' o') (hsel : (t = 0 ∧ (rs, rb, rc, rh, rn, ro) = (s', b', c', h', n', o')) ∨ (¬ t = 0 ∧ (rs, rb, rc, rh, rn, ro) = (s, b, c, h, n, o))) :
    Calls Try.prog 30 #[.agg #[.slice A0 s.length c0, .slice A1 b.length c1, .slice A2 c.length c2, .int .i64 h, .int .i64 n, .string o]] w fun e w' => ∃ v0 v1 v2 : Value, e = .returned (.tuple #[.agg #[v0, v1, v2, .int .i64 rh, .int .i64 rn, .string ro], .int .i64 v, .int .i64 t, .int .i64 0]) ∧ Kd.R (Kd.int .i64) 3 w' w.heap.size (fun k_ => some k_ ≠ (v1 : Value).ownBlock ∧ some k_ ≠ (v2 : Value).ownBlock) v0 rs ∧ Kd.R (Kd.int .i64) 3 w' w.heap.size (fun k_ => some k_ ≠ (v0 : Value).ownBlock ∧ some k_ ≠ (v2 : Value).ownBlock) v1 rb ∧ Kd.R (Kd.int .i64) 3 w' w.heap.size (fun k_ => some k_ ≠ (v0 : Value).ownBlock ∧ some k_ ≠ (v1 : Value).ownBlock) v2 rc ∧ Below w.heap.size w w' := by
  have hu24 := Try.underlying24
  have HR0 := Aside0.mk hr0
  have HR1 := Aside0.mk hr1
  have HR2 := Aside0.mk hr2
  have HC0 := Aside0.mk hc0
  have HC1 := Aside0.mk hc1
  have HC2 := Aside0.mk hc2
  have HK := Aside0.mk hk
  have HCO := Aside0.mk hcopy
  have HCL := Aside0.mk hcl
  have HSEL := Aside0.mk hsel
  have HB := Aside0.mk (Below.refl w.heap.size w)
  clear hr0 hr1 hr2 hc0 hc1 hc2 hcopy hcl hsel hk
  go_enter Try.func30, Try.ntmps30
  go_wp2_with (first
    | ((with_reducible refine gate_dst (N := 1) rfl ?_); refine box_event ?hg (N := 1) ?hd (cs := #[.slice A0 s.length c0, .slice A1 b.length c1, .slice A2 c.length c2, .int .i64 h, .int .i64 n, .string o]) (t := 24) ?hr ?_; (case hd => rfl); (case hg => rfl); (case hr => first | (go_simp; done) | (go_simp; rfl)); intro g1 hg w1 hbox hb; have BKg1 := Aside0.mk hbox; have GEg1 := Aside0.mk (show w.heap.size ≤ g1 by rw [hg]; exact (below_size HB.out)); replace HB := Aside0.mk (below_step HB.out hb); clear hg hbox hb; have hq1 : w1.cell? ⟨g1, 0, none⟩ = some (.slice A0 s.length c0) := (blk_cell BKg1.out 0).trans rfl; have hz1 := blk_frozen (BKg1.out) 0; have hq2 : w1.cell? ⟨g1, 1, none⟩ = some (.slice A1 b.length c1) := (blk_cell BKg1.out 1).trans rfl; have hz2 := blk_frozen (BKg1.out) 1; have hq3 : w1.cell? ⟨g1, 2, none⟩ = some (.slice A2 c.length c2) := (blk_cell BKg1.out 2).trans rfl; have hz3 := blk_frozen (BKg1.out) 2; have hq4 : w1.cell? ⟨g1, 3, none⟩ = some (.int .i64 h) := (blk_cell BKg1.out 3).trans rfl; have hz4 := blk_frozen (BKg1.out) 3; have hq5 : w1.cell? ⟨g1, 4, none⟩ = some (.int .i64 n) := (blk_cell BKg1.out 4).trans rfl; have hz5 := blk_frozen (BKg1.out) 4; have hq6 : w1.cell? ⟨g1, 5, none⟩ = some (.string o) := (blk_cell BKg1.out 5).trans rfl; have hz6 := blk_frozen (BKg1.out) 5)
    | ((with_reducible refine gate_dst (N := 2) rfl ?_); refine box_event ?hg (N := 2) ?hd (cs := #[.slice none 0 0, .slice none 0 0, .slice none 0 0, .int .i64 0, .int .i64 0, .string (⟨#[]⟩ : ByteArray)]) (t := 24) ?hr ?_; (case hd => rfl); (case hg => rfl); (case hr => first | (go_simp; done) | (go_simp; rfl)); intro g2 hg w2 hbox hb; have BKg2 := Aside0.mk hbox; have GEg2 := Aside0.mk (show w.heap.size ≤ g2 by rw [hg]; exact (below_size HB.out)); have neg2_g1 : g2 ≠ g1 := (by rw [hg]; exact Nat.ne_of_gt (blk_lt BKg1.out)); have neg1_g2 : g1 ≠ g2 := neg2_g1.symm; replace BKg1 := Aside0.mk (blk_below BKg1.out hb); replace HB := Aside0.mk (below_step HB.out hb); clear hg hbox hb; have hq7 : w2.cell? ⟨g1, 0, none⟩ = some (.slice A0 s.length c0) := (blk_cell BKg1.out 0).trans rfl; have hz7 := blk_frozen (BKg1.out) 0; have hq8 : w2.cell? ⟨g1, 1, none⟩ = some (.slice A1 b.length c1) := (blk_cell BKg1.out 1).trans rfl; have hz8 := blk_frozen (BKg1.out) 1; have hq9 : w2.cell? ⟨g1, 2, none⟩ = some (.slice A2 c.length c2) := (blk_cell BKg1.out 2).trans rfl; have hz9 := blk_frozen (BKg1.out) 2; have hq10 : w2.cell? ⟨g1, 3, none⟩ = some (.int .i64 h) := (blk_cell BKg1.out 3).trans rfl; have hz10 := blk_frozen (BKg1.out) 3; have hq11 : w2.cell? ⟨g1, 4, none⟩ = some (.int .i64 n) := (blk_cell BKg1.out 4).trans rfl; have hz11 := blk_frozen (BKg1.out) 4; have hq12 : w2.cell? ⟨g1, 5, none⟩ = some (.string o) := (blk_cell BKg1.out 5).trans rfl; have hz12 := blk_frozen (BKg1.out) 5; have hq13 : w2.cell? ⟨g2, 0, none⟩ = some (.slice none 0 0) := (blk_cell BKg2.out 0).trans rfl; have hz13 := blk_frozen (BKg2.out) 0; have hq14 : w2.cell? ⟨g2, 1, none⟩ = some (.slice none 0 0) := (blk_cell BKg2.out 1).trans rfl; have hz14 := blk_frozen (BKg2.out) 1; have hq15 : w2.cell? ⟨g2, 2, none⟩ = some (.slice none 0 0) := (blk_cell BKg2.out 2).trans rfl; have hz15 := blk_frozen (BKg2.out) 2; have hq16 : w2.cell? ⟨g2, 3, none⟩ = some (.int .i64 0) := (blk_cell BKg2.out 3).trans rfl; have hz16 := blk_frozen (BKg2.out) 3; have hq17 : w2.cell? ⟨g2, 4, none⟩ = some (.int .i64 0) := (blk_cell BKg2.out 4).trans rfl; have hz17 := blk_frozen (BKg2.out) 4; have hq18 : w2.cell? ⟨g2, 5, none⟩ = some (.string (⟨#[]⟩ : ByteArray)) := (blk_cell BKg2.out 5).trans rfl; have hz18 := blk_frozen (BKg2.out) 5)
    | (go_at_call 22; (with_reducible refine (impl_DataOK.calls k A0 c0 s A1 c1 b A2 c2 c h n o true w2 (Kd.C_below HR0.out HB.out) HC0.out (Kd.C_below HR1.out HB.out) HC1.out (Kd.C_below HR2.out HB.out) HC2.out HK.out).mono ?_); rintro e w3 ⟨rfl, hb⟩; replace BKg1 := Aside0.mk (blk_below BKg1.out hb); replace BKg2 := Aside0.mk (blk_below BKg2.out hb); replace HB := Aside0.mk (below_step HB.out hb); clear hb; have hq19 : w3.cell? ⟨g1, 0, none⟩ = some (.slice A0 s.length c0) := (blk_cell BKg1.out 0).trans rfl; have hz19 := blk_frozen (BKg1.out) 0; have hq20 : w3.cell? ⟨g1, 1, none⟩ = some (.slice A1 b.length c1) := (blk_cell BKg1.out 1).trans rfl; have hz20 := blk_frozen (BKg1.out) 1; have hq21 : w3.cell? ⟨g1, 2, none⟩ = some (.slice A2 c.length c2) := (blk_cell BKg1.out 2).trans rfl; have hz21 := blk_frozen (BKg1.out) 2; have hq22 : w3.cell? ⟨g1, 3, none⟩ = some (.int .i64 h) := (blk_cell BKg1.out 3).trans rfl; have hz22 := blk_frozen (BKg1.out) 3; have hq23 : w3.cell? ⟨g1, 4, none⟩ = some (.int .i64 n) := (blk_cell BKg1.out 4).trans rfl; have hz23 := blk_frozen (BKg1.out) 4; have hq24 : w3.cell? ⟨g1, 5, none⟩ = some (.string o) := (blk_cell BKg1.out 5).trans rfl; have hz24 := blk_frozen (BKg1.out) 5; have hq25 : w3.cell? ⟨g2, 0, none⟩ = some (.slice none 0 0) := (blk_cell BKg2.out 0).trans rfl; have hz25 := blk_frozen (BKg2.out) 0; have hq26 : w3.cell? ⟨g2, 1, none⟩ = some (.slice none 0 0) := (blk_cell BKg2.out 1).trans rfl; have hz26 := blk_frozen (BKg2.out) 1; have hq27 : w3.cell? ⟨g2, 2, none⟩ = some (.slice none 0 0) := (blk_cell BKg2.out 2).trans rfl; have hz27 := blk_frozen (BKg2.out) 2; have hq28 : w3.cell? ⟨g2, 3, none⟩ = some (.int .i64 0) := (blk_cell BKg2.out 3).trans rfl; have hz28 := blk_frozen (BKg2.out) 3; have hq29 : w3.cell? ⟨g2, 4, none⟩ = some (.int .i64 0) := (blk_cell BKg2.out 4).trans rfl; have hz29 := blk_frozen (BKg2.out) 4; have hq30 : w3.cell? ⟨g2, 5, none⟩ = some (.string (⟨#[]⟩ : ByteArray)) := (blk_cell BKg2.out 5).trans rfl; have hz30 := blk_frozen (BKg2.out) 5)
    | ((with_reducible refine gate_dst (N := 6) rfl ?_); refine box_event ?hg (N := 6) ?hd (cs := #[.int .i64 0]) (t := 3) ?hr ?_; (case hd => rfl); (case hg => rfl); (case hr => first | (go_simp; done) | (go_simp; rfl)); intro q_ hg w4 hbox hb; have BKq_ := Aside0.mk hbox; have GEq_ := Aside0.mk (show w.heap.size ≤ q_ by rw [hg]; exact (below_size HB.out)); have neq__g1 : q_ ≠ g1 := (by rw [hg]; exact Nat.ne_of_gt (blk_lt BKg1.out)); have neg1_q_ : g1 ≠ q_ := neq__g1.symm; have neq__g2 : q_ ≠ g2 := (by rw [hg]; exact Nat.ne_of_gt (blk_lt BKg2.out)); have neg2_q_ : g2 ≠ q_ := neq__g2.symm; replace BKg1 := Aside0.mk (blk_below BKg1.out hb); replace BKg2 := Aside0.mk (blk_below BKg2.out hb); replace HB := Aside0.mk (below_step HB.out hb); clear hg hbox hb; have hq31 : w4.cell? ⟨g1, 0, none⟩ = some (.slice A0 s.length c0) := (blk_cell BKg1.out 0).trans rfl; have hz31 := blk_frozen (BKg1.out) 0; have hq32 : w4.cell? ⟨g1, 1, none⟩ = some (.slice A1 b.length c1) := (blk_cell BKg1.out 1).trans rfl; have hz32 := blk_frozen (BKg1.out) 1; have hq33 : w4.cell? ⟨g1, 2, none⟩ = some (.slice A2 c.length c2) := (blk_cell BKg1.out 2).trans rfl; have hz33 := blk_frozen (BKg1.out) 2; have hq34 : w4.cell? ⟨g1, 3, none⟩ = some (.int .i64 h) := (blk_cell BKg1.out 3).trans rfl; have hz34 := blk_frozen (BKg1.out) 3; have hq35 : w4.cell? ⟨g1, 4, none⟩ = some (.int .i64 n) := (blk_cell BKg1.out 4).trans rfl; have hz35 := blk_frozen (BKg1.out) 4; have hq36 : w4.cell? ⟨g1, 5, none⟩ = some (.string o) := (blk_cell BKg1.out 5).trans rfl; have hz36 := blk_frozen (BKg1.out) 5; have hq37 : w4.cell? ⟨g2, 0, none⟩ = some (.slice none 0 0) := (blk_cell BKg2.out 0).trans rfl; have hz37 := blk_frozen (BKg2.out) 0; have hq38 : w4.cell? ⟨g2, 1, none⟩ = some (.slice none 0 0) := (blk_cell BKg2.out 1).trans rfl; have hz38 := blk_frozen (BKg2.out) 1; have hq39 : w4.cell? ⟨g2, 2, none⟩ = some (.slice none 0 0) := (blk_cell BKg2.out 2).trans rfl; have hz39 := blk_frozen (BKg2.out) 2; have hq40 : w4.cell? ⟨g2, 3, none⟩ = some (.int .i64 0) := (blk_cell BKg2.out 3).trans rfl; have hz40 := blk_frozen (BKg2.out) 3; have hq41 : w4.cell? ⟨g2, 4, none⟩ = some (.int .i64 0) := (blk_cell BKg2.out 4).trans rfl; have hz41 := blk_frozen (BKg2.out) 4; have hq42 : w4.cell? ⟨g2, 5, none⟩ = some (.string (⟨#[]⟩ : ByteArray)) := (blk_cell BKg2.out 5).trans rfl; have hz42 := blk_frozen (BKg2.out) 5; have hq43 : w4.cell? ⟨q_, 0, none⟩ = some (.int .i64 0) := (blk_cell BKq_.out 0).trans rfl; have hz43 := blk_frozen (BKq_.out) 0)
    | (go_at_call 57; replace BKg1 := Aside0.mk (blk_far (p := ⟨q_, 0, none⟩) BKg1.out neg1_q_ (.int .i64 0)); replace BKg2 := Aside0.mk (blk_far (p := ⟨q_, 0, none⟩) BKg2.out neg2_q_ (.int .i64 0)); replace BKq_ := Aside0.mk (blk_put (cs' := #[.int .i64 0]) BKq_.out 0 (.int .i64 0) rfl); replace HB := Aside0.mk (below_set (j := 0) (v := .int .i64 0) HB.out GEq_.out); refine (changedQ_both A0 c0 A1 c1 A2 c2 s b c h n o (w4.setCell ⟨q_, 0, none⟩ (.int .i64 0)) ((w4.setCell ⟨q_, 0, none⟩ (.int .i64 0)).setCell ⟨q_, 0, none⟩ (.int .i64 v)) (setCell_same _ _ _) (Kd.C_below HR0.out (below_set HB.out GEq_.out)) (Kd.C_below HR1.out (below_set HB.out GEq_.out)) (Kd.C_below HR2.out (below_set HB.out GEq_.out)) 61 Try.f61 #[.pointer (some ⟨q_, 0, none⟩)] Try.func61 rfl rfl (Kd.C_below HR0.out HB.out) HC0.out (Kd.C_below HR1.out HB.out) HC1.out (Kd.C_below HR2.out HB.out) HC2.out HCO.out t s' b' c' h' n' o' rs rb rc rh rn ro (fun W0 W g B0 d0 B1 d1 B2 d2 hb0 hh => (HCL.out q_ W0 W g B0 d0 B1 d1 B2 d2 (blk_below BKq_.out hb0) hh).mono (fun e W' hx => ⟨hx.1, W0.setCell ⟨q_, 0, none⟩ (.int .i64 v), below_both hb0 _ _, setCell_same _ _ _, (fun k_ hk_ => Below.heap_setCell _ _ _ k_ (Nat.ne_of_gt (Nat.lt_of_lt_of_le (blk_lt BKq_.out) hk_))), hx.2⟩)) HSEL.out).mono ?_; rintro e w5 ⟨v0, v1, v2, rfl, x0, x1, x2, hb⟩; have X0 := Aside0.mk (Kd.R_lower x0 (below_size HB.out)); have X1 := Aside0.mk (Kd.R_lower x1 (below_size HB.out)); have X2 := Aside0.mk (Kd.R_lower x2 (below_size HB.out)); clear x0 x1 x2; replace hb := below_at (setCell_same _ _ _) hb; replace BKg1 := Aside0.mk (blk_below (blk_far (p := ⟨q_, 0, none⟩) BKg1.out neg1_q_ (.int .i64 v)) hb); replace BKg2 := Aside0.mk (blk_below (blk_far (p := ⟨q_, 0, none⟩) BKg2.out neg2_q_ (.int .i64 v)) hb); replace BKq_ := Aside0.mk (blk_below (blk_put (cs' := #[.int .i64 v]) BKq_.out 0 (.int .i64 v) rfl) hb); replace HB := Aside0.mk (below_step (below_set (j := 0) (v := .int .i64 v) HB.out GEq_.out) hb); clear hb; obtain ⟨E0, f0, e0⟩ := Kd.R_slice X0.out; subst e0; obtain ⟨E1, f1, e1⟩ := Kd.R_slice X1.out; subst e1; obtain ⟨E2, f2, e2⟩ := Kd.R_slice X2.out; subst e2)
    | ((with_reducible refine gate_dst (N := 7) rfl ?_); refine box_event ?hg (N := 7) ?hd (cs := #[.slice none 0 0, .slice none 0 0, .slice none 0 0, .int .i64 0, .int .i64 0, .string (⟨#[]⟩ : ByteArray)]) (t := 24) ?hr ?_; (case hd => rfl); (case hg => rfl); (case hr => first | (go_simp; done) | (go_simp; rfl)); intro g7 hg w6 hbox hb; have BKg7 := Aside0.mk hbox; have GEg7 := Aside0.mk (show w.heap.size ≤ g7 by rw [hg]; exact (below_size HB.out)); have neg7_g1 : g7 ≠ g1 := (by rw [hg]; exact Nat.ne_of_gt (blk_lt BKg1.out)); have neg1_g7 : g1 ≠ g7 := neg7_g1.symm; have neg7_g2 : g7 ≠ g2 := (by rw [hg]; exact Nat.ne_of_gt (blk_lt BKg2.out)); have neg2_g7 : g2 ≠ g7 := neg7_g2.symm; have neg7_q_ : g7 ≠ q_ := (by rw [hg]; exact Nat.ne_of_gt (blk_lt BKq_.out)); have neq__g7 : q_ ≠ g7 := neg7_q_.symm; replace BKg1 := Aside0.mk (blk_below BKg1.out hb); replace BKg2 := Aside0.mk (blk_below BKg2.out hb); replace BKq_ := Aside0.mk (blk_below BKq_.out hb); replace X0 := Aside0.mk (Kd.R_below X0.out hb); replace X1 := Aside0.mk (Kd.R_below X1.out hb); replace X2 := Aside0.mk (Kd.R_below X2.out hb); replace HB := Aside0.mk (below_step HB.out hb); clear hg hbox hb; have hq44 : w6.cell? ⟨g1, 0, none⟩ = some (.slice A0 s.length c0) := (blk_cell BKg1.out 0).trans rfl; have hz44 := blk_frozen (BKg1.out) 0; have hq45 : w6.cell? ⟨g1, 1, none⟩ = some (.slice A1 b.length c1) := (blk_cell BKg1.out 1).trans rfl; have hz45 := blk_frozen (BKg1.out) 1; have hq46 : w6.cell? ⟨g1, 2, none⟩ = some (.slice A2 c.length c2) := (blk_cell BKg1.out 2).trans rfl; have hz46 := blk_frozen (BKg1.out) 2; have hq47 : w6.cell? ⟨g1, 3, none⟩ = some (.int .i64 h) := (blk_cell BKg1.out 3).trans rfl; have hz47 := blk_frozen (BKg1.out) 3; have hq48 : w6.cell? ⟨g1, 4, none⟩ = some (.int .i64 n) := (blk_cell BKg1.out 4).trans rfl; have hz48 := blk_frozen (BKg1.out) 4; have hq49 : w6.cell? ⟨g1, 5, none⟩ = some (.string o) := (blk_cell BKg1.out 5).trans rfl; have hz49 := blk_frozen (BKg1.out) 5; have hq50 : w6.cell? ⟨g2, 0, none⟩ = some (.slice none 0 0) := (blk_cell BKg2.out 0).trans rfl; have hz50 := blk_frozen (BKg2.out) 0; have hq51 : w6.cell? ⟨g2, 1, none⟩ = some (.slice none 0 0) := (blk_cell BKg2.out 1).trans rfl; have hz51 := blk_frozen (BKg2.out) 1; have hq52 : w6.cell? ⟨g2, 2, none⟩ = some (.slice none 0 0) := (blk_cell BKg2.out 2).trans rfl; have hz52 := blk_frozen (BKg2.out) 2; have hq53 : w6.cell? ⟨g2, 3, none⟩ = some (.int .i64 0) := (blk_cell BKg2.out 3).trans rfl; have hz53 := blk_frozen (BKg2.out) 3; have hq54 : w6.cell? ⟨g2, 4, none⟩ = some (.int .i64 0) := (blk_cell BKg2.out 4).trans rfl; have hz54 := blk_frozen (BKg2.out) 4; have hq55 : w6.cell? ⟨g2, 5, none⟩ = some (.string (⟨#[]⟩ : ByteArray)) := (blk_cell BKg2.out 5).trans rfl; have hz55 := blk_frozen (BKg2.out) 5; have hq56 : w6.cell? ⟨q_, 0, none⟩ = some (.int .i64 v) := (blk_cell BKq_.out 0).trans rfl; have hz56 := blk_frozen (BKq_.out) 0; have hq57 : w6.cell? ⟨g7, 0, none⟩ = some (.slice none 0 0) := (blk_cell BKg7.out 0).trans rfl; have hz57 := blk_frozen (BKg7.out) 0; have hq58 : w6.cell? ⟨g7, 1, none⟩ = some (.slice none 0 0) := (blk_cell BKg7.out 1).trans rfl; have hz58 := blk_frozen (BKg7.out) 1; have hq59 : w6.cell? ⟨g7, 2, none⟩ = some (.slice none 0 0) := (blk_cell BKg7.out 2).trans rfl; have hz59 := blk_frozen (BKg7.out) 2; have hq60 : w6.cell? ⟨g7, 3, none⟩ = some (.int .i64 0) := (blk_cell BKg7.out 3).trans rfl; have hz60 := blk_frozen (BKg7.out) 3; have hq61 : w6.cell? ⟨g7, 4, none⟩ = some (.int .i64 0) := (blk_cell BKg7.out 4).trans rfl; have hz61 := blk_frozen (BKg7.out) 4; have hq62 : w6.cell? ⟨g7, 5, none⟩ = some (.string (⟨#[]⟩ : ByteArray)) := (blk_cell BKg7.out 5).trans rfl; have hz62 := blk_frozen (BKg7.out) 5))
  have a1 := blk_put BKg7.out 0 (.slice E0 rs.length f0) rfl
  have a2 := blk_put a1 1 (.slice E1 rb.length f1) rfl
  have a3 := blk_put a2 2 (.slice E2 rc.length f2) rfl
  have a4 := blk_put a3 3 (.int .i64 rh) rfl
  have a5 := blk_put a4 4 (.int .i64 rn) rfl
  have a6 := blk_put a5 5 (.string ro) rfl
  have rows : ∀ {ok : Nat → Prop} {v : Value} {xs : List Int}, Kd.R (Kd.int .i64) 3 w6 w.heap.size ok v xs → Kd.R (Kd.int .i64) 3 (World.drew ((((((w6.setCell ⟨g7, 0, none⟩ (.slice E0 rs.length f0)).setCell ⟨g7, 1, none⟩ (.slice E1 rb.length f1)).setCell ⟨g7, 2, none⟩ (.slice E2 rc.length f2)).setCell ⟨g7, 3, none⟩ (.int .i64 rh)).setCell ⟨g7, 4, none⟩ (.int .i64 rn)).setCell ⟨g7, 5, none⟩ (.string ro))) w.heap.size ok v xs := fun hh => Kd.R_drew (Held.rows_set a5 (Held.rows_set a4 (Held.rows_set a3 (Held.rows_set a2 (Held.rows_set a1 (Held.rows_set BKg7.out hh))))))
  have Y0 := Aside0.mk (rows X0.out)
  have Y1 := Aside0.mk (rows X1.out)
  have Y2 := Aside0.mk (rows X2.out)
  have F7 := Aside0.mk (blk_drew a6)
  have FQ := Aside0.mk (blk_drew (blk_far (p := ⟨g7, 5, none⟩) (blk_far (p := ⟨g7, 4, none⟩) (blk_far (p := ⟨g7, 3, none⟩) (blk_far (p := ⟨g7, 2, none⟩) (blk_far (p := ⟨g7, 1, none⟩) (blk_far (p := ⟨g7, 0, none⟩) BKq_.out neq__g7 (.slice E0 rs.length f0)) neq__g7 (.slice E1 rb.length f1)) neq__g7 (.slice E2 rc.length f2)) neq__g7 (.int .i64 rh)) neq__g7 (.int .i64 rn)) neq__g7 (.string ro)))
  have FR := Aside0.mk (blk_drew (blk_far (p := ⟨g7, 5, none⟩) (blk_far (p := ⟨g7, 4, none⟩) (blk_far (p := ⟨g7, 3, none⟩) (blk_far (p := ⟨g7, 2, none⟩) (blk_far (p := ⟨g7, 1, none⟩) (blk_far (p := ⟨g7, 0, none⟩) BKg2.out neg2_g7 (.slice E0 rs.length f0)) neg2_g7 (.slice E1 rb.length f1)) neg2_g7 (.slice E2 rc.length f2)) neg2_g7 (.int .i64 rh)) neg2_g7 (.int .i64 rn)) neg2_g7 (.string ro)))
  have HD := Aside0.mk (show Below w.heap.size w (World.drew ((((((w6.setCell ⟨g7, 0, none⟩ (.slice E0 rs.length f0)).setCell ⟨g7, 1, none⟩ (.slice E1 rb.length f1)).setCell ⟨g7, 2, none⟩ (.slice E2 rc.length f2)).setCell ⟨g7, 3, none⟩ (.int .i64 rh)).setCell ⟨g7, 4, none⟩ (.int .i64 rn)).setCell ⟨g7, 5, none⟩ (.string ro))) from below_drew1 (below_set (below_set (below_set (below_set (below_set (below_set HB.out GEg7.out) GEg7.out) GEg7.out) GEg7.out) GEg7.out) GEg7.out))
  refine start_ (n := 7) (S := fun w' => w'.cell? ⟨g7, 0, none⟩ = some (.slice E0 rs.length f0) ∧ w'.cell? ⟨g7, 1, none⟩ = some (.slice E1 rb.length f1) ∧ w'.cell? ⟨g7, 2, none⟩ = some (.slice E2 rc.length f2) ∧ w'.cell? ⟨g7, 3, none⟩ = some (.int .i64 rh) ∧ w'.cell? ⟨g7, 4, none⟩ = some (.int .i64 rn) ∧ w'.cell? ⟨g7, 5, none⟩ = some (.string ro) ∧ w'.cell? ⟨q_, 0, none⟩ = some (.int .i64 v)) (ds := []) #[false, false, false, false, false, false, false] (by kernel_rfl) rfl rfl ⟨(blk_cell F7.out 0).trans rfl, (blk_cell F7.out 1).trans rfl, (blk_cell F7.out 2).trans rfl, (blk_cell F7.out 3).trans rfl, (blk_cell F7.out 4).trans rfl, (blk_cell F7.out 5).trans rfl, (blk_cell FQ.out 0).trans rfl⟩ (fun hHeld => ?_)
  clear a1 a2 a3 a4 a5 a6 rows X0 X1 X2 BKg7 BKq_ BKg1 BKg2 HB
  generalize World.drew ((((((w6.setCell ⟨g7, 0, none⟩ (.slice E0 rs.length f0)).setCell ⟨g7, 1, none⟩ (.slice E1 rb.length f1)).setCell ⟨g7, 2, none⟩ (.slice E2 rc.length f2)).setCell ⟨g7, 3, none⟩ (.int .i64 rh)).setCell ⟨g7, 4, none⟩ (.int .i64 rn)).setCell ⟨g7, 5, none⟩ (.string ro)) = wd at Y0 Y1 Y2 F7 FQ FR HD hHeld ⊢
  have hr0_ : wd.cell? ⟨g2, 0, none⟩ = some (.slice none 0 0) := (blk_cell FR.out 0).trans rfl
  have hr1_ : wd.cell? ⟨g2, 1, none⟩ = some (.slice none 0 0) := (blk_cell FR.out 1).trans rfl
  have hr2_ : wd.cell? ⟨g2, 2, none⟩ = some (.slice none 0 0) := (blk_cell FR.out 2).trans rfl
  have hr3_ : wd.cell? ⟨g2, 3, none⟩ = some (.int .i64 0) := (blk_cell FR.out 3).trans rfl
  have hr4_ : wd.cell? ⟨g2, 4, none⟩ = some (.int .i64 0) := (blk_cell FR.out 4).trans rfl
  have hr5_ : wd.cell? ⟨g2, 5, none⟩ = some (.string (⟨#[]⟩ : ByteArray)) := (blk_cell FR.out 5).trans rfl
  have hrf0_ := blk_frozen FR.out 0
  have hrf1_ := blk_frozen FR.out 1
  have hrf2_ := blk_frozen FR.out 2
  have hrf3_ := blk_frozen FR.out 3
  have hrf4_ := blk_frozen FR.out 4
  have hrf5_ := blk_frozen FR.out 5
  refine take_ (i := 0) (N := some 19) (v := ?_) (a' := ?_) #[true, false, false, false, false, false, false] rfl rfl (by kernel_rfl) (fun _ _ _ h => h) (Or.inl ⟨by rfl, ?_⟩) hHeld ?_ ?_
  rotate_left
  · rintro w' ⟨s0, s1, s2, s3, s4, s5, s6⟩
    go_simp
    with_reducible rfl
  rotate_left
  · simp only [Act.put, List.setIfInBounds_toArray, List.set_cons_zero, List.set_cons_succ, i64_w, i32_w]
    rfl
  refine take_ (i := 1) (N := some 20) (v := ?_) (a' := ?_) #[true, true, false, false, false, false, false] rfl rfl (by kernel_rfl) (fun _ _ _ h => h) (Or.inl ⟨by rfl, ?_⟩) hHeld ?_ ?_
  rotate_left
  · rintro w' ⟨s0, s1, s2, s3, s4, s5, s6⟩
    go_simp
    with_reducible rfl
  rotate_left
  · simp only [Act.put, List.setIfInBounds_toArray, List.set_cons_zero, List.set_cons_succ, i64_w, i32_w]
    rfl
  refine pure_ (i := 2) (N := some 21) (v := ?_) (a' := ?_) #[true, true, true, false, false, false, false] rfl rfl (by kernel_rfl) (fun _ _ _ h => h) (Or.inl ⟨by rfl, ?_⟩) ?_ ?_
  rotate_left
  · intro w'
    go_simp
    with_reducible rfl
  rotate_left
  · simp only [Act.put, List.setIfInBounds_toArray, List.set_cons_zero, List.set_cons_succ, i64_w, i32_w]
    rfl
  have d1 := blk_put FR.out 0 (.slice E0 rs.length f0) rfl
  have d2 := blk_put d1 1 (.slice E1 rb.length f1) rfl
  have d3 := blk_put d2 2 (.slice E2 rc.length f2) rfl
  have d4 := blk_put d3 3 (.int .i64 rh) rfl
  have d5 := blk_put d4 4 (.int .i64 rn) rfl
  have d6 := blk_put d5 5 (.string ro) rfl
  refine one_ (i := 3) (N := none) #[true, true, true, true, false, false, false] rfl rfl (by kernel_rfl) (by decide) (fun K hK => ?_)
  refine skip_ (w1 := ?_) (by rfl) rfl ?_ ?_
  rotate_left
  · go_simp
    rfl
  refine hK.out _ _ ⟨(blk_cell (blk_far (p := ⟨g2, 5, none⟩) (blk_far (p := ⟨g2, 4, none⟩) (blk_far (p := ⟨g2, 3, none⟩) (blk_far (p := ⟨g2, 2, none⟩) (blk_far (p := ⟨g2, 1, none⟩) (blk_far (p := ⟨g2, 0, none⟩) F7.out neg7_g2 (.slice E0 rs.length f0)) neg7_g2 (.slice E1 rb.length f1)) neg7_g2 (.slice E2 rc.length f2)) neg7_g2 (.int .i64 rh)) neg7_g2 (.int .i64 rn)) neg7_g2 (.string ro)) 0).trans rfl, (blk_cell (blk_far (p := ⟨g2, 5, none⟩) (blk_far (p := ⟨g2, 4, none⟩) (blk_far (p := ⟨g2, 3, none⟩) (blk_far (p := ⟨g2, 2, none⟩) (blk_far (p := ⟨g2, 1, none⟩) (blk_far (p := ⟨g2, 0, none⟩) F7.out neg7_g2 (.slice E0 rs.length f0)) neg7_g2 (.slice E1 rb.length f1)) neg7_g2 (.slice E2 rc.length f2)) neg7_g2 (.int .i64 rh)) neg7_g2 (.int .i64 rn)) neg7_g2 (.string ro)) 1).trans rfl, (blk_cell (blk_far (p := ⟨g2, 5, none⟩) (blk_far (p := ⟨g2, 4, none⟩) (blk_far (p := ⟨g2, 3, none⟩) (blk_far (p := ⟨g2, 2, none⟩) (blk_far (p := ⟨g2, 1, none⟩) (blk_far (p := ⟨g2, 0, none⟩) F7.out neg7_g2 (.slice E0 rs.length f0)) neg7_g2 (.slice E1 rb.length f1)) neg7_g2 (.slice E2 rc.length f2)) neg7_g2 (.int .i64 rh)) neg7_g2 (.int .i64 rn)) neg7_g2 (.string ro)) 2).trans rfl, (blk_cell (blk_far (p := ⟨g2, 5, none⟩) (blk_far (p := ⟨g2, 4, none⟩) (blk_far (p := ⟨g2, 3, none⟩) (blk_far (p := ⟨g2, 2, none⟩) (blk_far (p := ⟨g2, 1, none⟩) (blk_far (p := ⟨g2, 0, none⟩) F7.out neg7_g2 (.slice E0 rs.length f0)) neg7_g2 (.slice E1 rb.length f1)) neg7_g2 (.slice E2 rc.length f2)) neg7_g2 (.int .i64 rh)) neg7_g2 (.int .i64 rn)) neg7_g2 (.string ro)) 3).trans rfl, (blk_cell (blk_far (p := ⟨g2, 5, none⟩) (blk_far (p := ⟨g2, 4, none⟩) (blk_far (p := ⟨g2, 3, none⟩) (blk_far (p := ⟨g2, 2, none⟩) (blk_far (p := ⟨g2, 1, none⟩) (blk_far (p := ⟨g2, 0, none⟩) F7.out neg7_g2 (.slice E0 rs.length f0)) neg7_g2 (.slice E1 rb.length f1)) neg7_g2 (.slice E2 rc.length f2)) neg7_g2 (.int .i64 rh)) neg7_g2 (.int .i64 rn)) neg7_g2 (.string ro)) 4).trans rfl, (blk_cell (blk_far (p := ⟨g2, 5, none⟩) (blk_far (p := ⟨g2, 4, none⟩) (blk_far (p := ⟨g2, 3, none⟩) (blk_far (p := ⟨g2, 2, none⟩) (blk_far (p := ⟨g2, 1, none⟩) (blk_far (p := ⟨g2, 0, none⟩) F7.out neg7_g2 (.slice E0 rs.length f0)) neg7_g2 (.slice E1 rb.length f1)) neg7_g2 (.slice E2 rc.length f2)) neg7_g2 (.int .i64 rh)) neg7_g2 (.int .i64 rn)) neg7_g2 (.string ro)) 5).trans rfl, (blk_cell (blk_far (p := ⟨g2, 5, none⟩) (blk_far (p := ⟨g2, 4, none⟩) (blk_far (p := ⟨g2, 3, none⟩) (blk_far (p := ⟨g2, 2, none⟩) (blk_far (p := ⟨g2, 1, none⟩) (blk_far (p := ⟨g2, 0, none⟩) FQ.out neq__g2 (.slice E0 rs.length f0)) neq__g2 (.slice E1 rb.length f1)) neq__g2 (.slice E2 rc.length f2)) neq__g2 (.int .i64 rh)) neq__g2 (.int .i64 rn)) neq__g2 (.string ro)) 0).trans rfl⟩ (fun hHeld => ?_)
  clear hK K
  refine pure_ (i := 4) (N := some 3) (v := ?_) (a' := ?_) #[true, true, true, true, true, false, false] rfl rfl (by kernel_rfl) (fun _ _ _ h => h) (Or.inl ⟨by rfl, ?_⟩) ?_ ?_
  rotate_left
  · intro w'
    go_simp
    with_reducible rfl
  rotate_left
  · simp only [Act.put, List.setIfInBounds_toArray, List.set_cons_zero, List.set_cons_succ, i64_w, i32_w]
    rfl
  refine pure_ (i := 5) (N := some 4) (v := ?_) (a' := ?_) #[true, true, true, true, true, true, false] rfl rfl (by kernel_rfl) (fun _ _ _ h => h) (Or.inl ⟨by rfl, ?_⟩) ?_ ?_
  rotate_left
  · intro w'
    go_simp
    with_reducible rfl
  rotate_left
  · simp only [Act.put, List.setIfInBounds_toArray, List.set_cons_zero, List.set_cons_succ, i64_w, i32_w]
    rfl
  refine pure_ (i := 6) (N := some 5) (v := ?_) (a' := ?_) #[true, true, true, true, true, true, true] rfl rfl (by kernel_rfl) (fun _ _ _ h => h) (Or.inl ⟨by rfl, ?_⟩) ?_ ?_
  rotate_left
  · intro w'
    go_simp
    with_reducible rfl
  rotate_left
  · simp only [Act.put, List.setIfInBounds_toArray, List.set_cons_zero, List.set_cons_succ, i64_w, i32_w]
    rfl
  refine done_ (by kernel_rfl) ?_
  try go_wp2
  have rows : ∀ {ok : Nat → Prop} {v : Value} {xs : List Int}, Kd.R (Kd.int .i64) 3 wd w.heap.size ok v xs → Kd.R (Kd.int .i64) 3 ((((((wd.setCell ⟨g2, 0, none⟩ (.slice E0 rs.length f0)).setCell ⟨g2, 1, none⟩ (.slice E1 rb.length f1)).setCell ⟨g2, 2, none⟩ (.slice E2 rc.length f2)).setCell ⟨g2, 3, none⟩ (.int .i64 rh)).setCell ⟨g2, 4, none⟩ (.int .i64 rn)).setCell ⟨g2, 5, none⟩ (.string ro)) w.heap.size ok v xs := fun hh => (Held.rows_set d5 (Held.rows_set d4 (Held.rows_set d3 (Held.rows_set d2 (Held.rows_set d1 (Held.rows_set FR.out hh))))))
  refine bodyPost_ret (results_cttt rfl _ _ g2 24 #[.slice E0 rs.length f0, .slice E1 rb.length f1, .slice E2 rc.length f2, .int .i64 rh, .int .i64 rn, .string ro] (0, 0) _ rfl d6 Try.underlying24 rfl (by kernel_rfl)) rfl ?_
  exact ⟨_, _, _, rfl, rows Y0.out, rows Y1.out, rows Y2.out, (below_set (below_set (below_set (below_set (below_set (below_set HD.out GEg2.out) GEg2.out) GEg2.out) GEg2.out) GEg2.out) GEg2.out)⟩
set_option maxHeartbeats 8000000 in
set_option maxRecDepth 100000 in
theorem Pop_bad (k : Nat) (A0 : Option Addr) (c0 : Nat) (A1 : Option Addr) (c1 : Nat) (A2 : Option Addr) (c2 : Nat) (s b c : List Int) (h n : Int) (o : ByteArray) (w : World) (hr0 : Kd.C (Kd.int .i64) w A0 s.length s) (hc0 : s.length ≤ c0) (hr1 : Kd.C (Kd.int .i64) w A1 b.length b) (hc1 : b.length ≤ c1) (hr2 : Kd.C (Kd.int .i64) w A2 c.length c) (hc2 : c.length ≤ c2) (hk : impl_DataOK.f k s b c h n o = some false) :
    Calls Try.prog 30 #[.agg #[.slice A0 s.length c0, .slice A1 b.length c1, .slice A2 c.length c2, .int .i64 h, .int .i64 n, .string o]] w fun e w' => ∃ v0 v1 v2 : Value, e = .returned (.tuple #[.agg #[v0, v1, v2, .int .i64 0, .int .i64 0, .string (⟨#[]⟩ : ByteArray)], .int .i64 0, .int .i64 0, .int .i64 1]) ∧ Kd.R (Kd.int .i64) 3 w' w.heap.size (fun k_ => some k_ ≠ (v1 : Value).ownBlock ∧ some k_ ≠ (v2 : Value).ownBlock) v0 ([] : List Int) ∧ Kd.R (Kd.int .i64) 3 w' w.heap.size (fun k_ => some k_ ≠ (v0 : Value).ownBlock ∧ some k_ ≠ (v2 : Value).ownBlock) v1 ([] : List Int) ∧ Kd.R (Kd.int .i64) 3 w' w.heap.size (fun k_ => some k_ ≠ (v0 : Value).ownBlock ∧ some k_ ≠ (v1 : Value).ownBlock) v2 ([] : List Int) ∧ Below w.heap.size w w' := by
  have hu24 := Try.underlying24
  have HR0 := Aside0.mk hr0
  have HR1 := Aside0.mk hr1
  have HR2 := Aside0.mk hr2
  have HC0 := Aside0.mk hc0
  have HC1 := Aside0.mk hc1
  have HC2 := Aside0.mk hc2
  have HK := Aside0.mk hk
  have HB := Aside0.mk (Below.refl w.heap.size w)
  clear hr0 hr1 hr2 hc0 hc1 hc2 hk
  go_enter Try.func30, Try.ntmps30
  go_wp2_with (first
    | ((with_reducible refine gate_dst (N := 1) rfl ?_); refine box_event ?hg (N := 1) ?hd (cs := #[.slice A0 s.length c0, .slice A1 b.length c1, .slice A2 c.length c2, .int .i64 h, .int .i64 n, .string o]) (t := 24) ?hr ?_; (case hd => rfl); (case hg => rfl); (case hr => first | (go_simp; done) | (go_simp; rfl)); intro g1 hg w1 hbox hb; have BKg1 := Aside0.mk hbox; have GEg1 := Aside0.mk (show w.heap.size ≤ g1 by rw [hg]; exact (below_size HB.out)); replace HB := Aside0.mk (below_step HB.out hb); clear hg hbox hb; have hq1 : w1.cell? ⟨g1, 0, none⟩ = some (.slice A0 s.length c0) := (blk_cell BKg1.out 0).trans rfl; have hz1 := blk_frozen (BKg1.out) 0; have hq2 : w1.cell? ⟨g1, 1, none⟩ = some (.slice A1 b.length c1) := (blk_cell BKg1.out 1).trans rfl; have hz2 := blk_frozen (BKg1.out) 1; have hq3 : w1.cell? ⟨g1, 2, none⟩ = some (.slice A2 c.length c2) := (blk_cell BKg1.out 2).trans rfl; have hz3 := blk_frozen (BKg1.out) 2; have hq4 : w1.cell? ⟨g1, 3, none⟩ = some (.int .i64 h) := (blk_cell BKg1.out 3).trans rfl; have hz4 := blk_frozen (BKg1.out) 3; have hq5 : w1.cell? ⟨g1, 4, none⟩ = some (.int .i64 n) := (blk_cell BKg1.out 4).trans rfl; have hz5 := blk_frozen (BKg1.out) 4; have hq6 : w1.cell? ⟨g1, 5, none⟩ = some (.string o) := (blk_cell BKg1.out 5).trans rfl; have hz6 := blk_frozen (BKg1.out) 5)
    | ((with_reducible refine gate_dst (N := 2) rfl ?_); refine box_event ?hg (N := 2) ?hd (cs := #[.slice none 0 0, .slice none 0 0, .slice none 0 0, .int .i64 0, .int .i64 0, .string (⟨#[]⟩ : ByteArray)]) (t := 24) ?hr ?_; (case hd => rfl); (case hg => rfl); (case hr => first | (go_simp; done) | (go_simp; rfl)); intro g2 hg w2 hbox hb; have BKg2 := Aside0.mk hbox; have GEg2 := Aside0.mk (show w.heap.size ≤ g2 by rw [hg]; exact (below_size HB.out)); have neg2_g1 : g2 ≠ g1 := (by rw [hg]; exact Nat.ne_of_gt (blk_lt BKg1.out)); have neg1_g2 : g1 ≠ g2 := neg2_g1.symm; replace BKg1 := Aside0.mk (blk_below BKg1.out hb); replace HB := Aside0.mk (below_step HB.out hb); clear hg hbox hb; have hq7 : w2.cell? ⟨g1, 0, none⟩ = some (.slice A0 s.length c0) := (blk_cell BKg1.out 0).trans rfl; have hz7 := blk_frozen (BKg1.out) 0; have hq8 : w2.cell? ⟨g1, 1, none⟩ = some (.slice A1 b.length c1) := (blk_cell BKg1.out 1).trans rfl; have hz8 := blk_frozen (BKg1.out) 1; have hq9 : w2.cell? ⟨g1, 2, none⟩ = some (.slice A2 c.length c2) := (blk_cell BKg1.out 2).trans rfl; have hz9 := blk_frozen (BKg1.out) 2; have hq10 : w2.cell? ⟨g1, 3, none⟩ = some (.int .i64 h) := (blk_cell BKg1.out 3).trans rfl; have hz10 := blk_frozen (BKg1.out) 3; have hq11 : w2.cell? ⟨g1, 4, none⟩ = some (.int .i64 n) := (blk_cell BKg1.out 4).trans rfl; have hz11 := blk_frozen (BKg1.out) 4; have hq12 : w2.cell? ⟨g1, 5, none⟩ = some (.string o) := (blk_cell BKg1.out 5).trans rfl; have hz12 := blk_frozen (BKg1.out) 5; have hq13 : w2.cell? ⟨g2, 0, none⟩ = some (.slice none 0 0) := (blk_cell BKg2.out 0).trans rfl; have hz13 := blk_frozen (BKg2.out) 0; have hq14 : w2.cell? ⟨g2, 1, none⟩ = some (.slice none 0 0) := (blk_cell BKg2.out 1).trans rfl; have hz14 := blk_frozen (BKg2.out) 1; have hq15 : w2.cell? ⟨g2, 2, none⟩ = some (.slice none 0 0) := (blk_cell BKg2.out 2).trans rfl; have hz15 := blk_frozen (BKg2.out) 2; have hq16 : w2.cell? ⟨g2, 3, none⟩ = some (.int .i64 0) := (blk_cell BKg2.out 3).trans rfl; have hz16 := blk_frozen (BKg2.out) 3; have hq17 : w2.cell? ⟨g2, 4, none⟩ = some (.int .i64 0) := (blk_cell BKg2.out 4).trans rfl; have hz17 := blk_frozen (BKg2.out) 4; have hq18 : w2.cell? ⟨g2, 5, none⟩ = some (.string (⟨#[]⟩ : ByteArray)) := (blk_cell BKg2.out 5).trans rfl; have hz18 := blk_frozen (BKg2.out) 5)
    | (go_at_call 22; (with_reducible refine (impl_DataOK.calls k A0 c0 s A1 c1 b A2 c2 c h n o false w2 (Kd.C_below HR0.out HB.out) HC0.out (Kd.C_below HR1.out HB.out) HC1.out (Kd.C_below HR2.out HB.out) HC2.out HK.out).mono ?_); rintro e w3 ⟨rfl, hb⟩; replace BKg1 := Aside0.mk (blk_below BKg1.out hb); replace BKg2 := Aside0.mk (blk_below BKg2.out hb); replace HB := Aside0.mk (below_step HB.out hb); clear hb; have hq19 : w3.cell? ⟨g1, 0, none⟩ = some (.slice A0 s.length c0) := (blk_cell BKg1.out 0).trans rfl; have hz19 := blk_frozen (BKg1.out) 0; have hq20 : w3.cell? ⟨g1, 1, none⟩ = some (.slice A1 b.length c1) := (blk_cell BKg1.out 1).trans rfl; have hz20 := blk_frozen (BKg1.out) 1; have hq21 : w3.cell? ⟨g1, 2, none⟩ = some (.slice A2 c.length c2) := (blk_cell BKg1.out 2).trans rfl; have hz21 := blk_frozen (BKg1.out) 2; have hq22 : w3.cell? ⟨g1, 3, none⟩ = some (.int .i64 h) := (blk_cell BKg1.out 3).trans rfl; have hz22 := blk_frozen (BKg1.out) 3; have hq23 : w3.cell? ⟨g1, 4, none⟩ = some (.int .i64 n) := (blk_cell BKg1.out 4).trans rfl; have hz23 := blk_frozen (BKg1.out) 4; have hq24 : w3.cell? ⟨g1, 5, none⟩ = some (.string o) := (blk_cell BKg1.out 5).trans rfl; have hz24 := blk_frozen (BKg1.out) 5; have hq25 : w3.cell? ⟨g2, 0, none⟩ = some (.slice none 0 0) := (blk_cell BKg2.out 0).trans rfl; have hz25 := blk_frozen (BKg2.out) 0; have hq26 : w3.cell? ⟨g2, 1, none⟩ = some (.slice none 0 0) := (blk_cell BKg2.out 1).trans rfl; have hz26 := blk_frozen (BKg2.out) 1; have hq27 : w3.cell? ⟨g2, 2, none⟩ = some (.slice none 0 0) := (blk_cell BKg2.out 2).trans rfl; have hz27 := blk_frozen (BKg2.out) 2; have hq28 : w3.cell? ⟨g2, 3, none⟩ = some (.int .i64 0) := (blk_cell BKg2.out 3).trans rfl; have hz28 := blk_frozen (BKg2.out) 3; have hq29 : w3.cell? ⟨g2, 4, none⟩ = some (.int .i64 0) := (blk_cell BKg2.out 4).trans rfl; have hz29 := blk_frozen (BKg2.out) 4; have hq30 : w3.cell? ⟨g2, 5, none⟩ = some (.string (⟨#[]⟩ : ByteArray)) := (blk_cell BKg2.out 5).trans rfl; have hz30 := blk_frozen (BKg2.out) 5))
  have d1 := blk_put BKg2.out 0 (.slice none 0 0) rfl
  have d2 := blk_put d1 1 (.slice none 0 0) rfl
  have d3 := blk_put d2 2 (.slice none 0 0) rfl
  have d4 := blk_put d3 3 (.int .i64 0) rfl
  have d5 := blk_put d4 4 (.int .i64 0) rfl
  have d6 := blk_put d5 5 (.string (⟨#[]⟩ : ByteArray)) rfl
  refine bodyPost_ret (results_cttt rfl _ _ g2 24 #[.slice none 0 0, .slice none 0 0, .slice none 0 0, .int .i64 0, .int .i64 0, .string (⟨#[]⟩ : ByteArray)] (0, 0) _ rfl d6 Try.underlying24 rfl (by kernel_rfl)) rfl ?_
  exact ⟨_, _, _, rfl, Kd.R_nil _ _ _ _ _, Kd.R_nil _ _ _ _ _, Kd.R_nil _ _ _ _ _, (below_set (below_set (below_set (below_set (below_set (below_set HB.out GEg2.out) GEg2.out) GEg2.out) GEg2.out) GEg2.out) GEg2.out)⟩
def impl_Pop.f (k : Nat) (s b c : List Int) (h n : Int) (o : ByteArray) : Option (List Int × List Int × List Int × Int × Int × ByteArray × Int × Int × Int) := (impl_DataOK.f k s b c h n o).bind fun t => if t = true then ((impl_Data_copied.f s b c h n o).bind fun _ => if s.length < 1000 then (if s.length = 0 then some (s, b, c, h, n, o, 0, -4, 0) else some (s.take (s.length - 1), b, c, h, n, o, rdOf 0 s ((s.length : Int) - 1), 0, 0)) else none) else some ([], [], [], 0, 0, ⟨#[]⟩, 0, 0, 1)
theorem impl_Pop.mono : ∀ a0 a1 a2 a3 a4 a5 k, LeO (impl_Pop.f k a0 a1 a2 a3 a4 a5) (impl_Pop.f (k + 1) a0 a1 a2 a3 a4 a5) := by
  intro a0 a1 a2 a3 a4 a5 k
  unfold impl_Pop.f
  exact LeO.bind (impl_DataOK.mono _ _ _ _ _ _ _) (fun _ => LeO.refl _)
theorem impl_Pop.calls (k : Nat) (A0_0 : Option Addr) (c0_0 : Nat) (l0_0 : List Int) (A0_1 : Option Addr) (c0_1 : Nat) (l0_1 : List Int) (A0_2 : Option Addr) (c0_2 : Nat) (l0_2 : List Int) (a0_3 : Int) (a0_4 : Int) (a0_5 : ByteArray) (r1 : List Int) (r2 : List Int) (r3 : List Int) (r4 : Int) (r5 : Int) (r6 : ByteArray) (r7 : Int) (r8 : Int) (r9 : Int) (w : World) (hr0_0 : Kd.C (Kd.int .i64) w A0_0 l0_0.length l0_0) (hc0_0 : l0_0.length ≤ c0_0) (hr0_1 : Kd.C (Kd.int .i64) w A0_1 l0_1.length l0_1) (hc0_1 : l0_1.length ≤ c0_1) (hr0_2 : Kd.C (Kd.int .i64) w A0_2 l0_2.length l0_2) (hc0_2 : l0_2.length ≤ c0_2) (h : impl_Pop.f k l0_0 l0_1 l0_2 a0_3 a0_4 a0_5 = some (r1, r2, r3, r4, r5, r6, r7, r8, r9)) :
    Calls Try.prog 30 #[.agg #[.slice A0_0 l0_0.length c0_0, .slice A0_1 l0_1.length c0_1, .slice A0_2 l0_2.length c0_2, .int .i64 a0_3, .int .i64 a0_4, .string a0_5]] w fun e w' => ∃ v0_ v1_ v2_ : Value, e = .returned (.tuple #[.agg #[v0_, v1_, v2_, .int .i64 r4, .int .i64 r5, .string r6], .int .i64 r7, .int .i64 r8, .int .i64 r9]) ∧ Kd.R (Kd.int .i64) 3 w' w.heap.size (fun k_ => some k_ ≠ (v1_ : Value).ownBlock ∧ some k_ ≠ (v2_ : Value).ownBlock) v0_ r1 ∧ Kd.R (Kd.int .i64) 3 w' w.heap.size (fun k_ => some k_ ≠ (v0_ : Value).ownBlock ∧ some k_ ≠ (v2_ : Value).ownBlock) v1_ r2 ∧ Kd.R (Kd.int .i64) 3 w' w.heap.size (fun k_ => some k_ ≠ (v0_ : Value).ownBlock ∧ some k_ ≠ (v1_ : Value).ownBlock) v2_ r3 ∧ Below w.heap.size w w' := by
  unfold impl_Pop.f at h
  obtain ⟨t, A2, H⟩ := Option.bind_eq_some_iff.mp h
  cases t with
  | true =>
    rw [if_pos rfl] at H
    obtain ⟨d, A3, H⟩ := Option.bind_eq_some_iff.mp H
    by_cases c2 : l0_0.length < 1000
    · rw [if_pos c2] at H
      by_cases c3 : l0_0.length = 0
      · rw [if_pos c3] at H
        simp only [Option.some.injEq, Prod.mk.injEq] at H
        obtain ⟨rfl, rfl, rfl, rfl, rfl, rfl, rfl, rfl, rfl⟩ := H
        exact Pop_run k A0_0 c0_0 A0_1 c0_1 A0_2 c0_2 _ _ _ _ _ _ 0 (-4) _ _ _ _ _ _ _ _ _ _ _ _ w hr0_0 hc0_0 hr0_1 hc0_1 hr0_2 hc0_2 A2 (copied_same A3)
          (fun q W0 W g B0 d0 B1 d1 B2 d2 hq hh => (pop1_calls W0 W g q B0 d0 B1 d1 B2 d2 _ _ _ _ _ _ 0 0 (-4) _ c2 (.inl ⟨List.eq_nil_of_length_eq_zero c3, rfl, rfl, rfl⟩) hq hh).mono (fun e W' hx => by obtain ⟨h1, A', c', h2⟩ := hx; exact ⟨h1, _, _, _, _, _, _, h2⟩)) (.inr ⟨by decide, rfl⟩)
      · rw [if_neg c3] at H
        simp only [Option.some.injEq, Prod.mk.injEq] at H
        obtain ⟨rfl, rfl, rfl, rfl, rfl, rfl, rfl, rfl, rfl⟩ := H
        exact Pop_run k A0_0 c0_0 A0_1 c0_1 A0_2 c0_2 _ _ _ _ _ _ _ 0 _ _ _ _ _ _ _ _ _ _ _ _ w hr0_0 hc0_0 hr0_1 hc0_1 hr0_2 hc0_2 A2 (copied_same A3)
          (fun q W0 W g B0 d0 B1 d1 B2 d2 hq hh => (pop1_calls W0 W g q B0 d0 B1 d1 B2 d2 _ _ _ _ _ _ 0 _ 0 _ c2 (.inr ⟨by omega, rfl, rfl, rfl⟩) hq hh).mono (fun e W' hx => by obtain ⟨h1, A', c', h2⟩ := hx; exact ⟨h1, _, _, _, _, _, _, h2⟩)) (.inl ⟨rfl, rfl⟩)
    · rw [if_neg c2] at H
      cases H
  | false =>
    rw [if_neg (by decide)] at H
    simp only [Option.some.injEq, Prod.mk.injEq] at H
    obtain ⟨rfl, rfl, rfl, rfl, rfl, rfl, rfl, rfl, rfl⟩ := H
    exact Pop_bad k A0_0 c0_0 A0_1 c0_1 A0_2 c0_2 _ _ _ _ _ _ w hr0_0 hc0_0 hr0_1 hc0_1 hr0_2 hc0_2 A2


end Go.Proofs.Ytcelnpmahnblpaa.PFnExactPop
