-- writing into a tree whose rows lie apart: laws.markNodeS. By hand.
import Derived.Test.YthmcanjeeljnhaaPTreeTN
import Derived.Lib.ItoaWalk
namespace Go.Proofs.Ythmcanjeeljnhaa.PTree
open Go.RowKit Go.Proofs.YthmcanjeeljnhaaW.PrintWords Go.Proofs.YthmcanjeeljnhaaW.PrintLast Go.Proofs.YthmcanjeeljnhaaW.PrintMore
set_option linter.unusedVariables false
set_option linter.unusedSimpArgs false
/-- The rows of a row of nodes, told one by one. -/
def TV (w : World) (base : Nat) (v : Value) (xs : List S53) (vA vB : Nat → Value) (bA bB : Nat → List Nat) : Prop :=
  (Kd.raw 4).R 53 w base (fun k => v.ownBlock = some k) v (cellsOf xs vA vB) ∧ (∀ i, i < xs.length → T w base (vA i) (xs.getD i z53).f2 (bA i)) ∧ (∀ i, i < xs.length → T w base (vB i) (xs.getD i z53).f3 (bB i))
def bsOf (v : Value) (n : Nat) (bA bB : Nat → List Nat) : List Nat := v.ownBlock.toList ++ (List.range n).flatMap fun i => bA i ++ bB i
theorem T.view {w : World} {base : Nat} {v : Value} {xs : List S53} {bs : List Nat} (h : T w base v xs bs) : ∃ vA vB bA bB, TV w base v xs vA vB bA bB ∧ bs = bsOf v xs.length bA bB := by
  cases h with
  | mk v xs vA vB bA bB hr hA hB => exact ⟨vA, vB, bA, bB, ⟨hr, hA, hB⟩, rfl⟩
theorem TV.shut {w : World} {base : Nat} {v : Value} {xs : List S53} {vA vB : Nat → Value} {bA bB : Nat → List Nat} (h : TV w base v xs vA vB bA bB) : T w base v xs (bsOf v xs.length bA bB) := T.mk v xs vA vB bA bB h.1 h.2.1 h.2.2
/-- Only these blocks were written. -/
structure Only (bs : List Nat) (w w1 : World) : Prop where
  os : w1.os = w.os
  tape : w1.tape = w.tape
  output : w1.output = w.output
  size : w1.heap.size = w.heap.size
  block : ∀ j, j ∉ bs → w1.heap[j]? = w.heap[j]?
theorem Only.refl (bs : List Nat) (w : World) : Only bs w w := ⟨rfl, rfl, rfl, rfl, fun _ _ => rfl⟩
theorem Only.trans {bs : List Nat} {a b c : World} (h : Only bs a b) (k : Only bs b c) : Only bs a c := ⟨k.os.trans h.os, k.tape.trans h.tape, k.output.trans h.output, k.size.trans h.size, fun j hj => (k.block j hj).trans (h.block j hj)⟩
theorem Only.mono {bs cs : List Nat} {a b : World} (h : Only bs a b) (hs : ∀ k, k ∈ bs → k ∈ cs) : Only cs a b := ⟨h.os, h.tape, h.output, h.size, fun j hj => h.block j (fun hk => hj (hs j hk))⟩
theorem Only.setCell {bs : List Nat} {w w1 : World} (h : Only bs w w1) {p : Addr} (hp : p.block ∈ bs) (u : Value) : Only bs w (w1.setCell p u) := by
  refine h.trans ⟨rfl, rfl, rfl, by simp [World.setCell], fun j hj => Below.heap_setCell w1 p u j (fun e => hj (e ▸ hp))⟩
/-- What a row's rows have to do with each other. -/
structure ApartB (v : Value) (n : Nat) (bA bB : Nat → List Nat) : Prop where
  own : ∀ i, i < n → ∀ k, v.ownBlock = some k → k ∉ bA i ∧ k ∉ bB i
  ab : ∀ i, i < n → ∀ k, k ∈ bA i → k ∉ bB i
  ij : ∀ i, i < n → ∀ j, j < n → i ≠ j → ∀ k, k ∈ bA i ++ bB i → k ∉ bA j ++ bB j
  na : ∀ i, i < n → (bA i).Nodup ∧ (bB i).Nodup
theorem apart_of (v : Value) (n : Nat) (bA bB : Nat → List Nat) (h : (bsOf v n bA bB).Nodup) : ApartB v n bA bB := by
  have h' := List.nodup_append.1 h
  have hp := List.pairwise_flatMap.1 h'.2.1
  have hmem : ∀ i, i < n → ∀ k, k ∈ bA i ++ bB i → k ∈ (List.range n).flatMap fun i => bA i ++ bB i := fun i hi k hk => List.mem_flatMap.2 ⟨i, List.mem_range.2 hi, hk⟩
  have hlt : ∀ i, i < n → ∀ j, j < n → i < j → ∀ k, k ∈ bA i ++ bB i → k ∉ bA j ++ bB j := by
    intro i hi j hj hij k hk hk2
    have hq := List.pairwise_iff_getElem.1 hp.2 i j (by simpa using hi) (by simpa using hj) hij
    rw [List.getElem_range, List.getElem_range] at hq
    exact hq k hk k hk2 rfl
  refine ⟨fun i hi k hk => ?_, fun i hi k hk hk2 => ?_, fun i hi j hj hne k hk hk2 => ?_, fun i hi => ?_⟩
  · have hx : k ∈ v.ownBlock.toList := by rw [hk]; simp
    exact ⟨fun hm => h'.2.2 k hx k (hmem i hi k (List.mem_append_left _ hm)) rfl, fun hm => h'.2.2 k hx k (hmem i hi k (List.mem_append_right _ hm)) rfl⟩
  · have hq := List.nodup_append.1 (hp.1 i (List.mem_range.2 hi))
    exact hq.2.2 k hk k hk2 rfl
  · rcases Nat.lt_or_gt_of_ne hne with hlt' | hgt
    · exact hlt i hi j hj hlt' k hk hk2
    · exact hlt j hj i hi hgt k hk2 hk
  · have hq := List.nodup_append.1 (hp.1 i (List.mem_range.2 hi))
    exact ⟨hq.1, hq.2.1⟩
theorem getD_set (xs : List S53) (i j : Nat) (x : S53) (h : i < xs.length) : (xs.set i x).getD j z53 = if i = j then x else xs.getD j z53 := by
  rw [List.getD_eq_getElem?_getD, List.getElem?_set]
  by_cases e : i = j
  · subst e
    rw [if_pos rfl, if_pos rfl, if_pos h]
    rfl
  · rw [if_neg e, if_neg e, List.getD_eq_getElem?_getD]
theorem cellsOf_set (xs : List S53) (i : Nat) (x : S53) (vA vB : Nat → Value) (h : i < xs.length) : cellsOf (xs.set i x) vA vB = (cellsOf xs vA vB).set i [.int .i64 x.f0, .int .i64 x.f1, vA i, vB i] := by
  apply List.ext_getElem?
  intro j
  by_cases hj : j < xs.length
  · rw [cellsOf_at _ _ _ j (by simpa using hj), List.getElem?_set, cellsOf_len, getD_set xs i j x h]
    by_cases e : i = j
    · subst e
      rw [if_pos rfl, if_pos rfl, if_pos h]
    · rw [if_neg e, if_neg e, cellsOf_at _ _ _ j hj]
  · rw [List.getElem?_eq_none (by rw [cellsOf_len]; simp; omega), List.getElem?_eq_none (by rw [List.length_set, cellsOf_len]; omega)]
section
variable {w w2 : World} {base g n c : Nat} {v : Value} {xs : List S53} {vA vB : Nat → Value} {bA bB : Nat → List Nat}
theorem TV.cells (h : TV w base (.slice (some ⟨g, 0, none⟩) n c) xs vA vB bA bB) (i : Nat) (hi : i < xs.length) : n = xs.length ∧
    (∀ j u, ([.int .i64 (xs.getD i z53).f0, .int .i64 (xs.getD i z53).f1, vA i, vB i] : List Value)[j]? = some u → w.cell? ⟨g, i * 4 + j, none⟩ = some u) ∧ ∀ j, w.frozen? ⟨g, i * 4 + j, none⟩ = false := by
  obtain ⟨hn, hnc, _⟩ := Kd.R_reads' h.1
  rw [cellsOf_len] at hn
  obtain ⟨cs, hl, hm, hc, hf⟩ := Kd.R_elem h.1 [] (i : Int) (by omega) (by omega)
  rw [Int.toNat_natCast, List.getD_eq_getElem?_getD, cellsOf_at xs vA vB i hi] at hm
  obtain rfl : cs = _ := hm.1
  exact ⟨hn, fun j u hu => by have := hc j u hu; rwa [Int.toNat_natCast] at this, fun j => by have := hf j; rwa [Int.toNat_natCast] at this⟩
theorem TV.ones (h : TV w base v xs vA vB bA bB) (i : Nat) (hi : i < xs.length) : (vA i).oneCell' = true ∧ (vB i).oneCell' = true := by
  obtain ⟨_, inner, ho, hr⟩ := h.1
  have := hr.2 i _ (cellsOf_at xs vA vB i hi)
  obtain ⟨_, _, h3⟩ : _ ∧ _ ∧ ∀ u ∈ ([.int .i64 (xs.getD i z53).f0, .int .i64 (xs.getD i z53).f1, vA i, vB i] : List Value), u.oneCell' = true := ⟨this.1, this.2.1, by have h4 := this.2.2; rw [this.1] at h4; exact h4⟩
  exact ⟨h3 _ (by simp), h3 _ (by simp)⟩
/-- A node's kind and value are stored. -/
theorem TV.put (h : TV w base (.slice (some ⟨g, 0, none⟩) n c) xs vA vB bA bB) (hap : ApartB (.slice (some ⟨g, 0, none⟩) n c) xs.length bA bB) (i : Nat) (hi : i < xs.length) (x y : Int) :
    TV ((w.setCell ⟨g, i * 4, none⟩ (.int .i64 x)).setCell ⟨g, i * 4 + 1, none⟩ (.int .i64 y)) base (.slice (some ⟨g, 0, none⟩) n c) (xs.set i ⟨x, y, (xs.getD i z53).f2, (xs.getD i z53).f3⟩) vA vB bA bB := by
  obtain ⟨hn, hcc, hff⟩ := h.cells i hi
  obtain ⟨oA, oB⟩ := h.ones i hi
  have hs := (Kd.R_seg (d := Kd.raw 4) h.1 (i : Int) (by omega) (by omega) (c := [.int .i64 (xs.getD i z53).f0, .int .i64 (xs.getD i z53).f1, vA i, vB i]) (seg := [.int .i64 x, .int .i64 y]) (j := 0) rfl (fun j u hu => by rw [Int.toNat_natCast]; exact hcc j u hu) (by show 0 + 2 ≤ 4; omega) (x' := [.int .i64 x, .int .i64 y, vA i, vB i]) (okp := fun _ => False)
    ⟨rfl, rfl, by
      intro u hu
      rcases List.mem_cons.1 hu with rfl | hu
      · rfl
      · rcases List.mem_cons.1 hu with rfl | hu
        · rfl
        · rcases List.mem_cons.1 hu with rfl | hu
          · exact oA
          · obtain rfl := List.mem_singleton.1 hu
            exact oB⟩ (fun _ hf => hf.elim)).1
  rw [Int.toNat_natCast] at hs
  have hw : w.setCells g (i * (Kd.raw 4).sz + 0) [.int .i64 x, .int .i64 y] = (w.setCell ⟨g, i * 4, none⟩ (.int .i64 x)).setCell ⟨g, i * 4 + 1, none⟩ (.int .i64 y) := rfl
  rw [hw] at hs
  have hfar : ∀ k, k ≠ g → ((w.setCell ⟨g, i * 4, none⟩ (.int .i64 x)).setCell ⟨g, i * 4 + 1, none⟩ (.int .i64 y)).heap[k]? = w.heap[k]? := fun k hk => (Below.heap_setCell _ _ _ k hk).trans (Below.heap_setCell _ _ _ k hk)
  refine ⟨?_, fun j hj => ?_, fun j hj => ?_⟩
  · rw [cellsOf_set _ _ _ _ _ hi]
    exact hs
  · rw [List.length_set] at hj
    have e : ((xs.set i ⟨x, y, (xs.getD i z53).f2, (xs.getD i z53).f3⟩).getD j z53).f2 = (xs.getD j z53).f2 := by
      rw [getD_set _ _ _ _ hi]
      split
      · rename_i e; subst e; rfl
      · rfl
    rw [e]
    exact (h.2.1 j hj).move (fun k hk => hfar k (fun e => (hap.own j hj g (by simp [Value.ownBlock])).1 (e ▸ hk)))
  · rw [List.length_set] at hj
    have e : ((xs.set i ⟨x, y, (xs.getD i z53).f2, (xs.getD i z53).f3⟩).getD j z53).f3 = (xs.getD j z53).f3 := by
      rw [getD_set _ _ _ _ hi]
      split
      · rename_i e; subst e; rfl
      · rfl
    rw [e]
    exact (h.2.2 j hj).move (fun k hk => hfar k (fun e => (hap.own j hj g (by simp [Value.ownBlock])).2 (e ▸ hk)))
/-- What a node leads to was written: its first row. -/
theorem TV.childA (h : TV w base v xs vA vB bA bB) (hap : ApartB v xs.length bA bB) (i : Nat) (hi : i < xs.length) {A' : List S53} (ho : Only (bA i) w w2) (hc : T w2 base (vA i) A' (bA i)) :
    TV w2 base v (xs.set i ⟨(xs.getD i z53).f0, (xs.getD i z53).f1, A', (xs.getD i z53).f3⟩) vA vB bA bB := by
  refine ⟨?_, fun j hj => ?_, fun j hj => ?_⟩
  · have e : cellsOf (xs.set i ⟨(xs.getD i z53).f0, (xs.getD i z53).f1, A', (xs.getD i z53).f3⟩) vA vB = cellsOf xs vA vB := by
      rw [cellsOf_set _ _ _ _ _ hi]
      apply List.ext_getElem?
      intro j
      rw [List.getElem?_set]
      split
      · rename_i e
        subst e
        rw [cellsOf_len, if_pos hi, cellsOf_at _ _ _ i hi]
      · rfl
    rw [e]
    exact Kd.R_move h.1 (fun k hk => ho.block k (hap.own i hi k hk).1)
  · rw [List.length_set] at hj
    rw [getD_set _ _ _ _ hi]
    by_cases e : i = j
    · subst e
      rw [if_pos rfl]
      exact hc
    · rw [if_neg e]
      exact (h.2.1 j hj).move (fun k hk => ho.block k (fun hk2 => hap.ij i hi j hj e k (List.mem_append_left _ hk2) (List.mem_append_left _ hk)))
  · rw [List.length_set] at hj
    have e2 : ((xs.set i ⟨(xs.getD i z53).f0, (xs.getD i z53).f1, A', (xs.getD i z53).f3⟩).getD j z53).f3 = (xs.getD j z53).f3 := by
      rw [getD_set _ _ _ _ hi]
      split
      · rename_i e; subst e; rfl
      · rfl
    rw [e2]
    by_cases e : i = j
    · subst e
      exact (h.2.2 i hj).move (fun k hk => ho.block k (fun hk2 => hap.ab i hi k hk2 hk))
    · exact (h.2.2 j hj).move (fun k hk => ho.block k (fun hk2 => hap.ij i hi j hj e k (List.mem_append_left _ hk2) (List.mem_append_right _ hk)))
/-- .. its second row. -/
theorem TV.childB (h : TV w base v xs vA vB bA bB) (hap : ApartB v xs.length bA bB) (i : Nat) (hi : i < xs.length) {B' : List S53} (ho : Only (bB i) w w2) (hc : T w2 base (vB i) B' (bB i)) :
    TV w2 base v (xs.set i ⟨(xs.getD i z53).f0, (xs.getD i z53).f1, (xs.getD i z53).f2, B'⟩) vA vB bA bB := by
  refine ⟨?_, fun j hj => ?_, fun j hj => ?_⟩
  · have e : cellsOf (xs.set i ⟨(xs.getD i z53).f0, (xs.getD i z53).f1, (xs.getD i z53).f2, B'⟩) vA vB = cellsOf xs vA vB := by
      rw [cellsOf_set _ _ _ _ _ hi]
      apply List.ext_getElem?
      intro j
      rw [List.getElem?_set]
      split
      · rename_i e
        subst e
        rw [cellsOf_len, if_pos hi, cellsOf_at _ _ _ i hi]
      · rfl
    rw [e]
    exact Kd.R_move h.1 (fun k hk => ho.block k (hap.own i hi k hk).2)
  · rw [List.length_set] at hj
    have e2 : ((xs.set i ⟨(xs.getD i z53).f0, (xs.getD i z53).f1, (xs.getD i z53).f2, B'⟩).getD j z53).f2 = (xs.getD j z53).f2 := by
      rw [getD_set _ _ _ _ hi]
      split
      · rename_i e; subst e; rfl
      · rfl
    rw [e2]
    by_cases e : i = j
    · subst e
      exact (h.2.1 i hj).move (fun k hk => ho.block k (fun hk2 => hap.ab i hi k hk hk2))
    · exact (h.2.1 j hj).move (fun k hk => ho.block k (fun hk2 => hap.ij i hi j hj e k (List.mem_append_right _ hk2) (List.mem_append_left _ hk)))
  · rw [List.length_set] at hj
    rw [getD_set _ _ _ _ hi]
    by_cases e : i = j
    · subst e
      rw [if_pos rfl]
      exact hc
    · rw [if_neg e]
      exact (h.2.2 j hj).move (fun k hk => ho.block k (fun hk2 => hap.ij i hi j hj e k (List.mem_append_right _ hk2) (List.mem_append_right _ hk)))
end
theorem T.len {w : World} {base : Nat} {v : Value} {xs : List S53} {bs : List Nat} (h : T w base v xs bs) (hn : bs.Nodup) : xs.length ≤ 9223372036854775807 := by
  obtain ⟨inner, ho⟩ := Kd.R_own (h.row hn)
  rcases ho.2 with h0 | ⟨g, cap, cur, _, _, _, hc, hm, _⟩
  · have := h0.2
    omega
  · unfold maxLen at hm
    omega
mutual
def laws_markNodeS.l0 : Nat → List (S53) → Int → Nat → Option (Int × (List (S53)))
  | 0, _, _, _ => none
  | k + 1, l, a, i => if i < l.length then ((laws_markNodeS.f k (l.getD i z53).f2 (wrap64 (wrap64 (a + 1) + 1))).bind fun p => (laws_markNodeS.f k (l.getD i z53).f3 p.1).bind fun q => laws_markNodeS.l0 k (l.set i ⟨a, wrap64 (a + 1), p.2, q.2⟩) q.1 (i + 1)) else some (a, l)
def laws_markNodeS.f : Nat → List (S53) → Int → Option (Int × (List (S53)))
  | 0, _, _ => none
  | k + 1, l, a => laws_markNodeS.l0 k l a 0
end
/-- How far the marking has come. -/
structure MarkInv (base : Nat) (v : Value) (bs : List Nat) (n : Nat) (r1 : Int) (r2 : List S53) (k : Nat) (w W : World) (kq i : Nat) (a : Int) (l : List S53) : Prop where
  t : T W base v l bs
  o : Only bs w W
  len : l.length = n
  f : laws_markNodeS.l0 kq l a i = some (r1, r2)
  k : kq ≤ k
  i : i ≤ n
set_option maxHeartbeats 4000000 in
set_option maxRecDepth 100000 in
theorem mark_core (k : Nat) : ∀ (base : Nat) (u : Value) (l : List S53) (a r1 : Int) (r2 : List S53) (w : World) (bs : List Nat) (h : T w base u l bs) (hn : bs.Nodup) (hf : laws_markNodeS.f k l a = some (r1, r2)),
    Calls Try.prog 12 #[u, .int .i64 a] w fun e w' => e = .returned (.int .i64 r1) ∧ T w' base u r2 bs ∧ Only bs w w' := by
  induction k using Nat.strongRecOn with
  | _ k ih =>
  intro base u l a r1 r2 w bs h hn hf
  cases k with
  | zero => simp [laws_markNodeS.f] at hf
  | succ k =>
  obtain ⟨A, c, rfl⟩ := Kd.R_slice (h.row hn)
  have hM : MarkInv base (.slice A l.length c) bs l.length r1 r2 k w w k 0 a l := ⟨h, Only.refl _ _, rfl, by simpa only [laws_markNodeS.f] using hf, Nat.le_refl _, Nat.zero_le _⟩
  have HM := Aside0.mk hM
  have HN := Aside0.mk hn
  have IH := Aside0.mk ih
  clear ih h hn hf hM
  go_enter Try.func12, Try.ntmps12
  go_wp2
  go_loopw [1, 5] (fun v1 v5 W => ∃ (kq i : Nat) (a' : Int) (l' : List S53), v1 = .int .i64 a' ∧ v5 = .int .i64 (i : Int) ∧ Aside0 (MarkInv base (.slice A l.length c) bs l.length r1 r2 k w W kq i a' l')) (fun _ v5 _ => l.length - (RowKit.intOf v5).toNat)
  case atStart => exact ⟨k, 0, a, l, rfl, rfl, HM⟩
  case round =>
    obtain ⟨kq, i, a', l', rfl, rfl, HI⟩ := hrel
    rename World => W
    have hi := HI.out.i
    by_cases hlt : i < l.length
    · obtain ⟨vA, vB, bA, bB, hv, hbs⟩ := HI.out.t.view
      have hlen := HI.out.len
      have hlm := T.len HI.out.t HN.out
      have hib : (i : Int) + 1 ≤ 9223372036854775807 := by omega
      clear hlm
      have hil : i < l'.length := by omega
      obtain ⟨g, cap, he, _, _, _⟩ := Kd.R_form hv.1 (by rw [cellsOf_len]; omega)
      rw [cellsOf_len] at he
      injection he with he1 he2 he3
      subst he1
      obtain ⟨hx0, hcc, hff⟩ := hv.cells i hil
      obtain ⟨x, hX⟩ : ∃ x, l'.getD i z53 = x := ⟨_, rfl⟩
      have hc0 : W.cell? ⟨g, i * 4, none⟩ = some (.int .i64 x.f0) := by rw [← hX]; exact hcc 0 _ rfl
      have hc1 : W.cell? ⟨g, i * 4 + 1, none⟩ = some (.int .i64 x.f1) := by rw [← hX]; exact hcc 1 _ rfl
      have hf0 : W.frozen? ⟨g, i * 4, none⟩ = false := hff 0
      have hf1 : W.frozen? ⟨g, i * 4 + 1, none⟩ = false := hff 1
      have HV := Aside0.mk hv
      have HBS := Aside0.mk hbs
      have HLEN := Aside0.mk hlen
      have hf := HI.out.f
      have hkq := HI.out.k
      cases kq with
      | zero => simp [laws_markNodeS.l0] at hf
      | succ q =>
      simp only [laws_markNodeS.l0] at hf
      rw [if_pos hil, hX] at hf
      obtain ⟨⟨a1, A'⟩, hfA, hf2⟩ := Option.bind_eq_some_iff.1 hf
      obtain ⟨⟨a2, B'⟩, hfB, hf3⟩ := Option.bind_eq_some_iff.1 hf2
      have HFA := Aside0.mk hfA
      have HFB : Aside0 (laws_markNodeS.f q x.f3 a1 = some (a2, B')) := ⟨hfB⟩
      have HF : Aside0 (laws_markNodeS.l0 q (l'.set i ⟨a', wrap64 (a' + 1), A', B'⟩) a2 (i + 1) = some (r1, r2)) := ⟨hf3⟩
      have HX := Aside0.mk hX
      have hap := apart_of _ _ _ _ (HBS.out ▸ HN.out)
      have HAP := Aside0.mk hap
      have hg : g ∈ bs := by rw [hbs]; exact List.mem_append_left _ (by simp [Value.ownBlock])
      have HG := Aside0.mk hg
      have HLT := Aside0.mk hlt
      have HIL := Aside0.mk hil
      clear hv hbs hlen he2 he3 hcc hff hx0 hf hf2 hf3 hfA hfB hap hg hX hil
      have hu53 := Try.underlying53
      go_upto_region 8 with fail
      go_name_world W1 hW1
      -- the node's kind and value are stored
      have hv1 := TV.put HV.out HAP.out i HIL.out a' (wrap64 (a' + 1))
      rw [hW1, HX.out] at hv1
      have ho1 : Only bs W W1 := by
        rw [← hW1]
        exact ((Only.refl bs W).setCell HG.out _).setCell HG.out _
      have hil1 : i < (l'.set i ⟨a', wrap64 (a' + 1), x.f2, x.f3⟩).length := by rw [List.length_set]; exact HIL.out
      obtain ⟨hx1, hcc1, hff1⟩ := hv1.cells i hil1
      have hcA : W1.cell? ⟨g, i * 4 + 2, none⟩ = some (vA i) := hcc1 2 _ rfl
      have hTA := hv1.2.1 i hil1
      rw [getD_set _ _ _ _ HIL.out, if_pos rfl] at hTA
      obtain ⟨AA, cA, eA⟩ := Kd.R_slice (hTA.row (HAP.out.na i HIL.out).1)
      rw [eA] at hcA
      rw [eA] at hTA
      have HV1 := Aside0.mk hv1
      have HO1 := Aside0.mk ho1
      have HEA := Aside0.mk eA
      have HTA := Aside0.mk hTA
      clear hW1 hv1 ho1 hil1 hcc1 hff1 hx1 hTA eA hc0 hc1 hf0 hf1
      go_upto_region 9 with (go_at_call 12; refine (IH.out q (by omega) base _ x.f2 _ a1 A' W1 (bA i) HTA.out (HAP.out.na i HIL.out).1 HFA.out).mono ?_; rintro e W2 ⟨rfl, ht2, ho2⟩; have HT2 := Aside0.mk ht2; have HO2 := Aside0.mk ho2; clear ht2 ho2)
      -- the node's first row is written
      have hap1 : ApartB (.slice (some ⟨g, 0, none⟩) l.length c) (l'.set i ⟨a', wrap64 (a' + 1), x.f2, x.f3⟩).length bA bB := by rw [List.length_set]; exact HAP.out
      have hil1 : i < (l'.set i ⟨a', wrap64 (a' + 1), x.f2, x.f3⟩).length := by rw [List.length_set]; exact HIL.out
      have hv2 := TV.childA HV1.out hap1 i hil1 HO2.out (HEA.out ▸ HT2.out)
      rw [getD_set _ _ _ _ HIL.out, if_pos rfl, List.set_set] at hv2
      have hil2 : i < (l'.set i ⟨a', wrap64 (a' + 1), A', x.f3⟩).length := by rw [List.length_set]; exact HIL.out
      obtain ⟨hx2, hcc2, hff2⟩ := hv2.cells i hil2
      have hcB : W2.cell? ⟨g, i * 4 + 3, none⟩ = some (vB i) := hcc2 3 _ rfl
      have hTB := hv2.2.2 i hil2
      rw [getD_set _ _ _ _ HIL.out, if_pos rfl] at hTB
      obtain ⟨BB, cB, eB⟩ := Kd.R_slice (hTB.row (HAP.out.na i HIL.out).2)
      rw [eB] at hcB
      rw [eB] at hTB
      have HV2 := Aside0.mk hv2
      have HEB := Aside0.mk eB
      have HTB := Aside0.mk hTB
      clear hap1 hil1 hv2 hil2 hcc2 hff2 hx2 hTB eB hcA
      go_wp2_with (go_at_call 12; refine (IH.out q (by omega) base _ x.f3 _ a2 B' W2 (bB i) HTB.out (HAP.out.na i HIL.out).2 HFB.out).mono ?_; rintro e W3 ⟨rfl, ht3, ho3⟩; have HT3 := Aside0.mk ht3; have HO3 := Aside0.mk ho3; clear ht3 ho3)
      -- its second row is written
      have hap2 : ApartB (.slice (some ⟨g, 0, none⟩) l.length c) (l'.set i ⟨a', wrap64 (a' + 1), A', x.f3⟩).length bA bB := by rw [List.length_set]; exact HAP.out
      have hil2 : i < (l'.set i ⟨a', wrap64 (a' + 1), A', x.f3⟩).length := by rw [List.length_set]; exact HIL.out
      have hv3 := TV.childB HV2.out hap2 i hil2 HO3.out (HEB.out ▸ HT3.out)
      rw [getD_set _ _ _ _ HIL.out, if_pos rfl, List.set_set] at hv3
      have HV3 := Aside0.mk hv3
      clear hap2 hil2 hv3
      go_roundw
      case rel =>
        have hsub : (∀ k, k ∈ bA i → k ∈ bs) ∧ (∀ k, k ∈ bB i → k ∈ bs) := by
          rw [HBS.out]
          exact ⟨fun k hk => List.mem_append_right _ (List.mem_flatMap.2 ⟨i, List.mem_range.2 HIL.out, List.mem_append_left _ hk⟩), fun k hk => List.mem_append_right _ (List.mem_flatMap.2 ⟨i, List.mem_range.2 HIL.out, List.mem_append_right _ hk⟩)⟩
        have ht := HV3.out.shut
        rw [List.length_set, ← HBS.out] at ht
        exact ⟨q, i + 1, a2, _, rfl, by first | rfl | go_num, ⟨⟨ht, ((HI.out.o.trans HO1.out).trans (HO2.out.mono hsub.1)).trans (HO3.out.mono hsub.2), by rw [List.length_set]; exact HLEN.out, HF.out, Nat.le_of_succ_le HI.out.k, HLT.out⟩⟩⟩
      case measure =>
        have hlt' := HLT.out
        simp [RowKit.intOf]
        omega
    · have hf := HI.out.f
      have hil : ¬ i < l'.length := by rw [HI.out.len]; exact hlt
      cases kq with
      | zero => simp [laws_markNodeS.l0] at hf
      | succ q =>
      simp only [laws_markNodeS.l0] at hf
      rw [if_neg hil] at hf
      obtain ⟨rfl, rfl⟩ : a' = r1 ∧ l' = r2 := by simpa using hf
      clear hf hil
      go_wp2
      go_ret
      exact ⟨rfl, HI.out.t, HI.out.o⟩
/-- laws.markNodeS writes each node's kind and value, the tree's rows stay apart, all else is kept. -/
theorem laws_markNodeS.callsT (k : Nat) (P0_ : Nat → Prop) (u9000_ : Value) (l0 : List (S53)) (a1 : Int) (r1 : Int) (r2 : List (S53)) (w0 w : World) (hB : Below w0.heap.size w0 w) (ho0 : TN w w0.heap.size P0_ u9000_ l0) (h : laws_markNodeS.f k l0 a1 = some (r1, r2)) :
    Calls Try.prog 12 #[u9000_, .int .i64 a1] w fun e w' => e = .returned (.int .i64 r1) ∧ TN w' w0.heap.size (fun k_ => (P0_ k_ ∨ w.heap.size ≤ k_)) u9000_ r2 ∧ Below w0.heap.size w0 w' ∧ Kept w w' (fun k_ => P0_ k_) := by
  obtain ⟨bs, ht, hn, hk⟩ := ho0
  have hb := ht.bound
  refine (mark_core k w0.heap.size u9000_ l0 a1 r1 r2 w bs ht hn h).mono ?_
  rintro e w' ⟨rfl, ht', ho⟩
  exact ⟨rfl, ⟨bs, ht', hn, fun j hj => .inl (hk j hj)⟩, ⟨ho.os.trans hB.os, ho.tape.trans hB.tape, ho.output.trans hB.output, by rw [ho.size]; exact hB.size, fun j hj => (ho.block j (fun hm => by have := (hb j hm).1; omega)).trans (hB.block j hj)⟩, by rw [ho.size]; exact Nat.le_refl _, fun i hi hn' => ho.block i (fun hm => hn' (hk i hm))⟩
theorem laws_markNodeS.mono_j : ∀ k, (∀ l a i, LeO (laws_markNodeS.l0 k l a i) (laws_markNodeS.l0 (k + 1) l a i)) ∧ (∀ l a, LeO (laws_markNodeS.f k l a) (laws_markNodeS.f (k + 1) l a))
  | 0 => ⟨fun _ _ _ r h => by simp [laws_markNodeS.l0] at h, fun _ _ r h => by simp [laws_markNodeS.f] at h⟩
  | k + 1 => by
    obtain ⟨i0, i1⟩ := laws_markNodeS.mono_j k
    refine ⟨fun l a i => ?_, fun l a => ?_⟩
    · unfold laws_markNodeS.l0
      refine LeO.ite ?_ (LeO.refl _)
      exact LeO.bind (i1 _ _) (fun _ => LeO.bind (i1 _ _) (fun _ => i0 _ _ _))
    · unfold laws_markNodeS.f
      exact i0 _ _ _
theorem laws_markNodeS.mono : ∀ a0 a1 k, LeO (laws_markNodeS.f k a0 a1) (laws_markNodeS.f (k + 1) a0 a1) := fun a0 a1 k => (laws_markNodeS.mono_j k).2 a0 a1
theorem TN.R_apart' {W : World} {base : Nat} {ok : Nat → Prop} {v u : Value} {xs : List S53} {e' : TypeId} (h : TN W base ok v xs) (hty : ∀ k, u.ownBlock = some k → ∃ cells, W.heap[k]? = some (.cells cells e' (0, 0))) (ht : (53 : TypeId) ≠ e') : TN W base (fun k => ok k ∧ some k ≠ u.ownBlock) v xs :=
  TN.R_mono (TN.R_bound h) (fun k hk => ⟨hk.1, fun he => by
    obtain ⟨c1, h1⟩ := hk.2.2.2
    obtain ⟨c2, h2⟩ := hty k he.symm
    rw [h1] at h2
    injection h2 with h2; injection h2 with _ h3
    exact ht h3⟩)
theorem TN.R_keptB {W W2 : World} {base : Nat} {ok S : Nat → Prop} {v : Value} {xs : List S53} (h : TN W base ok v xs) (hk : Kept W W2 S) (hne : ∀ k, ok k → ¬ S k) : TN W2 base ok v xs :=
  TN.R_step h (fun k ho hlt => hk.2 k hlt (hne k ho))
theorem TN.split_old {W w1 : World} {base : Nat} {ok ok2 : Nat → Prop} {u v : Value} {xs ys : List S53} (hs : Kd.R k53 53 W base ok u xs) (ho : TN w1 W.heap.size ok2 v ys) (hb : Below W.heap.size W w1) : ∃ N, Kd.R k53 53 w1 base (fun k => k < N) u xs ∧ TN w1 W.heap.size (fun k => N ≤ k) v ys :=
  ⟨W.heap.size, Kd.R_mono (Kd.R_old hs hb) (fun _ h => h.2), TN.R_mono (TN.R_bound ho) (fun _ h => h.2.1)⟩
end Go.Proofs.Ythmcanjeeljnhaa.PTree
