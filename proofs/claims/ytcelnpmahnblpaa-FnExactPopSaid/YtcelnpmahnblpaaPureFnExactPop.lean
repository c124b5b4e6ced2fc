/- The law FnExactPop answers true for all data: both take the last number off data of their own. No condition. -/
import Derived.Test.YtcelnpmahnblpaaPFnExactPopx5
namespace Go.Proofs.Ytcelnpmahnblpaa.Pure
open Go.RowKit Go.Proofs.Ytcelnpmahnblpaa.PFnExactPop Go.Proofs.YtcelnpmahnblpaaW.PrintWords Go.Proofs.YtcelnpmahnblpaaW.PrintLast
set_option linter.unusedSimpArgs false
set_option linter.unusedVariables false

theorem bd64 {n : Int} (h : (Lit.int .i64 n).wf = true) : -9223372036854775808 ≤ n ∧ n ≤ 9223372036854775807 := by
  simp [Lit.wf, IntKind.min, IntKind.max, IntKind.signed, IntKind.bits] at h
  omega
/-- n lies from lo to hi. -/
def inR (n lo hi : Int) : Bool := decide (lo ≤ n ∧ n ≤ hi)
/-- A cell: 32 bits with a sign. -/
def isCell (n : Int) : Bool := decide (-2147483648 ≤ n ∧ n ≤ 2147483647)
theorem isCell_iff {n : Int} : isCell n = true ↔ (-2147483648 ≤ n ∧ n ≤ 2147483647) := by simp [isCell]
theorem inR_iff {n lo hi : Int} : inR n lo hi = true ↔ (lo ≤ n ∧ n ≤ hi) := by simp [inR]
theorem w64 {n : Int} (h : -9223372036854775808 ≤ n ∧ n ≤ 9223372036854775807) : wrap64 n = n := by unfold wrap64; omega
theorem w64_cell (n : Int) : wrap64 (wrap32 n) = wrap32 n := by unfold wrap64 wrap32; omega
theorem w32_cell {n : Int} (h : isCell n = true) : wrap32 n = n := by rw [isCell_iff] at h; unfold wrap32; omega
theorem cell_w32 (n : Int) : isCell (wrap32 n) = true := by rw [isCell_iff]; unfold wrap32; omega
theorem w32_eq (n : Int) : (wrap32 n == n) = isCell n := by
  rw [Bool.eq_iff_iff, isCell_iff]
  simp only [beq_iff_eq]
  unfold wrap32
  omega
/-- All of d numbers from i on. -/
def allF (P : Nat → Bool) : Nat → Nat → Bool
  | 0, _ => true
  | d + 1, i => P i && allF P d (i + 1)
theorem allF_congr {P Q : Nat → Bool} : ∀ d i, (∀ j, i ≤ j → j < i + d → P j = Q j) → allF P d i = allF Q d i
  | 0, _, _ => rfl
  | d + 1, i, h => by
    simp only [allF]
    rw [h i (Nat.le_refl _) (by omega), allF_congr d (i + 1) (fun j h1 h2 => h j (by omega) (by omega))]
theorem allF_true {P : Nat → Bool} : ∀ d i, (∀ j, i ≤ j → j < i + d → P j = true) → allF P d i = true
  | 0, _, _ => rfl
  | d + 1, i, h => by
    simp only [allF]
    rw [h i (Nat.le_refl _) (by omega), allF_true d (i + 1) (fun j h1 h2 => h j (by omega) (by omega))]
    rfl
theorem allF_all {α : Type} (p : α → Bool) (z : α) (l : List α) : ∀ d i, i + d = l.length → allF (fun j => p (l.getD j z)) d i = (l.drop i).all p
  | 0, i, h => by simp [allF, List.drop_of_length_le (show l.length ≤ i by omega)]
  | d + 1, i, h => by
    simp only [allF]
    rw [allF_all p z l d (i + 1) (by omega), List.drop_eq_getElem_cons (by omega : i < l.length), List.all_cons]
    simp [List.getD_eq_getElem?_getD, List.getElem?_eq_getElem (by omega : i < l.length)]
/-- A loop that leaves with false at the first number of which P does not hold. -/
theorem loop_all (F : Nat → Int → Option Bool) (n : Nat) (P : Nat → Bool) (fin : Bool)
    (hs : ∀ k (i : Nat), i < n → F (k + 1) i = if P i = true then F k ((i : Int) + 1) else some false) (he : ∀ k, F (k + 1) (n : Int) = some fin) :
    ∀ d k (i : Nat), i + d = n → d < k → F k i = some (allF P d i && fin)
  | 0, k, i, h, hk => by
    obtain ⟨k, rfl⟩ : ∃ m, k = m + 1 := ⟨k - 1, by omega⟩
    obtain rfl : i = n := by omega
    rw [he]
    simp [allF]
  | d + 1, k, i, h, hk => by
    obtain ⟨k, rfl⟩ : ∃ m, k = m + 1 := ⟨k - 1, by omega⟩
    rw [hs k i (by omega)]
    have ih := loop_all F n P fin hs he d k (i + 1) (by omega) (by omega)
    rw [show ((i + 1 : Nat) : Int) = (i : Int) + 1 by omega] at ih
    rw [ih]
    cases hp : P i <;> simp [allF, hp]
theorem loop_all0 (F : Nat → Int → Option Bool) (n : Nat) (P : Nat → Bool) (fin : Bool)
    (hs : ∀ k (i : Nat), i < n → F (k + 1) i = if P i = true then F k ((i : Int) + 1) else some false) (he : ∀ k, F (k + 1) (n : Int) = some fin) (k : Nat) (hk : n < k) : F k 0 = some (allF P n 0 && fin) :=
  loop_all F n P fin hs he n k 0 (by omega) hk
theorem spec_l01In_eq (a b c : Int) : spec_l01In.f a b c = some (inR a b c) := by
  unfold spec_l01In.f
  by_cases h1 : a ≥ b
  · have h2 : b ≤ a := h1
    by_cases h3 : a ≤ c <;> simp [h1, inR, h2, h3]
  · have h2 : ¬ b ≤ a := h1
    simp [inR, h2]
theorem impl_in_eq (a b c : Int) : impl_in.f a b c = some (inR a b c) := by
  unfold impl_in.f
  by_cases h1 : b ≤ a
  · by_cases h3 : a ≤ c <;> simp [inR, h1, h3]
  · simp [inR, h1]
theorem spec_l01Cell_eq (a : Int) : spec_l01Cell.f a = some (isCell a) := by
  unfold spec_l01Cell.f
  rw [spec_l01In_eq]
  rfl
theorem impl_WrapCell_eq (a : Int) : impl_WrapCell.f a = some (wrap32 a) := by
  unfold impl_WrapCell.f
  rw [w64_cell]
theorem impl_CellOK_eq (a : Int) : impl_CellOK.f a = some (isCell a) := by
  unfold impl_CellOK.f
  rw [impl_WrapCell_eq, Option.bind_some, w32_eq]
theorem rd_nat (l : List Int) (i : Nat) : rd l (i : Int) = l.getD i 0 := by simp [rd]
/-- Lists that agree at each place. -/
theorem list_eq_iff (a b : List Int) (h : a.length = b.length) : decide (a = b) = allF (fun j => decide (a.getD j 0 = b.getD j 0)) a.length 0 := by
  rw [Bool.eq_iff_iff, decide_eq_true_eq]
  constructor
  · rintro rfl
    exact allF_true _ _ (fun j _ _ => by simp)
  · intro ha
    have key : ∀ d i, i + d = a.length → allF (fun j => decide (a.getD j 0 = b.getD j 0)) d i = true → ∀ j, i ≤ j → j < a.length → a.getD j 0 = b.getD j 0 := by
      intro d
      induction d with
      | zero => intro i hi _ j h1 h2; omega
      | succ d ih =>
        intro i hi hh j h1 h2
        simp only [allF, Bool.and_eq_true, decide_eq_true_eq] at hh
        rcases Nat.eq_or_lt_of_le h1 with rfl | h3
        · exact hh.1
        · exact ih (i + 1) (by omega) hh.2 j (by omega) h2
    apply List.ext_getElem h
    intro i h1 h2
    have := key a.length 0 (by omega) ha i (by omega) h1
    simpa [List.getD_eq_getElem?_getD, List.getElem?_eq_getElem h1, List.getElem?_eq_getElem h2] using this
theorem laws_eqIntS_eq (a b : List Int) (ha : a.length ≤ 1048576) (k : Nat) (hk : a.length < k) : laws_eqIntS.f k a b = some (decide (a = b)) := by
  unfold laws_eqIntS.f
  by_cases h : (a.length : Int) = (b.length : Int)
  · have h' : a.length = b.length := by omega
    rw [if_pos h, list_eq_iff a b h']
    have hl := loop_all0 (fun k i => laws_eqIntS.l0 k a b i) a.length (fun j => decide (a.getD j 0 = b.getD j 0)) true (fun k i hi => by
      simp only [laws_eqIntS.l0]
      rw [if_pos (by omega), if_pos (by omega), if_pos (by omega), rd_nat, rd_nat, w64 (by omega)]
      by_cases h3 : a.getD i 0 = b.getD i 0 <;> simp [h3]) (fun k => by
      simp only [laws_eqIntS.l0]
      rw [if_neg (by omega)]) k hk
    rw [hl, Bool.and_true]
  · rw [if_neg h]
    have h2 : ¬ a = b := by rintro rfl; exact h rfl
    simp [h2]
theorem set_take (l : List Int) (i : Nat) (hi : i < l.length) : (l.take i ++ List.replicate (l.length - i) 0).set i (l.getD i 0) = l.take (i + 1) ++ List.replicate (l.length - (i + 1)) 0 := by
  have hr : List.replicate (l.length - i) (0 : Int) = 0 :: List.replicate (l.length - (i + 1)) 0 := by
    rw [show l.length - i = (l.length - (i + 1)) + 1 by omega, List.replicate_succ]
  have hg : l.getD i 0 = l[i] := by simp [List.getD_eq_getElem?_getD, List.getElem?_eq_getElem hi]
  rw [hr, List.set_append, if_neg (by rw [List.length_take]; omega), hg, List.length_take, Nat.min_eq_left (Nat.le_of_lt hi), Nat.sub_self, List.set_cons_zero, List.take_succ_eq_append_getElem hi, List.append_assoc]
  rfl
theorem laws_toIntS_eq (l : List Int) (hl : l.length ≤ 1048576) (k : Nat) (hk : l.length < k) : laws_toIntS.f k l = some l := by
  unfold laws_toIntS.f
  rw [if_pos (by omega), if_pos (by simp; omega)]
  have key : ∀ d k (i : Nat), i + d = l.length → d < k → laws_toIntS.l0 k l (l.take i ++ List.replicate (l.length - i) 0) (i : Int) = some l := by
    intro d
    induction d with
    | zero =>
      intro k i h hk
      obtain ⟨k, rfl⟩ : ∃ m, k = m + 1 := ⟨k - 1, by omega⟩
      simp only [laws_toIntS.l0]
      rw [if_neg (by omega), List.take_of_length_le (by omega), show l.length - i = 0 by omega]
      simp
    | succ d ih =>
      intro k i h hk
      obtain ⟨k, rfl⟩ : ∃ m, k = m + 1 := ⟨k - 1, by omega⟩
      simp only [laws_toIntS.l0]
      rw [if_pos (by omega), if_pos (by omega), if_pos (by simp; omega), rd_nat, Int.toNat_natCast, set_take l i (by omega), w64 (by omega), show (i : Int) + 1 = ((i + 1 : Nat) : Int) by omega]
      exact ih k (i + 1) (by omega) (by omega)
  have h := key l.length k 0 (by omega) hk
  simpa using h
theorem laws_szIntS_eq (l : List Int) (a : Int) (h0 : 0 ≤ a) (h1 : a ≤ 1048576) (hl : l.length ≤ 9223372036854775807) : laws_szIntS.f l a = some (if a - (l.length : Int) < 0 then -1 else a - (l.length : Int)) := by
  unfold laws_szIntS.f
  rw [w64 (by omega)]
  split <;> rfl
theorem laws_eqData_refl (s b c : List Int) (h n : Int) (o : ByteArray) (hs : s.length ≤ 1048576) (hb : b.length ≤ 1048576) (hc : c.length ≤ 1048576) (k : Nat) (hk : 1048576 < k) : laws_eqData.f k s b c h n o s b c h n o = some true := by
  unfold laws_eqData.f
  rw [laws_eqIntS_eq s s hs k (by omega), laws_eqIntS_eq b b hb k (by omega), laws_eqIntS_eq c c hc k (by omega)]
  simp
theorem laws_toData_eq (s b c : List Int) (h n : Int) (o : ByteArray) (hs : s.length ≤ 1048576) (hb : b.length ≤ 1048576) (hc : c.length ≤ 1048576) (k : Nat) (hk : 1048576 < k) : laws_toData.f k s b c h n o = some (s, b, c, h, n, o) := by
  unfold laws_toData.f
  rw [laws_toIntS_eq s hs k (by omega), laws_toIntS_eq b hb k (by omega), laws_toIntS_eq c hc k (by omega)]
  simp
theorem laws_szData_eq (s b c : List Int) (h n : Int) (o : ByteArray) (a : Int) (h0 : 0 ≤ a) (h1 : a ≤ 1048576) (hs : s.length ≤ 9223372036854775807) (hb : b.length ≤ 9223372036854775807) (hc : c.length ≤ 9223372036854775807) (ho : o.size ≤ 9223372036854775807) :
    ∃ t, laws_szData.f s b c h n o a = some t ∧ t ≤ a ∧ (¬ t < 0 → s.length ≤ 1048576 ∧ b.length ≤ 1048576 ∧ c.length ≤ 1048576 ∧ o.size ≤ 1048576) := by
  unfold laws_szData.f
  rw [laws_szIntS_eq s a h0 h1 hs, Option.bind_some]
  by_cases c1 : a - (s.length : Int) < 0
  · rw [if_pos c1, if_pos (by omega)]
    exact ⟨-1, rfl, by omega, fun h => absurd (by omega) h⟩
  · rw [if_neg c1, if_neg c1, laws_szIntS_eq b _ (by omega) (by omega) hb, Option.bind_some]
    by_cases c2 : a - (s.length : Int) - (b.length : Int) < 0
    · rw [if_pos c2, if_pos (by omega)]
      exact ⟨-1, rfl, by omega, fun h => absurd (by omega) h⟩
    · rw [if_neg c2, if_neg c2, laws_szIntS_eq c _ (by omega) (by omega) hc, Option.bind_some]
      by_cases c3 : a - (s.length : Int) - (b.length : Int) - (c.length : Int) < 0
      · rw [if_pos c3, if_pos (by omega)]
        exact ⟨-1, rfl, by omega, fun h => absurd (by omega) h⟩
      · rw [if_neg c3, if_neg c3, w64 (by omega)]
        by_cases c4 : a - (s.length : Int) - (b.length : Int) - (c.length : Int) - (o.size : Int) < 0
        · rw [if_pos c4]
          exact ⟨-1, rfl, by omega, fun h => absurd (by omega) h⟩
        · rw [if_neg c4]
          exact ⟨_, rfl, by omega, fun _ => by omega⟩
theorem spec_l03Cells_eq (l : List Int) (hl : l.length ≤ 1048576) (k : Nat) (hk : l.length < k) : spec_l03Cells.f k l = some (l.all isCell) := by
  unfold spec_l03Cells.f
  have h := loop_all0 (fun k i => spec_l03Cells.l0 k l i) l.length (fun j => isCell (l.getD j 0)) true (fun k i hi => by
    simp only [spec_l03Cells.l0]
    rw [if_pos (by omega), if_pos (by omega), rd_nat, spec_l01Cell_eq, Option.bind_some, w64 (by omega)]) (fun k => by
    simp only [spec_l03Cells.l0]
    rw [if_neg (by omega)]) k hk
  rw [h, allF_all isCell 0 l l.length 0 (by omega)]
  simp
theorem idx_cells (l : List Int) (hl : l.length ≤ 1048576) : ∀ d k (i : Nat), i + d = l.length → d < k →
    ∃ r, slices_IndexFunc_int_at_impl_areCells_1.l0 k l (l.length : Int) (i : Int) = some r ∧ (!decide (r ≥ 0)) = allF (fun j => isCell (l.getD j 0)) d i
  | 0, k, i, h, hk => by
    obtain ⟨k, rfl⟩ : ∃ m, k = m + 1 := ⟨k - 1, by omega⟩
    refine ⟨-1, ?_, by simp [allF]⟩
    simp only [slices_IndexFunc_int_at_impl_areCells_1.l0]
    rw [if_neg (by omega)]
  | d + 1, k, i, h, hk => by
    obtain ⟨k, rfl⟩ : ∃ m, k = m + 1 := ⟨k - 1, by omega⟩
    obtain ⟨r, hr, hq⟩ := idx_cells l hl d k (i + 1) (by omega) (by omega)
    simp only [slices_IndexFunc_int_at_impl_areCells_1.l0]
    rw [if_pos (by omega), if_pos (by omega), if_pos (by omega), rd_nat, w64 (by omega), show (i : Int) + 1 = ((i + 1 : Nat) : Int) by omega, hr]
    unfold impl_areCells_1.f
    rw [impl_CellOK_eq]
    simp only [Option.bind_some, allF]
    cases hp : isCell (l.getD i 0)
    · refine ⟨(i : Int), by simp, ?_⟩
      simp
    · refine ⟨r, by simp, ?_⟩
      rw [hq]
      simp
theorem impl_areCells_eq (l : List Int) (m : Int) (hl : l.length ≤ 1048576) (k : Nat) (hk : l.length < k) : impl_areCells.f k l m = some (decide ((l.length : Int) ≤ m) && l.all isCell) := by
  unfold impl_areCells.f
  by_cases h : (l.length : Int) ≤ m
  · obtain ⟨r, hr, hq⟩ := idx_cells l hl l.length k 0 (by omega) hk
    rw [if_pos h]
    unfold slices_ContainsFunc_int_at_impl_areCells_1.f slices_IndexFunc_int_at_impl_areCells_1.f
    rw [show (0 : Int) = ((0 : Nat) : Int) from rfl, hr]
    simp only [Option.bind_some]
    rw [show ((0 : Nat) : Int) = 0 from rfl, hq, allF_all isCell 0 l l.length 0 (by omega)]
    simp [h]
  · rw [if_neg h]
    simp [h]
/-- Valid data. -/
def dataOK (s b c : List Int) (h n : Int) (o : ByteArray) : Bool :=
  decide (s.length ≤ 32) && decide (b.length ≤ 32) && decide (c.length = 32) && s.all isCell && b.all isCell && c.all isCell && inR h 0 32 && inR n 2 16 && decide (o.size ≤ 300)
theorem spec_l03OK_eq (s b c : List Int) (h n : Int) (o : ByteArray) (hs : s.length ≤ 1048576) (hb : b.length ≤ 1048576) (hc : c.length ≤ 1048576) (k : Nat) (hk : 1048576 < k) : spec_l03OK.f k s b c h n o = some (dataOK s b c h n o) := by
  unfold spec_l03OK.f spec_l01Base.f dataOK
  rw [spec_l03Cells_eq s hs k (by omega), spec_l03Cells_eq b hb k (by omega), spec_l03Cells_eq c hc k (by omega), spec_l01In_eq, spec_l01In_eq]
  simp only [Option.bind_some]
  by_cases h1 : s.length ≤ 32
  · by_cases h2 : b.length ≤ 32
    · by_cases h3 : c.length = 32
      · rw [if_pos (by omega), if_pos (by omega), if_pos (by omega)]
        cases s.all isCell <;> cases b.all isCell <;> cases c.all isCell <;> cases inR h 0 32 <;> cases inR n 2 16 <;> simp [h1, h2, h3] <;> omega
      · rw [if_pos (by omega), if_pos (by omega), if_neg (by omega)]
        simp [h3]
    · rw [if_pos (by omega), if_neg (by omega)]
      simp [h2]
  · rw [if_neg (by omega)]
    simp [h1]
theorem impl_DataOK_eq (s b c : List Int) (h n : Int) (o : ByteArray) (hs : s.length ≤ 1048576) (hb : b.length ≤ 1048576) (hc : c.length ≤ 1048576) (k : Nat) (hk : 1048576 < k) : impl_DataOK.f k s b c h n o = some (dataOK s b c h n o) := by
  unfold impl_DataOK.f impl_isBase.f dataOK
  rw [impl_areCells_eq s 32 hs k (by omega), impl_areCells_eq b 32 hb k (by omega), impl_areCells_eq c 32 hc k (by omega), impl_in_eq, impl_in_eq]
  simp only [Option.bind_some]
  by_cases h1 : s.length ≤ 32
  · by_cases h2 : b.length ≤ 32
    · by_cases h3 : c.length = 32
      · have e1 : decide ((s.length : Int) ≤ 32) = true := by simp; omega
        have e2 : decide ((b.length : Int) ≤ 32) = true := by simp; omega
        have e3 : decide ((c.length : Int) ≤ 32) = true := by simp; omega
        rw [e1, e2, e3]
        cases s.all isCell <;> cases b.all isCell <;> cases c.all isCell <;> cases inR h 0 32 <;> cases inR n 2 16 <;> simp [h1, h2, h3] <;> omega
      · have e4 : ¬ (c.length : Int) = 32 := by omega
        simp only [e4, if_false, h3, decide_false, Bool.and_false, Bool.false_and]
        cases (decide ((s.length : Int) ≤ 32) && s.all isCell) <;> cases (decide ((b.length : Int) ≤ 32) && b.all isCell) <;> cases (decide ((c.length : Int) ≤ 32) && c.all isCell) <;> simp
    · have e2 : decide ((b.length : Int) ≤ 32) = false := by simp; omega
      rw [e2]
      cases (decide ((s.length : Int) ≤ 32) && s.all isCell) <;> simp [h2]
  · have e1 : decide ((s.length : Int) ≤ 32) = false := by simp; omega
    rw [e1]
    simp [h1]
/-- m, m + 1, .. : what marking leaves. -/
def marks (m : Int) (n : Nat) : List Int := (List.range n).map fun (j : Nat) => m + (j : Int)
theorem marks_length (m : Int) (n : Nat) : (marks m n).length = n := by simp [marks]
theorem marks_get (m : Int) (n i : Nat) (h : i < n) : (marks m n).getD i 0 = m + (i : Int) := by
  simp [marks, List.getD_eq_getElem?_getD, h]
theorem marks_snoc (m : Int) (n : Nat) : marks m (n + 1) = marks m n ++ [m + (n : Int)] := by simp [marks, List.range_succ]
theorem laws_markIntS_eq (l : List Int) (hl : l.length ≤ 1048576) (m : Int) (h0 : 0 ≤ m) (h1 : m ≤ 1099511627776) (k : Nat) (hk : l.length < k) : laws_markIntS.f k l m = some (m + (l.length : Int), marks m l.length) := by
  unfold laws_markIntS.f
  have key : ∀ d k (i : Nat), i + d = l.length → d < k → laws_markIntS.l0 k (marks m i ++ l.drop i) (m + (i : Int)) (i : Int) = some (m + (l.length : Int), marks m l.length) := by
    intro d
    induction d with
    | zero =>
      intro k i h hk
      obtain ⟨k, rfl⟩ : ∃ m, k = m + 1 := ⟨k - 1, by omega⟩
      simp only [laws_markIntS.l0]
      rw [if_neg (by simp [marks_length]; omega)]
      obtain rfl : i = l.length := by omega
      simp
    | succ d ih =>
      intro k i h hk
      obtain ⟨k, rfl⟩ : ∃ m, k = m + 1 := ⟨k - 1, by omega⟩
      simp only [laws_markIntS.l0]
      rw [if_pos (by simp [marks_length]; omega), if_pos (by omega), Int.toNat_natCast]
      have e : (marks m i ++ l.drop i).set i (m + (i : Int)) = marks m (i + 1) ++ l.drop (i + 1) := by
        rw [List.set_append, if_neg (by rw [marks_length]; omega), marks_length, Nat.sub_self, List.drop_eq_getElem_cons (by omega : i < l.length), List.set_cons_zero, marks_snoc, List.append_assoc]
        rfl
      rw [e, w64 (by omega), w64 (by omega), show m + (i : Int) + 1 = m + ((i + 1 : Nat) : Int) by omega, show (i : Int) + 1 = ((i + 1 : Nat) : Int) by omega]
      exact ih k (i + 1) (by omega) (by omega)
  have h := key l.length k 0 (by omega) hk
  simpa [marks] using h
theorem laws_heldIntS_eq (n : Nat) (hn : n ≤ 1048576) (m : Int) (h0 : 0 ≤ m) (h1 : m ≤ 1099511627776) (k : Nat) (hk : n < k) : laws_heldIntS.f k (marks m n) m = some (m + (n : Int)) := by
  unfold laws_heldIntS.f
  have key : ∀ d k (i : Nat), i + d = n → d < k → laws_heldIntS.l0 k (marks m n) (m + (i : Int)) (i : Int) = some (m + (n : Int)) := by
    intro d
    induction d with
    | zero =>
      intro k i h hk
      obtain ⟨k, rfl⟩ : ∃ m, k = m + 1 := ⟨k - 1, by omega⟩
      simp only [laws_heldIntS.l0]
      rw [if_neg (by rw [marks_length]; omega)]
      obtain rfl : i = n := by omega
      rfl
    | succ d ih =>
      intro k i h hk
      obtain ⟨k, rfl⟩ : ∃ m, k = m + 1 := ⟨k - 1, by omega⟩
      simp only [laws_heldIntS.l0]
      rw [if_pos (by rw [marks_length]; omega), if_pos (by omega), rd_nat, marks_get m n i (by omega), if_pos rfl, w64 (by omega), w64 (by omega), show m + (i : Int) + 1 = m + ((i + 1 : Nat) : Int) by omega, show (i : Int) + 1 = ((i + 1 : Nat) : Int) by omega]
      exact ih k (i + 1) (by omega) (by omega)
  have h := key n k 0 (by omega) hk
  simpa using h
theorem laws_markData_eq (s b c : List Int) (h n : Int) (o : ByteArray) (hs : s.length ≤ 1048576) (hb : b.length ≤ 1048576) (hc : c.length ≤ 1048576) (m : Int) (h0 : 0 ≤ m) (h1 : m ≤ 1000) (k : Nat) (hk : 1048576 < k) :
    laws_markData.f k s b c h n o m = some (m + (s.length : Int) + (b.length : Int) + (c.length : Int), marks m s.length, marks (m + (s.length : Int)) b.length, marks (m + (s.length : Int) + (b.length : Int)) c.length) := by
  unfold laws_markData.f
  rw [laws_markIntS_eq s hs m (by omega) (by omega) k (by omega), Option.bind_some, laws_markIntS_eq b hb _ (by omega) (by omega) k (by omega), Option.bind_some, laws_markIntS_eq c hc _ (by omega) (by omega) k (by omega)]
  rfl
theorem laws_heldData_eq (x y z : Nat) (h n : Int) (o : ByteArray) (hs : x ≤ 1048576) (hb : y ≤ 1048576) (hc : z ≤ 1048576) (m : Int) (h0 : 0 ≤ m) (h1 : m ≤ 1000) (k : Nat) (hk : 1048576 < k) :
    laws_heldData.f k (marks m x) (marks (m + (x : Int)) y) (marks (m + (x : Int) + (y : Int)) z) h n o m = some (m + (x : Int) + (y : Int) + (z : Int)) := by
  unfold laws_heldData.f
  rw [laws_heldIntS_eq x hs m (by omega) (by omega) k (by omega), Option.bind_some, if_neg (by omega), laws_heldIntS_eq y hb _ (by omega) (by omega) k (by omega), Option.bind_some, if_neg (by omega), laws_heldIntS_eq z hc _ (by omega) (by omega) k (by omega), Option.bind_some, if_neg (by omega)]
theorem dataOK_len {s b c : List Int} {h n : Int} {o : ByteArray} (hh : dataOK s b c h n o = true) : s.length ≤ 32 ∧ b.length ≤ 32 ∧ c.length = 32 ∧ 0 ≤ h ∧ h ≤ 32 := by
  unfold dataOK at hh
  simp only [Bool.and_eq_true, decide_eq_true_eq, inR_iff] at hh
  omega
/-- What popping leaves. -/
def popped (s b c : List Int) (h n : Int) (o : ByteArray) : List Int × List Int × List Int × Int × Int × ByteArray × Int × Int × Int :=
  if dataOK s b c h n o = true then (if s.length = 0 then (s, b, c, h, n, o, 0, -4, 0) else (s.take (s.length - 1), b, c, h, n, o, rdOf 0 s ((s.length : Int) - 1), 0, 0)) else ([], [], [], 0, 0, ⟨#[]⟩, 0, 0, 1)
theorem rd_rdOf (s : List Int) (i : Int) : rd s i = rdOf 0 s i := rfl
theorem spec_Pop_eq (s b c : List Int) (h n : Int) (o : ByteArray) (hs : s.length ≤ 1048576) (hb : b.length ≤ 1048576) (hc : c.length ≤ 1048576) (k : Nat) (hk : 1048576 < k) : spec_Pop.f k s b c h n o = some (popped s b c h n o) := by
  unfold spec_Pop.f popped
  rw [spec_l03OK_eq s b c h n o hs hb hc k hk]
  simp only [Option.bind_some]
  by_cases h1 : dataOK s b c h n o = true
  · obtain ⟨l1, l2, l3, l4, l5⟩ := dataOK_len h1
    rw [if_pos h1, if_pos h1]
    unfold spec_l03Pop.f spec_l03Own.f
    by_cases h3 : s.length = 0
    · rw [if_pos (by omega), if_pos h3]
      simp only [Option.bind_some, List.length_nil, List.nil_append]
      rw [if_pos (by omega), if_pos (by omega), if_pos (by omega)]
      rfl
    · rw [w64 (by omega), if_neg (by omega), if_neg h3, if_pos (by omega), if_pos (by omega)]
      simp only [Option.bind_some, List.length_nil, List.nil_append]
      rw [if_pos (by omega), show ((s.length : Int) - 1).toNat = s.length - 1 by omega, if_pos (by rw [List.length_take]; omega), rd_rdOf]
      simp only [Option.bind_some, List.length_nil, List.nil_append]
      rw [if_pos (by rw [List.length_take]; omega), if_pos (by omega), if_pos (by omega)]
      rfl
  · rw [if_neg h1, if_neg h1]
theorem impl_Pop_eq (s b c : List Int) (h n : Int) (o : ByteArray) (hs : s.length ≤ 1048576) (hb : b.length ≤ 1048576) (hc : c.length ≤ 1048576) (k : Nat) (hk : 1048576 < k) : impl_Pop.f k s b c h n o = some (popped s b c h n o) := by
  unfold impl_Pop.f popped
  rw [impl_DataOK_eq s b c h n o hs hb hc k hk]
  simp only [Option.bind_some]
  by_cases h1 : dataOK s b c h n o = true
  · obtain ⟨l1, l2, l3, l4, l5⟩ := dataOK_len h1
    rw [if_pos h1, if_pos h1]
    unfold impl_Data_copied.f slices_Clone_int.f
    rw [if_pos (by omega), if_pos (by omega), if_pos (by omega)]
    simp only [Option.bind_some]
    rw [if_pos (by omega)]
    by_cases h3 : s.length = 0
    · rw [if_pos h3, if_pos h3]
    · rw [if_neg h3, if_neg h3]
  · rw [if_neg h1, if_neg h1]
theorem popped_len (s b c : List Int) (h n : Int) (o : ByteArray) : (popped s b c h n o).1.length ≤ 33 ∧ (popped s b c h n o).2.1.length ≤ 33 ∧ (popped s b c h n o).2.2.1.length ≤ 33 := by
  unfold popped
  by_cases h1 : dataOK s b c h n o = true
  · obtain ⟨l1, l2, l3, _, _⟩ := dataOK_len h1
    rw [if_pos h1]
    by_cases h3 : s.length = 0
    · rw [if_pos h3]
      simp only []
      omega
    · rw [if_neg h3]
      simp only [List.length_take]
      omega
  · rw [if_neg h1]
    simp
theorem FnExactPop : laws_FnExactPop.Pure := by
  intro s b c h n o hs hb hc _ _ ho
  refine ⟨1048600, ?_⟩
  obtain ⟨t, ht, _, htb⟩ := laws_szData_eq s b c h n o 1048576 (by omega) (by omega) hs.1 hb.1 hc.1 ho
  unfold laws_FnExactPop.f
  rw [ht, Option.bind_some]
  by_cases h1 : t < 0
  · rw [if_pos h1]
  · obtain ⟨b1, b2, b3, _⟩ := htb h1
    rw [if_neg h1, laws_toData_eq s b c h n o b1 b2 b3 _ (by omega)]
    simp only [Option.bind_some]
    rw [spec_Pop_eq s b c h n o b1 b2 b3 _ (by omega), impl_Pop_eq s b c h n o b1 b2 b3 _ (by omega)]
    have hl := popped_len s b c h n o
    generalize popped s b c h n o = q at hl
    obtain ⟨q1, q2, q3, q4, q5, q6, q7, q8, q9⟩ := q
    simp only at hl
    obtain ⟨l1, l2, l3⟩ := hl
    simp only [Option.bind_some]
    rw [laws_eqData_refl q1 q2 q3 q4 q5 q6 (by omega) (by omega) (by omega) _ (by omega), laws_eqData_refl s b c h n o b1 b2 b3 _ (by omega), laws_markData_eq s b c h n o b1 b2 b3 1 (by omega) (by omega) _ (by omega), laws_markData_eq q1 q2 q3 q4 q5 q6 (by omega) (by omega) (by omega) 1 (by omega) (by omega) _ (by omega)]
    simp only [Option.bind_some, if_true]
    rw [if_neg (by omega), laws_heldData_eq q1.length q2.length q3.length q4 q5 q6 (by omega) (by omega) (by omega) 1 (by omega) (by omega) _ (by omega)]
    simp only [Option.bind_some, if_true]
    rw [if_neg (by omega), if_neg (by omega)]
end Go.Proofs.Ytcelnpmahnblpaa.Pure
