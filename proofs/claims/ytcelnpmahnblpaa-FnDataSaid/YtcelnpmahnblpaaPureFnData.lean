/- The law FnData answers true for all draws: what is pushed is popped, and what is stored is fetched. No condition. -/
import Derived.Test.YtcelnpmahnblpaaPFnDatax8
namespace Go.Proofs.Ytcelnpmahnblpaa.Pure
open Go.RowKit Go.Proofs.Ytcelnpmahnblpaa.PFnData Go.Proofs.YtcelnpmahnblpaaW.PrintWords Go.Proofs.YtcelnpmahnblpaaW.PrintLast
set_option linter.unusedSimpArgs false
set_option linter.unusedVariables false

theorem bd64 {n : Int} (h : (Lit.int .i64 n).wf = true) : -9223372036854775808 ≤ n ∧ n ≤ 9223372036854775807 := by
  simp [Lit.wf, IntKind.min, IntKind.max, IntKind.signed, IntKind.bits] at h
  omega
/-- n lies from lo to hi. -/
def inR (n lo hi : Int) : Bool := decide (lo ≤ n ∧ n ≤ hi)
/-- A cell: 32 bits with a sign. -/
def isCell (n : Int) : Bool := decide (-2147483648 ≤ n ∧ n ≤ 2147483647)
theorem isCell_iff {n : Int} : isCell n = true ↔ (-2147483648 ≤ n ∧ n ≤ 2147483647) := by simp [isCell]
theorem inR_iff {n lo hi : Int} : inR n lo hi = true ↔ (lo ≤ n ∧ n ≤ hi) := by simp [inR]
theorem w64 {n : Int} (h : -9223372036854775808 ≤ n ∧ n ≤ 9223372036854775807) : wrap64 n = n := by unfold wrap64; omega
theorem w64_cell (n : Int) : wrap64 (wrap32 n) = wrap32 n := by unfold wrap64 wrap32; omega
theorem w32_cell {n : Int} (h : isCell n = true) : wrap32 n = n := by rw [isCell_iff] at h; unfold wrap32; omega
theorem cell_w32 (n : Int) : isCell (wrap32 n) = true := by rw [isCell_iff]; unfold wrap32; omega
theorem w32_eq (n : Int) : (wrap32 n == n) = isCell n := by
  rw [Bool.eq_iff_iff, isCell_iff]
  simp only [beq_iff_eq]
  unfold wrap32
  omega
/-- All of d numbers from i on. -/
def allF (P : Nat → Bool) : Nat → Nat → Bool
  | 0, _ => true
  | d + 1, i => P i && allF P d (i + 1)
theorem allF_congr {P Q : Nat → Bool} : ∀ d i, (∀ j, i ≤ j → j < i + d → P j = Q j) → allF P d i = allF Q d i
  | 0, _, _ => rfl
  | d + 1, i, h => by
    simp only [allF]
    rw [h i (Nat.le_refl _) (by omega), allF_congr d (i + 1) (fun j h1 h2 => h j (by omega) (by omega))]
theorem allF_true {P : Nat → Bool} : ∀ d i, (∀ j, i ≤ j → j < i + d → P j = true) → allF P d i = true
  | 0, _, _ => rfl
  | d + 1, i, h => by
    simp only [allF]
    rw [h i (Nat.le_refl _) (by omega), allF_true d (i + 1) (fun j h1 h2 => h j (by omega) (by omega))]
    rfl
theorem allF_all {α : Type} (p : α → Bool) (z : α) (l : List α) : ∀ d i, i + d = l.length → allF (fun j => p (l.getD j z)) d i = (l.drop i).all p
  | 0, i, h => by simp [allF, List.drop_of_length_le (show l.length ≤ i by omega)]
  | d + 1, i, h => by
    simp only [allF]
    rw [allF_all p z l d (i + 1) (by omega), List.drop_eq_getElem_cons (by omega : i < l.length), List.all_cons]
    simp [List.getD_eq_getElem?_getD, List.getElem?_eq_getElem (by omega : i < l.length)]
/-- A loop that leaves with false at the first number of which P does not hold. -/
theorem loop_all (F : Nat → Int → Option Bool) (n : Nat) (P : Nat → Bool) (fin : Bool)
    (hs : ∀ k (i : Nat), i < n → F (k + 1) i = if P i = true then F k ((i : Int) + 1) else some false) (he : ∀ k, F (k + 1) (n : Int) = some fin) :
    ∀ d k (i : Nat), i + d = n → d < k → F k i = some (allF P d i && fin)
  | 0, k, i, h, hk => by
    obtain ⟨k, rfl⟩ : ∃ m, k = m + 1 := ⟨k - 1, by omega⟩
    obtain rfl : i = n := by omega
    rw [he]
    simp [allF]
  | d + 1, k, i, h, hk => by
    obtain ⟨k, rfl⟩ : ∃ m, k = m + 1 := ⟨k - 1, by omega⟩
    rw [hs k i (by omega)]
    have ih := loop_all F n P fin hs he d k (i + 1) (by omega) (by omega)
    rw [show ((i + 1 : Nat) : Int) = (i : Int) + 1 by omega] at ih
    rw [ih]
    cases hp : P i <;> simp [allF, hp]
theorem loop_all0 (F : Nat → Int → Option Bool) (n : Nat) (P : Nat → Bool) (fin : Bool)
    (hs : ∀ k (i : Nat), i < n → F (k + 1) i = if P i = true then F k ((i : Int) + 1) else some false) (he : ∀ k, F (k + 1) (n : Int) = some fin) (k : Nat) (hk : n < k) : F k 0 = some (allF P n 0 && fin) :=
  loop_all F n P fin hs he n k 0 (by omega) hk
theorem spec_l01In_eq (a b c : Int) : spec_l01In.f a b c = some (inR a b c) := by
  unfold spec_l01In.f
  by_cases h1 : a ≥ b
  · have h2 : b ≤ a := h1
    by_cases h3 : a ≤ c <;> simp [h1, inR, h2, h3]
  · have h2 : ¬ b ≤ a := h1
    simp [inR, h2]
theorem impl_in_eq (a b c : Int) : impl_in.f a b c = some (inR a b c) := by
  unfold impl_in.f
  by_cases h1 : b ≤ a
  · by_cases h3 : a ≤ c <;> simp [inR, h1, h3]
  · simp [inR, h1]
theorem spec_l01Cell_eq (a : Int) : spec_l01Cell.f a = some (isCell a) := by
  unfold spec_l01Cell.f
  rw [spec_l01In_eq]
  rfl
theorem impl_WrapCell_eq (a : Int) : impl_WrapCell.f a = some (wrap32 a) := by
  unfold impl_WrapCell.f
  rw [w64_cell]
theorem impl_CellOK_eq (a : Int) : impl_CellOK.f a = some (isCell a) := by
  unfold impl_CellOK.f
  rw [impl_WrapCell_eq, Option.bind_some, w32_eq]
theorem rd_nat (l : List Int) (i : Nat) : rd l (i : Int) = l.getD i 0 := by simp [rd]
/-- Lists that agree at each place. -/
theorem list_eq_iff (a b : List Int) (h : a.length = b.length) : decide (a = b) = allF (fun j => decide (a.getD j 0 = b.getD j 0)) a.length 0 := by
  rw [Bool.eq_iff_iff, decide_eq_true_eq]
  constructor
  · rintro rfl
    exact allF_true _ _ (fun j _ _ => by simp)
  · intro ha
    have key : ∀ d i, i + d = a.length → allF (fun j => decide (a.getD j 0 = b.getD j 0)) d i = true → ∀ j, i ≤ j → j < a.length → a.getD j 0 = b.getD j 0 := by
      intro d
      induction d with
      | zero => intro i hi _ j h1 h2; omega
      | succ d ih =>
        intro i hi hh j h1 h2
        simp only [allF, Bool.and_eq_true, decide_eq_true_eq] at hh
        rcases Nat.eq_or_lt_of_le h1 with rfl | h3
        · exact hh.1
        · exact ih (i + 1) (by omega) hh.2 j (by omega) h2
    apply List.ext_getElem h
    intro i h1 h2
    have := key a.length 0 (by omega) ha i (by omega) h1
    simpa [List.getD_eq_getElem?_getD, List.getElem?_eq_getElem h1, List.getElem?_eq_getElem h2] using this
theorem spec_l03Cells_eq (l : List Int) (hl : l.length ≤ 1048576) (k : Nat) (hk : l.length < k) : spec_l03Cells.f k l = some (l.all isCell) := by
  unfold spec_l03Cells.f
  have h := loop_all0 (fun k i => spec_l03Cells.l0 k l i) l.length (fun j => isCell (l.getD j 0)) true (fun k i hi => by
    simp only [spec_l03Cells.l0]
    rw [if_pos (by omega), if_pos (by omega), rd_nat, spec_l01Cell_eq, Option.bind_some, w64 (by omega)]) (fun k => by
    simp only [spec_l03Cells.l0]
    rw [if_neg (by omega)]) k hk
  rw [h, allF_all isCell 0 l l.length 0 (by omega)]
  simp
theorem idx_cells (l : List Int) (hl : l.length ≤ 1048576) : ∀ d k (i : Nat), i + d = l.length → d < k →
    ∃ r, slices_IndexFunc_int_at_impl_areCells_1.l0 k l (l.length : Int) (i : Int) = some r ∧ (!decide (r ≥ 0)) = allF (fun j => isCell (l.getD j 0)) d i
  | 0, k, i, h, hk => by
    obtain ⟨k, rfl⟩ : ∃ m, k = m + 1 := ⟨k - 1, by omega⟩
    refine ⟨-1, ?_, by simp [allF]⟩
    simp only [slices_IndexFunc_int_at_impl_areCells_1.l0]
    rw [if_neg (by omega)]
  | d + 1, k, i, h, hk => by
    obtain ⟨k, rfl⟩ : ∃ m, k = m + 1 := ⟨k - 1, by omega⟩
    obtain ⟨r, hr, hq⟩ := idx_cells l hl d k (i + 1) (by omega) (by omega)
    simp only [slices_IndexFunc_int_at_impl_areCells_1.l0]
    rw [if_pos (by omega), if_pos (by omega), if_pos (by omega), rd_nat, w64 (by omega), show (i : Int) + 1 = ((i + 1 : Nat) : Int) by omega, hr]
    unfold impl_areCells_1.f
    rw [impl_CellOK_eq]
    simp only [Option.bind_some, allF]
    cases hp : isCell (l.getD i 0)
    · refine ⟨(i : Int), by simp, ?_⟩
      simp
    · refine ⟨r, by simp, ?_⟩
      rw [hq]
      simp
theorem impl_areCells_eq (l : List Int) (m : Int) (hl : l.length ≤ 1048576) (k : Nat) (hk : l.length < k) : impl_areCells.f k l m = some (decide ((l.length : Int) ≤ m) && l.all isCell) := by
  unfold impl_areCells.f
  by_cases h : (l.length : Int) ≤ m
  · obtain ⟨r, hr, hq⟩ := idx_cells l hl l.length k 0 (by omega) hk
    rw [if_pos h]
    unfold slices_ContainsFunc_int_at_impl_areCells_1.f slices_IndexFunc_int_at_impl_areCells_1.f
    rw [show (0 : Int) = ((0 : Nat) : Int) from rfl, hr]
    simp only [Option.bind_some]
    rw [show ((0 : Nat) : Int) = 0 from rfl, hq, allF_all isCell 0 l l.length 0 (by omega)]
    simp [h]
  · rw [if_neg h]
    simp [h]
/-- Valid data. -/
def dataOK (s b c : List Int) (h n : Int) (o : ByteArray) : Bool :=
  decide (s.length ≤ 32) && decide (b.length ≤ 32) && decide (c.length = 32) && s.all isCell && b.all isCell && c.all isCell && inR h 0 32 && inR n 2 16 && decide (o.size ≤ 300)
theorem spec_l03OK_eq (s b c : List Int) (h n : Int) (o : ByteArray) (hs : s.length ≤ 1048576) (hb : b.length ≤ 1048576) (hc : c.length ≤ 1048576) (k : Nat) (hk : 1048576 < k) : spec_l03OK.f k s b c h n o = some (dataOK s b c h n o) := by
  unfold spec_l03OK.f spec_l01Base.f dataOK
  rw [spec_l03Cells_eq s hs k (by omega), spec_l03Cells_eq b hb k (by omega), spec_l03Cells_eq c hc k (by omega), spec_l01In_eq, spec_l01In_eq]
  simp only [Option.bind_some]
  by_cases h1 : s.length ≤ 32
  · by_cases h2 : b.length ≤ 32
    · by_cases h3 : c.length = 32
      · rw [if_pos (by omega), if_pos (by omega), if_pos (by omega)]
        cases s.all isCell <;> cases b.all isCell <;> cases c.all isCell <;> cases inR h 0 32 <;> cases inR n 2 16 <;> simp [h1, h2, h3] <;> omega
      · rw [if_pos (by omega), if_pos (by omega), if_neg (by omega)]
        simp [h3]
    · rw [if_pos (by omega), if_neg (by omega)]
      simp [h2]
  · rw [if_neg (by omega)]
    simp [h1]
theorem impl_DataOK_eq (s b c : List Int) (h n : Int) (o : ByteArray) (hs : s.length ≤ 1048576) (hb : b.length ≤ 1048576) (hc : c.length ≤ 1048576) (k : Nat) (hk : 1048576 < k) : impl_DataOK.f k s b c h n o = some (dataOK s b c h n o) := by
  unfold impl_DataOK.f impl_isBase.f dataOK
  rw [impl_areCells_eq s 32 hs k (by omega), impl_areCells_eq b 32 hb k (by omega), impl_areCells_eq c 32 hc k (by omega), impl_in_eq, impl_in_eq]
  simp only [Option.bind_some]
  by_cases h1 : s.length ≤ 32
  · by_cases h2 : b.length ≤ 32
    · by_cases h3 : c.length = 32
      · have e1 : decide ((s.length : Int) ≤ 32) = true := by simp; omega
        have e2 : decide ((b.length : Int) ≤ 32) = true := by simp; omega
        have e3 : decide ((c.length : Int) ≤ 32) = true := by simp; omega
        rw [e1, e2, e3]
        cases s.all isCell <;> cases b.all isCell <;> cases c.all isCell <;> cases inR h 0 32 <;> cases inR n 2 16 <;> simp [h1, h2, h3] <;> omega
      · have e4 : ¬ (c.length : Int) = 32 := by omega
        simp only [e4, if_false, h3, decide_false, Bool.and_false, Bool.false_and]
        cases (decide ((s.length : Int) ≤ 32) && s.all isCell) <;> cases (decide ((b.length : Int) ≤ 32) && b.all isCell) <;> cases (decide ((c.length : Int) ≤ 32) && c.all isCell) <;> simp
    · have e2 : decide ((b.length : Int) ≤ 32) = false := by simp; omega
      rw [e2]
      cases (decide ((s.length : Int) ≤ 32) && s.all isCell) <;> simp [h2]
  · have e1 : decide ((s.length : Int) ≤ 32) = false := by simp; omega
    rw [e1]
    simp [h1]
theorem slices_Equal_eq (a b : List Int) (ha : a.length ≤ 1048576) (k : Nat) (hk : a.length < k) : slices_Equal_int.f k a b = some (decide (a = b)) := by
  unfold slices_Equal_int.f
  by_cases h : (a.length : Int) = (b.length : Int)
  · have h' : a.length = b.length := by omega
    rw [if_pos h, list_eq_iff a b h']
    have hl := loop_all0 (fun k i => slices_Equal_int.l0 k a b (a.length : Int) i) a.length (fun j => decide (a.getD j 0 = b.getD j 0)) true (fun k i hi => by
      simp only [slices_Equal_int.l0]
      rw [if_pos (by omega), if_pos (by omega), if_pos (by omega), if_pos (by omega), rd_nat, rd_nat, w64 (by omega)]
      by_cases h3 : a.getD i 0 = b.getD i 0 <;> simp [h3]) (fun k => by
      simp only [slices_Equal_int.l0]
      rw [if_neg (by omega)]) k hk
    rw [hl, Bool.and_true]
  · rw [if_neg h]
    have h2 : ¬ a = b := by rintro rfl; exact h rfl
    simp [h2]
theorem dataOK_len {s b c : List Int} {h n : Int} {o : ByteArray} (hh : dataOK s b c h n o = true) : s.length ≤ 32 ∧ b.length ≤ 32 ∧ c.length = 32 ∧ 0 ≤ h ∧ h ≤ 32 := by
  unfold dataOK at hh
  simp only [Bool.and_eq_true, decide_eq_true_eq, inR_iff] at hh
  omega

/-- What pushing leaves. -/
def pushed (s b c : List Int) (h n : Int) (o : ByteArray) (x : Int) : List Int × List Int × List Int × Int × Int × ByteArray × Int × Int :=
  if dataOK s b c h n o = true then (if isCell x = true then (if s.length = 32 then (s, b, c, h, n, o, -3, 0) else (s ++ [x], b, c, h, n, o, 0, 0)) else ([], [], [], 0, 0, ⟨#[]⟩, 0, 4)) else ([], [], [], 0, 0, ⟨#[]⟩, 0, 1)
theorem spec_Push_eq (s b c : List Int) (h n : Int) (o : ByteArray) (x : Int) (hs : s.length ≤ 1048576) (hb : b.length ≤ 1048576) (hc : c.length ≤ 1048576) (k : Nat) (hk : 1048576 < k) : spec_Push.f k s b c h n o x = some (pushed s b c h n o x) := by
  unfold spec_Push.f pushed
  rw [spec_l03OK_eq s b c h n o hs hb hc k hk, spec_l01Cell_eq]
  simp only [Option.bind_some]
  by_cases h1 : dataOK s b c h n o = true
  · obtain ⟨l1, l2, l3, _, _⟩ := dataOK_len h1
    rw [if_pos h1, if_pos h1]
    by_cases h2 : isCell x = true
    · rw [if_pos h2, if_pos h2]
      unfold spec_l03Push.f spec_l03Own.f
      by_cases h3 : s.length = 32
      · rw [if_pos (by omega), if_pos h3]
        simp only [Option.bind_some, List.length_nil, List.nil_append]
        rw [if_pos (by omega), if_pos (by omega), if_pos (by omega)]
        rfl
      · rw [if_neg (by omega), if_neg h3]
        simp only [Option.bind_some, List.length_nil, List.nil_append]
        rw [if_pos (by omega), if_pos (by omega)]
        simp only [Option.bind_some]
        rw [if_pos (by simp; omega), if_pos (by omega), if_pos (by omega)]
        rfl
    · rw [if_neg h2, if_neg h2]
  · rw [if_neg h1, if_neg h1]
theorem impl_Push_eq (s b c : List Int) (h n : Int) (o : ByteArray) (x : Int) (hs : s.length ≤ 1048576) (hb : b.length ≤ 1048576) (hc : c.length ≤ 1048576) (k : Nat) (hk : 1048576 < k) : impl_Push.f k s b c h n o x = some (pushed s b c h n o x) := by
  unfold impl_Push.f impl_dataCode.f pushed
  rw [impl_DataOK_eq s b c h n o hs hb hc k hk, impl_CellOK_eq]
  simp only [Option.bind_some]
  by_cases h1 : dataOK s b c h n o = true
  · obtain ⟨l1, l2, l3, _, _⟩ := dataOK_len h1
    rw [if_pos h1, if_pos h1]
    by_cases h2 : isCell x = true
    · rw [if_pos h2, if_pos h2]
      unfold impl_Data_copied.f slices_Clone_int.f
      rw [if_pos (by omega), if_pos (by omega), if_pos (by omega)]
      simp only [Option.bind_some, if_true]
      rw [if_pos (by omega)]
      by_cases h3 : s.length = 32
      · rw [if_pos (by omega), if_pos h3]
      · rw [if_neg (by omega), if_neg h3]
    · rw [if_neg h2, if_neg h2]
      simp
  · rw [if_neg h1, if_neg h1]
    simp
/-- What popping leaves. -/
def popped (s b c : List Int) (h n : Int) (o : ByteArray) : List Int × List Int × List Int × Int × Int × ByteArray × Int × Int × Int :=
  if dataOK s b c h n o = true then (if s.length = 0 then (s, b, c, h, n, o, 0, -4, 0) else (s.take (s.length - 1), b, c, h, n, o, rdOf 0 s ((s.length : Int) - 1), 0, 0)) else ([], [], [], 0, 0, ⟨#[]⟩, 0, 0, 1)
theorem impl_Pop_eq (s b c : List Int) (h n : Int) (o : ByteArray) (hs : s.length ≤ 1048576) (hb : b.length ≤ 1048576) (hc : c.length ≤ 1048576) (k : Nat) (hk : 1048576 < k) : impl_Pop.f k s b c h n o = some (popped s b c h n o) := by
  unfold impl_Pop.f popped
  rw [impl_DataOK_eq s b c h n o hs hb hc k hk]
  simp only [Option.bind_some]
  by_cases h1 : dataOK s b c h n o = true
  · obtain ⟨l1, l2, l3, l4, l5⟩ := dataOK_len h1
    rw [if_pos h1, if_pos h1]
    unfold impl_Data_copied.f slices_Clone_int.f
    rw [if_pos (by omega), if_pos (by omega), if_pos (by omega)]
    simp only [Option.bind_some]
    rw [if_pos (by omega)]
    by_cases h3 : s.length = 0
    · rw [if_pos h3, if_pos h3]
    · rw [if_neg h3, if_neg h3]
  · rw [if_neg h1, if_neg h1]
theorem dataOK_h {s b c : List Int} {h n : Int} {o : ByteArray} (hh : dataOK s b c h n o = true) : c.length = 32 ∧ 0 ≤ h ∧ h ≤ 32 := by
  unfold dataOK at hh
  simp only [Bool.and_eq_true, decide_eq_true_eq, inR_iff] at hh
  omega
/-- The place of an address, -1 of one that is none. -/
def placeOf (h a : Int) : Int := if inR a 4096 (4096 + 4 * h - 1) = true ∧ Int.tmod a 4 = 0 then (a - 4096) / 4 else -1
theorem spec_l03At_eq (s b c : List Int) (h n : Int) (o : ByteArray) (a : Int) (hh : 0 ≤ h ∧ h ≤ 32) : spec_l03At.f s b c h n o a = some (placeOf h a) := by
  unfold spec_l03At.f placeOf
  rw [spec_l01In_eq, w64 (n := 4 * h) (by omega), w64 (n := 4096 + 4 * h) (by omega), w64 (n := 4096 + 4 * h - 1) (by omega)]
  simp only [Option.bind_some]
  by_cases h4 : inR a 4096 (4096 + 4 * h - 1) = true
  · have h5 := inR_iff.mp h4
    rw [if_pos h4]
    by_cases h6 : Int.tmod a 4 = 0
    · rw [if_pos h6, if_pos ⟨h4, h6⟩, w64 (n := a - 4096) (by omega), Int.tdiv_eq_ediv_of_nonneg (by omega), w64 (by omega)]
    · rw [if_neg h6, if_neg (fun e => h6 e.2)]
  · rw [if_neg h4, if_neg (fun e => h4 e.1)]
theorem impl_Data_cell_eq (s b c : List Int) (h n : Int) (o : ByteArray) (a : Int) (hh : 0 ≤ h ∧ h ≤ 32) : impl_Data_cell.f s b c h n o a = some (if 0 ≤ placeOf h a then (placeOf h a, true, h, n, o) else (0, false, h, n, o)) := by
  unfold impl_Data_cell.f
  rw [impl_in_eq, w64 (n := 4 * h) (by omega), w64 (n := 4096 + 4 * h) (by omega), w64 (n := 4096 + 4 * h - 1) (by omega)]
  simp only [Option.bind_some]
  by_cases h4 : inR a 4096 (4096 + 4 * h - 1) = true
  · have h5 := inR_iff.mp h4
    rw [if_pos h4]
    by_cases h6 : Int.tmod a 4 = 0
    · have e : placeOf h a = (a - 4096) / 4 := by unfold placeOf; rw [if_pos ⟨h4, h6⟩]
      rw [if_pos h6, e, if_pos (by omega), w64 (n := a - 4096) (by omega), Int.tdiv_eq_ediv_of_nonneg (by omega), w64 (by omega)]
    · have e : placeOf h a = -1 := by unfold placeOf; rw [if_neg (fun e => h6 e.2)]
      rw [if_neg h6, e, if_neg (by omega)]
  · have e : placeOf h a = -1 := by unfold placeOf; rw [if_neg (fun e => h4 e.1)]
    rw [if_neg h4, e, if_neg (by omega)]
theorem placeOf_lt {h a : Int} (hh : 0 ≤ h ∧ h ≤ 32) : placeOf h a < 32 := by
  unfold placeOf
  by_cases e : inR a 4096 (4096 + 4 * h - 1) = true ∧ Int.tmod a 4 = 0
  · rw [if_pos e]
    have := inR_iff.mp e.1
    omega
  · rw [if_neg e]
    omega
/-- What storing leaves. -/
def stored (s b c : List Int) (h n : Int) (o : ByteArray) (a x : Int) : List Int × List Int × List Int × Int × Int × ByteArray × Int × Int :=
  if dataOK s b c h n o = true then (if isCell x = true then (if 0 ≤ placeOf h a then (s, b, c.set (placeOf h a).toNat x, h, n, o, 0, 0) else (s, b, c, h, n, o, -9, 0)) else ([], [], [], 0, 0, ⟨#[]⟩, 0, 4)) else ([], [], [], 0, 0, ⟨#[]⟩, 0, 1)
theorem spec_Store_eq (s b c : List Int) (h n : Int) (o : ByteArray) (a x : Int) (hs : s.length ≤ 1048576) (hb : b.length ≤ 1048576) (hc : c.length ≤ 1048576) (k : Nat) (hk : 1048576 < k) : spec_Store.f k s b c h n o a x = some (stored s b c h n o a x) := by
  unfold spec_Store.f stored
  rw [spec_l03OK_eq s b c h n o hs hb hc k hk, spec_l01Cell_eq]
  simp only [Option.bind_some]
  by_cases h1 : dataOK s b c h n o = true
  · obtain ⟨l1, l2, l3, l4, l5⟩ := dataOK_len h1
    rw [if_pos h1, if_pos h1]
    by_cases h2 : isCell x = true
    · rw [if_pos h2, if_pos h2]
      unfold spec_l03Store.f spec_l03Own.f
      rw [spec_l03At_eq s b c h n o a ⟨l4, l5⟩]
      simp only [Option.bind_some]
      by_cases h3 : 0 ≤ placeOf h a
      · have := placeOf_lt (h := h) (a := a) ⟨l4, l5⟩
        rw [if_neg (by omega), if_pos h3]
        simp only [List.length_nil, List.nil_append]
        rw [if_pos (by omega), if_pos h3, if_pos (by omega)]
        simp only [Option.bind_some, List.length_nil, List.nil_append, List.length_set]
        rw [if_pos (by omega), if_pos (by omega), if_pos (by omega)]
        rfl
      · rw [if_pos (by omega), if_neg h3]
        simp only [Option.bind_some, List.length_nil, List.nil_append]
        rw [if_pos (by omega), if_pos (by omega), if_pos (by omega)]
        rfl
    · rw [if_neg h2, if_neg h2]
  · rw [if_neg h1, if_neg h1]
theorem impl_Store_eq (s b c : List Int) (h n : Int) (o : ByteArray) (a x : Int) (hs : s.length ≤ 1048576) (hb : b.length ≤ 1048576) (hc : c.length ≤ 1048576) (k : Nat) (hk : 1048576 < k) : impl_Store.f k s b c h n o a x = some (stored s b c h n o a x) := by
  unfold impl_Store.f impl_dataCode.f stored
  rw [impl_DataOK_eq s b c h n o hs hb hc k hk, impl_CellOK_eq]
  simp only [Option.bind_some]
  by_cases h1 : dataOK s b c h n o = true
  · obtain ⟨l1, l2, l3, l4, l5⟩ := dataOK_len h1
    rw [if_pos h1, if_pos h1]
    by_cases h2 : isCell x = true
    · rw [if_pos h2, if_pos h2]
      unfold impl_Data_copied.f slices_Clone_int.f
      rw [if_pos (by omega), if_pos (by omega), if_pos (by omega), impl_Data_cell_eq s b c h n o a ⟨l4, l5⟩]
      simp only [Option.bind_some, if_true]
      by_cases h3 : 0 ≤ placeOf h a
      · have := placeOf_lt (h := h) (a := a) ⟨l4, l5⟩
        rw [if_pos h3, if_pos h3]
        simp only [if_true]
        rw [if_pos h3, if_pos (by omega)]
      · rw [if_neg h3, if_neg h3]
        simp
    · rw [if_neg h2, if_neg h2]
      simp
  · rw [if_neg h1, if_neg h1]
    simp
theorem stored_len (s b c : List Int) (h n : Int) (o : ByteArray) (a x : Int) : (stored s b c h n o a x).1.length ≤ 33 ∧ (stored s b c h n o a x).2.1.length ≤ 33 ∧ (stored s b c h n o a x).2.2.1.length ≤ 33 := by
  unfold stored
  by_cases h1 : dataOK s b c h n o = true
  · obtain ⟨l1, l2, l3, _, _⟩ := dataOK_len h1
    rw [if_pos h1]
    by_cases h2 : isCell x = true
    · rw [if_pos h2]
      by_cases h3 : 0 ≤ placeOf h a
      · rw [if_pos h3]
        simp only [List.length_set]
        omega
      · rw [if_neg h3]
        simp only []
        omega
    · rw [if_neg h2]
      simp
  · rw [if_neg h1]
    simp
theorem u64_wrap (a : Int) : IntKind.u64.wrap a = a % 18446744073709551616 := by
  simp [IntKind.wrap, IntKind.bits, IntKind.signed]
theorem spec_Wrap_eq (a : Int) : spec_l01Wrap.f a = some (wrap32 a) := by
  unfold spec_l01Wrap.f
  rw [u64_wrap]
  congr 1
  unfold wrap64 wrap32
  omega
theorem tm_eq (a b : Int) (h : 0 ≤ a) : Int.tmod a b = a % b := Int.tmod_eq_emod_of_nonneg h
theorem td_eq (a b : Int) (h : 0 ≤ a) : Int.tdiv a b = a / b := Int.tdiv_eq_ediv_of_nonneg h
def Bytes (l : List Int) : Prop := l.length ≤ 1048576 ∧ ∀ i : Nat, i < l.length → 0 ≤ l.getD i 0 ∧ l.getD i 0 ≤ 255
theorem bytes_of {l : List Int} (hl : l.length ≤ 1048576) (h : ∀ x ∈ l, (Lit.int .u8 x).wf = true) : Bytes l := by
  refine ⟨hl, fun i hi => ?_⟩
  have h1 := h (l.getD i 0) (by simp [List.getD_eq_getElem?_getD, List.getElem?_eq_getElem hi])
  simp [Lit.wf, IntKind.min, IntKind.max, IntKind.signed, IntKind.bits] at h1
  rw [List.getD_eq_getElem?_getD]
  omega
def Src (p s : Int) (n : Nat) : Prop := 0 ≤ p ∧ p ≤ (n : Int) ∧ 0 ≤ s ∧ s < 2147483648
theorem byte_some (l : List Int) (hl : Bytes l) (p s : Int) (n : Nat) (hn : n ≤ 1000000000) (h : Src p s n) :
    ∃ r p' s', spec_l00Src_byte.f l p s = some (r, p', s') ∧ 0 ≤ r ∧ r ≤ 255 ∧ Src p' s' (n + 1) := by
  obtain ⟨h1, h2, h3, h4⟩ := h
  have h5 := hl.1
  unfold spec_l00Src_byte.f
  rw [w64 (n := p + 1) (by omega)]
  by_cases c1 : p + 1 ≤ (l.length : Int)
  · rw [if_pos c1, w64 (n := p + 1 - 1) (by omega), if_pos (by omega), if_pos (by omega)]
    have hb := hl.2 p.toNat (by omega)
    have e : rd l (p + 1 - 1) = l.getD p.toNat 0 := by
      simp only [rd]
      rw [show p + 1 - 1 = p by omega]
    rw [e]
    generalize l.getD p.toNat 0 = x at hb
    rw [w64 (n := x) (by omega), w64 (n := s * 31) (by omega), w64 (n := s * 31 + x) (by omega), w64 (n := s * 31 + x + 7) (by omega), tm_eq _ _ (by omega)]
    exact ⟨_, _, _, rfl, by omega, by omega, by omega, by omega, by omega, by omega⟩
  · rw [if_neg c1]
    by_cases c2 : p + 1 > 3000
    · rw [if_pos c2]
      exact ⟨_, _, _, rfl, by omega, by omega, by omega, by omega, by omega, by omega⟩
    · rw [if_neg c2, w64 (n := s * 1103515245) (by omega), w64 (n := s * 1103515245 + 12345) (by omega), tm_eq (s * 1103515245 + 12345) 2147483648 (by omega), td_eq ((s * 1103515245 + 12345) % 2147483648) 65536 (by omega), w64 (n := (s * 1103515245 + 12345) % 2147483648 / 65536) (by omega), tm_eq ((s * 1103515245 + 12345) % 2147483648 / 65536) 256 (by omega)]
      exact ⟨_, _, _, rfl, by omega, by omega, by omega, by omega, by omega, by omega⟩
theorem next_some (l : List Int) (hl : Bytes l) (p s : Int) (n : Nat) (hn : n ≤ 1000000000) (h : Src p s n) (m : Int) (h1 : 1 < m) (h2 : m ≤ 256) :
    ∃ r p' s', spec_l00Src_next.f l p s m = some (r, p', s') ∧ 0 ≤ r ∧ r < m ∧ Src p' s' (n + 1) := by
  obtain ⟨r, p', s', e, r0, r1, hs⟩ := byte_some l hl p s n hn h
  unfold spec_l00Src_next.f
  rw [if_neg (by omega), if_pos h2, e, Option.bind_some, if_neg (by omega), tm_eq _ _ r0]
  exact ⟨_, _, _, rfl, Int.emod_nonneg _ (by omega), Int.emod_lt_of_pos _ (by omega), hs⟩
theorem cell_some (l : List Int) (hl : Bytes l) (p s : Int) (n : Nat) (hn : n ≤ 100000000) (h : Src p s n) :
    ∃ r p' s', spec_l00Src_cell.f l p s = some (r, p', s') ∧ isCell r = true ∧ Src p' s' (n + 5) := by
  have up : ∀ {p s : Int} {n m : Nat}, n ≤ m → Src p s n → Src p s m := fun hnm hs => ⟨hs.1, by have := hs.2.1; omega, hs.2.2⟩
  obtain ⟨r, p', s', e, r0, r1, hs⟩ := next_some l hl p s n (by omega) h 8 (by omega) (by omega)
  unfold spec_l00Src_cell.f
  rw [e, Option.bind_some]
  simp only []
  by_cases c0 : r = 0
  · obtain ⟨x, p2, s2, e2, x0, x1, hs2⟩ := next_some l hl p' s' (n + 1) (by omega) hs 3 (by omega) (by omega)
    rw [if_pos c0, e2, Option.bind_some]
    exact ⟨_, _, _, rfl, by rw [isCell_iff]; simp only []; rw [w64 (by omega)]; omega, up (by omega) hs2⟩
  · rw [if_neg c0]
    by_cases c1 : r = 1
    · obtain ⟨x, p2, s2, e2, x0, x1, hs2⟩ := next_some l hl p' s' (n + 1) (by omega) hs 3 (by omega) (by omega)
      rw [if_pos c1, e2, Option.bind_some]
      exact ⟨_, _, _, rfl, by rw [isCell_iff]; simp only []; rw [w64 (by omega)]; omega, up (by omega) hs2⟩
    · rw [if_neg c1]
      by_cases c2 : r = 2
      · obtain ⟨x, p2, s2, e2, x0, x1, hs2⟩ := byte_some l hl p' s' (n + 1) (by omega) hs
        obtain ⟨y, p3, s3, e3, y0, y1, hs3⟩ := byte_some l hl p2 s2 (n + 1 + 1) (by omega) hs2
        obtain ⟨z, p4, s4, e4, z0, z1, hs4⟩ := byte_some l hl p3 s3 (n + 1 + 1 + 1) (by omega) hs3
        obtain ⟨v, p5, s5, e5, v0, v1, hs5⟩ := byte_some l hl p4 s4 (n + 1 + 1 + 1 + 1) (by omega) hs4
        rw [if_pos c2, e2, Option.bind_some]
        simp only []
        rw [e3, Option.bind_some]
        simp only []
        rw [e4, Option.bind_some]
        simp only []
        rw [e5, Option.bind_some]
        simp only []
        rw [spec_Wrap_eq, Option.bind_some]
        exact ⟨_, _, _, rfl, cell_w32 _, up (by omega) hs5⟩
      · rw [if_neg c2]
        by_cases c3 : r = 3
        · obtain ⟨x, p2, s2, e2, x0, x1, hs2⟩ := next_some l hl p' s' (n + 1) (by omega) hs 40 (by omega) (by omega)
          rw [if_pos c3, e2, Option.bind_some]
          exact ⟨_, _, _, rfl, by rw [isCell_iff]; simp only []; rw [w64 (by omega)]; omega, up (by omega) hs2⟩
        · obtain ⟨x, p2, s2, e2, x0, x1, hs2⟩ := next_some l hl p' s' (n + 1) (by omega) hs 40 (by omega) (by omega)
          rw [if_neg c3, e2, Option.bind_some]
          exact ⟨_, _, _, rfl, by rw [isCell_iff]; simp only []; omega, up (by omega) hs2⟩
theorem source_some (l : List Int) (hl : Bytes l) : ∃ s, spec_l00Source.f l = some (l, 0, s) ∧ Src 0 s 0 := by
  have := hl.1
  exact ⟨_, rfl, by omega, by omega, by omega, by omega⟩
theorem src_up {p s : Int} {n m : Nat} (hnm : n ≤ m) (hs : Src p s n) : Src p s m := ⟨hs.1, by have := hs.2.1; omega, hs.2.2⟩
theorem pick_some (l : List Int) (hl : Bytes l) (p s : Int) (n : Nat) (hn : n ≤ 1000000) (h : Src p s n) (ws : List ByteArray) (h1 : 1 < ws.length) (h2 : ws.length ≤ 256) :
    ∃ w p' s', spec_l00Src_pick.f l p s ws = some (w, p', s') ∧ w ∈ ws ∧ Src p' s' (n + 1) := by
  unfold spec_l00Src_pick.f
  obtain ⟨r, p', s', e, r0, r1, hs⟩ := next_some l hl p s n (by omega) h (ws.length : Int) (by omega) (by omega)
  rw [if_neg (by omega), e, Option.bind_some, if_pos r0, if_pos r1]
  refine ⟨_, _, _, rfl, ?_, hs⟩
  show rdOf ByteArray.empty ws r ∈ ws
  obtain ⟨i, rfl⟩ : ∃ i : Nat, r = (i : Int) := ⟨r.toNat, by omega⟩
  rw [show rdOf ByteArray.empty ws (i : Int) = ws.getD i ByteArray.empty by simp [rdOf], List.getD_eq_getElem?_getD, List.getElem?_eq_getElem (by omega : i < ws.length)]
  exact List.getElem_mem _
theorem cells_l0 (l : List Int) (hl : Bytes l) (m : Int) (hm : m ≤ 32) : ∀ (d k : Nat) (i : Int) (acc : List Int) (p s : Int) (n : Nat), i + (d : Int) = m → 0 ≤ i → d < k → (acc.length : Int) = i → n + 5 * d ≤ 1000000 → Src p s n → acc.all isCell = true →
    ∃ r p' s', spec_l00Src_cells.l0 k m acc i l p s = some (r, p', s') ∧ (r.length : Int) = m ∧ r.all isCell = true ∧ Src p' s' (n + 5 * d)
  | 0, k, i, acc, p, s, n, hd, h0, hk, ha, hn, hs, hall => by
    obtain ⟨k, rfl⟩ : ∃ m, k = m + 1 := ⟨k - 1, by omega⟩
    simp only [spec_l00Src_cells.l0]
    rw [if_neg (by omega)]
    exact ⟨acc, p, s, rfl, by omega, hall, hs⟩
  | d + 1, k, i, acc, p, s, n, hd, h0, hk, ha, hn, hs, hall => by
    obtain ⟨k, rfl⟩ : ∃ m, k = m + 1 := ⟨k - 1, by omega⟩
    obtain ⟨v, p1, s1, e1, hv, h1⟩ := cell_some l hl p s n (by omega) hs
    simp only [spec_l00Src_cells.l0]
    rw [if_pos (by omega), e1, Option.bind_some]
    simp only []
    rw [if_pos (by omega), w64 (by omega)]
    obtain ⟨r, p2, s2, e2, hr, hall2, h2⟩ := cells_l0 l hl m hm d k (i + 1) (acc ++ [v]) p1 s1 (n + 5) (by omega) (by omega) (by omega) (by rw [List.length_append, List.length_singleton]; omega) (by omega) h1 (by rw [List.all_append, hall]; simp [hv])
    exact ⟨r, p2, s2, e2, hr, hall2, src_up (by omega) h2⟩
theorem cells_some (l : List Int) (hl : Bytes l) (m : Int) (hm : 0 ≤ m ∧ m ≤ 32) (k : Nat) (hk : 100 < k) (p s : Int) (n : Nat) (hn : n ≤ 900000) (hs : Src p s n) :
    ∃ r p' s', spec_l00Src_cells.f k l p s m = some (r, p', s') ∧ r.length ≤ 32 ∧ r.all isCell = true ∧ Src p' s' (n + 160) := by
  unfold spec_l00Src_cells.f
  obtain ⟨r, p1, s1, e, h1, h2, h3⟩ := cells_l0 l hl m hm.2 m.toNat k 0 [] p s n (by omega) (by omega) (by omega) rfl (by omega) hs rfl
  exact ⟨r, p1, s1, e, by omega, h2, src_up (by omega) h3⟩
theorem all_set {c : List Int} (h : c.all isCell = true) (i : Nat) {v : Int} (hv : isCell v = true) : (c.set i v).all isCell = true := by
  rw [List.all_eq_true] at h ⊢
  intro x hx
  rcases List.mem_or_eq_of_mem_set hx with h1 | rfl
  · exact h x h1
  · exact hv
theorem data_l0 (l : List Int) (hl : Bytes l) (st bk : List Int) (h : Int) (hh : 0 ≤ h ∧ h ≤ 32) (b0 : Int) (o : ByteArray) : ∀ (d k : Nat) (i : Int) (c : List Int) (p s : Int) (n : Nat), i + (d : Int) = h → 0 ≤ i → d < k → n + 5 * d ≤ 999990 → c.length = 32 → c.all isCell = true → Src p s n →
    ∃ c' n' o' p' s', spec_l00Src_data.l0 k i l p s st bk c h b0 o = some (st, bk, c', h, n', o', p', s') ∧ c'.length = 32 ∧ c'.all isCell = true ∧ (2 ≤ n' ∧ n' ≤ 16) ∧ o'.size ≤ 300
  | 0, k, i, c, p, s, n, hd, h0, hk, hn, hc, hall, hs => by
    obtain ⟨k, rfl⟩ : ∃ m, k = m + 1 := ⟨k - 1, by omega⟩
    obtain ⟨r, p1, s1, e1, r0, r1, h1⟩ := next_some l hl p s n (by omega) hs 4 (by omega) (by omega)
    obtain ⟨w, p2, s2, e2, w1, h2⟩ := pick_some l hl p1 s1 (n + 1) (by omega) h1 [(⟨#[]⟩ : ByteArray), (⟨#[49, 32, 50, 32]⟩ : ByteArray), strOfNums (List.replicate 298 0)] (by show 1 < 3; omega) (by show 3 ≤ 256; omega)
    simp only [spec_l00Src_data.l0]
    rw [if_neg (by omega), Option.bind_some, e1, Option.bind_some]
    simp only []
    rw [if_pos r0, if_pos (by simp only [List.length_cons, List.length_nil]; omega), if_pos (by omega), e2, Option.bind_some]
    refine ⟨c, _, w, _, _, rfl, hc, hall, ?_, ?_⟩
    · rcases (by omega : r = 0 ∨ r = 1 ∨ r = 2 ∨ r = 3) with rfl | rfl | rfl | rfl <;> exact ⟨by decide, by decide⟩
    · simp only [List.mem_cons, List.not_mem_nil, or_false] at w1
      rcases w1 with rfl | rfl | rfl
      · decide
      · decide
      · unfold strOfNums
        show Array.size _ ≤ 300
        simp only [List.size_toArray, List.length_map, List.length_replicate]
        omega
  | d + 1, k, i, c, p, s, n, hd, h0, hk, hn, hc, hall, hs => by
    obtain ⟨k, rfl⟩ : ∃ m, k = m + 1 := ⟨k - 1, by omega⟩
    obtain ⟨v, p1, s1, e1, hv, h1⟩ := cell_some l hl p s n (by omega) hs
    simp only [spec_l00Src_data.l0]
    rw [if_pos (by omega), e1, Option.bind_some]
    simp only []
    rw [if_pos (by omega), if_pos (by omega), w64 (by omega)]
    exact data_l0 l hl st bk h hh b0 o d k (i + 1) (c.set i.toNat v) p1 s1 (n + 5) (by omega) (by omega) (by omega) (by omega) (by rw [List.length_set]; exact hc) (all_set hall _ hv) h1
theorem dataDrawn (l : List Int) (hl : Bytes l) (k : Nat) (hk : 200 < k) : ∃ s b c h n o, spec_DataDrawn.f k l = some (s, b, c, h, n, o) ∧ dataOK s b c h n o = true := by
  obtain ⟨s, e, hs⟩ := source_some l hl
  obtain ⟨r1, p1, s1, e1, a1, b1, h1⟩ := next_some l hl 0 s 0 (by omega) hs 6 (by omega) (by omega)
  obtain ⟨r2, p2, s2, e2, a2, b2, h2⟩ := next_some l hl p1 s1 1 (by omega) h1 6 (by omega) (by omega)
  obtain ⟨r3, p3, s3, e3, a3, b3, h3⟩ := next_some l hl p2 s2 2 (by omega) h2 6 (by omega) (by omega)
  obtain ⟨r4, p4, s4, e4, a4, b4, h4⟩ := next_some l hl p3 s3 3 (by omega) h3 3 (by omega) (by omega)
  obtain ⟨r5, p5, s5, e5, a5, b5, h5⟩ := next_some l hl p4 s4 4 (by omega) h4 4 (by omega) (by omega)
  have f5 : 0 ≤ rd [r1, r2, r3, wrap64 (30 + r4)] r5 ∧ rd [r1, r2, r3, wrap64 (30 + r4)] r5 ≤ 32 := by
    rw [w64 (by omega)]
    rcases (by omega : r5 = 0 ∨ r5 = 1 ∨ r5 = 2 ∨ r5 = 3) with rfl | rfl | rfl | rfl <;> simp [rd] <;> omega
  obtain ⟨st, p6, s6, e6, l6, c6, h6⟩ := cells_some l hl _ f5 k (by omega) p5 s5 5 (by omega) h5
  obtain ⟨r7, p7, s7, e7, a7, b7, h7⟩ := next_some l hl p6 s6 165 (by omega) h6 3 (by omega) (by omega)
  obtain ⟨r8, p8, s8, e8, a8, b8, h8⟩ := next_some l hl p7 s7 166 (by omega) h7 3 (by omega) (by omega)
  obtain ⟨r9, p9, s9, e9, a9, b9, h9⟩ := next_some l hl p8 s8 167 (by omega) h8 3 (by omega) (by omega)
  obtain ⟨r10, p10, s10, e10, a10, b10, h10⟩ := next_some l hl p9 s9 168 (by omega) h9 3 (by omega) (by omega)
  have f10 : 0 ≤ rd [r7, r8, wrap64 (30 + r9)] r10 ∧ rd [r7, r8, wrap64 (30 + r9)] r10 ≤ 32 := by
    rw [w64 (by omega)]
    rcases (by omega : r10 = 0 ∨ r10 = 1 ∨ r10 = 2) with rfl | rfl | rfl <;> simp [rd] <;> omega
  obtain ⟨bk, p11, s11, e11, l11, c11, h11⟩ := cells_some l hl _ f10 k (by omega) p10 s10 169 (by omega) h10
  obtain ⟨r12, p12, s12, e12, a12, b12, h12⟩ := next_some l hl p11 s11 329 (by omega) h11 6 (by omega) (by omega)
  obtain ⟨r13, p13, s13, e13, a13, b13, h13⟩ := next_some l hl p12 s12 330 (by omega) h12 3 (by omega) (by omega)
  have f13 : 0 ≤ rd [r12, 4, 32] r13 ∧ rd [r12, 4, 32] r13 ≤ 32 := by
    rcases (by omega : r13 = 0 ∨ r13 = 1 ∨ r13 = 2) with rfl | rfl | rfl <;> simp [rd] <;> omega
  obtain ⟨c, n, o, p14, s14, e14, lc, cc, hn, ho⟩ := data_l0 l hl st bk _ f13 10 (⟨#[]⟩ : ByteArray) (rd [r12, 4, 32] r13).toNat k 0 (List.replicate 32 0) p13 s13 331 (by omega) (by omega) (by omega) (by omega) (by simp) (by decide) h13
  refine ⟨st, bk, c, rd [r12, 4, 32] r13, n, o, ?_, ?_⟩
  · unfold spec_DataDrawn.f spec_l00Src_data.f spec_l03New.f
    rw [e, if_pos (by omega)]
    simp only [Option.bind_some]
    rw [e1]
    simp only [Option.bind_some]
    rw [e2]
    simp only [Option.bind_some]
    rw [e3]
    simp only [Option.bind_some]
    rw [e4]
    simp only [Option.bind_some]
    rw [e5]
    simp only [Option.bind_some]
    rw [if_pos a5, if_pos (by simp only [List.length_cons, List.length_nil]; omega), e6]
    simp only [Option.bind_some]
    rw [e7]
    simp only [Option.bind_some]
    rw [e8]
    simp only [Option.bind_some]
    rw [e9]
    simp only [Option.bind_some]
    rw [e10]
    simp only [Option.bind_some]
    rw [if_pos a10, if_pos (by simp only [List.length_cons, List.length_nil]; omega), e11]
    simp only [Option.bind_some]
    rw [e12]
    simp only [Option.bind_some]
    rw [e13]
    simp only [Option.bind_some]
    rw [if_pos a13, if_pos (by simp only [List.length_cons, List.length_nil]; omega), e14]
    rfl
  · unfold dataOK
    have i1 : inR (rd [r12, 4, 32] r13) 0 32 = true := inR_iff.mpr f13
    have i2 : inR n 2 16 = true := inR_iff.mpr hn
    simp only [c6, c11, cc, i1, i2, Bool.and_true, Bool.and_eq_true, decide_eq_true_eq]
    exact ⟨⟨⟨l6, l11⟩, lc⟩, ho⟩
theorem drawn (l : List Int) (hl : Bytes l) : ∃ a, spec_CellDrawn.f l = some a ∧ isCell a = true := by
  obtain ⟨s, e, hs⟩ := source_some l hl
  obtain ⟨r, p', s', e2, hr, _⟩ := cell_some l hl 0 s 0 (by omega) hs
  unfold spec_CellDrawn.f
  rw [e, Option.bind_some]
  simp only []
  rw [e2, Option.bind_some]
  exact ⟨_, rfl, hr⟩
theorem sameData_refl (s b c : List Int) (h n : Int) (o : ByteArray) (ho : dataOK s b c h n o = true) (k : Nat) (hk : 1048576 < k) : impl_SameData.f k s b c h n o s b c h n o = some true := by
  obtain ⟨l1, l2, l3, _, _⟩ := dataOK_len ho
  unfold impl_SameData.f impl_Data_same.f
  rw [impl_DataOK_eq s b c h n o (by omega) (by omega) (by omega) k hk, ho, slices_Equal_eq s s (by omega) k (by omega), slices_Equal_eq b b (by omega) k (by omega), slices_Equal_eq c c (by omega) k (by omega)]
  simp
theorem at_some (l : List Int) (hl : Bytes l) (m : Int) (h1 : 1 < m) (h2 : m ≤ 256) : ∃ r, laws_at.f l 0 m = some r ∧ 0 ≤ r ∧ r < m := by
  have hll := hl.1
  unfold laws_at.f
  rw [if_neg (by omega)]
  by_cases h0 : (l.length : Int) = 0
  · rw [if_pos h0, if_neg (by omega)]
    refine ⟨_, rfl, ?_⟩
    rw [show wrap64 (0 * 7) = 0 by unfold wrap64; omega, Int.zero_tmod]
    omega
  · have e1 : wrap64 (0 + 1) = 1 := by unfold wrap64; omega
    have e0 : Int.tmod 0 (l.length : Int) = 0 := Int.zero_tmod _
    have e2 : Int.tdiv 0 (l.length : Int) = 0 := Int.zero_tdiv _
    have e3 : Int.tmod 1 (l.length : Int) = 1 % (l.length : Int) := tm_eq _ _ (by omega)
    have b1 := Int.emod_nonneg 1 (show (l.length : Int) ≠ 0 from h0)
    have b2 := Int.emod_lt_of_pos 1 (show 0 < (l.length : Int) by omega)
    rw [if_neg h0, e1, e0, e2, e3, if_pos (by omega), if_pos (by omega), if_pos b1, if_pos b2, if_neg (by omega)]
    have c0 : 0 ≤ rd l 0 ∧ rd l 0 ≤ 255 := hl.2 0 (by omega)
    have c1 : 0 ≤ rd l (1 % (l.length : Int)) ∧ rd l (1 % (l.length : Int)) ≤ 255 := hl.2 (1 % (l.length : Int)).toNat (by omega)
    generalize rd l 0 = x at c0
    generalize rd l (1 % (l.length : Int)) = y at c1
    rw [w64 (n := x) (by omega), w64 (n := x * 31) (by omega), w64 (n := y) (by omega), w64 (n := x * 31 + y) (by omega), show wrap64 0 = 0 by unfold wrap64; omega, w64 (n := x * 31 + y + 0) (by omega), tm_eq _ _ (by omega)]
    exact ⟨_, rfl, Int.emod_nonneg _ (by omega), Int.emod_lt_of_pos _ (by omega)⟩
theorem place_at {h : Int} (hh : 0 ≤ h ∧ h ≤ 32) (i : Int) (hi : 0 ≤ i ∧ i < 32) : placeOf h (4096 + 4 * i) = if i < h then i else -1 := by
  unfold placeOf
  have e : Int.tmod (4096 + 4 * i) 4 = 0 := by rw [tm_eq _ _ (by omega)]; omega
  by_cases h1 : i < h
  · rw [if_pos h1, if_pos ⟨inR_iff.mpr (by omega), e⟩]
    omega
  · rw [if_neg h1, if_neg (fun q => by have := inR_iff.mp q.1; omega)]
theorem place_odd (h i : Int) (hi : 0 ≤ i ∧ i < 32) : placeOf h (4096 + 4 * i + 1) = -1 := by
  unfold placeOf
  rw [if_neg (fun q => by have := q.2; rw [tm_eq _ _ (by omega)] at this; omega)]
theorem fetched (s b c : List Int) (h n : Int) (o : ByteArray) (ho : dataOK s b c h n o = true) (a : Int) (k : Nat) (hk : 1048576 < k) : impl_Fetch.f k s b c h n o a = some (if 0 ≤ placeOf h a then (rd c (placeOf h a), 0, 0) else (0, -9, 0)) := by
  obtain ⟨l1, l2, l3, l4, l5⟩ := dataOK_len ho
  unfold impl_Fetch.f
  rw [impl_DataOK_eq s b c h n o (by omega) (by omega) (by omega) k hk, Option.bind_some, if_pos ho, impl_Data_cell_eq s b c h n o a ⟨l4, l5⟩, Option.bind_some]
  have hp := placeOf_lt (h := h) (a := a) ⟨l4, l5⟩
  by_cases h1 : 0 ≤ placeOf h a
  · rw [if_pos h1, if_pos h1]
    simp only [if_true]
    rw [if_pos h1, if_pos (by omega)]
  · rw [if_neg h1, if_neg h1]
    rfl
theorem roundAll (s b c cz : List Int) (h n : Int) (o : ByteArray) (hz : dataOK s b cz h n o = true) (hc : c.length = 32) (hh : 0 ≤ h ∧ h ≤ 32) (a t : Int) (hg : ∀ i : Int, 0 ≤ i → i < h → rd cz i = if i = t then a else rd c i) :
    ∀ (d k : Nat) (i : Int), i + (d : Int) = 32 → 0 ≤ i → 2 * d + 1048600 < k → laws_FnData.l0 k a (4096 + 4 * t) i s b c h n o s b cz h n o = some true
  | 0, k, i, hd, hi, hk => by
    obtain ⟨k, rfl⟩ : ∃ m, k = m + 1 := ⟨k - 1, by omega⟩
    simp only [laws_FnData.l0]
    rw [if_neg (by omega)]
  | d + 1, k, i, hd, hi, hk => by
    obtain ⟨k, rfl⟩ : ∃ m, k = m + 2 := ⟨k - 2, by omega⟩
    have ih := roundAll s b c cz h n o hz hc hh a t hg d k (i + 1) (by omega) (by omega) (by omega)
    simp only [laws_FnData.l0]
    rw [if_pos (by omega), w64 (n := 4 * i) (by omega), w64 (n := 4096 + 4 * i) (by omega), fetched s b cz h n o hz _ _ (by omega), place_at hh i (by omega), Option.bind_some]
    by_cases h1 : i < h
    · rw [if_pos h1, if_pos hi]
      simp only [if_true]
      rw [decide_eq_true h1]
      simp only [laws_FnData.j6]
      rw [if_neg (by decide), w64 (n := 4 * i) (by omega), w64 (n := 4096 + 4 * i) (by omega), w64 (n := i + 1) (by omega), hg i hi h1]
      simp only [if_true]
      by_cases h2 : i = t
      · rw [if_pos (by omega), if_pos h2, if_pos rfl]
        exact ih
      · rw [if_neg (by omega), if_neg h2, if_pos hi, if_pos (by omega), if_pos rfl]
        exact ih
    · rw [if_neg h1, if_neg (show ¬ (0 : Int) ≤ -1 by decide)]
      simp only [if_true]
      rw [decide_eq_false h1]
      simp only [laws_FnData.j6]
      rw [if_neg (by decide), if_neg (by decide), w64 (n := i + 1) (by omega)]
      exact ih
theorem dataOK_cells {s b c : List Int} {h n : Int} {o : ByteArray} (ho : dataOK s b c h n o = true) {c' : List Int} (h1 : c'.length = 32) (h2 : c'.all isCell = true) : dataOK s b c' h n o = true := by
  unfold dataOK at ho ⊢
  simp only [Bool.and_eq_true, decide_eq_true_eq] at ho ⊢
  obtain ⟨⟨⟨⟨⟨⟨⟨⟨g1, g2⟩, g3⟩, g4⟩, g5⟩, g6⟩, g7⟩, g8⟩, g9⟩ := ho
  exact ⟨⟨⟨⟨⟨⟨⟨⟨g1, g2⟩, h1⟩, g4⟩, g5⟩, h2⟩, g7⟩, g8⟩, g9⟩
theorem dataOK_cellsAll {s b c : List Int} {h n : Int} {o : ByteArray} (ho : dataOK s b c h n o = true) : c.all isCell = true ∧ s.all isCell = true := by
  unfold dataOK at ho
  simp only [Bool.and_eq_true, decide_eq_true_eq] at ho
  obtain ⟨⟨⟨⟨⟨⟨⟨⟨g1, g2⟩, g3⟩, g4⟩, g5⟩, g6⟩, g7⟩, g8⟩, g9⟩ := ho
  exact ⟨g6, g4⟩
theorem secondPart (l : List Int) (hl : Bytes l) (s b c : List Int) (h n : Int) (o : ByteArray) (ho : dataOK s b c h n o = true) (a : Int) (ha : isCell a = true) (k : Nat) (hk : 1048800 < k) : laws_FnData.j2 k l a s b c h n o = some true := by
  obtain ⟨k, rfl⟩ : ∃ m, k = m + 3 := ⟨k - 3, by omega⟩
  obtain ⟨l1, l2, l3, l4, l5⟩ := dataOK_len ho
  obtain ⟨ca, _⟩ := dataOK_cellsAll ho
  obtain ⟨t, et, t0, t1⟩ := at_some l hl 32 (by omega) (by omega)
  simp only [laws_FnData.j2]
  rw [et, Option.bind_some, w64 (n := 4 * t) (by omega), w64 (n := 4096 + 4 * t) (by omega), impl_Store_eq s b c h n o _ a (by omega) (by omega) (by omega) _ (by omega), spec_Store_eq s b c h n o _ a (by omega) (by omega) (by omega) _ (by omega)]
  unfold stored
  rw [if_pos ho, if_pos ha, place_at ⟨l4, l5⟩ t ⟨t0, t1⟩]
  have third : ∀ cz : List Int, dataOK s b cz h n o = true → (∀ i : Int, 0 ≤ i → i < h → rd cz i = if i = t then a else rd c i) → laws_FnData.j3 (k + 2) a (4096 + 4 * t) (!true) s b c h n o s b cz h n o = some true := by
    intro cz hz hg
    simp only [laws_FnData.j3]
    rw [if_neg (by decide), w64 (n := 4096 + 4 * t + 1) (by omega), fetched s b c h n o ho _ _ (by omega), place_odd h t ⟨t0, t1⟩, Option.bind_some, if_neg (show ¬ (0 : Int) ≤ -1 by decide)]
    simp only [if_true]
    simp only [laws_FnData.j4]
    rw [if_neg (by decide)]
    exact roundAll s b c cz h n o hz l3 ⟨l4, l5⟩ a t hg 32 k 0 (by omega) (by omega) (by omega)
  by_cases h1 : t < h
  · rw [if_pos h1, if_pos t0]
    simp only [Option.bind_some, if_true]
    have hz := dataOK_cells ho (c' := c.set t.toNat a) (by rw [List.length_set]; exact l3) (all_set ca _ ha)
    rw [sameData_refl _ _ _ _ _ _ hz _ (by omega), Option.bind_some]
    refine third _ hz (fun i hi1 hi2 => ?_)
    obtain ⟨j, rfl⟩ : ∃ j : Nat, i = (j : Int) := ⟨i.toNat, by omega⟩
    obtain ⟨u, rfl⟩ : ∃ u : Nat, t = (u : Int) := ⟨t.toNat, by omega⟩
    rw [rd_nat, rd_nat, Int.toNat_natCast]
    simp only [List.getD_eq_getElem?_getD, List.getElem?_set]
    by_cases h3 : u = j
    · subst h3
      rw [if_pos rfl, if_pos (by omega), if_pos rfl]
      rfl
    · rw [if_neg h3, if_neg (by omega)]
  · rw [if_neg h1, if_neg (show ¬ (0 : Int) ≤ -1 by decide)]
    simp only [Option.bind_some, if_true]
    rw [sameData_refl _ _ _ _ _ _ ho _ (by omega), Option.bind_some]
    exact third c ho (fun i hi1 hi2 => by rw [if_neg (by omega)])
theorem firstPart (l0 l1 : List Int) (h0 : Bytes l0) (h1 : Bytes l1) (k : Nat) (hk : 1048900 < k) : laws_FnData.j0 k l0 l1 false = some true := by
  obtain ⟨k, rfl⟩ : ∃ m, k = m + 3 := ⟨k - 3, by omega⟩
  obtain ⟨s, b, c, h, n, o, ed, ho⟩ := dataDrawn l0 h0 (k + 2) (by omega)
  obtain ⟨a, ea, ha⟩ := drawn l1 h1
  obtain ⟨l1', l2, l3, l4, l5⟩ := dataOK_len ho
  obtain ⟨ca, sa⟩ := dataOK_cellsAll ho
  simp only [laws_FnData.j0]
  rw [if_neg (by decide), ed, Option.bind_some, ea, Option.bind_some]
  simp only []
  rw [impl_Push_eq s b c h n o a (by omega) (by omega) (by omega) _ (by omega), spec_Push_eq s b c h n o a (by omega) (by omega) (by omega) _ (by omega)]
  unfold pushed
  rw [if_pos ho, if_pos ha]
  by_cases hs : s.length = 32
  · rw [if_pos hs]
    simp only [Option.bind_some, if_true]
    rw [sameData_refl _ _ _ _ _ _ ho _ (by omega), Option.bind_some]
    simp only [laws_FnData.j1]
    rw [if_neg (by decide), if_neg (by decide)]
    exact secondPart l1 h1 s b c h n o ho a ha _ (by omega)
  · rw [if_neg hs]
    simp only [Option.bind_some, if_true]
    have hz : dataOK (s ++ [a]) b c h n o = true := by
      unfold dataOK at ho ⊢
      simp only [Bool.and_eq_true, decide_eq_true_eq] at ho ⊢
      obtain ⟨⟨⟨⟨⟨⟨⟨⟨g1, g2⟩, g3⟩, g4⟩, g5⟩, g6⟩, g7⟩, g8⟩, g9⟩ := ho
      exact ⟨⟨⟨⟨⟨⟨⟨⟨by rw [List.length_append, List.length_singleton]; omega, g2⟩, g3⟩, by rw [List.all_append, g4]; simp [ha]⟩, g5⟩, g6⟩, g7⟩, g8⟩, g9⟩
    rw [sameData_refl _ _ _ _ _ _ hz _ (by omega), Option.bind_some]
    simp only [laws_FnData.j1]
    rw [if_neg (by decide)]
    simp only [if_true]
    rw [impl_Pop_eq (s ++ [a]) b c h n o (by rw [List.length_append, List.length_singleton]; omega) (by omega) (by omega) _ (by omega)]
    unfold popped
    rw [if_pos hz, if_neg (by rw [List.length_append, List.length_singleton]; omega)]
    have e1 : (s ++ [a]).take ((s ++ [a]).length - 1) = s := by rw [List.length_append, List.length_singleton, Nat.add_sub_cancel]; exact List.take_left
    have e2 : rdOf 0 (s ++ [a]) (((s ++ [a]).length : Int) - 1) = a := by
      rw [List.length_append, List.length_singleton, show ((s.length + 1 : Nat) : Int) - 1 = (s.length : Int) by omega]
      simp [rdOf]
    rw [e1, e2]
    simp only [Option.bind_some, if_true]
    rw [sameData_refl _ _ _ _ _ _ ho _ (by omega)]
    simp only [Option.bind_some, if_true]
    exact secondPart l1 h1 s b c h n o ho a ha _ (by omega)
theorem FnData : laws_FnData.Pure := by
  intro l0 l1 _ _ h0 _ _ h1
  refine ⟨1049000 + 2, ?_⟩
  unfold laws_FnData.f
  by_cases c0 : (l0.length : Int) > 1048576
  · rw [if_pos c0]
    simp only [laws_FnData.j0, if_true]
  · rw [if_neg c0]
    by_cases c1 : (l1.length : Int) > 1048576
    · rw [decide_eq_true c1]
      simp only [laws_FnData.j0, if_true]
    · rw [decide_eq_false c1]
      exact firstPart l0 l1 (bytes_of (by omega) h0) (bytes_of (by omega) h1) _ (by omega)
end Go.Proofs.Ytcelnpmahnblpaa.Pure
