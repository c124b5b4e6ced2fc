/- The law FnExactFoldDeeds answers true for all stores and deeds: both fold the same deeds into a copy of the store, and nothing that came in changes. No condition. -/
import Derived.Test.YtbdcdmbnhialcaaPFnExactFoldDeedsx5
namespace Go.Proofs.Ytbdcdmbnhialcaa.Pure
open Go.RowKit Go.Proofs.Ytbdcdmbnhialcaa.PFnExactFoldDeeds Go.Proofs.YtbdcdmbnhialcaaW.PrintWords Go.Proofs.YtbdcdmbnhialcaaW.PrintLast
set_option linter.unusedSimpArgs false
set_option linter.unusedVariables false

theorem bd64 {n : Int} (h : (Lit.int .i64 n).wf = true) : -9223372036854775808 ≤ n ∧ n ≤ 9223372036854775807 := by
  simp [Lit.wf, IntKind.min, IntKind.max, IntKind.signed, IntKind.bits] at h
  omega
/-- n lies from lo to hi. -/
def inR (n lo hi : Int) : Bool := decide (lo ≤ n ∧ n ≤ hi)
/-- A cell: 32 bits with a sign. -/
def isCell (n : Int) : Bool := decide (-2147483648 ≤ n ∧ n ≤ 2147483647)
theorem isCell_iff {n : Int} : isCell n = true ↔ (-2147483648 ≤ n ∧ n ≤ 2147483647) := by simp [isCell]
theorem inR_iff {n lo hi : Int} : inR n lo hi = true ↔ (lo ≤ n ∧ n ≤ hi) := by simp [inR]
theorem w64 {n : Int} (h : -9223372036854775808 ≤ n ∧ n ≤ 9223372036854775807) : wrap64 n = n := by unfold wrap64; omega
theorem w64_cell (n : Int) : wrap64 (wrap32 n) = wrap32 n := by unfold wrap64 wrap32; omega
theorem w32_cell {n : Int} (h : isCell n = true) : wrap32 n = n := by rw [isCell_iff] at h; unfold wrap32; omega
theorem cell_w32 (n : Int) : isCell (wrap32 n) = true := by rw [isCell_iff]; unfold wrap32; omega
theorem w32_eq (n : Int) : (wrap32 n == n) = isCell n := by
  rw [Bool.eq_iff_iff, isCell_iff]
  simp only [beq_iff_eq]
  unfold wrap32
  omega
/-- All of d numbers from i on. -/
def allF (P : Nat → Bool) : Nat → Nat → Bool
  | 0, _ => true
  | d + 1, i => P i && allF P d (i + 1)
theorem allF_congr {P Q : Nat → Bool} : ∀ d i, (∀ j, i ≤ j → j < i + d → P j = Q j) → allF P d i = allF Q d i
  | 0, _, _ => rfl
  | d + 1, i, h => by
    simp only [allF]
    rw [h i (Nat.le_refl _) (by omega), allF_congr d (i + 1) (fun j h1 h2 => h j (by omega) (by omega))]
theorem allF_true {P : Nat → Bool} : ∀ d i, (∀ j, i ≤ j → j < i + d → P j = true) → allF P d i = true
  | 0, _, _ => rfl
  | d + 1, i, h => by
    simp only [allF]
    rw [h i (Nat.le_refl _) (by omega), allF_true d (i + 1) (fun j h1 h2 => h j (by omega) (by omega))]
    rfl
theorem allF_all {α : Type} (p : α → Bool) (z : α) (l : List α) : ∀ d i, i + d = l.length → allF (fun j => p (l.getD j z)) d i = (l.drop i).all p
  | 0, i, h => by simp [allF, List.drop_of_length_le (show l.length ≤ i by omega)]
  | d + 1, i, h => by
    simp only [allF]
    rw [allF_all p z l d (i + 1) (by omega), List.drop_eq_getElem_cons (by omega : i < l.length), List.all_cons]
    simp [List.getD_eq_getElem?_getD, List.getElem?_eq_getElem (by omega : i < l.length)]
/-- A loop that leaves with false at the first number of which P does not hold. -/
theorem loop_all (F : Nat → Int → Option Bool) (n : Nat) (P : Nat → Bool) (fin : Bool)
    (hs : ∀ k (i : Nat), i < n → F (k + 1) i = if P i = true then F k ((i : Int) + 1) else some false) (he : ∀ k, F (k + 1) (n : Int) = some fin) :
    ∀ d k (i : Nat), i + d = n → d < k → F k i = some (allF P d i && fin)
  | 0, k, i, h, hk => by
    obtain ⟨k, rfl⟩ : ∃ m, k = m + 1 := ⟨k - 1, by omega⟩
    obtain rfl : i = n := by omega
    rw [he]
    simp [allF]
  | d + 1, k, i, h, hk => by
    obtain ⟨k, rfl⟩ : ∃ m, k = m + 1 := ⟨k - 1, by omega⟩
    rw [hs k i (by omega)]
    have ih := loop_all F n P fin hs he d k (i + 1) (by omega) (by omega)
    rw [show ((i + 1 : Nat) : Int) = (i : Int) + 1 by omega] at ih
    rw [ih]
    cases hp : P i <;> simp [allF, hp]
theorem loop_all0 (F : Nat → Int → Option Bool) (n : Nat) (P : Nat → Bool) (fin : Bool)
    (hs : ∀ k (i : Nat), i < n → F (k + 1) i = if P i = true then F k ((i : Int) + 1) else some false) (he : ∀ k, F (k + 1) (n : Int) = some fin) (k : Nat) (hk : n < k) : F k 0 = some (allF P n 0 && fin) :=
  loop_all F n P fin hs he n k 0 (by omega) hk
theorem spec_l01In_eq (a b c : Int) : spec_l01In.f a b c = some (inR a b c) := by
  unfold spec_l01In.f
  by_cases h1 : a ≥ b
  · have h2 : b ≤ a := h1
    by_cases h3 : a ≤ c <;> simp [h1, inR, h2, h3]
  · have h2 : ¬ b ≤ a := h1
    simp [inR, h2]
theorem impl_in_eq (a b c : Int) : impl_in.f a b c = some (inR a b c) := by
  unfold impl_in.f
  by_cases h1 : b ≤ a
  · by_cases h3 : a ≤ c <;> simp [inR, h1, h3]
  · simp [inR, h1]
theorem spec_l01Cell_eq (a : Int) : spec_l01Cell.f a = some (isCell a) := by
  unfold spec_l01Cell.f
  rw [spec_l01In_eq]
  rfl
theorem impl_WrapCell_eq (a : Int) : impl_WrapCell.f a = some (wrap32 a) := by
  unfold impl_WrapCell.f
  rw [w64_cell]
theorem impl_CellOK_eq (a : Int) : impl_CellOK.f a = some (isCell a) := by
  unfold impl_CellOK.f
  rw [impl_WrapCell_eq, Option.bind_some, w32_eq]
theorem rd_nat (l : List Int) (i : Nat) : rd l (i : Int) = l.getD i 0 := by simp [rd]
/-- Lists that agree at each place. -/
theorem list_eq_iff (a b : List Int) (h : a.length = b.length) : decide (a = b) = allF (fun j => decide (a.getD j 0 = b.getD j 0)) a.length 0 := by
  rw [Bool.eq_iff_iff, decide_eq_true_eq]
  constructor
  · rintro rfl
    exact allF_true _ _ (fun j _ _ => by simp)
  · intro ha
    have key : ∀ d i, i + d = a.length → allF (fun j => decide (a.getD j 0 = b.getD j 0)) d i = true → ∀ j, i ≤ j → j < a.length → a.getD j 0 = b.getD j 0 := by
      intro d
      induction d with
      | zero => intro i hi _ j h1 h2; omega
      | succ d ih =>
        intro i hi hh j h1 h2
        simp only [allF, Bool.and_eq_true, decide_eq_true_eq] at hh
        rcases Nat.eq_or_lt_of_le h1 with rfl | h3
        · exact hh.1
        · exact ih (i + 1) (by omega) hh.2 j (by omega) h2
    apply List.ext_getElem h
    intro i h1 h2
    have := key a.length 0 (by omega) ha i (by omega) h1
    simpa [List.getD_eq_getElem?_getD, List.getElem?_eq_getElem h1, List.getElem?_eq_getElem h2] using this
theorem laws_eqIntS_eq (a b : List Int) (ha : a.length ≤ 1048576) (k : Nat) (hk : a.length < k) : laws_eqIntS.f k a b = some (decide (a = b)) := by
  unfold laws_eqIntS.f
  by_cases h : (a.length : Int) = (b.length : Int)
  · have h' : a.length = b.length := by omega
    rw [if_pos h, list_eq_iff a b h']
    have hl := loop_all0 (fun k i => laws_eqIntS.l0 k a b i) a.length (fun j => decide (a.getD j 0 = b.getD j 0)) true (fun k i hi => by
      simp only [laws_eqIntS.l0]
      rw [if_pos (by omega), if_pos (by omega), if_pos (by omega), rd_nat, rd_nat, w64 (by omega)]
      by_cases h3 : a.getD i 0 = b.getD i 0 <;> simp [h3]) (fun k => by
      simp only [laws_eqIntS.l0]
      rw [if_neg (by omega)]) k hk
    rw [hl, Bool.and_true]
  · rw [if_neg h]
    have h2 : ¬ a = b := by rintro rfl; exact h rfl
    simp [h2]
theorem set_take (l : List Int) (i : Nat) (hi : i < l.length) : (l.take i ++ List.replicate (l.length - i) 0).set i (l.getD i 0) = l.take (i + 1) ++ List.replicate (l.length - (i + 1)) 0 := by
  have hr : List.replicate (l.length - i) (0 : Int) = 0 :: List.replicate (l.length - (i + 1)) 0 := by
    rw [show l.length - i = (l.length - (i + 1)) + 1 by omega, List.replicate_succ]
  have hg : l.getD i 0 = l[i] := by simp [List.getD_eq_getElem?_getD, List.getElem?_eq_getElem hi]
  rw [hr, List.set_append, if_neg (by rw [List.length_take]; omega), hg, List.length_take, Nat.min_eq_left (Nat.le_of_lt hi), Nat.sub_self, List.set_cons_zero, List.take_succ_eq_append_getElem hi, List.append_assoc]
  rfl
theorem laws_toIntS_eq (l : List Int) (hl : l.length ≤ 1048576) (k : Nat) (hk : l.length < k) : laws_toIntS.f k l = some l := by
  unfold laws_toIntS.f
  rw [if_pos (by omega), if_pos (by simp; omega)]
  have key : ∀ d k (i : Nat), i + d = l.length → d < k → laws_toIntS.l0 k l (l.take i ++ List.replicate (l.length - i) 0) (i : Int) = some l := by
    intro d
    induction d with
    | zero =>
      intro k i h hk
      obtain ⟨k, rfl⟩ : ∃ m, k = m + 1 := ⟨k - 1, by omega⟩
      simp only [laws_toIntS.l0]
      rw [if_neg (by omega), List.take_of_length_le (by omega), show l.length - i = 0 by omega]
      simp
    | succ d ih =>
      intro k i h hk
      obtain ⟨k, rfl⟩ : ∃ m, k = m + 1 := ⟨k - 1, by omega⟩
      simp only [laws_toIntS.l0]
      rw [if_pos (by omega), if_pos (by omega), if_pos (by simp; omega), rd_nat, Int.toNat_natCast, set_take l i (by omega), w64 (by omega), show (i : Int) + 1 = ((i + 1 : Nat) : Int) by omega]
      exact ih k (i + 1) (by omega) (by omega)
  have h := key l.length k 0 (by omega) hk
  simpa using h
theorem set_take_map {α β : Type} (g : α → β) (z : β) (za : α) (l : List α) (i : Nat) (hi : i < l.length) : ((l.take i).map g ++ List.replicate (l.length - i) z).set i (g (l.getD i za)) = (l.take (i + 1)).map g ++ List.replicate (l.length - (i + 1)) z := by
  have hr : List.replicate (l.length - i) z = z :: List.replicate (l.length - (i + 1)) z := by
    rw [show l.length - i = (l.length - (i + 1)) + 1 by omega, List.replicate_succ]
  have hg : l.getD i za = l[i] := by simp [List.getD_eq_getElem?_getD, List.getElem?_eq_getElem hi]
  rw [hr, List.set_append, if_neg (by rw [List.length_map, List.length_take]; omega), hg, List.length_map, List.length_take, Nat.min_eq_left (Nat.le_of_lt hi), Nat.sub_self, List.set_cons_zero, List.take_succ_eq_append_getElem hi, List.map_append, List.append_assoc]
  rfl
/-- A loop that copies a list, number by number. -/
theorem loop_copy {α β : Type} (F : Nat → List β → Int → Option (List β)) (l : List α) (g : α → β) (z : β) (za : α)
    (hs : ∀ k (x : List β) (i : Nat), i < l.length → x.length = l.length → F (k + 1) x i = F k (x.set i (g (l.getD i za))) ((i : Int) + 1))
    (he : ∀ k x, F (k + 1) x (l.length : Int) = some x) (k : Nat) (hk : l.length < k) : F k (List.replicate l.length z) 0 = some (l.map g) := by
  have key : ∀ d k (i : Nat), i + d = l.length → d < k → F k ((l.take i).map g ++ List.replicate (l.length - i) z) (i : Int) = some (l.map g) := by
    intro d
    induction d with
    | zero =>
      intro k i h hk
      obtain ⟨k, rfl⟩ : ∃ m, k = m + 1 := ⟨k - 1, by omega⟩
      obtain rfl : i = l.length := by omega
      rw [he, List.take_length, Nat.sub_self]
      simp
    | succ d ih =>
      intro k i h hk
      obtain ⟨k, rfl⟩ : ∃ m, k = m + 1 := ⟨k - 1, by omega⟩
      rw [hs k _ i (by omega) (by simp; omega), set_take_map g z za l i (by omega), show (i : Int) + 1 = ((i + 1 : Nat) : Int) by omega]
      exact ih k (i + 1) (by omega) (by omega)
  have h := key l.length k 0 (by omega) hk
  simpa using h
theorem rdOf_nat {α : Type} (z : α) (l : List α) (i : Nat) : rdOf z l (i : Int) = l.getD i z := by simp [rdOf]
theorem rd68_nat (l : List S68) (i : Nat) : rd_T68 l (i : Int) = l.getD i z68 := by simp [rd_T68]
theorem rd71_nat (l : List S71) (i : Nat) : rd_T71 l (i : Int) = l.getD i z71 := by simp [rd_T71]
theorem laws_eqDeedS_refl (a : List S68) (ha : a.length ≤ 1048576) (k : Nat) (hk : a.length < k) : laws_eqDeedS.f k a a = some true := by
  unfold laws_eqDeedS.f
  rw [if_pos rfl]
  have hl := loop_all0 (fun k i => laws_eqDeedS.l0 k a a i) a.length (fun _ => true) true (fun k i hi => by
    simp only [laws_eqDeedS.l0]
    rw [if_pos (by omega), if_pos (by omega), if_pos (by omega), w64 (by omega)]
    unfold laws_eqDeed.f
    simp) (fun k => by
    simp only [laws_eqDeedS.l0]
    rw [if_neg (by omega)]) k hk
  rw [hl, allF_true _ _ (fun _ _ _ => rfl)]
  rfl
/-- The deed of a deed as the law holds it. -/
def toD (x : S71) : S68 := ⟨x.f0, x.f1, x.f2, x.f3⟩
theorem laws_toDeedS_eq (l : List S71) (hl : l.length ≤ 1048576) (k : Nat) (hk : l.length < k) : laws_toDeedS.f k l = some (l.map toD) := by
  unfold laws_toDeedS.f
  rw [if_pos (by omega), if_pos (by simp; omega)]
  have h := loop_copy (fun k x i => laws_toDeedS.l0 k l x i) l toD z68 z71 (fun k x i hi hx => by
    simp only [laws_toDeedS.l0, laws_toDeed.f, Option.bind_some]
    rw [if_pos (by omega), if_pos (by omega), if_pos (by omega), rd71_nat, Int.toNat_natCast, w64 (by omega)]
    rfl) (fun k x => by
    simp only [laws_toDeedS.l0]
    rw [if_neg (by omega)]) k hk
  simpa using h
theorem spec_l03Cells_eq (l : List Int) (hl : l.length ≤ 1048576) (k : Nat) (hk : l.length < k) : spec_l03Cells.f k l = some (l.all isCell) := by
  unfold spec_l03Cells.f
  have h := loop_all0 (fun k i => spec_l03Cells.l0 k l i) l.length (fun j => isCell (l.getD j 0)) true (fun k i hi => by
    simp only [spec_l03Cells.l0]
    rw [if_pos (by omega), if_pos (by omega), rd_nat, spec_l01Cell_eq, Option.bind_some, w64 (by omega)]) (fun k => by
    simp only [spec_l03Cells.l0]
    rw [if_neg (by omega)]) k hk
  rw [h, allF_all isCell 0 l l.length 0 (by omega)]
  simp
theorem idx_cells (l : List Int) (hl : l.length ≤ 1048576) : ∀ d k (i : Nat), i + d = l.length → d < k →
    ∃ r, slices_IndexFunc_int_at_impl_areCells_1.l0 k l (l.length : Int) (i : Int) = some r ∧ (!decide (r ≥ 0)) = allF (fun j => isCell (l.getD j 0)) d i
  | 0, k, i, h, hk => by
    obtain ⟨k, rfl⟩ : ∃ m, k = m + 1 := ⟨k - 1, by omega⟩
    refine ⟨-1, ?_, by simp [allF]⟩
    simp only [slices_IndexFunc_int_at_impl_areCells_1.l0]
    rw [if_neg (by omega)]
  | d + 1, k, i, h, hk => by
    obtain ⟨k, rfl⟩ : ∃ m, k = m + 1 := ⟨k - 1, by omega⟩
    obtain ⟨r, hr, hq⟩ := idx_cells l hl d k (i + 1) (by omega) (by omega)
    simp only [slices_IndexFunc_int_at_impl_areCells_1.l0]
    rw [if_pos (by omega), if_pos (by omega), if_pos (by omega), rd_nat, w64 (by omega), show (i : Int) + 1 = ((i + 1 : Nat) : Int) by omega, hr]
    unfold impl_areCells_1.f
    rw [impl_CellOK_eq]
    simp only [Option.bind_some, allF]
    cases hp : isCell (l.getD i 0)
    · refine ⟨(i : Int), by simp, ?_⟩
      simp
    · refine ⟨r, by simp, ?_⟩
      rw [hq]
      simp
theorem impl_areCells_eq (l : List Int) (m : Int) (hl : l.length ≤ 1048576) (k : Nat) (hk : l.length < k) : impl_areCells.f k l m = some (decide ((l.length : Int) ≤ m) && l.all isCell) := by
  unfold impl_areCells.f
  by_cases h : (l.length : Int) ≤ m
  · obtain ⟨r, hr, hq⟩ := idx_cells l hl l.length k 0 (by omega) hk
    rw [if_pos h]
    unfold slices_ContainsFunc_int_at_impl_areCells_1.f slices_IndexFunc_int_at_impl_areCells_1.f
    rw [show (0 : Int) = ((0 : Nat) : Int) from rfl, hr]
    simp only [Option.bind_some]
    rw [show ((0 : Nat) : Int) = 0 from rfl, hq, allF_all isCell 0 l l.length 0 (by omega)]
    simp [h]
  · rw [if_neg h]
    simp [h]
/-- A valid deed. -/
def deedOK (x : S68) : Bool := inR x.f0 0 3 && isCell x.f1 && isCell x.f2 && isCell x.f3
theorem spec_l06Deed_eq (a b c d : Int) : spec_l06Deed.f a b c d = some (deedOK ⟨a, b, c, d⟩) := by
  unfold spec_l06Deed.f
  rw [spec_l01In_eq, spec_l01Cell_eq, spec_l01Cell_eq, spec_l01Cell_eq]
  simp only [Option.bind_some, deedOK]
  cases inR a 0 3 <;> cases isCell b <;> cases isCell c <;> simp
theorem impl_isRight_eq (a b c d : Int) : impl_Deed_isRight.f a b c d = some (deedOK ⟨a, b, c, d⟩) := by
  unfold impl_Deed_isRight.f impl_isCap.f
  rw [impl_in_eq, impl_CellOK_eq, impl_CellOK_eq, impl_CellOK_eq]
  simp only [Option.bind_some, deedOK]
  cases inR a 0 3 <;> cases isCell b <;> cases isCell c <;> simp
/-- m, m + 1, .. : what marking leaves. -/
def marks (m : Int) (n : Nat) : List Int := (List.range n).map fun (j : Nat) => m + (j : Int)
theorem marks_length (m : Int) (n : Nat) : (marks m n).length = n := by simp [marks]
theorem marks_get (m : Int) (n i : Nat) (h : i < n) : (marks m n).getD i 0 = m + (i : Int) := by
  simp [marks, List.getD_eq_getElem?_getD, h]
theorem marks_snoc (m : Int) (n : Nat) : marks m (n + 1) = marks m n ++ [m + (n : Int)] := by simp [marks, List.range_succ]
theorem laws_markIntS_eq (l : List Int) (hl : l.length ≤ 1048576) (m : Int) (h0 : 0 ≤ m) (h1 : m ≤ 1099511627776) (k : Nat) (hk : l.length < k) : laws_markIntS.f k l m = some (m + (l.length : Int), marks m l.length) := by
  unfold laws_markIntS.f
  have key : ∀ d k (i : Nat), i + d = l.length → d < k → laws_markIntS.l0 k (marks m i ++ l.drop i) (m + (i : Int)) (i : Int) = some (m + (l.length : Int), marks m l.length) := by
    intro d
    induction d with
    | zero =>
      intro k i h hk
      obtain ⟨k, rfl⟩ : ∃ m, k = m + 1 := ⟨k - 1, by omega⟩
      simp only [laws_markIntS.l0]
      rw [if_neg (by simp [marks_length]; omega)]
      obtain rfl : i = l.length := by omega
      simp
    | succ d ih =>
      intro k i h hk
      obtain ⟨k, rfl⟩ : ∃ m, k = m + 1 := ⟨k - 1, by omega⟩
      simp only [laws_markIntS.l0]
      rw [if_pos (by simp [marks_length]; omega), if_pos (by omega), Int.toNat_natCast]
      have e : (marks m i ++ l.drop i).set i (m + (i : Int)) = marks m (i + 1) ++ l.drop (i + 1) := by
        rw [List.set_append, if_neg (by rw [marks_length]; omega), marks_length, Nat.sub_self, List.drop_eq_getElem_cons (by omega : i < l.length), List.set_cons_zero, marks_snoc, List.append_assoc]
        rfl
      rw [e, w64 (by omega), w64 (by omega), show m + (i : Int) + 1 = m + ((i + 1 : Nat) : Int) by omega, show (i : Int) + 1 = ((i + 1 : Nat) : Int) by omega]
      exact ih k (i + 1) (by omega) (by omega)
  have h := key l.length k 0 (by omega) hk
  simpa [marks] using h
theorem laws_heldIntS_eq (n : Nat) (hn : n ≤ 1048576) (m : Int) (h0 : 0 ≤ m) (h1 : m ≤ 1099511627776) (k : Nat) (hk : n < k) : laws_heldIntS.f k (marks m n) m = some (m + (n : Int)) := by
  unfold laws_heldIntS.f
  have key : ∀ d k (i : Nat), i + d = n → d < k → laws_heldIntS.l0 k (marks m n) (m + (i : Int)) (i : Int) = some (m + (n : Int)) := by
    intro d
    induction d with
    | zero =>
      intro k i h hk
      obtain ⟨k, rfl⟩ : ∃ m, k = m + 1 := ⟨k - 1, by omega⟩
      simp only [laws_heldIntS.l0]
      rw [if_neg (by rw [marks_length]; omega)]
      obtain rfl : i = n := by omega
      rfl
    | succ d ih =>
      intro k i h hk
      obtain ⟨k, rfl⟩ : ∃ m, k = m + 1 := ⟨k - 1, by omega⟩
      simp only [laws_heldIntS.l0]
      rw [if_pos (by rw [marks_length]; omega), if_pos (by omega), rd_nat, marks_get m n i (by omega), if_pos rfl, w64 (by omega), w64 (by omega), show m + (i : Int) + 1 = m + ((i + 1 : Nat) : Int) by omega, show (i : Int) + 1 = ((i + 1 : Nat) : Int) by omega]
      exact ih k (i + 1) (by omega) (by omega)
  have h := key n k 0 (by omega) hk
  simpa using h
/-- The store that the deeds leave, and the code. -/
def fold : List S68 → List Int → List Int × Int
  | [], c => (c, 0)
  | x :: d, c => if deedOK x = true then (if x.f0 = 1 then (if inR x.f1 0 7 = true then fold d (c.set x.f1.toNat x.f2) else fold d c) else fold d c) else ([], 1)
theorem fold_len : ∀ (d : List S68) (c : List Int), (fold d c).1.length ≤ c.length
  | [], c => by simp [fold]
  | x :: d, c => by
    have h1 := fold_len d c
    have h2 := fold_len d (c.set x.f1.toNat x.f2)
    rw [List.length_set] at h2
    simp only [fold]
    repeat' split
    all_goals first | assumption | simp
theorem drop_cons (l : List S68) (i : Nat) (h : i < l.length) : l.drop i = l.getD i z68 :: l.drop (i + 1) := by
  rw [List.drop_eq_getElem_cons h]
  simp [List.getD_eq_getElem?_getD, List.getElem?_eq_getElem h]
theorem spec_fold (l : List S68) (hl : l.length ≤ 1048576) : ∀ n k (i : Nat) (c : List Int), i + n = l.length → n < k → c.length = 8 → spec_FoldDeeds.l0 k l c (i : Int) = some (fold (l.drop i) c)
  | 0, k, i, c, h, hk, hc => by
    obtain ⟨k, rfl⟩ : ∃ m, k = m + 1 := ⟨k - 1, by omega⟩
    simp only [spec_FoldDeeds.l0]
    rw [if_neg (by omega), List.drop_of_length_le (by omega)]
    rfl
  | n + 1, k, i, c, h, hk, hc => by
    obtain ⟨k, rfl⟩ : ∃ m, k = m + 1 := ⟨k - 1, by omega⟩
    have ih := fun c hc => spec_fold l hl n k (i + 1) c (by omega) (by omega) hc
    simp only [spec_FoldDeeds.l0]
    rw [if_pos (by omega), if_pos (by omega), rd68_nat, spec_l06Deed_eq, Option.bind_some, w64 (by omega), show (i : Int) + 1 = ((i + 1 : Nat) : Int) by omega, ih c hc, spec_l01In_eq, Option.bind_some, drop_cons l i (by omega), hc]
    generalize l.getD i z68 = x
    simp only [fold]
    have e : (⟨x.f0, x.f1, x.f2, x.f3⟩ : S68) = x := rfl
    rw [e]
    by_cases h1 : deedOK x = true
    · rw [if_pos h1, if_pos h1]
      by_cases h2 : x.f0 = 1
      · rw [if_pos h2, if_pos h2]
        by_cases h3 : inR x.f1 0 7 = true
        · have h4 := inR_iff.mp h3
          rw [if_pos h3, if_pos h3, if_pos (by omega), if_pos (by omega), ih _ (by rw [List.length_set]; exact hc)]
        · rw [if_neg h3, if_neg h3]
      · rw [if_neg h2, if_neg h2]
    · rw [if_neg h1, if_neg h1]
theorem impl_fold (l : List S68) (hl : l.length ≤ 1048576) : ∀ n k (i : Nat) (c : List Int), i + n = l.length → n < k → c.length = 8 → impl_FoldDeeds.l0 k c l (l.length : Int) (i : Int) = some (fold (l.drop i) c)
  | 0, k, i, c, h, hk, hc => by
    obtain ⟨k, rfl⟩ : ∃ m, k = m + 1 := ⟨k - 1, by omega⟩
    simp only [impl_FoldDeeds.l0]
    rw [if_neg (by omega), List.drop_of_length_le (by omega)]
    rfl
  | n + 1, k, i, c, h, hk, hc => by
    obtain ⟨k, rfl⟩ : ∃ m, k = m + 1 := ⟨k - 1, by omega⟩
    have ih := fun c hc => impl_fold l hl n k (i + 1) c (by omega) (by omega) hc
    simp only [impl_FoldDeeds.l0]
    rw [if_pos (by omega), if_pos (by omega), if_pos (by omega), rd68_nat, impl_isRight_eq, Option.bind_some, w64 (by omega), show (i : Int) + 1 = ((i + 1 : Nat) : Int) by omega, ih c hc, impl_in_eq, Option.bind_some, drop_cons l i (by omega), hc]
    generalize l.getD i z68 = x
    simp only [fold]
    have e : (⟨x.f0, x.f1, x.f2, x.f3⟩ : S68) = x := rfl
    rw [e]
    by_cases h1 : deedOK x = true
    · rw [if_pos h1, if_pos h1]
      by_cases h2 : x.f0 = 1
      · rw [if_pos h2, if_pos h2]
        by_cases h3 : inR x.f1 0 7 = true
        · have h4 := inR_iff.mp h3
          rw [if_pos h3, if_pos h3, if_pos (by omega), if_pos (by omega), ih _ (by rw [List.length_set]; exact hc)]
        · rw [if_neg h3, if_neg h3]
      · rw [if_neg h2, if_neg h2]
    · rw [if_neg h1, if_neg h1]
/-- The store and the code. -/
def folded (c : List Int) (d : List S68) : List Int × Int :=
  if c.length > 4096 then ([], 2) else if d.length > 4096 then ([], 2) else if c.length = 8 ∧ c.all isCell = true then fold d c else ([], 1)
theorem folded_len (c : List Int) (d : List S68) : (folded c d).1.length ≤ 8 := by
  unfold folded
  split
  · simp
  · split
    · simp
    · split
      · have := fold_len d c
        omega
      · simp
theorem spec_Fold_eq (c : List Int) (d : List S68) (hc : c.length ≤ 1048576) (hd : d.length ≤ 1048576) (k : Nat) (hk : 1048600 < k) : spec_FoldDeeds.f k c d = some (folded c d) := by
  obtain ⟨k, rfl⟩ : ∃ m, k = m + 2 := ⟨k - 2, by omega⟩
  unfold spec_FoldDeeds.f folded
  simp only [spec_FoldDeeds.j0, spec_FoldDeeds.j1, if_true]
  by_cases h1 : c.length > 4096
  · rw [if_pos (by omega), if_pos h1]
  · rw [if_neg (by omega), if_neg h1]
    by_cases h2 : d.length > 4096
    · have h3 : decide ((d.length : Int) > 4096) = true := by simp; omega
      rw [if_pos h3, if_pos h2]
    · have h3 : ¬ decide ((d.length : Int) > 4096) = true := by simp; omega
      rw [if_neg h3, if_neg h2]
      by_cases h4 : c.length = 8
      · rw [if_pos (by omega), spec_l03Cells_eq c hc _ (by omega), Option.bind_some]
        cases h5 : c.all isCell
        · simp
        · have h6 := spec_fold d hd d.length k 0 c (by omega) (by omega) h4
          rw [List.drop_zero] at h6
          simp only [Bool.not_true, Bool.false_eq_true, if_false, Option.bind_some, List.length_nil, List.nil_append]
          rw [if_pos (by omega), if_pos (by simp [h4])]
          exact h6
      · rw [if_neg (by omega), if_neg (fun h => h4 h.1)]
theorem isLong_int (l : List Int) (k : Nat) (hk : 2 < k) : impl_isLong_int.f k [l] = some (decide ((l.length : Int) > 4096)) := by
  obtain ⟨k, rfl⟩ : ∃ m, k = m + 2 := ⟨k - 2, by omega⟩
  simp only [impl_isLong_int.f, slices_ContainsFunc__int_at_impl_isLong_int_1.f, slices_IndexFunc__int_at_impl_isLong_int_1.f, slices_IndexFunc__int_at_impl_isLong_int_1.l0, impl_isLong_int_1.f, rd_L3]
  by_cases h : (l.length : Int) > 4096 <;> simp [h, wrap64]
theorem isLong_deed (l : List S68) (k : Nat) (hk : 2 < k) : impl_isLong_Deed.f k [l] = some (decide ((l.length : Int) > 4096)) := by
  obtain ⟨k, rfl⟩ : ∃ m, k = m + 2 := ⟨k - 2, by omega⟩
  simp only [impl_isLong_Deed.f, slices_ContainsFunc_Deed_at_impl_isLong_Deed_1.f, slices_IndexFunc_Deed_at_impl_isLong_Deed_1.f, slices_IndexFunc_Deed_at_impl_isLong_Deed_1.l0, impl_isLong_Deed_1.f, rd_L4]
  by_cases h : (l.length : Int) > 4096 <;> simp [h, wrap64]
theorem impl_Fold_eq (c : List Int) (d : List S68) (hc : c.length ≤ 1048576) (hd : d.length ≤ 1048576) (k : Nat) (hk : 1048600 < k) : impl_FoldDeeds.f k c d = some (folded c d) := by
  obtain ⟨k, rfl⟩ : ∃ m, k = m + 1 := ⟨k - 1, by omega⟩
  unfold impl_FoldDeeds.f folded
  rw [isLong_int c _ (by omega), isLong_deed d _ (by omega)]
  simp only [Option.bind_some, impl_FoldDeeds.j0, if_true, decide_eq_true_eq]
  by_cases h1 : c.length > 4096
  · rw [if_pos (by omega), if_pos h1]
  · rw [if_neg (by omega), if_neg h1]
    by_cases h2 : d.length > 4096
    · rw [if_pos (by omega), if_pos h2]
    · rw [if_neg (by omega), if_neg h2]
      unfold impl_isStore.f
      rw [impl_areCells_eq c 8 hc k (by omega)]
      by_cases h4 : c.length = 8
      · have h5 : decide ((c.length : Int) ≤ 8) = true := by simp; omega
        rw [if_pos (by omega), h5]
        cases h5 : c.all isCell
        · simp
        · have h6 := impl_fold d hd d.length k 0 c (by omega) (by omega) h4
          rw [List.drop_zero] at h6
          unfold slices_Clone_int.f
          simp only [Bool.and_self, Option.bind_some, if_true]
          rw [if_pos (by omega), Option.bind_some, if_pos (by simp [h4])]
          exact h6
      · rw [if_neg (by omega), if_neg (fun h => h4 h.1)]
        simp
theorem markDeedS_some (d0 : Nat) : ∀ n k (i : Nat) (m : Int) (x : List S68), i + n = x.length → n < k → x.length ≤ 1048576 → 0 ≤ m → m + 4 * (n : Int) ≤ 1099511627776 → ∃ y, laws_markDeedS.l0 k x m (i : Int) = some (m + 4 * (n : Int), y)
  | 0, k, i, m, x, h, hk, hx, h0, h1 => by
    obtain ⟨k, rfl⟩ : ∃ m, k = m + 1 := ⟨k - 1, by omega⟩
    refine ⟨x, ?_⟩
    simp only [laws_markDeedS.l0]
    rw [if_neg (by omega)]
    simp
  | n + 1, k, i, m, x, h, hk, hx, h0, h1 => by
    obtain ⟨k, rfl⟩ : ∃ m, k = m + 1 := ⟨k - 1, by omega⟩
    simp only [laws_markDeedS.l0, Option.bind_some]
    rw [if_pos (by omega), if_pos (by omega), w64 (show -9223372036854775808 ≤ m + 1 ∧ m + 1 ≤ 9223372036854775807 by omega), w64 (show -9223372036854775808 ≤ m + 1 + 1 ∧ m + 1 + 1 ≤ 9223372036854775807 by omega), w64 (show -9223372036854775808 ≤ m + 1 + 1 + 1 ∧ m + 1 + 1 + 1 ≤ 9223372036854775807 by omega), w64 (show -9223372036854775808 ≤ m + 1 + 1 + 1 + 1 ∧ m + 1 + 1 + 1 + 1 ≤ 9223372036854775807 by omega), w64 (show -9223372036854775808 ≤ (i : Int) + 1 ∧ (i : Int) + 1 ≤ 9223372036854775807 by omega), show (i : Int) + 1 = ((i + 1 : Nat) : Int) by omega]
    generalize hz : List.set (List.set (List.set (List.set x _ _) _ _) _ _) _ _ = z
    have hzl : z.length = x.length := by rw [← hz]; simp
    obtain ⟨y, hy⟩ := markDeedS_some d0 n k (i + 1) (m + 1 + 1 + 1 + 1) z (by omega) (by omega) (by omega) (by omega) (by omega)
    refine ⟨y, ?_⟩
    rw [hy]
    congr 2
    omega
theorem FnExactFoldDeeds : laws_FnExactFoldDeeds.Pure := by
  intro c d hc hd
  refine ⟨1048700, ?_⟩
  unfold laws_FnExactFoldDeeds.f
  by_cases h0 : (c.length : Int) > 1048576
  · rw [if_pos h0]
  · rw [if_neg h0]
    unfold laws_szDeedS.f
    rw [w64 (by omega)]
    by_cases h1 : (1048576 : Int) - (d.length : Int) < 0
    · rw [if_pos h1, Option.bind_some, if_pos (by omega)]
    · have b5 : (d.map toD).length ≤ 1048576 := by simp; omega
      rw [if_neg h1, Option.bind_some, if_neg h1, laws_toIntS_eq c (by omega) _ (by omega), laws_toDeedS_eq d (by omega) _ (by omega)]
      simp only [Option.bind_some]
      rw [spec_Fold_eq c _ (by omega) b5 _ (by omega), impl_Fold_eq c _ (by omega) b5 _ (by omega)]
      have hl := folded_len c (d.map toD)
      simp only [Option.bind_some]
      generalize folded c (d.map toD) = q at hl
      obtain ⟨q1, q2⟩ := q
      simp only at hl
      rw [laws_eqIntS_eq q1 q1 (by omega) _ (by omega), laws_eqIntS_eq c c (by omega) _ (by omega), laws_eqDeedS_refl _ b5 _ (by omega), laws_markIntS_eq c (by omega) 1 (by omega) (by omega) _ (by omega)]
      simp only [Option.bind_some, decide_true, if_true]
      obtain ⟨y, hy⟩ := markDeedS_some 0 (d.map toD).length 1048700 0 (1 + (c.length : Int)) (d.map toD) (by omega) (by omega) b5 (by omega) (by omega)
      have hy' : laws_markDeedS.f 1048700 (d.map toD) (1 + (c.length : Int)) = some (1 + (c.length : Int) + 4 * ((d.map toD).length : Int), y) := hy
      rw [hy', laws_markIntS_eq q1 (by omega) 1 (by omega) (by omega) _ (by omega)]
      simp only [Option.bind_some]
      rw [if_neg (by omega), laws_heldIntS_eq q1.length (by omega) 1 (by omega) (by omega) _ (by omega)]
      simp only [Option.bind_some]
      rw [if_neg (by omega)]
      simp only [if_true]
      rw [if_neg (by omega)]
end Go.Proofs.Ytbdcdmbnhialcaa.Pure
