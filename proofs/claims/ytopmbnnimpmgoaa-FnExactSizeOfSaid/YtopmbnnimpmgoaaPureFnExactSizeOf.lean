/- The law FnExactSizeOf answers true for every row of items: both sizes are the sum of the same numbers of cells. No condition. -/
import Derived.Test.YtopmbnnimpmgoaaPFnExactSizeOfx3
namespace Go.Proofs.Ytopmbnnimpmgoaa.Pure
open Go.RowKit Go.Proofs.Ytopmbnnimpmgoaa.PFnExactSizeOf Go.Proofs.YtopmbnnimpmgoaaW.PrintWords Go.Proofs.YtopmbnnimpmgoaaW.PrintLast
set_option linter.unusedSimpArgs false
set_option linter.unusedVariables false

theorem bd64 {n : Int} (h : (Lit.int .i64 n).wf = true) : -9223372036854775808 ≤ n ∧ n ≤ 9223372036854775807 := by
  simp [Lit.wf, IntKind.min, IntKind.max, IntKind.signed, IntKind.bits] at h
  omega
/-- n lies from lo to hi. -/
def inR (n lo hi : Int) : Bool := decide (lo ≤ n ∧ n ≤ hi)
/-- A cell: 32 bits with a sign. -/
def isCell (n : Int) : Bool := decide (-2147483648 ≤ n ∧ n ≤ 2147483647)
theorem isCell_iff {n : Int} : isCell n = true ↔ (-2147483648 ≤ n ∧ n ≤ 2147483647) := by simp [isCell]
theorem inR_iff {n lo hi : Int} : inR n lo hi = true ↔ (lo ≤ n ∧ n ≤ hi) := by simp [inR]
theorem w64 {n : Int} (h : -9223372036854775808 ≤ n ∧ n ≤ 9223372036854775807) : wrap64 n = n := by unfold wrap64; omega
theorem w64_cell (n : Int) : wrap64 (wrap32 n) = wrap32 n := by unfold wrap64 wrap32; omega
theorem w32_cell {n : Int} (h : isCell n = true) : wrap32 n = n := by rw [isCell_iff] at h; unfold wrap32; omega
theorem cell_w32 (n : Int) : isCell (wrap32 n) = true := by rw [isCell_iff]; unfold wrap32; omega
theorem w32_eq (n : Int) : (wrap32 n == n) = isCell n := by
  rw [Bool.eq_iff_iff, isCell_iff]
  simp only [beq_iff_eq]
  unfold wrap32
  omega
/-- All of d numbers from i on. -/
def allF (P : Nat → Bool) : Nat → Nat → Bool
  | 0, _ => true
  | d + 1, i => P i && allF P d (i + 1)
theorem allF_congr {P Q : Nat → Bool} : ∀ d i, (∀ j, i ≤ j → j < i + d → P j = Q j) → allF P d i = allF Q d i
  | 0, _, _ => rfl
  | d + 1, i, h => by
    simp only [allF]
    rw [h i (Nat.le_refl _) (by omega), allF_congr d (i + 1) (fun j h1 h2 => h j (by omega) (by omega))]
theorem allF_true {P : Nat → Bool} : ∀ d i, (∀ j, i ≤ j → j < i + d → P j = true) → allF P d i = true
  | 0, _, _ => rfl
  | d + 1, i, h => by
    simp only [allF]
    rw [h i (Nat.le_refl _) (by omega), allF_true d (i + 1) (fun j h1 h2 => h j (by omega) (by omega))]
    rfl
theorem allF_all {α : Type} (p : α → Bool) (z : α) (l : List α) : ∀ d i, i + d = l.length → allF (fun j => p (l.getD j z)) d i = (l.drop i).all p
  | 0, i, h => by simp [allF, List.drop_of_length_le (show l.length ≤ i by omega)]
  | d + 1, i, h => by
    simp only [allF]
    rw [allF_all p z l d (i + 1) (by omega), List.drop_eq_getElem_cons (by omega : i < l.length), List.all_cons]
    simp [List.getD_eq_getElem?_getD, List.getElem?_eq_getElem (by omega : i < l.length)]
/-- A loop that leaves with false at the first number of which P does not hold. -/
theorem loop_all (F : Nat → Int → Option Bool) (n : Nat) (P : Nat → Bool) (fin : Bool)
    (hs : ∀ k (i : Nat), i < n → F (k + 1) i = if P i = true then F k ((i : Int) + 1) else some false) (he : ∀ k, F (k + 1) (n : Int) = some fin) :
    ∀ d k (i : Nat), i + d = n → d < k → F k i = some (allF P d i && fin)
  | 0, k, i, h, hk => by
    obtain ⟨k, rfl⟩ : ∃ m, k = m + 1 := ⟨k - 1, by omega⟩
    obtain rfl : i = n := by omega
    rw [he]
    simp [allF]
  | d + 1, k, i, h, hk => by
    obtain ⟨k, rfl⟩ : ∃ m, k = m + 1 := ⟨k - 1, by omega⟩
    rw [hs k i (by omega)]
    have ih := loop_all F n P fin hs he d k (i + 1) (by omega) (by omega)
    rw [show ((i + 1 : Nat) : Int) = (i : Int) + 1 by omega] at ih
    rw [ih]
    cases hp : P i <;> simp [allF, hp]
theorem loop_all0 (F : Nat → Int → Option Bool) (n : Nat) (P : Nat → Bool) (fin : Bool)
    (hs : ∀ k (i : Nat), i < n → F (k + 1) i = if P i = true then F k ((i : Int) + 1) else some false) (he : ∀ k, F (k + 1) (n : Int) = some fin) (k : Nat) (hk : n < k) : F k 0 = some (allF P n 0 && fin) :=
  loop_all F n P fin hs he n k 0 (by omega) hk
theorem spec_l01In_eq (a b c : Int) : spec_l01In.f a b c = some (inR a b c) := by
  unfold spec_l01In.f
  by_cases h1 : a ≥ b
  · have h2 : b ≤ a := h1
    by_cases h3 : a ≤ c <;> simp [h1, inR, h2, h3]
  · have h2 : ¬ b ≤ a := h1
    simp [inR, h2]
theorem impl_in_eq (a b c : Int) : impl_in.f a b c = some (inR a b c) := by
  unfold impl_in.f
  by_cases h1 : b ≤ a
  · by_cases h3 : a ≤ c <;> simp [inR, h1, h3]
  · simp [inR, h1]
theorem spec_l01Cell_eq (a : Int) : spec_l01Cell.f a = some (isCell a) := by
  unfold spec_l01Cell.f
  rw [spec_l01In_eq]
  rfl
theorem impl_WrapCell_eq (a : Int) : impl_WrapCell.f a = some (wrap32 a) := by
  unfold impl_WrapCell.f
  rw [w64_cell]
theorem impl_CellOK_eq (a : Int) : impl_CellOK.f a = some (isCell a) := by
  unfold impl_CellOK.f
  rw [impl_WrapCell_eq, Option.bind_some, w32_eq]
theorem set_take_map {α β : Type} (g : α → β) (z : β) (za : α) (l : List α) (i : Nat) (hi : i < l.length) : ((l.take i).map g ++ List.replicate (l.length - i) z).set i (g (l.getD i za)) = (l.take (i + 1)).map g ++ List.replicate (l.length - (i + 1)) z := by
  have hr : List.replicate (l.length - i) z = z :: List.replicate (l.length - (i + 1)) z := by
    rw [show l.length - i = (l.length - (i + 1)) + 1 by omega, List.replicate_succ]
  have hg : l.getD i za = l[i] := by simp [List.getD_eq_getElem?_getD, List.getElem?_eq_getElem hi]
  rw [hr, List.set_append, if_neg (by rw [List.length_map, List.length_take]; omega), hg, List.length_map, List.length_take, Nat.min_eq_left (Nat.le_of_lt hi), Nat.sub_self, List.set_cons_zero, List.take_succ_eq_append_getElem hi, List.map_append, List.append_assoc]
  rfl
/-- A loop that copies a list, number by number. -/
theorem loop_copy {α β : Type} (F : Nat → List β → Int → Option (List β)) (l : List α) (g : α → β) (z : β) (za : α)
    (hs : ∀ k (x : List β) (i : Nat), i < l.length → x.length = l.length → F (k + 1) x i = F k (x.set i (g (l.getD i za))) ((i : Int) + 1))
    (he : ∀ k x, F (k + 1) x (l.length : Int) = some x) (k : Nat) (hk : l.length < k) : F k (List.replicate l.length z) 0 = some (l.map g) := by
  have key : ∀ d k (i : Nat), i + d = l.length → d < k → F k ((l.take i).map g ++ List.replicate (l.length - i) z) (i : Int) = some (l.map g) := by
    intro d
    induction d with
    | zero =>
      intro k i h hk
      obtain ⟨k, rfl⟩ : ∃ m, k = m + 1 := ⟨k - 1, by omega⟩
      obtain rfl : i = l.length := by omega
      rw [he, List.take_length, Nat.sub_self]
      simp
    | succ d ih =>
      intro k i h hk
      obtain ⟨k, rfl⟩ : ∃ m, k = m + 1 := ⟨k - 1, by omega⟩
      rw [hs k _ i (by omega) (by simp; omega), set_take_map g z za l i (by omega), show (i : Int) + 1 = ((i + 1 : Nat) : Int) by omega]
      exact ih k (i + 1) (by omega) (by omega)
  have h := key l.length k 0 (by omega) hk
  simpa using h
theorem rd54_nat (l : List S54) (i : Nat) : rd_T54 l (i : Int) = l.getD i z54 := by simp [rd_T54]
theorem rd56_nat (l : List S56) (i : Nat) : rd_T56 l (i : Int) = l.getD i z56 := by simp [rd_T56]
/-- The item of an item as the law holds it. -/
def toI (x : S56) : S54 := ⟨x.f0, x.f1⟩
theorem laws_toItemS_eq (l : List S56) (hl : l.length ≤ 1048576) (k : Nat) (hk : l.length < k) : laws_toItemS.f k l = some (l.map toI) := by
  unfold laws_toItemS.f
  rw [if_pos (by omega), if_pos (by simp; omega)]
  have h := loop_copy (fun k x i => laws_toItemS.l0 k l x i) l toI z54 z56 (fun k x i hi hx => by
    simp only [laws_toItemS.l0, laws_toItem.f, Option.bind_some]
    rw [if_pos (by omega), if_pos (by omega), if_pos (by omega), rd56_nat, Int.toNat_natCast, w64 (by omega)]
    rfl) (fun k x => by
    simp only [laws_toItemS.l0]
    rw [if_neg (by omega)]) k hk
  simpa using h
theorem laws_eqItemS_refl (a : List S54) (ha : a.length ≤ 1048576) (k : Nat) (hk : a.length < k) : laws_eqItemS.f k a a = some true := by
  unfold laws_eqItemS.f
  rw [if_pos rfl]
  have hl := loop_all0 (fun k i => laws_eqItemS.l0 k a a i) a.length (fun _ => true) true (fun k i hi => by
    simp only [laws_eqItemS.l0]
    rw [if_pos (by omega), if_pos (by omega), if_pos (by omega), w64 (by omega)]
    unfold laws_eqItem.f
    simp) (fun k => by
    simp only [laws_eqItemS.l0]
    rw [if_neg (by omega)]) k hk
  rw [hl, allF_true _ _ (fun _ _ _ => rfl)]
  rfl
theorem laws_szItemS_eq (l : List S56) (a : Int) (h0 : 0 ≤ a) (h1 : a ≤ 1048576) (hl : l.length ≤ 9223372036854775807) : laws_szItemS.f l a = some (if a - (l.length : Int) < 0 then -1 else a - (l.length : Int)) := by
  unfold laws_szItemS.f
  rw [w64 (by omega)]
  split <;> rfl
/-- A valid item. -/
def itemOK (x : S54) : Bool := if x.f0 = 1 then inR x.f1 1 103 else if x.f0 = 2 then isCell x.f1 else inR x.f0 3 13 && (x.f1 == 0)
theorem spec_ItemOK_eq (a b : Int) : spec_ItemOK.f a b = some (itemOK ⟨a, b⟩) := by
  unfold spec_ItemOK.f itemOK
  rw [spec_l01In_eq, spec_l01Cell_eq, spec_l01In_eq]
  by_cases h1 : a = 1
  · simp [h1]
  · by_cases h2 : a = 2
    · simp [h2]
    · cases h3 : inR a 3 13 <;> simp [h1, h2, h3]
theorem impl_ItemOK_eq (a b : Int) : impl_ItemOK.f a b = some (itemOK ⟨a, b⟩) := by
  unfold impl_ItemOK.f itemOK
  rw [impl_in_eq, impl_CellOK_eq, impl_in_eq]
  by_cases h1 : a = 1
  · simp [h1]
  · by_cases h2 : a = 2
    · simp [h2]
    · cases h3 : inR a 3 13 <;> simp [h1, h2, h3]
theorem idx_items (l : List S54) (hl : l.length ≤ 1048576) : ∀ d k (i : Nat), i + d = l.length → d < k →
    ∃ r, slices_IndexFunc_Item_at_impl_itemsCode_1.l0 k l (l.length : Int) (i : Int) = some r ∧ (!decide (r ≥ 0)) = allF (fun j => itemOK (l.getD j z54)) d i
  | 0, k, i, h, hk => by
    obtain ⟨k, rfl⟩ : ∃ m, k = m + 1 := ⟨k - 1, by omega⟩
    refine ⟨-1, ?_, by simp [allF]⟩
    simp only [slices_IndexFunc_Item_at_impl_itemsCode_1.l0]
    rw [if_neg (by omega)]
  | d + 1, k, i, h, hk => by
    obtain ⟨k, rfl⟩ : ∃ m, k = m + 1 := ⟨k - 1, by omega⟩
    obtain ⟨r, hr, hq⟩ := idx_items l hl d k (i + 1) (by omega) (by omega)
    simp only [slices_IndexFunc_Item_at_impl_itemsCode_1.l0]
    rw [if_pos (by omega), if_pos (by omega), if_pos (by omega), rd54_nat, w64 (by omega), show (i : Int) + 1 = ((i + 1 : Nat) : Int) by omega, hr]
    unfold impl_itemsCode_1.f
    rw [impl_ItemOK_eq]
    simp only [Option.bind_some, allF]
    cases hp : itemOK (l.getD i z54)
    · refine ⟨(i : Int), by simp, ?_⟩
      simp
    · refine ⟨r, by simp, ?_⟩
      rw [hq]
      simp
theorem contains_items (l : List S54) (hl : l.length ≤ 1048576) (k : Nat) (hk : l.length < k) : slices_ContainsFunc_Item_at_impl_itemsCode_1.f k l = some (!l.all itemOK) := by
  obtain ⟨r, hr, hq⟩ := idx_items l hl l.length k 0 (by omega) hk
  unfold slices_ContainsFunc_Item_at_impl_itemsCode_1.f slices_IndexFunc_Item_at_impl_itemsCode_1.f
  rw [show (0 : Int) = ((0 : Nat) : Int) from rfl, hr]
  simp only [Option.bind_some]
  rw [allF_all itemOK z54 l l.length 0 (by omega)] at hq
  simp only [List.drop_zero] at hq
  rw [← hq]
  simp
theorem isLong_item (l : List S54) (k : Nat) (hk : 2 < k) : impl_isLong_Item.f k [l] = some (decide ((l.length : Int) > 4096)) := by
  obtain ⟨k, rfl⟩ : ∃ m, k = m + 2 := ⟨k - 2, by omega⟩
  simp only [impl_isLong_Item.f, slices_ContainsFunc_Item_at_impl_isLong_Item_1.f, slices_IndexFunc_Item_at_impl_isLong_Item_1.f, slices_IndexFunc_Item_at_impl_isLong_Item_1.l0, impl_isLong_Item_1.f, rd_L3]
  by_cases h : (l.length : Int) > 4096 <;> simp [h, wrap64]
def ask01 : Bool → Int
  | true => 0
  | false => 1
/-- The code of a row of items. -/
def itemsCode (l : List S54) : Int := if l.length > 4096 then 2 else if l.length > 60 then 6 else ask01 (l.all itemOK)
theorem spec_l07Ask_eq (l : List S54) (hl : l.length ≤ 1048576) (k : Nat) (hk : 4096 < k) : spec_l07Ask.f k l = some (itemsCode l) := by
  unfold spec_l07Ask.f itemsCode
  by_cases h1 : l.length > 4096
  · rw [if_pos (by omega), if_pos h1]
  · rw [if_neg (by omega), if_neg h1]
    by_cases h2 : l.length > 60
    · rw [if_pos (by omega), if_pos h2]
    · rw [if_neg (by omega), if_neg h2, ← List.drop_zero (l := l), ← allF_all itemOK z54 l l.length 0 (by omega), List.drop_zero]
      have key : ∀ d k (i : Nat), i + d = l.length → d < k → spec_l07Ask.l0 k l (i : Int) = some (ask01 (allF (fun j => itemOK (l.getD j z54)) d i)) := by
        intro d
        induction d with
        | zero =>
          intro k i h hk
          obtain ⟨k, rfl⟩ : ∃ m, k = m + 1 := ⟨k - 1, by omega⟩
          simp only [spec_l07Ask.l0]
          rw [if_neg (by omega)]
          rfl
        | succ d ih =>
          intro k i h hk
          obtain ⟨k, rfl⟩ : ∃ m, k = m + 1 := ⟨k - 1, by omega⟩
          simp only [spec_l07Ask.l0]
          rw [if_pos (by omega), if_pos (by omega), rd54_nat, spec_ItemOK_eq, Option.bind_some, w64 (by omega), show (i : Int) + 1 = ((i + 1 : Nat) : Int) by omega, ih k (i + 1) (by omega) (by omega)]
          simp only [allF]
          have e : (⟨(l.getD i z54).f0, (l.getD i z54).f1⟩ : S54) = l.getD i z54 := rfl
          rw [e]
          cases itemOK (l.getD i z54)
          · simp [ask01]
          · simp
      exact key l.length k 0 (by omega) (by omega)
theorem impl_itemsCode_eq (l : List S54) (hl : l.length ≤ 1048576) (k : Nat) (hk : 1048576 < k) : impl_itemsCode.f k l = some (itemsCode l) := by
  unfold impl_itemsCode.f itemsCode
  rw [isLong_item l k (by omega), contains_items l hl k (by omega)]
  simp only [Option.bind_some, decide_eq_true_eq]
  by_cases h1 : l.length > 4096
  · rw [if_pos (by omega), if_pos h1]
  · rw [if_neg (by omega), if_neg h1]
    by_cases h2 : l.length > 60
    · rw [if_pos (by omega), if_pos h2]
    · rw [if_neg (by omega), if_neg h2]
      cases l.all itemOK <;> rfl
/-- The cells that an item of this code takes. -/
def cells (a : Int) : Int := if a = 1 then 1 else if a = 13 then 1 else if a = 10 then 1 else if a = 5 then 0 else if a = 6 then 0 else 2
theorem cells_bd (a : Int) : 0 ≤ cells a ∧ cells a ≤ 2 := by
  unfold cells
  repeat' split
  all_goals omega
theorem spec_cells (a : Int) (k : Nat) (hk : 0 < k) : spec_l07Cells.f k a = some (cells a) := by
  obtain ⟨k, rfl⟩ : ∃ m, k = m + 1 := ⟨k - 1, by omega⟩
  unfold spec_l07Cells.f cells
  simp only [spec_l07Cells.j0]
  by_cases h1 : a = 1
  · simp [h1]
  · by_cases h2 : a = 13
    · simp [h2]
    · by_cases h3 : a = 10
      · simp [h3]
      · by_cases h4 : a = 5
        · simp [h4]
        · by_cases h5 : a = 6
          · simp [h5]
          · simp [h1, h2, h3, h4, h5]
theorem impl_cells (a b : Int) (k : Nat) (hk : 0 < k) : impl_Item_size.f k a b = some (cells a) := by
  obtain ⟨k, rfl⟩ : ∃ m, k = m + 1 := ⟨k - 1, by omega⟩
  unfold impl_Item_size.f cells
  simp only [impl_Item_size.j0]
  by_cases h1 : a = 1
  · simp [h1]
  · by_cases h2 : a = 13
    · simp [h2]
    · by_cases h3 : a = 10
      · simp [h3]
      · by_cases h4 : a = 5
        · simp [h4]
        · by_cases h5 : a = 6
          · simp [h5]
          · simp [h1, h2, h3, h4, h5]
/-- The cells of d items from i on. -/
def sum (l : List S54) : Nat → Nat → Int
  | 0, _ => 0
  | d + 1, i => cells (l.getD i z54).f0 + sum l d (i + 1)
theorem spec_size (l : List S54) (hl : l.length ≤ 60) : ∀ d k (i : Nat) (c : Int), i + d = l.length → d + 1 < k → 0 ≤ c → c + 2 * (d : Int) ≤ 1000 → spec_l07Size.l0 k l c (i : Int) = some (c + sum l d i)
  | 0, k, i, c, h, hk, h0, h1 => by
    obtain ⟨k, rfl⟩ : ∃ m, k = m + 1 := ⟨k - 1, by omega⟩
    simp only [spec_l07Size.l0, sum]
    rw [if_neg (by omega)]
    simp
  | d + 1, k, i, c, h, hk, h0, h1 => by
    obtain ⟨k, rfl⟩ : ∃ m, k = m + 1 := ⟨k - 1, by omega⟩
    have hb := cells_bd (l.getD i z54).f0
    simp only [spec_l07Size.l0, sum]
    rw [if_pos (by omega), if_pos (by omega), rd54_nat, spec_cells _ k (by omega), Option.bind_some, w64 (by omega), w64 (by omega), show (i : Int) + 1 = ((i + 1 : Nat) : Int) by omega, spec_size l hl d k (i + 1) _ (by omega) (by omega) (by omega) (by omega), Int.add_assoc]
theorem impl_size (l : List S54) (hl : l.length ≤ 60) : ∀ d k (i : Nat) (c : Int), i + d = l.length → d + 1 < k → 0 ≤ c → c + 2 * (d : Int) ≤ 1000 → impl_sizeOf.l0 k c l (l.length : Int) (i : Int) = some (c + sum l d i)
  | 0, k, i, c, h, hk, h0, h1 => by
    obtain ⟨k, rfl⟩ : ∃ m, k = m + 1 := ⟨k - 1, by omega⟩
    simp only [impl_sizeOf.l0, sum]
    rw [if_neg (by omega)]
    simp
  | d + 1, k, i, c, h, hk, h0, h1 => by
    obtain ⟨k, rfl⟩ : ∃ m, k = m + 1 := ⟨k - 1, by omega⟩
    have hb := cells_bd (l.getD i z54).f0
    simp only [impl_sizeOf.l0, sum]
    rw [if_pos (by omega), if_pos (by omega), if_pos (by omega), rd54_nat, impl_cells _ _ k (by omega), Option.bind_some, w64 (by omega), w64 (by omega), show (i : Int) + 1 = ((i + 1 : Nat) : Int) by omega, impl_size l hl d k (i + 1) _ (by omega) (by omega) (by omega) (by omega), Int.add_assoc]
theorem spec_SizeOf_eq (l : List S54) (hl : l.length ≤ 1048576) (k : Nat) (hk : 1048576 < k) : spec_SizeOf.f k l = some (if itemsCode l = 0 then (1 + sum l l.length 0, 0) else (0, itemsCode l)) := by
  unfold spec_SizeOf.f
  by_cases h1 : l.length > 4096
  · rw [if_pos (by omega)]
    simp [itemsCode, h1]
  · rw [if_neg (by omega), spec_l07Ask_eq l hl k (by omega), Option.bind_some]
    by_cases h2 : itemsCode l = 0
    · have h3 : l.length ≤ 60 := by
        unfold itemsCode at h2
        rw [if_neg h1] at h2
        by_cases h4 : l.length > 60
        · rw [if_pos h4] at h2
          omega
        · omega
      rw [if_pos h2, if_pos h2]
      unfold spec_l07Size.f
      rw [show (0 : Int) = ((0 : Nat) : Int) from rfl, spec_size l h3 l.length k 0 1 (by omega) (by omega) (by omega) (by omega)]
      rfl
    · rw [if_neg h2, if_neg h2]
theorem impl_SizeOf_eq (l : List S54) (hl : l.length ≤ 1048576) (k : Nat) (hk : 1048576 < k) : impl_SizeOf.f k l = some (if itemsCode l = 0 then (1 + sum l l.length 0, 0) else (0, itemsCode l)) := by
  unfold impl_SizeOf.f
  rw [impl_itemsCode_eq l hl k (by omega), Option.bind_some]
  by_cases h2 : itemsCode l = 0
  · have h3 : l.length ≤ 60 := by
      unfold itemsCode at h2
      by_cases h1 : l.length > 4096
      · rw [if_pos h1] at h2
        omega
      · rw [if_neg h1] at h2
        by_cases h4 : l.length > 60
        · rw [if_pos h4] at h2
          omega
        · omega
    rw [if_pos h2, if_pos h2]
    unfold impl_sizeOf.f
    rw [show (0 : Int) = ((0 : Nat) : Int) from rfl, impl_size l h3 l.length k 0 1 (by omega) (by omega) (by omega) (by omega)]
    rfl
  · rw [if_neg h2, if_neg h2]
theorem FnExactSizeOf : laws_FnExactSizeOf.Pure := by
  intro l hl
  refine ⟨1048577, ?_⟩
  unfold laws_FnExactSizeOf.f
  rw [laws_szItemS_eq l _ (by omega) (by omega) hl.1, Option.bind_some]
  by_cases h1 : (1048576 : Int) - (l.length : Int) < 0
  · rw [if_pos h1, if_pos (by omega)]
  · have b5 : (l.map toI).length ≤ 1048576 := by simp; omega
    rw [if_neg h1, if_neg h1, laws_toItemS_eq l (by omega) _ (by omega)]
    simp only [Option.bind_some]
    rw [spec_SizeOf_eq _ b5 _ (by omega), impl_SizeOf_eq _ b5 _ (by omega), laws_eqItemS_refl _ b5 _ (by omega)]
    simp
end Go.Proofs.Ytopmbnnimpmgoaa.Pure
