/- The law FnExactOpenAt answers true for every row of items and place: both show the same open structures. No condition. -/
import Derived.Test.YtopmbnnimpmgoaaPFnExactOpenAtx5
namespace Go.Proofs.Ytopmbnnimpmgoaa.Pure
open Go.RowKit Go.Proofs.Ytopmbnnimpmgoaa.PFnExactOpenAt Go.Proofs.YtopmbnnimpmgoaaW.PrintWords Go.Proofs.YtopmbnnimpmgoaaW.PrintLast
set_option linter.unusedSimpArgs false
set_option linter.unusedVariables false

theorem bd64 {n : Int} (h : (Lit.int .i64 n).wf = true) : -9223372036854775808 ≤ n ∧ n ≤ 9223372036854775807 := by
  simp [Lit.wf, IntKind.min, IntKind.max, IntKind.signed, IntKind.bits] at h
  omega
/-- n lies from lo to hi. -/
def inR (n lo hi : Int) : Bool := decide (lo ≤ n ∧ n ≤ hi)
/-- A cell: 32 bits with a sign. -/
def isCell (n : Int) : Bool := decide (-2147483648 ≤ n ∧ n ≤ 2147483647)
theorem isCell_iff {n : Int} : isCell n = true ↔ (-2147483648 ≤ n ∧ n ≤ 2147483647) := by simp [isCell]
theorem inR_iff {n lo hi : Int} : inR n lo hi = true ↔ (lo ≤ n ∧ n ≤ hi) := by simp [inR]
theorem w64 {n : Int} (h : -9223372036854775808 ≤ n ∧ n ≤ 9223372036854775807) : wrap64 n = n := by unfold wrap64; omega
theorem w64_cell (n : Int) : wrap64 (wrap32 n) = wrap32 n := by unfold wrap64 wrap32; omega
theorem w32_cell {n : Int} (h : isCell n = true) : wrap32 n = n := by rw [isCell_iff] at h; unfold wrap32; omega
theorem cell_w32 (n : Int) : isCell (wrap32 n) = true := by rw [isCell_iff]; unfold wrap32; omega
theorem w32_eq (n : Int) : (wrap32 n == n) = isCell n := by
  rw [Bool.eq_iff_iff, isCell_iff]
  simp only [beq_iff_eq]
  unfold wrap32
  omega
/-- All of d numbers from i on. -/
def allF (P : Nat → Bool) : Nat → Nat → Bool
  | 0, _ => true
  | d + 1, i => P i && allF P d (i + 1)
theorem allF_congr {P Q : Nat → Bool} : ∀ d i, (∀ j, i ≤ j → j < i + d → P j = Q j) → allF P d i = allF Q d i
  | 0, _, _ => rfl
  | d + 1, i, h => by
    simp only [allF]
    rw [h i (Nat.le_refl _) (by omega), allF_congr d (i + 1) (fun j h1 h2 => h j (by omega) (by omega))]
theorem allF_true {P : Nat → Bool} : ∀ d i, (∀ j, i ≤ j → j < i + d → P j = true) → allF P d i = true
  | 0, _, _ => rfl
  | d + 1, i, h => by
    simp only [allF]
    rw [h i (Nat.le_refl _) (by omega), allF_true d (i + 1) (fun j h1 h2 => h j (by omega) (by omega))]
    rfl
theorem allF_all {α : Type} (p : α → Bool) (z : α) (l : List α) : ∀ d i, i + d = l.length → allF (fun j => p (l.getD j z)) d i = (l.drop i).all p
  | 0, i, h => by simp [allF, List.drop_of_length_le (show l.length ≤ i by omega)]
  | d + 1, i, h => by
    simp only [allF]
    rw [allF_all p z l d (i + 1) (by omega), List.drop_eq_getElem_cons (by omega : i < l.length), List.all_cons]
    simp [List.getD_eq_getElem?_getD, List.getElem?_eq_getElem (by omega : i < l.length)]
/-- A loop that leaves with false at the first number of which P does not hold. -/
theorem loop_all (F : Nat → Int → Option Bool) (n : Nat) (P : Nat → Bool) (fin : Bool)
    (hs : ∀ k (i : Nat), i < n → F (k + 1) i = if P i = true then F k ((i : Int) + 1) else some false) (he : ∀ k, F (k + 1) (n : Int) = some fin) :
    ∀ d k (i : Nat), i + d = n → d < k → F k i = some (allF P d i && fin)
  | 0, k, i, h, hk => by
    obtain ⟨k, rfl⟩ : ∃ m, k = m + 1 := ⟨k - 1, by omega⟩
    obtain rfl : i = n := by omega
    rw [he]
    simp [allF]
  | d + 1, k, i, h, hk => by
    obtain ⟨k, rfl⟩ : ∃ m, k = m + 1 := ⟨k - 1, by omega⟩
    rw [hs k i (by omega)]
    have ih := loop_all F n P fin hs he d k (i + 1) (by omega) (by omega)
    rw [show ((i + 1 : Nat) : Int) = (i : Int) + 1 by omega] at ih
    rw [ih]
    cases hp : P i <;> simp [allF, hp]
theorem loop_all0 (F : Nat → Int → Option Bool) (n : Nat) (P : Nat → Bool) (fin : Bool)
    (hs : ∀ k (i : Nat), i < n → F (k + 1) i = if P i = true then F k ((i : Int) + 1) else some false) (he : ∀ k, F (k + 1) (n : Int) = some fin) (k : Nat) (hk : n < k) : F k 0 = some (allF P n 0 && fin) :=
  loop_all F n P fin hs he n k 0 (by omega) hk
theorem spec_l01In_eq (a b c : Int) : spec_l01In.f a b c = some (inR a b c) := by
  unfold spec_l01In.f
  by_cases h1 : a ≥ b
  · have h2 : b ≤ a := h1
    by_cases h3 : a ≤ c <;> simp [h1, inR, h2, h3]
  · have h2 : ¬ b ≤ a := h1
    simp [inR, h2]
theorem impl_in_eq (a b c : Int) : impl_in.f a b c = some (inR a b c) := by
  unfold impl_in.f
  by_cases h1 : b ≤ a
  · by_cases h3 : a ≤ c <;> simp [inR, h1, h3]
  · simp [inR, h1]
theorem spec_l01Cell_eq (a : Int) : spec_l01Cell.f a = some (isCell a) := by
  unfold spec_l01Cell.f
  rw [spec_l01In_eq]
  rfl
theorem impl_WrapCell_eq (a : Int) : impl_WrapCell.f a = some (wrap32 a) := by
  unfold impl_WrapCell.f
  rw [w64_cell]
theorem impl_CellOK_eq (a : Int) : impl_CellOK.f a = some (isCell a) := by
  unfold impl_CellOK.f
  rw [impl_WrapCell_eq, Option.bind_some, w32_eq]
theorem set_take_map {α β : Type} (g : α → β) (z : β) (za : α) (l : List α) (i : Nat) (hi : i < l.length) : ((l.take i).map g ++ List.replicate (l.length - i) z).set i (g (l.getD i za)) = (l.take (i + 1)).map g ++ List.replicate (l.length - (i + 1)) z := by
  have hr : List.replicate (l.length - i) z = z :: List.replicate (l.length - (i + 1)) z := by
    rw [show l.length - i = (l.length - (i + 1)) + 1 by omega, List.replicate_succ]
  have hg : l.getD i za = l[i] := by simp [List.getD_eq_getElem?_getD, List.getElem?_eq_getElem hi]
  rw [hr, List.set_append, if_neg (by rw [List.length_map, List.length_take]; omega), hg, List.length_map, List.length_take, Nat.min_eq_left (Nat.le_of_lt hi), Nat.sub_self, List.set_cons_zero, List.take_succ_eq_append_getElem hi, List.map_append, List.append_assoc]
  rfl
/-- A loop that copies a list, number by number. -/
theorem loop_copy {α β : Type} (F : Nat → List β → Int → Option (List β)) (l : List α) (g : α → β) (z : β) (za : α)
    (hs : ∀ k (x : List β) (i : Nat), i < l.length → x.length = l.length → F (k + 1) x i = F k (x.set i (g (l.getD i za))) ((i : Int) + 1))
    (he : ∀ k x, F (k + 1) x (l.length : Int) = some x) (k : Nat) (hk : l.length < k) : F k (List.replicate l.length z) 0 = some (l.map g) := by
  have key : ∀ d k (i : Nat), i + d = l.length → d < k → F k ((l.take i).map g ++ List.replicate (l.length - i) z) (i : Int) = some (l.map g) := by
    intro d
    induction d with
    | zero =>
      intro k i h hk
      obtain ⟨k, rfl⟩ : ∃ m, k = m + 1 := ⟨k - 1, by omega⟩
      obtain rfl : i = l.length := by omega
      rw [he, List.take_length, Nat.sub_self]
      simp
    | succ d ih =>
      intro k i h hk
      obtain ⟨k, rfl⟩ : ∃ m, k = m + 1 := ⟨k - 1, by omega⟩
      rw [hs k _ i (by omega) (by simp; omega), set_take_map g z za l i (by omega), show (i : Int) + 1 = ((i + 1 : Nat) : Int) by omega]
      exact ih k (i + 1) (by omega) (by omega)
  have h := key l.length k 0 (by omega) hk
  simpa using h
theorem rd54_nat (l : List S54) (i : Nat) : rd_T54 l (i : Int) = l.getD i z54 := by simp [rd_T54]
theorem rd56_nat (l : List S56) (i : Nat) : rd_T56 l (i : Int) = l.getD i z56 := by simp [rd_T56]
/-- The item of an item as the law holds it. -/
def toI (x : S56) : S54 := ⟨x.f0, x.f1⟩
theorem laws_toItemS_eq (l : List S56) (hl : l.length ≤ 1048576) (k : Nat) (hk : l.length < k) : laws_toItemS.f k l = some (l.map toI) := by
  unfold laws_toItemS.f
  rw [if_pos (by omega), if_pos (by simp; omega)]
  have h := loop_copy (fun k x i => laws_toItemS.l0 k l x i) l toI z54 z56 (fun k x i hi hx => by
    simp only [laws_toItemS.l0, laws_toItem.f, Option.bind_some]
    rw [if_pos (by omega), if_pos (by omega), if_pos (by omega), rd56_nat, Int.toNat_natCast, w64 (by omega)]
    rfl) (fun k x => by
    simp only [laws_toItemS.l0]
    rw [if_neg (by omega)]) k hk
  simpa using h
theorem laws_eqItemS_refl (a : List S54) (ha : a.length ≤ 1048576) (k : Nat) (hk : a.length < k) : laws_eqItemS.f k a a = some true := by
  unfold laws_eqItemS.f
  rw [if_pos rfl]
  have hl := loop_all0 (fun k i => laws_eqItemS.l0 k a a i) a.length (fun _ => true) true (fun k i hi => by
    simp only [laws_eqItemS.l0]
    rw [if_pos (by omega), if_pos (by omega), if_pos (by omega), w64 (by omega)]
    unfold laws_eqItem.f
    simp) (fun k => by
    simp only [laws_eqItemS.l0]
    rw [if_neg (by omega)]) k hk
  rw [hl, allF_true _ _ (fun _ _ _ => rfl)]
  rfl
theorem laws_szItemS_eq (l : List S56) (a : Int) (h0 : 0 ≤ a) (h1 : a ≤ 1048576) (hl : l.length ≤ 9223372036854775807) : laws_szItemS.f l a = some (if a - (l.length : Int) < 0 then -1 else a - (l.length : Int)) := by
  unfold laws_szItemS.f
  rw [w64 (by omega)]
  split <;> rfl
/-- A valid item. -/
def itemOK (x : S54) : Bool := if x.f0 = 1 then inR x.f1 1 103 else if x.f0 = 2 then isCell x.f1 else inR x.f0 3 13 && (x.f1 == 0)
theorem spec_ItemOK_eq (a b : Int) : spec_ItemOK.f a b = some (itemOK ⟨a, b⟩) := by
  unfold spec_ItemOK.f itemOK
  rw [spec_l01In_eq, spec_l01Cell_eq, spec_l01In_eq]
  by_cases h1 : a = 1
  · simp [h1]
  · by_cases h2 : a = 2
    · simp [h2]
    · cases h3 : inR a 3 13 <;> simp [h1, h2, h3]
theorem impl_ItemOK_eq (a b : Int) : impl_ItemOK.f a b = some (itemOK ⟨a, b⟩) := by
  unfold impl_ItemOK.f itemOK
  rw [impl_in_eq, impl_CellOK_eq, impl_in_eq]
  by_cases h1 : a = 1
  · simp [h1]
  · by_cases h2 : a = 2
    · simp [h2]
    · cases h3 : inR a 3 13 <;> simp [h1, h2, h3]
theorem idx_items (l : List S54) (hl : l.length ≤ 1048576) : ∀ d k (i : Nat), i + d = l.length → d < k →
    ∃ r, slices_IndexFunc_Item_at_impl_itemsCode_1.l0 k l (l.length : Int) (i : Int) = some r ∧ (!decide (r ≥ 0)) = allF (fun j => itemOK (l.getD j z54)) d i
  | 0, k, i, h, hk => by
    obtain ⟨k, rfl⟩ : ∃ m, k = m + 1 := ⟨k - 1, by omega⟩
    refine ⟨-1, ?_, by simp [allF]⟩
    simp only [slices_IndexFunc_Item_at_impl_itemsCode_1.l0]
    rw [if_neg (by omega)]
  | d + 1, k, i, h, hk => by
    obtain ⟨k, rfl⟩ : ∃ m, k = m + 1 := ⟨k - 1, by omega⟩
    obtain ⟨r, hr, hq⟩ := idx_items l hl d k (i + 1) (by omega) (by omega)
    simp only [slices_IndexFunc_Item_at_impl_itemsCode_1.l0]
    rw [if_pos (by omega), if_pos (by omega), if_pos (by omega), rd54_nat, w64 (by omega), show (i : Int) + 1 = ((i + 1 : Nat) : Int) by omega, hr]
    unfold impl_itemsCode_1.f
    rw [impl_ItemOK_eq]
    simp only [Option.bind_some, allF]
    cases hp : itemOK (l.getD i z54)
    · refine ⟨(i : Int), by simp, ?_⟩
      simp
    · refine ⟨r, by simp, ?_⟩
      rw [hq]
      simp
theorem contains_items (l : List S54) (hl : l.length ≤ 1048576) (k : Nat) (hk : l.length < k) : slices_ContainsFunc_Item_at_impl_itemsCode_1.f k l = some (!l.all itemOK) := by
  obtain ⟨r, hr, hq⟩ := idx_items l hl l.length k 0 (by omega) hk
  unfold slices_ContainsFunc_Item_at_impl_itemsCode_1.f slices_IndexFunc_Item_at_impl_itemsCode_1.f
  rw [show (0 : Int) = ((0 : Nat) : Int) from rfl, hr]
  simp only [Option.bind_some]
  rw [allF_all itemOK z54 l l.length 0 (by omega)] at hq
  simp only [List.drop_zero] at hq
  rw [← hq]
  simp
theorem isLong_item (l : List S54) (k : Nat) (hk : 2 < k) : impl_isLong_Item.f k [l] = some (decide ((l.length : Int) > 4096)) := by
  obtain ⟨k, rfl⟩ : ∃ m, k = m + 2 := ⟨k - 2, by omega⟩
  simp only [impl_isLong_Item.f, slices_ContainsFunc_Item_at_impl_isLong_Item_1.f, slices_IndexFunc_Item_at_impl_isLong_Item_1.f, slices_IndexFunc_Item_at_impl_isLong_Item_1.l0, impl_isLong_Item_1.f, rd_L3]
  by_cases h : (l.length : Int) > 4096 <;> simp [h, wrap64]
def ask01 : Bool → Int
  | true => 0
  | false => 1
/-- The code of a row of items. -/
def itemsCode (l : List S54) : Int := if l.length > 4096 then 2 else if l.length > 60 then 6 else ask01 (l.all itemOK)
theorem spec_l07Ask_eq (l : List S54) (hl : l.length ≤ 1048576) (k : Nat) (hk : 4096 < k) : spec_l07Ask.f k l = some (itemsCode l) := by
  unfold spec_l07Ask.f itemsCode
  by_cases h1 : l.length > 4096
  · rw [if_pos (by omega), if_pos h1]
  · rw [if_neg (by omega), if_neg h1]
    by_cases h2 : l.length > 60
    · rw [if_pos (by omega), if_pos h2]
    · rw [if_neg (by omega), if_neg h2, ← List.drop_zero (l := l), ← allF_all itemOK z54 l l.length 0 (by omega), List.drop_zero]
      have key : ∀ d k (i : Nat), i + d = l.length → d < k → spec_l07Ask.l0 k l (i : Int) = some (ask01 (allF (fun j => itemOK (l.getD j z54)) d i)) := by
        intro d
        induction d with
        | zero =>
          intro k i h hk
          obtain ⟨k, rfl⟩ : ∃ m, k = m + 1 := ⟨k - 1, by omega⟩
          simp only [spec_l07Ask.l0]
          rw [if_neg (by omega)]
          rfl
        | succ d ih =>
          intro k i h hk
          obtain ⟨k, rfl⟩ : ∃ m, k = m + 1 := ⟨k - 1, by omega⟩
          simp only [spec_l07Ask.l0]
          rw [if_pos (by omega), if_pos (by omega), rd54_nat, spec_ItemOK_eq, Option.bind_some, w64 (by omega), show (i : Int) + 1 = ((i + 1 : Nat) : Int) by omega, ih k (i + 1) (by omega) (by omega)]
          simp only [allF]
          have e : (⟨(l.getD i z54).f0, (l.getD i z54).f1⟩ : S54) = l.getD i z54 := rfl
          rw [e]
          cases itemOK (l.getD i z54)
          · simp [ask01]
          · simp
      exact key l.length k 0 (by omega) (by omega)
theorem impl_itemsCode_eq (l : List S54) (hl : l.length ≤ 1048576) (k : Nat) (hk : 1048576 < k) : impl_itemsCode.f k l = some (itemsCode l) := by
  unfold impl_itemsCode.f itemsCode
  rw [isLong_item l k (by omega), contains_items l hl k (by omega)]
  simp only [Option.bind_some, decide_eq_true_eq]
  by_cases h1 : l.length > 4096
  · rw [if_pos (by omega), if_pos h1]
  · rw [if_neg (by omega), if_neg h1]
    by_cases h2 : l.length > 60
    · rw [if_pos (by omega), if_pos h2]
    · rw [if_neg (by omega), if_neg h2]
      cases l.all itemOK <;> rfl
/-- The open structures behind an item; none if it does not fit. -/
def stepW (l : List Int) (a : Int) : Option (List Int) :=
  if a = 3 ∨ a = 6 ∨ a = 10 then (if l.length < 8 then some (l ++ [a]) else none)
  else if a = 4 then (if impl_fit.top l = 3 then some (l.take (l.length - 1) ++ [a]) else none)
  else if a = 8 then (if impl_fit.top l = 6 then some (l.take (l.length - 1) ++ [a]) else none)
  else if a = 5 then (if impl_fit.top l = 3 ∨ impl_fit.top l = 4 then some (l.take (l.length - 1)) else none)
  else if a = 7 then (if impl_fit.top l = 6 then some (l.take (l.length - 1)) else none)
  else if a = 9 then (if impl_fit.top l = 8 then some (l.take (l.length - 1)) else none)
  else if a = 11 ∨ a = 12 then (if impl_fit.top l = 10 then some (l.take (l.length - 1)) else none)
  else some l
/-- What a step answers. -/
def Ans (r : Option (List Int × Bool)) (s : Option (List Int)) : Prop := ∃ l', r = some (l', s.isSome) ∧ ∀ q, s = some q → l' = q
theorem Ans.ok {q : List Int} : Ans (some (q, true)) (some q) := ⟨q, rfl, fun _ h => Option.some.inj h⟩
theorem Ans.no {q : List Int} : Ans (some (q, false)) none := ⟨q, rfl, fun _ h => by cases h⟩
theorem Ans.ite {q : List Int} {c : Prop} [Decidable c] {b : Bool} (h : b = decide c) : Ans (some (q, b)) (if c then some q else none) := by
  subst h
  by_cases hc : c
  · rw [if_pos hc, decide_eq_true hc]; exact Ans.ok
  · rw [if_neg hc, decide_eq_false hc]; exact Ans.no
theorem top_ne {l : List Int} (h : impl_fit.top l ≠ 0) : 1 ≤ l.length := by
  unfold impl_fit.top at h
  by_cases c : 0 < l.length
  · exact c
  · rw [if_neg c] at h
    exact absurd rfl h
def InvO (l : List Int) : Prop := l.length ≤ 8 ∧ ∀ x ∈ l, x = 3 ∨ x = 4 ∨ x = 6 ∨ x = 8 ∨ x = 10
theorem top_inv {l : List Int} (h : InvO l) : impl_fit.top l = 0 ∨ impl_fit.top l = 3 ∨ impl_fit.top l = 4 ∨ impl_fit.top l = 6 ∨ impl_fit.top l = 8 ∨ impl_fit.top l = 10 := by
  unfold impl_fit.top
  by_cases c : 0 < l.length
  · rw [if_pos c]
    right
    have e : rd l ((l.length : Int) - 1) = l.getD (l.length - 1) 0 := by
      rw [show (l.length : Int) - 1 = ((l.length - 1 : Nat) : Int) by omega]
      simp [rd]
    rw [e, List.getD_eq_getElem?_getD, List.getElem?_eq_getElem (by omega)]
    exact h.2 _ (List.getElem_mem _)
  · rw [if_neg c]
    exact .inl rfl
theorem inv_step {l q : List Int} {a : Int} (h : InvO l) (hs : stepW l a = some q) : InvO q := by
  have htake : InvO (l.take (l.length - 1)) := ⟨by rw [List.length_take]; have := h.1; omega, fun x hx => h.2 x (List.mem_of_mem_take hx)⟩
  have hadd : ∀ m : List Int, InvO m → m.length + 1 ≤ 8 → (a = 3 ∨ a = 4 ∨ a = 6 ∨ a = 8 ∨ a = 10) → InvO (m ++ [a]) := fun m hm hl ha => ⟨by simp; omega, fun x hx => by
    rcases List.mem_append.1 hx with hx | hx
    · exact hm.2 x hx
    · rw [List.mem_singleton] at hx
      rw [hx]
      exact ha⟩
  have hl8 := h.1
  unfold stepW at hs
  by_cases c1 : a = 3 ∨ a = 6 ∨ a = 10
  · rw [if_pos c1] at hs
    by_cases c2 : l.length < 8
    · rw [if_pos c2] at hs
      obtain rfl := Option.some.inj hs
      exact hadd l h (by omega) (by omega)
    · rw [if_neg c2] at hs
      cases hs
  · rw [if_neg c1] at hs
    by_cases c4 : a = 4
    · rw [if_pos c4] at hs
      by_cases t : impl_fit.top l = 3
      · rw [if_pos t] at hs
        obtain rfl := Option.some.inj hs
        have := top_ne (l := l) (by omega)
        exact hadd _ htake (by rw [List.length_take]; omega) (by omega)
      · rw [if_neg t] at hs
        cases hs
    · rw [if_neg c4] at hs
      by_cases c8 : a = 8
      · rw [if_pos c8] at hs
        by_cases t : impl_fit.top l = 6
        · rw [if_pos t] at hs
          obtain rfl := Option.some.inj hs
          have := top_ne (l := l) (by omega)
          exact hadd _ htake (by rw [List.length_take]; omega) (by omega)
        · rw [if_neg t] at hs
          cases hs
      · rw [if_neg c8] at hs
        repeat' split at hs
        all_goals first | (cases hs; done) | (obtain rfl := Option.some.inj hs; first | exact htake | exact h)
theorem fit_step (l : List Int) (a : Int) (h : InvO l) : Ans (impl_fit.f l a) (stepW l a) := by
  have ht := top_inv h
  have hl := h.1
  unfold impl_fit.f stepW impl_fit.cut
  rw [if_pos (by omega)]
  by_cases c1 : a = 3 ∨ a = 6 ∨ a = 10
  · rw [if_pos c1, if_pos c1]
    exact Ans.ite (by rw [decide_eq_decide]; omega)
  · rw [if_neg c1, if_neg c1]
    by_cases c4 : a = 4
    · rw [if_pos (by omega), if_pos c4]
      by_cases t : impl_fit.top l = 3
      · have := top_ne (l := l) (by omega)
        rw [if_neg (by omega), if_pos (by omega), if_pos t]
        exact Ans.ok
      · rw [if_pos (by omega), if_neg t]
        exact Ans.no
    · rw [if_neg c4]
      by_cases c8 : a = 8
      · rw [if_pos (by omega), if_pos c8]
        by_cases t : impl_fit.top l = 6
        · have := top_ne (l := l) (by omega)
          rw [if_neg (by omega), if_pos (by omega), if_pos t]
          exact Ans.ok
        · rw [if_pos (by omega), if_neg t]
          exact Ans.no
      · rw [if_neg (by omega), if_neg c8]
        by_cases c5 : a = 5
        · rw [if_pos c5, if_pos c5]
          by_cases t : impl_fit.top l = 3 ∨ impl_fit.top l = 4
          · have := top_ne (l := l) (by omega)
            rw [if_neg (by omega), if_pos (by omega), if_pos t]
            exact Ans.ok
          · rw [if_pos (by omega), if_neg t]
            exact Ans.no
        · rw [if_neg c5, if_neg c5]
          by_cases c7 : a = 7
          · rw [if_pos c7, if_pos c7]
            by_cases t : impl_fit.top l = 6
            · have := top_ne (l := l) (by omega)
              rw [if_neg (by omega), if_pos (by omega), if_pos t]
              exact Ans.ok
            · rw [if_pos (by omega), if_neg t]
              exact Ans.no
          · rw [if_neg c7, if_neg c7]
            by_cases c9 : a = 9
            · rw [if_pos c9, if_pos c9]
              by_cases t : impl_fit.top l = 8
              · have := top_ne (l := l) (by omega)
                rw [if_neg (by omega), if_pos (by omega), if_pos t]
                exact Ans.ok
              · rw [if_pos (by omega), if_neg t]
                exact Ans.no
            · rw [if_neg c9, if_neg c9]
              by_cases c11 : a = 11 ∨ a = 12
              · rw [if_pos c11, if_pos c11]
                by_cases t : impl_fit.top l = 10
                · have := top_ne (l := l) (by omega)
                  rw [if_neg (by omega), if_pos (by omega), if_pos t]
                  exact Ans.ok
                · rw [if_pos (by omega), if_neg t]
                  exact Ans.no
              · rw [if_neg c11, if_neg c11]
                exact Ans.ok
theorem mx_len (l : List Int) (hl : l.length ≤ 1048576) : mx (wrap64 ((l.length : Int) - 1)) 0 = ((l.length - 1 : Nat) : Int) := by
  rw [w64 (by omega)]
  unfold mx
  split <;> omega
theorem spec_step (l : List Int) (a : Int) (hl : l.length ≤ 1048576) (k : Nat) (hk : 3 ≤ k) : Ans (spec_l07Step.f k l a) (stepW l a) := by
  obtain ⟨k, rfl⟩ : ∃ m, k = m + 1 + 1 := ⟨k - 2, by omega⟩
  have e0 : spec_l07Step.f (k + 1 + 1) l a = spec_l07Step.j0 (k + 1 + 1) l a (l.length : Int) (impl_fit.top l) := by
    unfold spec_l07Step.f impl_fit.top
    by_cases c : 0 < l.length
    · rw [if_pos (by omega), if_pos c, w64 (by omega), if_pos (by omega), if_pos (by omega)]
    · rw [if_neg (by omega), if_neg c]
  have e1 : spec_l07Step.j0 (k + 1 + 1) l a (l.length : Int) (impl_fit.top l) = spec_l07Step.j1 (k + 1) l a (l.length : Int) (impl_fit.top l) a (decide (a = 3 ∨ a = 6 ∨ a = 10)) := by
    simp only [spec_l07Step.j0]
    by_cases c3 : a = 3
    · rw [if_pos c3, c3]; rfl
    · rw [if_neg c3]
      by_cases c6 : a = 6
      · rw [if_pos c6, c6]; rfl
      · rw [if_neg c6]
        congr 1
        by_cases c10 : a = 10
        · rw [c10]; rfl
        · rw [beq_eq_false_iff_ne.mpr c10, decide_eq_false (by omega)]
  have hx := mx_len l hl
  have hn : ((l.length - 1 : Nat) : Int).toNat = l.length - 1 := by omega
  have htl : (l.take (l.length - 1)).length = l.length - 1 := by rw [List.length_take]; omega
  rw [e0, e1]
  simp only [spec_l07Step.j1, hx, hn, Option.bind_some, List.nil_append, List.length_nil, Nat.zero_add]
  unfold stepW
  by_cases c1 : a = 3 ∨ a = 6 ∨ a = 10
  · rw [if_pos (decide_eq_true c1), if_pos c1, if_pos (by omega), if_pos (by omega)]
    exact Ans.ite (by rw [decide_eq_decide]; omega)
  · rw [if_neg (by simp [c1]), if_neg c1]
    by_cases c4 : a = 4
    · rw [if_pos c4, if_pos c4, if_pos (by omega), if_pos (by omega), htl, if_pos (by omega), if_pos (by omega)]
      exact Ans.ite (by rw [Bool.eq_iff_iff]; simp)
    · rw [if_neg c4, if_neg c4]
      by_cases c8 : a = 8
      · rw [if_pos c8, if_pos c8, if_pos (by omega), if_pos (by omega), htl, if_pos (by omega), if_pos (by omega)]
        exact Ans.ite (by rw [Bool.eq_iff_iff]; simp)
      · rw [if_neg c8, if_neg c8]
        by_cases c5 : a = 5
        · rw [if_pos c5, if_pos c5, if_pos (by omega), if_pos (by omega)]
          by_cases t : impl_fit.top l = 3
          · rw [if_pos t, if_pos (.inl t)]
            exact Ans.ok
          · rw [if_neg t]
            exact Ans.ite (by rw [Bool.eq_iff_iff]; simp [t])
        · rw [if_neg c5, if_neg c5]
          by_cases c7 : a = 7
          · rw [if_pos c7, if_pos c7, if_pos (by omega), if_pos (by omega)]
            exact Ans.ite (by rw [Bool.eq_iff_iff]; simp)
          · rw [if_neg c7, if_neg c7]
            by_cases c9 : a = 9
            · rw [if_pos c9, if_pos c9, if_pos (by omega), if_pos (by omega)]
              exact Ans.ite (by rw [Bool.eq_iff_iff]; simp)
            · rw [if_neg c9, if_neg c9]
              by_cases c11 : a = 11
              · rw [if_pos c11, if_pos (show a = 11 ∨ a = 12 from .inl c11), if_pos (by omega), if_pos (by omega)]
                exact Ans.ite (by rw [Bool.eq_iff_iff]; simp)
              · rw [if_neg c11]
                by_cases c12 : a = 12
                · rw [if_pos c12, if_pos (show a = 11 ∨ a = 12 from .inr c12), if_pos (by omega), if_pos (by omega)]
                  exact Ans.ite (by rw [Bool.eq_iff_iff]; simp)
                · rw [if_neg c12, if_neg (by omega)]
                  exact Ans.ok
/-- d items from i on: the structures open behind them; or the first one that does not fit. -/
def walkW (l : List S54) : Nat → Nat → List Int → List Int × Int
  | 0, _, o => (o, -1)
  | d + 1, i, o => match stepW o (l.getD i z54).f0 with
    | some q => walkW l d (i + 1) q
    | none => ([], (i : Int))
theorem walkW_bd (l : List S54) : ∀ d i o, (walkW l d i o).2 = -1 ∨ (0 ≤ (walkW l d i o).2 ∧ (walkW l d i o).2 < (i : Int) + d)
  | 0, _, _ => .inl rfl
  | d + 1, i, o => by
    unfold walkW
    cases h : stepW o (l.getD i z54).f0 with
    | none => right; simp only; omega
    | some q =>
      simp only
      rcases walkW_bd l d (i + 1) q with h1 | h1
      · exact .inl h1
      · right; omega
theorem walkW_inv (l : List S54) : ∀ d i o, InvO o → InvO (walkW l d i o).1
  | 0, _, _, h => h
  | d + 1, i, o, h => by
    unfold walkW
    cases hs : stepW o (l.getD i z54).f0 with
    | none => exact ⟨by simp, by simp⟩
    | some q => exact walkW_inv l d (i + 1) q (inv_step h hs)
theorem openAt_l0 (l : List S54) (hl : l.length ≤ 1048576) : ∀ d k (i : Nat) (o : List Int), i + d = l.length → d < k → InvO o → impl_openAt.l0 k o l (l.length : Int) (i : Int) = some (walkW l d i o)
  | 0, k, i, o, h, hk, _ => by
    obtain ⟨k, rfl⟩ : ∃ m, k = m + 1 := ⟨k - 1, by omega⟩
    simp only [impl_openAt.l0]
    rw [if_neg (by omega)]
    rfl
  | d + 1, k, i, o, h, hk, ho => by
    obtain ⟨k, rfl⟩ : ∃ m, k = m + 1 := ⟨k - 1, by omega⟩
    simp only [impl_openAt.l0]
    obtain ⟨l', e, hq⟩ := fit_step o (l.getD i z54).f0 ho
    rw [if_pos (by omega), if_pos (by omega), if_pos (by omega), rd54_nat, e, Option.bind_some]
    unfold walkW
    cases hs : stepW o (l.getD i z54).f0 with
    | none => rfl
    | some q =>
      simp only [Option.isSome_some, if_true]
      rw [hq q hs, w64 (by omega), show (i : Int) + 1 = ((i + 1 : Nat) : Int) by omega]
      exact openAt_l0 l hl d k (i + 1) q (by omega) (by omega) (inv_step ho hs)
theorem inv_nil : InvO [] := ⟨by simp, by simp⟩
theorem openAt_eq (l : List S54) (hl : l.length ≤ 1048576) (k : Nat) (hk : l.length < k) : impl_openAt.f k l = some (walkW l l.length 0 []) := by
  unfold impl_openAt.f
  exact openAt_l0 l hl l.length k 0 [] (by omega) hk inv_nil
theorem itemsCode_len {l : List S54} (h : itemsCode l = 0) : l.length ≤ 60 := by
  unfold itemsCode at h
  by_cases c : l.length > 60
  · rw [if_pos c] at h
    split at h <;> omega
  · omega
theorem rd_nat (l : List Int) (i : Nat) : rd l (i : Int) = l.getD i 0 := by simp [rd]
/-- Lists that agree at each place. -/
theorem list_eq_iff (a b : List Int) (h : a.length = b.length) : decide (a = b) = allF (fun j => decide (a.getD j 0 = b.getD j 0)) a.length 0 := by
  rw [Bool.eq_iff_iff, decide_eq_true_eq]
  constructor
  · rintro rfl
    exact allF_true _ _ (fun j _ _ => by simp)
  · intro ha
    have key : ∀ d i, i + d = a.length → allF (fun j => decide (a.getD j 0 = b.getD j 0)) d i = true → ∀ j, i ≤ j → j < a.length → a.getD j 0 = b.getD j 0 := by
      intro d
      induction d with
      | zero => intro i hi _ j h1 h2; omega
      | succ d ih =>
        intro i hi hh j h1 h2
        simp only [allF, Bool.and_eq_true, decide_eq_true_eq] at hh
        rcases Nat.eq_or_lt_of_le h1 with rfl | h3
        · exact hh.1
        · exact ih (i + 1) (by omega) hh.2 j (by omega) h2
    apply List.ext_getElem h
    intro i h1 h2
    have := key a.length 0 (by omega) ha i (by omega) h1
    simpa [List.getD_eq_getElem?_getD, List.getElem?_eq_getElem h1, List.getElem?_eq_getElem h2] using this
theorem laws_eqIntS_eq (a b : List Int) (ha : a.length ≤ 1048576) (k : Nat) (hk : a.length < k) : laws_eqIntS.f k a b = some (decide (a = b)) := by
  unfold laws_eqIntS.f
  by_cases h : (a.length : Int) = (b.length : Int)
  · have h' : a.length = b.length := by omega
    rw [if_pos h, list_eq_iff a b h']
    have hl := loop_all0 (fun k i => laws_eqIntS.l0 k a b i) a.length (fun j => decide (a.getD j 0 = b.getD j 0)) true (fun k i hi => by
      simp only [laws_eqIntS.l0]
      rw [if_pos (by omega), if_pos (by omega), if_pos (by omega), rd_nat, rd_nat, w64 (by omega)]
      by_cases h3 : a.getD i 0 = b.getD i 0 <;> simp [h3]) (fun k => by
      simp only [laws_eqIntS.l0]
      rw [if_neg (by omega)]) k hk
    rw [hl, Bool.and_true]
  · rw [if_neg h]
    have h2 : ¬ a = b := by rintro rfl; exact h rfl
    simp [h2]
/-- m, m + 1, .. : what marking leaves. -/
def marks (m : Int) (n : Nat) : List Int := (List.range n).map fun (j : Nat) => m + (j : Int)
theorem marks_length (m : Int) (n : Nat) : (marks m n).length = n := by simp [marks]
theorem marks_get (m : Int) (n i : Nat) (h : i < n) : (marks m n).getD i 0 = m + (i : Int) := by
  simp [marks, List.getD_eq_getElem?_getD, h]
theorem marks_snoc (m : Int) (n : Nat) : marks m (n + 1) = marks m n ++ [m + (n : Int)] := by simp [marks, List.range_succ]
theorem laws_markIntS_eq (l : List Int) (hl : l.length ≤ 1048576) (m : Int) (h0 : 0 ≤ m) (h1 : m ≤ 1099511627776) (k : Nat) (hk : l.length < k) : laws_markIntS.f k l m = some (m + (l.length : Int), marks m l.length) := by
  unfold laws_markIntS.f
  have key : ∀ d k (i : Nat), i + d = l.length → d < k → laws_markIntS.l0 k (marks m i ++ l.drop i) (m + (i : Int)) (i : Int) = some (m + (l.length : Int), marks m l.length) := by
    intro d
    induction d with
    | zero =>
      intro k i h hk
      obtain ⟨k, rfl⟩ : ∃ m, k = m + 1 := ⟨k - 1, by omega⟩
      simp only [laws_markIntS.l0]
      rw [if_neg (by simp [marks_length]; omega)]
      obtain rfl : i = l.length := by omega
      simp
    | succ d ih =>
      intro k i h hk
      obtain ⟨k, rfl⟩ : ∃ m, k = m + 1 := ⟨k - 1, by omega⟩
      simp only [laws_markIntS.l0]
      rw [if_pos (by simp [marks_length]; omega), if_pos (by omega), Int.toNat_natCast]
      have e : (marks m i ++ l.drop i).set i (m + (i : Int)) = marks m (i + 1) ++ l.drop (i + 1) := by
        rw [List.set_append, if_neg (by rw [marks_length]; omega), marks_length, Nat.sub_self, List.drop_eq_getElem_cons (by omega : i < l.length), List.set_cons_zero, marks_snoc, List.append_assoc]
        rfl
      rw [e, w64 (by omega), w64 (by omega), show m + (i : Int) + 1 = m + ((i + 1 : Nat) : Int) by omega, show (i : Int) + 1 = ((i + 1 : Nat) : Int) by omega]
      exact ih k (i + 1) (by omega) (by omega)
  have h := key l.length k 0 (by omega) hk
  simpa [marks] using h
theorem laws_heldIntS_eq (n : Nat) (hn : n ≤ 1048576) (m : Int) (h0 : 0 ≤ m) (h1 : m ≤ 1099511627776) (k : Nat) (hk : n < k) : laws_heldIntS.f k (marks m n) m = some (m + (n : Int)) := by
  unfold laws_heldIntS.f
  have key : ∀ d k (i : Nat), i + d = n → d < k → laws_heldIntS.l0 k (marks m n) (m + (i : Int)) (i : Int) = some (m + (n : Int)) := by
    intro d
    induction d with
    | zero =>
      intro k i h hk
      obtain ⟨k, rfl⟩ : ∃ m, k = m + 1 := ⟨k - 1, by omega⟩
      simp only [laws_heldIntS.l0]
      rw [if_neg (by rw [marks_length]; omega)]
      obtain rfl : i = n := by omega
      rfl
    | succ d ih =>
      intro k i h hk
      obtain ⟨k, rfl⟩ : ∃ m, k = m + 1 := ⟨k - 1, by omega⟩
      simp only [laws_heldIntS.l0]
      rw [if_pos (by rw [marks_length]; omega), if_pos (by omega), rd_nat, marks_get m n i (by omega), if_pos rfl, w64 (by omega), w64 (by omega), show m + (i : Int) + 1 = m + ((i + 1 : Nat) : Int) by omega, show (i : Int) + 1 = ((i + 1 : Nat) : Int) by omega]
      exact ih k (i + 1) (by omega) (by omega)
  have h := key n k 0 (by omega) hk
  simpa using h
def openA (l : List S54) (a : Int) : List Int × Int :=
  if itemsCode l = 0 then (if inR a 0 (l.length : Int) = true then (if (walkW l a.toNat 0 []).2 = -1 then ((walkW l a.toNat 0 []).1, 0) else ([], 12)) else ([], 4)) else ([], itemsCode l)
theorem walkW_take (l : List S54) (n : Nat) : ∀ d i o, i + d ≤ n → walkW (l.take n) d i o = walkW l d i o
  | 0, _, _, _ => rfl
  | d + 1, i, o, h => by
    have e : (l.take n).getD i z54 = l.getD i z54 := by
      rw [List.getD_eq_getElem?_getD, List.getD_eq_getElem?_getD, List.getElem?_take_of_lt (by omega)]
    unfold walkW
    rw [e]
    cases hs : stepW o (l.getD i z54).f0 with
    | none => rfl
    | some q => exact walkW_take l n d (i + 1) q (by omega)
theorem spec_open_l0 (l : List S54) (hl : l.length ≤ 60) (a : Nat) (ha : a ≤ l.length) : ∀ d k (i : Nat) (o : List Int), i + d = a → d + 3 < k → InvO o →
    spec_OpenAt.l0 k l (a : Int) o (i : Int) = some (if (walkW l d i o).2 = -1 then ((walkW l d i o).1, 0) else ([], 12))
  | 0, k, i, o, h, hk, ho => by
    obtain ⟨k, rfl⟩ : ∃ m, k = m + 1 := ⟨k - 1, by omega⟩
    have hol := ho.1
    simp only [spec_OpenAt.l0]
    rw [if_neg (by omega)]
    simp only [Option.bind_some, List.nil_append, List.length_nil]
    rw [if_pos (by omega)]
    rfl
  | d + 1, k, i, o, h, hk, ho => by
    obtain ⟨k, rfl⟩ : ∃ m, k = m + 1 := ⟨k - 1, by omega⟩
    simp only [spec_OpenAt.l0]
    have hol := ho.1
    obtain ⟨l', e, hq⟩ := spec_step o (l.getD i z54).f0 (by omega) k (by omega)
    rw [if_pos (by omega), if_pos (by omega), if_pos (by omega), rd54_nat, e, Option.bind_some]
    unfold walkW
    cases hs : stepW o (l.getD i z54).f0 with
    | none =>
      simp only [Option.isSome_none]
      rw [if_neg (by decide), if_neg (by omega)]
    | some q =>
      simp only [Option.isSome_some, if_true]
      rw [hq q hs, w64 (by omega), show (i : Int) + 1 = ((i + 1 : Nat) : Int) by omega]
      exact spec_open_l0 l hl a ha d k (i + 1) q (by omega) (by omega) (inv_step ho hs)
theorem spec_OpenAt_eq (l : List S54) (a : Int) (hl : l.length ≤ 1048576) (k : Nat) (hk : 5000 < k) : spec_OpenAt.f k l a = some (openA l a) := by
  unfold spec_OpenAt.f openA
  rw [spec_l07Ask_eq l hl k (by omega), Option.bind_some]
  by_cases c : (l.length : Int) > 4096
  · have e : itemsCode l = 2 := by unfold itemsCode; rw [if_pos (by omega)]
    rw [if_pos c, e, if_neg (by decide)]
  · rw [if_neg c]
    by_cases c0 : itemsCode l = 0
    · have h60 := itemsCode_len c0
      rw [if_pos c0, if_pos c0, spec_l01In_eq, Option.bind_some]
      by_cases c1 : inR a 0 (l.length : Int) = true
      · have hr := inR_iff.mp c1
        have e := spec_open_l0 l h60 a.toNat (by omega) a.toNat k 0 [] (by omega) (by omega) inv_nil
        rw [show ((a.toNat : Nat) : Int) = a by omega] at e
        rw [if_pos c1, if_pos c1]
        exact e
      · rw [if_neg c1, if_neg c1]
    · rw [if_neg c0, if_neg c0]
theorem impl_OpenAt_eq (l : List S54) (a : Int) (hl : l.length ≤ 1048576) (k : Nat) (hk : 1048576 < k) : impl_OpenAt.f k l a = some (openA l a) := by
  unfold impl_OpenAt.f openA
  rw [impl_itemsCode_eq l hl k hk, Option.bind_some]
  by_cases c0 : itemsCode l = 0
  · rw [if_pos c0, if_pos c0, impl_in_eq, Option.bind_some]
    by_cases c1 : inR a 0 (l.length : Int) = true
    · have hr := inR_iff.mp c1
      have hlt : (l.take a.toNat).length = a.toNat := by rw [List.length_take]; omega
      rw [if_pos c1, if_pos c1, if_pos (by omega), if_pos (by omega), openAt_eq (l.take a.toNat) (by omega) k (by omega), hlt, walkW_take l a.toNat a.toNat 0 [] (by omega), Option.bind_some]
      have hb := walkW_bd l a.toNat 0 []
      generalize walkW l a.toNat 0 [] = q at hb
      obtain ⟨q1, q2⟩ := q
      simp only at hb ⊢
      by_cases c2 : q2 = -1
      · rw [if_neg (by omega), if_pos c2]
      · rw [if_pos (by omega), if_neg c2]
    · rw [if_neg c1, if_neg c1]
  · rw [if_neg c0, if_neg c0]
theorem openA_len (l : List S54) (a : Int) : (openA l a).1.length ≤ 8 := by
  unfold openA
  have h := (walkW_inv l a.toNat 0 [] inv_nil).1
  repeat' split
  all_goals first | exact h | simp
/-- What marking the items leaves. -/
def markI (m : Int) (j : Nat) : S54 := ⟨m + 2 * (j : Int), m + 2 * (j : Int) + 1⟩
theorem set_getI (l : List S54) (i : Nat) (v : S54) (h : i < l.length) : (l.set i v).getD i z54 = v := by
  rw [List.getD_eq_getElem?_getD, List.getElem?_set_self h]
  rfl
theorem laws_markItemS_eq (l : List S54) (hl : l.length ≤ 1048576) (m : Int) (h0 : 0 ≤ m) (h1 : m ≤ 1000000000) (k : Nat) (hk : l.length < k) : ∃ y, laws_markItemS.f k l m = some (m + 2 * (l.length : Int), y) := by
  have go : ∀ d k (i : Nat) (x : List S54), i + d = l.length → x.length = l.length → d < k → ∃ y, laws_markItemS.l0 k x (m + 2 * (i : Int)) (i : Int) = some (m + 2 * (l.length : Int), y) := by
    intro d
    induction d with
    | zero =>
      intro k i x h hx hk
      obtain ⟨k, rfl⟩ : ∃ q, k = q + 1 := ⟨k - 1, by omega⟩
      simp only [laws_markItemS.l0]
      rw [if_neg (by omega), show i = l.length by omega]
      exact ⟨_, rfl⟩
    | succ d ih =>
      intro k i x h hx hk
      obtain ⟨k, rfl⟩ : ∃ q, k = q + 1 := ⟨k - 1, by omega⟩
      simp only [laws_markItemS.l0]
      rw [if_pos (by omega), if_pos (by omega)]
      simp only [Option.bind_some]
      rw [w64 (n := m + 2 * (i : Int) + 1) (by omega), w64 (n := m + 2 * (i : Int) + 1 + 1) (by omega), w64 (n := (i : Int) + 1) (by omega), show m + 2 * (i : Int) + 1 + 1 = m + 2 * ((i + 1 : Nat) : Int) by omega, show (i : Int) + 1 = ((i + 1 : Nat) : Int) by omega]
      exact ih k (i + 1) _ (by omega) (by simp [hx]) (by omega)
  have := go l.length k 0 l (by omega) rfl hk
  simpa [laws_markItemS.f] using this
theorem FnExactOpenAt : laws_FnExactOpenAt.Pure := by
  intro l a hl _
  refine ⟨1100000, ?_⟩
  unfold laws_FnExactOpenAt.f
  rw [laws_szItemS_eq l 1048576 (by omega) (by omega) hl.1, Option.bind_some]
  by_cases c : (1048576 : Int) - (l.length : Int) < 0
  · rw [if_pos c, if_pos (by omega)]
  · have hm : (l.map toI).length ≤ 1048576 := by simp; omega
    rw [if_neg c, if_neg (by omega), laws_toItemS_eq l (by omega) _ (by omega)]
    simp only [Option.bind_some]
    generalize l.map toI = m at hm
    rw [spec_OpenAt_eq m a hm _ (by omega), impl_OpenAt_eq m a hm _ (by omega)]
    have hq := openA_len m a
    generalize openA m a = q at hq
    obtain ⟨q1, q2⟩ := q
    simp only at hq
    simp only [Option.bind_some]
    obtain ⟨y, hy⟩ := laws_markItemS_eq m hm 1 (by omega) (by omega) 1100000 (by omega)
    rw [laws_eqIntS_eq q1 q1 (by omega) _ (by omega), laws_eqItemS_refl m hm _ (by omega), hy]
    simp only [Option.bind_some, if_true, decide_true]
    rw [if_neg (by omega), laws_markIntS_eq q1 (by omega) 1 (by omega) (by omega) _ (by omega)]
    simp only [Option.bind_some, if_true]
    rw [laws_heldIntS_eq q1.length (by omega) 1 (by omega) (by omega) _ (by omega)]
    simp only [Option.bind_some, if_true]
    rw [if_neg (by omega), if_neg (by omega)]
end Go.Proofs.Ytopmbnnimpmgoaa.Pure
