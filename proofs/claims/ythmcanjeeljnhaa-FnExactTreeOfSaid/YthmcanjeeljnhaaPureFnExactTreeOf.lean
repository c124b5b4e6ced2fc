/- The law FnExactTreeOf answers true for every row of items: both grow the same tree, and no two of its rows share memory. No condition. -/
import Derived.Test.YthmcanjeeljnhaaPTreex10
namespace Go.Proofs.Ythmcanjeeljnhaa.Pure
open Go.RowKit Go.Proofs.Ythmcanjeeljnhaa.PTree Go.Proofs.YthmcanjeeljnhaaW.PrintWords Go.Proofs.YthmcanjeeljnhaaW.PrintLast
set_option linter.unusedSimpArgs false
set_option linter.unusedVariables false

theorem bd64 {n : Int} (h : (Lit.int .i64 n).wf = true) : -9223372036854775808 ≤ n ∧ n ≤ 9223372036854775807 := by
  simp [Lit.wf, IntKind.min, IntKind.max, IntKind.signed, IntKind.bits] at h
  omega
/-- n lies from lo to hi. -/
def inR (n lo hi : Int) : Bool := decide (lo ≤ n ∧ n ≤ hi)
/-- A cell: 32 bits with a sign. -/
def isCell (n : Int) : Bool := decide (-2147483648 ≤ n ∧ n ≤ 2147483647)
theorem isCell_iff {n : Int} : isCell n = true ↔ (-2147483648 ≤ n ∧ n ≤ 2147483647) := by simp [isCell]
theorem inR_iff {n lo hi : Int} : inR n lo hi = true ↔ (lo ≤ n ∧ n ≤ hi) := by simp [inR]
theorem w64 {n : Int} (h : -9223372036854775808 ≤ n ∧ n ≤ 9223372036854775807) : wrap64 n = n := by unfold wrap64; omega
theorem w64_cell (n : Int) : wrap64 (wrap32 n) = wrap32 n := by unfold wrap64 wrap32; omega
theorem w32_cell {n : Int} (h : isCell n = true) : wrap32 n = n := by rw [isCell_iff] at h; unfold wrap32; omega
theorem cell_w32 (n : Int) : isCell (wrap32 n) = true := by rw [isCell_iff]; unfold wrap32; omega
theorem w32_eq (n : Int) : (wrap32 n == n) = isCell n := by
  rw [Bool.eq_iff_iff, isCell_iff]
  simp only [beq_iff_eq]
  unfold wrap32
  omega
/-- All of d numbers from i on. -/
def allF (P : Nat → Bool) : Nat → Nat → Bool
  | 0, _ => true
  | d + 1, i => P i && allF P d (i + 1)
theorem allF_congr {P Q : Nat → Bool} : ∀ d i, (∀ j, i ≤ j → j < i + d → P j = Q j) → allF P d i = allF Q d i
  | 0, _, _ => rfl
  | d + 1, i, h => by
    simp only [allF]
    rw [h i (Nat.le_refl _) (by omega), allF_congr d (i + 1) (fun j h1 h2 => h j (by omega) (by omega))]
theorem allF_true {P : Nat → Bool} : ∀ d i, (∀ j, i ≤ j → j < i + d → P j = true) → allF P d i = true
  | 0, _, _ => rfl
  | d + 1, i, h => by
    simp only [allF]
    rw [h i (Nat.le_refl _) (by omega), allF_true d (i + 1) (fun j h1 h2 => h j (by omega) (by omega))]
    rfl
theorem allF_all {α : Type} (p : α → Bool) (z : α) (l : List α) : ∀ d i, i + d = l.length → allF (fun j => p (l.getD j z)) d i = (l.drop i).all p
  | 0, i, h => by simp [allF, List.drop_of_length_le (show l.length ≤ i by omega)]
  | d + 1, i, h => by
    simp only [allF]
    rw [allF_all p z l d (i + 1) (by omega), List.drop_eq_getElem_cons (by omega : i < l.length), List.all_cons]
    simp [List.getD_eq_getElem?_getD, List.getElem?_eq_getElem (by omega : i < l.length)]
/-- A loop that leaves with false at the first number of which P does not hold. -/
theorem loop_all (F : Nat → Int → Option Bool) (n : Nat) (P : Nat → Bool) (fin : Bool)
    (hs : ∀ k (i : Nat), i < n → F (k + 1) i = if P i = true then F k ((i : Int) + 1) else some false) (he : ∀ k, F (k + 1) (n : Int) = some fin) :
    ∀ d k (i : Nat), i + d = n → d < k → F k i = some (allF P d i && fin)
  | 0, k, i, h, hk => by
    obtain ⟨k, rfl⟩ : ∃ m, k = m + 1 := ⟨k - 1, by omega⟩
    obtain rfl : i = n := by omega
    rw [he]
    simp [allF]
  | d + 1, k, i, h, hk => by
    obtain ⟨k, rfl⟩ : ∃ m, k = m + 1 := ⟨k - 1, by omega⟩
    rw [hs k i (by omega)]
    have ih := loop_all F n P fin hs he d k (i + 1) (by omega) (by omega)
    rw [show ((i + 1 : Nat) : Int) = (i : Int) + 1 by omega] at ih
    rw [ih]
    cases hp : P i <;> simp [allF, hp]
theorem loop_all0 (F : Nat → Int → Option Bool) (n : Nat) (P : Nat → Bool) (fin : Bool)
    (hs : ∀ k (i : Nat), i < n → F (k + 1) i = if P i = true then F k ((i : Int) + 1) else some false) (he : ∀ k, F (k + 1) (n : Int) = some fin) (k : Nat) (hk : n < k) : F k 0 = some (allF P n 0 && fin) :=
  loop_all F n P fin hs he n k 0 (by omega) hk
theorem spec_l01In_eq (a b c : Int) : spec_l01In.f a b c = some (inR a b c) := by
  unfold spec_l01In.f
  by_cases h1 : a ≥ b
  · have h2 : b ≤ a := h1
    by_cases h3 : a ≤ c <;> simp [h1, inR, h2, h3]
  · have h2 : ¬ b ≤ a := h1
    simp [inR, h2]
theorem impl_in_eq (a b c : Int) : impl_in.f a b c = some (inR a b c) := by
  unfold impl_in.f
  by_cases h1 : b ≤ a
  · by_cases h3 : a ≤ c <;> simp [inR, h1, h3]
  · simp [inR, h1]
theorem spec_l01Cell_eq (a : Int) : spec_l01Cell.f a = some (isCell a) := by
  unfold spec_l01Cell.f
  rw [spec_l01In_eq]
  rfl
theorem impl_WrapCell_eq (a : Int) : impl_WrapCell.f a = some (wrap32 a) := by
  unfold impl_WrapCell.f
  rw [w64_cell]
theorem impl_CellOK_eq (a : Int) : impl_CellOK.f a = some (isCell a) := by
  unfold impl_CellOK.f
  rw [impl_WrapCell_eq, Option.bind_some, w32_eq]
theorem set_take_map {α β : Type} (g : α → β) (z : β) (za : α) (l : List α) (i : Nat) (hi : i < l.length) : ((l.take i).map g ++ List.replicate (l.length - i) z).set i (g (l.getD i za)) = (l.take (i + 1)).map g ++ List.replicate (l.length - (i + 1)) z := by
  have hr : List.replicate (l.length - i) z = z :: List.replicate (l.length - (i + 1)) z := by
    rw [show l.length - i = (l.length - (i + 1)) + 1 by omega, List.replicate_succ]
  have hg : l.getD i za = l[i] := by simp [List.getD_eq_getElem?_getD, List.getElem?_eq_getElem hi]
  rw [hr, List.set_append, if_neg (by rw [List.length_map, List.length_take]; omega), hg, List.length_map, List.length_take, Nat.min_eq_left (Nat.le_of_lt hi), Nat.sub_self, List.set_cons_zero, List.take_succ_eq_append_getElem hi, List.map_append, List.append_assoc]
  rfl
/-- A loop that copies a list, number by number. -/
theorem loop_copy {α β : Type} (F : Nat → List β → Int → Option (List β)) (l : List α) (g : α → β) (z : β) (za : α)
    (hs : ∀ k (x : List β) (i : Nat), i < l.length → x.length = l.length → F (k + 1) x i = F k (x.set i (g (l.getD i za))) ((i : Int) + 1))
    (he : ∀ k x, F (k + 1) x (l.length : Int) = some x) (k : Nat) (hk : l.length < k) : F k (List.replicate l.length z) 0 = some (l.map g) := by
  have key : ∀ d k (i : Nat), i + d = l.length → d < k → F k ((l.take i).map g ++ List.replicate (l.length - i) z) (i : Int) = some (l.map g) := by
    intro d
    induction d with
    | zero =>
      intro k i h hk
      obtain ⟨k, rfl⟩ : ∃ m, k = m + 1 := ⟨k - 1, by omega⟩
      obtain rfl : i = l.length := by omega
      rw [he, List.take_length, Nat.sub_self]
      simp
    | succ d ih =>
      intro k i h hk
      obtain ⟨k, rfl⟩ : ∃ m, k = m + 1 := ⟨k - 1, by omega⟩
      rw [hs k _ i (by omega) (by simp; omega), set_take_map g z za l i (by omega), show (i : Int) + 1 = ((i + 1 : Nat) : Int) by omega]
      exact ih k (i + 1) (by omega) (by omega)
  have h := key l.length k 0 (by omega) hk
  simpa using h
theorem rd44_nat (l : List S44) (i : Nat) : rd_T44 l (i : Int) = l.getD i z44 := by simp [rd_T44]
theorem rd46_nat (l : List S46) (i : Nat) : rd_T46 l (i : Int) = l.getD i z46 := by simp [rd_T46]
/-- The item of an item as the law holds it. -/
def toI (x : S46) : S44 := ⟨x.f0, x.f1⟩
theorem laws_toItemS_eq (l : List S46) (hl : l.length ≤ 1048576) (k : Nat) (hk : l.length < k) : laws_toItemS.f k l = some (l.map toI) := by
  unfold laws_toItemS.f
  rw [if_pos (by omega), if_pos (by simp; omega)]
  have h := loop_copy (fun k x i => laws_toItemS.l0 k l x i) l toI z44 z46 (fun k x i hi hx => by
    simp only [laws_toItemS.l0, laws_toItem.f, Option.bind_some]
    rw [if_pos (by omega), if_pos (by omega), if_pos (by omega), rd46_nat, Int.toNat_natCast, w64 (by omega)]
    rfl) (fun k x => by
    simp only [laws_toItemS.l0]
    rw [if_neg (by omega)]) k hk
  simpa using h
theorem laws_eqItemS_refl (a : List S44) (ha : a.length ≤ 1048576) (k : Nat) (hk : a.length < k) : laws_eqItemS.f k a a = some true := by
  unfold laws_eqItemS.f
  rw [if_pos rfl]
  have hl := loop_all0 (fun k i => laws_eqItemS.l0 k a a i) a.length (fun _ => true) true (fun k i hi => by
    simp only [laws_eqItemS.l0]
    rw [if_pos (by omega), if_pos (by omega), if_pos (by omega), w64 (by omega)]
    unfold laws_eqItem.f
    simp) (fun k => by
    simp only [laws_eqItemS.l0]
    rw [if_neg (by omega)]) k hk
  rw [hl, allF_true _ _ (fun _ _ _ => rfl)]
  rfl
theorem laws_szItemS_eq (l : List S46) (a : Int) (h0 : 0 ≤ a) (h1 : a ≤ 1048576) (hl : l.length ≤ 9223372036854775807) : laws_szItemS.f l a = some (if a - (l.length : Int) < 0 then -1 else a - (l.length : Int)) := by
  unfold laws_szItemS.f
  rw [w64 (by omega)]
  split <;> rfl
/-- A valid item. -/
def itemOK (x : S44) : Bool := if x.f0 = 1 then inR x.f1 1 103 else if x.f0 = 2 then isCell x.f1 else inR x.f0 3 13 && (x.f1 == 0)
theorem spec_ItemOK_eq (a b : Int) : spec_ItemOK.f a b = some (itemOK ⟨a, b⟩) := by
  unfold spec_ItemOK.f itemOK
  rw [spec_l01In_eq, spec_l01Cell_eq, spec_l01In_eq]
  by_cases h1 : a = 1
  · simp [h1]
  · by_cases h2 : a = 2
    · simp [h2]
    · cases h3 : inR a 3 13 <;> simp [h1, h2, h3]
theorem impl_ItemOK_eq (a b : Int) : impl_ItemOK.f a b = some (itemOK ⟨a, b⟩) := by
  unfold impl_ItemOK.f itemOK
  rw [impl_in_eq, impl_CellOK_eq, impl_in_eq]
  by_cases h1 : a = 1
  · simp [h1]
  · by_cases h2 : a = 2
    · simp [h2]
    · cases h3 : inR a 3 13 <;> simp [h1, h2, h3]
theorem idx_items (l : List S44) (hl : l.length ≤ 1048576) : ∀ d k (i : Nat), i + d = l.length → d < k →
    ∃ r, slices_IndexFunc_Item_at_impl_itemsCode_1.l0 k l (l.length : Int) (i : Int) = some r ∧ (!decide (r ≥ 0)) = allF (fun j => itemOK (l.getD j z44)) d i
  | 0, k, i, h, hk => by
    obtain ⟨k, rfl⟩ : ∃ m, k = m + 1 := ⟨k - 1, by omega⟩
    refine ⟨-1, ?_, by simp [allF]⟩
    simp only [slices_IndexFunc_Item_at_impl_itemsCode_1.l0]
    rw [if_neg (by omega)]
  | d + 1, k, i, h, hk => by
    obtain ⟨k, rfl⟩ : ∃ m, k = m + 1 := ⟨k - 1, by omega⟩
    obtain ⟨r, hr, hq⟩ := idx_items l hl d k (i + 1) (by omega) (by omega)
    simp only [slices_IndexFunc_Item_at_impl_itemsCode_1.l0]
    rw [if_pos (by omega), if_pos (by omega), if_pos (by omega), rd44_nat, w64 (by omega), show (i : Int) + 1 = ((i + 1 : Nat) : Int) by omega, hr]
    unfold impl_itemsCode_1.f
    rw [impl_ItemOK_eq]
    simp only [Option.bind_some, allF]
    cases hp : itemOK (l.getD i z44)
    · refine ⟨(i : Int), by simp, ?_⟩
      simp
    · refine ⟨r, by simp, ?_⟩
      rw [hq]
      simp
theorem contains_items (l : List S44) (hl : l.length ≤ 1048576) (k : Nat) (hk : l.length < k) : slices_ContainsFunc_Item_at_impl_itemsCode_1.f k l = some (!l.all itemOK) := by
  obtain ⟨r, hr, hq⟩ := idx_items l hl l.length k 0 (by omega) hk
  unfold slices_ContainsFunc_Item_at_impl_itemsCode_1.f slices_IndexFunc_Item_at_impl_itemsCode_1.f
  rw [show (0 : Int) = ((0 : Nat) : Int) from rfl, hr]
  simp only [Option.bind_some]
  rw [allF_all itemOK z44 l l.length 0 (by omega)] at hq
  simp only [List.drop_zero] at hq
  rw [← hq]
  simp
theorem isLong_item (l : List S44) (k : Nat) (hk : 2 < k) : impl_isLong_Item.f k [l] = some (decide ((l.length : Int) > 4096)) := by
  obtain ⟨k, rfl⟩ : ∃ m, k = m + 2 := ⟨k - 2, by omega⟩
  simp only [impl_isLong_Item.f, slices_ContainsFunc_Item_at_impl_isLong_Item_1.f, slices_IndexFunc_Item_at_impl_isLong_Item_1.f, slices_IndexFunc_Item_at_impl_isLong_Item_1.l0, impl_isLong_Item_1.f, rd_L4]
  by_cases h : (l.length : Int) > 4096 <;> simp [h, wrap64]
def ask01 : Bool → Int
  | true => 0
  | false => 1
/-- The code of a row of items. -/
def itemsCode (l : List S44) : Int := if l.length > 4096 then 2 else if l.length > 60 then 6 else ask01 (l.all itemOK)
theorem spec_l07Ask_eq (l : List S44) (hl : l.length ≤ 1048576) (k : Nat) (hk : 4096 < k) : spec_l07Ask.f k l = some (itemsCode l) := by
  unfold spec_l07Ask.f itemsCode
  by_cases h1 : l.length > 4096
  · rw [if_pos (by omega), if_pos h1]
  · rw [if_neg (by omega), if_neg h1]
    by_cases h2 : l.length > 60
    · rw [if_pos (by omega), if_pos h2]
    · rw [if_neg (by omega), if_neg h2, ← List.drop_zero (l := l), ← allF_all itemOK z44 l l.length 0 (by omega), List.drop_zero]
      have key : ∀ d k (i : Nat), i + d = l.length → d < k → spec_l07Ask.l0 k l (i : Int) = some (ask01 (allF (fun j => itemOK (l.getD j z44)) d i)) := by
        intro d
        induction d with
        | zero =>
          intro k i h hk
          obtain ⟨k, rfl⟩ : ∃ m, k = m + 1 := ⟨k - 1, by omega⟩
          simp only [spec_l07Ask.l0]
          rw [if_neg (by omega)]
          rfl
        | succ d ih =>
          intro k i h hk
          obtain ⟨k, rfl⟩ : ∃ m, k = m + 1 := ⟨k - 1, by omega⟩
          simp only [spec_l07Ask.l0]
          rw [if_pos (by omega), if_pos (by omega), rd44_nat, spec_ItemOK_eq, Option.bind_some, w64 (by omega), show (i : Int) + 1 = ((i + 1 : Nat) : Int) by omega, ih k (i + 1) (by omega) (by omega)]
          simp only [allF]
          have e : (⟨(l.getD i z44).f0, (l.getD i z44).f1⟩ : S44) = l.getD i z44 := rfl
          rw [e]
          cases itemOK (l.getD i z44)
          · simp [ask01]
          · simp
      exact key l.length k 0 (by omega) (by omega)
theorem impl_itemsCode_eq (l : List S44) (hl : l.length ≤ 1048576) (k : Nat) (hk : 1048576 < k) : impl_itemsCode.f k l = some (itemsCode l) := by
  unfold impl_itemsCode.f itemsCode
  rw [isLong_item l k (by omega), contains_items l hl k (by omega)]
  simp only [Option.bind_some, decide_eq_true_eq]
  by_cases h1 : l.length > 4096
  · rw [if_pos (by omega), if_pos h1]
  · rw [if_neg (by omega), if_neg h1]
    by_cases h2 : l.length > 60
    · rw [if_pos (by omega), if_pos h2]
    · rw [if_neg (by omega), if_neg h2]
      cases l.all itemOK <;> rfl
/-- The open structures behind an item; none if it does not fit. -/
def stepW (l : List Int) (a : Int) : Option (List Int) :=
  if a = 3 ∨ a = 6 ∨ a = 10 then (if l.length < 8 then some (l ++ [a]) else none)
  else if a = 4 then (if impl_fit.top l = 3 then some (l.take (l.length - 1) ++ [a]) else none)
  else if a = 8 then (if impl_fit.top l = 6 then some (l.take (l.length - 1) ++ [a]) else none)
  else if a = 5 then (if impl_fit.top l = 3 ∨ impl_fit.top l = 4 then some (l.take (l.length - 1)) else none)
  else if a = 7 then (if impl_fit.top l = 6 then some (l.take (l.length - 1)) else none)
  else if a = 9 then (if impl_fit.top l = 8 then some (l.take (l.length - 1)) else none)
  else if a = 11 ∨ a = 12 then (if impl_fit.top l = 10 then some (l.take (l.length - 1)) else none)
  else some l
/-- What a step answers. -/
def Ans (r : Option (List Int × Bool)) (s : Option (List Int)) : Prop := ∃ l', r = some (l', s.isSome) ∧ ∀ q, s = some q → l' = q
theorem Ans.ok {q : List Int} : Ans (some (q, true)) (some q) := ⟨q, rfl, fun _ h => Option.some.inj h⟩
theorem Ans.no {q : List Int} : Ans (some (q, false)) none := ⟨q, rfl, fun _ h => by cases h⟩
theorem Ans.ite {q : List Int} {c : Prop} [Decidable c] {b : Bool} (h : b = decide c) : Ans (some (q, b)) (if c then some q else none) := by
  subst h
  by_cases hc : c
  · rw [if_pos hc, decide_eq_true hc]; exact Ans.ok
  · rw [if_neg hc, decide_eq_false hc]; exact Ans.no
theorem top_ne {l : List Int} (h : impl_fit.top l ≠ 0) : 1 ≤ l.length := by
  unfold impl_fit.top at h
  by_cases c : 0 < l.length
  · exact c
  · rw [if_neg c] at h
    exact absurd rfl h
def InvO (l : List Int) : Prop := l.length ≤ 8 ∧ ∀ x ∈ l, x = 3 ∨ x = 4 ∨ x = 6 ∨ x = 8 ∨ x = 10
theorem top_inv {l : List Int} (h : InvO l) : impl_fit.top l = 0 ∨ impl_fit.top l = 3 ∨ impl_fit.top l = 4 ∨ impl_fit.top l = 6 ∨ impl_fit.top l = 8 ∨ impl_fit.top l = 10 := by
  unfold impl_fit.top
  by_cases c : 0 < l.length
  · rw [if_pos c]
    right
    have e : rd l ((l.length : Int) - 1) = l.getD (l.length - 1) 0 := by
      rw [show (l.length : Int) - 1 = ((l.length - 1 : Nat) : Int) by omega]
      simp [rd]
    rw [e, List.getD_eq_getElem?_getD, List.getElem?_eq_getElem (by omega)]
    exact h.2 _ (List.getElem_mem _)
  · rw [if_neg c]
    exact .inl rfl
theorem inv_step {l q : List Int} {a : Int} (h : InvO l) (hs : stepW l a = some q) : InvO q := by
  have htake : InvO (l.take (l.length - 1)) := ⟨by rw [List.length_take]; have := h.1; omega, fun x hx => h.2 x (List.mem_of_mem_take hx)⟩
  have hadd : ∀ m : List Int, InvO m → m.length + 1 ≤ 8 → (a = 3 ∨ a = 4 ∨ a = 6 ∨ a = 8 ∨ a = 10) → InvO (m ++ [a]) := fun m hm hl ha => ⟨by simp; omega, fun x hx => by
    rcases List.mem_append.1 hx with hx | hx
    · exact hm.2 x hx
    · rw [List.mem_singleton] at hx
      rw [hx]
      exact ha⟩
  have hl8 := h.1
  unfold stepW at hs
  by_cases c1 : a = 3 ∨ a = 6 ∨ a = 10
  · rw [if_pos c1] at hs
    by_cases c2 : l.length < 8
    · rw [if_pos c2] at hs
      obtain rfl := Option.some.inj hs
      exact hadd l h (by omega) (by omega)
    · rw [if_neg c2] at hs
      cases hs
  · rw [if_neg c1] at hs
    by_cases c4 : a = 4
    · rw [if_pos c4] at hs
      by_cases t : impl_fit.top l = 3
      · rw [if_pos t] at hs
        obtain rfl := Option.some.inj hs
        have := top_ne (l := l) (by omega)
        exact hadd _ htake (by rw [List.length_take]; omega) (by omega)
      · rw [if_neg t] at hs
        cases hs
    · rw [if_neg c4] at hs
      by_cases c8 : a = 8
      · rw [if_pos c8] at hs
        by_cases t : impl_fit.top l = 6
        · rw [if_pos t] at hs
          obtain rfl := Option.some.inj hs
          have := top_ne (l := l) (by omega)
          exact hadd _ htake (by rw [List.length_take]; omega) (by omega)
        · rw [if_neg t] at hs
          cases hs
      · rw [if_neg c8] at hs
        repeat' split at hs
        all_goals first | (cases hs; done) | (obtain rfl := Option.some.inj hs; first | exact htake | exact h)
theorem fit_step (l : List Int) (a : Int) (h : InvO l) : Ans (impl_fit.f l a) (stepW l a) := by
  have ht := top_inv h
  have hl := h.1
  unfold impl_fit.f stepW impl_fit.cut
  rw [if_pos (by omega)]
  by_cases c1 : a = 3 ∨ a = 6 ∨ a = 10
  · rw [if_pos c1, if_pos c1]
    exact Ans.ite (by rw [decide_eq_decide]; omega)
  · rw [if_neg c1, if_neg c1]
    by_cases c4 : a = 4
    · rw [if_pos (by omega), if_pos c4]
      by_cases t : impl_fit.top l = 3
      · have := top_ne (l := l) (by omega)
        rw [if_neg (by omega), if_pos (by omega), if_pos t]
        exact Ans.ok
      · rw [if_pos (by omega), if_neg t]
        exact Ans.no
    · rw [if_neg c4]
      by_cases c8 : a = 8
      · rw [if_pos (by omega), if_pos c8]
        by_cases t : impl_fit.top l = 6
        · have := top_ne (l := l) (by omega)
          rw [if_neg (by omega), if_pos (by omega), if_pos t]
          exact Ans.ok
        · rw [if_pos (by omega), if_neg t]
          exact Ans.no
      · rw [if_neg (by omega), if_neg c8]
        by_cases c5 : a = 5
        · rw [if_pos c5, if_pos c5]
          by_cases t : impl_fit.top l = 3 ∨ impl_fit.top l = 4
          · have := top_ne (l := l) (by omega)
            rw [if_neg (by omega), if_pos (by omega), if_pos t]
            exact Ans.ok
          · rw [if_pos (by omega), if_neg t]
            exact Ans.no
        · rw [if_neg c5, if_neg c5]
          by_cases c7 : a = 7
          · rw [if_pos c7, if_pos c7]
            by_cases t : impl_fit.top l = 6
            · have := top_ne (l := l) (by omega)
              rw [if_neg (by omega), if_pos (by omega), if_pos t]
              exact Ans.ok
            · rw [if_pos (by omega), if_neg t]
              exact Ans.no
          · rw [if_neg c7, if_neg c7]
            by_cases c9 : a = 9
            · rw [if_pos c9, if_pos c9]
              by_cases t : impl_fit.top l = 8
              · have := top_ne (l := l) (by omega)
                rw [if_neg (by omega), if_pos (by omega), if_pos t]
                exact Ans.ok
              · rw [if_pos (by omega), if_neg t]
                exact Ans.no
            · rw [if_neg c9, if_neg c9]
              by_cases c11 : a = 11 ∨ a = 12
              · rw [if_pos c11, if_pos c11]
                by_cases t : impl_fit.top l = 10
                · have := top_ne (l := l) (by omega)
                  rw [if_neg (by omega), if_pos (by omega), if_pos t]
                  exact Ans.ok
                · rw [if_pos (by omega), if_neg t]
                  exact Ans.no
              · rw [if_neg c11, if_neg c11]
                exact Ans.ok
theorem mx_len (l : List Int) (hl : l.length ≤ 1048576) : mx (wrap64 ((l.length : Int) - 1)) 0 = ((l.length - 1 : Nat) : Int) := by
  rw [w64 (by omega)]
  unfold mx
  split <;> omega
theorem spec_step (l : List Int) (a : Int) (hl : l.length ≤ 1048576) (k : Nat) (hk : 3 ≤ k) : Ans (spec_l07Step.f k l a) (stepW l a) := by
  obtain ⟨k, rfl⟩ : ∃ m, k = m + 1 + 1 := ⟨k - 2, by omega⟩
  have e0 : spec_l07Step.f (k + 1 + 1) l a = spec_l07Step.j0 (k + 1 + 1) l a (l.length : Int) (impl_fit.top l) := by
    unfold spec_l07Step.f impl_fit.top
    by_cases c : 0 < l.length
    · rw [if_pos (by omega), if_pos c, w64 (by omega), if_pos (by omega), if_pos (by omega)]
    · rw [if_neg (by omega), if_neg c]
  have e1 : spec_l07Step.j0 (k + 1 + 1) l a (l.length : Int) (impl_fit.top l) = spec_l07Step.j1 (k + 1) l a (l.length : Int) (impl_fit.top l) a (decide (a = 3 ∨ a = 6 ∨ a = 10)) := by
    simp only [spec_l07Step.j0]
    by_cases c3 : a = 3
    · rw [if_pos c3, c3]; rfl
    · rw [if_neg c3]
      by_cases c6 : a = 6
      · rw [if_pos c6, c6]; rfl
      · rw [if_neg c6]
        congr 1
        by_cases c10 : a = 10
        · rw [c10]; rfl
        · rw [beq_eq_false_iff_ne.mpr c10, decide_eq_false (by omega)]
  have hx := mx_len l hl
  have hn : ((l.length - 1 : Nat) : Int).toNat = l.length - 1 := by omega
  have htl : (l.take (l.length - 1)).length = l.length - 1 := by rw [List.length_take]; omega
  rw [e0, e1]
  simp only [spec_l07Step.j1, hx, hn, Option.bind_some, List.nil_append, List.length_nil, Nat.zero_add]
  unfold stepW
  by_cases c1 : a = 3 ∨ a = 6 ∨ a = 10
  · rw [if_pos (decide_eq_true c1), if_pos c1, if_pos (by omega), if_pos (by omega)]
    exact Ans.ite (by rw [decide_eq_decide]; omega)
  · rw [if_neg (by simp [c1]), if_neg c1]
    by_cases c4 : a = 4
    · rw [if_pos c4, if_pos c4, if_pos (by omega), if_pos (by omega), htl, if_pos (by omega), if_pos (by omega)]
      exact Ans.ite (by rw [Bool.eq_iff_iff]; simp)
    · rw [if_neg c4, if_neg c4]
      by_cases c8 : a = 8
      · rw [if_pos c8, if_pos c8, if_pos (by omega), if_pos (by omega), htl, if_pos (by omega), if_pos (by omega)]
        exact Ans.ite (by rw [Bool.eq_iff_iff]; simp)
      · rw [if_neg c8, if_neg c8]
        by_cases c5 : a = 5
        · rw [if_pos c5, if_pos c5, if_pos (by omega), if_pos (by omega)]
          by_cases t : impl_fit.top l = 3
          · rw [if_pos t, if_pos (.inl t)]
            exact Ans.ok
          · rw [if_neg t]
            exact Ans.ite (by rw [Bool.eq_iff_iff]; simp [t])
        · rw [if_neg c5, if_neg c5]
          by_cases c7 : a = 7
          · rw [if_pos c7, if_pos c7, if_pos (by omega), if_pos (by omega)]
            exact Ans.ite (by rw [Bool.eq_iff_iff]; simp)
          · rw [if_neg c7, if_neg c7]
            by_cases c9 : a = 9
            · rw [if_pos c9, if_pos c9, if_pos (by omega), if_pos (by omega)]
              exact Ans.ite (by rw [Bool.eq_iff_iff]; simp)
            · rw [if_neg c9, if_neg c9]
              by_cases c11 : a = 11
              · rw [if_pos c11, if_pos (show a = 11 ∨ a = 12 from .inl c11), if_pos (by omega), if_pos (by omega)]
                exact Ans.ite (by rw [Bool.eq_iff_iff]; simp)
              · rw [if_neg c11]
                by_cases c12 : a = 12
                · rw [if_pos c12, if_pos (show a = 11 ∨ a = 12 from .inr c12), if_pos (by omega), if_pos (by omega)]
                  exact Ans.ite (by rw [Bool.eq_iff_iff]; simp)
                · rw [if_neg c12, if_neg (by omega)]
                  exact Ans.ok
/-- d items from i on: the structures open behind them; or the first one that does not fit. -/
def walkW (l : List S44) : Nat → Nat → List Int → List Int × Int
  | 0, _, o => (o, -1)
  | d + 1, i, o => match stepW o (l.getD i z44).f0 with
    | some q => walkW l d (i + 1) q
    | none => ([], (i : Int))
theorem walkW_bd (l : List S44) : ∀ d i o, (walkW l d i o).2 = -1 ∨ (0 ≤ (walkW l d i o).2 ∧ (walkW l d i o).2 < (i : Int) + d)
  | 0, _, _ => .inl rfl
  | d + 1, i, o => by
    unfold walkW
    cases h : stepW o (l.getD i z44).f0 with
    | none => right; simp only; omega
    | some q =>
      simp only
      rcases walkW_bd l d (i + 1) q with h1 | h1
      · exact .inl h1
      · right; omega
theorem walkW_inv (l : List S44) : ∀ d i o, InvO o → InvO (walkW l d i o).1
  | 0, _, _, h => h
  | d + 1, i, o, h => by
    unfold walkW
    cases hs : stepW o (l.getD i z44).f0 with
    | none => exact ⟨by simp, by simp⟩
    | some q => exact walkW_inv l d (i + 1) q (inv_step h hs)
theorem openAt_l0 (l : List S44) (hl : l.length ≤ 1048576) : ∀ d k (i : Nat) (o : List Int), i + d = l.length → d < k → InvO o → impl_openAt.l0 k o l (l.length : Int) (i : Int) = some (walkW l d i o)
  | 0, k, i, o, h, hk, _ => by
    obtain ⟨k, rfl⟩ : ∃ m, k = m + 1 := ⟨k - 1, by omega⟩
    simp only [impl_openAt.l0]
    rw [if_neg (by omega)]
    rfl
  | d + 1, k, i, o, h, hk, ho => by
    obtain ⟨k, rfl⟩ : ∃ m, k = m + 1 := ⟨k - 1, by omega⟩
    simp only [impl_openAt.l0]
    obtain ⟨l', e, hq⟩ := fit_step o (l.getD i z44).f0 ho
    rw [if_pos (by omega), if_pos (by omega), if_pos (by omega), rd44_nat, e, Option.bind_some]
    unfold walkW
    cases hs : stepW o (l.getD i z44).f0 with
    | none => rfl
    | some q =>
      simp only [Option.isSome_some, if_true]
      rw [hq q hs, w64 (by omega), show (i : Int) + 1 = ((i + 1 : Nat) : Int) by omega]
      exact openAt_l0 l hl d k (i + 1) q (by omega) (by omega) (inv_step ho hs)
theorem inv_nil : InvO [] := ⟨by simp, by simp⟩
theorem openAt_eq (l : List S44) (hl : l.length ≤ 1048576) (k : Nat) (hk : l.length < k) : impl_openAt.f k l = some (walkW l l.length 0 []) := by
  unfold impl_openAt.f
  exact openAt_l0 l hl l.length k 0 [] (by omega) hk inv_nil
theorem itemsCode_len {l : List S44} (h : itemsCode l = 0) : l.length ≤ 60 := by
  unfold itemsCode at h
  by_cases c : l.length > 60
  · rw [if_pos c] at h
    split at h <;> omega
  · omega
theorem range_set {α : Type} (g : Nat → α) (x : List α) (i : Nat) (h : i < x.length) : ((List.range i).map g ++ x.drop i).set i (g i) = (List.range (i + 1)).map g ++ x.drop (i + 1) := by
  rw [List.set_append, if_neg (by simp), List.length_map, List.length_range, Nat.sub_self, List.drop_eq_getElem_cons h, List.set_cons_zero, List.range_succ, List.map_append, List.append_assoc]
  rfl
/-- A loop that writes each element anew. -/
theorem mark_loop {α : Type} (F : Nat → List α → Int → Int → Option (Int × List α)) (n : Nat) (mm : Nat → Int) (g : Nat → α)
    (hs : ∀ k (x : List α) (i : Nat), i < n → x.length = n → F (k + 1) x (mm i) i = F k (x.set i (g i)) (mm (i + 1)) ((i : Int) + 1))
    (he : ∀ k (x : List α), x.length = n → F (k + 1) x (mm n) (n : Int) = some (mm n, x)) (x0 : List α) (hx : x0.length = n) (k : Nat) (hk : n < k) : F k x0 (mm 0) 0 = some (mm n, (List.range n).map g) := by
  have key : ∀ d k (i : Nat), i + d = n → d < k → F k ((List.range i).map g ++ x0.drop i) (mm i) (i : Int) = some (mm n, (List.range n).map g) := by
    intro d
    induction d with
    | zero =>
      intro k i h hk
      obtain ⟨k, rfl⟩ : ∃ m, k = m + 1 := ⟨k - 1, by omega⟩
      obtain rfl : i = n := by omega
      rw [he _ _ (by simp; omega), List.drop_of_length_le (by omega)]
      simp
    | succ d ih =>
      intro k i h hk
      obtain ⟨k, rfl⟩ : ∃ m, k = m + 1 := ⟨k - 1, by omega⟩
      rw [hs k _ i (by omega) (by simp; omega), range_set g x0 i (by omega), show (i : Int) + 1 = ((i + 1 : Nat) : Int) by omega]
      exact ih k (i + 1) (by omega) (by omega)
  have h := key n k 0 (by omega) hk
  simpa using h
/-- A loop that looks whether each element is what was written. -/
theorem held_loop (F : Nat → Int → Int → Option Int) (n : Nat) (mm : Nat → Int)
    (hs : ∀ k (i : Nat), i < n → F (k + 1) (mm i) i = F k (mm (i + 1)) ((i : Int) + 1))
    (he : ∀ k, F (k + 1) (mm n) (n : Int) = some (mm n)) (k : Nat) (hk : n < k) : F k (mm 0) 0 = some (mm n) := by
  have key : ∀ d k (i : Nat), i + d = n → d < k → F k (mm i) (i : Int) = some (mm n) := by
    intro d
    induction d with
    | zero =>
      intro k i h hk
      obtain ⟨k, rfl⟩ : ∃ m, k = m + 1 := ⟨k - 1, by omega⟩
      obtain rfl : i = n := by omega
      rw [he]
    | succ d ih =>
      intro k i h hk
      obtain ⟨k, rfl⟩ : ∃ m, k = m + 1 := ⟨k - 1, by omega⟩
      rw [hs k i (by omega), show (i : Int) + 1 = ((i + 1 : Nat) : Int) by omega]
      exact ih k (i + 1) (by omega) (by omega)
  exact key n k 0 (by omega) hk
theorem range_getD {α : Type} (g : Nat → α) (z : α) (n i : Nat) (h : i < n) : ((List.range n).map g).getD i z = g i := by
  simp [List.getD_eq_getElem?_getD, List.getElem?_map, List.getElem?_range h]
/-- The items from i on fit the open structures o, and close them all. -/
def Good (l : List S44) (i : Nat) (o : List Int) : Prop := walkW l (l.length - i) i o = ([], -1)
theorem good_step {l : List S44} {i : Nat} {o : List Int} (hi : i < l.length) (h : Good l i o) : ∃ q, stepW o (l.getD i z44).f0 = some q ∧ Good l (i + 1) q := by
  unfold Good at h
  rw [show l.length - i = (l.length - (i + 1)) + 1 by omega] at h
  unfold walkW at h
  cases hs : stepW o (l.getD i z44).f0 with
  | none =>
    rw [hs] at h
    have := congrArg Prod.snd h
    simp only at this
    omega
  | some q =>
    rw [hs] at h
    exact ⟨q, rfl, h⟩
theorem good_end {l : List S44} {o : List Int} (h : Good l l.length o) : o = [] := by
  unfold Good at h
  rw [Nat.sub_self] at h
  unfold walkW at h
  exact congrArg Prod.fst h
theorem good_lt {l : List S44} {j : Nat} {o : List Int} {a : Int} (hj : j ≤ l.length) (h : Good l j (o ++ [a])) : j < l.length := by
  rcases Nat.lt_or_ge j l.length with h1 | h1
  · exact h1
  · obtain rfl : j = l.length := by omega
    have := good_end h
    simp at this
def kinds (a : Int) : Prop := a = 1 ∨ a = 2 ∨ (3 ≤ a ∧ a ≤ 13)
def closer (a : Int) : Prop := a = 4 ∨ a = 5 ∨ a = 7 ∨ a = 8 ∨ a = 9 ∨ a = 11 ∨ a = 12
theorem top_snoc (o : List Int) (a : Int) : impl_fit.top (o ++ [a]) = a := by
  unfold impl_fit.top
  rw [if_pos (by simp), show ((o ++ [a]).length : Int) - 1 = ((o.length : Nat) : Int) by simp]
  simp [rd]
theorem take_snoc (o : List Int) (a : Int) : (o ++ [a]).take ((o ++ [a]).length - 1) = o := by simp
theorem step3 {o q : List Int} {a : Int} (hc : closer a) (h : stepW (o ++ [3]) a = some q) : (a = 4 ∧ q = o ++ [4]) ∨ (a = 5 ∧ q = o) := by
  unfold stepW at h
  rw [top_snoc, take_snoc] at h
  rcases hc with rfl | rfl | rfl | rfl | rfl | rfl | rfl <;> simp at h <;> simp [h]
theorem step4 {o q : List Int} {a : Int} (hc : closer a) (h : stepW (o ++ [4]) a = some q) : a = 5 ∧ q = o := by
  unfold stepW at h
  rw [top_snoc, take_snoc] at h
  rcases hc with rfl | rfl | rfl | rfl | rfl | rfl | rfl <;> simp at h <;> simp [h]
theorem step6 {o q : List Int} {a : Int} (hc : closer a) (h : stepW (o ++ [6]) a = some q) : (a = 8 ∧ q = o ++ [8]) ∨ (a = 7 ∧ q = o) := by
  unfold stepW at h
  rw [top_snoc, take_snoc] at h
  rcases hc with rfl | rfl | rfl | rfl | rfl | rfl | rfl <;> simp at h <;> simp [h]
theorem step8 {o q : List Int} {a : Int} (hc : closer a) (h : stepW (o ++ [8]) a = some q) : a = 9 ∧ q = o := by
  unfold stepW at h
  rw [top_snoc, take_snoc] at h
  rcases hc with rfl | rfl | rfl | rfl | rfl | rfl | rfl <;> simp at h <;> simp [h]
theorem step10 {o q : List Int} {a : Int} (hc : closer a) (h : stepW (o ++ [10]) a = some q) : (a = 11 ∨ a = 12) ∧ q = o := by
  unfold stepW at h
  rw [top_snoc, take_snoc] at h
  rcases hc with rfl | rfl | rfl | rfl | rfl | rfl | rfl <;> simp at h <;> simp [h]
theorem step_open {o q : List Int} {a : Int} (ha : a = 3 ∨ a = 6 ∨ a = 10) (h : stepW o a = some q) : q = o ++ [a] := by
  unfold stepW at h
  rw [if_pos ha] at h
  split at h
  · exact (Option.some.inj h).symm
  · cases h
theorem step_plain {o q : List Int} {a : Int} (ha : a = 1 ∨ a = 2 ∨ a = 13) (h : stepW o a = some q) : q = o := by
  unfold stepW at h
  rcases ha with rfl | rfl | rfl <;> simp at h <;> simp [h]
/-- A tree's rows and how many nodes it has. -/
inductive Cnt : List S53 → Nat → Prop where
  | nil : Cnt [] 0
  | cons (x y : Int) {A B N : List S53} {a b c : Nat} (hA : Cnt A a) (hB : Cnt B b) (hN : Cnt N c) : Cnt (⟨x, y, A, B⟩ :: N) (1 + a + b + c)
theorem spec_f (k : Nat) (l : List S44) (i : Int) : spec_l09Parse.f (k + 1) l i = spec_l09Parse.l0 k l [] i := rfl
theorem impl_f (k : Nat) (l : List S44) (i : Int) : impl_grower_row.f (k + 1) l i = impl_grower_row.l0 k [] l i := rfl
section
variable {l : List S44} {i j j2 t : Nat} {acc A B : List S53} (h60 : l.length ≤ 60) (hi : i < l.length) (hacc : acc.length ≤ 100)
include h60 hi hacc
theorem spec_plain (ha : (l.getD i z44).f0 = 1 ∨ (l.getD i z44).f0 = 2 ∨ (l.getD i z44).f0 = 13) :
    spec_l09Parse.l0 (t + 2) l acc (i : Int) = spec_l09Parse.l0 t l (acc ++ [⟨(l.getD i z44).f0, (l.getD i z44).f1, [], []⟩]) ((i + 1 : Nat) : Int) := by
  rw [spec_l09Parse.l0, if_pos (by omega), if_pos (by omega), rd44_nat]
  have e : wrap64 ((i : Int) + 1) = ((i + 1 : Nat) : Int) := by rw [w64 (by omega)]; omega
  rcases ha with ha | ha | ha <;> rw [ha] <;> (repeat first | rw [if_neg (by decide)] | rw [if_pos rfl]) <;> rw [spec_l09Parse.j1, if_pos (by decide), if_pos (by omega), e]
theorem impl_plain (ha : (l.getD i z44).f0 = 1 ∨ (l.getD i z44).f0 = 2 ∨ (l.getD i z44).f0 = 13) :
    impl_grower_row.l0 (t + 2) acc l (i : Int) = impl_grower_row.l0 t (acc ++ [⟨(l.getD i z44).f0, (l.getD i z44).f1, [], []⟩]) l ((i + 1 : Nat) : Int) := by
  rw [impl_grower_row.l0, if_pos (by omega), if_pos (by omega), rd44_nat]
  have e : wrap64 ((i : Int) + 1) = ((i + 1 : Nat) : Int) := by rw [w64 (by omega)]; omega
  rcases ha with ha | ha | ha <;> rw [ha] <;> (repeat first | rw [if_neg (by decide)] | rw [if_pos rfl]) <;> rw [impl_grower_row.j1, if_pos (by decide), if_pos (by omega), e]
omit h60 hacc in
theorem spec_close (ha : closer (l.getD i z44).f0) : spec_l09Parse.l0 (t + 2) l acc (i : Int) = some (acc, (i : Int)) := by
  rw [spec_l09Parse.l0, if_pos (by omega), if_pos (by omega), rd44_nat]
  generalize (l.getD i z44).f0 = a at ha
  rcases ha with rfl | rfl | rfl | rfl | rfl | rfl | rfl <;> (repeat rw [if_neg (by decide)]) <;> rw [spec_l09Parse.j1] <;> (repeat rw [if_neg (by decide)])
omit h60 hacc in
theorem impl_close (ha : closer (l.getD i z44).f0) : impl_grower_row.l0 (t + 2) acc l (i : Int) = some (acc, (i : Int)) := by
  rw [impl_grower_row.l0, if_pos (by omega), if_pos (by omega), rd44_nat]
  generalize (l.getD i z44).f0 = a at ha
  rcases ha with rfl | rfl | rfl | rfl | rfl | rfl | rfl <;> (repeat rw [if_neg (by decide)]) <;> rw [impl_grower_row.j1] <;> (repeat rw [if_neg (by decide)])
/-- The node of an opening item a whose row ends at an item b. -/
def nodeOf (a b : Int) : Int × Int := if a = 3 then (3, if b = 4 then 1 else 0) else if b = 8 then (8, 0) else (b, 0)
theorem spec_one {a b : Int} (hj : j < l.length) (ha : (l.getD i z44).f0 = a) (hb : (l.getD j z44).f0 = b) (hab : (a = 3 ∧ b = 5) ∨ (a = 6 ∧ b = 7) ∨ (a = 10 ∧ b = 11) ∨ (a = 10 ∧ b = 12))
    (hA : spec_l09Parse.l0 t l [] ((i + 1 : Nat) : Int) = some (A, (j : Int))) :
    spec_l09Parse.l0 (t + 3) l acc (i : Int) = spec_l09Parse.l0 (t + 1) l (acc ++ [⟨(nodeOf a b).1, (nodeOf a b).2, A, []⟩]) ((j + 1 : Nat) : Int) := by
  rw [spec_l09Parse.l0, if_pos (by omega), if_pos (by omega), rd44_nat, ha]
  have e : wrap64 ((i : Int) + 1) = ((i + 1 : Nat) : Int) := by rw [w64 (by omega)]; omega
  have e2 : wrap64 ((j : Int) + 1) = ((j + 1 : Nat) : Int) := by rw [w64 (by omega)]; omega
  have hf : spec_l09Parse.f (t + 1) l ((i + 1 : Nat) : Int) = some (A, (j : Int)) := hA
  rcases hab with ⟨rfl, rfl⟩ | ⟨rfl, rfl⟩ | ⟨rfl, rfl⟩ | ⟨rfl, rfl⟩ <;> (repeat rw [if_neg (by decide)]) <;> rw [spec_l09Parse.j1] <;> (repeat first | rw [if_neg (by decide)] | rw [if_pos rfl]) <;>
    rw [e, hf, Option.bind_some] <;> dsimp only <;> rw [if_pos (by omega), if_pos (by omega), rd44_nat, hb] <;> (repeat rw [if_neg (by decide)]) <;> rw [if_pos (by omega), e2] <;> rfl
theorem spec_two {a b : Int} (hj : j < l.length) (hj2 : j2 < l.length) (ha : (l.getD i z44).f0 = a) (hb : (l.getD j z44).f0 = b) (hab : (a = 3 ∧ b = 4) ∨ (a = 6 ∧ b = 8))
    (hA : spec_l09Parse.l0 t l [] ((i + 1 : Nat) : Int) = some (A, (j : Int))) (hB : spec_l09Parse.l0 t l [] ((j + 1 : Nat) : Int) = some (B, (j2 : Int))) :
    spec_l09Parse.l0 (t + 3) l acc (i : Int) = spec_l09Parse.l0 (t + 1) l (acc ++ [⟨(nodeOf a b).1, (nodeOf a b).2, A, B⟩]) ((j2 + 1 : Nat) : Int) := by
  rw [spec_l09Parse.l0, if_pos (by omega), if_pos (by omega), rd44_nat, ha]
  have e : wrap64 ((i : Int) + 1) = ((i + 1 : Nat) : Int) := by rw [w64 (by omega)]; omega
  have e2 : wrap64 ((j : Int) + 1) = ((j + 1 : Nat) : Int) := by rw [w64 (by omega)]; omega
  have e3 : wrap64 ((j2 : Int) + 1) = ((j2 + 1 : Nat) : Int) := by rw [w64 (by omega)]; omega
  have hf : spec_l09Parse.f (t + 1) l ((i + 1 : Nat) : Int) = some (A, (j : Int)) := hA
  have hg : spec_l09Parse.f (t + 1) l ((j + 1 : Nat) : Int) = some (B, (j2 : Int)) := hB
  rcases hab with ⟨rfl, rfl⟩ | ⟨rfl, rfl⟩ <;> (repeat rw [if_neg (by decide)]) <;> rw [spec_l09Parse.j1] <;> (repeat first | rw [if_neg (by decide)] | rw [if_pos rfl]) <;>
    rw [e, hf, Option.bind_some] <;> dsimp only <;> rw [if_pos (by omega), if_pos (by omega), rd44_nat, hb, if_pos rfl, e2, hg, Option.bind_some] <;> dsimp only <;> rw [if_pos (by omega), e3] <;> rfl
theorem impl_one {a b : Int} (hj : j < l.length) (ha : (l.getD i z44).f0 = a) (hb : (l.getD j z44).f0 = b) (hab : (a = 3 ∧ b = 5) ∨ (a = 6 ∧ b = 7) ∨ (a = 10 ∧ b = 11) ∨ (a = 10 ∧ b = 12))
    (hA : impl_grower_row.l0 (t + 1) [] l ((i + 1 : Nat) : Int) = some (A, (j : Int))) :
    impl_grower_row.l0 (t + 5) acc l (i : Int) = impl_grower_row.l0 (t + 3) (acc ++ [⟨(nodeOf a b).1, (nodeOf a b).2, A, []⟩]) l ((j + 1 : Nat) : Int) := by
  rw [impl_grower_row.l0, if_pos (by omega), if_pos (by omega), rd44_nat, ha]
  have e : wrap64 ((i : Int) + 1) = ((i + 1 : Nat) : Int) := by rw [w64 (by omega)]; omega
  have e2 : wrap64 ((j : Int) + 1) = ((j + 1 : Nat) : Int) := by rw [w64 (by omega)]; omega
  have hf : impl_grower_row.f (t + 2) l ((i + 1 : Nat) : Int) = some (A, (j : Int)) := hA
  have hs : impl_grower_structure.f (t + 3) l ((i + 1 : Nat) : Int) a = some ((nodeOf a b).1, (nodeOf a b).2, A, [], ((j + 1 : Nat) : Int)) := by
    rw [impl_grower_structure.f, hf, Option.bind_some]
    dsimp only
    rw [if_pos (by omega), if_pos (by omega), rd44_nat, hb, e2]
    rcases hab with ⟨rfl, rfl⟩ | ⟨rfl, rfl⟩ | ⟨rfl, rfl⟩ | ⟨rfl, rfl⟩ <;> rfl
  rcases hab with ⟨rfl, rfl⟩ | ⟨rfl, rfl⟩ | ⟨rfl, rfl⟩ | ⟨rfl, rfl⟩ <;> (repeat rw [if_neg (by decide)]) <;> rw [impl_grower_row.j1] <;> (repeat first | rw [if_neg (by decide)] | rw [if_pos rfl]) <;>
    rw [e, hs, Option.bind_some] <;> dsimp only <;> rw [if_pos (by omega)]
theorem impl_two {a b : Int} (hj : j < l.length) (hj2 : j2 < l.length) (ha : (l.getD i z44).f0 = a) (hb : (l.getD j z44).f0 = b) (hab : (a = 3 ∧ b = 4) ∨ (a = 6 ∧ b = 8))
    (hA : impl_grower_row.l0 (t + 1) [] l ((i + 1 : Nat) : Int) = some (A, (j : Int))) (hB : impl_grower_row.l0 t [] l ((j + 1 : Nat) : Int) = some (B, (j2 : Int))) :
    impl_grower_row.l0 (t + 5) acc l (i : Int) = impl_grower_row.l0 (t + 3) (acc ++ [⟨(nodeOf a b).1, (nodeOf a b).2, A, B⟩]) l ((j2 + 1 : Nat) : Int) := by
  have q1 : (0 : Int) ≤ (j : Int) := by omega
  have q2 : (j : Int) < (l.length : Int) := by omega
  rw [impl_grower_row.l0, if_pos (by omega), if_pos (by omega), rd44_nat, ha]
  have e : wrap64 ((i : Int) + 1) = ((i + 1 : Nat) : Int) := by rw [w64 (by omega)]; omega
  have e2 : wrap64 ((j : Int) + 1) = ((j + 1 : Nat) : Int) := by rw [w64 (by omega)]; omega
  have e3 : wrap64 ((j2 : Int) + 1) = ((j2 + 1 : Nat) : Int) := by rw [w64 (by omega)]; omega
  have hf : impl_grower_row.f (t + 2) l ((i + 1 : Nat) : Int) = some (A, (j : Int)) := hA
  have hg : impl_grower_row.f (t + 1) l ((j + 1 : Nat) : Int) = some (B, (j2 : Int)) := hB
  have hs : impl_grower_structure.f (t + 3) l ((i + 1 : Nat) : Int) a = some ((nodeOf a b).1, (nodeOf a b).2, A, B, ((j2 + 1 : Nat) : Int)) := by
    rw [impl_grower_structure.f, hf, Option.bind_some]
    dsimp only
    rw [if_pos q1, if_pos q2, rd44_nat, hb, e2]
    rcases hab with ⟨rfl, rfl⟩ | ⟨rfl, rfl⟩ <;> (repeat first | rw [if_neg (by decide)] | rw [if_pos rfl]) <;> rw [impl_grower_structure.j0] <;> (repeat first | rw [if_neg (by decide)] | rw [if_pos rfl]) <;> rw [hg, Option.bind_some] <;> dsimp only <;> rw [e3] <;> rfl
  rcases hab with ⟨rfl, rfl⟩ | ⟨rfl, rfl⟩ <;> (repeat rw [if_neg (by decide)]) <;> rw [impl_grower_row.j1] <;> (repeat first | rw [if_neg (by decide)] | rw [if_pos rfl]) <;>
    rw [e, hs, Option.bind_some] <;> dsimp only <;> rw [if_pos (by omega)]
end
/-- From i on both read the row N and stop at j. -/
def Row (l : List S44) (i j : Nat) (N : List S53) : Prop := ∀ (acc : List S53) (k : Nat), 6 * (l.length - i) + 6 ≤ k → acc.length + (l.length - i) ≤ 100 →
  spec_l09Parse.l0 k l acc (i : Int) = some (acc ++ N, (j : Int)) ∧ impl_grower_row.l0 k acc l (i : Int) = some (acc ++ N, (j : Int))
theorem row_one {l : List S44} (h60 : l.length ≤ 60) {i j j3 : Nat} {A N : List S53} (hi : i < l.length) (hij : i < j) (hj : j < l.length) {a b : Int} (ha : (l.getD i z44).f0 = a) (hb : (l.getD j z44).f0 = b)
    (hab : (a = 3 ∧ b = 5) ∨ (a = 6 ∧ b = 7) ∨ (a = 10 ∧ b = 11) ∨ (a = 10 ∧ b = 12)) (hA : Row l (i + 1) j A) (hN : Row l (j + 1) j3 N) : Row l i j3 (⟨(nodeOf a b).1, (nodeOf a b).2, A, []⟩ :: N) := by
  intro acc k hk hacc
  obtain ⟨t, rfl⟩ : ∃ t, k = t + 5 := ⟨k - 5, by omega⟩
  constructor
  · have h1 := (hA [] (t + 2) (by omega) (by simp; omega)).1
    rw [spec_one h60 hi (by omega) hj ha hb hab h1, (hN _ (t + 3) (by omega) (by simp; omega)).1]
    simp
  · have h1 := (hA [] (t + 1) (by omega) (by simp; omega)).2
    rw [impl_one h60 hi (by omega) hj ha hb hab h1, (hN _ (t + 3) (by omega) (by simp; omega)).2]
    simp
theorem row_two {l : List S44} (h60 : l.length ≤ 60) {i j j2 j3 : Nat} {A B N : List S53} (hi : i < l.length) (hij : i < j) (hj : j < l.length) (hjj : j < j2) (hj2 : j2 < l.length) {a b : Int} (ha : (l.getD i z44).f0 = a) (hb : (l.getD j z44).f0 = b)
    (hab : (a = 3 ∧ b = 4) ∨ (a = 6 ∧ b = 8)) (hA : Row l (i + 1) j A) (hB : Row l (j + 1) j2 B) (hN : Row l (j2 + 1) j3 N) : Row l i j3 (⟨(nodeOf a b).1, (nodeOf a b).2, A, B⟩ :: N) := by
  intro acc k hk hacc
  obtain ⟨t, rfl⟩ : ∃ t, k = t + 5 := ⟨k - 5, by omega⟩
  constructor
  · have h1 := (hA [] (t + 2) (by omega) (by simp; omega)).1
    have h2 := (hB [] (t + 2) (by omega) (by simp; omega)).1
    rw [spec_two h60 hi (by omega) hj hj2 ha hb hab h1 h2, (hN _ (t + 3) (by omega) (by simp; omega)).1]
    simp
  · have h1 := (hA [] (t + 1) (by omega) (by simp; omega)).2
    have h2 := (hB [] t (by omega) (by simp; omega)).2
    rw [impl_two h60 hi (by omega) hj hj2 ha hb hab h1 h2, (hN _ (t + 3) (by omega) (by simp; omega)).2]
    simp
theorem rows (l : List S44) (h60 : l.length ≤ 60) (hv : ∀ i, i < l.length → kinds (l.getD i z44).f0) : ∀ m i o, i + m = l.length → Good l i o →
    ∃ N j c, Row l i j N ∧ Cnt N c ∧ i + c ≤ j ∧ j ≤ l.length ∧ Good l j o ∧ (j < l.length → closer (l.getD j z44).f0) := by
  intro m
  induction m using Nat.strongRecOn with
  | _ m ih =>
    intro i o him hg
    rcases Nat.eq_zero_or_pos m with h0 | h0
    · refine ⟨[], i, 0, fun acc k hk _ => ?_, .nil, by omega, by omega, hg, fun h => by omega⟩
      obtain ⟨t, rfl⟩ : ∃ t, k = t + 1 := ⟨k - 1, by omega⟩
      rw [spec_l09Parse.l0, if_neg (by omega), impl_grower_row.l0, if_neg (by omega), List.append_nil, show l.length = i by omega]
      exact ⟨rfl, rfl⟩
    have hi : i < l.length := by omega
    obtain ⟨q, hs, hq⟩ := good_step hi hg
    have hk := hv i hi
    by_cases cc : closer (l.getD i z44).f0
    · refine ⟨[], i, 0, fun acc k hk _ => ?_, .nil, by omega, by omega, hg, fun _ => cc⟩
      obtain ⟨t, rfl⟩ : ∃ t, k = t + 2 := ⟨k - 2, by omega⟩
      rw [spec_close hi cc, impl_close hi cc, List.append_nil]
      exact ⟨rfl, rfl⟩
    by_cases cp : (l.getD i z44).f0 = 1 ∨ (l.getD i z44).f0 = 2 ∨ (l.getD i z44).f0 = 13
    · rw [step_plain cp hs] at hq
      obtain ⟨N, j, c, hr, hc, h1, h2, h3, h4⟩ := ih (m - 1) (by omega) (i + 1) o (by omega) hq
      refine ⟨⟨(l.getD i z44).f0, (l.getD i z44).f1, [], []⟩ :: N, j, 1 + 0 + 0 + c, fun acc k hk ha => ?_, .cons _ _ .nil .nil hc, by omega, h2, h3, h4⟩
      obtain ⟨t, rfl⟩ : ∃ t, k = t + 2 := ⟨k - 2, by omega⟩
      rw [spec_plain h60 hi (by omega) cp, impl_plain h60 hi (by omega) cp]
      have := hr (acc ++ [⟨(l.getD i z44).f0, (l.getD i z44).f1, [], []⟩]) t (by omega) (by simp; omega)
      rw [this.1, this.2]
      simp
    have co : (l.getD i z44).f0 = 3 ∨ (l.getD i z44).f0 = 6 ∨ (l.getD i z44).f0 = 10 := by
      unfold kinds at hk
      unfold closer at cc
      omega
    have hqo := step_open co hs
    rw [hqo] at hq
    obtain ⟨A, j, ca, hA, hcA, a1, a2, a3, a4⟩ := ih (m - 1) (by omega) (i + 1) _ (by omega) hq
    have hj := good_lt a2 a3
    obtain ⟨q2, hs2, hq2⟩ := good_step hj a3
    have hcj := a4 hj
    have one : ∀ a b, (l.getD i z44).f0 = a → (l.getD j z44).f0 = b → ((a = 3 ∧ b = 5) ∨ (a = 6 ∧ b = 7) ∨ (a = 10 ∧ b = 11) ∨ (a = 10 ∧ b = 12)) → q2 = o →
        ∃ N j c, Row l i j N ∧ Cnt N c ∧ i + c ≤ j ∧ j ≤ l.length ∧ Good l j o ∧ (j < l.length → closer (l.getD j z44).f0) := fun a b ha hb hab e => by
      rw [e] at hq2
      obtain ⟨N, j3, c, hr, hc, h1, h2, h3, h4⟩ := ih (l.length - (j + 1)) (by omega) (j + 1) o (by omega) hq2
      exact ⟨_, j3, 1 + ca + 0 + c, row_one h60 hi (by omega) hj ha hb hab hA hr, .cons _ _ hcA .nil hc, by omega, h2, h3, h4⟩
    have two : ∀ a b, (l.getD i z44).f0 = a → (l.getD j z44).f0 = b → ((a = 3 ∧ b = 4) ∨ (a = 6 ∧ b = 8)) → q2 = o ++ [b] → (∀ x q, closer x → stepW (o ++ [b]) x = some q → q = o) →
        ∃ N j c, Row l i j N ∧ Cnt N c ∧ i + c ≤ j ∧ j ≤ l.length ∧ Good l j o ∧ (j < l.length → closer (l.getD j z44).f0) := fun a b ha hb hab e hcl => by
      rw [e] at hq2
      obtain ⟨B, j2, cb, hB, hcB, b1, b2, b3, b4⟩ := ih (l.length - (j + 1)) (by omega) (j + 1) _ (by omega) hq2
      have hj2 := good_lt b2 b3
      obtain ⟨q3, hs3, hq3⟩ := good_step hj2 b3
      rw [hcl _ _ (b4 hj2) hs3] at hq3
      obtain ⟨N, j3, c, hr, hc, h1, h2, h3, h4⟩ := ih (l.length - (j2 + 1)) (by omega) (j2 + 1) o (by omega) hq3
      exact ⟨_, j3, 1 + ca + cb + c, row_two h60 hi (by omega) hj (by omega) hj2 ha hb hab hA hB hr, .cons _ _ hcA hcB hc, by omega, h2, h3, h4⟩
    rcases co with e | e | e
    · rw [e] at hs2
      rcases step3 hcj hs2 with ⟨h1, h2⟩ | ⟨h1, h2⟩
      · exact two 3 4 e h1 (.inl ⟨rfl, rfl⟩) h2 (fun _ _ h h' => (step4 h h').2)
      · exact one 3 5 e h1 (.inl ⟨rfl, rfl⟩) h2
    · rw [e] at hs2
      rcases step6 hcj hs2 with ⟨h1, h2⟩ | ⟨h1, h2⟩
      · exact two 6 8 e h1 (.inr ⟨rfl, rfl⟩) h2 (fun _ _ h h' => (step8 h h').2)
      · exact one 6 7 e h1 (.inr (.inl ⟨rfl, rfl⟩)) h2
    · rw [e] at hs2
      obtain ⟨h1 | h1, h2⟩ := step10 hcj hs2
      · exact one 10 11 e h1 (.inr (.inr (.inl ⟨rfl, rfl⟩))) h2
      · exact one 10 12 e h1 (.inr (.inr (.inr ⟨rfl, rfl⟩))) h2
theorem cnt_len {N : List S53} {c : Nat} (h : Cnt N c) : N.length ≤ c := by
  induction h with
  | nil => simp
  | cons x y _ _ _ _ _ ih => simp; omega
theorem rd53_nat (l : List S53) (i : Nat) : rd_T53 l (i : Int) = l.getD i z53 := by simp [rd_T53]
theorem getD_mid (pre : List S53) (x : S53) (M : List S53) : (pre ++ x :: M).getD pre.length z53 = x := by simp
theorem eq_l0 {N : List S53} {c : Nat} (h : Cnt N c) : ∀ (pre : List S53) (k : Nat), pre.length + c ≤ 1000000 → 3 * c + 3 ≤ k → laws_eqNodeS.l0 k (pre ++ N) (pre ++ N) (pre.length : Int) = some true := by
  induction h with
  | nil =>
    intro pre k hp hk
    obtain ⟨k, rfl⟩ : ∃ m, k = m + 1 := ⟨k - 1, by omega⟩
    rw [laws_eqNodeS.l0, if_neg (by simp)]
  | @cons x y A B N a b c hA hB hN ihA ihB ihN =>
    intro pre k hp hk
    obtain ⟨k, rfl⟩ : ∃ m, k = m + 3 := ⟨k - 3, by omega⟩
    have hl : (pre ++ (⟨x, y, A, B⟩ : S53) :: N).length = pre.length + 1 + N.length := by simp; omega
    have hNl := cnt_len hN
    have eA : laws_eqNodeS.f (k + 1) A A = some true := by
      rw [laws_eqNodeS.f, if_pos rfl]
      exact ihA [] k (by simp; omega) (by omega)
    have eB : laws_eqNodeS.f (k + 1) B B = some true := by
      rw [laws_eqNodeS.f, if_pos rfl]
      exact ihB [] k (by simp; omega) (by omega)
    rw [laws_eqNodeS.l0, if_pos (by omega), if_pos (by omega), if_pos (by omega), rd53_nat, getD_mid]
    dsimp only
    rw [laws_eqNode.f, if_pos rfl, if_pos rfl, eA, Option.bind_some, if_pos rfl, eB, Option.bind_some, if_pos rfl, Option.bind_some, if_pos rfl, w64 (by omega)]
    have := ihN (pre ++ [⟨x, y, A, B⟩]) (k + 2) (by simp; omega) (by omega)
    rw [List.append_assoc] at this
    rw [show (pre.length : Int) + 1 = ((pre ++ [(⟨x, y, A, B⟩ : S53)]).length : Int) by simp]
    exact this
theorem eq_refl {N : List S53} {c : Nat} (h : Cnt N c) (hc : c ≤ 1000) (k : Nat) (hk : 5000 ≤ k) : laws_eqNodeS.f k N N = some true := by
  obtain ⟨k, rfl⟩ : ∃ m, k = m + 1 := ⟨k - 1, by omega⟩
  rw [laws_eqNodeS.f, if_pos rfl]
  exact eq_l0 h [] k (by simp; omega) (by omega)
theorem mark_l0 {N : List S53} {c : Nat} (h : Cnt N c) : ∀ (a : Int), 0 ≤ a → a + 2 * c ≤ 1000000000 → c ≤ 1000000 →
    ∃ M : List S53, M.length = N.length ∧ (∀ (pre : List S53) (k : Nat), 3 * c + 3 ≤ k → laws_markNodeS.l0 k (pre ++ N) a pre.length = some (a + 2 * c, pre ++ M)) ∧
      ∀ (pre : List S53) (k : Nat), pre.length + c ≤ 1000000 → 3 * c + 3 ≤ k → laws_heldNodeS.l0 k (pre ++ M) a (pre.length : Int) = some (a + 2 * c) := by
  induction h with
  | nil =>
    intro a h0 h1 hc
    refine ⟨[], rfl, fun pre k hk => ?_, fun pre k hp hk => ?_⟩
    · obtain ⟨k, rfl⟩ : ∃ m, k = m + 1 := ⟨k - 1, by omega⟩
      rw [laws_markNodeS.l0, if_neg (by simp)]
      simp
    · obtain ⟨k, rfl⟩ : ∃ m, k = m + 1 := ⟨k - 1, by omega⟩
      rw [laws_heldNodeS.l0, if_neg (by simp)]
      simp
  | @cons x y A B N ca cb c hA hB hN ihA ihB ihN =>
    intro a h0 h1 hc
    obtain ⟨MA, lA, mA, dA⟩ := ihA (a + 1 + 1) (by omega) (by omega) (by omega)
    obtain ⟨MB, lB, mB, dB⟩ := ihB (a + 1 + 1 + 2 * ca) (by omega) (by omega) (by omega)
    obtain ⟨MN, lN, mN, dN⟩ := ihN (a + 1 + 1 + 2 * ca + 2 * cb) (by omega) (by omega) (by omega)
    have hNl := cnt_len hN
    have w1 : wrap64 (a + 1) = a + 1 := w64 (by omega)
    have w2 : wrap64 (a + 1 + 1) = a + 1 + 1 := w64 (by omega)
    refine ⟨⟨a, a + 1, MA, MB⟩ :: MN, by simp [lN], fun pre k hk => ?_, fun pre k hp hk => ?_⟩
    · obtain ⟨k, rfl⟩ : ∃ m, k = m + 2 := ⟨k - 2, by omega⟩
      have eA : laws_markNodeS.f (k + 1) A (a + 1 + 1) = some (a + 1 + 1 + 2 * ca, MA) := by
        rw [laws_markNodeS.f]
        exact mA [] k (by omega)
      have eB : laws_markNodeS.f (k + 1) B (a + 1 + 1 + 2 * ca) = some (a + 1 + 1 + 2 * ca + 2 * cb, MB) := by
        rw [laws_markNodeS.f]
        exact mB [] k (by omega)
      rw [laws_markNodeS.l0, if_pos (by simp), getD_mid]
      dsimp only
      rw [w1, w2, eA, Option.bind_some]
      dsimp only
      rw [eB, Option.bind_some]
      dsimp only
      have := mN (pre ++ [⟨a, a + 1, MA, MB⟩]) (k + 1) (by omega)
      rw [show (pre ++ (⟨x, y, A, B⟩ : S53) :: N).set pre.length ⟨a, a + 1, MA, MB⟩ = pre ++ [⟨a, a + 1, MA, MB⟩] ++ N by simp [List.set_append], show pre.length + 1 = (pre ++ [(⟨a, a + 1, MA, MB⟩ : S53)]).length by simp, this]
      rw [List.append_assoc]
      congr 2
      omega
    · obtain ⟨k, rfl⟩ : ∃ m, k = m + 2 := ⟨k - 2, by omega⟩
      have hl : (pre ++ (⟨a, a + 1, MA, MB⟩ : S53) :: MN).length = pre.length + 1 + N.length := by simp [lN]; omega
      have eA : laws_heldNodeS.f (k + 1) MA (a + 1 + 1) = some (a + 1 + 1 + 2 * ca) := by
        rw [laws_heldNodeS.f]
        exact dA [] k (by simp; omega) (by omega)
      have eB : laws_heldNodeS.f (k + 1) MB (a + 1 + 1 + 2 * ca) = some (a + 1 + 1 + 2 * ca + 2 * cb) := by
        rw [laws_heldNodeS.f]
        exact dB [] k (by simp; omega) (by omega)
      rw [laws_heldNodeS.l0, if_pos (by omega), if_pos (by omega), rd53_nat, getD_mid]
      dsimp only
      rw [if_pos rfl, w1, if_pos rfl, w2, eA, Option.bind_some, if_neg (by omega), eB, Option.bind_some, if_neg (by omega), w64 (by omega)]
      have := dN (pre ++ [⟨a, a + 1, MA, MB⟩]) (k + 1) (by simp; omega) (by omega)
      rw [List.append_assoc] at this
      rw [show (pre.length : Int) + 1 = ((pre ++ [(⟨a, a + 1, MA, MB⟩ : S53)]).length : Int) by simp]
      refine Eq.trans this ?_
      congr 1
      omega
theorem mark_held {N : List S53} {c : Nat} (h : Cnt N c) (a : Int) (h0 : 0 ≤ a) (h1 : a ≤ 1000) (hc : c ≤ 1000) :
    ∃ M : List S53, (∀ k, 5000 ≤ k → laws_markNodeS.f k N a = some (a + 2 * c, M)) ∧ ∀ k, 5000 ≤ k → laws_heldNodeS.f k M a = some (a + 2 * c) := by
  obtain ⟨M, -, hm, hd⟩ := mark_l0 h a h0 (by omega) (by omega)
  refine ⟨M, fun k hk => ?_, fun k hk => ?_⟩
  · obtain ⟨k, rfl⟩ : ∃ m, k = m + 1 := ⟨k - 1, by omega⟩
    rw [laws_markNodeS.f]
    exact hm [] k (by omega)
  · obtain ⟨k, rfl⟩ : ∃ m, k = m + 1 := ⟨k - 1, by omega⟩
    rw [laws_heldNodeS.f]
    exact hd [] k (by simp; omega) (by omega)
def checkR (l : List S44) : Int × Int :=
  if (walkW l l.length 0 []).2 = -1 then (if 0 < (walkW l l.length 0 []).1.length then ((l.length : Int), 12) else (0, 0)) else ((walkW l l.length 0 []).2, 12)
theorem spec_check_l0 (l : List S44) (hl : l.length ≤ 60) : ∀ d k (i : Nat) (o : List Int), i + d = l.length → d + 3 < k → InvO o →
    spec_l07Check.l0 k l o (i : Int) = some (if (walkW l d i o).2 = -1 then (if 0 < (walkW l d i o).1.length then ((l.length : Int), 12) else (0, 0)) else ((walkW l d i o).2, 12))
  | 0, k, i, o, h, hk, _ => by
    obtain ⟨k, rfl⟩ : ∃ m, k = m + 1 := ⟨k - 1, by omega⟩
    simp only [spec_l07Check.l0]
    rw [if_neg (by omega)]
    unfold walkW
    simp only [if_true]
    by_cases c : 0 < o.length
    · rw [if_pos (by omega), if_pos c]
    · rw [if_neg (by omega), if_neg c]
  | d + 1, k, i, o, h, hk, ho => by
    obtain ⟨k, rfl⟩ : ∃ m, k = m + 1 := ⟨k - 1, by omega⟩
    simp only [spec_l07Check.l0]
    have hol := ho.1
    obtain ⟨l', e, hq⟩ := spec_step o (l.getD i z44).f0 (by omega) k (by omega)
    rw [if_pos (by omega), if_pos (by omega), rd44_nat, e, Option.bind_some]
    unfold walkW
    cases hs : stepW o (l.getD i z44).f0 with
    | none =>
      simp only [Option.isSome_none]
      rw [if_neg (by decide), if_neg (by omega)]
    | some q =>
      simp only [Option.isSome_some, if_true]
      rw [hq q hs, w64 (by omega), show (i : Int) + 1 = ((i + 1 : Nat) : Int) by omega]
      exact spec_check_l0 l hl d k (i + 1) q (by omega) (by omega) (inv_step ho hs)
theorem checkR_ok {l : List S44} (h : (checkR l).2 = 0) : Good l 0 [] := by
  unfold checkR at h
  unfold Good
  generalize he : walkW l l.length 0 [] = q at h
  obtain ⟨q1, q2⟩ := q
  simp only at h
  by_cases c : q2 = -1
  · rw [if_pos c] at h
    by_cases c1 : 0 < q1.length
    · rw [if_pos c1] at h; exact absurd h (show ¬ ((12 : Int) = 0) by decide)
    · obtain rfl := List.length_eq_zero_iff.1 (show q1.length = 0 by omega)
      rw [c]
  · rw [if_neg c] at h; exact absurd h (show ¬ ((12 : Int) = 0) by decide)
theorem checkR_code (l : List S44) : (checkR l).2 = 0 ∨ (checkR l).2 = 12 := by
  unfold checkR
  repeat' split
  all_goals simp
theorem itemsCode_kinds {l : List S44} (h : itemsCode l = 0) : ∀ i, i < l.length → kinds (l.getD i z44).f0 := by
  unfold itemsCode at h
  by_cases c1 : l.length > 4096
  · rw [if_pos c1] at h; exact absurd h (by decide)
  · rw [if_neg c1] at h
    by_cases c2 : l.length > 60
    · rw [if_pos c2] at h; exact absurd h (by decide)
    · rw [if_neg c2] at h
      cases ha : l.all itemOK
      · rw [ha] at h; exact absurd h (by decide)
      · intro i hi
        have hx := List.all_eq_true.1 ha (l.getD i z44) (by rw [List.getD_eq_getElem?_getD, List.getElem?_eq_getElem hi]; exact List.getElem_mem hi)
        unfold itemOK at hx
        unfold kinds
        by_cases k1 : (l.getD i z44).f0 = 1
        · exact .inl k1
        · rw [if_neg k1] at hx
          by_cases k2 : (l.getD i z44).f0 = 2
          · exact .inr (.inl k2)
          · rw [if_neg k2, Bool.and_eq_true, inR_iff] at hx
            exact .inr (.inr hx.1)
/-- The tree and the error of a row of items: one pair for both. -/
theorem both (l : List S44) (hl : l.length ≤ 1048576) : ∃ N c e, Cnt N c ∧ c ≤ 60 ∧ ∀ k, 1048600 < k → spec_TreeOf.f k l = some (N, e) ∧ impl_TreeOf.f k l = some (N, e) := by
  by_cases c0 : itemsCode l = 0
  · have h60 := itemsCode_len c0
    have hs : ∀ k, 1048600 < k → spec_l07Check.f k l = some (checkR l) := fun k hk => by
      rw [spec_l07Check.f, show (0 : Int) = ((0 : Nat) : Int) from rfl, spec_check_l0 l h60 l.length k 0 [] (by omega) (by omega) inv_nil]
      rfl
    have hi : ∀ k, 1048600 < k → impl_CheckItems.f k l = some (checkR l) := fun k hk => by
      unfold impl_CheckItems.f
      rw [impl_itemsCode_eq l hl k (by omega), Option.bind_some, if_pos c0, impl_checkItems.f, openAt_eq l hl k (by omega), Option.bind_some]
      unfold checkR
      have hb := walkW_bd l l.length 0 []
      generalize walkW l l.length 0 [] = q at hb
      obtain ⟨q1, q2⟩ := q
      simp only at hb ⊢
      by_cases c1 : q2 = -1
      · rw [if_pos (by omega), if_pos c1]
        by_cases c2 : 0 < q1.length
        · rw [if_pos (by omega), if_pos c2, Option.bind_some, if_pos (by omega)]
        · rw [if_neg (by omega), if_neg c2, Option.bind_some, if_neg (by omega)]
      · rw [if_neg (by omega), if_neg c1, Option.bind_some, if_pos (by omega)]
    by_cases c1 : (checkR l).2 = 0
    · obtain ⟨N, j, c, hr, hc, hij, hjn, hg, -⟩ := rows l h60 (itemsCode_kinds c0) l.length 0 [] (by omega) (checkR_ok c1)
      refine ⟨N, c, 0, hc, by omega, fun k hk => ⟨?_, ?_⟩⟩
      · obtain ⟨k, rfl⟩ : ∃ m, k = m + 1 := ⟨k - 1, by omega⟩
        unfold spec_TreeOf.f
        rw [if_neg (by omega), spec_l07Ask_eq l hl _ (by omega), Option.bind_some, if_pos c0, hs _ hk, Option.bind_some, if_pos c1]
        unfold spec_l09Tree.f
        simp only [spec_l09Parse.f]
        rw [show (0 : Int) = ((0 : Nat) : Int) from rfl, (hr [] k (by omega) (by simp; omega)).1]
        rfl
      · obtain ⟨k, rfl⟩ : ∃ m, k = m + 1 := ⟨k - 1, by omega⟩
        unfold impl_TreeOf.f
        rw [hi _ hk, Option.bind_some, if_pos c1]
        simp only [impl_grower_row.f]
        rw [show (0 : Int) = ((0 : Nat) : Int) from rfl, (hr [] k (by omega) (by simp; omega)).2]
        rfl
    · refine ⟨[], 0, (checkR l).2, .nil, by omega, fun k hk => ⟨?_, ?_⟩⟩
      · unfold spec_TreeOf.f
        rw [if_neg (by omega), spec_l07Ask_eq l hl _ (by omega), Option.bind_some, if_pos c0, hs _ hk, Option.bind_some, if_neg c1]
      · unfold impl_TreeOf.f
        rw [hi _ hk, Option.bind_some, if_neg c1]
  · refine ⟨[], 0, itemsCode l, .nil, by omega, fun k hk => ⟨?_, ?_⟩⟩
    · unfold spec_TreeOf.f
      by_cases c1 : (l.length : Int) > 4096
      · have e : itemsCode l = 2 := by unfold itemsCode; rw [if_pos (by omega)]
        rw [if_pos c1, e]
      · rw [if_neg c1, spec_l07Ask_eq l hl _ (by omega), Option.bind_some, if_neg c0]
    · unfold impl_TreeOf.f impl_CheckItems.f
      rw [impl_itemsCode_eq l hl k (by omega), Option.bind_some, if_neg c0, Option.bind_some, if_neg c0]
theorem markItems (l : List S44) (hl : l.length ≤ 1048576) (k : Nat) (hk : l.length < k) : ∃ a r, laws_markItemS.f k l 1 = some (a, r) ∧ ¬ a < 0 := by
  have h := mark_loop (fun k x m i => laws_markItemS.l0 k x m i) l.length (fun i => 1 + 2 * (i : Int)) (fun i => (⟨1 + 2 * (i : Int), 1 + 2 * (i : Int) + 1⟩ : S44)) (fun k x i hi hx => by
    simp only [laws_markItemS.l0]
    rw [if_pos (by omega), if_pos (by omega), Option.bind_some, Int.toNat_natCast, List.set_set, rd44_nat, w64 (by omega), w64 (by omega), w64 (by omega)]
    rw [List.getD_eq_getElem?_getD, List.getElem?_set_self (by omega)]
    simp only [Option.getD_some]
    congr 1) (fun k x hx => by
    simp only [laws_markItemS.l0]
    rw [if_neg (by omega)]) l rfl k hk
  exact ⟨1 + 2 * (l.length : Int), _, by unfold laws_markItemS.f; simpa using h, by omega⟩
theorem FnExactTreeOf : laws_FnExactTreeOf.Pure := by
  intro l hl
  refine ⟨2000000, ?_⟩
  unfold laws_FnExactTreeOf.f
  rw [laws_szItemS_eq l 1048576 (by omega) (by omega) hl.1, Option.bind_some]
  by_cases c : (1048576 : Int) - (l.length : Int) < 0
  · rw [if_pos c, if_pos (by omega)]
  · have hm : (l.map toI).length ≤ 1048576 := by simp; omega
    rw [if_neg c, if_neg (by omega), laws_toItemS_eq l (by omega) _ (by omega)]
    obtain ⟨N, cn, e, hc, hcn, hb⟩ := both (l.map toI) hm
    obtain ⟨h1, h2⟩ := hb 2000000 (by omega)
    obtain ⟨a, r, hmk, ha⟩ := markItems (l.map toI) hm 2000000 (by omega)
    obtain ⟨M, hM, hH⟩ := mark_held hc 1 (by omega) (by omega) (by omega)
    have hE := eq_refl hc (by omega) 2000000 (by omega)
    simp only [Option.bind_some]
    rw [h1]
    simp only [Option.bind_some]
    rw [h2]
    simp only [Option.bind_some]
    rw [hE]
    simp only [Option.bind_some, if_true]
    rw [laws_eqItemS_refl _ hm _ (by omega)]
    simp only [Option.bind_some, if_true]
    rw [hmk]
    simp only [Option.bind_some, if_true]
    rw [if_neg ha, hM 2000000 (by omega)]
    simp only [Option.bind_some, if_true]
    rw [hH 2000000 (by omega)]
    simp only [Option.bind_some, if_true]
    rw [if_neg (by omega), if_neg (by omega)]
end Go.Proofs.Ythmcanjeeljnhaa.Pure
