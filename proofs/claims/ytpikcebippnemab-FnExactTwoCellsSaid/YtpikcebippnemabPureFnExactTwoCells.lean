/- The law FnExactTwoCells answers true for all three numbers: both compute the same cell, division rounded down. No condition. -/
import Derived.Test.YtpikcebippnemabPFnExactTwoCellsx2
namespace Go.Proofs.Ytpikcebippnemab.Pure
open Go.RowKit Go.Proofs.Ytpikcebippnemab.PFnExactTwoCells Go.Proofs.YtpikcebippnemabW.PrintWords Go.Proofs.YtpikcebippnemabW.PrintLast
set_option linter.unusedSimpArgs false
set_option linter.unusedVariables false

theorem bd64 {n : Int} (h : (Lit.int .i64 n).wf = true) : -9223372036854775808 ≤ n ∧ n ≤ 9223372036854775807 := by
  simp [Lit.wf, IntKind.min, IntKind.max, IntKind.signed, IntKind.bits] at h
  omega
/-- n lies from lo to hi. -/
def inR (n lo hi : Int) : Bool := decide (lo ≤ n ∧ n ≤ hi)
/-- A cell: 32 bits with a sign. -/
def isCell (n : Int) : Bool := decide (-2147483648 ≤ n ∧ n ≤ 2147483647)
theorem isCell_iff {n : Int} : isCell n = true ↔ (-2147483648 ≤ n ∧ n ≤ 2147483647) := by simp [isCell]
theorem inR_iff {n lo hi : Int} : inR n lo hi = true ↔ (lo ≤ n ∧ n ≤ hi) := by simp [inR]
theorem w64 {n : Int} (h : -9223372036854775808 ≤ n ∧ n ≤ 9223372036854775807) : wrap64 n = n := by unfold wrap64; omega
theorem w64_cell (n : Int) : wrap64 (wrap32 n) = wrap32 n := by unfold wrap64 wrap32; omega
theorem w32_cell {n : Int} (h : isCell n = true) : wrap32 n = n := by rw [isCell_iff] at h; unfold wrap32; omega
theorem cell_w32 (n : Int) : isCell (wrap32 n) = true := by rw [isCell_iff]; unfold wrap32; omega
theorem w32_eq (n : Int) : (wrap32 n == n) = isCell n := by
  rw [Bool.eq_iff_iff, isCell_iff]
  simp only [beq_iff_eq]
  unfold wrap32
  omega
/-- All of d numbers from i on. -/
def allF (P : Nat → Bool) : Nat → Nat → Bool
  | 0, _ => true
  | d + 1, i => P i && allF P d (i + 1)
theorem allF_congr {P Q : Nat → Bool} : ∀ d i, (∀ j, i ≤ j → j < i + d → P j = Q j) → allF P d i = allF Q d i
  | 0, _, _ => rfl
  | d + 1, i, h => by
    simp only [allF]
    rw [h i (Nat.le_refl _) (by omega), allF_congr d (i + 1) (fun j h1 h2 => h j (by omega) (by omega))]
theorem allF_true {P : Nat → Bool} : ∀ d i, (∀ j, i ≤ j → j < i + d → P j = true) → allF P d i = true
  | 0, _, _ => rfl
  | d + 1, i, h => by
    simp only [allF]
    rw [h i (Nat.le_refl _) (by omega), allF_true d (i + 1) (fun j h1 h2 => h j (by omega) (by omega))]
    rfl
theorem allF_all {α : Type} (p : α → Bool) (z : α) (l : List α) : ∀ d i, i + d = l.length → allF (fun j => p (l.getD j z)) d i = (l.drop i).all p
  | 0, i, h => by simp [allF, List.drop_of_length_le (show l.length ≤ i by omega)]
  | d + 1, i, h => by
    simp only [allF]
    rw [allF_all p z l d (i + 1) (by omega), List.drop_eq_getElem_cons (by omega : i < l.length), List.all_cons]
    simp [List.getD_eq_getElem?_getD, List.getElem?_eq_getElem (by omega : i < l.length)]
/-- A loop that leaves with false at the first number of which P does not hold. -/
theorem loop_all (F : Nat → Int → Option Bool) (n : Nat) (P : Nat → Bool) (fin : Bool)
    (hs : ∀ k (i : Nat), i < n → F (k + 1) i = if P i = true then F k ((i : Int) + 1) else some false) (he : ∀ k, F (k + 1) (n : Int) = some fin) :
    ∀ d k (i : Nat), i + d = n → d < k → F k i = some (allF P d i && fin)
  | 0, k, i, h, hk => by
    obtain ⟨k, rfl⟩ : ∃ m, k = m + 1 := ⟨k - 1, by omega⟩
    obtain rfl : i = n := by omega
    rw [he]
    simp [allF]
  | d + 1, k, i, h, hk => by
    obtain ⟨k, rfl⟩ : ∃ m, k = m + 1 := ⟨k - 1, by omega⟩
    rw [hs k i (by omega)]
    have ih := loop_all F n P fin hs he d k (i + 1) (by omega) (by omega)
    rw [show ((i + 1 : Nat) : Int) = (i : Int) + 1 by omega] at ih
    rw [ih]
    cases hp : P i <;> simp [allF, hp]
theorem loop_all0 (F : Nat → Int → Option Bool) (n : Nat) (P : Nat → Bool) (fin : Bool)
    (hs : ∀ k (i : Nat), i < n → F (k + 1) i = if P i = true then F k ((i : Int) + 1) else some false) (he : ∀ k, F (k + 1) (n : Int) = some fin) (k : Nat) (hk : n < k) : F k 0 = some (allF P n 0 && fin) :=
  loop_all F n P fin hs he n k 0 (by omega) hk
theorem spec_l01In_eq (a b c : Int) : spec_l01In.f a b c = some (inR a b c) := by
  unfold spec_l01In.f
  by_cases h1 : a ≥ b
  · have h2 : b ≤ a := h1
    by_cases h3 : a ≤ c <;> simp [h1, inR, h2, h3]
  · have h2 : ¬ b ≤ a := h1
    simp [inR, h2]
theorem impl_in_eq (a b c : Int) : impl_in.f a b c = some (inR a b c) := by
  unfold impl_in.f
  by_cases h1 : b ≤ a
  · by_cases h3 : a ≤ c <;> simp [inR, h1, h3]
  · simp [inR, h1]
theorem spec_l01Cell_eq (a : Int) : spec_l01Cell.f a = some (isCell a) := by
  unfold spec_l01Cell.f
  rw [spec_l01In_eq]
  rfl
theorem impl_WrapCell_eq (a : Int) : impl_WrapCell.f a = some (wrap32 a) := by
  unfold impl_WrapCell.f
  rw [w64_cell]
theorem impl_CellOK_eq (a : Int) : impl_CellOK.f a = some (isCell a) := by
  unfold impl_CellOK.f
  rw [impl_WrapCell_eq, Option.bind_some, w32_eq]
theorem u64_wrap (a : Int) : IntKind.u64.wrap a = a % 18446744073709551616 := by
  simp [IntKind.wrap, IntKind.bits, IntKind.signed]
theorem spec_Wrap_eq (a : Int) : spec_l01Wrap.f a = some (wrap32 a) := by
  unfold spec_l01Wrap.f
  rw [u64_wrap]
  congr 1
  unfold wrap64 wrap32
  omega
theorem shl_same (a b : Int) (h0 : 0 ≤ b) (h1 : b ≤ 31) : wrap64 (wrap32 (shl .u32 (wrap32 a % 4294967296) (IntKind.u64.wrap b))) = wrap32 (shl .i64 a b) := by
  rw [u64_wrap, show b % 18446744073709551616 = b by omega, w64_cell]
  unfold shl
  have e1 : min b.toNat IntKind.u32.bits = b.toNat := by simp [IntKind.bits]; omega
  have e2 : min b.toNat IntKind.i64.bits = b.toNat := by simp [IntKind.bits]; omega
  rw [e1, e2]
  generalize hp : (2 : Int) ^ b.toNat = p
  have h2 : wrap32 a % 4294967296 = a - 4294967296 * (a / 4294967296) := by unfold wrap32; omega
  have h3 : (wrap32 a % 4294967296) * p = a * p - 4294967296 * (a / 4294967296 * p) := by
    rw [h2, Int.sub_mul, Int.mul_assoc]
  rw [h3]
  generalize a * p = x
  generalize a / 4294967296 * p = y
  simp [IntKind.wrap, IntKind.bits, IntKind.signed]
  unfold wrap32
  omega
theorem shr_same (x b : Int) (h0 : 0 ≤ b) (h1 : b ≤ 31) : shr .u32 x (IntKind.u64.wrap b) = shr .i64 x b := by
  rw [u64_wrap, show b % 18446744073709551616 = b by omega]
  unfold shr
  have e1 : min b.toNat IntKind.u32.bits = b.toNat := by simp [IntKind.bits]; omega
  have e2 : min b.toNat IntKind.i64.bits = b.toNat := by simp [IntKind.bits]; omega
  rw [e1, e2]
/-- The quotient rounded down. -/
def fl (a b : Int) : Int := if Int.tmod a b = 0 then Int.tdiv a b else if (decide (a < 0) != decide (b < 0)) = true then Int.tdiv a b - 1 else Int.tdiv a b
theorem tdiv_bd (a b : Int) (ha : isCell a = true) : -2147483648 ≤ Int.tdiv a b ∧ Int.tdiv a b ≤ 2147483648 := by
  rw [isCell_iff] at ha
  have h := Int.natAbs_tdiv_le_natAbs a b
  omega
theorem tmod_sign (a b : Int) (h : Int.tmod a b ≠ 0) : (decide (Int.tmod a b < 0)) = decide (a < 0) := by
  rw [Bool.eq_iff_iff]
  simp only [decide_eq_true_eq]
  rcases Int.lt_or_le a 0 with h1 | h1
  · have h2 : 0 ≤ Int.tmod (-a) b := Int.tmod_nonneg b (by omega)
    rw [Int.neg_tmod] at h2
    omega
  · have h2 : 0 ≤ Int.tmod a b := Int.tmod_nonneg b h1
    omega
theorem tmod_bd (a b : Int) (hb : isCell b = true) (h : b ≠ 0) : -2147483648 ≤ Int.tmod a b ∧ Int.tmod a b ≤ 2147483648 := by
  rw [isCell_iff] at hb
  have h1 := Int.tmod_lt_of_pos a (show 0 < (b.natAbs : Int) by omega)
  have h2 : Int.tmod a (b.natAbs : Int) = Int.tmod a b := by
    rcases Int.natAbs_eq b with e | e
    · rw [← e]
    · conv => rhs; rw [e]
      rw [Int.tmod_neg]
  have h3 := Int.tmod_lt_of_pos (-a) (show 0 < (b.natAbs : Int) by omega)
  rw [Int.neg_tmod, h2] at h3
  rw [h2] at h1
  omega
theorem spec_Floor_eq (a b : Int) (ha : isCell a = true) (h : b ≠ 0) : spec_l01Floor.f a b = some (fl a b) := by
  have h1 := tdiv_bd a b ha
  unfold spec_l01Floor.f fl
  rw [if_neg h, w64 (by omega), w64 (by omega)]
  split
  · rfl
  · split <;> rfl
theorem both (k : Nat) (o a b : Int) (ho : inR o 1 10 = true) (ha : isCell a = true) (hb : isCell b = true) (hk : 3 < k) : ∃ r, spec_l01Two.f k o a b = some r ∧ impl_twoCells.f k o a b = some r := by
  obtain ⟨k, rfl⟩ : ∃ m, k = m + 2 := ⟨k - 2, by omega⟩
  have ho' := inR_iff.mp ho
  have ha' := isCell_iff.mp ha
  have hb' := isCell_iff.mp hb
  unfold spec_l01Two.f impl_twoCells.f
  simp only [spec_l01Two.j0, impl_twoCells.j0, impl_twoCells.j1, spec_Wrap_eq, impl_WrapCell_eq, Option.bind_some, spec_l01In_eq, impl_in_eq, impl_unsigned.f]
  by_cases h1 : o = 1
  · rw [if_pos h1, if_pos h1]
    exact ⟨_, rfl, rfl⟩
  · rw [if_neg h1, if_neg h1]
    by_cases h2 : o = 2
    · rw [if_pos h2, if_pos h2]
      exact ⟨_, rfl, rfl⟩
    · rw [if_neg h2, if_neg h2]
      by_cases h3 : o = 3
      · rw [if_pos h3, if_pos h3]
        exact ⟨_, rfl, rfl⟩
      · rw [if_neg h3, if_neg h3]
        by_cases h45 : o = 4 ∨ o = 5
        · have hj : (if o = 4 then some (4 : Int) else some (5 : Int)) = some o := by rcases h45 with rfl | rfl <;> rfl
          have hs : (o == 4) = true ∨ (o = 5 ∧ (o == 5) = true) := by rcases h45 with rfl | rfl <;> simp
          by_cases hz : b = 0
          · refine ⟨(0, false), ?_, ?_⟩ <;> rcases h45 with rfl | rfl <;> simp [hz]
          · have d1 := tdiv_bd a b ha
            have d2 := tmod_bd a b hb hz
            have d3 := tmod_sign a b
            have d4 := Int.mul_tdiv_add_tmod a b
            rw [spec_Floor_eq a b ha hz]
            simp only [Option.bind_some]
            rcases h45 with rfl | rfl
            · refine ⟨(wrap32 (fl a b), true), by simp [hz], ?_⟩
              simp only [beq_self_eq_true, if_true]
              rw [if_neg hz, w64 (n := Int.tdiv a b) (by omega)]
              unfold fl
              by_cases hm : Int.tmod a b = 0
              · simp [hm]
              · rw [if_neg hm, if_neg hm, d3 hm, w64 (n := Int.tdiv a b - 1) (by omega)]
                cases decide (a < 0) != decide (b < 0) <;> simp
            · refine ⟨(a - fl a b * b, true), ?_, ?_⟩
              · simp only [beq_self_eq_true, if_true]
                rw [if_neg (by decide), if_neg hz, if_neg (by decide)]
                have e : -9223372036854775808 ≤ fl a b * b ∧ fl a b * b ≤ 9223372036854775807 ∧ -9223372036854775808 ≤ a - fl a b * b ∧ a - fl a b * b ≤ 9223372036854775807 := by
                  unfold fl
                  have e1 : Int.tdiv a b * b = a - Int.tmod a b := by rw [Int.mul_comm]; omega
                  have e2 : (Int.tdiv a b - 1) * b = a - Int.tmod a b - b := by rw [Int.sub_mul, e1]; omega
                  split
                  · rw [e1]; omega
                  · split
                    · rw [e2]; omega
                    · rw [e1]; omega
                rw [w64 (n := fl a b * b) (by omega), w64 (by omega)]
              · have e1 : Int.tdiv a b * b = a - Int.tmod a b := by rw [Int.mul_comm]; omega
                have e2 : (Int.tdiv a b - 1) * b = a - Int.tmod a b - b := by rw [Int.sub_mul, e1]; omega
                simp only [beq_self_eq_true, if_true]
                rw [if_neg (by decide), if_neg hz, w64 (n := Int.tmod a b + b) (by omega)]
                unfold fl
                by_cases hm : Int.tmod a b = 0
                · rw [if_pos hm, if_pos hm, e1, hm]
                  simp
                · rw [if_neg hm, if_neg hm, d3 hm]
                  cases decide (a < 0) != decide (b < 0)
                  · simp only [Bool.false_eq_true, if_false]
                    rw [e1, show a - (a - Int.tmod a b) = Int.tmod a b by omega]
                  · simp only [if_true]
                    rw [e2, show a - (a - Int.tmod a b - b) = Int.tmod a b + b by omega]
        · have h4 : ¬ o = 4 := fun h => h45 (.inl h)
          have h5 : ¬ o = 5 := fun h => h45 (.inr h)
          have h5' : (o == 5) = false := by simp [h5]
          rw [if_neg h4, if_neg h4, h5']
          simp only [Bool.false_eq_true, if_false]
          by_cases h6 : o = 6
          · rw [if_pos h6, if_pos h6]
            exact ⟨_, rfl, rfl⟩
          · rw [if_neg h6, if_neg h6]
            by_cases h7 : o = 7
            · rw [if_pos h7, if_pos h7]
              exact ⟨_, rfl, rfl⟩
            · rw [if_neg h7, if_neg h7]
              by_cases h8 : o = 8
              · rw [if_pos h8, if_pos h8]
                exact ⟨_, rfl, rfl⟩
              · rw [if_neg h8, if_neg h8]
                by_cases hr : inR b 0 31 = true
                · have hr' := inR_iff.mp hr
                  have hu : 0 ≤ IntKind.u64.wrap b := by rw [u64_wrap]; omega
                  rw [if_pos hr, if_pos hr, if_pos hr, if_pos hu, if_pos hu, shl_same a b hr'.1 hr'.2, shr_same _ b hr'.1 hr'.2, w64_cell]
                  by_cases h9 : o = 9
                  · rw [if_pos h9, if_pos h9, if_pos hr'.1]
                    exact ⟨_, rfl, rfl⟩
                  · rw [if_neg h9, if_neg h9, if_pos hr'.1]
                    exact ⟨_, rfl, rfl⟩
                · rw [if_neg hr, if_neg hr, if_neg hr]
                  by_cases h9 : o = 9
                  · rw [if_pos h9]
                    exact ⟨_, rfl, rfl⟩
                  · rw [if_neg h9]
                    exact ⟨_, rfl, rfl⟩
theorem FnExactTwoCells : laws_FnExactTwoCells.Pure := by
  intro o a b _ _ _
  refine ⟨10, ?_⟩
  unfold laws_FnExactTwoCells.f spec_TwoCells.f impl_TwoCells.f
  rw [spec_l01In_eq, impl_in_eq, spec_l01Cell_eq, spec_l01Cell_eq, impl_CellOK_eq, impl_CellOK_eq]
  simp only [Option.bind_some]
  by_cases h1 : inR o 1 10 = true
  · by_cases h2 : isCell a = true
    · by_cases h3 : isCell b = true
      · obtain ⟨r, e1, e2⟩ := both 10 o a b h1 h2 h3 (by omega)
        rw [if_pos h1, if_pos h2, if_pos h3, if_pos h1, if_pos h2, if_pos h3, e1, e2]
        simp
      · rw [if_pos h1, if_pos h2, if_neg h3, if_pos h1, if_pos h2, if_neg h3]
        simp
    · rw [if_pos h1, if_neg h2, if_pos h1, if_neg h2]
      simp
  · rw [if_neg h1, if_neg h1]
    simp
end Go.Proofs.Ytpikcebippnemab.Pure
