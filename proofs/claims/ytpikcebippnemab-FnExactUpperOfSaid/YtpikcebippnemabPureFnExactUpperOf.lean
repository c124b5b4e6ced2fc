/- The law FnExactUpperOf answers true for every text: both make the same small letters capitals. No condition. -/
import Derived.Test.YtpikcebippnemabPFnExactUpperOfx1
namespace Go.Proofs.Ytpikcebippnemab.Pure
open Go.RowKit Go.Proofs.Ytpikcebippnemab.PFnExactUpperOf Go.Proofs.YtpikcebippnemabW.PrintWords Go.Proofs.YtpikcebippnemabW.PrintLast
set_option linter.unusedSimpArgs false
set_option linter.unusedVariables false

theorem bd64 {n : Int} (h : (Lit.int .i64 n).wf = true) : -9223372036854775808 ≤ n ∧ n ≤ 9223372036854775807 := by
  simp [Lit.wf, IntKind.min, IntKind.max, IntKind.signed, IntKind.bits] at h
  omega
/-- n lies from lo to hi. -/
def inR (n lo hi : Int) : Bool := decide (lo ≤ n ∧ n ≤ hi)
/-- A cell: 32 bits with a sign. -/
def isCell (n : Int) : Bool := decide (-2147483648 ≤ n ∧ n ≤ 2147483647)
theorem isCell_iff {n : Int} : isCell n = true ↔ (-2147483648 ≤ n ∧ n ≤ 2147483647) := by simp [isCell]
theorem inR_iff {n lo hi : Int} : inR n lo hi = true ↔ (lo ≤ n ∧ n ≤ hi) := by simp [inR]
theorem w64 {n : Int} (h : -9223372036854775808 ≤ n ∧ n ≤ 9223372036854775807) : wrap64 n = n := by unfold wrap64; omega
theorem w64_cell (n : Int) : wrap64 (wrap32 n) = wrap32 n := by unfold wrap64 wrap32; omega
theorem w32_cell {n : Int} (h : isCell n = true) : wrap32 n = n := by rw [isCell_iff] at h; unfold wrap32; omega
theorem cell_w32 (n : Int) : isCell (wrap32 n) = true := by rw [isCell_iff]; unfold wrap32; omega
theorem w32_eq (n : Int) : (wrap32 n == n) = isCell n := by
  rw [Bool.eq_iff_iff, isCell_iff]
  simp only [beq_iff_eq]
  unfold wrap32
  omega
/-- All of d numbers from i on. -/
def allF (P : Nat → Bool) : Nat → Nat → Bool
  | 0, _ => true
  | d + 1, i => P i && allF P d (i + 1)
theorem allF_congr {P Q : Nat → Bool} : ∀ d i, (∀ j, i ≤ j → j < i + d → P j = Q j) → allF P d i = allF Q d i
  | 0, _, _ => rfl
  | d + 1, i, h => by
    simp only [allF]
    rw [h i (Nat.le_refl _) (by omega), allF_congr d (i + 1) (fun j h1 h2 => h j (by omega) (by omega))]
theorem allF_true {P : Nat → Bool} : ∀ d i, (∀ j, i ≤ j → j < i + d → P j = true) → allF P d i = true
  | 0, _, _ => rfl
  | d + 1, i, h => by
    simp only [allF]
    rw [h i (Nat.le_refl _) (by omega), allF_true d (i + 1) (fun j h1 h2 => h j (by omega) (by omega))]
    rfl
theorem allF_all {α : Type} (p : α → Bool) (z : α) (l : List α) : ∀ d i, i + d = l.length → allF (fun j => p (l.getD j z)) d i = (l.drop i).all p
  | 0, i, h => by simp [allF, List.drop_of_length_le (show l.length ≤ i by omega)]
  | d + 1, i, h => by
    simp only [allF]
    rw [allF_all p z l d (i + 1) (by omega), List.drop_eq_getElem_cons (by omega : i < l.length), List.all_cons]
    simp [List.getD_eq_getElem?_getD, List.getElem?_eq_getElem (by omega : i < l.length)]
/-- A loop that leaves with false at the first number of which P does not hold. -/
theorem loop_all (F : Nat → Int → Option Bool) (n : Nat) (P : Nat → Bool) (fin : Bool)
    (hs : ∀ k (i : Nat), i < n → F (k + 1) i = if P i = true then F k ((i : Int) + 1) else some false) (he : ∀ k, F (k + 1) (n : Int) = some fin) :
    ∀ d k (i : Nat), i + d = n → d < k → F k i = some (allF P d i && fin)
  | 0, k, i, h, hk => by
    obtain ⟨k, rfl⟩ : ∃ m, k = m + 1 := ⟨k - 1, by omega⟩
    obtain rfl : i = n := by omega
    rw [he]
    simp [allF]
  | d + 1, k, i, h, hk => by
    obtain ⟨k, rfl⟩ : ∃ m, k = m + 1 := ⟨k - 1, by omega⟩
    rw [hs k i (by omega)]
    have ih := loop_all F n P fin hs he d k (i + 1) (by omega) (by omega)
    rw [show ((i + 1 : Nat) : Int) = (i : Int) + 1 by omega] at ih
    rw [ih]
    cases hp : P i <;> simp [allF, hp]
theorem loop_all0 (F : Nat → Int → Option Bool) (n : Nat) (P : Nat → Bool) (fin : Bool)
    (hs : ∀ k (i : Nat), i < n → F (k + 1) i = if P i = true then F k ((i : Int) + 1) else some false) (he : ∀ k, F (k + 1) (n : Int) = some fin) (k : Nat) (hk : n < k) : F k 0 = some (allF P n 0 && fin) :=
  loop_all F n P fin hs he n k 0 (by omega) hk
theorem bt_nums (s : ByteArray) (i : Nat) (h : i < s.size) : bt s (i : Int) = (numsB s).getD i 0 := by
  have hl : s.size = s.data.toList.length := by simp
  have hj' : i < s.data.toList.length := by omega
  simp only [bt, Int.toNat_natCast]
  rw [dif_pos h]
  simp [numsB, List.getD_eq_getElem?_getD, List.getElem?_map, List.getElem?_eq_getElem hj']
  rfl
theorem up_snoc (s : ByteArray) (i : Nat) (h : i < s.size) : ((numsB s).take i).map up1 ++ [up1 ((numsB s).getD i 0)] = ((numsB s).take (i + 1)).map up1 := by
  have hl : i < (numsB s).length := by rw [numsB_length]; exact h
  rw [List.take_succ_eq_append_getElem hl, List.map_append]
  simp [List.getD_eq_getElem?_getD, List.getElem?_eq_getElem hl]
theorem spec_upper_l0 (s : ByteArray) (hs : s.size ≤ 140737488351232) : ∀ d k (i : Nat), i + d = s.size → d < k → spec_l02Upper.l0 k s (((numsB s).take i).map up1) (i : Int) = some (strOfNums ((numsB s).map up1))
  | 0, k, i, h, hk => by
    obtain ⟨k, rfl⟩ : ∃ m, k = m + 1 := ⟨k - 1, by omega⟩
    simp only [spec_l02Upper.l0]
    rw [if_neg (by omega), List.take_of_length_le (by rw [numsB_length]; omega)]
  | d + 1, k, i, h, hk => by
    obtain ⟨k, rfl⟩ : ∃ m, k = m + 1 := ⟨k - 1, by omega⟩
    have ih := spec_upper_l0 s hs d k (i + 1) (by omega) (by omega)
    have hl : (((numsB s).take i).map up1).length < 140737488355328 := by
      rw [List.length_map, List.length_take, numsB_length]
      omega
    simp only [spec_l02Upper.l0]
    rw [if_pos (by omega), if_pos (by omega), bt_nums s i (by omega), w64 (by omega), show (i : Int) + 1 = ((i + 1 : Nat) : Int) by omega, ← ih, ← up_snoc s i (by omega)]
    have hu : up1 ((numsB s).getD i 0) = if 97 ≤ (numsB s).getD i 0 then (if (numsB s).getD i 0 ≤ 122 then ((numsB s).getD i 0 - 32) % 256 else (numsB s).getD i 0) else (numsB s).getD i 0 := rfl
    rw [hu]
    clear hu
    simp only [if_pos hl]
    by_cases h1 : 97 ≤ (numsB s).getD i 0
    · by_cases h2 : (numsB s).getD i 0 ≤ 122
      · rw [if_pos h1, if_pos h2, if_pos h1, if_pos h2]
      · rw [if_pos h1, if_neg h2, if_pos h1, if_neg h2]
    · rw [if_neg h1, if_neg h1]
theorem spec_l02Upper_eq (s : ByteArray) (hs : s.size ≤ 140737488351232) (k : Nat) (hk : s.size < k) : spec_l02Upper.f k s = some (strOfNums ((numsB s).map up1)) := by
  have h := spec_upper_l0 s hs s.size k 0 (by omega) hk
  simpa [spec_l02Upper.f] using h
theorem FnExactUpperOf : laws_FnExactUpperOf.Pure := by
  intro s hs
  refine ⟨s.size + 1, ?_⟩
  unfold laws_FnExactUpperOf.f spec_UpperOf.f impl_UpperOf.f
  by_cases h : (s.size : Int) > 1048576
  · rw [if_pos h]
  · rw [if_neg h]
    by_cases h2 : (s.size : Int) > 65536
    · rw [if_pos h2, if_pos h2]
      simp
    · rw [if_neg h2, if_neg h2, spec_l02Upper_eq s hs _ (by omega)]
      simp
end Go.Proofs.Ytpikcebippnemab.Pure
