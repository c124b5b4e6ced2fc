/- The law FnExactCodeOf answers true for every text: both look through the same nineteen words in their order. No condition. -/
import Derived.Test.YtpikcebippnemabPFnExactCodeOfx1
namespace Go.Proofs.Ytpikcebippnemab.Pure
open Go.RowKit Go.Proofs.Ytpikcebippnemab.PFnExactCodeOf Go.Proofs.YtpikcebippnemabW.PrintWords Go.Proofs.YtpikcebippnemabW.PrintLast
set_option linter.unusedSimpArgs false
set_option linter.unusedVariables false

theorem bd64 {n : Int} (h : (Lit.int .i64 n).wf = true) : -9223372036854775808 ≤ n ∧ n ≤ 9223372036854775807 := by
  simp [Lit.wf, IntKind.min, IntKind.max, IntKind.signed, IntKind.bits] at h
  omega
/-- n lies from lo to hi. -/
def inR (n lo hi : Int) : Bool := decide (lo ≤ n ∧ n ≤ hi)
/-- A cell: 32 bits with a sign. -/
def isCell (n : Int) : Bool := decide (-2147483648 ≤ n ∧ n ≤ 2147483647)
theorem isCell_iff {n : Int} : isCell n = true ↔ (-2147483648 ≤ n ∧ n ≤ 2147483647) := by simp [isCell]
theorem inR_iff {n lo hi : Int} : inR n lo hi = true ↔ (lo ≤ n ∧ n ≤ hi) := by simp [inR]
theorem w64 {n : Int} (h : -9223372036854775808 ≤ n ∧ n ≤ 9223372036854775807) : wrap64 n = n := by unfold wrap64; omega
theorem w64_cell (n : Int) : wrap64 (wrap32 n) = wrap32 n := by unfold wrap64 wrap32; omega
theorem w32_cell {n : Int} (h : isCell n = true) : wrap32 n = n := by rw [isCell_iff] at h; unfold wrap32; omega
theorem cell_w32 (n : Int) : isCell (wrap32 n) = true := by rw [isCell_iff]; unfold wrap32; omega
theorem w32_eq (n : Int) : (wrap32 n == n) = isCell n := by
  rw [Bool.eq_iff_iff, isCell_iff]
  simp only [beq_iff_eq]
  unfold wrap32
  omega
/-- All of d numbers from i on. -/
def allF (P : Nat → Bool) : Nat → Nat → Bool
  | 0, _ => true
  | d + 1, i => P i && allF P d (i + 1)
theorem allF_congr {P Q : Nat → Bool} : ∀ d i, (∀ j, i ≤ j → j < i + d → P j = Q j) → allF P d i = allF Q d i
  | 0, _, _ => rfl
  | d + 1, i, h => by
    simp only [allF]
    rw [h i (Nat.le_refl _) (by omega), allF_congr d (i + 1) (fun j h1 h2 => h j (by omega) (by omega))]
theorem allF_true {P : Nat → Bool} : ∀ d i, (∀ j, i ≤ j → j < i + d → P j = true) → allF P d i = true
  | 0, _, _ => rfl
  | d + 1, i, h => by
    simp only [allF]
    rw [h i (Nat.le_refl _) (by omega), allF_true d (i + 1) (fun j h1 h2 => h j (by omega) (by omega))]
    rfl
theorem allF_all {α : Type} (p : α → Bool) (z : α) (l : List α) : ∀ d i, i + d = l.length → allF (fun j => p (l.getD j z)) d i = (l.drop i).all p
  | 0, i, h => by simp [allF, List.drop_of_length_le (show l.length ≤ i by omega)]
  | d + 1, i, h => by
    simp only [allF]
    rw [allF_all p z l d (i + 1) (by omega), List.drop_eq_getElem_cons (by omega : i < l.length), List.all_cons]
    simp [List.getD_eq_getElem?_getD, List.getElem?_eq_getElem (by omega : i < l.length)]
/-- A loop that leaves with false at the first number of which P does not hold. -/
theorem loop_all (F : Nat → Int → Option Bool) (n : Nat) (P : Nat → Bool) (fin : Bool)
    (hs : ∀ k (i : Nat), i < n → F (k + 1) i = if P i = true then F k ((i : Int) + 1) else some false) (he : ∀ k, F (k + 1) (n : Int) = some fin) :
    ∀ d k (i : Nat), i + d = n → d < k → F k i = some (allF P d i && fin)
  | 0, k, i, h, hk => by
    obtain ⟨k, rfl⟩ : ∃ m, k = m + 1 := ⟨k - 1, by omega⟩
    obtain rfl : i = n := by omega
    rw [he]
    simp [allF]
  | d + 1, k, i, h, hk => by
    obtain ⟨k, rfl⟩ : ∃ m, k = m + 1 := ⟨k - 1, by omega⟩
    rw [hs k i (by omega)]
    have ih := loop_all F n P fin hs he d k (i + 1) (by omega) (by omega)
    rw [show ((i + 1 : Nat) : Int) = (i : Int) + 1 by omega] at ih
    rw [ih]
    cases hp : P i <;> simp [allF, hp]
theorem loop_all0 (F : Nat → Int → Option Bool) (n : Nat) (P : Nat → Bool) (fin : Bool)
    (hs : ∀ k (i : Nat), i < n → F (k + 1) i = if P i = true then F k ((i : Int) + 1) else some false) (he : ∀ k, F (k + 1) (n : Int) = some fin) (k : Nat) (hk : n < k) : F k 0 = some (allF P n 0 && fin) :=
  loop_all F n P fin hs he n k 0 (by omega) hk
def words : List ByteArray := (impl_codeWords.f).getD []
theorem words_eq : impl_codeWords.f = some words := rfl
theorem words_len : words.length = 19 := rfl
theorem word_eq (a : Int) : spec_CodeWord.f a = if a < 0 then some ⟨#[]⟩ else if a ≥ (words.length : Int) then some ⟨#[]⟩ else if 0 ≤ a then if a < (words.length : Int) then some (rdOf ByteArray.empty words a) else none else none := rfl
theorem word_at (i : Fin 19) : spec_CodeWord.f (i.val : Int) = some (words.getD i.val ByteArray.empty) := by
  have h := i.isLt
  rw [word_eq, words_len, if_neg (by omega), if_neg (by omega), if_pos (by omega), if_pos (by omega)]
  simp [rdOf]
/-- The first place from i on at which a word is the text, -1 if there is none. -/
def find (s : ByteArray) : Nat → Nat → Int
  | 0, _ => -1
  | d + 1, i => if (words.getD i ByteArray.empty).toList = s.toList then (i : Int) else find s d (i + 1)
theorem spec_find (s : ByteArray) : ∀ (d k i : Nat), i + d = 19 → d < k → spec_CodeOf.l0 k s (i : Int) = some (find s d i)
  | 0, k, i, h, hk => by
    obtain ⟨k, rfl⟩ : ∃ m, k = m + 1 := ⟨k - 1, by omega⟩
    simp only [spec_CodeOf.l0]
    rw [if_neg (by omega)]
    rfl
  | d + 1, k, i, h, hk => by
    obtain ⟨k, rfl⟩ : ∃ m, k = m + 1 := ⟨k - 1, by omega⟩
    have ih := spec_find s d k (i + 1) (by omega) (by omega)
    have hw := word_at ⟨i, by omega⟩
    simp only [spec_CodeOf.l0]
    rw [if_pos (by omega), hw, Option.bind_some, w64 (by omega), show (i : Int) + 1 = ((i + 1 : Nat) : Int) by omega, ih]
    simp only [find]
    split <;> rfl
theorem impl_find (s : ByteArray) : ∀ (d k i : Nat), i + d = 19 → d < k → slices_Index_string_string.l0 k words s 19 (i : Int) = some (find s d i)
  | 0, k, i, h, hk => by
    obtain ⟨k, rfl⟩ : ∃ m, k = m + 1 := ⟨k - 1, by omega⟩
    simp only [slices_Index_string_string.l0]
    rw [if_neg (by omega)]
    rfl
  | d + 1, k, i, h, hk => by
    obtain ⟨k, rfl⟩ : ∃ m, k = m + 1 := ⟨k - 1, by omega⟩
    have ih := impl_find s d k (i + 1) (by omega) (by omega)
    simp only [slices_Index_string_string.l0]
    rw [if_pos (by omega), if_pos (by omega), if_pos (by rw [words_len]; omega), w64 (by omega), show (i : Int) + 1 = ((i + 1 : Nat) : Int) by omega, ih]
    have e : rdOf ByteArray.empty words (i : Int) = words.getD i ByteArray.empty := by simp [rdOf]
    rw [e]
    simp only [find]
    by_cases h2 : (words.getD i ByteArray.empty).toList = s.toList
    · rw [if_pos h2, if_pos h2.symm]
    · rw [if_neg h2, if_neg (fun e => h2 e.symm)]
theorem FnExactCodeOf : laws_FnExactCodeOf.Pure := by
  intro s _
  refine ⟨30, ?_⟩
  unfold laws_FnExactCodeOf.f
  by_cases h : (s.size : Int) > 1048576
  · rw [if_pos h]
  · have h1 : spec_CodeOf.f 30 s = some (find s 19 0) := spec_find s 19 30 0 (by omega) (by omega)
    have h2 : slices_Index_string_string.f 30 words s = some (find s 19 0) := by
      unfold slices_Index_string_string.f
      rw [words_len]
      exact impl_find s 19 30 0 (by omega) (by omega)
    rw [if_neg h, h1]
    unfold impl_CodeOf.f
    rw [words_eq]
    simp only [Option.bind_some]
    rw [h2]
    simp
end Go.Proofs.Ytpikcebippnemab.Pure
