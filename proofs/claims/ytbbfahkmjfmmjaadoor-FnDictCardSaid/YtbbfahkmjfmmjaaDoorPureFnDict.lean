/- The law FnDict answers true for all drawn dictionaries and words: an added word is found under its name in either case, hides older ones and changes none; the kernel stays. No condition. -/
import Derived.Test.YtbbfahkmjfmmjaaDoorPFnDictx11
namespace Go.Proofs.YtbbfahkmjfmmjaaDoor.Pure
open Go.RowKit Go.Proofs.YtbbfahkmjfmmjaaDoor.PFnDict Go.Proofs.YtbbfahkmjfmmjaaDoorW.PrintWords Go.Proofs.YtbbfahkmjfmmjaaDoorW.PrintLast
set_option linter.unusedSimpArgs false
set_option linter.unusedVariables false

theorem bd64 {n : Int} (h : (Lit.int .i64 n).wf = true) : -9223372036854775808 ≤ n ∧ n ≤ 9223372036854775807 := by
  simp [Lit.wf, IntKind.min, IntKind.max, IntKind.signed, IntKind.bits] at h
  omega
/-- n lies from lo to hi. -/
def inR (n lo hi : Int) : Bool := decide (lo ≤ n ∧ n ≤ hi)
/-- A cell: 32 bits with a sign. -/
def isCell (n : Int) : Bool := decide (-2147483648 ≤ n ∧ n ≤ 2147483647)
theorem isCell_iff {n : Int} : isCell n = true ↔ (-2147483648 ≤ n ∧ n ≤ 2147483647) := by simp [isCell]
theorem inR_iff {n lo hi : Int} : inR n lo hi = true ↔ (lo ≤ n ∧ n ≤ hi) := by simp [inR]
theorem w64 {n : Int} (h : -9223372036854775808 ≤ n ∧ n ≤ 9223372036854775807) : wrap64 n = n := by unfold wrap64; omega
theorem w64_cell (n : Int) : wrap64 (wrap32 n) = wrap32 n := by unfold wrap64 wrap32; omega
theorem w32_cell {n : Int} (h : isCell n = true) : wrap32 n = n := by rw [isCell_iff] at h; unfold wrap32; omega
theorem cell_w32 (n : Int) : isCell (wrap32 n) = true := by rw [isCell_iff]; unfold wrap32; omega
theorem w32_eq (n : Int) : (wrap32 n == n) = isCell n := by
  rw [Bool.eq_iff_iff, isCell_iff]
  simp only [beq_iff_eq]
  unfold wrap32
  omega
/-- All of d numbers from i on. -/
def allF (P : Nat → Bool) : Nat → Nat → Bool
  | 0, _ => true
  | d + 1, i => P i && allF P d (i + 1)
theorem allF_congr {P Q : Nat → Bool} : ∀ d i, (∀ j, i ≤ j → j < i + d → P j = Q j) → allF P d i = allF Q d i
  | 0, _, _ => rfl
  | d + 1, i, h => by
    simp only [allF]
    rw [h i (Nat.le_refl _) (by omega), allF_congr d (i + 1) (fun j h1 h2 => h j (by omega) (by omega))]
theorem allF_true {P : Nat → Bool} : ∀ d i, (∀ j, i ≤ j → j < i + d → P j = true) → allF P d i = true
  | 0, _, _ => rfl
  | d + 1, i, h => by
    simp only [allF]
    rw [h i (Nat.le_refl _) (by omega), allF_true d (i + 1) (fun j h1 h2 => h j (by omega) (by omega))]
    rfl
theorem allF_all {α : Type} (p : α → Bool) (z : α) (l : List α) : ∀ d i, i + d = l.length → allF (fun j => p (l.getD j z)) d i = (l.drop i).all p
  | 0, i, h => by simp [allF, List.drop_of_length_le (show l.length ≤ i by omega)]
  | d + 1, i, h => by
    simp only [allF]
    rw [allF_all p z l d (i + 1) (by omega), List.drop_eq_getElem_cons (by omega : i < l.length), List.all_cons]
    simp [List.getD_eq_getElem?_getD, List.getElem?_eq_getElem (by omega : i < l.length)]
/-- A loop that leaves with false at the first number of which P does not hold. -/
theorem loop_all (F : Nat → Int → Option Bool) (n : Nat) (P : Nat → Bool) (fin : Bool)
    (hs : ∀ k (i : Nat), i < n → F (k + 1) i = if P i = true then F k ((i : Int) + 1) else some false) (he : ∀ k, F (k + 1) (n : Int) = some fin) :
    ∀ d k (i : Nat), i + d = n → d < k → F k i = some (allF P d i && fin)
  | 0, k, i, h, hk => by
    obtain ⟨k, rfl⟩ : ∃ m, k = m + 1 := ⟨k - 1, by omega⟩
    obtain rfl : i = n := by omega
    rw [he]
    simp [allF]
  | d + 1, k, i, h, hk => by
    obtain ⟨k, rfl⟩ : ∃ m, k = m + 1 := ⟨k - 1, by omega⟩
    rw [hs k i (by omega)]
    have ih := loop_all F n P fin hs he d k (i + 1) (by omega) (by omega)
    rw [show ((i + 1 : Nat) : Int) = (i : Int) + 1 by omega] at ih
    rw [ih]
    cases hp : P i <;> simp [allF, hp]
theorem loop_all0 (F : Nat → Int → Option Bool) (n : Nat) (P : Nat → Bool) (fin : Bool)
    (hs : ∀ k (i : Nat), i < n → F (k + 1) i = if P i = true then F k ((i : Int) + 1) else some false) (he : ∀ k, F (k + 1) (n : Int) = some fin) (k : Nat) (hk : n < k) : F k 0 = some (allF P n 0 && fin) :=
  loop_all F n P fin hs he n k 0 (by omega) hk
theorem spec_l01In_eq (a b c : Int) : spec_l01In.f a b c = some (inR a b c) := by
  unfold spec_l01In.f
  by_cases h1 : a ≥ b
  · have h2 : b ≤ a := h1
    by_cases h3 : a ≤ c <;> simp [h1, inR, h2, h3]
  · have h2 : ¬ b ≤ a := h1
    simp [inR, h2]
theorem impl_in_eq (a b c : Int) : impl_in.f a b c = some (inR a b c) := by
  unfold impl_in.f
  by_cases h1 : b ≤ a
  · by_cases h3 : a ≤ c <;> simp [inR, h1, h3]
  · simp [inR, h1]
theorem spec_l01Cell_eq (a : Int) : spec_l01Cell.f a = some (isCell a) := by
  unfold spec_l01Cell.f
  rw [spec_l01In_eq]
  rfl
theorem impl_WrapCell_eq (a : Int) : impl_WrapCell.f a = some (wrap32 a) := by
  unfold impl_WrapCell.f
  rw [w64_cell]
theorem impl_CellOK_eq (a : Int) : impl_CellOK.f a = some (isCell a) := by
  unfold impl_CellOK.f
  rw [impl_WrapCell_eq, Option.bind_some, w32_eq]
theorem u64_wrap (a : Int) : IntKind.u64.wrap a = a % 18446744073709551616 := by
  simp [IntKind.wrap, IntKind.bits, IntKind.signed]
theorem spec_Wrap_eq (a : Int) : spec_l01Wrap.f a = some (wrap32 a) := by
  unfold spec_l01Wrap.f
  rw [u64_wrap]
  congr 1
  unfold wrap64 wrap32
  omega
theorem rdW_nat (l : List S39) (i : Nat) : rd_T39 l (i : Int) = l.getD i z39 := by simp [rd_T39]
theorem eq_toList {a b : ByteArray} : a.toList = b.toList ↔ a = b := ⟨fun h => by
  rw [ByteArray.toList_eq, ByteArray.toList_eq] at h
  exact ByteArray.ext (Array.toList_inj.mp h), fun h => by rw [h]⟩
/-- The words of the kernel. -/
def kernel : List S39 := (spec_l04Kernel.f 300).getD []
theorem kernel_len : kernel.length = 83 := by kernel_rfl
theorem spec_l04Kernel_eq (k : Nat) (hk : 300 ≤ k) : spec_l04Kernel.f k = some kernel := by
  have h : spec_l04Kernel.f 300 = some kernel := by kernel_rfl
  exact at_rounds (fun k => spec_l04Kernel.mono k) hk h
theorem impl_KernelWords_eq (k : Nat) (hk : 300 ≤ k) : impl_KernelWords.f k = some kernel := by
  have h : impl_KernelWords.f 300 = some kernel := by kernel_rfl
  exact at_rounds (fun k => impl_KernelWords.mono k) hk h
/-- Words that are equal. -/
def sameW (a b : S39) : Bool := (a.f0.toList == b.f0.toList) && ((a.f1 == b.f1) && (a.f2 == b.f2))
theorem sameW_neg (a b : S39) : ((!((a.f0.toList) == (b.f0.toList))) || ((!((a.f1) == (b.f1))) || (!((a.f2) == (b.f2))))) = !sameW a b := by
  unfold sameW
  cases (a.f0.toList == b.f0.toList) <;> cases (a.f1 == b.f1) <;> cases (a.f2 == b.f2) <;> rfl
/-- The kernel stands at the head. -/
def headK (l : List S39) : Bool := decide (83 ≤ l.length) && allF (fun j => sameW (l.getD j z39) (kernel.getD j z39)) 83 0
theorem spec_l04Same_eq (l : List S39) (hl : l.length ≤ 1048576) (k : Nat) (hk : 400 < k) : spec_l04Same.f k l = some (headK l) := by
  have hk0 := spec_l04Kernel_eq k (by omega)
  unfold spec_l04Same.f headK
  rw [hk0, Option.bind_some, kernel_len]
  by_cases h1 : 83 ≤ l.length
  · rw [if_neg (by omega)]
    have h := loop_all0 (fun k i => spec_l04Same.l0 k l kernel i) 83 (fun j => sameW (l.getD j z39) (kernel.getD j z39)) true (fun k i hi => by
      simp only [spec_l04Same.l0]
      rw [if_pos (by rw [kernel_len]; omega), if_pos (by omega), if_pos (by omega), rdW_nat, rdW_nat, sameW_neg, w64 (by omega)]
      cases sameW (l.getD i z39) (kernel.getD i z39) <;> rfl) (fun k => by
      simp only [spec_l04Same.l0]
      rw [if_neg (by rw [kernel_len]; omega)]) k (by omega)
    rw [h, Bool.and_true]
    simp [h1]
  · rw [if_pos (by omega)]
    simp [h1]
theorem isLong_word (l : List S39) (k : Nat) (hk : 2 < k) : impl_isLong_Word.f k [l] = some (decide ((l.length : Int) > 4096)) := by
  obtain ⟨k, rfl⟩ : ∃ m, k = m + 2 := ⟨k - 2, by omega⟩
  simp only [impl_isLong_Word.f, slices_ContainsFunc_Word_at_impl_isLong_Word_1.f, slices_IndexFunc_Word_at_impl_isLong_Word_1.f, slices_IndexFunc_Word_at_impl_isLong_Word_1.l0, impl_isLong_Word_1.f]
  first | simp only [rd_L5] | simp only [rd_L6] | simp only [rd_L7] | simp only [rd_L4] | simp only [rd_L8]
  by_cases h : (l.length : Int) > 4096 <;> simp [h, wrap64]
theorem impl_KernelSame_eq (l : List S39) (hl : l.length ≤ 1048576) (k : Nat) (hk : 400 < k) : impl_KernelSame.f k l = some (decide (l.length ≤ 4096) && headK l) := by
  unfold impl_KernelSame.f headK
  by_cases h1 : 83 ≤ l.length
  · rw [if_pos (by omega), isLong_word l k (by omega), Option.bind_some]
    by_cases h2 : l.length ≤ 4096
    · have h3 : ¬ (l.length : Int) > 4096 := by omega
      rw [if_neg (by simp; omega), if_pos (by omega), impl_KernelWords_eq k (by omega), Option.bind_some]
      unfold slices_Equal_Word.f
      have ht : (l.take 83).length = 83 := by rw [List.length_take]; omega
      rw [if_pos (by rw [ht, kernel_len])]
      have h := loop_all0 (fun k i => slices_Equal_Word.l0 k (l.take 83) kernel ((l.take 83).length : Int) i) 83 (fun j => sameW (l.getD j z39) (kernel.getD j z39)) true (fun k i hi => by
        have e : (l.take 83).getD i z39 = l.getD i z39 := by simp [List.getD_eq_getElem?_getD, List.getElem?_take, hi]
        simp only [slices_Equal_Word.l0]
        rw [if_pos (by omega), if_pos (by omega), if_pos (by omega), if_pos (by rw [kernel_len]; omega), rdW_nat, rdW_nat, sameW_neg, w64 (by omega), e]
        cases sameW (l.getD i z39) (kernel.getD i z39) <;> rfl) (fun k => by
        simp only [slices_Equal_Word.l0]
        rw [if_neg (by omega)]) k (by omega)
      rw [h, Bool.and_true]
      simp [h1, h2]
    · rw [if_pos (by simp; omega)]
      simp [h2]
  · rw [if_neg (by omega)]
    simp [h1]
/-- The name of a word. -/
def wordOK (s : ByteArray) : Bool := inR (s.size : Int) 1 12 && allF (fun j => inR (bt s (j : Int)) 33 126) s.size 0
theorem spec_l02Word_eq (s : ByteArray) (hs : s.size ≤ 140737488351232) (k : Nat) (hk : s.size < k) : spec_l02Word.f k s = some (wordOK s) := by
  unfold spec_l02Word.f
  rw [spec_l01In_eq, Option.bind_some]
  by_cases h1 : inR (s.size : Int) 1 12 = true
  · rw [if_pos h1]
    have h := loop_all0 (fun k i => spec_l02Word.l0 k s i) s.size (fun j => inR (bt s (j : Int)) 33 126) true (fun k i hi => by
      have hb := bt_range s (i : Int)
      simp only [spec_l02Word.l0]
      rw [if_pos (by omega), if_pos (by omega), w64 (by omega), w64 (by omega), spec_l01In_eq, Option.bind_some]) (fun k => by
      simp only [spec_l02Word.l0]
      rw [if_neg (by omega)]) k hk
    rw [h, wordOK, h1]
    simp
  · rw [if_neg h1]
    simp only [Bool.not_eq_true] at h1
    simp [wordOK, h1]
theorem impl_WordOK_eq (s : ByteArray) (hs : s.size ≤ 140737488351232) (k : Nat) (hk : s.size < k) : impl_WordOK.f k s = some (wordOK s) := by
  unfold impl_WordOK.f
  have h := loop_all0 (fun k i => impl_WordOK.l0 k s (s.size : Int) i) s.size (fun j => inR (bt s (j : Int)) 33 126) (inR (s.size : Int) 1 12) (fun k i hi => by
    simp only [impl_WordOK.l0]
    rw [if_pos (by omega), if_pos (by omega), if_pos (by omega), w64 (by omega)]
    by_cases h1 : bt s (i : Int) < 33
    · have h3 : inR (bt s (i : Int)) 33 126 = false := by simp [inR]; omega
      rw [if_pos h1, h3]
      simp
    · by_cases h2 : bt s (i : Int) > 126
      · have h3 : inR (bt s (i : Int)) 33 126 = false := by simp [inR]; omega
        rw [if_neg h1, if_pos h2, h3]
        simp
      · have h3 : inR (bt s (i : Int)) 33 126 = true := by simp [inR]; omega
        rw [if_neg h1, if_neg h2, h3]
        simp) (fun k => by
    simp only [impl_WordOK.l0]
    rw [if_neg (by omega), impl_in_eq]
    rfl) k hk
  rw [h, wordOK, Bool.and_comm]
/-- A word of a script. -/
def userOK (x : S39) : Bool := wordOK x.f0 && (if x.f1 = 6 then inR x.f2 0 399 else if x.f1 = 7 then (inR x.f2 4096 4220 && (Int.tmod x.f2 4 == 0)) else if x.f1 = 8 then isCell x.f2 else false)
theorem spec_l04User_eq (x : S39) (hs : x.f0.size ≤ 1048576) (k : Nat) (hk : 1048576 < k) : spec_l04User.f k x.f0 x.f1 x.f2 = some (userOK x) := by
  unfold spec_l04User.f userOK
  rw [spec_l02Word_eq x.f0 (by omega) k (by omega), Option.bind_some]
  cases wordOK x.f0
  · rfl
  · rw [if_pos rfl, spec_l01In_eq, spec_l01In_eq, spec_l01Cell_eq]
    simp only [Option.bind_some, Bool.true_and]
    by_cases h6 : x.f1 = 6
    · rw [if_pos h6, if_pos h6]
    · rw [if_neg h6, if_neg h6]
      by_cases h7 : x.f1 = 7
      · rw [if_pos h7, if_pos h7]
        cases inR x.f2 4096 4220 <;> rfl
      · rw [if_neg h7, if_neg h7]
        by_cases h8 : x.f1 = 8
        · rw [if_pos h8, if_pos h8]
        · rw [if_neg h8, if_neg h8]
theorem inR_cells (n : Int) : (inR n 4096 4223 && (Int.tmod n 4 == 0)) = (inR n 4096 4220 && (Int.tmod n 4 == 0)) := by
  rw [Bool.eq_iff_iff, Bool.and_eq_true, Bool.and_eq_true, inR_iff, inR_iff, beq_iff_eq]
  constructor
  · rintro ⟨h1, h2⟩
    rw [Int.tmod_eq_emod_of_nonneg (by omega)] at h2
    refine ⟨by omega, ?_⟩
    rw [Int.tmod_eq_emod_of_nonneg (by omega)]
    exact h2
  · rintro ⟨h1, h2⟩
    exact ⟨by omega, h2⟩
theorem impl_isScript_eq (x : S39) (hs : x.f0.size ≤ 1048576) (k : Nat) (hk : 1048576 < k) : impl_Word_isScript.f k x.f0 x.f1 x.f2 = some (userOK x) := by
  unfold impl_Word_isScript.f userOK
  rw [impl_WordOK_eq x.f0 (by omega) k (by omega), impl_in_eq, impl_in_eq, impl_CellOK_eq]
  simp only [Option.bind_some]
  by_cases h6 : x.f1 = 6
  · rw [if_pos h6, if_pos h6]
    cases wordOK x.f0 <;> rfl
  · rw [if_neg h6, if_neg h6]
    by_cases h7 : x.f1 = 7
    · rw [if_pos h7, if_pos h7, ← inR_cells]
      cases wordOK x.f0
      · rfl
      · cases inR x.f2 4096 4223 <;> rfl
    · rw [if_neg h7, if_neg h7]
      by_cases h8 : x.f1 = 8
      · rw [if_pos h8, if_pos h8]
        cases wordOK x.f0 <;> rfl
      · rw [if_neg h8, if_neg h8]
        simp
/-- A valid dictionary. -/
def dictOK (l : List S39) : Bool := decide (l.length ≤ 103) && headK l && allF (fun j => userOK (l.getD j z39)) (l.length - 83) 83
theorem sz_getD (l : List S39) (hx : ∀ x ∈ l, x.f0.size ≤ 1048576) (i : Nat) (hi : i < l.length) : (l.getD i z39).f0.size ≤ 1048576 := by
  rw [List.getD_eq_getElem?_getD, List.getElem?_eq_getElem hi]
  exact hx _ (List.getElem_mem _)
theorem headK_len {l : List S39} (h : headK l = true) : 83 ≤ l.length := by
  unfold headK at h
  simp only [Bool.and_eq_true, decide_eq_true_eq] at h
  exact h.1
theorem spec_l04OK_eq (l : List S39) (hl : l.length ≤ 1048576) (hx : ∀ x ∈ l, x.f0.size ≤ 1048576) (k : Nat) (hk : 1048800 ≤ k) : spec_l04OK.f k l = some (dictOK l) := by
  unfold spec_l04OK.f dictOK
  obtain ⟨q, c, rfl, hc, hq⟩ : ∃ q c, k = q + c + 1 ∧ 1048576 < c ∧ 110 < q := ⟨k - 1048578, 1048577, by omega, by omega, by omega⟩
  by_cases h1 : l.length ≤ 103
  · rw [if_neg (by omega), spec_l04Same_eq l hl _ (by omega), Option.bind_some]
    simp only [spec_l04OK.j0]
    cases h2 : headK l
    · simp
    · have h3 := headK_len h2
      rw [if_neg (show ¬ (!true) = true by decide)]
      have h := loop_all (fun k i => spec_l04OK.l0 (k + c) l i) l.length (fun j => userOK (l.getD j z39)) true (fun k i hi => by
        simp only [show k + 1 + c = (k + c) + 1 by omega, spec_l04OK.l0]
        rw [if_pos (by omega), if_pos (by omega), rdW_nat, spec_l04User_eq _ (sz_getD l hx i hi) (k + c) (by omega), Option.bind_some, w64 (by omega)]) (fun k => by
        simp only [show k + 1 + c = (k + c) + 1 by omega, spec_l04OK.l0]
        rw [if_neg (by omega)]) (l.length - 83) q 83 (by omega) (by omega)
      rw [show (83 : Int) = ((83 : Nat) : Int) from rfl, h]
      simp [h1]
  · rw [if_pos (by omega)]
    simp only [spec_l04OK.j0]
    simp [h1]
theorem idx_user (l : List S39) (hl : l.length ≤ 1048576) (hx : ∀ x ∈ l, x.f0.size ≤ 1048576) (c : Nat) (hc : 1048576 < c) : ∀ d k (i : Nat), i + d = l.length → d < k →
    ∃ r, slices_IndexFunc_Word_at_impl_DictOK_1.l0 (k + c) l (l.length : Int) (i : Int) = some r ∧ (!decide (r ≥ 0)) = allF (fun j => userOK (l.getD j z39)) d i
  | 0, k, i, h, hk => by
    obtain ⟨k, rfl⟩ : ∃ m, k = m + 1 := ⟨k - 1, by omega⟩
    refine ⟨-1, ?_, by simp [allF]⟩
    simp only [show k + 1 + c = (k + c) + 1 by omega, slices_IndexFunc_Word_at_impl_DictOK_1.l0]
    rw [if_neg (by omega)]
  | d + 1, k, i, h, hk => by
    obtain ⟨k, rfl⟩ : ∃ m, k = m + 1 := ⟨k - 1, by omega⟩
    obtain ⟨r, hr, hq⟩ := idx_user l hl hx c hc d k (i + 1) (by omega) (by omega)
    simp only [show k + 1 + c = (k + c) + 1 by omega, slices_IndexFunc_Word_at_impl_DictOK_1.l0]
    rw [if_pos (by omega), if_pos (by omega), if_pos (by omega), rdW_nat, w64 (by omega), show (i : Int) + 1 = ((i + 1 : Nat) : Int) by omega, hr]
    unfold impl_DictOK_1.f
    rw [impl_isScript_eq _ (sz_getD l hx i (by omega)) (k + c) (by omega)]
    simp only [Option.bind_some, allF]
    cases hp : userOK (l.getD i z39)
    · refine ⟨(i : Int), by simp, ?_⟩
      simp
    · refine ⟨r, by simp, ?_⟩
      rw [hq]
      simp
theorem allF_drop (l : List S39) (n : Nat) : ∀ d i, allF (fun j => userOK ((l.drop n).getD j z39)) d i = allF (fun j => userOK (l.getD j z39)) d (i + n)
  | 0, _ => rfl
  | d + 1, i => by
    simp only [allF]
    rw [allF_drop l n d (i + 1), show i + 1 + n = i + n + 1 by omega]
    simp [List.getD_eq_getElem?_getD, List.getElem?_drop, Nat.add_comm]
theorem impl_DictOK_eq (l : List S39) (hl : l.length ≤ 1048576) (hx : ∀ x ∈ l, x.f0.size ≤ 1048576) (k : Nat) (hk : 1048800 ≤ k) : impl_DictOK.f k l = some (dictOK l) := by
  unfold impl_DictOK.f dictOK
  obtain ⟨q, c, rfl, hc, hq⟩ : ∃ q c, k = q + c ∧ 1048576 < c ∧ 110 < q := ⟨k - 1048577, 1048577, by omega, by omega, by omega⟩
  by_cases h1 : l.length ≤ 103
  · rw [if_pos (by omega), impl_KernelSame_eq l hl _ (by omega), Option.bind_some]
    have h5 : decide (l.length ≤ 4096) = true := decide_eq_true (by omega)
    rw [h5]
    cases h2 : headK l
    · simp
    · have h3 := headK_len h2
      have hd : (l.drop 83).length = l.length - 83 := by simp
      obtain ⟨r, hr, hqq⟩ := idx_user (l.drop 83) (by omega) (fun x hxx => hx x (List.mem_of_mem_drop hxx)) c hc (l.length - 83) q 0 (by omega) (by omega)
      rw [if_pos (by rfl), if_pos (by omega)]
      unfold slices_ContainsFunc_Word_at_impl_DictOK_1.f slices_IndexFunc_Word_at_impl_DictOK_1.f
      rw [show (0 : Int) = ((0 : Nat) : Int) from rfl, hr]
      simp only [Option.bind_some]
      rw [allF_drop, Nat.zero_add] at hqq
      have hqq' : (!decide (r ≥ ((0 : Nat) : Int))) = allF (fun j => userOK (l.getD j z39)) (l.length - 83) 83 := hqq
      rw [hqq']
      simp [h1]
  · rw [if_neg (by omega)]
    simp [h1]
/-- What a script may run by its number. -/
def tokenW (l : List S39) (a : Int) : Bool := inR a 1 (l.length : Int) && (!(l.getD (a.toNat - 1) z39).f1 == 3) && (!(l.getD (a.toNat - 1) z39).f1 == 5)
theorem rdW_int (l : List S39) (a : Int) (h : 1 ≤ a) : rd_T39 l (a - 1) = l.getD (a.toNat - 1) z39 := by
  rw [show a - 1 = ((a.toNat - 1 : Nat) : Int) by omega, rdW_nat]
theorem spec_l04Token_eq (l : List S39) (a : Int) (hl : l.length ≤ 1048576) (ha : -9223372036854775808 ≤ a ∧ a ≤ 9223372036854775807) : spec_l04Token.f l a = some (tokenW l a) := by
  unfold spec_l04Token.f tokenW
  rw [spec_l01In_eq, Option.bind_some]
  cases h1 : inR a 1 (l.length : Int)
  · rfl
  · have h2 := inR_iff.mp h1
    rw [if_pos rfl, w64 (by omega), if_pos (by omega), if_pos (by omega), rdW_int l a (by omega)]
    by_cases h3 : (l.getD (a.toNat - 1) z39).f1 = 3
    · rw [if_pos h3, h3]
      rfl
    · rw [if_neg h3]
      have h4 : ((l.getD (a.toNat - 1) z39).f1 == 3) = false := beq_eq_false_iff_ne.mpr h3
      rw [h4]
      simp [bne]
theorem impl_isToken_eq (l : List S39) (a : Int) (hl : l.length ≤ 1048576) (ha : -9223372036854775808 ≤ a ∧ a ≤ 9223372036854775807) : impl_isToken.f l a = some (tokenW l a) := by
  unfold impl_isToken.f tokenW
  rw [impl_in_eq, Option.bind_some]
  cases h1 : inR a 1 (l.length : Int)
  · rfl
  · have h2 := inR_iff.mp h1
    rw [if_pos rfl, w64 (by omega), if_pos (by omega), if_pos (by omega), rdW_int l a (by omega)]
    by_cases h3 : (l.getD (a.toNat - 1) z39).f1 = 3
    · rw [if_pos h3, h3]
      rfl
    · rw [if_neg h3]
      have h4 : ((l.getD (a.toNat - 1) z39).f1 == 3) = false := beq_eq_false_iff_ne.mpr h3
      rw [h4]
      simp [bne]
theorem spec_TokenOK_eq (l : List S39) (a : Int) (hl : l.length ≤ 1048576) (hx : ∀ x ∈ l, x.f0.size ≤ 1048576) (ha : -9223372036854775808 ≤ a ∧ a ≤ 9223372036854775807) (k : Nat) (hk : 1048800 ≤ k) : spec_TokenOK.f k l a = some (dictOK l && tokenW l a) := by
  unfold spec_TokenOK.f
  by_cases h : (l.length : Int) > 4096
  · have h2 : ¬ l.length ≤ 103 := by omega
    rw [if_pos h]
    simp [dictOK, h2]
  · rw [if_neg h, spec_l04OK_eq l hl hx k hk, Option.bind_some]
    cases dictOK l
    · rfl
    · rw [if_pos rfl, spec_l04Token_eq l a hl ha]
      rfl
theorem impl_TokenOK_eq (l : List S39) (a : Int) (hl : l.length ≤ 1048576) (hx : ∀ x ∈ l, x.f0.size ≤ 1048576) (ha : -9223372036854775808 ≤ a ∧ a ≤ 9223372036854775807) (k : Nat) (hk : 1048800 ≤ k) : impl_TokenOK.f k l a = some (dictOK l && tokenW l a) := by
  unfold impl_TokenOK.f
  rw [impl_DictOK_eq l hl hx k hk, Option.bind_some]
  cases dictOK l
  · rfl
  · rw [if_pos rfl, impl_isToken_eq l a hl ha]
    rfl
/-- What adding leaves. -/
def added (l : List S39) (x : S39) : List S39 × Int × Int :=
  if l.length > 4096 then ([], 0, 2) else if (dictOK l && userOK x) = true then (if l.length = 103 then ([], 0, 7) else (l ++ [x], (l.length : Int) + 1, 0)) else ([], 0, 1)
theorem spec_AddWord_eq (l : List S39) (x : S39) (hl : l.length ≤ 1048576) (hx : ∀ y ∈ l, y.f0.size ≤ 1048576) (hs : x.f0.size ≤ 1048576) (k : Nat) (hk : 1048801 ≤ k) : spec_AddWord.f k l x.f0 x.f1 x.f2 = some (added l x) := by
  obtain ⟨k, rfl⟩ : ∃ m, k = m + 1 := ⟨k - 1, by omega⟩
  unfold spec_AddWord.f added
  by_cases h0 : l.length > 4096
  · rw [if_pos (by omega), if_pos h0]
  · rw [if_neg (by omega), if_neg h0, spec_l04OK_eq l hl hx _ (by omega), Option.bind_some, spec_l04User_eq x hs _ (by omega)]
    simp only [spec_AddWord.j0, Option.bind_some]
    cases h1 : dictOK l
    · simp
    · cases h2 : userOK x
      · simp
      · have h3 : l.length ≤ 103 := by
          unfold dictOK at h1
          simp only [Bool.and_eq_true, decide_eq_true_eq] at h1
          exact h1.1.1
        rw [if_pos rfl, if_neg (show ¬ (!true) = true by decide), if_pos (show (true && true) = true from rfl)]
        by_cases h4 : l.length = 103
        · rw [if_pos (by omega), if_pos h4]
        · rw [if_neg (by omega), if_neg h4]
          simp only [List.length_nil, List.nil_append, List.length_singleton]
          rw [if_pos (by omega), if_pos (by omega), w64 (by omega)]
theorem impl_AddWord_eq (l : List S39) (x : S39) (hl : l.length ≤ 1048576) (hx : ∀ y ∈ l, y.f0.size ≤ 1048576) (hs : x.f0.size ≤ 1048576) (k : Nat) (hk : 1048801 ≤ k) : impl_AddWord.f k l x.f0 x.f1 x.f2 = some (added l x) := by
  obtain ⟨k, rfl⟩ : ∃ m, k = m + 1 := ⟨k - 1, by omega⟩
  unfold impl_AddWord.f added
  rw [isLong_word l _ (by omega), Option.bind_some]
  by_cases h0 : l.length > 4096
  · rw [if_pos (by simp; omega), if_pos h0]
  · rw [if_neg (by simp; omega), if_neg h0, impl_DictOK_eq l hl hx _ (by omega), Option.bind_some, impl_isScript_eq x hs _ (by omega)]
    simp only [impl_AddWord.j0, Option.bind_some]
    cases h1 : dictOK l
    · simp
    · cases h2 : userOK x
      · simp
      · have h3 : l.length ≤ 103 := by
          unfold dictOK at h1
          simp only [Bool.and_eq_true, decide_eq_true_eq] at h1
          exact h1.1.1
        rw [if_pos rfl, if_neg (show ¬ (!true) = true by decide), if_pos (show (true && true) = true from rfl)]
        by_cases h4 : l.length = 103
        · rw [if_pos (by omega), if_pos h4]
        · rw [if_neg (by omega), if_neg h4]
          unfold slices_Clone_Word.f
          rw [if_pos (by omega)]
          simp only [Option.bind_some, List.length_singleton]
          rw [if_pos (by omega), w64 (by omega)]
theorem added_len (l : List S39) (x : S39) (hl : l.length ≤ 1048576) : (added l x).1.length ≤ 104 := by
  unfold added
  by_cases h0 : l.length > 4096
  · rw [if_pos h0]
    simp
  · rw [if_neg h0]
    by_cases h1 : (dictOK l && userOK x) = true
    · have h3 : l.length ≤ 103 := by
        unfold dictOK at h1
        simp only [Bool.and_eq_true, decide_eq_true_eq] at h1
        exact h1.1.1.1
      rw [if_pos h1]
      by_cases h4 : l.length = 103
      · rw [if_pos h4]
        simp
      · rw [if_neg h4]
        simp
        omega
    · rw [if_neg h1]
      simp
theorem bt_nums (s : ByteArray) (i : Nat) (h : i < s.size) : bt s (i : Int) = (numsB s).getD i 0 := by
  have hl : s.size = s.data.toList.length := by simp
  have hj' : i < s.data.toList.length := by omega
  simp only [bt, Int.toNat_natCast]
  rw [dif_pos h]
  simp [numsB, List.getD_eq_getElem?_getD, List.getElem?_map, List.getElem?_eq_getElem hj']
  rfl
theorem up_eq (a b : ByteArray) (h : ((strOfNums ((numsB a).map up1)).toList == (strOfNums ((numsB b).map up1)).toList) = true) : (numsB a).map up1 = (numsB b).map up1 := by
  rw [beq_iff_eq, eq_toList] at h
  have h2 := congrArg (fun s : ByteArray => s.data.toList.map fun c => (c.toNat : Int)) h
  simp only [strOfNums_data, List.map_map] at h2
  have e : ∀ s : ByteArray, (numsB s).map ((fun c : UInt8 => (c.toNat : Int)) ∘ (fun n : Int => UInt8.ofNat n.toNat) ∘ up1) = (numsB s).map up1 := by
    intro s
    apply List.map_congr_left
    intro x hx
    obtain ⟨u, _, rfl⟩ := List.mem_map.1 hx
    have hu : u.toNat < 256 := u.toNat_lt
    have hr : 0 ≤ up1 (u.toNat : Int) ∧ up1 (u.toNat : Int) < 256 := by
      unfold up1
      split
      · split <;> omega
      · omega
    show ((UInt8.ofNat (up1 (u.toNat : Int)).toNat).toNat : Int) = up1 (u.toNat : Int)
    rw [UInt8.toNat_ofNat_of_lt' (show _ < 256 by omega)]
    omega
  have e' := fun s => e s
  simp only [Function.comp_def] at h2 e'
  rw [e', e'] at h2
  exact h2
theorem nums_range (s : ByteArray) (j : Nat) : 0 ≤ (numsB s).getD j 0 ∧ (numsB s).getD j 0 < 256 := by
  rw [List.getD_eq_getElem?_getD]
  cases h : (numsB s)[j]? with
  | none => simp
  | some v =>
    obtain ⟨u, _, rfl⟩ := List.mem_map.1 (List.mem_of_getElem? h)
    have hu : u.toNat < 256 := u.toNat_lt
    simp only [Option.getD_some]
    omega
theorem up1_inR (c d : Int) (hc : 0 ≤ c ∧ c < 256) (hd : 0 ≤ d ∧ d < 256) (h : up1 c = up1 d) : inR c 33 126 = inR d 33 126 := by
  rw [Bool.eq_iff_iff, inR_iff, inR_iff]
  unfold up1 at h
  split at h <;> split at h <;> (try split at h) <;> (try split at h) <;> omega
theorem wordOK_up (a b : ByteArray) (h : (numsB a).map up1 = (numsB b).map up1) : wordOK a = wordOK b := by
  have hl : a.size = b.size := by
    have := congrArg List.length h
    rwa [List.length_map, List.length_map, numsB_length, numsB_length] at this
  unfold wordOK
  rw [hl, allF_congr (Q := fun j => inR (bt b (j : Int)) 33 126) b.size 0 (fun j _ hj => by
    have hg := congrArg (fun l : List Int => l.getD j (up1 0)) h
    simp only [List.getD_eq_getElem?_getD, List.getElem?_map] at hg
    have hg2 : up1 ((numsB a).getD j 0) = up1 ((numsB b).getD j 0) := by
      rw [List.getD_eq_getElem?_getD, List.getD_eq_getElem?_getD]
      cases h1 : (numsB a)[j]? <;> cases h2 : (numsB b)[j]? <;> simp [h1, h2] at hg ⊢ <;> exact hg
    show inR (bt a (j : Int)) 33 126 = inR (bt b (j : Int)) 33 126
    rw [bt_nums a j (by omega), bt_nums b j (by omega)]
    exact up1_inR _ _ (nums_range _ _) (nums_range _ _) hg2)]
/-- Alike without regard to case. -/
def upE (a b : ByteArray) : Bool := (strOfNums ((numsB a).map up1)).toList == (strOfNums ((numsB b).map up1)).toList
def sameV (a b : ByteArray) : Bool := wordOK a && wordOK b && upE a b
theorem wordOK_small (s : ByteArray) (hw : wordOK s = true) : s.size ≤ 12 := by
  unfold wordOK at hw
  rw [Bool.and_eq_true] at hw
  have := inR_iff.mp hw.1
  omega
theorem impl_SameWord_eq (a b : ByteArray) (ha : a.size ≤ 1048576) (hb : b.size ≤ 1048576) (k : Nat) (hk : 1048576 < k) : impl_SameWord.f k a b = some (sameV a b) := by
  unfold impl_SameWord.f sameV upE
  rw [impl_WordOK_eq a (by omega) _ (by omega), impl_WordOK_eq b (by omega) _ (by omega)]
  simp only [Option.bind_some]
  cases h1 : wordOK a
  · simp
  · cases h2 : wordOK b
    · simp
    · have := wordOK_small a h1
      have := wordOK_small b h2
      unfold impl_UpperOf.f
      simp only [if_true]
      rw [if_neg (by omega), if_neg (by omega)]
      simp
theorem sameV_of (a b : ByteArray) (hb : wordOK b = true) : sameV a b = upE a b := by
  unfold sameV
  cases h : upE a b
  · simp
  · rw [wordOK_up a b (up_eq a b h), hb]
    rfl
theorem sameV_no (a b : ByteArray) (hb : wordOK b = false) : sameV a b = false := by
  unfold sameV
  rw [hb]
  simp
def hitsW (a : ByteArray) (l : List S39) : List Bool := l.map fun x => sameV x.f0 a && x.f1 != 3
theorem findTab_eq (a : ByteArray) (ha : a.size ≤ 1048576) (k : Nat) (hk : 1048576 < k) : ∀ l : List S39, (∀ x ∈ l, x.f0.size ≤ 1048576) → impl_findWord.tab k a l = some (hitsW a l)
  | [], _ => rfl
  | x :: xs, hx => by
    unfold impl_findWord.tab
    rw [impl_SameWord_eq x.f0 a (hx x (by simp)) ha k hk, findTab_eq a ha k hk xs (fun y hy => hx y (by simp [hy]))]
    rfl
theorem last_snoc (t : Bool) : ∀ ts : List Bool, impl_findWord.last (ts ++ [t]) = if t = true then (ts.length : Int) + 1 else impl_findWord.last ts
  | [] => by cases t <;> rfl
  | s :: ts => by
    have ih := last_snoc t ts
    rw [List.cons_append]
    unfold impl_findWord.last
    rw [ih]
    cases t
    · rfl
    · simp only [if_true]
      rw [if_neg (by omega)]
      simp
theorem impl_findWord_eq (l : List S39) (a : ByteArray) (hl : l.length ≤ 1048576) (hx : ∀ x ∈ l, x.f0.size ≤ 1048576) (ha : a.size ≤ 1048576) (k : Nat) (hk : 1048576 < k) : impl_findWord.f k l a = some (impl_findWord.last (hitsW a l)) := by
  unfold impl_findWord.f
  rw [if_pos (by omega), findTab_eq a ha k hk l hx]
  rfl
/-- What finding a word answers. -/
def found (l : List S39) (a : ByteArray) : Int × Int :=
  if l.length > 4096 then (0, 2) else if a.size > 65536 then (0, 2) else if dictOK l = true then (if impl_findWord.last (hitsW a l) = 0 then (0, 10) else (impl_findWord.last (hitsW a l), 0)) else (0, 1)
theorem hits_none (l : List S39) (a : ByteArray) (hw : wordOK a = false) : impl_findWord.last (hitsW a l) = 0 := by
  apply impl_findWord.last_zero
  intro i hi
  unfold hitsW at hi ⊢
  rw [List.length_map] at hi
  rw [List.getElem?_map, List.getElem?_eq_getElem hi]
  simp [sameV_no _ a hw]
theorem impl_FindWord_eq (l : List S39) (a : ByteArray) (hl : l.length ≤ 1048576) (hx : ∀ x ∈ l, x.f0.size ≤ 1048576) (ha : a.size ≤ 1048576) (k : Nat) (hk : 2200000 ≤ k) : impl_FindWord.f k l a = some (found l a) := by
  obtain ⟨k, rfl⟩ : ∃ m, k = m + 1 := ⟨k - 1, by omega⟩
  unfold impl_FindWord.f found
  rw [isLong_word l _ (by omega), Option.bind_some]
  by_cases h0 : l.length > 4096
  · rw [if_pos (by simp; omega), if_pos h0]
    simp [impl_FindWord.j0]
  · rw [if_neg (by simp; omega), if_neg h0]
    by_cases h1 : a.size > 65536
    · rw [if_pos h1, decide_eq_true (show (a.size : Int) > 65536 by omega)]
      simp [impl_FindWord.j0]
    · rw [if_neg h1, decide_eq_false (show ¬ (a.size : Int) > 65536 by omega)]
      simp only [impl_FindWord.j0]
      rw [if_neg (by decide), impl_DictOK_eq l hl hx k (by omega), Option.bind_some]
      cases h2 : dictOK l
      · rfl
      · rw [if_pos rfl, if_pos rfl, impl_findWord_eq l a hl hx ha k (by omega), Option.bind_some]
        have hn := impl_findWord.last_nonneg (hitsW a l)
        by_cases h4 : impl_findWord.last (hitsW a l) = 0
        · rw [if_pos h4, if_neg (by omega)]
        · rw [if_neg h4, if_pos (by omega)]
theorem tm_eq (a b : Int) (h : 0 ≤ a) : Int.tmod a b = a % b := Int.tmod_eq_emod_of_nonneg h
theorem td_eq (a b : Int) (h : 0 ≤ a) : Int.tdiv a b = a / b := Int.tdiv_eq_ediv_of_nonneg h
def Bytes (l : List Int) : Prop := l.length ≤ 1048576 ∧ ∀ i : Nat, i < l.length → 0 ≤ l.getD i 0 ∧ l.getD i 0 ≤ 255
theorem bytes_of {l : List Int} (hl : l.length ≤ 1048576) (h : ∀ x ∈ l, (Lit.int .u8 x).wf = true) : Bytes l := by
  refine ⟨hl, fun i hi => ?_⟩
  have h1 := h (l.getD i 0) (by simp [List.getD_eq_getElem?_getD, List.getElem?_eq_getElem hi])
  simp [Lit.wf, IntKind.min, IntKind.max, IntKind.signed, IntKind.bits] at h1
  rw [List.getD_eq_getElem?_getD]
  omega
def Src (p s : Int) (n : Nat) : Prop := 0 ≤ p ∧ p ≤ (n : Int) ∧ 0 ≤ s ∧ s < 2147483648
theorem byte_some (l : List Int) (hl : Bytes l) (p s : Int) (n : Nat) (hn : n ≤ 1000000000) (h : Src p s n) :
    ∃ r p' s', spec_l00Src_byte.f l p s = some (r, p', s') ∧ 0 ≤ r ∧ r ≤ 255 ∧ Src p' s' (n + 1) := by
  obtain ⟨h1, h2, h3, h4⟩ := h
  have h5 := hl.1
  unfold spec_l00Src_byte.f
  rw [w64 (n := p + 1) (by omega)]
  by_cases c1 : p + 1 ≤ (l.length : Int)
  · rw [if_pos c1, w64 (n := p + 1 - 1) (by omega), if_pos (by omega), if_pos (by omega)]
    have hb := hl.2 p.toNat (by omega)
    have e : rd l (p + 1 - 1) = l.getD p.toNat 0 := by
      simp only [rd]
      rw [show p + 1 - 1 = p by omega]
    rw [e]
    generalize l.getD p.toNat 0 = x at hb
    rw [w64 (n := x) (by omega), w64 (n := s * 31) (by omega), w64 (n := s * 31 + x) (by omega), w64 (n := s * 31 + x + 7) (by omega), tm_eq _ _ (by omega)]
    exact ⟨_, _, _, rfl, by omega, by omega, by omega, by omega, by omega, by omega⟩
  · rw [if_neg c1]
    by_cases c2 : p + 1 > 3000
    · rw [if_pos c2]
      exact ⟨_, _, _, rfl, by omega, by omega, by omega, by omega, by omega, by omega⟩
    · rw [if_neg c2, w64 (n := s * 1103515245) (by omega), w64 (n := s * 1103515245 + 12345) (by omega), tm_eq (s * 1103515245 + 12345) 2147483648 (by omega), td_eq ((s * 1103515245 + 12345) % 2147483648) 65536 (by omega), w64 (n := (s * 1103515245 + 12345) % 2147483648 / 65536) (by omega), tm_eq ((s * 1103515245 + 12345) % 2147483648 / 65536) 256 (by omega)]
      exact ⟨_, _, _, rfl, by omega, by omega, by omega, by omega, by omega, by omega⟩
theorem next_some (l : List Int) (hl : Bytes l) (p s : Int) (n : Nat) (hn : n ≤ 1000000000) (h : Src p s n) (m : Int) (h1 : 1 < m) (h2 : m ≤ 256) :
    ∃ r p' s', spec_l00Src_next.f l p s m = some (r, p', s') ∧ 0 ≤ r ∧ r < m ∧ Src p' s' (n + 1) := by
  obtain ⟨r, p', s', e, r0, r1, hs⟩ := byte_some l hl p s n hn h
  unfold spec_l00Src_next.f
  rw [if_neg (by omega), if_pos h2, e, Option.bind_some, if_neg (by omega), tm_eq _ _ r0]
  exact ⟨_, _, _, rfl, Int.emod_nonneg _ (by omega), Int.emod_lt_of_pos _ (by omega), hs⟩
theorem cell_some (l : List Int) (hl : Bytes l) (p s : Int) (n : Nat) (hn : n ≤ 100000000) (h : Src p s n) :
    ∃ r p' s', spec_l00Src_cell.f l p s = some (r, p', s') ∧ isCell r = true ∧ Src p' s' (n + 5) := by
  have up : ∀ {p s : Int} {n m : Nat}, n ≤ m → Src p s n → Src p s m := fun hnm hs => ⟨hs.1, by have := hs.2.1; omega, hs.2.2⟩
  obtain ⟨r, p', s', e, r0, r1, hs⟩ := next_some l hl p s n (by omega) h 8 (by omega) (by omega)
  unfold spec_l00Src_cell.f
  rw [e, Option.bind_some]
  simp only []
  by_cases c0 : r = 0
  · obtain ⟨x, p2, s2, e2, x0, x1, hs2⟩ := next_some l hl p' s' (n + 1) (by omega) hs 3 (by omega) (by omega)
    rw [if_pos c0, e2, Option.bind_some]
    exact ⟨_, _, _, rfl, by rw [isCell_iff]; simp only []; rw [w64 (by omega)]; omega, up (by omega) hs2⟩
  · rw [if_neg c0]
    by_cases c1 : r = 1
    · obtain ⟨x, p2, s2, e2, x0, x1, hs2⟩ := next_some l hl p' s' (n + 1) (by omega) hs 3 (by omega) (by omega)
      rw [if_pos c1, e2, Option.bind_some]
      exact ⟨_, _, _, rfl, by rw [isCell_iff]; simp only []; rw [w64 (by omega)]; omega, up (by omega) hs2⟩
    · rw [if_neg c1]
      by_cases c2 : r = 2
      · obtain ⟨x, p2, s2, e2, x0, x1, hs2⟩ := byte_some l hl p' s' (n + 1) (by omega) hs
        obtain ⟨y, p3, s3, e3, y0, y1, hs3⟩ := byte_some l hl p2 s2 (n + 1 + 1) (by omega) hs2
        obtain ⟨z, p4, s4, e4, z0, z1, hs4⟩ := byte_some l hl p3 s3 (n + 1 + 1 + 1) (by omega) hs3
        obtain ⟨v, p5, s5, e5, v0, v1, hs5⟩ := byte_some l hl p4 s4 (n + 1 + 1 + 1 + 1) (by omega) hs4
        rw [if_pos c2, e2, Option.bind_some]
        simp only []
        rw [e3, Option.bind_some]
        simp only []
        rw [e4, Option.bind_some]
        simp only []
        rw [e5, Option.bind_some]
        simp only []
        rw [spec_Wrap_eq, Option.bind_some]
        exact ⟨_, _, _, rfl, cell_w32 _, up (by omega) hs5⟩
      · rw [if_neg c2]
        by_cases c3 : r = 3
        · obtain ⟨x, p2, s2, e2, x0, x1, hs2⟩ := next_some l hl p' s' (n + 1) (by omega) hs 40 (by omega) (by omega)
          rw [if_pos c3, e2, Option.bind_some]
          exact ⟨_, _, _, rfl, by rw [isCell_iff]; simp only []; rw [w64 (by omega)]; omega, up (by omega) hs2⟩
        · obtain ⟨x, p2, s2, e2, x0, x1, hs2⟩ := next_some l hl p' s' (n + 1) (by omega) hs 40 (by omega) (by omega)
          rw [if_neg c3, e2, Option.bind_some]
          exact ⟨_, _, _, rfl, by rw [isCell_iff]; simp only []; omega, up (by omega) hs2⟩
theorem source_some (l : List Int) (hl : Bytes l) : ∃ s, spec_l00Source.f l = some (l, 0, s) ∧ Src 0 s 0 := by
  have := hl.1
  exact ⟨_, rfl, by omega, by omega, by omega, by omega⟩
theorem src_up {p s : Int} {n m : Nat} (hnm : n ≤ m) (hs : Src p s n) : Src p s m := ⟨hs.1, by have := hs.2.1; omega, hs.2.2⟩
theorem pick_some (l : List Int) (hl : Bytes l) (p s : Int) (n : Nat) (hn : n ≤ 1000000) (h : Src p s n) (ws : List ByteArray) (h1 : 1 < ws.length) (h2 : ws.length ≤ 256) :
    ∃ w p' s', spec_l00Src_pick.f l p s ws = some (w, p', s') ∧ w ∈ ws ∧ Src p' s' (n + 1) := by
  unfold spec_l00Src_pick.f
  obtain ⟨r, p', s', e, r0, r1, hs⟩ := next_some l hl p s n (by omega) h (ws.length : Int) (by omega) (by omega)
  rw [if_neg (by omega), e, Option.bind_some, if_pos r0, if_pos r1]
  refine ⟨_, _, _, rfl, ?_, hs⟩
  show rdOf ByteArray.empty ws r ∈ ws
  obtain ⟨i, rfl⟩ : ∃ i : Nat, r = (i : Int) := ⟨r.toNat, by omega⟩
  rw [show rdOf ByteArray.empty ws (i : Int) = ws.getD i ByteArray.empty by simp [rdOf], List.getD_eq_getElem?_getD, List.getElem?_eq_getElem (by omega : i < ws.length)]
  exact List.getElem_mem _
theorem spec_KernelWords_eq (k : Nat) (hk : 300 ≤ k) : spec_KernelWords.f k = some kernel := by
  unfold spec_KernelWords.f
  rw [spec_l04Kernel_eq k hk]
  rfl
def NAMES6 : List ByteArray := [(⟨#[115, 113]⟩ : ByteArray), (⟨#[105, 110, 99]⟩ : ByteArray), (⟨#[100, 117, 112]⟩ : ByteArray), (⟨#[120]⟩ : ByteArray), (⟨#[89, 50]⟩ : ByteArray), (⟨#[108, 111, 111, 112, 50]⟩ : ByteArray)]
def LIT5 : ByteArray := ⟨#[40, 76, 73, 84, 41]⟩
def upS (a : ByteArray) : ByteArray := strOfNums ((numsB a).map up1)
theorem names_ok : ∀ w ∈ NAMES6, (wordOK w && sameV w w && sameV w (upS w) && !(sameV w LIT5) && decide ((upS w).size ≤ 65536) && decide (w.size ≤ 65536)) = true := by decide +kernel
theorem kernel_lit : (hitsW LIT5 kernel).all (fun t => !t) = true := by kernel_rfl
theorem kernel_small : ∀ x ∈ kernel, x.f0.size ≤ 1048576 := by
  have h : kernel.all (fun x => decide (x.f0.size ≤ 1048576)) = true := by kernel_rfl
  intro x hx
  exact of_decide_eq_true (List.all_eq_true.1 h x hx)
structure GoodU (x : S39) : Prop where
  ok : userOK x = true
  nm : x.f0 ∈ NAMES6
  kd : (x.f1 != 3) = true
theorem userWord_some (l : List Int) (hl : Bytes l) (p s : Int) (n : Nat) (hn : n ≤ 900000) (h : Src p s n) :
    ∃ x0 x1 x2 p' s', spec_l00Src_userWord.f l p s = some (x0, x1, x2, p', s') ∧ GoodU ⟨x0, x1, x2⟩ ∧ Src p' s' (n + 8) := by
  obtain ⟨x, p1, s1, e1, hx, hs1⟩ := pick_some l hl p s n (by omega) h NAMES6 (by decide) (by decide)
  obtain ⟨r, p2, s2, e2, r0, r1, hs2⟩ := next_some l hl p1 s1 (n + 1) (by omega) hs1 3 (by omega) (by omega)
  have hw := names_ok x hx
  simp only [Bool.and_eq_true] at hw
  have hw1 := hw.1.1.1.1.1
  unfold spec_l00Src_userWord.f
  have e1' : spec_l00Src_pick.f l p s (([(⟨#[115, 113]⟩ : ByteArray), (⟨#[105, 110, 99]⟩ : ByteArray), (⟨#[100, 117, 112]⟩ : ByteArray), (⟨#[120]⟩ : ByteArray), (⟨#[89, 50]⟩ : ByteArray), (⟨#[108, 111, 111, 112, 50]⟩ : ByteArray)] : List ByteArray)) = some (x, p1, s1) := e1
  rw [e1', Option.bind_some]
  simp only []
  rw [e2, Option.bind_some]
  simp only []
  rw [w64 (n := 6 + r) (by omega)]
  by_cases c6 : 6 + r = 6
  · obtain ⟨v, p3, s3, e3, v0, v1, hs3⟩ := next_some l hl p2 s2 (n + 1 + 1) (by omega) hs2 40 (by omega) (by omega)
    rw [if_pos c6, e3, Option.bind_some, c6]
    refine ⟨_, _, _, _, _, rfl, ⟨?_, hx, rfl⟩, src_up (by omega) hs3⟩
    simp [userOK, hw1, inR]
    omega
  · rw [if_neg c6]
    by_cases c7 : 6 + r = 7
    · obtain ⟨v, p3, s3, e3, v0, v1, hs3⟩ := next_some l hl p2 s2 (n + 1 + 1) (by omega) hs2 8 (by omega) (by omega)
      rw [if_pos c7, e3, Option.bind_some, c7]
      refine ⟨_, _, _, _, _, rfl, ⟨?_, hx, rfl⟩, src_up (by omega) hs3⟩
      rw [w64 (n := 4 * v) (by omega), w64 (n := 4096 + 4 * v) (by omega)]
      have h4 : Int.tmod (4096 + 4 * v) 4 = 0 := by
        rw [tm_eq _ _ (by omega)]
        omega
      simp [userOK, hw1, inR, h4]
      omega
    · have c8 : 6 + r = 8 := by omega
      obtain ⟨v, p3, s3, e3, v0, hs3⟩ := cell_some l hl p2 s2 (n + 1 + 1) (by omega) hs2
      rw [if_neg c7, if_pos c8, e3, Option.bind_some, c8]
      refine ⟨_, _, _, _, _, rfl, ⟨?_, hx, rfl⟩, src_up (by omega) hs3⟩
      simp [userOK, hw1, v0]
theorem words_l0 (l : List Int) (hl : Bytes l) : ∀ (d k : Nat) (acc : List S39) (p s : Int) (n : Nat), d < k → acc.length + d ≤ 1000 → n + 8 * d ≤ 800000 → Src p s n →
    ∃ us p' s', spec_l00Src_words.l0 k acc (d : Int) l p s = some (acc ++ us, p', s') ∧ us.length = d ∧ ∀ x ∈ us, GoodU x
  | 0, k, acc, p, s, n, hk, _, _, _ => by
    obtain ⟨k, rfl⟩ : ∃ m, k = m + 1 := ⟨k - 1, by omega⟩
    simp only [spec_l00Src_words.l0]
    exact ⟨[], p, s, by rw [if_neg (by omega), List.append_nil], rfl, by simp⟩
  | d + 1, k, acc, p, s, n, hk, ha, hn, hs => by
    obtain ⟨k, rfl⟩ : ∃ m, k = m + 1 := ⟨k - 1, by omega⟩
    obtain ⟨x0, x1, x2, p1, s1, e1, hg, hs1⟩ := userWord_some l hl p s n (by omega) hs
    obtain ⟨us, p2, s2, e2, hu, hgs⟩ := words_l0 l hl d k (acc ++ [⟨x0, x1, x2⟩]) p1 s1 (n + 8) (by omega) (by simp; omega) (by omega) hs1
    simp only [spec_l00Src_words.l0]
    rw [if_pos (by omega), e1, Option.bind_some]
    simp only []
    rw [if_pos (by omega), w64 (by omega), show ((d + 1 : Nat) : Int) - 1 = (d : Int) by omega, e2]
    refine ⟨⟨x0, x1, x2⟩ :: us, p2, s2, by simp, by simp [hu], fun y hy => ?_⟩
    rcases List.mem_cons.1 hy with rfl | hy
    · exact hg
    · exact hgs y hy
theorem wordsDrawn (l : List Int) (hl : Bytes l) (k : Nat) (hk : 400 ≤ k) : ∃ us, spec_WordsDrawn.f k l = some (kernel ++ us) ∧ us.length ≤ 5 ∧ ∀ x ∈ us, GoodU x := by
  obtain ⟨s, e, hs⟩ := source_some l hl
  obtain ⟨r, p1, s1, e1, r0, r1, hs1⟩ := next_some l hl 0 s 0 (by omega) hs 6 (by omega) (by omega)
  have hkl := kernel_len
  obtain ⟨us, p2, s2, e2, hu, hg⟩ := words_l0 l hl r.toNat k kernel p1 s1 1 (by omega) (by omega) (by omega) hs1
  refine ⟨us, ?_, by omega, hg⟩
  unfold spec_WordsDrawn.f spec_l00Src_words.f
  rw [e, Option.bind_some]
  simp only []
  rw [spec_l04Kernel_eq k (by omega), Option.bind_some, e1, Option.bind_some]
  simp only []
  rw [show r = (r.toNat : Int) by omega, e2]
  rfl
theorem userWordDrawn (l : List Int) (hl : Bytes l) : ∃ x0 x1 x2, spec_UserWord.f l = some (x0, x1, x2) ∧ GoodU ⟨x0, x1, x2⟩ := by
  obtain ⟨s, e, hs⟩ := source_some l hl
  obtain ⟨x0, x1, x2, p1, s1, e1, hg, _⟩ := userWord_some l hl 0 s 0 (by omega) hs
  refine ⟨x0, x1, x2, ?_, hg⟩
  unfold spec_UserWord.f
  rw [e, Option.bind_some]
  simp only []
  rw [e1]
  rfl
theorem sameW_refl (a : S39) : sameW a a = true := by simp [sameW]
theorem dictOK_kernel (us : List S39) (hu : us.length ≤ 20) (hg : ∀ x ∈ us, GoodU x) : dictOK (kernel ++ us) = true := by
  have hk := kernel_len
  unfold dictOK headK
  rw [decide_eq_true (by rw [List.length_append]; omega), decide_eq_true (by rw [List.length_append]; omega), allF_true 83 0 (fun j _ hj => by
    rw [List.getD_eq_getElem?_getD, List.getElem?_append_left (by omega), ← List.getD_eq_getElem?_getD]
    exact sameW_refl _), allF_true _ 83 (fun j h1 h2 => by
    rw [List.length_append] at h2
    rw [List.getD_eq_getElem?_getD, List.getElem?_append_right (by omega), List.getElem?_eq_getElem (by omega)]
    exact (hg _ (List.getElem_mem _)).ok)]
  rfl
theorem sizes_kernel (us : List S39) (hg : ∀ x ∈ us, GoodU x) : ∀ x ∈ kernel ++ us, x.f0.size ≤ 1048576 := by
  intro x hx
  rcases List.mem_append.1 hx with h | h
  · exact kernel_small x h
  · have := names_ok _ (hg x h).nm
    simp only [Bool.and_eq_true, decide_eq_true_eq] at this
    have := this.2
    omega
theorem sameWords_l0 (a : List S39) (ha : a.length ≤ 1048576) : ∀ d k (i : Nat), i + d = a.length → d < k → laws_sameWords.l0 k a a (i : Int) = some true
  | 0, k, i, h, hk => by
    obtain ⟨k, rfl⟩ : ∃ m, k = m + 1 := ⟨k - 1, by omega⟩
    simp only [laws_sameWords.l0]
    rw [if_neg (by omega)]
  | d + 1, k, i, h, hk => by
    obtain ⟨k, rfl⟩ : ∃ m, k = m + 1 := ⟨k - 1, by omega⟩
    have ih := sameWords_l0 a ha d k (i + 1) (by omega) (by omega)
    simp only [laws_sameWords.l0]
    rw [if_pos (by omega), if_pos (by omega), if_pos (by omega), sameW_neg, sameW_refl, if_neg (by decide), w64 (by omega), show (i : Int) + 1 = ((i + 1 : Nat) : Int) by omega, ih]
theorem sameWords_refl (a : List S39) (ha : a.length ≤ 1048576) (k : Nat) (hk : a.length < k) : laws_sameWords.f k a a = some true := by
  unfold laws_sameWords.f
  rw [if_pos rfl]
  exact sameWords_l0 a ha a.length k 0 (by omega) hk
theorem hits_last (a : ByteArray) (m : List S39) (x : S39) (h : sameV x.f0 a = true) (hk : (x.f1 != 3) = true) : impl_findWord.last (hitsW a (m ++ [x])) = (m.length : Int) + 1 := by
  unfold hitsW
  rw [List.map_append, List.map_cons, List.map_nil, h, hk, last_snoc, if_pos (show (true && true) = true from rfl), List.length_map]
theorem lit_none (v : List S39) (hg : ∀ x ∈ v, GoodU x) : impl_findWord.last (hitsW LIT5 (kernel ++ v)) = 0 := by
  have hall : ∀ t ∈ hitsW LIT5 (kernel ++ v), t = false := by
    intro t ht
    have e : hitsW LIT5 (kernel ++ v) = hitsW LIT5 kernel ++ hitsW LIT5 v := by simp [hitsW]
    rw [e] at ht
    rcases List.mem_append.1 ht with h | h
    · have := List.all_eq_true.1 kernel_lit t h
      simpa using this
    · obtain ⟨x, hx, rfl⟩ := List.mem_map.1 h
      have := names_ok _ (hg x hx).nm
      simp only [Bool.and_eq_true, Bool.not_eq_true'] at this
      rw [this.1.1.2]
      rfl
  apply impl_findWord.last_zero
  intro i hi
  rw [List.getElem?_eq_getElem hi]
  exact congrArg some (hall _ (List.getElem_mem _))
theorem dict_l0 (m : List S39) (x : S39) (n : Int) (hm : m.length ≤ 100) (hx : ∀ y ∈ m ++ [x], y.f0.size ≤ 1048576) (hd : dictOK (m ++ [x]) = true) (hh : headK (m ++ [x]) = true) (hn : n = (m.length : Int) + 1) : ∀ d k (i : Nat), 1 ≤ i → i + d = m.length + 2 → d + 1048900 ≤ k →
    laws_FnDict.l0 k m (m ++ [x]) n (m ++ [x]) n 0 n 0 10 (i : Int) = some true
  | 0, k, i, h1, h, hk => by
    obtain ⟨k, rfl⟩ : ∃ m, k = m + 1 := ⟨k - 1, by omega⟩
    have hl : (m ++ [x]).length = m.length + 1 := by simp
    simp only [laws_FnDict.l0]
    rw [if_neg (by omega), if_pos trivial, if_pos trivial, if_pos (by omega), if_pos trivial, if_pos trivial, if_pos trivial, impl_KernelSame_eq _ (by omega) k (by omega), Option.bind_some, hh, decide_eq_true (by omega), if_pos (show (true && true) = true from rfl), impl_DictOK_eq _ (by omega) hx k (by omega), Option.bind_some, hd, if_pos rfl, impl_TokenOK_eq _ 0 (by omega) hx (by omega) k (by omega), Option.bind_some, hd]
    simp [tokenW, inR]
  | d + 1, k, i, h1, h, hk => by
    obtain ⟨k, rfl⟩ : ∃ m, k = m + 1 := ⟨k - 1, by omega⟩
    have hl : (m ++ [x]).length = m.length + 1 := by simp
    have ih := dict_l0 m x n hm hx hd hh hn d k (i + 1) (by omega) (by omega) (by omega)
    simp only [laws_FnDict.l0]
    rw [if_pos (by omega), impl_TokenOK_eq _ (i : Int) (by omega) hx (by omega) k (by omega), Option.bind_some, spec_TokenOK_eq _ (i : Int) (by omega) hx (by omega) k (by omega), Option.bind_some, if_neg (by simp), w64 (n := (i : Int) + 1) (by omega), show (i : Int) + 1 = ((i + 1 : Nat) : Int) by omega, ih]
    by_cases c : (i : Int) < ((m ++ [x]).length : Int)
    · rw [if_pos c, w64 (n := (i : Int) - 1) (by omega), if_pos (by omega), if_pos (by omega), if_pos (by omega), sameW_neg, show (i : Int) - 1 = ((i - 1 : Nat) : Int) by omega, rdW_nat, rdW_nat, List.getD_eq_getElem?_getD, List.getD_eq_getElem?_getD, List.getElem?_append_left (by omega), sameW_refl, if_neg (by decide)]
    · rw [if_neg c]
theorem FnDict : laws_FnDict.Pure := by
  intro l0 l1 h0 h1
  refine ⟨2300000, ?_⟩
  unfold laws_FnDict.f
  by_cases c0 : (l0.length : Int) > 1048576
  · rw [if_pos c0]
  · rw [if_neg c0]
    by_cases c1 : (l1.length : Int) > 1048576
    · rw [if_pos c1]
    · rw [if_neg c1]
      have b0 := bytes_of (by omega) h0.2
      have b1 := bytes_of (by omega) h1.2
      obtain ⟨us, e, hu, hg⟩ := wordsDrawn l0 b0 2300000 (by omega)
      obtain ⟨x0, x1, x2, ex, hx⟩ := userWordDrawn l1 b1
      have hk := kernel_len
      have hml : (kernel ++ us).length = 83 + us.length := by rw [List.length_append, hk]
      have hgx : ∀ y ∈ us ++ [(⟨x0, x1, x2⟩ : S39)], GoodU y := by
        intro y hy
        rcases List.mem_append.1 hy with h | h
        · exact hg y h
        · rw [List.mem_singleton] at h
          rw [h]
          exact hx
      have hd := dictOK_kernel us (by omega) hg
      have hdy := dictOK_kernel (us ++ [⟨x0, x1, x2⟩]) (by simp; omega) hgx
      have hs := sizes_kernel us hg
      have hsy := sizes_kernel (us ++ [⟨x0, x1, x2⟩]) hgx
      have hlit := lit_none (us ++ [⟨x0, x1, x2⟩]) hgx
      rw [← List.append_assoc] at hdy hsy hlit
      have hn := names_ok _ hx.nm
      simp only [Bool.and_eq_true, decide_eq_true_eq] at hn
      obtain ⟨⟨⟨⟨⟨_, n2⟩, n3⟩, _⟩, n5⟩, n6⟩ := hn
      have hh : headK (kernel ++ us) = true := by
        unfold dictOK at hd
        simp only [Bool.and_eq_true] at hd
        exact hd.1.2
      have hhy : headK (kernel ++ us ++ [⟨x0, x1, x2⟩]) = true := by
        unfold dictOK at hdy
        simp only [Bool.and_eq_true] at hdy
        exact hdy.1.2
      rw [e, Option.bind_some, ex, Option.bind_some]
      simp only []
      generalize hm : kernel ++ us = m at *
      have ha : added m ⟨x0, x1, x2⟩ = (m ++ [⟨x0, x1, x2⟩], (m.length : Int) + 1, 0) := by
        unfold added
        rw [if_neg (by omega), hd, hx.ok, if_pos (show (true && true) = true from rfl), if_neg (by omega)]
      have hly : (m ++ [(⟨x0, x1, x2⟩ : S39)]).length = m.length + 1 := by simp
      rw [impl_AddWord_eq m ⟨x0, x1, x2⟩ (by omega) hs (by show x0.size ≤ _; omega) _ (by omega), spec_AddWord_eq m ⟨x0, x1, x2⟩ (by omega) hs (by show x0.size ≤ _; omega) _ (by omega), ha]
      simp only [Option.bind_some]
      rw [if_pos trivial, sameWords_refl _ (by omega) _ (by omega), Option.bind_some, if_pos rfl, impl_DictOK_eq m (by omega) hs _ (by omega), Option.bind_some, hd, if_pos rfl, impl_KernelSame_eq m (by omega) _ (by omega), Option.bind_some, hh, decide_eq_true (by omega), if_pos (show (true && true) = true from rfl), impl_KernelWords_eq _ (by omega), Option.bind_some, spec_KernelWords_eq _ (by omega), Option.bind_some, sameWords_refl _ (by omega) _ (by omega), Option.bind_some, if_pos rfl, if_pos trivial]
      rw [impl_FindWord_eq _ x0 (by omega) hsy (by omega) _ (by omega), Option.bind_some]
      have hup : impl_UpperOf.f x0 = some (upS x0) := by
        unfold impl_UpperOf.f
        rw [if_neg (by omega)]
        rfl
      rw [hup, Option.bind_some, impl_FindWord_eq _ (upS x0) (by omega) hsy (by omega) _ (by omega), Option.bind_some]
      have hl5 : impl_FindWord.f 2300000 (m ++ [⟨x0, x1, x2⟩]) (⟨#[40, 76, 73, 84, 41]⟩ : ByteArray) = some (found (m ++ [⟨x0, x1, x2⟩]) LIT5) := impl_FindWord_eq _ LIT5 (by omega) hsy (by decide) _ (by omega)
      rw [hl5, Option.bind_some]
      have f1 : found (m ++ [⟨x0, x1, x2⟩]) x0 = ((m.length : Int) + 1, 0) := by
        unfold found
        rw [if_neg (by omega), if_neg (by omega), if_pos hdy, hits_last x0 m ⟨x0, x1, x2⟩ n2 hx.kd, if_neg (by omega)]
      have f2 : found (m ++ [⟨x0, x1, x2⟩]) (upS x0) = ((m.length : Int) + 1, 0) := by
        unfold found
        rw [if_neg (by omega), if_neg (by omega), if_pos hdy, hits_last (upS x0) m ⟨x0, x1, x2⟩ n3 hx.kd, if_neg (by omega)]
      have f3 : found (m ++ [⟨x0, x1, x2⟩]) LIT5 = (0, 10) := by
        unfold found
        rw [if_neg (by omega), if_neg (by decide), if_pos hdy, hlit, if_pos rfl]
      rw [f1, f2, f3]
      exact dict_l0 m ⟨x0, x1, x2⟩ _ (by omega) hsy hdy hhy rfl (m.length + 1) 2300000 1 (by omega) (by omega) (by omega)
end Go.Proofs.YtbbfahkmjfmmjaaDoor.Pure
