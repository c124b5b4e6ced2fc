/- The law FnExactReadCell answers true for every text and base: both read the same digits. No condition. -/
import Derived.Test.YtbdcdmbnhialcaaPFnExactReadCellx2
namespace Go.Proofs.Ytbdcdmbnhialcaa.Pure
open Go.RowKit Go.Proofs.Ytbdcdmbnhialcaa.PFnExactReadCell Go.Proofs.YtbdcdmbnhialcaaW.PrintWords Go.Proofs.YtbdcdmbnhialcaaW.PrintLast
set_option linter.unusedSimpArgs false
set_option linter.unusedVariables false

theorem bd64 {n : Int} (h : (Lit.int .i64 n).wf = true) : -9223372036854775808 ≤ n ∧ n ≤ 9223372036854775807 := by
  simp [Lit.wf, IntKind.min, IntKind.max, IntKind.signed, IntKind.bits] at h
  omega
/-- n lies from lo to hi. -/
def inR (n lo hi : Int) : Bool := decide (lo ≤ n ∧ n ≤ hi)
/-- A cell: 32 bits with a sign. -/
def isCell (n : Int) : Bool := decide (-2147483648 ≤ n ∧ n ≤ 2147483647)
theorem isCell_iff {n : Int} : isCell n = true ↔ (-2147483648 ≤ n ∧ n ≤ 2147483647) := by simp [isCell]
theorem inR_iff {n lo hi : Int} : inR n lo hi = true ↔ (lo ≤ n ∧ n ≤ hi) := by simp [inR]
theorem w64 {n : Int} (h : -9223372036854775808 ≤ n ∧ n ≤ 9223372036854775807) : wrap64 n = n := by unfold wrap64; omega
theorem w64_cell (n : Int) : wrap64 (wrap32 n) = wrap32 n := by unfold wrap64 wrap32; omega
theorem w32_cell {n : Int} (h : isCell n = true) : wrap32 n = n := by rw [isCell_iff] at h; unfold wrap32; omega
theorem cell_w32 (n : Int) : isCell (wrap32 n) = true := by rw [isCell_iff]; unfold wrap32; omega
theorem w32_eq (n : Int) : (wrap32 n == n) = isCell n := by
  rw [Bool.eq_iff_iff, isCell_iff]
  simp only [beq_iff_eq]
  unfold wrap32
  omega
/-- All of d numbers from i on. -/
def allF (P : Nat → Bool) : Nat → Nat → Bool
  | 0, _ => true
  | d + 1, i => P i && allF P d (i + 1)
theorem allF_congr {P Q : Nat → Bool} : ∀ d i, (∀ j, i ≤ j → j < i + d → P j = Q j) → allF P d i = allF Q d i
  | 0, _, _ => rfl
  | d + 1, i, h => by
    simp only [allF]
    rw [h i (Nat.le_refl _) (by omega), allF_congr d (i + 1) (fun j h1 h2 => h j (by omega) (by omega))]
theorem allF_true {P : Nat → Bool} : ∀ d i, (∀ j, i ≤ j → j < i + d → P j = true) → allF P d i = true
  | 0, _, _ => rfl
  | d + 1, i, h => by
    simp only [allF]
    rw [h i (Nat.le_refl _) (by omega), allF_true d (i + 1) (fun j h1 h2 => h j (by omega) (by omega))]
    rfl
theorem allF_all {α : Type} (p : α → Bool) (z : α) (l : List α) : ∀ d i, i + d = l.length → allF (fun j => p (l.getD j z)) d i = (l.drop i).all p
  | 0, i, h => by simp [allF, List.drop_of_length_le (show l.length ≤ i by omega)]
  | d + 1, i, h => by
    simp only [allF]
    rw [allF_all p z l d (i + 1) (by omega), List.drop_eq_getElem_cons (by omega : i < l.length), List.all_cons]
    simp [List.getD_eq_getElem?_getD, List.getElem?_eq_getElem (by omega : i < l.length)]
/-- A loop that leaves with false at the first number of which P does not hold. -/
theorem loop_all (F : Nat → Int → Option Bool) (n : Nat) (P : Nat → Bool) (fin : Bool)
    (hs : ∀ k (i : Nat), i < n → F (k + 1) i = if P i = true then F k ((i : Int) + 1) else some false) (he : ∀ k, F (k + 1) (n : Int) = some fin) :
    ∀ d k (i : Nat), i + d = n → d < k → F k i = some (allF P d i && fin)
  | 0, k, i, h, hk => by
    obtain ⟨k, rfl⟩ : ∃ m, k = m + 1 := ⟨k - 1, by omega⟩
    obtain rfl : i = n := by omega
    rw [he]
    simp [allF]
  | d + 1, k, i, h, hk => by
    obtain ⟨k, rfl⟩ : ∃ m, k = m + 1 := ⟨k - 1, by omega⟩
    rw [hs k i (by omega)]
    have ih := loop_all F n P fin hs he d k (i + 1) (by omega) (by omega)
    rw [show ((i + 1 : Nat) : Int) = (i : Int) + 1 by omega] at ih
    rw [ih]
    cases hp : P i <;> simp [allF, hp]
theorem loop_all0 (F : Nat → Int → Option Bool) (n : Nat) (P : Nat → Bool) (fin : Bool)
    (hs : ∀ k (i : Nat), i < n → F (k + 1) i = if P i = true then F k ((i : Int) + 1) else some false) (he : ∀ k, F (k + 1) (n : Int) = some fin) (k : Nat) (hk : n < k) : F k 0 = some (allF P n 0 && fin) :=
  loop_all F n P fin hs he n k 0 (by omega) hk
theorem spec_l01In_eq (a b c : Int) : spec_l01In.f a b c = some (inR a b c) := by
  unfold spec_l01In.f
  by_cases h1 : a ≥ b
  · have h2 : b ≤ a := h1
    by_cases h3 : a ≤ c <;> simp [h1, inR, h2, h3]
  · have h2 : ¬ b ≤ a := h1
    simp [inR, h2]
theorem impl_in_eq (a b c : Int) : impl_in.f a b c = some (inR a b c) := by
  unfold impl_in.f
  by_cases h1 : b ≤ a
  · by_cases h3 : a ≤ c <;> simp [inR, h1, h3]
  · simp [inR, h1]
theorem u64_wrap (a : Int) : IntKind.u64.wrap a = a % 18446744073709551616 := by
  simp [IntKind.wrap, IntKind.bits, IntKind.signed]
theorem spec_Wrap_eq (a : Int) : spec_l01Wrap.f a = some (wrap32 a) := by
  unfold spec_l01Wrap.f
  rw [u64_wrap]
  congr 1
  unfold wrap64 wrap32
  omega
theorem impl_WrapCell_eq (a : Int) : impl_WrapCell.f a = some (wrap32 a) := by
  unfold impl_WrapCell.f
  rw [w64_cell]
/-- The digit that a byte is, -1 if it is none. -/
def dig (c : Int) : Int := if 48 ≤ c ∧ c ≤ 57 then c - 48 else if 97 ≤ c ∧ c ≤ 102 then c - 87 else if 65 ≤ c ∧ c ≤ 70 then c - 55 else -1
theorem spec_Digit_eq (c : Int) (k : Nat) (hk : 0 < k) (h0 : 0 ≤ c) (h1 : c ≤ 255) : spec_l01Digit.f k c = some (dig c) := by
  obtain ⟨k, rfl⟩ : ∃ m, k = m + 1 := ⟨k - 1, by omega⟩
  unfold spec_l01Digit.f spec_l00Digit.f dig
  simp only [spec_l01Digit.j0]
  rw [w64 (n := c) (by omega), w64 (n := c - 48) (by omega), w64 (n := c - 87) (by omega), w64 (n := c - 55) (by omega)]
  by_cases a1 : 48 ≤ c
  · by_cases a2 : c ≤ 57
    · simp [a1, a2]
    · have a3 : ¬ (48 ≤ c ∧ c ≤ 57) := by omega
      by_cases a4 : 97 ≤ c
      · by_cases a5 : c ≤ 102
        · simp [a1, a2, a4, a5]
        · have a6 : ¬ c ≤ 70 := by omega
          simp [a1, a2, a4, a5, a6]
      · by_cases a7 : 65 ≤ c
        · by_cases a8 : c ≤ 70
          · simp [a1, a2, a4, a7, a8]
          · simp [a1, a2, a4, a7, a8]
        · simp [a1, a2, a4, a7]
  · have a4 : ¬ 97 ≤ c := by omega
    have a7 : ¬ 65 ≤ c := by omega
    simp [a1, a4, a7]
def DIG : ByteArray := ⟨#[48, 49, 50, 51, 52, 53, 54, 55, 56, 57, 65, 66, 67, 68, 69, 70]⟩
theorem find_dig : ∀ (b : Fin 17) (c : Fin 256), Lib.indexByte ((DIG.extract 0 b.val).data.toList) ((up1 (c.val : Int)).toNat.toUInt8) = if dig (c.val : Int) < 0 ∨ (b.val : Int) ≤ dig (c.val : Int) then -1 else dig (c.val : Int) := by
  decide +kernel
theorem bt_data (s : ByteArray) (i : Nat) (h : i < s.size) : bt s (i : Int) = ((s.data.toList.getD i 0).toNat : Int) := by
  have hl : s.size = s.data.toList.length := by simp
  have hj' : i < s.data.toList.length := by omega
  simp only [bt, Int.toNat_natCast]
  rw [dif_pos h]
  simp [List.getD_eq_getElem?_getD, List.getElem?_eq_getElem hj']
  rfl
theorem extract_one (s : ByteArray) (i : Nat) (h : i < s.size) : (s.extract i (i + 1)).data.toList = [s.data.toList.getD i 0] := by
  have hl : s.size = s.data.toList.length := by simp
  have hj' : i < s.data.toList.length := by omega
  rw [ByteArray.data_extract, Array.toList_extract, List.extract_eq_take_drop, show i + 1 - i = 1 by omega, List.drop_eq_getElem_cons hj', List.take_succ_cons, List.take_zero]
  simp [List.getD_eq_getElem?_getD, List.getElem?_eq_getElem hj']
theorem up1_bd (c : Int) (h0 : 0 ≤ c) (h1 : c ≤ 255) : 0 ≤ up1 c ∧ up1 c ≤ 255 := by
  unfold up1
  repeat' split
  all_goals omega
theorem upper_one (s : ByteArray) (i : Nat) (h : i < s.size) : impl_UpperOf.f (s.extract i (i + 1)) = some (strOfNums [up1 (bt s (i : Int))]) := by
  have e := extract_one s i h
  have hl : (s.extract i (i + 1)).size = (s.extract i (i + 1)).data.toList.length := by
    rw [Array.length_toList]
    rfl
  unfold impl_UpperOf.f
  rw [if_neg (by rw [hl, e]; simp), bt_data s i h]
  unfold numsB
  rw [e]
  rfl
theorem bt_one (n : Int) (h0 : 0 ≤ n) (h1 : n ≤ 255) : bt (strOfNums [n]) 0 = n := by
  have h : (0 : Nat) < (strOfNums [n]).size := by rw [strOfNums_size]; simp
  have h2 := bt_data (strOfNums [n]) 0 h
  rw [show ((0 : Nat) : Int) = 0 from rfl] at h2
  rw [h2, strOfNums_data]
  simp
  omega
theorem find_eq (b : Int) (c : Int) (hb0 : 0 ≤ b) (hb : b ≤ 16) (h0 : 0 ≤ c) (h1 : c ≤ 255) : strings_IndexByte.f (DIG.extract 0 b.toNat) (up1 c) = some (if dig c < 0 ∨ b ≤ dig c then -1 else dig c) := by
  have h := find_dig ⟨b.toNat, by omega⟩ ⟨c.toNat, by omega⟩
  simp only [Int.toNat_of_nonneg h0, Int.toNat_of_nonneg hb0] at h
  unfold strings_IndexByte.f
  rw [h]
/-- d bytes from i on, read on from n. -/
def go (s : ByteArray) (b : Int) (neg : Bool) : Nat → Nat → Int → Int × Bool
  | 0, _, n => if neg = true then (wrap32 (wrap64 (-n)), true) else (n, true)
  | d + 1, i, n => if dig (bt s (i : Int)) < 0 then (0, false) else if dig (bt s (i : Int)) ≥ b then (0, false) else go s b neg d (i + 1) (wrap32 (wrap64 (wrap64 (n * b) + dig (bt s (i : Int)))))
theorem spec_go (s : ByteArray) (b : Int) (neg : Bool) (hs : s.size ≤ 1048576) : ∀ d k (i : Nat) (n : Int), i + d = s.size → d + 1 < k → spec_l01Read.l0 k s b neg n (i : Int) = some (go s b neg d i n)
  | 0, k, i, n, h, hk => by
    obtain ⟨k, rfl⟩ : ∃ m, k = m + 1 := ⟨k - 1, by omega⟩
    simp only [spec_l01Read.l0, go]
    rw [if_neg (by omega), spec_Wrap_eq]
    cases neg <;> simp
  | d + 1, k, i, n, h, hk => by
    obtain ⟨k, rfl⟩ : ∃ m, k = m + 1 := ⟨k - 1, by omega⟩
    have hb := bt_range s (i : Int)
    simp only [spec_l01Read.l0, go]
    rw [if_pos (by omega), if_pos (by omega), spec_Digit_eq _ k (by omega) hb.1 hb.2, Option.bind_some]
    by_cases h1 : dig (bt s (i : Int)) < 0
    · rw [if_pos h1, if_pos h1]
    · rw [if_neg h1, if_neg h1]
      by_cases h2 : dig (bt s (i : Int)) ≥ b
      · rw [if_pos h2, if_pos h2]
      · rw [if_neg h2, if_neg h2, spec_Wrap_eq, Option.bind_some, w64 (n := (i : Int) + 1) (by omega), show (i : Int) + 1 = ((i + 1 : Nat) : Int) by omega, spec_go s b neg hs d k (i + 1) _ (by omega) (by omega)]
theorem impl_go (s : ByteArray) (b : Int) (neg : Bool) (hs : s.size ≤ 1048576) (hb0 : 0 ≤ b) (hb1 : b ≤ 16) : ∀ d k (i : Nat) (n : Int), i + d = s.size → d < k → impl_readCell.l0 k b s neg n (s.size : Int) (i : Int) = some (go s b neg d i n)
  | 0, k, i, n, h, hk => by
    obtain ⟨k, rfl⟩ : ∃ m, k = m + 1 := ⟨k - 1, by omega⟩
    simp only [impl_readCell.l0, go]
    rw [if_neg (by omega), impl_WrapCell_eq]
    cases neg <;> simp
  | d + 1, k, i, n, h, hk => by
    obtain ⟨k, rfl⟩ : ∃ m, k = m + 1 := ⟨k - 1, by omega⟩
    have hb := bt_range s (i : Int)
    have hu := up1_bd _ hb.1 hb.2
    simp only [impl_readCell.l0, go]
    rw [w64 (n := (i : Int) + 1) (by omega), if_pos (by omega), if_pos (by omega), if_pos (by omega), if_pos (by omega), if_pos (by omega), if_pos (by omega), show ((i : Int) + 1).toNat = i + 1 by omega, Int.toNat_natCast, upper_one s i (by omega), Option.bind_some, strOfNums_size, if_pos (by simp), bt_one _ hu.1 hu.2]
    have hf := find_eq b _ hb0 hb1 hb.1 hb.2
    unfold DIG at hf
    by_cases h1 : dig (bt s (i : Int)) < 0
    · rw [if_pos (Or.inl h1)] at hf
      rw [hf, Option.bind_some, if_pos h1, if_pos (by omega)]
    · by_cases h2 : dig (bt s (i : Int)) ≥ b
      · rw [if_pos (Or.inr h2)] at hf
        rw [hf, Option.bind_some, if_neg h1, if_pos h2, if_pos (by omega)]
      · rw [if_neg (by omega)] at hf
        rw [hf, Option.bind_some, if_neg h1, if_neg h1, if_neg h2, impl_WrapCell_eq, Option.bind_some, show (i : Int) + 1 = ((i + 1 : Nat) : Int) by omega, impl_go s b neg hs hb0 hb1 d k (i + 1) _ (by omega) (by omega)]
/-- The text behind its sign, and whether it has one. -/
def neg (s : ByteArray) : Bool := decide (0 < s.size) && (bt s 0 == 45)
def rest (s : ByteArray) : ByteArray := if neg s = true then s.extract 1 s.size else s
theorem rest_size (s : ByteArray) : (rest s).size ≤ s.size := by
  unfold rest
  split
  · rw [ByteArray.size_extract]
    omega
  · exact Nat.le_refl _
def readC (s : ByteArray) (b : Int) : Int × Bool := if (rest s).size = 0 then (0, false) else if (rest s).size > 32 then (0, false) else go (rest s) b (neg s) (rest s).size 0 0
theorem spec_Read_eq (s : ByteArray) (b : Int) (hs : s.size ≤ 1048576) (k : Nat) (hk : 1048600 < k) : spec_l01Read.f k s b = some (readC s b) := by
  obtain ⟨k, rfl⟩ : ∃ m, k = m + 3 := ⟨k - 3, by omega⟩
  have tail : ∀ x : ByteArray, x.size ≤ 1048576 → ∀ n : Bool, spec_l01Read.j1 (k + 2) x b n = some (if x.size = 0 then (0, false) else if x.size > 32 then (0, false) else go x b n x.size 0 0) := by
    intro x hx n
    simp only [spec_l01Read.j1, spec_l01Read.j2, if_true]
    by_cases h1 : x.size = 0
    · rw [if_pos (by omega), if_pos h1]
    · rw [if_neg (by omega), if_neg h1]
      by_cases h2 : x.size > 32
      · rw [if_pos (by simp; omega), if_pos h2]
      · rw [if_neg (by simp; omega), if_neg h2]
        exact spec_go x b n hx x.size k 0 0 (by omega) (by omega)
  have hr := rest_size s
  unfold spec_l01Read.f readC
  rw [← tail (rest s) (by omega) (neg s)]
  simp only [spec_l01Read.j0]
  unfold rest neg
  by_cases h1 : 0 < s.size
  · rw [if_pos (by omega), if_pos (by omega)]
    cases h2 : bt s 0 == 45
    · simp [h1]
    · simp only [if_true]
      rw [if_pos (by omega)]
      simp [h1]
  · rw [if_neg (by omega)]
    simp [h1]
theorem cut_eq (s : ByteArray) : strings_CutPrefix.f s (⟨#[45]⟩ : ByteArray) = some (rest s, neg s) := by
  unfold strings_CutPrefix.f stringslite_CutPrefix.f stringslite_HasPrefix.f rest neg
  have e : ((⟨#[45]⟩ : ByteArray).size : Int) = 1 := rfl
  rw [e]
  by_cases h1 : 0 < s.size
  · have h2 : ((s.extract 0 (1 : Int).toNat).toList == (⟨#[45]⟩ : ByteArray).toList) = (bt s 0 == 45) := by
      have e1 : (s.extract 0 1).toList = [s.data.toList.getD 0 0] := by rw [Lib.toList_data]; exact extract_one s 0 h1
      have e2 : (⟨#[45]⟩ : ByteArray).toList = [45] := by rw [Lib.toList_data]
      have e3 := bt_data s 0 h1
      rw [show ((0 : Nat) : Int) = 0 from rfl] at e3
      rw [show (1 : Int).toNat = 1 from rfl, e1, e2, e3]
      generalize s.data.toList.getD 0 0 = c
      rw [Bool.eq_iff_iff]
      simp only [beq_iff_eq, List.cons.injEq, and_true]
      constructor
      · rintro rfl; rfl
      · intro h
        apply UInt8.toNat_inj.mp
        have : c.toNat = 45 := by omega
        rw [this]; rfl
    rw [if_pos (by omega), if_pos (by omega), if_pos (by omega), h2]
    simp only [Option.bind_some]
    cases h3 : bt s 0 == 45
    · simp [h1]
    · rw [if_pos rfl, if_pos (by omega), if_pos (by omega)]
      simp [h1]
  · rw [if_neg (by omega)]
    simp [h1]
theorem impl_read_eq (s : ByteArray) (b : Int) (hs : s.size ≤ 1048576) (hb0 : 0 ≤ b) (hb1 : b ≤ 16) (k : Nat) (hk : 1048600 < k) : impl_readCell.f k s b = some (readC s b) := by
  have hr := rest_size s
  unfold impl_readCell.f readC
  rw [cut_eq, Option.bind_some]
  simp only []
  rw [impl_in_eq, Option.bind_some]
  by_cases h1 : (rest s).size = 0
  · rw [if_neg (by rw [inR_iff]; omega), if_pos h1]
  · rw [if_neg h1]
    by_cases h2 : (rest s).size > 32
    · rw [if_neg (by rw [inR_iff]; omega), if_pos h2]
    · rw [if_pos (by rw [inR_iff]; omega), if_neg h2]
      exact impl_go (rest s) b (neg s) (by omega) hb0 hb1 (rest s).size k 0 0 (by omega) (by omega)
theorem FnExactReadCell : laws_FnExactReadCell.Pure := by
  intro s b _ _
  refine ⟨1048700, ?_⟩
  unfold laws_FnExactReadCell.f spec_ReadCell.f impl_ReadCell.f
  by_cases h : (s.size : Int) > 1048576
  · rw [if_pos h]
  · rw [if_neg h]
    by_cases h2 : (s.size : Int) > 65536
    · rw [if_pos h2, if_pos h2]
      simp
    · rw [if_neg h2, if_neg h2]
      unfold spec_l01Base.f impl_isBase.f
      rw [spec_l01In_eq, impl_in_eq]
      simp only [Option.bind_some]
      by_cases h3 : inR b 2 16 = true
      · have h4 := inR_iff.mp h3
        rw [if_pos h3, if_pos h3, spec_Read_eq s b (by omega) _ (by omega), impl_read_eq s b (by omega) (by omega) (by omega) _ (by omega)]
        simp only [Option.bind_some]
        cases (readC s b).2 <;> simp
      · rw [if_neg h3, if_neg h3]
        simp
end Go.Proofs.Ytbdcdmbnhialcaa.Pure
