/- The law FnExactNameOK answers true for every text. No condition. -/
import Derived.Test.YtdfnjihnjemghaaDoorPNamex1
namespace Go.Proofs.YtdfnjihnjemghaaDoor.Pure
open Go.RowKit Go.Proofs.YtdfnjihnjemghaaDoor.PName Go.Proofs.YtdfnjihnjemghaaDoorW.PrintWords Go.Proofs.YtdfnjihnjemghaaDoorW.PrintLast
set_option linter.unusedSimpArgs false
set_option linter.unusedVariables false

theorem bd64 {n : Int} (h : (Lit.int .i64 n).wf = true) : -9223372036854775808 ≤ n ∧ n ≤ 9223372036854775807 := by
  simp [Lit.wf, IntKind.min, IntKind.max, IntKind.signed, IntKind.bits] at h
  omega
/-- n lies from lo to hi. -/
def inR (n lo hi : Int) : Bool := decide (lo ≤ n ∧ n ≤ hi)
/-- A cell: 32 bits with a sign. -/
def isCell (n : Int) : Bool := decide (-2147483648 ≤ n ∧ n ≤ 2147483647)
theorem isCell_iff {n : Int} : isCell n = true ↔ (-2147483648 ≤ n ∧ n ≤ 2147483647) := by simp [isCell]
theorem inR_iff {n lo hi : Int} : inR n lo hi = true ↔ (lo ≤ n ∧ n ≤ hi) := by simp [inR]
theorem w64 {n : Int} (h : -9223372036854775808 ≤ n ∧ n ≤ 9223372036854775807) : wrap64 n = n := by unfold wrap64; omega
theorem w64_cell (n : Int) : wrap64 (wrap32 n) = wrap32 n := by unfold wrap64 wrap32; omega
theorem w32_cell {n : Int} (h : isCell n = true) : wrap32 n = n := by rw [isCell_iff] at h; unfold wrap32; omega
theorem cell_w32 (n : Int) : isCell (wrap32 n) = true := by rw [isCell_iff]; unfold wrap32; omega
theorem w32_eq (n : Int) : (wrap32 n == n) = isCell n := by
  rw [Bool.eq_iff_iff, isCell_iff]
  simp only [beq_iff_eq]
  unfold wrap32
  omega
/-- All of d numbers from i on. -/
def allF (P : Nat → Bool) : Nat → Nat → Bool
  | 0, _ => true
  | d + 1, i => P i && allF P d (i + 1)
theorem allF_congr {P Q : Nat → Bool} : ∀ d i, (∀ j, i ≤ j → j < i + d → P j = Q j) → allF P d i = allF Q d i
  | 0, _, _ => rfl
  | d + 1, i, h => by
    simp only [allF]
    rw [h i (Nat.le_refl _) (by omega), allF_congr d (i + 1) (fun j h1 h2 => h j (by omega) (by omega))]
theorem allF_true {P : Nat → Bool} : ∀ d i, (∀ j, i ≤ j → j < i + d → P j = true) → allF P d i = true
  | 0, _, _ => rfl
  | d + 1, i, h => by
    simp only [allF]
    rw [h i (Nat.le_refl _) (by omega), allF_true d (i + 1) (fun j h1 h2 => h j (by omega) (by omega))]
    rfl
theorem allF_all {α : Type} (p : α → Bool) (z : α) (l : List α) : ∀ d i, i + d = l.length → allF (fun j => p (l.getD j z)) d i = (l.drop i).all p
  | 0, i, h => by simp [allF, List.drop_of_length_le (show l.length ≤ i by omega)]
  | d + 1, i, h => by
    simp only [allF]
    rw [allF_all p z l d (i + 1) (by omega), List.drop_eq_getElem_cons (by omega : i < l.length), List.all_cons]
    simp [List.getD_eq_getElem?_getD, List.getElem?_eq_getElem (by omega : i < l.length)]
/-- A loop that leaves with false at the first number of which P does not hold. -/
theorem loop_all (F : Nat → Int → Option Bool) (n : Nat) (P : Nat → Bool) (fin : Bool)
    (hs : ∀ k (i : Nat), i < n → F (k + 1) i = if P i = true then F k ((i : Int) + 1) else some false) (he : ∀ k, F (k + 1) (n : Int) = some fin) :
    ∀ d k (i : Nat), i + d = n → d < k → F k i = some (allF P d i && fin)
  | 0, k, i, h, hk => by
    obtain ⟨k, rfl⟩ : ∃ m, k = m + 1 := ⟨k - 1, by omega⟩
    obtain rfl : i = n := by omega
    rw [he]
    simp [allF]
  | d + 1, k, i, h, hk => by
    obtain ⟨k, rfl⟩ : ∃ m, k = m + 1 := ⟨k - 1, by omega⟩
    rw [hs k i (by omega)]
    have ih := loop_all F n P fin hs he d k (i + 1) (by omega) (by omega)
    rw [show ((i + 1 : Nat) : Int) = (i : Int) + 1 by omega] at ih
    rw [ih]
    cases hp : P i <;> simp [allF, hp]
theorem loop_all0 (F : Nat → Int → Option Bool) (n : Nat) (P : Nat → Bool) (fin : Bool)
    (hs : ∀ k (i : Nat), i < n → F (k + 1) i = if P i = true then F k ((i : Int) + 1) else some false) (he : ∀ k, F (k + 1) (n : Int) = some fin) (k : Nat) (hk : n < k) : F k 0 = some (allF P n 0 && fin) :=
  loop_all F n P fin hs he n k 0 (by omega) hk
theorem impl_in_eq (a b c : Int) : impl_in.f a b c = some (inR a b c) := by
  unfold impl_in.f
  by_cases h1 : b ≤ a
  · by_cases h3 : a ≤ c <;> simp [inR, h1, h3]
  · simp [inR, h1]
theorem bt_data (s : ByteArray) (i : Nat) (h : i < s.size) : bt s (i : Int) = ((s.data.toList.getD i 0).toNat : Int) := by
  have hl : s.size = s.data.toList.length := by simp
  have hj' : i < s.data.toList.length := by omega
  simp only [bt, Int.toNat_natCast]
  rw [dif_pos h]
  simp [List.getD_eq_getElem?_getD, List.getElem?_eq_getElem hj']
  rfl
theorem extract_list (s : ByteArray) (i j : Nat) : (s.extract i j).data.toList = (s.data.toList.drop i).take (j - i) := by
  rw [ByteArray.data_extract, Array.toList_extract, List.extract_eq_take_drop]
def isLet (a : Int) : Bool := decide (97 ≤ a ∧ a ≤ 122) || (decide (65 ≤ a ∧ a ≤ 90) || (a == 95))
def isDig (a : Int) : Bool := decide (48 ≤ a ∧ a ≤ 57)
theorem spec_l00Letter_eq (a : Int) : spec_l00Letter.f a = some (isLet a) := by
  unfold spec_l00Letter.f isLet
  by_cases h1 : a ≥ 97
  · by_cases h2 : a ≤ 122
    · rw [if_pos h1, if_pos h2]
      simp [show 97 ≤ a from h1, h2]
    · rw [if_pos h1, if_neg h2]
      by_cases h3 : a ≥ 65
      · rw [if_pos h3]
        by_cases h4 : a ≤ 90
        · omega
        · rw [if_neg h4]
          simp [h2, h4]
      · omega
  · rw [if_neg h1]
    have h1' : ¬ 97 ≤ a := h1
    by_cases h3 : a ≥ 65
    · rw [if_pos h3]
      by_cases h4 : a ≤ 90
      · rw [if_pos h4]
        simp [show 65 ≤ a from h3, h4]
      · rw [if_neg h4]
        simp [h1', h4]
    · have h3' : ¬ 65 ≤ a := h3
      rw [if_neg h3]
      simp [h1', h3']
theorem spec_l00Digit_eq (a : Int) : spec_l00Digit.f a = some (isDig a) := by
  unfold spec_l00Digit.f isDig
  by_cases h1 : a ≥ 48
  · rw [if_pos h1]
    simp [show 48 ≤ a from h1]
  · have h1' : ¬ 48 ≤ a := h1
    rw [if_neg h1]
    simp [h1']
def LETS : ByteArray := ⟨#[97, 98, 99, 100, 101, 102, 103, 104, 105, 106, 107, 108, 109, 110, 111, 112, 113, 114, 115, 116, 117, 118, 119, 120, 121, 122, 65, 66, 67, 68, 69, 70, 71, 72, 73, 74, 75, 76, 77, 78, 79, 80, 81, 82, 83, 84, 85, 86, 87, 88, 89, 90, 95]⟩
def LEDS : ByteArray := ⟨#[97, 98, 99, 100, 101, 102, 103, 104, 105, 106, 107, 108, 109, 110, 111, 112, 113, 114, 115, 116, 117, 118, 119, 120, 121, 122, 65, 66, 67, 68, 69, 70, 71, 72, 73, 74, 75, 76, 77, 78, 79, 80, 81, 82, 83, 84, 85, 86, 87, 88, 89, 90, 95, 48, 49, 50, 51, 52, 53, 54, 55, 56, 57]⟩
theorem lets_fin : ∀ n : Fin 256, LETS.data.toList.contains (UInt8.ofNat n.val) = isLet (n.val : Int) := by decide +kernel
theorem leds_fin : ∀ n : Fin 256, LEDS.data.toList.contains (UInt8.ofNat n.val) = (isLet (n.val : Int) || isDig (n.val : Int)) := by decide +kernel
theorem lets_byte (b : UInt8) : LETS.data.toList.contains b = isLet (b.toNat : Int) := by
  have h := lets_fin ⟨b.toNat, b.toNat_lt⟩
  simpa using h
theorem leds_byte (b : UInt8) : LEDS.data.toList.contains b = (isLet (b.toNat : Int) || isDig (b.toNat : Int)) := by
  have h := leds_fin ⟨b.toNat, b.toNat_lt⟩
  simpa using h
theorem dw_nil (p : UInt8 → Bool) : ∀ l : List UInt8, l.dropWhile p = [] ↔ l.all p = true
  | [] => by simp
  | x :: l => by
    have ih := dw_nil p l
    cases h : p x <;> simp [List.dropWhile, h, ih]
theorem dw_all (p : UInt8 → Bool) : ∀ l : List UInt8, (l.dropWhile p).all p = true → l.all p = true
  | [], _ => by simp
  | x :: l, h => by
    cases hx : p x
    · simp [List.dropWhile, hx] at h
    · rw [List.dropWhile_cons_of_pos hx] at h
      have ih := dw_all p l h
      simp [hx, ih]
theorem trimS_nil (l cs : List UInt8) : Lib.trimS l cs = [] ↔ l.all (fun b => cs.contains b) = true := by
  unfold Lib.trimS Lib.trimLeftS Lib.trimRightS
  rw [dw_nil, List.all_reverse]
  constructor
  · intro h
    have := dw_all _ _ h
    rw [List.all_reverse] at this
    exact this
  · intro h
    have hr : l.reverse.dropWhile (cs.contains ·) = [] := by
      rw [dw_nil, List.all_reverse]
      exact h
    rw [hr]
    rfl
theorem trim_nil (s cs : ByteArray) : ((⟨(Lib.trimS s.data.toList cs.data.toList).toArray⟩ : ByteArray).toList = ([] : List UInt8)) ↔ s.data.toList.all (fun b => cs.data.toList.contains b) = true := by
  rw [ByteArray.toList_eq, ← trimS_nil]
/-- A name. -/
def nameW (s : ByteArray) : Bool := inR (s.size : Int) 1 12 && (isLet (bt s 0) && allF (fun j => isLet (bt s (j : Int)) || isDig (bt s (j : Int))) (s.size - 1) 1)
theorem spec_NameOK_eq (s : ByteArray) (hs : s.size ≤ 1048576) (k : Nat) (hk : 100 < k) : spec_NameOK.f k s = some (nameW s) := by
  obtain ⟨k, rfl⟩ : ∃ m, k = m + 1 := ⟨k - 1, by omega⟩
  unfold spec_NameOK.f spec_l00Word.f nameW
  by_cases h1 : inR (s.size : Int) 1 12 = true
  · have h2 := inR_iff.mp h1
    rw [if_neg (by omega), if_neg (by omega), if_pos (by omega), spec_l00Letter_eq]
    simp only [Option.bind_some, spec_l00Word.j0]
    cases h3 : isLet (bt s 0)
    · simp
    · rw [if_neg (show ¬ (!true) = true by decide)]
      have h := loop_all (fun k i => spec_l00Word.l0 k s i) s.size (fun j => isLet (bt s (j : Int)) || isDig (bt s (j : Int))) true (fun k i hi => by
        simp only [spec_l00Word.l0]
        rw [if_pos (by omega), if_pos (by omega), spec_l00Letter_eq, spec_l00Digit_eq, w64 (by omega)]
        simp only [Option.bind_some]
        cases isLet (bt s (i : Int)) <;> cases isDig (bt s (i : Int)) <;> rfl) (fun k => by
        simp only [spec_l00Word.l0]
        rw [if_neg (by omega)]) (s.size - 1) k 1 (by omega) (by omega)
      rw [show (1 : Int) = ((1 : Nat) : Int) from rfl, h]
      have h1' : inR (s.size : Int) ((1 : Nat) : Int) 12 = true := h1
      rw [h1']
      simp
  · have h1' : inR (s.size : Int) 1 12 = false := by simpa using h1
    rw [h1']
    by_cases h2 : (s.size : Int) < 1
    · rw [if_pos h2]
      simp only [spec_l00Word.j0]
      rfl
    · have h3 : (s.size : Int) > 12 := by
        have h4 : ¬ (1 ≤ (s.size : Int) ∧ (s.size : Int) ≤ 12) := fun e => h1 (inR_iff.mpr e)
        omega
      rw [if_neg h2, if_pos h3]
      simp only [spec_l00Word.j0]
      rfl
theorem impl_NameOK_eq (s : ByteArray) (hs : s.size ≤ 1048576) : impl_NameOK.f s = some (nameW s) := by
  have hl : s.size = s.data.toList.length := by simp
  unfold impl_NameOK.f nameW
  rw [impl_in_eq, Option.bind_some]
  cases h1 : inR (s.size : Int) 1 12
  · rfl
  · have h2 := inR_iff.mp h1
    have hx : (s.extract 0 1).size ≤ 9223372036854775807 := by rw [ByteArray.size_extract]; omega
    have t1 : strings_Trim.f (s.extract 0 1) LETS = some ⟨(Lib.trimS (s.extract 0 1).data.toList LETS.data.toList).toArray⟩ := by
      unfold strings_Trim.f
      rw [if_pos (by decide), if_pos (by decide), if_pos hx]
    have t2 : strings_Trim.f s LEDS = some ⟨(Lib.trimS s.data.toList LEDS.data.toList).toArray⟩ := by
      unfold strings_Trim.f
      rw [if_pos (by decide), if_pos (by decide), if_pos (by omega)]
    rw [if_pos rfl, if_pos (by decide), if_pos (by omega)]
    show ((strings_Trim.f (s.extract 0 1) LETS).bind fun t106 => if t106.toList = [] then ((strings_Trim.f s LEDS).bind fun t107 => some (t107.toList == [])) else some false) = _
    rw [t1, t2]
    simp only [Option.bind_some]
    have e1 : s.data.toList.drop 0 = s.data.toList.getD 0 0 :: s.data.toList.drop 1 := by
      rw [List.drop_eq_getElem_cons (by omega)]
      simp [List.getD_eq_getElem?_getD, List.getElem?_eq_getElem (show 0 < s.data.toList.length by omega)]
    have b0 : bt s 0 = ((s.data.toList.getD 0 0).toNat : Int) := bt_data s 0 (by omega)
    have c1 : (((⟨(Lib.trimS (s.extract 0 1).data.toList LETS.data.toList).toArray⟩ : ByteArray).toList = ([] : List UInt8)) ↔ isLet (bt s 0) = true) := by
      rw [trim_nil, extract_list, e1, b0, List.take_succ_cons, List.take_zero, List.all_cons, lets_byte]
      simp
    have c2 : (((⟨(Lib.trimS s.data.toList LEDS.data.toList).toArray⟩ : ByteArray).toList == ([] : List UInt8))) = ((isLet (bt s 0) || isDig (bt s 0)) && allF (fun j => isLet (bt s (j : Int)) || isDig (bt s (j : Int))) (s.size - 1) 1) := by
      rw [Bool.eq_iff_iff, beq_iff_eq, trim_nil]
      have e2 : allF (fun j => isLet (bt s (j : Int)) || isDig (bt s (j : Int))) (s.size - 1) 1 = (s.data.toList.drop 1).all (fun b => LEDS.data.toList.contains b) := by
        rw [← allF_all (fun b => LEDS.data.toList.contains b) 0 s.data.toList (s.size - 1) 1 (by omega)]
        exact allF_congr _ _ (fun j j1 j2 => by rw [bt_data s j (by omega), leds_byte])
      rw [e2, b0, ← leds_byte, ← List.all_cons (f := fun b => LEDS.data.toList.contains b), ← e1, List.drop_zero]
    rw [c2]
    by_cases h3 : isLet (bt s 0) = true
    · rw [if_pos (c1.mpr h3), h3]
      simp
    · rw [if_neg (fun e => h3 (c1.mp e))]
      have h3' : isLet (bt s 0) = false := by simpa using h3
      rw [h3']
      simp
theorem FnExactNameOK : laws_FnExactNameOK.Pure := by
  intro s _
  refine ⟨200, ?_⟩
  unfold laws_FnExactNameOK.f
  by_cases h1 : (s.size : Int) > 1048576
  · rw [if_pos h1]
  · rw [if_neg h1, spec_NameOK_eq s (by omega) 200 (by omega), impl_NameOK_eq s (by omega)]
    simp
end Go.Proofs.YtdfnjihnjemghaaDoor.Pure
