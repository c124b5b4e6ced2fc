/- The law FnExactCellText answers true for all numbers and bases: both write the same digits. No condition. -/
import Derived.Test.YthdaooejfkpdfaaDoorPFnExactCellTextx3
namespace Go.Proofs.YthdaooejfkpdfaaDoor.Pure
open Go.RowKit Go.Proofs.YthdaooejfkpdfaaDoor.PFnExactCellText Go.Proofs.YthdaooejfkpdfaaDoorW.PrintWords Go.Proofs.YthdaooejfkpdfaaDoorW.PrintLast
set_option linter.unusedSimpArgs false
set_option linter.unusedVariables false

theorem bd64 {n : Int} (h : (Lit.int .i64 n).wf = true) : -9223372036854775808 ≤ n ∧ n ≤ 9223372036854775807 := by
  simp [Lit.wf, IntKind.min, IntKind.max, IntKind.signed, IntKind.bits] at h
  omega
/-- n lies from lo to hi. -/
def inR (n lo hi : Int) : Bool := decide (lo ≤ n ∧ n ≤ hi)
/-- A cell: 32 bits with a sign. -/
def isCell (n : Int) : Bool := decide (-2147483648 ≤ n ∧ n ≤ 2147483647)
theorem isCell_iff {n : Int} : isCell n = true ↔ (-2147483648 ≤ n ∧ n ≤ 2147483647) := by simp [isCell]
theorem inR_iff {n lo hi : Int} : inR n lo hi = true ↔ (lo ≤ n ∧ n ≤ hi) := by simp [inR]
theorem w64 {n : Int} (h : -9223372036854775808 ≤ n ∧ n ≤ 9223372036854775807) : wrap64 n = n := by unfold wrap64; omega
theorem w64_cell (n : Int) : wrap64 (wrap32 n) = wrap32 n := by unfold wrap64 wrap32; omega
theorem w32_cell {n : Int} (h : isCell n = true) : wrap32 n = n := by rw [isCell_iff] at h; unfold wrap32; omega
theorem cell_w32 (n : Int) : isCell (wrap32 n) = true := by rw [isCell_iff]; unfold wrap32; omega
theorem w32_eq (n : Int) : (wrap32 n == n) = isCell n := by
  rw [Bool.eq_iff_iff, isCell_iff]
  simp only [beq_iff_eq]
  unfold wrap32
  omega
/-- All of d numbers from i on. -/
def allF (P : Nat → Bool) : Nat → Nat → Bool
  | 0, _ => true
  | d + 1, i => P i && allF P d (i + 1)
theorem allF_congr {P Q : Nat → Bool} : ∀ d i, (∀ j, i ≤ j → j < i + d → P j = Q j) → allF P d i = allF Q d i
  | 0, _, _ => rfl
  | d + 1, i, h => by
    simp only [allF]
    rw [h i (Nat.le_refl _) (by omega), allF_congr d (i + 1) (fun j h1 h2 => h j (by omega) (by omega))]
theorem allF_true {P : Nat → Bool} : ∀ d i, (∀ j, i ≤ j → j < i + d → P j = true) → allF P d i = true
  | 0, _, _ => rfl
  | d + 1, i, h => by
    simp only [allF]
    rw [h i (Nat.le_refl _) (by omega), allF_true d (i + 1) (fun j h1 h2 => h j (by omega) (by omega))]
    rfl
theorem allF_all {α : Type} (p : α → Bool) (z : α) (l : List α) : ∀ d i, i + d = l.length → allF (fun j => p (l.getD j z)) d i = (l.drop i).all p
  | 0, i, h => by simp [allF, List.drop_of_length_le (show l.length ≤ i by omega)]
  | d + 1, i, h => by
    simp only [allF]
    rw [allF_all p z l d (i + 1) (by omega), List.drop_eq_getElem_cons (by omega : i < l.length), List.all_cons]
    simp [List.getD_eq_getElem?_getD, List.getElem?_eq_getElem (by omega : i < l.length)]
/-- A loop that leaves with false at the first number of which P does not hold. -/
theorem loop_all (F : Nat → Int → Option Bool) (n : Nat) (P : Nat → Bool) (fin : Bool)
    (hs : ∀ k (i : Nat), i < n → F (k + 1) i = if P i = true then F k ((i : Int) + 1) else some false) (he : ∀ k, F (k + 1) (n : Int) = some fin) :
    ∀ d k (i : Nat), i + d = n → d < k → F k i = some (allF P d i && fin)
  | 0, k, i, h, hk => by
    obtain ⟨k, rfl⟩ : ∃ m, k = m + 1 := ⟨k - 1, by omega⟩
    obtain rfl : i = n := by omega
    rw [he]
    simp [allF]
  | d + 1, k, i, h, hk => by
    obtain ⟨k, rfl⟩ : ∃ m, k = m + 1 := ⟨k - 1, by omega⟩
    rw [hs k i (by omega)]
    have ih := loop_all F n P fin hs he d k (i + 1) (by omega) (by omega)
    rw [show ((i + 1 : Nat) : Int) = (i : Int) + 1 by omega] at ih
    rw [ih]
    cases hp : P i <;> simp [allF, hp]
theorem loop_all0 (F : Nat → Int → Option Bool) (n : Nat) (P : Nat → Bool) (fin : Bool)
    (hs : ∀ k (i : Nat), i < n → F (k + 1) i = if P i = true then F k ((i : Int) + 1) else some false) (he : ∀ k, F (k + 1) (n : Int) = some fin) (k : Nat) (hk : n < k) : F k 0 = some (allF P n 0 && fin) :=
  loop_all F n P fin hs he n k 0 (by omega) hk
theorem spec_l01In_eq (a b c : Int) : spec_l01In.f a b c = some (inR a b c) := by
  unfold spec_l01In.f
  by_cases h1 : a ≥ b
  · have h2 : b ≤ a := h1
    by_cases h3 : a ≤ c <;> simp [h1, inR, h2, h3]
  · have h2 : ¬ b ≤ a := h1
    simp [inR, h2]
theorem impl_in_eq (a b c : Int) : impl_in.f a b c = some (inR a b c) := by
  unfold impl_in.f
  by_cases h1 : b ≤ a
  · by_cases h3 : a ≤ c <;> simp [inR, h1, h3]
  · simp [inR, h1]
theorem spec_l01Cell_eq (a : Int) : spec_l01Cell.f a = some (isCell a) := by
  unfold spec_l01Cell.f
  rw [spec_l01In_eq]
  rfl
theorem impl_WrapCell_eq (a : Int) : impl_WrapCell.f a = some (wrap32 a) := by
  unfold impl_WrapCell.f
  rw [w64_cell]
theorem impl_CellOK_eq (a : Int) : impl_CellOK.f a = some (isCell a) := by
  unfold impl_CellOK.f
  rw [impl_WrapCell_eq, Option.bind_some, w32_eq]
/-- A cell's digit, in great letters. -/
def upDg (n : Nat) : UInt8 := Lib.upperB (fbDg n)
/-- A number's digits in base b, in great letters. -/
def upDigs (b m : Nat) : List UInt8 := Lib.toUpperA (fbDigs b 64 m)
/-- A cell's text in base b. -/
def cellTx (n b : Int) : List UInt8 := if n < 0 then 45 :: upDigs b.toNat n.natAbs else upDigs b.toNat n.natAbs
theorem ba_append (a b : List UInt8) : ((⟨a.toArray⟩ : ByteArray) ++ (⟨b.toArray⟩ : ByteArray)) = ⟨(a ++ b).toArray⟩ := by
  apply ByteArray.ext
  simp
theorem up_dig : ∀ d : Fin 16, strOfNums [bt (⟨#[48, 49, 50, 51, 52, 53, 54, 55, 56, 57, 65, 66, 67, 68, 69, 70]⟩ : ByteArray) (d.val : Int)] = ⟨[upDg d.val].toArray⟩ := by
  decide +kernel
theorem ba_size (l : List UInt8) : (⟨l.toArray⟩ : ByteArray).size = l.length := by simp [ByteArray.size]
theorem w64n (q : Nat) (h : q ≤ 9223372036854775807) : wrap64 (q : Int) = (q : Int) := w64 (by omega)
theorem text_nat (b : Nat) (h2 : 2 ≤ b) (h16 : b ≤ 16) : ∀ f k (m : Nat), 1 ≤ f → f ≤ 64 → m < 2 ^ f → f ≤ k → m ≤ 9223372036854775807 → spec_l01Text.f k (m : Int) (b : Int) = some ⟨(Lib.toUpperA (fbDigs b f m)).toArray⟩ ∧ (fbDigs b f m).length ≤ f
  | 0, k, m, h1, _, _, _, _ => by omega
  | f + 1, k, m, h1, h64, h, hk, hm => by
    obtain ⟨k, rfl⟩ : ∃ q, k = q + 1 := ⟨k - 1, by omega⟩
    simp only [spec_l01Text.f]
    have hr : Int.tmod (m : Int) (b : Int) = ((m % b : Nat) : Int) := by
      rw [Int.tmod_eq_emod_of_nonneg (by omega)]
      exact (Int.natCast_emod m b).symm
    have ht : Int.tdiv (m : Int) (b : Int) = ((m / b : Nat) : Int) := by
      rw [Int.tdiv_eq_ediv_of_nonneg (by omega)]
      exact (Int.natCast_ediv m b).symm
    have hml := Nat.mod_lt m (show b > 0 by omega)
    have hdig := up_dig ⟨m % b, by omega⟩
    simp only at hdig
    rw [if_neg (by omega), if_neg (by omega), hr, if_pos (by omega), if_pos (by omega), Option.bind_some, hdig]
    by_cases c : m < b
    · rw [if_neg (by omega)]
      simp only [fbDigs]
      rw [if_pos c, Nat.mod_eq_of_lt c]
      exact ⟨rfl, by simp⟩
    · have hf : 1 ≤ f := by
        rcases Nat.eq_zero_or_pos f with h0 | h0
        · subst h0
          simp at h
          omega
        · exact h0
      have hp : m / b < 2 ^ f := by
        have h4 : m / b ≤ m / 2 := Nat.div_le_div_left h2 (by omega)
        rw [Nat.pow_succ] at h
        omega
      have hd : m / b ≤ m := Nat.div_le_self m b
      obtain ⟨e, hl⟩ := text_nat b h2 h16 f k (m / b) hf (by omega) hp (by omega) (by omega)
      have es : (⟨(Lib.toUpperA (fbDigs b f (m / b))).toArray⟩ : ByteArray).size = (fbDigs b f (m / b)).length := by rw [ba_size]; simp [Lib.toUpperA]
      have es2 : (⟨[upDg (m % b)].toArray⟩ : ByteArray).size = 1 := rfl
      rw [if_pos (by omega), ht, w64n _ (by omega), e, Option.bind_some, es, es2, if_pos (by omega), ba_append]
      simp only [fbDigs]
      rw [if_neg c]
      refine ⟨?_, by rw [List.length_append, List.length_singleton]; omega⟩
      simp only [Lib.toUpperA, List.map_append, List.map_cons, List.map_nil]
      rfl
theorem spec_text (n : Int) (b : Nat) (h2 : 2 ≤ b) (h16 : b ≤ 16) (hn : -2147483648 ≤ n ∧ n ≤ 2147483647) (k : Nat) (hk : 70 ≤ k) : spec_l01Text.f k n (b : Int) = some ⟨(cellTx n b).toArray⟩ := by
  by_cases hneg : n < 0
  · obtain ⟨k, rfl⟩ : ∃ q, k = q + 1 := ⟨k - 1, by omega⟩
    obtain ⟨e, hl⟩ := text_nat b h2 h16 64 k n.natAbs (by omega) (by omega) (Nat.lt_of_lt_of_le (show n.natAbs < 2 ^ 32 by omega) (by decide)) (by omega) (by omega)
    have es : (⟨(Lib.toUpperA (fbDigs b 64 n.natAbs)).toArray⟩ : ByteArray).size = (fbDigs b 64 n.natAbs).length := by rw [ba_size]; simp [Lib.toUpperA]
    simp only [spec_l01Text.f]
    rw [if_pos hneg, w64 (by omega), show -n = ((n.natAbs : Nat) : Int) by omega, e, Option.bind_some, es, if_pos (by omega)]
    unfold cellTx
    rw [if_pos hneg]
    exact congrArg some (ba_append [45] _)
  · obtain ⟨e, hl⟩ := text_nat b h2 h16 64 k n.toNat (by omega) (by omega) (Nat.lt_of_lt_of_le (show n.toNat < 2 ^ 32 by omega) (by decide)) (by omega) (by omega)
    unfold cellTx
    rw [if_neg hneg]
    rw [show ((n.toNat : Nat) : Int) = n by omega] at e
    rw [e, show n.natAbs = n.toNat by omega]
    rfl
theorem dec_fb : ∀ f m, 1 ≤ f → m < 2 ^ f → Lib.decDigits m = fbDigs 10 f m
  | 0, m, h, _ => by omega
  | f + 1, m, _, h => by
    have hdg : ∀ d : Fin 10, UInt8.ofNat (48 + d.val) = fbDg d.val := by decide +kernel
    rw [Lib.decDigits]
    simp only [fbDigs]
    by_cases c : m < 10
    · rw [dif_pos c, if_pos c]
      exact congrArg (fun x => [x]) (hdg ⟨m, c⟩)
    · have hf : 1 ≤ f := by
        rcases Nat.eq_zero_or_pos f with h0 | h0
        · subst h0
          simp at h
          omega
        · exact h0
      have hp : m / 10 < 2 ^ f := by
        rw [Nat.pow_succ] at h
        omega
      rw [dif_neg c, if_neg c, dec_fb f (m / 10) hf hp]
      exact congrArg (fun x => fbDigs 10 f (m / 10) ++ [x]) (hdg ⟨m % 10, Nat.mod_lt m (by omega)⟩)
theorem fbText_eq (n : Int) (b : Nat) (hn : -2147483648 ≤ n ∧ n ≤ 2147483647) : fbText n (b : Int) = if n < 0 then 45 :: fbDigs b 64 n.natAbs else fbDigs b 64 n.natAbs := by
  unfold fbText
  by_cases h : (b : Int) = 10
  · obtain rfl : b = 10 := by omega
    rw [if_pos h]
    have e := dec_fb 64 n.natAbs (by omega) (Nat.lt_of_lt_of_le (show n.natAbs < 2 ^ 32 by omega) (by decide))
    unfold Lib.itoa
    by_cases hneg : n < 0
    · rw [if_pos hneg, if_pos hneg, e]
    · rw [if_neg hneg, if_neg hneg, ← e, show n.natAbs = n.toNat by omega]
  · rw [if_neg h, Int.toNat_natCast]
theorem up_text (n : Int) (b : Nat) (hn : -2147483648 ≤ n ∧ n ≤ 2147483647) : Lib.toUpperA (fbText n (b : Int)) = cellTx n b := by
  rw [fbText_eq n b hn]
  unfold cellTx upDigs
  rw [Int.toNat_natCast]
  by_cases hneg : n < 0
  · rw [if_pos hneg, if_pos hneg]
    rfl
  · rw [if_neg hneg, if_neg hneg]
theorem dg_low (d : Nat) (h : d < 16) : (fbDg d).toNat < 128 := by
  have hd : ∀ d : Fin 16, (fbDg d.val).toNat < 128 := by decide +kernel
  exact hd ⟨d, h⟩
theorem digs_low (b : Nat) (h2 : 2 ≤ b) (h16 : b ≤ 16) : ∀ f m, ∀ x ∈ fbDigs b f m, x.toNat < 128
  | 0, m, x, h => by simp [fbDigs] at h
  | f + 1, m, x, h => by
    simp only [fbDigs] at h
    by_cases c : m < b
    · rw [if_pos c] at h
      obtain rfl := List.mem_singleton.1 h
      exact dg_low _ (by omega)
    · rw [if_neg c, List.mem_append] at h
      rcases h with h | h
      · exact digs_low b h2 h16 f _ x h
      · obtain rfl := List.mem_singleton.1 h
        exact dg_low _ (by have := Nat.mod_lt m (show b > 0 by omega); omega)
theorem digs_len (b : Nat) : ∀ f m, (fbDigs b f m).length ≤ f
  | 0, m => by simp [fbDigs]
  | f + 1, m => by
    simp only [fbDigs]
    by_cases c : m < b
    · rw [if_pos c]
      simp
    · rw [if_neg c, List.length_append, List.length_singleton]
      have := digs_len b f (m / b)
      omega
theorem fbText_low (n : Int) (b : Nat) (h2 : 2 ≤ b) (h16 : b ≤ 16) (hn : -2147483648 ≤ n ∧ n ≤ 2147483647) : (∀ x ∈ fbText n (b : Int), x.toNat < 128) ∧ (fbText n (b : Int)).length ≤ 65 := by
  rw [fbText_eq n b hn]
  have hl := digs_len b 64 n.natAbs
  by_cases hneg : n < 0
  · rw [if_pos hneg]
    refine ⟨fun x hx => ?_, by rw [List.length_cons]; omega⟩
    rcases List.mem_cons.1 hx with rfl | hx
    · decide
    · exact digs_low b h2 h16 _ _ x hx
  · rw [if_neg hneg]
    exact ⟨fun x hx => digs_low b h2 h16 _ _ x hx, by omega⟩
/-- The program's text of a cell is the reference's. -/
theorem impl_text (n : Int) (b : Nat) (h2 : 2 ≤ b) (h16 : b ≤ 16) (hn : -2147483648 ≤ n ∧ n ≤ 2147483647) : ((strconv_FormatInt_16.f n (b : Int)).bind fun t => strings_ToUpper.f t) = some ⟨(cellTx n b).toArray⟩ := by
  obtain ⟨hlow, hlen⟩ := fbText_low n b h2 h16 hn
  unfold strconv_FormatInt_16.f
  rw [if_pos (by omega), Option.bind_some]
  unfold strings_ToUpper.f
  rw [if_pos (by rw [ba_size]; omega), if_pos (by rw [List.all_eq_true]; intro x hx; exact decide_eq_true (hlow x (by simpa using hx)))]
  show some (⟨(Lib.toUpperA (fbText n (b : Int))).toArray⟩ : ByteArray) = _
  rw [up_text n b hn]
/-- What CellText answers. -/
def cellA (n b : Int) : ByteArray × Int := if isCell n = true then (if inR b 2 16 = true then (⟨(cellTx n b).toArray⟩, 0) else (⟨#[]⟩, 4)) else (⟨#[]⟩, 4)
theorem spec_CellText_eq (n b : Int) (k : Nat) (hk : 70 ≤ k) : spec_CellText.f k n b = some (cellA n b) := by
  unfold spec_CellText.f spec_l01Base.f cellA
  rw [spec_l01Cell_eq, Option.bind_some, spec_l01In_eq]
  simp only [Option.bind_some]
  by_cases h1 : isCell n = true
  · rw [if_pos h1, if_pos h1]
    by_cases h2 : inR b 2 16 = true
    · have hb := inR_iff.mp h2
      obtain ⟨m, rfl⟩ : ∃ m : Nat, b = m := ⟨b.toNat, by omega⟩
      rw [if_pos h2, if_pos h2, spec_text n m (by omega) (by omega) (isCell_iff.mp h1) k hk, Option.bind_some]
    · rw [if_neg h2, if_neg h2]
  · rw [if_neg h1, if_neg h1]
theorem impl_CellText_eq (n b : Int) (k : Nat) (hk : 0 < k) : impl_CellText.f k n b = some (cellA n b) := by
  obtain ⟨k, rfl⟩ : ∃ q, k = q + 1 := ⟨k - 1, by omega⟩
  unfold impl_CellText.f impl_isBase.f cellA
  rw [impl_CellOK_eq, Option.bind_some, impl_in_eq]
  simp only [Option.bind_some, impl_CellText.j0]
  by_cases h1 : isCell n = true
  · rw [if_pos h1, if_pos h1]
    by_cases h2 : inR b 2 16 = true
    · have hb := inR_iff.mp h2
      obtain ⟨m, rfl⟩ : ∃ m : Nat, b = m := ⟨b.toNat, by omega⟩
      have e := impl_text n m (by omega) (by omega) (isCell_iff.mp h1)
      rw [if_neg (by rw [h2]; decide), if_pos h2]
      obtain ⟨t, ht, hu⟩ := Option.bind_eq_some_iff.1 e
      rw [ht, Option.bind_some, hu, Option.bind_some]
    · rw [if_pos (by rw [Bool.not_eq_true] at h2; rw [h2]; rfl), if_neg h2]
  · rw [if_neg h1, if_neg h1]
    exact if_pos trivial
theorem FnExactCellText : laws_FnExactCellText.Pure := by
  intro n b _ _
  refine ⟨100, ?_⟩
  unfold laws_FnExactCellText.f
  rw [spec_CellText_eq n b _ (by omega), Option.bind_some, impl_CellText_eq n b _ (by omega), Option.bind_some, if_pos rfl, if_pos rfl]
end Go.Proofs.YthdaooejfkpdfaaDoor.Pure
