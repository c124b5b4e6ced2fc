/- The law FnCellTexts answers true for all codes: a cell is read back from its text in any base, in small letters too; a letter beyond the digits is no number. No condition. -/
import Derived.Test.YthdaooejfkpdfaaDoorPFnCellTextsx5
namespace Go.Proofs.YthdaooejfkpdfaaDoor.Pure
open Go.RowKit Go.Proofs.YthdaooejfkpdfaaDoor.PFnCellTexts Go.Proofs.YthdaooejfkpdfaaDoorW.PrintWords Go.Proofs.YthdaooejfkpdfaaDoorW.PrintLast
set_option linter.unusedSimpArgs false
set_option linter.unusedVariables false

theorem bd64 {n : Int} (h : (Lit.int .i64 n).wf = true) : -9223372036854775808 ≤ n ∧ n ≤ 9223372036854775807 := by
  simp [Lit.wf, IntKind.min, IntKind.max, IntKind.signed, IntKind.bits] at h
  omega
/-- n lies from lo to hi. -/
def inR (n lo hi : Int) : Bool := decide (lo ≤ n ∧ n ≤ hi)
/-- A cell: 32 bits with a sign. -/
def isCell (n : Int) : Bool := decide (-2147483648 ≤ n ∧ n ≤ 2147483647)
theorem isCell_iff {n : Int} : isCell n = true ↔ (-2147483648 ≤ n ∧ n ≤ 2147483647) := by simp [isCell]
theorem inR_iff {n lo hi : Int} : inR n lo hi = true ↔ (lo ≤ n ∧ n ≤ hi) := by simp [inR]
theorem w64 {n : Int} (h : -9223372036854775808 ≤ n ∧ n ≤ 9223372036854775807) : wrap64 n = n := by unfold wrap64; omega
theorem w64_cell (n : Int) : wrap64 (wrap32 n) = wrap32 n := by unfold wrap64 wrap32; omega
theorem w32_cell {n : Int} (h : isCell n = true) : wrap32 n = n := by rw [isCell_iff] at h; unfold wrap32; omega
theorem cell_w32 (n : Int) : isCell (wrap32 n) = true := by rw [isCell_iff]; unfold wrap32; omega
theorem w32_eq (n : Int) : (wrap32 n == n) = isCell n := by
  rw [Bool.eq_iff_iff, isCell_iff]
  simp only [beq_iff_eq]
  unfold wrap32
  omega
/-- All of d numbers from i on. -/
def allF (P : Nat → Bool) : Nat → Nat → Bool
  | 0, _ => true
  | d + 1, i => P i && allF P d (i + 1)
theorem allF_congr {P Q : Nat → Bool} : ∀ d i, (∀ j, i ≤ j → j < i + d → P j = Q j) → allF P d i = allF Q d i
  | 0, _, _ => rfl
  | d + 1, i, h => by
    simp only [allF]
    rw [h i (Nat.le_refl _) (by omega), allF_congr d (i + 1) (fun j h1 h2 => h j (by omega) (by omega))]
theorem allF_true {P : Nat → Bool} : ∀ d i, (∀ j, i ≤ j → j < i + d → P j = true) → allF P d i = true
  | 0, _, _ => rfl
  | d + 1, i, h => by
    simp only [allF]
    rw [h i (Nat.le_refl _) (by omega), allF_true d (i + 1) (fun j h1 h2 => h j (by omega) (by omega))]
    rfl
theorem allF_all {α : Type} (p : α → Bool) (z : α) (l : List α) : ∀ d i, i + d = l.length → allF (fun j => p (l.getD j z)) d i = (l.drop i).all p
  | 0, i, h => by simp [allF, List.drop_of_length_le (show l.length ≤ i by omega)]
  | d + 1, i, h => by
    simp only [allF]
    rw [allF_all p z l d (i + 1) (by omega), List.drop_eq_getElem_cons (by omega : i < l.length), List.all_cons]
    simp [List.getD_eq_getElem?_getD, List.getElem?_eq_getElem (by omega : i < l.length)]
/-- A loop that leaves with false at the first number of which P does not hold. -/
theorem loop_all (F : Nat → Int → Option Bool) (n : Nat) (P : Nat → Bool) (fin : Bool)
    (hs : ∀ k (i : Nat), i < n → F (k + 1) i = if P i = true then F k ((i : Int) + 1) else some false) (he : ∀ k, F (k + 1) (n : Int) = some fin) :
    ∀ d k (i : Nat), i + d = n → d < k → F k i = some (allF P d i && fin)
  | 0, k, i, h, hk => by
    obtain ⟨k, rfl⟩ : ∃ m, k = m + 1 := ⟨k - 1, by omega⟩
    obtain rfl : i = n := by omega
    rw [he]
    simp [allF]
  | d + 1, k, i, h, hk => by
    obtain ⟨k, rfl⟩ : ∃ m, k = m + 1 := ⟨k - 1, by omega⟩
    rw [hs k i (by omega)]
    have ih := loop_all F n P fin hs he d k (i + 1) (by omega) (by omega)
    rw [show ((i + 1 : Nat) : Int) = (i : Int) + 1 by omega] at ih
    rw [ih]
    cases hp : P i <;> simp [allF, hp]
theorem loop_all0 (F : Nat → Int → Option Bool) (n : Nat) (P : Nat → Bool) (fin : Bool)
    (hs : ∀ k (i : Nat), i < n → F (k + 1) i = if P i = true then F k ((i : Int) + 1) else some false) (he : ∀ k, F (k + 1) (n : Int) = some fin) (k : Nat) (hk : n < k) : F k 0 = some (allF P n 0 && fin) :=
  loop_all F n P fin hs he n k 0 (by omega) hk
theorem spec_l01In_eq (a b c : Int) : spec_l01In.f a b c = some (inR a b c) := by
  unfold spec_l01In.f
  by_cases h1 : a ≥ b
  · have h2 : b ≤ a := h1
    by_cases h3 : a ≤ c <;> simp [h1, inR, h2, h3]
  · have h2 : ¬ b ≤ a := h1
    simp [inR, h2]
theorem impl_in_eq (a b c : Int) : impl_in.f a b c = some (inR a b c) := by
  unfold impl_in.f
  by_cases h1 : b ≤ a
  · by_cases h3 : a ≤ c <;> simp [inR, h1, h3]
  · simp [inR, h1]
theorem spec_l01Cell_eq (a : Int) : spec_l01Cell.f a = some (isCell a) := by
  unfold spec_l01Cell.f
  rw [spec_l01In_eq]
  rfl
theorem impl_WrapCell_eq (a : Int) : impl_WrapCell.f a = some (wrap32 a) := by
  unfold impl_WrapCell.f
  rw [w64_cell]
theorem impl_CellOK_eq (a : Int) : impl_CellOK.f a = some (isCell a) := by
  unfold impl_CellOK.f
  rw [impl_WrapCell_eq, Option.bind_some, w32_eq]
theorem u64_wrap (a : Int) : IntKind.u64.wrap a = a % 18446744073709551616 := by
  simp [IntKind.wrap, IntKind.bits, IntKind.signed]
theorem spec_Wrap_eq (a : Int) : spec_l01Wrap.f a = some (wrap32 a) := by
  unfold spec_l01Wrap.f
  rw [u64_wrap]
  congr 1
  unfold wrap64 wrap32
  omega
theorem tm_eq (a b : Int) (h : 0 ≤ a) : Int.tmod a b = a % b := Int.tmod_eq_emod_of_nonneg h
theorem td_eq (a b : Int) (h : 0 ≤ a) : Int.tdiv a b = a / b := Int.tdiv_eq_ediv_of_nonneg h
def Bytes (l : List Int) : Prop := l.length ≤ 1048576 ∧ ∀ i : Nat, i < l.length → 0 ≤ l.getD i 0 ∧ l.getD i 0 ≤ 255
theorem bytes_of {l : List Int} (hl : l.length ≤ 1048576) (h : ∀ x ∈ l, (Lit.int .u8 x).wf = true) : Bytes l := by
  refine ⟨hl, fun i hi => ?_⟩
  have h1 := h (l.getD i 0) (by simp [List.getD_eq_getElem?_getD, List.getElem?_eq_getElem hi])
  simp [Lit.wf, IntKind.min, IntKind.max, IntKind.signed, IntKind.bits] at h1
  rw [List.getD_eq_getElem?_getD]
  omega
def Src (p s : Int) (n : Nat) : Prop := 0 ≤ p ∧ p ≤ (n : Int) ∧ 0 ≤ s ∧ s < 2147483648
theorem byte_some (l : List Int) (hl : Bytes l) (p s : Int) (n : Nat) (hn : n ≤ 1000000000) (h : Src p s n) :
    ∃ r p' s', spec_l00Src_byte.f l p s = some (r, p', s') ∧ 0 ≤ r ∧ r ≤ 255 ∧ Src p' s' (n + 1) := by
  obtain ⟨h1, h2, h3, h4⟩ := h
  have h5 := hl.1
  unfold spec_l00Src_byte.f
  rw [w64 (n := p + 1) (by omega)]
  by_cases c1 : p + 1 ≤ (l.length : Int)
  · rw [if_pos c1, w64 (n := p + 1 - 1) (by omega), if_pos (by omega), if_pos (by omega)]
    have hb := hl.2 p.toNat (by omega)
    have e : rd l (p + 1 - 1) = l.getD p.toNat 0 := by
      simp only [rd]
      rw [show p + 1 - 1 = p by omega]
    rw [e]
    generalize l.getD p.toNat 0 = x at hb
    rw [w64 (n := x) (by omega), w64 (n := s * 31) (by omega), w64 (n := s * 31 + x) (by omega), w64 (n := s * 31 + x + 7) (by omega), tm_eq _ _ (by omega)]
    exact ⟨_, _, _, rfl, by omega, by omega, by omega, by omega, by omega, by omega⟩
  · rw [if_neg c1]
    by_cases c2 : p + 1 > 3000
    · rw [if_pos c2]
      exact ⟨_, _, _, rfl, by omega, by omega, by omega, by omega, by omega, by omega⟩
    · rw [if_neg c2, w64 (n := s * 1103515245) (by omega), w64 (n := s * 1103515245 + 12345) (by omega), tm_eq (s * 1103515245 + 12345) 2147483648 (by omega), td_eq ((s * 1103515245 + 12345) % 2147483648) 65536 (by omega), w64 (n := (s * 1103515245 + 12345) % 2147483648 / 65536) (by omega), tm_eq ((s * 1103515245 + 12345) % 2147483648 / 65536) 256 (by omega)]
      exact ⟨_, _, _, rfl, by omega, by omega, by omega, by omega, by omega, by omega⟩
theorem next_some (l : List Int) (hl : Bytes l) (p s : Int) (n : Nat) (hn : n ≤ 1000000000) (h : Src p s n) (m : Int) (h1 : 1 < m) (h2 : m ≤ 256) :
    ∃ r p' s', spec_l00Src_next.f l p s m = some (r, p', s') ∧ 0 ≤ r ∧ r < m ∧ Src p' s' (n + 1) := by
  obtain ⟨r, p', s', e, r0, r1, hs⟩ := byte_some l hl p s n hn h
  unfold spec_l00Src_next.f
  rw [if_neg (by omega), if_pos h2, e, Option.bind_some, if_neg (by omega), tm_eq _ _ r0]
  exact ⟨_, _, _, rfl, Int.emod_nonneg _ (by omega), Int.emod_lt_of_pos _ (by omega), hs⟩
theorem cell_some (l : List Int) (hl : Bytes l) (p s : Int) (n : Nat) (hn : n ≤ 100000000) (h : Src p s n) :
    ∃ r p' s', spec_l00Src_cell.f l p s = some (r, p', s') ∧ isCell r = true ∧ Src p' s' (n + 5) := by
  have up : ∀ {p s : Int} {n m : Nat}, n ≤ m → Src p s n → Src p s m := fun hnm hs => ⟨hs.1, by have := hs.2.1; omega, hs.2.2⟩
  obtain ⟨r, p', s', e, r0, r1, hs⟩ := next_some l hl p s n (by omega) h 8 (by omega) (by omega)
  unfold spec_l00Src_cell.f
  rw [e, Option.bind_some]
  simp only []
  by_cases c0 : r = 0
  · obtain ⟨x, p2, s2, e2, x0, x1, hs2⟩ := next_some l hl p' s' (n + 1) (by omega) hs 3 (by omega) (by omega)
    rw [if_pos c0, e2, Option.bind_some]
    exact ⟨_, _, _, rfl, by rw [isCell_iff]; simp only []; rw [w64 (by omega)]; omega, up (by omega) hs2⟩
  · rw [if_neg c0]
    by_cases c1 : r = 1
    · obtain ⟨x, p2, s2, e2, x0, x1, hs2⟩ := next_some l hl p' s' (n + 1) (by omega) hs 3 (by omega) (by omega)
      rw [if_pos c1, e2, Option.bind_some]
      exact ⟨_, _, _, rfl, by rw [isCell_iff]; simp only []; rw [w64 (by omega)]; omega, up (by omega) hs2⟩
    · rw [if_neg c1]
      by_cases c2 : r = 2
      · obtain ⟨x, p2, s2, e2, x0, x1, hs2⟩ := byte_some l hl p' s' (n + 1) (by omega) hs
        obtain ⟨y, p3, s3, e3, y0, y1, hs3⟩ := byte_some l hl p2 s2 (n + 1 + 1) (by omega) hs2
        obtain ⟨z, p4, s4, e4, z0, z1, hs4⟩ := byte_some l hl p3 s3 (n + 1 + 1 + 1) (by omega) hs3
        obtain ⟨v, p5, s5, e5, v0, v1, hs5⟩ := byte_some l hl p4 s4 (n + 1 + 1 + 1 + 1) (by omega) hs4
        rw [if_pos c2, e2, Option.bind_some]
        simp only []
        rw [e3, Option.bind_some]
        simp only []
        rw [e4, Option.bind_some]
        simp only []
        rw [e5, Option.bind_some]
        simp only []
        rw [spec_Wrap_eq, Option.bind_some]
        exact ⟨_, _, _, rfl, cell_w32 _, up (by omega) hs5⟩
      · rw [if_neg c2]
        by_cases c3 : r = 3
        · obtain ⟨x, p2, s2, e2, x0, x1, hs2⟩ := next_some l hl p' s' (n + 1) (by omega) hs 40 (by omega) (by omega)
          rw [if_pos c3, e2, Option.bind_some]
          exact ⟨_, _, _, rfl, by rw [isCell_iff]; simp only []; rw [w64 (by omega)]; omega, up (by omega) hs2⟩
        · obtain ⟨x, p2, s2, e2, x0, x1, hs2⟩ := next_some l hl p' s' (n + 1) (by omega) hs 40 (by omega) (by omega)
          rw [if_neg c3, e2, Option.bind_some]
          exact ⟨_, _, _, rfl, by rw [isCell_iff]; simp only []; omega, up (by omega) hs2⟩
theorem source_some (l : List Int) (hl : Bytes l) : ∃ s, spec_l00Source.f l = some (l, 0, s) ∧ Src 0 s 0 := by
  have := hl.1
  exact ⟨_, rfl, by omega, by omega, by omega, by omega⟩
theorem drawn (l : List Int) (hl : Bytes l) : ∃ a, spec_CellDrawn.f l = some a ∧ isCell a = true := by
  obtain ⟨s, e, hs⟩ := source_some l hl
  obtain ⟨r, p', s', e2, hr, _⟩ := cell_some l hl 0 s 0 (by omega) hs
  unfold spec_CellDrawn.f
  rw [e, Option.bind_some]
  simp only []
  rw [e2, Option.bind_some]
  exact ⟨_, rfl, hr⟩
theorem at_some (l : List Int) (hl : Bytes l) (m : Int) (h1 : 1 < m) (h2 : m ≤ 256) : ∃ r, laws_at.f l 0 m = some r ∧ 0 ≤ r ∧ r < m := by
  have hll := hl.1
  unfold laws_at.f
  rw [if_neg (by omega)]
  by_cases h0 : (l.length : Int) = 0
  · rw [if_pos h0, if_neg (by omega)]
    refine ⟨_, rfl, ?_⟩
    rw [show wrap64 (0 * 7) = 0 by unfold wrap64; omega, Int.zero_tmod]
    omega
  · have e1 : wrap64 (0 + 1) = 1 := by unfold wrap64; omega
    have e0 : Int.tmod 0 (l.length : Int) = 0 := Int.zero_tmod _
    have e2 : Int.tdiv 0 (l.length : Int) = 0 := Int.zero_tdiv _
    have e3 : Int.tmod 1 (l.length : Int) = 1 % (l.length : Int) := tm_eq _ _ (by omega)
    have b1 := Int.emod_nonneg 1 (show (l.length : Int) ≠ 0 from h0)
    have b2 := Int.emod_lt_of_pos 1 (show 0 < (l.length : Int) by omega)
    rw [if_neg h0, e1, e0, e2, e3, if_pos (by omega), if_pos (by omega), if_pos b1, if_pos b2, if_neg (by omega)]
    have c0 : 0 ≤ rd l 0 ∧ rd l 0 ≤ 255 := hl.2 0 (by omega)
    have c1 : 0 ≤ rd l (1 % (l.length : Int)) ∧ rd l (1 % (l.length : Int)) ≤ 255 := hl.2 (1 % (l.length : Int)).toNat (by omega)
    generalize rd l 0 = x at c0
    generalize rd l (1 % (l.length : Int)) = y at c1
    rw [w64 (n := x) (by omega), w64 (n := x * 31) (by omega), w64 (n := y) (by omega), w64 (n := x * 31 + y) (by omega), show wrap64 0 = 0 by unfold wrap64; omega, w64 (n := x * 31 + y + 0) (by omega), tm_eq _ _ (by omega)]
    exact ⟨_, rfl, Int.emod_nonneg _ (by omega), Int.emod_lt_of_pos _ (by omega)⟩
/-- A cell's digit, in great letters. -/
def upDg (n : Nat) : UInt8 := Lib.upperB (fbDg n)
/-- A number's digits in base b, in great letters. -/
def upDigs (b m : Nat) : List UInt8 := Lib.toUpperA (fbDigs b 64 m)
/-- A cell's text in base b. -/
def cellTx (n b : Int) : List UInt8 := if n < 0 then 45 :: upDigs b.toNat n.natAbs else upDigs b.toNat n.natAbs
theorem ba_append (a b : List UInt8) : ((⟨a.toArray⟩ : ByteArray) ++ (⟨b.toArray⟩ : ByteArray)) = ⟨(a ++ b).toArray⟩ := by
  apply ByteArray.ext
  simp
theorem up_dig : ∀ d : Fin 16, strOfNums [bt (⟨#[48, 49, 50, 51, 52, 53, 54, 55, 56, 57, 65, 66, 67, 68, 69, 70]⟩ : ByteArray) (d.val : Int)] = ⟨[upDg d.val].toArray⟩ := by
  decide +kernel
theorem ba_size (l : List UInt8) : (⟨l.toArray⟩ : ByteArray).size = l.length := by simp [ByteArray.size]
theorem w64n (q : Nat) (h : q ≤ 9223372036854775807) : wrap64 (q : Int) = (q : Int) := w64 (by omega)
theorem text_nat (b : Nat) (h2 : 2 ≤ b) (h16 : b ≤ 16) : ∀ f k (m : Nat), 1 ≤ f → f ≤ 64 → m < 2 ^ f → f ≤ k → m ≤ 9223372036854775807 → spec_l01Text.f k (m : Int) (b : Int) = some ⟨(Lib.toUpperA (fbDigs b f m)).toArray⟩ ∧ (fbDigs b f m).length ≤ f
  | 0, k, m, h1, _, _, _, _ => by omega
  | f + 1, k, m, h1, h64, h, hk, hm => by
    obtain ⟨k, rfl⟩ : ∃ q, k = q + 1 := ⟨k - 1, by omega⟩
    simp only [spec_l01Text.f]
    have hr : Int.tmod (m : Int) (b : Int) = ((m % b : Nat) : Int) := by
      rw [Int.tmod_eq_emod_of_nonneg (by omega)]
      exact (Int.natCast_emod m b).symm
    have ht : Int.tdiv (m : Int) (b : Int) = ((m / b : Nat) : Int) := by
      rw [Int.tdiv_eq_ediv_of_nonneg (by omega)]
      exact (Int.natCast_ediv m b).symm
    have hml := Nat.mod_lt m (show b > 0 by omega)
    have hdig := up_dig ⟨m % b, by omega⟩
    simp only at hdig
    rw [if_neg (by omega), if_neg (by omega), hr, if_pos (by omega), if_pos (by omega), Option.bind_some, hdig]
    by_cases c : m < b
    · rw [if_neg (by omega)]
      simp only [fbDigs]
      rw [if_pos c, Nat.mod_eq_of_lt c]
      exact ⟨rfl, by simp⟩
    · have hf : 1 ≤ f := by
        rcases Nat.eq_zero_or_pos f with h0 | h0
        · subst h0
          simp at h
          omega
        · exact h0
      have hp : m / b < 2 ^ f := by
        have h4 : m / b ≤ m / 2 := Nat.div_le_div_left h2 (by omega)
        rw [Nat.pow_succ] at h
        omega
      have hd : m / b ≤ m := Nat.div_le_self m b
      obtain ⟨e, hl⟩ := text_nat b h2 h16 f k (m / b) hf (by omega) hp (by omega) (by omega)
      have es : (⟨(Lib.toUpperA (fbDigs b f (m / b))).toArray⟩ : ByteArray).size = (fbDigs b f (m / b)).length := by rw [ba_size]; simp [Lib.toUpperA]
      have es2 : (⟨[upDg (m % b)].toArray⟩ : ByteArray).size = 1 := rfl
      rw [if_pos (by omega), ht, w64n _ (by omega), e, Option.bind_some, es, es2, if_pos (by omega), ba_append]
      simp only [fbDigs]
      rw [if_neg c]
      refine ⟨?_, by rw [List.length_append, List.length_singleton]; omega⟩
      simp only [Lib.toUpperA, List.map_append, List.map_cons, List.map_nil]
      rfl
theorem spec_text (n : Int) (b : Nat) (h2 : 2 ≤ b) (h16 : b ≤ 16) (hn : -2147483648 ≤ n ∧ n ≤ 2147483647) (k : Nat) (hk : 70 ≤ k) : spec_l01Text.f k n (b : Int) = some ⟨(cellTx n b).toArray⟩ := by
  by_cases hneg : n < 0
  · obtain ⟨k, rfl⟩ : ∃ q, k = q + 1 := ⟨k - 1, by omega⟩
    obtain ⟨e, hl⟩ := text_nat b h2 h16 64 k n.natAbs (by omega) (by omega) (Nat.lt_of_lt_of_le (show n.natAbs < 2 ^ 32 by omega) (by decide)) (by omega) (by omega)
    have es : (⟨(Lib.toUpperA (fbDigs b 64 n.natAbs)).toArray⟩ : ByteArray).size = (fbDigs b 64 n.natAbs).length := by rw [ba_size]; simp [Lib.toUpperA]
    simp only [spec_l01Text.f]
    rw [if_pos hneg, w64 (by omega), show -n = ((n.natAbs : Nat) : Int) by omega, e, Option.bind_some, es, if_pos (by omega)]
    unfold cellTx
    rw [if_pos hneg]
    exact congrArg some (ba_append [45] _)
  · obtain ⟨e, hl⟩ := text_nat b h2 h16 64 k n.toNat (by omega) (by omega) (Nat.lt_of_lt_of_le (show n.toNat < 2 ^ 32 by omega) (by decide)) (by omega) (by omega)
    unfold cellTx
    rw [if_neg hneg]
    rw [show ((n.toNat : Nat) : Int) = n by omega] at e
    rw [e, show n.natAbs = n.toNat by omega]
    rfl
theorem dec_fb : ∀ f m, 1 ≤ f → m < 2 ^ f → Lib.decDigits m = fbDigs 10 f m
  | 0, m, h, _ => by omega
  | f + 1, m, _, h => by
    have hdg : ∀ d : Fin 10, UInt8.ofNat (48 + d.val) = fbDg d.val := by decide +kernel
    rw [Lib.decDigits]
    simp only [fbDigs]
    by_cases c : m < 10
    · rw [dif_pos c, if_pos c]
      exact congrArg (fun x => [x]) (hdg ⟨m, c⟩)
    · have hf : 1 ≤ f := by
        rcases Nat.eq_zero_or_pos f with h0 | h0
        · subst h0
          simp at h
          omega
        · exact h0
      have hp : m / 10 < 2 ^ f := by
        rw [Nat.pow_succ] at h
        omega
      rw [dif_neg c, if_neg c, dec_fb f (m / 10) hf hp]
      exact congrArg (fun x => fbDigs 10 f (m / 10) ++ [x]) (hdg ⟨m % 10, Nat.mod_lt m (by omega)⟩)
theorem fbText_eq (n : Int) (b : Nat) (hn : -2147483648 ≤ n ∧ n ≤ 2147483647) : fbText n (b : Int) = if n < 0 then 45 :: fbDigs b 64 n.natAbs else fbDigs b 64 n.natAbs := by
  unfold fbText
  by_cases h : (b : Int) = 10
  · obtain rfl : b = 10 := by omega
    rw [if_pos h]
    have e := dec_fb 64 n.natAbs (by omega) (Nat.lt_of_lt_of_le (show n.natAbs < 2 ^ 32 by omega) (by decide))
    unfold Lib.itoa
    by_cases hneg : n < 0
    · rw [if_pos hneg, if_pos hneg, e]
    · rw [if_neg hneg, if_neg hneg, ← e, show n.natAbs = n.toNat by omega]
  · rw [if_neg h, Int.toNat_natCast]
theorem up_text (n : Int) (b : Nat) (hn : -2147483648 ≤ n ∧ n ≤ 2147483647) : Lib.toUpperA (fbText n (b : Int)) = cellTx n b := by
  rw [fbText_eq n b hn]
  unfold cellTx upDigs
  rw [Int.toNat_natCast]
  by_cases hneg : n < 0
  · rw [if_pos hneg, if_pos hneg]
    rfl
  · rw [if_neg hneg, if_neg hneg]
theorem dg_low (d : Nat) (h : d < 16) : (fbDg d).toNat < 128 := by
  have hd : ∀ d : Fin 16, (fbDg d.val).toNat < 128 := by decide +kernel
  exact hd ⟨d, h⟩
theorem digs_low (b : Nat) (h2 : 2 ≤ b) (h16 : b ≤ 16) : ∀ f m, ∀ x ∈ fbDigs b f m, x.toNat < 128
  | 0, m, x, h => by simp [fbDigs] at h
  | f + 1, m, x, h => by
    simp only [fbDigs] at h
    by_cases c : m < b
    · rw [if_pos c] at h
      obtain rfl := List.mem_singleton.1 h
      exact dg_low _ (by omega)
    · rw [if_neg c, List.mem_append] at h
      rcases h with h | h
      · exact digs_low b h2 h16 f _ x h
      · obtain rfl := List.mem_singleton.1 h
        exact dg_low _ (by have := Nat.mod_lt m (show b > 0 by omega); omega)
theorem digs_len (b : Nat) : ∀ f m, (fbDigs b f m).length ≤ f
  | 0, m => by simp [fbDigs]
  | f + 1, m => by
    simp only [fbDigs]
    by_cases c : m < b
    · rw [if_pos c]
      simp
    · rw [if_neg c, List.length_append, List.length_singleton]
      have := digs_len b f (m / b)
      omega
theorem fbText_low (n : Int) (b : Nat) (h2 : 2 ≤ b) (h16 : b ≤ 16) (hn : -2147483648 ≤ n ∧ n ≤ 2147483647) : (∀ x ∈ fbText n (b : Int), x.toNat < 128) ∧ (fbText n (b : Int)).length ≤ 65 := by
  rw [fbText_eq n b hn]
  have hl := digs_len b 64 n.natAbs
  by_cases hneg : n < 0
  · rw [if_pos hneg]
    refine ⟨fun x hx => ?_, by rw [List.length_cons]; omega⟩
    rcases List.mem_cons.1 hx with rfl | hx
    · decide
    · exact digs_low b h2 h16 _ _ x hx
  · rw [if_neg hneg]
    exact ⟨fun x hx => digs_low b h2 h16 _ _ x hx, by omega⟩
/-- The program's text of a cell is the reference's. -/
theorem impl_text (n : Int) (b : Nat) (h2 : 2 ≤ b) (h16 : b ≤ 16) (hn : -2147483648 ≤ n ∧ n ≤ 2147483647) : ((strconv_FormatInt_16.f n (b : Int)).bind fun t => strings_ToUpper.f t) = some ⟨(cellTx n b).toArray⟩ := by
  obtain ⟨hlow, hlen⟩ := fbText_low n b h2 h16 hn
  unfold strconv_FormatInt_16.f
  rw [if_pos (by omega), Option.bind_some]
  unfold strings_ToUpper.f
  rw [if_pos (by rw [ba_size]; omega), if_pos (by rw [List.all_eq_true]; intro x hx; exact decide_eq_true (hlow x (by simpa using hx)))]
  show some (⟨(Lib.toUpperA (fbText n (b : Int))).toArray⟩ : ByteArray) = _
  rw [up_text n b hn]
/-- What CellText answers. -/
def cellA (n b : Int) : ByteArray × Int := if isCell n = true then (if inR b 2 16 = true then (⟨(cellTx n b).toArray⟩, 0) else (⟨#[]⟩, 4)) else (⟨#[]⟩, 4)
theorem spec_CellText_eq (n b : Int) (k : Nat) (hk : 70 ≤ k) : spec_CellText.f k n b = some (cellA n b) := by
  unfold spec_CellText.f spec_l01Base.f cellA
  rw [spec_l01Cell_eq, Option.bind_some, spec_l01In_eq]
  simp only [Option.bind_some]
  by_cases h1 : isCell n = true
  · rw [if_pos h1, if_pos h1]
    by_cases h2 : inR b 2 16 = true
    · have hb := inR_iff.mp h2
      obtain ⟨m, rfl⟩ : ∃ m : Nat, b = m := ⟨b.toNat, by omega⟩
      rw [if_pos h2, if_pos h2, spec_text n m (by omega) (by omega) (isCell_iff.mp h1) k hk, Option.bind_some]
    · rw [if_neg h2, if_neg h2]
  · rw [if_neg h1, if_neg h1]
theorem impl_CellText_eq (n b : Int) (k : Nat) (hk : 0 < k) : impl_CellText.f k n b = some (cellA n b) := by
  obtain ⟨k, rfl⟩ : ∃ q, k = q + 1 := ⟨k - 1, by omega⟩
  unfold impl_CellText.f impl_isBase.f cellA
  rw [impl_CellOK_eq, Option.bind_some, impl_in_eq]
  simp only [Option.bind_some, impl_CellText.j0]
  by_cases h1 : isCell n = true
  · rw [if_pos h1, if_pos h1]
    by_cases h2 : inR b 2 16 = true
    · have hb := inR_iff.mp h2
      obtain ⟨m, rfl⟩ : ∃ m : Nat, b = m := ⟨b.toNat, by omega⟩
      have e := impl_text n m (by omega) (by omega) (isCell_iff.mp h1)
      rw [if_neg (by rw [h2]; decide), if_pos h2]
      obtain ⟨t, ht, hu⟩ := Option.bind_eq_some_iff.1 e
      rw [ht, Option.bind_some, hu, Option.bind_some]
    · rw [if_pos (by rw [Bool.not_eq_true] at h2; rw [h2]; rfl), if_neg h2]
  · rw [if_neg h1, if_neg h1]
    exact if_pos trivial
/-- The digit that a byte is, -1 if it is none. -/
def dig (c : Int) : Int := if 48 ≤ c ∧ c ≤ 57 then c - 48 else if 97 ≤ c ∧ c ≤ 102 then c - 87 else if 65 ≤ c ∧ c ≤ 70 then c - 55 else -1
def DIG : ByteArray := ⟨#[48, 49, 50, 51, 52, 53, 54, 55, 56, 57, 65, 66, 67, 68, 69, 70]⟩
theorem find_dig : ∀ (b : Fin 17) (c : Fin 256), Lib.indexByte ((DIG.extract 0 b.val).data.toList) ((up1 (c.val : Int)).toNat.toUInt8) = if dig (c.val : Int) < 0 ∨ (b.val : Int) ≤ dig (c.val : Int) then -1 else dig (c.val : Int) := by
  decide +kernel
theorem bt_data (s : ByteArray) (i : Nat) (h : i < s.size) : bt s (i : Int) = ((s.data.toList.getD i 0).toNat : Int) := by
  have hl : s.size = s.data.toList.length := by simp
  have hj' : i < s.data.toList.length := by omega
  simp only [bt, Int.toNat_natCast]
  rw [dif_pos h]
  simp [List.getD_eq_getElem?_getD, List.getElem?_eq_getElem hj']
  rfl
theorem extract_one (s : ByteArray) (i : Nat) (h : i < s.size) : (s.extract i (i + 1)).data.toList = [s.data.toList.getD i 0] := by
  have hl : s.size = s.data.toList.length := by simp
  have hj' : i < s.data.toList.length := by omega
  rw [ByteArray.data_extract, Array.toList_extract, List.extract_eq_take_drop, show i + 1 - i = 1 by omega, List.drop_eq_getElem_cons hj', List.take_succ_cons, List.take_zero]
  simp [List.getD_eq_getElem?_getD, List.getElem?_eq_getElem hj']
theorem up1_bd (c : Int) (h0 : 0 ≤ c) (h1 : c ≤ 255) : 0 ≤ up1 c ∧ up1 c ≤ 255 := by
  unfold up1
  repeat' split
  all_goals omega
theorem upper_one (s : ByteArray) (i : Nat) (h : i < s.size) : impl_UpperOf.f (s.extract i (i + 1)) = some (strOfNums [up1 (bt s (i : Int))]) := by
  have e := extract_one s i h
  have hl : (s.extract i (i + 1)).size = (s.extract i (i + 1)).data.toList.length := by
    rw [Array.length_toList]
    rfl
  unfold impl_UpperOf.f
  rw [if_neg (by rw [hl, e]; simp), bt_data s i h]
  unfold numsB
  rw [e]
  rfl
theorem bt_one (n : Int) (h0 : 0 ≤ n) (h1 : n ≤ 255) : bt (strOfNums [n]) 0 = n := by
  have h : (0 : Nat) < (strOfNums [n]).size := by rw [strOfNums_size]; simp
  have h2 := bt_data (strOfNums [n]) 0 h
  rw [show ((0 : Nat) : Int) = 0 from rfl] at h2
  rw [h2, strOfNums_data]
  simp
  omega
theorem find_eq (b : Int) (c : Int) (hb0 : 0 ≤ b) (hb : b ≤ 16) (h0 : 0 ≤ c) (h1 : c ≤ 255) : strings_IndexByte.f (DIG.extract 0 b.toNat) (up1 c) = some (if dig c < 0 ∨ b ≤ dig c then -1 else dig c) := by
  have h := find_dig ⟨b.toNat, by omega⟩ ⟨c.toNat, by omega⟩
  simp only [Int.toNat_of_nonneg h0, Int.toNat_of_nonneg hb0] at h
  unfold strings_IndexByte.f
  rw [h]
/-- d bytes from i on, read on from n. -/
def go (s : ByteArray) (b : Int) (neg : Bool) : Nat → Nat → Int → Int × Bool
  | 0, _, n => if neg = true then (wrap32 (wrap64 (-n)), true) else (n, true)
  | d + 1, i, n => if dig (bt s (i : Int)) < 0 then (0, false) else if dig (bt s (i : Int)) ≥ b then (0, false) else go s b neg d (i + 1) (wrap32 (wrap64 (wrap64 (n * b) + dig (bt s (i : Int)))))
theorem impl_go (s : ByteArray) (b : Int) (neg : Bool) (hs : s.size ≤ 1048576) (hb0 : 0 ≤ b) (hb1 : b ≤ 16) : ∀ d k (i : Nat) (n : Int), i + d = s.size → d < k → impl_readCell.l0 k b s neg n (s.size : Int) (i : Int) = some (go s b neg d i n)
  | 0, k, i, n, h, hk => by
    obtain ⟨k, rfl⟩ : ∃ m, k = m + 1 := ⟨k - 1, by omega⟩
    simp only [impl_readCell.l0, go]
    rw [if_neg (by omega), impl_WrapCell_eq]
    cases neg <;> simp
  | d + 1, k, i, n, h, hk => by
    obtain ⟨k, rfl⟩ : ∃ m, k = m + 1 := ⟨k - 1, by omega⟩
    have hb := bt_range s (i : Int)
    have hu := up1_bd _ hb.1 hb.2
    simp only [impl_readCell.l0, go]
    rw [w64 (n := (i : Int) + 1) (by omega), if_pos (by omega), if_pos (by omega), if_pos (by omega), if_pos (by omega), if_pos (by omega), if_pos (by omega), show ((i : Int) + 1).toNat = i + 1 by omega, Int.toNat_natCast, upper_one s i (by omega), Option.bind_some, strOfNums_size, if_pos (by simp), bt_one _ hu.1 hu.2]
    have hf := find_eq b _ hb0 hb1 hb.1 hb.2
    unfold DIG at hf
    by_cases h1 : dig (bt s (i : Int)) < 0
    · rw [if_pos (Or.inl h1)] at hf
      rw [hf, Option.bind_some, if_pos h1, if_pos (by omega)]
    · by_cases h2 : dig (bt s (i : Int)) ≥ b
      · rw [if_pos (Or.inr h2)] at hf
        rw [hf, Option.bind_some, if_neg h1, if_pos h2, if_pos (by omega)]
      · rw [if_neg (by omega)] at hf
        rw [hf, Option.bind_some, if_neg h1, if_neg h1, if_neg h2, impl_WrapCell_eq, Option.bind_some, show (i : Int) + 1 = ((i + 1 : Nat) : Int) by omega, impl_go s b neg hs hb0 hb1 d k (i + 1) _ (by omega) (by omega)]
/-- The text behind its sign, and whether it has one. -/
def neg (s : ByteArray) : Bool := decide (0 < s.size) && (bt s 0 == 45)
def rest (s : ByteArray) : ByteArray := if neg s = true then s.extract 1 s.size else s
theorem rest_size (s : ByteArray) : (rest s).size ≤ s.size := by
  unfold rest
  split
  · rw [ByteArray.size_extract]
    omega
  · exact Nat.le_refl _
def readC (s : ByteArray) (b : Int) : Int × Bool := if (rest s).size = 0 then (0, false) else if (rest s).size > 32 then (0, false) else go (rest s) b (neg s) (rest s).size 0 0
theorem cut_eq (s : ByteArray) : strings_CutPrefix.f s (⟨#[45]⟩ : ByteArray) = some (rest s, neg s) := by
  unfold strings_CutPrefix.f stringslite_CutPrefix.f stringslite_HasPrefix.f rest neg
  have e : ((⟨#[45]⟩ : ByteArray).size : Int) = 1 := rfl
  rw [e]
  by_cases h1 : 0 < s.size
  · have h2 : ((s.extract 0 (1 : Int).toNat).toList == (⟨#[45]⟩ : ByteArray).toList) = (bt s 0 == 45) := by
      have e1 : (s.extract 0 1).toList = [s.data.toList.getD 0 0] := by rw [Lib.toList_data]; exact extract_one s 0 h1
      have e2 : (⟨#[45]⟩ : ByteArray).toList = [45] := by rw [Lib.toList_data]
      have e3 := bt_data s 0 h1
      rw [show ((0 : Nat) : Int) = 0 from rfl] at e3
      rw [show (1 : Int).toNat = 1 from rfl, e1, e2, e3]
      generalize s.data.toList.getD 0 0 = c
      rw [Bool.eq_iff_iff]
      simp only [beq_iff_eq, List.cons.injEq, and_true]
      constructor
      · rintro rfl; rfl
      · intro h
        apply UInt8.toNat_inj.mp
        have : c.toNat = 45 := by omega
        rw [this]; rfl
    rw [if_pos (by omega), if_pos (by omega), if_pos (by omega), h2]
    simp only [Option.bind_some]
    cases h3 : bt s 0 == 45
    · simp [h1]
    · rw [if_pos rfl, if_pos (by omega), if_pos (by omega)]
      simp [h1]
  · rw [if_neg (by omega)]
    simp [h1]
theorem impl_read_eq (s : ByteArray) (b : Int) (hs : s.size ≤ 1048576) (hb0 : 0 ≤ b) (hb1 : b ≤ 16) (k : Nat) (hk : 1048600 < k) : impl_readCell.f k s b = some (readC s b) := by
  have hr := rest_size s
  unfold impl_readCell.f readC
  rw [cut_eq, Option.bind_some]
  simp only []
  rw [impl_in_eq, Option.bind_some]
  by_cases h1 : (rest s).size = 0
  · rw [if_neg (by rw [inR_iff]; omega), if_pos h1]
  · rw [if_neg h1]
    by_cases h2 : (rest s).size > 32
    · rw [if_neg (by rw [inR_iff]; omega), if_pos h2]
    · rw [if_pos (by rw [inR_iff]; omega), if_neg h2]
      exact impl_go (rest s) b (neg s) (by omega) hb0 hb1 (rest s).size k 0 0 (by omega) (by omega)
/-- The number that digits tell, on from n. -/
def val (b : Int) : List UInt8 → Int → Int
  | [], n => n
  | c :: l, n => val b l (n * b + dig (c.toNat : Int))
theorem val_append (b : Int) : ∀ l1 l2 n, val b (l1 ++ l2) n = val b l2 (val b l1 n)
  | [], l2, n => rfl
  | c :: l, l2, n => val_append b l l2 _
theorem bt_list (l : List UInt8) (i : Nat) (h : i < l.length) : bt (⟨l.toArray⟩ : ByteArray) (i : Int) = ((l.getD i 0).toNat : Int) := by
  have e := bt_data (⟨l.toArray⟩ : ByteArray) i (by rw [ba_size]; exact h)
  simpa using e
theorem step_wrap (x d b : Int) (h2 : 2 ≤ b) (h16 : b ≤ 16) (hd : 0 ≤ d ∧ d < 16) : wrap32 (wrap64 (wrap64 (wrap32 x * b) + d)) = wrap32 (x * b + d) := by
  have hb : b = 2 ∨ b = 3 ∨ b = 4 ∨ b = 5 ∨ b = 6 ∨ b = 7 ∨ b = 8 ∨ b = 9 ∨ b = 10 ∨ b = 11 ∨ b = 12 ∨ b = 13 ∨ b = 14 ∨ b = 15 ∨ b = 16 := by omega
  rcases hb with rfl | rfl | rfl | rfl | rfl | rfl | rfl | rfl | rfl | rfl | rfl | rfl | rfl | rfl | rfl
  all_goals
    unfold wrap32 wrap64
    omega
theorem go_val (l : List UInt8) (b : Int) (h2 : 2 ≤ b) (h16 : b ≤ 16) (ng : Bool) (hl : ∀ c ∈ l, 0 ≤ dig (c.toNat : Int) ∧ dig (c.toNat : Int) < b) : ∀ d i x, i + d = l.length →
    go (⟨l.toArray⟩ : ByteArray) b ng d i (wrap32 x) = (if ng = true then wrap32 (-(val b (l.drop i) x)) else wrap32 (val b (l.drop i) x), true)
  | 0, i, x, h => by
    rw [List.drop_of_length_le (by omega)]
    simp only [go, val]
    cases ng
    · rfl
    · simp only [if_true]
      congr 1
      unfold wrap32 wrap64
      omega
  | d + 1, i, x, h => by
    have hi : i < l.length := by omega
    have hc := hl (l.getD i 0) (by simp [List.getD_eq_getElem?_getD, List.getElem?_eq_getElem hi])
    simp only [go]
    rw [bt_list l i hi, if_neg (by omega), if_neg (by omega), step_wrap x _ b h2 h16 ⟨hc.1, by omega⟩, go_val l b h2 h16 ng hl d (i + 1) _ (by omega), List.drop_eq_getElem_cons hi]
    simp only [val]
    rw [show l[i] = l.getD i 0 by simp [List.getD_eq_getElem?_getD, List.getElem?_eq_getElem hi]]
theorem go_bad (s : ByteArray) (b : Int) (ng : Bool) : ∀ d i n (j : Nat), i ≤ j → j < i + d → dig (bt s (j : Int)) < 0 → go s b ng d i n = (0, false)
  | 0, i, n, j, h1, h2, _ => by omega
  | d + 1, i, n, j, h1, h2, h => by
    simp only [go]
    by_cases c1 : dig (bt s (i : Int)) < 0
    · rw [if_pos c1]
    · rw [if_neg c1]
      by_cases c2 : dig (bt s (i : Int)) ≥ b
      · rw [if_pos c2]
      · rw [if_neg c2]
        have : i ≠ j := by
          intro e
          subst e
          exact c1 h
        exact go_bad s b ng d (i + 1) _ j (by omega) (by omega) h
/-- A way to write digits that the reading takes back. -/
structure Good (g : UInt8 → UInt8) : Prop where
  dg : ∀ d : Nat, d < 16 → dig ((g (upDg d)).toNat : Int) = (d : Int)
  no : ∀ d : Nat, d < 16 → g (upDg d) ≠ 45
  sign : g 45 = 45
theorem fb_fuel (b : Nat) (h2 : 2 ≤ b) : ∀ f f' m, 1 ≤ f → f ≤ f' → m < 2 ^ f → fbDigs b f' m = fbDigs b f m
  | 0, _, _, h, _, _ => by omega
  | f + 1, f', m, _, hf, h => by
    obtain ⟨f', rfl⟩ : ∃ q, f' = q + 1 := ⟨f' - 1, by omega⟩
    simp only [fbDigs]
    by_cases c : m < b
    · rw [if_pos c, if_pos c]
    · have hf1 : 1 ≤ f := by
        rcases Nat.eq_zero_or_pos f with h0 | h0
        · subst h0
          simp at h
          omega
        · exact h0
      have hp : m / b < 2 ^ f := by
        have h4 : m / b ≤ m / 2 := Nat.div_le_div_left h2 (by omega)
        rw [Nat.pow_succ] at h
        omega
      rw [if_neg c, if_neg c, fb_fuel b h2 f f' (m / b) hf1 (by omega) hp]
theorem digs_val (g : UInt8 → UInt8) (hg : Good g) (b : Nat) (h2 : 2 ≤ b) (h16 : b ≤ 16) : ∀ f m, 1 ≤ f → m < 2 ^ f →
    val (b : Int) (((fbDigs b f m).map Lib.upperB).map g) 0 = (m : Int) ∧ ∀ c ∈ ((fbDigs b f m).map Lib.upperB).map g, (0 ≤ dig (c.toNat : Int) ∧ dig (c.toNat : Int) < (b : Int)) ∧ c ≠ 45
  | 0, m, h, _ => by omega
  | f + 1, m, _, h => by
    simp only [fbDigs]
    by_cases c : m < b
    · rw [if_pos c]
      have e := hg.dg m (by omega)
      have e2 := hg.no m (by omega)
      unfold upDg at e e2
      refine ⟨?_, ?_⟩
      · simp only [List.map_cons, List.map_nil, val]
        omega
      · intro x hx
        simp only [List.map_cons, List.map_nil, List.mem_singleton] at hx
        subst hx
        exact ⟨by omega, e2⟩
    · have hf1 : 1 ≤ f := by
        rcases Nat.eq_zero_or_pos f with h0 | h0
        · subst h0
          simp at h
          omega
        · exact h0
      have hp : m / b < 2 ^ f := by
        have h4 : m / b ≤ m / 2 := Nat.div_le_div_left h2 (by omega)
        rw [Nat.pow_succ] at h
        omega
      have hml := Nat.mod_lt m (show b > 0 by omega)
      have hdm := Nat.div_add_mod m b
      obtain ⟨i1, i2⟩ := digs_val g hg b h2 h16 f (m / b) hf1 hp
      have e := hg.dg (m % b) (by omega)
      have e2 := hg.no (m % b) (by omega)
      unfold upDg at e e2
      rw [if_neg c, List.map_append, List.map_append, val_append, i1]
      refine ⟨?_, ?_⟩
      · simp only [List.map_cons, List.map_nil, val]
        rw [e, ← Int.natCast_mul, ← Int.natCast_add, Nat.mul_comm]
        exact congrArg _ hdm
      · intro x hx
        rcases List.mem_append.1 hx with hx | hx
        · exact i2 x hx
        · simp only [List.map_cons, List.map_nil, List.mem_singleton] at hx
          subst hx
          exact ⟨by omega, e2⟩
theorem digs_pos (b : Nat) : ∀ f m, 1 ≤ f → 1 ≤ (fbDigs b f m).length
  | 0, m, h => by omega
  | f + 1, m, _ => by
    simp only [fbDigs]
    split
    · simp
    · simp
/-- The digits behind the sign. -/
def body (g : UInt8 → UInt8) (n b : Int) : List UInt8 := (upDigs b.toNat n.natAbs).map g
theorem body_facts (g : UInt8 → UInt8) (hg : Good g) (n : Int) (b : Nat) (h2 : 2 ≤ b) (h16 : b ≤ 16) (hn : -2147483648 ≤ n ∧ n ≤ 2147483647) :
    val (b : Int) (body g n b) 0 = (n.natAbs : Int) ∧ (∀ c ∈ body g n b, (0 ≤ dig (c.toNat : Int) ∧ dig (c.toNat : Int) < (b : Int)) ∧ c ≠ 45) ∧ 1 ≤ (body g n b).length ∧ (body g n b).length ≤ 32 := by
  unfold body upDigs Lib.toUpperA
  rw [Int.toNat_natCast, fb_fuel b h2 32 64 n.natAbs (by omega) (by omega) (by omega)]
  obtain ⟨e1, e2⟩ := digs_val g hg b h2 h16 32 n.natAbs (by omega) (by omega)
  refine ⟨e1, e2, ?_, ?_⟩
  · rw [List.length_map, List.length_map]
    exact digs_pos b 32 _ (by omega)
  · rw [List.length_map, List.length_map]
    exact digs_len b 32 _
theorem cell_map (g : UInt8 → UInt8) (hg : Good g) (n b : Int) : (cellTx n b).map g = if n < 0 then 45 :: body g n b else body g n b := by
  unfold cellTx body
  split
  · rw [List.map_cons, hg.sign]
  · rfl
theorem extract_list' (s : ByteArray) (i j : Nat) : (s.extract i j).data.toList = (s.data.toList.drop i).take (j - i) := by
  rw [ByteArray.data_extract, Array.toList_extract, List.extract_eq_take_drop]
/-- A text's sign and what is behind it, by the list of its bytes. -/
theorem parts (n : Int) (l tl : List UInt8) (hl : 1 ≤ l.length) (hno : ∀ c ∈ l, c ≠ 45) (hs : n < 0 ∨ ¬ n < 0) :
    rest (⟨((if n < 0 then 45 :: l else l) ++ tl).toArray⟩ : ByteArray) = ⟨(l ++ tl).toArray⟩ ∧ neg (⟨((if n < 0 then 45 :: l else l) ++ tl).toArray⟩ : ByteArray) = decide (n < 0) := by
  by_cases h : n < 0
  · rw [if_pos h]
    have e : neg (⟨((45 :: l) ++ tl).toArray⟩ : ByteArray) = true := by
      unfold neg
      have := bt_list ((45 :: l) ++ tl) 0 (by simp)
      rw [show ((0 : Nat) : Int) = 0 from rfl] at this
      rw [this, ba_size]
      simp
    rw [e, decide_eq_true h]
    refine ⟨?_, rfl⟩
    unfold rest
    rw [if_pos e]
    apply ByteArray.ext
    apply Array.toList_inj.mp
    rw [extract_list', ba_size]
    simp
    exact List.take_of_length_le (by simp)
  · rw [if_neg h]
    have e : neg (⟨(l ++ tl).toArray⟩ : ByteArray) = false := by
      unfold neg
      have h0 := bt_list (l ++ tl) 0 (by simp; omega)
      rw [show ((0 : Nat) : Int) = 0 from rfl] at h0
      rw [h0]
      cases l with
      | nil => simp at hl
      | cons c l =>
        have hc := hno c (by simp)
        have : (c.toNat : Int) ≠ 45 := by
          intro h3
          apply hc
          apply UInt8.toNat_inj.mp
          have h4 : c.toNat = 45 := by omega
          rw [h4]
          rfl
        simp [this]
    rw [e, decide_eq_false h]
    refine ⟨?_, rfl⟩
    unfold rest
    rw [if_neg (by rw [e]; decide)]
theorem read_ok (g : UInt8 → UInt8) (hg : Good g) (n : Int) (b : Nat) (h2 : 2 ≤ b) (h16 : b ≤ 16) (hn : -2147483648 ≤ n ∧ n ≤ 2147483647) : readC (⟨((cellTx n b).map g).toArray⟩ : ByteArray) (b : Int) = (n, true) := by
  obtain ⟨f1, f2, f3, f4⟩ := body_facts g hg n b h2 h16 hn
  obtain ⟨p1, p2⟩ := parts n (body g n b) [] f3 (fun c hc => (f2 c hc).2) (by omega)
  rw [List.append_nil, List.append_nil] at p1
  rw [List.append_nil] at p2
  unfold readC
  rw [cell_map g hg, p1, p2, ba_size, if_neg (by omega), if_neg (by omega)]
  have e := go_val (body g n b) (b : Int) (by omega) (by omega) (decide (n < 0)) (fun c hc => (f2 c hc).1) (body g n b).length 0 0 (by omega)
  rw [show wrap32 0 = 0 by unfold wrap32; omega] at e
  rw [e, List.drop_zero, f1]
  by_cases h : n < 0
  · rw [decide_eq_true h, if_pos rfl]
    congr 1
    unfold wrap32
    omega
  · rw [decide_eq_false h, if_neg (by decide)]
    congr 1
    unfold wrap32
    omega
theorem good_id : Good id := by
  have h : ∀ d : Fin 16, dig ((id (upDg d.val)).toNat : Int) = (d.val : Int) ∧ id (upDg d.val) ≠ 45 := by decide +kernel
  exact ⟨fun d hd => (h ⟨d, hd⟩).1, fun d hd => (h ⟨d, hd⟩).2, rfl⟩
/-- A letter made small. -/
def low (c : UInt8) : UInt8 := UInt8.ofNat (if (c.toNat : Int) ≥ 65 then (((c.toNat : Int) + 32) % 256).toNat else c.toNat)
theorem good_low : Good low := by
  have h : ∀ d : Fin 16, dig ((low (upDg d.val)).toNat : Int) = (d.val : Int) ∧ low (upDg d.val) ≠ 45 := by decide +kernel
  exact ⟨fun d hd => (h ⟨d, hd⟩).1, fun d hd => (h ⟨d, hd⟩).2, by decide⟩
theorem read_bad (n : Int) (b : Nat) (h2 : 2 ≤ b) (h16 : b ≤ 16) (hn : -2147483648 ≤ n ∧ n ≤ 2147483647) : readC ((⟨(cellTx n b).toArray⟩ : ByteArray) ++ (⟨#[71]⟩ : ByteArray)) (b : Int) = (0, false) := by
  obtain ⟨f1, f2, f3, f4⟩ := body_facts id good_id n b h2 h16 hn
  obtain ⟨p1, p2⟩ := parts n (body id n b) [71] f3 (fun c hc => (f2 c hc).2) (by omega)
  have hm := cell_map id good_id n b
  rw [List.map_id] at hm
  have e : ((⟨(cellTx n b).toArray⟩ : ByteArray) ++ (⟨#[71]⟩ : ByteArray)) = ⟨((if n < 0 then 45 :: body id n b else body id n b) ++ [71]).toArray⟩ := by
    rw [hm]
    exact ba_append _ [71]
  rw [e]
  unfold readC
  rw [p1, p2, ba_size, if_neg (by simp)]
  by_cases h : (body id n b ++ [71]).length > 32
  · rw [if_pos h]
  · rw [if_neg h]
    refine go_bad _ _ _ _ 0 0 (body id n b).length (by omega) (by simp) ?_
    rw [bt_list _ _ (by simp)]
    have e3 : (body id n b ++ [71]).getD (body id n b).length 0 = (71 : UInt8) := by
      simp [List.getD_eq_getElem?_getD]
    rw [e3]
    decide
theorem impl_ReadCell_eq (s : ByteArray) (b : Nat) (h2 : 2 ≤ b) (h16 : b ≤ 16) (hs : s.size ≤ 65536) (k : Nat) (hk : 1048600 < k) : impl_ReadCell.f k s (b : Int) = some (if (readC s b).2 = true then ((readC s b).1, 0) else (0, 3)) := by
  unfold impl_ReadCell.f impl_isBase.f
  rw [if_neg (by omega), impl_in_eq]
  simp only [Option.bind_some]
  rw [if_pos (by rw [inR_iff]; omega), impl_read_eq s b (by omega) (by omega) (by omega) k hk, Option.bind_some]
  cases (readC s b).2 <;> simp
theorem cell_len (n : Int) (b : Nat) (h2 : 2 ≤ b) (h16 : b ≤ 16) (hn : -2147483648 ≤ n ∧ n ≤ 2147483647) : (cellTx n b).length ≤ 33 := by
  obtain ⟨f1, f2, f3, f4⟩ := body_facts id good_id n b h2 h16 hn
  have hm := cell_map id good_id n b
  rw [List.map_id] at hm
  rw [hm]
  split
  · rw [List.length_cons]
    omega
  · omega
/-- What the loop over the text makes of a byte. -/
def lowI (c : UInt8) : Int := if (c.toNat : Int) ≥ 65 then ((c.toNat : Int) + 32) % 256 else (c.toNat : Int)
theorem low_nums (l : List UInt8) : strOfNums (l.map lowI) = ⟨(l.map low).toArray⟩ := by
  have h : ∀ c : UInt8, UInt8.ofNat (lowI c).toNat = low c := by
    intro c
    unfold lowI low
    split <;> simp
  apply ByteArray.ext
  apply Array.toList_inj.mp
  rw [strOfNums_data]
  simp only [List.map_map]
  apply List.map_congr_left
  intro c _
  first | exact h c | (simp only [Function.comp]; exact h c)
theorem loop_law (n : Int) (b : Nat) (w : List UInt8) (hw : w.length ≤ 33) (t : ByteArray) (a r1 r2 : Int) : ∀ d k (i : Nat) (acc : List Int), i + d = w.length → acc.length ≤ i → d < k →
    laws_FnCellTexts.l0 k n (b : Int) t a (⟨w.toArray⟩ : ByteArray) r1 r2 acc (i : Int) = laws_FnCellTexts.l0 (k - d) n (b : Int) t a (⟨w.toArray⟩ : ByteArray) r1 r2 (acc ++ (w.drop i).map lowI) (w.length : Int)
  | 0, k, i, acc, h, _, hk => by
    rw [List.drop_of_length_le (by omega), List.map_nil, List.append_nil, show i = w.length by omega]
    rfl
  | d + 1, k, i, acc, h, ha, hk => by
    obtain ⟨k, rfl⟩ : ∃ m, k = m + 1 := ⟨k - 1, by omega⟩
    have hi : i < w.length := by omega
    have ih := loop_law n b w hw t a r1 r2 d k (i + 1) (acc ++ [lowI (w.getD i 0)]) (by omega) (by simp; omega) (by omega)
    rw [List.append_assoc] at ih
    have e2 : [lowI (w.getD i 0)] ++ (w.drop (i + 1)).map lowI = (w.drop i).map lowI := by
      rw [List.drop_eq_getElem_cons hi, List.map_cons]
      simp [List.getD_eq_getElem?_getD, List.getElem?_eq_getElem hi]
    rw [e2] at ih
    rw [show k + 1 - (d + 1) = k - d by omega, ← ih]
    conv => lhs; unfold laws_FnCellTexts.l0
    rw [bt_list w i hi, ba_size, if_pos (by omega), if_pos (by omega), show (i : Int) + 1 = ((i + 1 : Nat) : Int) by omega, w64 (n := ((i + 1 : Nat) : Int)) (by omega), if_pos (show acc.length < 140737488355328 by omega)]
    by_cases c : ((w.getD i 0).toNat : Int) ≥ 65
    · rw [if_pos c, show lowI (w.getD i 0) = ((w.getD i 0).toNat + 32 : Int) % 256 by unfold lowI; rw [if_pos c]]
    · rw [if_neg c, if_pos (show acc.length < 140737488355328 by omega), show lowI (w.getD i 0) = ((w.getD i 0).toNat : Int) by unfold lowI; rw [if_neg c]]
theorem FnCellTexts : laws_FnCellTexts.Pure := by
  intro l0 l1 h0 h1
  refine ⟨1049000, ?_⟩
  unfold laws_FnCellTexts.f
  by_cases c0 : (l0.length : Int) > 1048576
  · rw [if_pos c0]
  · rw [if_neg c0]
    by_cases c1 : (l1.length : Int) > 1048576
    · rw [if_pos c1]
    · rw [if_neg c1]
      obtain ⟨n, en, hn⟩ := drawn l0 (bytes_of (by omega) h0.2)
      obtain ⟨r, er, r0, r1⟩ := at_some l1 (bytes_of (by omega) h1.2) 15 (by omega) (by omega)
      have hc := isCell_iff.mp hn
      obtain ⟨b, hb⟩ : ∃ b : Nat, 2 + r = b := ⟨(2 + r).toNat, by omega⟩
      have e1 : cellA n (b : Int) = (⟨(cellTx n b).toArray⟩, 0) := by
        unfold cellA
        rw [if_pos hn, if_pos (by rw [inR_iff]; omega)]
      have e2 : cellA n 17 = (⟨#[]⟩, 4) := by
        unfold cellA
        rw [if_pos hn, if_neg (by rw [inR_iff]; omega)]
      have hl := cell_len n b (by omega) (by omega) hc
      have hz : (⟨(cellTx n b).toArray⟩ : ByteArray).size = (cellTx n b).length := ba_size _
      have k1 := read_ok id good_id n b (by omega) (by omega) hc
      rw [List.map_id] at k1
      have k2 := read_ok low good_low n b (by omega) (by omega) hc
      have k3 := read_bad n b (by omega) (by omega) hc
      rw [en, Option.bind_some, er, Option.bind_some, hb, w64 (n := (b : Int)) (by omega), impl_CellText_eq n b _ (by omega), Option.bind_some, spec_CellText_eq n b _ (by omega), Option.bind_some, e1]
      simp only []
      rw [impl_ReadCell_eq _ b (by omega) (by omega) (by omega) _ (by omega), Option.bind_some, k1]
      simp only [if_true]
      have lp := loop_law n b (cellTx n b) hl (⟨(cellTx n b).toArray⟩ : ByteArray) 0 n 0 (cellTx n b).length 1049000 0 [] (by omega) (by simp) (by omega)
      rw [show ((0 : Nat) : Int) = 0 from rfl, List.nil_append, List.drop_zero] at lp
      rw [lp]
      obtain ⟨k, hk⟩ : ∃ k, 1049000 - (cellTx n b).length = k + 1 := ⟨1049000 - (cellTx n b).length - 1, by omega⟩
      rw [hk]
      simp only [laws_FnCellTexts.l0]
      rw [low_nums, if_neg (by omega), impl_ReadCell_eq _ b (by omega) (by omega) (by rw [ba_size]; simp; omega) _ (by omega), Option.bind_some, k2, if_pos (by omega), impl_ReadCell_eq _ b (by omega) (by omega) (by rw [ByteArray.size_append, hz]; show _ + 1 ≤ _; omega) _ (by omega), Option.bind_some, k3, impl_CellText_eq n 17 _ (by omega), Option.bind_some, e2]
      simp
end Go.Proofs.YthdaooejfkpdfaaDoor.Pure
