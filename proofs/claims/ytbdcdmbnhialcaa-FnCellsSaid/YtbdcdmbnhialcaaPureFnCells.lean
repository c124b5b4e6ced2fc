/- The law FnCells answers true for all codes: the drawn cells are cells, both compute the same with them, and dividing down keeps its laws. No condition. -/
import Derived.Test.YtbdcdmbnhialcaaPFnCellsx4
namespace Go.Proofs.Ytbdcdmbnhialcaa.Pure
open Go.RowKit Go.Proofs.Ytbdcdmbnhialcaa.PFnCells Go.Proofs.YtbdcdmbnhialcaaW.PrintWords Go.Proofs.YtbdcdmbnhialcaaW.PrintLast
set_option linter.unusedSimpArgs false
set_option linter.unusedVariables false

theorem bd64 {n : Int} (h : (Lit.int .i64 n).wf = true) : -9223372036854775808 ≤ n ∧ n ≤ 9223372036854775807 := by
  simp [Lit.wf, IntKind.min, IntKind.max, IntKind.signed, IntKind.bits] at h
  omega
/-- n lies from lo to hi. -/
def inR (n lo hi : Int) : Bool := decide (lo ≤ n ∧ n ≤ hi)
/-- A cell: 32 bits with a sign. -/
def isCell (n : Int) : Bool := decide (-2147483648 ≤ n ∧ n ≤ 2147483647)
theorem isCell_iff {n : Int} : isCell n = true ↔ (-2147483648 ≤ n ∧ n ≤ 2147483647) := by simp [isCell]
theorem inR_iff {n lo hi : Int} : inR n lo hi = true ↔ (lo ≤ n ∧ n ≤ hi) := by simp [inR]
theorem w64 {n : Int} (h : -9223372036854775808 ≤ n ∧ n ≤ 9223372036854775807) : wrap64 n = n := by unfold wrap64; omega
theorem w64_cell (n : Int) : wrap64 (wrap32 n) = wrap32 n := by unfold wrap64 wrap32; omega
theorem w32_cell {n : Int} (h : isCell n = true) : wrap32 n = n := by rw [isCell_iff] at h; unfold wrap32; omega
theorem cell_w32 (n : Int) : isCell (wrap32 n) = true := by rw [isCell_iff]; unfold wrap32; omega
theorem w32_eq (n : Int) : (wrap32 n == n) = isCell n := by
  rw [Bool.eq_iff_iff, isCell_iff]
  simp only [beq_iff_eq]
  unfold wrap32
  omega
/-- All of d numbers from i on. -/
def allF (P : Nat → Bool) : Nat → Nat → Bool
  | 0, _ => true
  | d + 1, i => P i && allF P d (i + 1)
theorem allF_congr {P Q : Nat → Bool} : ∀ d i, (∀ j, i ≤ j → j < i + d → P j = Q j) → allF P d i = allF Q d i
  | 0, _, _ => rfl
  | d + 1, i, h => by
    simp only [allF]
    rw [h i (Nat.le_refl _) (by omega), allF_congr d (i + 1) (fun j h1 h2 => h j (by omega) (by omega))]
theorem allF_true {P : Nat → Bool} : ∀ d i, (∀ j, i ≤ j → j < i + d → P j = true) → allF P d i = true
  | 0, _, _ => rfl
  | d + 1, i, h => by
    simp only [allF]
    rw [h i (Nat.le_refl _) (by omega), allF_true d (i + 1) (fun j h1 h2 => h j (by omega) (by omega))]
    rfl
theorem allF_all {α : Type} (p : α → Bool) (z : α) (l : List α) : ∀ d i, i + d = l.length → allF (fun j => p (l.getD j z)) d i = (l.drop i).all p
  | 0, i, h => by simp [allF, List.drop_of_length_le (show l.length ≤ i by omega)]
  | d + 1, i, h => by
    simp only [allF]
    rw [allF_all p z l d (i + 1) (by omega), List.drop_eq_getElem_cons (by omega : i < l.length), List.all_cons]
    simp [List.getD_eq_getElem?_getD, List.getElem?_eq_getElem (by omega : i < l.length)]
/-- A loop that leaves with false at the first number of which P does not hold. -/
theorem loop_all (F : Nat → Int → Option Bool) (n : Nat) (P : Nat → Bool) (fin : Bool)
    (hs : ∀ k (i : Nat), i < n → F (k + 1) i = if P i = true then F k ((i : Int) + 1) else some false) (he : ∀ k, F (k + 1) (n : Int) = some fin) :
    ∀ d k (i : Nat), i + d = n → d < k → F k i = some (allF P d i && fin)
  | 0, k, i, h, hk => by
    obtain ⟨k, rfl⟩ : ∃ m, k = m + 1 := ⟨k - 1, by omega⟩
    obtain rfl : i = n := by omega
    rw [he]
    simp [allF]
  | d + 1, k, i, h, hk => by
    obtain ⟨k, rfl⟩ : ∃ m, k = m + 1 := ⟨k - 1, by omega⟩
    rw [hs k i (by omega)]
    have ih := loop_all F n P fin hs he d k (i + 1) (by omega) (by omega)
    rw [show ((i + 1 : Nat) : Int) = (i : Int) + 1 by omega] at ih
    rw [ih]
    cases hp : P i <;> simp [allF, hp]
theorem loop_all0 (F : Nat → Int → Option Bool) (n : Nat) (P : Nat → Bool) (fin : Bool)
    (hs : ∀ k (i : Nat), i < n → F (k + 1) i = if P i = true then F k ((i : Int) + 1) else some false) (he : ∀ k, F (k + 1) (n : Int) = some fin) (k : Nat) (hk : n < k) : F k 0 = some (allF P n 0 && fin) :=
  loop_all F n P fin hs he n k 0 (by omega) hk
theorem spec_l01In_eq (a b c : Int) : spec_l01In.f a b c = some (inR a b c) := by
  unfold spec_l01In.f
  by_cases h1 : a ≥ b
  · have h2 : b ≤ a := h1
    by_cases h3 : a ≤ c <;> simp [h1, inR, h2, h3]
  · have h2 : ¬ b ≤ a := h1
    simp [inR, h2]
theorem impl_in_eq (a b c : Int) : impl_in.f a b c = some (inR a b c) := by
  unfold impl_in.f
  by_cases h1 : b ≤ a
  · by_cases h3 : a ≤ c <;> simp [inR, h1, h3]
  · simp [inR, h1]
theorem spec_l01Cell_eq (a : Int) : spec_l01Cell.f a = some (isCell a) := by
  unfold spec_l01Cell.f
  rw [spec_l01In_eq]
  rfl
theorem impl_WrapCell_eq (a : Int) : impl_WrapCell.f a = some (wrap32 a) := by
  unfold impl_WrapCell.f
  rw [w64_cell]
theorem impl_CellOK_eq (a : Int) : impl_CellOK.f a = some (isCell a) := by
  unfold impl_CellOK.f
  rw [impl_WrapCell_eq, Option.bind_some, w32_eq]
theorem u64_wrap (a : Int) : IntKind.u64.wrap a = a % 18446744073709551616 := by
  simp [IntKind.wrap, IntKind.bits, IntKind.signed]
theorem spec_Wrap_eq (a : Int) : spec_l01Wrap.f a = some (wrap32 a) := by
  unfold spec_l01Wrap.f
  rw [u64_wrap]
  congr 1
  unfold wrap64 wrap32
  omega
theorem shl_same (a b : Int) (h0 : 0 ≤ b) (h1 : b ≤ 31) : wrap64 (wrap32 (shl .u32 (wrap32 a % 4294967296) (IntKind.u64.wrap b))) = wrap32 (shl .i64 a b) := by
  rw [u64_wrap, show b % 18446744073709551616 = b by omega, w64_cell]
  unfold shl
  have e1 : min b.toNat IntKind.u32.bits = b.toNat := by simp [IntKind.bits]; omega
  have e2 : min b.toNat IntKind.i64.bits = b.toNat := by simp [IntKind.bits]; omega
  rw [e1, e2]
  generalize hp : (2 : Int) ^ b.toNat = p
  have h2 : wrap32 a % 4294967296 = a - 4294967296 * (a / 4294967296) := by unfold wrap32; omega
  have h3 : (wrap32 a % 4294967296) * p = a * p - 4294967296 * (a / 4294967296 * p) := by
    rw [h2, Int.sub_mul, Int.mul_assoc]
  rw [h3]
  generalize a * p = x
  generalize a / 4294967296 * p = y
  simp [IntKind.wrap, IntKind.bits, IntKind.signed]
  unfold wrap32
  omega
theorem shr_same (x b : Int) (h0 : 0 ≤ b) (h1 : b ≤ 31) : shr .u32 x (IntKind.u64.wrap b) = shr .i64 x b := by
  rw [u64_wrap, show b % 18446744073709551616 = b by omega]
  unfold shr
  have e1 : min b.toNat IntKind.u32.bits = b.toNat := by simp [IntKind.bits]; omega
  have e2 : min b.toNat IntKind.i64.bits = b.toNat := by simp [IntKind.bits]; omega
  rw [e1, e2]
/-- The quotient rounded down. -/
def fl (a b : Int) : Int := if Int.tmod a b = 0 then Int.tdiv a b else if (decide (a < 0) != decide (b < 0)) = true then Int.tdiv a b - 1 else Int.tdiv a b
theorem tdiv_bd (a b : Int) (ha : isCell a = true) : -2147483648 ≤ Int.tdiv a b ∧ Int.tdiv a b ≤ 2147483648 := by
  rw [isCell_iff] at ha
  have h := Int.natAbs_tdiv_le_natAbs a b
  omega
theorem tmod_sign (a b : Int) (h : Int.tmod a b ≠ 0) : (decide (Int.tmod a b < 0)) = decide (a < 0) := by
  rw [Bool.eq_iff_iff]
  simp only [decide_eq_true_eq]
  rcases Int.lt_or_le a 0 with h1 | h1
  · have h2 : 0 ≤ Int.tmod (-a) b := Int.tmod_nonneg b (by omega)
    rw [Int.neg_tmod] at h2
    omega
  · have h2 : 0 ≤ Int.tmod a b := Int.tmod_nonneg b h1
    omega
theorem tmod_bd (a b : Int) (hb : isCell b = true) (h : b ≠ 0) : -2147483648 ≤ Int.tmod a b ∧ Int.tmod a b ≤ 2147483648 := by
  rw [isCell_iff] at hb
  have h1 := Int.tmod_lt_of_pos a (show 0 < (b.natAbs : Int) by omega)
  have h2 : Int.tmod a (b.natAbs : Int) = Int.tmod a b := by
    rcases Int.natAbs_eq b with e | e
    · rw [← e]
    · conv => rhs; rw [e]
      rw [Int.tmod_neg]
  have h3 := Int.tmod_lt_of_pos (-a) (show 0 < (b.natAbs : Int) by omega)
  rw [Int.neg_tmod, h2] at h3
  rw [h2] at h1
  omega
theorem spec_Floor_eq (a b : Int) (ha : isCell a = true) (h : b ≠ 0) : spec_l01Floor.f a b = some (fl a b) := by
  have h1 := tdiv_bd a b ha
  unfold spec_l01Floor.f fl
  rw [if_neg h, w64 (by omega), w64 (by omega)]
  split
  · rfl
  · split <;> rfl
theorem i64_wrap_toNat (x : BitVec 64) : IntKind.i64.wrap (x.toNat : Int) = x.toInt := by
  have h := x.isLt
  rw [BitVec.toInt_eq_toNat_cond]
  simp [IntKind.wrap, IntKind.bits, IntKind.signed]
  split <;> omega
theorem cell_shift (a : Int) (h : isCell a = true) : (BitVec.ofInt 64 a).sshiftRight 31 = 0#64 ∨ (BitVec.ofInt 64 a).sshiftRight 31 = -1#64 := by
  rw [isCell_iff] at h
  have e : (BitVec.ofInt 64 a).toInt = a := by
    rw [BitVec.toInt_ofInt]
    simp only [Int.bmod]
    omega
  have e2 : ((BitVec.ofInt 64 a).sshiftRight 31).toInt = a >>> 31 := by rw [BitVec.toInt_sshiftRight, e]
  rw [Int.shiftRight_eq_div_pow] at e2
  have h2 : a / ((2 ^ 31 : Nat) : Int) = 0 ∨ a / ((2 ^ 31 : Nat) : Int) = -1 := by omega
  rcases h2 with h2 | h2
  · left
    apply BitVec.eq_of_toInt_eq
    rw [e2, h2]
    rfl
  · right
    apply BitVec.eq_of_toInt_eq
    rw [e2, h2]
    rfl
theorem shift_cell (x : BitVec 64) (h : x.sshiftRight 31 = 0#64 ∨ x.sshiftRight 31 = -1#64) : isCell x.toInt = true := by
  have e : (x.sshiftRight 31).toInt = x.toInt / ((2 ^ 31 : Nat) : Int) := by rw [BitVec.toInt_sshiftRight, Int.shiftRight_eq_div_pow]
  rw [isCell_iff]
  rcases h with h | h
  · rw [h] at e
    have e3 : (0#64).toInt = 0 := rfl
    rw [e3] at e
    omega
  · rw [h] at e
    have e3 : (-1#64).toInt = -1 := rfl
    rw [e3] at e
    omega
theorem and_cell (a b : Int) (ha : isCell a = true) (hb : isCell b = true) : isCell (Go.bits .and .i64 a b) = true := by
  unfold Go.bits
  show isCell (IntKind.i64.wrap (((BitVec.ofInt 64 a) &&& (BitVec.ofInt 64 b)).toNat : Int)) = true
  rw [i64_wrap_toNat]
  apply shift_cell
  rw [BitVec.sshiftRight_and_distrib]
  rcases cell_shift a ha with h1 | h1 <;> rcases cell_shift b hb with h2 | h2 <;> rw [h1, h2] <;> decide
theorem or_cell (a b : Int) (ha : isCell a = true) (hb : isCell b = true) : isCell (Go.bits .or .i64 a b) = true := by
  unfold Go.bits
  show isCell (IntKind.i64.wrap (((BitVec.ofInt 64 a) ||| (BitVec.ofInt 64 b)).toNat : Int)) = true
  rw [i64_wrap_toNat]
  apply shift_cell
  rw [BitVec.sshiftRight_or_distrib]
  rcases cell_shift a ha with h1 | h1 <;> rcases cell_shift b hb with h2 | h2 <;> rw [h1, h2] <;> decide
theorem xor_cell (a b : Int) (ha : isCell a = true) (hb : isCell b = true) : isCell (Go.bits .xor .i64 a b) = true := by
  unfold Go.bits
  show isCell (IntKind.i64.wrap (((BitVec.ofInt 64 a) ^^^ (BitVec.ofInt 64 b)).toNat : Int)) = true
  rw [i64_wrap_toNat]
  apply shift_cell
  rw [BitVec.sshiftRight_xor_distrib]
  rcases cell_shift a ha with h1 | h1 <;> rcases cell_shift b hb with h2 | h2 <;> rw [h1, h2] <;> decide
theorem tm_eq (a b : Int) (h : 0 ≤ a) : Int.tmod a b = a % b := Int.tmod_eq_emod_of_nonneg h
theorem td_eq (a b : Int) (h : 0 ≤ a) : Int.tdiv a b = a / b := Int.tdiv_eq_ediv_of_nonneg h
def Bytes (l : List Int) : Prop := l.length ≤ 1048576 ∧ ∀ i : Nat, i < l.length → 0 ≤ l.getD i 0 ∧ l.getD i 0 ≤ 255
theorem bytes_of {l : List Int} (hl : l.length ≤ 1048576) (h : ∀ x ∈ l, (Lit.int .u8 x).wf = true) : Bytes l := by
  refine ⟨hl, fun i hi => ?_⟩
  have h1 := h (l.getD i 0) (by simp [List.getD_eq_getElem?_getD, List.getElem?_eq_getElem hi])
  simp [Lit.wf, IntKind.min, IntKind.max, IntKind.signed, IntKind.bits] at h1
  rw [List.getD_eq_getElem?_getD]
  omega
def Src (p s : Int) (n : Nat) : Prop := 0 ≤ p ∧ p ≤ (n : Int) ∧ 0 ≤ s ∧ s < 2147483648
theorem byte_some (l : List Int) (hl : Bytes l) (p s : Int) (n : Nat) (hn : n ≤ 1000000000) (h : Src p s n) :
    ∃ r p' s', spec_l00Src_byte.f l p s = some (r, p', s') ∧ 0 ≤ r ∧ r ≤ 255 ∧ Src p' s' (n + 1) := by
  obtain ⟨h1, h2, h3, h4⟩ := h
  have h5 := hl.1
  unfold spec_l00Src_byte.f
  rw [w64 (n := p + 1) (by omega)]
  by_cases c1 : p + 1 ≤ (l.length : Int)
  · rw [if_pos c1, w64 (n := p + 1 - 1) (by omega), if_pos (by omega), if_pos (by omega)]
    have hb := hl.2 p.toNat (by omega)
    have e : rd l (p + 1 - 1) = l.getD p.toNat 0 := by
      simp only [rd]
      rw [show p + 1 - 1 = p by omega]
    rw [e]
    generalize l.getD p.toNat 0 = x at hb
    rw [w64 (n := x) (by omega), w64 (n := s * 31) (by omega), w64 (n := s * 31 + x) (by omega), w64 (n := s * 31 + x + 7) (by omega), tm_eq _ _ (by omega)]
    exact ⟨_, _, _, rfl, by omega, by omega, by omega, by omega, by omega, by omega⟩
  · rw [if_neg c1]
    by_cases c2 : p + 1 > 3000
    · rw [if_pos c2]
      exact ⟨_, _, _, rfl, by omega, by omega, by omega, by omega, by omega, by omega⟩
    · rw [if_neg c2, w64 (n := s * 1103515245) (by omega), w64 (n := s * 1103515245 + 12345) (by omega), tm_eq (s * 1103515245 + 12345) 2147483648 (by omega), td_eq ((s * 1103515245 + 12345) % 2147483648) 65536 (by omega), w64 (n := (s * 1103515245 + 12345) % 2147483648 / 65536) (by omega), tm_eq ((s * 1103515245 + 12345) % 2147483648 / 65536) 256 (by omega)]
      exact ⟨_, _, _, rfl, by omega, by omega, by omega, by omega, by omega, by omega⟩
theorem next_some (l : List Int) (hl : Bytes l) (p s : Int) (n : Nat) (hn : n ≤ 1000000000) (h : Src p s n) (m : Int) (h1 : 1 < m) (h2 : m ≤ 256) :
    ∃ r p' s', spec_l00Src_next.f l p s m = some (r, p', s') ∧ 0 ≤ r ∧ r < m ∧ Src p' s' (n + 1) := by
  obtain ⟨r, p', s', e, r0, r1, hs⟩ := byte_some l hl p s n hn h
  unfold spec_l00Src_next.f
  rw [if_neg (by omega), if_pos h2, e, Option.bind_some, if_neg (by omega), tm_eq _ _ r0]
  exact ⟨_, _, _, rfl, Int.emod_nonneg _ (by omega), Int.emod_lt_of_pos _ (by omega), hs⟩
theorem cell_some (l : List Int) (hl : Bytes l) (p s : Int) (n : Nat) (hn : n ≤ 100000000) (h : Src p s n) :
    ∃ r p' s', spec_l00Src_cell.f l p s = some (r, p', s') ∧ isCell r = true ∧ Src p' s' (n + 5) := by
  have up : ∀ {p s : Int} {n m : Nat}, n ≤ m → Src p s n → Src p s m := fun hnm hs => ⟨hs.1, by have := hs.2.1; omega, hs.2.2⟩
  obtain ⟨r, p', s', e, r0, r1, hs⟩ := next_some l hl p s n (by omega) h 8 (by omega) (by omega)
  unfold spec_l00Src_cell.f
  rw [e, Option.bind_some]
  simp only []
  by_cases c0 : r = 0
  · obtain ⟨x, p2, s2, e2, x0, x1, hs2⟩ := next_some l hl p' s' (n + 1) (by omega) hs 3 (by omega) (by omega)
    rw [if_pos c0, e2, Option.bind_some]
    exact ⟨_, _, _, rfl, by rw [isCell_iff]; simp only []; rw [w64 (by omega)]; omega, up (by omega) hs2⟩
  · rw [if_neg c0]
    by_cases c1 : r = 1
    · obtain ⟨x, p2, s2, e2, x0, x1, hs2⟩ := next_some l hl p' s' (n + 1) (by omega) hs 3 (by omega) (by omega)
      rw [if_pos c1, e2, Option.bind_some]
      exact ⟨_, _, _, rfl, by rw [isCell_iff]; simp only []; rw [w64 (by omega)]; omega, up (by omega) hs2⟩
    · rw [if_neg c1]
      by_cases c2 : r = 2
      · obtain ⟨x, p2, s2, e2, x0, x1, hs2⟩ := byte_some l hl p' s' (n + 1) (by omega) hs
        obtain ⟨y, p3, s3, e3, y0, y1, hs3⟩ := byte_some l hl p2 s2 (n + 1 + 1) (by omega) hs2
        obtain ⟨z, p4, s4, e4, z0, z1, hs4⟩ := byte_some l hl p3 s3 (n + 1 + 1 + 1) (by omega) hs3
        obtain ⟨v, p5, s5, e5, v0, v1, hs5⟩ := byte_some l hl p4 s4 (n + 1 + 1 + 1 + 1) (by omega) hs4
        rw [if_pos c2, e2, Option.bind_some]
        simp only []
        rw [e3, Option.bind_some]
        simp only []
        rw [e4, Option.bind_some]
        simp only []
        rw [e5, Option.bind_some]
        simp only []
        rw [spec_Wrap_eq, Option.bind_some]
        exact ⟨_, _, _, rfl, cell_w32 _, up (by omega) hs5⟩
      · rw [if_neg c2]
        by_cases c3 : r = 3
        · obtain ⟨x, p2, s2, e2, x0, x1, hs2⟩ := next_some l hl p' s' (n + 1) (by omega) hs 40 (by omega) (by omega)
          rw [if_pos c3, e2, Option.bind_some]
          exact ⟨_, _, _, rfl, by rw [isCell_iff]; simp only []; rw [w64 (by omega)]; omega, up (by omega) hs2⟩
        · obtain ⟨x, p2, s2, e2, x0, x1, hs2⟩ := next_some l hl p' s' (n + 1) (by omega) hs 40 (by omega) (by omega)
          rw [if_neg c3, e2, Option.bind_some]
          exact ⟨_, _, _, rfl, by rw [isCell_iff]; simp only []; omega, up (by omega) hs2⟩
theorem source_some (l : List Int) (hl : Bytes l) : ∃ s, spec_l00Source.f l = some (l, 0, s) ∧ Src 0 s 0 := by
  have := hl.1
  exact ⟨_, rfl, by omega, by omega, by omega, by omega⟩
theorem drawn (l : List Int) (hl : Bytes l) : ∃ a, spec_CellDrawn.f l = some a ∧ isCell a = true := by
  obtain ⟨s, e, hs⟩ := source_some l hl
  obtain ⟨r, p', s', e2, hr, _⟩ := cell_some l hl 0 s 0 (by omega) hs
  unfold spec_CellDrawn.f
  rw [e, Option.bind_some]
  simp only []
  rw [e2, Option.bind_some]
  exact ⟨_, rfl, hr⟩
theorem tmod_lt (a b : Int) : (0 < b → -b < Int.tmod a b ∧ Int.tmod a b < b) ∧ (b < 0 → b < Int.tmod a b ∧ Int.tmod a b < -b) := by
  have key : ∀ c : Int, 0 < c → -c < Int.tmod a c ∧ Int.tmod a c < c := by
    intro c hc
    have h1 := Int.tmod_lt_of_pos a hc
    have h2 := Int.tmod_lt_of_pos (-a) hc
    rw [Int.neg_tmod] at h2
    omega
  refine ⟨key b, fun h => ?_⟩
  have h3 := key (-b) (by omega)
  rw [Int.tmod_neg] at h3
  omega
/-- What is left of dividing down. -/
theorem rem_ok (a b : Int) (h : b ≠ 0) : (a - fl a b * b = 0 ∨ ((a - fl a b * b < 0) ↔ b < 0)) ∧ (0 < b → a - fl a b * b < b) ∧ (b < 0 → b < a - fl a b * b) := by
  have h1 := tmod_lt a b
  have h2 := tmod_sign a b
  have d4 := Int.mul_tdiv_add_tmod a b
  have e1 : Int.tdiv a b * b = a - Int.tmod a b := by rw [Int.mul_comm]; omega
  have e2 : (Int.tdiv a b - 1) * b = a - Int.tmod a b - b := by rw [Int.sub_mul, e1]; omega
  unfold fl
  by_cases hm : Int.tmod a b = 0
  · rw [if_pos hm, e1, hm]
    refine ⟨.inl (by omega), fun _ => by omega, fun _ => by omega⟩
  · have h3 := h2 hm
    rw [decide_eq_decide] at h3
    rw [if_neg hm]
    by_cases hs : (decide (a < 0) != decide (b < 0)) = true
    · rw [if_pos hs, e2]
      have h4 : ¬ (a < 0 ↔ b < 0) := by
        intro hh
        rw [bne_iff_ne] at hs
        exact hs (by rw [decide_eq_decide]; exact hh)
      obtain ⟨h5, h6⟩ := h1
      refine ⟨.inr ?_, fun hb => ?_, fun hb => ?_⟩
      · rcases Int.lt_or_lt_of_ne h with hb | hb
        · have := h6 hb; omega
        · have := h5 hb; omega
      · have := h5 hb; omega
      · have := h6 hb; omega
    · rw [if_neg hs, e1]
      have h4 : (a < 0 ↔ b < 0) := by
        by_cases hh : (a < 0 ↔ b < 0)
        · exact hh
        · exfalso
          apply hs
          rw [bne_iff_ne]
          intro he
          exact hh (by rw [decide_eq_decide] at he; exact he)
      obtain ⟨h5, h6⟩ := h1
      refine ⟨.inr ?_, fun hb => ?_, fun hb => ?_⟩
      · omega
      · have := h5 hb; omega
      · have := h6 hb; omega
theorem rem_cell (a b : Int) (hb : isCell b = true) (h : b ≠ 0) : isCell (a - fl a b * b) = true := by
  have h1 := rem_ok a b h
  rw [isCell_iff] at hb ⊢
  omega
/-- The first operand and the code of all ten. -/
theorem two_ok (k : Nat) (o a b : Int) (ho : inR o 1 10 = true) (ha : isCell a = true) (hb : isCell b = true) (hk : 3 < k) :
    ∃ r : Int × Bool, spec_l01Two.f k o a b = some r ∧ impl_twoCells.f k o a b = some r ∧ isCell r.1 = true ∧ (o = 1 → r.1 = wrap32 (wrap64 (a + b))) ∧ (o = 2 → r.1 = wrap32 (wrap64 (a - b))) ∧ (o = 3 → r.1 = wrap32 (wrap64 (a * b))) ∧ (o = 4 → r = if b = 0 then (0, false) else (wrap32 (fl a b), true)) ∧ (o = 5 → b ≠ 0 → r = (a - fl a b * b, true)) := by
  obtain ⟨k, rfl⟩ : ∃ m, k = m + 2 := ⟨k - 2, by omega⟩
  have ho' := inR_iff.mp ho
  have ha' := isCell_iff.mp ha
  have hb' := isCell_iff.mp hb
  unfold spec_l01Two.f impl_twoCells.f
  simp only [spec_l01Two.j0, impl_twoCells.j0, impl_twoCells.j1, spec_Wrap_eq, impl_WrapCell_eq, Option.bind_some, spec_l01In_eq, impl_in_eq, impl_unsigned.f]
  by_cases h1 : o = 1
  · subst h1
    rw [if_pos rfl, if_pos rfl]
    exact ⟨_, rfl, rfl, cell_w32 _, fun _ => rfl, fun h => absurd h (by decide), fun h => absurd h (by decide), fun h => absurd h (by decide), fun h => absurd h (by decide)⟩
  · rw [if_neg h1, if_neg h1]
    by_cases h2 : o = 2
    · subst h2
      rw [if_pos rfl, if_pos rfl]
      exact ⟨_, rfl, rfl, cell_w32 _, fun h => absurd h (by decide), fun _ => rfl, fun h => absurd h (by decide), fun h => absurd h (by decide), fun h => absurd h (by decide)⟩
    · rw [if_neg h2, if_neg h2]
      by_cases h3 : o = 3
      · subst h3
        rw [if_pos rfl, if_pos rfl]
        exact ⟨_, rfl, rfl, cell_w32 _, fun h => absurd h (by decide), fun h => absurd h (by decide), fun _ => rfl, fun h => absurd h (by decide), fun h => absurd h (by decide)⟩
      · rw [if_neg h3, if_neg h3]
        by_cases h45 : o = 4 ∨ o = 5
        · by_cases hz : b = 0
          · refine ⟨(0, false), ?_, ?_, by decide, fun h => absurd h h1, fun h => absurd h h2, fun h => absurd h h3, fun _ => by rw [if_pos hz], fun _ h => absurd hz h⟩ <;> rcases h45 with rfl | rfl <;> simp [hz]
          · have d1 := tdiv_bd a b ha
            have d2 := tmod_bd a b hb hz
            have d3 := tmod_sign a b
            have d4 := Int.mul_tdiv_add_tmod a b
            rw [spec_Floor_eq a b ha hz]
            simp only [Option.bind_some]
            rcases h45 with rfl | rfl
            · refine ⟨(wrap32 (fl a b), true), by simp [hz], ?_, cell_w32 _, fun h => absurd h h1, fun h => absurd h h2, fun h => absurd h h3, fun _ => by rw [if_neg hz], fun h => absurd h (by decide)⟩
              simp only [beq_self_eq_true, if_true]
              rw [if_neg hz, w64 (n := Int.tdiv a b) (by omega)]
              unfold fl
              by_cases hm : Int.tmod a b = 0
              · simp [hm]
              · rw [if_neg hm, if_neg hm, d3 hm, w64 (n := Int.tdiv a b - 1) (by omega)]
                cases decide (a < 0) != decide (b < 0) <;> simp
            · refine ⟨(a - fl a b * b, true), ?_, ?_, rem_cell a b hb hz, fun h => absurd h h1, fun h => absurd h h2, fun h => absurd h h3, fun h => absurd h (by decide), fun _ _ => rfl⟩
              · simp only [beq_self_eq_true, if_true]
                rw [if_neg (by decide), if_neg hz, if_neg (by decide)]
                have e : -9223372036854775808 ≤ fl a b * b ∧ fl a b * b ≤ 9223372036854775807 ∧ -9223372036854775808 ≤ a - fl a b * b ∧ a - fl a b * b ≤ 9223372036854775807 := by
                  have e3 := rem_cell a b hb hz
                  rw [isCell_iff] at e3
                  omega
                rw [w64 (n := fl a b * b) (by omega), w64 (by omega)]
              · have e1 : Int.tdiv a b * b = a - Int.tmod a b := by rw [Int.mul_comm]; omega
                have e2 : (Int.tdiv a b - 1) * b = a - Int.tmod a b - b := by rw [Int.sub_mul, e1]; omega
                simp only [beq_self_eq_true, if_true]
                rw [if_neg (by decide), if_neg hz, w64 (n := Int.tmod a b + b) (by omega)]
                unfold fl
                by_cases hm : Int.tmod a b = 0
                · rw [if_pos hm, if_pos hm, e1, hm]
                  simp
                · rw [if_neg hm, if_neg hm, d3 hm]
                  cases decide (a < 0) != decide (b < 0)
                  · simp only [Bool.false_eq_true, if_false]
                    rw [e1, show a - (a - Int.tmod a b) = Int.tmod a b by omega]
                  · simp only [if_true]
                    rw [e2, show a - (a - Int.tmod a b - b) = Int.tmod a b + b by omega]
        · have h4 : ¬ o = 4 := fun h => h45 (.inl h)
          have h5 : ¬ o = 5 := fun h => h45 (.inr h)
          have h5' : (o == 5) = false := by simp [h5]
          rw [if_neg h4, if_neg h4, h5']
          simp only [Bool.false_eq_true, if_false]
          have rest : ∀ r : Int × Bool, isCell r.1 = true → isCell r.1 = true ∧ (o = 1 → r.1 = wrap32 (wrap64 (a + b))) ∧ (o = 2 → r.1 = wrap32 (wrap64 (a - b))) ∧ (o = 3 → r.1 = wrap32 (wrap64 (a * b))) ∧ (o = 4 → r = if b = 0 then (0, false) else (wrap32 (fl a b), true)) ∧ (o = 5 → b ≠ 0 → r = (a - fl a b * b, true)) :=
            fun r hr => ⟨hr, fun h => absurd h h1, fun h => absurd h h2, fun h => absurd h h3, fun h => absurd h h4, fun h => absurd h h5⟩
          by_cases h6 : o = 6
          · rw [if_pos h6, if_pos h6]
            exact ⟨_, rfl, rfl, rest _ (and_cell a b ha hb)⟩
          · rw [if_neg h6, if_neg h6]
            by_cases h7 : o = 7
            · rw [if_pos h7, if_pos h7]
              exact ⟨_, rfl, rfl, rest _ (or_cell a b ha hb)⟩
            · rw [if_neg h7, if_neg h7]
              by_cases h8 : o = 8
              · rw [if_pos h8, if_pos h8]
                exact ⟨_, rfl, rfl, rest _ (xor_cell a b ha hb)⟩
              · rw [if_neg h8, if_neg h8]
                by_cases hr : inR b 0 31 = true
                · have hr' := inR_iff.mp hr
                  have hu : 0 ≤ IntKind.u64.wrap b := by rw [u64_wrap]; omega
                  rw [if_pos hr, if_pos hr, if_pos hr, if_pos hu, if_pos hu, shl_same a b hr'.1 hr'.2, shr_same _ b hr'.1 hr'.2, w64_cell]
                  by_cases h9 : o = 9
                  · rw [if_pos h9, if_pos h9, if_pos hr'.1]
                    exact ⟨_, rfl, rfl, rest _ (cell_w32 _)⟩
                  · rw [if_neg h9, if_neg h9, if_pos hr'.1]
                    exact ⟨_, rfl, rfl, rest _ (cell_w32 _)⟩
                · rw [if_neg hr, if_neg hr, if_neg hr]
                  by_cases h9 : o = 9
                  · rw [if_pos h9]
                    exact ⟨_, rfl, rfl, rest _ (by decide)⟩
                  · rw [if_neg h9]
                    exact ⟨_, rfl, rfl, rest _ (by decide)⟩
theorem both_ok (k : Nat) (o a b : Int) (ho : inR o 1 10 = true) (ha : isCell a = true) (hb : isCell b = true) (hk : 3 < k) :
    ∃ r : Int × Bool, impl_TwoCells.f k o a b = some (r.1, r.2, 0) ∧ spec_TwoCells.f k o a b = some (r.1, r.2, 0) ∧ isCell r.1 = true ∧ (o = 1 → r.1 = wrap32 (wrap64 (a + b))) ∧ (o = 2 → r.1 = wrap32 (wrap64 (a - b))) ∧ (o = 3 → r.1 = wrap32 (wrap64 (a * b))) ∧ (o = 4 → r = if b = 0 then (0, false) else (wrap32 (fl a b), true)) ∧ (o = 5 → b ≠ 0 → r = (a - fl a b * b, true)) := by
  obtain ⟨r, e1, e2, hr⟩ := two_ok k o a b ho ha hb hk
  refine ⟨r, ?_, ?_, hr⟩
  · unfold impl_TwoCells.f
    rw [impl_in_eq, impl_CellOK_eq, impl_CellOK_eq, ho, ha, hb, e2]
    rfl
  · unfold spec_TwoCells.f
    rw [spec_l01In_eq, spec_l01Cell_eq, spec_l01Cell_eq, ho, ha, hb, e1]
    rfl
theorem mul_bd (a b : Int) (ha : -2147483648 ≤ a ∧ a ≤ 2147483648) (hb : isCell b = true) : -4611686018427387904 ≤ a * b ∧ a * b ≤ 4611686018427387904 := by
  rw [isCell_iff] at hb
  have h : (a * b).natAbs ≤ 2147483648 * 2147483648 := by
    rw [Int.natAbs_mul]
    exact Nat.mul_le_mul (by omega) (by omega)
  omega
theorem last_ok (k : Nat) (a b : Int) (ha : isCell a = true) (hb : isCell b = true) (l : List Int) (hk : 20 < k) : laws_FnCells.l0 k a b l 11 = some true := by
  obtain ⟨k, rfl⟩ : ∃ m, k = m + 1 := ⟨k - 1, by omega⟩
  have ha' := isCell_iff.mp ha
  have hb' := isCell_iff.mp hb
  have hab := mul_bd a b (by omega) hb
  obtain ⟨r4, e4, _, c4, _, _, _, p4, _⟩ := both_ok k 4 a b (by decide) ha hb (by omega)
  obtain ⟨r5, e5, _, c5, _, _, _, _, p5⟩ := both_ok k 5 a b (by decide) ha hb (by omega)
  have p4 := p4 rfl
  have p5 := p5 rfl
  simp only [laws_FnCells.l0]
  rw [if_neg (by decide), impl_WrapCell_eq, Option.bind_some]
  unfold spec_WrapCell.f
  rw [spec_Wrap_eq]
  simp only [Option.bind_some, if_true]
  rw [w64 (n := a * b) (by omega), w64 (n := a * b + 7) (by omega)]
  have hd : Int.tmod (wrap64 (a * b + 7 - wrap32 (a * b + 7))) 4294967296 = 0 := by
    have h1 : a * b + 7 - wrap32 (a * b + 7) = 4294967296 * ((a * b + 7 + 2147483648) / 4294967296) := by unfold wrap32; omega
    rw [w64 (by have := isCell_iff.mp (cell_w32 (a * b + 7)); omega), h1, Int.mul_tmod_right]
  rw [if_pos hd, e4, e5]
  simp only [Option.bind_some]
  by_cases hz : b = 0
  · rw [if_pos hz, p4, if_pos hz]
    rfl
  · rw [if_neg hz]
    rw [if_neg hz] at p4
    have p5 := p5 hz
    have hrem := rem_ok a b hz
    have hrc := isCell_iff.mp (rem_cell a b hb hz)
    have hu : impl_Unsigned.f a = some (wrap32 a % 4294967296, 0) := by
      unfold impl_Unsigned.f impl_unsigned.f
      rw [impl_CellOK_eq, ha]
      rfl
    have hu2 : spec_Unsigned.f a = some (wrap32 a % 4294967296, 0) := by
      unfold spec_Unsigned.f spec_l01Unsigned.f
      rw [spec_l01Cell_eq, ha]
      rfl
    have hsum : wrap32 (wrap64 (wrap64 (wrap32 (fl a b) * b) + (a - fl a b * b))) = a := by
      have hq := isCell_iff.mp (cell_w32 (fl a b))
      have hm := mul_bd (wrap32 (fl a b)) b (by omega) hb
      rw [w64 (n := wrap32 (fl a b) * b) (by omega), w64 (by omega)]
      have h1 : wrap32 (fl a b) = fl a b - 4294967296 * ((fl a b + 2147483648) / 4294967296) := by unfold wrap32; omega
      rw [h1, Int.sub_mul, Int.mul_assoc]
      generalize (fl a b + 2147483648) / 4294967296 * b = t
      generalize fl a b * b = y
      unfold wrap32
      omega
    have hback : wrap32 (wrap32 a % 4294967296) = a := by unfold wrap32; omega
    rw [p4, p5, impl_WrapCell_eq, hu, hu2]
    simp only [Option.bind_some]
    rw [hsum, impl_WrapCell_eq, Option.bind_some, hback]
    generalize a - fl a b * b = r at hrem
    have hu0 : wrap32 a % 4294967296 ≥ 0 := by omega
    simp only [if_true, hu0, beq_self_eq_true]
    obtain ⟨g1, g2, g3⟩ := hrem
    by_cases hr0 : r = 0
    · rw [if_pos hr0]
      by_cases hp : b > 0
      · rw [if_pos hp, if_pos (g2 hp)]
      · rw [if_neg hp, if_pos (by omega), if_pos (g3 (by omega))]
    · rw [if_neg hr0]
      have hs : (decide (r < 0) == decide (b < 0)) = true := by
        rw [beq_iff_eq, decide_eq_decide]
        rcases g1 with g1 | g1
        · exact absurd g1 hr0
        · exact g1
      rw [if_pos hs]
      by_cases hp : b > 0
      · rw [if_pos hp, if_pos (g2 hp)]
      · rw [if_neg hp, if_pos (by omega), if_pos (g3 (by omega))]
theorem all_ok (a b : Int) (ha : isCell a = true) (hb : isCell b = true) : ∀ (d k : Nat) (o : Int), o + (d : Int) = 11 → 1 ≤ o → d + 20 < k → laws_FnCells.l0 k a b [wrap64 (a + b), wrap64 (a - b), wrap64 (a * b)] o = some true
  | 0, k, o, h, h1, hk => by
    obtain rfl : o = 11 := by omega
    exact last_ok k a b ha hb _ (by omega)
  | d + 1, k, o, h, h1, hk => by
    obtain ⟨k, rfl⟩ : ∃ m, k = m + 1 := ⟨k - 1, by omega⟩
    obtain ⟨r, e1, e2, hc, q1, q2, q3, _, _⟩ := both_ok k o a b (by rw [inR_iff]; omega) ha hb (by omega)
    have ih := all_ok a b ha hb d k (o + 1) (by omega) (by omega) (by omega)
    simp only [laws_FnCells.l0]
    rw [if_pos (by omega), e1, e2]
    simp only [Option.bind_some, if_true]
    rw [impl_CellOK_eq, hc, w64 (n := o + 1) (by omega), ih]
    simp only [Option.bind_some, if_true, bne_self_eq_false, Bool.false_eq_true, if_false]
    by_cases h3 : o ≤ 3
    · rw [if_pos h3, w64 (n := o - 1) (by omega), if_pos (by omega), if_pos (by simp; omega), impl_WrapCell_eq, Option.bind_some]
      have e : r.1 = wrap32 (rd [wrap64 (a + b), wrap64 (a - b), wrap64 (a * b)] (o - 1)) := by
        have : o = 1 ∨ o = 2 ∨ o = 3 := by omega
        rcases this with rfl | rfl | rfl
        · exact q1 rfl
        · exact q2 rfl
        · exact q3 rfl
      rw [if_pos e]
    · rw [if_neg h3]
theorem FnCells : laws_FnCells.Pure := by
  intro l0 l1 _ _ h0 _ _ h1
  refine ⟨60, ?_⟩
  unfold laws_FnCells.f
  by_cases c1 : (l0.length : Int) > 1048576
  · rw [if_pos c1]
  · rw [if_neg c1]
    by_cases c2 : (l1.length : Int) > 1048576
    · rw [if_pos c2]
    · rw [if_neg c2]
      obtain ⟨a, ea, ha⟩ := drawn l0 (bytes_of (by omega) h0)
      obtain ⟨b, eb, hb⟩ := drawn l1 (bytes_of (by omega) h1)
      rw [ea, Option.bind_some, eb, Option.bind_some]
      exact all_ok a b ha hb 10 60 1 (by omega) (by omega) (by omega)
end Go.Proofs.Ytbdcdmbnhialcaa.Pure
