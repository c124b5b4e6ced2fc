/- The law FnExactKernelWords answers true: both make the same 83 words. No condition. -/
import Derived.Test.YtbbfahkmjfmmjaaDoorPFnExactKernelWordsx3
namespace Go.Proofs.YtbbfahkmjfmmjaaDoor.Pure
open Go.RowKit Go.Proofs.YtbbfahkmjfmmjaaDoor.PFnExactKernelWords Go.Proofs.YtbbfahkmjfmmjaaDoorW.PrintWords Go.Proofs.YtbbfahkmjfmmjaaDoorW.PrintLast
set_option linter.unusedSimpArgs false
set_option linter.unusedVariables false

theorem bd64 {n : Int} (h : (Lit.int .i64 n).wf = true) : -9223372036854775808 ≤ n ∧ n ≤ 9223372036854775807 := by
  simp [Lit.wf, IntKind.min, IntKind.max, IntKind.signed, IntKind.bits] at h
  omega
/-- n lies from lo to hi. -/
def inR (n lo hi : Int) : Bool := decide (lo ≤ n ∧ n ≤ hi)
/-- A cell: 32 bits with a sign. -/
def isCell (n : Int) : Bool := decide (-2147483648 ≤ n ∧ n ≤ 2147483647)
theorem isCell_iff {n : Int} : isCell n = true ↔ (-2147483648 ≤ n ∧ n ≤ 2147483647) := by simp [isCell]
theorem inR_iff {n lo hi : Int} : inR n lo hi = true ↔ (lo ≤ n ∧ n ≤ hi) := by simp [inR]
theorem w64 {n : Int} (h : -9223372036854775808 ≤ n ∧ n ≤ 9223372036854775807) : wrap64 n = n := by unfold wrap64; omega
theorem w64_cell (n : Int) : wrap64 (wrap32 n) = wrap32 n := by unfold wrap64 wrap32; omega
theorem w32_cell {n : Int} (h : isCell n = true) : wrap32 n = n := by rw [isCell_iff] at h; unfold wrap32; omega
theorem cell_w32 (n : Int) : isCell (wrap32 n) = true := by rw [isCell_iff]; unfold wrap32; omega
theorem w32_eq (n : Int) : (wrap32 n == n) = isCell n := by
  rw [Bool.eq_iff_iff, isCell_iff]
  simp only [beq_iff_eq]
  unfold wrap32
  omega
/-- All of d numbers from i on. -/
def allF (P : Nat → Bool) : Nat → Nat → Bool
  | 0, _ => true
  | d + 1, i => P i && allF P d (i + 1)
theorem allF_congr {P Q : Nat → Bool} : ∀ d i, (∀ j, i ≤ j → j < i + d → P j = Q j) → allF P d i = allF Q d i
  | 0, _, _ => rfl
  | d + 1, i, h => by
    simp only [allF]
    rw [h i (Nat.le_refl _) (by omega), allF_congr d (i + 1) (fun j h1 h2 => h j (by omega) (by omega))]
theorem allF_true {P : Nat → Bool} : ∀ d i, (∀ j, i ≤ j → j < i + d → P j = true) → allF P d i = true
  | 0, _, _ => rfl
  | d + 1, i, h => by
    simp only [allF]
    rw [h i (Nat.le_refl _) (by omega), allF_true d (i + 1) (fun j h1 h2 => h j (by omega) (by omega))]
    rfl
theorem allF_all {α : Type} (p : α → Bool) (z : α) (l : List α) : ∀ d i, i + d = l.length → allF (fun j => p (l.getD j z)) d i = (l.drop i).all p
  | 0, i, h => by simp [allF, List.drop_of_length_le (show l.length ≤ i by omega)]
  | d + 1, i, h => by
    simp only [allF]
    rw [allF_all p z l d (i + 1) (by omega), List.drop_eq_getElem_cons (by omega : i < l.length), List.all_cons]
    simp [List.getD_eq_getElem?_getD, List.getElem?_eq_getElem (by omega : i < l.length)]
/-- A loop that leaves with false at the first number of which P does not hold. -/
theorem loop_all (F : Nat → Int → Option Bool) (n : Nat) (P : Nat → Bool) (fin : Bool)
    (hs : ∀ k (i : Nat), i < n → F (k + 1) i = if P i = true then F k ((i : Int) + 1) else some false) (he : ∀ k, F (k + 1) (n : Int) = some fin) :
    ∀ d k (i : Nat), i + d = n → d < k → F k i = some (allF P d i && fin)
  | 0, k, i, h, hk => by
    obtain ⟨k, rfl⟩ : ∃ m, k = m + 1 := ⟨k - 1, by omega⟩
    obtain rfl : i = n := by omega
    rw [he]
    simp [allF]
  | d + 1, k, i, h, hk => by
    obtain ⟨k, rfl⟩ : ∃ m, k = m + 1 := ⟨k - 1, by omega⟩
    rw [hs k i (by omega)]
    have ih := loop_all F n P fin hs he d k (i + 1) (by omega) (by omega)
    rw [show ((i + 1 : Nat) : Int) = (i : Int) + 1 by omega] at ih
    rw [ih]
    cases hp : P i <;> simp [allF, hp]
theorem loop_all0 (F : Nat → Int → Option Bool) (n : Nat) (P : Nat → Bool) (fin : Bool)
    (hs : ∀ k (i : Nat), i < n → F (k + 1) i = if P i = true then F k ((i : Int) + 1) else some false) (he : ∀ k, F (k + 1) (n : Int) = some fin) (k : Nat) (hk : n < k) : F k 0 = some (allF P n 0 && fin) :=
  loop_all F n P fin hs he n k 0 (by omega) hk
theorem range_set {α : Type} (g : Nat → α) (x : List α) (i : Nat) (h : i < x.length) : ((List.range i).map g ++ x.drop i).set i (g i) = (List.range (i + 1)).map g ++ x.drop (i + 1) := by
  rw [List.set_append, if_neg (by simp), List.length_map, List.length_range, Nat.sub_self, List.drop_eq_getElem_cons h, List.set_cons_zero, List.range_succ, List.map_append, List.append_assoc]
  rfl
/-- A loop that writes each element anew. -/
theorem mark_loop {α : Type} (F : Nat → List α → Int → Int → Option (Int × List α)) (n : Nat) (mm : Nat → Int) (g : Nat → α)
    (hs : ∀ k (x : List α) (i : Nat), i < n → x.length = n → F (k + 1) x (mm i) i = F k (x.set i (g i)) (mm (i + 1)) ((i : Int) + 1))
    (he : ∀ k (x : List α), x.length = n → F (k + 1) x (mm n) (n : Int) = some (mm n, x)) (x0 : List α) (hx : x0.length = n) (k : Nat) (hk : n < k) : F k x0 (mm 0) 0 = some (mm n, (List.range n).map g) := by
  have key : ∀ d k (i : Nat), i + d = n → d < k → F k ((List.range i).map g ++ x0.drop i) (mm i) (i : Int) = some (mm n, (List.range n).map g) := by
    intro d
    induction d with
    | zero =>
      intro k i h hk
      obtain ⟨k, rfl⟩ : ∃ m, k = m + 1 := ⟨k - 1, by omega⟩
      obtain rfl : i = n := by omega
      rw [he _ _ (by simp; omega), List.drop_of_length_le (by omega)]
      simp
    | succ d ih =>
      intro k i h hk
      obtain ⟨k, rfl⟩ : ∃ m, k = m + 1 := ⟨k - 1, by omega⟩
      rw [hs k _ i (by omega) (by simp; omega), range_set g x0 i (by omega), show (i : Int) + 1 = ((i + 1 : Nat) : Int) by omega]
      exact ih k (i + 1) (by omega) (by omega)
  have h := key n k 0 (by omega) hk
  simpa using h
/-- A loop that looks whether each element is what was written. -/
theorem held_loop (F : Nat → Int → Int → Option Int) (n : Nat) (mm : Nat → Int)
    (hs : ∀ k (i : Nat), i < n → F (k + 1) (mm i) i = F k (mm (i + 1)) ((i : Int) + 1))
    (he : ∀ k, F (k + 1) (mm n) (n : Int) = some (mm n)) (k : Nat) (hk : n < k) : F k (mm 0) 0 = some (mm n) := by
  have key : ∀ d k (i : Nat), i + d = n → d < k → F k (mm i) (i : Int) = some (mm n) := by
    intro d
    induction d with
    | zero =>
      intro k i h hk
      obtain ⟨k, rfl⟩ : ∃ m, k = m + 1 := ⟨k - 1, by omega⟩
      obtain rfl : i = n := by omega
      rw [he]
    | succ d ih =>
      intro k i h hk
      obtain ⟨k, rfl⟩ : ∃ m, k = m + 1 := ⟨k - 1, by omega⟩
      rw [hs k i (by omega), show (i : Int) + 1 = ((i + 1 : Nat) : Int) by omega]
      exact ih k (i + 1) (by omega) (by omega)
  exact key n k 0 (by omega) hk
theorem range_getD {α : Type} (g : Nat → α) (z : α) (n i : Nat) (h : i < n) : ((List.range n).map g).getD i z = g i := by
  simp [List.getD_eq_getElem?_getD, List.getElem?_map, List.getElem?_range h]
/-- The text of a mark, digit by digit. -/
def mtGo : Nat → Int → ByteArray → ByteArray
  | 0, _, acc => (⟨#[109]⟩ : ByteArray) ++ acc
  | d + 1, m, acc => if m > 0 then mtGo d (Int.tdiv m 10) (strOfNums [(wrap64 (48 + (Int.tmod m 10))) % 256] ++ acc) else (⟨#[109]⟩ : ByteArray) ++ acc
def mtext (m : Int) : ByteArray := if m ≤ 0 then (⟨#[109, 48]⟩ : ByteArray) else mtGo 18 m ⟨#[]⟩
theorem strOfNums1 (x : Int) : (strOfNums [x]).size = 1 := by simp [strOfNums, ByteArray.size]
theorem size_append_ (a b : ByteArray) : (a ++ b).size = a.size + b.size := by simp
theorem mt_loop : ∀ d k (m : Int) (acc : ByteArray), m < 10 ^ d → d < k → acc.size + d ≤ 100000 → d ≤ 18 → laws_markText.l0 k m acc = some (mtGo d m acc)
  | 0, k, m, acc, h, hk, hs, _ => by
    obtain ⟨k, rfl⟩ : ∃ m, k = m + 1 := ⟨k - 1, by omega⟩
    simp only [laws_markText.l0, mtGo]
    rw [if_neg (by simp at h; omega), if_pos (by omega)]
  | d + 1, k, m, acc, h, hk, hs, hd => by
    obtain ⟨k, rfl⟩ : ∃ m, k = m + 1 := ⟨k - 1, by omega⟩
    simp only [laws_markText.l0, mtGo]
    by_cases h0 : m > 0
    · rw [if_pos h0, if_pos h0, Option.bind_some, if_pos (by rw [strOfNums1]; omega)]
      have e : Int.tdiv m 10 = m / 10 := Int.tdiv_eq_ediv_of_nonneg (by omega)
      have hp : (10 : Int) ^ (d + 1) = 10 ^ d * 10 := by rw [Int.pow_succ]
      have hb : m < 10 ^ 18 := by
        refine Int.lt_of_lt_of_le h ?_
        exact_mod_cast Nat.pow_le_pow_right (by decide : 0 < 10) hd
      rw [e, w64 (by omega)]
      exact mt_loop d k _ _ (by omega) (by omega) (by rw [size_append_, strOfNums1]; omega) (by omega)
    · rw [if_neg h0, if_neg h0, if_pos (by omega)]
theorem laws_markText_eq (m : Int) (h1 : m ≤ 1099511627776) (k : Nat) (hk : 18 < k) : laws_markText.f k m = some (mtext m) := by
  unfold laws_markText.f mtext
  by_cases h0 : m ≤ 0
  · rw [if_pos h0, if_pos h0]
  · rw [if_neg h0, if_neg h0]
    exact mt_loop 18 k m ⟨#[]⟩ (by omega) hk (by decide) (by decide)
theorem rdW_nat (l : List S39) (i : Nat) : rd_T39 l (i : Int) = l.getD i z39 := by simp [rd_T39]
theorem eq_toList {a b : ByteArray} : a.toList = b.toList ↔ a = b := ⟨fun h => by
  rw [ByteArray.toList_eq, ByteArray.toList_eq] at h
  exact ByteArray.ext (Array.toList_inj.mp h), fun h => by rw [h]⟩
theorem set_getW (l : List S39) (i : Nat) (v : S39) (h : i < l.length) : (l.set i v).getD i z39 = v := by
  simp [List.getD_eq_getElem?_getD, h]
def markW (m : Int) (j : Nat) : S39 := ⟨mtext (m + 3 * (j : Int)), m + 3 * (j : Int) + 1, m + 3 * (j : Int) + 1 + 1⟩
def marksW (m : Int) (n : Nat) : List S39 := (List.range n).map (markW m)
theorem laws_markWordS_eq (l : List S39) (hl : l.length ≤ 1048576) (m : Int) (h0 : 0 ≤ m) (h1 : m ≤ 1000000000) (k : Nat) (hk : l.length + 20 < k) : laws_markWordS.f k l m = some (m + 3 * (l.length : Int), marksW m l.length) := by
  obtain ⟨k, c, rfl, hc, hq⟩ : ∃ q c, k = q + c ∧ 18 < c ∧ l.length < q := ⟨k - 20, 20, by omega, by omega, by omega⟩
  have h := mark_loop (fun k x m i => laws_markWordS.l0 (k + c) x m i) l.length (fun i => m + 3 * (i : Int)) (markW m) (fun k x i hi hx => by
    simp only [show k + 1 + c = (k + c) + 1 by omega, laws_markWordS.l0]
    rw [if_pos (by omega), laws_markText_eq _ (by omega) (k + c) (by omega), Option.bind_some, if_pos (by omega), Int.toNat_natCast]
    simp only [Option.bind_some, rdW_nat]
    rw [set_getW _ _ _ (by omega)]
    simp only [List.set_set]
    rw [set_getW _ _ _ (by omega)]
    rw [w64 (show -9223372036854775808 ≤ m + 3 * (i : Int) + 1 ∧ m + 3 * (i : Int) + 1 ≤ 9223372036854775807 by omega), w64 (show -9223372036854775808 ≤ m + 3 * (i : Int) + 1 + 1 ∧ m + 3 * (i : Int) + 1 + 1 ≤ 9223372036854775807 by omega), w64 (show -9223372036854775808 ≤ m + 3 * (i : Int) + 1 + 1 + 1 ∧ m + 3 * (i : Int) + 1 + 1 + 1 ≤ 9223372036854775807 by omega), w64 (n := (i : Int) + 1) (by omega), show m + 3 * ((i + 1 : Nat) : Int) = m + 3 * (i : Int) + 1 + 1 + 1 by omega]
    rfl) (fun k x hx => by
    simp only [show k + 1 + c = (k + c) + 1 by omega, laws_markWordS.l0]
    rw [if_neg (by omega)]) l rfl k (by omega)
  simpa [laws_markWordS.f, marksW] using h
theorem laws_heldWordS_eq (n : Nat) (hn : n ≤ 1048576) (m : Int) (h0 : 0 ≤ m) (h1 : m ≤ 1000000000) (k : Nat) (hk : n + 20 < k) : laws_heldWordS.f k (marksW m n) m = some (m + 3 * (n : Int)) := by
  have hl : (marksW m n).length = n := by simp [marksW]
  obtain ⟨k, c, rfl, hc, hq⟩ : ∃ q c, k = q + c ∧ 18 < c ∧ n < q := ⟨k - 20, 20, by omega, by omega, by omega⟩
  have h := held_loop (fun k m' i => laws_heldWordS.l0 (k + c) (marksW m n) m' i) n (fun i => m + 3 * (i : Int)) (fun k i hi => by
    simp only [show k + 1 + c = (k + c) + 1 by omega, laws_heldWordS.l0, hl]
    rw [if_pos (by omega), if_pos (by omega), laws_markText_eq _ (by omega) (k + c) (by omega), Option.bind_some]
    simp only [rdW_nat]
    rw [show (marksW m n).getD i z39 = markW m i from range_getD _ _ n i hi]
    rw [w64 (show -9223372036854775808 ≤ m + 3 * (i : Int) + 1 ∧ m + 3 * (i : Int) + 1 ≤ 9223372036854775807 by omega), w64 (show -9223372036854775808 ≤ m + 3 * (i : Int) + 1 + 1 ∧ m + 3 * (i : Int) + 1 + 1 ≤ 9223372036854775807 by omega), w64 (show -9223372036854775808 ≤ m + 3 * (i : Int) + 1 + 1 + 1 ∧ m + 3 * (i : Int) + 1 + 1 + 1 ≤ 9223372036854775807 by omega), w64 (n := (i : Int) + 1) (by omega), show m + 3 * ((i + 1 : Nat) : Int) = m + 3 * (i : Int) + 1 + 1 + 1 by omega]
    simp only [markW, if_true]) (fun k => by
    simp only [show k + 1 + c = (k + c) + 1 by omega, laws_heldWordS.l0, hl]
    rw [if_neg (by omega)]) k (by omega)
  simpa [laws_heldWordS.f] using h
theorem laws_eqWord_refl (a : S39) : laws_eqWord.f a.f0 a.f1 a.f2 a.f0 a.f1 a.f2 = some true := by
  unfold laws_eqWord.f
  simp
theorem laws_eqWordS_refl (a : List S39) (ha : a.length ≤ 1048576) (k : Nat) (hk : a.length < k) : laws_eqWordS.f k a a = some true := by
  unfold laws_eqWordS.f
  rw [if_pos rfl]
  have hl := loop_all0 (fun k i => laws_eqWordS.l0 k a a i) a.length (fun _ => true) true (fun k i hi => by
    simp only [laws_eqWordS.l0]
    rw [if_pos (by omega), if_pos (by omega), if_pos (by omega), w64 (by omega), laws_eqWord_refl]
    simp) (fun k => by
    simp only [laws_eqWordS.l0]
    rw [if_neg (by omega)]) k hk
  rw [hl, allF_true _ _ (fun _ _ _ => rfl)]
  rfl
/-- The words of the kernel. -/
def kernel : List S39 := (spec_KernelWords.f 300).getD []
theorem kernel_len : kernel.length = 83 := by kernel_rfl
theorem spec_KernelWords_eq (k : Nat) (hk : 300 ≤ k) : spec_KernelWords.f k = some kernel := by
  have h : spec_KernelWords.f 300 = some kernel := by kernel_rfl
  exact at_rounds (fun k => spec_KernelWords.mono k) hk h
theorem impl_KernelWords_eq (k : Nat) (hk : 300 ≤ k) : impl_KernelWords.f k = some kernel := by
  have h : impl_KernelWords.f 300 = some kernel := by kernel_rfl
  exact at_rounds (fun k => impl_KernelWords.mono k) hk h
theorem FnExactKernelWords : laws_FnExactKernelWords.Pure := by
  refine ⟨1000, ?_⟩
  unfold laws_FnExactKernelWords.f
  have hl := kernel_len
  rw [spec_KernelWords_eq 1000 (by decide), impl_KernelWords_eq 1000 (by decide)]
  simp only [Option.bind_some]
  rw [laws_eqWordS_refl kernel (by omega) 1000 (by omega), laws_markWordS_eq kernel (by omega) 1 (by decide) (by decide) 1000 (by omega), hl]
  simp only [Option.bind_some, if_true]
  rw [laws_heldWordS_eq 83 (by decide) 1 (by decide) (by decide) 1000 (by decide)]
  simp
end Go.Proofs.YtbbfahkmjfmmjaaDoor.Pure
