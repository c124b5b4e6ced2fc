/- The law FnExactCodeLines answers true for all words, code and addresses: both show the same lines. No condition. -/
import Derived.Test.YtbbfahkmjfmmjaaDoorPFnExactCodeLinesx12
namespace Go.Proofs.YtbbfahkmjfmmjaaDoor.Pure
open Go.RowKit Go.Proofs.YtbbfahkmjfmmjaaDoor.PFnExactCodeLines Go.Proofs.YtbbfahkmjfmmjaaDoorW.PrintWords Go.Proofs.YtbbfahkmjfmmjaaDoorW.PrintLast
set_option linter.unusedSimpArgs false
set_option linter.unusedVariables false

theorem bd64 {n : Int} (h : (Lit.int .i64 n).wf = true) : -9223372036854775808 ≤ n ∧ n ≤ 9223372036854775807 := by
  simp [Lit.wf, IntKind.min, IntKind.max, IntKind.signed, IntKind.bits] at h
  omega
/-- n lies from lo to hi. -/
def inR (n lo hi : Int) : Bool := decide (lo ≤ n ∧ n ≤ hi)
/-- A cell: 32 bits with a sign. -/
def isCell (n : Int) : Bool := decide (-2147483648 ≤ n ∧ n ≤ 2147483647)
theorem isCell_iff {n : Int} : isCell n = true ↔ (-2147483648 ≤ n ∧ n ≤ 2147483647) := by simp [isCell]
theorem inR_iff {n lo hi : Int} : inR n lo hi = true ↔ (lo ≤ n ∧ n ≤ hi) := by simp [inR]
theorem w64 {n : Int} (h : -9223372036854775808 ≤ n ∧ n ≤ 9223372036854775807) : wrap64 n = n := by unfold wrap64; omega
theorem w64_cell (n : Int) : wrap64 (wrap32 n) = wrap32 n := by unfold wrap64 wrap32; omega
theorem w32_cell {n : Int} (h : isCell n = true) : wrap32 n = n := by rw [isCell_iff] at h; unfold wrap32; omega
theorem cell_w32 (n : Int) : isCell (wrap32 n) = true := by rw [isCell_iff]; unfold wrap32; omega
theorem w32_eq (n : Int) : (wrap32 n == n) = isCell n := by
  rw [Bool.eq_iff_iff, isCell_iff]
  simp only [beq_iff_eq]
  unfold wrap32
  omega
/-- All of d numbers from i on. -/
def allF (P : Nat → Bool) : Nat → Nat → Bool
  | 0, _ => true
  | d + 1, i => P i && allF P d (i + 1)
theorem allF_congr {P Q : Nat → Bool} : ∀ d i, (∀ j, i ≤ j → j < i + d → P j = Q j) → allF P d i = allF Q d i
  | 0, _, _ => rfl
  | d + 1, i, h => by
    simp only [allF]
    rw [h i (Nat.le_refl _) (by omega), allF_congr d (i + 1) (fun j h1 h2 => h j (by omega) (by omega))]
theorem allF_true {P : Nat → Bool} : ∀ d i, (∀ j, i ≤ j → j < i + d → P j = true) → allF P d i = true
  | 0, _, _ => rfl
  | d + 1, i, h => by
    simp only [allF]
    rw [h i (Nat.le_refl _) (by omega), allF_true d (i + 1) (fun j h1 h2 => h j (by omega) (by omega))]
    rfl
theorem allF_all {α : Type} (p : α → Bool) (z : α) (l : List α) : ∀ d i, i + d = l.length → allF (fun j => p (l.getD j z)) d i = (l.drop i).all p
  | 0, i, h => by simp [allF, List.drop_of_length_le (show l.length ≤ i by omega)]
  | d + 1, i, h => by
    simp only [allF]
    rw [allF_all p z l d (i + 1) (by omega), List.drop_eq_getElem_cons (by omega : i < l.length), List.all_cons]
    simp [List.getD_eq_getElem?_getD, List.getElem?_eq_getElem (by omega : i < l.length)]
/-- A loop that leaves with false at the first number of which P does not hold. -/
theorem loop_all (F : Nat → Int → Option Bool) (n : Nat) (P : Nat → Bool) (fin : Bool)
    (hs : ∀ k (i : Nat), i < n → F (k + 1) i = if P i = true then F k ((i : Int) + 1) else some false) (he : ∀ k, F (k + 1) (n : Int) = some fin) :
    ∀ d k (i : Nat), i + d = n → d < k → F k i = some (allF P d i && fin)
  | 0, k, i, h, hk => by
    obtain ⟨k, rfl⟩ : ∃ m, k = m + 1 := ⟨k - 1, by omega⟩
    obtain rfl : i = n := by omega
    rw [he]
    simp [allF]
  | d + 1, k, i, h, hk => by
    obtain ⟨k, rfl⟩ : ∃ m, k = m + 1 := ⟨k - 1, by omega⟩
    rw [hs k i (by omega)]
    have ih := loop_all F n P fin hs he d k (i + 1) (by omega) (by omega)
    rw [show ((i + 1 : Nat) : Int) = (i : Int) + 1 by omega] at ih
    rw [ih]
    cases hp : P i <;> simp [allF, hp]
theorem loop_all0 (F : Nat → Int → Option Bool) (n : Nat) (P : Nat → Bool) (fin : Bool)
    (hs : ∀ k (i : Nat), i < n → F (k + 1) i = if P i = true then F k ((i : Int) + 1) else some false) (he : ∀ k, F (k + 1) (n : Int) = some fin) (k : Nat) (hk : n < k) : F k 0 = some (allF P n 0 && fin) :=
  loop_all F n P fin hs he n k 0 (by omega) hk
theorem spec_l01In_eq (a b c : Int) : spec_l01In.f a b c = some (inR a b c) := by
  unfold spec_l01In.f
  by_cases h1 : a ≥ b
  · have h2 : b ≤ a := h1
    by_cases h3 : a ≤ c <;> simp [h1, inR, h2, h3]
  · have h2 : ¬ b ≤ a := h1
    simp [inR, h2]
theorem impl_in_eq (a b c : Int) : impl_in.f a b c = some (inR a b c) := by
  unfold impl_in.f
  by_cases h1 : b ≤ a
  · by_cases h3 : a ≤ c <;> simp [inR, h1, h3]
  · simp [inR, h1]
theorem spec_l01Cell_eq (a : Int) : spec_l01Cell.f a = some (isCell a) := by
  unfold spec_l01Cell.f
  rw [spec_l01In_eq]
  rfl
theorem impl_WrapCell_eq (a : Int) : impl_WrapCell.f a = some (wrap32 a) := by
  unfold impl_WrapCell.f
  rw [w64_cell]
theorem impl_CellOK_eq (a : Int) : impl_CellOK.f a = some (isCell a) := by
  unfold impl_CellOK.f
  rw [impl_WrapCell_eq, Option.bind_some, w32_eq]
theorem set_take_map {α β : Type} (g : α → β) (z : β) (za : α) (l : List α) (i : Nat) (hi : i < l.length) : ((l.take i).map g ++ List.replicate (l.length - i) z).set i (g (l.getD i za)) = (l.take (i + 1)).map g ++ List.replicate (l.length - (i + 1)) z := by
  have hr : List.replicate (l.length - i) z = z :: List.replicate (l.length - (i + 1)) z := by
    rw [show l.length - i = (l.length - (i + 1)) + 1 by omega, List.replicate_succ]
  have hg : l.getD i za = l[i] := by simp [List.getD_eq_getElem?_getD, List.getElem?_eq_getElem hi]
  rw [hr, List.set_append, if_neg (by rw [List.length_map, List.length_take]; omega), hg, List.length_map, List.length_take, Nat.min_eq_left (Nat.le_of_lt hi), Nat.sub_self, List.set_cons_zero, List.take_succ_eq_append_getElem hi, List.map_append, List.append_assoc]
  rfl
/-- A loop that copies a list, number by number. -/
theorem loop_copy {α β : Type} (F : Nat → List β → Int → Option (List β)) (l : List α) (g : α → β) (z : β) (za : α)
    (hs : ∀ k (x : List β) (i : Nat), i < l.length → x.length = l.length → F (k + 1) x i = F k (x.set i (g (l.getD i za))) ((i : Int) + 1))
    (he : ∀ k x, F (k + 1) x (l.length : Int) = some x) (k : Nat) (hk : l.length < k) : F k (List.replicate l.length z) 0 = some (l.map g) := by
  have key : ∀ d k (i : Nat), i + d = l.length → d < k → F k ((l.take i).map g ++ List.replicate (l.length - i) z) (i : Int) = some (l.map g) := by
    intro d
    induction d with
    | zero =>
      intro k i h hk
      obtain ⟨k, rfl⟩ : ∃ m, k = m + 1 := ⟨k - 1, by omega⟩
      obtain rfl : i = l.length := by omega
      rw [he, List.take_length, Nat.sub_self]
      simp
    | succ d ih =>
      intro k i h hk
      obtain ⟨k, rfl⟩ : ∃ m, k = m + 1 := ⟨k - 1, by omega⟩
      rw [hs k _ i (by omega) (by simp; omega), set_take_map g z za l i (by omega), show (i : Int) + 1 = ((i + 1 : Nat) : Int) by omega]
      exact ih k (i + 1) (by omega) (by omega)
  have h := key l.length k 0 (by omega) hk
  simpa using h
theorem rdV_nat (l : List S35) (i : Nat) : rd_T35 l (i : Int) = l.getD i z35 := by simp [rd_T35]
/-- The word of a word as the law holds it. -/
def toW (x : S35) : S39 := ⟨x.f0, x.f1, x.f2⟩
theorem laws_szWord_eq (x : S35) (a : Int) (h0 : 0 ≤ a) (h1 : a ≤ 1048576) (hx : x.f0.size ≤ 9223372036854775807) : laws_szWord.f x.f0 x.f1 x.f2 a = some (if a - (x.f0.size : Int) < 0 then -1 else a - (x.f0.size : Int)) := by
  unfold laws_szWord.f
  rw [w64 (by omega)]
  split <;> rfl
theorem szWord_loop (l : List S35) (hx : ∀ x ∈ l, x.f0.size ≤ 9223372036854775807) (hl : l.length ≤ 1048576) : ∀ d k (i : Nat) (a : Int), i + d = l.length → d < k → 0 ≤ a → a ≤ 1048576 →
    ∃ t, laws_szWordS.l0 k l a (i : Int) = some t ∧ t ≤ a ∧ (¬ t < 0 → ∀ j, i ≤ j → j < l.length → (l.getD j z35).f0.size ≤ 1048576)
  | 0, k, i, a, h, hk, h0, h1 => by
    obtain ⟨k, rfl⟩ : ∃ m, k = m + 1 := ⟨k - 1, by omega⟩
    simp only [laws_szWordS.l0]
    rw [if_neg (by omega)]
    exact ⟨a, rfl, Int.le_refl _, fun _ j h1 h2 => by omega⟩
  | d + 1, k, i, a, h, hk, h0, h1 => by
    obtain ⟨k, rfl⟩ : ∃ m, k = m + 1 := ⟨k - 1, by omega⟩
    simp only [laws_szWordS.l0]
    have hm : l.getD i z35 ∈ l := by
      rw [List.getD_eq_getElem?_getD, List.getElem?_eq_getElem (by omega : i < l.length)]
      exact List.getElem_mem _
    rw [if_pos (by omega), if_pos (by omega), rdV_nat, laws_szWord_eq _ a h0 h1 (hx _ hm), Option.bind_some]
    by_cases h3 : a - ((l.getD i z35).f0.size : Int) < 0
    · rw [if_pos h3, if_pos (by omega)]
      exact ⟨-1, rfl, by omega, fun e => absurd (by omega) e⟩
    · rw [if_neg h3, if_neg h3, w64 (n := (i : Int) + 1) (by omega), show (i : Int) + 1 = ((i + 1 : Nat) : Int) by omega]
      obtain ⟨t, e1, e2, e3⟩ := szWord_loop l hx hl d k (i + 1) (a - ((l.getD i z35).f0.size : Int)) (by omega) (by omega) (by omega) (by omega)
      refine ⟨t, e1, by omega, fun hn j hj1 hj2 => ?_⟩
      rcases Nat.eq_or_lt_of_le hj1 with rfl | h4
      · omega
      · exact e3 hn j h4 hj2
theorem laws_szWordS_eq (l : List S35) (hl : l.length ≤ 9223372036854775807) (hx : ∀ x ∈ l, x.f0.size ≤ 9223372036854775807) (a : Int) (h0 : 0 ≤ a) (h1 : a ≤ 1048576) (k : Nat) (hk : 1048576 < k) :
    ∃ t, laws_szWordS.f k l a = some t ∧ t ≤ a ∧ (¬ t < 0 → l.length ≤ 1048576 ∧ ∀ j, j < l.length → (l.getD j z35).f0.size ≤ 1048576) := by
  unfold laws_szWordS.f
  rw [w64 (by omega)]
  by_cases h3 : a - (l.length : Int) < 0
  · rw [if_pos h3]
    exact ⟨-1, rfl, by omega, fun e => absurd (by omega) e⟩
  · rw [if_neg h3]
    obtain ⟨t, e1, e2, e3⟩ := szWord_loop l hx (by omega) l.length k 0 (a - (l.length : Int)) (by omega) (by omega) (by omega) (by omega)
    exact ⟨t, e1, by omega, fun hn => ⟨by omega, fun j hj => e3 hn j (Nat.zero_le _) hj⟩⟩
theorem laws_toWordS_eq (l : List S35) (hl : l.length ≤ 1048576) (k : Nat) (hk : l.length < k) : laws_toWordS.f k l = some (l.map toW) := by
  unfold laws_toWordS.f
  rw [if_pos (by omega), if_pos (by simp; omega)]
  have h := loop_copy (fun k x i => laws_toWordS.l0 k l x i) l toW z39 z35 (fun k x i hi hx => by
    simp only [laws_toWordS.l0, laws_toWord.f, Option.bind_some]
    rw [if_pos (by omega), if_pos (by omega), if_pos (by omega), rdV_nat, Int.toNat_natCast, w64 (by omega)]
    rfl) (fun k x => by
    simp only [laws_toWordS.l0]
    rw [if_neg (by omega)]) k hk
  simpa using h
theorem toW_sizes (l : List S35) (h : ∀ j, j < l.length → (l.getD j z35).f0.size ≤ 1048576) : ∀ x ∈ l.map toW, x.f0.size ≤ 1048576 := by
  intro x hx
  obtain ⟨y, hy, rfl⟩ := List.mem_map.mp hx
  obtain ⟨j, hj, rfl⟩ := List.mem_iff_getElem.mp hy
  have := h j hj
  rw [List.getD_eq_getElem?_getD, List.getElem?_eq_getElem hj] at this
  exact this
theorem rdW_nat (l : List S39) (i : Nat) : rd_T39 l (i : Int) = l.getD i z39 := by simp [rd_T39]
theorem eq_toList {a b : ByteArray} : a.toList = b.toList ↔ a = b := ⟨fun h => by
  rw [ByteArray.toList_eq, ByteArray.toList_eq] at h
  exact ByteArray.ext (Array.toList_inj.mp h), fun h => by rw [h]⟩
/-- The words of the kernel. -/
def kernel : List S39 := (spec_l04Kernel.f 300).getD []
theorem kernel_len : kernel.length = 83 := by kernel_rfl
theorem spec_l04Kernel_eq (k : Nat) (hk : 300 ≤ k) : spec_l04Kernel.f k = some kernel := by
  have h : spec_l04Kernel.f 300 = some kernel := by kernel_rfl
  exact at_rounds (fun k => spec_l04Kernel.mono k) hk h
theorem impl_KernelWords_eq (k : Nat) (hk : 300 ≤ k) : impl_KernelWords.f k = some kernel := by
  have h : impl_KernelWords.f 300 = some kernel := by kernel_rfl
  exact at_rounds (fun k => impl_KernelWords.mono k) hk h
/-- Words that are equal. -/
def sameW (a b : S39) : Bool := (a.f0.toList == b.f0.toList) && ((a.f1 == b.f1) && (a.f2 == b.f2))
theorem sameW_neg (a b : S39) : ((!((a.f0.toList) == (b.f0.toList))) || ((!((a.f1) == (b.f1))) || (!((a.f2) == (b.f2))))) = !sameW a b := by
  unfold sameW
  cases (a.f0.toList == b.f0.toList) <;> cases (a.f1 == b.f1) <;> cases (a.f2 == b.f2) <;> rfl
/-- The kernel stands at the head. -/
def headK (l : List S39) : Bool := decide (83 ≤ l.length) && allF (fun j => sameW (l.getD j z39) (kernel.getD j z39)) 83 0
theorem spec_l04Same_eq (l : List S39) (hl : l.length ≤ 1048576) (k : Nat) (hk : 400 < k) : spec_l04Same.f k l = some (headK l) := by
  have hk0 := spec_l04Kernel_eq k (by omega)
  unfold spec_l04Same.f headK
  rw [hk0, Option.bind_some, kernel_len]
  by_cases h1 : 83 ≤ l.length
  · rw [if_neg (by omega)]
    have h := loop_all0 (fun k i => spec_l04Same.l0 k l kernel i) 83 (fun j => sameW (l.getD j z39) (kernel.getD j z39)) true (fun k i hi => by
      simp only [spec_l04Same.l0]
      rw [if_pos (by rw [kernel_len]; omega), if_pos (by omega), if_pos (by omega), rdW_nat, rdW_nat, sameW_neg, w64 (by omega)]
      cases sameW (l.getD i z39) (kernel.getD i z39) <;> rfl) (fun k => by
      simp only [spec_l04Same.l0]
      rw [if_neg (by rw [kernel_len]; omega)]) k (by omega)
    rw [h, Bool.and_true]
    simp [h1]
  · rw [if_pos (by omega)]
    simp [h1]
theorem isLong_word (l : List S39) (k : Nat) (hk : 2 < k) : impl_isLong_Word.f k [l] = some (decide ((l.length : Int) > 4096)) := by
  obtain ⟨k, rfl⟩ : ∃ m, k = m + 2 := ⟨k - 2, by omega⟩
  simp only [impl_isLong_Word.f, slices_ContainsFunc_Word_at_impl_isLong_Word_1.f, slices_IndexFunc_Word_at_impl_isLong_Word_1.f, slices_IndexFunc_Word_at_impl_isLong_Word_1.l0, impl_isLong_Word_1.f]
  first | simp only [rd_L5] | simp only [rd_L6] | simp only [rd_L7] | simp only [rd_L4] | simp only [rd_L8]
  by_cases h : (l.length : Int) > 4096 <;> simp [h, wrap64]
theorem impl_KernelSame_eq (l : List S39) (hl : l.length ≤ 1048576) (k : Nat) (hk : 400 < k) : impl_KernelSame.f k l = some (decide (l.length ≤ 4096) && headK l) := by
  unfold impl_KernelSame.f headK
  by_cases h1 : 83 ≤ l.length
  · rw [if_pos (by omega), isLong_word l k (by omega), Option.bind_some]
    by_cases h2 : l.length ≤ 4096
    · have h3 : ¬ (l.length : Int) > 4096 := by omega
      rw [if_neg (by simp; omega), if_pos (by omega), impl_KernelWords_eq k (by omega), Option.bind_some]
      unfold slices_Equal_Word.f
      have ht : (l.take 83).length = 83 := by rw [List.length_take]; omega
      rw [if_pos (by rw [ht, kernel_len])]
      have h := loop_all0 (fun k i => slices_Equal_Word.l0 k (l.take 83) kernel ((l.take 83).length : Int) i) 83 (fun j => sameW (l.getD j z39) (kernel.getD j z39)) true (fun k i hi => by
        have e : (l.take 83).getD i z39 = l.getD i z39 := by simp [List.getD_eq_getElem?_getD, List.getElem?_take, hi]
        simp only [slices_Equal_Word.l0]
        rw [if_pos (by omega), if_pos (by omega), if_pos (by omega), if_pos (by rw [kernel_len]; omega), rdW_nat, rdW_nat, sameW_neg, w64 (by omega), e]
        cases sameW (l.getD i z39) (kernel.getD i z39) <;> rfl) (fun k => by
        simp only [slices_Equal_Word.l0]
        rw [if_neg (by omega)]) k (by omega)
      rw [h, Bool.and_true]
      simp [h1, h2]
    · rw [if_pos (by simp; omega)]
      simp [h2]
  · rw [if_neg (by omega)]
    simp [h1]
/-- The name of a word. -/
def wordOK (s : ByteArray) : Bool := inR (s.size : Int) 1 12 && allF (fun j => inR (bt s (j : Int)) 33 126) s.size 0
theorem spec_l02Word_eq (s : ByteArray) (hs : s.size ≤ 140737488351232) (k : Nat) (hk : s.size < k) : spec_l02Word.f k s = some (wordOK s) := by
  unfold spec_l02Word.f
  rw [spec_l01In_eq, Option.bind_some]
  by_cases h1 : inR (s.size : Int) 1 12 = true
  · rw [if_pos h1]
    have h := loop_all0 (fun k i => spec_l02Word.l0 k s i) s.size (fun j => inR (bt s (j : Int)) 33 126) true (fun k i hi => by
      have hb := bt_range s (i : Int)
      simp only [spec_l02Word.l0]
      rw [if_pos (by omega), if_pos (by omega), w64 (by omega), w64 (by omega), spec_l01In_eq, Option.bind_some]) (fun k => by
      simp only [spec_l02Word.l0]
      rw [if_neg (by omega)]) k hk
    rw [h, wordOK, h1]
    simp
  · rw [if_neg h1]
    simp only [Bool.not_eq_true] at h1
    simp [wordOK, h1]
theorem impl_WordOK_eq (s : ByteArray) (hs : s.size ≤ 140737488351232) (k : Nat) (hk : s.size < k) : impl_WordOK.f k s = some (wordOK s) := by
  unfold impl_WordOK.f
  have h := loop_all0 (fun k i => impl_WordOK.l0 k s (s.size : Int) i) s.size (fun j => inR (bt s (j : Int)) 33 126) (inR (s.size : Int) 1 12) (fun k i hi => by
    simp only [impl_WordOK.l0]
    rw [if_pos (by omega), if_pos (by omega), if_pos (by omega), w64 (by omega)]
    by_cases h1 : bt s (i : Int) < 33
    · have h3 : inR (bt s (i : Int)) 33 126 = false := by simp [inR]; omega
      rw [if_pos h1, h3]
      simp
    · by_cases h2 : bt s (i : Int) > 126
      · have h3 : inR (bt s (i : Int)) 33 126 = false := by simp [inR]; omega
        rw [if_neg h1, if_pos h2, h3]
        simp
      · have h3 : inR (bt s (i : Int)) 33 126 = true := by simp [inR]; omega
        rw [if_neg h1, if_neg h2, h3]
        simp) (fun k => by
    simp only [impl_WordOK.l0]
    rw [if_neg (by omega), impl_in_eq]
    rfl) k hk
  rw [h, wordOK, Bool.and_comm]
/-- A word of a script. -/
def userOK (x : S39) : Bool := wordOK x.f0 && (if x.f1 = 6 then inR x.f2 0 399 else if x.f1 = 7 then (inR x.f2 4096 4220 && (Int.tmod x.f2 4 == 0)) else if x.f1 = 8 then isCell x.f2 else false)
theorem spec_l04User_eq (x : S39) (hs : x.f0.size ≤ 1048576) (k : Nat) (hk : 1048576 < k) : spec_l04User.f k x.f0 x.f1 x.f2 = some (userOK x) := by
  unfold spec_l04User.f userOK
  rw [spec_l02Word_eq x.f0 (by omega) k (by omega), Option.bind_some]
  cases wordOK x.f0
  · rfl
  · rw [if_pos rfl, spec_l01In_eq, spec_l01In_eq, spec_l01Cell_eq]
    simp only [Option.bind_some, Bool.true_and]
    by_cases h6 : x.f1 = 6
    · rw [if_pos h6, if_pos h6]
    · rw [if_neg h6, if_neg h6]
      by_cases h7 : x.f1 = 7
      · rw [if_pos h7, if_pos h7]
        cases inR x.f2 4096 4220 <;> rfl
      · rw [if_neg h7, if_neg h7]
        by_cases h8 : x.f1 = 8
        · rw [if_pos h8, if_pos h8]
        · rw [if_neg h8, if_neg h8]
theorem inR_cells (n : Int) : (inR n 4096 4223 && (Int.tmod n 4 == 0)) = (inR n 4096 4220 && (Int.tmod n 4 == 0)) := by
  rw [Bool.eq_iff_iff, Bool.and_eq_true, Bool.and_eq_true, inR_iff, inR_iff, beq_iff_eq]
  constructor
  · rintro ⟨h1, h2⟩
    rw [Int.tmod_eq_emod_of_nonneg (by omega)] at h2
    refine ⟨by omega, ?_⟩
    rw [Int.tmod_eq_emod_of_nonneg (by omega)]
    exact h2
  · rintro ⟨h1, h2⟩
    exact ⟨by omega, h2⟩
theorem impl_isScript_eq (x : S39) (hs : x.f0.size ≤ 1048576) (k : Nat) (hk : 1048576 < k) : impl_Word_isScript.f k x.f0 x.f1 x.f2 = some (userOK x) := by
  unfold impl_Word_isScript.f userOK
  rw [impl_WordOK_eq x.f0 (by omega) k (by omega), impl_in_eq, impl_in_eq, impl_CellOK_eq]
  simp only [Option.bind_some]
  by_cases h6 : x.f1 = 6
  · rw [if_pos h6, if_pos h6]
    cases wordOK x.f0 <;> rfl
  · rw [if_neg h6, if_neg h6]
    by_cases h7 : x.f1 = 7
    · rw [if_pos h7, if_pos h7, ← inR_cells]
      cases wordOK x.f0
      · rfl
      · cases inR x.f2 4096 4223 <;> rfl
    · rw [if_neg h7, if_neg h7]
      by_cases h8 : x.f1 = 8
      · rw [if_pos h8, if_pos h8]
        cases wordOK x.f0 <;> rfl
      · rw [if_neg h8, if_neg h8]
        simp
/-- A valid dictionary. -/
def dictOK (l : List S39) : Bool := decide (l.length ≤ 103) && headK l && allF (fun j => userOK (l.getD j z39)) (l.length - 83) 83
theorem sz_getD (l : List S39) (hx : ∀ x ∈ l, x.f0.size ≤ 1048576) (i : Nat) (hi : i < l.length) : (l.getD i z39).f0.size ≤ 1048576 := by
  rw [List.getD_eq_getElem?_getD, List.getElem?_eq_getElem hi]
  exact hx _ (List.getElem_mem _)
theorem headK_len {l : List S39} (h : headK l = true) : 83 ≤ l.length := by
  unfold headK at h
  simp only [Bool.and_eq_true, decide_eq_true_eq] at h
  exact h.1
theorem spec_l04OK_eq (l : List S39) (hl : l.length ≤ 1048576) (hx : ∀ x ∈ l, x.f0.size ≤ 1048576) (k : Nat) (hk : 1048800 ≤ k) : spec_l04OK.f k l = some (dictOK l) := by
  unfold spec_l04OK.f dictOK
  obtain ⟨q, c, rfl, hc, hq⟩ : ∃ q c, k = q + c + 1 ∧ 1048576 < c ∧ 110 < q := ⟨k - 1048578, 1048577, by omega, by omega, by omega⟩
  by_cases h1 : l.length ≤ 103
  · rw [if_neg (by omega), spec_l04Same_eq l hl _ (by omega), Option.bind_some]
    simp only [spec_l04OK.j0]
    cases h2 : headK l
    · simp
    · have h3 := headK_len h2
      rw [if_neg (show ¬ (!true) = true by decide)]
      have h := loop_all (fun k i => spec_l04OK.l0 (k + c) l i) l.length (fun j => userOK (l.getD j z39)) true (fun k i hi => by
        simp only [show k + 1 + c = (k + c) + 1 by omega, spec_l04OK.l0]
        rw [if_pos (by omega), if_pos (by omega), rdW_nat, spec_l04User_eq _ (sz_getD l hx i hi) (k + c) (by omega), Option.bind_some, w64 (by omega)]) (fun k => by
        simp only [show k + 1 + c = (k + c) + 1 by omega, spec_l04OK.l0]
        rw [if_neg (by omega)]) (l.length - 83) q 83 (by omega) (by omega)
      rw [show (83 : Int) = ((83 : Nat) : Int) from rfl, h]
      simp [h1]
  · rw [if_pos (by omega)]
    simp only [spec_l04OK.j0]
    simp [h1]
theorem idx_user (l : List S39) (hl : l.length ≤ 1048576) (hx : ∀ x ∈ l, x.f0.size ≤ 1048576) (c : Nat) (hc : 1048576 < c) : ∀ d k (i : Nat), i + d = l.length → d < k →
    ∃ r, slices_IndexFunc_Word_at_impl_DictOK_1.l0 (k + c) l (l.length : Int) (i : Int) = some r ∧ (!decide (r ≥ 0)) = allF (fun j => userOK (l.getD j z39)) d i
  | 0, k, i, h, hk => by
    obtain ⟨k, rfl⟩ : ∃ m, k = m + 1 := ⟨k - 1, by omega⟩
    refine ⟨-1, ?_, by simp [allF]⟩
    simp only [show k + 1 + c = (k + c) + 1 by omega, slices_IndexFunc_Word_at_impl_DictOK_1.l0]
    rw [if_neg (by omega)]
  | d + 1, k, i, h, hk => by
    obtain ⟨k, rfl⟩ : ∃ m, k = m + 1 := ⟨k - 1, by omega⟩
    obtain ⟨r, hr, hq⟩ := idx_user l hl hx c hc d k (i + 1) (by omega) (by omega)
    simp only [show k + 1 + c = (k + c) + 1 by omega, slices_IndexFunc_Word_at_impl_DictOK_1.l0]
    rw [if_pos (by omega), if_pos (by omega), if_pos (by omega), rdW_nat, w64 (by omega), show (i : Int) + 1 = ((i + 1 : Nat) : Int) by omega, hr]
    unfold impl_DictOK_1.f
    rw [impl_isScript_eq _ (sz_getD l hx i (by omega)) (k + c) (by omega)]
    simp only [Option.bind_some, allF]
    cases hp : userOK (l.getD i z39)
    · refine ⟨(i : Int), by simp, ?_⟩
      simp
    · refine ⟨r, by simp, ?_⟩
      rw [hq]
      simp
theorem allF_drop (l : List S39) (n : Nat) : ∀ d i, allF (fun j => userOK ((l.drop n).getD j z39)) d i = allF (fun j => userOK (l.getD j z39)) d (i + n)
  | 0, _ => rfl
  | d + 1, i => by
    simp only [allF]
    rw [allF_drop l n d (i + 1), show i + 1 + n = i + n + 1 by omega]
    simp [List.getD_eq_getElem?_getD, List.getElem?_drop, Nat.add_comm]
theorem impl_DictOK_eq (l : List S39) (hl : l.length ≤ 1048576) (hx : ∀ x ∈ l, x.f0.size ≤ 1048576) (k : Nat) (hk : 1048800 ≤ k) : impl_DictOK.f k l = some (dictOK l) := by
  unfold impl_DictOK.f dictOK
  obtain ⟨q, c, rfl, hc, hq⟩ : ∃ q c, k = q + c ∧ 1048576 < c ∧ 110 < q := ⟨k - 1048577, 1048577, by omega, by omega, by omega⟩
  by_cases h1 : l.length ≤ 103
  · rw [if_pos (by omega), impl_KernelSame_eq l hl _ (by omega), Option.bind_some]
    have h5 : decide (l.length ≤ 4096) = true := decide_eq_true (by omega)
    rw [h5]
    cases h2 : headK l
    · simp
    · have h3 := headK_len h2
      have hd : (l.drop 83).length = l.length - 83 := by simp
      obtain ⟨r, hr, hqq⟩ := idx_user (l.drop 83) (by omega) (fun x hxx => hx x (List.mem_of_mem_drop hxx)) c hc (l.length - 83) q 0 (by omega) (by omega)
      rw [if_pos (by rfl), if_pos (by omega)]
      unfold slices_ContainsFunc_Word_at_impl_DictOK_1.f slices_IndexFunc_Word_at_impl_DictOK_1.f
      rw [show (0 : Int) = ((0 : Nat) : Int) from rfl, hr]
      simp only [Option.bind_some]
      rw [allF_drop, Nat.zero_add] at hqq
      have hqq' : (!decide (r ≥ ((0 : Nat) : Int))) = allF (fun j => userOK (l.getD j z39)) (l.length - 83) 83 := hqq
      rw [hqq']
      simp [h1]
  · rw [if_neg (by omega)]
    simp [h1]
theorem rd_nat (l : List Int) (i : Nat) : rd l (i : Int) = l.getD i 0 := by simp [rd]
/-- Lists that agree at each place. -/
theorem list_eq_iff (a b : List Int) (h : a.length = b.length) : decide (a = b) = allF (fun j => decide (a.getD j 0 = b.getD j 0)) a.length 0 := by
  rw [Bool.eq_iff_iff, decide_eq_true_eq]
  constructor
  · rintro rfl
    exact allF_true _ _ (fun j _ _ => by simp)
  · intro ha
    have key : ∀ d i, i + d = a.length → allF (fun j => decide (a.getD j 0 = b.getD j 0)) d i = true → ∀ j, i ≤ j → j < a.length → a.getD j 0 = b.getD j 0 := by
      intro d
      induction d with
      | zero => intro i hi _ j h1 h2; omega
      | succ d ih =>
        intro i hi hh j h1 h2
        simp only [allF, Bool.and_eq_true, decide_eq_true_eq] at hh
        rcases Nat.eq_or_lt_of_le h1 with rfl | h3
        · exact hh.1
        · exact ih (i + 1) (by omega) hh.2 j (by omega) h2
    apply List.ext_getElem h
    intro i h1 h2
    have := key a.length 0 (by omega) ha i (by omega) h1
    simpa [List.getD_eq_getElem?_getD, List.getElem?_eq_getElem h1, List.getElem?_eq_getElem h2] using this
theorem laws_eqIntS_eq (a b : List Int) (ha : a.length ≤ 1048576) (k : Nat) (hk : a.length < k) : laws_eqIntS.f k a b = some (decide (a = b)) := by
  unfold laws_eqIntS.f
  by_cases h : (a.length : Int) = (b.length : Int)
  · have h' : a.length = b.length := by omega
    rw [if_pos h, list_eq_iff a b h']
    have hl := loop_all0 (fun k i => laws_eqIntS.l0 k a b i) a.length (fun j => decide (a.getD j 0 = b.getD j 0)) true (fun k i hi => by
      simp only [laws_eqIntS.l0]
      rw [if_pos (by omega), if_pos (by omega), if_pos (by omega), rd_nat, rd_nat, w64 (by omega)]
      by_cases h3 : a.getD i 0 = b.getD i 0 <;> simp [h3]) (fun k => by
      simp only [laws_eqIntS.l0]
      rw [if_neg (by omega)]) k hk
    rw [hl, Bool.and_true]
  · rw [if_neg h]
    have h2 : ¬ a = b := by rintro rfl; exact h rfl
    simp [h2]
theorem set_take (l : List Int) (i : Nat) (hi : i < l.length) : (l.take i ++ List.replicate (l.length - i) 0).set i (l.getD i 0) = l.take (i + 1) ++ List.replicate (l.length - (i + 1)) 0 := by
  have hr : List.replicate (l.length - i) (0 : Int) = 0 :: List.replicate (l.length - (i + 1)) 0 := by
    rw [show l.length - i = (l.length - (i + 1)) + 1 by omega, List.replicate_succ]
  have hg : l.getD i 0 = l[i] := by simp [List.getD_eq_getElem?_getD, List.getElem?_eq_getElem hi]
  rw [hr, List.set_append, if_neg (by rw [List.length_take]; omega), hg, List.length_take, Nat.min_eq_left (Nat.le_of_lt hi), Nat.sub_self, List.set_cons_zero, List.take_succ_eq_append_getElem hi, List.append_assoc]
  rfl
theorem laws_toIntS_eq (l : List Int) (hl : l.length ≤ 1048576) (k : Nat) (hk : l.length < k) : laws_toIntS.f k l = some l := by
  unfold laws_toIntS.f
  rw [if_pos (by omega), if_pos (by simp; omega)]
  have key : ∀ d k (i : Nat), i + d = l.length → d < k → laws_toIntS.l0 k l (l.take i ++ List.replicate (l.length - i) 0) (i : Int) = some l := by
    intro d
    induction d with
    | zero =>
      intro k i h hk
      obtain ⟨k, rfl⟩ : ∃ m, k = m + 1 := ⟨k - 1, by omega⟩
      simp only [laws_toIntS.l0]
      rw [if_neg (by omega), List.take_of_length_le (by omega), show l.length - i = 0 by omega]
      simp
    | succ d ih =>
      intro k i h hk
      obtain ⟨k, rfl⟩ : ∃ m, k = m + 1 := ⟨k - 1, by omega⟩
      simp only [laws_toIntS.l0]
      rw [if_pos (by omega), if_pos (by omega), if_pos (by simp; omega), rd_nat, Int.toNat_natCast, set_take l i (by omega), w64 (by omega), show (i : Int) + 1 = ((i + 1 : Nat) : Int) by omega]
      exact ih k (i + 1) (by omega) (by omega)
  have h := key l.length k 0 (by omega) hk
  simpa using h
/-- m, m + 1, .. : what marking leaves. -/
def marks (m : Int) (n : Nat) : List Int := (List.range n).map fun (j : Nat) => m + (j : Int)
theorem marks_length (m : Int) (n : Nat) : (marks m n).length = n := by simp [marks]
theorem marks_get (m : Int) (n i : Nat) (h : i < n) : (marks m n).getD i 0 = m + (i : Int) := by
  simp [marks, List.getD_eq_getElem?_getD, h]
theorem marks_snoc (m : Int) (n : Nat) : marks m (n + 1) = marks m n ++ [m + (n : Int)] := by simp [marks, List.range_succ]
theorem laws_markIntS_eq (l : List Int) (hl : l.length ≤ 1048576) (m : Int) (h0 : 0 ≤ m) (h1 : m ≤ 1099511627776) (k : Nat) (hk : l.length < k) : laws_markIntS.f k l m = some (m + (l.length : Int), marks m l.length) := by
  unfold laws_markIntS.f
  have key : ∀ d k (i : Nat), i + d = l.length → d < k → laws_markIntS.l0 k (marks m i ++ l.drop i) (m + (i : Int)) (i : Int) = some (m + (l.length : Int), marks m l.length) := by
    intro d
    induction d with
    | zero =>
      intro k i h hk
      obtain ⟨k, rfl⟩ : ∃ m, k = m + 1 := ⟨k - 1, by omega⟩
      simp only [laws_markIntS.l0]
      rw [if_neg (by simp [marks_length]; omega)]
      obtain rfl : i = l.length := by omega
      simp
    | succ d ih =>
      intro k i h hk
      obtain ⟨k, rfl⟩ : ∃ m, k = m + 1 := ⟨k - 1, by omega⟩
      simp only [laws_markIntS.l0]
      rw [if_pos (by simp [marks_length]; omega), if_pos (by omega), Int.toNat_natCast]
      have e : (marks m i ++ l.drop i).set i (m + (i : Int)) = marks m (i + 1) ++ l.drop (i + 1) := by
        rw [List.set_append, if_neg (by rw [marks_length]; omega), marks_length, Nat.sub_self, List.drop_eq_getElem_cons (by omega : i < l.length), List.set_cons_zero, marks_snoc, List.append_assoc]
        rfl
      rw [e, w64 (by omega), w64 (by omega), show m + (i : Int) + 1 = m + ((i + 1 : Nat) : Int) by omega, show (i : Int) + 1 = ((i + 1 : Nat) : Int) by omega]
      exact ih k (i + 1) (by omega) (by omega)
  have h := key l.length k 0 (by omega) hk
  simpa [marks] using h
theorem range_set {α : Type} (g : Nat → α) (x : List α) (i : Nat) (h : i < x.length) : ((List.range i).map g ++ x.drop i).set i (g i) = (List.range (i + 1)).map g ++ x.drop (i + 1) := by
  rw [List.set_append, if_neg (by simp), List.length_map, List.length_range, Nat.sub_self, List.drop_eq_getElem_cons h, List.set_cons_zero, List.range_succ, List.map_append, List.append_assoc]
  rfl
/-- A loop that writes each element anew. -/
theorem mark_loop {α : Type} (F : Nat → List α → Int → Int → Option (Int × List α)) (n : Nat) (mm : Nat → Int) (g : Nat → α)
    (hs : ∀ k (x : List α) (i : Nat), i < n → x.length = n → F (k + 1) x (mm i) i = F k (x.set i (g i)) (mm (i + 1)) ((i : Int) + 1))
    (he : ∀ k (x : List α), x.length = n → F (k + 1) x (mm n) (n : Int) = some (mm n, x)) (x0 : List α) (hx : x0.length = n) (k : Nat) (hk : n < k) : F k x0 (mm 0) 0 = some (mm n, (List.range n).map g) := by
  have key : ∀ d k (i : Nat), i + d = n → d < k → F k ((List.range i).map g ++ x0.drop i) (mm i) (i : Int) = some (mm n, (List.range n).map g) := by
    intro d
    induction d with
    | zero =>
      intro k i h hk
      obtain ⟨k, rfl⟩ : ∃ m, k = m + 1 := ⟨k - 1, by omega⟩
      obtain rfl : i = n := by omega
      rw [he _ _ (by simp; omega), List.drop_of_length_le (by omega)]
      simp
    | succ d ih =>
      intro k i h hk
      obtain ⟨k, rfl⟩ : ∃ m, k = m + 1 := ⟨k - 1, by omega⟩
      rw [hs k _ i (by omega) (by simp; omega), range_set g x0 i (by omega), show (i : Int) + 1 = ((i + 1 : Nat) : Int) by omega]
      exact ih k (i + 1) (by omega) (by omega)
  have h := key n k 0 (by omega) hk
  simpa using h
/-- A loop that looks whether each element is what was written. -/
theorem held_loop (F : Nat → Int → Int → Option Int) (n : Nat) (mm : Nat → Int)
    (hs : ∀ k (i : Nat), i < n → F (k + 1) (mm i) i = F k (mm (i + 1)) ((i : Int) + 1))
    (he : ∀ k, F (k + 1) (mm n) (n : Int) = some (mm n)) (k : Nat) (hk : n < k) : F k (mm 0) 0 = some (mm n) := by
  have key : ∀ d k (i : Nat), i + d = n → d < k → F k (mm i) (i : Int) = some (mm n) := by
    intro d
    induction d with
    | zero =>
      intro k i h hk
      obtain ⟨k, rfl⟩ : ∃ m, k = m + 1 := ⟨k - 1, by omega⟩
      obtain rfl : i = n := by omega
      rw [he]
    | succ d ih =>
      intro k i h hk
      obtain ⟨k, rfl⟩ : ∃ m, k = m + 1 := ⟨k - 1, by omega⟩
      rw [hs k i (by omega), show (i : Int) + 1 = ((i + 1 : Nat) : Int) by omega]
      exact ih k (i + 1) (by omega) (by omega)
  exact key n k 0 (by omega) hk
theorem range_getD {α : Type} (g : Nat → α) (z : α) (n i : Nat) (h : i < n) : ((List.range n).map g).getD i z = g i := by
  simp [List.getD_eq_getElem?_getD, List.getElem?_map, List.getElem?_range h]
/-- The text of a mark, digit by digit. -/
def mtGo : Nat → Int → ByteArray → ByteArray
  | 0, _, acc => (⟨#[109]⟩ : ByteArray) ++ acc
  | d + 1, m, acc => if m > 0 then mtGo d (Int.tdiv m 10) (strOfNums [(wrap64 (48 + (Int.tmod m 10))) % 256] ++ acc) else (⟨#[109]⟩ : ByteArray) ++ acc
def mtext (m : Int) : ByteArray := if m ≤ 0 then (⟨#[109, 48]⟩ : ByteArray) else mtGo 18 m ⟨#[]⟩
theorem strOfNums1 (x : Int) : (strOfNums [x]).size = 1 := by simp [strOfNums, ByteArray.size]
theorem size_append_ (a b : ByteArray) : (a ++ b).size = a.size + b.size := by simp
theorem mt_loop : ∀ d k (m : Int) (acc : ByteArray), m < 10 ^ d → d < k → acc.size + d ≤ 100000 → d ≤ 18 → laws_markText.l0 k m acc = some (mtGo d m acc)
  | 0, k, m, acc, h, hk, hs, _ => by
    obtain ⟨k, rfl⟩ : ∃ m, k = m + 1 := ⟨k - 1, by omega⟩
    simp only [laws_markText.l0, mtGo]
    rw [if_neg (by simp at h; omega), if_pos (by omega)]
  | d + 1, k, m, acc, h, hk, hs, hd => by
    obtain ⟨k, rfl⟩ : ∃ m, k = m + 1 := ⟨k - 1, by omega⟩
    simp only [laws_markText.l0, mtGo]
    by_cases h0 : m > 0
    · rw [if_pos h0, if_pos h0, Option.bind_some, if_pos (by rw [strOfNums1]; omega)]
      have e : Int.tdiv m 10 = m / 10 := Int.tdiv_eq_ediv_of_nonneg (by omega)
      have hp : (10 : Int) ^ (d + 1) = 10 ^ d * 10 := by rw [Int.pow_succ]
      have hb : m < 10 ^ 18 := by
        refine Int.lt_of_lt_of_le h ?_
        exact_mod_cast Nat.pow_le_pow_right (by decide : 0 < 10) hd
      rw [e, w64 (by omega)]
      exact mt_loop d k _ _ (by omega) (by omega) (by rw [size_append_, strOfNums1]; omega) (by omega)
    · rw [if_neg h0, if_neg h0, if_pos (by omega)]
theorem laws_markText_eq (m : Int) (h1 : m ≤ 1099511627776) (k : Nat) (hk : 18 < k) : laws_markText.f k m = some (mtext m) := by
  unfold laws_markText.f mtext
  by_cases h0 : m ≤ 0
  · rw [if_pos h0, if_pos h0]
  · rw [if_neg h0, if_neg h0]
    exact mt_loop 18 k m ⟨#[]⟩ (by omega) hk (by decide) (by decide)

theorem laws_eqWord_refl (a : S39) : laws_eqWord.f a.f0 a.f1 a.f2 a.f0 a.f1 a.f2 = some true := by
  unfold laws_eqWord.f
  simp
theorem laws_eqWordS_refl (a : List S39) (ha : a.length ≤ 1048576) (k : Nat) (hk : a.length < k) : laws_eqWordS.f k a a = some true := by
  unfold laws_eqWordS.f
  rw [if_pos rfl]
  have hl := loop_all0 (fun k i => laws_eqWordS.l0 k a a i) a.length (fun _ => true) true (fun k i hi => by
    simp only [laws_eqWordS.l0]
    rw [if_pos (by omega), if_pos (by omega), if_pos (by omega), w64 (by omega), laws_eqWord_refl]
    simp) (fun k => by
    simp only [laws_eqWordS.l0]
    rw [if_neg (by omega)]) k hk
  rw [hl, allF_true _ _ (fun _ _ _ => rfl)]
  rfl
theorem set_getW (l : List S39) (i : Nat) (v : S39) (h : i < l.length) : (l.set i v).getD i z39 = v := by
  simp [List.getD_eq_getElem?_getD, h]
def markW (m : Int) (j : Nat) : S39 := ⟨mtext (m + 3 * (j : Int)), m + 3 * (j : Int) + 1, m + 3 * (j : Int) + 1 + 1⟩
def marksW (m : Int) (n : Nat) : List S39 := (List.range n).map (markW m)
theorem laws_markWordS_eq (l : List S39) (hl : l.length ≤ 1048576) (m : Int) (h0 : 0 ≤ m) (h1 : m ≤ 1000000000) (k : Nat) (hk : l.length + 20 < k) : laws_markWordS.f k l m = some (m + 3 * (l.length : Int), marksW m l.length) := by
  obtain ⟨k, c, rfl, hc, hq⟩ : ∃ q c, k = q + c ∧ 18 < c ∧ l.length < q := ⟨k - 20, 20, by omega, by omega, by omega⟩
  have h := mark_loop (fun k x m i => laws_markWordS.l0 (k + c) x m i) l.length (fun i => m + 3 * (i : Int)) (markW m) (fun k x i hi hx => by
    simp only [show k + 1 + c = (k + c) + 1 by omega, laws_markWordS.l0]
    rw [if_pos (by omega), laws_markText_eq _ (by omega) (k + c) (by omega), Option.bind_some, if_pos (by omega), Int.toNat_natCast]
    simp only [Option.bind_some, rdW_nat]
    rw [set_getW _ _ _ (by omega)]
    simp only [List.set_set]
    rw [set_getW _ _ _ (by omega)]
    rw [w64 (show -9223372036854775808 ≤ m + 3 * (i : Int) + 1 ∧ m + 3 * (i : Int) + 1 ≤ 9223372036854775807 by omega), w64 (show -9223372036854775808 ≤ m + 3 * (i : Int) + 1 + 1 ∧ m + 3 * (i : Int) + 1 + 1 ≤ 9223372036854775807 by omega), w64 (show -9223372036854775808 ≤ m + 3 * (i : Int) + 1 + 1 + 1 ∧ m + 3 * (i : Int) + 1 + 1 + 1 ≤ 9223372036854775807 by omega), w64 (n := (i : Int) + 1) (by omega), show m + 3 * ((i + 1 : Nat) : Int) = m + 3 * (i : Int) + 1 + 1 + 1 by omega]
    rfl) (fun k x hx => by
    simp only [show k + 1 + c = (k + c) + 1 by omega, laws_markWordS.l0]
    rw [if_neg (by omega)]) l rfl k (by omega)
  simpa [laws_markWordS.f, marksW] using h
theorem rdOf_nat {α : Type} (z : α) (l : List α) (i : Nat) : rdOf z l (i : Int) = l.getD i z := by simp [rdOf]


def markT (m : Int) (j : Nat) : ByteArray := mtext (m + (j : Int))
def marksT (m : Int) (n : Nat) : List ByteArray := (List.range n).map (markT m)
theorem laws_markStringS_eq (l : List ByteArray) (hl : l.length ≤ 1048576) (m : Int) (h0 : 0 ≤ m) (h1 : m ≤ 1000000000) (k : Nat) (hk : l.length + 20 < k) : laws_markStringS.f k l m = some (m + (l.length : Int), marksT m l.length) := by
  obtain ⟨k, c, rfl, hc, hq⟩ : ∃ q c, k = q + c ∧ 18 < c ∧ l.length < q := ⟨k - 20, 20, by omega, by omega, by omega⟩
  have h := mark_loop (fun k x m i => laws_markStringS.l0 (k + c) x m i) l.length (fun i => m + (i : Int)) (markT m) (fun k x i hi hx => by
    simp only [show k + 1 + c = (k + c) + 1 by omega, laws_markStringS.l0]
    rw [if_pos (by omega), laws_markText_eq _ (by omega) (k + c) (by omega), Option.bind_some, if_pos (by omega), Int.toNat_natCast, w64 (by omega), w64 (by omega), show m + ((i + 1 : Nat) : Int) = m + (i : Int) + 1 by omega]
    rfl) (fun k x hx => by
    simp only [show k + 1 + c = (k + c) + 1 by omega, laws_markStringS.l0]
    rw [if_neg (by omega)]) l rfl k (by omega)
  simpa [laws_markStringS.f, marksT] using h
theorem laws_heldStringS_eq (n : Nat) (hn : n ≤ 1048576) (m : Int) (h0 : 0 ≤ m) (h1 : m ≤ 1000000000) (k : Nat) (hk : n + 20 < k) : laws_heldStringS.f k (marksT m n) m = some (m + (n : Int)) := by
  have hl : (marksT m n).length = n := by simp [marksT]
  obtain ⟨k, c, rfl, hc, hq⟩ : ∃ q c, k = q + c ∧ 18 < c ∧ n < q := ⟨k - 20, 20, by omega, by omega, by omega⟩
  have h := held_loop (fun k m' i => laws_heldStringS.l0 (k + c) (marksT m n) m' i) n (fun i => m + (i : Int)) (fun k i hi => by
    simp only [show k + 1 + c = (k + c) + 1 by omega, laws_heldStringS.l0, hl]
    rw [if_pos (by omega), if_pos (by omega), laws_markText_eq _ (by omega) (k + c) (by omega), Option.bind_some, rdOf_nat]
    rw [show (marksT m n).getD i ByteArray.empty = mtext (m + (i : Int)) from range_getD _ _ n i hi]
    rw [w64 (by omega), w64 (by omega), show m + ((i + 1 : Nat) : Int) = m + (i : Int) + 1 by omega]
    simp) (fun k => by
    simp only [show k + 1 + c = (k + c) + 1 by omega, laws_heldStringS.l0, hl]
    rw [if_neg (by omega)]) k (by omega)
  simpa [laws_heldStringS.f] using h
theorem laws_eqStringS_refl (a : List ByteArray) (ha : a.length ≤ 1048576) (k : Nat) (hk : a.length < k) : laws_eqStringS.f k a a = some true := by
  unfold laws_eqStringS.f
  rw [if_pos rfl]
  have hl := loop_all0 (fun k i => laws_eqStringS.l0 k a a i) a.length (fun _ => true) true (fun k i hi => by
    simp only [laws_eqStringS.l0]
    rw [if_pos (by omega), if_pos (by omega), if_pos (by omega), w64 (by omega)]) (fun k => by
    simp only [laws_eqStringS.l0]
    rw [if_neg (by omega)]) k hk
  rw [hl, allF_true _ _ (fun _ _ _ => rfl)]
  rfl
theorem isLong_int (l : List Int) (k : Nat) (hk : 2 < k) : impl_isLong_int.f k [l] = some (decide ((l.length : Int) > 4096)) := by
  obtain ⟨k, rfl⟩ : ∃ m, k = m + 2 := ⟨k - 2, by omega⟩
  simp only [impl_isLong_int.f, slices_ContainsFunc__int_at_impl_isLong_int_1.f, slices_IndexFunc__int_at_impl_isLong_int_1.f, slices_IndexFunc__int_at_impl_isLong_int_1.l0, impl_isLong_int_1.f]
  first | simp only [rd_L5] | simp only [rd_L6] | simp only [rd_L7] | simp only [rd_L4] | simp only [rd_L8]
  by_cases h : (l.length : Int) > 4096 <;> simp [h, wrap64]
/-- A number's digits. -/
def dg (n : Int) : ByteArray := ⟨(Lib.itoa n).toArray⟩
theorem ba_append (a b : List UInt8) : ((⟨a.toArray⟩ : ByteArray) ++ (⟨b.toArray⟩ : ByteArray)) = ⟨(a ++ b).toArray⟩ := by
  apply ByteArray.ext
  simp
theorem digits_nat : ∀ d k (m : Nat), 1 ≤ d → d ≤ 20 → m < 10 ^ d → d < k → m ≤ 9223372036854775807 → spec_l00Digits.f k (m : Int) = some ⟨(Lib.decDigits m).toArray⟩ ∧ (Lib.decDigits m).length ≤ d
  | 0, k, m, h1, _, _, _, _ => by omega
  | d + 1, k, m, h1, h20, h, hk, hm => by
    obtain ⟨k, rfl⟩ : ∃ q, k = q + 1 := ⟨k - 1, by omega⟩
    simp only [spec_l00Digits.f]
    rw [if_neg (by omega), if_neg (by omega)]
    by_cases c : m < 10
    · rw [if_pos (by omega), w64 (by omega), Lib.decDigits, dif_pos c]
      refine ⟨?_, by simp⟩
      rw [show (48 + (m : Int)) % 256 = ((48 + m : Nat) : Int) by omega]
      rfl
    · have hd : 1 ≤ d := by
        rcases Nat.eq_zero_or_pos d with h0 | h0
        · subst h0
          omega
        · exact h0
      have hp : m / 10 < 10 ^ d := by
        rw [Nat.pow_succ] at h
        omega
      obtain ⟨e, hl⟩ := digits_nat d k (m / 10) hd (by omega) hp (by omega) (by omega)
      have ht : Int.tdiv (m : Int) 10 = ((m / 10 : Nat) : Int) := by
        rw [Int.tdiv_eq_ediv_of_nonneg (by omega)]
        omega
      have hr : Int.tmod (m : Int) 10 = ((m % 10 : Nat) : Int) := by
        rw [Int.tmod_eq_emod_of_nonneg (by omega)]
        omega
      have e3 : Lib.decDigits m = Lib.decDigits (m / 10) ++ [UInt8.ofNat (48 + m % 10)] := by
        rw [Lib.decDigits, dif_neg c]
      have e4 : strOfNums [((48 + m % 10 : Nat) : Int)] = ⟨[UInt8.ofNat (48 + m % 10)].toArray⟩ := rfl
      have es : (⟨(Lib.decDigits (m / 10)).toArray⟩ : ByteArray).size = (Lib.decDigits (m / 10)).length := by simp [ByteArray.size]
      have es2 : (⟨[UInt8.ofNat (48 + m % 10)].toArray⟩ : ByteArray).size = 1 := rfl
      rw [if_neg (by omega), ht, w64 (by omega), e, Option.bind_some, hr, w64 (by omega), show (48 + ((m % 10 : Nat) : Int)) % 256 = ((48 + m % 10 : Nat) : Int) by omega, Option.bind_some, e4, es, es2, if_pos (by omega), ba_append, e3]
      exact ⟨rfl, by rw [List.length_append, List.length_singleton]; omega⟩
theorem itoa_min : (⟨#[45, 57, 50, 50, 51, 51, 55, 50, 48, 51, 54, 56, 53, 52, 55, 55, 53, 56, 48, 56]⟩ : ByteArray) = dg (-9223372036854775808) := by
  simp [dg, Lib.itoa, Lib.decDigits]
theorem digits_eq (n : Int) (hn : -9223372036854775808 ≤ n ∧ n ≤ 9223372036854775807) (k : Nat) (hk : 30 < k) : spec_l00Digits.f k n = some (dg n) ∧ (dg n).size ≤ 21 := by
  by_cases h1 : n = -9223372036854775808
  · subst h1
    obtain ⟨k, rfl⟩ : ∃ q, k = q + 1 := ⟨k - 1, by omega⟩
    simp only [spec_l00Digits.f]
    rw [← itoa_min]
    exact ⟨rfl, by decide⟩
  · by_cases h2 : n < 0
    · obtain ⟨k, rfl⟩ : ∃ q, k = q + 1 := ⟨k - 1, by omega⟩
      obtain ⟨e, hl⟩ := digits_nat 19 k n.natAbs (by omega) (by omega) (Nat.lt_of_le_of_lt (m := 9223372036854775808) (by omega) (by decide)) (by omega) (by omega)
      have es : (⟨(Lib.decDigits n.natAbs).toArray⟩ : ByteArray).size = (Lib.decDigits n.natAbs).length := by simp [ByteArray.size]
      simp only [spec_l00Digits.f]
      rw [if_neg h1, if_pos h2, w64 (by omega), show -n = ((n.natAbs : Nat) : Int) by omega, e, Option.bind_some, es, if_pos (by omega)]
      have e2 : dg n = (⟨#[45]⟩ : ByteArray) ++ ⟨(Lib.decDigits n.natAbs).toArray⟩ := by
        unfold dg Lib.itoa
        rw [if_pos h2]
        exact (ba_append [45] _).symm
      rw [e2]
      refine ⟨rfl, ?_⟩
      rw [ByteArray.size_append, es]
      show 1 + _ ≤ 21
      omega
    · obtain ⟨e, hl⟩ := digits_nat 19 k n.toNat (by omega) (by omega) (Nat.lt_of_le_of_lt (m := 9223372036854775808) (by omega) (by decide)) (by omega) (by omega)
      have es : (⟨(Lib.decDigits n.toNat).toArray⟩ : ByteArray).size = (Lib.decDigits n.toNat).length := by simp [ByteArray.size]
      have e2 : dg n = ⟨(Lib.decDigits n.toNat).toArray⟩ := by
        unfold dg Lib.itoa
        rw [if_neg h2]
      rw [e2, es]
      rw [show ((n.toNat : Nat) : Int) = n by omega] at e
      exact ⟨e, by omega⟩
theorem itoa_eq (n : Int) (hn : -9223372036854775808 ≤ n ∧ n ≤ 9223372036854775807) : strconv_Itoa_121.f n = some (dg n) := by
  unfold strconv_Itoa_121.f dg
  rw [if_pos hn]
/-- A word's operand follows. -/
def opn (ws : List S39) (n : Int) : Bool := (ws.getD (n.toNat - 1) z39).f1 == 3 && n != 60
theorem kernel_inner : ∀ j, j < 83 → (kernel.getD j z39).f1 = 3 → ((kernel.getD j z39).f0.toList != ([40, 68, 79, 41] : List UInt8)) = (((j : Int) + 1) != 60) := by
  have h : (List.range 83).all (fun j => !((kernel.getD j z39).f1 == 3) || (((kernel.getD j z39).f0.toList != ([40, 68, 79, 41] : List UInt8)) == (((j : Int) + 1) != 60))) = true := by decide +kernel
  intro j hj h3
  have := List.all_eq_true.1 h j (by simpa using hj)
  rw [h3] at this
  simpa using this
theorem dict_inner (ws : List S39) (hd : dictOK ws = true) (j : Nat) (hj : j < ws.length) (h3 : (ws.getD j z39).f1 = 3) : ((ws.getD j z39).f0.toList != ([40, 68, 79, 41] : List UInt8)) = (((j : Int) + 1) != 60) := by
  unfold dictOK at hd
  simp only [Bool.and_eq_true, decide_eq_true_eq] at hd
  obtain ⟨⟨hl, hh⟩, hu⟩ := hd
  have hget : ∀ (P : Nat → Bool) d i, allF P d i = true → ∀ j, i ≤ j → j < i + d → P j = true := by
    intro P d
    induction d with
    | zero => intro i _ j h1 h2; omega
    | succ d ih =>
      intro i h j h1 h2
      simp only [allF, Bool.and_eq_true] at h
      by_cases e : j = i
      · rw [e]; exact h.1
      · exact ih (i + 1) h.2 j (by omega) (by omega)
  by_cases h83 : j < 83
  · unfold headK at hh
    simp only [Bool.and_eq_true, decide_eq_true_eq] at hh
    have hs := hget _ 83 0 hh.2 j (by omega) (by omega)
    unfold sameW at hs
    simp only [Bool.and_eq_true, beq_iff_eq] at hs
    rw [hs.1]
    rw [hs.2.1] at h3
    exact kernel_inner j h83 h3
  · have hs := hget _ _ 83 hu j (by omega) (by omega)
    unfold userOK at hs
    rw [h3] at hs
    simp at hs
theorem operand_eq (ws : List S39) (hd : dictOK ws = true) (n : Int) (hn : 1 ≤ n ∧ n ≤ (ws.length : Int)) (hl : ws.length ≤ 1048576) : spec_l07Operand.f ws n = some (opn ws n) := by
  unfold spec_l07Operand.f opn
  have hj : n - 1 = ((n.toNat - 1 : Nat) : Int) := by omega
  rw [spec_l01In_eq, Option.bind_some, if_pos (inR_iff.mpr hn), w64 (by omega), if_pos (by omega), if_pos (by omega), hj, rdW_nat]
  by_cases h3 : (ws.getD (n.toNat - 1) z39).f1 = 3
  · rw [if_pos h3, dict_inner ws hd (n.toNat - 1) (by omega) h3, h3, show ((n.toNat - 1 : Nat) : Int) + 1 = n by omega]
    rfl
  · rw [if_neg h3, beq_eq_false_iff_ne.mpr h3]
    rfl
theorem word_exit (k : Nat) (hk : 600 ≤ k) : spec_l07Word.f k (⟨#[69, 88, 73, 84]⟩ : ByteArray) = some 53 := by
  have h : spec_l07Word.f 600 (⟨#[69, 88, 73, 84]⟩ : ByteArray) = some 53 := by decide +kernel
  exact at_rounds (fun k => spec_l07Word.mono _ k) hk h
def sp : ByteArray := ⟨#[32]⟩
/-- The lines from an address on. -/
def clines (ws : List S39) (c : List Int) : Nat → Nat → List ByteArray → List ByteArray × Int
  | 0, _, _ => ([], 8)
  | d + 1, i, out =>
    if i < c.length then
      (if inR (c.getD i 0) 1 (ws.length : Int) = true then
        (if opn ws (c.getD i 0) = true then
          (if i + 1 = c.length then ([], 8)
           else (if c.getD i 0 = 53 then (out ++ [((dg (i : Int) ++ sp) ++ (ws.getD ((c.getD i 0).toNat - 1) z39).f0) ++ (sp ++ dg (c.getD (i + 1) 0))], 0)
             else clines ws c d (i + 2) (out ++ [((dg (i : Int) ++ sp) ++ (ws.getD ((c.getD i 0).toNat - 1) z39).f0) ++ (sp ++ dg (c.getD (i + 1) 0))])))
         else (if c.getD i 0 = 53 then (out ++ [(dg (i : Int) ++ sp) ++ (ws.getD ((c.getD i 0).toNat - 1) z39).f0], 0)
             else clines ws c d (i + 1) (out ++ [(dg (i : Int) ++ sp) ++ (ws.getD ((c.getD i 0).toNat - 1) z39).f0])))
       else ([], 13))
    else ([], 8)
theorem clines_len (ws : List S39) (c : List Int) : ∀ d i out, (clines ws c d i out).1.length ≤ out.length + d
  | 0, _, _ => by simp [clines]
  | d + 1, i, out => by
    have h1 := clines_len ws c d (i + 2) (out ++ [((dg (i : Int) ++ sp) ++ (ws.getD ((c.getD i 0).toNat - 1) z39).f0) ++ (sp ++ dg (c.getD (i + 1) 0))])
    have h2 := clines_len ws c d (i + 1) (out ++ [(dg (i : Int) ++ sp) ++ (ws.getD ((c.getD i 0).toNat - 1) z39).f0])
    rw [List.length_append, List.length_singleton] at h1 h2
    unfold clines
    split
    · split
      · split
        · split
          · simp
          · split
            · simp
            · omega
        · split
          · simp
          · omega
      · simp
    · simp
theorem sp_size : sp.size = 1 := rfl
theorem line_size (ws : List S39) (hx : ∀ x ∈ ws, x.f0.size ≤ 1048576) (n : Int) : (ws.getD (n.toNat - 1) z39).f0.size ≤ 1048576 := by
  rw [List.getD_eq_getElem?_getD]
  cases h : ws[n.toNat - 1]? with
  | none => exact Nat.zero_le _
  | some x => exact hx x (List.mem_of_getElem? h)
theorem spec_cl (ws : List S39) (c : List Int) (hd : dictOK ws = true) (hl : ws.length ≤ 1048576) (hx : ∀ x ∈ ws, x.f0.size ≤ 1048576) (hc : c.length ≤ 4096) (hcb : ∀ i : Nat, -9223372036854775808 ≤ c.getD i 0 ∧ c.getD i 0 ≤ 9223372036854775807) : ∀ d k (i : Nat) (out : List ByteArray), c.length < i + d → i ≤ c.length + 1 → d + 700 ≤ k → out.length + d ≤ 10000 →
    spec_CodeLines.l0 k ws c out (i : Int) = some (clines ws c d i out)
  | 0, k, i, out, h, hi, hk, ho => by
    obtain ⟨k, rfl⟩ : ∃ q, k = q + 1 := ⟨k - 1, by omega⟩
    simp only [spec_CodeLines.l0]
    rw [if_neg (by omega)]
    rfl
  | d + 1, k, i, out, h, hi, hk, ho => by
    obtain ⟨k, rfl⟩ : ∃ q, k = q + 1 := ⟨k - 1, by omega⟩
    simp only [spec_CodeLines.l0]
    unfold clines
    by_cases c1 : i < c.length
    · have hb := hcb i
      rw [if_pos (by omega), if_pos (by omega), rd_nat, if_pos c1, spec_l01In_eq, Option.bind_some]
      by_cases c2 : inR (c.getD i 0) 1 (ws.length : Int) = true
      · have hn := inR_iff.mp c2
        obtain ⟨e1, z1⟩ := digits_eq (i : Int) (by omega) k (by omega)
        have z2 := line_size ws hx (c.getD i 0)
        have hj : c.getD i 0 - 1 = (((c.getD i 0).toNat - 1 : Nat) : Int) := by omega
        have s1 : (dg (i : Int) ++ (⟨#[32]⟩ : ByteArray)).size = (dg (i : Int)).size + 1 := by rw [ByteArray.size_append]; rfl
        rw [if_pos c2, if_pos c2, e1, Option.bind_some, if_pos (by omega), w64 (n := c.getD i 0 - 1) (by omega), if_pos (by omega), if_pos (by omega), hj, rdW_nat, s1, if_pos (by omega), operand_eq ws hd _ hn hl, Option.bind_some, w64 (n := (i : Int) + 1) (by omega)]
        by_cases c3 : opn ws (c.getD i 0) = true
        · rw [if_pos c3, if_pos c3]
          by_cases c4 : i + 1 = c.length
          · rw [if_pos (by omega), if_pos c4]
          · have hb2 := hcb (i + 1)
            obtain ⟨e2, z3⟩ := digits_eq (c.getD (i + 1) 0) hb2 k (by omega)
            have s2 : ((⟨#[32]⟩ : ByteArray) ++ dg (c.getD (i + 1) 0)).size = 1 + (dg (c.getD (i + 1) 0)).size := by rw [ByteArray.size_append]; rfl
            have s3 : ((dg (i : Int) ++ (⟨#[32]⟩ : ByteArray)) ++ (ws.getD ((c.getD i 0).toNat - 1) z39).f0).size = (dg (i : Int)).size + 1 + (ws.getD ((c.getD i 0).toNat - 1) z39).f0.size := by rw [ByteArray.size_append, s1]
            rw [if_neg (by omega), if_neg c4, if_pos (by omega), if_pos (by omega), show (i : Int) + 1 = ((i + 1 : Nat) : Int) by omega, rd_nat, e2, Option.bind_some, if_pos (by omega), s3, s2, if_pos (by omega), if_pos (by omega), Option.bind_some, word_exit k (by omega), Option.bind_some]
            by_cases c5 : c.getD i 0 = 53
            · rw [if_pos c5, if_pos c5]
              rfl
            · have ih := spec_cl ws c hd hl hx hc hcb d k (i + 2) (out ++ [((dg (i : Int) ++ sp) ++ (ws.getD ((c.getD i 0).toNat - 1) z39).f0) ++ (sp ++ dg (c.getD (i + 1) 0))]) (by omega) (by omega) (by omega) (by simp; omega)
              rw [if_neg c5, if_neg c5, w64 (by omega), show ((i + 1 : Nat) : Int) + 1 = ((i + 2 : Nat) : Int) by omega]
              exact ih
        · rw [if_neg c3, if_neg c3, if_pos (by omega), Option.bind_some, word_exit k (by omega), Option.bind_some]
          by_cases c5 : c.getD i 0 = 53
          · rw [if_pos c5, if_pos c5]
            rfl
          · have ih := spec_cl ws c hd hl hx hc hcb d k (i + 1) (out ++ [(dg (i : Int) ++ sp) ++ (ws.getD ((c.getD i 0).toNat - 1) z39).f0]) (by omega) (by omega) (by omega) (by simp; omega)
            rw [if_neg c5, if_neg c5, show (i : Int) + 1 = ((i + 1 : Nat) : Int) by omega]
            exact ih
      · rw [if_neg c2, if_neg c2]
    · rw [if_neg (by omega), if_neg c1]
theorem impl_cl (ws : List S39) (c : List Int) (hl : ws.length ≤ 1048576) (hx : ∀ x ∈ ws, x.f0.size ≤ 1048576) (hc : c.length ≤ 4096) (hcb : ∀ i : Nat, -9223372036854775808 ≤ c.getD i 0 ∧ c.getD i 0 ≤ 9223372036854775807) : ∀ d k (i : Nat) (out : List ByteArray), c.length < i + d → i ≤ c.length + 1 → 2 * d + 10 ≤ k → out.length + d ≤ 10000 →
    impl_codeLines.l0 k ws c (i : Int) out = some (clines ws c d i out)
  | 0, k, i, out, h, hi, hk, ho => by
    obtain ⟨k, rfl⟩ : ∃ q, k = q + 1 := ⟨k - 1, by omega⟩
    simp only [impl_codeLines.l0]
    rw [if_neg (by omega)]
    rfl
  | d + 1, k, i, out, h, hi, hk, ho => by
    obtain ⟨k, rfl⟩ : ∃ q, k = q + 1 + 1 := ⟨k - 2, by omega⟩
    simp only [impl_codeLines.l0]
    unfold clines
    by_cases c1 : i < c.length
    · have hb := hcb i
      rw [if_pos (by omega), if_pos (by omega), rd_nat, if_pos c1, impl_in_eq, Option.bind_some]
      by_cases c2 : inR (c.getD i 0) 1 (ws.length : Int) = true
      · have hn := inR_iff.mp c2
        have e1 := itoa_eq (i : Int) (by omega)
        obtain ⟨_, z1⟩ := digits_eq (i : Int) (by omega) 100 (by omega)
        have z2 := line_size ws hx (c.getD i 0)
        have hj : c.getD i 0 - 1 = (((c.getD i 0).toNat - 1 : Nat) : Int) := by omega
        have s1 : (dg (i : Int) ++ (⟨#[32]⟩ : ByteArray)).size = (dg (i : Int)).size + 1 := by rw [ByteArray.size_append]; rfl
        have ej : (if (ws.getD ((c.getD i 0).toNat - 1) z39).f1 = 3 then impl_codeLines.j1 (k + 1) ws c ((i : Int) + 1) out (c.getD i 0) ((dg (i : Int) ++ (⟨#[32]⟩ : ByteArray)) ++ (ws.getD ((c.getD i 0).toNat - 1) z39).f0) (c.getD i 0 != 60) else impl_codeLines.j1 (k + 1) ws c ((i : Int) + 1) out (c.getD i 0) ((dg (i : Int) ++ (⟨#[32]⟩ : ByteArray)) ++ (ws.getD ((c.getD i 0).toNat - 1) z39).f0) false) = impl_codeLines.j1 (k + 1) ws c ((i : Int) + 1) out (c.getD i 0) ((dg (i : Int) ++ (⟨#[32]⟩ : ByteArray)) ++ (ws.getD ((c.getD i 0).toNat - 1) z39).f0) (opn ws (c.getD i 0)) := by
          unfold opn
          by_cases h3 : (ws.getD ((c.getD i 0).toNat - 1) z39).f1 = 3
          · rw [if_pos h3, h3]
            rfl
          · rw [if_neg h3, beq_eq_false_iff_ne.mpr h3]
            rfl
        rw [if_pos c2, if_pos c2, e1, Option.bind_some, if_pos (by omega), w64 (n := c.getD i 0 - 1) (by omega), if_pos (by omega), if_pos (by omega), hj, rdW_nat, s1, if_pos (by omega), w64 (n := (i : Int) + 1) (by omega), ej]
        simp only [impl_codeLines.j1]
        by_cases c3 : opn ws (c.getD i 0) = true
        · rw [if_pos c3, if_pos c3]
          by_cases c4 : i + 1 = c.length
          · rw [if_pos (by omega), if_pos c4]
          · have hb2 := hcb (i + 1)
            have e2 := itoa_eq (c.getD (i + 1) 0) hb2
            obtain ⟨_, z3⟩ := digits_eq (c.getD (i + 1) 0) hb2 100 (by omega)
            have s2 : ((⟨#[32]⟩ : ByteArray) ++ dg (c.getD (i + 1) 0)).size = 1 + (dg (c.getD (i + 1) 0)).size := by rw [ByteArray.size_append]; rfl
            have s3 : ((dg (i : Int) ++ (⟨#[32]⟩ : ByteArray)) ++ (ws.getD ((c.getD i 0).toNat - 1) z39).f0).size = (dg (i : Int)).size + 1 + (ws.getD ((c.getD i 0).toNat - 1) z39).f0.size := by rw [ByteArray.size_append, s1]
            rw [if_neg (by omega), if_neg c4, if_pos (by omega), if_pos (by omega), show (i : Int) + 1 = ((i + 1 : Nat) : Int) by omega, rd_nat, e2, Option.bind_some, if_pos (by omega), s3, s2, if_pos (by omega), if_pos (by omega), Option.bind_some]
            by_cases c5 : c.getD i 0 = 53
            · rw [if_pos c5, if_pos c5]
              rfl
            · have ih := impl_cl ws c hl hx hc hcb d k (i + 2) (out ++ [((dg (i : Int) ++ sp) ++ (ws.getD ((c.getD i 0).toNat - 1) z39).f0) ++ (sp ++ dg (c.getD (i + 1) 0))]) (by omega) (by omega) (by omega) (by simp; omega)
              rw [if_neg c5, if_neg c5, w64 (by omega), show ((i + 1 : Nat) : Int) + 1 = ((i + 2 : Nat) : Int) by omega]
              exact ih
        · rw [if_neg c3, if_neg c3, if_pos (by omega), Option.bind_some]
          by_cases c5 : c.getD i 0 = 53
          · rw [if_pos c5, if_pos c5]
            rfl
          · have ih := impl_cl ws c hl hx hc hcb d k (i + 1) (out ++ [(dg (i : Int) ++ sp) ++ (ws.getD ((c.getD i 0).toNat - 1) z39).f0]) (by omega) (by omega) (by omega) (by simp; omega)
            rw [if_neg c5, if_neg c5, show (i : Int) + 1 = ((i + 1 : Nat) : Int) by omega]
            exact ih
      · rw [if_neg c2, if_neg c2]
    · rw [if_neg (by omega), if_neg c1]
def codeR (ws : List S39) (c : List Int) (a : Int) : List ByteArray × Int :=
  if ws.length > 4096 then ([], 2) else if c.length > 4096 then ([], 2) else if dictOK ws = true then (if inR a 0 (c.length : Int) = true then clines ws c (c.length + 2) a.toNat [] else ([], 4)) else ([], 1)
theorem spec_CodeLines_eq (ws : List S39) (c : List Int) (a : Int) (hl : ws.length ≤ 1048576) (hx : ∀ x ∈ ws, x.f0.size ≤ 1048576) (hcb : ∀ i : Nat, -9223372036854775808 ≤ c.getD i 0 ∧ c.getD i 0 ≤ 9223372036854775807) (k : Nat) (hk : 2000000 ≤ k) : spec_CodeLines.f k ws c a = some (codeR ws c a) := by
  obtain ⟨k, rfl⟩ : ∃ m, k = m + 1 := ⟨k - 1, by omega⟩
  unfold spec_CodeLines.f codeR
  by_cases h0 : ws.length > 4096
  · rw [if_pos (by omega), if_pos h0]
    simp [spec_CodeLines.j0]
  · rw [if_neg (by omega), if_neg h0]
    by_cases h1 : c.length > 4096
    · rw [if_pos h1, decide_eq_true (show (c.length : Int) > 4096 by omega)]
      simp [spec_CodeLines.j0]
    · rw [if_neg h1, decide_eq_false (show ¬ (c.length : Int) > 4096 by omega)]
      simp only [spec_CodeLines.j0]
      rw [if_neg (by decide), spec_l04OK_eq ws hl hx k (by omega), Option.bind_some]
      cases h2 : dictOK ws
      · rfl
      · rw [if_pos rfl, if_pos rfl, spec_l01In_eq, Option.bind_some]
        by_cases h3 : inR a 0 (c.length : Int) = true
        · have h4 := inR_iff.mp h3
          have := spec_cl ws c h2 hl hx (by omega) hcb (c.length + 2) k a.toNat [] (by omega) (by omega) (by omega) (by simp; omega)
          rw [show ((a.toNat : Nat) : Int) = a by omega] at this
          rw [if_pos h3, if_pos h3, this]
        · rw [if_neg h3, if_neg h3]
theorem impl_CodeLines_eq (ws : List S39) (c : List Int) (a : Int) (hl : ws.length ≤ 1048576) (hx : ∀ x ∈ ws, x.f0.size ≤ 1048576) (hcb : ∀ i : Nat, -9223372036854775808 ≤ c.getD i 0 ∧ c.getD i 0 ≤ 9223372036854775807) (k : Nat) (hk : 2000000 ≤ k) : impl_CodeLines.f k ws c a = some (codeR ws c a) := by
  obtain ⟨k, rfl⟩ : ∃ m, k = m + 1 := ⟨k - 1, by omega⟩
  unfold impl_CodeLines.f codeR
  rw [isLong_word ws _ (by omega), Option.bind_some]
  by_cases h0 : ws.length > 4096
  · rw [if_pos (by simp; omega), if_pos h0]
    simp [impl_CodeLines.j0]
  · rw [if_neg (by simp; omega), if_neg h0, isLong_int c _ (by omega), Option.bind_some]
    by_cases h1 : c.length > 4096
    · rw [if_pos h1, decide_eq_true (show (c.length : Int) > 4096 by omega)]
      simp [impl_CodeLines.j0]
    · rw [if_neg h1, decide_eq_false (show ¬ (c.length : Int) > 4096 by omega)]
      simp only [impl_CodeLines.j0]
      rw [if_neg (by decide), impl_DictOK_eq ws hl hx k (by omega), Option.bind_some]
      cases h2 : dictOK ws
      · rfl
      · rw [if_pos rfl, if_pos rfl, impl_in_eq, Option.bind_some]
        by_cases h3 : inR a 0 (c.length : Int) = true
        · have h4 := inR_iff.mp h3
          have := impl_cl ws c hl hx (by omega) hcb (c.length + 2) k a.toNat [] (by omega) (by omega) (by omega) (by simp; omega)
          rw [show ((a.toNat : Nat) : Int) = a by omega] at this
          rw [if_pos h3, if_pos h3, impl_codeLines.f, this]
          rfl
        · rw [if_neg h3, if_neg h3]
theorem codeR_len (ws : List S39) (c : List Int) (a : Int) : (codeR ws c a).1.length ≤ 5000 := by
  unfold codeR
  split
  · simp
  · split
    · simp
    · split
      · split
        · have := clines_len ws c (c.length + 2) a.toNat []
          simp only [List.length_nil] at this
          omega
        · simp
      · simp
theorem FnExactCodeLines : laws_FnExactCodeLines.Pure := by
  intro l c a hl hcw ha
  refine ⟨2100000, ?_⟩
  unfold laws_FnExactCodeLines.f
  by_cases c0 : (c.length : Int) > 1048576
  · rw [if_pos c0]
  · rw [if_neg c0]
    obtain ⟨t, ht, _, htb⟩ := laws_szWordS_eq l hl.1 (fun x hx => (hl.2 x hx).1) 1048576 (by omega) (by omega) 2100000 (by omega)
    rw [ht, Option.bind_some]
    by_cases h1 : t < 0
    · rw [if_pos h1]
    · obtain ⟨b1, b3⟩ := htb h1
      have b2 : (l.map toW).length ≤ 1048576 := by simpa using b1
      have b4 := toW_sizes l b3
      have hcb : ∀ i : Nat, -9223372036854775808 ≤ c.getD i 0 ∧ c.getD i 0 ≤ 9223372036854775807 := by
        intro i
        rw [List.getD_eq_getElem?_getD]
        cases h : c[i]? with
        | none => simp
        | some x => exact bd64 (hcw.2 x (List.mem_of_getElem? h))
      rw [if_neg h1, laws_toWordS_eq l b1 _ (by omega), laws_toIntS_eq c (by omega) _ (by omega)]
      simp only [Option.bind_some]
      generalize l.map toW = m at b2 b4
      rw [spec_CodeLines_eq m c a b2 b4 hcb _ (by omega), impl_CodeLines_eq m c a b2 b4 hcb _ (by omega)]
      have hq := codeR_len m c a
      generalize codeR m c a = q at hq
      obtain ⟨q1, q2⟩ := q
      simp only at hq
      simp only [Option.bind_some]
      rw [laws_eqStringS_refl q1 (by omega) _ (by omega), laws_eqWordS_refl m b2 _ (by omega), laws_eqIntS_eq c c (by omega) _ (by omega), laws_markWordS_eq m b2 1 (by omega) (by omega) _ (by omega)]
      simp only [Option.bind_some, if_true, decide_true]
      rw [laws_markIntS_eq c (by omega) _ (by omega) (by omega) _ (by omega)]
      simp only [Option.bind_some, if_true]
      rw [if_neg (by omega), laws_markStringS_eq q1 (by omega) 1 (by omega) (by omega) _ (by omega)]
      simp only [Option.bind_some, if_true]
      rw [laws_heldStringS_eq q1.length (by omega) 1 (by omega) (by omega) _ (by omega)]
      simp only [Option.bind_some, if_true]
      rw [if_neg (by omega), if_neg (by omega)]
end Go.Proofs.YtbbfahkmjfmmjaaDoor.Pure
