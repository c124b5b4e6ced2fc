/- The law FnExactFindWord answers true for all words and names: both find the same word. No condition. -/
import Derived.Test.YtbbfahkmjfmmjaaDoorPFnExactFindWordx8
namespace Go.Proofs.YtbbfahkmjfmmjaaDoor.Pure
open Go.RowKit Go.Proofs.YtbbfahkmjfmmjaaDoor.PFnExactFindWord Go.Proofs.YtbbfahkmjfmmjaaDoorW.PrintWords Go.Proofs.YtbbfahkmjfmmjaaDoorW.PrintLast
set_option linter.unusedSimpArgs false
set_option linter.unusedVariables false

theorem bd64 {n : Int} (h : (Lit.int .i64 n).wf = true) : -9223372036854775808 ≤ n ∧ n ≤ 9223372036854775807 := by
  simp [Lit.wf, IntKind.min, IntKind.max, IntKind.signed, IntKind.bits] at h
  omega
/-- n lies from lo to hi. -/
def inR (n lo hi : Int) : Bool := decide (lo ≤ n ∧ n ≤ hi)
/-- A cell: 32 bits with a sign. -/
def isCell (n : Int) : Bool := decide (-2147483648 ≤ n ∧ n ≤ 2147483647)
theorem isCell_iff {n : Int} : isCell n = true ↔ (-2147483648 ≤ n ∧ n ≤ 2147483647) := by simp [isCell]
theorem inR_iff {n lo hi : Int} : inR n lo hi = true ↔ (lo ≤ n ∧ n ≤ hi) := by simp [inR]
theorem w64 {n : Int} (h : -9223372036854775808 ≤ n ∧ n ≤ 9223372036854775807) : wrap64 n = n := by unfold wrap64; omega
theorem w64_cell (n : Int) : wrap64 (wrap32 n) = wrap32 n := by unfold wrap64 wrap32; omega
theorem w32_cell {n : Int} (h : isCell n = true) : wrap32 n = n := by rw [isCell_iff] at h; unfold wrap32; omega
theorem cell_w32 (n : Int) : isCell (wrap32 n) = true := by rw [isCell_iff]; unfold wrap32; omega
theorem w32_eq (n : Int) : (wrap32 n == n) = isCell n := by
  rw [Bool.eq_iff_iff, isCell_iff]
  simp only [beq_iff_eq]
  unfold wrap32
  omega
/-- All of d numbers from i on. -/
def allF (P : Nat → Bool) : Nat → Nat → Bool
  | 0, _ => true
  | d + 1, i => P i && allF P d (i + 1)
theorem allF_congr {P Q : Nat → Bool} : ∀ d i, (∀ j, i ≤ j → j < i + d → P j = Q j) → allF P d i = allF Q d i
  | 0, _, _ => rfl
  | d + 1, i, h => by
    simp only [allF]
    rw [h i (Nat.le_refl _) (by omega), allF_congr d (i + 1) (fun j h1 h2 => h j (by omega) (by omega))]
theorem allF_true {P : Nat → Bool} : ∀ d i, (∀ j, i ≤ j → j < i + d → P j = true) → allF P d i = true
  | 0, _, _ => rfl
  | d + 1, i, h => by
    simp only [allF]
    rw [h i (Nat.le_refl _) (by omega), allF_true d (i + 1) (fun j h1 h2 => h j (by omega) (by omega))]
    rfl
theorem allF_all {α : Type} (p : α → Bool) (z : α) (l : List α) : ∀ d i, i + d = l.length → allF (fun j => p (l.getD j z)) d i = (l.drop i).all p
  | 0, i, h => by simp [allF, List.drop_of_length_le (show l.length ≤ i by omega)]
  | d + 1, i, h => by
    simp only [allF]
    rw [allF_all p z l d (i + 1) (by omega), List.drop_eq_getElem_cons (by omega : i < l.length), List.all_cons]
    simp [List.getD_eq_getElem?_getD, List.getElem?_eq_getElem (by omega : i < l.length)]
/-- A loop that leaves with false at the first number of which P does not hold. -/
theorem loop_all (F : Nat → Int → Option Bool) (n : Nat) (P : Nat → Bool) (fin : Bool)
    (hs : ∀ k (i : Nat), i < n → F (k + 1) i = if P i = true then F k ((i : Int) + 1) else some false) (he : ∀ k, F (k + 1) (n : Int) = some fin) :
    ∀ d k (i : Nat), i + d = n → d < k → F k i = some (allF P d i && fin)
  | 0, k, i, h, hk => by
    obtain ⟨k, rfl⟩ : ∃ m, k = m + 1 := ⟨k - 1, by omega⟩
    obtain rfl : i = n := by omega
    rw [he]
    simp [allF]
  | d + 1, k, i, h, hk => by
    obtain ⟨k, rfl⟩ : ∃ m, k = m + 1 := ⟨k - 1, by omega⟩
    rw [hs k i (by omega)]
    have ih := loop_all F n P fin hs he d k (i + 1) (by omega) (by omega)
    rw [show ((i + 1 : Nat) : Int) = (i : Int) + 1 by omega] at ih
    rw [ih]
    cases hp : P i <;> simp [allF, hp]
theorem loop_all0 (F : Nat → Int → Option Bool) (n : Nat) (P : Nat → Bool) (fin : Bool)
    (hs : ∀ k (i : Nat), i < n → F (k + 1) i = if P i = true then F k ((i : Int) + 1) else some false) (he : ∀ k, F (k + 1) (n : Int) = some fin) (k : Nat) (hk : n < k) : F k 0 = some (allF P n 0 && fin) :=
  loop_all F n P fin hs he n k 0 (by omega) hk
theorem spec_l01In_eq (a b c : Int) : spec_l01In.f a b c = some (inR a b c) := by
  unfold spec_l01In.f
  by_cases h1 : a ≥ b
  · have h2 : b ≤ a := h1
    by_cases h3 : a ≤ c <;> simp [h1, inR, h2, h3]
  · have h2 : ¬ b ≤ a := h1
    simp [inR, h2]
theorem impl_in_eq (a b c : Int) : impl_in.f a b c = some (inR a b c) := by
  unfold impl_in.f
  by_cases h1 : b ≤ a
  · by_cases h3 : a ≤ c <;> simp [inR, h1, h3]
  · simp [inR, h1]
theorem spec_l01Cell_eq (a : Int) : spec_l01Cell.f a = some (isCell a) := by
  unfold spec_l01Cell.f
  rw [spec_l01In_eq]
  rfl
theorem impl_WrapCell_eq (a : Int) : impl_WrapCell.f a = some (wrap32 a) := by
  unfold impl_WrapCell.f
  rw [w64_cell]
theorem impl_CellOK_eq (a : Int) : impl_CellOK.f a = some (isCell a) := by
  unfold impl_CellOK.f
  rw [impl_WrapCell_eq, Option.bind_some, w32_eq]
theorem set_take_map {α β : Type} (g : α → β) (z : β) (za : α) (l : List α) (i : Nat) (hi : i < l.length) : ((l.take i).map g ++ List.replicate (l.length - i) z).set i (g (l.getD i za)) = (l.take (i + 1)).map g ++ List.replicate (l.length - (i + 1)) z := by
  have hr : List.replicate (l.length - i) z = z :: List.replicate (l.length - (i + 1)) z := by
    rw [show l.length - i = (l.length - (i + 1)) + 1 by omega, List.replicate_succ]
  have hg : l.getD i za = l[i] := by simp [List.getD_eq_getElem?_getD, List.getElem?_eq_getElem hi]
  rw [hr, List.set_append, if_neg (by rw [List.length_map, List.length_take]; omega), hg, List.length_map, List.length_take, Nat.min_eq_left (Nat.le_of_lt hi), Nat.sub_self, List.set_cons_zero, List.take_succ_eq_append_getElem hi, List.map_append, List.append_assoc]
  rfl
/-- A loop that copies a list, number by number. -/
theorem loop_copy {α β : Type} (F : Nat → List β → Int → Option (List β)) (l : List α) (g : α → β) (z : β) (za : α)
    (hs : ∀ k (x : List β) (i : Nat), i < l.length → x.length = l.length → F (k + 1) x i = F k (x.set i (g (l.getD i za))) ((i : Int) + 1))
    (he : ∀ k x, F (k + 1) x (l.length : Int) = some x) (k : Nat) (hk : l.length < k) : F k (List.replicate l.length z) 0 = some (l.map g) := by
  have key : ∀ d k (i : Nat), i + d = l.length → d < k → F k ((l.take i).map g ++ List.replicate (l.length - i) z) (i : Int) = some (l.map g) := by
    intro d
    induction d with
    | zero =>
      intro k i h hk
      obtain ⟨k, rfl⟩ : ∃ m, k = m + 1 := ⟨k - 1, by omega⟩
      obtain rfl : i = l.length := by omega
      rw [he, List.take_length, Nat.sub_self]
      simp
    | succ d ih =>
      intro k i h hk
      obtain ⟨k, rfl⟩ : ∃ m, k = m + 1 := ⟨k - 1, by omega⟩
      rw [hs k _ i (by omega) (by simp; omega), set_take_map g z za l i (by omega), show (i : Int) + 1 = ((i + 1 : Nat) : Int) by omega]
      exact ih k (i + 1) (by omega) (by omega)
  have h := key l.length k 0 (by omega) hk
  simpa using h
theorem rdV_nat (l : List S35) (i : Nat) : rd_T35 l (i : Int) = l.getD i z35 := by simp [rd_T35]
/-- The word of a word as the law holds it. -/
def toW (x : S35) : S39 := ⟨x.f0, x.f1, x.f2⟩
theorem laws_szWord_eq (x : S35) (a : Int) (h0 : 0 ≤ a) (h1 : a ≤ 1048576) (hx : x.f0.size ≤ 9223372036854775807) : laws_szWord.f x.f0 x.f1 x.f2 a = some (if a - (x.f0.size : Int) < 0 then -1 else a - (x.f0.size : Int)) := by
  unfold laws_szWord.f
  rw [w64 (by omega)]
  split <;> rfl
theorem szWord_loop (l : List S35) (hx : ∀ x ∈ l, x.f0.size ≤ 9223372036854775807) (hl : l.length ≤ 1048576) : ∀ d k (i : Nat) (a : Int), i + d = l.length → d < k → 0 ≤ a → a ≤ 1048576 →
    ∃ t, laws_szWordS.l0 k l a (i : Int) = some t ∧ t ≤ a ∧ (¬ t < 0 → ∀ j, i ≤ j → j < l.length → (l.getD j z35).f0.size ≤ 1048576)
  | 0, k, i, a, h, hk, h0, h1 => by
    obtain ⟨k, rfl⟩ : ∃ m, k = m + 1 := ⟨k - 1, by omega⟩
    simp only [laws_szWordS.l0]
    rw [if_neg (by omega)]
    exact ⟨a, rfl, Int.le_refl _, fun _ j h1 h2 => by omega⟩
  | d + 1, k, i, a, h, hk, h0, h1 => by
    obtain ⟨k, rfl⟩ : ∃ m, k = m + 1 := ⟨k - 1, by omega⟩
    simp only [laws_szWordS.l0]
    have hm : l.getD i z35 ∈ l := by
      rw [List.getD_eq_getElem?_getD, List.getElem?_eq_getElem (by omega : i < l.length)]
      exact List.getElem_mem _
    rw [if_pos (by omega), if_pos (by omega), rdV_nat, laws_szWord_eq _ a h0 h1 (hx _ hm), Option.bind_some]
    by_cases h3 : a - ((l.getD i z35).f0.size : Int) < 0
    · rw [if_pos h3, if_pos (by omega)]
      exact ⟨-1, rfl, by omega, fun e => absurd (by omega) e⟩
    · rw [if_neg h3, if_neg h3, w64 (n := (i : Int) + 1) (by omega), show (i : Int) + 1 = ((i + 1 : Nat) : Int) by omega]
      obtain ⟨t, e1, e2, e3⟩ := szWord_loop l hx hl d k (i + 1) (a - ((l.getD i z35).f0.size : Int)) (by omega) (by omega) (by omega) (by omega)
      refine ⟨t, e1, by omega, fun hn j hj1 hj2 => ?_⟩
      rcases Nat.eq_or_lt_of_le hj1 with rfl | h4
      · omega
      · exact e3 hn j h4 hj2
theorem laws_szWordS_eq (l : List S35) (hl : l.length ≤ 9223372036854775807) (hx : ∀ x ∈ l, x.f0.size ≤ 9223372036854775807) (a : Int) (h0 : 0 ≤ a) (h1 : a ≤ 1048576) (k : Nat) (hk : 1048576 < k) :
    ∃ t, laws_szWordS.f k l a = some t ∧ t ≤ a ∧ (¬ t < 0 → l.length ≤ 1048576 ∧ ∀ j, j < l.length → (l.getD j z35).f0.size ≤ 1048576) := by
  unfold laws_szWordS.f
  rw [w64 (by omega)]
  by_cases h3 : a - (l.length : Int) < 0
  · rw [if_pos h3]
    exact ⟨-1, rfl, by omega, fun e => absurd (by omega) e⟩
  · rw [if_neg h3]
    obtain ⟨t, e1, e2, e3⟩ := szWord_loop l hx (by omega) l.length k 0 (a - (l.length : Int)) (by omega) (by omega) (by omega) (by omega)
    exact ⟨t, e1, by omega, fun hn => ⟨by omega, fun j hj => e3 hn j (Nat.zero_le _) hj⟩⟩
theorem laws_toWordS_eq (l : List S35) (hl : l.length ≤ 1048576) (k : Nat) (hk : l.length < k) : laws_toWordS.f k l = some (l.map toW) := by
  unfold laws_toWordS.f
  rw [if_pos (by omega), if_pos (by simp; omega)]
  have h := loop_copy (fun k x i => laws_toWordS.l0 k l x i) l toW z39 z35 (fun k x i hi hx => by
    simp only [laws_toWordS.l0, laws_toWord.f, Option.bind_some]
    rw [if_pos (by omega), if_pos (by omega), if_pos (by omega), rdV_nat, Int.toNat_natCast, w64 (by omega)]
    rfl) (fun k x => by
    simp only [laws_toWordS.l0]
    rw [if_neg (by omega)]) k hk
  simpa using h
theorem toW_sizes (l : List S35) (h : ∀ j, j < l.length → (l.getD j z35).f0.size ≤ 1048576) : ∀ x ∈ l.map toW, x.f0.size ≤ 1048576 := by
  intro x hx
  obtain ⟨y, hy, rfl⟩ := List.mem_map.mp hx
  obtain ⟨j, hj, rfl⟩ := List.mem_iff_getElem.mp hy
  have := h j hj
  rw [List.getD_eq_getElem?_getD, List.getElem?_eq_getElem hj] at this
  exact this
theorem rdW_nat (l : List S39) (i : Nat) : rd_T39 l (i : Int) = l.getD i z39 := by simp [rd_T39]
theorem eq_toList {a b : ByteArray} : a.toList = b.toList ↔ a = b := ⟨fun h => by
  rw [ByteArray.toList_eq, ByteArray.toList_eq] at h
  exact ByteArray.ext (Array.toList_inj.mp h), fun h => by rw [h]⟩
theorem laws_eqWord_refl (a : S39) : laws_eqWord.f a.f0 a.f1 a.f2 a.f0 a.f1 a.f2 = some true := by
  unfold laws_eqWord.f
  simp
theorem laws_eqWordS_refl (a : List S39) (ha : a.length ≤ 1048576) (k : Nat) (hk : a.length < k) : laws_eqWordS.f k a a = some true := by
  unfold laws_eqWordS.f
  rw [if_pos rfl]
  have hl := loop_all0 (fun k i => laws_eqWordS.l0 k a a i) a.length (fun _ => true) true (fun k i hi => by
    simp only [laws_eqWordS.l0]
    rw [if_pos (by omega), if_pos (by omega), if_pos (by omega), w64 (by omega), laws_eqWord_refl]
    simp) (fun k => by
    simp only [laws_eqWordS.l0]
    rw [if_neg (by omega)]) k hk
  rw [hl, allF_true _ _ (fun _ _ _ => rfl)]
  rfl

/-- The words of the kernel. -/
def kernel : List S39 := (spec_l04Kernel.f 300).getD []
theorem kernel_len : kernel.length = 83 := by kernel_rfl
theorem spec_l04Kernel_eq (k : Nat) (hk : 300 ≤ k) : spec_l04Kernel.f k = some kernel := by
  have h : spec_l04Kernel.f 300 = some kernel := by kernel_rfl
  exact at_rounds (fun k => spec_l04Kernel.mono k) hk h
theorem impl_KernelWords_eq (k : Nat) (hk : 300 ≤ k) : impl_KernelWords.f k = some kernel := by
  have h : impl_KernelWords.f 300 = some kernel := by kernel_rfl
  exact at_rounds (fun k => impl_KernelWords.mono k) hk h
/-- Words that are equal. -/
def sameW (a b : S39) : Bool := (a.f0.toList == b.f0.toList) && ((a.f1 == b.f1) && (a.f2 == b.f2))
theorem sameW_neg (a b : S39) : ((!((a.f0.toList) == (b.f0.toList))) || ((!((a.f1) == (b.f1))) || (!((a.f2) == (b.f2))))) = !sameW a b := by
  unfold sameW
  cases (a.f0.toList == b.f0.toList) <;> cases (a.f1 == b.f1) <;> cases (a.f2 == b.f2) <;> rfl
/-- The kernel stands at the head. -/
def headK (l : List S39) : Bool := decide (83 ≤ l.length) && allF (fun j => sameW (l.getD j z39) (kernel.getD j z39)) 83 0
theorem spec_l04Same_eq (l : List S39) (hl : l.length ≤ 1048576) (k : Nat) (hk : 400 < k) : spec_l04Same.f k l = some (headK l) := by
  have hk0 := spec_l04Kernel_eq k (by omega)
  unfold spec_l04Same.f headK
  rw [hk0, Option.bind_some, kernel_len]
  by_cases h1 : 83 ≤ l.length
  · rw [if_neg (by omega)]
    have h := loop_all0 (fun k i => spec_l04Same.l0 k l kernel i) 83 (fun j => sameW (l.getD j z39) (kernel.getD j z39)) true (fun k i hi => by
      simp only [spec_l04Same.l0]
      rw [if_pos (by rw [kernel_len]; omega), if_pos (by omega), if_pos (by omega), rdW_nat, rdW_nat, sameW_neg, w64 (by omega)]
      cases sameW (l.getD i z39) (kernel.getD i z39) <;> rfl) (fun k => by
      simp only [spec_l04Same.l0]
      rw [if_neg (by rw [kernel_len]; omega)]) k (by omega)
    rw [h, Bool.and_true]
    simp [h1]
  · rw [if_pos (by omega)]
    simp [h1]
theorem isLong_word (l : List S39) (k : Nat) (hk : 2 < k) : impl_isLong_Word.f k [l] = some (decide ((l.length : Int) > 4096)) := by
  obtain ⟨k, rfl⟩ : ∃ m, k = m + 2 := ⟨k - 2, by omega⟩
  simp only [impl_isLong_Word.f, slices_ContainsFunc_Word_at_impl_isLong_Word_1.f, slices_IndexFunc_Word_at_impl_isLong_Word_1.f, slices_IndexFunc_Word_at_impl_isLong_Word_1.l0, impl_isLong_Word_1.f]
  first | simp only [rd_L5] | simp only [rd_L6] | simp only [rd_L7] | simp only [rd_L4] | simp only [rd_L8]
  by_cases h : (l.length : Int) > 4096 <;> simp [h, wrap64]
theorem impl_KernelSame_eq (l : List S39) (hl : l.length ≤ 1048576) (k : Nat) (hk : 400 < k) : impl_KernelSame.f k l = some (decide (l.length ≤ 4096) && headK l) := by
  unfold impl_KernelSame.f headK
  by_cases h1 : 83 ≤ l.length
  · rw [if_pos (by omega), isLong_word l k (by omega), Option.bind_some]
    by_cases h2 : l.length ≤ 4096
    · have h3 : ¬ (l.length : Int) > 4096 := by omega
      rw [if_neg (by simp; omega), if_pos (by omega), impl_KernelWords_eq k (by omega), Option.bind_some]
      unfold slices_Equal_Word.f
      have ht : (l.take 83).length = 83 := by rw [List.length_take]; omega
      rw [if_pos (by rw [ht, kernel_len])]
      have h := loop_all0 (fun k i => slices_Equal_Word.l0 k (l.take 83) kernel ((l.take 83).length : Int) i) 83 (fun j => sameW (l.getD j z39) (kernel.getD j z39)) true (fun k i hi => by
        have e : (l.take 83).getD i z39 = l.getD i z39 := by simp [List.getD_eq_getElem?_getD, List.getElem?_take, hi]
        simp only [slices_Equal_Word.l0]
        rw [if_pos (by omega), if_pos (by omega), if_pos (by omega), if_pos (by rw [kernel_len]; omega), rdW_nat, rdW_nat, sameW_neg, w64 (by omega), e]
        cases sameW (l.getD i z39) (kernel.getD i z39) <;> rfl) (fun k => by
        simp only [slices_Equal_Word.l0]
        rw [if_neg (by omega)]) k (by omega)
      rw [h, Bool.and_true]
      simp [h1, h2]
    · rw [if_pos (by simp; omega)]
      simp [h2]
  · rw [if_neg (by omega)]
    simp [h1]
/-- The name of a word. -/
def wordOK (s : ByteArray) : Bool := inR (s.size : Int) 1 12 && allF (fun j => inR (bt s (j : Int)) 33 126) s.size 0
theorem spec_l02Word_eq (s : ByteArray) (hs : s.size ≤ 140737488351232) (k : Nat) (hk : s.size < k) : spec_l02Word.f k s = some (wordOK s) := by
  unfold spec_l02Word.f
  rw [spec_l01In_eq, Option.bind_some]
  by_cases h1 : inR (s.size : Int) 1 12 = true
  · rw [if_pos h1]
    have h := loop_all0 (fun k i => spec_l02Word.l0 k s i) s.size (fun j => inR (bt s (j : Int)) 33 126) true (fun k i hi => by
      have hb := bt_range s (i : Int)
      simp only [spec_l02Word.l0]
      rw [if_pos (by omega), if_pos (by omega), w64 (by omega), w64 (by omega), spec_l01In_eq, Option.bind_some]) (fun k => by
      simp only [spec_l02Word.l0]
      rw [if_neg (by omega)]) k hk
    rw [h, wordOK, h1]
    simp
  · rw [if_neg h1]
    simp only [Bool.not_eq_true] at h1
    simp [wordOK, h1]
theorem impl_WordOK_eq (s : ByteArray) (hs : s.size ≤ 140737488351232) (k : Nat) (hk : s.size < k) : impl_WordOK.f k s = some (wordOK s) := by
  unfold impl_WordOK.f
  have h := loop_all0 (fun k i => impl_WordOK.l0 k s (s.size : Int) i) s.size (fun j => inR (bt s (j : Int)) 33 126) (inR (s.size : Int) 1 12) (fun k i hi => by
    simp only [impl_WordOK.l0]
    rw [if_pos (by omega), if_pos (by omega), if_pos (by omega), w64 (by omega)]
    by_cases h1 : bt s (i : Int) < 33
    · have h3 : inR (bt s (i : Int)) 33 126 = false := by simp [inR]; omega
      rw [if_pos h1, h3]
      simp
    · by_cases h2 : bt s (i : Int) > 126
      · have h3 : inR (bt s (i : Int)) 33 126 = false := by simp [inR]; omega
        rw [if_neg h1, if_pos h2, h3]
        simp
      · have h3 : inR (bt s (i : Int)) 33 126 = true := by simp [inR]; omega
        rw [if_neg h1, if_neg h2, h3]
        simp) (fun k => by
    simp only [impl_WordOK.l0]
    rw [if_neg (by omega), impl_in_eq]
    rfl) k hk
  rw [h, wordOK, Bool.and_comm]
/-- A word of a script. -/
def userOK (x : S39) : Bool := wordOK x.f0 && (if x.f1 = 6 then inR x.f2 0 399 else if x.f1 = 7 then (inR x.f2 4096 4220 && (Int.tmod x.f2 4 == 0)) else if x.f1 = 8 then isCell x.f2 else false)
theorem spec_l04User_eq (x : S39) (hs : x.f0.size ≤ 1048576) (k : Nat) (hk : 1048576 < k) : spec_l04User.f k x.f0 x.f1 x.f2 = some (userOK x) := by
  unfold spec_l04User.f userOK
  rw [spec_l02Word_eq x.f0 (by omega) k (by omega), Option.bind_some]
  cases wordOK x.f0
  · rfl
  · rw [if_pos rfl, spec_l01In_eq, spec_l01In_eq, spec_l01Cell_eq]
    simp only [Option.bind_some, Bool.true_and]
    by_cases h6 : x.f1 = 6
    · rw [if_pos h6, if_pos h6]
    · rw [if_neg h6, if_neg h6]
      by_cases h7 : x.f1 = 7
      · rw [if_pos h7, if_pos h7]
        cases inR x.f2 4096 4220 <;> rfl
      · rw [if_neg h7, if_neg h7]
        by_cases h8 : x.f1 = 8
        · rw [if_pos h8, if_pos h8]
        · rw [if_neg h8, if_neg h8]
theorem inR_cells (n : Int) : (inR n 4096 4223 && (Int.tmod n 4 == 0)) = (inR n 4096 4220 && (Int.tmod n 4 == 0)) := by
  rw [Bool.eq_iff_iff, Bool.and_eq_true, Bool.and_eq_true, inR_iff, inR_iff, beq_iff_eq]
  constructor
  · rintro ⟨h1, h2⟩
    rw [Int.tmod_eq_emod_of_nonneg (by omega)] at h2
    refine ⟨by omega, ?_⟩
    rw [Int.tmod_eq_emod_of_nonneg (by omega)]
    exact h2
  · rintro ⟨h1, h2⟩
    exact ⟨by omega, h2⟩
theorem impl_isScript_eq (x : S39) (hs : x.f0.size ≤ 1048576) (k : Nat) (hk : 1048576 < k) : impl_Word_isScript.f k x.f0 x.f1 x.f2 = some (userOK x) := by
  unfold impl_Word_isScript.f userOK
  rw [impl_WordOK_eq x.f0 (by omega) k (by omega), impl_in_eq, impl_in_eq, impl_CellOK_eq]
  simp only [Option.bind_some]
  by_cases h6 : x.f1 = 6
  · rw [if_pos h6, if_pos h6]
    cases wordOK x.f0 <;> rfl
  · rw [if_neg h6, if_neg h6]
    by_cases h7 : x.f1 = 7
    · rw [if_pos h7, if_pos h7, ← inR_cells]
      cases wordOK x.f0
      · rfl
      · cases inR x.f2 4096 4223 <;> rfl
    · rw [if_neg h7, if_neg h7]
      by_cases h8 : x.f1 = 8
      · rw [if_pos h8, if_pos h8]
        cases wordOK x.f0 <;> rfl
      · rw [if_neg h8, if_neg h8]
        simp
/-- A valid dictionary. -/
def dictOK (l : List S39) : Bool := decide (l.length ≤ 103) && headK l && allF (fun j => userOK (l.getD j z39)) (l.length - 83) 83
theorem sz_getD (l : List S39) (hx : ∀ x ∈ l, x.f0.size ≤ 1048576) (i : Nat) (hi : i < l.length) : (l.getD i z39).f0.size ≤ 1048576 := by
  rw [List.getD_eq_getElem?_getD, List.getElem?_eq_getElem hi]
  exact hx _ (List.getElem_mem _)
theorem headK_len {l : List S39} (h : headK l = true) : 83 ≤ l.length := by
  unfold headK at h
  simp only [Bool.and_eq_true, decide_eq_true_eq] at h
  exact h.1
theorem spec_l04OK_eq (l : List S39) (hl : l.length ≤ 1048576) (hx : ∀ x ∈ l, x.f0.size ≤ 1048576) (k : Nat) (hk : 1048800 ≤ k) : spec_l04OK.f k l = some (dictOK l) := by
  unfold spec_l04OK.f dictOK
  obtain ⟨q, c, rfl, hc, hq⟩ : ∃ q c, k = q + c + 1 ∧ 1048576 < c ∧ 110 < q := ⟨k - 1048578, 1048577, by omega, by omega, by omega⟩
  by_cases h1 : l.length ≤ 103
  · rw [if_neg (by omega), spec_l04Same_eq l hl _ (by omega), Option.bind_some]
    simp only [spec_l04OK.j0]
    cases h2 : headK l
    · simp
    · have h3 := headK_len h2
      rw [if_neg (show ¬ (!true) = true by decide)]
      have h := loop_all (fun k i => spec_l04OK.l0 (k + c) l i) l.length (fun j => userOK (l.getD j z39)) true (fun k i hi => by
        simp only [show k + 1 + c = (k + c) + 1 by omega, spec_l04OK.l0]
        rw [if_pos (by omega), if_pos (by omega), rdW_nat, spec_l04User_eq _ (sz_getD l hx i hi) (k + c) (by omega), Option.bind_some, w64 (by omega)]) (fun k => by
        simp only [show k + 1 + c = (k + c) + 1 by omega, spec_l04OK.l0]
        rw [if_neg (by omega)]) (l.length - 83) q 83 (by omega) (by omega)
      rw [show (83 : Int) = ((83 : Nat) : Int) from rfl, h]
      simp [h1]
  · rw [if_pos (by omega)]
    simp only [spec_l04OK.j0]
    simp [h1]
theorem idx_user (l : List S39) (hl : l.length ≤ 1048576) (hx : ∀ x ∈ l, x.f0.size ≤ 1048576) (c : Nat) (hc : 1048576 < c) : ∀ d k (i : Nat), i + d = l.length → d < k →
    ∃ r, slices_IndexFunc_Word_at_impl_DictOK_1.l0 (k + c) l (l.length : Int) (i : Int) = some r ∧ (!decide (r ≥ 0)) = allF (fun j => userOK (l.getD j z39)) d i
  | 0, k, i, h, hk => by
    obtain ⟨k, rfl⟩ : ∃ m, k = m + 1 := ⟨k - 1, by omega⟩
    refine ⟨-1, ?_, by simp [allF]⟩
    simp only [show k + 1 + c = (k + c) + 1 by omega, slices_IndexFunc_Word_at_impl_DictOK_1.l0]
    rw [if_neg (by omega)]
  | d + 1, k, i, h, hk => by
    obtain ⟨k, rfl⟩ : ∃ m, k = m + 1 := ⟨k - 1, by omega⟩
    obtain ⟨r, hr, hq⟩ := idx_user l hl hx c hc d k (i + 1) (by omega) (by omega)
    simp only [show k + 1 + c = (k + c) + 1 by omega, slices_IndexFunc_Word_at_impl_DictOK_1.l0]
    rw [if_pos (by omega), if_pos (by omega), if_pos (by omega), rdW_nat, w64 (by omega), show (i : Int) + 1 = ((i + 1 : Nat) : Int) by omega, hr]
    unfold impl_DictOK_1.f
    rw [impl_isScript_eq _ (sz_getD l hx i (by omega)) (k + c) (by omega)]
    simp only [Option.bind_some, allF]
    cases hp : userOK (l.getD i z39)
    · refine ⟨(i : Int), by simp, ?_⟩
      simp
    · refine ⟨r, by simp, ?_⟩
      rw [hq]
      simp
theorem allF_drop (l : List S39) (n : Nat) : ∀ d i, allF (fun j => userOK ((l.drop n).getD j z39)) d i = allF (fun j => userOK (l.getD j z39)) d (i + n)
  | 0, _ => rfl
  | d + 1, i => by
    simp only [allF]
    rw [allF_drop l n d (i + 1), show i + 1 + n = i + n + 1 by omega]
    simp [List.getD_eq_getElem?_getD, List.getElem?_drop, Nat.add_comm]
theorem impl_DictOK_eq (l : List S39) (hl : l.length ≤ 1048576) (hx : ∀ x ∈ l, x.f0.size ≤ 1048576) (k : Nat) (hk : 1048800 ≤ k) : impl_DictOK.f k l = some (dictOK l) := by
  unfold impl_DictOK.f dictOK
  obtain ⟨q, c, rfl, hc, hq⟩ : ∃ q c, k = q + c ∧ 1048576 < c ∧ 110 < q := ⟨k - 1048577, 1048577, by omega, by omega, by omega⟩
  by_cases h1 : l.length ≤ 103
  · rw [if_pos (by omega), impl_KernelSame_eq l hl _ (by omega), Option.bind_some]
    have h5 : decide (l.length ≤ 4096) = true := decide_eq_true (by omega)
    rw [h5]
    cases h2 : headK l
    · simp
    · have h3 := headK_len h2
      have hd : (l.drop 83).length = l.length - 83 := by simp
      obtain ⟨r, hr, hqq⟩ := idx_user (l.drop 83) (by omega) (fun x hxx => hx x (List.mem_of_mem_drop hxx)) c hc (l.length - 83) q 0 (by omega) (by omega)
      rw [if_pos (by rfl), if_pos (by omega)]
      unfold slices_ContainsFunc_Word_at_impl_DictOK_1.f slices_IndexFunc_Word_at_impl_DictOK_1.f
      rw [show (0 : Int) = ((0 : Nat) : Int) from rfl, hr]
      simp only [Option.bind_some]
      rw [allF_drop, Nat.zero_add] at hqq
      have hqq' : (!decide (r ≥ ((0 : Nat) : Int))) = allF (fun j => userOK (l.getD j z39)) (l.length - 83) 83 := hqq
      rw [hqq']
      simp [h1]
  · rw [if_neg (by omega)]
    simp [h1]
theorem bt_nums (s : ByteArray) (i : Nat) (h : i < s.size) : bt s (i : Int) = (numsB s).getD i 0 := by
  have hl : s.size = s.data.toList.length := by simp
  have hj' : i < s.data.toList.length := by omega
  simp only [bt, Int.toNat_natCast]
  rw [dif_pos h]
  simp [numsB, List.getD_eq_getElem?_getD, List.getElem?_map, List.getElem?_eq_getElem hj']
  rfl
theorem up_snoc (s : ByteArray) (i : Nat) (h : i < s.size) : ((numsB s).take i).map up1 ++ [up1 ((numsB s).getD i 0)] = ((numsB s).take (i + 1)).map up1 := by
  have hl : i < (numsB s).length := by rw [numsB_length]; exact h
  rw [List.take_succ_eq_append_getElem hl, List.map_append]
  simp [List.getD_eq_getElem?_getD, List.getElem?_eq_getElem hl]
theorem spec_upper_l0 (s : ByteArray) (hs : s.size ≤ 140737488351232) : ∀ d k (i : Nat), i + d = s.size → d < k → spec_l02Upper.l0 k s (((numsB s).take i).map up1) (i : Int) = some (strOfNums ((numsB s).map up1))
  | 0, k, i, h, hk => by
    obtain ⟨k, rfl⟩ : ∃ m, k = m + 1 := ⟨k - 1, by omega⟩
    simp only [spec_l02Upper.l0]
    rw [if_neg (by omega), List.take_of_length_le (by rw [numsB_length]; omega)]
  | d + 1, k, i, h, hk => by
    obtain ⟨k, rfl⟩ : ∃ m, k = m + 1 := ⟨k - 1, by omega⟩
    have ih := spec_upper_l0 s hs d k (i + 1) (by omega) (by omega)
    have hl : (((numsB s).take i).map up1).length < 140737488355328 := by
      rw [List.length_map, List.length_take, numsB_length]
      omega
    simp only [spec_l02Upper.l0]
    rw [if_pos (by omega), if_pos (by omega), bt_nums s i (by omega), w64 (by omega), show (i : Int) + 1 = ((i + 1 : Nat) : Int) by omega, ← ih, ← up_snoc s i (by omega)]
    have hu : up1 ((numsB s).getD i 0) = if 97 ≤ (numsB s).getD i 0 then (if (numsB s).getD i 0 ≤ 122 then ((numsB s).getD i 0 - 32) % 256 else (numsB s).getD i 0) else (numsB s).getD i 0 := rfl
    rw [hu]
    clear hu
    simp only [if_pos hl]
    by_cases h1 : 97 ≤ (numsB s).getD i 0
    · by_cases h2 : (numsB s).getD i 0 ≤ 122
      · rw [if_pos h1, if_pos h2, if_pos h1, if_pos h2]
      · rw [if_pos h1, if_neg h2, if_pos h1, if_neg h2]
    · rw [if_neg h1, if_neg h1]
theorem spec_l02Upper_eq (s : ByteArray) (hs : s.size ≤ 140737488351232) (k : Nat) (hk : s.size < k) : spec_l02Upper.f k s = some (strOfNums ((numsB s).map up1)) := by
  have h := spec_upper_l0 s hs s.size k 0 (by omega) hk
  simpa [spec_l02Upper.f] using h
theorem up_eq (a b : ByteArray) (h : ((strOfNums ((numsB a).map up1)).toList == (strOfNums ((numsB b).map up1)).toList) = true) : (numsB a).map up1 = (numsB b).map up1 := by
  rw [beq_iff_eq, eq_toList] at h
  have h2 := congrArg (fun s : ByteArray => s.data.toList.map fun c => (c.toNat : Int)) h
  simp only [strOfNums_data, List.map_map] at h2
  have e : ∀ s : ByteArray, (numsB s).map ((fun c : UInt8 => (c.toNat : Int)) ∘ (fun n : Int => UInt8.ofNat n.toNat) ∘ up1) = (numsB s).map up1 := by
    intro s
    apply List.map_congr_left
    intro x hx
    obtain ⟨u, _, rfl⟩ := List.mem_map.1 hx
    have hu : u.toNat < 256 := u.toNat_lt
    have hr : 0 ≤ up1 (u.toNat : Int) ∧ up1 (u.toNat : Int) < 256 := by
      unfold up1
      split
      · split <;> omega
      · omega
    show ((UInt8.ofNat (up1 (u.toNat : Int)).toNat).toNat : Int) = up1 (u.toNat : Int)
    rw [UInt8.toNat_ofNat_of_lt' (show _ < 256 by omega)]
    omega
  have e' := fun s => e s
  simp only [Function.comp_def] at h2 e'
  rw [e', e'] at h2
  exact h2
theorem nums_range (s : ByteArray) (j : Nat) : 0 ≤ (numsB s).getD j 0 ∧ (numsB s).getD j 0 < 256 := by
  rw [List.getD_eq_getElem?_getD]
  cases h : (numsB s)[j]? with
  | none => simp
  | some v =>
    obtain ⟨u, _, rfl⟩ := List.mem_map.1 (List.mem_of_getElem? h)
    have hu : u.toNat < 256 := u.toNat_lt
    simp only [Option.getD_some]
    omega
theorem up1_inR (c d : Int) (hc : 0 ≤ c ∧ c < 256) (hd : 0 ≤ d ∧ d < 256) (h : up1 c = up1 d) : inR c 33 126 = inR d 33 126 := by
  rw [Bool.eq_iff_iff, inR_iff, inR_iff]
  unfold up1 at h
  split at h <;> split at h <;> (try split at h) <;> (try split at h) <;> omega
theorem wordOK_up (a b : ByteArray) (h : (numsB a).map up1 = (numsB b).map up1) : wordOK a = wordOK b := by
  have hl : a.size = b.size := by
    have := congrArg List.length h
    rwa [List.length_map, List.length_map, numsB_length, numsB_length] at this
  unfold wordOK
  rw [hl, allF_congr (Q := fun j => inR (bt b (j : Int)) 33 126) b.size 0 (fun j _ hj => by
    have hg := congrArg (fun l : List Int => l.getD j (up1 0)) h
    simp only [List.getD_eq_getElem?_getD, List.getElem?_map] at hg
    have hg2 : up1 ((numsB a).getD j 0) = up1 ((numsB b).getD j 0) := by
      rw [List.getD_eq_getElem?_getD, List.getD_eq_getElem?_getD]
      cases h1 : (numsB a)[j]? <;> cases h2 : (numsB b)[j]? <;> simp [h1, h2] at hg ⊢ <;> exact hg
    show inR (bt a (j : Int)) 33 126 = inR (bt b (j : Int)) 33 126
    rw [bt_nums a j (by omega), bt_nums b j (by omega)]
    exact up1_inR _ _ (nums_range _ _) (nums_range _ _) hg2)]
/-- Alike without regard to case. -/
def upE (a b : ByteArray) : Bool := (strOfNums ((numsB a).map up1)).toList == (strOfNums ((numsB b).map up1)).toList
def sameV (a b : ByteArray) : Bool := wordOK a && wordOK b && upE a b
theorem wordOK_small (s : ByteArray) (hw : wordOK s = true) : s.size ≤ 12 := by
  unfold wordOK at hw
  rw [Bool.and_eq_true] at hw
  have := inR_iff.mp hw.1
  omega
theorem impl_SameWord_eq (a b : ByteArray) (ha : a.size ≤ 1048576) (hb : b.size ≤ 1048576) (k : Nat) (hk : 1048576 < k) : impl_SameWord.f k a b = some (sameV a b) := by
  unfold impl_SameWord.f sameV upE
  rw [impl_WordOK_eq a (by omega) _ (by omega), impl_WordOK_eq b (by omega) _ (by omega)]
  simp only [Option.bind_some]
  cases h1 : wordOK a
  · simp
  · cases h2 : wordOK b
    · simp
    · have := wordOK_small a h1
      have := wordOK_small b h2
      unfold impl_UpperOf.f
      simp only [if_true]
      rw [if_neg (by omega), if_neg (by omega)]
      simp
theorem sameV_of (a b : ByteArray) (hb : wordOK b = true) : sameV a b = upE a b := by
  unfold sameV
  cases h : upE a b
  · simp
  · rw [wordOK_up a b (up_eq a b h), hb]
    rfl
theorem sameV_no (a b : ByteArray) (hb : wordOK b = false) : sameV a b = false := by
  unfold sameV
  rw [hb]
  simp
def hitsW (a : ByteArray) (l : List S39) : List Bool := l.map fun x => sameV x.f0 a && x.f1 != 3
theorem findTab_eq (a : ByteArray) (ha : a.size ≤ 1048576) (k : Nat) (hk : 1048576 < k) : ∀ l : List S39, (∀ x ∈ l, x.f0.size ≤ 1048576) → impl_findWord.tab k a l = some (hitsW a l)
  | [], _ => rfl
  | x :: xs, hx => by
    unfold impl_findWord.tab
    rw [impl_SameWord_eq x.f0 a (hx x (by simp)) ha k hk, findTab_eq a ha k hk xs (fun y hy => hx y (by simp [hy]))]
    rfl
theorem last_snoc (t : Bool) : ∀ ts : List Bool, impl_findWord.last (ts ++ [t]) = if t = true then (ts.length : Int) + 1 else impl_findWord.last ts
  | [] => by cases t <;> rfl
  | s :: ts => by
    have ih := last_snoc t ts
    rw [List.cons_append]
    unfold impl_findWord.last
    rw [ih]
    cases t
    · rfl
    · simp only [if_true]
      rw [if_neg (by omega)]
      simp
theorem impl_findWord_eq (l : List S39) (a : ByteArray) (hl : l.length ≤ 1048576) (hx : ∀ x ∈ l, x.f0.size ≤ 1048576) (ha : a.size ≤ 1048576) (k : Nat) (hk : 1048576 < k) : impl_findWord.f k l a = some (impl_findWord.last (hitsW a l)) := by
  unfold impl_findWord.f
  rw [if_pos (by omega), findTab_eq a ha k hk l hx]
  rfl
/-- What finding a word answers. -/
def found (l : List S39) (a : ByteArray) : Int × Int :=
  if l.length > 4096 then (0, 2) else if a.size > 65536 then (0, 2) else if dictOK l = true then (if impl_findWord.last (hitsW a l) = 0 then (0, 10) else (impl_findWord.last (hitsW a l), 0)) else (0, 1)
theorem hits_none (l : List S39) (a : ByteArray) (hw : wordOK a = false) : impl_findWord.last (hitsW a l) = 0 := by
  apply impl_findWord.last_zero
  intro i hi
  unfold hitsW at hi ⊢
  rw [List.length_map] at hi
  rw [List.getElem?_map, List.getElem?_eq_getElem hi]
  simp [sameV_no _ a hw]
theorem impl_FindWord_eq (l : List S39) (a : ByteArray) (hl : l.length ≤ 1048576) (hx : ∀ x ∈ l, x.f0.size ≤ 1048576) (ha : a.size ≤ 1048576) (k : Nat) (hk : 2200000 ≤ k) : impl_FindWord.f k l a = some (found l a) := by
  obtain ⟨k, rfl⟩ : ∃ m, k = m + 1 := ⟨k - 1, by omega⟩
  unfold impl_FindWord.f found
  rw [isLong_word l _ (by omega), Option.bind_some]
  by_cases h0 : l.length > 4096
  · rw [if_pos (by simp; omega), if_pos h0]
    simp [impl_FindWord.j0]
  · rw [if_neg (by simp; omega), if_neg h0]
    by_cases h1 : a.size > 65536
    · rw [if_pos h1, decide_eq_true (show (a.size : Int) > 65536 by omega)]
      simp [impl_FindWord.j0]
    · rw [if_neg h1, decide_eq_false (show ¬ (a.size : Int) > 65536 by omega)]
      simp only [impl_FindWord.j0]
      rw [if_neg (by decide), impl_DictOK_eq l hl hx k (by omega), Option.bind_some]
      cases h2 : dictOK l
      · rfl
      · rw [if_pos rfl, if_pos rfl, impl_findWord_eq l a hl hx ha k (by omega), Option.bind_some]
        have hn := impl_findWord.last_nonneg (hitsW a l)
        by_cases h4 : impl_findWord.last (hitsW a l) = 0
        · rw [if_pos h4, if_neg (by omega)]
        · rw [if_neg h4, if_pos (by omega)]
theorem spec_l02Same_eq (a b : ByteArray) (ha : a.size ≤ 1048576) (hb : b.size ≤ 1048576) (k : Nat) (hk : 1048576 < k) : spec_l02Same.f k a b = some (upE a b) := by
  unfold spec_l02Same.f upE
  rw [spec_l02Upper_eq a (by omega) _ (by omega), spec_l02Upper_eq b (by omega) _ (by omega)]
  rfl
theorem spec_find_l0 (l : List S39) (a : ByteArray) (hl : l.length ≤ 1048576) (hx : ∀ x ∈ l, x.f0.size ≤ 1048576) (ha : a.size ≤ 1048576) (hw : wordOK a = true) : ∀ n k, n ≤ l.length → n + 1048577 ≤ k → spec_l04Find.l0 k l a ((n : Int) - 1) = some (impl_findWord.last (hitsW a (l.take n)))
  | 0, k, _, hk => by
    obtain ⟨k, rfl⟩ : ∃ m, k = m + 1 := ⟨k - 1, by omega⟩
    simp only [spec_l04Find.l0]
    rw [if_neg (by omega)]
    rfl
  | n + 1, k, hn, hk => by
    obtain ⟨k, rfl⟩ : ∃ m, k = m + 1 := ⟨k - 1, by omega⟩
    have ih := spec_find_l0 l a hl hx ha hw n k (by omega) (by omega)
    have hg : l[n]? = some (l.getD n z39) := by
      rw [List.getD_eq_getElem?_getD, List.getElem?_eq_getElem (by omega)]
      rfl
    have ht : hitsW a (l.take (n + 1)) = hitsW a (l.take n) ++ [sameV (l.getD n z39).f0 a && (l.getD n z39).f1 != 3] := by
      rw [List.take_add_one, hg, hitsW, hitsW, List.map_append]
      rfl
    have hlen : (hitsW a (l.take n)).length = n := by
      rw [hitsW, List.length_map, List.length_take]
      omega
    rw [ht, last_snoc, hlen]
    simp only [spec_l04Find.l0]
    rw [show ((n + 1 : Nat) : Int) - 1 = (n : Int) by omega, if_pos (by omega), if_pos (by omega), if_pos (by omega), w64 (by omega), w64 (by omega), ih, rdW_nat, spec_l02Same_eq _ a (hx _ (List.mem_of_getElem? hg)) ha k (by omega), sameV_of _ a hw]
    by_cases h3 : (l.getD n z39).f1 = 3
    · rw [if_pos h3, h3, if_neg (by simp)]
    · rw [if_neg h3, show ((l.getD n z39).f1 != 3) = true from bne_iff_ne.mpr h3, Bool.and_true, Option.bind_some]
      cases upE (l.getD n z39).f0 a <;> rfl
theorem spec_FindWord_eq (l : List S39) (a : ByteArray) (hl : l.length ≤ 1048576) (hx : ∀ x ∈ l, x.f0.size ≤ 1048576) (ha : a.size ≤ 1048576) (k : Nat) (hk : 2200000 ≤ k) : spec_FindWord.f k l a = some (found l a) := by
  obtain ⟨k, rfl⟩ : ∃ m, k = m + 1 := ⟨k - 1, by omega⟩
  unfold spec_FindWord.f found
  by_cases h0 : l.length > 4096
  · rw [if_pos (by omega), if_pos h0]
    simp [spec_FindWord.j0]
  · rw [if_neg (by omega), if_neg h0]
    by_cases h1 : a.size > 65536
    · rw [if_pos h1, decide_eq_true (show (a.size : Int) > 65536 by omega)]
      simp [spec_FindWord.j0]
    · rw [if_neg h1, decide_eq_false (show ¬ (a.size : Int) > 65536 by omega)]
      simp only [spec_FindWord.j0]
      rw [if_neg (by decide), spec_l04OK_eq l hl hx k (by omega), Option.bind_some]
      cases h2 : dictOK l
      · rfl
      · rw [if_pos rfl, if_pos rfl, spec_l02Word_eq a (by omega) k (by omega), Option.bind_some]
        cases h3 : wordOK a
        · rw [hits_none l a h3]
          rfl
        · have hf := spec_find_l0 l a hl hx ha h3 l.length k (Nat.le_refl _) (by omega)
          rw [List.take_length] at hf
          rw [if_pos rfl, spec_l04Find.f, w64 (by omega), hf, Option.bind_some]
          by_cases h4 : impl_findWord.last (hitsW a l) = 0
          · rw [if_pos h4, if_pos h4]
          · rw [if_neg h4, if_neg h4]
theorem FnExactFindWord : laws_FnExactFindWord.Pure := by
  intro l a hl ha
  refine ⟨2200000, ?_⟩
  unfold laws_FnExactFindWord.f
  by_cases h0 : (a.size : Int) > 1048576
  · rw [if_pos h0]
  · rw [if_neg h0]
    obtain ⟨t, ht, _, htb⟩ := laws_szWordS_eq l hl.1 (fun x hx => (hl.2 x hx).1) 1048576 (by omega) (by omega) 2200000 (by omega)
    rw [ht, Option.bind_some]
    by_cases h1 : t < 0
    · rw [if_pos h1]
    · obtain ⟨b1, b3⟩ := htb h1
      have b2 : (l.map toW).length ≤ 1048576 := by simpa using b1
      have b4 := toW_sizes l b3
      rw [if_neg h1, laws_toWordS_eq l b1 _ (by omega)]
      simp only [Option.bind_some]
      rw [spec_FindWord_eq _ a b2 b4 (by omega) _ (by omega), impl_FindWord_eq _ a b2 b4 (by omega) _ (by omega), laws_eqWordS_refl _ b2 _ (by omega)]
      simp
end Go.Proofs.YtbbfahkmjfmmjaaDoor.Pure
