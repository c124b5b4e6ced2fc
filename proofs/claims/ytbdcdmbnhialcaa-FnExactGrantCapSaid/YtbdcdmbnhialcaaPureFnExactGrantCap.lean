/- The law FnExactGrantCap answers true for all hosts, capabilities and answers: both grant in a host of its own. No condition. -/
import Derived.Test.YtbdcdmbnhialcaaPFnExactGrantCapx8
namespace Go.Proofs.Ytbdcdmbnhialcaa.Pure
open Go.RowKit Go.Proofs.Ytbdcdmbnhialcaa.PFnExactGrantCap Go.Proofs.YtbdcdmbnhialcaaW.PrintWords Go.Proofs.YtbdcdmbnhialcaaW.PrintLast
set_option linter.unusedSimpArgs false
set_option linter.unusedVariables false

theorem bd64 {n : Int} (h : (Lit.int .i64 n).wf = true) : -9223372036854775808 ≤ n ∧ n ≤ 9223372036854775807 := by
  simp [Lit.wf, IntKind.min, IntKind.max, IntKind.signed, IntKind.bits] at h
  omega
/-- n lies from lo to hi. -/
def inR (n lo hi : Int) : Bool := decide (lo ≤ n ∧ n ≤ hi)
/-- A cell: 32 bits with a sign. -/
def isCell (n : Int) : Bool := decide (-2147483648 ≤ n ∧ n ≤ 2147483647)
theorem isCell_iff {n : Int} : isCell n = true ↔ (-2147483648 ≤ n ∧ n ≤ 2147483647) := by simp [isCell]
theorem inR_iff {n lo hi : Int} : inR n lo hi = true ↔ (lo ≤ n ∧ n ≤ hi) := by simp [inR]
theorem w64 {n : Int} (h : -9223372036854775808 ≤ n ∧ n ≤ 9223372036854775807) : wrap64 n = n := by unfold wrap64; omega
theorem w64_cell (n : Int) : wrap64 (wrap32 n) = wrap32 n := by unfold wrap64 wrap32; omega
theorem w32_cell {n : Int} (h : isCell n = true) : wrap32 n = n := by rw [isCell_iff] at h; unfold wrap32; omega
theorem cell_w32 (n : Int) : isCell (wrap32 n) = true := by rw [isCell_iff]; unfold wrap32; omega
theorem w32_eq (n : Int) : (wrap32 n == n) = isCell n := by
  rw [Bool.eq_iff_iff, isCell_iff]
  simp only [beq_iff_eq]
  unfold wrap32
  omega
/-- All of d numbers from i on. -/
def allF (P : Nat → Bool) : Nat → Nat → Bool
  | 0, _ => true
  | d + 1, i => P i && allF P d (i + 1)
theorem allF_congr {P Q : Nat → Bool} : ∀ d i, (∀ j, i ≤ j → j < i + d → P j = Q j) → allF P d i = allF Q d i
  | 0, _, _ => rfl
  | d + 1, i, h => by
    simp only [allF]
    rw [h i (Nat.le_refl _) (by omega), allF_congr d (i + 1) (fun j h1 h2 => h j (by omega) (by omega))]
theorem allF_true {P : Nat → Bool} : ∀ d i, (∀ j, i ≤ j → j < i + d → P j = true) → allF P d i = true
  | 0, _, _ => rfl
  | d + 1, i, h => by
    simp only [allF]
    rw [h i (Nat.le_refl _) (by omega), allF_true d (i + 1) (fun j h1 h2 => h j (by omega) (by omega))]
    rfl
theorem allF_all {α : Type} (p : α → Bool) (z : α) (l : List α) : ∀ d i, i + d = l.length → allF (fun j => p (l.getD j z)) d i = (l.drop i).all p
  | 0, i, h => by simp [allF, List.drop_of_length_le (show l.length ≤ i by omega)]
  | d + 1, i, h => by
    simp only [allF]
    rw [allF_all p z l d (i + 1) (by omega), List.drop_eq_getElem_cons (by omega : i < l.length), List.all_cons]
    simp [List.getD_eq_getElem?_getD, List.getElem?_eq_getElem (by omega : i < l.length)]
/-- A loop that leaves with false at the first number of which P does not hold. -/
theorem loop_all (F : Nat → Int → Option Bool) (n : Nat) (P : Nat → Bool) (fin : Bool)
    (hs : ∀ k (i : Nat), i < n → F (k + 1) i = if P i = true then F k ((i : Int) + 1) else some false) (he : ∀ k, F (k + 1) (n : Int) = some fin) :
    ∀ d k (i : Nat), i + d = n → d < k → F k i = some (allF P d i && fin)
  | 0, k, i, h, hk => by
    obtain ⟨k, rfl⟩ : ∃ m, k = m + 1 := ⟨k - 1, by omega⟩
    obtain rfl : i = n := by omega
    rw [he]
    simp [allF]
  | d + 1, k, i, h, hk => by
    obtain ⟨k, rfl⟩ : ∃ m, k = m + 1 := ⟨k - 1, by omega⟩
    rw [hs k i (by omega)]
    have ih := loop_all F n P fin hs he d k (i + 1) (by omega) (by omega)
    rw [show ((i + 1 : Nat) : Int) = (i : Int) + 1 by omega] at ih
    rw [ih]
    cases hp : P i <;> simp [allF, hp]
theorem loop_all0 (F : Nat → Int → Option Bool) (n : Nat) (P : Nat → Bool) (fin : Bool)
    (hs : ∀ k (i : Nat), i < n → F (k + 1) i = if P i = true then F k ((i : Int) + 1) else some false) (he : ∀ k, F (k + 1) (n : Int) = some fin) (k : Nat) (hk : n < k) : F k 0 = some (allF P n 0 && fin) :=
  loop_all F n P fin hs he n k 0 (by omega) hk
theorem spec_l01In_eq (a b c : Int) : spec_l01In.f a b c = some (inR a b c) := by
  unfold spec_l01In.f
  by_cases h1 : a ≥ b
  · have h2 : b ≤ a := h1
    by_cases h3 : a ≤ c <;> simp [h1, inR, h2, h3]
  · have h2 : ¬ b ≤ a := h1
    simp [inR, h2]
theorem impl_in_eq (a b c : Int) : impl_in.f a b c = some (inR a b c) := by
  unfold impl_in.f
  by_cases h1 : b ≤ a
  · by_cases h3 : a ≤ c <;> simp [inR, h1, h3]
  · simp [inR, h1]
theorem spec_l01Cell_eq (a : Int) : spec_l01Cell.f a = some (isCell a) := by
  unfold spec_l01Cell.f
  rw [spec_l01In_eq]
  rfl
theorem impl_WrapCell_eq (a : Int) : impl_WrapCell.f a = some (wrap32 a) := by
  unfold impl_WrapCell.f
  rw [w64_cell]
theorem impl_CellOK_eq (a : Int) : impl_CellOK.f a = some (isCell a) := by
  unfold impl_CellOK.f
  rw [impl_WrapCell_eq, Option.bind_some, w32_eq]
theorem rd_nat (l : List Int) (i : Nat) : rd l (i : Int) = l.getD i 0 := by simp [rd]
/-- Lists that agree at each place. -/
theorem list_eq_iff (a b : List Int) (h : a.length = b.length) : decide (a = b) = allF (fun j => decide (a.getD j 0 = b.getD j 0)) a.length 0 := by
  rw [Bool.eq_iff_iff, decide_eq_true_eq]
  constructor
  · rintro rfl
    exact allF_true _ _ (fun j _ _ => by simp)
  · intro ha
    have key : ∀ d i, i + d = a.length → allF (fun j => decide (a.getD j 0 = b.getD j 0)) d i = true → ∀ j, i ≤ j → j < a.length → a.getD j 0 = b.getD j 0 := by
      intro d
      induction d with
      | zero => intro i hi _ j h1 h2; omega
      | succ d ih =>
        intro i hi hh j h1 h2
        simp only [allF, Bool.and_eq_true, decide_eq_true_eq] at hh
        rcases Nat.eq_or_lt_of_le h1 with rfl | h3
        · exact hh.1
        · exact ih (i + 1) (by omega) hh.2 j (by omega) h2
    apply List.ext_getElem h
    intro i h1 h2
    have := key a.length 0 (by omega) ha i (by omega) h1
    simpa [List.getD_eq_getElem?_getD, List.getElem?_eq_getElem h1, List.getElem?_eq_getElem h2] using this
theorem laws_eqIntS_eq (a b : List Int) (ha : a.length ≤ 1048576) (k : Nat) (hk : a.length < k) : laws_eqIntS.f k a b = some (decide (a = b)) := by
  unfold laws_eqIntS.f
  by_cases h : (a.length : Int) = (b.length : Int)
  · have h' : a.length = b.length := by omega
    rw [if_pos h, list_eq_iff a b h']
    have hl := loop_all0 (fun k i => laws_eqIntS.l0 k a b i) a.length (fun j => decide (a.getD j 0 = b.getD j 0)) true (fun k i hi => by
      simp only [laws_eqIntS.l0]
      rw [if_pos (by omega), if_pos (by omega), if_pos (by omega), rd_nat, rd_nat, w64 (by omega)]
      by_cases h3 : a.getD i 0 = b.getD i 0 <;> simp [h3]) (fun k => by
      simp only [laws_eqIntS.l0]
      rw [if_neg (by omega)]) k hk
    rw [hl, Bool.and_true]
  · rw [if_neg h]
    have h2 : ¬ a = b := by rintro rfl; exact h rfl
    simp [h2]
theorem set_take (l : List Int) (i : Nat) (hi : i < l.length) : (l.take i ++ List.replicate (l.length - i) 0).set i (l.getD i 0) = l.take (i + 1) ++ List.replicate (l.length - (i + 1)) 0 := by
  have hr : List.replicate (l.length - i) (0 : Int) = 0 :: List.replicate (l.length - (i + 1)) 0 := by
    rw [show l.length - i = (l.length - (i + 1)) + 1 by omega, List.replicate_succ]
  have hg : l.getD i 0 = l[i] := by simp [List.getD_eq_getElem?_getD, List.getElem?_eq_getElem hi]
  rw [hr, List.set_append, if_neg (by rw [List.length_take]; omega), hg, List.length_take, Nat.min_eq_left (Nat.le_of_lt hi), Nat.sub_self, List.set_cons_zero, List.take_succ_eq_append_getElem hi, List.append_assoc]
  rfl
theorem laws_toIntS_eq (l : List Int) (hl : l.length ≤ 1048576) (k : Nat) (hk : l.length < k) : laws_toIntS.f k l = some l := by
  unfold laws_toIntS.f
  rw [if_pos (by omega), if_pos (by simp; omega)]
  have key : ∀ d k (i : Nat), i + d = l.length → d < k → laws_toIntS.l0 k l (l.take i ++ List.replicate (l.length - i) 0) (i : Int) = some l := by
    intro d
    induction d with
    | zero =>
      intro k i h hk
      obtain ⟨k, rfl⟩ : ∃ m, k = m + 1 := ⟨k - 1, by omega⟩
      simp only [laws_toIntS.l0]
      rw [if_neg (by omega), List.take_of_length_le (by omega), show l.length - i = 0 by omega]
      simp
    | succ d ih =>
      intro k i h hk
      obtain ⟨k, rfl⟩ : ∃ m, k = m + 1 := ⟨k - 1, by omega⟩
      simp only [laws_toIntS.l0]
      rw [if_pos (by omega), if_pos (by omega), if_pos (by simp; omega), rd_nat, Int.toNat_natCast, set_take l i (by omega), w64 (by omega), show (i : Int) + 1 = ((i + 1 : Nat) : Int) by omega]
      exact ih k (i + 1) (by omega) (by omega)
  have h := key l.length k 0 (by omega) hk
  simpa using h
theorem laws_szIntS_eq (l : List Int) (a : Int) (h0 : 0 ≤ a) (h1 : a ≤ 1048576) (hl : l.length ≤ 9223372036854775807) : laws_szIntS.f l a = some (if a - (l.length : Int) < 0 then -1 else a - (l.length : Int)) := by
  unfold laws_szIntS.f
  rw [w64 (by omega)]
  split <;> rfl
theorem set_take_map {α β : Type} (g : α → β) (z : β) (za : α) (l : List α) (i : Nat) (hi : i < l.length) : ((l.take i).map g ++ List.replicate (l.length - i) z).set i (g (l.getD i za)) = (l.take (i + 1)).map g ++ List.replicate (l.length - (i + 1)) z := by
  have hr : List.replicate (l.length - i) z = z :: List.replicate (l.length - (i + 1)) z := by
    rw [show l.length - i = (l.length - (i + 1)) + 1 by omega, List.replicate_succ]
  have hg : l.getD i za = l[i] := by simp [List.getD_eq_getElem?_getD, List.getElem?_eq_getElem hi]
  rw [hr, List.set_append, if_neg (by rw [List.length_map, List.length_take]; omega), hg, List.length_map, List.length_take, Nat.min_eq_left (Nat.le_of_lt hi), Nat.sub_self, List.set_cons_zero, List.take_succ_eq_append_getElem hi, List.map_append, List.append_assoc]
  rfl
/-- A loop that copies a list, number by number. -/
theorem loop_copy {α β : Type} (F : Nat → List β → Int → Option (List β)) (l : List α) (g : α → β) (z : β) (za : α)
    (hs : ∀ k (x : List β) (i : Nat), i < l.length → x.length = l.length → F (k + 1) x i = F k (x.set i (g (l.getD i za))) ((i : Int) + 1))
    (he : ∀ k x, F (k + 1) x (l.length : Int) = some x) (k : Nat) (hk : l.length < k) : F k (List.replicate l.length z) 0 = some (l.map g) := by
  have key : ∀ d k (i : Nat), i + d = l.length → d < k → F k ((l.take i).map g ++ List.replicate (l.length - i) z) (i : Int) = some (l.map g) := by
    intro d
    induction d with
    | zero =>
      intro k i h hk
      obtain ⟨k, rfl⟩ : ∃ m, k = m + 1 := ⟨k - 1, by omega⟩
      obtain rfl : i = l.length := by omega
      rw [he, List.take_length, Nat.sub_self]
      simp
    | succ d ih =>
      intro k i h hk
      obtain ⟨k, rfl⟩ : ∃ m, k = m + 1 := ⟨k - 1, by omega⟩
      rw [hs k _ i (by omega) (by simp; omega), set_take_map g z za l i (by omega), show (i : Int) + 1 = ((i + 1 : Nat) : Int) by omega]
      exact ih k (i + 1) (by omega) (by omega)
  have h := key l.length k 0 (by omega) hk
  simpa using h
theorem rdOf_nat {α : Type} (z : α) (l : List α) (i : Nat) : rdOf z l (i : Int) = l.getD i z := by simp [rdOf]
theorem rd68_nat (l : List S68) (i : Nat) : rd_T68 l (i : Int) = l.getD i z68 := by simp [rd_T68]
theorem rd71_nat (l : List S71) (i : Nat) : rd_T71 l (i : Int) = l.getD i z71 := by simp [rd_T71]
theorem laws_eqBoolS_refl (a : List Bool) (ha : a.length ≤ 1048576) (k : Nat) (hk : a.length < k) : laws_eqBoolS.f k a a = some true := by
  unfold laws_eqBoolS.f
  rw [if_pos rfl]
  have hl := loop_all0 (fun k i => laws_eqBoolS.l0 k a a i) a.length (fun _ => true) true (fun k i hi => by
    simp only [laws_eqBoolS.l0]
    rw [if_pos (by omega), if_pos (by omega), if_pos (by omega), w64 (by omega)]
    simp) (fun k => by
    simp only [laws_eqBoolS.l0]
    rw [if_neg (by omega)]) k hk
  rw [hl, allF_true _ _ (fun _ _ _ => rfl)]
  rfl
theorem laws_eqDeedS_refl (a : List S68) (ha : a.length ≤ 1048576) (k : Nat) (hk : a.length < k) : laws_eqDeedS.f k a a = some true := by
  unfold laws_eqDeedS.f
  rw [if_pos rfl]
  have hl := loop_all0 (fun k i => laws_eqDeedS.l0 k a a i) a.length (fun _ => true) true (fun k i hi => by
    simp only [laws_eqDeedS.l0]
    rw [if_pos (by omega), if_pos (by omega), if_pos (by omega), w64 (by omega)]
    unfold laws_eqDeed.f
    simp) (fun k => by
    simp only [laws_eqDeedS.l0]
    rw [if_neg (by omega)]) k hk
  rw [hl, allF_true _ _ (fun _ _ _ => rfl)]
  rfl
theorem laws_eqHost_refl (g : List Bool) (c s : List Int) (n : Int) (d : List S68) (hg : g.length ≤ 1048576) (hc : c.length ≤ 1048576) (hs : s.length ≤ 1048576) (hd : d.length ≤ 1048576) (k : Nat) (hk : 1048576 < k) : laws_eqHost.f k g c s n d g c s n d = some true := by
  unfold laws_eqHost.f
  rw [laws_eqBoolS_refl g hg k (by omega), laws_eqIntS_eq c c hc k (by omega), laws_eqIntS_eq s s hs k (by omega), laws_eqDeedS_refl d hd k (by omega)]
  simp
/-- The deed of a deed as the law holds it. -/
def toD (x : S71) : S68 := ⟨x.f0, x.f1, x.f2, x.f3⟩
theorem laws_toBoolS_eq (l : List Bool) (hl : l.length ≤ 1048576) (k : Nat) (hk : l.length < k) : laws_toBoolS.f k l = some l := by
  unfold laws_toBoolS.f
  rw [if_pos (by omega), if_pos (by simp; omega)]
  have h := loop_copy (fun k x i => laws_toBoolS.l0 k l x i) l id false false (fun k x i hi hx => by
    simp only [laws_toBoolS.l0]
    rw [if_pos (by omega), if_pos (by omega), if_pos (by omega), rdOf_nat, Int.toNat_natCast, w64 (by omega)]
    rfl) (fun k x => by
    simp only [laws_toBoolS.l0]
    rw [if_neg (by omega)]) k hk
  simpa using h
theorem laws_toDeedS_eq (l : List S71) (hl : l.length ≤ 1048576) (k : Nat) (hk : l.length < k) : laws_toDeedS.f k l = some (l.map toD) := by
  unfold laws_toDeedS.f
  rw [if_pos (by omega), if_pos (by simp; omega)]
  have h := loop_copy (fun k x i => laws_toDeedS.l0 k l x i) l toD z68 z71 (fun k x i hi hx => by
    simp only [laws_toDeedS.l0, laws_toDeed.f, Option.bind_some]
    rw [if_pos (by omega), if_pos (by omega), if_pos (by omega), rd71_nat, Int.toNat_natCast, w64 (by omega)]
    rfl) (fun k x => by
    simp only [laws_toDeedS.l0]
    rw [if_neg (by omega)]) k hk
  simpa using h
theorem laws_toHost_eq (g : List Bool) (c s : List Int) (n : Int) (d : List S71) (hg : g.length ≤ 1048576) (hc : c.length ≤ 1048576) (hs : s.length ≤ 1048576) (hd : d.length ≤ 1048576) (k : Nat) (hk : 1048576 < k) : laws_toHost.f k g c s n d = some (g, c, s, n, d.map toD) := by
  unfold laws_toHost.f
  rw [laws_toBoolS_eq g hg k (by omega), laws_toIntS_eq c hc k (by omega), laws_toIntS_eq s hs k (by omega), laws_toDeedS_eq d hd k (by omega)]
  simp
theorem laws_szHost_eq (g : List Bool) (c s : List Int) (n : Int) (d : List S71) (a : Int) (h0 : 0 ≤ a) (h1 : a ≤ 1048576) (hg : g.length ≤ 9223372036854775807) (hc : c.length ≤ 9223372036854775807) (hs : s.length ≤ 9223372036854775807) (hd : d.length ≤ 9223372036854775807) :
    ∃ t, laws_szHost.f g c s n d a = some t ∧ t ≤ a ∧ (¬ t < 0 → g.length ≤ 1048576 ∧ c.length ≤ 1048576 ∧ s.length ≤ 1048576 ∧ d.length ≤ 1048576) := by
  unfold laws_szHost.f
  unfold laws_szBoolS.f
  rw [w64 (by omega)]
  by_cases c0 : a - (g.length : Int) < 0
  · rw [if_pos c0, Option.bind_some, if_pos (by omega)]
    exact ⟨-1, rfl, by omega, fun h => absurd (by omega) h⟩
  · rw [if_neg c0, Option.bind_some, if_neg c0, laws_szIntS_eq c _ (by omega) (by omega) hc, Option.bind_some]
    by_cases c1 : a - (g.length : Int) - (c.length : Int) < 0
    · rw [if_pos c1, if_pos (by omega)]
      exact ⟨-1, rfl, by omega, fun h => absurd (by omega) h⟩
    · rw [if_neg c1, if_neg c1, laws_szIntS_eq s _ (by omega) (by omega) hs, Option.bind_some]
      by_cases c2 : a - (g.length : Int) - (c.length : Int) - (s.length : Int) < 0
      · rw [if_pos c2, if_pos (by omega)]
        exact ⟨-1, rfl, by omega, fun h => absurd (by omega) h⟩
      · rw [if_neg c2, if_neg c2]
        unfold laws_szDeedS.f
        rw [w64 (by omega)]
        by_cases c3 : a - (g.length : Int) - (c.length : Int) - (s.length : Int) - (d.length : Int) < 0
        · rw [if_pos c3, Option.bind_some, if_pos (by omega)]
          exact ⟨-1, rfl, by omega, fun h => absurd (by omega) h⟩
        · rw [if_neg c3, Option.bind_some, if_neg c3]
          exact ⟨_, rfl, by omega, fun _ => by omega⟩
theorem spec_l03Cells_eq (l : List Int) (hl : l.length ≤ 1048576) (k : Nat) (hk : l.length < k) : spec_l03Cells.f k l = some (l.all isCell) := by
  unfold spec_l03Cells.f
  have h := loop_all0 (fun k i => spec_l03Cells.l0 k l i) l.length (fun j => isCell (l.getD j 0)) true (fun k i hi => by
    simp only [spec_l03Cells.l0]
    rw [if_pos (by omega), if_pos (by omega), rd_nat, spec_l01Cell_eq, Option.bind_some, w64 (by omega)]) (fun k => by
    simp only [spec_l03Cells.l0]
    rw [if_neg (by omega)]) k hk
  rw [h, allF_all isCell 0 l l.length 0 (by omega)]
  simp
theorem idx_cells (l : List Int) (hl : l.length ≤ 1048576) : ∀ d k (i : Nat), i + d = l.length → d < k →
    ∃ r, slices_IndexFunc_int_at_impl_areCells_1.l0 k l (l.length : Int) (i : Int) = some r ∧ (!decide (r ≥ 0)) = allF (fun j => isCell (l.getD j 0)) d i
  | 0, k, i, h, hk => by
    obtain ⟨k, rfl⟩ : ∃ m, k = m + 1 := ⟨k - 1, by omega⟩
    refine ⟨-1, ?_, by simp [allF]⟩
    simp only [slices_IndexFunc_int_at_impl_areCells_1.l0]
    rw [if_neg (by omega)]
  | d + 1, k, i, h, hk => by
    obtain ⟨k, rfl⟩ : ∃ m, k = m + 1 := ⟨k - 1, by omega⟩
    obtain ⟨r, hr, hq⟩ := idx_cells l hl d k (i + 1) (by omega) (by omega)
    simp only [slices_IndexFunc_int_at_impl_areCells_1.l0]
    rw [if_pos (by omega), if_pos (by omega), if_pos (by omega), rd_nat, w64 (by omega), show (i : Int) + 1 = ((i + 1 : Nat) : Int) by omega, hr]
    unfold impl_areCells_1.f
    rw [impl_CellOK_eq]
    simp only [Option.bind_some, allF]
    cases hp : isCell (l.getD i 0)
    · refine ⟨(i : Int), by simp, ?_⟩
      simp
    · refine ⟨r, by simp, ?_⟩
      rw [hq]
      simp
theorem impl_areCells_eq (l : List Int) (m : Int) (hl : l.length ≤ 1048576) (k : Nat) (hk : l.length < k) : impl_areCells.f k l m = some (decide ((l.length : Int) ≤ m) && l.all isCell) := by
  unfold impl_areCells.f
  by_cases h : (l.length : Int) ≤ m
  · obtain ⟨r, hr, hq⟩ := idx_cells l hl l.length k 0 (by omega) hk
    rw [if_pos h]
    unfold slices_ContainsFunc_int_at_impl_areCells_1.f slices_IndexFunc_int_at_impl_areCells_1.f
    rw [show (0 : Int) = ((0 : Nat) : Int) from rfl, hr]
    simp only [Option.bind_some]
    rw [show ((0 : Nat) : Int) = 0 from rfl, hq, allF_all isCell 0 l l.length 0 (by omega)]
    simp [h]
  · rw [if_neg h]
    simp [h]
/-- A valid deed. -/
def deedOK (x : S68) : Bool := inR x.f0 0 3 && isCell x.f1 && isCell x.f2 && isCell x.f3
/-- A valid host. -/
def hostOK (g : List Bool) (c s : List Int) (n : Int) (d : List S68) : Bool :=
  decide (g.length = 4) && decide (c.length = 8) && decide (s.length ≤ 20) && decide (d.length ≤ 40) && c.all isCell && s.all isCell && inR n 0 2147483647 && d.all deedOK
theorem spec_l06Deed_eq (a b c d : Int) : spec_l06Deed.f a b c d = some (deedOK ⟨a, b, c, d⟩) := by
  unfold spec_l06Deed.f
  rw [spec_l01In_eq, spec_l01Cell_eq, spec_l01Cell_eq, spec_l01Cell_eq]
  simp only [Option.bind_some, deedOK]
  cases inR a 0 3 <;> cases isCell b <;> cases isCell c <;> simp
theorem impl_isRight_eq (a b c d : Int) : impl_Deed_isRight.f a b c d = some (deedOK ⟨a, b, c, d⟩) := by
  unfold impl_Deed_isRight.f impl_isCap.f
  rw [impl_in_eq, impl_CellOK_eq, impl_CellOK_eq, impl_CellOK_eq]
  simp only [Option.bind_some, deedOK]
  cases inR a 0 3 <;> cases isCell b <;> cases isCell c <;> simp
theorem spec_l06OK_l0 (g : List Bool) (c s : List Int) (n : Int) (d : List S68) (hd : d.length ≤ 1048576) (k : Nat) (hk : d.length < k) : spec_l06OK.l0 k 0 g c s n d = some (d.all deedOK) := by
  have h := loop_all0 (fun k i => spec_l06OK.l0 k i g c s n d) d.length (fun j => deedOK (d.getD j z68)) true (fun k i hi => by
    simp only [spec_l06OK.l0]
    rw [if_pos (by omega), if_pos (by omega), rd68_nat, spec_l06Deed_eq, Option.bind_some, w64 (by omega)]) (fun k => by
    simp only [spec_l06OK.l0]
    rw [if_neg (by omega)]) k hk
  rw [h, allF_all deedOK z68 d d.length 0 (by omega)]
  simp
theorem spec_l06OK_eq (g : List Bool) (c s : List Int) (n : Int) (d : List S68) (hg : g.length ≤ 1048576) (hc : c.length ≤ 1048576) (hs : s.length ≤ 1048576) (hd : d.length ≤ 1048576) (k : Nat) (hk : 1048577 < k) : spec_l06OK.f k g c s n d = some (hostOK g c s n d) := by
  obtain ⟨k, rfl⟩ : ∃ m, k = m + 1 := ⟨k - 1, by omega⟩
  unfold spec_l06OK.f hostOK
  rw [spec_l03Cells_eq c hc _ (by omega), spec_l03Cells_eq s hs _ (by omega), spec_l01In_eq]
  simp only [Option.bind_some, spec_l06OK.j0, if_true]
  rw [spec_l06OK_l0 g c s n d hd k (by omega)]
  by_cases h1 : g.length = 4
  · by_cases h2 : c.length = 8
    · by_cases h3 : s.length ≤ 20
      · by_cases h4 : d.length ≤ 40
        · rw [if_pos (by omega), if_pos (by omega), if_neg (by omega), if_neg (by omega)]
          cases c.all isCell <;> cases s.all isCell <;> cases inR n 0 2147483647 <;> simp [h1, h2, h3, h4]
        · rw [if_pos (by omega), if_pos (by omega), if_neg (by omega), if_pos (by omega)]
          simp [h4]
      · rw [if_pos (by omega), if_pos (by omega), if_pos (by omega)]
        simp [h3]
    · rw [if_pos (by omega), if_neg (by omega)]
      simp [h2]
  · rw [if_neg (by omega)]
    simp [h1]
theorem idx_deeds (l : List S68) (hl : l.length ≤ 1048576) : ∀ d k (i : Nat), i + d = l.length → d < k →
    ∃ r, slices_IndexFunc_Deed_at_impl_HostOK_1.l0 k l (l.length : Int) (i : Int) = some r ∧ (!decide (r ≥ 0)) = allF (fun j => deedOK (l.getD j z68)) d i
  | 0, k, i, h, hk => by
    obtain ⟨k, rfl⟩ : ∃ m, k = m + 1 := ⟨k - 1, by omega⟩
    refine ⟨-1, ?_, by simp [allF]⟩
    simp only [slices_IndexFunc_Deed_at_impl_HostOK_1.l0]
    rw [if_neg (by omega)]
  | d + 1, k, i, h, hk => by
    obtain ⟨k, rfl⟩ : ∃ m, k = m + 1 := ⟨k - 1, by omega⟩
    obtain ⟨r, hr, hq⟩ := idx_deeds l hl d k (i + 1) (by omega) (by omega)
    simp only [slices_IndexFunc_Deed_at_impl_HostOK_1.l0]
    rw [if_pos (by omega), if_pos (by omega), if_pos (by omega), rd68_nat, w64 (by omega), show (i : Int) + 1 = ((i + 1 : Nat) : Int) by omega, hr]
    unfold impl_HostOK_1.f
    rw [impl_isRight_eq]
    simp only [Option.bind_some, allF]
    cases hp : deedOK (l.getD i z68)
    · refine ⟨(i : Int), by simp, ?_⟩
      simp
    · refine ⟨r, by simp, ?_⟩
      rw [hq]
      simp
theorem contains_deeds (l : List S68) (hl : l.length ≤ 1048576) (k : Nat) (hk : l.length < k) : slices_ContainsFunc_Deed_at_impl_HostOK_1.f k l = some (!l.all deedOK) := by
  obtain ⟨r, hr, hq⟩ := idx_deeds l hl l.length k 0 (by omega) hk
  unfold slices_ContainsFunc_Deed_at_impl_HostOK_1.f slices_IndexFunc_Deed_at_impl_HostOK_1.f
  rw [show (0 : Int) = ((0 : Nat) : Int) from rfl, hr]
  simp only [Option.bind_some]
  rw [allF_all deedOK z68 l l.length 0 (by omega)] at hq
  simp only [List.drop_zero] at hq
  rw [← hq]
  simp
theorem impl_HostOK_eq (g : List Bool) (c s : List Int) (n : Int) (d : List S68) (hg : g.length ≤ 1048576) (hc : c.length ≤ 1048576) (hs : s.length ≤ 1048576) (hd : d.length ≤ 1048576) (k : Nat) (hk : 1048576 < k) : impl_HostOK.f k g c s n d = some (hostOK g c s n d) := by
  unfold impl_HostOK.f impl_isStore.f hostOK
  rw [impl_areCells_eq c 8 hc k (by omega), impl_areCells_eq s 20 hs k (by omega), impl_in_eq, contains_deeds d hd k (by omega)]
  simp only [Option.bind_some]
  by_cases h1 : g.length = 4
  · rw [if_pos (by omega)]
    by_cases h2 : c.length = 8
    · rw [if_pos (by omega)]
      have e1 : decide ((c.length : Int) ≤ 8) = true := by simp; omega
      rw [e1]
      by_cases h3 : s.length ≤ 20
      · have e2 : decide ((s.length : Int) ≤ 20) = true := by simp; omega
        rw [e2]
        by_cases h4 : d.length ≤ 40
        · have h5 : (d.length : Int) ≤ 40 := by omega
          rw [show (if (d.length : Int) ≤ 40 then some (!!d.all deedOK) else some false) = some (d.all deedOK) by rw [if_pos h5]; simp]
          generalize d.all deedOK = q
          cases c.all isCell <;> cases s.all isCell <;> cases inR n 0 2147483647 <;> cases q <;> simp [h1, h2, h3, h4]
        · have h5 : ¬ (d.length : Int) ≤ 40 := by omega
          rw [show (if (d.length : Int) ≤ 40 then some (!!d.all deedOK) else some false) = some false by rw [if_neg h5]]
          cases c.all isCell <;> cases s.all isCell <;> cases inR n 0 2147483647 <;> simp [h1, h2, h3, h4]
      · have e2 : decide ((s.length : Int) ≤ 20) = false := by simp; omega
        rw [e2]
        cases c.all isCell <;> simp [h3]
    · rw [if_neg (by omega)]
      simp [h2]
  · rw [if_neg (by omega)]
    simp [h1]
/-- m, m + 1, .. : what marking leaves. -/
def marks (m : Int) (n : Nat) : List Int := (List.range n).map fun (j : Nat) => m + (j : Int)
theorem marks_length (m : Int) (n : Nat) : (marks m n).length = n := by simp [marks]
theorem marks_get (m : Int) (n i : Nat) (h : i < n) : (marks m n).getD i 0 = m + (i : Int) := by
  simp [marks, List.getD_eq_getElem?_getD, h]
theorem marks_snoc (m : Int) (n : Nat) : marks m (n + 1) = marks m n ++ [m + (n : Int)] := by simp [marks, List.range_succ]
theorem laws_markIntS_eq (l : List Int) (hl : l.length ≤ 1048576) (m : Int) (h0 : 0 ≤ m) (h1 : m ≤ 1099511627776) (k : Nat) (hk : l.length < k) : laws_markIntS.f k l m = some (m + (l.length : Int), marks m l.length) := by
  unfold laws_markIntS.f
  have key : ∀ d k (i : Nat), i + d = l.length → d < k → laws_markIntS.l0 k (marks m i ++ l.drop i) (m + (i : Int)) (i : Int) = some (m + (l.length : Int), marks m l.length) := by
    intro d
    induction d with
    | zero =>
      intro k i h hk
      obtain ⟨k, rfl⟩ : ∃ m, k = m + 1 := ⟨k - 1, by omega⟩
      simp only [laws_markIntS.l0]
      rw [if_neg (by simp [marks_length]; omega)]
      obtain rfl : i = l.length := by omega
      simp
    | succ d ih =>
      intro k i h hk
      obtain ⟨k, rfl⟩ : ∃ m, k = m + 1 := ⟨k - 1, by omega⟩
      simp only [laws_markIntS.l0]
      rw [if_pos (by simp [marks_length]; omega), if_pos (by omega), Int.toNat_natCast]
      have e : (marks m i ++ l.drop i).set i (m + (i : Int)) = marks m (i + 1) ++ l.drop (i + 1) := by
        rw [List.set_append, if_neg (by rw [marks_length]; omega), marks_length, Nat.sub_self, List.drop_eq_getElem_cons (by omega : i < l.length), List.set_cons_zero, marks_snoc, List.append_assoc]
        rfl
      rw [e, w64 (by omega), w64 (by omega), show m + (i : Int) + 1 = m + ((i + 1 : Nat) : Int) by omega, show (i : Int) + 1 = ((i + 1 : Nat) : Int) by omega]
      exact ih k (i + 1) (by omega) (by omega)
  have h := key l.length k 0 (by omega) hk
  simpa [marks] using h
theorem laws_heldIntS_eq (n : Nat) (hn : n ≤ 1048576) (m : Int) (h0 : 0 ≤ m) (h1 : m ≤ 1099511627776) (k : Nat) (hk : n < k) : laws_heldIntS.f k (marks m n) m = some (m + (n : Int)) := by
  unfold laws_heldIntS.f
  have key : ∀ d k (i : Nat), i + d = n → d < k → laws_heldIntS.l0 k (marks m n) (m + (i : Int)) (i : Int) = some (m + (n : Int)) := by
    intro d
    induction d with
    | zero =>
      intro k i h hk
      obtain ⟨k, rfl⟩ : ∃ m, k = m + 1 := ⟨k - 1, by omega⟩
      simp only [laws_heldIntS.l0]
      rw [if_neg (by rw [marks_length]; omega)]
      obtain rfl : i = n := by omega
      rfl
    | succ d ih =>
      intro k i h hk
      obtain ⟨k, rfl⟩ : ∃ m, k = m + 1 := ⟨k - 1, by omega⟩
      simp only [laws_heldIntS.l0]
      rw [if_pos (by rw [marks_length]; omega), if_pos (by omega), rd_nat, marks_get m n i (by omega), if_pos rfl, w64 (by omega), w64 (by omega), show m + (i : Int) + 1 = m + ((i + 1 : Nat) : Int) by omega, show (i : Int) + 1 = ((i + 1 : Nat) : Int) by omega]
      exact ih k (i + 1) (by omega) (by omega)
  have h := key n k 0 (by omega) hk
  simpa using h
theorem range_set {α : Type} (g : Nat → α) (x : List α) (i : Nat) (h : i < x.length) : ((List.range i).map g ++ x.drop i).set i (g i) = (List.range (i + 1)).map g ++ x.drop (i + 1) := by
  rw [List.set_append, if_neg (by simp), List.length_map, List.length_range, Nat.sub_self, List.drop_eq_getElem_cons h, List.set_cons_zero, List.range_succ, List.map_append, List.append_assoc]
  rfl
/-- A loop that writes each element anew. -/
theorem mark_loop {α : Type} (F : Nat → List α → Int → Int → Option (Int × List α)) (n : Nat) (mm : Nat → Int) (g : Nat → α)
    (hs : ∀ k (x : List α) (i : Nat), i < n → x.length = n → F (k + 1) x (mm i) i = F k (x.set i (g i)) (mm (i + 1)) ((i : Int) + 1))
    (he : ∀ k (x : List α), x.length = n → F (k + 1) x (mm n) (n : Int) = some (mm n, x)) (x0 : List α) (hx : x0.length = n) (k : Nat) (hk : n < k) : F k x0 (mm 0) 0 = some (mm n, (List.range n).map g) := by
  have key : ∀ d k (i : Nat), i + d = n → d < k → F k ((List.range i).map g ++ x0.drop i) (mm i) (i : Int) = some (mm n, (List.range n).map g) := by
    intro d
    induction d with
    | zero =>
      intro k i h hk
      obtain ⟨k, rfl⟩ : ∃ m, k = m + 1 := ⟨k - 1, by omega⟩
      obtain rfl : i = n := by omega
      rw [he _ _ (by simp; omega), List.drop_of_length_le (by omega)]
      simp
    | succ d ih =>
      intro k i h hk
      obtain ⟨k, rfl⟩ : ∃ m, k = m + 1 := ⟨k - 1, by omega⟩
      rw [hs k _ i (by omega) (by simp; omega), range_set g x0 i (by omega), show (i : Int) + 1 = ((i + 1 : Nat) : Int) by omega]
      exact ih k (i + 1) (by omega) (by omega)
  have h := key n k 0 (by omega) hk
  simpa using h
/-- A loop that looks whether each element is what was written. -/
theorem held_loop (F : Nat → Int → Int → Option Int) (n : Nat) (mm : Nat → Int)
    (hs : ∀ k (i : Nat), i < n → F (k + 1) (mm i) i = F k (mm (i + 1)) ((i : Int) + 1))
    (he : ∀ k, F (k + 1) (mm n) (n : Int) = some (mm n)) (k : Nat) (hk : n < k) : F k (mm 0) 0 = some (mm n) := by
  have key : ∀ d k (i : Nat), i + d = n → d < k → F k (mm i) (i : Int) = some (mm n) := by
    intro d
    induction d with
    | zero =>
      intro k i h hk
      obtain ⟨k, rfl⟩ : ∃ m, k = m + 1 := ⟨k - 1, by omega⟩
      obtain rfl : i = n := by omega
      rw [he]
    | succ d ih =>
      intro k i h hk
      obtain ⟨k, rfl⟩ : ∃ m, k = m + 1 := ⟨k - 1, by omega⟩
      rw [hs k i (by omega), show (i : Int) + 1 = ((i + 1 : Nat) : Int) by omega]
      exact ih k (i + 1) (by omega) (by omega)
  exact key n k 0 (by omega) hk
theorem range_getD {α : Type} (g : Nat → α) (z : α) (n i : Nat) (h : i < n) : ((List.range n).map g).getD i z = g i := by
  simp [List.getD_eq_getElem?_getD, List.getElem?_map, List.getElem?_range h]
def marksB (m : Int) (n : Nat) : List Bool := (List.range n).map fun (j : Nat) => Int.tmod (m + (j : Int)) 3 == 0
def markD (m : Int) (j : Nat) : S68 := ⟨m + 4 * (j : Int), m + 4 * (j : Int) + 1, m + 4 * (j : Int) + 1 + 1, m + 4 * (j : Int) + 1 + 1 + 1⟩
def marksD (m : Int) (n : Nat) : List S68 := (List.range n).map (markD m)
theorem laws_markBoolS_eq (l : List Bool) (hl : l.length ≤ 1048576) (m : Int) (h0 : 0 ≤ m) (h1 : m ≤ 1099511627776) (k : Nat) (hk : l.length < k) : laws_markBoolS.f k l m = some (m + (l.length : Int), marksB m l.length) := by
  have h := mark_loop (fun k x m i => laws_markBoolS.l0 k x m i) l.length (fun i => m + (i : Int)) (fun j => Int.tmod (m + (j : Int)) 3 == 0) (fun k x i hi hx => by
    simp only [laws_markBoolS.l0]
    rw [if_pos (by omega), if_pos (by omega), Int.toNat_natCast, w64 (by omega), w64 (by omega), show m + ((i + 1 : Nat) : Int) = m + (i : Int) + 1 by omega]) (fun k x hx => by
    simp only [laws_markBoolS.l0]
    rw [if_neg (by omega)]) l rfl k hk
  simpa [laws_markBoolS.f, marksB] using h
theorem set_getD (l : List S68) (i : Nat) (v : S68) (h : i < l.length) : (l.set i v).getD i z68 = v := by
  simp [List.getD_eq_getElem?_getD, h]
theorem laws_markDeedS_eq (l : List S68) (hl : l.length ≤ 1048576) (m : Int) (h0 : 0 ≤ m) (h1 : m ≤ 1099511627776) (k : Nat) (hk : l.length < k) : laws_markDeedS.f k l m = some (m + 4 * (l.length : Int), marksD m l.length) := by
  have h := mark_loop (fun k x m i => laws_markDeedS.l0 k x m i) l.length (fun i => m + 4 * (i : Int)) (markD m) (fun k x i hi hx => by
    simp only [laws_markDeedS.l0, Option.bind_some]
    rw [if_pos (by omega), if_pos (by omega), Int.toNat_natCast]
    simp only [rd68_nat]
    rw [set_getD _ _ _ (by omega)]
    simp only [List.set_set]
    rw [set_getD _ _ _ (by omega), set_getD _ _ _ (by omega)]
    rw [w64 (show -9223372036854775808 ≤ m + 4 * (i : Int) + 1 ∧ m + 4 * (i : Int) + 1 ≤ 9223372036854775807 by omega), w64 (show -9223372036854775808 ≤ m + 4 * (i : Int) + 1 + 1 ∧ m + 4 * (i : Int) + 1 + 1 ≤ 9223372036854775807 by omega), w64 (show -9223372036854775808 ≤ m + 4 * (i : Int) + 1 + 1 + 1 ∧ m + 4 * (i : Int) + 1 + 1 + 1 ≤ 9223372036854775807 by omega), w64 (show -9223372036854775808 ≤ m + 4 * (i : Int) + 1 + 1 + 1 + 1 ∧ m + 4 * (i : Int) + 1 + 1 + 1 + 1 ≤ 9223372036854775807 by omega), w64 (show -9223372036854775808 ≤ (i : Int) + 1 ∧ (i : Int) + 1 ≤ 9223372036854775807 by omega), show m + 4 * ((i + 1 : Nat) : Int) = m + 4 * (i : Int) + 1 + 1 + 1 + 1 by omega]
    rfl) (fun k x hx => by
    simp only [laws_markDeedS.l0]
    rw [if_neg (by omega)]) l rfl k hk
  simpa [laws_markDeedS.f, marksD] using h
theorem laws_heldBoolS_eq (n : Nat) (hn : n ≤ 1048576) (m : Int) (h0 : 0 ≤ m) (h1 : m ≤ 1099511627776) (k : Nat) (hk : n < k) : laws_heldBoolS.f k (marksB m n) m = some (m + (n : Int)) := by
  have hl : (marksB m n).length = n := by simp [marksB]
  have h := held_loop (fun k m' i => laws_heldBoolS.l0 k (marksB m n) m' i) n (fun i => m + (i : Int)) (fun k i hi => by
    simp only [laws_heldBoolS.l0, hl]
    rw [if_pos (by omega), if_pos (by omega), rdOf_nat, w64 (by omega), w64 (by omega), show m + ((i + 1 : Nat) : Int) = m + (i : Int) + 1 by omega]
    rw [show (marksB m n).getD i false = (Int.tmod (m + (i : Int)) 3 == 0) from range_getD _ _ n i hi]
    simp) (fun k => by
    simp only [laws_heldBoolS.l0, hl]
    rw [if_neg (by omega)]) k hk
  simpa [laws_heldBoolS.f] using h
theorem laws_heldDeedS_eq (n : Nat) (hn : n ≤ 1048576) (m : Int) (h0 : 0 ≤ m) (h1 : m ≤ 1099511627776) (k : Nat) (hk : n < k) : laws_heldDeedS.f k (marksD m n) m = some (m + 4 * (n : Int)) := by
  have hl : (marksD m n).length = n := by simp [marksD]
  have h := held_loop (fun k m' i => laws_heldDeedS.l0 k (marksD m n) m' i) n (fun i => m + 4 * (i : Int)) (fun k i hi => by
    simp only [laws_heldDeedS.l0, hl]
    rw [if_pos (by omega), if_pos (by omega), rd68_nat]
    rw [show (marksD m n).getD i z68 = markD m i from range_getD _ _ n i hi]
    rw [w64 (show -9223372036854775808 ≤ m + 4 * (i : Int) + 1 ∧ m + 4 * (i : Int) + 1 ≤ 9223372036854775807 by omega), w64 (show -9223372036854775808 ≤ m + 4 * (i : Int) + 1 + 1 ∧ m + 4 * (i : Int) + 1 + 1 ≤ 9223372036854775807 by omega), w64 (show -9223372036854775808 ≤ m + 4 * (i : Int) + 1 + 1 + 1 ∧ m + 4 * (i : Int) + 1 + 1 + 1 ≤ 9223372036854775807 by omega), w64 (show -9223372036854775808 ≤ m + 4 * (i : Int) + 1 + 1 + 1 + 1 ∧ m + 4 * (i : Int) + 1 + 1 + 1 + 1 ≤ 9223372036854775807 by omega), w64 (show -9223372036854775808 ≤ (i : Int) + 1 ∧ (i : Int) + 1 ≤ 9223372036854775807 by omega), show m + 4 * ((i + 1 : Nat) : Int) = m + 4 * (i : Int) + 1 + 1 + 1 + 1 by omega]
    simp only [markD, if_true]) (fun k => by
    simp only [laws_heldDeedS.l0, hl]
    rw [if_neg (by omega)]) k hk
  simpa [laws_heldDeedS.f] using h
theorem laws_markHost_eq (g : List Bool) (c s : List Int) (n : Int) (d : List S68) (hg : g.length ≤ 1048576) (hc : c.length ≤ 1048576) (hs : s.length ≤ 1048576) (hd : d.length ≤ 1048576) (m : Int) (h0 : 0 ≤ m) (h1 : m ≤ 1000) (k : Nat) (hk : 1048576 < k) :
    laws_markHost.f k g c s n d m = some (m + (g.length : Int) + (c.length : Int) + (s.length : Int) + 4 * (d.length : Int), marksB m g.length, marks (m + (g.length : Int)) c.length, marks (m + (g.length : Int) + (c.length : Int)) s.length, marksD (m + (g.length : Int) + (c.length : Int) + (s.length : Int)) d.length) := by
  unfold laws_markHost.f
  rw [laws_markBoolS_eq g hg m (by omega) (by omega) k (by omega), Option.bind_some, laws_markIntS_eq c hc _ (by omega) (by omega) k (by omega), Option.bind_some, laws_markIntS_eq s hs _ (by omega) (by omega) k (by omega), Option.bind_some, laws_markDeedS_eq d hd _ (by omega) (by omega) k (by omega)]
  rfl
theorem laws_heldHost_eq (a b c d : Nat) (n : Int) (ha : a ≤ 1048576) (hb : b ≤ 1048576) (hc : c ≤ 1048576) (hd : d ≤ 1048576) (m : Int) (h0 : 0 ≤ m) (h1 : m ≤ 1000) (k : Nat) (hk : 1048576 < k) :
    laws_heldHost.f k (marksB m a) (marks (m + (a : Int)) b) (marks (m + (a : Int) + (b : Int)) c) n (marksD (m + (a : Int) + (b : Int) + (c : Int)) d) m = some (m + (a : Int) + (b : Int) + (c : Int) + 4 * (d : Int)) := by
  unfold laws_heldHost.f
  rw [laws_heldBoolS_eq a ha m (by omega) (by omega) k (by omega), Option.bind_some, if_neg (by omega), laws_heldIntS_eq b hb _ (by omega) (by omega) k (by omega), Option.bind_some, if_neg (by omega), laws_heldIntS_eq c hc _ (by omega) (by omega) k (by omega), Option.bind_some, if_neg (by omega), laws_heldDeedS_eq d hd _ (by omega) (by omega) k (by omega), Option.bind_some, if_neg (by omega)]
/-- The host with the grant, and the code. -/
def granted (g : List Bool) (c s : List Int) (n : Int) (d : List S68) (a : Int) (b : Bool) : List Bool × List Int × List Int × Int × List S68 × Int :=
  if hostOK g c s n d = true then (if inR a 0 3 = true then (g.set a.toNat b, c, s, n, d, 0) else ([], [], [], 0, [], 9)) else ([], [], [], 0, [], 1)
theorem hostOK_len {g : List Bool} {c s : List Int} {n : Int} {d : List S68} (h : hostOK g c s n d = true) : g.length = 4 ∧ c.length = 8 ∧ s.length ≤ 20 ∧ d.length ≤ 40 := by
  unfold hostOK at h
  simp only [Bool.and_eq_true, decide_eq_true_eq] at h
  obtain ⟨⟨⟨⟨⟨⟨⟨h1, h2⟩, h3⟩, h4⟩, _⟩, _⟩, _⟩, _⟩ := h
  exact ⟨h1, h2, h3, h4⟩
theorem spec_Grant_eq (g : List Bool) (c s : List Int) (n : Int) (d : List S68) (a : Int) (b : Bool) (hg : g.length ≤ 1048576) (hc : c.length ≤ 1048576) (hs : s.length ≤ 1048576) (hd : d.length ≤ 1048576) (k : Nat) (hk : 1048577 < k) :
    spec_GrantCap.f k g c s n d a b = some (granted g c s n d a b) := by
  unfold spec_GrantCap.f granted
  rw [spec_l06OK_eq g c s n d hg hc hs hd k hk, spec_l01In_eq]
  simp only [Option.bind_some]
  by_cases h1 : hostOK g c s n d = true
  · obtain ⟨l1, l2, l3, l4⟩ := hostOK_len h1
    rw [if_pos h1, if_pos h1]
    by_cases h2 : inR a 0 3 = true
    · have h3 := inR_iff.mp h2
      rw [if_pos h2, if_pos h2]
      unfold spec_l06Grant.f spec_l06Own.f
      simp only [Option.bind_some, List.length_nil, List.nil_append]
      rw [if_pos (by omega), if_pos (by omega), if_pos (by omega), if_pos (by omega)]
      simp only [Option.bind_some]
      rw [if_pos (by omega), if_pos (by omega)]
      rfl
    · rw [if_neg h2, if_neg h2]
  · rw [if_neg h1, if_neg h1]
theorem impl_Grant_eq (g : List Bool) (c s : List Int) (n : Int) (d : List S68) (a : Int) (b : Bool) (hg : g.length ≤ 1048576) (hc : c.length ≤ 1048576) (hs : s.length ≤ 1048576) (hd : d.length ≤ 1048576) (k : Nat) (hk : 1048577 < k) :
    impl_GrantCap.f k g c s n d a b = some (granted g c s n d a b) := by
  unfold impl_GrantCap.f granted impl_isCap.f
  rw [impl_HostOK_eq g c s n d hg hc hs hd k (by omega), impl_in_eq]
  simp only [Option.bind_some]
  by_cases h1 : hostOK g c s n d = true
  · obtain ⟨l1, l2, l3, l4⟩ := hostOK_len h1
    rw [if_pos h1, if_pos h1]
    by_cases h2 : inR a 0 3 = true
    · have h3 := inR_iff.mp h2
      rw [if_pos h2, if_pos h2]
      unfold impl_Host_copied.f slices_Clone_bool.f slices_Clone_int.f slices_Clone_Deed.f
      rw [if_pos (by omega), if_pos (by omega), if_pos (by omega), if_pos (by omega)]
      simp only [Option.bind_some]
      rw [if_pos (by omega), if_pos (by omega)]
    · rw [if_neg h2, if_neg h2]
  · rw [if_neg h1, if_neg h1]
theorem granted_len (g : List Bool) (c s : List Int) (n : Int) (d : List S68) (a : Int) (b : Bool) : (granted g c s n d a b).1.length ≤ 4 ∧ (granted g c s n d a b).2.1.length ≤ 8 ∧ (granted g c s n d a b).2.2.1.length ≤ 20 ∧ (granted g c s n d a b).2.2.2.2.1.length ≤ 40 := by
  unfold granted
  by_cases h1 : hostOK g c s n d = true
  · obtain ⟨l1, l2, l3, l4⟩ := hostOK_len h1
    rw [if_pos h1]
    by_cases h2 : inR a 0 3 = true
    · rw [if_pos h2]
      simp only [List.length_set]
      omega
    · rw [if_neg h2]
      simp
  · rw [if_neg h1]
    simp
theorem FnExactGrantCap : laws_FnExactGrantCap.Pure := by
  intro g c s n d a b hg hc hs _ hd _
  refine ⟨1048600, ?_⟩
  obtain ⟨t, ht, _, htb⟩ := laws_szHost_eq g c s n d 1048576 (by omega) (by omega) hg.1 hc.1 hs.1 hd.1
  unfold laws_FnExactGrantCap.f
  rw [ht, Option.bind_some]
  by_cases h1 : t < 0
  · rw [if_pos h1]
  · obtain ⟨b1, b2, b3, b4⟩ := htb h1
    have b5 : (d.map toD).length ≤ 1048576 := by simpa using b4
    rw [if_neg h1, laws_toHost_eq g c s n d b1 b2 b3 b4 _ (by omega)]
    simp only [Option.bind_some]
    rw [spec_Grant_eq g c s n _ a b b1 b2 b3 b5 _ (by omega), impl_Grant_eq g c s n _ a b b1 b2 b3 b5 _ (by omega)]
    have hl := granted_len g c s n (d.map toD) a b
    generalize granted g c s n (d.map toD) a b = q at hl
    obtain ⟨q1, q2, q3, q4, q5, q6⟩ := q
    simp only at hl
    obtain ⟨l1, l2, l3, l4⟩ := hl
    simp only [Option.bind_some]
    rw [laws_eqHost_refl q1 q2 q3 q4 q5 (by omega) (by omega) (by omega) (by omega) _ (by omega), laws_eqHost_refl g c s n _ b1 b2 b3 b5 _ (by omega), laws_markHost_eq g c s n _ b1 b2 b3 b5 1 (by omega) (by omega) _ (by omega), laws_markHost_eq q1 q2 q3 q4 q5 (by omega) (by omega) (by omega) (by omega) 1 (by omega) (by omega) _ (by omega)]
    simp only [Option.bind_some, if_true]
    rw [if_neg (by omega), laws_heldHost_eq q1.length q2.length q3.length q5.length q4 (by omega) (by omega) (by omega) (by omega) 1 (by omega) (by omega) _ (by omega)]
    simp only [Option.bind_some, if_true]
    rw [if_neg (by omega), if_neg (by omega)]
end Go.Proofs.Ytbdcdmbnhialcaa.Pure
