/- The law FnExactNewData answers true: new data are the reference's, and in new memory. No condition. -/
import Derived.Test.YtcelnpmahnblpaaPFnExactNewDatax1
namespace Go.Proofs.Ytcelnpmahnblpaa.Pure
open Go.RowKit Go.Proofs.Ytcelnpmahnblpaa.PFnExactNewData Go.Proofs.YtcelnpmahnblpaaW.PrintWords Go.Proofs.YtcelnpmahnblpaaW.PrintLast
set_option linter.unusedSimpArgs false
set_option linter.unusedVariables false

theorem bd64 {n : Int} (h : (Lit.int .i64 n).wf = true) : -9223372036854775808 ≤ n ∧ n ≤ 9223372036854775807 := by
  simp [Lit.wf, IntKind.min, IntKind.max, IntKind.signed, IntKind.bits] at h
  omega
/-- n lies from lo to hi. -/
def inR (n lo hi : Int) : Bool := decide (lo ≤ n ∧ n ≤ hi)
/-- A cell: 32 bits with a sign. -/
def isCell (n : Int) : Bool := decide (-2147483648 ≤ n ∧ n ≤ 2147483647)
theorem isCell_iff {n : Int} : isCell n = true ↔ (-2147483648 ≤ n ∧ n ≤ 2147483647) := by simp [isCell]
theorem inR_iff {n lo hi : Int} : inR n lo hi = true ↔ (lo ≤ n ∧ n ≤ hi) := by simp [inR]
theorem w64 {n : Int} (h : -9223372036854775808 ≤ n ∧ n ≤ 9223372036854775807) : wrap64 n = n := by unfold wrap64; omega
theorem w64_cell (n : Int) : wrap64 (wrap32 n) = wrap32 n := by unfold wrap64 wrap32; omega
theorem w32_cell {n : Int} (h : isCell n = true) : wrap32 n = n := by rw [isCell_iff] at h; unfold wrap32; omega
theorem cell_w32 (n : Int) : isCell (wrap32 n) = true := by rw [isCell_iff]; unfold wrap32; omega
theorem w32_eq (n : Int) : (wrap32 n == n) = isCell n := by
  rw [Bool.eq_iff_iff, isCell_iff]
  simp only [beq_iff_eq]
  unfold wrap32
  omega
/-- All of d numbers from i on. -/
def allF (P : Nat → Bool) : Nat → Nat → Bool
  | 0, _ => true
  | d + 1, i => P i && allF P d (i + 1)
theorem allF_congr {P Q : Nat → Bool} : ∀ d i, (∀ j, i ≤ j → j < i + d → P j = Q j) → allF P d i = allF Q d i
  | 0, _, _ => rfl
  | d + 1, i, h => by
    simp only [allF]
    rw [h i (Nat.le_refl _) (by omega), allF_congr d (i + 1) (fun j h1 h2 => h j (by omega) (by omega))]
theorem allF_true {P : Nat → Bool} : ∀ d i, (∀ j, i ≤ j → j < i + d → P j = true) → allF P d i = true
  | 0, _, _ => rfl
  | d + 1, i, h => by
    simp only [allF]
    rw [h i (Nat.le_refl _) (by omega), allF_true d (i + 1) (fun j h1 h2 => h j (by omega) (by omega))]
    rfl
theorem allF_all {α : Type} (p : α → Bool) (z : α) (l : List α) : ∀ d i, i + d = l.length → allF (fun j => p (l.getD j z)) d i = (l.drop i).all p
  | 0, i, h => by simp [allF, List.drop_of_length_le (show l.length ≤ i by omega)]
  | d + 1, i, h => by
    simp only [allF]
    rw [allF_all p z l d (i + 1) (by omega), List.drop_eq_getElem_cons (by omega : i < l.length), List.all_cons]
    simp [List.getD_eq_getElem?_getD, List.getElem?_eq_getElem (by omega : i < l.length)]
/-- A loop that leaves with false at the first number of which P does not hold. -/
theorem loop_all (F : Nat → Int → Option Bool) (n : Nat) (P : Nat → Bool) (fin : Bool)
    (hs : ∀ k (i : Nat), i < n → F (k + 1) i = if P i = true then F k ((i : Int) + 1) else some false) (he : ∀ k, F (k + 1) (n : Int) = some fin) :
    ∀ d k (i : Nat), i + d = n → d < k → F k i = some (allF P d i && fin)
  | 0, k, i, h, hk => by
    obtain ⟨k, rfl⟩ : ∃ m, k = m + 1 := ⟨k - 1, by omega⟩
    obtain rfl : i = n := by omega
    rw [he]
    simp [allF]
  | d + 1, k, i, h, hk => by
    obtain ⟨k, rfl⟩ : ∃ m, k = m + 1 := ⟨k - 1, by omega⟩
    rw [hs k i (by omega)]
    have ih := loop_all F n P fin hs he d k (i + 1) (by omega) (by omega)
    rw [show ((i + 1 : Nat) : Int) = (i : Int) + 1 by omega] at ih
    rw [ih]
    cases hp : P i <;> simp [allF, hp]
theorem loop_all0 (F : Nat → Int → Option Bool) (n : Nat) (P : Nat → Bool) (fin : Bool)
    (hs : ∀ k (i : Nat), i < n → F (k + 1) i = if P i = true then F k ((i : Int) + 1) else some false) (he : ∀ k, F (k + 1) (n : Int) = some fin) (k : Nat) (hk : n < k) : F k 0 = some (allF P n 0 && fin) :=
  loop_all F n P fin hs he n k 0 (by omega) hk
theorem rd_nat (l : List Int) (i : Nat) : rd l (i : Int) = l.getD i 0 := by simp [rd]
/-- Lists that agree at each place. -/
theorem list_eq_iff (a b : List Int) (h : a.length = b.length) : decide (a = b) = allF (fun j => decide (a.getD j 0 = b.getD j 0)) a.length 0 := by
  rw [Bool.eq_iff_iff, decide_eq_true_eq]
  constructor
  · rintro rfl
    exact allF_true _ _ (fun j _ _ => by simp)
  · intro ha
    have key : ∀ d i, i + d = a.length → allF (fun j => decide (a.getD j 0 = b.getD j 0)) d i = true → ∀ j, i ≤ j → j < a.length → a.getD j 0 = b.getD j 0 := by
      intro d
      induction d with
      | zero => intro i hi _ j h1 h2; omega
      | succ d ih =>
        intro i hi hh j h1 h2
        simp only [allF, Bool.and_eq_true, decide_eq_true_eq] at hh
        rcases Nat.eq_or_lt_of_le h1 with rfl | h3
        · exact hh.1
        · exact ih (i + 1) (by omega) hh.2 j (by omega) h2
    apply List.ext_getElem h
    intro i h1 h2
    have := key a.length 0 (by omega) ha i (by omega) h1
    simpa [List.getD_eq_getElem?_getD, List.getElem?_eq_getElem h1, List.getElem?_eq_getElem h2] using this
theorem laws_eqIntS_eq (a b : List Int) (ha : a.length ≤ 1048576) (k : Nat) (hk : a.length < k) : laws_eqIntS.f k a b = some (decide (a = b)) := by
  unfold laws_eqIntS.f
  by_cases h : (a.length : Int) = (b.length : Int)
  · have h' : a.length = b.length := by omega
    rw [if_pos h, list_eq_iff a b h']
    have hl := loop_all0 (fun k i => laws_eqIntS.l0 k a b i) a.length (fun j => decide (a.getD j 0 = b.getD j 0)) true (fun k i hi => by
      simp only [laws_eqIntS.l0]
      rw [if_pos (by omega), if_pos (by omega), if_pos (by omega), rd_nat, rd_nat, w64 (by omega)]
      by_cases h3 : a.getD i 0 = b.getD i 0 <;> simp [h3]) (fun k => by
      simp only [laws_eqIntS.l0]
      rw [if_neg (by omega)]) k hk
    rw [hl, Bool.and_true]
  · rw [if_neg h]
    have h2 : ¬ a = b := by rintro rfl; exact h rfl
    simp [h2]
/-- m, m + 1, .. : what marking leaves. -/
def marks (m : Int) (n : Nat) : List Int := (List.range n).map fun (j : Nat) => m + (j : Int)
theorem marks_length (m : Int) (n : Nat) : (marks m n).length = n := by simp [marks]
theorem marks_get (m : Int) (n i : Nat) (h : i < n) : (marks m n).getD i 0 = m + (i : Int) := by
  simp [marks, List.getD_eq_getElem?_getD, h]
theorem marks_snoc (m : Int) (n : Nat) : marks m (n + 1) = marks m n ++ [m + (n : Int)] := by simp [marks, List.range_succ]
theorem laws_markIntS_eq (l : List Int) (hl : l.length ≤ 1048576) (m : Int) (h0 : 0 ≤ m) (h1 : m ≤ 1099511627776) (k : Nat) (hk : l.length < k) : laws_markIntS.f k l m = some (m + (l.length : Int), marks m l.length) := by
  unfold laws_markIntS.f
  have key : ∀ d k (i : Nat), i + d = l.length → d < k → laws_markIntS.l0 k (marks m i ++ l.drop i) (m + (i : Int)) (i : Int) = some (m + (l.length : Int), marks m l.length) := by
    intro d
    induction d with
    | zero =>
      intro k i h hk
      obtain ⟨k, rfl⟩ : ∃ m, k = m + 1 := ⟨k - 1, by omega⟩
      simp only [laws_markIntS.l0]
      rw [if_neg (by simp [marks_length]; omega)]
      obtain rfl : i = l.length := by omega
      simp
    | succ d ih =>
      intro k i h hk
      obtain ⟨k, rfl⟩ : ∃ m, k = m + 1 := ⟨k - 1, by omega⟩
      simp only [laws_markIntS.l0]
      rw [if_pos (by simp [marks_length]; omega), if_pos (by omega), Int.toNat_natCast]
      have e : (marks m i ++ l.drop i).set i (m + (i : Int)) = marks m (i + 1) ++ l.drop (i + 1) := by
        rw [List.set_append, if_neg (by rw [marks_length]; omega), marks_length, Nat.sub_self, List.drop_eq_getElem_cons (by omega : i < l.length), List.set_cons_zero, marks_snoc, List.append_assoc]
        rfl
      rw [e, w64 (by omega), w64 (by omega), show m + (i : Int) + 1 = m + ((i + 1 : Nat) : Int) by omega, show (i : Int) + 1 = ((i + 1 : Nat) : Int) by omega]
      exact ih k (i + 1) (by omega) (by omega)
  have h := key l.length k 0 (by omega) hk
  simpa [marks] using h
theorem laws_heldIntS_eq (n : Nat) (hn : n ≤ 1048576) (m : Int) (h0 : 0 ≤ m) (h1 : m ≤ 1099511627776) (k : Nat) (hk : n < k) : laws_heldIntS.f k (marks m n) m = some (m + (n : Int)) := by
  unfold laws_heldIntS.f
  have key : ∀ d k (i : Nat), i + d = n → d < k → laws_heldIntS.l0 k (marks m n) (m + (i : Int)) (i : Int) = some (m + (n : Int)) := by
    intro d
    induction d with
    | zero =>
      intro k i h hk
      obtain ⟨k, rfl⟩ : ∃ m, k = m + 1 := ⟨k - 1, by omega⟩
      simp only [laws_heldIntS.l0]
      rw [if_neg (by rw [marks_length]; omega)]
      obtain rfl : i = n := by omega
      rfl
    | succ d ih =>
      intro k i h hk
      obtain ⟨k, rfl⟩ : ∃ m, k = m + 1 := ⟨k - 1, by omega⟩
      simp only [laws_heldIntS.l0]
      rw [if_pos (by rw [marks_length]; omega), if_pos (by omega), rd_nat, marks_get m n i (by omega), if_pos rfl, w64 (by omega), w64 (by omega), show m + (i : Int) + 1 = m + ((i + 1 : Nat) : Int) by omega, show (i : Int) + 1 = ((i + 1 : Nat) : Int) by omega]
      exact ih k (i + 1) (by omega) (by omega)
  have h := key n k 0 (by omega) hk
  simpa using h
theorem laws_markData_eq (s b c : List Int) (h n : Int) (o : ByteArray) (hs : s.length ≤ 1048576) (hb : b.length ≤ 1048576) (hc : c.length ≤ 1048576) (m : Int) (h0 : 0 ≤ m) (h1 : m ≤ 1000) (k : Nat) (hk : 1048576 < k) :
    laws_markData.f k s b c h n o m = some (m + (s.length : Int) + (b.length : Int) + (c.length : Int), marks m s.length, marks (m + (s.length : Int)) b.length, marks (m + (s.length : Int) + (b.length : Int)) c.length) := by
  unfold laws_markData.f
  rw [laws_markIntS_eq s hs m (by omega) (by omega) k (by omega), Option.bind_some, laws_markIntS_eq b hb _ (by omega) (by omega) k (by omega), Option.bind_some, laws_markIntS_eq c hc _ (by omega) (by omega) k (by omega)]
  rfl
theorem laws_heldData_eq (x y z : Nat) (h n : Int) (o : ByteArray) (hs : x ≤ 1048576) (hb : y ≤ 1048576) (hc : z ≤ 1048576) (m : Int) (h0 : 0 ≤ m) (h1 : m ≤ 1000) (k : Nat) (hk : 1048576 < k) :
    laws_heldData.f k (marks m x) (marks (m + (x : Int)) y) (marks (m + (x : Int) + (y : Int)) z) h n o m = some (m + (x : Int) + (y : Int) + (z : Int)) := by
  unfold laws_heldData.f
  rw [laws_heldIntS_eq x hs m (by omega) (by omega) k (by omega), Option.bind_some, if_neg (by omega), laws_heldIntS_eq y hb _ (by omega) (by omega) k (by omega), Option.bind_some, if_neg (by omega), laws_heldIntS_eq z hc _ (by omega) (by omega) k (by omega), Option.bind_some, if_neg (by omega)]
theorem laws_eqData_refl (s b c : List Int) (h n : Int) (o : ByteArray) (hs : s.length ≤ 1048576) (hb : b.length ≤ 1048576) (hc : c.length ≤ 1048576) (k : Nat) (hk : 1048576 < k) : laws_eqData.f k s b c h n o s b c h n o = some true := by
  unfold laws_eqData.f
  rw [laws_eqIntS_eq s s hs k (by omega), laws_eqIntS_eq b b hb k (by omega), laws_eqIntS_eq c c hc k (by omega)]
  simp
theorem FnExactNewData : laws_FnExactNewData.Pure := by
  refine ⟨1048577, ?_⟩
  have e1 : spec_NewData.f = some ([], [], List.replicate 32 0, 0, 10, ⟨#[]⟩) := rfl
  have e2 : impl_NewData.f = some ([], [], List.replicate 32 0, 0, 10, ⟨#[]⟩) := rfl
  unfold laws_FnExactNewData.f
  rw [e1, e2]
  simp only [Option.bind_some]
  generalize hr : List.replicate 32 (0 : Int) = z
  have hz : z.length = 32 := by rw [← hr]; simp
  rw [laws_eqData_refl [] [] z 0 10 _ (by simp) (by simp) (by omega) _ (by omega), laws_markData_eq [] [] z 0 10 _ (by simp) (by simp) (by omega) 1 (by omega) (by omega) _ (by omega)]
  simp only [Option.bind_some, if_true]
  rw [laws_heldData_eq ([] : List Int).length ([] : List Int).length z.length 0 10 _ (by simp) (by simp) (by omega) 1 (by omega) (by omega) _ (by omega)]
  simp only [Option.bind_some, List.length_nil]
  rw [hz]
  simp
end Go.Proofs.Ytcelnpmahnblpaa.Pure
