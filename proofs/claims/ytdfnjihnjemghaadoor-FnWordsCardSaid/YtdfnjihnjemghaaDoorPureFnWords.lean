/- The law FnWords answers true for all draws: a line's words are the document's, and names are told alike in great and small letters. No condition. -/
import Derived.Test.YtdfnjihnjemghaaDoorPWordsx6
namespace Go.Proofs.YtdfnjihnjemghaaDoor.Pure
open Go.RowKit Go.Proofs.YtdfnjihnjemghaaDoor.PWords Go.Proofs.YtdfnjihnjemghaaDoorW.PrintWords Go.Proofs.YtdfnjihnjemghaaDoorW.PrintLast
set_option linter.unusedSimpArgs false
set_option linter.unusedVariables false

theorem bd64 {n : Int} (h : (Lit.int .i64 n).wf = true) : -9223372036854775808 ≤ n ∧ n ≤ 9223372036854775807 := by
  simp [Lit.wf, IntKind.min, IntKind.max, IntKind.signed, IntKind.bits] at h
  omega
/-- n lies from lo to hi. -/
def inR (n lo hi : Int) : Bool := decide (lo ≤ n ∧ n ≤ hi)
/-- A cell: 32 bits with a sign. -/
def isCell (n : Int) : Bool := decide (-2147483648 ≤ n ∧ n ≤ 2147483647)
theorem isCell_iff {n : Int} : isCell n = true ↔ (-2147483648 ≤ n ∧ n ≤ 2147483647) := by simp [isCell]
theorem inR_iff {n lo hi : Int} : inR n lo hi = true ↔ (lo ≤ n ∧ n ≤ hi) := by simp [inR]
theorem w64 {n : Int} (h : -9223372036854775808 ≤ n ∧ n ≤ 9223372036854775807) : wrap64 n = n := by unfold wrap64; omega
theorem w64_cell (n : Int) : wrap64 (wrap32 n) = wrap32 n := by unfold wrap64 wrap32; omega
theorem w32_cell {n : Int} (h : isCell n = true) : wrap32 n = n := by rw [isCell_iff] at h; unfold wrap32; omega
theorem cell_w32 (n : Int) : isCell (wrap32 n) = true := by rw [isCell_iff]; unfold wrap32; omega
theorem w32_eq (n : Int) : (wrap32 n == n) = isCell n := by
  rw [Bool.eq_iff_iff, isCell_iff]
  simp only [beq_iff_eq]
  unfold wrap32
  omega
/-- All of d numbers from i on. -/
def allF (P : Nat → Bool) : Nat → Nat → Bool
  | 0, _ => true
  | d + 1, i => P i && allF P d (i + 1)
theorem allF_congr {P Q : Nat → Bool} : ∀ d i, (∀ j, i ≤ j → j < i + d → P j = Q j) → allF P d i = allF Q d i
  | 0, _, _ => rfl
  | d + 1, i, h => by
    simp only [allF]
    rw [h i (Nat.le_refl _) (by omega), allF_congr d (i + 1) (fun j h1 h2 => h j (by omega) (by omega))]
theorem allF_true {P : Nat → Bool} : ∀ d i, (∀ j, i ≤ j → j < i + d → P j = true) → allF P d i = true
  | 0, _, _ => rfl
  | d + 1, i, h => by
    simp only [allF]
    rw [h i (Nat.le_refl _) (by omega), allF_true d (i + 1) (fun j h1 h2 => h j (by omega) (by omega))]
    rfl
theorem allF_all {α : Type} (p : α → Bool) (z : α) (l : List α) : ∀ d i, i + d = l.length → allF (fun j => p (l.getD j z)) d i = (l.drop i).all p
  | 0, i, h => by simp [allF, List.drop_of_length_le (show l.length ≤ i by omega)]
  | d + 1, i, h => by
    simp only [allF]
    rw [allF_all p z l d (i + 1) (by omega), List.drop_eq_getElem_cons (by omega : i < l.length), List.all_cons]
    simp [List.getD_eq_getElem?_getD, List.getElem?_eq_getElem (by omega : i < l.length)]
/-- A loop that leaves with false at the first number of which P does not hold. -/
theorem loop_all (F : Nat → Int → Option Bool) (n : Nat) (P : Nat → Bool) (fin : Bool)
    (hs : ∀ k (i : Nat), i < n → F (k + 1) i = if P i = true then F k ((i : Int) + 1) else some false) (he : ∀ k, F (k + 1) (n : Int) = some fin) :
    ∀ d k (i : Nat), i + d = n → d < k → F k i = some (allF P d i && fin)
  | 0, k, i, h, hk => by
    obtain ⟨k, rfl⟩ : ∃ m, k = m + 1 := ⟨k - 1, by omega⟩
    obtain rfl : i = n := by omega
    rw [he]
    simp [allF]
  | d + 1, k, i, h, hk => by
    obtain ⟨k, rfl⟩ : ∃ m, k = m + 1 := ⟨k - 1, by omega⟩
    rw [hs k i (by omega)]
    have ih := loop_all F n P fin hs he d k (i + 1) (by omega) (by omega)
    rw [show ((i + 1 : Nat) : Int) = (i : Int) + 1 by omega] at ih
    rw [ih]
    cases hp : P i <;> simp [allF, hp]
theorem loop_all0 (F : Nat → Int → Option Bool) (n : Nat) (P : Nat → Bool) (fin : Bool)
    (hs : ∀ k (i : Nat), i < n → F (k + 1) i = if P i = true then F k ((i : Int) + 1) else some false) (he : ∀ k, F (k + 1) (n : Int) = some fin) (k : Nat) (hk : n < k) : F k 0 = some (allF P n 0 && fin) :=
  loop_all F n P fin hs he n k 0 (by omega) hk
theorem impl_in_eq (a b c : Int) : impl_in.f a b c = some (inR a b c) := by
  unfold impl_in.f
  by_cases h1 : b ≤ a
  · by_cases h3 : a ≤ c <;> simp [inR, h1, h3]
  · simp [inR, h1]
/-- The name of a word. -/
def wordOK (s : ByteArray) : Bool := inR (s.size : Int) 1 12 && allF (fun j => inR (bt s (j : Int)) 33 126) s.size 0
theorem impl_WordOK_eq (s : ByteArray) (hs : s.size ≤ 140737488351232) (k : Nat) (hk : s.size < k) : impl_WordOK.f k s = some (wordOK s) := by
  unfold impl_WordOK.f
  have h := loop_all0 (fun k i => impl_WordOK.l0 k s (s.size : Int) i) s.size (fun j => inR (bt s (j : Int)) 33 126) (inR (s.size : Int) 1 12) (fun k i hi => by
    simp only [impl_WordOK.l0]
    rw [if_pos (by omega), if_pos (by omega), if_pos (by omega), w64 (by omega)]
    by_cases h1 : bt s (i : Int) < 33
    · have h3 : inR (bt s (i : Int)) 33 126 = false := by simp [inR]; omega
      rw [if_pos h1, h3]
      simp
    · by_cases h2 : bt s (i : Int) > 126
      · have h3 : inR (bt s (i : Int)) 33 126 = false := by simp [inR]; omega
        rw [if_neg h1, if_pos h2, h3]
        simp
      · have h3 : inR (bt s (i : Int)) 33 126 = true := by simp [inR]; omega
        rw [if_neg h1, if_neg h2, h3]
        simp) (fun k => by
    simp only [impl_WordOK.l0]
    rw [if_neg (by omega), impl_in_eq]
    rfl) k hk
  rw [h, wordOK, Bool.and_comm]
theorem tm_eq (a b : Int) (h : 0 ≤ a) : Int.tmod a b = a % b := Int.tmod_eq_emod_of_nonneg h
theorem td_eq (a b : Int) (h : 0 ≤ a) : Int.tdiv a b = a / b := Int.tdiv_eq_ediv_of_nonneg h
def Bytes (l : List Int) : Prop := l.length ≤ 1048576 ∧ ∀ i : Nat, i < l.length → 0 ≤ l.getD i 0 ∧ l.getD i 0 ≤ 255
theorem bytes_of {l : List Int} (hl : l.length ≤ 1048576) (h : ∀ x ∈ l, (Lit.int .u8 x).wf = true) : Bytes l := by
  refine ⟨hl, fun i hi => ?_⟩
  have h1 := h (l.getD i 0) (by simp [List.getD_eq_getElem?_getD, List.getElem?_eq_getElem hi])
  simp [Lit.wf, IntKind.min, IntKind.max, IntKind.signed, IntKind.bits] at h1
  rw [List.getD_eq_getElem?_getD]
  omega
def Src (p s : Int) (n : Nat) : Prop := 0 ≤ p ∧ p ≤ (n : Int) ∧ 0 ≤ s ∧ s < 2147483648
theorem byte_some (l : List Int) (hl : Bytes l) (p s : Int) (n : Nat) (hn : n ≤ 1000000000) (h : Src p s n) :
    ∃ r p' s', spec_l00Src_byte.f l p s = some (r, p', s') ∧ 0 ≤ r ∧ r ≤ 255 ∧ Src p' s' (n + 1) := by
  obtain ⟨h1, h2, h3, h4⟩ := h
  have h5 := hl.1
  unfold spec_l00Src_byte.f
  rw [w64 (n := p + 1) (by omega)]
  by_cases c1 : p + 1 ≤ (l.length : Int)
  · rw [if_pos c1, w64 (n := p + 1 - 1) (by omega), if_pos (by omega), if_pos (by omega)]
    have hb := hl.2 p.toNat (by omega)
    have e : rd l (p + 1 - 1) = l.getD p.toNat 0 := by
      simp only [rd]
      rw [show p + 1 - 1 = p by omega]
    rw [e]
    generalize l.getD p.toNat 0 = x at hb
    rw [w64 (n := x) (by omega), w64 (n := s * 31) (by omega), w64 (n := s * 31 + x) (by omega), w64 (n := s * 31 + x + 7) (by omega), tm_eq _ _ (by omega)]
    exact ⟨_, _, _, rfl, by omega, by omega, by omega, by omega, by omega, by omega⟩
  · rw [if_neg c1]
    by_cases c2 : p + 1 > 3000
    · rw [if_pos c2]
      exact ⟨_, _, _, rfl, by omega, by omega, by omega, by omega, by omega, by omega⟩
    · rw [if_neg c2, w64 (n := s * 1103515245) (by omega), w64 (n := s * 1103515245 + 12345) (by omega), tm_eq (s * 1103515245 + 12345) 2147483648 (by omega), td_eq ((s * 1103515245 + 12345) % 2147483648) 65536 (by omega), w64 (n := (s * 1103515245 + 12345) % 2147483648 / 65536) (by omega), tm_eq ((s * 1103515245 + 12345) % 2147483648 / 65536) 256 (by omega)]
      exact ⟨_, _, _, rfl, by omega, by omega, by omega, by omega, by omega, by omega⟩
theorem next_some (l : List Int) (hl : Bytes l) (p s : Int) (n : Nat) (hn : n ≤ 1000000000) (h : Src p s n) (m : Int) (h1 : 1 < m) (h2 : m ≤ 256) :
    ∃ r p' s', spec_l00Src_next.f l p s m = some (r, p', s') ∧ 0 ≤ r ∧ r < m ∧ Src p' s' (n + 1) := by
  obtain ⟨r, p', s', e, r0, r1, hs⟩ := byte_some l hl p s n hn h
  unfold spec_l00Src_next.f
  rw [if_neg (by omega), if_pos h2, e, Option.bind_some, if_neg (by omega), tm_eq _ _ r0]
  exact ⟨_, _, _, rfl, Int.emod_nonneg _ (by omega), Int.emod_lt_of_pos _ (by omega), hs⟩
theorem source_some (l : List Int) (hl : Bytes l) : ∃ s, spec_l00Source.f l = some (l, 0, s) ∧ Src 0 s 0 := by
  have := hl.1
  exact ⟨_, rfl, by omega, by omega, by omega, by omega⟩
theorem bt_data (s : ByteArray) (i : Nat) (h : i < s.size) : bt s (i : Int) = ((s.data.toList.getD i 0).toNat : Int) := by
  have hl : s.size = s.data.toList.length := by simp
  have hj' : i < s.data.toList.length := by omega
  simp only [bt, Int.toNat_natCast]
  rw [dif_pos h]
  simp [List.getD_eq_getElem?_getD, List.getElem?_eq_getElem hj']
  rfl
theorem extract_list (s : ByteArray) (i j : Nat) : (s.extract i j).data.toList = (s.data.toList.drop i).take (j - i) := by
  rw [ByteArray.data_extract, Array.toList_extract, List.extract_eq_take_drop]
/-- What lies between the bytes c of a row. -/
def pcs (c : UInt8) : List UInt8 → List (List UInt8)
  | [] => [[]]
  | b :: l => if b = c then [] :: pcs c l else match pcs c l with
    | p :: ps => (b :: p) :: ps
    | [] => [[b]]
theorem pcs_cons (c : UInt8) : ∀ l, ∃ p ps, pcs c l = p :: ps
  | [] => ⟨[], [], rfl⟩
  | b :: l => by
    obtain ⟨p, ps, h⟩ := pcs_cons c l
    by_cases hb : b = c
    · exact ⟨[], pcs c l, by simp [pcs, hb]⟩
    · exact ⟨b :: p, ps, by simp [pcs, hb, h]⟩
def splitL (c : UInt8) : Nat → List UInt8 → List (List UInt8)
  | 0, l => [l]
  | k + 1, l => if Lib.index l [c] = -1 then [l] else l.take (Lib.index l [c]).toNat :: splitL c k (l.drop ((Lib.index l [c]).toNat + 1))
theorem index_nil (c : UInt8) : Lib.index [] [c] = -1 := by simp [Lib.index]
theorem index_eq (c : UInt8) (l : List UInt8) : Lib.index (c :: l) [c] = 0 := by simp [Lib.index, List.isPrefixOf]
theorem index_ne (b c : UInt8) (l : List UInt8) (h : b ≠ c) : Lib.index (b :: l) [c] = if Lib.index l [c] = -1 then -1 else Lib.index l [c] + 1 := by
  have hp : ([c] : List UInt8).isPrefixOf (b :: l) = false := by simp [List.isPrefixOf, Ne.symm h]
  rw [Lib.index, hp]
  simp
theorem splitL_pcs (c : UInt8) : ∀ l, splitL c (l.count c) l = pcs c l
  | [] => rfl
  | b :: l => by
    have ih := splitL_pcs c l
    by_cases hb : b = c
    · subst hb
      rw [List.count_cons_self]
      simp only [splitL, pcs, if_true]
      rw [index_eq, if_neg (by decide)]
      simp [ih]
    · rw [List.count_cons_of_ne (by simpa using hb)]
      simp only [pcs]
      rw [if_neg hb, ← ih]
      have hge := Lib.index_ge l [c]
      by_cases hm : Lib.index l [c] = -1
      · have e1 : splitL c (l.count c) l = [l] := by
          cases l.count c with
          | zero => rfl
          | succ n => simp only [splitL]; rw [if_pos hm]
        have e2 : splitL c (l.count c) (b :: l) = [b :: l] := by
          cases l.count c with
          | zero => rfl
          | succ n => simp only [splitL]; rw [index_ne b c l hb, if_pos hm, if_pos rfl]
        rw [e1, e2]
      · have hc : l.count c ≠ 0 := fun h0 => by
          apply hm
          have := List.count_eq_zero.mp h0
          clear ih hge hm h0
          induction l with
          | nil => exact index_nil c
          | cons x l ih2 =>
            simp only [List.mem_cons, not_or] at this
            rw [index_ne x c l (fun e => this.1 e.symm), if_pos (ih2 this.2)]
        obtain ⟨n, hn⟩ : ∃ n, l.count c = n + 1 := ⟨l.count c - 1, by omega⟩
        rw [hn]
        simp only [splitL]
        rw [index_ne b c l hb, if_neg hm, if_neg hm, if_neg (by omega)]
        obtain ⟨j, hj⟩ : ∃ j : Nat, Lib.index l [c] = j := ⟨(Lib.index l [c]).toNat, by omega⟩
        rw [hj]
        have e3 : ((j : Int) + 1).toNat = j + 1 := by omega
        rw [e3]
        simp
theorem splitB_list (c : UInt8) : ∀ k (s : ByteArray), (Lib.splitB ⟨#[c]⟩ 0 k s).map (fun x => x.data.toList) = splitL c k s.data.toList
  | 0, s => rfl
  | k + 1, s => by
    have hi : Lib.indexB s ⟨#[c]⟩ = Lib.index s.data.toList [c] := rfl
    have hge := Lib.index_ge s.data.toList [c]
    simp only [Lib.splitB, splitL]
    rw [hi]
    by_cases hm : Lib.index s.data.toList [c] = -1
    · rw [if_pos (beq_iff_eq.mpr hm), if_pos hm]
      rfl
    · rw [if_neg (fun e => hm (beq_iff_eq.mp e)), if_neg hm, List.map_cons, splitB_list c k, extract_list, extract_list]
      have hl : s.size = s.data.toList.length := by simp
      have e : (s.data.toList.drop ((Lib.index s.data.toList [c]).toNat + (⟨#[c]⟩ : ByteArray).size)).take (s.size - ((Lib.index s.data.toList [c]).toNat + (⟨#[c]⟩ : ByteArray).size)) = s.data.toList.drop ((Lib.index s.data.toList [c]).toNat + 1) := by
        rw [List.take_of_length_le (by rw [List.length_drop]; omega)]
        rfl
      rw [e]
      simp
theorem toBA (s : ByteArray) : (⟨s.data.toList.toArray⟩ : ByteArray) = s := by cases s; simp
/-- strings.Split at one byte. -/
theorem split_pcs (c : UInt8) (s : ByteArray) : Lib.splitB ⟨#[c]⟩ 0 (Lib.countB s ⟨#[c]⟩) s = (pcs c s.data.toList).map (fun l => (⟨l.toArray⟩ : ByteArray)) := by
  have h := splitB_list c (Lib.countB s ⟨#[c]⟩) s
  have hc : Lib.countB s ⟨#[c]⟩ = s.data.toList.count c := Lib.count_one c s.data.toList
  rw [hc, splitL_pcs] at h
  rw [← h, List.map_map, hc]
  simp [Function.comp_def, toBA]
/-- The words of a row of bytes, with blanks between: what stands already; what comes. -/
def wa : List UInt8 → List UInt8 → List (List UInt8)
  | cur, [] => if cur = [] then [] else [cur]
  | cur, b :: r => if b = 32 then (if cur = [] then [] else [cur]) ++ wa [] r else wa (cur ++ [b]) r
theorem wa_pcs : ∀ (r cur p : List UInt8) (ps : List (List UInt8)), pcs 32 r = p :: ps → wa cur r = ((cur ++ p) :: ps).filter (fun x => !x.isEmpty)
  | [], cur, p, ps, h => by
    simp only [pcs, List.cons.injEq] at h
    obtain ⟨rfl, rfl⟩ := h
    cases cur <;> simp [wa]
  | b :: r, cur, p, ps, h => by
    obtain ⟨p', ps', h'⟩ := pcs_cons 32 r
    by_cases hb : b = 32
    · subst hb
      simp only [pcs, if_true, List.cons.injEq] at h
      obtain ⟨rfl, rfl⟩ := h
      have ih := wa_pcs r [] p' ps' h'
      simp only [wa, if_true]
      rw [ih, h']
      cases cur <;> simp
    · simp only [pcs] at h
      rw [if_neg hb, h'] at h
      simp only [List.cons.injEq] at h
      obtain ⟨rfl, rfl⟩ := h
      simp only [wa]
      rw [if_neg hb, wa_pcs r (cur ++ [b]) p' ps' h']
      simp
def toBAs (l : List (List UInt8)) : List ByteArray := l.map (fun x => (⟨x.toArray⟩ : ByteArray))
/-- The words of a text. -/
def wordsOf (s : ByteArray) : List ByteArray := toBAs (wa [] s.data.toList)
theorem take_drop_snoc (l : List UInt8) (f i : Nat) (h1 : f ≤ i) (h2 : i < l.length) : (l.drop f).take (i + 1 - f) = (l.drop f).take (i - f) ++ [l.getD i 0] := by
  rw [show i + 1 - f = (i - f) + 1 by omega, List.take_succ_eq_append_getElem (by rw [List.length_drop]; omega)]
  congr 1
  simp [List.getElem_drop, List.getD_eq_getElem?_getD, List.getElem?_eq_getElem h2, show f + (i - f) = i by omega]
theorem extract_toBA (s : ByteArray) (f i : Nat) : s.extract f i = ⟨((s.data.toList.drop f).take (i - f)).toArray⟩ := by
  rw [← extract_list, toBA]
theorem l00Words_loop (s : ByteArray) (hs : s.size ≤ 1048576) : ∀ d k (f i : Nat) (acc : List ByteArray), i + d = s.size → f ≤ i → 2 * d + 4 < k → acc.length + (s.size + 1 - f) ≤ 1048580 →
    spec_l00Words.l0 k s acc (f : Int) (i : Int) = some (acc ++ toBAs (wa ((s.data.toList.drop f).take (i - f)) (s.data.toList.drop i)))
  | 0, k, f, i, acc, h, hf, hk, ha => by
    obtain ⟨k, rfl⟩ : ∃ m, k = m + 3 := ⟨k - 3, by omega⟩
    have hl : s.size = s.data.toList.length := by simp
    obtain rfl : i = s.size := by omega
    simp only [spec_l00Words.l0, spec_l00Words.j1]
    simp only [if_true]
    rw [List.drop_of_length_le (by omega : s.data.toList.length ≤ s.size)]
    by_cases hfi : f = s.size
    · subst hfi
      have e1 : ¬ ((s.size : Int) > (s.size : Int)) := by omega
      have e2 : wrap64 ((s.size : Int) + 1) = (s.size : Int) + 1 := w64 (by omega)
      have e3 : ¬ ((s.size : Int) + 1 ≤ (s.size : Int)) := by omega
      simp only [e1, e2, e3, if_false]
      rw [Nat.sub_self, List.take_zero]
      simp [wa, toBAs]
    · have e1 : (s.size : Int) > (f : Int) := by omega
      have e2 : wrap64 ((s.size : Int) + 1) = (s.size : Int) + 1 := w64 (by omega)
      have e3 : ¬ ((s.size : Int) + 1 ≤ (s.size : Int)) := by omega
      have e4 : (0 : Int) ≤ (f : Int) := by omega
      have e5 : (f : Int) ≤ (s.size : Int) := by omega
      have e6 : acc.length < 8796093022208 := by omega
      have e7 : (s.size : Int) ≤ (s.size : Int) := by omega
      simp only [e1, e2, e3, e4, e5, e6, e7, if_false, if_true]
      rw [Int.toNat_natCast, Int.toNat_natCast, extract_toBA]
      have hne : (s.data.toList.drop f).take (s.size - f) ≠ [] := by
        intro e
        have := congrArg List.length e
        rw [List.length_take, List.length_drop] at this
        simp at this
        omega
      simp [wa, toBAs, hne]
  | d + 1, k, f, i, acc, h, hf, hk, ha => by
    obtain ⟨k, rfl⟩ : ∃ m, k = m + 2 := ⟨k - 2, by omega⟩
    have hl : s.size = s.data.toList.length := by simp
    have hi : i < s.data.toList.length := by omega
    have hd : s.data.toList.drop i = s.data.toList.getD i 0 :: s.data.toList.drop (i + 1) := by
      rw [List.drop_eq_getElem_cons hi]
      simp [List.getD_eq_getElem?_getD, List.getElem?_eq_getElem hi]
    simp only [spec_l00Words.l0, spec_l00Words.j1]
    rw [if_pos (by omega), if_neg (by omega), if_pos (by omega), if_pos (by omega), hd, bt_data s i (by omega), w64 (by omega), show (i : Int) + 1 = ((i + 1 : Nat) : Int) by omega]
    by_cases hb : s.data.toList.getD i 0 = 32
    · have hb2 : ((((s.data.toList.getD i 0).toNat : Int)) == 32) = true := by rw [hb]; rfl
      rw [hb2, if_pos rfl]
      simp only [wa]
      rw [if_pos hb]
      by_cases hfi : f = i
      · subst hfi
        rw [if_neg (by omega), l00Words_loop s hs d k (f + 1) (f + 1) acc (by omega) (by omega) (by omega) (by omega), Nat.sub_self, Nat.sub_self, List.take_zero, List.take_zero]
        simp
      · have hne : (s.data.toList.drop f).take (i - f) ≠ [] := by
          intro e
          have := congrArg List.length e
          rw [List.length_take, List.length_drop] at this
          simp at this
          omega
        rw [if_pos (by omega), if_pos (by omega), if_pos (by omega), if_pos (by omega), if_pos (by omega), Int.toNat_natCast, Int.toNat_natCast, extract_toBA, l00Words_loop s hs d k (i + 1) (i + 1) _ (by omega) (by omega) (by omega) (by simp; omega), Nat.sub_self, List.take_zero, if_neg hne]
        simp [toBAs]
    · have hb2 : ((((s.data.toList.getD i 0).toNat : Int)) == 32) = false := by
        rw [beq_eq_false_iff_ne]
        intro e
        apply hb
        have : (s.data.toList.getD i 0).toNat = 32 := by omega
        exact UInt8.toNat_inj.mp this
      rw [hb2, if_neg (by decide), l00Words_loop s hs d k f (i + 1) acc (by omega) (by omega) (by omega) (by omega)]
      simp only [wa]
      rw [if_neg hb, take_drop_snoc _ f i hf hi]
theorem spec_l00Words_eq (s : ByteArray) (hs : s.size ≤ 1048576) (k : Nat) (hk : 2 * s.size + 10 < k) : spec_l00Words.f k s = some (wordsOf s) := by
  unfold spec_l00Words.f wordsOf
  have h := l00Words_loop s hs s.size k 0 0 [] (by omega) (by omega) (by omega) (by simp; omega)
  simpa using h
/-- The last byte of a text is a round bracket. -/
def endsB (w : ByteArray) : Bool := bt w ((w.size : Int) - 1) == 41
/-- The words of a line, without remarks. -/
def lw : List ByteArray → Bool → List ByteArray → List ByteArray × Bool
  | acc, ins, [] => (acc, !ins)
  | acc, true, w :: ws => lw acc (!endsB w) ws
  | acc, false, w :: ws => if w.data.toList = [92] then (acc, true) else if w.data.toList = [40] then lw acc true ws else lw (acc ++ [w]) false ws
theorem lw_len : ∀ (l acc : List ByteArray) (ins : Bool), (lw acc ins l).1.length ≤ acc.length + l.length
  | [], acc, ins => by simp [lw]
  | w :: ws, acc, true => by
    have := lw_len ws acc (!endsB w)
    simp only [lw, List.length_cons]
    omega
  | w :: ws, acc, false => by
    simp only [lw, List.length_cons]
    split
    · simp
    · split
      · have := lw_len ws acc true
        omega
      · have := lw_len ws (acc ++ [w]) false
        rw [List.length_append, List.length_singleton] at this
        omega
theorem rdOf_nat {α : Type} (z : α) (l : List α) (i : Nat) : rdOf z l (i : Int) = l.getD i z := by simp [rdOf]
theorem drop_getD (l : List ByteArray) (i : Nat) (hi : i < l.length) : l.drop i = l.getD i ByteArray.empty :: l.drop (i + 1) := by
  rw [List.drop_eq_getElem_cons hi]
  simp [List.getD_eq_getElem?_getD, List.getElem?_eq_getElem hi]
theorem spec_l02_loop (l : List ByteArray) (hl : l.length ≤ 1048580) (hw : ∀ w ∈ l, 0 < w.size ∧ w.size ≤ 1048576) : ∀ d k (i : Nat) (acc : List ByteArray) (ins : Bool), i + d = l.length → d < k → acc.length + d ≤ 1048580 →
    spec_l02Words.l0 k l acc ins (i : Int) = some (lw acc ins (l.drop i))
  | 0, k, i, acc, ins, h, hk, ha => by
    obtain ⟨k, rfl⟩ : ∃ m, k = m + 1 := ⟨k - 1, by omega⟩
    simp only [spec_l02Words.l0]
    rw [if_neg (by omega), List.drop_of_length_le (by omega)]
    cases ins <;> rfl
  | d + 1, k, i, acc, ins, h, hk, ha => by
    obtain ⟨k, rfl⟩ : ∃ m, k = m + 1 := ⟨k - 1, by omega⟩
    have hm : l.getD i ByteArray.empty ∈ l := by
      rw [List.getD_eq_getElem?_getD, List.getElem?_eq_getElem (by omega : i < l.length)]
      exact List.getElem_mem _
    obtain ⟨s1, s2⟩ := hw _ hm
    simp only [spec_l02Words.l0]
    rw [if_pos (by omega), if_pos (by omega), drop_getD l i (by omega), rdOf_nat, w64 (n := (i : Int) + 1) (by omega), show (i : Int) + 1 = ((i + 1 : Nat) : Int) by omega]
    cases ins with
    | true =>
      rw [if_pos rfl, w64 (by omega), if_pos (by omega), if_pos (by omega), spec_l02_loop l hl hw d k (i + 1) acc _ (by omega) (by omega) (by omega)]
      simp only [lw, endsB]
      rfl
    | false =>
      rw [if_neg (by decide)]
      simp only [lw]
      rw [ByteArray.toList_eq]
      by_cases h1 : (l.getD i ByteArray.empty).data.toList = [92]
      · rw [if_pos h1, if_pos h1]
      · rw [if_neg h1, if_neg h1]
        by_cases h2 : (l.getD i ByteArray.empty).data.toList = [40]
        · rw [if_pos h2, if_pos h2, spec_l02_loop l hl hw d k (i + 1) acc true (by omega) (by omega) (by omega)]
        · rw [if_neg h2, if_neg h2, if_pos (by omega), spec_l02_loop l hl hw d k (i + 1) _ false (by omega) (by omega) (by simp; omega)]
theorem hasSuffix_eq (w : ByteArray) (h0 : 0 < w.size) (h1 : w.size ≤ 1048576) : strings_HasSuffix.f w (⟨#[41]⟩ : ByteArray) = some (endsB w) := by
  have e1 : ((⟨#[41]⟩ : ByteArray).size : Int) = 1 := rfl
  unfold strings_HasSuffix.f stringslite_HasSuffix.f endsB
  rw [e1, if_pos (by omega), w64 (by omega), if_pos (by omega), if_pos (by omega)]
  obtain ⟨n, hn⟩ : ∃ n, w.size = n + 1 := ⟨w.size - 1, by omega⟩
  have hl : w.size = w.data.toList.length := by simp
  rw [show ((w.size : Int) - 1) = (n : Int) by omega, Int.toNat_natCast, bt_data w n (by omega)]
  simp only [Option.bind_some, Option.some.injEq]
  have e2 : (w.extract n w.size).toList = [w.data.toList.getD n 0] := by
    rw [ByteArray.toList_eq, extract_list, hn, show n + 1 - n = 1 by omega, List.drop_eq_getElem_cons (by omega), List.take_succ_cons, List.take_zero]
    simp [List.getD_eq_getElem?_getD, List.getElem?_eq_getElem (show n < w.data.toList.length by omega)]
  have e3 : (⟨#[41]⟩ : ByteArray).toList = [41] := by rw [ByteArray.toList_eq]
  rw [e2, e3, Bool.eq_iff_iff, beq_iff_eq, beq_iff_eq]
  constructor
  · intro h
    simp only [List.cons.injEq, and_true] at h
    rw [h]
    rfl
  · intro h
    have : (w.data.toList.getD n 0).toNat = 41 := by omega
    have : w.data.toList.getD n 0 = 41 := UInt8.toNat_inj.mp this
    rw [this]
theorem toList_nil {w : ByteArray} : w.toList = [] ↔ w.size = 0 := by
  rw [ByteArray.toList_eq]
  constructor
  · intro h
    have := congrArg List.length h
    simpa using this
  · intro h
    exact List.eq_nil_of_length_eq_zero (by simpa using h)
theorem impl_lw_loop (l : List ByteArray) (hl : l.length ≤ 1048580) (hw : ∀ w ∈ l, w.size ≤ 1048576) : ∀ d k (i : Nat) (acc : List ByteArray) (ins : Bool), i + d = l.length → d < k → acc.length + d ≤ 1048580 →
    impl_lineWords.l0 k acc ins l (l.length : Int) (i : Int) = some (lw acc ins ((l.drop i).filter (fun w => !(w.size == 0))))
  | 0, k, i, acc, ins, h, hk, ha => by
    obtain ⟨k, rfl⟩ : ∃ m, k = m + 1 := ⟨k - 1, by omega⟩
    simp only [impl_lineWords.l0]
    rw [if_neg (by omega), List.drop_of_length_le (by omega)]
    cases ins <;> rfl
  | d + 1, k, i, acc, ins, h, hk, ha => by
    obtain ⟨k, rfl⟩ : ∃ m, k = m + 1 := ⟨k - 1, by omega⟩
    have hm : l.getD i ByteArray.empty ∈ l := by
      rw [List.getD_eq_getElem?_getD, List.getElem?_eq_getElem (by omega : i < l.length)]
      exact List.getElem_mem _
    have s2 := hw _ hm
    simp only [impl_lineWords.l0]
    rw [if_pos (by omega), if_pos (by omega), if_pos (by omega), drop_getD l i (by omega), rdOf_nat, w64 (n := (i : Int) + 1) (by omega), show (i : Int) + 1 = ((i + 1 : Nat) : Int) by omega]
    by_cases h0 : (l.getD i ByteArray.empty).size = 0
    · rw [if_pos (toList_nil.mpr h0), impl_lw_loop l hl hw d k (i + 1) acc ins (by omega) (by omega) (by omega), List.filter_cons_of_neg (p := fun w : ByteArray => !(w.size == 0)) (show ¬ ((!((l.getD i ByteArray.empty).size == 0)) = true) from by rw [h0]; decide)]
    · rw [if_neg (fun e => h0 (toList_nil.mp e)), List.filter_cons_of_pos (p := fun w : ByteArray => !(w.size == 0)) (show (!((l.getD i ByteArray.empty).size == 0)) = true from by rw [beq_eq_false_iff_ne.mpr h0]; rfl)]
      cases ins with
      | true =>
        rw [if_pos rfl, hasSuffix_eq _ (by omega) s2, Option.bind_some, impl_lw_loop l hl hw d k (i + 1) acc _ (by omega) (by omega) (by omega)]
        simp only [lw]
      | false =>
        rw [if_neg (by decide)]
        simp only [lw]
        rw [ByteArray.toList_eq]
        by_cases h1 : (l.getD i ByteArray.empty).data.toList = [92]
        · rw [if_pos h1, if_pos h1]
        · rw [if_neg h1, if_neg h1]
          by_cases h2 : (l.getD i ByteArray.empty).data.toList = [40]
          · rw [if_pos h2, if_pos h2, impl_lw_loop l hl hw d k (i + 1) acc true (by omega) (by omega) (by omega)]
          · rw [if_neg h2, if_neg h2, if_pos (by omega), impl_lw_loop l hl hw d k (i + 1) _ false (by omega) (by omega) (by simp; omega)]
theorem pcs_len (c : UInt8) : ∀ l, (pcs c l).length = l.count c + 1
  | [] => rfl
  | b :: l => by
    obtain ⟨p, ps, h⟩ := pcs_cons c l
    have ih := pcs_len c l
    by_cases hb : b = c
    · simp [pcs, hb, ih]
    · simp only [pcs]
      rw [if_neg hb, h, List.count_cons_of_ne (by simpa using hb), ← ih, h]
      rfl
theorem pcs_bound (c : UInt8) : ∀ l, ∀ p ∈ pcs c l, p.length ≤ l.length
  | [], p, hp => by simp [pcs] at hp; simp [hp]
  | b :: l, p, hp => by
    obtain ⟨q, qs, h⟩ := pcs_cons c l
    have ih := pcs_bound c l
    by_cases hb : b = c
    · simp only [pcs, if_pos hb, List.mem_cons] at hp
      rcases hp with rfl | hp
      · simp
      · have := ih p hp
        simp
        omega
    · simp only [pcs] at hp
      rw [if_neg hb, h] at hp
      rcases List.mem_cons.mp hp with rfl | hp
      · have := ih q (by rw [h]; simp)
        simp
        omega
      · have := ih p (by rw [h]; exact List.mem_cons_of_mem _ hp)
        simp
        omega
/-- The words of a line; false of one that isn't closed. -/
def lineW (s : ByteArray) : List ByteArray × Bool := lw [] false (wordsOf s)
theorem wordsOf_filter (s : ByteArray) : ((pcs 32 s.data.toList).map (fun l => (⟨l.toArray⟩ : ByteArray))).filter (fun w => !(w.size == 0)) = wordsOf s := by
  obtain ⟨p, ps, h⟩ := pcs_cons 32 s.data.toList
  unfold wordsOf toBAs
  rw [wa_pcs _ [] p ps h, h, List.nil_append, List.filter_map]
  congr 1
  apply List.filter_congr
  intro x _
  show (!(x.toArray.size == 0)) = !x.isEmpty
  rw [List.size_toArray]
  cases x <;> rfl
theorem impl_lineWords_eq (s : ByteArray) (hs : s.size ≤ 1048576) (k : Nat) (hk : s.size + 2 < k) : impl_lineWords.f k s = some (lineW s) := by
  have hl : s.size = s.data.toList.length := by simp
  unfold impl_lineWords.f strings_Split.f lineW
  rw [if_pos (by omega), if_pos (by decide), Option.bind_some, split_pcs]
  have hlen : ((pcs 32 s.data.toList).map (fun l => (⟨l.toArray⟩ : ByteArray))).length ≤ s.size + 1 := by
    rw [List.length_map, pcs_len]
    have := List.count_le_length (a := (32 : UInt8)) (l := s.data.toList)
    omega
  have h := impl_lw_loop ((pcs 32 s.data.toList).map (fun l => (⟨l.toArray⟩ : ByteArray))) (by omega) (fun w hw => by
    obtain ⟨x, hx, rfl⟩ := List.mem_map.mp hw
    have := pcs_bound 32 _ x hx
    show x.toArray.size ≤ _
    simp
    omega) ((pcs 32 s.data.toList).map (fun l => (⟨l.toArray⟩ : ByteArray))).length k 0 [] false (by omega) (by omega) (by rw [List.length_nil]; omega)
  rw [show (0 : Int) = ((0 : Nat) : Int) from rfl, h, List.drop_zero, wordsOf_filter]
theorem wordsOf_ok (s : ByteArray) (hs : s.size ≤ 1048576) : (wordsOf s).length ≤ s.size + 1 ∧ ∀ w ∈ wordsOf s, 0 < w.size ∧ w.size ≤ 1048576 := by
  have hl : s.size = s.data.toList.length := by simp
  rw [← wordsOf_filter]
  constructor
  · have h1 := List.length_filter_le (fun w : ByteArray => !(w.size == 0)) ((pcs 32 s.data.toList).map (fun l => (⟨l.toArray⟩ : ByteArray)))
    rw [List.length_map, pcs_len] at h1
    have := List.count_le_length (a := (32 : UInt8)) (l := s.data.toList)
    omega
  · intro w hw
    obtain ⟨hm, hp⟩ := List.mem_filter.mp hw
    obtain ⟨x, hx, rfl⟩ := List.mem_map.mp hm
    have := pcs_bound 32 _ x hx
    have e : (⟨x.toArray⟩ : ByteArray).size = x.length := by simp [ByteArray.size]
    rw [e] at hp ⊢
    simp at hp
    have : 0 < x.length := List.length_pos_iff.mpr hp
    omega
theorem spec_l02Words_eq (s : ByteArray) (hs : s.size ≤ 1048576) (k : Nat) (hk : 2 * s.size + 10 < k) : spec_l02Words.f k s = some (lineW s) := by
  obtain ⟨h1, h2⟩ := wordsOf_ok s hs
  unfold spec_l02Words.f lineW
  rw [spec_l00Words_eq s hs k hk, Option.bind_some]
  have h := spec_l02_loop (wordsOf s) (by omega) h2 (wordsOf s).length k 0 [] false (by omega) (by omega) (by simp; omega)
  rw [show (0 : Int) = ((0 : Nat) : Int) from rfl, h, List.drop_zero]
/-- What LineWords tells. -/
def lineR (s : ByteArray) : List ByteArray × Int := if s.size > 65536 then ([], 2) else if s.size > 400 then ([], 8) else if (lineW s).2 = true then ((lineW s).1, 0) else ([], 3)
theorem spec_LineWords_eq (s : ByteArray) (hs : s.size ≤ 1048576) (k : Nat) (hk : 1000 < k) : spec_LineWords.f k s = some (lineR s) := by
  unfold spec_LineWords.f lineR
  by_cases h1 : s.size > 65536
  · rw [if_pos (by omega), if_pos h1]
  · rw [if_neg (by omega), if_neg h1]
    by_cases h2 : s.size > 400
    · rw [if_pos (by omega), if_pos h2]
    · rw [if_neg (by omega), if_neg h2, spec_l02Words_eq s hs k (by omega)]
      simp only [Option.bind_some]
      split <;> rfl
theorem impl_LineWords_eq (s : ByteArray) (hs : s.size ≤ 1048576) (k : Nat) (hk : 1000 < k) : impl_LineWords.f k s = some (lineR s) := by
  unfold impl_LineWords.f lineR
  by_cases h1 : s.size > 65536
  · rw [if_pos (by omega), if_pos h1]
  · rw [if_neg (by omega), if_neg h1]
    by_cases h2 : s.size > 400
    · rw [if_pos (by omega), if_pos h2]
    · rw [if_neg (by omega), if_neg h2, impl_lineWords_eq s hs k (by omega)]
      simp only [Option.bind_some]
      split <;> rfl
theorem lineR_len (s : ByteArray) : (lineR s).1.length ≤ 500 := by
  unfold lineR
  by_cases h1 : s.size > 65536
  · rw [if_pos h1]; simp
  · rw [if_neg h1]
    by_cases h2 : s.size > 400
    · rw [if_pos h2]; simp
    · rw [if_neg h2]
      have h3 := lw_len (wordsOf s) [] false
      obtain ⟨h4, _⟩ := wordsOf_ok s (by omega)
      split
      · show (lw [] false (wordsOf s)).1.length ≤ 500
        simp at h3
        omega
      · simp
theorem bt_nums (s : ByteArray) (i : Nat) (h : i < s.size) : bt s (i : Int) = (numsB s).getD i 0 := by
  have hl : s.size = s.data.toList.length := by simp
  have hj' : i < s.data.toList.length := by omega
  simp only [bt, Int.toNat_natCast]
  rw [dif_pos h]
  simp [numsB, List.getD_eq_getElem?_getD, List.getElem?_map, List.getElem?_eq_getElem hj']
  rfl
theorem up_snoc (s : ByteArray) (i : Nat) (h : i < s.size) : ((numsB s).take i).map up1 ++ [up1 ((numsB s).getD i 0)] = ((numsB s).take (i + 1)).map up1 := by
  have hl : i < (numsB s).length := by rw [numsB_length]; exact h
  rw [List.take_succ_eq_append_getElem hl, List.map_append]
  simp [List.getD_eq_getElem?_getD, List.getElem?_eq_getElem hl]
theorem spec_upper_l0 (s : ByteArray) (hs : s.size ≤ 140737488351232) : ∀ d k (i : Nat), i + d = s.size → d < k → spec_l02Upper.l0 k s (((numsB s).take i).map up1) (i : Int) = some (strOfNums ((numsB s).map up1))
  | 0, k, i, h, hk => by
    obtain ⟨k, rfl⟩ : ∃ m, k = m + 1 := ⟨k - 1, by omega⟩
    simp only [spec_l02Upper.l0]
    rw [if_neg (by omega), List.take_of_length_le (by rw [numsB_length]; omega)]
  | d + 1, k, i, h, hk => by
    obtain ⟨k, rfl⟩ : ∃ m, k = m + 1 := ⟨k - 1, by omega⟩
    have ih := spec_upper_l0 s hs d k (i + 1) (by omega) (by omega)
    have hl : (((numsB s).take i).map up1).length < 140737488355328 := by
      rw [List.length_map, List.length_take, numsB_length]
      omega
    simp only [spec_l02Upper.l0]
    rw [if_pos (by omega), if_pos (by omega), bt_nums s i (by omega), w64 (by omega), show (i : Int) + 1 = ((i + 1 : Nat) : Int) by omega, ← ih, ← up_snoc s i (by omega)]
    have hu : up1 ((numsB s).getD i 0) = if 97 ≤ (numsB s).getD i 0 then (if (numsB s).getD i 0 ≤ 122 then ((numsB s).getD i 0 - 32) % 256 else (numsB s).getD i 0) else (numsB s).getD i 0 := rfl
    rw [hu]
    clear hu
    simp only [if_pos hl]
    by_cases h1 : 97 ≤ (numsB s).getD i 0
    · by_cases h2 : (numsB s).getD i 0 ≤ 122
      · rw [if_pos h1, if_pos h2, if_pos h1, if_pos h2]
      · rw [if_pos h1, if_neg h2, if_pos h1, if_neg h2]
    · rw [if_neg h1, if_neg h1]
theorem spec_l02Upper_eq (s : ByteArray) (hs : s.size ≤ 140737488351232) (k : Nat) (hk : s.size < k) : spec_l02Upper.f k s = some (strOfNums ((numsB s).map up1)) := by
  have h := spec_upper_l0 s hs s.size k 0 (by omega) hk
  simpa [spec_l02Upper.f] using h
def PLAIN : List ByteArray := [(⟨#[49]⟩ : ByteArray), (⟨#[50]⟩ : ByteArray), (⟨#[51]⟩ : ByteArray), (⟨#[45, 49]⟩ : ByteArray), (⟨#[55]⟩ : ByteArray), (⟨#[100, 117, 112]⟩ : ByteArray), (⟨#[100, 114, 111, 112]⟩ : ByteArray), (⟨#[115, 119, 97, 112]⟩ : ByteArray), (⟨#[111, 118, 101, 114]⟩ : ByteArray), (⟨#[43]⟩ : ByteArray), (⟨#[45]⟩ : ByteArray), (⟨#[42]⟩ : ByteArray), (⟨#[47]⟩ : ByteArray), (⟨#[109, 111, 100]⟩ : ByteArray), (⟨#[46]⟩ : ByteArray), (⟨#[99, 114]⟩ : ByteArray), (⟨#[101, 109, 105, 116]⟩ : ByteArray), (⟨#[64]⟩ : ByteArray), (⟨#[33]⟩ : ByteArray), (⟨#[104, 101, 114, 101]⟩ : ByteArray), (⟨#[61]⟩ : ByteArray), (⟨#[60]⟩ : ByteArray), (⟨#[48, 61]⟩ : ByteArray), (⟨#[49, 43]⟩ : ByteArray), (⟨#[100, 101, 112, 116, 104]⟩ : ByteArray), (⟨#[115, 113]⟩ : ByteArray), (⟨#[120]⟩ : ByteArray), (⟨#[118]⟩ : ByteArray), (⟨#[99]⟩ : ByteArray), (⟨#[104, 114, 101, 97, 100]⟩ : ByteArray), (⟨#[104, 119, 114, 105, 116, 101]⟩ : ByteArray), (⟨#[104, 97, 115, 107]⟩ : ByteArray), (⟨#[104, 116, 105, 109, 101]⟩ : ByteArray), (⟨#[62, 114]⟩ : ByteArray), (⟨#[114, 62]⟩ : ByteArray), (⟨#[99, 97, 116, 99, 104]⟩ : ByteArray), (⟨#[116, 104, 114, 111, 119]⟩ : ByteArray), (⟨#[101, 120, 101, 99, 117, 116, 101]⟩ : ByteArray), (⟨#[104, 101, 120]⟩ : ByteArray), (⟨#[100, 101, 99, 105, 109, 97, 108]⟩ : ByteArray), (⟨#[110, 101, 103, 97, 116, 101]⟩ : ByteArray), (⟨#[109, 97, 120]⟩ : ByteArray)]
def TOKEN : List ByteArray := [(⟨#[100, 117, 112]⟩ : ByteArray), (⟨#[68, 82, 79, 80]⟩ : ByteArray), (⟨#[43]⟩ : ByteArray), (⟨#[49]⟩ : ByteArray), (⟨#[45, 55]⟩ : ByteArray), (⟨#[115, 113]⟩ : ByteArray), (⟨#[83, 119, 97, 112]⟩ : ByteArray), (⟨#[46]⟩ : ByteArray), (⟨#[105, 102]⟩ : ByteArray), (⟨#[116, 104, 101, 110]⟩ : ByteArray), (⟨#[40]⟩ : ByteArray), (⟨#[41]⟩ : ByteArray), (⟨#[120, 41]⟩ : ByteArray), (⟨#[92]⟩ : ByteArray), (⟨#[102, 102]⟩ : ByteArray), (⟨#[111, 118, 101, 114]⟩ : ByteArray)]
theorem pick_some (l : List Int) (hl : Bytes l) (p s : Int) (n : Nat) (hn : n ≤ 1000000) (h : Src p s n) (ws : List ByteArray) (h1 : 1 < ws.length) (h2 : ws.length ≤ 256) :
    ∃ w p' s', spec_l00Src_pick.f l p s ws = some (w, p', s') ∧ w ∈ ws ∧ Src p' s' (n + 1) := by
  unfold spec_l00Src_pick.f
  obtain ⟨r, p', s', e, r0, r1, hs⟩ := next_some l hl p s n (by omega) h (ws.length : Int) (by omega) (by omega)
  rw [if_neg (by omega), e, Option.bind_some, if_pos r0, if_pos r1]
  refine ⟨_, _, _, rfl, ?_, hs⟩
  show rdOf ByteArray.empty ws r ∈ ws
  obtain ⟨i, rfl⟩ : ∃ i : Nat, r = (i : Int) := ⟨r.toNat, by omega⟩
  rw [rdOf_nat, List.getD_eq_getElem?_getD, List.getElem?_eq_getElem (by omega : i < ws.length)]
  exact List.getElem_mem _
theorem token_size : ∀ w ∈ TOKEN, w.size ≤ 5 := by decide +kernel
theorem sep_size : ∀ w ∈ ([(⟨#[32]⟩ : ByteArray), (⟨#[32, 32]⟩ : ByteArray), (⟨#[9]⟩ : ByteArray), (⟨#[10]⟩ : ByteArray)] : List ByteArray), w.size ≤ 2 := by decide +kernel
theorem line_loop (l : List Int) (hl : Bytes l) : ∀ (d k : Nat) (m : Int) (acc : ByteArray) (p s : Int) (n : Nat), m = (d : Int) → d < k → d ≤ 100 → n + 2 * d ≤ 1000000 → acc.size + 7 * d ≤ 100000 → Src p s n →
    ∃ t, spec_DrawLineWords.l0 k acc m l p s = some t ∧ t.size ≤ acc.size + 7 * d
  | 0, k, m, acc, p, s, n, hm, hk, hd, hn, ha, h => by
    obtain ⟨k, rfl⟩ : ∃ m, k = m + 1 := ⟨k - 1, by omega⟩
    simp only [spec_DrawLineWords.l0]
    rw [if_neg (by omega)]
    exact ⟨acc, rfl, by omega⟩
  | d + 1, k, m, acc, p, s, n, hm, hk, hd, hn, ha, h => by
    obtain ⟨k, rfl⟩ : ∃ m, k = m + 1 := ⟨k - 1, by omega⟩
    obtain ⟨w, p1, s1, e1, w1, h1⟩ := pick_some l hl p s n (by omega) h TOKEN (by decide) (by decide)
    obtain ⟨v, p2, s2, e2, v1, h2⟩ := pick_some l hl p1 s1 (n + 1) (by omega) h1 [(⟨#[32]⟩ : ByteArray), (⟨#[32, 32]⟩ : ByteArray), (⟨#[9]⟩ : ByteArray), (⟨#[10]⟩ : ByteArray)] (by decide) (by decide)
    have z1 := token_size w w1
    have z2 := sep_size v v1
    have et : spec_l00Src_token.f l p s = some (w, p1, s1) := by
      unfold spec_l00Src_token.f
      show ((spec_l00Src_pick.f l p s TOKEN).bind fun bt => some (bt.1, bt.2.1, bt.2.2)) = _
      rw [e1]
      rfl
    have z3 : (w ++ v).size = w.size + v.size := by simp
    have z4 : (acc ++ (w ++ v)).size = acc.size + (w.size + v.size) := by simp
    simp only [spec_DrawLineWords.l0]
    rw [if_pos (by omega), et, Option.bind_some]
    simp only []
    rw [e2, Option.bind_some]
    simp only []
    rw [if_pos (by omega), if_pos (by omega), w64 (by omega)]
    obtain ⟨t, e3, z5⟩ := line_loop l hl d k (m - 1) (acc ++ (w ++ v)) p2 s2 (n + 1 + 1) (by omega) (by omega) (by omega) (by omega) (by omega) h2
    exact ⟨t, e3, by omega⟩
theorem drawLine (l : List Int) (hl : Bytes l) (k : Nat) (hk : 1000 < k) : ∃ t, spec_DrawLineWords.f k l = some t ∧ t.size ≤ 1000 := by
  have hll := hl.1
  obtain ⟨s, e, hs⟩ := source_some l hl
  obtain ⟨r, p1, s1, e1, r0, r1, h1⟩ := next_some l hl 0 s 0 (by omega) hs 30 (by omega) (by omega)
  unfold spec_DrawLineWords.f
  rw [e, Option.bind_some]
  simp only []
  have ec : spec_l00Src_chance.f l 0 s 30 = some (r == 29, p1, s1) := by
    unfold spec_l00Src_chance.f
    rw [e1, Option.bind_some, w64 (by omega)]
    rfl
  rw [ec, Option.bind_some]
  simp only []
  by_cases hc : (r == 29) = true
  · obtain ⟨r2, p2, s2, e2, r20, r21, h2⟩ := next_some l hl p1 s1 (0 + 1) (by omega) h1 2 (by omega) (by omega)
    rw [if_pos hc, e2, Option.bind_some]
    simp only []
    rw [w64 (by omega), if_pos (by omega), if_pos (by omega)]
    refine ⟨_, rfl, ?_⟩
    simp [strOfNums, ByteArray.size]
    omega
  · rw [if_neg hc]
    unfold spec_l00Src_room.f
    rw [Option.bind_some]
    simp only []
    have hq : 0 ≤ mn (wrap64 (1 + wrap64 ((l.length : Int) / 12))) 12 ∧ mn (wrap64 (1 + wrap64 ((l.length : Int) / 12))) 12 ≤ 12 := by
      rw [w64 (n := (l.length : Int) / 12) (by omega), w64 (by omega)]
      unfold mn
      omega
    rw [w64 (by omega)]
    obtain ⟨r2, p2, s2, e2, r20, r21, h2⟩ := next_some l hl p1 s1 (0 + 1) (by omega) h1 (mn (wrap64 (1 + wrap64 ((l.length : Int) / 12))) 12 + 3) (by omega) (by omega)
    rw [e2, Option.bind_some]
    simp only []
    obtain ⟨d, rfl⟩ : ∃ d : Nat, r2 = (d : Int) := ⟨r2.toNat, by omega⟩
    obtain ⟨t, e3, z⟩ := line_loop l hl d k (d : Int) (⟨#[]⟩ : ByteArray) p2 s2 (0 + 1 + 1) rfl (by omega) (by omega) (by omega) (by have : (⟨#[]⟩ : ByteArray).size = 0 := rfl; omega) h2
    have z0 : (⟨#[]⟩ : ByteArray).size = 0 := rfl
    exact ⟨t, e3, by omega⟩
theorem lineDrawn (l : List Int) (hl : Bytes l) (k : Nat) (hk : 1000 < k) : ∃ t, spec_LineDrawn.f k l = some t ∧ t.size ≤ 1000 := by
  obtain ⟨t, e, z⟩ := drawLine l hl k hk
  unfold spec_LineDrawn.f
  rw [e]
  simp only [Option.bind_some]
  rw [if_pos (by unfold mn; omega), if_pos (by unfold mn; omega)]
  refine ⟨_, rfl, ?_⟩
  rw [ByteArray.size_extract]
  omega
theorem plain_some (l : List Int) (hl : Bytes l) : ∃ w, spec_PlainWord.f l = some w ∧ w ∈ PLAIN := by
  obtain ⟨s, e, hs⟩ := source_some l hl
  obtain ⟨w, p1, s1, e1, w1, _⟩ := pick_some l hl 0 s 0 (by omega) hs PLAIN (by decide) (by decide)
  refine ⟨w, ?_, w1⟩
  unfold spec_PlainWord.f spec_l00Src_plain.f
  rw [e, Option.bind_some]
  simp only []
  show (((spec_l00Src_pick.f l 0 s PLAIN).bind fun bt => some (bt.1, bt.2.1, bt.2.2)).bind fun bt243 => some bt243.1) = _
  rw [e1]
  rfl
def lineOf (w : ByteArray) : ByteArray := ((((((⟨#[40, 32, 97, 32, 114, 101, 109, 97, 114, 107, 32, 41, 32]⟩ : ByteArray) ++ w) ++ (⟨#[32, 92, 32]⟩ : ByteArray)) ++ w) ++ (⟨#[32]⟩ : ByteArray)) ++ w)
def upW (s : ByteArray) : ByteArray := strOfNums ((numsB s).map up1)
def chk (w : ByteArray) : Bool := decide (w.size ≤ 12) && decide ((upW w).size ≤ 12) && ((lineR (lineOf w)).2 == 0) && decide ((lineR (lineOf w)).1.length = 1) && (((lineR (lineOf w)).1.getD 0 ByteArray.empty).data.toList == w.data.toList) && wordOK w && wordOK (upW w) && ((upW w).data.toList == (upW (upW w)).data.toList) && !(wordOK (w ++ (⟨#[120]⟩ : ByteArray)) && ((upW w).data.toList == (upW (w ++ (⟨#[120]⟩ : ByteArray))).data.toList))
theorem chk_all : ∀ w ∈ PLAIN, chk w = true := by decide +kernel
theorem impl_UpperOf_eq (s : ByteArray) (hs : s.size ≤ 1000) : impl_UpperOf.f s = some (upW s) := by
  unfold impl_UpperOf.f
  rw [if_neg (by omega)]
  rfl
theorem spec_UpperOf_eq (s : ByteArray) (hs : s.size ≤ 1000) (k : Nat) (hk : 1000 < k) : spec_UpperOf.f k s = some (upW s) := by
  unfold spec_UpperOf.f
  rw [if_neg (by omega), spec_l02Upper_eq s (by omega) k (by omega)]
  rfl
theorem impl_SameWord_eq (a b : ByteArray) (ha : a.size ≤ 1000) (hb : b.size ≤ 1000) (k : Nat) (hk : 1000 < k) : impl_SameWord.f k a b = some (wordOK a && (wordOK b && ((upW a).data.toList == (upW b).data.toList))) := by
  unfold impl_SameWord.f
  rw [impl_WordOK_eq a (by omega) k (by omega), impl_WordOK_eq b (by omega) k (by omega), impl_UpperOf_eq a ha, impl_UpperOf_eq b hb]
  simp only [Option.bind_some, ByteArray.toList_eq]
  cases wordOK a <;> cases wordOK b <;> simp
theorem sameTexts_refl (a : List ByteArray) (ha : a.length ≤ 1048576) (k : Nat) (hk : a.length < k) : laws_sameTexts.f k a a = some true := by
  unfold laws_sameTexts.f
  rw [if_pos rfl]
  have hl := loop_all0 (fun k i => laws_sameTexts.l0 k a a i) a.length (fun _ => true) true (fun k i hi => by
    simp only [laws_sameTexts.l0]
    rw [if_pos (by omega), if_pos (by omega), if_pos (by omega), w64 (by omega)]) (fun k => by
    simp only [laws_sameTexts.l0]
    rw [if_neg (by omega)]) k hk
  rw [hl, allF_true _ _ (fun _ _ _ => rfl)]
  rfl
theorem FnWords : laws_FnWords.Pure := by
  intro l0 l1 h0 h1
  refine ⟨3000, ?_⟩
  unfold laws_FnWords.f
  by_cases c0 : (l0.length : Int) > 1048576
  · rw [if_pos c0]
  · by_cases c1 : (l1.length : Int) > 1048576
    · rw [if_neg c0, if_pos c1]
    · rw [if_neg c0, if_neg c1]
      obtain ⟨t, et, zt⟩ := lineDrawn l0 (bytes_of (by omega) h0.2) 3000 (by omega)
      obtain ⟨w, ew, hw⟩ := plain_some l1 (bytes_of (by omega) h1.2)
      have hc := chk_all w hw
      unfold chk at hc
      simp only [Bool.and_eq_true, decide_eq_true_eq, beq_iff_eq, Bool.not_eq_true'] at hc
      obtain ⟨⟨⟨⟨⟨⟨⟨⟨q1, q2⟩, q3⟩, q4⟩, q5⟩, q6⟩, q7⟩, q8⟩, q9⟩ := hc
      have hz : (lineOf w).size = 13 + w.size + 3 + w.size + 1 + w.size := by unfold lineOf; simp only [ByteArray.size_append]; rfl
      have hs1 : ((⟨#[40, 32, 97, 32, 114, 101, 109, 97, 114, 107, 32, 41, 32]⟩ : ByteArray) ++ w).size = 13 + w.size := by rw [ByteArray.size_append]; rfl
      have hs2 : (((⟨#[40, 32, 97, 32, 114, 101, 109, 97, 114, 107, 32, 41, 32]⟩ : ByteArray) ++ w) ++ (⟨#[32, 92, 32]⟩ : ByteArray)).size = 13 + w.size + 3 := by rw [ByteArray.size_append, hs1]; rfl
      have hs3 : ((((⟨#[40, 32, 97, 32, 114, 101, 109, 97, 114, 107, 32, 41, 32]⟩ : ByteArray) ++ w) ++ (⟨#[32, 92, 32]⟩ : ByteArray)) ++ w).size = 13 + w.size + 3 + w.size := by rw [ByteArray.size_append, hs2]
      have hs4 : (((((⟨#[40, 32, 97, 32, 114, 101, 109, 97, 114, 107, 32, 41, 32]⟩ : ByteArray) ++ w) ++ (⟨#[32, 92, 32]⟩ : ByteArray)) ++ w) ++ (⟨#[32]⟩ : ByteArray)).size = 13 + w.size + 3 + w.size + 1 := by rw [ByteArray.size_append, hs3]; rfl
      have hx : (w ++ (⟨#[120]⟩ : ByteArray)).size = w.size + 1 := by rw [ByteArray.size_append]; rfl
      rw [et, Option.bind_some, impl_LineWords_eq t (by omega) _ (by omega), spec_LineWords_eq t (by omega) _ (by omega)]
      simp only [Option.bind_some, if_true]
      have hlen := lineR_len t
      rw [sameTexts_refl _ (by omega) _ (by omega)]
      simp only [Option.bind_some, if_true]
      rw [ew, Option.bind_some, if_pos (by omega), if_pos (by omega), if_pos (by omega), if_pos (by omega), if_pos (by omega)]
      have hi := impl_LineWords_eq (lineOf w) (by omega) 3000 (by omega)
      unfold lineOf at hi q3 q4 q5
      rw [hi, Option.bind_some, impl_UpperOf_eq w (by omega), Option.bind_some, if_pos q3, if_pos (by omega), if_pos (by omega)]
      have e0 : rdOf ByteArray.empty (lineR ((((((⟨#[40, 32, 97, 32, 114, 101, 109, 97, 114, 107, 32, 41, 32]⟩ : ByteArray) ++ w) ++ (⟨#[32, 92, 32]⟩ : ByteArray)) ++ w) ++ (⟨#[32]⟩ : ByteArray)) ++ w)).1 0 = (lineR ((((((⟨#[40, 32, 97, 32, 114, 101, 109, 97, 114, 107, 32, 41, 32]⟩ : ByteArray) ++ w) ++ (⟨#[32, 92, 32]⟩ : ByteArray)) ++ w) ++ (⟨#[32]⟩ : ByteArray)) ++ w)).1.getD 0 ByteArray.empty := rdOf_nat _ _ 0
      rw [e0, if_pos (by rw [ByteArray.toList_eq, ByteArray.toList_eq]; exact q5), spec_UpperOf_eq w (by omega) _ (by omega), Option.bind_some, if_pos rfl, impl_WordOK_eq w (by omega) _ (by omega), Option.bind_some, if_pos q6, impl_SameWord_eq w (upW w) (by omega) (by omega) _ (by omega), Option.bind_some, if_pos (by rw [q6, q7, q8]; simp), if_pos (by omega), impl_SameWord_eq w _ (by omega) (by omega) _ (by omega), Option.bind_some, q6, q9]
      rfl
end Go.Proofs.YtdfnjihnjemghaaDoor.Pure
