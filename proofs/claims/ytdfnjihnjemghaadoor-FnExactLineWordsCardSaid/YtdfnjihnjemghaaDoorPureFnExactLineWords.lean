/- The law FnExactLineWords answers true for every line: both tell the same words. No condition. -/
import Derived.Test.YtdfnjihnjemghaaDoorPWordsx3
namespace Go.Proofs.YtdfnjihnjemghaaDoor.Pure
open Go.RowKit Go.Proofs.YtdfnjihnjemghaaDoor.PWords Go.Proofs.YtdfnjihnjemghaaDoorW.PrintWords Go.Proofs.YtdfnjihnjemghaaDoorW.PrintLast
set_option linter.unusedSimpArgs false
set_option linter.unusedVariables false

theorem bd64 {n : Int} (h : (Lit.int .i64 n).wf = true) : -9223372036854775808 ≤ n ∧ n ≤ 9223372036854775807 := by
  simp [Lit.wf, IntKind.min, IntKind.max, IntKind.signed, IntKind.bits] at h
  omega
/-- n lies from lo to hi. -/
def inR (n lo hi : Int) : Bool := decide (lo ≤ n ∧ n ≤ hi)
/-- A cell: 32 bits with a sign. -/
def isCell (n : Int) : Bool := decide (-2147483648 ≤ n ∧ n ≤ 2147483647)
theorem isCell_iff {n : Int} : isCell n = true ↔ (-2147483648 ≤ n ∧ n ≤ 2147483647) := by simp [isCell]
theorem inR_iff {n lo hi : Int} : inR n lo hi = true ↔ (lo ≤ n ∧ n ≤ hi) := by simp [inR]
theorem w64 {n : Int} (h : -9223372036854775808 ≤ n ∧ n ≤ 9223372036854775807) : wrap64 n = n := by unfold wrap64; omega
theorem w64_cell (n : Int) : wrap64 (wrap32 n) = wrap32 n := by unfold wrap64 wrap32; omega
theorem w32_cell {n : Int} (h : isCell n = true) : wrap32 n = n := by rw [isCell_iff] at h; unfold wrap32; omega
theorem cell_w32 (n : Int) : isCell (wrap32 n) = true := by rw [isCell_iff]; unfold wrap32; omega
theorem w32_eq (n : Int) : (wrap32 n == n) = isCell n := by
  rw [Bool.eq_iff_iff, isCell_iff]
  simp only [beq_iff_eq]
  unfold wrap32
  omega
/-- All of d numbers from i on. -/
def allF (P : Nat → Bool) : Nat → Nat → Bool
  | 0, _ => true
  | d + 1, i => P i && allF P d (i + 1)
theorem allF_congr {P Q : Nat → Bool} : ∀ d i, (∀ j, i ≤ j → j < i + d → P j = Q j) → allF P d i = allF Q d i
  | 0, _, _ => rfl
  | d + 1, i, h => by
    simp only [allF]
    rw [h i (Nat.le_refl _) (by omega), allF_congr d (i + 1) (fun j h1 h2 => h j (by omega) (by omega))]
theorem allF_true {P : Nat → Bool} : ∀ d i, (∀ j, i ≤ j → j < i + d → P j = true) → allF P d i = true
  | 0, _, _ => rfl
  | d + 1, i, h => by
    simp only [allF]
    rw [h i (Nat.le_refl _) (by omega), allF_true d (i + 1) (fun j h1 h2 => h j (by omega) (by omega))]
    rfl
theorem allF_all {α : Type} (p : α → Bool) (z : α) (l : List α) : ∀ d i, i + d = l.length → allF (fun j => p (l.getD j z)) d i = (l.drop i).all p
  | 0, i, h => by simp [allF, List.drop_of_length_le (show l.length ≤ i by omega)]
  | d + 1, i, h => by
    simp only [allF]
    rw [allF_all p z l d (i + 1) (by omega), List.drop_eq_getElem_cons (by omega : i < l.length), List.all_cons]
    simp [List.getD_eq_getElem?_getD, List.getElem?_eq_getElem (by omega : i < l.length)]
/-- A loop that leaves with false at the first number of which P does not hold. -/
theorem loop_all (F : Nat → Int → Option Bool) (n : Nat) (P : Nat → Bool) (fin : Bool)
    (hs : ∀ k (i : Nat), i < n → F (k + 1) i = if P i = true then F k ((i : Int) + 1) else some false) (he : ∀ k, F (k + 1) (n : Int) = some fin) :
    ∀ d k (i : Nat), i + d = n → d < k → F k i = some (allF P d i && fin)
  | 0, k, i, h, hk => by
    obtain ⟨k, rfl⟩ : ∃ m, k = m + 1 := ⟨k - 1, by omega⟩
    obtain rfl : i = n := by omega
    rw [he]
    simp [allF]
  | d + 1, k, i, h, hk => by
    obtain ⟨k, rfl⟩ : ∃ m, k = m + 1 := ⟨k - 1, by omega⟩
    rw [hs k i (by omega)]
    have ih := loop_all F n P fin hs he d k (i + 1) (by omega) (by omega)
    rw [show ((i + 1 : Nat) : Int) = (i : Int) + 1 by omega] at ih
    rw [ih]
    cases hp : P i <;> simp [allF, hp]
theorem loop_all0 (F : Nat → Int → Option Bool) (n : Nat) (P : Nat → Bool) (fin : Bool)
    (hs : ∀ k (i : Nat), i < n → F (k + 1) i = if P i = true then F k ((i : Int) + 1) else some false) (he : ∀ k, F (k + 1) (n : Int) = some fin) (k : Nat) (hk : n < k) : F k 0 = some (allF P n 0 && fin) :=
  loop_all F n P fin hs he n k 0 (by omega) hk
theorem bt_data (s : ByteArray) (i : Nat) (h : i < s.size) : bt s (i : Int) = ((s.data.toList.getD i 0).toNat : Int) := by
  have hl : s.size = s.data.toList.length := by simp
  have hj' : i < s.data.toList.length := by omega
  simp only [bt, Int.toNat_natCast]
  rw [dif_pos h]
  simp [List.getD_eq_getElem?_getD, List.getElem?_eq_getElem hj']
  rfl
/-- What lies between the bytes c of a row. -/
def pcs (c : UInt8) : List UInt8 → List (List UInt8)
  | [] => [[]]
  | b :: l => if b = c then [] :: pcs c l else match pcs c l with
    | p :: ps => (b :: p) :: ps
    | [] => [[b]]
theorem pcs_cons (c : UInt8) : ∀ l, ∃ p ps, pcs c l = p :: ps
  | [] => ⟨[], [], rfl⟩
  | b :: l => by
    obtain ⟨p, ps, h⟩ := pcs_cons c l
    by_cases hb : b = c
    · exact ⟨[], pcs c l, by simp [pcs, hb]⟩
    · exact ⟨b :: p, ps, by simp [pcs, hb, h]⟩
def splitL (c : UInt8) : Nat → List UInt8 → List (List UInt8)
  | 0, l => [l]
  | k + 1, l => if Lib.index l [c] = -1 then [l] else l.take (Lib.index l [c]).toNat :: splitL c k (l.drop ((Lib.index l [c]).toNat + 1))
theorem index_nil (c : UInt8) : Lib.index [] [c] = -1 := by simp [Lib.index]
theorem index_eq (c : UInt8) (l : List UInt8) : Lib.index (c :: l) [c] = 0 := by simp [Lib.index, List.isPrefixOf]
theorem index_ne (b c : UInt8) (l : List UInt8) (h : b ≠ c) : Lib.index (b :: l) [c] = if Lib.index l [c] = -1 then -1 else Lib.index l [c] + 1 := by
  have hp : ([c] : List UInt8).isPrefixOf (b :: l) = false := by simp [List.isPrefixOf, Ne.symm h]
  rw [Lib.index, hp]
  simp
theorem splitL_pcs (c : UInt8) : ∀ l, splitL c (l.count c) l = pcs c l
  | [] => rfl
  | b :: l => by
    have ih := splitL_pcs c l
    by_cases hb : b = c
    · subst hb
      rw [List.count_cons_self]
      simp only [splitL, pcs, if_true]
      rw [index_eq, if_neg (by decide)]
      simp [ih]
    · rw [List.count_cons_of_ne (by simpa using hb)]
      simp only [pcs]
      rw [if_neg hb, ← ih]
      have hge := Lib.index_ge l [c]
      by_cases hm : Lib.index l [c] = -1
      · have e1 : splitL c (l.count c) l = [l] := by
          cases l.count c with
          | zero => rfl
          | succ n => simp only [splitL]; rw [if_pos hm]
        have e2 : splitL c (l.count c) (b :: l) = [b :: l] := by
          cases l.count c with
          | zero => rfl
          | succ n => simp only [splitL]; rw [index_ne b c l hb, if_pos hm, if_pos rfl]
        rw [e1, e2]
      · have hc : l.count c ≠ 0 := fun h0 => by
          apply hm
          have := List.count_eq_zero.mp h0
          clear ih hge hm h0
          induction l with
          | nil => exact index_nil c
          | cons x l ih2 =>
            simp only [List.mem_cons, not_or] at this
            rw [index_ne x c l (fun e => this.1 e.symm), if_pos (ih2 this.2)]
        obtain ⟨n, hn⟩ : ∃ n, l.count c = n + 1 := ⟨l.count c - 1, by omega⟩
        rw [hn]
        simp only [splitL]
        rw [index_ne b c l hb, if_neg hm, if_neg hm, if_neg (by omega)]
        obtain ⟨j, hj⟩ : ∃ j : Nat, Lib.index l [c] = j := ⟨(Lib.index l [c]).toNat, by omega⟩
        rw [hj]
        have e3 : ((j : Int) + 1).toNat = j + 1 := by omega
        rw [e3]
        simp
theorem extract_list (s : ByteArray) (i j : Nat) : (s.extract i j).data.toList = (s.data.toList.drop i).take (j - i) := by
  rw [ByteArray.data_extract, Array.toList_extract, List.extract_eq_take_drop]
theorem splitB_list (c : UInt8) : ∀ k (s : ByteArray), (Lib.splitB ⟨#[c]⟩ 0 k s).map (fun x => x.data.toList) = splitL c k s.data.toList
  | 0, s => rfl
  | k + 1, s => by
    have hi : Lib.indexB s ⟨#[c]⟩ = Lib.index s.data.toList [c] := rfl
    have hge := Lib.index_ge s.data.toList [c]
    simp only [Lib.splitB, splitL]
    rw [hi]
    by_cases hm : Lib.index s.data.toList [c] = -1
    · rw [if_pos (beq_iff_eq.mpr hm), if_pos hm]
      rfl
    · rw [if_neg (fun e => hm (beq_iff_eq.mp e)), if_neg hm, List.map_cons, splitB_list c k, extract_list, extract_list]
      have hl : s.size = s.data.toList.length := by simp
      have e : (s.data.toList.drop ((Lib.index s.data.toList [c]).toNat + (⟨#[c]⟩ : ByteArray).size)).take (s.size - ((Lib.index s.data.toList [c]).toNat + (⟨#[c]⟩ : ByteArray).size)) = s.data.toList.drop ((Lib.index s.data.toList [c]).toNat + 1) := by
        rw [List.take_of_length_le (by rw [List.length_drop]; omega)]
        rfl
      rw [e]
      simp
theorem toBA (s : ByteArray) : (⟨s.data.toList.toArray⟩ : ByteArray) = s := by cases s; simp
/-- strings.Split at one byte. -/
theorem split_pcs (c : UInt8) (s : ByteArray) : Lib.splitB ⟨#[c]⟩ 0 (Lib.countB s ⟨#[c]⟩) s = (pcs c s.data.toList).map (fun l => (⟨l.toArray⟩ : ByteArray)) := by
  have h := splitB_list c (Lib.countB s ⟨#[c]⟩) s
  have hc : Lib.countB s ⟨#[c]⟩ = s.data.toList.count c := Lib.count_one c s.data.toList
  rw [hc, splitL_pcs] at h
  rw [← h, List.map_map, hc]
  simp [Function.comp_def, toBA]
/-- The words of a row of bytes, with blanks between: what stands already; what comes. -/
def wa : List UInt8 → List UInt8 → List (List UInt8)
  | cur, [] => if cur = [] then [] else [cur]
  | cur, b :: r => if b = 32 then (if cur = [] then [] else [cur]) ++ wa [] r else wa (cur ++ [b]) r
theorem wa_pcs : ∀ (r cur p : List UInt8) (ps : List (List UInt8)), pcs 32 r = p :: ps → wa cur r = ((cur ++ p) :: ps).filter (fun x => !x.isEmpty)
  | [], cur, p, ps, h => by
    simp only [pcs, List.cons.injEq] at h
    obtain ⟨rfl, rfl⟩ := h
    cases cur <;> simp [wa]
  | b :: r, cur, p, ps, h => by
    obtain ⟨p', ps', h'⟩ := pcs_cons 32 r
    by_cases hb : b = 32
    · subst hb
      simp only [pcs, if_true, List.cons.injEq] at h
      obtain ⟨rfl, rfl⟩ := h
      have ih := wa_pcs r [] p' ps' h'
      simp only [wa, if_true]
      rw [ih, h']
      cases cur <;> simp
    · simp only [pcs] at h
      rw [if_neg hb, h'] at h
      simp only [List.cons.injEq] at h
      obtain ⟨rfl, rfl⟩ := h
      simp only [wa]
      rw [if_neg hb, wa_pcs r (cur ++ [b]) p' ps' h']
      simp
def toBAs (l : List (List UInt8)) : List ByteArray := l.map (fun x => (⟨x.toArray⟩ : ByteArray))
/-- The words of a text. -/
def wordsOf (s : ByteArray) : List ByteArray := toBAs (wa [] s.data.toList)
theorem take_drop_snoc (l : List UInt8) (f i : Nat) (h1 : f ≤ i) (h2 : i < l.length) : (l.drop f).take (i + 1 - f) = (l.drop f).take (i - f) ++ [l.getD i 0] := by
  rw [show i + 1 - f = (i - f) + 1 by omega, List.take_succ_eq_append_getElem (by rw [List.length_drop]; omega)]
  congr 1
  simp [List.getElem_drop, List.getD_eq_getElem?_getD, List.getElem?_eq_getElem h2, show f + (i - f) = i by omega]
theorem extract_toBA (s : ByteArray) (f i : Nat) : s.extract f i = ⟨((s.data.toList.drop f).take (i - f)).toArray⟩ := by
  rw [← extract_list, toBA]
theorem l00Words_loop (s : ByteArray) (hs : s.size ≤ 1048576) : ∀ d k (f i : Nat) (acc : List ByteArray), i + d = s.size → f ≤ i → 2 * d + 4 < k → acc.length + (s.size + 1 - f) ≤ 1048580 →
    spec_l00Words.l0 k s acc (f : Int) (i : Int) = some (acc ++ toBAs (wa ((s.data.toList.drop f).take (i - f)) (s.data.toList.drop i)))
  | 0, k, f, i, acc, h, hf, hk, ha => by
    obtain ⟨k, rfl⟩ : ∃ m, k = m + 3 := ⟨k - 3, by omega⟩
    have hl : s.size = s.data.toList.length := by simp
    obtain rfl : i = s.size := by omega
    simp only [spec_l00Words.l0, spec_l00Words.j1]
    simp only [if_true]
    rw [List.drop_of_length_le (by omega : s.data.toList.length ≤ s.size)]
    by_cases hfi : f = s.size
    · subst hfi
      have e1 : ¬ ((s.size : Int) > (s.size : Int)) := by omega
      have e2 : wrap64 ((s.size : Int) + 1) = (s.size : Int) + 1 := w64 (by omega)
      have e3 : ¬ ((s.size : Int) + 1 ≤ (s.size : Int)) := by omega
      simp only [e1, e2, e3, if_false]
      rw [Nat.sub_self, List.take_zero]
      simp [wa, toBAs]
    · have e1 : (s.size : Int) > (f : Int) := by omega
      have e2 : wrap64 ((s.size : Int) + 1) = (s.size : Int) + 1 := w64 (by omega)
      have e3 : ¬ ((s.size : Int) + 1 ≤ (s.size : Int)) := by omega
      have e4 : (0 : Int) ≤ (f : Int) := by omega
      have e5 : (f : Int) ≤ (s.size : Int) := by omega
      have e6 : acc.length < 8796093022208 := by omega
      have e7 : (s.size : Int) ≤ (s.size : Int) := by omega
      simp only [e1, e2, e3, e4, e5, e6, e7, if_false, if_true]
      rw [Int.toNat_natCast, Int.toNat_natCast, extract_toBA]
      have hne : (s.data.toList.drop f).take (s.size - f) ≠ [] := by
        intro e
        have := congrArg List.length e
        rw [List.length_take, List.length_drop] at this
        simp at this
        omega
      simp [wa, toBAs, hne]
  | d + 1, k, f, i, acc, h, hf, hk, ha => by
    obtain ⟨k, rfl⟩ : ∃ m, k = m + 2 := ⟨k - 2, by omega⟩
    have hl : s.size = s.data.toList.length := by simp
    have hi : i < s.data.toList.length := by omega
    have hd : s.data.toList.drop i = s.data.toList.getD i 0 :: s.data.toList.drop (i + 1) := by
      rw [List.drop_eq_getElem_cons hi]
      simp [List.getD_eq_getElem?_getD, List.getElem?_eq_getElem hi]
    simp only [spec_l00Words.l0, spec_l00Words.j1]
    rw [if_pos (by omega), if_neg (by omega), if_pos (by omega), if_pos (by omega), hd, bt_data s i (by omega), w64 (by omega), show (i : Int) + 1 = ((i + 1 : Nat) : Int) by omega]
    by_cases hb : s.data.toList.getD i 0 = 32
    · have hb2 : ((((s.data.toList.getD i 0).toNat : Int)) == 32) = true := by rw [hb]; rfl
      rw [hb2, if_pos rfl]
      simp only [wa]
      rw [if_pos hb]
      by_cases hfi : f = i
      · subst hfi
        rw [if_neg (by omega), l00Words_loop s hs d k (f + 1) (f + 1) acc (by omega) (by omega) (by omega) (by omega), Nat.sub_self, Nat.sub_self, List.take_zero, List.take_zero]
        simp
      · have hne : (s.data.toList.drop f).take (i - f) ≠ [] := by
          intro e
          have := congrArg List.length e
          rw [List.length_take, List.length_drop] at this
          simp at this
          omega
        rw [if_pos (by omega), if_pos (by omega), if_pos (by omega), if_pos (by omega), if_pos (by omega), Int.toNat_natCast, Int.toNat_natCast, extract_toBA, l00Words_loop s hs d k (i + 1) (i + 1) _ (by omega) (by omega) (by omega) (by simp; omega), Nat.sub_self, List.take_zero, if_neg hne]
        simp [toBAs]
    · have hb2 : ((((s.data.toList.getD i 0).toNat : Int)) == 32) = false := by
        rw [beq_eq_false_iff_ne]
        intro e
        apply hb
        have : (s.data.toList.getD i 0).toNat = 32 := by omega
        exact UInt8.toNat_inj.mp this
      rw [hb2, if_neg (by decide), l00Words_loop s hs d k f (i + 1) acc (by omega) (by omega) (by omega) (by omega)]
      simp only [wa]
      rw [if_neg hb, take_drop_snoc _ f i hf hi]
theorem spec_l00Words_eq (s : ByteArray) (hs : s.size ≤ 1048576) (k : Nat) (hk : 2 * s.size + 10 < k) : spec_l00Words.f k s = some (wordsOf s) := by
  unfold spec_l00Words.f wordsOf
  have h := l00Words_loop s hs s.size k 0 0 [] (by omega) (by omega) (by omega) (by simp; omega)
  simpa using h
/-- The last byte of a text is a round bracket. -/
def endsB (w : ByteArray) : Bool := bt w ((w.size : Int) - 1) == 41
/-- The words of a line, without remarks. -/
def lw : List ByteArray → Bool → List ByteArray → List ByteArray × Bool
  | acc, ins, [] => (acc, !ins)
  | acc, true, w :: ws => lw acc (!endsB w) ws
  | acc, false, w :: ws => if w.toList = [92] then (acc, true) else if w.toList = [40] then lw acc true ws else lw (acc ++ [w]) false ws
theorem lw_len : ∀ (l acc : List ByteArray) (ins : Bool), (lw acc ins l).1.length ≤ acc.length + l.length
  | [], acc, ins => by simp [lw]
  | w :: ws, acc, true => by
    have := lw_len ws acc (!endsB w)
    simp only [lw, List.length_cons]
    omega
  | w :: ws, acc, false => by
    simp only [lw, List.length_cons]
    split
    · simp
    · split
      · have := lw_len ws acc true
        omega
      · have := lw_len ws (acc ++ [w]) false
        rw [List.length_append, List.length_singleton] at this
        omega
theorem rdOf_nat {α : Type} (z : α) (l : List α) (i : Nat) : rdOf z l (i : Int) = l.getD i z := by simp [rdOf]
theorem drop_getD (l : List ByteArray) (i : Nat) (hi : i < l.length) : l.drop i = l.getD i ByteArray.empty :: l.drop (i + 1) := by
  rw [List.drop_eq_getElem_cons hi]
  simp [List.getD_eq_getElem?_getD, List.getElem?_eq_getElem hi]
theorem spec_l02_loop (l : List ByteArray) (hl : l.length ≤ 1048580) (hw : ∀ w ∈ l, 0 < w.size ∧ w.size ≤ 1048576) : ∀ d k (i : Nat) (acc : List ByteArray) (ins : Bool), i + d = l.length → d < k → acc.length + d ≤ 1048580 →
    spec_l02Words.l0 k l acc ins (i : Int) = some (lw acc ins (l.drop i))
  | 0, k, i, acc, ins, h, hk, ha => by
    obtain ⟨k, rfl⟩ : ∃ m, k = m + 1 := ⟨k - 1, by omega⟩
    simp only [spec_l02Words.l0]
    rw [if_neg (by omega), List.drop_of_length_le (by omega)]
    cases ins <;> rfl
  | d + 1, k, i, acc, ins, h, hk, ha => by
    obtain ⟨k, rfl⟩ : ∃ m, k = m + 1 := ⟨k - 1, by omega⟩
    have hm : l.getD i ByteArray.empty ∈ l := by
      rw [List.getD_eq_getElem?_getD, List.getElem?_eq_getElem (by omega : i < l.length)]
      exact List.getElem_mem _
    obtain ⟨s1, s2⟩ := hw _ hm
    simp only [spec_l02Words.l0]
    rw [if_pos (by omega), if_pos (by omega), drop_getD l i (by omega), rdOf_nat, w64 (n := (i : Int) + 1) (by omega), show (i : Int) + 1 = ((i + 1 : Nat) : Int) by omega]
    cases ins with
    | true =>
      rw [if_pos rfl, w64 (by omega), if_pos (by omega), if_pos (by omega), spec_l02_loop l hl hw d k (i + 1) acc _ (by omega) (by omega) (by omega)]
      simp only [lw, endsB]
      rfl
    | false =>
      rw [if_neg (by decide)]
      simp only [lw]
      by_cases h1 : (l.getD i ByteArray.empty).toList = [92]
      · rw [if_pos h1, if_pos h1]
      · rw [if_neg h1, if_neg h1]
        by_cases h2 : (l.getD i ByteArray.empty).toList = [40]
        · rw [if_pos h2, if_pos h2, spec_l02_loop l hl hw d k (i + 1) acc true (by omega) (by omega) (by omega)]
        · rw [if_neg h2, if_neg h2, if_pos (by omega), spec_l02_loop l hl hw d k (i + 1) _ false (by omega) (by omega) (by simp; omega)]
theorem hasSuffix_eq (w : ByteArray) (h0 : 0 < w.size) (h1 : w.size ≤ 1048576) : strings_HasSuffix.f w (⟨#[41]⟩ : ByteArray) = some (endsB w) := by
  have e1 : ((⟨#[41]⟩ : ByteArray).size : Int) = 1 := rfl
  unfold strings_HasSuffix.f stringslite_HasSuffix.f endsB
  rw [e1, if_pos (by omega), w64 (by omega), if_pos (by omega), if_pos (by omega)]
  obtain ⟨n, hn⟩ : ∃ n, w.size = n + 1 := ⟨w.size - 1, by omega⟩
  have hl : w.size = w.data.toList.length := by simp
  rw [show ((w.size : Int) - 1) = (n : Int) by omega, Int.toNat_natCast, bt_data w n (by omega)]
  simp only [Option.bind_some, Option.some.injEq]
  have e2 : (w.extract n w.size).toList = [w.data.toList.getD n 0] := by
    rw [ByteArray.toList_eq, extract_list, hn, show n + 1 - n = 1 by omega, List.drop_eq_getElem_cons (by omega), List.take_succ_cons, List.take_zero]
    simp [List.getD_eq_getElem?_getD, List.getElem?_eq_getElem (show n < w.data.toList.length by omega)]
  have e3 : (⟨#[41]⟩ : ByteArray).toList = [41] := by rw [ByteArray.toList_eq]
  rw [e2, e3, Bool.eq_iff_iff, beq_iff_eq, beq_iff_eq]
  constructor
  · intro h
    simp only [List.cons.injEq, and_true] at h
    rw [h]
    rfl
  · intro h
    have : (w.data.toList.getD n 0).toNat = 41 := by omega
    have : w.data.toList.getD n 0 = 41 := UInt8.toNat_inj.mp this
    rw [this]
theorem toList_nil {w : ByteArray} : w.toList = [] ↔ w.size = 0 := by
  rw [ByteArray.toList_eq]
  constructor
  · intro h
    have := congrArg List.length h
    simpa using this
  · intro h
    exact List.eq_nil_of_length_eq_zero (by simpa using h)
theorem impl_lw_loop (l : List ByteArray) (hl : l.length ≤ 1048580) (hw : ∀ w ∈ l, w.size ≤ 1048576) : ∀ d k (i : Nat) (acc : List ByteArray) (ins : Bool), i + d = l.length → d < k → acc.length + d ≤ 1048580 →
    impl_lineWords.l0 k acc ins l (l.length : Int) (i : Int) = some (lw acc ins ((l.drop i).filter (fun w => !(w.size == 0))))
  | 0, k, i, acc, ins, h, hk, ha => by
    obtain ⟨k, rfl⟩ : ∃ m, k = m + 1 := ⟨k - 1, by omega⟩
    simp only [impl_lineWords.l0]
    rw [if_neg (by omega), List.drop_of_length_le (by omega)]
    cases ins <;> rfl
  | d + 1, k, i, acc, ins, h, hk, ha => by
    obtain ⟨k, rfl⟩ : ∃ m, k = m + 1 := ⟨k - 1, by omega⟩
    have hm : l.getD i ByteArray.empty ∈ l := by
      rw [List.getD_eq_getElem?_getD, List.getElem?_eq_getElem (by omega : i < l.length)]
      exact List.getElem_mem _
    have s2 := hw _ hm
    simp only [impl_lineWords.l0]
    rw [if_pos (by omega), if_pos (by omega), if_pos (by omega), drop_getD l i (by omega), rdOf_nat, w64 (n := (i : Int) + 1) (by omega), show (i : Int) + 1 = ((i + 1 : Nat) : Int) by omega]
    by_cases h0 : (l.getD i ByteArray.empty).size = 0
    · rw [if_pos (toList_nil.mpr h0), impl_lw_loop l hl hw d k (i + 1) acc ins (by omega) (by omega) (by omega), List.filter_cons_of_neg (p := fun w : ByteArray => !(w.size == 0)) (show ¬ ((!((l.getD i ByteArray.empty).size == 0)) = true) from by rw [h0]; decide)]
    · rw [if_neg (fun e => h0 (toList_nil.mp e)), List.filter_cons_of_pos (p := fun w : ByteArray => !(w.size == 0)) (show (!((l.getD i ByteArray.empty).size == 0)) = true from by rw [beq_eq_false_iff_ne.mpr h0]; rfl)]
      cases ins with
      | true =>
        rw [if_pos rfl, hasSuffix_eq _ (by omega) s2, Option.bind_some, impl_lw_loop l hl hw d k (i + 1) acc _ (by omega) (by omega) (by omega)]
        simp only [lw]
      | false =>
        rw [if_neg (by decide)]
        simp only [lw]
        by_cases h1 : (l.getD i ByteArray.empty).toList = [92]
        · rw [if_pos h1, if_pos h1]
        · rw [if_neg h1, if_neg h1]
          by_cases h2 : (l.getD i ByteArray.empty).toList = [40]
          · rw [if_pos h2, if_pos h2, impl_lw_loop l hl hw d k (i + 1) acc true (by omega) (by omega) (by omega)]
          · rw [if_neg h2, if_neg h2, if_pos (by omega), impl_lw_loop l hl hw d k (i + 1) _ false (by omega) (by omega) (by simp; omega)]
theorem pcs_len (c : UInt8) : ∀ l, (pcs c l).length = l.count c + 1
  | [] => rfl
  | b :: l => by
    obtain ⟨p, ps, h⟩ := pcs_cons c l
    have ih := pcs_len c l
    by_cases hb : b = c
    · simp [pcs, hb, ih]
    · simp only [pcs]
      rw [if_neg hb, h, List.count_cons_of_ne (by simpa using hb), ← ih, h]
      rfl
theorem pcs_bound (c : UInt8) : ∀ l, ∀ p ∈ pcs c l, p.length ≤ l.length
  | [], p, hp => by simp [pcs] at hp; simp [hp]
  | b :: l, p, hp => by
    obtain ⟨q, qs, h⟩ := pcs_cons c l
    have ih := pcs_bound c l
    by_cases hb : b = c
    · simp only [pcs, if_pos hb, List.mem_cons] at hp
      rcases hp with rfl | hp
      · simp
      · have := ih p hp
        simp
        omega
    · simp only [pcs] at hp
      rw [if_neg hb, h] at hp
      rcases List.mem_cons.mp hp with rfl | hp
      · have := ih q (by rw [h]; simp)
        simp
        omega
      · have := ih p (by rw [h]; exact List.mem_cons_of_mem _ hp)
        simp
        omega
/-- The words of a line; false of one that isn't closed. -/
def lineW (s : ByteArray) : List ByteArray × Bool := lw [] false (wordsOf s)
theorem wordsOf_filter (s : ByteArray) : ((pcs 32 s.data.toList).map (fun l => (⟨l.toArray⟩ : ByteArray))).filter (fun w => !(w.size == 0)) = wordsOf s := by
  obtain ⟨p, ps, h⟩ := pcs_cons 32 s.data.toList
  unfold wordsOf toBAs
  rw [wa_pcs _ [] p ps h, h, List.nil_append, List.filter_map]
  congr 1
  apply List.filter_congr
  intro x _
  show (!(x.toArray.size == 0)) = !x.isEmpty
  rw [List.size_toArray]
  cases x <;> rfl
theorem impl_lineWords_eq (s : ByteArray) (hs : s.size ≤ 1048576) (k : Nat) (hk : s.size + 2 < k) : impl_lineWords.f k s = some (lineW s) := by
  have hl : s.size = s.data.toList.length := by simp
  unfold impl_lineWords.f strings_Split.f lineW
  rw [if_pos (by omega), if_pos (by decide), Option.bind_some, split_pcs]
  have hlen : ((pcs 32 s.data.toList).map (fun l => (⟨l.toArray⟩ : ByteArray))).length ≤ s.size + 1 := by
    rw [List.length_map, pcs_len]
    have := List.count_le_length (a := (32 : UInt8)) (l := s.data.toList)
    omega
  have h := impl_lw_loop ((pcs 32 s.data.toList).map (fun l => (⟨l.toArray⟩ : ByteArray))) (by omega) (fun w hw => by
    obtain ⟨x, hx, rfl⟩ := List.mem_map.mp hw
    have := pcs_bound 32 _ x hx
    show x.toArray.size ≤ _
    simp
    omega) ((pcs 32 s.data.toList).map (fun l => (⟨l.toArray⟩ : ByteArray))).length k 0 [] false (by omega) (by omega) (by rw [List.length_nil]; omega)
  rw [show (0 : Int) = ((0 : Nat) : Int) from rfl, h, List.drop_zero, wordsOf_filter]
theorem wordsOf_ok (s : ByteArray) (hs : s.size ≤ 1048576) : (wordsOf s).length ≤ s.size + 1 ∧ ∀ w ∈ wordsOf s, 0 < w.size ∧ w.size ≤ 1048576 := by
  have hl : s.size = s.data.toList.length := by simp
  rw [← wordsOf_filter]
  constructor
  · have h1 := List.length_filter_le (fun w : ByteArray => !(w.size == 0)) ((pcs 32 s.data.toList).map (fun l => (⟨l.toArray⟩ : ByteArray)))
    rw [List.length_map, pcs_len] at h1
    have := List.count_le_length (a := (32 : UInt8)) (l := s.data.toList)
    omega
  · intro w hw
    obtain ⟨hm, hp⟩ := List.mem_filter.mp hw
    obtain ⟨x, hx, rfl⟩ := List.mem_map.mp hm
    have := pcs_bound 32 _ x hx
    have e : (⟨x.toArray⟩ : ByteArray).size = x.length := by simp [ByteArray.size]
    rw [e] at hp ⊢
    simp at hp
    have : 0 < x.length := List.length_pos_iff.mpr hp
    omega
theorem spec_l02Words_eq (s : ByteArray) (hs : s.size ≤ 1048576) (k : Nat) (hk : 2 * s.size + 10 < k) : spec_l02Words.f k s = some (lineW s) := by
  obtain ⟨h1, h2⟩ := wordsOf_ok s hs
  unfold spec_l02Words.f lineW
  rw [spec_l00Words_eq s hs k hk, Option.bind_some]
  have h := spec_l02_loop (wordsOf s) (by omega) h2 (wordsOf s).length k 0 [] false (by omega) (by omega) (by simp; omega)
  rw [show (0 : Int) = ((0 : Nat) : Int) from rfl, h, List.drop_zero]
/-- What LineWords tells. -/
def lineR (s : ByteArray) : List ByteArray × Int := if s.size > 65536 then ([], 2) else if s.size > 400 then ([], 8) else if (lineW s).2 = true then ((lineW s).1, 0) else ([], 3)
theorem spec_LineWords_eq (s : ByteArray) (hs : s.size ≤ 1048576) (k : Nat) (hk : 1000 < k) : spec_LineWords.f k s = some (lineR s) := by
  unfold spec_LineWords.f lineR
  by_cases h1 : s.size > 65536
  · rw [if_pos (by omega), if_pos h1]
  · rw [if_neg (by omega), if_neg h1]
    by_cases h2 : s.size > 400
    · rw [if_pos (by omega), if_pos h2]
    · rw [if_neg (by omega), if_neg h2, spec_l02Words_eq s hs k (by omega)]
      simp only [Option.bind_some]
      split <;> rfl
theorem impl_LineWords_eq (s : ByteArray) (hs : s.size ≤ 1048576) (k : Nat) (hk : 1000 < k) : impl_LineWords.f k s = some (lineR s) := by
  unfold impl_LineWords.f lineR
  by_cases h1 : s.size > 65536
  · rw [if_pos (by omega), if_pos h1]
  · rw [if_neg (by omega), if_neg h1]
    by_cases h2 : s.size > 400
    · rw [if_pos (by omega), if_pos h2]
    · rw [if_neg (by omega), if_neg h2, impl_lineWords_eq s hs k (by omega)]
      simp only [Option.bind_some]
      split <;> rfl
theorem lineR_len (s : ByteArray) : (lineR s).1.length ≤ 500 := by
  unfold lineR
  by_cases h1 : s.size > 65536
  · rw [if_pos h1]; simp
  · rw [if_neg h1]
    by_cases h2 : s.size > 400
    · rw [if_pos h2]; simp
    · rw [if_neg h2]
      have h3 := lw_len (wordsOf s) [] false
      obtain ⟨h4, _⟩ := wordsOf_ok s (by omega)
      split
      · show (lw [] false (wordsOf s)).1.length ≤ 500
        simp at h3
        omega
      · simp
theorem range_set {α : Type} (g : Nat → α) (x : List α) (i : Nat) (h : i < x.length) : ((List.range i).map g ++ x.drop i).set i (g i) = (List.range (i + 1)).map g ++ x.drop (i + 1) := by
  rw [List.set_append, if_neg (by simp), List.length_map, List.length_range, Nat.sub_self, List.drop_eq_getElem_cons h, List.set_cons_zero, List.range_succ, List.map_append, List.append_assoc]
  rfl
/-- A loop that writes each element anew. -/
theorem mark_loop {α : Type} (F : Nat → List α → Int → Int → Option (Int × List α)) (n : Nat) (mm : Nat → Int) (g : Nat → α)
    (hs : ∀ k (x : List α) (i : Nat), i < n → x.length = n → F (k + 1) x (mm i) i = F k (x.set i (g i)) (mm (i + 1)) ((i : Int) + 1))
    (he : ∀ k (x : List α), x.length = n → F (k + 1) x (mm n) (n : Int) = some (mm n, x)) (x0 : List α) (hx : x0.length = n) (k : Nat) (hk : n < k) : F k x0 (mm 0) 0 = some (mm n, (List.range n).map g) := by
  have key : ∀ d k (i : Nat), i + d = n → d < k → F k ((List.range i).map g ++ x0.drop i) (mm i) (i : Int) = some (mm n, (List.range n).map g) := by
    intro d
    induction d with
    | zero =>
      intro k i h hk
      obtain ⟨k, rfl⟩ : ∃ m, k = m + 1 := ⟨k - 1, by omega⟩
      obtain rfl : i = n := by omega
      rw [he _ _ (by simp; omega), List.drop_of_length_le (by omega)]
      simp
    | succ d ih =>
      intro k i h hk
      obtain ⟨k, rfl⟩ : ∃ m, k = m + 1 := ⟨k - 1, by omega⟩
      rw [hs k _ i (by omega) (by simp; omega), range_set g x0 i (by omega), show (i : Int) + 1 = ((i + 1 : Nat) : Int) by omega]
      exact ih k (i + 1) (by omega) (by omega)
  have h := key n k 0 (by omega) hk
  simpa using h
/-- A loop that looks whether each element is what was written. -/
theorem held_loop (F : Nat → Int → Int → Option Int) (n : Nat) (mm : Nat → Int)
    (hs : ∀ k (i : Nat), i < n → F (k + 1) (mm i) i = F k (mm (i + 1)) ((i : Int) + 1))
    (he : ∀ k, F (k + 1) (mm n) (n : Int) = some (mm n)) (k : Nat) (hk : n < k) : F k (mm 0) 0 = some (mm n) := by
  have key : ∀ d k (i : Nat), i + d = n → d < k → F k (mm i) (i : Int) = some (mm n) := by
    intro d
    induction d with
    | zero =>
      intro k i h hk
      obtain ⟨k, rfl⟩ : ∃ m, k = m + 1 := ⟨k - 1, by omega⟩
      obtain rfl : i = n := by omega
      rw [he]
    | succ d ih =>
      intro k i h hk
      obtain ⟨k, rfl⟩ : ∃ m, k = m + 1 := ⟨k - 1, by omega⟩
      rw [hs k i (by omega), show (i : Int) + 1 = ((i + 1 : Nat) : Int) by omega]
      exact ih k (i + 1) (by omega) (by omega)
  exact key n k 0 (by omega) hk
theorem range_getD {α : Type} (g : Nat → α) (z : α) (n i : Nat) (h : i < n) : ((List.range n).map g).getD i z = g i := by
  simp [List.getD_eq_getElem?_getD, List.getElem?_map, List.getElem?_range h]
/-- The text of a mark, digit by digit. -/
def mtGo : Nat → Int → ByteArray → ByteArray
  | 0, _, acc => (⟨#[109]⟩ : ByteArray) ++ acc
  | d + 1, m, acc => if m > 0 then mtGo d (Int.tdiv m 10) (strOfNums [(wrap64 (48 + (Int.tmod m 10))) % 256] ++ acc) else (⟨#[109]⟩ : ByteArray) ++ acc
def mtext (m : Int) : ByteArray := if m ≤ 0 then (⟨#[109, 48]⟩ : ByteArray) else mtGo 18 m ⟨#[]⟩
theorem strOfNums1 (x : Int) : (strOfNums [x]).size = 1 := by simp [strOfNums, ByteArray.size]
theorem size_append_ (a b : ByteArray) : (a ++ b).size = a.size + b.size := by simp
theorem mt_loop : ∀ d k (m : Int) (acc : ByteArray), m < 10 ^ d → d < k → acc.size + d ≤ 100000 → d ≤ 18 → laws_markText.l0 k m acc = some (mtGo d m acc)
  | 0, k, m, acc, h, hk, hs, _ => by
    obtain ⟨k, rfl⟩ : ∃ m, k = m + 1 := ⟨k - 1, by omega⟩
    simp only [laws_markText.l0, mtGo]
    rw [if_neg (by simp at h; omega), if_pos (by omega)]
  | d + 1, k, m, acc, h, hk, hs, hd => by
    obtain ⟨k, rfl⟩ : ∃ m, k = m + 1 := ⟨k - 1, by omega⟩
    simp only [laws_markText.l0, mtGo]
    by_cases h0 : m > 0
    · rw [if_pos h0, if_pos h0, Option.bind_some, if_pos (by rw [strOfNums1]; omega)]
      have e : Int.tdiv m 10 = m / 10 := Int.tdiv_eq_ediv_of_nonneg (by omega)
      have hp : (10 : Int) ^ (d + 1) = 10 ^ d * 10 := by rw [Int.pow_succ]
      have hb : m < 10 ^ 18 := by
        refine Int.lt_of_lt_of_le h ?_
        exact_mod_cast Nat.pow_le_pow_right (by decide : 0 < 10) hd
      rw [e, w64 (by omega)]
      exact mt_loop d k _ _ (by omega) (by omega) (by rw [size_append_, strOfNums1]; omega) (by omega)
    · rw [if_neg h0, if_neg h0, if_pos (by omega)]
theorem laws_markText_eq (m : Int) (h1 : m ≤ 1099511627776) (k : Nat) (hk : 18 < k) : laws_markText.f k m = some (mtext m) := by
  unfold laws_markText.f mtext
  by_cases h0 : m ≤ 0
  · rw [if_pos h0, if_pos h0]
  · rw [if_neg h0, if_neg h0]
    exact mt_loop 18 k m ⟨#[]⟩ (by omega) hk (by decide) (by decide)
def markT (m : Int) (j : Nat) : ByteArray := mtext (m + (j : Int))
def marksT (m : Int) (n : Nat) : List ByteArray := (List.range n).map (markT m)
theorem laws_markStringS_eq (l : List ByteArray) (hl : l.length ≤ 1048576) (m : Int) (h0 : 0 ≤ m) (h1 : m ≤ 1000000000) (k : Nat) (hk : l.length + 20 < k) : laws_markStringS.f k l m = some (m + (l.length : Int), marksT m l.length) := by
  obtain ⟨k, c, rfl, hc, hq⟩ : ∃ q c, k = q + c ∧ 18 < c ∧ l.length < q := ⟨k - 20, 20, by omega, by omega, by omega⟩
  have h := mark_loop (fun k x m i => laws_markStringS.l0 (k + c) x m i) l.length (fun i => m + (i : Int)) (markT m) (fun k x i hi hx => by
    simp only [show k + 1 + c = (k + c) + 1 by omega, laws_markStringS.l0]
    rw [if_pos (by omega), laws_markText_eq _ (by omega) (k + c) (by omega), Option.bind_some, if_pos (by omega), Int.toNat_natCast, w64 (by omega), w64 (by omega), show m + ((i + 1 : Nat) : Int) = m + (i : Int) + 1 by omega]
    rfl) (fun k x hx => by
    simp only [show k + 1 + c = (k + c) + 1 by omega, laws_markStringS.l0]
    rw [if_neg (by omega)]) l rfl k (by omega)
  simpa [laws_markStringS.f, marksT] using h
theorem laws_heldStringS_eq (n : Nat) (hn : n ≤ 1048576) (m : Int) (h0 : 0 ≤ m) (h1 : m ≤ 1000000000) (k : Nat) (hk : n + 20 < k) : laws_heldStringS.f k (marksT m n) m = some (m + (n : Int)) := by
  have hl : (marksT m n).length = n := by simp [marksT]
  obtain ⟨k, c, rfl, hc, hq⟩ : ∃ q c, k = q + c ∧ 18 < c ∧ n < q := ⟨k - 20, 20, by omega, by omega, by omega⟩
  have h := held_loop (fun k m' i => laws_heldStringS.l0 (k + c) (marksT m n) m' i) n (fun i => m + (i : Int)) (fun k i hi => by
    simp only [show k + 1 + c = (k + c) + 1 by omega, laws_heldStringS.l0, hl]
    rw [if_pos (by omega), if_pos (by omega), laws_markText_eq _ (by omega) (k + c) (by omega), Option.bind_some, rdOf_nat]
    rw [show (marksT m n).getD i ByteArray.empty = mtext (m + (i : Int)) from range_getD _ _ n i hi]
    rw [w64 (by omega), w64 (by omega), show m + ((i + 1 : Nat) : Int) = m + (i : Int) + 1 by omega]
    simp) (fun k => by
    simp only [show k + 1 + c = (k + c) + 1 by omega, laws_heldStringS.l0, hl]
    rw [if_neg (by omega)]) k (by omega)
  simpa [laws_heldStringS.f] using h
theorem laws_eqStringS_refl (a : List ByteArray) (ha : a.length ≤ 1048576) (k : Nat) (hk : a.length < k) : laws_eqStringS.f k a a = some true := by
  unfold laws_eqStringS.f
  rw [if_pos rfl]
  have hl := loop_all0 (fun k i => laws_eqStringS.l0 k a a i) a.length (fun _ => true) true (fun k i hi => by
    simp only [laws_eqStringS.l0]
    rw [if_pos (by omega), if_pos (by omega), if_pos (by omega), w64 (by omega)]) (fun k => by
    simp only [laws_eqStringS.l0]
    rw [if_neg (by omega)]) k hk
  rw [hl, allF_true _ _ (fun _ _ _ => rfl)]
  rfl
theorem FnExactLineWords : laws_FnExactLineWords.Pure := by
  intro s _
  refine ⟨2000, ?_⟩
  unfold laws_FnExactLineWords.f
  by_cases h1 : (s.size : Int) > 1048576
  · rw [if_pos h1]
  · rw [if_neg h1, spec_LineWords_eq s (by omega) _ (by omega), impl_LineWords_eq s (by omega) _ (by omega)]
    have hq := lineR_len s
    generalize lineR s = q at hq
    obtain ⟨q1, q2⟩ := q
    simp only at hq
    simp only [Option.bind_some]
    rw [laws_eqStringS_refl q1 (by omega) _ (by omega), laws_markStringS_eq q1 (by omega) 1 (by omega) (by omega) _ (by omega)]
    simp only [Option.bind_some, if_true]
    rw [laws_heldStringS_eq q1.length (by omega) 1 (by omega) (by omega) _ (by omega)]
    simp only [Option.bind_some, if_true]
    rw [if_neg (by omega), if_neg (by omega)]
end Go.Proofs.YtdfnjihnjemghaaDoor.Pure
