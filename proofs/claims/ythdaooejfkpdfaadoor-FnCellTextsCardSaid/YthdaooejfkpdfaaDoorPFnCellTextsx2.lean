-- laid by a program of this session out of the translation's own print: Lean checks it
import Derived.Test.YthdaooejfkpdfaaDoorPFnCellTextsx0
import Derived.Test.YthdaooejfkpdfaaDoorPFnCellTextsx1
namespace Go.Proofs.YthdaooejfkpdfaaDoor.PFnCellTexts
open Go.RowKit Go.Proofs.YthdaooejfkpdfaaDoorW.PrintWords Go.Proofs.YthdaooejfkpdfaaDoorW.PrintLast Go.Proofs.YthdaooejfkpdfaaDoorW.PrintMore
attribute [local go_sem] max2_int min2_int max_two min_two max_three min_three max_four min_four   -- for this text's walks alone
set_option linter.unusedVariables false
set_option linter.unusedSimpArgs false

/-! ### strconv_FormatInt_16: function 16 -/
def Tryd.laysM173_ren : Go.Shelf.Ren := ⟨fun | 173 => 16 | 246 => 29 | 283 => 43 | 284 => 44 | 285 => 45 | 286 => 46 | 129 => 55 | 317 => 54 | 318 => 56 | 319 => 57 | 320 => 58 | 337 => 64 | 338 => 65 | n => n, fun | 2 => 2 | 3 => 3 | 9 => 9 | 4 => 4 | 171 => 66 | 0 => 0 | 53 => 67 | 37 => 25 | 5 => 5 | 173 => 70 | 212 => 81 | 51 => 72 | 20 => 20 | 213 => 82 | 46 => 83 | 232 => 98 | 233 => 99 | n => n, fun | 17 => 1 | 18 => 5 | 19 => 6 | n => n⟩
theorem Tryd.laysM173 : Go.Proofs.LaysM.n173 Tryd.prog Tryd.laysM173_ren := {
  mixed := by kernel_rfl
  f129 := Tryd.func55.trans (congrArg some (by kernel_rfl))
  f173 := Tryd.func16.trans (congrArg some (by kernel_rfl))
  f246 := Tryd.func29.trans (congrArg some (by kernel_rfl))
  f283 := Tryd.func43.trans (congrArg some (by kernel_rfl))
  f284 := Tryd.func44.trans (congrArg some (by kernel_rfl))
  f285 := Tryd.func45.trans (congrArg some (by kernel_rfl))
  f286 := Tryd.func46.trans (congrArg some (by kernel_rfl))
  f317 := Tryd.func54.trans (congrArg some (by kernel_rfl))
  f318 := Tryd.func56.trans (congrArg some (by kernel_rfl))
  f319 := Tryd.func57.trans (congrArg some (by kernel_rfl))
  f320 := Tryd.func58.trans (congrArg some (by kernel_rfl))
  f337 := Tryd.func64.trans (congrArg some (by kernel_rfl))
  f338 := Tryd.func65.trans (congrArg some (by kernel_rfl))
  t0 := Tryd.underlying0
  a0 := Tryd.isAgg0
  z0 := Tryd.sizeOf0
  v0 := Tryd.zeroValue0
  t2 := Tryd.underlying2
  a2 := Tryd.isAgg2
  z2 := Tryd.sizeOf2
  v2 := Tryd.zeroValue2
  t3 := Tryd.underlying3
  a3 := Tryd.isAgg3
  z3 := Tryd.sizeOf3
  v3 := Tryd.zeroValue3
  t4 := Tryd.underlying4
  a4 := Tryd.isAgg4
  z4 := Tryd.sizeOf4
  v4 := Tryd.zeroValue4
  t5 := Tryd.underlying5
  a5 := Tryd.isAgg5
  z5 := Tryd.sizeOf5
  v5 := Tryd.zeroValue5
  t9 := Tryd.underlying9
  a9 := Tryd.isAgg9
  z9 := Tryd.sizeOf9
  v9 := Tryd.zeroValue9
  t20 := Tryd.underlying20
  a20 := Tryd.isAgg20
  z20 := Tryd.sizeOf20
  v20 := Tryd.zeroValue20
  t37 := Tryd.underlying25
  a37 := Tryd.isAgg25
  z37 := Tryd.sizeOf25
  v37 := Tryd.zeroValue25
  t46 := Tryd.underlying83
  a46 := Tryd.isAgg83
  z46 := Tryd.sizeOf83
  v46 := Tryd.zeroValue83
  t51 := Tryd.underlying72
  a51 := Tryd.isAgg72
  z51 := Tryd.sizeOf72
  v51 := Tryd.zeroValue72
  t53 := Tryd.underlying67
  a53 := Tryd.isAgg67
  z53 := Tryd.sizeOf67
  v53 := Tryd.zeroValue67
  t171 := Tryd.underlying66
  a171 := Tryd.isAgg66
  z171 := Tryd.sizeOf66
  v171 := Tryd.zeroValue66
  t173 := Tryd.underlying70
  a173 := Tryd.isAgg70
  z173 := Tryd.sizeOf70
  v173 := Tryd.zeroValue70
  t212 := Tryd.underlying81
  a212 := Tryd.isAgg81
  z212 := Tryd.sizeOf81
  v212 := Tryd.zeroValue81
  t213 := Tryd.underlying82
  a213 := Tryd.isAgg82
  z213 := Tryd.sizeOf82
  t232 := Tryd.underlying98
  a232 := Tryd.isAgg98
  z232 := Tryd.sizeOf98
  v232 := Tryd.zeroValue98
  t233 := Tryd.underlying99
  a233 := Tryd.isAgg99
  z233 := Tryd.sizeOf99
  v233 := Tryd.zeroValue99
  g17 := by kernel_rfl
  g18 := by kernel_rfl
  g19 := by kernel_rfl
  i0 := by kernel_rfl
  i2 := by kernel_rfl
  i3 := by kernel_rfl
  i4 := by kernel_rfl
  i5 := by kernel_rfl
  i9 := by kernel_rfl
  i20 := by kernel_rfl
  i37 := by kernel_rfl
  i46 := by kernel_rfl
  i51 := by kernel_rfl
  i53 := by kernel_rfl
  i171 := by kernel_rfl
  i173 := by kernel_rfl
  i212 := by kernel_rfl
  i232 := by kernel_rfl
  i233 := by kernel_rfl
  m17 := by kernel_rfl
  m18 := by kernel_rfl
  m19 := by kernel_rfl }
/-- One digit of a base up to 16, in small letters. -/
def fbDg (n : Nat) : UInt8 := Lib.digits36.data.toList.getD n 0
/-- The digits of n in base b (f: as many as there may be). -/
def fbDigs (b : Nat) : Nat → Nat → List UInt8
  | 0, _ => []
  | f + 1, n => if n < b then [fbDg n] else fbDigs b f (n / b) ++ [fbDg (n % b)]
/-- The row's places from i on, and what is left, tell U's digits. -/
structure FbInv (b U i v : Nat) (dk : Array UInt8) : Prop where
  size : dk.size = 65
  lo : 2 ≤ i
  hi : i ≤ 65
  vb : v < 2 ^ (i - 1)
  eq : fbDigs b (i - 1) v ++ dk.toList.drop i = fbDigs b 64 U
theorem fb_drop (dk : Array UInt8) (i : Nat) (x : UInt8) (h : i < dk.size) : (dk.setIfInBounds i x).toList.drop i = x :: dk.toList.drop (i + 1) := by
  rw [Array.toList_setIfInBounds, List.drop_eq_getElem_cons (by simpa using h), List.getElem_set_self]
  congr 1
  rw [List.drop_set, if_pos (by omega)]
theorem FbInv.start (b U : Nat) (h : U < 18446744073709551616) (dk : Array UInt8) (hs : dk.size = 65) : FbInv b U 65 U dk :=
  ⟨hs, by omega, by omega, by simpa using h, by rw [List.drop_of_length_le (by simp [hs])]; simp⟩
theorem FbInv.two {b U i v : Nat} {dk : Array UInt8} (h : FbInv b U (i + 1) v dk) (hb : 2 ≤ b) (hv : b ≤ v) : 2 ≤ i ∧ i < 65 := by
  have h1 := h.lo; have h2 := h.hi; have h3 := h.vb
  rcases Nat.lt_or_ge i 2 with hi | hi
  · obtain rfl : i = 1 := by omega
    simp at h3
    omega
  · exact ⟨hi, by omega⟩
theorem FbInv.step {b U i v : Nat} {dk : Array UInt8} (h : FbInv b U (i + 1) v dk) (hb : 2 ≤ b) (hv : b ≤ v) : FbInv b U i (v / b) (dk.setIfInBounds i (fbDg (v % b))) := by
  obtain ⟨h1, h2⟩ := h.two hb hv
  have h3 := h.vb
  refine ⟨by simpa using h.size, h1, by omega, ?_, ?_⟩
  · have h4 : v / b ≤ v / 2 := Nat.div_le_div_left hb (by omega)
    have h5 : 2 ^ (i + 1 - 1) = 2 * 2 ^ (i - 1) := by rw [show i + 1 - 1 = (i - 1) + 1 by omega, Nat.pow_succ]; omega
    omega
  · rw [fb_drop _ _ _ (by rw [h.size]; omega), ← h.eq]
    obtain ⟨j, rfl⟩ : ∃ j, i = j + 1 := ⟨i - 1, by omega⟩
    show fbDigs b j (v / b) ++ _ = fbDigs b (j + 1) v ++ _
    rw [fbDigs, if_neg (by omega), List.append_assoc]
    rfl
theorem FbInv.last {b U i v : Nat} {dk : Array UInt8} (h : FbInv b U (i + 1) v dk) (hv : v < b) : (dk.setIfInBounds i (fbDg v)).toList.drop i = fbDigs b 64 U ∧ 1 ≤ i ∧ i < 65 := by
  have h1 := h.lo; have h2 := h.hi
  refine ⟨?_, by omega, by omega⟩
  rw [fb_drop _ _ _ (by rw [h.size]; omega), ← h.eq]
  obtain ⟨j, rfl⟩ : ∃ j, i = j + 1 := ⟨i - 1, by omega⟩
  show _ = fbDigs b (j + 1) v ++ _
  rw [fbDigs, if_pos hv]
  rfl
theorem fb_idx {P : Program} (t : TypeId) (ht : P.underlying t = some .string) (k : IntKind) (z : Int) (i : Nat) (hz : z = (i : Int)) (hi : i < 36) (w : World) :
    (Instr.index t (.string Lib.digits36) (.int k z)).run P w = .ok (.int .u8 ((fbDg i).toNat : Int)) w := by
  subst hz
  rw [run_index_string w t Lib.digits36 k _ ht, dif_pos ⟨by omega, by rw [Lib.digits36_size]; omega⟩]
  have e : ((i : Int)).toNat = i := by omega
  simp only [e]
  rw [Lib.getD_at Lib.digits36 i (by rw [Lib.digits36_size]; exact hi)]
  rfl
/-- 'var a [65]byte', as the walk lays it. -/
theorem fbZeros_at (i : Nat) (h : i < 65) : Tryd.zeroCells82[i]? = some (.int .u8 0) := by
  have e : Tryd.zeroCells82 = Array.replicate 65 (.int .u8 0) := by kernel_rfl
  rw [e, Array.getElem?_replicate, if_pos h]
abbrev fbEnc : UInt8 → Value := fun (b : UInt8) => Value.int .u8 (b.toNat : Int)
theorem fb_zero (w : World) (T : TypeId) : Go.Sort.Holds fbEnc (w.alloc (.cells Tryd.zeroCells82 T)) w.heap.size 0 (Array.replicate 65 (0 : UInt8)) := fun j hj => by
  have hj' : j < 65 := by simpa using hj
  refine ⟨?_, World.frozen?_alloc_new _ _ _ _⟩
  rw [World.cell?_alloc_new, Nat.zero_add, fbZeros_at _ hj', getElem!_pos _ j hj]
  simp
theorem fb_fin (w : World) (o : Obj) (dk : Array UInt8) (k : Nat) : Below w.heap.size w ((Go.Sort.putRow fbEnc (w.alloc o) w.heap.size 0 dk).drewN k) := by
  have hd : Below w.heap.size w (w.drewN k) := pw_below_drewN (Below.refl _ _) k
  obtain ⟨os, e⟩ : ∃ os, (Go.Sort.putRow fbEnc (w.alloc o) w.heap.size 0 dk).drewN k = Go.Sort.grow (w.drewN k) os := by
    rw [Go.Sort.alloc_eq_grow]
    obtain ⟨os', _, e⟩ := Go.Sort.putRow_grow_new fbEnc w #[o] w.heap.size 0 dk (Nat.le_refl _)
    exact ⟨os', by rw [e]; rfl⟩
  rw [e]
  refine ⟨hd.os, hd.tape, hd.output, Nat.le_trans hd.size (by show _ ≤ ((w.drewN k).heap ++ os).size; rw [Array.size_append]; omega), fun j hj => ?_⟩
  have hs := hd.size
  show ((w.drewN k).heap ++ os)[j]? = _
  rw [Array.getElem?_append_left (by omega)]
  exact hd.block j hj
theorem fb_wrap (z : Nat) (h : z < 18446744073709551616) : IntKind.u64.wrap (z : Int) = (z : Int) := by rw [IntKind.wrap_u64]; omega
theorem fb_read (w : World) (dk : Array UInt8) (n i : Nat) (L : List UInt8) (hs : dk.size = 65) (hd : dk.toList.drop i = L) (j : Nat) (hj : j < L.length) :
    ((Go.Sort.putRow fbEnc (w.alloc (.cells Tryd.zeroCells82 82)) w.heap.size 0 dk).drewN n).cell? ((⟨w.heap.size, i, none⟩ : Addr).add j) = some (.int .u8 (L[j].toNat : Int)) := by
  subst hd
  have hj' : i + j < dk.size := by simp at hj; omega
  have h := Go.Sort.cell?_putRow fbEnc (w.alloc (.cells Tryd.zeroCells82 82)) w.heap.size 0 _ dk (fb_zero w 82) (by simp [hs]) (i + j) hj'
  rw [Lib.add_plain, World.cell?_drewN]
  rw [Nat.zero_add] at h
  rw [h, getElem!_pos dk (i + j) hj']
  simp
/-- Is a base a power of two? -/
def fbPow (b : Nat) : Bool := b == 2 || b == 4 || b == 8 || b == 16
theorem fb_isPow (b : Nat) (h1 : 2 ≤ b) (h2 : b ≤ 16) (w : World) : Calls Tryd.prog 57 #[.int .i64 b] w fun e w' => e = .returned (.bool (fbPow b)) ∧ w' = w := by
  have hb : b = 2 ∨ b = 3 ∨ b = 4 ∨ b = 5 ∨ b = 6 ∨ b = 7 ∨ b = 8 ∨ b = 9 ∨ b = 10 ∨ b = 11 ∨ b = 12 ∨ b = 13 ∨ b = 14 ∨ b = 15 ∨ b = 16 := by omega
  rcases hb with rfl | rfl | rfl | rfl | rfl | rfl | rfl | rfl | rfl | rfl | rfl | rfl | rfl | rfl | rfl
  all_goals
    go_enter Tryd.func57, Tryd.ntmps57
    go_wp2
    go_ret
    exact ⟨rfl, rfl⟩
theorem fb_notPow (b : Nat) (h1 : 2 ≤ b) (h2 : b ≤ 16) (hp : fbPow b = false) (w : World) : Calls Tryd.prog 57 #[.int .i64 b] w fun e w' => e = .returned (.bool false) ∧ w' = w := by
  have h := fb_isPow b h1 h2 w
  rw [hp] at h
  exact h
set_option maxHeartbeats 4000000 in
set_option maxRecDepth 100000 in
theorem fb_other_pos (b U : Nat) (h2 : 2 ≤ b) (h16 : b ≤ 16) (h10 : b ≠ 10) (hp : fbPow b = false) (hU : U < 18446744073709551616) (w : World) :
    Calls Tryd.prog 46 #[.slice none 0 0, .int .u64 U, .int .i64 b, .bool false, .bool false] w fun e w' => e = .returned (.tuple #[.slice none 0 0, .string ⟨(fbDigs b 64 U).toArray⟩]) ∧ Below w.heap.size w w' := by
  have hC := fb_notPow b h2 h16 hp
  have hbi : (2 : Int) ≤ (b : Int) := by omega
  have hbi2 : (b : Int) ≤ 16 := by omega
  have hbn : ((b : Int) == 10) = false := by simp; omega
  have hbu : IntKind.u64.wrap (b : Int) = (b : Int) := by rw [IntKind.wrap_u64]; omega
  have HP := Lib.hid hp
  clear hp h10
  go_enter Tryd.func46, Tryd.ntmps46
  go_name_bytes_deep 45 PS hPS
  clear hPS
  go_name_bytes_deep 38 DG hDG
  have eDG : DG = Lib.digits36 := by rw [← hDG]; decide +kernel
  subst eDG
  clear hDG
  go_wp2_with (go_at_call 57; refine (hC _).mono ?_; rintro e w' ⟨rfl, hw'⟩; rw [hw'])
  have hH0 := fb_zero w 82
  have HHZ := Lib.hid hH0
  clear hH0
  go_loopw [1, 13] (fun vu vi wr => ∃ (v i n : Nat) (dk : Array UInt8), vu = .int .u64 v ∧ vi = .int .i64 ((i : Int) + 1) ∧ wr = (Go.Sort.putRow fbEnc (w.alloc (.cells Tryd.zeroCells82 82)) w.heap.size 0 dk).drewN n ∧ Hid (FbInv b U (i + 1) v dk)) (fun vu _ _ => (RowKit.intOf vu).toNat)
  case atStart => exact ⟨U, 64, 0, Array.replicate 65 0, rfl, rfl, by rw [Go.Sort.putRow_self _ _ _ _ _ HHZ.out]; rfl, FbInv.start b U hU _ (Array.size_replicate ..)⟩
  case round =>
    obtain ⟨v, i, n, dk, rfl, rfl, hw0, HI⟩ := hrel
    rename World => W0
    have hs0 := HI.out.size
    have hv64 : v < 18446744073709551616 := by
      have h1 := HI.out.vb; have h2 := HI.out.hi
      have h3 : 2 ^ (i + 1 - 1) ≤ 2 ^ 64 := Nat.pow_le_pow_right (by omega) (by omega)
      omega
    have hH1 : Go.Sort.Holds fbEnc W0 w.heap.size 0 dk := by rw [hw0]; exact Go.Sort.holds_putRow _ _ _ _ _ dk HHZ.out (by rw [hs0]; simp)
    have hi65 : i < 65 := by have := HI.out.hi; omega
    have hc0 : W0.cell? ⟨w.heap.size, i, none⟩ = some (.int .u8 (dk[i]!.toNat : Int)) := by have := (hH1 i (by omega)).1; rwa [Nat.zero_add] at this
    have hf0 : W0.frozen? ⟨w.heap.size, i, none⟩ = false := by have := (hH1 i (by omega)).2; rwa [Nat.zero_add] at this
    have HW0 := Lib.hid hw0
    have HS0 := Lib.hid hs0
    clear hw0 hH1 hs0
    by_cases hlt : b ≤ v
    · obtain ⟨h2i, _⟩ := HI.out.two h2 hlt
      have HN := Lib.hid (FbInv.step HI.out h2 hlt)
      have hdm := Nat.div_add_mod v b
      have hml := Nat.mod_lt v (show b > 0 by omega)
      have hdl := Nat.div_le_self v b
      have e1 : IntKind.u64.wrap ((v : Int) / (b : Int)) = ((v / b : Nat) : Int) := by rw [← Int.natCast_ediv]; exact fb_wrap _ (by omega)
      have e2 : IntKind.u64.wrap (((v / b : Nat) : Int) * (b : Int)) = ((b * (v / b) : Nat) : Int) := by rw [← Int.natCast_mul, Nat.mul_comm]; exact fb_wrap _ (by omega)
      have e3 : IntKind.u64.wrap ((v : Int) - ((b * (v / b) : Nat) : Int)) = ((v % b : Nat) : Int) := by
        rw [show (v : Int) - ((b * (v / b) : Nat) : Int) = ((v % b : Nat) : Int) by omega]
        exact fb_wrap _ (by omega)
      have hX : ∀ w, (Instr.index 9 (.string Lib.digits36) (.int .u64 ((v % b : Nat) : Int))).run Tryd.prog w = .ok (.int .u8 ((fbDg (v % b)).toNat : Int)) w := fb_idx 9 Tryd.underlying9 .u64 _ (v % b) rfl (by omega)
      have hlq : v / b < v := Nat.div_lt_self (by omega) (by omega)
      have HLQ := Lib.hid hlq
      clear hdm hml hdl hlq
      generalize b * (v / b) = p at e2 e3
      generalize v / b = q at e1 e2 HN HLQ
      generalize v % b = r at e3 hX HN
      go_wp2
      go_roundw
      case rel =>
        refine ⟨q, i - 1, n, dk.setIfInBounds i (fbDg r), rfl, by congr 1; omega, ?_, ?_⟩
        · rw [HW0.out]
          have h := Lib.store1_world (w.alloc (.cells Tryd.zeroCells82 82)) w.heap.size 0 dk n i (fbDg r) (by rw [HS0.out]; omega)
          rw [Nat.zero_add] at h
          exact h
        · rw [show i - 1 + 1 = i by omega]
          exact HN.out
      case measure =>
        have := HLQ.out
        simp [RowKit.intOf]
        omega
    · have hX : ∀ w, (Instr.index 9 (.string Lib.digits36) (.int .u64 (v : Int))).run Tryd.prog w = .ok (.int .u8 ((fbDg v).toNat : Int)) w := fb_idx 9 Tryd.underlying9 .u64 _ v rfl (by omega)
      have HL := Lib.hid (FbInv.last HI.out (by omega))
      obtain ⟨hd, h1i, _⟩ := HL.out
      have hlen : (fbDigs b 64 U).length = 65 - i := by rw [← hd, List.length_drop]; simp; rw [HS0.out]
      have hal : Tryd.prog.arrayLen 82 = 65 := by kernel_rfl
      have hsl : ∀ W, (Instr.sliceAt 82 (.pointer (some ⟨w.heap.size, 0, none⟩)) (some (.int .i64 (i : Int))) none none).run Tryd.prog W = .ok (.slice (some ⟨w.heap.size, i, none⟩) (fbDigs b 64 U).length (65 - i)) W := fun W => by
        rw [run_sliceAt_array_l W 82 ⟨w.heap.size, 0, none⟩ (by kernel_rfl) .i64 (i : Int) (by omega) (by rw [hal]; omega)]
        go_simp
        omega
      have HD := Lib.hid hd
      have HLN := Lib.hid hlen
      clear hd hlen hal
      have hst : W0.setCell ⟨w.heap.size, i, none⟩ (.int .u8 ((fbDg v).toNat : Int)) = (Go.Sort.putRow fbEnc (w.alloc (.cells Tryd.zeroCells82 82)) w.heap.size 0 (dk.setIfInBounds i (fbDg v))).drewN n := by
        have h := Lib.store1_world (w.alloc (.cells Tryd.zeroCells82 82)) w.heap.size 0 dk n i (fbDg v) (by rw [HS0.out]; omega)
        rw [Nat.zero_add] at h
        rw [HW0.out]
        exact h
      have hcv : (convert 25 9 (.slice (some ⟨w.heap.size, i, none⟩) (fbDigs b 64 U).length (65 - i))).run Tryd.prog (W0.setCell ⟨w.heap.size, i, none⟩ (.int .u8 ((fbDg v).toNat : Int))) = .ok (.string ⟨(fbDigs b 64 U).toArray⟩) (W0.setCell ⟨w.heap.size, i, none⟩ (.int .u8 ((fbDg v).toNat : Int))) :=
        run_convert_bytes_back (P := Tryd.prog) _ 25 9 5 ⟨w.heap.size, i, none⟩ (65 - i) (fbDigs b 64 U) Tryd.underlying25 Tryd.underlying5 Tryd.underlying9 (fun j hj => by
          rw [hst]
          exact fb_read w _ n i _ (by simpa using HS0.out) HD.out j hj)
      have HST := Lib.hid hst
      clear hst
      go_wp2
      go_ret2
      exact ⟨rfl, by rw [HST.out]; exact fb_fin w _ _ n⟩
set_option maxHeartbeats 4000000 in
set_option maxRecDepth 100000 in
theorem fb_other_neg (b U : Nat) (a : Int) (h2 : 2 ≤ b) (h16 : b ≤ 16) (h10 : b ≠ 10) (hp : fbPow b = false) (hU : U < 18446744073709551616) (ha : IntKind.u64.wrap (-a) = (U : Int)) (w : World) :
    Calls Tryd.prog 46 #[.slice none 0 0, .int .u64 a, .int .i64 b, .bool true, .bool false] w fun e w' => e = .returned (.tuple #[.slice none 0 0, .string ⟨(45 :: fbDigs b 64 U).toArray⟩]) ∧ Below w.heap.size w w' := by
  have hC := fb_notPow b h2 h16 hp
  have hbi : (2 : Int) ≤ (b : Int) := by omega
  have hbi2 : (b : Int) ≤ 16 := by omega
  have hbn : ((b : Int) == 10) = false := by simp; omega
  have hbu : IntKind.u64.wrap (b : Int) = (b : Int) := by rw [IntKind.wrap_u64]; omega
  have HP := Lib.hid hp
  clear hp h10
  go_enter Tryd.func46, Tryd.ntmps46
  go_name_bytes_deep 45 PS hPS
  clear hPS
  go_name_bytes_deep 38 DG hDG
  have eDG : DG = Lib.digits36 := by rw [← hDG]; decide +kernel
  subst eDG
  clear hDG
  go_wp2_with (go_at_call 57; refine (hC _).mono ?_; rintro e w' ⟨rfl, hw'⟩; rw [hw'])
  have hH0 := fb_zero w 82
  have HHZ := Lib.hid hH0
  clear hH0
  go_loopw [1, 13] (fun vu vi wr => ∃ (v i n : Nat) (dk : Array UInt8), vu = .int .u64 v ∧ vi = .int .i64 ((i : Int) + 1) ∧ wr = (Go.Sort.putRow fbEnc (w.alloc (.cells Tryd.zeroCells82 82)) w.heap.size 0 dk).drewN n ∧ Hid (FbInv b U (i + 1) v dk)) (fun vu _ _ => (RowKit.intOf vu).toNat)
  case atStart => exact ⟨U, 64, 0, Array.replicate 65 0, rfl, rfl, by rw [Go.Sort.putRow_self _ _ _ _ _ HHZ.out]; rfl, FbInv.start b U hU _ (Array.size_replicate ..)⟩
  case round =>
    obtain ⟨v, i, n, dk, rfl, rfl, hw0, HI⟩ := hrel
    rename World => W0
    have hs0 := HI.out.size
    have hv64 : v < 18446744073709551616 := by
      have h1 := HI.out.vb; have h2 := HI.out.hi
      have h3 : 2 ^ (i + 1 - 1) ≤ 2 ^ 64 := Nat.pow_le_pow_right (by omega) (by omega)
      omega
    have hH1 : Go.Sort.Holds fbEnc W0 w.heap.size 0 dk := by rw [hw0]; exact Go.Sort.holds_putRow _ _ _ _ _ dk HHZ.out (by rw [hs0]; simp)
    have hi65 : i < 65 := by have := HI.out.hi; omega
    have hc0 : W0.cell? ⟨w.heap.size, i, none⟩ = some (.int .u8 (dk[i]!.toNat : Int)) := by have := (hH1 i (by omega)).1; rwa [Nat.zero_add] at this
    have hf0 : W0.frozen? ⟨w.heap.size, i, none⟩ = false := by have := (hH1 i (by omega)).2; rwa [Nat.zero_add] at this
    have hC1 : ∀ m, i = m + 1 → W0.cell? ⟨w.heap.size, m, none⟩ = some (.int .u8 (dk[m]!.toNat : Int)) ∧ W0.frozen? ⟨w.heap.size, m, none⟩ = false := fun m hm => by have := hH1 m (by omega); rwa [Nat.zero_add] at this
    have HC := Lib.hid hC1
    clear hC1
    have HW0 := Lib.hid hw0
    have HS0 := Lib.hid hs0
    clear hw0 hH1 hs0
    by_cases hlt : b ≤ v
    · obtain ⟨h2i, _⟩ := HI.out.two h2 hlt
      have HN := Lib.hid (FbInv.step HI.out h2 hlt)
      have hdm := Nat.div_add_mod v b
      have hml := Nat.mod_lt v (show b > 0 by omega)
      have hdl := Nat.div_le_self v b
      have e1 : IntKind.u64.wrap ((v : Int) / (b : Int)) = ((v / b : Nat) : Int) := by rw [← Int.natCast_ediv]; exact fb_wrap _ (by omega)
      have e2 : IntKind.u64.wrap (((v / b : Nat) : Int) * (b : Int)) = ((b * (v / b) : Nat) : Int) := by rw [← Int.natCast_mul, Nat.mul_comm]; exact fb_wrap _ (by omega)
      have e3 : IntKind.u64.wrap ((v : Int) - ((b * (v / b) : Nat) : Int)) = ((v % b : Nat) : Int) := by
        rw [show (v : Int) - ((b * (v / b) : Nat) : Int) = ((v % b : Nat) : Int) by omega]
        exact fb_wrap _ (by omega)
      have hX : ∀ w, (Instr.index 9 (.string Lib.digits36) (.int .u64 ((v % b : Nat) : Int))).run Tryd.prog w = .ok (.int .u8 ((fbDg (v % b)).toNat : Int)) w := fb_idx 9 Tryd.underlying9 .u64 _ (v % b) rfl (by omega)
      have hlq : v / b < v := Nat.div_lt_self (by omega) (by omega)
      have HLQ := Lib.hid hlq
      clear hdm hml hdl hlq
      generalize b * (v / b) = p at e2 e3
      generalize v / b = q at e1 e2 HN HLQ
      generalize v % b = r at e3 hX HN
      go_wp2
      go_roundw
      case rel =>
        refine ⟨q, i - 1, n, dk.setIfInBounds i (fbDg r), rfl, by congr 1; omega, ?_, ?_⟩
        · rw [HW0.out]
          have h := Lib.store1_world (w.alloc (.cells Tryd.zeroCells82 82)) w.heap.size 0 dk n i (fbDg r) (by rw [HS0.out]; omega)
          rw [Nat.zero_add] at h
          exact h
        · rw [show i - 1 + 1 = i by omega]
          exact HN.out
      case measure =>
        have := HLQ.out
        simp [RowKit.intOf]
        omega
    · have hX : ∀ w, (Instr.index 9 (.string Lib.digits36) (.int .u64 (v : Int))).run Tryd.prog w = .ok (.int .u8 ((fbDg v).toNat : Int)) w := fb_idx 9 Tryd.underlying9 .u64 _ v rfl (by omega)
      have HL := Lib.hid (FbInv.last HI.out (by omega))
      obtain ⟨hd, h1i, _⟩ := HL.out
      obtain ⟨m, rfl⟩ : ∃ m, i = m + 1 := ⟨i - 1, by omega⟩
      have HC1 := Lib.hid (HC.out m rfl).1
      have HF1 := Lib.hid (HC.out m rfl).2
      have hst : (W0.setCell ⟨w.heap.size, m + 1, none⟩ (.int .u8 ((fbDg v).toNat : Int))).setCell ⟨w.heap.size, m, none⟩ (.int .u8 45) = (Go.Sort.putRow fbEnc (w.alloc (.cells Tryd.zeroCells82 82)) w.heap.size 0 ((dk.setIfInBounds (m + 1) (fbDg v)).setIfInBounds m 45)).drewN n := by
        have h := Lib.store1_world (w.alloc (.cells Tryd.zeroCells82 82)) w.heap.size 0 dk n (m + 1) (fbDg v) (by rw [HS0.out]; omega)
        have h' := Lib.store1_world (w.alloc (.cells Tryd.zeroCells82 82)) w.heap.size 0 (dk.setIfInBounds (m + 1) (fbDg v)) n m 45 (by simp; rw [HS0.out]; omega)
        rw [Nat.zero_add] at h h'
        rw [HW0.out, h]
        exact h'
      have hd2 : ((dk.setIfInBounds (m + 1) (fbDg v)).setIfInBounds m 45).toList.drop m = 45 :: fbDigs b 64 U := by
        rw [fb_drop _ _ _ (by simp; rw [HS0.out]; omega), hd]
      have hlen : (45 :: fbDigs b 64 U).length = 65 - m := by rw [← hd2, List.length_drop]; simp; rw [HS0.out]
      have hlen2 : (65 - m) = (65 - m : Nat) := rfl
      have hc1 : (W0.setCell ⟨w.heap.size, m + 1, none⟩ (.int .u8 ((fbDg v).toNat : Int))).cell? ⟨w.heap.size, m, none⟩ = some (.int .u8 (dk[m]!.toNat : Int)) := by
        rw [World.cell?_setCell_other _ _ _ _ (by simp)]
        exact HC1.out
      have hf1 : (W0.setCell ⟨w.heap.size, m + 1, none⟩ (.int .u8 ((fbDg v).toNat : Int))).frozen? ⟨w.heap.size, m, none⟩ = false := by
        rw [World.frozen?_setCell]
        exact HF1.out
      have hal : Tryd.prog.arrayLen 82 = 65 := by kernel_rfl
      have hsl : ∀ W, (Instr.sliceAt 82 (.pointer (some ⟨w.heap.size, 0, none⟩)) (some (.int .i64 (m : Int))) none none).run Tryd.prog W = .ok (.slice (some ⟨w.heap.size, m, none⟩) (45 :: fbDigs b 64 U).length (65 - m)) W := fun W => by
        rw [run_sliceAt_array_l W 82 ⟨w.heap.size, 0, none⟩ (by kernel_rfl) .i64 (m : Int) (by omega) (by rw [hal]; omega), hlen]
        go_simp
        omega
      have HD := Lib.hid hd2
      have HLN := Lib.hid hlen
      clear hd hd2 hlen hlen2 hal
      have hcv : (convert 25 9 (.slice (some ⟨w.heap.size, m, none⟩) (45 :: fbDigs b 64 U).length (65 - m))).run Tryd.prog ((W0.setCell ⟨w.heap.size, m + 1, none⟩ (.int .u8 ((fbDg v).toNat : Int))).setCell ⟨w.heap.size, m, none⟩ (.int .u8 45)) = .ok (.string ⟨(45 :: fbDigs b 64 U).toArray⟩) ((W0.setCell ⟨w.heap.size, m + 1, none⟩ (.int .u8 ((fbDg v).toNat : Int))).setCell ⟨w.heap.size, m, none⟩ (.int .u8 45)) :=
        run_convert_bytes_back (P := Tryd.prog) _ 25 9 5 ⟨w.heap.size, m, none⟩ (65 - m) (45 :: fbDigs b 64 U) Tryd.underlying25 Tryd.underlying5 Tryd.underlying9 (fun j hj => by
          rw [hst]
          exact fb_read w _ n m _ (by simpa using HS0.out) HD.out j hj)
      have HST := Lib.hid hst
      clear hst
      generalize hLL : (45 :: fbDigs b 64 U) = LL at hsl hcv
      have HLL := Lib.hid hLL
      clear hLL
      go_wp2
      go_ret2
      exact ⟨by rw [HLL.out]; rfl, by rw [HST.out]; exact fb_fin w _ _ n⟩
set_option maxHeartbeats 4000000 in
set_option maxRecDepth 100000 in
theorem fb_pow_pos (b U : Nat) (s : Nat) (hb : (b = 2 ∧ s = 1) ∨ (b = 4 ∧ s = 2) ∨ (b = 8 ∧ s = 3) ∨ (b = 16 ∧ s = 4)) (hU : U < 18446744073709551616) (w : World) (hTZ : ∀ w1 : World, Below w.heap.size w w1 → Calls Tryd.prog 58 #[.int .u64 b] w1 fun e w' => e = .returned (.int .i64 s) ∧ w' = w1) :
    Calls Tryd.prog 46 #[.slice none 0 0, .int .u64 U, .int .i64 b, .bool false, .bool false] w fun e w' => e = .returned (.tuple #[.slice none 0 0, .string ⟨(fbDigs b 64 U).toArray⟩]) ∧ Below w.heap.size w w' := by
  have h2 : 2 ≤ b := by omega
  have h16 : b ≤ 16 := by omega
  have h10 : b ≠ 10 := by omega
  have hC : ∀ w : World, Calls Tryd.prog 57 #[.int .i64 b] w fun e w' => e = .returned (.bool true) ∧ w' = w := by
    intro w
    have h := fb_isPow b h2 h16 w
    have hp : fbPow b = true := by rcases hb with ⟨rfl, _⟩ | ⟨rfl, _⟩ | ⟨rfl, _⟩ | ⟨rfl, _⟩ <;> rfl
    rw [hp] at h
    exact h
  have hbs : b = 2 ^ s := by rcases hb with ⟨rfl, rfl⟩ | ⟨rfl, rfl⟩ | ⟨rfl, rfl⟩ | ⟨rfl, rfl⟩ <;> rfl
  have hs4 : s ≤ 4 := by omega
  obtain ⟨m1, hm1⟩ : ∃ m1, b = m1 + 1 := ⟨b - 1, by omega⟩
  have hmw : IntKind.u64.wrap ((b : Int) - 1) = (m1 : Int) := by rw [IntKind.wrap_u64]; omega
  have hsw : IntKind.u64.wrap (s : Int) = (s : Int) := by rw [IntKind.wrap_u64]; omega
  have HBS := Lib.hid hbs
  have HM1 := Lib.hid hm1
  have HB0 := Lib.hid hb
  clear hbs hm1 hb
  have hbi : (2 : Int) ≤ (b : Int) := by omega
  have hbi2 : (b : Int) ≤ 16 := by omega
  have hbn : ((b : Int) == 10) = false := by simp; omega
  have hbu : IntKind.u64.wrap (b : Int) = (b : Int) := by rw [IntKind.wrap_u64]; omega
  clear h10
  go_enter Tryd.func46, Tryd.ntmps46
  go_name_bytes_deep 45 PS hPS
  clear hPS
  go_name_bytes_deep 38 DG hDG
  have eDG : DG = Lib.digits36 := by rw [← hDG]; decide +kernel
  subst eDG
  clear hDG
  go_wp2_with (first | (go_at_call 57; refine (hC _).mono ?_; rintro e w' ⟨rfl, hw'⟩; rw [hw']) | (go_at_call 58; refine (hTZ _ ((Below.refl _ _).alloc (Nat.le_refl _) _)).mono ?_; rintro e w' ⟨rfl, hw'⟩; rw [hw']))
  have hH0 := fb_zero w 82
  have HHZ := Lib.hid hH0
  clear hH0
  go_loopw [1, 13] (fun vu vi wr => ∃ (v i n : Nat) (dk : Array UInt8), vu = .int .u64 v ∧ vi = .int .i64 ((i : Int) + 1) ∧ wr = (Go.Sort.putRow fbEnc (w.alloc (.cells Tryd.zeroCells82 82)) w.heap.size 0 dk).drewN n ∧ Hid (FbInv b U (i + 1) v dk)) (fun vu _ _ => (RowKit.intOf vu).toNat)
  case atStart => exact ⟨U, 64, 0, Array.replicate 65 0, rfl, rfl, by rw [Go.Sort.putRow_self _ _ _ _ _ HHZ.out]; rfl, FbInv.start b U hU _ (Array.size_replicate ..)⟩
  case round =>
    obtain ⟨v, i, n, dk, rfl, rfl, hw0, HI⟩ := hrel
    rename World => W0
    have hs0 := HI.out.size
    have hv64 : v < 18446744073709551616 := by
      have h1 := HI.out.vb; have h2 := HI.out.hi
      have h3 : 2 ^ (i + 1 - 1) ≤ 2 ^ 64 := Nat.pow_le_pow_right (by omega) (by omega)
      omega
    have hH1 : Go.Sort.Holds fbEnc W0 w.heap.size 0 dk := by rw [hw0]; exact Go.Sort.holds_putRow _ _ _ _ _ dk HHZ.out (by rw [hs0]; simp)
    have hi65 : i < 65 := by have := HI.out.hi; omega
    have hc0 : W0.cell? ⟨w.heap.size, i, none⟩ = some (.int .u8 (dk[i]!.toNat : Int)) := by have := (hH1 i (by omega)).1; rwa [Nat.zero_add] at this
    have hf0 : W0.frozen? ⟨w.heap.size, i, none⟩ = false := by have := (hH1 i (by omega)).2; rwa [Nat.zero_add] at this
    have HW0 := Lib.hid hw0
    have HS0 := Lib.hid hs0
    clear hw0 hH1 hs0
    by_cases hlt : b ≤ v
    · obtain ⟨h2i, _⟩ := HI.out.two h2 hlt
      have HN := Lib.hid (FbInv.step HI.out h2 hlt)
      have hml := Nat.mod_lt v (show b > 0 by omega)
      have hand : bits BinOp.and IntKind.u64 (v : Int) (m1 : Int) = ((v % b : Nat) : Int) := by
        rw [bits_and_u64_nat v m1 hv64 (by have := HM1.out; omega), show m1 = 2 ^ s - 1 by have := HM1.out; have := HBS.out; omega, Nat.and_two_pow_sub_one_eq_mod, HBS.out]
      have hX : ∀ w, (Instr.index 9 (.string Lib.digits36) (.int .u64 ((v % b : Nat) : Int))).run Tryd.prog w = .ok (.int .u8 ((fbDg (v % b)).toNat : Int)) w := fb_idx 9 Tryd.underlying9 .u64 _ (v % b) rfl (by omega)
      have hlq : v / b < v := Nat.div_lt_self (by omega) (by omega)
      have HLQ := Lib.hid hlq
      have hshr : (v : Int) / 2 ^ s = ((v / b : Nat) : Int) := by rw [HBS.out]; simp
      clear hml hlq
      generalize v / b = q at HN HLQ hshr
      generalize v % b = r at hand hX HN
      go_wp2
      go_roundw
      case rel =>
        refine ⟨q, i - 1, n, dk.setIfInBounds i (fbDg r), rfl, by congr 1; omega, ?_, ?_⟩
        · rw [HW0.out]
          have h := Lib.store1_world (w.alloc (.cells Tryd.zeroCells82 82)) w.heap.size 0 dk n i (fbDg r) (by rw [HS0.out]; omega)
          rw [Nat.zero_add] at h
          exact h
        · rw [show i - 1 + 1 = i by omega]
          exact HN.out
      case measure =>
        have := HLQ.out
        simp [RowKit.intOf]
        omega
    · have hX : ∀ w, (Instr.index 9 (.string Lib.digits36) (.int .u64 (v : Int))).run Tryd.prog w = .ok (.int .u8 ((fbDg v).toNat : Int)) w := fb_idx 9 Tryd.underlying9 .u64 _ v rfl (by omega)
      have HL := Lib.hid (FbInv.last HI.out (by omega))
      obtain ⟨hd, h1i, _⟩ := HL.out
      have hlen : (fbDigs b 64 U).length = 65 - i := by rw [← hd, List.length_drop]; simp; rw [HS0.out]
      have hal : Tryd.prog.arrayLen 82 = 65 := by kernel_rfl
      have hsl : ∀ W, (Instr.sliceAt 82 (.pointer (some ⟨w.heap.size, 0, none⟩)) (some (.int .i64 (i : Int))) none none).run Tryd.prog W = .ok (.slice (some ⟨w.heap.size, i, none⟩) (fbDigs b 64 U).length (65 - i)) W := fun W => by
        rw [run_sliceAt_array_l W 82 ⟨w.heap.size, 0, none⟩ (by kernel_rfl) .i64 (i : Int) (by omega) (by rw [hal]; omega)]
        go_simp
        omega
      have HD := Lib.hid hd
      have HLN := Lib.hid hlen
      clear hd hlen hal
      have hst : W0.setCell ⟨w.heap.size, i, none⟩ (.int .u8 ((fbDg v).toNat : Int)) = (Go.Sort.putRow fbEnc (w.alloc (.cells Tryd.zeroCells82 82)) w.heap.size 0 (dk.setIfInBounds i (fbDg v))).drewN n := by
        have h := Lib.store1_world (w.alloc (.cells Tryd.zeroCells82 82)) w.heap.size 0 dk n i (fbDg v) (by rw [HS0.out]; omega)
        rw [Nat.zero_add] at h
        rw [HW0.out]
        exact h
      have hcv : (convert 25 9 (.slice (some ⟨w.heap.size, i, none⟩) (fbDigs b 64 U).length (65 - i))).run Tryd.prog (W0.setCell ⟨w.heap.size, i, none⟩ (.int .u8 ((fbDg v).toNat : Int))) = .ok (.string ⟨(fbDigs b 64 U).toArray⟩) (W0.setCell ⟨w.heap.size, i, none⟩ (.int .u8 ((fbDg v).toNat : Int))) :=
        run_convert_bytes_back (P := Tryd.prog) _ 25 9 5 ⟨w.heap.size, i, none⟩ (65 - i) (fbDigs b 64 U) Tryd.underlying25 Tryd.underlying5 Tryd.underlying9 (fun j hj => by
          rw [hst]
          exact fb_read w _ n i _ (by simpa using HS0.out) HD.out j hj)
      have HST := Lib.hid hst
      clear hst
      go_wp2
      go_ret2
      exact ⟨rfl, by rw [HST.out]; exact fb_fin w _ _ n⟩
set_option maxHeartbeats 4000000 in
set_option maxRecDepth 100000 in
theorem fb_pow_neg (b U : Nat) (a : Int) (s : Nat) (hb : (b = 2 ∧ s = 1) ∨ (b = 4 ∧ s = 2) ∨ (b = 8 ∧ s = 3) ∨ (b = 16 ∧ s = 4)) (hU : U < 18446744073709551616) (ha : IntKind.u64.wrap (-a) = (U : Int)) (w : World) (hTZ : ∀ w1 : World, Below w.heap.size w w1 → Calls Tryd.prog 58 #[.int .u64 b] w1 fun e w' => e = .returned (.int .i64 s) ∧ w' = w1) :
    Calls Tryd.prog 46 #[.slice none 0 0, .int .u64 a, .int .i64 b, .bool true, .bool false] w fun e w' => e = .returned (.tuple #[.slice none 0 0, .string ⟨(45 :: fbDigs b 64 U).toArray⟩]) ∧ Below w.heap.size w w' := by
  have h2 : 2 ≤ b := by omega
  have h16 : b ≤ 16 := by omega
  have h10 : b ≠ 10 := by omega
  have hC : ∀ w : World, Calls Tryd.prog 57 #[.int .i64 b] w fun e w' => e = .returned (.bool true) ∧ w' = w := by
    intro w
    have h := fb_isPow b h2 h16 w
    have hp : fbPow b = true := by rcases hb with ⟨rfl, _⟩ | ⟨rfl, _⟩ | ⟨rfl, _⟩ | ⟨rfl, _⟩ <;> rfl
    rw [hp] at h
    exact h
  have hbs : b = 2 ^ s := by rcases hb with ⟨rfl, rfl⟩ | ⟨rfl, rfl⟩ | ⟨rfl, rfl⟩ | ⟨rfl, rfl⟩ <;> rfl
  have hs4 : s ≤ 4 := by omega
  obtain ⟨m1, hm1⟩ : ∃ m1, b = m1 + 1 := ⟨b - 1, by omega⟩
  have hmw : IntKind.u64.wrap ((b : Int) - 1) = (m1 : Int) := by rw [IntKind.wrap_u64]; omega
  have hsw : IntKind.u64.wrap (s : Int) = (s : Int) := by rw [IntKind.wrap_u64]; omega
  have HBS := Lib.hid hbs
  have HM1 := Lib.hid hm1
  have HB0 := Lib.hid hb
  clear hbs hm1 hb
  have hbi : (2 : Int) ≤ (b : Int) := by omega
  have hbi2 : (b : Int) ≤ 16 := by omega
  have hbn : ((b : Int) == 10) = false := by simp; omega
  have hbu : IntKind.u64.wrap (b : Int) = (b : Int) := by rw [IntKind.wrap_u64]; omega
  clear h10
  go_enter Tryd.func46, Tryd.ntmps46
  go_name_bytes_deep 45 PS hPS
  clear hPS
  go_name_bytes_deep 38 DG hDG
  have eDG : DG = Lib.digits36 := by rw [← hDG]; decide +kernel
  subst eDG
  clear hDG
  go_wp2_with (first | (go_at_call 57; refine (hC _).mono ?_; rintro e w' ⟨rfl, hw'⟩; rw [hw']) | (go_at_call 58; refine (hTZ _ ((Below.refl _ _).alloc (Nat.le_refl _) _)).mono ?_; rintro e w' ⟨rfl, hw'⟩; rw [hw']))
  have hH0 := fb_zero w 82
  have HHZ := Lib.hid hH0
  clear hH0
  go_loopw [1, 13] (fun vu vi wr => ∃ (v i n : Nat) (dk : Array UInt8), vu = .int .u64 v ∧ vi = .int .i64 ((i : Int) + 1) ∧ wr = (Go.Sort.putRow fbEnc (w.alloc (.cells Tryd.zeroCells82 82)) w.heap.size 0 dk).drewN n ∧ Hid (FbInv b U (i + 1) v dk)) (fun vu _ _ => (RowKit.intOf vu).toNat)
  case atStart => exact ⟨U, 64, 0, Array.replicate 65 0, rfl, rfl, by rw [Go.Sort.putRow_self _ _ _ _ _ HHZ.out]; rfl, FbInv.start b U hU _ (Array.size_replicate ..)⟩
  case round =>
    obtain ⟨v, i, n, dk, rfl, rfl, hw0, HI⟩ := hrel
    rename World => W0
    have hs0 := HI.out.size
    have hv64 : v < 18446744073709551616 := by
      have h1 := HI.out.vb; have h2 := HI.out.hi
      have h3 : 2 ^ (i + 1 - 1) ≤ 2 ^ 64 := Nat.pow_le_pow_right (by omega) (by omega)
      omega
    have hH1 : Go.Sort.Holds fbEnc W0 w.heap.size 0 dk := by rw [hw0]; exact Go.Sort.holds_putRow _ _ _ _ _ dk HHZ.out (by rw [hs0]; simp)
    have hi65 : i < 65 := by have := HI.out.hi; omega
    have hc0 : W0.cell? ⟨w.heap.size, i, none⟩ = some (.int .u8 (dk[i]!.toNat : Int)) := by have := (hH1 i (by omega)).1; rwa [Nat.zero_add] at this
    have hf0 : W0.frozen? ⟨w.heap.size, i, none⟩ = false := by have := (hH1 i (by omega)).2; rwa [Nat.zero_add] at this
    have hC1 : ∀ m, i = m + 1 → W0.cell? ⟨w.heap.size, m, none⟩ = some (.int .u8 (dk[m]!.toNat : Int)) ∧ W0.frozen? ⟨w.heap.size, m, none⟩ = false := fun m hm => by have := hH1 m (by omega); rwa [Nat.zero_add] at this
    have HC := Lib.hid hC1
    clear hC1
    have HW0 := Lib.hid hw0
    have HS0 := Lib.hid hs0
    clear hw0 hH1 hs0
    by_cases hlt : b ≤ v
    · obtain ⟨h2i, _⟩ := HI.out.two h2 hlt
      have HN := Lib.hid (FbInv.step HI.out h2 hlt)
      have hml := Nat.mod_lt v (show b > 0 by omega)
      have hand : bits BinOp.and IntKind.u64 (v : Int) (m1 : Int) = ((v % b : Nat) : Int) := by
        rw [bits_and_u64_nat v m1 hv64 (by have := HM1.out; omega), show m1 = 2 ^ s - 1 by have := HM1.out; have := HBS.out; omega, Nat.and_two_pow_sub_one_eq_mod, HBS.out]
      have hX : ∀ w, (Instr.index 9 (.string Lib.digits36) (.int .u64 ((v % b : Nat) : Int))).run Tryd.prog w = .ok (.int .u8 ((fbDg (v % b)).toNat : Int)) w := fb_idx 9 Tryd.underlying9 .u64 _ (v % b) rfl (by omega)
      have hlq : v / b < v := Nat.div_lt_self (by omega) (by omega)
      have HLQ := Lib.hid hlq
      have hshr : (v : Int) / 2 ^ s = ((v / b : Nat) : Int) := by rw [HBS.out]; simp
      clear hml hlq
      generalize v / b = q at HN HLQ hshr
      generalize v % b = r at hand hX HN
      go_wp2
      go_roundw
      case rel =>
        refine ⟨q, i - 1, n, dk.setIfInBounds i (fbDg r), rfl, by congr 1; omega, ?_, ?_⟩
        · rw [HW0.out]
          have h := Lib.store1_world (w.alloc (.cells Tryd.zeroCells82 82)) w.heap.size 0 dk n i (fbDg r) (by rw [HS0.out]; omega)
          rw [Nat.zero_add] at h
          exact h
        · rw [show i - 1 + 1 = i by omega]
          exact HN.out
      case measure =>
        have := HLQ.out
        simp [RowKit.intOf]
        omega
    · have hX : ∀ w, (Instr.index 9 (.string Lib.digits36) (.int .u64 (v : Int))).run Tryd.prog w = .ok (.int .u8 ((fbDg v).toNat : Int)) w := fb_idx 9 Tryd.underlying9 .u64 _ v rfl (by omega)
      have HL := Lib.hid (FbInv.last HI.out (by omega))
      obtain ⟨hd, h1i, _⟩ := HL.out
      obtain ⟨m, rfl⟩ : ∃ m, i = m + 1 := ⟨i - 1, by omega⟩
      have HC1 := Lib.hid (HC.out m rfl).1
      have HF1 := Lib.hid (HC.out m rfl).2
      have hst : (W0.setCell ⟨w.heap.size, m + 1, none⟩ (.int .u8 ((fbDg v).toNat : Int))).setCell ⟨w.heap.size, m, none⟩ (.int .u8 45) = (Go.Sort.putRow fbEnc (w.alloc (.cells Tryd.zeroCells82 82)) w.heap.size 0 ((dk.setIfInBounds (m + 1) (fbDg v)).setIfInBounds m 45)).drewN n := by
        have h := Lib.store1_world (w.alloc (.cells Tryd.zeroCells82 82)) w.heap.size 0 dk n (m + 1) (fbDg v) (by rw [HS0.out]; omega)
        have h' := Lib.store1_world (w.alloc (.cells Tryd.zeroCells82 82)) w.heap.size 0 (dk.setIfInBounds (m + 1) (fbDg v)) n m 45 (by simp; rw [HS0.out]; omega)
        rw [Nat.zero_add] at h h'
        rw [HW0.out, h]
        exact h'
      have hd2 : ((dk.setIfInBounds (m + 1) (fbDg v)).setIfInBounds m 45).toList.drop m = 45 :: fbDigs b 64 U := by
        rw [fb_drop _ _ _ (by simp; rw [HS0.out]; omega), hd]
      have hlen : (45 :: fbDigs b 64 U).length = 65 - m := by rw [← hd2, List.length_drop]; simp; rw [HS0.out]
      have hlen2 : (65 - m) = (65 - m : Nat) := rfl
      have hc1 : (W0.setCell ⟨w.heap.size, m + 1, none⟩ (.int .u8 ((fbDg v).toNat : Int))).cell? ⟨w.heap.size, m, none⟩ = some (.int .u8 (dk[m]!.toNat : Int)) := by
        rw [World.cell?_setCell_other _ _ _ _ (by simp)]
        exact HC1.out
      have hf1 : (W0.setCell ⟨w.heap.size, m + 1, none⟩ (.int .u8 ((fbDg v).toNat : Int))).frozen? ⟨w.heap.size, m, none⟩ = false := by
        rw [World.frozen?_setCell]
        exact HF1.out
      have hal : Tryd.prog.arrayLen 82 = 65 := by kernel_rfl
      have hsl : ∀ W, (Instr.sliceAt 82 (.pointer (some ⟨w.heap.size, 0, none⟩)) (some (.int .i64 (m : Int))) none none).run Tryd.prog W = .ok (.slice (some ⟨w.heap.size, m, none⟩) (45 :: fbDigs b 64 U).length (65 - m)) W := fun W => by
        rw [run_sliceAt_array_l W 82 ⟨w.heap.size, 0, none⟩ (by kernel_rfl) .i64 (m : Int) (by omega) (by rw [hal]; omega), hlen]
        go_simp
        omega
      have HD := Lib.hid hd2
      have HLN := Lib.hid hlen
      clear hd hd2 hlen hlen2 hal
      have hcv : (convert 25 9 (.slice (some ⟨w.heap.size, m, none⟩) (45 :: fbDigs b 64 U).length (65 - m))).run Tryd.prog ((W0.setCell ⟨w.heap.size, m + 1, none⟩ (.int .u8 ((fbDg v).toNat : Int))).setCell ⟨w.heap.size, m, none⟩ (.int .u8 45)) = .ok (.string ⟨(45 :: fbDigs b 64 U).toArray⟩) ((W0.setCell ⟨w.heap.size, m + 1, none⟩ (.int .u8 ((fbDg v).toNat : Int))).setCell ⟨w.heap.size, m, none⟩ (.int .u8 45)) :=
        run_convert_bytes_back (P := Tryd.prog) _ 25 9 5 ⟨w.heap.size, m, none⟩ (65 - m) (45 :: fbDigs b 64 U) Tryd.underlying25 Tryd.underlying5 Tryd.underlying9 (fun j hj => by
          rw [hst]
          exact fb_read w _ n m _ (by simpa using HS0.out) HD.out j hj)
      have HST := Lib.hid hst
      clear hst
      generalize hLL : (45 :: fbDigs b 64 U) = LL at hsl hcv
      have HLL := Lib.hid hLL
      clear hLL
      go_wp2
      go_ret2
      exact ⟨by rw [HLL.out]; rfl, by rw [HST.out]; exact fb_fin w _ _ n⟩
theorem fb_getD (l : List Nat) (i : Nat) (h : i < l.length) : (l.map fun n : Nat => (n : Int)).getD i 0 = ((l.getD i 0 : Nat) : Int) := by
  rw [List.getD_eq_getElem?_getD, List.getElem?_map, List.getD_eq_getElem?_getD, List.getElem?_eq_getElem h]
  rfl
set_option maxHeartbeats 1000000 in
theorem fb_tz64_core (x k idx : Nat) (w : World) (hx0 : ((x : Int) == 0) = false)
    (key : IntKind.u64.wrap (bits BinOp.and IntKind.u64 (x : Int) (IntKind.u64.wrap (-(x : Int))) * 285870213051353865) / 288230376151711744 = (idx : Int))
    (hi : idx < 64) (hk : k < 64) (hcell : w.cell? ⟨6, idx, none⟩ = some (.int .u8 k)) :
    Calls Tryd.prog 65 #[.int .u64 x] w fun e w' => e = .returned (.int .i64 k) ∧ w' = w := by
  go_enter Tryd.func65, Tryd.ntmps65
  go_wp2_with (simp only [key])
  go_ret
  exact ⟨rfl, rfl⟩
/-- The table of math/bits, as whole numbers. -/
def fbTab : List Int := Lib.deBruijn64tab.map fun n : Nat => (n : Int)
theorem fb_tz (x : Nat) (hx0 : x ≠ 0) (hx : x < 18446744073709551616) (w : World) (hT : Lib.TabIs Tryd.prog w "math/bits.deBruijn64tab" .u8 fbTab) :
    Calls Tryd.prog 58 #[.int .u64 x] w fun e w' => e = .returned (.int .i64 (Lib.ctz 64 x)) ∧ w' = w := by
  obtain ⟨hlow, hk⟩ := Lib.lowest_bit 64 x hx0 hx
  obtain ⟨hi, htab⟩ := Lib.deBruijn64_at _ hk
  have key := tz64_key x _ hx hx0 hlow
  generalize 2 ^ Lib.ctz 64 x * 285870213051353865 % 18446744073709551616 / 288230376151711744 = idx at hi htab key
  have hg : fbTab.getD idx 0 = ((Lib.ctz 64 x : Nat) : Int) := (fb_getD _ _ hi).trans (congrArg _ htab)
  have hcell : w.cell? ⟨6, idx, none⟩ = some (.int .u8 ((Lib.ctz 64 x : Nat) : Int)) := (hT.cell (show Tryd.prog.globalNamed "math/bits.deBruijn64tab" = some 6 by kernel_rfl) idx (show idx < fbTab.length by unfold fbTab; rw [List.length_map]; exact hi)).trans (congrArg (fun z => some (Value.int .u8 z)) hg)
  have c64 := fb_tz64_core x _ idx w (by simp; omega) key hi hk hcell
  have hw : IntKind.u64.wrap (x : Int) = (x : Int) := by rw [IntKind.wrap_u64]; omega
  clear hcell hg
  go_enter Tryd.func58, Tryd.ntmps58
  go_wp2_with (go_at_call 65; refine c64.mono ?_; rintro e w' ⟨rfl, hw'⟩; rw [hw'])
  go_ret
  exact ⟨rfl, rfl⟩
/-- What strconv.FormatInt answers at a base up to 16. -/
def fbText (n b : Int) : List UInt8 := if b = 10 then Lib.itoa n else if n < 0 then 45 :: fbDigs b.toNat 64 n.natAbs else fbDigs b.toNat 64 n.natAbs
theorem fb_bits (n : Int) (b : Nat) (h0 : -9223372036854775808 ≤ n) (h1 : n ≤ 9223372036854775807) (h2 : 2 ≤ b) (h16 : b ≤ 16) (h10 : b ≠ 10) (w : World) (hT : Lib.TabIs Tryd.prog w "math/bits.deBruijn64tab" .u8 fbTab) :
    Calls Tryd.prog 46 #[.slice none 0 0, .int .u64 (IntKind.u64.wrap n), .int .i64 b, .bool (decide (n < 0)), .bool false] w fun e w' => e = .returned (.tuple #[.slice none 0 0, .string ⟨(fbText n b).toArray⟩]) ∧ Below w.heap.size w w' := by
  have h10' : ¬ ((b : Int) = 10) := by omega
  have hTZ : ∀ s : Nat, Lib.ctz 64 b = s → ∀ w1 : World, Below w.heap.size w w1 → Calls Tryd.prog 58 #[.int .u64 b] w1 fun e w' => e = .returned (.int .i64 s) ∧ w' = w1 := fun s hs w1 hb => by
    have h := fb_tz b (by omega) (by omega) w1 (Lib.tabBelow_of_tabIs hT w1 hb)
    rw [hs] at h
    exact h
  have hs : fbPow b = true → ∃ s, ((b = 2 ∧ s = 1) ∨ (b = 4 ∧ s = 2) ∨ (b = 8 ∧ s = 3) ∨ (b = 16 ∧ s = 4)) ∧ Lib.ctz 64 b = s := by
    intro hp
    simp only [fbPow, Bool.or_eq_true, beq_iff_eq] at hp
    rcases hp with ((rfl | rfl) | rfl) | rfl
    · exact ⟨1, by omega, by decide +kernel⟩
    · exact ⟨2, by omega, by decide +kernel⟩
    · exact ⟨3, by omega, by decide +kernel⟩
    · exact ⟨4, by omega, by decide +kernel⟩
  by_cases hn : n < 0
  · have e : fbText n b = 45 :: fbDigs b 64 n.natAbs := by unfold fbText; rw [if_neg h10', if_pos hn, Int.toNat_natCast]
    have ha : IntKind.u64.wrap (-IntKind.u64.wrap n) = ((n.natAbs : Nat) : Int) := by rw [IntKind.wrap_u64, IntKind.wrap_u64]; omega
    rw [e, decide_eq_true hn]
    cases hp : fbPow b
    · exact fb_other_neg b n.natAbs _ h2 h16 h10 hp (by omega) ha w
    · obtain ⟨s, hb, hc⟩ := hs hp
      exact fb_pow_neg b n.natAbs _ s hb (by omega) ha w (hTZ s hc)
  · have e : fbText n b = fbDigs b 64 n.natAbs := by unfold fbText; rw [if_neg h10', if_neg hn, Int.toNat_natCast]
    have ha : IntKind.u64.wrap n = ((n.natAbs : Nat) : Int) := by rw [IntKind.wrap_u64]; omega
    rw [e, decide_eq_false hn, ha]
    cases hp : fbPow b
    · exact fb_other_pos b n.natAbs h2 h16 h10 hp (by omega) w
    · obtain ⟨s, hb, hc⟩ := hs hp
      exact fb_pow_pos b n.natAbs s hb (by omega) w (hTZ s hc)
set_option maxHeartbeats 1000000 in
set_option maxRecDepth 100000 in
theorem fb_inner (n : Int) (b : Nat) (h0 : -9223372036854775808 ≤ n) (h1 : n ≤ 9223372036854775807) (h2 : 2 ≤ b) (h16 : b ≤ 16) (h10 : b ≠ 10) (w : World) (hT : Lib.TabIs Tryd.prog w "math/bits.deBruijn64tab" .u8 fbTab) :
    Calls Tryd.prog 29 #[.int .i64 n, .int .i64 b] w fun e w' => e = .returned (.string ⟨(fbText n b).toArray⟩) ∧ Below w.heap.size w w' := by
  have hc := fb_bits n b h0 h1 h2 h16 h10 w hT
  have hbn : ((b : Int) == 10) = false := by simp; omega
  generalize hwr : IntKind.u64.wrap n = a at hc
  generalize hL : fbText n b = L at hc
  clear h10 hL hT
  go_enter Tryd.func29, Tryd.ntmps29
  go_wp2_with (go_at_call 46; refine hc.mono ?_; rintro e w' ⟨rfl, hb⟩)
  go_ret
  exact ⟨rfl, hb⟩
set_option maxHeartbeats 1000000 in
theorem fb_outer (n : Int) (b : Nat) (h0 : -9223372036854775808 ≤ n) (h1 : n ≤ 9223372036854775807) (h2 : 2 ≤ b) (h16 : b ≤ 16) (h10 : b ≠ 10) (w : World) (hT : Lib.TabIs Tryd.prog w "math/bits.deBruijn64tab" .u8 fbTab) :
    Calls Tryd.prog 16 #[.int .i64 n, .int .i64 b] w fun e w' => e = .returned (.string ⟨(fbText n b).toArray⟩) ∧ Below w.heap.size w w' := by
  have hc := fb_inner n b h0 h1 h2 h16 h10 w hT
  generalize fbText n b = L at hc ⊢
  clear h10 hT
  go_enter Tryd.func16, Tryd.ntmps16
  go_wp2_with (go_at_call 29; refine hc.mono ?_; rintro e w' ⟨rfl, hb⟩)
  go_ret
  exact ⟨rfl, hb⟩
def strconv_FormatInt_16.f (a0 a1 : Int) : Option ByteArray := if -9223372036854775808 ≤ a0 ∧ a0 ≤ 9223372036854775807 ∧ 2 ≤ a1 ∧ a1 ≤ 16 then some ⟨(fbText a0 a1).toArray⟩ else none
theorem strconv_FormatInt_16.calls (a0 a1 : Int) (r : ByteArray) (w : World) (h : strconv_FormatInt_16.f a0 a1 = some r) (hG : GlobOK w := by first | exact HGL.out | exact GlobOK.below HGL.out HB.out | exact GlobOK.below HGL.out (by repeat (first | (with_reducible first | exact HB.out | apply below_alloc | apply pw_below_drewN | apply below_drew1) | exact HB.out)) | (repeat (first | exact HGL.out | apply GlobOK.drewN | apply GlobOK.drew | apply GlobOK.alloc))) :
    Calls Tryd.prog 16 #[.int .i64 a0, .int .i64 a1] w fun e w' => e = .returned (.string r) ∧ Below w.heap.size w w' := by
  unfold strconv_FormatInt_16.f at h
  by_cases h1 : -9223372036854775808 ≤ a0 ∧ a0 ≤ 9223372036854775807 ∧ 2 ≤ a1 ∧ a1 ≤ 16
  · rw [if_pos h1] at h
    obtain rfl := Option.some.inj h
    by_cases h2 : a1 = 10
    · subst h2
      have e2 : fbText a0 10 = Lib.itoa a0 := by unfold fbText; rw [if_pos rfl]
      rw [e2]
      refine (Go.Proofs.Any.strconv_FormatInt_10 Tryd.laysM173 a0 h1.1 h1.2.1 w hG.tab_u64).mono ?_
      rintro e w' ⟨rfl, m, os, rfl⟩
      have hd : Below w.heap.size w (w.drewN m) := pw_below_drewN (Below.refl _ _) m
      refine ⟨rfl, hd.os, hd.tape, hd.output, Nat.le_trans hd.size (by show _ ≤ ((w.drewN m).heap ++ os).size; rw [Array.size_append]; omega), fun j hj => ?_⟩
      have hs := hd.size
      show ((w.drewN m).heap ++ os)[j]? = _
      rw [Array.getElem?_append_left (by omega)]
      exact hd.block j hj
    · obtain ⟨b, rfl⟩ : ∃ b : Nat, a1 = b := ⟨a1.toNat, by omega⟩
      exact fb_outer a0 b h1.1 h1.2.1 (by omega) (by omega) (by omega) w hG.tab_u8
  · rw [if_neg h1] at h
    cases h

/-! ### impl_CellText: function 6 -/
def impl_CellText.j0 : Nat → Int → Int → Bool → Option (ByteArray × Int)
  | 0, _, _, _ => none
  | k + 1, x0, x1, x13 => if x13 = true then (some ((⟨#[]⟩ : ByteArray), 4)) else ((strconv_FormatInt_16.f x0 x1).bind fun t115 => ((strings_ToUpper.f t115).bind fun t116 => (some (t116, 0))))
def impl_CellText.f (k : Nat) (a0 : Int) (a1 : Int) : Option (ByteArray × Int) := (impl_CellOK.f a0).bind fun t113 => (if t113 = true then ((impl_isBase.f a1).bind fun t114 => (impl_CellText.j0 k a0 a1 (!t114))) else (impl_CellText.j0 k a0 a1 true))
theorem impl_CellText.mono_l : ∀ k, (∀ y0 y1 y2, LeO (impl_CellText.j0 k y0 y1 y2) (impl_CellText.j0 (k + 1) y0 y1 y2))
  | 0 => fun _ _ _ r h => by simp [impl_CellText.j0] at h
  | k + 1 => by
    have ih0 := impl_CellText.mono_l k
    · intro y0 y1 y2
      unfold impl_CellText.j0
      repeat' first
      | (with_reducible exact ih0 _ _ _)
      | (with_reducible exact LeO.refl _)
      | (with_reducible exact LeO.none _)
      | (with_reducible refine LeO.ite ?_ ?_)
      | (with_reducible refine LeO.bind ?_ (fun _ => ?_))
      | exact ih0 _ _ _
      | exact LeO.none _
      | refine LeO.ite ?_ ?_
      | refine LeO.bind ?_ (fun _ => ?_)
theorem impl_CellText.mono : ∀ a0 a1 k, LeO (impl_CellText.f k a0 a1) (impl_CellText.f (k + 1) a0 a1) := by
  intro a0 a1 k
  have ih0 := impl_CellText.mono_l k
  unfold impl_CellText.f
  repeat' first
      | (with_reducible exact ih0 _ _ _)
      | (with_reducible exact LeO.refl _)
      | (with_reducible exact LeO.none _)
      | (with_reducible refine LeO.ite ?_ ?_)
      | (with_reducible refine LeO.bind ?_ (fun _ => ?_))
      | exact ih0 _ _ _
      | exact LeO.none _
      | refine LeO.ite ?_ ?_
      | refine LeO.bind ?_ (fun _ => ?_)
set_option maxHeartbeats 8000000 in
set_option maxRecDepth 100000 in
theorem impl_CellText.calls (k : Nat) (a0 : Int) (a1 : Int) (r1 : ByteArray) (r2 : Int) (w : World) (h : impl_CellText.f k a0 a1 = some (r1, r2)) (hG : GlobOK w := by first | exact HGL.out | exact GlobOK.below HGL.out HB.out | exact GlobOK.below HGL.out (by repeat (first | (with_reducible first | exact HB.out | apply below_alloc | apply pw_below_drewN | apply below_drew1) | exact HB.out)) | (repeat (first | exact HGL.out | apply GlobOK.drewN | apply GlobOK.drew | apply GlobOK.alloc))) :
    Calls Tryd.prog 6 #[.int .i64 a0, .int .i64 a1] w fun e w' => e = .returned (.tuple #[.string r1, .int .i64 r2]) ∧ Below w.heap.size w w' := by
  have HGL := Aside0.mk hG
  clear hG
  have HB := Aside0.mk (Below.refl w.heap.size w)
  have H : ((impl_CellOK.f a0).bind fun t113 => (if t113 = true then ((impl_isBase.f a1).bind fun t114 => (impl_CellText.j0 k a0 a1 (!t114))) else (impl_CellText.j0 k a0 a1 true))) = some (r1, r2) := h
  clear h
  have HC3 := Aside0.mk H
  clear H
  go_enter Tryd.func6, Tryd.ntmps6
  go_upto_region 1 with (fail)
  go_cut [13] (fun v13 wc => ∃ (kq : Nat) (x13_2 : Bool), v13 = .bool x13_2 ∧ Aside0 (impl_CellText.j0 kq a0 a1 x13_2 = some (r1, r2)) ∧ Aside0 (kq ≤ k) ∧ Aside0 (Below w.heap.size w wc))
  case first =>
    have H := HC3.out
    clear HC3
    replace H := Option.bind_eq_some_iff.mp H
    obtain ⟨t113, A40, H⟩ := H
    replace H : (if t113 = true then ((impl_isBase.f a1).bind fun t114 => (impl_CellText.j0 k a0 a1 (!t114))) else (impl_CellText.j0 k a0 a1 true)) = some (r1, r2) := H
    have A4 := Aside0.mk A40
    clear A40
    by_cases c5 : t113 = true
    · subst c5
      have H1 : ((impl_isBase.f a1).bind fun t114 => (impl_CellText.j0 k a0 a1 (!t114))) = some (r1, r2) := by rw [if_pos rfl] at H; first | done | exact H
      clear H
      have H := H1
      clear H1
      replace H := Option.bind_eq_some_iff.mp H
      obtain ⟨t114, A60, H⟩ := H
      replace H : (impl_CellText.j0 k a0 a1 (!t114)) = some (r1, r2) := H
      have A6 := Aside0.mk A60
      clear A60
      have H' := Aside0.mk H
      clear H
      go_wp2_with (first | ((with_reducible refine gate_callee (f := 13) rfl ?_); refine goesL_ (some 7) rfl rfl Tryd.func13 (by kernel_rfl) rfl #[.int .i64 a0] rfl (by (try simp only [List.map_toArray, List.map_cons, List.map_nil]); first | done | rfl | (simp only [List.length_drop, List.length_take]; rfl)) ?_; (with_reducible refine (impl_CellOK.calls a0 true _ A4.out).mono ?_); rintro e w' ⟨rfl, ⟨nd, rfl⟩⟩; refine ⟨_, rfl, ?_⟩) | (go_at_call 14; (with_reducible refine (impl_isBase.calls a1 t114 _ A6.out).mono ?_); rintro e w' ⟨rfl, ⟨nd, rfl⟩⟩))
      go_meet
      case rel => exact ⟨_, (!t114), (by first | rfl | (simp; done) | (simp [*]; done)), H', ⟨by first | omega | exact Nat.le_refl _⟩, ⟨by repeat (first | (with_reducible first | exact HB.out | apply below_alloc | apply pw_below_drewN | apply below_drew1) | exact HB.out)⟩⟩
    · replace c5 := Bool.eq_false_iff.mpr c5
      subst c5
      have H1 : (impl_CellText.j0 k a0 a1 true) = some (r1, r2) := by rw [if_neg (show ¬ (false = true) by decide)] at H; first | done | exact H
      clear H
      have H := H1
      clear H1
      have H' := Aside0.mk H
      clear H
      go_wp2_with (first | ((with_reducible refine gate_callee (f := 13) rfl ?_); refine goesL_ (some 7) rfl rfl Tryd.func13 (by kernel_rfl) rfl #[.int .i64 a0] rfl (by (try simp only [List.map_toArray, List.map_cons, List.map_nil]); first | done | rfl | (simp only [List.length_drop, List.length_take]; rfl)) ?_; (with_reducible refine (impl_CellOK.calls a0 false _ A4.out).mono ?_); rintro e w' ⟨rfl, ⟨nd, rfl⟩⟩; refine ⟨_, rfl, ?_⟩))
      go_meet
      case rel => exact ⟨_, (true), (by first | rfl | (simp; done) | (simp [*]; done)), H', ⟨by first | omega | exact Nat.le_refl _⟩, ⟨by repeat (first | (with_reducible first | exact HB.out | apply below_alloc | apply pw_below_drewN | apply below_drew1) | exact HB.out)⟩⟩
  case rest =>
    clear HC3
    try clear c1
    try clear p2
    try clear c5
    try clear c6
    obtain ⟨kq, x13_2, rfl, HA, HJ2, HB⟩ := hcut
    cases kq with
    | zero => exact absurd HA.out (by simp [impl_CellText.j0])
    | succ kj2 =>
      have H := HA.out
      clear HA
      simp only [impl_CellText.j0] at H
      by_cases c7 : x13_2 = true
      · subst c7
        have H1 : (some ((⟨#[]⟩ : ByteArray), 4)) = some (r1, r2) := by rw [if_pos rfl] at H; first | done | exact H
        clear H
        have H := H1
        clear H1
        simp only [Option.some.injEq, Prod.mk.injEq] at H
        obtain ⟨rfl, rfl⟩ := H
        go_wp2
        go_ret2
        exact ⟨by first | rfl | (simp [errW_none, errW_some] <;> rfl) | (simp [*, errW_none, errW_some] <;> rfl), by repeat (first | (with_reducible first | exact HB.out | apply below_alloc | apply pw_below_drewN | apply below_drew1) | exact HB.out)⟩
      · replace c7 := Bool.eq_false_iff.mpr c7
        subst c7
        have H1 : ((strconv_FormatInt_16.f a0 a1).bind fun t115 => ((strings_ToUpper.f t115).bind fun t116 => (some (t116, 0)))) = some (r1, r2) := by rw [if_neg (show ¬ (false = true) by decide)] at H; first | done | exact H
        clear H
        have H := H1
        clear H1
        replace H := Option.bind_eq_some_iff.mp H
        obtain ⟨t115, A80, H⟩ := H
        replace H : ((strings_ToUpper.f t115).bind fun t116 => (some (t116, 0))) = some (r1, r2) := H
        have A8 := Aside0.mk A80
        clear A80
        replace H := Option.bind_eq_some_iff.mp H
        obtain ⟨t116, A90, H⟩ := H
        replace H : (some (t116, 0)) = some (r1, r2) := H
        have A9 := Aside0.mk A90
        clear A90
        simp only [Option.some.injEq, Prod.mk.injEq] at H
        obtain ⟨rfl, rfl⟩ := H
        go_wp2_with (first | ((with_reducible refine gate_callee (f := 16) rfl ?_); refine goesL_ (some 16) rfl rfl Tryd.func16 (by kernel_rfl) rfl #[.int .i64 a0, .int .i64 a1] rfl (by (try simp only [List.map_toArray, List.map_cons, List.map_nil]); first | done | rfl | (simp only [List.length_drop, List.length_take]; rfl)) ?_; (with_reducible refine (strconv_FormatInt_16.calls a0 a1 t115 _ A8.out).mono ?_); rintro e w10 ⟨rfl, hb⟩; refine ⟨_, rfl, ?_⟩; replace HB := Aside0.mk (below_step (by repeat (first | (with_reducible first | exact HB.out | apply below_alloc | apply pw_below_drewN | apply below_drew1) | exact HB.out)) hb); (try clear hb); (try clear hb2); (try clear hk); (try clear hi)) | ((with_reducible refine gate_callee (f := 15) rfl ?_); refine goesL_ (some 17) rfl rfl Tryd.func15 (by kernel_rfl) rfl #[.string t115] rfl (by (try simp only [List.map_toArray, List.map_cons, List.map_nil]); first | done | rfl | (simp only [List.length_drop, List.length_take]; rfl)) ?_; (with_reducible refine (strings_ToUpper.calls t115 t116 _ A9.out).mono ?_); rintro e w11 ⟨rfl, hb⟩; refine ⟨_, rfl, ?_⟩; replace HB := Aside0.mk (below_step (by repeat (first | (with_reducible first | exact HB.out | apply below_alloc | apply pw_below_drewN | apply below_drew1) | exact HB.out)) hb); (try clear hb); (try clear hb2); (try clear hk); (try clear hi)))
        go_ret2
        exact ⟨by first | rfl | (simp [errW_none, errW_some] <;> rfl) | (simp [*, errW_none, errW_some] <;> rfl), by repeat (first | (with_reducible first | exact HB.out | apply below_alloc | apply pw_below_drewN | apply below_drew1) | exact HB.out)⟩

end Go.Proofs.YthdaooejfkpdfaaDoor.PFnCellTexts
