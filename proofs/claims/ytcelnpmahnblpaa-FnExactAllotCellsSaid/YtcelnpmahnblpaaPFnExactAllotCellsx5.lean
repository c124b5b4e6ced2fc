-- laid by a program of this session out of the translation's own print: Lean checks it
import Derived.Test.YtcelnpmahnblpaaPFnExactAllotCellsx0
import Derived.Test.YtcelnpmahnblpaaPFnExactAllotCellsx3
import Derived.Test.YtcelnpmahnblpaaPFnExactAllotCellsx4
namespace Go.Proofs.Ytcelnpmahnblpaa.PFnExactAllotCells
open Go.RowKit Go.Proofs.YtcelnpmahnblpaaW.PrintWords Go.Proofs.YtcelnpmahnblpaaW.PrintLast Go.Proofs.YtcelnpmahnblpaaW.PrintMore
attribute [local go_sem] max2_int min2_int max_two min_two max_three min_three max_four min_four   -- for this text's walks alone
set_option linter.unusedVariables false
set_option linter.unusedSimpArgs false

/-! ### impl_AllotCells: function 34 -/
def allotZ : Nat → List Int → Int → Int → Option (List Int)
  | 0, _, _, _ => none
  | k + 1, c, j, e => if j < e then (if 0 ≤ j then (if j < (c.length : Int) then allotZ k (c.set j.toNat 0) (j + 1) e else none) else none) else some c
set_option maxHeartbeats 4000000 in
set_option maxRecDepth 100000 in
/-- (*Data).allot over held data, where it throws. -/
theorem allot_no (w0 W : World) (g : Nat) (A0 : Option Addr) (c0 : Nat) (A1 : Option Addr) (c1 : Nat) (A2 : Option Addr) (c2 : Nat) (s b c : List Int) (h n : Int) (o : ByteArray) (x : Int) (hw : wrap64 (h + wrap64 (Int.tdiv x 4)) = h + Int.tdiv x 4)
    (ht : ¬ Int.tmod x 4 = 0 ∨ (Int.tmod x 4 = 0 ∧ impl_in.f (h + Int.tdiv x 4) 0 32 = some false)) (H : Held w0 W g A0 c0 A1 c1 A2 c2 s b c h n o) :
    Calls Try.prog 70 #[.pointer (some ⟨g, 0, none⟩), .int .i64 x] W fun e W' => e = .returned (.int .i64 (-8)) ∧ Held w0 W' g A0 c0 A1 c1 A2 c2 s b c h n o := by
  have HH := Aside0.mk H
  have hz3 : W.cell? ⟨g, 3, none⟩ = some (.int .i64 h) := (blk_cell H.blk 3).trans rfl
  have hf3 := blk_frozen H.blk 3
  have HW := Aside0.mk hw
  clear H hw
  rcases ht with ht | ⟨ht, hi⟩
  · have e0 : (Int.tmod x 4 == 0) = false := beq_eq_false_iff_ne.mpr ht
    have e1 : (Int.tmod x 4 != 0) = true := bne_iff_ne.mpr ht
    clear ht
    go_enter Try.func70, Try.ntmps70
    go_wp2
    go_ret
    exact ⟨rfl, HH.out⟩
  · have e0 : (Int.tmod x 4 == 0) = true := beq_iff_eq.mpr ht
    have e1 : (Int.tmod x 4 != 0) = false := bne_eq_false_iff_eq.mpr ht
    have HI := Aside0.mk hi
    clear ht hi
    go_enter Try.func70, Try.ntmps70
    go_wp2_with (first | (go_at_call 49; refine (impl_in.calls (wrap64 (h + wrap64 (Int.tdiv x 4))) 0 32 false _ (by rw [HW.out]; exact HI.out)).mono ?_; rintro e w' ⟨rfl, ⟨nd, rfl⟩⟩))
    go_ret
    exact ⟨rfl, HH.out.drewN _⟩
set_option maxHeartbeats 4000000 in
set_option maxRecDepth 100000 in
/-- (*Data).allot over held data, where it goes through. -/
theorem allot_yes (w0 W : World) (g : Nat) (A0 : Option Addr) (c0 : Nat) (A1 : Option Addr) (c1 : Nat) (A2 : Option Addr) (c2 : Nat) (s b c : List Int) (h n : Int) (o : ByteArray) (x : Int) (k : Nat) (c' : List Int) (hw : wrap64 (h + wrap64 (Int.tdiv x 4)) = h + Int.tdiv x 4) (hb : h + Int.tdiv x 4 ≤ 32 ∧ -100 ≤ h)
    (ht : Int.tmod x 4 = 0) (hi : impl_in.f (h + Int.tdiv x 4) 0 32 = some true) (hz : allotZ k c h (h + Int.tdiv x 4) = some c') (H : Held w0 W g A0 c0 A1 c1 A2 c2 s b c h n o) :
    Calls Try.prog 70 #[.pointer (some ⟨g, 0, none⟩), .int .i64 x] W fun e W' => e = .returned (.int .i64 0) ∧ ∃ A2' c2', Held w0 W' g A0 c0 A1 c1 A2' c2' s b c' (h + Int.tdiv x 4) n o := by
  have HH := Aside0.mk H
  have hz3 : W.cell? ⟨g, 3, none⟩ = some (.int .i64 h) := (blk_cell H.blk 3).trans rfl
  have hf3 := blk_frozen H.blk 3
  have HW := Aside0.mk hw
  have HLIM := Aside0.mk hb
  have H' := Aside0.mk hz
  have e0 : (Int.tmod x 4 == 0) = true := beq_iff_eq.mpr ht
  have e1 : (Int.tmod x 4 != 0) = false := bne_eq_false_iff_eq.mpr ht
  have HI := Aside0.mk hi
  clear H hw ht hi hz hb
  go_enter Try.func70, Try.ntmps70
  go_wp2_with (first | (go_at_call 49; refine (impl_in.calls (wrap64 (h + wrap64 (Int.tdiv x 4))) 0 32 true _ (by rw [HW.out]; exact HI.out)).mono ?_; rintro e w' ⟨rfl, ⟨nd, rfl⟩⟩))
  go_loopg [5] k (fun kq v5 w' => ∃ (j : Int) (cc : List Int) (A2' : Option Addr) (c2' : Nat), v5 = .int .i64 j ∧ Aside0 (allotZ kq cc j (h + Int.tdiv x 4) = some c') ∧ Aside0 (kq ≤ k) ∧ Aside0 (-100 ≤ j) ∧ Aside0 (Held w0 w' g A0 c0 A1 c1 A2' c2' s b cc h n o))
  case atStart => exact ⟨h, c, A2, c2, rfl, H', ⟨Nat.le_refl _⟩, ⟨HLIM.out.2⟩, ⟨HH.out.drewN _⟩⟩
  case round =>
    clear H' hz3 hf3
    obtain ⟨j, cc, B2, d2, rfl, HA, HK1, HJ, HX⟩ := hrel
    have hz3 : wr.cell? ⟨g, 3, none⟩ = some (.int .i64 h) := (blk_cell HX.out.blk 3).trans rfl
    have hz2 : wr.cell? ⟨g, 2, none⟩ = some (.slice B2 cc.length d2) := (blk_cell HX.out.blk 2).trans rfl
    have hf3 := blk_frozen HX.out.blk 3
    have hw := HW.out
    cases gk with
    | zero => exact absurd HA.out (by simp [allotZ])
    | succ k1 =>
      have H := HA.out
      clear HA
      simp only [allotZ] at H
      by_cases c3 : j < h + Int.tdiv x 4
      · rw [if_pos c3] at H
        have c3b : decide (j < wrap64 (h + wrap64 (Int.tdiv x 4))) = true := by rw [hw]; exact decide_eq_true c3
        have C3 := Aside0.mk c3
        by_cases c4 : 0 ≤ j
        · rw [if_pos c4] at H
          by_cases c5 : j < (cc.length : Int)
          · rw [if_pos c5] at H
            have H1 := Aside0.mk H
            clear H c3
            obtain ⟨go, cap, e2, gb, gl, cl, HG⟩ := Kd.R_form HX.out.r2 (by omega)
            (first | cases e2 | (injection e2 with ea_ en_ ec_; (first | subst ea_ | (injection ea_ with ea_; subst ea_)); subst ec_; clear en_))
            obtain ⟨hx0, hfx⟩ := Kd.R_celln 0 HX.out.r2 j c4 c5
            clear gb gl HG
            have HN := Aside0.mk (HX.out.put2 j 0)
            have hwj : wrap64 (j + 1) = j + 1 := by have := HLIM.out; have := C3.out; unfold wrap64; omega
            have HWJ := Aside0.mk hwj
            clear hwj hw
            have p4 := eq_true c4
            have p5 := eq_true c5
            have C4 := Aside0.mk c4
            clear c4 c5
            go_wp2
            go_roundg k1
            case measure => have := HK1.out; omega
            case rel => exact ⟨j + 1, cc.set j.toNat 0, _, _, by rw [HWJ.out], H1, ⟨by have := HK1.out; omega⟩, ⟨by have := HJ.out; omega⟩, ⟨HN.out⟩⟩
          · rw [if_neg c5] at H
            cases H
        · rw [if_neg c4] at H
          cases H
      · rw [if_neg c3] at H
        have c3b : decide (j < h + Int.tdiv x 4) = false := decide_eq_false c3
        obtain rfl := Option.some.inj H
        clear c3 H
        go_wp2
        go_ret
        exact ⟨rfl, _, _, by first | exact HX.out.set3 _ | (have hs := HX.out.set3 (h + Int.tdiv x 4); rw [HW.out]; exact hs)⟩
set_option maxHeartbeats 4000000 in
set_option maxRecDepth 100000 in
theorem allot1_no (w0 W : World) (g q : Nat) (A0 : Option Addr) (c0 : Nat) (A1 : Option Addr) (c1 : Nat) (A2 : Option Addr) (c2 : Nat) (s b c : List Int) (h n : Int) (o : ByteArray) (x : Int) (hw : wrap64 (h + wrap64 (Int.tdiv x 4)) = h + Int.tdiv x 4)
    (ht : ¬ Int.tmod x 4 = 0 ∨ (Int.tmod x 4 = 0 ∧ impl_in.f (h + Int.tdiv x 4) 0 32 = some false)) (H : Held w0 W g A0 c0 A1 c1 A2 c2 s b c h n o) (hq : W.cell? ⟨q, 0, none⟩ = some (.int .i64 x)) :
    Calls Try.prog 69 #[.pointer (some ⟨g, 0, none⟩), .pointer (some ⟨q, 0, none⟩)] W fun e W' => e = .returned (.int .i64 (-8)) ∧ Held w0 W' g A0 c0 A1 c1 A2 c2 s b c h n o := by
  have HH := Aside0.mk H
  have HT := Aside0.mk ht
  have HW := Aside0.mk hw
  clear H ht hw
  go_enter Try.func69, Try.ntmps69
  go_wp2_with (first | (go_at_call 70; refine (allot_no w0 W g A0 c0 A1 c1 A2 c2 s b c h n o x HW.out HT.out HH.out).mono ?_; rintro e w' ⟨rfl, hh⟩; have HF := Aside0.mk hh; clear hh))
  go_ret
  exact ⟨rfl, HF.out⟩
set_option maxHeartbeats 4000000 in
set_option maxRecDepth 100000 in
theorem allot1_yes (w0 W : World) (g q : Nat) (A0 : Option Addr) (c0 : Nat) (A1 : Option Addr) (c1 : Nat) (A2 : Option Addr) (c2 : Nat) (s b c : List Int) (h n : Int) (o : ByteArray) (x : Int) (k : Nat) (c' : List Int) (hw : wrap64 (h + wrap64 (Int.tdiv x 4)) = h + Int.tdiv x 4) (hb : h + Int.tdiv x 4 ≤ 32 ∧ -100 ≤ h)
    (ht : Int.tmod x 4 = 0) (hi : impl_in.f (h + Int.tdiv x 4) 0 32 = some true) (hz : allotZ k c h (h + Int.tdiv x 4) = some c') (H : Held w0 W g A0 c0 A1 c1 A2 c2 s b c h n o) (hq : W.cell? ⟨q, 0, none⟩ = some (.int .i64 x)) :
    Calls Try.prog 69 #[.pointer (some ⟨g, 0, none⟩), .pointer (some ⟨q, 0, none⟩)] W fun e W' => e = .returned (.int .i64 0) ∧ ∃ A2' c2', Held w0 W' g A0 c0 A1 c1 A2' c2' s b c' (h + Int.tdiv x 4) n o := by
  have HH := Aside0.mk H
  have HT := Aside0.mk ht
  have HW := Aside0.mk hw
  have HI := Aside0.mk hi
  have HZ := Aside0.mk hz
  have HBB := Aside0.mk hb
  clear H ht hw hi hz hb
  go_enter Try.func69, Try.ntmps69
  go_wp2_with (first | (go_at_call 70; refine (allot_yes w0 W g A0 c0 A1 c1 A2 c2 s b c h n o x k c' HW.out HBB.out HT.out HI.out HZ.out HH.out).mono ?_; rintro e w' ⟨rfl, hh⟩; have HF := Aside0.mk hh; clear hh))
  go_ret
  exact ⟨rfl, HF.out⟩
set_option maxHeartbeats 8000000 in
set_option maxRecDepth 100000 in
theorem AllotCells_run (k : Nat) (A0 : Option Addr) (c0 : Nat) (A1 : Option Addr) (c1 : Nat) (A2 : Option Addr) (c2 : Nat) (s b c : List Int) (h n : Int) (o : ByteArray) (x : Int) (t : Int) (s' b' c' : List Int) (h' n' : Int) (o' : ByteArray) (rs rb rc : List Int) (rh rn : Int) (ro : ByteArray) (w : World) (hr0 : Kd.C (Kd.int .i64) w A0 s.length s) (hc0 : s.length ≤ c0) (hr1 : Kd.C (Kd.int .i64) w A1 b.length b) (hc1 : b.length ≤ c1) (hr2 : Kd.C (Kd.int .i64) w A2 c.length c) (hc2 : c.length ≤ c2) (hk : impl_dataCode.f k s b c h n o x = some 0) (hcopy : impl_Data_copied.f s b c h n o = some (s, b, c, h, n, o)) (hcl : ∀ (q0 : Nat) (W0 W : World) (g : Nat) (B0 : Option Addr) (d0 : Nat) (B1 : Option Addr) (d1 : Nat) (B2 : Option Addr) (d2 : Nat), Held W0 W g B0 d0 B1 d1 B2 d2 s b c h n o → W.cell? ⟨q0, 0, none⟩ = some (.int .i64 x) → Calls Try.prog 69 #[.pointer (some ⟨g, 0, none⟩), .pointer (some ⟨q0, 0, none⟩)] W fun e W' => e = .returned (.int .i64 t) ∧ ∃ B0' d0' B1' d1' B2' d2', Held W0 W' g B0' d0' B1' d1' B2' d2' s' b' c' h' n' o') (hsel : (t = 0 ∧ (rs, rb, rc, rh, rn, ro) = (s', b', c', h', n', o')) ∨ (¬ t = 0 ∧ (rs, rb, rc, rh, rn, ro) = (s, b, c, h, n, o))) :
    Calls Try.prog 34 #[.agg #[.slice A0 s.length c0, .slice A1 b.length c1, .slice A2 c.length c2, .int .i64 h, .int .i64 n, .string o], .int .i64 x] w fun e w' => ∃ v0 v1 v2 : Value, e = .returned (.tuple #[.agg #[v0, v1, v2, .int .i64 rh, .int .i64 rn, .string ro], .int .i64 t, .int .i64 0]) ∧ Kd.R (Kd.int .i64) 3 w' w.heap.size (fun k_ => some k_ ≠ (v1 : Value).ownBlock ∧ some k_ ≠ (v2 : Value).ownBlock) v0 rs ∧ Kd.R (Kd.int .i64) 3 w' w.heap.size (fun k_ => some k_ ≠ (v0 : Value).ownBlock ∧ some k_ ≠ (v2 : Value).ownBlock) v1 rb ∧ Kd.R (Kd.int .i64) 3 w' w.heap.size (fun k_ => some k_ ≠ (v0 : Value).ownBlock ∧ some k_ ≠ (v1 : Value).ownBlock) v2 rc ∧ Below w.heap.size w w' := by
  have hu24 := Try.underlying24
  have HR0 := Aside0.mk hr0
  have HR1 := Aside0.mk hr1
  have HR2 := Aside0.mk hr2
  have HC0 := Aside0.mk hc0
  have HC1 := Aside0.mk hc1
  have HC2 := Aside0.mk hc2
  have HCO := Aside0.mk hcopy
  have HCL := Aside0.mk hcl
  have HSEL := Aside0.mk hsel
  have HB := Aside0.mk (Below.refl w.heap.size w)
  have HK := Aside0.mk hk
  clear hr0 hr1 hr2 hc0 hc1 hc2 hcopy hcl hsel hk
  go_enter Try.func34, Try.ntmps34
  go_wp2_with (first
    | ((with_reducible refine gate_dst (N := 2) rfl ?_); refine box_event ?hg (N := 2) ?hd (cs := #[.slice A0 s.length c0, .slice A1 b.length c1, .slice A2 c.length c2, .int .i64 h, .int .i64 n, .string o]) (t := 24) ?hr ?_; (case hd => rfl); (case hg => rfl); (case hr => first | (go_simp; done) | (go_simp; rfl)); intro g2 hg w1 hbox hb; have BKg2 := Aside0.mk hbox; have GEg2 := Aside0.mk (show w.heap.size ≤ g2 by rw [hg]; exact (below_size HB.out)); replace HB := Aside0.mk (below_step HB.out hb); clear hg hbox hb; have hq1 : w1.cell? ⟨g2, 0, none⟩ = some (.slice A0 s.length c0) := (blk_cell BKg2.out 0).trans rfl; have hz1 := blk_frozen (BKg2.out) 0; have hq2 : w1.cell? ⟨g2, 1, none⟩ = some (.slice A1 b.length c1) := (blk_cell BKg2.out 1).trans rfl; have hz2 := blk_frozen (BKg2.out) 1; have hq3 : w1.cell? ⟨g2, 2, none⟩ = some (.slice A2 c.length c2) := (blk_cell BKg2.out 2).trans rfl; have hz3 := blk_frozen (BKg2.out) 2; have hq4 : w1.cell? ⟨g2, 3, none⟩ = some (.int .i64 h) := (blk_cell BKg2.out 3).trans rfl; have hz4 := blk_frozen (BKg2.out) 3; have hq5 : w1.cell? ⟨g2, 4, none⟩ = some (.int .i64 n) := (blk_cell BKg2.out 4).trans rfl; have hz5 := blk_frozen (BKg2.out) 4; have hq6 : w1.cell? ⟨g2, 5, none⟩ = some (.string o) := (blk_cell BKg2.out 5).trans rfl; have hz6 := blk_frozen (BKg2.out) 5)
    | ((with_reducible refine gate_dst (N := 3) rfl ?_); refine box_event ?hg (N := 3) ?hd (cs := #[.int .i64 x]) (t := 3) ?hr ?_; (case hd => rfl); (case hg => rfl); (case hr => first | (go_simp; done) | (go_simp; rfl)); intro qx_ hg w2 hbox hb; have BKqx_ := Aside0.mk hbox; have GEqx_ := Aside0.mk (show w.heap.size ≤ qx_ by rw [hg]; exact (below_size HB.out)); have neqx__g2 : qx_ ≠ g2 := (by rw [hg]; exact Nat.ne_of_gt (blk_lt BKg2.out)); have neg2_qx_ : g2 ≠ qx_ := neqx__g2.symm; replace BKg2 := Aside0.mk (blk_below BKg2.out hb); replace HB := Aside0.mk (below_step HB.out hb); clear hg hbox hb; have hq7 : w2.cell? ⟨g2, 0, none⟩ = some (.slice A0 s.length c0) := (blk_cell BKg2.out 0).trans rfl; have hz7 := blk_frozen (BKg2.out) 0; have hq8 : w2.cell? ⟨g2, 1, none⟩ = some (.slice A1 b.length c1) := (blk_cell BKg2.out 1).trans rfl; have hz8 := blk_frozen (BKg2.out) 1; have hq9 : w2.cell? ⟨g2, 2, none⟩ = some (.slice A2 c.length c2) := (blk_cell BKg2.out 2).trans rfl; have hz9 := blk_frozen (BKg2.out) 2; have hq10 : w2.cell? ⟨g2, 3, none⟩ = some (.int .i64 h) := (blk_cell BKg2.out 3).trans rfl; have hz10 := blk_frozen (BKg2.out) 3; have hq11 : w2.cell? ⟨g2, 4, none⟩ = some (.int .i64 n) := (blk_cell BKg2.out 4).trans rfl; have hz11 := blk_frozen (BKg2.out) 4; have hq12 : w2.cell? ⟨g2, 5, none⟩ = some (.string o) := (blk_cell BKg2.out 5).trans rfl; have hz12 := blk_frozen (BKg2.out) 5; have hq13 : w2.cell? ⟨qx_, 0, none⟩ = some (.int .i64 x) := (blk_cell BKqx_.out 0).trans rfl; have hz13 := blk_frozen (BKqx_.out) 0)
    | ((with_reducible refine gate_dst (N := 4) rfl ?_); refine box_event ?hg (N := 4) ?hd (cs := #[.slice none 0 0, .slice none 0 0, .slice none 0 0, .int .i64 0, .int .i64 0, .string (⟨#[]⟩ : ByteArray)]) (t := 24) ?hr ?_; (case hd => rfl); (case hg => rfl); (case hr => first | (go_simp; done) | (go_simp; rfl)); intro g4 hg w3 hbox hb; have BKg4 := Aside0.mk hbox; have GEg4 := Aside0.mk (show w.heap.size ≤ g4 by rw [hg]; exact (below_size HB.out)); have neg4_g2 : g4 ≠ g2 := (by rw [hg]; exact Nat.ne_of_gt (blk_lt BKg2.out)); have neg2_g4 : g2 ≠ g4 := neg4_g2.symm; have neg4_qx_ : g4 ≠ qx_ := (by rw [hg]; exact Nat.ne_of_gt (blk_lt BKqx_.out)); have neqx__g4 : qx_ ≠ g4 := neg4_qx_.symm; replace BKg2 := Aside0.mk (blk_below BKg2.out hb); replace BKqx_ := Aside0.mk (blk_below BKqx_.out hb); replace HB := Aside0.mk (below_step HB.out hb); clear hg hbox hb; have hq14 : w3.cell? ⟨g2, 0, none⟩ = some (.slice A0 s.length c0) := (blk_cell BKg2.out 0).trans rfl; have hz14 := blk_frozen (BKg2.out) 0; have hq15 : w3.cell? ⟨g2, 1, none⟩ = some (.slice A1 b.length c1) := (blk_cell BKg2.out 1).trans rfl; have hz15 := blk_frozen (BKg2.out) 1; have hq16 : w3.cell? ⟨g2, 2, none⟩ = some (.slice A2 c.length c2) := (blk_cell BKg2.out 2).trans rfl; have hz16 := blk_frozen (BKg2.out) 2; have hq17 : w3.cell? ⟨g2, 3, none⟩ = some (.int .i64 h) := (blk_cell BKg2.out 3).trans rfl; have hz17 := blk_frozen (BKg2.out) 3; have hq18 : w3.cell? ⟨g2, 4, none⟩ = some (.int .i64 n) := (blk_cell BKg2.out 4).trans rfl; have hz18 := blk_frozen (BKg2.out) 4; have hq19 : w3.cell? ⟨g2, 5, none⟩ = some (.string o) := (blk_cell BKg2.out 5).trans rfl; have hz19 := blk_frozen (BKg2.out) 5; have hq20 : w3.cell? ⟨qx_, 0, none⟩ = some (.int .i64 x) := (blk_cell BKqx_.out 0).trans rfl; have hz20 := blk_frozen (BKqx_.out) 0; have hq21 : w3.cell? ⟨g4, 0, none⟩ = some (.slice none 0 0) := (blk_cell BKg4.out 0).trans rfl; have hz21 := blk_frozen (BKg4.out) 0; have hq22 : w3.cell? ⟨g4, 1, none⟩ = some (.slice none 0 0) := (blk_cell BKg4.out 1).trans rfl; have hz22 := blk_frozen (BKg4.out) 1; have hq23 : w3.cell? ⟨g4, 2, none⟩ = some (.slice none 0 0) := (blk_cell BKg4.out 2).trans rfl; have hz23 := blk_frozen (BKg4.out) 2; have hq24 : w3.cell? ⟨g4, 3, none⟩ = some (.int .i64 0) := (blk_cell BKg4.out 3).trans rfl; have hz24 := blk_frozen (BKg4.out) 3; have hq25 : w3.cell? ⟨g4, 4, none⟩ = some (.int .i64 0) := (blk_cell BKg4.out 4).trans rfl; have hz25 := blk_frozen (BKg4.out) 4; have hq26 : w3.cell? ⟨g4, 5, none⟩ = some (.string (⟨#[]⟩ : ByteArray)) := (blk_cell BKg4.out 5).trans rfl; have hz26 := blk_frozen (BKg4.out) 5)
    | (go_at_call 65; (with_reducible refine (impl_dataCode.calls k A0 c0 s A1 c1 b A2 c2 c h n o x 0 w3 (Kd.C_below HR0.out HB.out) HC0.out (Kd.C_below HR1.out HB.out) HC1.out (Kd.C_below HR2.out HB.out) HC2.out HK.out).mono ?_); rintro e w4 ⟨rfl, hb⟩; replace BKg2 := Aside0.mk (blk_below BKg2.out hb); replace BKqx_ := Aside0.mk (blk_below BKqx_.out hb); replace BKg4 := Aside0.mk (blk_below BKg4.out hb); replace HB := Aside0.mk (below_step HB.out hb); clear hb; have hq27 : w4.cell? ⟨g2, 0, none⟩ = some (.slice A0 s.length c0) := (blk_cell BKg2.out 0).trans rfl; have hz27 := blk_frozen (BKg2.out) 0; have hq28 : w4.cell? ⟨g2, 1, none⟩ = some (.slice A1 b.length c1) := (blk_cell BKg2.out 1).trans rfl; have hz28 := blk_frozen (BKg2.out) 1; have hq29 : w4.cell? ⟨g2, 2, none⟩ = some (.slice A2 c.length c2) := (blk_cell BKg2.out 2).trans rfl; have hz29 := blk_frozen (BKg2.out) 2; have hq30 : w4.cell? ⟨g2, 3, none⟩ = some (.int .i64 h) := (blk_cell BKg2.out 3).trans rfl; have hz30 := blk_frozen (BKg2.out) 3; have hq31 : w4.cell? ⟨g2, 4, none⟩ = some (.int .i64 n) := (blk_cell BKg2.out 4).trans rfl; have hz31 := blk_frozen (BKg2.out) 4; have hq32 : w4.cell? ⟨g2, 5, none⟩ = some (.string o) := (blk_cell BKg2.out 5).trans rfl; have hz32 := blk_frozen (BKg2.out) 5; have hq33 : w4.cell? ⟨qx_, 0, none⟩ = some (.int .i64 x) := (blk_cell BKqx_.out 0).trans rfl; have hz33 := blk_frozen (BKqx_.out) 0; have hq34 : w4.cell? ⟨g4, 0, none⟩ = some (.slice none 0 0) := (blk_cell BKg4.out 0).trans rfl; have hz34 := blk_frozen (BKg4.out) 0; have hq35 : w4.cell? ⟨g4, 1, none⟩ = some (.slice none 0 0) := (blk_cell BKg4.out 1).trans rfl; have hz35 := blk_frozen (BKg4.out) 1; have hq36 : w4.cell? ⟨g4, 2, none⟩ = some (.slice none 0 0) := (blk_cell BKg4.out 2).trans rfl; have hz36 := blk_frozen (BKg4.out) 2; have hq37 : w4.cell? ⟨g4, 3, none⟩ = some (.int .i64 0) := (blk_cell BKg4.out 3).trans rfl; have hz37 := blk_frozen (BKg4.out) 3; have hq38 : w4.cell? ⟨g4, 4, none⟩ = some (.int .i64 0) := (blk_cell BKg4.out 4).trans rfl; have hz38 := blk_frozen (BKg4.out) 4; have hq39 : w4.cell? ⟨g4, 5, none⟩ = some (.string (⟨#[]⟩ : ByteArray)) := (blk_cell BKg4.out 5).trans rfl; have hz39 := blk_frozen (BKg4.out) 5)
    | (go_at_call 57; refine (changed_both w4 69 Try.f69 #[.pointer (some ⟨qx_, 0, none⟩)] Try.func69 rfl rfl A0 c0 A1 c1 A2 c2 s b c h n o (Kd.C_below HR0.out HB.out) HC0.out (Kd.C_below HR1.out HB.out) HC1.out (Kd.C_below HR2.out HB.out) HC2.out HCO.out t s' b' c' h' n' o' rs rb rc rh rn ro (fun W0 W g B0 d0 B1 d1 B2 d2 hb0 hh => HCL.out qx_ W0 W g B0 d0 B1 d1 B2 d2 hh (pw_cell_below hh.below (pw_cell_below hb0 ((blk_cell BKqx_.out 0).trans rfl)))) HSEL.out).mono ?_; rintro e w5 ⟨v0, v1, v2, rfl, x0, x1, x2, hb⟩; have X0 := Aside0.mk (Kd.R_lower x0 (below_size HB.out)); have X1 := Aside0.mk (Kd.R_lower x1 (below_size HB.out)); have X2 := Aside0.mk (Kd.R_lower x2 (below_size HB.out)); clear x0 x1 x2; replace BKg2 := Aside0.mk (blk_below BKg2.out hb); replace BKqx_ := Aside0.mk (blk_below BKqx_.out hb); replace BKg4 := Aside0.mk (blk_below BKg4.out hb); replace HB := Aside0.mk (below_step HB.out hb); clear hb; obtain ⟨E0, f0, e0⟩ := Kd.R_slice X0.out; subst e0; obtain ⟨E1, f1, e1⟩ := Kd.R_slice X1.out; subst e1; obtain ⟨E2, f2, e2⟩ := Kd.R_slice X2.out; subst e2)
    | ((with_reducible refine gate_dst (N := 8) rfl ?_); refine box_event ?hg (N := 8) ?hd (cs := #[.slice none 0 0, .slice none 0 0, .slice none 0 0, .int .i64 0, .int .i64 0, .string (⟨#[]⟩ : ByteArray)]) (t := 24) ?hr ?_; (case hd => rfl); (case hg => rfl); (case hr => first | (go_simp; done) | (go_simp; rfl)); intro g8 hg w6 hbox hb; have BKg8 := Aside0.mk hbox; have GEg8 := Aside0.mk (show w.heap.size ≤ g8 by rw [hg]; exact (below_size HB.out)); have neg8_g2 : g8 ≠ g2 := (by rw [hg]; exact Nat.ne_of_gt (blk_lt BKg2.out)); have neg2_g8 : g2 ≠ g8 := neg8_g2.symm; have neg8_qx_ : g8 ≠ qx_ := (by rw [hg]; exact Nat.ne_of_gt (blk_lt BKqx_.out)); have neqx__g8 : qx_ ≠ g8 := neg8_qx_.symm; have neg8_g4 : g8 ≠ g4 := (by rw [hg]; exact Nat.ne_of_gt (blk_lt BKg4.out)); have neg4_g8 : g4 ≠ g8 := neg8_g4.symm; replace BKg2 := Aside0.mk (blk_below BKg2.out hb); replace BKqx_ := Aside0.mk (blk_below BKqx_.out hb); replace BKg4 := Aside0.mk (blk_below BKg4.out hb); replace X0 := Aside0.mk (Kd.R_below X0.out hb); replace X1 := Aside0.mk (Kd.R_below X1.out hb); replace X2 := Aside0.mk (Kd.R_below X2.out hb); replace HB := Aside0.mk (below_step HB.out hb); clear hg hbox hb; have hq40 : w6.cell? ⟨g2, 0, none⟩ = some (.slice A0 s.length c0) := (blk_cell BKg2.out 0).trans rfl; have hz40 := blk_frozen (BKg2.out) 0; have hq41 : w6.cell? ⟨g2, 1, none⟩ = some (.slice A1 b.length c1) := (blk_cell BKg2.out 1).trans rfl; have hz41 := blk_frozen (BKg2.out) 1; have hq42 : w6.cell? ⟨g2, 2, none⟩ = some (.slice A2 c.length c2) := (blk_cell BKg2.out 2).trans rfl; have hz42 := blk_frozen (BKg2.out) 2; have hq43 : w6.cell? ⟨g2, 3, none⟩ = some (.int .i64 h) := (blk_cell BKg2.out 3).trans rfl; have hz43 := blk_frozen (BKg2.out) 3; have hq44 : w6.cell? ⟨g2, 4, none⟩ = some (.int .i64 n) := (blk_cell BKg2.out 4).trans rfl; have hz44 := blk_frozen (BKg2.out) 4; have hq45 : w6.cell? ⟨g2, 5, none⟩ = some (.string o) := (blk_cell BKg2.out 5).trans rfl; have hz45 := blk_frozen (BKg2.out) 5; have hq46 : w6.cell? ⟨qx_, 0, none⟩ = some (.int .i64 x) := (blk_cell BKqx_.out 0).trans rfl; have hz46 := blk_frozen (BKqx_.out) 0; have hq47 : w6.cell? ⟨g4, 0, none⟩ = some (.slice none 0 0) := (blk_cell BKg4.out 0).trans rfl; have hz47 := blk_frozen (BKg4.out) 0; have hq48 : w6.cell? ⟨g4, 1, none⟩ = some (.slice none 0 0) := (blk_cell BKg4.out 1).trans rfl; have hz48 := blk_frozen (BKg4.out) 1; have hq49 : w6.cell? ⟨g4, 2, none⟩ = some (.slice none 0 0) := (blk_cell BKg4.out 2).trans rfl; have hz49 := blk_frozen (BKg4.out) 2; have hq50 : w6.cell? ⟨g4, 3, none⟩ = some (.int .i64 0) := (blk_cell BKg4.out 3).trans rfl; have hz50 := blk_frozen (BKg4.out) 3; have hq51 : w6.cell? ⟨g4, 4, none⟩ = some (.int .i64 0) := (blk_cell BKg4.out 4).trans rfl; have hz51 := blk_frozen (BKg4.out) 4; have hq52 : w6.cell? ⟨g4, 5, none⟩ = some (.string (⟨#[]⟩ : ByteArray)) := (blk_cell BKg4.out 5).trans rfl; have hz52 := blk_frozen (BKg4.out) 5; have hq53 : w6.cell? ⟨g8, 0, none⟩ = some (.slice none 0 0) := (blk_cell BKg8.out 0).trans rfl; have hz53 := blk_frozen (BKg8.out) 0; have hq54 : w6.cell? ⟨g8, 1, none⟩ = some (.slice none 0 0) := (blk_cell BKg8.out 1).trans rfl; have hz54 := blk_frozen (BKg8.out) 1; have hq55 : w6.cell? ⟨g8, 2, none⟩ = some (.slice none 0 0) := (blk_cell BKg8.out 2).trans rfl; have hz55 := blk_frozen (BKg8.out) 2; have hq56 : w6.cell? ⟨g8, 3, none⟩ = some (.int .i64 0) := (blk_cell BKg8.out 3).trans rfl; have hz56 := blk_frozen (BKg8.out) 3; have hq57 : w6.cell? ⟨g8, 4, none⟩ = some (.int .i64 0) := (blk_cell BKg8.out 4).trans rfl; have hz57 := blk_frozen (BKg8.out) 4; have hq58 : w6.cell? ⟨g8, 5, none⟩ = some (.string (⟨#[]⟩ : ByteArray)) := (blk_cell BKg8.out 5).trans rfl; have hz58 := blk_frozen (BKg8.out) 5))
  have a1 := blk_put BKg8.out 0 (.slice E0 rs.length f0) rfl
  have a2 := blk_put a1 1 (.slice E1 rb.length f1) rfl
  have a3 := blk_put a2 2 (.slice E2 rc.length f2) rfl
  have a4 := blk_put a3 3 (.int .i64 rh) rfl
  have a5 := blk_put a4 4 (.int .i64 rn) rfl
  have a6 := blk_put a5 5 (.string ro) rfl
  have d0 : ((((((w6.setCell ⟨g8, 0, none⟩ (.slice E0 rs.length f0)).setCell ⟨g8, 1, none⟩ (.slice E1 rb.length f1)).setCell ⟨g8, 2, none⟩ (.slice E2 rc.length f2)).setCell ⟨g8, 3, none⟩ (.int .i64 rh)).setCell ⟨g8, 4, none⟩ (.int .i64 rn)).setCell ⟨g8, 5, none⟩ (.string ro)).heap[g4]? = some (.cells #[.slice none 0 0, .slice none 0 0, .slice none 0 0, .int .i64 0, .int .i64 0, .string (⟨#[]⟩ : ByteArray)] 24 (0, 0)) := (blk_far (blk_far (blk_far (blk_far (blk_far (blk_far BKg4.out neg4_g8 _) neg4_g8 _) neg4_g8 _) neg4_g8 _) neg4_g8 _) neg4_g8 _)
  have d1 := blk_put d0 0 (.slice E0 rs.length f0) rfl
  have d2 := blk_put d1 1 (.slice E1 rb.length f1) rfl
  have d3 := blk_put d2 2 (.slice E2 rc.length f2) rfl
  have d4 := blk_put d3 3 (.int .i64 rh) rfl
  have d5 := blk_put d4 4 (.int .i64 rn) rfl
  have d6 := blk_put d5 5 (.string ro) rfl
  have rows : ∀ {ok : Nat → Prop} {v : Value} {xs : List Int}, Kd.R (Kd.int .i64) 3 w6 w.heap.size ok v xs → Kd.R (Kd.int .i64) 3 ((((((((((((w6.setCell ⟨g8, 0, none⟩ (.slice E0 rs.length f0)).setCell ⟨g8, 1, none⟩ (.slice E1 rb.length f1)).setCell ⟨g8, 2, none⟩ (.slice E2 rc.length f2)).setCell ⟨g8, 3, none⟩ (.int .i64 rh)).setCell ⟨g8, 4, none⟩ (.int .i64 rn)).setCell ⟨g8, 5, none⟩ (.string ro)).setCell ⟨g4, 0, none⟩ (.slice E0 rs.length f0)).setCell ⟨g4, 1, none⟩ (.slice E1 rb.length f1)).setCell ⟨g4, 2, none⟩ (.slice E2 rc.length f2)).setCell ⟨g4, 3, none⟩ (.int .i64 rh)).setCell ⟨g4, 4, none⟩ (.int .i64 rn)).setCell ⟨g4, 5, none⟩ (.string ro)) w.heap.size ok v xs := fun hh => (Held.rows_set d5 (Held.rows_set d4 (Held.rows_set d3 (Held.rows_set d2 (Held.rows_set d1 (Held.rows_set d0 (Held.rows_set a5 (Held.rows_set a4 (Held.rows_set a3 (Held.rows_set a2 (Held.rows_set a1 (Held.rows_set BKg8.out hh))))))))))))
  refine bodyPost_ret (results_ctt rfl _ _ g4 24 #[.slice E0 rs.length f0, .slice E1 rb.length f1, .slice E2 rc.length f2, .int .i64 rh, .int .i64 rn, .string ro] (0, 0) _ rfl d6 Try.underlying24 rfl (by kernel_rfl)) rfl ?_
  exact ⟨_, _, _, rfl, rows X0.out, rows X1.out, rows X2.out, (below_set (below_set (below_set (below_set (below_set (below_set (below_set (below_set (below_set (below_set (below_set (below_set HB.out GEg8.out) GEg8.out) GEg8.out) GEg8.out) GEg8.out) GEg8.out) GEg4.out) GEg4.out) GEg4.out) GEg4.out) GEg4.out) GEg4.out)⟩

set_option maxHeartbeats 8000000 in
set_option maxRecDepth 100000 in
theorem AllotCells_code (k : Nat) (A0 : Option Addr) (c0 : Nat) (A1 : Option Addr) (c1 : Nat) (A2 : Option Addr) (c2 : Nat) (s b c : List Int) (h n : Int) (o : ByteArray) (x : Int) (code : Int) (w : World) (hr0 : Kd.C (Kd.int .i64) w A0 s.length s) (hc0 : s.length ≤ c0) (hr1 : Kd.C (Kd.int .i64) w A1 b.length b) (hc1 : b.length ≤ c1) (hr2 : Kd.C (Kd.int .i64) w A2 c.length c) (hc2 : c.length ≤ c2) (hk : impl_dataCode.f k s b c h n o x = some code) (ht : ¬ code = 0) :
    Calls Try.prog 34 #[.agg #[.slice A0 s.length c0, .slice A1 b.length c1, .slice A2 c.length c2, .int .i64 h, .int .i64 n, .string o], .int .i64 x] w fun e w' => ∃ v0 v1 v2 : Value, e = .returned (.tuple #[.agg #[v0, v1, v2, .int .i64 0, .int .i64 0, .string (⟨#[]⟩ : ByteArray)], .int .i64 0, .int .i64 code]) ∧ Kd.R (Kd.int .i64) 3 w' w.heap.size (fun k_ => some k_ ≠ (v1 : Value).ownBlock ∧ some k_ ≠ (v2 : Value).ownBlock) v0 ([] : List Int) ∧ Kd.R (Kd.int .i64) 3 w' w.heap.size (fun k_ => some k_ ≠ (v0 : Value).ownBlock ∧ some k_ ≠ (v2 : Value).ownBlock) v1 ([] : List Int) ∧ Kd.R (Kd.int .i64) 3 w' w.heap.size (fun k_ => some k_ ≠ (v0 : Value).ownBlock ∧ some k_ ≠ (v1 : Value).ownBlock) v2 ([] : List Int) ∧ Below w.heap.size w w' := by
  have hu24 := Try.underlying24
  have HR0 := Aside0.mk hr0
  have HR1 := Aside0.mk hr1
  have HR2 := Aside0.mk hr2
  have HC0 := Aside0.mk hc0
  have HC1 := Aside0.mk hc1
  have HC2 := Aside0.mk hc2
  have HB := Aside0.mk (Below.refl w.heap.size w)
  have HK := Aside0.mk hk
  have ht0 : (code == 0) = false := beq_eq_false_iff_ne.mpr ht
  have ht1 : (code != 0) = true := bne_iff_ne.mpr ht
  clear hr0 hr1 hr2 hc0 hc1 hc2 hk ht
  go_enter Try.func34, Try.ntmps34
  go_wp2_with (first
    | ((with_reducible refine gate_dst (N := 2) rfl ?_); refine box_event ?hg (N := 2) ?hd (cs := #[.slice A0 s.length c0, .slice A1 b.length c1, .slice A2 c.length c2, .int .i64 h, .int .i64 n, .string o]) (t := 24) ?hr ?_; (case hd => rfl); (case hg => rfl); (case hr => first | (go_simp; done) | (go_simp; rfl)); intro g2 hg w1 hbox hb; have BKg2 := Aside0.mk hbox; have GEg2 := Aside0.mk (show w.heap.size ≤ g2 by rw [hg]; exact (below_size HB.out)); replace HB := Aside0.mk (below_step HB.out hb); clear hg hbox hb; have hq1 : w1.cell? ⟨g2, 0, none⟩ = some (.slice A0 s.length c0) := (blk_cell BKg2.out 0).trans rfl; have hz1 := blk_frozen (BKg2.out) 0; have hq2 : w1.cell? ⟨g2, 1, none⟩ = some (.slice A1 b.length c1) := (blk_cell BKg2.out 1).trans rfl; have hz2 := blk_frozen (BKg2.out) 1; have hq3 : w1.cell? ⟨g2, 2, none⟩ = some (.slice A2 c.length c2) := (blk_cell BKg2.out 2).trans rfl; have hz3 := blk_frozen (BKg2.out) 2; have hq4 : w1.cell? ⟨g2, 3, none⟩ = some (.int .i64 h) := (blk_cell BKg2.out 3).trans rfl; have hz4 := blk_frozen (BKg2.out) 3; have hq5 : w1.cell? ⟨g2, 4, none⟩ = some (.int .i64 n) := (blk_cell BKg2.out 4).trans rfl; have hz5 := blk_frozen (BKg2.out) 4; have hq6 : w1.cell? ⟨g2, 5, none⟩ = some (.string o) := (blk_cell BKg2.out 5).trans rfl; have hz6 := blk_frozen (BKg2.out) 5)
    | ((with_reducible refine gate_dst (N := 3) rfl ?_); refine box_event ?hg (N := 3) ?hd (cs := #[.int .i64 x]) (t := 3) ?hr ?_; (case hd => rfl); (case hg => rfl); (case hr => first | (go_simp; done) | (go_simp; rfl)); intro qx_ hg w2 hbox hb; have BKqx_ := Aside0.mk hbox; have GEqx_ := Aside0.mk (show w.heap.size ≤ qx_ by rw [hg]; exact (below_size HB.out)); have neqx__g2 : qx_ ≠ g2 := (by rw [hg]; exact Nat.ne_of_gt (blk_lt BKg2.out)); have neg2_qx_ : g2 ≠ qx_ := neqx__g2.symm; replace BKg2 := Aside0.mk (blk_below BKg2.out hb); replace HB := Aside0.mk (below_step HB.out hb); clear hg hbox hb; have hq7 : w2.cell? ⟨g2, 0, none⟩ = some (.slice A0 s.length c0) := (blk_cell BKg2.out 0).trans rfl; have hz7 := blk_frozen (BKg2.out) 0; have hq8 : w2.cell? ⟨g2, 1, none⟩ = some (.slice A1 b.length c1) := (blk_cell BKg2.out 1).trans rfl; have hz8 := blk_frozen (BKg2.out) 1; have hq9 : w2.cell? ⟨g2, 2, none⟩ = some (.slice A2 c.length c2) := (blk_cell BKg2.out 2).trans rfl; have hz9 := blk_frozen (BKg2.out) 2; have hq10 : w2.cell? ⟨g2, 3, none⟩ = some (.int .i64 h) := (blk_cell BKg2.out 3).trans rfl; have hz10 := blk_frozen (BKg2.out) 3; have hq11 : w2.cell? ⟨g2, 4, none⟩ = some (.int .i64 n) := (blk_cell BKg2.out 4).trans rfl; have hz11 := blk_frozen (BKg2.out) 4; have hq12 : w2.cell? ⟨g2, 5, none⟩ = some (.string o) := (blk_cell BKg2.out 5).trans rfl; have hz12 := blk_frozen (BKg2.out) 5; have hq13 : w2.cell? ⟨qx_, 0, none⟩ = some (.int .i64 x) := (blk_cell BKqx_.out 0).trans rfl; have hz13 := blk_frozen (BKqx_.out) 0)
    | ((with_reducible refine gate_dst (N := 4) rfl ?_); refine box_event ?hg (N := 4) ?hd (cs := #[.slice none 0 0, .slice none 0 0, .slice none 0 0, .int .i64 0, .int .i64 0, .string (⟨#[]⟩ : ByteArray)]) (t := 24) ?hr ?_; (case hd => rfl); (case hg => rfl); (case hr => first | (go_simp; done) | (go_simp; rfl)); intro g4 hg w3 hbox hb; have BKg4 := Aside0.mk hbox; have GEg4 := Aside0.mk (show w.heap.size ≤ g4 by rw [hg]; exact (below_size HB.out)); have neg4_g2 : g4 ≠ g2 := (by rw [hg]; exact Nat.ne_of_gt (blk_lt BKg2.out)); have neg2_g4 : g2 ≠ g4 := neg4_g2.symm; have neg4_qx_ : g4 ≠ qx_ := (by rw [hg]; exact Nat.ne_of_gt (blk_lt BKqx_.out)); have neqx__g4 : qx_ ≠ g4 := neg4_qx_.symm; replace BKg2 := Aside0.mk (blk_below BKg2.out hb); replace BKqx_ := Aside0.mk (blk_below BKqx_.out hb); replace HB := Aside0.mk (below_step HB.out hb); clear hg hbox hb; have hq14 : w3.cell? ⟨g2, 0, none⟩ = some (.slice A0 s.length c0) := (blk_cell BKg2.out 0).trans rfl; have hz14 := blk_frozen (BKg2.out) 0; have hq15 : w3.cell? ⟨g2, 1, none⟩ = some (.slice A1 b.length c1) := (blk_cell BKg2.out 1).trans rfl; have hz15 := blk_frozen (BKg2.out) 1; have hq16 : w3.cell? ⟨g2, 2, none⟩ = some (.slice A2 c.length c2) := (blk_cell BKg2.out 2).trans rfl; have hz16 := blk_frozen (BKg2.out) 2; have hq17 : w3.cell? ⟨g2, 3, none⟩ = some (.int .i64 h) := (blk_cell BKg2.out 3).trans rfl; have hz17 := blk_frozen (BKg2.out) 3; have hq18 : w3.cell? ⟨g2, 4, none⟩ = some (.int .i64 n) := (blk_cell BKg2.out 4).trans rfl; have hz18 := blk_frozen (BKg2.out) 4; have hq19 : w3.cell? ⟨g2, 5, none⟩ = some (.string o) := (blk_cell BKg2.out 5).trans rfl; have hz19 := blk_frozen (BKg2.out) 5; have hq20 : w3.cell? ⟨qx_, 0, none⟩ = some (.int .i64 x) := (blk_cell BKqx_.out 0).trans rfl; have hz20 := blk_frozen (BKqx_.out) 0; have hq21 : w3.cell? ⟨g4, 0, none⟩ = some (.slice none 0 0) := (blk_cell BKg4.out 0).trans rfl; have hz21 := blk_frozen (BKg4.out) 0; have hq22 : w3.cell? ⟨g4, 1, none⟩ = some (.slice none 0 0) := (blk_cell BKg4.out 1).trans rfl; have hz22 := blk_frozen (BKg4.out) 1; have hq23 : w3.cell? ⟨g4, 2, none⟩ = some (.slice none 0 0) := (blk_cell BKg4.out 2).trans rfl; have hz23 := blk_frozen (BKg4.out) 2; have hq24 : w3.cell? ⟨g4, 3, none⟩ = some (.int .i64 0) := (blk_cell BKg4.out 3).trans rfl; have hz24 := blk_frozen (BKg4.out) 3; have hq25 : w3.cell? ⟨g4, 4, none⟩ = some (.int .i64 0) := (blk_cell BKg4.out 4).trans rfl; have hz25 := blk_frozen (BKg4.out) 4; have hq26 : w3.cell? ⟨g4, 5, none⟩ = some (.string (⟨#[]⟩ : ByteArray)) := (blk_cell BKg4.out 5).trans rfl; have hz26 := blk_frozen (BKg4.out) 5)
    | (go_at_call 65; (with_reducible refine (impl_dataCode.calls k A0 c0 s A1 c1 b A2 c2 c h n o x code w3 (Kd.C_below HR0.out HB.out) HC0.out (Kd.C_below HR1.out HB.out) HC1.out (Kd.C_below HR2.out HB.out) HC2.out HK.out).mono ?_); rintro e w4 ⟨rfl, hb⟩; replace BKg2 := Aside0.mk (blk_below BKg2.out hb); replace BKqx_ := Aside0.mk (blk_below BKqx_.out hb); replace BKg4 := Aside0.mk (blk_below BKg4.out hb); replace HB := Aside0.mk (below_step HB.out hb); clear hb; have hq27 : w4.cell? ⟨g2, 0, none⟩ = some (.slice A0 s.length c0) := (blk_cell BKg2.out 0).trans rfl; have hz27 := blk_frozen (BKg2.out) 0; have hq28 : w4.cell? ⟨g2, 1, none⟩ = some (.slice A1 b.length c1) := (blk_cell BKg2.out 1).trans rfl; have hz28 := blk_frozen (BKg2.out) 1; have hq29 : w4.cell? ⟨g2, 2, none⟩ = some (.slice A2 c.length c2) := (blk_cell BKg2.out 2).trans rfl; have hz29 := blk_frozen (BKg2.out) 2; have hq30 : w4.cell? ⟨g2, 3, none⟩ = some (.int .i64 h) := (blk_cell BKg2.out 3).trans rfl; have hz30 := blk_frozen (BKg2.out) 3; have hq31 : w4.cell? ⟨g2, 4, none⟩ = some (.int .i64 n) := (blk_cell BKg2.out 4).trans rfl; have hz31 := blk_frozen (BKg2.out) 4; have hq32 : w4.cell? ⟨g2, 5, none⟩ = some (.string o) := (blk_cell BKg2.out 5).trans rfl; have hz32 := blk_frozen (BKg2.out) 5; have hq33 : w4.cell? ⟨qx_, 0, none⟩ = some (.int .i64 x) := (blk_cell BKqx_.out 0).trans rfl; have hz33 := blk_frozen (BKqx_.out) 0; have hq34 : w4.cell? ⟨g4, 0, none⟩ = some (.slice none 0 0) := (blk_cell BKg4.out 0).trans rfl; have hz34 := blk_frozen (BKg4.out) 0; have hq35 : w4.cell? ⟨g4, 1, none⟩ = some (.slice none 0 0) := (blk_cell BKg4.out 1).trans rfl; have hz35 := blk_frozen (BKg4.out) 1; have hq36 : w4.cell? ⟨g4, 2, none⟩ = some (.slice none 0 0) := (blk_cell BKg4.out 2).trans rfl; have hz36 := blk_frozen (BKg4.out) 2; have hq37 : w4.cell? ⟨g4, 3, none⟩ = some (.int .i64 0) := (blk_cell BKg4.out 3).trans rfl; have hz37 := blk_frozen (BKg4.out) 3; have hq38 : w4.cell? ⟨g4, 4, none⟩ = some (.int .i64 0) := (blk_cell BKg4.out 4).trans rfl; have hz38 := blk_frozen (BKg4.out) 4; have hq39 : w4.cell? ⟨g4, 5, none⟩ = some (.string (⟨#[]⟩ : ByteArray)) := (blk_cell BKg4.out 5).trans rfl; have hz39 := blk_frozen (BKg4.out) 5))
  have d1 := blk_put BKg4.out 0 (.slice none 0 0) rfl
  have d2 := blk_put d1 1 (.slice none 0 0) rfl
  have d3 := blk_put d2 2 (.slice none 0 0) rfl
  have d4 := blk_put d3 3 (.int .i64 0) rfl
  have d5 := blk_put d4 4 (.int .i64 0) rfl
  have d6 := blk_put d5 5 (.string (⟨#[]⟩ : ByteArray)) rfl
  refine bodyPost_ret (results_ctt rfl _ _ g4 24 #[.slice none 0 0, .slice none 0 0, .slice none 0 0, .int .i64 0, .int .i64 0, .string (⟨#[]⟩ : ByteArray)] (0, 0) _ rfl d6 Try.underlying24 rfl (by kernel_rfl)) rfl ?_
  exact ⟨_, _, _, rfl, Kd.R_nil _ _ _ _ _, Kd.R_nil _ _ _ _ _, Kd.R_nil _ _ _ _ _, (below_set (below_set (below_set (below_set (below_set (below_set HB.out GEg4.out) GEg4.out) GEg4.out) GEg4.out) GEg4.out) GEg4.out)⟩
def impl_AllotCells.f (k : Nat) (s b c : List Int) (h n : Int) (o : ByteArray) (x : Int) : Option (List Int × List Int × List Int × Int × Int × ByteArray × Int × Int) := (impl_dataCode.f k s b c h n o x).bind fun t => if t = 0 then ((impl_Data_copied.f s b c h n o).bind fun _ => if -100 ≤ h then (if wrap64 (h + wrap64 (Int.tdiv x 4)) = h + Int.tdiv x 4 then (if Int.tmod x 4 = 0 then ((impl_in.f (h + Int.tdiv x 4) 0 32).bind fun i => if i = true then (if h + Int.tdiv x 4 ≤ 32 then ((allotZ k c h (h + Int.tdiv x 4)).bind fun c' => some (s, b, c', h + Int.tdiv x 4, n, o, 0, 0)) else none) else some (s, b, c, h, n, o, -8, 0)) else some (s, b, c, h, n, o, -8, 0)) else none) else none) else some ([], [], [], 0, 0, ⟨#[]⟩, 0, t)
theorem allotZ.mono : ∀ k c j e, LeO (allotZ k c j e) (allotZ (k + 1) c j e) := by
  intro k
  induction k with
  | zero => intro c j e r h; simp [allotZ] at h
  | succ k ih =>
    intro c j e r h
    rw [allotZ] at h ⊢
    by_cases c3 : j < e
    · rw [if_pos c3] at h ⊢
      by_cases c4 : 0 ≤ j
      · rw [if_pos c4] at h ⊢
        by_cases c5 : j < (c.length : Int)
        · rw [if_pos c5] at h ⊢
          exact ih _ _ _ r h
        · rw [if_neg c5] at h
          cases h
      · rw [if_neg c4] at h
        cases h
    · rw [if_neg c3] at h ⊢
      exact h
theorem impl_AllotCells.mono : ∀ a0 a1 a2 a3 a4 a5 a6 k, LeO (impl_AllotCells.f k a0 a1 a2 a3 a4 a5 a6) (impl_AllotCells.f (k + 1) a0 a1 a2 a3 a4 a5 a6) := by
  intro a0 a1 a2 a3 a4 a5 a6 k
  unfold impl_AllotCells.f
  refine LeO.bind (impl_dataCode.mono _ _ _ _ _ _ _ _) (fun t => ?_)
  by_cases ht : t = 0
  · rw [if_pos ht, if_pos ht]
    refine LeO.bind (LeO.refl _) (fun _ => ?_)
    by_cases h1 : -100 ≤ a3
    · rw [if_pos h1, if_pos h1]
      by_cases h2 : wrap64 (a3 + wrap64 (Int.tdiv a6 4)) = a3 + Int.tdiv a6 4
      · rw [if_pos h2, if_pos h2]
        by_cases h3 : Int.tmod a6 4 = 0
        · rw [if_pos h3, if_pos h3]
          refine LeO.bind (LeO.refl _) (fun i => ?_)
          by_cases h4 : i = true
          · rw [if_pos h4, if_pos h4]
            by_cases h5 : a3 + Int.tdiv a6 4 ≤ 32
            · rw [if_pos h5, if_pos h5]
              exact LeO.bind (allotZ.mono _ _ _ _) (fun _ => LeO.refl _)
            · rw [if_neg h5, if_neg h5]
              exact LeO.refl _
          · rw [if_neg h4, if_neg h4]
            exact LeO.refl _
        · rw [if_neg h3, if_neg h3]
          exact LeO.refl _
      · rw [if_neg h2, if_neg h2]
        exact LeO.refl _
    · rw [if_neg h1, if_neg h1]
      exact LeO.refl _
  · rw [if_neg ht, if_neg ht]
    exact LeO.refl _
theorem impl_AllotCells.calls (k : Nat) (A0_0 : Option Addr) (c0_0 : Nat) (l0_0 : List Int) (A0_1 : Option Addr) (c0_1 : Nat) (l0_1 : List Int) (A0_2 : Option Addr) (c0_2 : Nat) (l0_2 : List Int) (a0_3 : Int) (a0_4 : Int) (a0_5 : ByteArray) (a1 : Int) (r1 : List Int) (r2 : List Int) (r3 : List Int) (r4 : Int) (r5 : Int) (r6 : ByteArray) (r7 : Int) (r8 : Int) (w : World) (hr0_0 : Kd.C (Kd.int .i64) w A0_0 l0_0.length l0_0) (hc0_0 : l0_0.length ≤ c0_0) (hr0_1 : Kd.C (Kd.int .i64) w A0_1 l0_1.length l0_1) (hc0_1 : l0_1.length ≤ c0_1) (hr0_2 : Kd.C (Kd.int .i64) w A0_2 l0_2.length l0_2) (hc0_2 : l0_2.length ≤ c0_2) (h : impl_AllotCells.f k l0_0 l0_1 l0_2 a0_3 a0_4 a0_5 a1 = some (r1, r2, r3, r4, r5, r6, r7, r8)) :
    Calls Try.prog 34 #[.agg #[.slice A0_0 l0_0.length c0_0, .slice A0_1 l0_1.length c0_1, .slice A0_2 l0_2.length c0_2, .int .i64 a0_3, .int .i64 a0_4, .string a0_5], .int .i64 a1] w fun e w' => ∃ v0_ v1_ v2_ : Value, e = .returned (.tuple #[.agg #[v0_, v1_, v2_, .int .i64 r4, .int .i64 r5, .string r6], .int .i64 r7, .int .i64 r8]) ∧ Kd.R (Kd.int .i64) 3 w' w.heap.size (fun k_ => some k_ ≠ (v1_ : Value).ownBlock ∧ some k_ ≠ (v2_ : Value).ownBlock) v0_ r1 ∧ Kd.R (Kd.int .i64) 3 w' w.heap.size (fun k_ => some k_ ≠ (v0_ : Value).ownBlock ∧ some k_ ≠ (v2_ : Value).ownBlock) v1_ r2 ∧ Kd.R (Kd.int .i64) 3 w' w.heap.size (fun k_ => some k_ ≠ (v0_ : Value).ownBlock ∧ some k_ ≠ (v1_ : Value).ownBlock) v2_ r3 ∧ Below w.heap.size w w' := by
  unfold impl_AllotCells.f at h
  obtain ⟨t, A2, H⟩ := Option.bind_eq_some_iff.mp h
  by_cases c1 : t = 0
  · rw [if_pos c1] at H
    subst c1
    obtain ⟨d, A3, H⟩ := Option.bind_eq_some_iff.mp H
    by_cases h1 : -100 ≤ a0_3
    · rw [if_pos h1] at H
      by_cases h2 : wrap64 (a0_3 + wrap64 (Int.tdiv a1 4)) = a0_3 + Int.tdiv a1 4
      · rw [if_pos h2] at H
        have no : (¬ Int.tmod a1 4 = 0 ∨ (Int.tmod a1 4 = 0 ∧ impl_in.f (a0_3 + Int.tdiv a1 4) 0 32 = some false)) → (l0_0, l0_1, l0_2, a0_3, a0_4, a0_5, (-8 : Int), (0 : Int)) = (r1, r2, r3, r4, r5, r6, r7, r8) → Calls Try.prog 34 #[.agg #[.slice A0_0 l0_0.length c0_0, .slice A0_1 l0_1.length c0_1, .slice A0_2 l0_2.length c0_2, .int .i64 a0_3, .int .i64 a0_4, .string a0_5], .int .i64 a1] w fun e w' => ∃ v0_ v1_ v2_ : Value, e = .returned (.tuple #[.agg #[v0_, v1_, v2_, .int .i64 r4, .int .i64 r5, .string r6], .int .i64 r7, .int .i64 r8]) ∧ Kd.R (Kd.int .i64) 3 w' w.heap.size (fun k_ => some k_ ≠ (v1_ : Value).ownBlock ∧ some k_ ≠ (v2_ : Value).ownBlock) v0_ r1 ∧ Kd.R (Kd.int .i64) 3 w' w.heap.size (fun k_ => some k_ ≠ (v0_ : Value).ownBlock ∧ some k_ ≠ (v2_ : Value).ownBlock) v1_ r2 ∧ Kd.R (Kd.int .i64) 3 w' w.heap.size (fun k_ => some k_ ≠ (v0_ : Value).ownBlock ∧ some k_ ≠ (v1_ : Value).ownBlock) v2_ r3 ∧ Below w.heap.size w w' := fun hn e => by
          simp only [Prod.mk.injEq] at e
          obtain ⟨rfl, rfl, rfl, rfl, rfl, rfl, rfl, rfl⟩ := e
          exact AllotCells_run k A0_0 c0_0 A0_1 c0_1 A0_2 c0_2 _ _ _ _ _ _ a1 (-8) _ _ _ _ _ _ _ _ _ _ _ _ w hr0_0 hc0_0 hr0_1 hc0_1 hr0_2 hc0_2 A2 (copied_same A3)
            (fun q W0 W g B0 d0 B1 d1 B2 d2 hh hq => (allot1_no W0 W g q B0 d0 B1 d1 B2 d2 _ _ _ _ _ _ a1 h2 hn hh hq).mono (fun e W' hx => ⟨hx.1, _, _, _, _, _, _, hx.2⟩)) (.inr ⟨by decide, rfl⟩)
        by_cases h3 : Int.tmod a1 4 = 0
        · rw [if_pos h3] at H
          obtain ⟨i, A4, H⟩ := Option.bind_eq_some_iff.mp H
          cases i with
          | true =>
            rw [if_pos rfl] at H
            by_cases h5 : a0_3 + Int.tdiv a1 4 ≤ 32
            · rw [if_pos h5] at H
              obtain ⟨c', A5, H⟩ := Option.bind_eq_some_iff.mp H
              simp only [Option.some.injEq, Prod.mk.injEq] at H
              obtain ⟨rfl, rfl, rfl, rfl, rfl, rfl, rfl, rfl⟩ := H
              exact AllotCells_run k A0_0 c0_0 A0_1 c0_1 A0_2 c0_2 _ _ _ _ _ _ a1 0 _ _ _ _ _ _ _ _ _ _ _ _ w hr0_0 hc0_0 hr0_1 hc0_1 hr0_2 hc0_2 A2 (copied_same A3)
                (fun q W0 W g B0 d0 B1 d1 B2 d2 hh hq => (allot1_yes W0 W g q B0 d0 B1 d1 B2 d2 _ _ _ _ _ _ a1 k _ h2 ⟨h5, h1⟩ h3 A4 A5 hh hq).mono (fun e W' hx => ⟨hx.1, by obtain ⟨_, p, q, hy⟩ := hx; exact ⟨_, _, _, _, p, q, hy⟩⟩)) (.inl ⟨rfl, rfl⟩)
            · rw [if_neg h5] at H
              cases H
          | false =>
            rw [if_neg (by decide)] at H
            exact no (.inr ⟨h3, A4⟩) (Option.some.inj H)
        · rw [if_neg h3] at H
          exact no (.inl h3) (Option.some.inj H)
      · rw [if_neg h2] at H
        cases H
    · rw [if_neg h1] at H
      cases H
  · rw [if_neg c1] at H
    simp only [Option.some.injEq, Prod.mk.injEq] at H
    obtain ⟨rfl, rfl, rfl, rfl, rfl, rfl, rfl, rfl⟩ := H
    exact AllotCells_code k A0_0 c0_0 A0_1 c0_1 A0_2 c0_2 _ _ _ _ _ _ a1 _ w hr0_0 hc0_0 hr0_1 hc0_1 hr0_2 hc0_2 A2 c1


end Go.Proofs.Ytcelnpmahnblpaa.PFnExactAllotCells
