-- laid by a program of this session out of the translation's own print: Lean checks it
import Derived.Test.YtbbfahkmjfmmjaaDoorPFnExactCodeLinesx0
import Derived.Test.YtbbfahkmjfmmjaaDoorPFnExactCodeLinesx1
import Derived.Test.YtbbfahkmjfmmjaaDoorPFnExactCodeLinesx2
namespace Go.Proofs.YtbbfahkmjfmmjaaDoor.PFnExactCodeLines
open Go.RowKit Go.Proofs.YtbbfahkmjfmmjaaDoorW.PrintWords Go.Proofs.YtbbfahkmjfmmjaaDoorW.PrintLast Go.Proofs.YtbbfahkmjfmmjaaDoorW.PrintMore
attribute [local go_sem] max2_int min2_int max_two min_two max_three min_three max_four min_four   -- for this text's walks alone
set_option linter.unusedVariables false
set_option linter.unusedSimpArgs false

attribute [local go_sem high] eqA39
/-! ### laws_toWordS: function 19 -/
def laws_toWordS.l0 : Nat → List (S35) → List (S39) → Int → Option ((List (S39)))
  | 0, _, _, _ => none
  | k + 1, x0, x3, x4 => if x4 < (x0.length : Int) then (if 0 ≤ x4 then ((laws_toWord.f ((rd_T35 x0 x4).f0) ((rd_T35 x0 x4).f1) ((rd_T35 x0 x4).f2)).bind fun bt123 => (if x4 < (x3.length : Int) then (laws_toWordS.l0 k x0 (x3.set (x4 : Int).toNat (⟨bt123.1, bt123.2.1, bt123.2.2⟩ : S39)) (wrap64 (x4 + 1))) else (none))) else (none)) else (some x3)
def laws_toWordS.f (k : Nat) (l0 : List (S35)) : Option ((List (S39))) := if 0 ≤ (l0.length : Int) then (if ((l0.length : Int) : Int).toNat ≤ 8796093022208 then (laws_toWordS.l0 k l0 (List.replicate ((l0.length : Int) : Int).toNat z39) 0) else (none)) else (none)
theorem laws_toWordS.mono_l : ∀ k, (∀ y0 y1 y2, LeO (laws_toWordS.l0 k y0 y1 y2) (laws_toWordS.l0 (k + 1) y0 y1 y2))
  | 0 => fun _ _ _ r h => by simp [laws_toWordS.l0] at h
  | k + 1 => by
    have ih0 := laws_toWordS.mono_l k
    · intro y0 y1 y2
      unfold laws_toWordS.l0
      repeat' first
      | (with_reducible exact ih0 _ _ _)
      | (with_reducible exact LeO.refl _)
      | (with_reducible exact LeO.none _)
      | (with_reducible refine LeO.ite ?_ ?_)
      | (with_reducible refine LeO.bind ?_ (fun _ => ?_))
      | exact ih0 _ _ _
      | exact LeO.none _
      | refine LeO.ite ?_ ?_
      | refine LeO.bind ?_ (fun _ => ?_)
theorem laws_toWordS.mono : ∀ a0 k, LeO (laws_toWordS.f k a0) (laws_toWordS.f (k + 1) a0) := by
  intro a0 k
  have ih0 := laws_toWordS.mono_l k
  unfold laws_toWordS.f
  repeat' first
      | (with_reducible exact ih0 _ _ _)
      | (with_reducible exact LeO.refl _)
      | (with_reducible exact LeO.none _)
      | (with_reducible refine LeO.ite ?_ ?_)
      | (with_reducible refine LeO.bind ?_ (fun _ => ?_))
      | exact ih0 _ _ _
      | exact LeO.none _
      | refine LeO.ite ?_ ?_
      | refine LeO.bind ?_ (fun _ => ?_)
set_option maxHeartbeats 8000000 in
set_option maxRecDepth 100000 in
theorem laws_toWordS.calls (k : Nat) (A0 : Option Addr) (c0 : Nat) (l0 : List (S35)) (r : List (S39)) (w : World) (hr0 : Kd.C k35 w A0 l0.length l0) (hc0 : l0.length ≤ c0) (h : laws_toWordS.f k l0 = some r) :
    Calls Tryd.prog 19 #[.slice A0 l0.length c0] w fun e w' => ∃ v0_ : Value, e = .returned (v0_) ∧ Kd.R k39 39 w' w.heap.size (fun _ => True) v0_ r ∧ Below w.heap.size w w' := by
  have hu35 := Tryd.underlying35
  have hu39 := Tryd.underlying39
  have HR0 := Aside0.mk hr0
  have HC0 := Aside0.mk hc0
  clear hr0 hc0
  have HB := Aside0.mk (Below.refl w.heap.size w)
  have H : (if 0 ≤ (l0.length : Int) then (if ((l0.length : Int) : Int).toNat ≤ 8796093022208 then (laws_toWordS.l0 k l0 (List.replicate ((l0.length : Int) : Int).toNat z39) 0) else (none)) else (none)) = some r := h
  clear h
  by_cases c2 : 0 ≤ (l0.length : Int)
  · rw [if_pos c2] at H
    have c2b0 := eq_true c2
    have c2b1 : decide (0 ≤ (l0.length : Int)) = true := decide_eq_true c2
    clear c2
    by_cases c3 : ((l0.length : Int) : Int).toNat ≤ 8796093022208
    · rw [if_pos c3] at H
      have c3b0 := eq_true c3
      have c3b1 : decide (((l0.length : Int) : Int).toNat ≤ 8796093022208) = true := decide_eq_true c3
      clear c3
      obtain ⟨y119, hy119⟩ : ∃ y_ : List (S39), y_ = (List.replicate ((l0.length : Int) : Int).toNat z39) := ⟨_, rfl⟩
      replace H : (laws_toWordS.l0 k l0 y119 0) = some r := by first | (rw [hy119]; with_reducible exact H) | (have H2_ := (Option.bind_some _ _).symm.trans H; rw [hy119]; with_reducible exact H2_) | (have H2_ := (Option.bind_some _ _).symm.trans H; with_reducible exact H2_) | with_reducible exact H | (rw [hy119]; exact H) | exact H
      have Ny119 := Aside0.mk hy119
      clear hy119
      have H' := Aside0.mk H
      clear H
      go_enter Tryd.func19, Tryd.ntmps19
      go_wp2_with (first | ((with_reducible refine gate_dst (N := 7) rfl ?_); refine Kd.R_make k39 _ 39 rfl (N := 7) rfl 22 _ _ rfl (l0.length : Int) rfl rfl Tryd.underlying22 (.agg #[(.string ⟨#[]⟩), (.int .i64 0), (.int .i64 0)]) 32 info39 rfl (by decide) (by omega) z39 (ok := fun _ => True) (okp := fun _ => True) (k39_mkM _ _ _ z39 ) (fun _ hk => hk) trivial (of_decide_eq_true (by first | (with_reducible assumption) | assumption)) (Nat.le_trans (Nat.mul_le_mul_right _ (of_decide_eq_true (by first | (with_reducible assumption) | assumption) : (l0.length : Int).toNat ≤ 8796093022208)) (by omega)) (Below.refl _ _) (Nat.le_refl _) ?_; intro v120 w4 ho5 hb hg_ hnew_; clear hg_ hnew_; (first | rw [← Ny119.out] at ho5 | (simp only [Int.reduceToNat] at ho5; rw [← Ny119.out] at ho5)); have HO121 := Aside0.mk (Kd.R_lower ho5 (below_size (by repeat (first | (with_reducible first | exact HB.out | apply below_alloc | apply pw_below_drewN | apply below_drew1) | exact HB.out)))); replace HB := Aside0.mk (below_step (by repeat (first | (with_reducible first | exact HB.out | apply below_alloc | apply pw_below_drewN | apply below_drew1) | exact HB.out)) hb); clear hb ho5))
      go_loopg [4] k (fun kq v4 w' => ∃ (x3_1 : List (S39)) (x4_1 : Int), v4 = .int .i64 x4_1 ∧ Aside0 (laws_toWordS.l0 kq l0 x3_1 x4_1 = some r) ∧ Aside0 (kq ≤ k) ∧ Aside0 (Kd.R k39 39 w' w.heap.size (fun _ => True) v120 x3_1) ∧ Aside0 (Below w.heap.size w w'))
      case atStart => exact ⟨(y119), (0), (by first | rfl | (simp; done) | (simp [*]; done)), H', ⟨Nat.le_refl _⟩, ⟨by (with_reducible repeat (first | apply Kd.R_alloc | apply Kd.R_drewN | apply Kd.R_drew)); exact HO121.out⟩, ⟨by repeat (first | (with_reducible first | exact HB.out | apply below_alloc | apply pw_below_drewN | apply below_drew1) | exact HB.out)⟩⟩
      case round =>
        clear H'
        try clear c1
        try clear c2
        try clear c2b0
        try clear c2b1
        try clear p2
        try clear c3
        try clear c3b0
        try clear c3b1
        obtain ⟨x3_1, x4_1, rfl, HA, HK1, HO_3, HB⟩ := hrel
        cases gk with
        | zero => exact absurd HA.out (by simp [laws_toWordS.l0])
        | succ k1 =>
          have H := HA.out
          clear HA
          simp only [laws_toWordS.l0] at H
          by_cases c6 : x4_1 < (l0.length : Int)
          · rw [if_pos c6] at H
            have c6b0 : decide (x4_1 < (l0.length : Int)) = true := decide_eq_true c6
            clear c6
            by_cases c7 : 0 ≤ x4_1
            · rw [if_pos c7] at H
              have c7b0 : decide (0 ≤ x4_1) = true := decide_eq_true c7
              clear c7
              replace H := Option.bind_eq_some_iff.mp H
              obtain ⟨⟨t123, t124, t125⟩, A80, H⟩ := H
              replace H : (if x4_1 < (x3_1.length : Int) then (laws_toWordS.l0 k1 l0 (x3_1.set (x4_1 : Int).toNat (⟨t123, t124, t125⟩ : S39)) (wrap64 (x4_1 + 1))) else (none)) = some r := H
              have A8 := Aside0.mk A80
              clear A80
              by_cases c9 : x4_1 < (x3_1.length : Int)
              · rw [if_pos c9] at H
                have c9b0 : decide (x4_1 < (x3_1.length : Int)) = true := decide_eq_true c9
                clear c9
                obtain ⟨y126, hy126⟩ : ∃ y_ : List (S39), y_ = (x3_1.set (x4_1 : Int).toNat (⟨t123, t124, t125⟩ : S39)) := ⟨_, rfl⟩
                replace H : (laws_toWordS.l0 k1 l0 y126 (wrap64 (x4_1 + 1))) = some r := by first | (rw [hy126]; with_reducible exact H) | (have H2_ := (Option.bind_some _ _).symm.trans H; rw [hy126]; with_reducible exact H2_) | (have H2_ := (Option.bind_some _ _).symm.trans H; with_reducible exact H2_) | with_reducible exact H | (rw [hy126]; exact H) | exact H
                have Ny126 := Aside0.mk hy126
                clear hy126
                have H' := Aside0.mk H
                clear H
                have p122 : 0 ≤ (x4_1 : Int) := of_decide_eq_true (by first | (with_reducible assumption) | assumption)
                have q122 : x4_1 < (l0.length : Int) := of_decide_eq_true (by first | (with_reducible assumption) | assumption)
                obtain ⟨ad122, e122, hx122_0, hx122_1, hx122_2⟩ := at_T35 HR0.out x4_1 p122 q122
                cases e122
                replace hx122_0 := (HB.out.cell (World.block_lt_of_cell? w _ hx122_0)).trans hx122_0
                replace hx122_1 := (HB.out.cell (World.block_lt_of_cell? w _ hx122_1)).trans hx122_1
                replace hx122_2 := (HB.out.cell (World.block_lt_of_cell? w _ hx122_2)).trans hx122_2
                replace p122 := eq_true p122
                replace q122 := eq_true q122
                go_wp2_with (first | ((with_reducible refine gate_callee (f := 27) rfl ?_); refine goesL_ (some 20) rfl rfl Tryd.func27 (by kernel_rfl) rfl #[.agg #[.string ((rd_T35 l0 x4_1).f0), .int .i64 ((rd_T35 l0 x4_1).f1), .int .i64 ((rd_T35 l0 x4_1).f2)]] rfl (by (try simp only [List.map_toArray, List.map_cons, List.map_nil]); first | done | rfl | (simp only [List.length_drop, List.length_take]; rfl)) ?_; (with_reducible refine (laws_toWord.calls ((rd_T35 l0 x4_1).f0) ((rd_T35 l0 x4_1).f1) ((rd_T35 l0 x4_1).f2) t123 t124 t125 _ A8.out).mono ?_); rintro e w11 ⟨rfl, hb⟩; refine ⟨_, rfl, ?_⟩; replace HO_3 := Aside0.mk (Kd.R_below (by (with_reducible repeat (first | apply Kd.R_alloc | apply Kd.R_drewN | apply Kd.R_drew)); exact HO_3.out) hb); replace HB := Aside0.mk (below_step (by repeat (first | (with_reducible first | exact HB.out | apply below_alloc | apply pw_below_drewN | apply below_drew1) | exact HB.out)) hb); (try clear hb); (try clear hb2); (try clear hk); (try clear hi); have p10 : 0 ≤ (x4_1 : Int) := of_decide_eq_true (by first | (with_reducible assumption) | assumption); have q10 : (x4_1 : Int) < ((x3_1.length : Int) : Int) := of_decide_eq_true (by first | (with_reducible assumption) | assumption); obtain ⟨go10, co10, eo10, gb10, gl10, cl10, HG10⟩ := Kd.R_form HO_3.out (by omega); (first | cases eo10 | (injection eo10 with ea_ en_ ec_; (first | subst ea_ | (injection ea_ with ea_; subst ea_)); subst ec_; clear en_)); have GB10 := Aside0.mk gb10; have GG10 := Aside0.mk HG10; clear gb10 gl10 HG10; obtain ⟨ce10, hcl10, hM10, hcc10, hfr10⟩ := Kd.R_elem HO_3.out z39 (x4_1 : Int) p10 q10; obtain rfl := k39_openM hM10; have hx10_0 : w11.cell? ⟨go10, (x4_1 : Int).toNat * 3, none⟩ = some (.string ((rd_T39 x3_1 x4_1).f0)) := hcc10 0 _ rfl; have hx10_1 : w11.cell? ⟨go10, (x4_1 : Int).toNat * 3 + 1, none⟩ = some (.int .i64 ((rd_T39 x3_1 x4_1).f1)) := hcc10 1 _ rfl; have hx10_2 : w11.cell? ⟨go10, (x4_1 : Int).toNat * 3 + 2, none⟩ = some (.int .i64 ((rd_T39 x3_1 x4_1).f2)) := hcc10 2 _ rfl; have hf10_0 : w11.frozen? ⟨go10, (x4_1 : Int).toNat * 3, none⟩ = false := hfr10 0; have hf10_1 : w11.frozen? ⟨go10, (x4_1 : Int).toNat * 3 + 1, none⟩ = false := hfr10 1; have hf10_2 : w11.frozen? ⟨go10, (x4_1 : Int).toNat * 3 + 2, none⟩ = false := hfr10 2; clear hcl10 hcc10 hfr10 hM10; replace p10 := eq_true p10; replace q10 := eq_true q10; have HX12 := Aside0.mk (show Kd.R k39 39 w11 w.heap.size (fun _ => True) (.slice (some ⟨go10, 0, none⟩) x3_1.length co10) x3_1 from (by (with_reducible repeat (first | apply Kd.R_alloc | apply Kd.R_drewN | apply Kd.R_drew)); exact HO_3.out)); obtain ⟨ce12, hcl12, hM12, hcc12, hfr12⟩ := Kd.R_elem HX12.out z39 (x4_1 : Int) (of_decide_eq_true (by first | (with_reducible assumption) | assumption)) (by have h_ : (x4_1 : Int) < ((x3_1.length : Int) : Int) := of_decide_eq_true (by first | (with_reducible assumption) | assumption); first | exact h_ | (have e_ := (Kd.R_reads' HO_3.out).1; omega) | simpa using h_); obtain rfl := k39_openM hM12; have HP12 := Kd.R_seg HX12.out (x4_1 : Int) (of_decide_eq_true (by first | (with_reducible assumption) | assumption)) (by have h_ : (x4_1 : Int) < ((x3_1.length : Int) : Int) := of_decide_eq_true (by first | (with_reducible assumption) | assumption); first | exact h_ | (have e_ := (Kd.R_reads' HO_3.out).1; omega) | simpa using h_) (seg := [.string t123, .int .i64 t124, .int .i64 t125]) (j := 0) hcl12 hcc12 (show 3 ≤ 3 from by decide) (x' := (⟨t123, t124, t125⟩ : S39)) (k39_mkM _ _ _ (⟨t123, t124, t125⟩ : S39) ) (fun _ hk => hk); have hx12_0 := hcc12 0 _ rfl; (try simp only [show (k39).sz = 3 from rfl, Nat.mul_one, Nat.add_zero] at hx12_0); have hf12_0 := hfr12 0; (try simp only [show (k39).sz = 3 from rfl, Nat.mul_one, Nat.add_zero] at hf12_0); have hx12_1 := hcc12 1 _ rfl; (try simp only [show (k39).sz = 3 from rfl, Nat.mul_one, Nat.add_zero] at hx12_1); have hf12_1 := hfr12 1; (try simp only [show (k39).sz = 3 from rfl, Nat.mul_one, Nat.add_zero] at hf12_1); have hx12_2 := hcc12 2 _ rfl; (try simp only [show (k39).sz = 3 from rfl, Nat.mul_one, Nat.add_zero] at hx12_2); have hf12_2 := hfr12 2; (try simp only [show (k39).sz = 3 from rfl, Nat.mul_one, Nat.add_zero] at hf12_2); clear hcl12 hcc12 hfr12 hM12) | ((with_reducible refine gate_store (t := 39) (p := 21) rfl ?_); refine store_event (t := 39) (p := 21) (v := ?vo_w13) (w1 := (((w11.setCell ⟨go10, (x4_1 : Int).toNat * 3, none⟩ (.string t123)).setCell ⟨go10, (x4_1 : Int).toNat * 3 + 1, none⟩ (.int .i64 t124)).setCell ⟨go10, (x4_1 : Int).toNat * 3 + 2, none⟩ (.int .i64 t125))) ?hg ?ho ?hn ?hr ?_; (case ho => rfl); (case hg => rfl); (case hn => rfl); (case hr => first | (go_simp; done) | (go_simp; rfl)); intro w13 hw; have hg : w11.grownBy w13 (some go10) := (by rw [hw]; exact HP12.2); have hp_ : Kd.R k39 39 w13 w.heap.size (fun _ => True) (.slice (some ⟨go10, 0, none⟩) x3_1.length co10) y126 := (by rw [hw, Ny126.out]; exact HP12.1); clear HP12; replace HO_3 := Aside0.mk (hp_); replace HB := Aside0.mk ((by rw [hw]; exact below_set (below_set (below_set (HB.out) GB10.out) GB10.out) GB10.out : Below w.heap.size w w13)); clear hg hw hp_))
                go_roundg k1
                case measure => have := HK1.out; omega
                case rel => exact ⟨(y126), (wrap64 (x4_1 + 1)), (by first | rfl | (simp; done) | (simp [*]; done)), H', ⟨by have := HK1.out; omega⟩, ⟨by (with_reducible repeat (first | apply Kd.R_alloc | apply Kd.R_drewN | apply Kd.R_drew)); exact HO_3.out⟩, ⟨by repeat (first | (with_reducible first | exact HB.out | apply below_alloc | apply pw_below_drewN | apply below_drew1) | exact HB.out)⟩⟩
              · rw [if_neg c9] at H
                exact absurd H (by simp)
            · rw [if_neg c7] at H
              exact absurd H (by simp)
          · rw [if_neg c6] at H
            have c6b0 : decide (x4_1 < (l0.length : Int)) = false := decide_eq_false c6
            clear c6
            obtain rfl := Option.some.inj H
            go_wp2
            go_ret
            exact ⟨_, by first | rfl | (simp [errW_none, errW_some] <;> rfl) | (simp [*, errW_none, errW_some] <;> rfl), by (with_reducible repeat (first | apply Kd.R_alloc | apply Kd.R_drewN | apply Kd.R_drew)); exact HO_3.out, by repeat (first | (with_reducible first | exact HB.out | apply below_alloc | apply pw_below_drewN | apply below_drew1) | exact HB.out)⟩
    · rw [if_neg c3] at H
      exact absurd H (by simp)
  · rw [if_neg c2] at H
    exact absurd H (by simp)

/-! ### spec_l04Prims: function 90 -/
def spec_l04Prims.f  : Option (List ByteArray) := some (([(⟨#[68, 85, 80]⟩ : ByteArray), (⟨#[68, 82, 79, 80]⟩ : ByteArray), (⟨#[83, 87, 65, 80]⟩ : ByteArray), (⟨#[79, 86, 69, 82]⟩ : ByteArray), (⟨#[82, 79, 84]⟩ : ByteArray), (⟨#[78, 73, 80]⟩ : ByteArray), (⟨#[84, 85, 67, 75]⟩ : ByteArray), (⟨#[63, 68, 85, 80]⟩ : ByteArray), (⟨#[50, 68, 85, 80]⟩ : ByteArray), (⟨#[50, 68, 82, 79, 80]⟩ : ByteArray), (⟨#[68, 69, 80, 84, 72]⟩ : ByteArray), (⟨#[62, 82]⟩ : ByteArray), (⟨#[82, 62]⟩ : ByteArray), (⟨#[82, 64]⟩ : ByteArray), (⟨#[43]⟩ : ByteArray), (⟨#[45]⟩ : ByteArray), (⟨#[42]⟩ : ByteArray), (⟨#[47]⟩ : ByteArray), (⟨#[77, 79, 68]⟩ : ByteArray), (⟨#[65, 78, 68]⟩ : ByteArray), (⟨#[79, 82]⟩ : ByteArray), (⟨#[88, 79, 82]⟩ : ByteArray), (⟨#[76, 83, 72, 73, 70, 84]⟩ : ByteArray), (⟨#[82, 83, 72, 73, 70, 84]⟩ : ByteArray), (⟨#[78, 69, 71, 65, 84, 69]⟩ : ByteArray), (⟨#[65, 66, 83]⟩ : ByteArray), (⟨#[73, 78, 86, 69, 82, 84]⟩ : ByteArray), (⟨#[49, 43]⟩ : ByteArray), (⟨#[49, 45]⟩ : ByteArray), (⟨#[77, 73, 78]⟩ : ByteArray), (⟨#[77, 65, 88]⟩ : ByteArray), (⟨#[61]⟩ : ByteArray), (⟨#[60, 62]⟩ : ByteArray), (⟨#[60]⟩ : ByteArray), (⟨#[62]⟩ : ByteArray), (⟨#[85, 60]⟩ : ByteArray), (⟨#[48, 61]⟩ : ByteArray), (⟨#[48, 60]⟩ : ByteArray), (⟨#[64]⟩ : ByteArray), (⟨#[33]⟩ : ByteArray), (⟨#[43, 33]⟩ : ByteArray), (⟨#[72, 69, 82, 69]⟩ : ByteArray), (⟨#[65, 76, 76, 79, 84]⟩ : ByteArray), (⟨#[44]⟩ : ByteArray), (⟨#[69, 77, 73, 84]⟩ : ByteArray), (⟨#[46]⟩ : ByteArray), (⟨#[67, 82]⟩ : ByteArray), (⟨#[83, 80, 65, 67, 69]⟩ : ByteArray), (⟨#[68, 69, 67, 73, 77, 65, 76]⟩ : ByteArray), (⟨#[72, 69, 88]⟩ : ByteArray), (⟨#[73]⟩ : ByteArray), (⟨#[85, 78, 76, 79, 79, 80]⟩ : ByteArray)] : List ByteArray))
set_option maxHeartbeats 8000000 in
set_option maxRecDepth 100000 in
theorem spec_l04Prims.calls  (r : List ByteArray) (w : World) (h : spec_l04Prims.f  = some r) :
    Calls Tryd.prog 90 #[] w fun e w' => ∃ v0_ : Value, e = .returned (v0_) ∧ Kd.R Kd.string 9 w' w.heap.size (fun _ => True) v0_ r ∧ Below w.heap.size w w' := by
  have HB := Aside0.mk (Below.refl w.heap.size w)
  have H : (some (([(⟨#[68, 85, 80]⟩ : ByteArray), (⟨#[68, 82, 79, 80]⟩ : ByteArray), (⟨#[83, 87, 65, 80]⟩ : ByteArray), (⟨#[79, 86, 69, 82]⟩ : ByteArray), (⟨#[82, 79, 84]⟩ : ByteArray), (⟨#[78, 73, 80]⟩ : ByteArray), (⟨#[84, 85, 67, 75]⟩ : ByteArray), (⟨#[63, 68, 85, 80]⟩ : ByteArray), (⟨#[50, 68, 85, 80]⟩ : ByteArray), (⟨#[50, 68, 82, 79, 80]⟩ : ByteArray), (⟨#[68, 69, 80, 84, 72]⟩ : ByteArray), (⟨#[62, 82]⟩ : ByteArray), (⟨#[82, 62]⟩ : ByteArray), (⟨#[82, 64]⟩ : ByteArray), (⟨#[43]⟩ : ByteArray), (⟨#[45]⟩ : ByteArray), (⟨#[42]⟩ : ByteArray), (⟨#[47]⟩ : ByteArray), (⟨#[77, 79, 68]⟩ : ByteArray), (⟨#[65, 78, 68]⟩ : ByteArray), (⟨#[79, 82]⟩ : ByteArray), (⟨#[88, 79, 82]⟩ : ByteArray), (⟨#[76, 83, 72, 73, 70, 84]⟩ : ByteArray), (⟨#[82, 83, 72, 73, 70, 84]⟩ : ByteArray), (⟨#[78, 69, 71, 65, 84, 69]⟩ : ByteArray), (⟨#[65, 66, 83]⟩ : ByteArray), (⟨#[73, 78, 86, 69, 82, 84]⟩ : ByteArray), (⟨#[49, 43]⟩ : ByteArray), (⟨#[49, 45]⟩ : ByteArray), (⟨#[77, 73, 78]⟩ : ByteArray), (⟨#[77, 65, 88]⟩ : ByteArray), (⟨#[61]⟩ : ByteArray), (⟨#[60, 62]⟩ : ByteArray), (⟨#[60]⟩ : ByteArray), (⟨#[62]⟩ : ByteArray), (⟨#[85, 60]⟩ : ByteArray), (⟨#[48, 61]⟩ : ByteArray), (⟨#[48, 60]⟩ : ByteArray), (⟨#[64]⟩ : ByteArray), (⟨#[33]⟩ : ByteArray), (⟨#[43, 33]⟩ : ByteArray), (⟨#[72, 69, 82, 69]⟩ : ByteArray), (⟨#[65, 76, 76, 79, 84]⟩ : ByteArray), (⟨#[44]⟩ : ByteArray), (⟨#[69, 77, 73, 84]⟩ : ByteArray), (⟨#[46]⟩ : ByteArray), (⟨#[67, 82]⟩ : ByteArray), (⟨#[83, 80, 65, 67, 69]⟩ : ByteArray), (⟨#[68, 69, 67, 73, 77, 65, 76]⟩ : ByteArray), (⟨#[72, 69, 88]⟩ : ByteArray), (⟨#[73]⟩ : ByteArray), (⟨#[85, 78, 76, 79, 79, 80]⟩ : ByteArray)] : List ByteArray))) = some r := h
  clear h
  obtain ⟨y127, hy127⟩ : ∃ y_ : List ByteArray, y_ = (([(⟨#[68, 85, 80]⟩ : ByteArray), (⟨#[68, 82, 79, 80]⟩ : ByteArray), (⟨#[83, 87, 65, 80]⟩ : ByteArray), (⟨#[79, 86, 69, 82]⟩ : ByteArray), (⟨#[82, 79, 84]⟩ : ByteArray), (⟨#[78, 73, 80]⟩ : ByteArray), (⟨#[84, 85, 67, 75]⟩ : ByteArray), (⟨#[63, 68, 85, 80]⟩ : ByteArray), (⟨#[50, 68, 85, 80]⟩ : ByteArray), (⟨#[50, 68, 82, 79, 80]⟩ : ByteArray), (⟨#[68, 69, 80, 84, 72]⟩ : ByteArray), (⟨#[62, 82]⟩ : ByteArray), (⟨#[82, 62]⟩ : ByteArray), (⟨#[82, 64]⟩ : ByteArray), (⟨#[43]⟩ : ByteArray), (⟨#[45]⟩ : ByteArray), (⟨#[42]⟩ : ByteArray), (⟨#[47]⟩ : ByteArray), (⟨#[77, 79, 68]⟩ : ByteArray), (⟨#[65, 78, 68]⟩ : ByteArray), (⟨#[79, 82]⟩ : ByteArray), (⟨#[88, 79, 82]⟩ : ByteArray), (⟨#[76, 83, 72, 73, 70, 84]⟩ : ByteArray), (⟨#[82, 83, 72, 73, 70, 84]⟩ : ByteArray), (⟨#[78, 69, 71, 65, 84, 69]⟩ : ByteArray), (⟨#[65, 66, 83]⟩ : ByteArray), (⟨#[73, 78, 86, 69, 82, 84]⟩ : ByteArray), (⟨#[49, 43]⟩ : ByteArray), (⟨#[49, 45]⟩ : ByteArray), (⟨#[77, 73, 78]⟩ : ByteArray), (⟨#[77, 65, 88]⟩ : ByteArray), (⟨#[61]⟩ : ByteArray), (⟨#[60, 62]⟩ : ByteArray), (⟨#[60]⟩ : ByteArray), (⟨#[62]⟩ : ByteArray), (⟨#[85, 60]⟩ : ByteArray), (⟨#[48, 61]⟩ : ByteArray), (⟨#[48, 60]⟩ : ByteArray), (⟨#[64]⟩ : ByteArray), (⟨#[33]⟩ : ByteArray), (⟨#[43, 33]⟩ : ByteArray), (⟨#[72, 69, 82, 69]⟩ : ByteArray), (⟨#[65, 76, 76, 79, 84]⟩ : ByteArray), (⟨#[44]⟩ : ByteArray), (⟨#[69, 77, 73, 84]⟩ : ByteArray), (⟨#[46]⟩ : ByteArray), (⟨#[67, 82]⟩ : ByteArray), (⟨#[83, 80, 65, 67, 69]⟩ : ByteArray), (⟨#[68, 69, 67, 73, 77, 65, 76]⟩ : ByteArray), (⟨#[72, 69, 88]⟩ : ByteArray), (⟨#[73]⟩ : ByteArray), (⟨#[85, 78, 76, 79, 79, 80]⟩ : ByteArray)] : List ByteArray)) := ⟨_, rfl⟩
  replace H : (some y127) = some r := by first | (rw [hy127]; with_reducible exact H) | (have H2_ := (Option.bind_some _ _).symm.trans H; rw [hy127]; with_reducible exact H2_) | (have H2_ := (Option.bind_some _ _).symm.trans H; with_reducible exact H2_) | with_reducible exact H | (rw [hy127]; exact H) | exact H
  have Ny127 := Aside0.mk hy127
  clear hy127
  obtain rfl := Option.some.inj H
  go_enter Tryd.func90, Tryd.ntmps90
  go_wp2_with (first | ((with_reducible refine gate_dst (N := 1) rfl ?_); refine Kd.R_lit Kd.string _ 9 ?hg (N := 1) ?hd (xs := ([(⟨#[68, 85, 80]⟩ : ByteArray), (⟨#[68, 82, 79, 80]⟩ : ByteArray), (⟨#[83, 87, 65, 80]⟩ : ByteArray), (⟨#[79, 86, 69, 82]⟩ : ByteArray), (⟨#[82, 79, 84]⟩ : ByteArray), (⟨#[78, 73, 80]⟩ : ByteArray), (⟨#[84, 85, 67, 75]⟩ : ByteArray), (⟨#[63, 68, 85, 80]⟩ : ByteArray), (⟨#[50, 68, 85, 80]⟩ : ByteArray), (⟨#[50, 68, 82, 79, 80]⟩ : ByteArray), (⟨#[68, 69, 80, 84, 72]⟩ : ByteArray), (⟨#[62, 82]⟩ : ByteArray), (⟨#[82, 62]⟩ : ByteArray), (⟨#[82, 64]⟩ : ByteArray), (⟨#[43]⟩ : ByteArray), (⟨#[45]⟩ : ByteArray), (⟨#[42]⟩ : ByteArray), (⟨#[47]⟩ : ByteArray), (⟨#[77, 79, 68]⟩ : ByteArray), (⟨#[65, 78, 68]⟩ : ByteArray), (⟨#[79, 82]⟩ : ByteArray), (⟨#[88, 79, 82]⟩ : ByteArray), (⟨#[76, 83, 72, 73, 70, 84]⟩ : ByteArray), (⟨#[82, 83, 72, 73, 70, 84]⟩ : ByteArray), (⟨#[78, 69, 71, 65, 84, 69]⟩ : ByteArray), (⟨#[65, 66, 83]⟩ : ByteArray), (⟨#[73, 78, 86, 69, 82, 84]⟩ : ByteArray), (⟨#[49, 43]⟩ : ByteArray), (⟨#[49, 45]⟩ : ByteArray), (⟨#[77, 73, 78]⟩ : ByteArray), (⟨#[77, 65, 88]⟩ : ByteArray), (⟨#[61]⟩ : ByteArray), (⟨#[60, 62]⟩ : ByteArray), (⟨#[60]⟩ : ByteArray), (⟨#[62]⟩ : ByteArray), (⟨#[85, 60]⟩ : ByteArray), (⟨#[48, 61]⟩ : ByteArray), (⟨#[48, 60]⟩ : ByteArray), (⟨#[64]⟩ : ByteArray), (⟨#[33]⟩ : ByteArray), (⟨#[43, 33]⟩ : ByteArray), (⟨#[72, 69, 82, 69]⟩ : ByteArray), (⟨#[65, 76, 76, 79, 84]⟩ : ByteArray), (⟨#[44]⟩ : ByteArray), (⟨#[69, 77, 73, 84]⟩ : ByteArray), (⟨#[46]⟩ : ByteArray), (⟨#[67, 82]⟩ : ByteArray), (⟨#[83, 80, 65, 67, 69]⟩ : ByteArray), (⟨#[68, 69, 67, 73, 77, 65, 76]⟩ : ByteArray), (⟨#[72, 69, 88]⟩ : ByteArray), (⟨#[73]⟩ : ByteArray), (⟨#[85, 78, 76, 79, 79, 80]⟩ : ByteArray)] : List ByteArray)) (inner := [.string (⟨#[68, 85, 80]⟩ : ByteArray), .string (⟨#[68, 82, 79, 80]⟩ : ByteArray), .string (⟨#[83, 87, 65, 80]⟩ : ByteArray), .string (⟨#[79, 86, 69, 82]⟩ : ByteArray), .string (⟨#[82, 79, 84]⟩ : ByteArray), .string (⟨#[78, 73, 80]⟩ : ByteArray), .string (⟨#[84, 85, 67, 75]⟩ : ByteArray), .string (⟨#[63, 68, 85, 80]⟩ : ByteArray), .string (⟨#[50, 68, 85, 80]⟩ : ByteArray), .string (⟨#[50, 68, 82, 79, 80]⟩ : ByteArray), .string (⟨#[68, 69, 80, 84, 72]⟩ : ByteArray), .string (⟨#[62, 82]⟩ : ByteArray), .string (⟨#[82, 62]⟩ : ByteArray), .string (⟨#[82, 64]⟩ : ByteArray), .string (⟨#[43]⟩ : ByteArray), .string (⟨#[45]⟩ : ByteArray), .string (⟨#[42]⟩ : ByteArray), .string (⟨#[47]⟩ : ByteArray), .string (⟨#[77, 79, 68]⟩ : ByteArray), .string (⟨#[65, 78, 68]⟩ : ByteArray), .string (⟨#[79, 82]⟩ : ByteArray), .string (⟨#[88, 79, 82]⟩ : ByteArray), .string (⟨#[76, 83, 72, 73, 70, 84]⟩ : ByteArray), .string (⟨#[82, 83, 72, 73, 70, 84]⟩ : ByteArray), .string (⟨#[78, 69, 71, 65, 84, 69]⟩ : ByteArray), .string (⟨#[65, 66, 83]⟩ : ByteArray), .string (⟨#[73, 78, 86, 69, 82, 84]⟩ : ByteArray), .string (⟨#[49, 43]⟩ : ByteArray), .string (⟨#[49, 45]⟩ : ByteArray), .string (⟨#[77, 73, 78]⟩ : ByteArray), .string (⟨#[77, 65, 88]⟩ : ByteArray), .string (⟨#[61]⟩ : ByteArray), .string (⟨#[60, 62]⟩ : ByteArray), .string (⟨#[60]⟩ : ByteArray), .string (⟨#[62]⟩ : ByteArray), .string (⟨#[85, 60]⟩ : ByteArray), .string (⟨#[48, 61]⟩ : ByteArray), .string (⟨#[48, 60]⟩ : ByteArray), .string (⟨#[64]⟩ : ByteArray), .string (⟨#[33]⟩ : ByteArray), .string (⟨#[43, 33]⟩ : ByteArray), .string (⟨#[72, 69, 82, 69]⟩ : ByteArray), .string (⟨#[65, 76, 76, 79, 84]⟩ : ByteArray), .string (⟨#[44]⟩ : ByteArray), .string (⟨#[69, 77, 73, 84]⟩ : ByteArray), .string (⟨#[46]⟩ : ByteArray), .string (⟨#[67, 82]⟩ : ByteArray), .string (⟨#[83, 80, 65, 67, 69]⟩ : ByteArray), .string (⟨#[68, 69, 67, 73, 77, 65, 76]⟩ : ByteArray), .string (⟨#[72, 69, 88]⟩ : ByteArray), .string (⟨#[73]⟩ : ByteArray), .string (⟨#[85, 78, 76, 79, 79, 80]⟩ : ByteArray)]) (ok := fun _ => True) (okp := fun _ => True) ?hr ?hp (fun _ hk => hk) trivial (Below.refl _ _) (Nat.le_refl _) (by simp) ?_; (case hd => rfl); (case hg => rfl); (case hr => first | (go_simp; done) | (go_simp; rfl)); (case hp => exact (Reps.one (show Kd.M Kd.string _ _ _ (⟨#[68, 85, 80]⟩ : ByteArray) [.string (⟨#[68, 85, 80]⟩ : ByteArray)] from rfl) (Reps.one (show Kd.M Kd.string _ _ _ (⟨#[68, 82, 79, 80]⟩ : ByteArray) [.string (⟨#[68, 82, 79, 80]⟩ : ByteArray)] from rfl) (Reps.one (show Kd.M Kd.string _ _ _ (⟨#[83, 87, 65, 80]⟩ : ByteArray) [.string (⟨#[83, 87, 65, 80]⟩ : ByteArray)] from rfl) (Reps.one (show Kd.M Kd.string _ _ _ (⟨#[79, 86, 69, 82]⟩ : ByteArray) [.string (⟨#[79, 86, 69, 82]⟩ : ByteArray)] from rfl) (Reps.one (show Kd.M Kd.string _ _ _ (⟨#[82, 79, 84]⟩ : ByteArray) [.string (⟨#[82, 79, 84]⟩ : ByteArray)] from rfl) (Reps.one (show Kd.M Kd.string _ _ _ (⟨#[78, 73, 80]⟩ : ByteArray) [.string (⟨#[78, 73, 80]⟩ : ByteArray)] from rfl) (Reps.one (show Kd.M Kd.string _ _ _ (⟨#[84, 85, 67, 75]⟩ : ByteArray) [.string (⟨#[84, 85, 67, 75]⟩ : ByteArray)] from rfl) (Reps.one (show Kd.M Kd.string _ _ _ (⟨#[63, 68, 85, 80]⟩ : ByteArray) [.string (⟨#[63, 68, 85, 80]⟩ : ByteArray)] from rfl) (Reps.one (show Kd.M Kd.string _ _ _ (⟨#[50, 68, 85, 80]⟩ : ByteArray) [.string (⟨#[50, 68, 85, 80]⟩ : ByteArray)] from rfl) (Reps.one (show Kd.M Kd.string _ _ _ (⟨#[50, 68, 82, 79, 80]⟩ : ByteArray) [.string (⟨#[50, 68, 82, 79, 80]⟩ : ByteArray)] from rfl) (Reps.one (show Kd.M Kd.string _ _ _ (⟨#[68, 69, 80, 84, 72]⟩ : ByteArray) [.string (⟨#[68, 69, 80, 84, 72]⟩ : ByteArray)] from rfl) (Reps.one (show Kd.M Kd.string _ _ _ (⟨#[62, 82]⟩ : ByteArray) [.string (⟨#[62, 82]⟩ : ByteArray)] from rfl) (Reps.one (show Kd.M Kd.string _ _ _ (⟨#[82, 62]⟩ : ByteArray) [.string (⟨#[82, 62]⟩ : ByteArray)] from rfl) (Reps.one (show Kd.M Kd.string _ _ _ (⟨#[82, 64]⟩ : ByteArray) [.string (⟨#[82, 64]⟩ : ByteArray)] from rfl) (Reps.one (show Kd.M Kd.string _ _ _ (⟨#[43]⟩ : ByteArray) [.string (⟨#[43]⟩ : ByteArray)] from rfl) (Reps.one (show Kd.M Kd.string _ _ _ (⟨#[45]⟩ : ByteArray) [.string (⟨#[45]⟩ : ByteArray)] from rfl) (Reps.one (show Kd.M Kd.string _ _ _ (⟨#[42]⟩ : ByteArray) [.string (⟨#[42]⟩ : ByteArray)] from rfl) (Reps.one (show Kd.M Kd.string _ _ _ (⟨#[47]⟩ : ByteArray) [.string (⟨#[47]⟩ : ByteArray)] from rfl) (Reps.one (show Kd.M Kd.string _ _ _ (⟨#[77, 79, 68]⟩ : ByteArray) [.string (⟨#[77, 79, 68]⟩ : ByteArray)] from rfl) (Reps.one (show Kd.M Kd.string _ _ _ (⟨#[65, 78, 68]⟩ : ByteArray) [.string (⟨#[65, 78, 68]⟩ : ByteArray)] from rfl) (Reps.one (show Kd.M Kd.string _ _ _ (⟨#[79, 82]⟩ : ByteArray) [.string (⟨#[79, 82]⟩ : ByteArray)] from rfl) (Reps.one (show Kd.M Kd.string _ _ _ (⟨#[88, 79, 82]⟩ : ByteArray) [.string (⟨#[88, 79, 82]⟩ : ByteArray)] from rfl) (Reps.one (show Kd.M Kd.string _ _ _ (⟨#[76, 83, 72, 73, 70, 84]⟩ : ByteArray) [.string (⟨#[76, 83, 72, 73, 70, 84]⟩ : ByteArray)] from rfl) (Reps.one (show Kd.M Kd.string _ _ _ (⟨#[82, 83, 72, 73, 70, 84]⟩ : ByteArray) [.string (⟨#[82, 83, 72, 73, 70, 84]⟩ : ByteArray)] from rfl) (Reps.one (show Kd.M Kd.string _ _ _ (⟨#[78, 69, 71, 65, 84, 69]⟩ : ByteArray) [.string (⟨#[78, 69, 71, 65, 84, 69]⟩ : ByteArray)] from rfl) (Reps.one (show Kd.M Kd.string _ _ _ (⟨#[65, 66, 83]⟩ : ByteArray) [.string (⟨#[65, 66, 83]⟩ : ByteArray)] from rfl) (Reps.one (show Kd.M Kd.string _ _ _ (⟨#[73, 78, 86, 69, 82, 84]⟩ : ByteArray) [.string (⟨#[73, 78, 86, 69, 82, 84]⟩ : ByteArray)] from rfl) (Reps.one (show Kd.M Kd.string _ _ _ (⟨#[49, 43]⟩ : ByteArray) [.string (⟨#[49, 43]⟩ : ByteArray)] from rfl) (Reps.one (show Kd.M Kd.string _ _ _ (⟨#[49, 45]⟩ : ByteArray) [.string (⟨#[49, 45]⟩ : ByteArray)] from rfl) (Reps.one (show Kd.M Kd.string _ _ _ (⟨#[77, 73, 78]⟩ : ByteArray) [.string (⟨#[77, 73, 78]⟩ : ByteArray)] from rfl) (Reps.one (show Kd.M Kd.string _ _ _ (⟨#[77, 65, 88]⟩ : ByteArray) [.string (⟨#[77, 65, 88]⟩ : ByteArray)] from rfl) (Reps.one (show Kd.M Kd.string _ _ _ (⟨#[61]⟩ : ByteArray) [.string (⟨#[61]⟩ : ByteArray)] from rfl) (Reps.one (show Kd.M Kd.string _ _ _ (⟨#[60, 62]⟩ : ByteArray) [.string (⟨#[60, 62]⟩ : ByteArray)] from rfl) (Reps.one (show Kd.M Kd.string _ _ _ (⟨#[60]⟩ : ByteArray) [.string (⟨#[60]⟩ : ByteArray)] from rfl) (Reps.one (show Kd.M Kd.string _ _ _ (⟨#[62]⟩ : ByteArray) [.string (⟨#[62]⟩ : ByteArray)] from rfl) (Reps.one (show Kd.M Kd.string _ _ _ (⟨#[85, 60]⟩ : ByteArray) [.string (⟨#[85, 60]⟩ : ByteArray)] from rfl) (Reps.one (show Kd.M Kd.string _ _ _ (⟨#[48, 61]⟩ : ByteArray) [.string (⟨#[48, 61]⟩ : ByteArray)] from rfl) (Reps.one (show Kd.M Kd.string _ _ _ (⟨#[48, 60]⟩ : ByteArray) [.string (⟨#[48, 60]⟩ : ByteArray)] from rfl) (Reps.one (show Kd.M Kd.string _ _ _ (⟨#[64]⟩ : ByteArray) [.string (⟨#[64]⟩ : ByteArray)] from rfl) (Reps.one (show Kd.M Kd.string _ _ _ (⟨#[33]⟩ : ByteArray) [.string (⟨#[33]⟩ : ByteArray)] from rfl) (Reps.one (show Kd.M Kd.string _ _ _ (⟨#[43, 33]⟩ : ByteArray) [.string (⟨#[43, 33]⟩ : ByteArray)] from rfl) (Reps.one (show Kd.M Kd.string _ _ _ (⟨#[72, 69, 82, 69]⟩ : ByteArray) [.string (⟨#[72, 69, 82, 69]⟩ : ByteArray)] from rfl) (Reps.one (show Kd.M Kd.string _ _ _ (⟨#[65, 76, 76, 79, 84]⟩ : ByteArray) [.string (⟨#[65, 76, 76, 79, 84]⟩ : ByteArray)] from rfl) (Reps.one (show Kd.M Kd.string _ _ _ (⟨#[44]⟩ : ByteArray) [.string (⟨#[44]⟩ : ByteArray)] from rfl) (Reps.one (show Kd.M Kd.string _ _ _ (⟨#[69, 77, 73, 84]⟩ : ByteArray) [.string (⟨#[69, 77, 73, 84]⟩ : ByteArray)] from rfl) (Reps.one (show Kd.M Kd.string _ _ _ (⟨#[46]⟩ : ByteArray) [.string (⟨#[46]⟩ : ByteArray)] from rfl) (Reps.one (show Kd.M Kd.string _ _ _ (⟨#[67, 82]⟩ : ByteArray) [.string (⟨#[67, 82]⟩ : ByteArray)] from rfl) (Reps.one (show Kd.M Kd.string _ _ _ (⟨#[83, 80, 65, 67, 69]⟩ : ByteArray) [.string (⟨#[83, 80, 65, 67, 69]⟩ : ByteArray)] from rfl) (Reps.one (show Kd.M Kd.string _ _ _ (⟨#[68, 69, 67, 73, 77, 65, 76]⟩ : ByteArray) [.string (⟨#[68, 69, 67, 73, 77, 65, 76]⟩ : ByteArray)] from rfl) (Reps.one (show Kd.M Kd.string _ _ _ (⟨#[72, 69, 88]⟩ : ByteArray) [.string (⟨#[72, 69, 88]⟩ : ByteArray)] from rfl) (Reps.one (show Kd.M Kd.string _ _ _ (⟨#[73]⟩ : ByteArray) [.string (⟨#[73]⟩ : ByteArray)] from rfl) (Reps.one (show Kd.M Kd.string _ _ _ (⟨#[85, 78, 76, 79, 79, 80]⟩ : ByteArray) [.string (⟨#[85, 78, 76, 79, 79, 80]⟩ : ByteArray)] from rfl) (Reps.none _ _)))))))))))))))))))))))))))))))))))))))))))))))))))))); intro v128 w1 ho2 hb hg_ hnew_; clear hg_ hnew_; (first | rw [← Ny127.out] at ho2 | (simp only [Int.reduceToNat] at ho2; rw [← Ny127.out] at ho2)); have HO129 := Aside0.mk (Kd.R_lower ho2 (below_size (by repeat (first | (with_reducible first | exact HB.out | apply below_alloc | apply pw_below_drewN | apply below_drew1) | exact HB.out)))); replace HB := Aside0.mk (below_step (by repeat (first | (with_reducible first | exact HB.out | apply below_alloc | apply pw_below_drewN | apply below_drew1) | exact HB.out)) hb); clear hb ho2))
  go_ret
  exact ⟨_, by first | rfl | (simp [errW_none, errW_some] <;> rfl) | (simp [*, errW_none, errW_some] <;> rfl), by (with_reducible repeat (first | apply Kd.R_alloc | apply Kd.R_drewN | apply Kd.R_drew)); exact HO129.out, by repeat (first | (with_reducible first | exact HB.out | apply below_alloc | apply pw_below_drewN | apply below_drew1) | exact HB.out)⟩

/-! ### spec_l04Flows: function 91 -/
def spec_l04Flows.f  : Option (List ByteArray) := some (([(⟨#[69, 88, 73, 84]⟩ : ByteArray), (⟨#[69, 88, 69, 67, 85, 84, 69]⟩ : ByteArray), (⟨#[67, 65, 84, 67, 72]⟩ : ByteArray), (⟨#[84, 72, 82, 79, 87]⟩ : ByteArray)] : List ByteArray))
set_option maxHeartbeats 8000000 in
set_option maxRecDepth 100000 in
theorem spec_l04Flows.calls  (r : List ByteArray) (w : World) (h : spec_l04Flows.f  = some r) :
    Calls Tryd.prog 91 #[] w fun e w' => ∃ v0_ : Value, e = .returned (v0_) ∧ Kd.R Kd.string 9 w' w.heap.size (fun _ => True) v0_ r ∧ Below w.heap.size w w' := by
  have HB := Aside0.mk (Below.refl w.heap.size w)
  have H : (some (([(⟨#[69, 88, 73, 84]⟩ : ByteArray), (⟨#[69, 88, 69, 67, 85, 84, 69]⟩ : ByteArray), (⟨#[67, 65, 84, 67, 72]⟩ : ByteArray), (⟨#[84, 72, 82, 79, 87]⟩ : ByteArray)] : List ByteArray))) = some r := h
  clear h
  obtain ⟨y130, hy130⟩ : ∃ y_ : List ByteArray, y_ = (([(⟨#[69, 88, 73, 84]⟩ : ByteArray), (⟨#[69, 88, 69, 67, 85, 84, 69]⟩ : ByteArray), (⟨#[67, 65, 84, 67, 72]⟩ : ByteArray), (⟨#[84, 72, 82, 79, 87]⟩ : ByteArray)] : List ByteArray)) := ⟨_, rfl⟩
  replace H : (some y130) = some r := by first | (rw [hy130]; with_reducible exact H) | (have H2_ := (Option.bind_some _ _).symm.trans H; rw [hy130]; with_reducible exact H2_) | (have H2_ := (Option.bind_some _ _).symm.trans H; with_reducible exact H2_) | with_reducible exact H | (rw [hy130]; exact H) | exact H
  have Ny130 := Aside0.mk hy130
  clear hy130
  obtain rfl := Option.some.inj H
  go_enter Tryd.func91, Tryd.ntmps91
  go_wp2_with (first | ((with_reducible refine gate_dst (N := 1) rfl ?_); refine Kd.R_lit Kd.string _ 9 ?hg (N := 1) ?hd (xs := ([(⟨#[69, 88, 73, 84]⟩ : ByteArray), (⟨#[69, 88, 69, 67, 85, 84, 69]⟩ : ByteArray), (⟨#[67, 65, 84, 67, 72]⟩ : ByteArray), (⟨#[84, 72, 82, 79, 87]⟩ : ByteArray)] : List ByteArray)) (inner := [.string (⟨#[69, 88, 73, 84]⟩ : ByteArray), .string (⟨#[69, 88, 69, 67, 85, 84, 69]⟩ : ByteArray), .string (⟨#[67, 65, 84, 67, 72]⟩ : ByteArray), .string (⟨#[84, 72, 82, 79, 87]⟩ : ByteArray)]) (ok := fun _ => True) (okp := fun _ => True) ?hr ?hp (fun _ hk => hk) trivial (Below.refl _ _) (Nat.le_refl _) (by simp) ?_; (case hd => rfl); (case hg => rfl); (case hr => first | (go_simp; done) | (go_simp; rfl)); (case hp => exact (Reps.one (show Kd.M Kd.string _ _ _ (⟨#[69, 88, 73, 84]⟩ : ByteArray) [.string (⟨#[69, 88, 73, 84]⟩ : ByteArray)] from rfl) (Reps.one (show Kd.M Kd.string _ _ _ (⟨#[69, 88, 69, 67, 85, 84, 69]⟩ : ByteArray) [.string (⟨#[69, 88, 69, 67, 85, 84, 69]⟩ : ByteArray)] from rfl) (Reps.one (show Kd.M Kd.string _ _ _ (⟨#[67, 65, 84, 67, 72]⟩ : ByteArray) [.string (⟨#[67, 65, 84, 67, 72]⟩ : ByteArray)] from rfl) (Reps.one (show Kd.M Kd.string _ _ _ (⟨#[84, 72, 82, 79, 87]⟩ : ByteArray) [.string (⟨#[84, 72, 82, 79, 87]⟩ : ByteArray)] from rfl) (Reps.none _ _)))))); intro v131 w1 ho2 hb hg_ hnew_; clear hg_ hnew_; (first | rw [← Ny130.out] at ho2 | (simp only [Int.reduceToNat] at ho2; rw [← Ny130.out] at ho2)); have HO132 := Aside0.mk (Kd.R_lower ho2 (below_size (by repeat (first | (with_reducible first | exact HB.out | apply below_alloc | apply pw_below_drewN | apply below_drew1) | exact HB.out)))); replace HB := Aside0.mk (below_step (by repeat (first | (with_reducible first | exact HB.out | apply below_alloc | apply pw_below_drewN | apply below_drew1) | exact HB.out)) hb); clear hb ho2))
  go_ret
  exact ⟨_, by first | rfl | (simp [errW_none, errW_some] <;> rfl) | (simp [*, errW_none, errW_some] <;> rfl), by (with_reducible repeat (first | apply Kd.R_alloc | apply Kd.R_drewN | apply Kd.R_drew)); exact HO132.out, by repeat (first | (with_reducible first | exact HB.out | apply below_alloc | apply pw_below_drewN | apply below_drew1) | exact HB.out)⟩

/-! ### spec_l04Inners: function 92 -/
def spec_l04Inners.f  : Option (List ByteArray) := some (([(⟨#[40, 76, 73, 84, 41]⟩ : ByteArray), (⟨#[40, 66, 82, 65, 78, 67, 72, 41]⟩ : ByteArray), (⟨#[40, 48, 66, 82, 65, 78, 67, 72, 41]⟩ : ByteArray), (⟨#[40, 68, 79, 41]⟩ : ByteArray), (⟨#[40, 76, 79, 79, 80, 41]⟩ : ByteArray), (⟨#[40, 43, 76, 79, 79, 80, 41]⟩ : ByteArray)] : List ByteArray))
set_option maxHeartbeats 8000000 in
set_option maxRecDepth 100000 in
theorem spec_l04Inners.calls  (r : List ByteArray) (w : World) (h : spec_l04Inners.f  = some r) :
    Calls Tryd.prog 92 #[] w fun e w' => ∃ v0_ : Value, e = .returned (v0_) ∧ Kd.R Kd.string 9 w' w.heap.size (fun _ => True) v0_ r ∧ Below w.heap.size w w' := by
  have HB := Aside0.mk (Below.refl w.heap.size w)
  have H : (some (([(⟨#[40, 76, 73, 84, 41]⟩ : ByteArray), (⟨#[40, 66, 82, 65, 78, 67, 72, 41]⟩ : ByteArray), (⟨#[40, 48, 66, 82, 65, 78, 67, 72, 41]⟩ : ByteArray), (⟨#[40, 68, 79, 41]⟩ : ByteArray), (⟨#[40, 76, 79, 79, 80, 41]⟩ : ByteArray), (⟨#[40, 43, 76, 79, 79, 80, 41]⟩ : ByteArray)] : List ByteArray))) = some r := h
  clear h
  obtain ⟨y133, hy133⟩ : ∃ y_ : List ByteArray, y_ = (([(⟨#[40, 76, 73, 84, 41]⟩ : ByteArray), (⟨#[40, 66, 82, 65, 78, 67, 72, 41]⟩ : ByteArray), (⟨#[40, 48, 66, 82, 65, 78, 67, 72, 41]⟩ : ByteArray), (⟨#[40, 68, 79, 41]⟩ : ByteArray), (⟨#[40, 76, 79, 79, 80, 41]⟩ : ByteArray), (⟨#[40, 43, 76, 79, 79, 80, 41]⟩ : ByteArray)] : List ByteArray)) := ⟨_, rfl⟩
  replace H : (some y133) = some r := by first | (rw [hy133]; with_reducible exact H) | (have H2_ := (Option.bind_some _ _).symm.trans H; rw [hy133]; with_reducible exact H2_) | (have H2_ := (Option.bind_some _ _).symm.trans H; with_reducible exact H2_) | with_reducible exact H | (rw [hy133]; exact H) | exact H
  have Ny133 := Aside0.mk hy133
  clear hy133
  obtain rfl := Option.some.inj H
  go_enter Tryd.func92, Tryd.ntmps92
  go_wp2_with (first | ((with_reducible refine gate_dst (N := 1) rfl ?_); refine Kd.R_lit Kd.string _ 9 ?hg (N := 1) ?hd (xs := ([(⟨#[40, 76, 73, 84, 41]⟩ : ByteArray), (⟨#[40, 66, 82, 65, 78, 67, 72, 41]⟩ : ByteArray), (⟨#[40, 48, 66, 82, 65, 78, 67, 72, 41]⟩ : ByteArray), (⟨#[40, 68, 79, 41]⟩ : ByteArray), (⟨#[40, 76, 79, 79, 80, 41]⟩ : ByteArray), (⟨#[40, 43, 76, 79, 79, 80, 41]⟩ : ByteArray)] : List ByteArray)) (inner := [.string (⟨#[40, 76, 73, 84, 41]⟩ : ByteArray), .string (⟨#[40, 66, 82, 65, 78, 67, 72, 41]⟩ : ByteArray), .string (⟨#[40, 48, 66, 82, 65, 78, 67, 72, 41]⟩ : ByteArray), .string (⟨#[40, 68, 79, 41]⟩ : ByteArray), .string (⟨#[40, 76, 79, 79, 80, 41]⟩ : ByteArray), .string (⟨#[40, 43, 76, 79, 79, 80, 41]⟩ : ByteArray)]) (ok := fun _ => True) (okp := fun _ => True) ?hr ?hp (fun _ hk => hk) trivial (Below.refl _ _) (Nat.le_refl _) (by simp) ?_; (case hd => rfl); (case hg => rfl); (case hr => first | (go_simp; done) | (go_simp; rfl)); (case hp => exact (Reps.one (show Kd.M Kd.string _ _ _ (⟨#[40, 76, 73, 84, 41]⟩ : ByteArray) [.string (⟨#[40, 76, 73, 84, 41]⟩ : ByteArray)] from rfl) (Reps.one (show Kd.M Kd.string _ _ _ (⟨#[40, 66, 82, 65, 78, 67, 72, 41]⟩ : ByteArray) [.string (⟨#[40, 66, 82, 65, 78, 67, 72, 41]⟩ : ByteArray)] from rfl) (Reps.one (show Kd.M Kd.string _ _ _ (⟨#[40, 48, 66, 82, 65, 78, 67, 72, 41]⟩ : ByteArray) [.string (⟨#[40, 48, 66, 82, 65, 78, 67, 72, 41]⟩ : ByteArray)] from rfl) (Reps.one (show Kd.M Kd.string _ _ _ (⟨#[40, 68, 79, 41]⟩ : ByteArray) [.string (⟨#[40, 68, 79, 41]⟩ : ByteArray)] from rfl) (Reps.one (show Kd.M Kd.string _ _ _ (⟨#[40, 76, 79, 79, 80, 41]⟩ : ByteArray) [.string (⟨#[40, 76, 79, 79, 80, 41]⟩ : ByteArray)] from rfl) (Reps.one (show Kd.M Kd.string _ _ _ (⟨#[40, 43, 76, 79, 79, 80, 41]⟩ : ByteArray) [.string (⟨#[40, 43, 76, 79, 79, 80, 41]⟩ : ByteArray)] from rfl) (Reps.none _ _)))))))); intro v134 w1 ho2 hb hg_ hnew_; clear hg_ hnew_; (first | rw [← Ny133.out] at ho2 | (simp only [Int.reduceToNat] at ho2; rw [← Ny133.out] at ho2)); have HO135 := Aside0.mk (Kd.R_lower ho2 (below_size (by repeat (first | (with_reducible first | exact HB.out | apply below_alloc | apply pw_below_drewN | apply below_drew1) | exact HB.out)))); replace HB := Aside0.mk (below_step (by repeat (first | (with_reducible first | exact HB.out | apply below_alloc | apply pw_below_drewN | apply below_drew1) | exact HB.out)) hb); clear hb ho2))
  go_ret
  exact ⟨_, by first | rfl | (simp [errW_none, errW_some] <;> rfl) | (simp [*, errW_none, errW_some] <;> rfl), by (with_reducible repeat (first | apply Kd.R_alloc | apply Kd.R_drewN | apply Kd.R_drew)); exact HO135.out, by repeat (first | (with_reducible first | exact HB.out | apply below_alloc | apply pw_below_drewN | apply below_drew1) | exact HB.out)⟩

/-! ### spec_l04Hosts: function 93 -/
def spec_l04Hosts.f  : Option (List ByteArray) := some (([(⟨#[72, 82, 69, 65, 68]⟩ : ByteArray), (⟨#[72, 87, 82, 73, 84, 69]⟩ : ByteArray), (⟨#[72, 65, 83, 75]⟩ : ByteArray), (⟨#[72, 84, 73, 77, 69]⟩ : ByteArray)] : List ByteArray))
set_option maxHeartbeats 8000000 in
set_option maxRecDepth 100000 in
theorem spec_l04Hosts.calls  (r : List ByteArray) (w : World) (h : spec_l04Hosts.f  = some r) :
    Calls Tryd.prog 93 #[] w fun e w' => ∃ v0_ : Value, e = .returned (v0_) ∧ Kd.R Kd.string 9 w' w.heap.size (fun _ => True) v0_ r ∧ Below w.heap.size w w' := by
  have HB := Aside0.mk (Below.refl w.heap.size w)
  have H : (some (([(⟨#[72, 82, 69, 65, 68]⟩ : ByteArray), (⟨#[72, 87, 82, 73, 84, 69]⟩ : ByteArray), (⟨#[72, 65, 83, 75]⟩ : ByteArray), (⟨#[72, 84, 73, 77, 69]⟩ : ByteArray)] : List ByteArray))) = some r := h
  clear h
  obtain ⟨y136, hy136⟩ : ∃ y_ : List ByteArray, y_ = (([(⟨#[72, 82, 69, 65, 68]⟩ : ByteArray), (⟨#[72, 87, 82, 73, 84, 69]⟩ : ByteArray), (⟨#[72, 65, 83, 75]⟩ : ByteArray), (⟨#[72, 84, 73, 77, 69]⟩ : ByteArray)] : List ByteArray)) := ⟨_, rfl⟩
  replace H : (some y136) = some r := by first | (rw [hy136]; with_reducible exact H) | (have H2_ := (Option.bind_some _ _).symm.trans H; rw [hy136]; with_reducible exact H2_) | (have H2_ := (Option.bind_some _ _).symm.trans H; with_reducible exact H2_) | with_reducible exact H | (rw [hy136]; exact H) | exact H
  have Ny136 := Aside0.mk hy136
  clear hy136
  obtain rfl := Option.some.inj H
  go_enter Tryd.func93, Tryd.ntmps93
  go_wp2_with (first | ((with_reducible refine gate_dst (N := 1) rfl ?_); refine Kd.R_lit Kd.string _ 9 ?hg (N := 1) ?hd (xs := ([(⟨#[72, 82, 69, 65, 68]⟩ : ByteArray), (⟨#[72, 87, 82, 73, 84, 69]⟩ : ByteArray), (⟨#[72, 65, 83, 75]⟩ : ByteArray), (⟨#[72, 84, 73, 77, 69]⟩ : ByteArray)] : List ByteArray)) (inner := [.string (⟨#[72, 82, 69, 65, 68]⟩ : ByteArray), .string (⟨#[72, 87, 82, 73, 84, 69]⟩ : ByteArray), .string (⟨#[72, 65, 83, 75]⟩ : ByteArray), .string (⟨#[72, 84, 73, 77, 69]⟩ : ByteArray)]) (ok := fun _ => True) (okp := fun _ => True) ?hr ?hp (fun _ hk => hk) trivial (Below.refl _ _) (Nat.le_refl _) (by simp) ?_; (case hd => rfl); (case hg => rfl); (case hr => first | (go_simp; done) | (go_simp; rfl)); (case hp => exact (Reps.one (show Kd.M Kd.string _ _ _ (⟨#[72, 82, 69, 65, 68]⟩ : ByteArray) [.string (⟨#[72, 82, 69, 65, 68]⟩ : ByteArray)] from rfl) (Reps.one (show Kd.M Kd.string _ _ _ (⟨#[72, 87, 82, 73, 84, 69]⟩ : ByteArray) [.string (⟨#[72, 87, 82, 73, 84, 69]⟩ : ByteArray)] from rfl) (Reps.one (show Kd.M Kd.string _ _ _ (⟨#[72, 65, 83, 75]⟩ : ByteArray) [.string (⟨#[72, 65, 83, 75]⟩ : ByteArray)] from rfl) (Reps.one (show Kd.M Kd.string _ _ _ (⟨#[72, 84, 73, 77, 69]⟩ : ByteArray) [.string (⟨#[72, 84, 73, 77, 69]⟩ : ByteArray)] from rfl) (Reps.none _ _)))))); intro v137 w1 ho2 hb hg_ hnew_; clear hg_ hnew_; (first | rw [← Ny136.out] at ho2 | (simp only [Int.reduceToNat] at ho2; rw [← Ny136.out] at ho2)); have HO138 := Aside0.mk (Kd.R_lower ho2 (below_size (by repeat (first | (with_reducible first | exact HB.out | apply below_alloc | apply pw_below_drewN | apply below_drew1) | exact HB.out)))); replace HB := Aside0.mk (below_step (by repeat (first | (with_reducible first | exact HB.out | apply below_alloc | apply pw_below_drewN | apply below_drew1) | exact HB.out)) hb); clear hb ho2))
  go_ret
  exact ⟨_, by first | rfl | (simp [errW_none, errW_some] <;> rfl) | (simp [*, errW_none, errW_some] <;> rfl), by (with_reducible repeat (first | apply Kd.R_alloc | apply Kd.R_drewN | apply Kd.R_drew)); exact HO138.out, by repeat (first | (with_reducible first | exact HB.out | apply below_alloc | apply pw_below_drewN | apply below_drew1) | exact HB.out)⟩

/-! ### spec_l04Syntax: function 94 -/
def spec_l04Syntax.f  : Option (List ByteArray) := some (([(⟨#[58]⟩ : ByteArray), (⟨#[59]⟩ : ByteArray), (⟨#[73, 70]⟩ : ByteArray), (⟨#[69, 76, 83, 69]⟩ : ByteArray), (⟨#[84, 72, 69, 78]⟩ : ByteArray), (⟨#[66, 69, 71, 73, 78]⟩ : ByteArray), (⟨#[85, 78, 84, 73, 76]⟩ : ByteArray), (⟨#[87, 72, 73, 76, 69]⟩ : ByteArray), (⟨#[82, 69, 80, 69, 65, 84]⟩ : ByteArray), (⟨#[68, 79]⟩ : ByteArray), (⟨#[76, 79, 79, 80]⟩ : ByteArray), (⟨#[43, 76, 79, 79, 80]⟩ : ByteArray), (⟨#[82, 69, 67, 85, 82, 83, 69]⟩ : ByteArray), (⟨#[86, 65, 82, 73, 65, 66, 76, 69]⟩ : ByteArray), (⟨#[67, 79, 78, 83, 84, 65, 78, 84]⟩ : ByteArray), (⟨#[39]⟩ : ByteArray), (⟨#[91, 39, 93]⟩ : ByteArray)] : List ByteArray))
set_option maxHeartbeats 8000000 in
set_option maxRecDepth 100000 in
theorem spec_l04Syntax.calls  (r : List ByteArray) (w : World) (h : spec_l04Syntax.f  = some r) :
    Calls Tryd.prog 94 #[] w fun e w' => ∃ v0_ : Value, e = .returned (v0_) ∧ Kd.R Kd.string 9 w' w.heap.size (fun _ => True) v0_ r ∧ Below w.heap.size w w' := by
  have HB := Aside0.mk (Below.refl w.heap.size w)
  have H : (some (([(⟨#[58]⟩ : ByteArray), (⟨#[59]⟩ : ByteArray), (⟨#[73, 70]⟩ : ByteArray), (⟨#[69, 76, 83, 69]⟩ : ByteArray), (⟨#[84, 72, 69, 78]⟩ : ByteArray), (⟨#[66, 69, 71, 73, 78]⟩ : ByteArray), (⟨#[85, 78, 84, 73, 76]⟩ : ByteArray), (⟨#[87, 72, 73, 76, 69]⟩ : ByteArray), (⟨#[82, 69, 80, 69, 65, 84]⟩ : ByteArray), (⟨#[68, 79]⟩ : ByteArray), (⟨#[76, 79, 79, 80]⟩ : ByteArray), (⟨#[43, 76, 79, 79, 80]⟩ : ByteArray), (⟨#[82, 69, 67, 85, 82, 83, 69]⟩ : ByteArray), (⟨#[86, 65, 82, 73, 65, 66, 76, 69]⟩ : ByteArray), (⟨#[67, 79, 78, 83, 84, 65, 78, 84]⟩ : ByteArray), (⟨#[39]⟩ : ByteArray), (⟨#[91, 39, 93]⟩ : ByteArray)] : List ByteArray))) = some r := h
  clear h
  obtain ⟨y139, hy139⟩ : ∃ y_ : List ByteArray, y_ = (([(⟨#[58]⟩ : ByteArray), (⟨#[59]⟩ : ByteArray), (⟨#[73, 70]⟩ : ByteArray), (⟨#[69, 76, 83, 69]⟩ : ByteArray), (⟨#[84, 72, 69, 78]⟩ : ByteArray), (⟨#[66, 69, 71, 73, 78]⟩ : ByteArray), (⟨#[85, 78, 84, 73, 76]⟩ : ByteArray), (⟨#[87, 72, 73, 76, 69]⟩ : ByteArray), (⟨#[82, 69, 80, 69, 65, 84]⟩ : ByteArray), (⟨#[68, 79]⟩ : ByteArray), (⟨#[76, 79, 79, 80]⟩ : ByteArray), (⟨#[43, 76, 79, 79, 80]⟩ : ByteArray), (⟨#[82, 69, 67, 85, 82, 83, 69]⟩ : ByteArray), (⟨#[86, 65, 82, 73, 65, 66, 76, 69]⟩ : ByteArray), (⟨#[67, 79, 78, 83, 84, 65, 78, 84]⟩ : ByteArray), (⟨#[39]⟩ : ByteArray), (⟨#[91, 39, 93]⟩ : ByteArray)] : List ByteArray)) := ⟨_, rfl⟩
  replace H : (some y139) = some r := by first | (rw [hy139]; with_reducible exact H) | (have H2_ := (Option.bind_some _ _).symm.trans H; rw [hy139]; with_reducible exact H2_) | (have H2_ := (Option.bind_some _ _).symm.trans H; with_reducible exact H2_) | with_reducible exact H | (rw [hy139]; exact H) | exact H
  have Ny139 := Aside0.mk hy139
  clear hy139
  obtain rfl := Option.some.inj H
  go_enter Tryd.func94, Tryd.ntmps94
  go_wp2_with (first | ((with_reducible refine gate_dst (N := 1) rfl ?_); refine Kd.R_lit Kd.string _ 9 ?hg (N := 1) ?hd (xs := ([(⟨#[58]⟩ : ByteArray), (⟨#[59]⟩ : ByteArray), (⟨#[73, 70]⟩ : ByteArray), (⟨#[69, 76, 83, 69]⟩ : ByteArray), (⟨#[84, 72, 69, 78]⟩ : ByteArray), (⟨#[66, 69, 71, 73, 78]⟩ : ByteArray), (⟨#[85, 78, 84, 73, 76]⟩ : ByteArray), (⟨#[87, 72, 73, 76, 69]⟩ : ByteArray), (⟨#[82, 69, 80, 69, 65, 84]⟩ : ByteArray), (⟨#[68, 79]⟩ : ByteArray), (⟨#[76, 79, 79, 80]⟩ : ByteArray), (⟨#[43, 76, 79, 79, 80]⟩ : ByteArray), (⟨#[82, 69, 67, 85, 82, 83, 69]⟩ : ByteArray), (⟨#[86, 65, 82, 73, 65, 66, 76, 69]⟩ : ByteArray), (⟨#[67, 79, 78, 83, 84, 65, 78, 84]⟩ : ByteArray), (⟨#[39]⟩ : ByteArray), (⟨#[91, 39, 93]⟩ : ByteArray)] : List ByteArray)) (inner := [.string (⟨#[58]⟩ : ByteArray), .string (⟨#[59]⟩ : ByteArray), .string (⟨#[73, 70]⟩ : ByteArray), .string (⟨#[69, 76, 83, 69]⟩ : ByteArray), .string (⟨#[84, 72, 69, 78]⟩ : ByteArray), .string (⟨#[66, 69, 71, 73, 78]⟩ : ByteArray), .string (⟨#[85, 78, 84, 73, 76]⟩ : ByteArray), .string (⟨#[87, 72, 73, 76, 69]⟩ : ByteArray), .string (⟨#[82, 69, 80, 69, 65, 84]⟩ : ByteArray), .string (⟨#[68, 79]⟩ : ByteArray), .string (⟨#[76, 79, 79, 80]⟩ : ByteArray), .string (⟨#[43, 76, 79, 79, 80]⟩ : ByteArray), .string (⟨#[82, 69, 67, 85, 82, 83, 69]⟩ : ByteArray), .string (⟨#[86, 65, 82, 73, 65, 66, 76, 69]⟩ : ByteArray), .string (⟨#[67, 79, 78, 83, 84, 65, 78, 84]⟩ : ByteArray), .string (⟨#[39]⟩ : ByteArray), .string (⟨#[91, 39, 93]⟩ : ByteArray)]) (ok := fun _ => True) (okp := fun _ => True) ?hr ?hp (fun _ hk => hk) trivial (Below.refl _ _) (Nat.le_refl _) (by simp) ?_; (case hd => rfl); (case hg => rfl); (case hr => first | (go_simp; done) | (go_simp; rfl)); (case hp => exact (Reps.one (show Kd.M Kd.string _ _ _ (⟨#[58]⟩ : ByteArray) [.string (⟨#[58]⟩ : ByteArray)] from rfl) (Reps.one (show Kd.M Kd.string _ _ _ (⟨#[59]⟩ : ByteArray) [.string (⟨#[59]⟩ : ByteArray)] from rfl) (Reps.one (show Kd.M Kd.string _ _ _ (⟨#[73, 70]⟩ : ByteArray) [.string (⟨#[73, 70]⟩ : ByteArray)] from rfl) (Reps.one (show Kd.M Kd.string _ _ _ (⟨#[69, 76, 83, 69]⟩ : ByteArray) [.string (⟨#[69, 76, 83, 69]⟩ : ByteArray)] from rfl) (Reps.one (show Kd.M Kd.string _ _ _ (⟨#[84, 72, 69, 78]⟩ : ByteArray) [.string (⟨#[84, 72, 69, 78]⟩ : ByteArray)] from rfl) (Reps.one (show Kd.M Kd.string _ _ _ (⟨#[66, 69, 71, 73, 78]⟩ : ByteArray) [.string (⟨#[66, 69, 71, 73, 78]⟩ : ByteArray)] from rfl) (Reps.one (show Kd.M Kd.string _ _ _ (⟨#[85, 78, 84, 73, 76]⟩ : ByteArray) [.string (⟨#[85, 78, 84, 73, 76]⟩ : ByteArray)] from rfl) (Reps.one (show Kd.M Kd.string _ _ _ (⟨#[87, 72, 73, 76, 69]⟩ : ByteArray) [.string (⟨#[87, 72, 73, 76, 69]⟩ : ByteArray)] from rfl) (Reps.one (show Kd.M Kd.string _ _ _ (⟨#[82, 69, 80, 69, 65, 84]⟩ : ByteArray) [.string (⟨#[82, 69, 80, 69, 65, 84]⟩ : ByteArray)] from rfl) (Reps.one (show Kd.M Kd.string _ _ _ (⟨#[68, 79]⟩ : ByteArray) [.string (⟨#[68, 79]⟩ : ByteArray)] from rfl) (Reps.one (show Kd.M Kd.string _ _ _ (⟨#[76, 79, 79, 80]⟩ : ByteArray) [.string (⟨#[76, 79, 79, 80]⟩ : ByteArray)] from rfl) (Reps.one (show Kd.M Kd.string _ _ _ (⟨#[43, 76, 79, 79, 80]⟩ : ByteArray) [.string (⟨#[43, 76, 79, 79, 80]⟩ : ByteArray)] from rfl) (Reps.one (show Kd.M Kd.string _ _ _ (⟨#[82, 69, 67, 85, 82, 83, 69]⟩ : ByteArray) [.string (⟨#[82, 69, 67, 85, 82, 83, 69]⟩ : ByteArray)] from rfl) (Reps.one (show Kd.M Kd.string _ _ _ (⟨#[86, 65, 82, 73, 65, 66, 76, 69]⟩ : ByteArray) [.string (⟨#[86, 65, 82, 73, 65, 66, 76, 69]⟩ : ByteArray)] from rfl) (Reps.one (show Kd.M Kd.string _ _ _ (⟨#[67, 79, 78, 83, 84, 65, 78, 84]⟩ : ByteArray) [.string (⟨#[67, 79, 78, 83, 84, 65, 78, 84]⟩ : ByteArray)] from rfl) (Reps.one (show Kd.M Kd.string _ _ _ (⟨#[39]⟩ : ByteArray) [.string (⟨#[39]⟩ : ByteArray)] from rfl) (Reps.one (show Kd.M Kd.string _ _ _ (⟨#[91, 39, 93]⟩ : ByteArray) [.string (⟨#[91, 39, 93]⟩ : ByteArray)] from rfl) (Reps.none _ _))))))))))))))))))); intro v140 w1 ho2 hb hg_ hnew_; clear hg_ hnew_; (first | rw [← Ny139.out] at ho2 | (simp only [Int.reduceToNat] at ho2; rw [← Ny139.out] at ho2)); have HO141 := Aside0.mk (Kd.R_lower ho2 (below_size (by repeat (first | (with_reducible first | exact HB.out | apply below_alloc | apply pw_below_drewN | apply below_drew1) | exact HB.out)))); replace HB := Aside0.mk (below_step (by repeat (first | (with_reducible first | exact HB.out | apply below_alloc | apply pw_below_drewN | apply below_drew1) | exact HB.out)) hb); clear hb ho2))
  go_ret
  exact ⟨_, by first | rfl | (simp [errW_none, errW_some] <;> rfl) | (simp [*, errW_none, errW_some] <;> rfl), by (with_reducible repeat (first | apply Kd.R_alloc | apply Kd.R_drewN | apply Kd.R_drew)); exact HO141.out, by repeat (first | (with_reducible first | exact HB.out | apply below_alloc | apply pw_below_drewN | apply below_drew1) | exact HB.out)⟩

/-! ### spec_l04Kernel: function 48 -/
mutual
def spec_l04Kernel.l0 : Nat → List (S39) → List (List ByteArray) → Int → Option ((List (S39)))
  | 0, _, _, _ => none
  | k + 1, x1, x2, x3 => if x3 < (x2.length : Int) then (spec_l04Kernel.l1 k x1 x2 x3 0) else (some x1)
def spec_l04Kernel.l1 : Nat → List (S39) → List (List ByteArray) → Int → Int → Option ((List (S39)))
  | 0, _, _, _, _ => none
  | k + 1, x1, x2, x3, x4 => if 0 ≤ x3 then (if x3 < (x2.length : Int) then (if x4 < ((rd_L5 x2 x3).length : Int) then (if 0 ≤ x4 then (if x1.length < 4398046511104 then (spec_l04Kernel.l1 k (x1 ++ [(⟨rdOf ByteArray.empty (rd_L5 x2 x3) x4, wrap64 (x3 + 1), wrap64 (x4 + 1)⟩ : S39)]) x2 x3 (wrap64 (x4 + 1))) else (none)) else (none)) else (spec_l04Kernel.l0 k x1 x2 (wrap64 (x3 + 1)))) else (none)) else (none)
end
def spec_l04Kernel.f (k : Nat)  : Option ((List (S39))) := (spec_l04Prims.f).bind fun t145 => ((spec_l04Flows.f).bind fun t148 => ((spec_l04Inners.f).bind fun t151 => ((spec_l04Hosts.f).bind fun t154 => ((spec_l04Syntax.f).bind fun t157 => (spec_l04Kernel.l0 k (([] : List (S39))) (([t145, t148, t151, t154, t157] : List (List ByteArray))) 0)))))
theorem spec_l04Kernel.mono_l : ∀ k, (∀ y0 y1 y2, LeO (spec_l04Kernel.l0 k y0 y1 y2) (spec_l04Kernel.l0 (k + 1) y0 y1 y2)) ∧ (∀ y0 y1 y2 y3, LeO (spec_l04Kernel.l1 k y0 y1 y2 y3) (spec_l04Kernel.l1 (k + 1) y0 y1 y2 y3))
  | 0 => ⟨fun _ _ _ r h => by simp [spec_l04Kernel.l0] at h, fun _ _ _ _ r h => by simp [spec_l04Kernel.l1] at h⟩
  | k + 1 => by
    obtain ⟨ih0, ih1⟩ := spec_l04Kernel.mono_l k
    refine ⟨?_, ?_⟩
    · intro y0 y1 y2
      unfold spec_l04Kernel.l0
      repeat' first
      | (with_reducible exact ih0 _ _ _)
      | (with_reducible exact ih1 _ _ _ _)
      | (with_reducible exact LeO.refl _)
      | (with_reducible exact LeO.none _)
      | (with_reducible refine LeO.ite ?_ ?_)
      | (with_reducible refine LeO.bind ?_ (fun _ => ?_))
      | exact ih0 _ _ _
      | exact ih1 _ _ _ _
      | exact LeO.none _
      | refine LeO.ite ?_ ?_
      | refine LeO.bind ?_ (fun _ => ?_)
    · intro y0 y1 y2 y3
      unfold spec_l04Kernel.l1
      repeat' first
      | (with_reducible exact ih0 _ _ _)
      | (with_reducible exact ih1 _ _ _ _)
      | (with_reducible exact LeO.refl _)
      | (with_reducible exact LeO.none _)
      | (with_reducible refine LeO.ite ?_ ?_)
      | (with_reducible refine LeO.bind ?_ (fun _ => ?_))
      | exact ih0 _ _ _
      | exact ih1 _ _ _ _
      | exact LeO.none _
      | refine LeO.ite ?_ ?_
      | refine LeO.bind ?_ (fun _ => ?_)
theorem spec_l04Kernel.mono : ∀ k, LeO (spec_l04Kernel.f k ) (spec_l04Kernel.f (k + 1) ) := by
  intro  k
  obtain ⟨ih0, ih1⟩ := spec_l04Kernel.mono_l k
  unfold spec_l04Kernel.f
  repeat' first
      | (with_reducible exact ih0 _ _ _)
      | (with_reducible exact ih1 _ _ _ _)
      | (with_reducible exact LeO.refl _)
      | (with_reducible exact LeO.none _)
      | (with_reducible refine LeO.ite ?_ ?_)
      | (with_reducible refine LeO.bind ?_ (fun _ => ?_))
      | exact ih0 _ _ _
      | exact ih1 _ _ _ _
      | exact LeO.none _
      | refine LeO.ite ?_ ?_
      | refine LeO.bind ?_ (fun _ => ?_)
set_option maxHeartbeats 8000000 in
set_option maxRecDepth 100000 in
theorem spec_l04Kernel.calls (k : Nat)  (r : List (S39)) (w : World) (h : spec_l04Kernel.f k  = some r) :
    Calls Tryd.prog 48 #[] w fun e w' => ∃ v0_ : Value, e = .returned (v0_) ∧ Kd.R k39 39 w' w.heap.size (fun _ => True) v0_ r ∧ Below w.heap.size w w' := by
  have hu39 := Tryd.underlying39
  have HB := Aside0.mk (Below.refl w.heap.size w)
  have H : ((spec_l04Prims.f).bind fun t145 => ((spec_l04Flows.f).bind fun t148 => ((spec_l04Inners.f).bind fun t151 => ((spec_l04Hosts.f).bind fun t154 => ((spec_l04Syntax.f).bind fun t157 => (spec_l04Kernel.l0 k (([] : List (S39))) (([t145, t148, t151, t154, t157] : List (List ByteArray))) 0)))))) = some r := h
  clear h
  obtain ⟨y142, hy142⟩ : ∃ y_ : List (S39), y_ = (([] : List (S39))) := ⟨_, rfl⟩
  replace H : ((spec_l04Prims.f).bind fun t145 => ((spec_l04Flows.f).bind fun t148 => ((spec_l04Inners.f).bind fun t151 => ((spec_l04Hosts.f).bind fun t154 => ((spec_l04Syntax.f).bind fun t157 => (spec_l04Kernel.l0 k y142 (([t145, t148, t151, t154, t157] : List (List ByteArray))) 0)))))) = some r := by first | (rw [hy142]; with_reducible exact H) | (have H2_ := (Option.bind_some _ _).symm.trans H; rw [hy142]; with_reducible exact H2_) | (have H2_ := (Option.bind_some _ _).symm.trans H; with_reducible exact H2_) | with_reducible exact H | (rw [hy142]; exact H) | exact H
  have Ny142 := Aside0.mk hy142
  clear hy142
  replace H := Option.bind_eq_some_iff.mp H
  obtain ⟨t145, A10, H⟩ := H
  replace H : ((spec_l04Flows.f).bind fun t148 => ((spec_l04Inners.f).bind fun t151 => ((spec_l04Hosts.f).bind fun t154 => ((spec_l04Syntax.f).bind fun t157 => (spec_l04Kernel.l0 k y142 (([t145, t148, t151, t154, t157] : List (List ByteArray))) 0))))) = some r := H
  have A1 := Aside0.mk A10
  clear A10
  replace H := Option.bind_eq_some_iff.mp H
  obtain ⟨t148, A20, H⟩ := H
  replace H : ((spec_l04Inners.f).bind fun t151 => ((spec_l04Hosts.f).bind fun t154 => ((spec_l04Syntax.f).bind fun t157 => (spec_l04Kernel.l0 k y142 (([t145, t148, t151, t154, t157] : List (List ByteArray))) 0)))) = some r := H
  have A2 := Aside0.mk A20
  clear A20
  replace H := Option.bind_eq_some_iff.mp H
  obtain ⟨t151, A30, H⟩ := H
  replace H : ((spec_l04Hosts.f).bind fun t154 => ((spec_l04Syntax.f).bind fun t157 => (spec_l04Kernel.l0 k y142 (([t145, t148, t151, t154, t157] : List (List ByteArray))) 0))) = some r := H
  have A3 := Aside0.mk A30
  clear A30
  replace H := Option.bind_eq_some_iff.mp H
  obtain ⟨t154, A40, H⟩ := H
  replace H : ((spec_l04Syntax.f).bind fun t157 => (spec_l04Kernel.l0 k y142 (([t145, t148, t151, t154, t157] : List (List ByteArray))) 0)) = some r := H
  have A4 := Aside0.mk A40
  clear A40
  replace H := Option.bind_eq_some_iff.mp H
  obtain ⟨t157, A50, H⟩ := H
  replace H : (spec_l04Kernel.l0 k y142 (([t145, t148, t151, t154, t157] : List (List ByteArray))) 0) = some r := H
  have A5 := Aside0.mk A50
  clear A50
  obtain ⟨y160, hy160⟩ : ∃ y_ : List (List ByteArray), y_ = (([t145, t148, t151, t154, t157] : List (List ByteArray))) := ⟨_, rfl⟩
  replace H : (spec_l04Kernel.l0 k y142 y160 0) = some r := by first | (rw [hy160]; with_reducible exact H) | (have H2_ := (Option.bind_some _ _).symm.trans H; rw [hy160]; with_reducible exact H2_) | (have H2_ := (Option.bind_some _ _).symm.trans H; with_reducible exact H2_) | with_reducible exact H | (rw [hy160]; exact H) | exact H
  have Ny160 := Aside0.mk hy160
  clear hy160
  have H' := Aside0.mk H
  clear H
  go_enter Tryd.func48, Tryd.ntmps48
  go_wp2_with (first | ((with_reducible refine gate_dst (N := 5) rfl ?_); refine Kd.R_lit k39 _ 39 ?hg (N := 5) ?hd (xs := ([] : List (S39))) (inner := []) (ok := fun _ => True) (okp := fun _ => True) ?hr ?hp (fun _ hk => hk) trivial (Below.refl _ _) (Nat.le_refl _) (by simp) ?_; (case hd => rfl); (case hg => rfl); (case hr => first | (go_simp; done) | (go_simp; rfl)); (case hp => exact (Reps.none _ _)); intro v143 w6 ho7 hb hg_ hnew_; clear hg_ hnew_; (first | rw [← Ny142.out] at ho7 | (simp only [Int.reduceToNat] at ho7; rw [← Ny142.out] at ho7)); have HO144 := Aside0.mk (Kd.R_lower ho7 (below_size (by repeat (first | (with_reducible first | exact HB.out | apply below_alloc | apply pw_below_drewN | apply below_drew1) | exact HB.out)))); replace HB := Aside0.mk (below_step (by repeat (first | (with_reducible first | exact HB.out | apply below_alloc | apply pw_below_drewN | apply below_drew1) | exact HB.out)) hb); clear hb ho7) | ((with_reducible refine gate_callee (f := 90) rfl ?_); refine goesL_ (some 6) rfl rfl Tryd.func90 (by kernel_rfl) rfl #[] rfl (by (try simp only [List.map_toArray, List.map_cons, List.map_nil]); first | done | rfl | (simp only [List.length_drop, List.length_take]; rfl)) ?_; (with_reducible refine (spec_l04Prims.calls  t145 _ A1.out).mono ?_); rintro e w8 ⟨v146, rfl, ho0, hb⟩; refine ⟨_, rfl, ?_⟩; replace HO144 := Aside0.mk (Kd.R_below (by (with_reducible repeat (first | apply Kd.R_alloc | apply Kd.R_drewN | apply Kd.R_drew)); exact HO144.out) hb); have HO147 := Aside0.mk (Kd.R_lower ho0 (below_size (by repeat (first | (with_reducible first | exact HB.out | apply below_alloc | apply pw_below_drewN | apply below_drew1) | exact HB.out)))); replace HB := Aside0.mk (below_step (by repeat (first | (with_reducible first | exact HB.out | apply below_alloc | apply pw_below_drewN | apply below_drew1) | exact HB.out)) hb); (try clear hb); (try clear hb2); (try clear hk); (try clear hi); (try clear ho0)) | ((with_reducible refine gate_callee (f := 91) rfl ?_); refine goesL_ (some 7) rfl rfl Tryd.func91 (by kernel_rfl) rfl #[] rfl (by (try simp only [List.map_toArray, List.map_cons, List.map_nil]); first | done | rfl | (simp only [List.length_drop, List.length_take]; rfl)) ?_; (with_reducible refine (spec_l04Flows.calls  t148 _ A2.out).mono ?_); rintro e w9 ⟨v149, rfl, ho0, hb⟩; refine ⟨_, rfl, ?_⟩; have n0_ := Aside0.mk (Kd.R_below (by (with_reducible repeat (first | apply Kd.R_alloc | apply Kd.R_drewN | apply Kd.R_drew)); exact HO144.out) hb); have n1_ := Aside0.mk (Kd.R_elder' (by (with_reducible repeat (first | apply Kd.R_alloc | apply Kd.R_drewN | apply Kd.R_drew)); exact HO147.out) (Kd.R_base ho0) hb); have n2_ := Aside0.mk (Kd.R_lower (Kd.R_new' ho0 (Kd.R_lt (by (with_reducible repeat (first | apply Kd.R_alloc | apply Kd.R_drewN | apply Kd.R_drew)); exact HO147.out))) (below_size (by repeat (first | (with_reducible first | exact HB.out | apply below_alloc | apply pw_below_drewN | apply below_drew1) | exact HB.out)))); have n3_ := Aside0.mk (below_step (by repeat (first | (with_reducible first | exact HB.out | apply below_alloc | apply pw_below_drewN | apply below_drew1) | exact HB.out)) hb); clear HO144; clear HO147; clear HB; have HO144 := n0_; have HO147 := n1_; have HO150 := n2_; have HB := n3_; clear n0_ n1_ n2_ n3_; (try clear hb); (try clear hb2); (try clear hk); (try clear hi); (try clear ho0)) | ((with_reducible refine gate_callee (f := 92) rfl ?_); refine goesL_ (some 8) rfl rfl Tryd.func92 (by kernel_rfl) rfl #[] rfl (by (try simp only [List.map_toArray, List.map_cons, List.map_nil]); first | done | rfl | (simp only [List.length_drop, List.length_take]; rfl)) ?_; (with_reducible refine (spec_l04Inners.calls  t151 _ A3.out).mono ?_); rintro e w10 ⟨v152, rfl, ho0, hb⟩; refine ⟨_, rfl, ?_⟩; have n0_ := Aside0.mk (Kd.R_below (by (with_reducible repeat (first | apply Kd.R_alloc | apply Kd.R_drewN | apply Kd.R_drew)); exact HO144.out) hb); have n1_ := Aside0.mk (Kd.R_elder' (by (with_reducible repeat (first | apply Kd.R_alloc | apply Kd.R_drewN | apply Kd.R_drew)); exact HO147.out) (Kd.R_base ho0) hb); have n2_ := Aside0.mk (Kd.R_elder' (by (with_reducible repeat (first | apply Kd.R_alloc | apply Kd.R_drewN | apply Kd.R_drew)); exact HO150.out) (Kd.R_base ho0) hb); have n3_ := Aside0.mk (Kd.R_lower (Kd.R_new' (Kd.R_new' ho0 (Kd.R_lt (by (with_reducible repeat (first | apply Kd.R_alloc | apply Kd.R_drewN | apply Kd.R_drew)); exact HO147.out))) (Kd.R_lt (by (with_reducible repeat (first | apply Kd.R_alloc | apply Kd.R_drewN | apply Kd.R_drew)); exact HO150.out))) (below_size (by repeat (first | (with_reducible first | exact HB.out | apply below_alloc | apply pw_below_drewN | apply below_drew1) | exact HB.out)))); have n4_ := Aside0.mk (below_step (by repeat (first | (with_reducible first | exact HB.out | apply below_alloc | apply pw_below_drewN | apply below_drew1) | exact HB.out)) hb); clear HO144; clear HO147; clear HO150; clear HB; have HO144 := n0_; have HO147 := n1_; have HO150 := n2_; have HO153 := n3_; have HB := n4_; clear n0_ n1_ n2_ n3_ n4_; (try clear hb); (try clear hb2); (try clear hk); (try clear hi); (try clear ho0)) | ((with_reducible refine gate_callee (f := 93) rfl ?_); refine goesL_ (some 9) rfl rfl Tryd.func93 (by kernel_rfl) rfl #[] rfl (by (try simp only [List.map_toArray, List.map_cons, List.map_nil]); first | done | rfl | (simp only [List.length_drop, List.length_take]; rfl)) ?_; (with_reducible refine (spec_l04Hosts.calls  t154 _ A4.out).mono ?_); rintro e w11 ⟨v155, rfl, ho0, hb⟩; refine ⟨_, rfl, ?_⟩; have n0_ := Aside0.mk (Kd.R_below (by (with_reducible repeat (first | apply Kd.R_alloc | apply Kd.R_drewN | apply Kd.R_drew)); exact HO144.out) hb); have n1_ := Aside0.mk (Kd.R_elder' (by (with_reducible repeat (first | apply Kd.R_alloc | apply Kd.R_drewN | apply Kd.R_drew)); exact HO147.out) (Kd.R_base ho0) hb); have n2_ := Aside0.mk (Kd.R_elder' (by (with_reducible repeat (first | apply Kd.R_alloc | apply Kd.R_drewN | apply Kd.R_drew)); exact HO150.out) (Kd.R_base ho0) hb); have n3_ := Aside0.mk (Kd.R_elder' (by (with_reducible repeat (first | apply Kd.R_alloc | apply Kd.R_drewN | apply Kd.R_drew)); exact HO153.out) (Kd.R_base ho0) hb); have n4_ := Aside0.mk (Kd.R_lower (Kd.R_new' (Kd.R_new' (Kd.R_new' ho0 (Kd.R_lt (by (with_reducible repeat (first | apply Kd.R_alloc | apply Kd.R_drewN | apply Kd.R_drew)); exact HO147.out))) (Kd.R_lt (by (with_reducible repeat (first | apply Kd.R_alloc | apply Kd.R_drewN | apply Kd.R_drew)); exact HO150.out))) (Kd.R_lt (by (with_reducible repeat (first | apply Kd.R_alloc | apply Kd.R_drewN | apply Kd.R_drew)); exact HO153.out))) (below_size (by repeat (first | (with_reducible first | exact HB.out | apply below_alloc | apply pw_below_drewN | apply below_drew1) | exact HB.out)))); have n5_ := Aside0.mk (below_step (by repeat (first | (with_reducible first | exact HB.out | apply below_alloc | apply pw_below_drewN | apply below_drew1) | exact HB.out)) hb); clear HO144; clear HO147; clear HO150; clear HO153; clear HB; have HO144 := n0_; have HO147 := n1_; have HO150 := n2_; have HO153 := n3_; have HO156 := n4_; have HB := n5_; clear n0_ n1_ n2_ n3_ n4_ n5_; (try clear hb); (try clear hb2); (try clear hk); (try clear hi); (try clear ho0)) | ((with_reducible refine gate_callee (f := 94) rfl ?_); refine goesL_ (some 10) rfl rfl Tryd.func94 (by kernel_rfl) rfl #[] rfl (by (try simp only [List.map_toArray, List.map_cons, List.map_nil]); first | done | rfl | (simp only [List.length_drop, List.length_take]; rfl)) ?_; (with_reducible refine (spec_l04Syntax.calls  t157 _ A5.out).mono ?_); rintro e w12 ⟨v158, rfl, ho0, hb⟩; refine ⟨_, rfl, ?_⟩; have n0_ := Aside0.mk (Kd.R_below (by (with_reducible repeat (first | apply Kd.R_alloc | apply Kd.R_drewN | apply Kd.R_drew)); exact HO144.out) hb); have n1_ := Aside0.mk (Kd.R_elder' (by (with_reducible repeat (first | apply Kd.R_alloc | apply Kd.R_drewN | apply Kd.R_drew)); exact HO147.out) (Kd.R_base ho0) hb); have n2_ := Aside0.mk (Kd.R_elder' (by (with_reducible repeat (first | apply Kd.R_alloc | apply Kd.R_drewN | apply Kd.R_drew)); exact HO150.out) (Kd.R_base ho0) hb); have n3_ := Aside0.mk (Kd.R_elder' (by (with_reducible repeat (first | apply Kd.R_alloc | apply Kd.R_drewN | apply Kd.R_drew)); exact HO153.out) (Kd.R_base ho0) hb); have n4_ := Aside0.mk (Kd.R_elder' (by (with_reducible repeat (first | apply Kd.R_alloc | apply Kd.R_drewN | apply Kd.R_drew)); exact HO156.out) (Kd.R_base ho0) hb); have n5_ := Aside0.mk (Kd.R_lower (Kd.R_new' (Kd.R_new' (Kd.R_new' (Kd.R_new' ho0 (Kd.R_lt (by (with_reducible repeat (first | apply Kd.R_alloc | apply Kd.R_drewN | apply Kd.R_drew)); exact HO147.out))) (Kd.R_lt (by (with_reducible repeat (first | apply Kd.R_alloc | apply Kd.R_drewN | apply Kd.R_drew)); exact HO150.out))) (Kd.R_lt (by (with_reducible repeat (first | apply Kd.R_alloc | apply Kd.R_drewN | apply Kd.R_drew)); exact HO153.out))) (Kd.R_lt (by (with_reducible repeat (first | apply Kd.R_alloc | apply Kd.R_drewN | apply Kd.R_drew)); exact HO156.out))) (below_size (by repeat (first | (with_reducible first | exact HB.out | apply below_alloc | apply pw_below_drewN | apply below_drew1) | exact HB.out)))); have n6_ := Aside0.mk (below_step (by repeat (first | (with_reducible first | exact HB.out | apply below_alloc | apply pw_below_drewN | apply below_drew1) | exact HB.out)) hb); clear HO144; clear HO147; clear HO150; clear HO153; clear HO156; clear HB; have HO144 := n0_; have HO147 := n1_; have HO150 := n2_; have HO153 := n3_; have HO156 := n4_; have HO159 := n5_; have HB := n6_; clear n0_ n1_ n2_ n3_ n4_ n5_ n6_; (try clear hb); (try clear hb2); (try clear hk); (try clear hi); (try clear ho0); obtain ⟨Ao13, co13, eo13⟩ := Kd.R_slice HO147.out; subst eo13; obtain ⟨Ao14, co14, eo14⟩ := Kd.R_slice HO150.out; subst eo14; obtain ⟨Ao15, co15, eo15⟩ := Kd.R_slice HO153.out; subst eo15; obtain ⟨Ao16, co16, eo16⟩ := Kd.R_slice HO156.out; subst eo16; obtain ⟨Ao17, co17, eo17⟩ := Kd.R_slice HO159.out; subst eo17) | ((with_reducible refine gate_dst (N := 11) rfl ?_); refine Kd.N_lit (Kd.slice 9 Kd.string) _ 63 ?hg (N' := 11) ?hd (xs := ([t145, t148, t151, t154, t157] : List (List ByteArray))) (inner := [.slice Ao13 t145.length co13, .slice Ao14 t148.length co14, .slice Ao15 t151.length co15, .slice Ao16 t154.length co16, .slice Ao17 t157.length co17]) (ok := (fun k_ => some k_ ≠ (v143 : Value).ownBlock)) (okp := (fun k_ => some k_ ≠ (v143 : Value).ownBlock)) ?hr ?hp (fun _ hk => hk) ((show ∀ k_, w12.heap.size ≤ k_ → (fun k_ => some k_ ≠ (v143 : Value).ownBlock) k_ from fun k_ hk => Kd.fresh' (Kd.R_lt (by (with_reducible repeat (first | apply Kd.R_alloc | apply Kd.R_drewN | apply Kd.R_drew)); exact HO144.out)) k_ hk) _ (Nat.le_refl _)) (Below.refl _ _) (Nat.le_refl _) (by simp) ?_; (case hd => rfl); (case hg => rfl); (case hr => first | (go_simp; done) | (go_simp; rfl)); (case hp => exact (Reps.one (show Kd.FK (Kd.slice 9 Kd.string) _ _ t145 [.slice Ao13 t145.length co13] from (Kd.FK_slice_mk (Kd.R_reads' (Kd.R_mono (ok' := (fun k_ => some k_ ≠ (v143 : Value).ownBlock)) (Kd.R_apart' (HO147.out) (Kd.R_typed HO144.out) (by decide)) (fun k_ hk => hk.2))).2.1 (by first | exact Kd.R_F (Kd.R_mono (ok' := (fun k_ => some k_ ≠ (v143 : Value).ownBlock)) (Kd.R_apart' (HO147.out) (Kd.R_typed HO144.out) (by decide)) (fun k_ hk => hk.2)) | exact Kd.F_drewN (Kd.R_F (Kd.R_mono (ok' := (fun k_ => some k_ ≠ (v143 : Value).ownBlock)) (Kd.R_apart' (HO147.out) (Kd.R_typed HO144.out) (by decide)) (fun k_ hk => hk.2))) _ | exact Kd.F_drewN (Kd.F_drewN (Kd.R_F (Kd.R_mono (ok' := (fun k_ => some k_ ≠ (v143 : Value).ownBlock)) (Kd.R_apart' (HO147.out) (Kd.R_typed HO144.out) (by decide)) (fun k_ hk => hk.2))) _) _))) (Reps.one (show Kd.FK (Kd.slice 9 Kd.string) _ _ t148 [.slice Ao14 t148.length co14] from (Kd.FK_slice_mk (Kd.R_reads' (Kd.R_mono (ok' := (fun k_ => some k_ ≠ (v143 : Value).ownBlock)) (Kd.R_apart' (HO150.out) (Kd.R_typed HO144.out) (by decide)) (fun k_ hk => hk.2))).2.1 (by first | exact Kd.R_F (Kd.R_mono (ok' := (fun k_ => some k_ ≠ (v143 : Value).ownBlock)) (Kd.R_apart' (HO150.out) (Kd.R_typed HO144.out) (by decide)) (fun k_ hk => hk.2)) | exact Kd.F_drewN (Kd.R_F (Kd.R_mono (ok' := (fun k_ => some k_ ≠ (v143 : Value).ownBlock)) (Kd.R_apart' (HO150.out) (Kd.R_typed HO144.out) (by decide)) (fun k_ hk => hk.2))) _ | exact Kd.F_drewN (Kd.F_drewN (Kd.R_F (Kd.R_mono (ok' := (fun k_ => some k_ ≠ (v143 : Value).ownBlock)) (Kd.R_apart' (HO150.out) (Kd.R_typed HO144.out) (by decide)) (fun k_ hk => hk.2))) _) _))) (Reps.one (show Kd.FK (Kd.slice 9 Kd.string) _ _ t151 [.slice Ao15 t151.length co15] from (Kd.FK_slice_mk (Kd.R_reads' (Kd.R_mono (ok' := (fun k_ => some k_ ≠ (v143 : Value).ownBlock)) (Kd.R_apart' (HO153.out) (Kd.R_typed HO144.out) (by decide)) (fun k_ hk => hk.2))).2.1 (by first | exact Kd.R_F (Kd.R_mono (ok' := (fun k_ => some k_ ≠ (v143 : Value).ownBlock)) (Kd.R_apart' (HO153.out) (Kd.R_typed HO144.out) (by decide)) (fun k_ hk => hk.2)) | exact Kd.F_drewN (Kd.R_F (Kd.R_mono (ok' := (fun k_ => some k_ ≠ (v143 : Value).ownBlock)) (Kd.R_apart' (HO153.out) (Kd.R_typed HO144.out) (by decide)) (fun k_ hk => hk.2))) _ | exact Kd.F_drewN (Kd.F_drewN (Kd.R_F (Kd.R_mono (ok' := (fun k_ => some k_ ≠ (v143 : Value).ownBlock)) (Kd.R_apart' (HO153.out) (Kd.R_typed HO144.out) (by decide)) (fun k_ hk => hk.2))) _) _))) (Reps.one (show Kd.FK (Kd.slice 9 Kd.string) _ _ t154 [.slice Ao16 t154.length co16] from (Kd.FK_slice_mk (Kd.R_reads' (Kd.R_mono (ok' := (fun k_ => some k_ ≠ (v143 : Value).ownBlock)) (Kd.R_apart' (HO156.out) (Kd.R_typed HO144.out) (by decide)) (fun k_ hk => hk.2))).2.1 (by first | exact Kd.R_F (Kd.R_mono (ok' := (fun k_ => some k_ ≠ (v143 : Value).ownBlock)) (Kd.R_apart' (HO156.out) (Kd.R_typed HO144.out) (by decide)) (fun k_ hk => hk.2)) | exact Kd.F_drewN (Kd.R_F (Kd.R_mono (ok' := (fun k_ => some k_ ≠ (v143 : Value).ownBlock)) (Kd.R_apart' (HO156.out) (Kd.R_typed HO144.out) (by decide)) (fun k_ hk => hk.2))) _ | exact Kd.F_drewN (Kd.F_drewN (Kd.R_F (Kd.R_mono (ok' := (fun k_ => some k_ ≠ (v143 : Value).ownBlock)) (Kd.R_apart' (HO156.out) (Kd.R_typed HO144.out) (by decide)) (fun k_ hk => hk.2))) _) _))) (Reps.one (show Kd.FK (Kd.slice 9 Kd.string) _ _ t157 [.slice Ao17 t157.length co17] from (Kd.FK_slice_mk (Kd.R_reads' (Kd.R_mono (ok' := (fun k_ => some k_ ≠ (v143 : Value).ownBlock)) (Kd.R_apart' (HO159.out) (Kd.R_typed HO144.out) (by decide)) (fun k_ hk => hk.2))).2.1 (by first | exact Kd.R_F (Kd.R_mono (ok' := (fun k_ => some k_ ≠ (v143 : Value).ownBlock)) (Kd.R_apart' (HO159.out) (Kd.R_typed HO144.out) (by decide)) (fun k_ hk => hk.2)) | exact Kd.F_drewN (Kd.R_F (Kd.R_mono (ok' := (fun k_ => some k_ ≠ (v143 : Value).ownBlock)) (Kd.R_apart' (HO159.out) (Kd.R_typed HO144.out) (by decide)) (fun k_ hk => hk.2))) _ | exact Kd.F_drewN (Kd.F_drewN (Kd.R_F (Kd.R_mono (ok' := (fun k_ => some k_ ≠ (v143 : Value).ownBlock)) (Kd.R_apart' (HO159.out) (Kd.R_typed HO144.out) (by decide)) (fun k_ hk => hk.2))) _) _))) (Reps.none _ _))))))); intro v161 w18 ho19 hb hg_ hnew_; clear hg_ hnew_; (first | rw [← Ny160.out] at ho19 | (simp only [Int.reduceToNat] at ho19; rw [← Ny160.out] at ho19)); replace HO144 := Aside0.mk (Kd.R_below (by (with_reducible repeat (first | apply Kd.R_alloc | apply Kd.R_drewN | apply Kd.R_drew)); exact HO144.out) hb); have HO162 := Aside0.mk (Kd.N_lower ho19 (below_size (by repeat (first | (with_reducible first | exact HB.out | apply below_alloc | apply pw_below_drewN | apply below_drew1) | exact HB.out)))); replace HB := Aside0.mk (below_step (by repeat (first | (with_reducible first | exact HB.out | apply below_alloc | apply pw_below_drewN | apply below_drew1) | exact HB.out)) hb); clear HO147; clear HO150; clear HO153; clear HO156; clear HO159; clear hb ho19))
  go_loopg [1, 3] k (fun kq v1 v3 w' => ∃ (x1_1 : List (S39)) (x3_1 : Int), v3 = .int .i64 x3_1 ∧ Aside0 (spec_l04Kernel.l0 kq x1_1 y160 x3_1 = some r) ∧ Aside0 (kq ≤ k) ∧ Aside0 (Kd.R k39 39 w' w.heap.size (fun _ => True) v1 x1_1) ∧ Aside0 (Kd.N (Kd.slice 9 Kd.string) 63 w' w.heap.size (fun k_ => some k_ ≠ (v1 : Value).ownBlock) v161 y160) ∧ Aside0 (Below w.heap.size w w'))
  case atStart => exact ⟨(y142), (0), (by first | rfl | (simp; done) | (simp [*]; done)), H', ⟨Nat.le_refl _⟩, ⟨by (with_reducible repeat (first | apply Kd.R_alloc | apply Kd.R_drewN | apply Kd.R_drew)); exact HO144.out⟩, ⟨by (with_reducible repeat (first | apply Kd.N_alloc | apply Kd.N_drewN | apply Kd.N_drew)); exact HO162.out⟩, ⟨by repeat (first | (with_reducible first | exact HB.out | apply below_alloc | apply pw_below_drewN | apply below_drew1) | exact HB.out)⟩⟩
  case round =>
    clear H'
    try clear p2
    try clear c4
    try clear c9
    obtain ⟨x1_1, x3_1, rfl, HA, HK1, HO_1, HO_2, HB⟩ := hrel
    cases gk with
    | zero => exact absurd HA.out (by simp [spec_l04Kernel.l0])
    | succ k1 =>
      have H := HA.out
      clear HA
      simp only [spec_l04Kernel.l0] at H
      by_cases c20 : x3_1 < (y160.length : Int)
      · rw [if_pos c20] at H
        have c20b0 : decide (x3_1 < (y160.length : Int)) = true := decide_eq_true c20
        clear c20
        have H' := Aside0.mk H
        clear H
        obtain ⟨Ao21, co21, eo21⟩ := Kd.N_slice HO_2.out
        subst eo21
        go_wp2
        go_loopg [1, 4] k1 (fun kq v1 v4 w' => ∃ (x1_2 : List (S39)) (x4_2 : Int), v4 = .int .i64 x4_2 ∧ Aside0 (spec_l04Kernel.l1 kq x1_2 y160 x3_1 x4_2 = some r) ∧ Aside0 (kq ≤ k1) ∧ Aside0 (Kd.R k39 39 w' w.heap.size (fun _ => True) v1 x1_2) ∧ Aside0 (Kd.N (Kd.slice 9 Kd.string) 63 w' w.heap.size (fun k_ => some k_ ≠ (v1 : Value).ownBlock) (.slice Ao21 y160.length co21) y160) ∧ Aside0 (Below w.heap.size w w'))
        case atStart => exact ⟨(x1_1), (0), (by first | rfl | (simp; done) | (simp [*]; done)), H', ⟨Nat.le_refl _⟩, ⟨by (with_reducible repeat (first | apply Kd.R_alloc | apply Kd.R_drewN | apply Kd.R_drew)); exact HO_1.out⟩, ⟨by (with_reducible repeat (first | apply Kd.N_alloc | apply Kd.N_drewN | apply Kd.N_drew)); exact HO_2.out⟩, ⟨by repeat (first | (with_reducible first | exact HB.out | apply below_alloc | apply pw_below_drewN | apply below_drew1) | exact HB.out)⟩⟩
        case round =>
          clear H'
          try clear c2
          try clear p2
          try clear c4
          try clear c9
          try clear c20
          try clear c20b0
          try clear p2
          obtain ⟨x1_2, x4_2, rfl, HA, HK2, HO_1, HO_2, HB⟩ := hrel
          cases gk with
          | zero => exact absurd HA.out (by simp [spec_l04Kernel.l1])
          | succ k2 =>
            have H := HA.out
            clear HA
            simp only [spec_l04Kernel.l1] at H
            by_cases c22 : 0 ≤ x3_1
            · rw [if_pos c22] at H
              have c22b0 : decide (0 ≤ x3_1) = true := decide_eq_true c22
              clear c22
              by_cases c23 : x3_1 < (y160.length : Int)
              · rw [if_pos c23] at H
                have c23b0 : decide (x3_1 < (y160.length : Int)) = true := decide_eq_true c23
                clear c23
                by_cases c24 : x4_2 < ((rd_L5 y160 x3_1).length : Int)
                · rw [if_pos c24] at H
                  have c24b0 : decide (x4_2 < ((rd_L5 y160 x3_1).length : Int)) = true := decide_eq_true c24
                  clear c24
                  by_cases c25 : 0 ≤ x4_2
                  · rw [if_pos c25] at H
                    have c25b0 : decide (0 ≤ x4_2) = true := decide_eq_true c25
                    clear c25
                    by_cases c26 : x1_2.length < 4398046511104
                    · rw [if_pos c26] at H
                      have LMc26 := Aside0.mk c26
                      clear c26
                      obtain ⟨y166, hy166⟩ : ∃ y_ : List (S39), y_ = (x1_2 ++ [(⟨rdOf ByteArray.empty (rd_L5 y160 x3_1) x4_2, wrap64 (x3_1 + 1), wrap64 (x4_2 + 1)⟩ : S39)]) := ⟨_, rfl⟩
                      replace H : (spec_l04Kernel.l1 k2 y166 y160 x3_1 (wrap64 (x4_2 + 1))) = some r := by first | (rw [hy166]; with_reducible exact H) | (have H2_ := (Option.bind_some _ _).symm.trans H; rw [hy166]; with_reducible exact H2_) | (have H2_ := (Option.bind_some _ _).symm.trans H; with_reducible exact H2_) | with_reducible exact H | (rw [hy166]; exact H) | exact H
                      have Ny166 := Aside0.mk hy166
                      clear hy166
                      have H' := Aside0.mk H
                      clear H
                      have p163 : 0 ≤ (x3_1 : Int) := of_decide_eq_true (by first | (with_reducible assumption) | assumption)
                      have q163 : x3_1 < (y160.length : Int) := of_decide_eq_true (by first | (with_reducible assumption) | assumption)
                      obtain ⟨ad163, A163_0, c163_0, e163, hx163_0, hl163_0, hi163_0⟩ := at_L5 (Kd.N_reads' HO_2.out).2.2 x3_1 p163 q163
                      cases e163
                      obtain ⟨ce163, hce163, hMe163, hcc163⟩ := Kd.N_get HO_2.out [] x3_1 p163 (by first | exact q163 | exact of_decide_eq_true (by first | (with_reducible assumption) | assumption) | (have e_ := (Kd.N_reads' HO_2.out).1; omega))
                      obtain ⟨ua163_0, uc163_0, rfl, ul163_0, ge163_0⟩ := Kd.FK_slice_open hMe163
                      have hv163_0 := hcc163 0 _ rfl
                      rw [Nat.add_zero, show ((Kd.slice 9 Kd.string)).sz = 1 from rfl, Nat.mul_one] at hv163_0
                      replace hv163_0 := Option.some.inj (hv163_0.symm.trans hx163_0)
                      injection hv163_0 with hva_ hvn_ hvc_
                      rw [hva_] at ge163_0
                      rw [hvc_] at ul163_0
                      have HL163_0 := Aside0.mk (show Kd.V Kd.string 9 _ w.heap.size _ _ (rd_L5 y160 x3_1) from Kd.V_mk ul163_0 ge163_0)
                      clear hva_ hvn_ hvc_ ge163_0 ul163_0
                      clear hcc163 hce163
                      have HR163_0 := Aside0.mk hi163_0
                      have HC163_0 := Aside0.mk hl163_0
                      clear hi163_0 hl163_0
                      replace p163 := eq_true p163
                      replace q163 := eq_true q163
                      have p164 : 0 ≤ (x3_1 : Int) := of_decide_eq_true (by first | (with_reducible assumption) | assumption)
                      have q164 : x3_1 < (y160.length : Int) := of_decide_eq_true (by first | (with_reducible assumption) | assumption)
                      obtain ⟨ad164, A164_0, c164_0, e164, hx164_0, hl164_0, hi164_0⟩ := at_L5 (Kd.N_reads' HO_2.out).2.2 x3_1 p164 q164
                      obtain rfl : ad163 = ad164 := (by injection e164)
                      obtain ⟨ce164, hce164, hMe164, hcc164⟩ := Kd.N_get HO_2.out [] x3_1 p164 (by first | exact q164 | exact of_decide_eq_true (by first | (with_reducible assumption) | assumption) | (have e_ := (Kd.N_reads' HO_2.out).1; omega))
                      obtain ⟨ua164_0, uc164_0, rfl, ul164_0, ge164_0⟩ := Kd.FK_slice_open hMe164
                      have hv164_0 := hcc164 0 _ rfl
                      rw [Nat.add_zero, show ((Kd.slice 9 Kd.string)).sz = 1 from rfl, Nat.mul_one] at hv164_0
                      replace hv164_0 := Option.some.inj (hv164_0.symm.trans hx164_0)
                      injection hv164_0 with hva_ hvn_ hvc_
                      rw [hva_] at ge164_0
                      rw [hvc_] at ul164_0
                      have HL164_0 := Aside0.mk (show Kd.V Kd.string 9 _ w.heap.size _ _ (rd_L5 y160 x3_1) from Kd.V_mk ul164_0 ge164_0)
                      clear hva_ hvn_ hvc_ ge164_0 ul164_0
                      clear hcc164 hce164
                      have HR164_0 := Aside0.mk hi164_0
                      have HC164_0 := Aside0.mk hl164_0
                      clear hi164_0 hl164_0
                      replace p164 := eq_true p164
                      replace q164 := eq_true q164
                      have ea_ := Option.some.inj (hx163_0.symm.trans hx164_0)
                      injection ea_ with ea_ en_ ec_
                      subst ea_
                      subst ec_
                      clear en_
                      have p165 : 0 ≤ (x4_2 : Int) := of_decide_eq_true (by first | (with_reducible assumption) | assumption)
                      have q165 : x4_2 < ((rd_L5 y160 x3_1).length : Int) := of_decide_eq_true (by first | (with_reducible assumption) | assumption)
                      obtain ⟨ad165, e165, hx165_0⟩ := Kd.at_string (by repeat (first | (with_reducible exact HR164_0.out) | (with_reducible refine Kd.C_alloc ?_ _) | (with_reducible refine Kd.C_drewN ?_ _) | (with_reducible refine Kd.C_drew ?_) | exact HR164_0.out)) x4_2 p165 q165
                      cases e165
                      replace p165 := eq_true p165
                      replace q165 := eq_true q165
                      go_wp2_with (first | ((with_reducible refine gate_builtin (b := .append) (xs := #[.tmp 27, .tmp 40]) rfl ?_); at_builtin; refine Kd.R_append k39 (w0 := w) w.heap.size rfl (.tmp 27) (.tmp 40) 22 39 (.agg #[(.string ⟨#[]⟩), (.int .i64 0), (.int .i64 0)]) 32 rfl Tryd.underlying22 info39 rfl (by decide) (by omega) u1 x1_2 (⟨rdOf ByteArray.empty (rd_L5 y160 x3_1) x4_2, wrap64 (x3_1 + 1), wrap64 (x4_2 + 1)⟩ : S39) [.string (rdOf ByteArray.empty (rd_L5 y160 x3_1) x4_2), .int .i64 (wrap64 (x3_1 + 1)), .int .i64 (wrap64 (x4_2 + 1))] (fun _ => True) (fun _ => False) rfl rfl ?aP (fun _ hk => hk.elim) ?aF ?aO ?aB ?aS ?aL ?_; (case aP => exact k39_mkM _ _ _ (⟨rdOf ByteArray.empty (rd_L5 y160 x3_1) x4_2, wrap64 (x3_1 + 1), wrap64 (x4_2 + 1)⟩ : S39)); (case aB => exact (by repeat (first | (with_reducible first | exact HB.out | apply below_alloc | apply pw_below_drewN | apply below_drew1) | exact HB.out))); (case aF => exact (fun _ _ => trivial)); (case aO => exact (by (with_reducible repeat (first | apply Kd.R_alloc | apply Kd.R_drewN | apply Kd.R_drew)); exact HO_1.out)); (case aS => exact (below_size (by repeat (first | (with_reducible first | exact HB.out | apply below_alloc | apply pw_below_drewN | apply below_drew1) | exact HB.out)))); (case aL => have := LMc26.out; omega); intro v167 w27 ho hb hg hat; rw [← Ny166.out] at ho; replace HO_2 := Aside0.mk (Kd.N_afterv (ok := (fun _ => True)) (by (with_reducible repeat (first | apply Kd.N_alloc | apply Kd.N_drewN | apply Kd.N_drew)); exact Kd.N_mono HO_2.out (fun _ hk => ⟨trivial, hk⟩)) hg hat); replace HL163_0 := Aside0.mk (Kd.V_afterv (ok := (fun k_ => some k_ ≠ (.slice (some ad163) y160.length co21 : Value).ownBlock)) (by (with_reducible repeat (first | apply Kd.V_alloc | apply Kd.V_drewN | apply Kd.V_drew)); exact Kd.V_mono HL163_0.out (fun _ hk => ⟨hk.2, hk.1⟩)) hg hat); replace HL164_0 := Aside0.mk (Kd.V_afterv (ok := (fun k_ => some k_ ≠ (.slice (some ad163) y160.length co21 : Value).ownBlock)) (by (with_reducible repeat (first | apply Kd.V_alloc | apply Kd.V_drewN | apply Kd.V_drew)); exact Kd.V_mono HL164_0.out (fun _ hk => ⟨hk.2, hk.1⟩)) hg hat); replace HB := Aside0.mk (hb); have HO168 := Aside0.mk (ho); clear HO_1; clear ho hb hg hat))
                      go_roundg k2
                      case measure => have := HK1.out; have := HK2.out; omega
                      case rel => exact ⟨(y166), (wrap64 (x4_2 + 1)), (by first | rfl | (simp; done) | (simp [*]; done)), H', ⟨by have := HK1.out; have := HK2.out; omega⟩, ⟨by (with_reducible repeat (first | apply Kd.R_alloc | apply Kd.R_drewN | apply Kd.R_drew)); exact HO168.out⟩, ⟨by (with_reducible repeat (first | apply Kd.N_alloc | apply Kd.N_drewN | apply Kd.N_drew)); exact Kd.N_mono HO_2.out (fun _ hk => hk.2)⟩, ⟨by repeat (first | (with_reducible first | exact HB.out | apply below_alloc | apply pw_below_drewN | apply below_drew1) | exact HB.out)⟩⟩
                    · rw [if_neg c26] at H
                      exact absurd H (by simp)
                  · rw [if_neg c25] at H
                    exact absurd H (by simp)
                · rw [if_neg c24] at H
                  have c24b0 : decide (x4_2 < ((rd_L5 y160 x3_1).length : Int)) = false := decide_eq_false c24
                  clear c24
                  have H' := Aside0.mk H
                  clear H
                  have p163 : 0 ≤ (x3_1 : Int) := of_decide_eq_true (by first | (with_reducible assumption) | assumption)
                  have q163 : x3_1 < (y160.length : Int) := of_decide_eq_true (by first | (with_reducible assumption) | assumption)
                  obtain ⟨ad163, A163_0, c163_0, e163, hx163_0, hl163_0, hi163_0⟩ := at_L5 (Kd.N_reads' HO_2.out).2.2 x3_1 p163 q163
                  cases e163
                  obtain ⟨ce163, hce163, hMe163, hcc163⟩ := Kd.N_get HO_2.out [] x3_1 p163 (by first | exact q163 | exact of_decide_eq_true (by first | (with_reducible assumption) | assumption) | (have e_ := (Kd.N_reads' HO_2.out).1; omega))
                  obtain ⟨ua163_0, uc163_0, rfl, ul163_0, ge163_0⟩ := Kd.FK_slice_open hMe163
                  have hv163_0 := hcc163 0 _ rfl
                  rw [Nat.add_zero, show ((Kd.slice 9 Kd.string)).sz = 1 from rfl, Nat.mul_one] at hv163_0
                  replace hv163_0 := Option.some.inj (hv163_0.symm.trans hx163_0)
                  injection hv163_0 with hva_ hvn_ hvc_
                  rw [hva_] at ge163_0
                  rw [hvc_] at ul163_0
                  have HL163_0 := Aside0.mk (show Kd.V Kd.string 9 _ w.heap.size _ _ (rd_L5 y160 x3_1) from Kd.V_mk ul163_0 ge163_0)
                  clear hva_ hvn_ hvc_ ge163_0 ul163_0
                  clear hcc163 hce163
                  have HR163_0 := Aside0.mk hi163_0
                  have HC163_0 := Aside0.mk hl163_0
                  clear hi163_0 hl163_0
                  replace p163 := eq_true p163
                  replace q163 := eq_true q163
                  go_wp2
                  go_roundg k2
                  case measure => have := HK1.out; have := HK2.out; omega
                  case rel => exact ⟨(x1_2), (wrap64 (x3_1 + 1)), (by first | rfl | (simp; done) | (simp [*]; done)), H', ⟨by have := HK1.out; have := HK2.out; omega⟩, ⟨by (with_reducible repeat (first | apply Kd.R_alloc | apply Kd.R_drewN | apply Kd.R_drew)); exact HO_1.out⟩, ⟨by (with_reducible repeat (first | apply Kd.N_alloc | apply Kd.N_drewN | apply Kd.N_drew)); exact HO_2.out⟩, ⟨by repeat (first | (with_reducible first | exact HB.out | apply below_alloc | apply pw_below_drewN | apply below_drew1) | exact HB.out)⟩⟩
              · rw [if_neg c23] at H
                exact absurd H (by simp)
            · rw [if_neg c22] at H
              exact absurd H (by simp)
      · rw [if_neg c20] at H
        have c20b0 : decide (x3_1 < (y160.length : Int)) = false := decide_eq_false c20
        clear c20
        obtain rfl := Option.some.inj H
        obtain ⟨Ao28, co28, eo28⟩ := Kd.N_slice HO_2.out
        subst eo28
        go_wp2
        go_ret
        exact ⟨_, by first | rfl | (simp [errW_none, errW_some] <;> rfl) | (simp [*, errW_none, errW_some] <;> rfl), by (with_reducible repeat (first | apply Kd.R_alloc | apply Kd.R_drewN | apply Kd.R_drew)); exact HO_1.out, by repeat (first | (with_reducible first | exact HB.out | apply below_alloc | apply pw_below_drewN | apply below_drew1) | exact HB.out)⟩

/-! ### spec_l04Same: function 53 -/
def spec_l04Same.l0 : Nat → List (S39) → List (S39) → Int → Option (Bool)
  | 0, _, _, _ => none
  | k + 1, x0, x3, x4 => if x4 < (x3.length : Int) then (if 0 ≤ x4 then (if x4 < (x0.length : Int) then (if (!((((rd_T39 x0 x4).f0).toList) == (((rd_T39 x3 x4).f0).toList)) || (!(((rd_T39 x0 x4).f1) == ((rd_T39 x3 x4).f1)) || (!(((rd_T39 x0 x4).f2) == ((rd_T39 x3 x4).f2))))) = true then (some false) else (spec_l04Same.l0 k x0 x3 (wrap64 (x4 + 1)))) else (none)) else (none)) else (some true)
def spec_l04Same.f (k : Nat) (l0 : List (S39)) : Option (Bool) := (spec_l04Kernel.f k).bind fun t169 => (if (l0.length : Int) < (t169.length : Int) then (some false) else (spec_l04Same.l0 k l0 t169 0))
theorem spec_l04Same.mono_l : ∀ k, (∀ y0 y1 y2, LeO (spec_l04Same.l0 k y0 y1 y2) (spec_l04Same.l0 (k + 1) y0 y1 y2))
  | 0 => fun _ _ _ r h => by simp [spec_l04Same.l0] at h
  | k + 1 => by
    have ih0 := spec_l04Same.mono_l k
    · intro y0 y1 y2
      unfold spec_l04Same.l0
      repeat' first
      | (with_reducible exact ih0 _ _ _)
      | (with_reducible exact spec_l04Kernel.mono _)
      | (with_reducible exact LeO.refl _)
      | (with_reducible exact LeO.none _)
      | (with_reducible refine LeO.ite ?_ ?_)
      | (with_reducible refine LeO.bind ?_ (fun _ => ?_))
      | exact ih0 _ _ _
      | exact spec_l04Kernel.mono _
      | exact LeO.none _
      | refine LeO.ite ?_ ?_
      | refine LeO.bind ?_ (fun _ => ?_)
theorem spec_l04Same.mono : ∀ a0 k, LeO (spec_l04Same.f k a0) (spec_l04Same.f (k + 1) a0) := by
  intro a0 k
  have ih0 := spec_l04Same.mono_l k
  unfold spec_l04Same.f
  repeat' first
      | (with_reducible exact ih0 _ _ _)
      | (with_reducible exact spec_l04Kernel.mono _)
      | (with_reducible exact LeO.refl _)
      | (with_reducible exact LeO.none _)
      | (with_reducible refine LeO.ite ?_ ?_)
      | (with_reducible refine LeO.bind ?_ (fun _ => ?_))
      | exact ih0 _ _ _
      | exact spec_l04Kernel.mono _
      | exact LeO.none _
      | refine LeO.ite ?_ ?_
      | refine LeO.bind ?_ (fun _ => ?_)
set_option maxHeartbeats 8000000 in
set_option maxRecDepth 100000 in
theorem spec_l04Same.calls (k : Nat) (A0 : Option Addr) (c0 : Nat) (l0 : List (S39)) (r : Bool) (w : World) (hr0 : Kd.C k39 w A0 l0.length l0) (hc0 : l0.length ≤ c0) (h : spec_l04Same.f k l0 = some r) :
    Calls Tryd.prog 53 #[.slice A0 l0.length c0] w fun e w' => e = .returned (.bool r) ∧ Below w.heap.size w w' := by
  have hu39 := Tryd.underlying39
  have HR0 := Aside0.mk hr0
  have HC0 := Aside0.mk hc0
  clear hr0 hc0
  have HB := Aside0.mk (Below.refl w.heap.size w)
  have H : ((spec_l04Kernel.f k).bind fun t169 => (if (l0.length : Int) < (t169.length : Int) then (some false) else (spec_l04Same.l0 k l0 t169 0))) = some r := h
  clear h
  replace H := Option.bind_eq_some_iff.mp H
  obtain ⟨t169, A20, H⟩ := H
  replace H : (if (l0.length : Int) < (t169.length : Int) then (some false) else (spec_l04Same.l0 k l0 t169 0)) = some r := H
  have A2 := Aside0.mk A20
  clear A20
  by_cases c3 : (l0.length : Int) < (t169.length : Int)
  · rw [if_pos c3] at H
    have c3b0 : decide ((l0.length : Int) < (t169.length : Int)) = true := decide_eq_true c3
    have c3b1 : decide (l0.length < t169.length) = true := decide_eq_true (Int.ofNat_lt.mp c3)
    clear c3
    obtain rfl := Option.some.inj H
    go_enter Tryd.func53, Tryd.ntmps53
    go_wp2_with (first | (go_at_call 48; (with_reducible refine (spec_l04Kernel.calls k  t169 _ A2.out).mono ?_); rintro e w4 ⟨v170, rfl, ho0, hb⟩; have HO171 := Aside0.mk (Kd.R_lower ho0 (below_size (by repeat (first | (with_reducible first | exact HB.out | apply below_alloc | apply pw_below_drewN | apply below_drew1) | exact HB.out)))); replace HB := Aside0.mk (below_step (by repeat (first | (with_reducible first | exact HB.out | apply below_alloc | apply pw_below_drewN | apply below_drew1) | exact HB.out)) hb); (try clear hb); (try clear hb2); (try clear hk); (try clear hi); (try clear ho0); obtain ⟨Ao5, co5, eo5⟩ := Kd.R_slice HO171.out; subst eo5))
    repeat (go_quiet (first | (go_at_call 48; (with_reducible refine (spec_l04Kernel.calls k  t169 _ A2.out).mono ?_); rintro e w4 ⟨v170, rfl, ho0, hb⟩; have HO171 := Aside0.mk (Kd.R_lower ho0 (below_size (by repeat (first | (with_reducible first | exact HB.out | apply below_alloc | apply pw_below_drewN | apply below_drew1) | exact HB.out)))); replace HB := Aside0.mk (below_step (by repeat (first | (with_reducible first | exact HB.out | apply below_alloc | apply pw_below_drewN | apply below_drew1) | exact HB.out)) hb); (try clear hb); (try clear hb2); (try clear hk); (try clear hi); (try clear ho0); obtain ⟨Ao5, co5, eo5⟩ := Kd.R_slice HO171.out; subst eo5)); try go_wp2_with (first | (go_at_call 48; (with_reducible refine (spec_l04Kernel.calls k  t169 _ A2.out).mono ?_); rintro e w4 ⟨v170, rfl, ho0, hb⟩; have HO171 := Aside0.mk (Kd.R_lower ho0 (below_size (by repeat (first | (with_reducible first | exact HB.out | apply below_alloc | apply pw_below_drewN | apply below_drew1) | exact HB.out)))); replace HB := Aside0.mk (below_step (by repeat (first | (with_reducible first | exact HB.out | apply below_alloc | apply pw_below_drewN | apply below_drew1) | exact HB.out)) hb); (try clear hb); (try clear hb2); (try clear hk); (try clear hi); (try clear ho0); obtain ⟨Ao5, co5, eo5⟩ := Kd.R_slice HO171.out; subst eo5)))
    go_ret
    exact ⟨by first | rfl | (simp [errW_none, errW_some] <;> rfl) | (simp [*, errW_none, errW_some] <;> rfl), by repeat (first | (with_reducible first | exact HB.out | apply below_alloc | apply pw_below_drewN | apply below_drew1) | exact HB.out)⟩
  · rw [if_neg c3] at H
    have c3b0 : decide ((l0.length : Int) < (t169.length : Int)) = false := decide_eq_false c3
    have c3b1 : decide (l0.length < t169.length) = false := decide_eq_false (fun h => c3 (Int.ofNat_lt.mpr h))
    clear c3
    have H' := Aside0.mk H
    clear H
    go_enter Tryd.func53, Tryd.ntmps53
    go_wp2_with (first | (go_at_call 48; (with_reducible refine (spec_l04Kernel.calls k  t169 _ A2.out).mono ?_); rintro e w6 ⟨v170, rfl, ho0, hb⟩; have HO171 := Aside0.mk (Kd.R_lower ho0 (below_size (by repeat (first | (with_reducible first | exact HB.out | apply below_alloc | apply pw_below_drewN | apply below_drew1) | exact HB.out)))); replace HB := Aside0.mk (below_step (by repeat (first | (with_reducible first | exact HB.out | apply below_alloc | apply pw_below_drewN | apply below_drew1) | exact HB.out)) hb); (try clear hb); (try clear hb2); (try clear hk); (try clear hi); (try clear ho0); obtain ⟨Ao7, co7, eo7⟩ := Kd.R_slice HO171.out; subst eo7))
    repeat (go_quiet (first | (go_at_call 48; (with_reducible refine (spec_l04Kernel.calls k  t169 _ A2.out).mono ?_); rintro e w6 ⟨v170, rfl, ho0, hb⟩; have HO171 := Aside0.mk (Kd.R_lower ho0 (below_size (by repeat (first | (with_reducible first | exact HB.out | apply below_alloc | apply pw_below_drewN | apply below_drew1) | exact HB.out)))); replace HB := Aside0.mk (below_step (by repeat (first | (with_reducible first | exact HB.out | apply below_alloc | apply pw_below_drewN | apply below_drew1) | exact HB.out)) hb); (try clear hb); (try clear hb2); (try clear hk); (try clear hi); (try clear ho0); obtain ⟨Ao7, co7, eo7⟩ := Kd.R_slice HO171.out; subst eo7)); try go_wp2_with (first | (go_at_call 48; (with_reducible refine (spec_l04Kernel.calls k  t169 _ A2.out).mono ?_); rintro e w6 ⟨v170, rfl, ho0, hb⟩; have HO171 := Aside0.mk (Kd.R_lower ho0 (below_size (by repeat (first | (with_reducible first | exact HB.out | apply below_alloc | apply pw_below_drewN | apply below_drew1) | exact HB.out)))); replace HB := Aside0.mk (below_step (by repeat (first | (with_reducible first | exact HB.out | apply below_alloc | apply pw_below_drewN | apply below_drew1) | exact HB.out)) hb); (try clear hb); (try clear hb2); (try clear hk); (try clear hi); (try clear ho0); obtain ⟨Ao7, co7, eo7⟩ := Kd.R_slice HO171.out; subst eo7)))
    go_loopg [4] k (fun kq v4 w' => ∃ (x4_1 : Int), v4 = .int .i64 x4_1 ∧ Aside0 (spec_l04Same.l0 kq l0 t169 x4_1 = some r) ∧ Aside0 (kq ≤ k) ∧ Aside0 (Kd.R k39 39 w' w.heap.size (fun _ => True) (.slice Ao7 t169.length co7) t169) ∧ Aside0 (Below w.heap.size w w'))
    case atStart => exact ⟨(0), (by first | rfl | (simp; done) | (simp [*]; done)), H', ⟨Nat.le_refl _⟩, ⟨by (with_reducible repeat (first | apply Kd.R_alloc | apply Kd.R_drewN | apply Kd.R_drew)); exact HO171.out⟩, ⟨by repeat (first | (with_reducible first | exact HB.out | apply below_alloc | apply pw_below_drewN | apply below_drew1) | exact HB.out)⟩⟩
    case round =>
      clear H'
      try clear p2
      try clear c3
      try clear c3b0
      try clear c3b1
      try clear c5
      obtain ⟨x4_1, rfl, HA, HK1, HO_3, HB⟩ := hrel
      cases gk with
      | zero => exact absurd HA.out (by simp [spec_l04Same.l0])
      | succ k1 =>
        have H := HA.out
        clear HA
        simp only [spec_l04Same.l0] at H
        by_cases c8 : x4_1 < (t169.length : Int)
        · rw [if_pos c8] at H
          have c8b0 : decide (x4_1 < (t169.length : Int)) = true := decide_eq_true c8
          clear c8
          by_cases c9 : 0 ≤ x4_1
          · rw [if_pos c9] at H
            have c9b0 : decide (0 ≤ x4_1) = true := decide_eq_true c9
            clear c9
            by_cases c10 : x4_1 < (l0.length : Int)
            · rw [if_pos c10] at H
              have c10b0 : decide (x4_1 < (l0.length : Int)) = true := decide_eq_true c10
              clear c10
              by_cases c11 : (!((((rd_T39 l0 x4_1).f0).toList) == (((rd_T39 t169 x4_1).f0).toList)) || (!(((rd_T39 l0 x4_1).f1) == ((rd_T39 t169 x4_1).f1)) || (!(((rd_T39 l0 x4_1).f2) == ((rd_T39 t169 x4_1).f2))))) = true
              · rw [if_pos c11] at H
                have c11b0 : (!((((rd_T39 l0 x4_1).f0).toList) == (((rd_T39 t169 x4_1).f0).toList)) || (!(((rd_T39 l0 x4_1).f1) == ((rd_T39 t169 x4_1).f1)) || (!(((rd_T39 l0 x4_1).f2) == ((rd_T39 t169 x4_1).f2))))) = true := c11
                clear c11
                obtain rfl := Option.some.inj H
                have p172 : 0 ≤ (x4_1 : Int) := of_decide_eq_true (by first | (with_reducible assumption) | assumption)
                have q172 : x4_1 < (l0.length : Int) := of_decide_eq_true (by first | (with_reducible assumption) | assumption)
                obtain ⟨ad172, e172, hx172_0, hx172_1, hx172_2⟩ := at_T39 HR0.out x4_1 p172 q172
                cases e172
                replace hx172_0 := (HB.out.cell (World.block_lt_of_cell? w _ hx172_0)).trans hx172_0
                replace hx172_1 := (HB.out.cell (World.block_lt_of_cell? w _ hx172_1)).trans hx172_1
                replace hx172_2 := (HB.out.cell (World.block_lt_of_cell? w _ hx172_2)).trans hx172_2
                replace p172 := eq_true p172
                replace q172 := eq_true q172
                have p173 : 0 ≤ (x4_1 : Int) := of_decide_eq_true (by first | (with_reducible assumption) | assumption)
                have q173 : x4_1 < (t169.length : Int) := of_decide_eq_true (by first | (with_reducible assumption) | assumption)
                obtain ⟨ad173, e173, hx173_0, hx173_1, hx173_2⟩ := at_T39 (Kd.R_reads' HO_3.out).2.2 x4_1 p173 q173
                cases e173
                replace p173 := eq_true p173
                replace q173 := eq_true q173
                go_wp2
                repeat (go_quiet (fail); try go_wp2)
                go_ret
                exact ⟨by first | rfl | (simp [errW_none, errW_some] <;> rfl) | (simp [*, errW_none, errW_some] <;> rfl), by repeat (first | (with_reducible first | exact HB.out | apply below_alloc | apply pw_below_drewN | apply below_drew1) | exact HB.out)⟩
              · rw [if_neg c11] at H
                have c11b0 : (!((((rd_T39 l0 x4_1).f0).toList) == (((rd_T39 t169 x4_1).f0).toList)) || (!(((rd_T39 l0 x4_1).f1) == ((rd_T39 t169 x4_1).f1)) || (!(((rd_T39 l0 x4_1).f2) == ((rd_T39 t169 x4_1).f2))))) = false := by simpa using c11
                clear c11
                have H' := Aside0.mk H
                clear H
                have p172 : 0 ≤ (x4_1 : Int) := of_decide_eq_true (by first | (with_reducible assumption) | assumption)
                have q172 : x4_1 < (l0.length : Int) := of_decide_eq_true (by first | (with_reducible assumption) | assumption)
                obtain ⟨ad172, e172, hx172_0, hx172_1, hx172_2⟩ := at_T39 HR0.out x4_1 p172 q172
                cases e172
                replace hx172_0 := (HB.out.cell (World.block_lt_of_cell? w _ hx172_0)).trans hx172_0
                replace hx172_1 := (HB.out.cell (World.block_lt_of_cell? w _ hx172_1)).trans hx172_1
                replace hx172_2 := (HB.out.cell (World.block_lt_of_cell? w _ hx172_2)).trans hx172_2
                replace p172 := eq_true p172
                replace q172 := eq_true q172
                have p173 : 0 ≤ (x4_1 : Int) := of_decide_eq_true (by first | (with_reducible assumption) | assumption)
                have q173 : x4_1 < (t169.length : Int) := of_decide_eq_true (by first | (with_reducible assumption) | assumption)
                obtain ⟨ad173, e173, hx173_0, hx173_1, hx173_2⟩ := at_T39 (Kd.R_reads' HO_3.out).2.2 x4_1 p173 q173
                cases e173
                replace p173 := eq_true p173
                replace q173 := eq_true q173
                go_wp2
                repeat (go_quiet (fail); try go_wp2)
                go_roundg k1
                case measure => have := HK1.out; omega
                case rel => exact ⟨(wrap64 (x4_1 + 1)), (by first | rfl | (simp; done) | (simp [*]; done)), H', ⟨by have := HK1.out; omega⟩, ⟨by (with_reducible repeat (first | apply Kd.R_alloc | apply Kd.R_drewN | apply Kd.R_drew)); exact HO_3.out⟩, ⟨by repeat (first | (with_reducible first | exact HB.out | apply below_alloc | apply pw_below_drewN | apply below_drew1) | exact HB.out)⟩⟩
            · rw [if_neg c10] at H
              exact absurd H (by simp)
          · rw [if_neg c9] at H
            exact absurd H (by simp)
        · rw [if_neg c8] at H
          have c8b0 : decide (x4_1 < (t169.length : Int)) = false := decide_eq_false c8
          clear c8
          obtain rfl := Option.some.inj H
          go_wp2
          repeat (go_quiet (fail); try go_wp2)
          go_ret
          exact ⟨by first | rfl | (simp [errW_none, errW_some] <;> rfl) | (simp [*, errW_none, errW_some] <;> rfl), by repeat (first | (with_reducible first | exact HB.out | apply below_alloc | apply pw_below_drewN | apply below_drew1) | exact HB.out)⟩

/-! ### spec_l01In: function 83 -/
def spec_l01In.f (a0 : Int) (a1 : Int) (a2 : Int) : Option (Bool) := if a0 ≥ a1 then (some (decide (a0 ≤ a2))) else (some false)
set_option maxHeartbeats 8000000 in
set_option maxRecDepth 100000 in
theorem spec_l01In.calls (a0 : Int) (a1 : Int) (a2 : Int) (r : Bool) (w : World) (h : spec_l01In.f a0 a1 a2 = some r) :
    Calls Tryd.prog 83 #[.int .i64 a0, .int .i64 a1, .int .i64 a2] w fun e w' => e = .returned (.bool r) ∧ Drawn0 w w' := by
  have H : (if a0 ≥ a1 then (some (decide (a0 ≤ a2))) else (some false)) = some r := h
  clear h
  by_cases c4 : a0 ≥ a1
  · rw [if_pos c4] at H
    have c4b0 : decide (a1 ≤ a0) = true := decide_eq_true c4
    clear c4
    obtain rfl := Option.some.inj H
    go_enter Tryd.func83, Tryd.ntmps83
    go_wp2
    go_ret
    exact ⟨by first | rfl | (simp; done) | (simp [*]; done), by repeat (first | exact Drawn0.refl _ | apply Drawn0.step)⟩
  · rw [if_neg c4] at H
    have c4b0 : decide (a1 ≤ a0) = false := decide_eq_false c4
    clear c4
    obtain rfl := Option.some.inj H
    go_enter Tryd.func83, Tryd.ntmps83
    go_wp2
    go_ret
    exact ⟨by first | rfl | (simp; done) | (simp [*]; done), by repeat (first | exact Drawn0.refl _ | apply Drawn0.step)⟩

/-! ### spec_l02Word: function 64 -/
def spec_l02Word.l0 : Nat → ByteArray → Int → Option (Bool)
  | 0, _, _ => none
  | k + 1, x0, x3 => if x3 < (x0.size : Int) then (if 0 ≤ x3 then ((spec_l01In.f (wrap64 (bt x0 x3)) 33 126).bind fun t175 => (if t175 = true then (spec_l02Word.l0 k x0 (wrap64 (x3 + 1))) else (some false))) else (none)) else (some true)
def spec_l02Word.f (k : Nat) (a0 : ByteArray) : Option (Bool) := (spec_l01In.f (a0.size : Int) 1 12).bind fun t174 => (if t174 = true then (spec_l02Word.l0 k a0 0) else (some false))
theorem spec_l02Word.mono_l : ∀ k, (∀ y0 y1, LeO (spec_l02Word.l0 k y0 y1) (spec_l02Word.l0 (k + 1) y0 y1))
  | 0 => fun _ _ r h => by simp [spec_l02Word.l0] at h
  | k + 1 => by
    have ih0 := spec_l02Word.mono_l k
    · intro y0 y1
      unfold spec_l02Word.l0
      repeat' first
      | (with_reducible exact ih0 _ _)
      | (with_reducible exact LeO.refl _)
      | (with_reducible exact LeO.none _)
      | (with_reducible refine LeO.ite ?_ ?_)
      | (with_reducible refine LeO.bind ?_ (fun _ => ?_))
      | exact ih0 _ _
      | exact LeO.none _
      | refine LeO.ite ?_ ?_
      | refine LeO.bind ?_ (fun _ => ?_)
theorem spec_l02Word.mono : ∀ a0 k, LeO (spec_l02Word.f k a0) (spec_l02Word.f (k + 1) a0) := by
  intro a0 k
  have ih0 := spec_l02Word.mono_l k
  unfold spec_l02Word.f
  repeat' first
      | (with_reducible exact ih0 _ _)
      | (with_reducible exact LeO.refl _)
      | (with_reducible exact LeO.none _)
      | (with_reducible refine LeO.ite ?_ ?_)
      | (with_reducible refine LeO.bind ?_ (fun _ => ?_))
      | exact ih0 _ _
      | exact LeO.none _
      | refine LeO.ite ?_ ?_
      | refine LeO.bind ?_ (fun _ => ?_)
set_option maxHeartbeats 8000000 in
set_option maxRecDepth 100000 in
theorem spec_l02Word.calls (k : Nat) (a0 : ByteArray) (r : Bool) (w : World) (h : spec_l02Word.f k a0 = some r) :
    Calls Tryd.prog 64 #[.string a0] w fun e w' => e = .returned (.bool r) ∧ Drawn0 w w' := by
  have H : ((spec_l01In.f (a0.size : Int) 1 12).bind fun t174 => (if t174 = true then (spec_l02Word.l0 k a0 0) else (some false))) = some r := h
  clear h
  replace H := Option.bind_eq_some_iff.mp H
  obtain ⟨t174, A20, H⟩ := H
  replace H : (if t174 = true then (spec_l02Word.l0 k a0 0) else (some false)) = some r := H
  have A2 := Aside0.mk A20
  clear A20
  by_cases c3 : t174 = true
  · subst c3
    have H1 : (spec_l02Word.l0 k a0 0) = some r := by rw [if_pos rfl] at H; first | done | exact H
    clear H
    have H := H1
    clear H1
    have H' := Aside0.mk H
    clear H
    go_enter Tryd.func64, Tryd.ntmps64
    go_wp2_with (first | ((with_reducible refine gate_callee (f := 83) rfl ?_); refine goesL_ (some 6) rfl rfl Tryd.func83 (by kernel_rfl) rfl #[.int .i64 (a0.size : Int), .int .i64 1, .int .i64 12] rfl (by (try simp only [List.map_toArray, List.map_cons, List.map_nil]); first | done | rfl | (simp only [List.length_drop, List.length_take]; rfl)) ?_; (with_reducible refine (spec_l01In.calls (a0.size : Int) 1 12 true _ A2.out).mono ?_); rintro e w' ⟨rfl, ⟨nd, rfl⟩⟩; refine ⟨_, rfl, ?_⟩))
    go_loopg [3] k (fun kq v3 w' => ∃ (x3_1 : Int), v3 = .int .i64 x3_1 ∧ Aside0 (spec_l02Word.l0 kq a0 x3_1 = some r) ∧ Aside0 (kq ≤ k) ∧ Drawn0 w w')
    case atStart => exact ⟨(0), (by first | rfl | (simp; done) | (simp [*]; done)), H', ⟨Nat.le_refl _⟩, by repeat (first | exact Drawn0.refl _ | apply Drawn0.step)⟩
    case round =>
      clear H'
      try clear p2
      try clear c3
      obtain ⟨x3_1, rfl, HA, HK1, ⟨m1, rfl⟩⟩ := hrel
      cases gk with
      | zero => exact absurd HA.out (by simp [spec_l02Word.l0])
      | succ k1 =>
        have H := HA.out
        clear HA
        simp only [spec_l02Word.l0] at H
        by_cases c4 : x3_1 < (a0.size : Int)
        · rw [if_pos c4] at H
          have c4b0 : decide (x3_1 < (a0.size : Int)) = true := decide_eq_true c4
          clear c4
          by_cases c5 : 0 ≤ x3_1
          · rw [if_pos c5] at H
            have c5b0 : decide (0 ≤ x3_1) = true := decide_eq_true c5
            clear c5
            replace H := Option.bind_eq_some_iff.mp H
            obtain ⟨t175, A70, H⟩ := H
            replace H : (if t175 = true then (spec_l02Word.l0 k1 a0 (wrap64 (x3_1 + 1))) else (some false)) = some r := H
            have A7 := Aside0.mk A70
            clear A70
            by_cases c8 : t175 = true
            · subst c8
              have H1 : (spec_l02Word.l0 k1 a0 (wrap64 (x3_1 + 1))) = some r := by rw [if_pos rfl] at H; first | done | exact H
              clear H
              have H := H1
              clear H1
              have H' := Aside0.mk H
              clear H
              have p6 : 0 ≤ (x3_1 : Int) := of_decide_eq_true (by first | (with_reducible assumption) | assumption)
              have q6 : x3_1 < (a0.size : Int) := of_decide_eq_true (by first | (with_reducible assumption) | assumption)
              have hx6 := bt_at a0 x3_1
              replace p6 := eq_true p6
              replace q6 := eq_true q6
              go_wp2_with (first | ((with_reducible refine gate_callee (f := 83) rfl ?_); refine goesL_ (some 18) rfl rfl Tryd.func83 (by kernel_rfl) rfl #[.int .i64 (wrap64 (bt a0 x3_1)), .int .i64 33, .int .i64 126] rfl (by (try simp only [List.map_toArray, List.map_cons, List.map_nil]); first | done | rfl | (simp only [List.length_drop, List.length_take]; rfl)) ?_; (with_reducible refine (spec_l01In.calls (wrap64 (bt a0 x3_1)) 33 126 true _ A7.out).mono ?_); rintro e w' ⟨rfl, ⟨nd, rfl⟩⟩; refine ⟨_, rfl, ?_⟩))
              go_roundg k1
              case measure => have := HK1.out; omega
              case rel => exact ⟨(wrap64 (x3_1 + 1)), (by first | rfl | (simp; done) | (simp [*]; done)), H', ⟨by have := HK1.out; omega⟩, by repeat (first | exact Drawn0.refl _ | apply Drawn0.step)⟩
            · replace c8 := Bool.eq_false_iff.mpr c8
              subst c8
              have H1 : (some false) = some r := by rw [if_neg (show ¬ (false = true) by decide)] at H; first | done | exact H
              clear H
              have H := H1
              clear H1
              obtain rfl := Option.some.inj H
              have p6 : 0 ≤ (x3_1 : Int) := of_decide_eq_true (by first | (with_reducible assumption) | assumption)
              have q6 : x3_1 < (a0.size : Int) := of_decide_eq_true (by first | (with_reducible assumption) | assumption)
              have hx6 := bt_at a0 x3_1
              replace p6 := eq_true p6
              replace q6 := eq_true q6
              go_wp2_with (first | ((with_reducible refine gate_callee (f := 83) rfl ?_); refine goesL_ (some 18) rfl rfl Tryd.func83 (by kernel_rfl) rfl #[.int .i64 (wrap64 (bt a0 x3_1)), .int .i64 33, .int .i64 126] rfl (by (try simp only [List.map_toArray, List.map_cons, List.map_nil]); first | done | rfl | (simp only [List.length_drop, List.length_take]; rfl)) ?_; (with_reducible refine (spec_l01In.calls (wrap64 (bt a0 x3_1)) 33 126 false _ A7.out).mono ?_); rintro e w' ⟨rfl, ⟨nd, rfl⟩⟩; refine ⟨_, rfl, ?_⟩))
              go_ret
              exact ⟨by first | rfl | (simp; done) | (simp [*]; done), by repeat (first | exact Drawn0.refl _ | apply Drawn0.step)⟩
          · rw [if_neg c5] at H
            exact absurd H (by simp)
        · rw [if_neg c4] at H
          have c4b0 : decide (x3_1 < (a0.size : Int)) = false := decide_eq_false c4
          clear c4
          obtain rfl := Option.some.inj H
          go_wp2
          go_ret
          exact ⟨by first | rfl | (simp; done) | (simp [*]; done), by repeat (first | exact Drawn0.refl _ | apply Drawn0.step)⟩
  · replace c3 := Bool.eq_false_iff.mpr c3
    subst c3
    have H1 : (some false) = some r := by rw [if_neg (show ¬ (false = true) by decide)] at H; first | done | exact H
    clear H
    have H := H1
    clear H1
    obtain rfl := Option.some.inj H
    go_enter Tryd.func64, Tryd.ntmps64
    go_wp2_with (first | ((with_reducible refine gate_callee (f := 83) rfl ?_); refine goesL_ (some 6) rfl rfl Tryd.func83 (by kernel_rfl) rfl #[.int .i64 (a0.size : Int), .int .i64 1, .int .i64 12] rfl (by (try simp only [List.map_toArray, List.map_cons, List.map_nil]); first | done | rfl | (simp only [List.length_drop, List.length_take]; rfl)) ?_; (with_reducible refine (spec_l01In.calls (a0.size : Int) 1 12 false _ A2.out).mono ?_); rintro e w' ⟨rfl, ⟨nd, rfl⟩⟩; refine ⟨_, rfl, ?_⟩))
    go_ret
    exact ⟨by first | rfl | (simp; done) | (simp [*]; done), by repeat (first | exact Drawn0.refl _ | apply Drawn0.step)⟩

/-! ### spec_l01Cell: function 103 -/
def spec_l01Cell.f (a0 : Int) : Option (Bool) := (spec_l01In.f a0 (-2147483648) 2147483647).bind fun t176 => (some t176)
set_option maxHeartbeats 8000000 in
set_option maxRecDepth 100000 in
theorem spec_l01Cell.calls (a0 : Int) (r : Bool) (w : World) (h : spec_l01Cell.f a0 = some r) :
    Calls Tryd.prog 103 #[.int .i64 a0] w fun e w' => e = .returned (.bool r) ∧ Drawn0 w w' := by
  have H : ((spec_l01In.f a0 (-2147483648) 2147483647).bind fun t176 => (some t176)) = some r := h
  clear h
  replace H := Option.bind_eq_some_iff.mp H
  obtain ⟨t176, A20, H⟩ := H
  replace H : (some t176) = some r := H
  have A2 := Aside0.mk A20
  clear A20
  obtain rfl := Option.some.inj H
  go_enter Tryd.func103, Tryd.ntmps103
  go_wp2_with (first | ((with_reducible refine gate_callee (f := 83) rfl ?_); refine goesL_ (some 4) rfl rfl Tryd.func83 (by kernel_rfl) rfl #[.int .i64 a0, .int .i64 (-2147483648), .int .i64 2147483647] rfl (by (try simp only [List.map_toArray, List.map_cons, List.map_nil]); first | done | rfl | (simp only [List.length_drop, List.length_take]; rfl)) ?_; (with_reducible refine (spec_l01In.calls a0 (-2147483648) 2147483647 t176 _ A2.out).mono ?_); rintro e w' ⟨rfl, ⟨nd, rfl⟩⟩; refine ⟨_, rfl, ?_⟩))
  go_ret
  exact ⟨by first | rfl | (simp; done) | (simp [*]; done), by repeat (first | exact Drawn0.refl _ | apply Drawn0.step)⟩

end Go.Proofs.YtbbfahkmjfmmjaaDoor.PFnExactCodeLines
