-- laid by a program of this session out of the translation's own print: Lean checks it
import Derived.Test.YtbbfahkmjfmmjaaGreatDoorPMOKx0
import Derived.Test.YtbbfahkmjfmmjaaGreatDoorPMOKx1
import Derived.Test.YtbbfahkmjfmmjaaGreatDoorPMOKx7
namespace Go.Proofs.YtbbfahkmjfmmjaaGreatDoor.PMOK
open Go.RowKit Go.Proofs.YtbbfahkmjfmmjaaGreatDoorW.PrintWords Go.Proofs.YtbbfahkmjfmmjaaGreatDoorW.PrintLast Go.Proofs.YtbbfahkmjfmmjaaGreatDoorW.PrintMore
attribute [local go_sem] max2_int min2_int max_two min_two max_three min_three max_four min_four   -- for this text's walks alone
set_option linter.unusedVariables false
set_option linter.unusedSimpArgs false

attribute [local go_sem high] eqA75
/-! ### laws_toDeedS: function 46 -/
def laws_toDeedS.l0 : Nat → List (S95) → List (S88) → Int → Option ((List (S88)))
 | 0, _, _, _ => none
 | k + 1, x0, x3, x4 => if x4 < (x0.length : Int) then (if 0 ≤ x4 then ((laws_toDeed.f ((rd_T95 x0 x4).f0) ((rd_T95 x0 x4).f1) ((rd_T95 x0 x4).f2) ((rd_T95 x0 x4).f3)).bind fun bt254 => (if x4 < (x3.length : Int) then (laws_toDeedS.l0 k x0 (x3.set (x4 : Int).toNat (⟨bt254.1, bt254.2.1, bt254.2.2.1, bt254.2.2.2⟩ : S88)) (wrap64 (x4 + 1))) else (none))) else (none)) else (some x3)
def laws_toDeedS.f (k : Nat) (l0 : List (S95)) : Option ((List (S88))) := if 0 ≤ (l0.length : Int) then (if ((l0.length : Int) : Int).toNat ≤ 8796093022208 then (laws_toDeedS.l0 k l0 (List.replicate ((l0.length : Int) : Int).toNat z88) 0) else (none)) else (none)
theorem laws_toDeedS.mono_l : ∀ k, (∀ y0 y1 y2, LeO (laws_toDeedS.l0 k y0 y1 y2) (laws_toDeedS.l0 (k + 1) y0 y1 y2))
 | 0 => fun _ _ _ r h => by simp [laws_toDeedS.l0] at h
 | k + 1 => by
  have ih0 := laws_toDeedS.mono_l k
  ·intro y0 y1 y2
   unfold laws_toDeedS.l0
   repeat' first
   | (with_reducible exact ih0 _ _ _)
   | (with_reducible exact LeO.refl _)
   | (with_reducible exact LeO.none _)
   | (with_reducible refine LeO.ite ?_ ?_)
   | (with_reducible refine LeO.bind ?_ (fun _ => ?_))
   | exact ih0 _ _ _
   | exact LeO.none _
   | refine LeO.ite ?_ ?_
   | refine LeO.bind ?_ (fun _ => ?_)
theorem laws_toDeedS.mono : ∀ a0 k, LeO (laws_toDeedS.f k a0) (laws_toDeedS.f (k + 1) a0) := by
 intro a0 k
 have ih0 := laws_toDeedS.mono_l k
 unfold laws_toDeedS.f
 repeat' first
   | (with_reducible exact ih0 _ _ _)
   | (with_reducible exact LeO.refl _)
   | (with_reducible exact LeO.none _)
   | (with_reducible refine LeO.ite ?_ ?_)
   | (with_reducible refine LeO.bind ?_ (fun _ => ?_))
   | exact ih0 _ _ _
   | exact LeO.none _
   | refine LeO.ite ?_ ?_
   | refine LeO.bind ?_ (fun _ => ?_)
set_option maxHeartbeats 8000000 in
set_option maxRecDepth 100000 in
theorem laws_toDeedS.calls (k : Nat) (A0 : Option Addr) (c0 : Nat) (l0 : List (S95)) (r : List (S88)) (w : World) (hr0 : Kd.C k95 w A0 l0.length l0) (hc0 : l0.length ≤ c0) (h : laws_toDeedS.f k l0 = some r) :
  Calls Tryz.prog 46 #[.slice A0 l0.length c0] w fun e w' => ∃ v0_ : Value, e = .returned (v0_) ∧ Kd.R k88 88 w' w.heap.size (fun _ => True) v0_ r ∧ Below w.heap.size w w' := by
 have hu95 := Tryz.underlying95
 have hu88 := Tryz.underlying88
 have HR0 := am_ hr0
 have HC0 := am_ hc0
 clear hr0 hc0
 have HB := am_ (Below.refl w.heap.size w)
 have H : (if 0 ≤ (l0.length : Int) then (if ((l0.length : Int) : Int).toNat ≤ 8796093022208 then (laws_toDeedS.l0 k l0 (List.replicate ((l0.length : Int) : Int).toNat z88) 0) else (none)) else (none)) = some r := h
 clear h
 by_cases c2 : 0 ≤ (l0.length : Int)
 ·rw [if_pos c2] at H
  have c2b0 := eq_true c2
  have c2b1 : decide (0 ≤ (l0.length : Int)) = true := decide_eq_true c2
  clear c2
  by_cases c3 : ((l0.length : Int) : Int).toNat ≤ 8796093022208
  ·rw [if_pos c3] at H
   have c3b0 := eq_true c3
   have c3b1 : decide (((l0.length : Int) : Int).toNat ≤ 8796093022208) = true := decide_eq_true c3
   clear c3
   obtain ⟨y250, hy250⟩ : ∃ y_ : List (S88), y_ = (List.replicate ((l0.length : Int) : Int).toNat z88) := ⟨_, rfl⟩
   replace H : (laws_toDeedS.l0 k l0 y250 0) = some r := by first | (rw [hy250]; with_reducible exact H) | (have H2_ := (Option.bind_some _ _).symm.trans H; rw [hy250]; with_reducible exact H2_) | (have H2_ := (Option.bind_some _ _).symm.trans H; with_reducible exact H2_) | with_reducible exact H | (rw [hy250]; exact H) | exact H
   have Ny250 := am_ hy250
   clear hy250
   have H' := am_ H
   clear H
   go_enter Tryz.func46, Tryz.ntmps46
   go_wp2_with (first | ((with_reducible refine gate_dst (N := 7) rfl ?_); refine Kd.R_make k88 _ 88 rfl (N := 7) rfl 37 _ _ rfl (l0.length : Int) rfl rfl Tryz.underlying37 (.agg #[(.int .i64 0), (.int .i64 0), (.int .i64 0), (.int .i64 0)]) 32 info88 rfl (by decide) (by omega) z88 (ok := fun _ => True) (okp := fun _ => True) (k88_mkM _ _ _ z88 ) (fun _ hk => hk) trivial (of_decide_eq_true yqv11_) (Nat.le_trans (Nat.mul_le_mul_right _ (of_decide_eq_true yqv11_ : (l0.length : Int).toNat ≤ 8796093022208)) (by omega)) (Below.refl _ _) (Nat.le_refl _) ?_; intro v251 w4 ho5 hb hg_ hnew_; clear hg_ hnew_; (first | rw [← Ny250.out] at ho5 | (simp only [Int.reduceToNat] at ho5; rw [← Ny250.out] at ho5)); have HO252 := am_ (Kd.R_lower ho5 (below_size ybl_)); replace HB := yst_ hb; clear hb ho5))
   go_loopg [4] k (fun kq v4 w' => ∃ (x3_1 : List (S88)) (x4_1 : Int), v4 = .int .i64 x4_1 ∧ Aside0 (laws_toDeedS.l0 kq l0 x3_1 x4_1 = some r) ∧ Aside0 (kq ≤ k) ∧ Aside0 (Kd.R k88 88 w' w.heap.size (fun _ => True) v251 x3_1) ∧ Aside0 (Below w.heap.size w w'))
   case atStart => exact ⟨(y250), (0), (by first | rfl | (simp; done) | (simp [*]; done)), H', ⟨Nat.le_refl _⟩, ⟨(yru_ HO252)⟩, ⟨ybl_⟩⟩
   case round =>
    clear H'
    try clear c2
    try clear c2b0
    try clear c2b1
    try clear p2
    try clear c3
    try clear c3b0
    try clear c3b1
    try clear c4
    obtain ⟨x3_1, x4_1, rfl, HA, HK1, HO_3, HB⟩ := hrel
    cases gk with
    | zero => exact absurd HA.out (by simp [laws_toDeedS.l0])
    | succ k1 =>
     have H := HA.out
     clear HA
     simp only [laws_toDeedS.l0] at H
     by_cases c6 : x4_1 < (l0.length : Int)
     ·rw [if_pos c6] at H
      have c6b0 : decide (x4_1 < (l0.length : Int)) = true := decide_eq_true c6
      clear c6
      by_cases c7 : 0 ≤ x4_1
      ·rw [if_pos c7] at H
       have c7b0 : decide (0 ≤ x4_1) = true := decide_eq_true c7
       clear c7
       replace H := Option.bind_eq_some_iff.mp H
       obtain ⟨⟨t254, t255, t256, t257⟩, A80, H⟩ := H
       replace H : (if x4_1 < (x3_1.length : Int) then (laws_toDeedS.l0 k1 l0 (x3_1.set (x4_1 : Int).toNat (⟨t254, t255, t256, t257⟩ : S88)) (wrap64 (x4_1 + 1))) else (none)) = some r := H
       have A8 := am_ A80
       clear A80
       by_cases c9 : x4_1 < (x3_1.length : Int)
       ·rw [if_pos c9] at H
        have c9b0 : decide (x4_1 < (x3_1.length : Int)) = true := decide_eq_true c9
        clear c9
        obtain ⟨y258, hy258⟩ : ∃ y_ : List (S88), y_ = (x3_1.set (x4_1 : Int).toNat (⟨t254, t255, t256, t257⟩ : S88)) := ⟨_, rfl⟩
        replace H : (laws_toDeedS.l0 k1 l0 y258 (wrap64 (x4_1 + 1))) = some r := by first | (rw [hy258]; with_reducible exact H) | (have H2_ := (Option.bind_some _ _).symm.trans H; rw [hy258]; with_reducible exact H2_) | (have H2_ := (Option.bind_some _ _).symm.trans H; with_reducible exact H2_) | with_reducible exact H | (rw [hy258]; exact H) | exact H
        have Ny258 := am_ hy258
        clear hy258
        have H' := am_ H
        clear H
        have p253 : 0 ≤ (x4_1 : Int) := of_decide_eq_true yqv11_
        have q253 : x4_1 < (l0.length : Int) := of_decide_eq_true yqv11_
        obtain ⟨ad253, e253, hx253_0, hx253_1, hx253_2, hx253_3⟩ := at_T95 HR0.out x4_1 p253 q253
        cases e253
        replace hx253_0 := ycst_ HB hx253_0
        replace hx253_1 := ycst_ HB hx253_1
        replace hx253_2 := ycst_ HB hx253_2
        replace hx253_3 := ycst_ HB hx253_3
        replace p253 := eq_true p253
        replace q253 := eq_true q253
        go_wp2_with (first | ((with_reducible refine gate_callee (f := 78) rfl ?_); refine goesL_ (some 20) rfl rfl Tryz.func78 (by kernel_rfl) rfl #[.agg #[.int .i64 ((rd_T95 l0 x4_1).f0), .int .i64 ((rd_T95 l0 x4_1).f1), .int .i64 ((rd_T95 l0 x4_1).f2), .int .i64 ((rd_T95 l0 x4_1).f3)]] rfl yk1_ ?_; (with_reducible refine (laws_toDeed.calls ((rd_T95 l0 x4_1).f0) ((rd_T95 l0 x4_1).f1) ((rd_T95 l0 x4_1).f2) ((rd_T95 l0 x4_1).f3) t254 t255 t256 t257 _ A8.out).mono ?_); rintro e w11 ⟨rfl, hb⟩; refine ⟨_, rfl, ?_⟩; replace HO_3 := am_ (Kd.R_below (yru_ HO_3) hb); replace HB := yst_ hb; (try clear hb); (try clear hb2); (try clear hk); (try clear hi); have p10 : 0 ≤ (x4_1 : Int) := of_decide_eq_true yqv11_; have q10 : (x4_1 : Int) < ((x3_1.length : Int) : Int) := of_decide_eq_true yqv11_; obtain ⟨go10, co10, eo10, gb10, gl10, cl10, HG10⟩ := Kd.R_form HO_3.out (by omega); (first | cases eo10 | (injection eo10 with ea_ en_ ec_; (first | subst ea_ | (injection ea_ with ea_; subst ea_)); subst ec_; clear en_)); have GB10 := am_ gb10; have GG10 := am_ HG10; clear gb10 gl10 HG10; obtain ⟨ce10, hcl10, hM10, hcc10, hfr10⟩ := Kd.R_elem HO_3.out z88 (x4_1 : Int) p10 q10; obtain rfl := k88_openM hM10; have hx10_0 : w11.cell? ⟨go10, (x4_1 : Int).toNat * 4, none⟩ = some (.int .i64 ((rd_T88 x3_1 x4_1).f0)) := hcc10 0 _ rfl; have hx10_1 : w11.cell? ⟨go10, (x4_1 : Int).toNat * 4 + 1, none⟩ = some (.int .i64 ((rd_T88 x3_1 x4_1).f1)) := hcc10 1 _ rfl; have hx10_2 : w11.cell? ⟨go10, (x4_1 : Int).toNat * 4 + 2, none⟩ = some (.int .i64 ((rd_T88 x3_1 x4_1).f2)) := hcc10 2 _ rfl; have hx10_3 : w11.cell? ⟨go10, (x4_1 : Int).toNat * 4 + 3, none⟩ = some (.int .i64 ((rd_T88 x3_1 x4_1).f3)) := hcc10 3 _ rfl; have hf10_0 : w11.frozen? ⟨go10, (x4_1 : Int).toNat * 4, none⟩ = false := hfr10 0; have hf10_1 : w11.frozen? ⟨go10, (x4_1 : Int).toNat * 4 + 1, none⟩ = false := hfr10 1; have hf10_2 : w11.frozen? ⟨go10, (x4_1 : Int).toNat * 4 + 2, none⟩ = false := hfr10 2; have hf10_3 : w11.frozen? ⟨go10, (x4_1 : Int).toNat * 4 + 3, none⟩ = false := hfr10 3; clear hcl10 hcc10 hfr10 hM10; replace p10 := eq_true p10; replace q10 := eq_true q10; have HX12 := am_ (show Kd.R k88 88 w11 w.heap.size (fun _ => True) (.slice (some ⟨go10, 0, none⟩) x3_1.length co10) x3_1 from (yru_ HO_3)); obtain ⟨ce12, hcl12, hM12, hcc12, hfr12⟩ := Kd.R_elem HX12.out z88 (x4_1 : Int) (of_decide_eq_true yqv11_) (by have h_ : (x4_1 : Int) < ((x3_1.length : Int) : Int) := of_decide_eq_true yqv11_; first | exact h_ | (have e_ := (Kd.R_reads' HO_3.out).1; omega) | simpa using h_); obtain rfl := k88_openM hM12; have HP12 := Kd.R_seg HX12.out (x4_1 : Int) (of_decide_eq_true yqv11_) (by have h_ : (x4_1 : Int) < ((x3_1.length : Int) : Int) := of_decide_eq_true yqv11_; first | exact h_ | (have e_ := (Kd.R_reads' HO_3.out).1; omega) | simpa using h_) (seg := [.int .i64 t254, .int .i64 t255, .int .i64 t256, .int .i64 t257]) (j := 0) hcl12 hcc12 (show 4 ≤ 4 from by decide) (x' := (⟨t254, t255, t256, t257⟩ : S88)) (k88_mkM _ _ _ (⟨t254, t255, t256, t257⟩ : S88) ) (fun _ hk => hk); have hx12_0 := hcc12 0 _ rfl; (try simp only [show (k88).sz = 4 from rfl, Nat.mul_one, Nat.add_zero] at hx12_0); have hf12_0 := hfr12 0; (try simp only [show (k88).sz = 4 from rfl, Nat.mul_one, Nat.add_zero] at hf12_0); have hx12_1 := hcc12 1 _ rfl; (try simp only [show (k88).sz = 4 from rfl, Nat.mul_one, Nat.add_zero] at hx12_1); have hf12_1 := hfr12 1; (try simp only [show (k88).sz = 4 from rfl, Nat.mul_one, Nat.add_zero] at hf12_1); have hx12_2 := hcc12 2 _ rfl; (try simp only [show (k88).sz = 4 from rfl, Nat.mul_one, Nat.add_zero] at hx12_2); have hf12_2 := hfr12 2; (try simp only [show (k88).sz = 4 from rfl, Nat.mul_one, Nat.add_zero] at hf12_2); have hx12_3 := hcc12 3 _ rfl; (try simp only [show (k88).sz = 4 from rfl, Nat.mul_one, Nat.add_zero] at hx12_3); have hf12_3 := hfr12 3; (try simp only [show (k88).sz = 4 from rfl, Nat.mul_one, Nat.add_zero] at hf12_3); clear hcl12 hcc12 hfr12 hM12) | ((with_reducible refine gate_store (t := 88) (p := 21) rfl ?_); refine store_event (t := 88) (p := 21) (v := ?vo_w13) (w1 := ((((w11.setCell ⟨go10, (x4_1 : Int).toNat * 4, none⟩ (.int .i64 t254)).setCell ⟨go10, (x4_1 : Int).toNat * 4 + 1, none⟩ (.int .i64 t255)).setCell ⟨go10, (x4_1 : Int).toNat * 4 + 2, none⟩ (.int .i64 t256)).setCell ⟨go10, (x4_1 : Int).toNat * 4 + 3, none⟩ (.int .i64 t257))) ?hg ?ho ?hn ?hr ?_; (case ho => rfl); (case hg => rfl); (case hn => rfl); (case hr => first | (go_simp; done) | (go_simp; rfl)); intro w13 hw; have hg : w11.grownBy w13 (some go10) := (by rw [hw]; exact HP12.2); have hp_ : Kd.R k88 88 w13 w.heap.size (fun _ => True) (.slice (some ⟨go10, 0, none⟩) x3_1.length co10) y258 := (by rw [hw, Ny258.out]; exact HP12.1); clear HP12; replace HO_3 := am_ (hp_); replace HB := am_ ((by rw [hw]; exact below_set (below_set (below_set (below_set (HB.out) GB10.out) GB10.out) GB10.out) GB10.out : Below w.heap.size w w13)); clear hg hw hp_))
        go_roundg k1
        case measure => have := HK1.out; omega
        case rel => exact ⟨(y258), (wrap64 (x4_1 + 1)), (by first | rfl | (simp; done) | (simp [*]; done)), H', ⟨by have := HK1.out; omega⟩, ⟨(yru_ HO_3)⟩, ⟨ybl_⟩⟩
       ·rw [if_neg c9] at H
        exact absurd H (by simp)
      ·rw [if_neg c7] at H
       exact absurd H (by simp)
     ·rw [if_neg c6] at H
      have c6b0 : decide (x4_1 < (l0.length : Int)) = false := decide_eq_false c6
      clear c6
      obtain rfl := Option.some.inj H
      go_wp2
      go_ret
      exact ⟨_, yk0_, by (with_reducible repeat (first | apply Kd.R_alloc | apply Kd.R_drewN | apply Kd.R_drew)); exact HO_3.out, ybl_⟩
  ·rw [if_neg c3] at H
   exact absurd H (by simp)
 ·rw [if_neg c2] at H
  exact absurd H (by simp)

/-! ### laws_toHost: function 21 -/
def laws_toHost.f (k : Nat) (l0_0 : List Bool) (l0_1 : List Int) (l0_2 : List Int) (a0_3 : Int) (l0_4 : List (S95)) : Option (List Bool × List Int × List Int × Int × (List (S88))) := (laws_toBoolS.f k l0_0).bind fun t262 => ((laws_toIntS.f k l0_1).bind fun t265 => ((laws_toIntS.f k l0_2).bind fun t268 => ((laws_toDeedS.f k l0_4).bind fun t271 => (some (t262, t265, t268, a0_3, t271)))))
theorem laws_toHost.mono : ∀ a0 a1 a2 a3 a4 k, LeO (laws_toHost.f k a0 a1 a2 a3 a4) (laws_toHost.f (k + 1) a0 a1 a2 a3 a4) := by
 intro a0 a1 a2 a3 a4 k
 unfold laws_toHost.f
 repeat' first
   | (with_reducible exact laws_toBoolS.mono _ _)
   | (with_reducible exact laws_toDeedS.mono _ _)
   | (with_reducible exact laws_toIntS.mono _ _)
   | (with_reducible exact LeO.refl _)
   | (with_reducible exact LeO.none _)
   | (with_reducible refine LeO.ite ?_ ?_)
   | (with_reducible refine LeO.bind ?_ (fun _ => ?_))
   | exact laws_toBoolS.mono _ _
   | exact laws_toDeedS.mono _ _
   | exact laws_toIntS.mono _ _
   | exact LeO.none _
   | refine LeO.ite ?_ ?_
   | refine LeO.bind ?_ (fun _ => ?_)
set_option maxHeartbeats 8000000 in
set_option maxRecDepth 100000 in
theorem laws_toHost.calls (k : Nat) (A0_0 : Option Addr) (c0_0 : Nat) (l0_0 : List Bool) (A0_1 : Option Addr) (c0_1 : Nat) (l0_1 : List Int) (A0_2 : Option Addr) (c0_2 : Nat) (l0_2 : List Int) (a0_3 : Int) (A0_4 : Option Addr) (c0_4 : Nat) (l0_4 : List (S95)) (r1 : List Bool) (r2 : List Int) (r3 : List Int) (r4 : Int) (r5 : List (S88)) (w : World) (hr0_0 : Kd.C Kd.bool w A0_0 l0_0.length l0_0) (hc0_0 : l0_0.length ≤ c0_0) (hr0_1 : Kd.C (Kd.int .i64) w A0_1 l0_1.length l0_1) (hc0_1 : l0_1.length ≤ c0_1) (hr0_2 : Kd.C (Kd.int .i64) w A0_2 l0_2.length l0_2) (hc0_2 : l0_2.length ≤ c0_2) (hr0_4 : Kd.C k95 w A0_4 l0_4.length l0_4) (hc0_4 : l0_4.length ≤ c0_4) (h : laws_toHost.f k l0_0 l0_1 l0_2 a0_3 l0_4 = some (r1, r2, r3, r4, r5)) :
  Calls Tryz.prog 21 #[.agg #[.slice A0_0 l0_0.length c0_0, .slice A0_1 l0_1.length c0_1, .slice A0_2 l0_2.length c0_2, .int .i64 a0_3, .slice A0_4 l0_4.length c0_4]] w fun e w' => ∃ v0_ v1_ v2_ v4_ : Value, e = .returned (.agg #[v0_, v1_, v2_, .int .i64 r4, v4_]) ∧ Kd.R Kd.bool 4 w' w.heap.size (fun _ => True) v0_ r1 ∧ Kd.R (Kd.int .i64) 3 w' w.heap.size (fun k_ => some k_ ≠ (v2_ : Value).ownBlock) v1_ r2 ∧ Kd.R (Kd.int .i64) 3 w' w.heap.size (fun k_ => some k_ ≠ (v1_ : Value).ownBlock) v2_ r3 ∧ Kd.R k88 88 w' w.heap.size (fun _ => True) v4_ r5 ∧ Below w.heap.size w w' := by
 have hu29 := Tryz.underlying29
 have hu39 := Tryz.underlying39
 have HR0_0 := am_ hr0_0
 have HC0_0 := am_ hc0_0
 clear hr0_0 hc0_0
 have HR0_1 := am_ hr0_1
 have HC0_1 := am_ hc0_1
 clear hr0_1 hc0_1
 have HR0_2 := am_ hr0_2
 have HC0_2 := am_ hc0_2
 clear hr0_2 hc0_2
 have HR0_4 := am_ hr0_4
 have HC0_4 := am_ hc0_4
 clear hr0_4 hc0_4
 have HB := am_ (Below.refl w.heap.size w)
 have H : ((laws_toBoolS.f k l0_0).bind fun t262 => ((laws_toIntS.f k l0_1).bind fun t265 => ((laws_toIntS.f k l0_2).bind fun t268 => ((laws_toDeedS.f k l0_4).bind fun t271 => (some (t262, t265, t268, a0_3, t271)))))) = some (r1, r2, r3, r4, r5) := h
 clear h
 replace H := Option.bind_eq_some_iff.mp H
 obtain ⟨t262, A20, H⟩ := H
 replace H : ((laws_toIntS.f k l0_1).bind fun t265 => ((laws_toIntS.f k l0_2).bind fun t268 => ((laws_toDeedS.f k l0_4).bind fun t271 => (some (t262, t265, t268, a0_3, t271))))) = some (r1, r2, r3, r4, r5) := H
 have A2 := am_ A20
 clear A20
 replace H := Option.bind_eq_some_iff.mp H
 obtain ⟨t265, A30, H⟩ := H
 replace H : ((laws_toIntS.f k l0_2).bind fun t268 => ((laws_toDeedS.f k l0_4).bind fun t271 => (some (t262, t265, t268, a0_3, t271)))) = some (r1, r2, r3, r4, r5) := H
 have A3 := am_ A30
 clear A30
 replace H := Option.bind_eq_some_iff.mp H
 obtain ⟨t268, A40, H⟩ := H
 replace H : ((laws_toDeedS.f k l0_4).bind fun t271 => (some (t262, t265, t268, a0_3, t271))) = some (r1, r2, r3, r4, r5) := H
 have A4 := am_ A40
 clear A40
 replace H := Option.bind_eq_some_iff.mp H
 obtain ⟨t271, A50, H⟩ := H
 replace H : (some (t262, t265, t268, a0_3, t271)) = some (r1, r2, r3, r4, r5) := H
 have A5 := am_ A50
 clear A50
 simp only [Option.some.injEq, Prod.mk.injEq] at H
 obtain ⟨rfl, rfl, rfl, rfl, rfl⟩ := H
 go_enter Tryz.func21, Tryz.ntmps21
 go_wp2_with (first | ((with_reducible refine gate_dst (N := 1) rfl ?_); refine box_event ?hg (N := 1) ?hd (cs := #[.slice A0_0 l0_0.length c0_0, .slice A0_1 l0_1.length c0_1, .slice A0_2 l0_2.length c0_2, .int .i64 a0_3, .slice A0_4 l0_4.length c0_4]) (t := 29) ?hr ?_; (case hd => rfl); (case hg => rfl); (case hr => first | (go_simp; done) | (go_simp; rfl)); intro gb259 hg w6 hbox hb; have BK259 := am_ (hbox); have GW259 := am_ ((ybsz_ hg : w.heap.size ≤ gb259)); have GE259 := GW259; replace HB := yst_ hb; clear hb hbox hg) | ((with_reducible refine gate_dst (N := 2) rfl ?_); refine box_event ?hg (N := 2) ?hd (cs := #[.slice none 0 0, .slice none 0 0, .slice none 0 0, .int .i64 0, .slice none 0 0]) (t := 39) ?hr ?_; (case hd => rfl); (case hg => rfl); (case hr => first | (go_simp; done) | (go_simp; rfl)); intro gb260 hg w7 hbox hb; have BK260 := am_ (hbox); have GW260 := am_ ((ybsz_ hg : w.heap.size ≤ gb260)); have GE260 := GW260; replace HB := yst_ hb; have NB259_260 := am_ (ybne_ hg BK259); have NB260_259 := am_ ((ybne_ hg BK259).symm); replace BK259 := am_ (ybb_ BK259 hb); clear hb hbox hg) | ((with_reducible refine gate_dst (N := 3) rfl ?_); refine box_event ?hg (N := 3) ?hd (cs := #[.slice none 0 0, .slice none 0 0, .slice none 0 0, .int .i64 0, .slice none 0 0]) (t := 39) ?hr ?_; (case hd => rfl); (case hg => rfl); (case hr => first | (go_simp; done) | (go_simp; rfl)); intro gb261 hg w8 hbox hb; have BK261 := am_ (hbox); have GW261 := am_ ((ybsz_ hg : w.heap.size ≤ gb261)); have GE261 := GW261; replace HB := yst_ hb; have NB259_261 := am_ (ybne_ hg BK259); have NB261_259 := am_ ((ybne_ hg BK259).symm); replace BK259 := am_ (ybb_ BK259 hb); have NB260_261 := am_ (ybne_ hg BK260); have NB261_260 := am_ ((ybne_ hg BK260).symm); replace BK260 := am_ (ybb_ BK260 hb); clear hb hbox hg; have hnb9 := NB259_260.out; have hnc9 := NB260_259.out; have hnb10 := NB259_261.out; have hnc10 := NB261_259.out; have hcz11 := ye5_ BK259; have hfz11 := yf5_ BK259) | ((with_reducible refine gate_callee (f := 45) rfl ?_); refine goesL_ (some 6) rfl rfl Tryz.func45 (by kernel_rfl) rfl #[.slice A0_0 l0_0.length c0_0] rfl yk1_ ?_; (with_reducible refine (laws_toBoolS.calls k _ _ l0_0 t262 _ ?side1 HC0_0.out A2.out).mono ?_); (case side1 => exact ycb_ HR0_0 HB); rintro e w12 ⟨v263, rfl, ho0, hb⟩; refine ⟨_, rfl, ?_⟩; have HO264 := am_ (Kd.R_lower ho0 (below_size ybl_)); replace BK259 := am_ (ybb_ BK259 hb); replace BK260 := am_ (ybb_ BK260 hb); replace BK261 := am_ (ybb_ BK261 hb); replace HB := yst_ hb; (try clear hb); (try clear hb2); (try clear hk); (try clear hi); (try clear ho0); obtain ⟨Ao13, co13, eo13⟩ := Kd.R_slice HO264.out; subst eo13; have hnb14 := NB261_260.out; have hnc14 := NB260_261.out; have hcz15 := ye5_ BK261; have hfz15 := yf5_ BK261; have hcz16 := ye5_ BK259; have hfz16 := yf5_ BK259) | ((with_reducible refine gate_callee (f := 19) rfl ?_); refine goesL_ (some 10) rfl rfl Tryz.func19 (by kernel_rfl) rfl #[.slice A0_1 l0_1.length c0_1] rfl yk1_ ?_; (with_reducible refine (laws_toIntS.calls k _ _ l0_1 t265 _ ?side1 HC0_1.out A3.out).mono ?_); (case side1 => exact Kd.C_below HR0_1.out ybl_); rintro e w17 ⟨v266, rfl, ho0, hb⟩; refine ⟨_, rfl, ?_⟩; replace HO264 := am_ (Kd.R_below (by (with_reducible repeat (first | apply Kd.R_alloc | apply Kd.R_drewN | apply Kd.R_drew)); exact (yr0_ HO264 BK261)) hb); have HO267 := am_ (Kd.R_lower ho0 (below_size ybl_)); replace BK259 := am_ (blk_below (g := gb259) (o := .cells #[.slice A0_0 l0_0.length c0_0, .slice A0_1 l0_1.length c0_1, .slice A0_2 l0_2.length c0_2, .int .i64 a0_3, .slice A0_4 l0_4.length c0_4] 29 (0, 0)) (by (with_reducible repeat (first | refine blk_drewN ?_ _ | refine blk_drew ?_ | refine blk_alloc ?_ _)); refine blk_far ?_ NB259_261.out _; (with_reducible repeat (first | refine blk_drewN ?_ _ | refine blk_drew ?_ | refine blk_alloc ?_ _)); exact BK259.out) hb); replace BK260 := am_ (blk_below (g := gb260) (o := .cells #[.slice none 0 0, .slice none 0 0, .slice none 0 0, .int .i64 0, .slice none 0 0] 39 (0, 0)) (by (with_reducible repeat (first | refine blk_drewN ?_ _ | refine blk_drew ?_ | refine blk_alloc ?_ _)); refine blk_far ?_ NB260_261.out _; (with_reducible repeat (first | refine blk_drewN ?_ _ | refine blk_drew ?_ | refine blk_alloc ?_ _)); exact BK260.out) hb); replace BK261 := am_ (blk_below (g := gb261) (o := .cells #[.slice Ao13 t262.length co13, .slice none 0 0, .slice none 0 0, .int .i64 0, .slice none 0 0] 39 (0, 0)) (by (with_reducible repeat (first | refine blk_drewN ?_ _ | refine blk_drew ?_ | refine blk_alloc ?_ _)); refine blk_put (cs := #[.slice none 0 0, .slice none 0 0, .slice none 0 0, .int .i64 0, .slice none 0 0]) ?_ 0 _ rfl; (with_reducible repeat (first | refine blk_drewN ?_ _ | refine blk_drew ?_ | refine blk_alloc ?_ _)); exact BK261.out) hb); replace HB := yst_ hb; (try clear hb); (try clear hb2); (try clear hk); (try clear hi); (try clear ho0); obtain ⟨Ao18, co18, eo18⟩ := Kd.R_slice HO267.out; subst eo18; have hcz19 := ye5_ BK261; have hfz19 := yf5_ BK261; have hcz20 := ye5_ BK259; have hfz20 := yf5_ BK259) | ((with_reducible refine gate_callee (f := 19) rfl ?_); refine goesL_ (some 14) rfl rfl Tryz.func19 (by kernel_rfl) rfl #[.slice A0_2 l0_2.length c0_2] rfl yk1_ ?_; (with_reducible refine (laws_toIntS.calls k _ _ l0_2 t268 _ ?side1 HC0_2.out A4.out).mono ?_); (case side1 => exact Kd.C_below HR0_2.out ybl_); rintro e w21 ⟨v269, rfl, ho0, hb⟩; refine ⟨_, rfl, ?_⟩; replace HO264 := am_ (Kd.R_below (by (with_reducible repeat (first | apply Kd.R_alloc | apply Kd.R_drewN | apply Kd.R_drew)); exact (yr1_ HO264 BK261)) hb); have HO270 := am_ (Kd.R_lower (Kd.R_new' ho0 (Kd.R_lt (by (with_reducible repeat (first | apply Kd.R_alloc | apply Kd.R_drewN | apply Kd.R_drew)); exact (yr1_ HO267 BK261)))) (below_size ybl_)); replace HO267 := am_ (Kd.R_elder' (by (with_reducible repeat (first | apply Kd.R_alloc | apply Kd.R_drewN | apply Kd.R_drew)); exact (yr1_ HO267 BK261)) (Kd.R_base ho0) hb); replace BK259 := am_ (blk_below (g := gb259) (o := .cells #[.slice A0_0 l0_0.length c0_0, .slice A0_1 l0_1.length c0_1, .slice A0_2 l0_2.length c0_2, .int .i64 a0_3, .slice A0_4 l0_4.length c0_4] 29 (0, 0)) (by (with_reducible repeat (first | refine blk_drewN ?_ _ | refine blk_drew ?_ | refine blk_alloc ?_ _)); refine blk_far ?_ NB259_261.out _; (with_reducible repeat (first | refine blk_drewN ?_ _ | refine blk_drew ?_ | refine blk_alloc ?_ _)); exact BK259.out) hb); replace BK260 := am_ (blk_below (g := gb260) (o := .cells #[.slice none 0 0, .slice none 0 0, .slice none 0 0, .int .i64 0, .slice none 0 0] 39 (0, 0)) (by (with_reducible repeat (first | refine blk_drewN ?_ _ | refine blk_drew ?_ | refine blk_alloc ?_ _)); refine blk_far ?_ NB260_261.out _; (with_reducible repeat (first | refine blk_drewN ?_ _ | refine blk_drew ?_ | refine blk_alloc ?_ _)); exact BK260.out) hb); replace BK261 := am_ (blk_below (g := gb261) (o := .cells #[.slice Ao13 t262.length co13, .slice Ao18 t265.length co18, .slice none 0 0, .int .i64 0, .slice none 0 0] 39 (0, 0)) (by (with_reducible repeat (first | refine blk_drewN ?_ _ | refine blk_drew ?_ | refine blk_alloc ?_ _)); refine blk_put (cs := #[.slice Ao13 t262.length co13, .slice none 0 0, .slice none 0 0, .int .i64 0, .slice none 0 0]) ?_ 1 _ rfl; (with_reducible repeat (first | refine blk_drewN ?_ _ | refine blk_drew ?_ | refine blk_alloc ?_ _)); exact BK261.out) hb); replace HB := yst_ hb; (try clear hb); (try clear hb2); (try clear hk); (try clear hi); (try clear ho0); obtain ⟨Ao22, co22, eo22⟩ := Kd.R_slice HO270.out; subst eo22; have hcz23 := ye5_ BK261; have hfz23 := yf5_ BK261; have hcz24 := ye5_ BK259; have hfz24 := yf5_ BK259) | ((with_reducible refine gate_callee (f := 46) rfl ?_); refine goesL_ (some 21) rfl rfl Tryz.func46 (by kernel_rfl) rfl #[.slice A0_4 l0_4.length c0_4] rfl yk1_ ?_; (with_reducible refine (laws_toDeedS.calls k _ _ l0_4 t271 _ ?side1 HC0_4.out A5.out).mono ?_); (case side1 => exact Kd.C_below HR0_4.out ybl_); rintro e w25 ⟨v272, rfl, ho0, hb⟩; refine ⟨_, rfl, ?_⟩; replace HO264 := am_ (Kd.R_below (by (with_reducible repeat (first | apply Kd.R_alloc | apply Kd.R_drewN | apply Kd.R_drew)); exact (yr2_ HO264 BK261)) hb); replace HO267 := am_ (Kd.R_below (by (with_reducible repeat (first | apply Kd.R_alloc | apply Kd.R_drewN | apply Kd.R_drew)); exact (yr2_ HO267 BK261)) hb); replace HO270 := am_ (Kd.R_below (by (with_reducible repeat (first | apply Kd.R_alloc | apply Kd.R_drewN | apply Kd.R_drew)); exact (yr2_ HO270 BK261)) hb); have HO273 := am_ (Kd.R_lower ho0 (below_size ybl_)); replace BK259 := am_ (blk_below (g := gb259) (o := .cells #[.slice A0_0 l0_0.length c0_0, .slice A0_1 l0_1.length c0_1, .slice A0_2 l0_2.length c0_2, .int .i64 a0_3, .slice A0_4 l0_4.length c0_4] 29 (0, 0)) (by (with_reducible repeat (first | refine blk_drewN ?_ _ | refine blk_drew ?_ | refine blk_alloc ?_ _)); refine blk_far ?_ NB259_261.out _; (with_reducible repeat (first | refine blk_drewN ?_ _ | refine blk_drew ?_ | refine blk_alloc ?_ _)); refine blk_far ?_ NB259_261.out _; (with_reducible repeat (first | refine blk_drewN ?_ _ | refine blk_drew ?_ | refine blk_alloc ?_ _)); exact BK259.out) hb); replace BK260 := am_ (blk_below (g := gb260) (o := .cells #[.slice none 0 0, .slice none 0 0, .slice none 0 0, .int .i64 0, .slice none 0 0] 39 (0, 0)) (by (with_reducible repeat (first | refine blk_drewN ?_ _ | refine blk_drew ?_ | refine blk_alloc ?_ _)); refine blk_far ?_ NB260_261.out _; (with_reducible repeat (first | refine blk_drewN ?_ _ | refine blk_drew ?_ | refine blk_alloc ?_ _)); refine blk_far ?_ NB260_261.out _; (with_reducible repeat (first | refine blk_drewN ?_ _ | refine blk_drew ?_ | refine blk_alloc ?_ _)); exact BK260.out) hb); replace BK261 := am_ (blk_below (g := gb261) (o := .cells #[.slice Ao13 t262.length co13, .slice Ao18 t265.length co18, .slice Ao22 t268.length co22, .int .i64 a0_3, .slice none 0 0] 39 (0, 0)) (by (with_reducible repeat (first | refine blk_drewN ?_ _ | refine blk_drew ?_ | refine blk_alloc ?_ _)); refine blk_put (cs := #[.slice Ao13 t262.length co13, .slice Ao18 t265.length co18, .slice Ao22 t268.length co22, .int .i64 0, .slice none 0 0]) ?_ 3 _ rfl; (with_reducible repeat (first | refine blk_drewN ?_ _ | refine blk_drew ?_ | refine blk_alloc ?_ _)); refine blk_put (cs := #[.slice Ao13 t262.length co13, .slice Ao18 t265.length co18, .slice none 0 0, .int .i64 0, .slice none 0 0]) ?_ 2 _ rfl; (with_reducible repeat (first | refine blk_drewN ?_ _ | refine blk_drew ?_ | refine blk_alloc ?_ _)); exact BK261.out) hb); replace HB := yst_ hb; (try clear hb); (try clear hb2); (try clear hk); (try clear hi); (try clear ho0); obtain ⟨Ao26, co26, eo26⟩ := Kd.R_slice HO273.out; subst eo26; have hcz27 := ye5_ BK261; have hfz27 := yf5_ BK261; have hcz28 := ye5_ BK260; have hfz28 := yf5_ BK260))
 refine bodyPost_ret (results_cell_row rfl _ _ gb260 39 #[.slice Ao13 t262.length co13, .slice Ao18 t265.length co18, .slice Ao22 t268.length co22, .int .i64 a0_3, .slice Ao26 t271.length co26] (0, 0) _ rfl (by (with_reducible repeat (first | refine blk_drewN ?_ _ | refine blk_drew ?_ | refine blk_alloc ?_ _)); refine blk_put (cs := #[.slice Ao13 t262.length co13, .slice Ao18 t265.length co18, .slice Ao22 t268.length co22, .int .i64 a0_3, .slice none 0 0]) ?_ 4 _ rfl; (with_reducible repeat (first | refine blk_drewN ?_ _ | refine blk_drew ?_ | refine blk_alloc ?_ _)); refine blk_put (cs := #[.slice Ao13 t262.length co13, .slice Ao18 t265.length co18, .slice Ao22 t268.length co22, .int .i64 0, .slice none 0 0]) ?_ 3 _ rfl; (with_reducible repeat (first | refine blk_drewN ?_ _ | refine blk_drew ?_ | refine blk_alloc ?_ _)); refine blk_put (cs := #[.slice Ao13 t262.length co13, .slice Ao18 t265.length co18, .slice none 0 0, .int .i64 0, .slice none 0 0]) ?_ 2 _ rfl; (with_reducible repeat (first | refine blk_drewN ?_ _ | refine blk_drew ?_ | refine blk_alloc ?_ _)); refine blk_put (cs := #[.slice Ao13 t262.length co13, .slice none 0 0, .slice none 0 0, .int .i64 0, .slice none 0 0]) ?_ 1 _ rfl; (with_reducible repeat (first | refine blk_drewN ?_ _ | refine blk_drew ?_ | refine blk_alloc ?_ _)); refine blk_put (cs := #[.slice none 0 0, .slice none 0 0, .slice none 0 0, .int .i64 0, .slice none 0 0]) ?_ 0 _ rfl; (with_reducible repeat (first | refine blk_drewN ?_ _ | refine blk_drew ?_ | refine blk_alloc ?_ _)); refine blk_far ?_ NB260_261.out _; (with_reducible repeat (first | refine blk_drewN ?_ _ | refine blk_drew ?_ | refine blk_alloc ?_ _)); exact BK260.out) Tryz.underlying39 rfl (by kernel_rfl)) rfl ?_
 exact ⟨_, _, _, _, yk0_, by (with_reducible repeat (first | apply Kd.R_alloc | apply Kd.R_drewN | apply Kd.R_drew)); exact Kd.R_mono (yr3_ HO264 BK261 BK260) (fun _ hk => trivial), by (with_reducible repeat (first | apply Kd.R_alloc | apply Kd.R_drewN | apply Kd.R_drew)); exact Kd.R_mono (Kd.R_far (p := ⟨gb260, 4, none⟩) (Kd.R_far (p := ⟨gb260, 3, none⟩) (Kd.R_far (p := ⟨gb260, 2, none⟩) (Kd.R_far (p := ⟨gb260, 1, none⟩) (Kd.R_far (p := ⟨gb260, 0, none⟩) (Kd.R_far (p := ⟨gb261, 4, none⟩) (Kd.R_types (Kd.R_types HO267.out BK261.out (by decide)) BK260.out (by decide)) (fun _ hk => hk.1.2) (.slice Ao26 t271.length co26)) (fun _ hk => hk.2) (.slice Ao13 t262.length co13)) (fun _ hk => hk.2) (.slice Ao18 t265.length co18)) (fun _ hk => hk.2) (.slice Ao22 t268.length co22)) (fun _ hk => hk.2) (.int .i64 a0_3)) (fun _ hk => hk.2) (.slice Ao26 t271.length co26)) (fun _ hk => hk.1.1.2), by (with_reducible repeat (first | apply Kd.R_alloc | apply Kd.R_drewN | apply Kd.R_drew)); exact Kd.R_mono (Kd.R_far (p := ⟨gb260, 4, none⟩) (Kd.R_far (p := ⟨gb260, 3, none⟩) (Kd.R_far (p := ⟨gb260, 2, none⟩) (Kd.R_far (p := ⟨gb260, 1, none⟩) (Kd.R_far (p := ⟨gb260, 0, none⟩) (Kd.R_far (p := ⟨gb261, 4, none⟩) (Kd.R_types (Kd.R_types HO270.out BK261.out (by decide)) BK260.out (by decide)) (fun _ hk => hk.1.2) (.slice Ao26 t271.length co26)) (fun _ hk => hk.2) (.slice Ao13 t262.length co13)) (fun _ hk => hk.2) (.slice Ao18 t265.length co18)) (fun _ hk => hk.2) (.slice Ao22 t268.length co22)) (fun _ hk => hk.2) (.int .i64 a0_3)) (fun _ hk => hk.2) (.slice Ao26 t271.length co26)) (fun _ hk => hk.1.1.2), by (with_reducible repeat (first | apply Kd.R_alloc | apply Kd.R_drewN | apply Kd.R_drew)); exact Kd.R_mono (yr3_ HO273 BK261 BK260) (fun _ hk => trivial), ybl_⟩

/-! ### laws_toCall: function 47 -/
def laws_toCall.f (a0_0 : Int) (a0_1 : Int) (a0_2 : Int) (a0_3 : Bool) : Option (Int × Int × Int × Bool) := some (a0_0, a0_1, a0_2, a0_3)
set_option maxHeartbeats 8000000 in
set_option maxRecDepth 100000 in
theorem laws_toCall.calls (a0_0 : Int) (a0_1 : Int) (a0_2 : Int) (a0_3 : Bool) (r1 : Int) (r2 : Int) (r3 : Int) (r4 : Bool) (w : World) (h : laws_toCall.f a0_0 a0_1 a0_2 a0_3 = some (r1, r2, r3, r4)) :
  Calls Tryz.prog 47 #[.agg #[.int .i64 a0_0, .int .i64 a0_1, .int .i64 a0_2, .bool a0_3]] w fun e w' => e = .returned (.agg #[.int .i64 r1, .int .i64 r2, .int .i64 r3, .bool r4]) ∧ Below w.heap.size w w' := by
 have hu80 := Tryz.underlying80
 have hu63 := Tryz.underlying63
 have HB := am_ (Below.refl w.heap.size w)
 have H : (some (a0_0, a0_1, a0_2, a0_3)) = some (r1, r2, r3, r4) := h
 clear h
 simp only [Option.some.injEq, Prod.mk.injEq] at H
 obtain ⟨rfl, rfl, rfl, rfl⟩ := H
 go_enter Tryz.func47, Tryz.ntmps47
 go_wp2_with (first | ((with_reducible refine gate_dst (N := 1) rfl ?_); refine box_event ?hg (N := 1) ?hd (cs := #[.int .i64 a0_0, .int .i64 a0_1, .int .i64 a0_2, .bool a0_3]) (t := 80) ?hr ?_; (case hd => rfl); (case hg => rfl); (case hr => first | (go_simp; done) | (go_simp; rfl)); intro gb274 hg w2 hbox hb; have BK274 := am_ (hbox); have GW274 := am_ ((ybsz_ hg : w.heap.size ≤ gb274)); have GE274 := GW274; replace HB := yst_ hb; clear hb hbox hg) | ((with_reducible refine gate_dst (N := 2) rfl ?_); refine box_event ?hg (N := 2) ?hd (cs := #[.int .i64 0, .int .i64 0, .int .i64 0, .bool false]) (t := 63) ?hr ?_; (case hd => rfl); (case hg => rfl); (case hr => first | (go_simp; done) | (go_simp; rfl)); intro gb275 hg w3 hbox hb; have BK275 := am_ (hbox); have GW275 := am_ ((ybsz_ hg : w.heap.size ≤ gb275)); have GE275 := GW275; replace HB := yst_ hb; have NB274_275 := am_ (ybne_ hg BK274); have NB275_274 := am_ ((ybne_ hg BK274).symm); replace BK274 := am_ (ybb_ BK274 hb); clear hb hbox hg) | ((with_reducible refine gate_dst (N := 3) rfl ?_); refine box_event ?hg (N := 3) ?hd (cs := #[.int .i64 0, .int .i64 0, .int .i64 0, .bool false]) (t := 63) ?hr ?_; (case hd => rfl); (case hg => rfl); (case hr => first | (go_simp; done) | (go_simp; rfl)); intro gb276 hg w4 hbox hb; have BK276 := am_ (hbox); have GW276 := am_ ((ybsz_ hg : w.heap.size ≤ gb276)); have GE276 := GW276; replace HB := yst_ hb; have NB274_276 := am_ (ybne_ hg BK274); have NB276_274 := am_ ((ybne_ hg BK274).symm); replace BK274 := am_ (ybb_ BK274 hb); have NB275_276 := am_ (ybne_ hg BK275); have NB276_275 := am_ ((ybne_ hg BK275).symm); replace BK275 := am_ (ybb_ BK275 hb); clear hb hbox hg; have hnb5 := NB274_275.out; have hnc5 := NB275_274.out; have hnb6 := NB274_276.out; have hnc6 := NB276_274.out; have hcz7 := ye4_ BK274; have hfz7 := yf4_ BK274; have hnb8 := NB276_275.out; have hnc8 := NB275_276.out; have hcz9 := ye4_ BK276; have hfz9 := yf4_ BK276; have hcz10 := ye4_ BK275; have hfz10 := yf4_ BK275))
 refine bodyPost_ret (results_cell_row rfl _ _ gb275 63 #[.int .i64 a0_0, .int .i64 a0_1, .int .i64 a0_2, .bool a0_3] (0, 0) _ rfl (by (with_reducible repeat (first | refine blk_drewN ?_ _ | refine blk_drew ?_ | refine blk_alloc ?_ _)); refine blk_put (cs := #[.int .i64 a0_0, .int .i64 a0_1, .int .i64 a0_2, .bool false]) ?_ 3 _ rfl; (with_reducible repeat (first | refine blk_drewN ?_ _ | refine blk_drew ?_ | refine blk_alloc ?_ _)); refine blk_put (cs := #[.int .i64 a0_0, .int .i64 a0_1, .int .i64 0, .bool false]) ?_ 2 _ rfl; (with_reducible repeat (first | refine blk_drewN ?_ _ | refine blk_drew ?_ | refine blk_alloc ?_ _)); refine blk_put (cs := #[.int .i64 a0_0, .int .i64 0, .int .i64 0, .bool false]) ?_ 1 _ rfl; (with_reducible repeat (first | refine blk_drewN ?_ _ | refine blk_drew ?_ | refine blk_alloc ?_ _)); refine blk_put (cs := #[.int .i64 0, .int .i64 0, .int .i64 0, .bool false]) ?_ 0 _ rfl; (with_reducible repeat (first | refine blk_drewN ?_ _ | refine blk_drew ?_ | refine blk_alloc ?_ _)); refine blk_far ?_ NB275_276.out _; (with_reducible repeat (first | refine blk_drewN ?_ _ | refine blk_drew ?_ | refine blk_alloc ?_ _)); refine blk_far ?_ NB275_276.out _; (with_reducible repeat (first | refine blk_drewN ?_ _ | refine blk_drew ?_ | refine blk_alloc ?_ _)); refine blk_far ?_ NB275_276.out _; (with_reducible repeat (first | refine blk_drewN ?_ _ | refine blk_drew ?_ | refine blk_alloc ?_ _)); refine blk_far ?_ NB275_276.out _; (with_reducible repeat (first | refine blk_drewN ?_ _ | refine blk_drew ?_ | refine blk_alloc ?_ _)); exact BK275.out) Tryz.underlying63 rfl (by kernel_rfl)) rfl ?_
 exact ⟨yk0_, ybl_⟩

/-! ### laws_toCallS: function 22 -/
def laws_toCallS.l0 : Nat → List (S80) → List (S63) → Int → Option ((List (S63)))
 | 0, _, _, _ => none
 | k + 1, x0, x3, x4 => if x4 < (x0.length : Int) then (if 0 ≤ x4 then ((laws_toCall.f ((rd_T80 x0 x4).f0) ((rd_T80 x0 x4).f1) ((rd_T80 x0 x4).f2) ((rd_T80 x0 x4).f3)).bind fun bt281 => (if x4 < (x3.length : Int) then (laws_toCallS.l0 k x0 (x3.set (x4 : Int).toNat (⟨bt281.1, bt281.2.1, bt281.2.2.1, bt281.2.2.2⟩ : S63)) (wrap64 (x4 + 1))) else (none))) else (none)) else (some x3)
def laws_toCallS.f (k : Nat) (l0 : List (S80)) : Option ((List (S63))) := if 0 ≤ (l0.length : Int) then (if ((l0.length : Int) : Int).toNat ≤ 8796093022208 then (laws_toCallS.l0 k l0 (List.replicate ((l0.length : Int) : Int).toNat z63) 0) else (none)) else (none)
theorem laws_toCallS.mono_l : ∀ k, (∀ y0 y1 y2, LeO (laws_toCallS.l0 k y0 y1 y2) (laws_toCallS.l0 (k + 1) y0 y1 y2))
 | 0 => fun _ _ _ r h => by simp [laws_toCallS.l0] at h
 | k + 1 => by
  have ih0 := laws_toCallS.mono_l k
  ·intro y0 y1 y2
   unfold laws_toCallS.l0
   repeat' first
   | (with_reducible exact ih0 _ _ _)
   | (with_reducible exact LeO.refl _)
   | (with_reducible exact LeO.none _)
   | (with_reducible refine LeO.ite ?_ ?_)
   | (with_reducible refine LeO.bind ?_ (fun _ => ?_))
   | exact ih0 _ _ _
   | exact LeO.none _
   | refine LeO.ite ?_ ?_
   | refine LeO.bind ?_ (fun _ => ?_)
theorem laws_toCallS.mono : ∀ a0 k, LeO (laws_toCallS.f k a0) (laws_toCallS.f (k + 1) a0) := by
 intro a0 k
 have ih0 := laws_toCallS.mono_l k
 unfold laws_toCallS.f
 repeat' first
   | (with_reducible exact ih0 _ _ _)
   | (with_reducible exact LeO.refl _)
   | (with_reducible exact LeO.none _)
   | (with_reducible refine LeO.ite ?_ ?_)
   | (with_reducible refine LeO.bind ?_ (fun _ => ?_))
   | exact ih0 _ _ _
   | exact LeO.none _
   | refine LeO.ite ?_ ?_
   | refine LeO.bind ?_ (fun _ => ?_)
set_option maxHeartbeats 8000000 in
set_option maxRecDepth 100000 in
theorem laws_toCallS.calls (k : Nat) (A0 : Option Addr) (c0 : Nat) (l0 : List (S80)) (r : List (S63)) (w : World) (hr0 : Kd.C k80 w A0 l0.length l0) (hc0 : l0.length ≤ c0) (h : laws_toCallS.f k l0 = some r) :
  Calls Tryz.prog 22 #[.slice A0 l0.length c0] w fun e w' => ∃ v0_ : Value, e = .returned (v0_) ∧ Kd.R k63 63 w' w.heap.size (fun _ => True) v0_ r ∧ Below w.heap.size w w' := by
 have hu80 := Tryz.underlying80
 have hu63 := Tryz.underlying63
 have HR0 := am_ hr0
 have HC0 := am_ hc0
 clear hr0 hc0
 have HB := am_ (Below.refl w.heap.size w)
 have H : (if 0 ≤ (l0.length : Int) then (if ((l0.length : Int) : Int).toNat ≤ 8796093022208 then (laws_toCallS.l0 k l0 (List.replicate ((l0.length : Int) : Int).toNat z63) 0) else (none)) else (none)) = some r := h
 clear h
 by_cases c2 : 0 ≤ (l0.length : Int)
 ·rw [if_pos c2] at H
  have c2b0 := eq_true c2
  have c2b1 : decide (0 ≤ (l0.length : Int)) = true := decide_eq_true c2
  clear c2
  by_cases c3 : ((l0.length : Int) : Int).toNat ≤ 8796093022208
  ·rw [if_pos c3] at H
   have c3b0 := eq_true c3
   have c3b1 : decide (((l0.length : Int) : Int).toNat ≤ 8796093022208) = true := decide_eq_true c3
   clear c3
   obtain ⟨y277, hy277⟩ : ∃ y_ : List (S63), y_ = (List.replicate ((l0.length : Int) : Int).toNat z63) := ⟨_, rfl⟩
   replace H : (laws_toCallS.l0 k l0 y277 0) = some r := by first | (rw [hy277]; with_reducible exact H) | (have H2_ := (Option.bind_some _ _).symm.trans H; rw [hy277]; with_reducible exact H2_) | (have H2_ := (Option.bind_some _ _).symm.trans H; with_reducible exact H2_) | with_reducible exact H | (rw [hy277]; exact H) | exact H
   have Ny277 := am_ hy277
   clear hy277
   have H' := am_ H
   clear H
   go_enter Tryz.func22, Tryz.ntmps22
   go_wp2_with (first | ((with_reducible refine gate_dst (N := 7) rfl ?_); refine Kd.R_make k63 _ 63 rfl (N := 7) rfl 40 _ _ rfl (l0.length : Int) rfl rfl Tryz.underlying40 (.agg #[(.int .i64 0), (.int .i64 0), (.int .i64 0), (.bool false)]) 32 info63 rfl (by decide) (by omega) z63 (ok := fun _ => True) (okp := fun _ => True) (k63_mkM _ _ _ z63 ) (fun _ hk => hk) trivial (of_decide_eq_true yqv11_) (Nat.le_trans (Nat.mul_le_mul_right _ (of_decide_eq_true yqv11_ : (l0.length : Int).toNat ≤ 8796093022208)) (by omega)) (Below.refl _ _) (Nat.le_refl _) ?_; intro v278 w4 ho5 hb hg_ hnew_; clear hg_ hnew_; (first | rw [← Ny277.out] at ho5 | (simp only [Int.reduceToNat] at ho5; rw [← Ny277.out] at ho5)); have HO279 := am_ (Kd.R_lower ho5 (below_size ybl_)); replace HB := yst_ hb; clear hb ho5))
   go_loopg [4] k (fun kq v4 w' => ∃ (x3_1 : List (S63)) (x4_1 : Int), v4 = .int .i64 x4_1 ∧ Aside0 (laws_toCallS.l0 kq l0 x3_1 x4_1 = some r) ∧ Aside0 (kq ≤ k) ∧ Aside0 (Kd.R k63 63 w' w.heap.size (fun _ => True) v278 x3_1) ∧ Aside0 (Below w.heap.size w w'))
   case atStart => exact ⟨(y277), (0), (by first | rfl | (simp; done) | (simp [*]; done)), H', ⟨Nat.le_refl _⟩, ⟨(yru_ HO279)⟩, ⟨ybl_⟩⟩
   case round =>
    clear H'
    try clear c2
    try clear c2b0
    try clear c2b1
    try clear p2
    try clear c3
    try clear c3b0
    try clear c3b1
    obtain ⟨x3_1, x4_1, rfl, HA, HK1, HO_3, HB⟩ := hrel
    cases gk with
    | zero => exact absurd HA.out (by simp [laws_toCallS.l0])
    | succ k1 =>
     have H := HA.out
     clear HA
     simp only [laws_toCallS.l0] at H
     by_cases c6 : x4_1 < (l0.length : Int)
     ·rw [if_pos c6] at H
      have c6b0 : decide (x4_1 < (l0.length : Int)) = true := decide_eq_true c6
      clear c6
      by_cases c7 : 0 ≤ x4_1
      ·rw [if_pos c7] at H
       have c7b0 : decide (0 ≤ x4_1) = true := decide_eq_true c7
       clear c7
       replace H := Option.bind_eq_some_iff.mp H
       obtain ⟨⟨t281, t282, t283, t284⟩, A80, H⟩ := H
       replace H : (if x4_1 < (x3_1.length : Int) then (laws_toCallS.l0 k1 l0 (x3_1.set (x4_1 : Int).toNat (⟨t281, t282, t283, t284⟩ : S63)) (wrap64 (x4_1 + 1))) else (none)) = some r := H
       have A8 := am_ A80
       clear A80
       by_cases c9 : x4_1 < (x3_1.length : Int)
       ·rw [if_pos c9] at H
        have c9b0 : decide (x4_1 < (x3_1.length : Int)) = true := decide_eq_true c9
        clear c9
        obtain ⟨y285, hy285⟩ : ∃ y_ : List (S63), y_ = (x3_1.set (x4_1 : Int).toNat (⟨t281, t282, t283, t284⟩ : S63)) := ⟨_, rfl⟩
        replace H : (laws_toCallS.l0 k1 l0 y285 (wrap64 (x4_1 + 1))) = some r := by first | (rw [hy285]; with_reducible exact H) | (have H2_ := (Option.bind_some _ _).symm.trans H; rw [hy285]; with_reducible exact H2_) | (have H2_ := (Option.bind_some _ _).symm.trans H; with_reducible exact H2_) | with_reducible exact H | (rw [hy285]; exact H) | exact H
        have Ny285 := am_ hy285
        clear hy285
        have H' := am_ H
        clear H
        have p280 : 0 ≤ (x4_1 : Int) := of_decide_eq_true yqv11_
        have q280 : x4_1 < (l0.length : Int) := of_decide_eq_true yqv11_
        obtain ⟨ad280, e280, hx280_0, hx280_1, hx280_2, hx280_3⟩ := at_T80 HR0.out x4_1 p280 q280
        cases e280
        replace hx280_0 := ycst_ HB hx280_0
        replace hx280_1 := ycst_ HB hx280_1
        replace hx280_2 := ycst_ HB hx280_2
        replace hx280_3 := ycst_ HB hx280_3
        replace p280 := eq_true p280
        replace q280 := eq_true q280
        go_wp2_with (first | ((with_reducible refine gate_callee (f := 47) rfl ?_); refine goesL_ (some 20) rfl rfl Tryz.func47 (by kernel_rfl) rfl #[.agg #[.int .i64 ((rd_T80 l0 x4_1).f0), .int .i64 ((rd_T80 l0 x4_1).f1), .int .i64 ((rd_T80 l0 x4_1).f2), .bool ((rd_T80 l0 x4_1).f3)]] rfl yk1_ ?_; (with_reducible refine (laws_toCall.calls ((rd_T80 l0 x4_1).f0) ((rd_T80 l0 x4_1).f1) ((rd_T80 l0 x4_1).f2) ((rd_T80 l0 x4_1).f3) t281 t282 t283 t284 _ A8.out).mono ?_); rintro e w11 ⟨rfl, hb⟩; refine ⟨_, rfl, ?_⟩; replace HO_3 := am_ (Kd.R_below (yru_ HO_3) hb); replace HB := yst_ hb; (try clear hb); (try clear hb2); (try clear hk); (try clear hi); have p10 : 0 ≤ (x4_1 : Int) := of_decide_eq_true yqv11_; have q10 : (x4_1 : Int) < ((x3_1.length : Int) : Int) := of_decide_eq_true yqv11_; obtain ⟨go10, co10, eo10, gb10, gl10, cl10, HG10⟩ := Kd.R_form HO_3.out (by omega); (first | cases eo10 | (injection eo10 with ea_ en_ ec_; (first | subst ea_ | (injection ea_ with ea_; subst ea_)); subst ec_; clear en_)); have GB10 := am_ gb10; have GG10 := am_ HG10; clear gb10 gl10 HG10; obtain ⟨ce10, hcl10, hM10, hcc10, hfr10⟩ := Kd.R_elem HO_3.out z63 (x4_1 : Int) p10 q10; obtain rfl := k63_openM hM10; have hx10_0 : w11.cell? ⟨go10, (x4_1 : Int).toNat * 4, none⟩ = some (.int .i64 ((rd_T63 x3_1 x4_1).f0)) := hcc10 0 _ rfl; have hx10_1 : w11.cell? ⟨go10, (x4_1 : Int).toNat * 4 + 1, none⟩ = some (.int .i64 ((rd_T63 x3_1 x4_1).f1)) := hcc10 1 _ rfl; have hx10_2 : w11.cell? ⟨go10, (x4_1 : Int).toNat * 4 + 2, none⟩ = some (.int .i64 ((rd_T63 x3_1 x4_1).f2)) := hcc10 2 _ rfl; have hx10_3 : w11.cell? ⟨go10, (x4_1 : Int).toNat * 4 + 3, none⟩ = some (.bool ((rd_T63 x3_1 x4_1).f3)) := hcc10 3 _ rfl; have hf10_0 : w11.frozen? ⟨go10, (x4_1 : Int).toNat * 4, none⟩ = false := hfr10 0; have hf10_1 : w11.frozen? ⟨go10, (x4_1 : Int).toNat * 4 + 1, none⟩ = false := hfr10 1; have hf10_2 : w11.frozen? ⟨go10, (x4_1 : Int).toNat * 4 + 2, none⟩ = false := hfr10 2; have hf10_3 : w11.frozen? ⟨go10, (x4_1 : Int).toNat * 4 + 3, none⟩ = false := hfr10 3; clear hcl10 hcc10 hfr10 hM10; replace p10 := eq_true p10; replace q10 := eq_true q10; have HX12 := am_ (show Kd.R k63 63 w11 w.heap.size (fun _ => True) (.slice (some ⟨go10, 0, none⟩) x3_1.length co10) x3_1 from (yru_ HO_3)); obtain ⟨ce12, hcl12, hM12, hcc12, hfr12⟩ := Kd.R_elem HX12.out z63 (x4_1 : Int) (of_decide_eq_true yqv11_) (by have h_ : (x4_1 : Int) < ((x3_1.length : Int) : Int) := of_decide_eq_true yqv11_; first | exact h_ | (have e_ := (Kd.R_reads' HO_3.out).1; omega) | simpa using h_); obtain rfl := k63_openM hM12; have HP12 := Kd.R_seg HX12.out (x4_1 : Int) (of_decide_eq_true yqv11_) (by have h_ : (x4_1 : Int) < ((x3_1.length : Int) : Int) := of_decide_eq_true yqv11_; first | exact h_ | (have e_ := (Kd.R_reads' HO_3.out).1; omega) | simpa using h_) (seg := [.int .i64 t281, .int .i64 t282, .int .i64 t283, .bool t284]) (j := 0) hcl12 hcc12 (show 4 ≤ 4 from by decide) (x' := (⟨t281, t282, t283, t284⟩ : S63)) (k63_mkM _ _ _ (⟨t281, t282, t283, t284⟩ : S63) ) (fun _ hk => hk); have hx12_0 := hcc12 0 _ rfl; (try simp only [show (k63).sz = 4 from rfl, Nat.mul_one, Nat.add_zero] at hx12_0); have hf12_0 := hfr12 0; (try simp only [show (k63).sz = 4 from rfl, Nat.mul_one, Nat.add_zero] at hf12_0); have hx12_1 := hcc12 1 _ rfl; (try simp only [show (k63).sz = 4 from rfl, Nat.mul_one, Nat.add_zero] at hx12_1); have hf12_1 := hfr12 1; (try simp only [show (k63).sz = 4 from rfl, Nat.mul_one, Nat.add_zero] at hf12_1); have hx12_2 := hcc12 2 _ rfl; (try simp only [show (k63).sz = 4 from rfl, Nat.mul_one, Nat.add_zero] at hx12_2); have hf12_2 := hfr12 2; (try simp only [show (k63).sz = 4 from rfl, Nat.mul_one, Nat.add_zero] at hf12_2); have hx12_3 := hcc12 3 _ rfl; (try simp only [show (k63).sz = 4 from rfl, Nat.mul_one, Nat.add_zero] at hx12_3); have hf12_3 := hfr12 3; (try simp only [show (k63).sz = 4 from rfl, Nat.mul_one, Nat.add_zero] at hf12_3); clear hcl12 hcc12 hfr12 hM12) | ((with_reducible refine gate_store (t := 63) (p := 21) rfl ?_); refine store_event (t := 63) (p := 21) (v := ?vo_w13) (w1 := ((((w11.setCell ⟨go10, (x4_1 : Int).toNat * 4, none⟩ (.int .i64 t281)).setCell ⟨go10, (x4_1 : Int).toNat * 4 + 1, none⟩ (.int .i64 t282)).setCell ⟨go10, (x4_1 : Int).toNat * 4 + 2, none⟩ (.int .i64 t283)).setCell ⟨go10, (x4_1 : Int).toNat * 4 + 3, none⟩ (.bool t284))) ?hg ?ho ?hn ?hr ?_; (case ho => rfl); (case hg => rfl); (case hn => rfl); (case hr => first | (go_simp; done) | (go_simp; rfl)); intro w13 hw; have hg : w11.grownBy w13 (some go10) := (by rw [hw]; exact HP12.2); have hp_ : Kd.R k63 63 w13 w.heap.size (fun _ => True) (.slice (some ⟨go10, 0, none⟩) x3_1.length co10) y285 := (by rw [hw, Ny285.out]; exact HP12.1); clear HP12; replace HO_3 := am_ (hp_); replace HB := am_ ((by rw [hw]; exact below_set (below_set (below_set (below_set (HB.out) GB10.out) GB10.out) GB10.out) GB10.out : Below w.heap.size w w13)); clear hg hw hp_))
        go_roundg k1
        case measure => have := HK1.out; omega
        case rel => exact ⟨(y285), (wrap64 (x4_1 + 1)), (by first | rfl | (simp; done) | (simp [*]; done)), H', ⟨by have := HK1.out; omega⟩, ⟨(yru_ HO_3)⟩, ⟨ybl_⟩⟩
       ·rw [if_neg c9] at H
        exact absurd H (by simp)
      ·rw [if_neg c7] at H
       exact absurd H (by simp)
     ·rw [if_neg c6] at H
      have c6b0 : decide (x4_1 < (l0.length : Int)) = false := decide_eq_false c6
      clear c6
      obtain rfl := Option.some.inj H
      go_wp2
      go_ret
      exact ⟨_, yk0_, by (with_reducible repeat (first | apply Kd.R_alloc | apply Kd.R_drewN | apply Kd.R_drew)); exact HO_3.out, ybl_⟩
  ·rw [if_neg c3] at H
   exact absurd H (by simp)
 ·rw [if_neg c2] at H
  exact absurd H (by simp)

/-! ### laws_toMachine: function 7 -/
def laws_toMachine.f (k : Nat) (l0_0 : List (S71)) (l0_1 : List Int) (l0_2 : List Int) (l0_3 : List Int) (l0_4 : List Int) (a0_5 : Int) (a0_6 : Int) (a0_7 : ByteArray) (l0_8 : List Bool) (l0_9 : List Int) (l0_10 : List Int) (a0_11 : Int) (l0_12 : List (S95)) (l0_13 : List (S80)) (a0_14 : Int) (a0_15 : Int) : Option ((List (S75)) × List Int × List Int × List Int × List Int × Int × Int × ByteArray × List Bool × List Int × List Int × Int × (List (S88)) × (List (S63)) × Int × Int) := (laws_toWordS.f k l0_0).bind fun t289 => ((laws_toIntS.f k l0_1).bind fun t292 => ((laws_toData.f k l0_2 l0_3 l0_4 a0_5 a0_6 a0_7).bind fun bt295 => ((laws_toHost.f k l0_8 l0_9 l0_10 a0_11 l0_12).bind fun bt307 => ((laws_toCallS.f k l0_13).bind fun t320 => (some (t289, t292, bt295.1, bt295.2.1, bt295.2.2.1, bt295.2.2.2.1, bt295.2.2.2.2.1, bt295.2.2.2.2.2, bt307.1, bt307.2.1, bt307.2.2.1, bt307.2.2.2.1, bt307.2.2.2.2, t320, a0_14, a0_15))))))
theorem laws_toMachine.mono : ∀ a0 a1 a2 a3 a4 a5 a6 a7 a8 a9 a10 a11 a12 a13 a14 a15 k, LeO (laws_toMachine.f k a0 a1 a2 a3 a4 a5 a6 a7 a8 a9 a10 a11 a12 a13 a14 a15) (laws_toMachine.f (k + 1) a0 a1 a2 a3 a4 a5 a6 a7 a8 a9 a10 a11 a12 a13 a14 a15) := by
 intro a0 a1 a2 a3 a4 a5 a6 a7 a8 a9 a10 a11 a12 a13 a14 a15 k
 unfold laws_toMachine.f
 repeat' first
   | (with_reducible exact laws_toCallS.mono _ _)
   | (with_reducible exact laws_toData.mono _ _ _ _ _ _ _)
   | (with_reducible exact laws_toHost.mono _ _ _ _ _ _)
   | (with_reducible exact laws_toIntS.mono _ _)
   | (with_reducible exact laws_toWordS.mono _ _)
   | (with_reducible exact LeO.refl _)
   | (with_reducible exact LeO.none _)
   | (with_reducible refine LeO.ite ?_ ?_)
   | (with_reducible refine LeO.bind ?_ (fun _ => ?_))
   | exact laws_toCallS.mono _ _
   | exact laws_toData.mono _ _ _ _ _ _ _
   | exact laws_toHost.mono _ _ _ _ _ _
   | exact laws_toIntS.mono _ _
   | exact laws_toWordS.mono _ _
   | exact LeO.none _
   | refine LeO.ite ?_ ?_
   | refine LeO.bind ?_ (fun _ => ?_)
set_option maxHeartbeats 8000000 in
set_option maxRecDepth 100000 in
theorem laws_toMachine.calls (k : Nat) (A0_0 : Option Addr) (c0_0 : Nat) (l0_0 : List (S71)) (A0_1 : Option Addr) (c0_1 : Nat) (l0_1 : List Int) (A0_2 : Option Addr) (c0_2 : Nat) (l0_2 : List Int) (A0_3 : Option Addr) (c0_3 : Nat) (l0_3 : List Int) (A0_4 : Option Addr) (c0_4 : Nat) (l0_4 : List Int) (a0_5 : Int) (a0_6 : Int) (a0_7 : ByteArray) (A0_8 : Option Addr) (c0_8 : Nat) (l0_8 : List Bool) (A0_9 : Option Addr) (c0_9 : Nat) (l0_9 : List Int) (A0_10 : Option Addr) (c0_10 : Nat) (l0_10 : List Int) (a0_11 : Int) (A0_12 : Option Addr) (c0_12 : Nat) (l0_12 : List (S95)) (A0_13 : Option Addr) (c0_13 : Nat) (l0_13 : List (S80)) (a0_14 : Int) (a0_15 : Int) (r1 : List (S75)) (r2 : List Int) (r3 : List Int) (r4 : List Int) (r5 : List Int) (r6 : Int) (r7 : Int) (r8 : ByteArray) (r9 : List Bool) (r10 : List Int) (r11 : List Int) (r12 : Int) (r13 : List (S88)) (r14 : List (S63)) (r15 : Int) (r16 : Int) (w : World) (hr0_0 : Kd.C k71 w A0_0 l0_0.length l0_0) (hc0_0 : l0_0.length ≤ c0_0) (hr0_1 : Kd.C (Kd.int .i64) w A0_1 l0_1.length l0_1) (hc0_1 : l0_1.length ≤ c0_1) (hr0_2 : Kd.C (Kd.int .i64) w A0_2 l0_2.length l0_2) (hc0_2 : l0_2.length ≤ c0_2) (hr0_3 : Kd.C (Kd.int .i64) w A0_3 l0_3.length l0_3) (hc0_3 : l0_3.length ≤ c0_3) (hr0_4 : Kd.C (Kd.int .i64) w A0_4 l0_4.length l0_4) (hc0_4 : l0_4.length ≤ c0_4) (hr0_8 : Kd.C Kd.bool w A0_8 l0_8.length l0_8) (hc0_8 : l0_8.length ≤ c0_8) (hr0_9 : Kd.C (Kd.int .i64) w A0_9 l0_9.length l0_9) (hc0_9 : l0_9.length ≤ c0_9) (hr0_10 : Kd.C (Kd.int .i64) w A0_10 l0_10.length l0_10) (hc0_10 : l0_10.length ≤ c0_10) (hr0_12 : Kd.C k95 w A0_12 l0_12.length l0_12) (hc0_12 : l0_12.length ≤ c0_12) (hr0_13 : Kd.C k80 w A0_13 l0_13.length l0_13) (hc0_13 : l0_13.length ≤ c0_13) (h : laws_toMachine.f k l0_0 l0_1 l0_2 l0_3 l0_4 a0_5 a0_6 a0_7 l0_8 l0_9 l0_10 a0_11 l0_12 l0_13 a0_14 a0_15 = some (r1, r2, r3, r4, r5, r6, r7, r8, r9, r10, r11, r12, r13, r14, r15, r16)) :
  Calls Tryz.prog 7 #[.agg #[.slice A0_0 l0_0.length c0_0, .slice A0_1 l0_1.length c0_1, .slice A0_2 l0_2.length c0_2, .slice A0_3 l0_3.length c0_3, .slice A0_4 l0_4.length c0_4, .int .i64 a0_5, .int .i64 a0_6, .string a0_7, .slice A0_8 l0_8.length c0_8, .slice A0_9 l0_9.length c0_9, .slice A0_10 l0_10.length c0_10, .int .i64 a0_11, .slice A0_12 l0_12.length c0_12, .slice A0_13 l0_13.length c0_13, .int .i64 a0_14, .int .i64 a0_15]] w fun e w' => ∃ v0_ v1_ v2_ v3_ v4_ v8_ v9_ v10_ v12_ v13_ : Value, e = .returned (.agg #[v0_, v1_, v2_, v3_, v4_, .int .i64 r6, .int .i64 r7, .string r8, v8_, v9_, v10_, .int .i64 r12, v12_, v13_, .int .i64 r15, .int .i64 r16]) ∧ Kd.R k75 75 w' w.heap.size (fun _ => True) v0_ r1 ∧ Kd.R (Kd.int .i64) 3 w' w.heap.size (fun k_ => some k_ ≠ (v2_ : Value).ownBlock ∧ some k_ ≠ (v3_ : Value).ownBlock ∧ some k_ ≠ (v4_ : Value).ownBlock ∧ some k_ ≠ (v9_ : Value).ownBlock ∧ some k_ ≠ (v10_ : Value).ownBlock) v1_ r2 ∧ Kd.R (Kd.int .i64) 3 w' w.heap.size (fun k_ => some k_ ≠ (v1_ : Value).ownBlock ∧ some k_ ≠ (v3_ : Value).ownBlock ∧ some k_ ≠ (v4_ : Value).ownBlock ∧ some k_ ≠ (v9_ : Value).ownBlock ∧ some k_ ≠ (v10_ : Value).ownBlock) v2_ r3 ∧ Kd.R (Kd.int .i64) 3 w' w.heap.size (fun k_ => some k_ ≠ (v1_ : Value).ownBlock ∧ some k_ ≠ (v2_ : Value).ownBlock ∧ some k_ ≠ (v4_ : Value).ownBlock ∧ some k_ ≠ (v9_ : Value).ownBlock ∧ some k_ ≠ (v10_ : Value).ownBlock) v3_ r4 ∧ Kd.R (Kd.int .i64) 3 w' w.heap.size (fun k_ => some k_ ≠ (v1_ : Value).ownBlock ∧ some k_ ≠ (v2_ : Value).ownBlock ∧ some k_ ≠ (v3_ : Value).ownBlock ∧ some k_ ≠ (v9_ : Value).ownBlock ∧ some k_ ≠ (v10_ : Value).ownBlock) v4_ r5 ∧ Kd.R Kd.bool 4 w' w.heap.size (fun _ => True) v8_ r9 ∧ Kd.R (Kd.int .i64) 3 w' w.heap.size (fun k_ => some k_ ≠ (v1_ : Value).ownBlock ∧ some k_ ≠ (v2_ : Value).ownBlock ∧ some k_ ≠ (v3_ : Value).ownBlock ∧ some k_ ≠ (v4_ : Value).ownBlock ∧ some k_ ≠ (v10_ : Value).ownBlock) v9_ r10 ∧ Kd.R (Kd.int .i64) 3 w' w.heap.size (fun k_ => some k_ ≠ (v1_ : Value).ownBlock ∧ some k_ ≠ (v2_ : Value).ownBlock ∧ some k_ ≠ (v3_ : Value).ownBlock ∧ some k_ ≠ (v4_ : Value).ownBlock ∧ some k_ ≠ (v9_ : Value).ownBlock) v10_ r11 ∧ Kd.R k88 88 w' w.heap.size (fun _ => True) v12_ r13 ∧ Kd.R k63 63 w' w.heap.size (fun _ => True) v13_ r14 ∧ Below w.heap.size w w' := by
 have hu32 := Tryz.underlying32
 have hu42 := Tryz.underlying42
 have hu25 := Tryz.underlying25
 have hu36 := Tryz.underlying36
 have hu29 := Tryz.underlying29
 have hu39 := Tryz.underlying39
 have HR0_0 := am_ hr0_0
 have HC0_0 := am_ hc0_0
 clear hr0_0 hc0_0
 have HR0_1 := am_ hr0_1
 have HC0_1 := am_ hc0_1
 clear hr0_1 hc0_1
 have HR0_2 := am_ hr0_2
 have HC0_2 := am_ hc0_2
 clear hr0_2 hc0_2
 have HR0_3 := am_ hr0_3
 have HC0_3 := am_ hc0_3
 clear hr0_3 hc0_3
 have HR0_4 := am_ hr0_4
 have HC0_4 := am_ hc0_4
 clear hr0_4 hc0_4
 have HR0_8 := am_ hr0_8
 have HC0_8 := am_ hc0_8
 clear hr0_8 hc0_8
 have HR0_9 := am_ hr0_9
 have HC0_9 := am_ hc0_9
 clear hr0_9 hc0_9
 have HR0_10 := am_ hr0_10
 have HC0_10 := am_ hc0_10
 clear hr0_10 hc0_10
 have HR0_12 := am_ hr0_12
 have HC0_12 := am_ hc0_12
 clear hr0_12 hc0_12
 have HR0_13 := am_ hr0_13
 have HC0_13 := am_ hc0_13
 clear hr0_13 hc0_13
 have HB := am_ (Below.refl w.heap.size w)
 have H : ((laws_toWordS.f k l0_0).bind fun t289 => ((laws_toIntS.f k l0_1).bind fun t292 => ((laws_toData.f k l0_2 l0_3 l0_4 a0_5 a0_6 a0_7).bind fun bt295 => ((laws_toHost.f k l0_8 l0_9 l0_10 a0_11 l0_12).bind fun bt307 => ((laws_toCallS.f k l0_13).bind fun t320 => (some (t289, t292, bt295.1, bt295.2.1, bt295.2.2.1, bt295.2.2.2.1, bt295.2.2.2.2.1, bt295.2.2.2.2.2, bt307.1, bt307.2.1, bt307.2.2.1, bt307.2.2.2.1, bt307.2.2.2.2, t320, a0_14, a0_15))))))) = some (r1, r2, r3, r4, r5, r6, r7, r8, r9, r10, r11, r12, r13, r14, r15, r16) := h
 clear h
 replace H := Option.bind_eq_some_iff.mp H
 obtain ⟨t289, A20, H⟩ := H
 replace H : ((laws_toIntS.f k l0_1).bind fun t292 => ((laws_toData.f k l0_2 l0_3 l0_4 a0_5 a0_6 a0_7).bind fun bt295 => ((laws_toHost.f k l0_8 l0_9 l0_10 a0_11 l0_12).bind fun bt307 => ((laws_toCallS.f k l0_13).bind fun t320 => (some (t289, t292, bt295.1, bt295.2.1, bt295.2.2.1, bt295.2.2.2.1, bt295.2.2.2.2.1, bt295.2.2.2.2.2, bt307.1, bt307.2.1, bt307.2.2.1, bt307.2.2.2.1, bt307.2.2.2.2, t320, a0_14, a0_15)))))) = some (r1, r2, r3, r4, r5, r6, r7, r8, r9, r10, r11, r12, r13, r14, r15, r16) := H
 have A2 := am_ A20
 clear A20
 replace H := Option.bind_eq_some_iff.mp H
 obtain ⟨t292, A30, H⟩ := H
 replace H : ((laws_toData.f k l0_2 l0_3 l0_4 a0_5 a0_6 a0_7).bind fun bt295 => ((laws_toHost.f k l0_8 l0_9 l0_10 a0_11 l0_12).bind fun bt307 => ((laws_toCallS.f k l0_13).bind fun t320 => (some (t289, t292, bt295.1, bt295.2.1, bt295.2.2.1, bt295.2.2.2.1, bt295.2.2.2.2.1, bt295.2.2.2.2.2, bt307.1, bt307.2.1, bt307.2.2.1, bt307.2.2.2.1, bt307.2.2.2.2, t320, a0_14, a0_15))))) = some (r1, r2, r3, r4, r5, r6, r7, r8, r9, r10, r11, r12, r13, r14, r15, r16) := H
 have A3 := am_ A30
 clear A30
 replace H := Option.bind_eq_some_iff.mp H
 obtain ⟨⟨t295, t298, t301, t304, t305, t306⟩, A40, H⟩ := H
 replace H : ((laws_toHost.f k l0_8 l0_9 l0_10 a0_11 l0_12).bind fun bt307 => ((laws_toCallS.f k l0_13).bind fun t320 => (some (t289, t292, t295, t298, t301, t304, t305, t306, bt307.1, bt307.2.1, bt307.2.2.1, bt307.2.2.2.1, bt307.2.2.2.2, t320, a0_14, a0_15)))) = some (r1, r2, r3, r4, r5, r6, r7, r8, r9, r10, r11, r12, r13, r14, r15, r16) := H
 have A4 := am_ A40
 clear A40
 replace H := Option.bind_eq_some_iff.mp H
 obtain ⟨⟨t307, t310, t313, t316, t317⟩, A50, H⟩ := H
 replace H : ((laws_toCallS.f k l0_13).bind fun t320 => (some (t289, t292, t295, t298, t301, t304, t305, t306, t307, t310, t313, t316, t317, t320, a0_14, a0_15))) = some (r1, r2, r3, r4, r5, r6, r7, r8, r9, r10, r11, r12, r13, r14, r15, r16) := H
 have A5 := am_ A50
 clear A50
 replace H := Option.bind_eq_some_iff.mp H
 obtain ⟨t320, A60, H⟩ := H
 replace H : (some (t289, t292, t295, t298, t301, t304, t305, t306, t307, t310, t313, t316, t317, t320, a0_14, a0_15)) = some (r1, r2, r3, r4, r5, r6, r7, r8, r9, r10, r11, r12, r13, r14, r15, r16) := H
 have A6 := am_ A60
 clear A60
 simp only [Option.some.injEq, Prod.mk.injEq] at H
 obtain ⟨rfl, rfl, rfl, rfl, rfl, rfl, rfl, rfl, rfl, rfl, rfl, rfl, rfl, rfl, rfl, rfl⟩ := H
 go_enter Tryz.func7, Tryz.ntmps7
 go_wp2_with (first | ((with_reducible refine gate_dst (N := 1) rfl ?_); refine box_event ?hg (N := 1) ?hd (cs := #[.slice A0_0 l0_0.length c0_0, .slice A0_1 l0_1.length c0_1, .slice A0_2 l0_2.length c0_2, .slice A0_3 l0_3.length c0_3, .slice A0_4 l0_4.length c0_4, .int .i64 a0_5, .int .i64 a0_6, .string a0_7, .slice A0_8 l0_8.length c0_8, .slice A0_9 l0_9.length c0_9, .slice A0_10 l0_10.length c0_10, .int .i64 a0_11, .slice A0_12 l0_12.length c0_12, .slice A0_13 l0_13.length c0_13, .int .i64 a0_14, .int .i64 a0_15]) (t := 32) ?hr ?_; (case hd => rfl); (case hg => rfl); (case hr => first | (go_simp; done) | (go_simp; rfl)); intro gb286 hg w7 hbox hb; have BK286 := am_ (hbox); have GW286 := am_ ((ybsz_ hg : w.heap.size ≤ gb286)); have GE286 := GW286; replace HB := yst_ hb; clear hb hbox hg) | ((with_reducible refine gate_dst (N := 2) rfl ?_); refine box_event ?hg (N := 2) ?hd (cs := #[.slice none 0 0, .slice none 0 0, .slice none 0 0, .slice none 0 0, .slice none 0 0, .int .i64 0, .int .i64 0, .string (⟨#[]⟩ : ByteArray), .slice none 0 0, .slice none 0 0, .slice none 0 0, .int .i64 0, .slice none 0 0, .slice none 0 0, .int .i64 0, .int .i64 0]) (t := 42) ?hr ?_; (case hd => rfl); (case hg => rfl); (case hr => first | (go_simp; done) | (go_simp; rfl)); intro gb287 hg w8 hbox hb; have BK287 := am_ (hbox); have GW287 := am_ ((ybsz_ hg : w.heap.size ≤ gb287)); have GE287 := GW287; replace HB := yst_ hb; have NB286_287 := am_ (ybne_ hg BK286); have NB287_286 := am_ ((ybne_ hg BK286).symm); replace BK286 := am_ (ybb_ BK286 hb); clear hb hbox hg) | ((with_reducible refine gate_dst (N := 3) rfl ?_); refine box_event ?hg (N := 3) ?hd (cs := #[.slice none 0 0, .slice none 0 0, .slice none 0 0, .slice none 0 0, .slice none 0 0, .int .i64 0, .int .i64 0, .string (⟨#[]⟩ : ByteArray), .slice none 0 0, .slice none 0 0, .slice none 0 0, .int .i64 0, .slice none 0 0, .slice none 0 0, .int .i64 0, .int .i64 0]) (t := 42) ?hr ?_; (case hd => rfl); (case hg => rfl); (case hr => first | (go_simp; done) | (go_simp; rfl)); intro gb288 hg w9 hbox hb; have BK288 := am_ (hbox); have GW288 := am_ ((ybsz_ hg : w.heap.size ≤ gb288)); have GE288 := GW288; replace HB := yst_ hb; have NB286_288 := am_ (ybne_ hg BK286); have NB288_286 := am_ ((ybne_ hg BK286).symm); replace BK286 := am_ (ybb_ BK286 hb); have NB287_288 := am_ (ybne_ hg BK287); have NB288_287 := am_ ((ybne_ hg BK287).symm); replace BK287 := am_ (ybb_ BK287 hb); clear hb hbox hg; have hnb10 := NB286_287.out; have hnc10 := NB287_286.out; have hnb11 := NB286_288.out; have hnc11 := NB288_286.out; have hcz12 := ye16_ BK286; have hfz12 := yf16_ BK286) | ((with_reducible refine gate_callee (f := 18) rfl ?_); refine goesL_ (some 6) rfl rfl Tryz.func18 (by kernel_rfl) rfl #[.slice A0_0 l0_0.length c0_0] rfl yk1_ ?_; (with_reducible refine (laws_toWordS.calls k _ _ l0_0 t289 _ ?side1 HC0_0.out A2.out).mono ?_); (case side1 => exact ycb_ HR0_0 HB); rintro e w13 ⟨v290, rfl, ho0, hb⟩; refine ⟨_, rfl, ?_⟩; have HO291 := am_ (Kd.R_lower ho0 (below_size ybl_)); replace BK286 := am_ (ybb_ BK286 hb); replace BK287 := am_ (ybb_ BK287 hb); replace BK288 := am_ (ybb_ BK288 hb); replace HB := yst_ hb; (try clear hb); (try clear hb2); (try clear hk); (try clear hi); (try clear ho0); obtain ⟨Ao14, co14, eo14⟩ := Kd.R_slice HO291.out; subst eo14; have hnb15 := NB288_287.out; have hnc15 := NB287_288.out; have hcz16 := ye16_ BK288; have hfz16 := yf16_ BK288; have hcz17 := ye16_ BK286; have hfz17 := yf16_ BK286) | ((with_reducible refine gate_callee (f := 19) rfl ?_); refine goesL_ (some 10) rfl rfl Tryz.func19 (by kernel_rfl) rfl #[.slice A0_1 l0_1.length c0_1] rfl yk1_ ?_; (with_reducible refine (laws_toIntS.calls k _ _ l0_1 t292 _ ?side1 HC0_1.out A3.out).mono ?_); (case side1 => exact Kd.C_below HR0_1.out ybl_); rintro e w18 ⟨v293, rfl, ho0, hb⟩; refine ⟨_, rfl, ?_⟩; replace HO291 := am_ (Kd.R_below (by (with_reducible repeat (first | apply Kd.R_alloc | apply Kd.R_drewN | apply Kd.R_drew)); exact (yr0_ HO291 BK288)) hb); have HO294 := am_ (Kd.R_lower ho0 (below_size ybl_)); replace BK286 := am_ (blk_below (g := gb286) (o := .cells #[.slice A0_0 l0_0.length c0_0, .slice A0_1 l0_1.length c0_1, .slice A0_2 l0_2.length c0_2, .slice A0_3 l0_3.length c0_3, .slice A0_4 l0_4.length c0_4, .int .i64 a0_5, .int .i64 a0_6, .string a0_7, .slice A0_8 l0_8.length c0_8, .slice A0_9 l0_9.length c0_9, .slice A0_10 l0_10.length c0_10, .int .i64 a0_11, .slice A0_12 l0_12.length c0_12, .slice A0_13 l0_13.length c0_13, .int .i64 a0_14, .int .i64 a0_15] 32 (0, 0)) (by (with_reducible repeat (first | refine blk_drewN ?_ _ | refine blk_drew ?_ | refine blk_alloc ?_ _)); refine blk_far ?_ NB286_288.out _; (with_reducible repeat (first | refine blk_drewN ?_ _ | refine blk_drew ?_ | refine blk_alloc ?_ _)); exact BK286.out) hb); replace BK287 := am_ (blk_below (g := gb287) (o := .cells #[.slice none 0 0, .slice none 0 0, .slice none 0 0, .slice none 0 0, .slice none 0 0, .int .i64 0, .int .i64 0, .string (⟨#[]⟩ : ByteArray), .slice none 0 0, .slice none 0 0, .slice none 0 0, .int .i64 0, .slice none 0 0, .slice none 0 0, .int .i64 0, .int .i64 0] 42 (0, 0)) (by (with_reducible repeat (first | refine blk_drewN ?_ _ | refine blk_drew ?_ | refine blk_alloc ?_ _)); refine blk_far ?_ NB287_288.out _; (with_reducible repeat (first | refine blk_drewN ?_ _ | refine blk_drew ?_ | refine blk_alloc ?_ _)); exact BK287.out) hb); replace BK288 := am_ (blk_below (g := gb288) (o := .cells #[.slice Ao14 t289.length co14, .slice none 0 0, .slice none 0 0, .slice none 0 0, .slice none 0 0, .int .i64 0, .int .i64 0, .string (⟨#[]⟩ : ByteArray), .slice none 0 0, .slice none 0 0, .slice none 0 0, .int .i64 0, .slice none 0 0, .slice none 0 0, .int .i64 0, .int .i64 0] 42 (0, 0)) (by (with_reducible repeat (first | refine blk_drewN ?_ _ | refine blk_drew ?_ | refine blk_alloc ?_ _)); refine blk_put (cs := #[.slice none 0 0, .slice none 0 0, .slice none 0 0, .slice none 0 0, .slice none 0 0, .int .i64 0, .int .i64 0, .string (⟨#[]⟩ : ByteArray), .slice none 0 0, .slice none 0 0, .slice none 0 0, .int .i64 0, .slice none 0 0, .slice none 0 0, .int .i64 0, .int .i64 0]) ?_ 0 _ rfl; (with_reducible repeat (first | refine blk_drewN ?_ _ | refine blk_drew ?_ | refine blk_alloc ?_ _)); exact BK288.out) hb); replace HB := yst_ hb; (try clear hb); (try clear hb2); (try clear hk); (try clear hi); (try clear ho0); obtain ⟨Ao19, co19, eo19⟩ := Kd.R_slice HO294.out; subst eo19; have hcz20 := ye16_ BK288; have hfz20 := yf16_ BK288; have hcz21 := ye16_ BK286; have hfz21 := yf16_ BK286) | ((with_reducible refine gate_callee (f := 20) rfl ?_); refine goesL_ (some 14) rfl rfl Tryz.func20 (by kernel_rfl) rfl #[.agg #[.slice A0_2 l0_2.length c0_2, .slice A0_3 l0_3.length c0_3, .slice A0_4 l0_4.length c0_4, .int .i64 a0_5, .int .i64 a0_6, .string a0_7]] rfl yk1_ ?_; (with_reducible refine (laws_toData.calls k _ _ l0_2 _ _ l0_3 _ _ l0_4 a0_5 a0_6 a0_7 t295 t298 t301 t304 t305 t306 _ ?side1 HC0_2.out ?side3 HC0_3.out ?side5 HC0_4.out A4.out).mono ?_); (case side1 => exact Kd.C_below HR0_2.out ybl_); (case side3 => exact Kd.C_below HR0_3.out ybl_); (case side5 => exact Kd.C_below HR0_4.out ybl_); rintro e w22 ⟨v296, v299, v302, rfl, ho0, ho1, ho2, hb⟩; refine ⟨_, rfl, ?_⟩; replace HO291 := am_ (Kd.R_below (by (with_reducible repeat (first | apply Kd.R_alloc | apply Kd.R_drewN | apply Kd.R_drew)); exact (yr1_ HO291 BK288)) hb); have HO297 := am_ (Kd.R_lower (Kd.R_new' ho0 (Kd.R_lt (by (with_reducible repeat (first | apply Kd.R_alloc | apply Kd.R_drewN | apply Kd.R_drew)); exact (yr1_ HO294 BK288)))) (below_size ybl_)); have HO300 := am_ (Kd.R_lower (Kd.R_new' ho1 (Kd.R_lt (by (with_reducible repeat (first | apply Kd.R_alloc | apply Kd.R_drewN | apply Kd.R_drew)); exact (yr1_ HO294 BK288)))) (below_size ybl_)); have HO303 := am_ (Kd.R_lower (Kd.R_new' ho2 (Kd.R_lt (by (with_reducible repeat (first | apply Kd.R_alloc | apply Kd.R_drewN | apply Kd.R_drew)); exact (yr1_ HO294 BK288)))) (below_size ybl_)); replace HO294 := am_ (Kd.R_mono (Kd.R_told (Kd.R_told (Kd.R_told (Kd.R_old (by (with_reducible repeat (first | apply Kd.R_alloc | apply Kd.R_drewN | apply Kd.R_drew)); exact (yr1_ HO294 BK288)) hb) (Kd.R_base ho0)) (Kd.R_base ho1)) (Kd.R_base ho2)) (fun _ h_ => h_.1)); replace BK286 := am_ (blk_below (g := gb286) (o := .cells #[.slice A0_0 l0_0.length c0_0, .slice A0_1 l0_1.length c0_1, .slice A0_2 l0_2.length c0_2, .slice A0_3 l0_3.length c0_3, .slice A0_4 l0_4.length c0_4, .int .i64 a0_5, .int .i64 a0_6, .string a0_7, .slice A0_8 l0_8.length c0_8, .slice A0_9 l0_9.length c0_9, .slice A0_10 l0_10.length c0_10, .int .i64 a0_11, .slice A0_12 l0_12.length c0_12, .slice A0_13 l0_13.length c0_13, .int .i64 a0_14, .int .i64 a0_15] 32 (0, 0)) (by (with_reducible repeat (first | refine blk_drewN ?_ _ | refine blk_drew ?_ | refine blk_alloc ?_ _)); refine blk_far ?_ NB286_288.out _; (with_reducible repeat (first | refine blk_drewN ?_ _ | refine blk_drew ?_ | refine blk_alloc ?_ _)); exact BK286.out) hb); replace BK287 := am_ (blk_below (g := gb287) (o := .cells #[.slice none 0 0, .slice none 0 0, .slice none 0 0, .slice none 0 0, .slice none 0 0, .int .i64 0, .int .i64 0, .string (⟨#[]⟩ : ByteArray), .slice none 0 0, .slice none 0 0, .slice none 0 0, .int .i64 0, .slice none 0 0, .slice none 0 0, .int .i64 0, .int .i64 0] 42 (0, 0)) (by (with_reducible repeat (first | refine blk_drewN ?_ _ | refine blk_drew ?_ | refine blk_alloc ?_ _)); refine blk_far ?_ NB287_288.out _; (with_reducible repeat (first | refine blk_drewN ?_ _ | refine blk_drew ?_ | refine blk_alloc ?_ _)); exact BK287.out) hb); replace BK288 := am_ (blk_below (g := gb288) (o := .cells #[.slice Ao14 t289.length co14, .slice Ao19 t292.length co19, .slice none 0 0, .slice none 0 0, .slice none 0 0, .int .i64 0, .int .i64 0, .string (⟨#[]⟩ : ByteArray), .slice none 0 0, .slice none 0 0, .slice none 0 0, .int .i64 0, .slice none 0 0, .slice none 0 0, .int .i64 0, .int .i64 0] 42 (0, 0)) (by (with_reducible repeat (first | refine blk_drewN ?_ _ | refine blk_drew ?_ | refine blk_alloc ?_ _)); refine blk_put (cs := #[.slice Ao14 t289.length co14, .slice none 0 0, .slice none 0 0, .slice none 0 0, .slice none 0 0, .int .i64 0, .int .i64 0, .string (⟨#[]⟩ : ByteArray), .slice none 0 0, .slice none 0 0, .slice none 0 0, .int .i64 0, .slice none 0 0, .slice none 0 0, .int .i64 0, .int .i64 0]) ?_ 1 _ rfl; (with_reducible repeat (first | refine blk_drewN ?_ _ | refine blk_drew ?_ | refine blk_alloc ?_ _)); exact BK288.out) hb); replace HB := yst_ hb; (try clear hb); (try clear hb2); (try clear hk); (try clear hi); (try clear ho0); (try clear ho1); (try clear ho2); obtain ⟨Ao23, co23, eo23⟩ := Kd.R_slice HO297.out; subst eo23; have hcz24 := ye16_ BK288; have hfz24 := yf16_ BK288; obtain ⟨Ao25, co25, eo25⟩ := Kd.R_slice HO300.out; subst eo25; obtain ⟨Ao26, co26, eo26⟩ := Kd.R_slice HO303.out; subst eo26; have hcz27 := ye16_ BK286; have hfz27 := yf16_ BK286) | ((with_reducible refine gate_callee (f := 21) rfl ?_); refine goesL_ (some 18) rfl rfl Tryz.func21 (by kernel_rfl) rfl #[.agg #[.slice A0_8 l0_8.length c0_8, .slice A0_9 l0_9.length c0_9, .slice A0_10 l0_10.length c0_10, .int .i64 a0_11, .slice A0_12 l0_12.length c0_12]] rfl yk1_ ?_; (with_reducible refine (laws_toHost.calls k _ _ l0_8 _ _ l0_9 _ _ l0_10 a0_11 _ _ l0_12 t307 t310 t313 t316 t317 _ ?side1 HC0_8.out ?side3 HC0_9.out ?side5 HC0_10.out ?side7 HC0_12.out A5.out).mono ?_); (case side1 => exact Kd.C_below HR0_8.out ybl_); (case side3 => exact Kd.C_below HR0_9.out ybl_); (case side5 => exact Kd.C_below HR0_10.out ybl_); (case side7 => exact Kd.C_below HR0_12.out ybl_); rintro e w28 ⟨v308, v311, v314, v318, rfl, ho0, ho1, ho2, ho3, hb⟩; refine ⟨_, rfl, ?_⟩; replace HO291 := am_ (Kd.R_below (by (with_reducible repeat (first | apply Kd.R_alloc | apply Kd.R_drewN | apply Kd.R_drew)); exact (yr4_ HO291 BK288)) hb); have HO309 := am_ (Kd.R_lower ho0 (below_size ybl_)); have HO312 := am_ (Kd.R_lower (Kd.R_new' (Kd.R_new' (Kd.R_new' (Kd.R_new' ho1 (Kd.R_lt (by (with_reducible repeat (first | apply Kd.R_alloc | apply Kd.R_drewN | apply Kd.R_drew)); exact (yr4_ HO294 BK288)))) (Kd.R_lt (by (with_reducible repeat (first | apply Kd.R_alloc | apply Kd.R_drewN | apply Kd.R_drew)); exact (yr4_ HO297 BK288)))) (Kd.R_lt (by (with_reducible repeat (first | apply Kd.R_alloc | apply Kd.R_drewN | apply Kd.R_drew)); exact (yr4_ HO300 BK288)))) (Kd.R_lt (by (with_reducible repeat (first | apply Kd.R_alloc | apply Kd.R_drewN | apply Kd.R_drew)); exact (yr4_ HO303 BK288)))) (below_size ybl_)); have HO315 := am_ (Kd.R_lower (Kd.R_new' (Kd.R_new' (Kd.R_new' (Kd.R_new' ho2 (Kd.R_lt (by (with_reducible repeat (first | apply Kd.R_alloc | apply Kd.R_drewN | apply Kd.R_drew)); exact (yr4_ HO294 BK288)))) (Kd.R_lt (by (with_reducible repeat (first | apply Kd.R_alloc | apply Kd.R_drewN | apply Kd.R_drew)); exact (yr4_ HO297 BK288)))) (Kd.R_lt (by (with_reducible repeat (first | apply Kd.R_alloc | apply Kd.R_drewN | apply Kd.R_drew)); exact (yr4_ HO300 BK288)))) (Kd.R_lt (by (with_reducible repeat (first | apply Kd.R_alloc | apply Kd.R_drewN | apply Kd.R_drew)); exact (yr4_ HO303 BK288)))) (below_size ybl_)); replace HO294 := am_ (Kd.R_mono (Kd.R_told (Kd.R_told (Kd.R_old (by (with_reducible repeat (first | apply Kd.R_alloc | apply Kd.R_drewN | apply Kd.R_drew)); exact (yr4_ HO294 BK288)) hb) (Kd.R_base ho1)) (Kd.R_base ho2)) (fun _ h_ => h_.1)); replace HO297 := am_ (Kd.R_mono (Kd.R_told (Kd.R_told (Kd.R_old (by (with_reducible repeat (first | apply Kd.R_alloc | apply Kd.R_drewN | apply Kd.R_drew)); exact (yr4_ HO297 BK288)) hb) (Kd.R_base ho1)) (Kd.R_base ho2)) (fun _ h_ => h_.1)); replace HO300 := am_ (Kd.R_mono (Kd.R_told (Kd.R_told (Kd.R_old (by (with_reducible repeat (first | apply Kd.R_alloc | apply Kd.R_drewN | apply Kd.R_drew)); exact (yr4_ HO300 BK288)) hb) (Kd.R_base ho1)) (Kd.R_base ho2)) (fun _ h_ => h_.1)); replace HO303 := am_ (Kd.R_mono (Kd.R_told (Kd.R_told (Kd.R_old (by (with_reducible repeat (first | apply Kd.R_alloc | apply Kd.R_drewN | apply Kd.R_drew)); exact (yr4_ HO303 BK288)) hb) (Kd.R_base ho1)) (Kd.R_base ho2)) (fun _ h_ => h_.1)); have HO319 := am_ (Kd.R_lower ho3 (below_size ybl_)); replace BK286 := am_ (blk_below (g := gb286) (o := .cells #[.slice A0_0 l0_0.length c0_0, .slice A0_1 l0_1.length c0_1, .slice A0_2 l0_2.length c0_2, .slice A0_3 l0_3.length c0_3, .slice A0_4 l0_4.length c0_4, .int .i64 a0_5, .int .i64 a0_6, .string a0_7, .slice A0_8 l0_8.length c0_8, .slice A0_9 l0_9.length c0_9, .slice A0_10 l0_10.length c0_10, .int .i64 a0_11, .slice A0_12 l0_12.length c0_12, .slice A0_13 l0_13.length c0_13, .int .i64 a0_14, .int .i64 a0_15] 32 (0, 0)) (by (with_reducible repeat (first | refine blk_drewN ?_ _ | refine blk_drew ?_ | refine blk_alloc ?_ _)); refine blk_far ?_ NB286_288.out _; (with_reducible repeat (first | refine blk_drewN ?_ _ | refine blk_drew ?_ | refine blk_alloc ?_ _)); refine blk_far ?_ NB286_288.out _; (with_reducible repeat (first | refine blk_drewN ?_ _ | refine blk_drew ?_ | refine blk_alloc ?_ _)); refine blk_far ?_ NB286_288.out _; (with_reducible repeat (first | refine blk_drewN ?_ _ | refine blk_drew ?_ | refine blk_alloc ?_ _)); refine blk_far ?_ NB286_288.out _; (with_reducible repeat (first | refine blk_drewN ?_ _ | refine blk_drew ?_ | refine blk_alloc ?_ _)); refine blk_far ?_ NB286_288.out _; (with_reducible repeat (first | refine blk_drewN ?_ _ | refine blk_drew ?_ | refine blk_alloc ?_ _)); refine blk_far ?_ NB286_288.out _; (with_reducible repeat (first | refine blk_drewN ?_ _ | refine blk_drew ?_ | refine blk_alloc ?_ _)); exact BK286.out) hb); replace BK287 := am_ (blk_below (g := gb287) (o := .cells #[.slice none 0 0, .slice none 0 0, .slice none 0 0, .slice none 0 0, .slice none 0 0, .int .i64 0, .int .i64 0, .string (⟨#[]⟩ : ByteArray), .slice none 0 0, .slice none 0 0, .slice none 0 0, .int .i64 0, .slice none 0 0, .slice none 0 0, .int .i64 0, .int .i64 0] 42 (0, 0)) (by (with_reducible repeat (first | refine blk_drewN ?_ _ | refine blk_drew ?_ | refine blk_alloc ?_ _)); refine blk_far ?_ NB287_288.out _; (with_reducible repeat (first | refine blk_drewN ?_ _ | refine blk_drew ?_ | refine blk_alloc ?_ _)); refine blk_far ?_ NB287_288.out _; (with_reducible repeat (first | refine blk_drewN ?_ _ | refine blk_drew ?_ | refine blk_alloc ?_ _)); refine blk_far ?_ NB287_288.out _; (with_reducible repeat (first | refine blk_drewN ?_ _ | refine blk_drew ?_ | refine blk_alloc ?_ _)); refine blk_far ?_ NB287_288.out _; (with_reducible repeat (first | refine blk_drewN ?_ _ | refine blk_drew ?_ | refine blk_alloc ?_ _)); refine blk_far ?_ NB287_288.out _; (with_reducible repeat (first | refine blk_drewN ?_ _ | refine blk_drew ?_ | refine blk_alloc ?_ _)); refine blk_far ?_ NB287_288.out _; (with_reducible repeat (first | refine blk_drewN ?_ _ | refine blk_drew ?_ | refine blk_alloc ?_ _)); exact BK287.out) hb); replace BK288 := am_ (blk_below (g := gb288) (o := .cells #[.slice Ao14 t289.length co14, .slice Ao19 t292.length co19, .slice Ao23 t295.length co23, .slice Ao25 t298.length co25, .slice Ao26 t301.length co26, .int .i64 t304, .int .i64 t305, .string t306, .slice none 0 0, .slice none 0 0, .slice none 0 0, .int .i64 0, .slice none 0 0, .slice none 0 0, .int .i64 0, .int .i64 0] 42 (0, 0)) (by (with_reducible repeat (first | refine blk_drewN ?_ _ | refine blk_drew ?_ | refine blk_alloc ?_ _)); exact yp0_ BK288) hb); replace HB := yst_ hb; (try clear hb); (try clear hb2); (try clear hk); (try clear hi); (try clear ho0); (try clear ho1); (try clear ho2); (try clear ho3); obtain ⟨Ao29, co29, eo29⟩ := Kd.R_slice HO309.out; subst eo29; have hcz30 := ye16_ BK288; have hfz30 := yf16_ BK288; obtain ⟨Ao31, co31, eo31⟩ := Kd.R_slice HO312.out; subst eo31; obtain ⟨Ao32, co32, eo32⟩ := Kd.R_slice HO315.out; subst eo32; obtain ⟨Ao33, co33, eo33⟩ := Kd.R_slice HO319.out; subst eo33; have hcz34 := ye16_ BK286; have hfz34 := yf16_ BK286) | ((with_reducible refine gate_callee (f := 22) rfl ?_); refine goesL_ (some 22) rfl rfl Tryz.func22 (by kernel_rfl) rfl #[.slice A0_13 l0_13.length c0_13] rfl yk1_ ?_; (with_reducible refine (laws_toCallS.calls k _ _ l0_13 t320 _ ?side1 HC0_13.out A6.out).mono ?_); (case side1 => exact Kd.C_below HR0_13.out ybl_); rintro e w35 ⟨v321, rfl, ho0, hb⟩; refine ⟨_, rfl, ?_⟩; replace HO291 := am_ (Kd.R_below (by (with_reducible repeat (first | apply Kd.R_alloc | apply Kd.R_drewN | apply Kd.R_drew)); exact (yr5_ HO291 BK288)) hb); replace HO294 := am_ (Kd.R_below (by (with_reducible repeat (first | apply Kd.R_alloc | apply Kd.R_drewN | apply Kd.R_drew)); exact (yr5_ HO294 BK288)) hb); replace HO297 := am_ (Kd.R_below (by (with_reducible repeat (first | apply Kd.R_alloc | apply Kd.R_drewN | apply Kd.R_drew)); exact (yr5_ HO297 BK288)) hb); replace HO300 := am_ (Kd.R_below (by (with_reducible repeat (first | apply Kd.R_alloc | apply Kd.R_drewN | apply Kd.R_drew)); exact (yr5_ HO300 BK288)) hb); replace HO303 := am_ (Kd.R_below (by (with_reducible repeat (first | apply Kd.R_alloc | apply Kd.R_drewN | apply Kd.R_drew)); exact (yr5_ HO303 BK288)) hb); replace HO309 := am_ (Kd.R_below (by (with_reducible repeat (first | apply Kd.R_alloc | apply Kd.R_drewN | apply Kd.R_drew)); exact (yr5_ HO309 BK288)) hb); replace HO312 := am_ (Kd.R_below (by (with_reducible repeat (first | apply Kd.R_alloc | apply Kd.R_drewN | apply Kd.R_drew)); exact (yr5_ HO312 BK288)) hb); replace HO315 := am_ (Kd.R_below (by (with_reducible repeat (first | apply Kd.R_alloc | apply Kd.R_drewN | apply Kd.R_drew)); exact (yr5_ HO315 BK288)) hb); replace HO319 := am_ (Kd.R_below (by (with_reducible repeat (first | apply Kd.R_alloc | apply Kd.R_drewN | apply Kd.R_drew)); exact (yr5_ HO319 BK288)) hb); have HO322 := am_ (Kd.R_lower ho0 (below_size ybl_)); replace BK286 := am_ (blk_below (g := gb286) (o := .cells #[.slice A0_0 l0_0.length c0_0, .slice A0_1 l0_1.length c0_1, .slice A0_2 l0_2.length c0_2, .slice A0_3 l0_3.length c0_3, .slice A0_4 l0_4.length c0_4, .int .i64 a0_5, .int .i64 a0_6, .string a0_7, .slice A0_8 l0_8.length c0_8, .slice A0_9 l0_9.length c0_9, .slice A0_10 l0_10.length c0_10, .int .i64 a0_11, .slice A0_12 l0_12.length c0_12, .slice A0_13 l0_13.length c0_13, .int .i64 a0_14, .int .i64 a0_15] 32 (0, 0)) (by (with_reducible repeat (first | refine blk_drewN ?_ _ | refine blk_drew ?_ | refine blk_alloc ?_ _)); refine blk_far ?_ NB286_288.out _; (with_reducible repeat (first | refine blk_drewN ?_ _ | refine blk_drew ?_ | refine blk_alloc ?_ _)); refine blk_far ?_ NB286_288.out _; (with_reducible repeat (first | refine blk_drewN ?_ _ | refine blk_drew ?_ | refine blk_alloc ?_ _)); refine blk_far ?_ NB286_288.out _; (with_reducible repeat (first | refine blk_drewN ?_ _ | refine blk_drew ?_ | refine blk_alloc ?_ _)); refine blk_far ?_ NB286_288.out _; (with_reducible repeat (first | refine blk_drewN ?_ _ | refine blk_drew ?_ | refine blk_alloc ?_ _)); refine blk_far ?_ NB286_288.out _; (with_reducible repeat (first | refine blk_drewN ?_ _ | refine blk_drew ?_ | refine blk_alloc ?_ _)); exact BK286.out) hb); replace BK287 := am_ (blk_below (g := gb287) (o := .cells #[.slice none 0 0, .slice none 0 0, .slice none 0 0, .slice none 0 0, .slice none 0 0, .int .i64 0, .int .i64 0, .string (⟨#[]⟩ : ByteArray), .slice none 0 0, .slice none 0 0, .slice none 0 0, .int .i64 0, .slice none 0 0, .slice none 0 0, .int .i64 0, .int .i64 0] 42 (0, 0)) (by (with_reducible repeat (first | refine blk_drewN ?_ _ | refine blk_drew ?_ | refine blk_alloc ?_ _)); refine blk_far ?_ NB287_288.out _; (with_reducible repeat (first | refine blk_drewN ?_ _ | refine blk_drew ?_ | refine blk_alloc ?_ _)); refine blk_far ?_ NB287_288.out _; (with_reducible repeat (first | refine blk_drewN ?_ _ | refine blk_drew ?_ | refine blk_alloc ?_ _)); refine blk_far ?_ NB287_288.out _; (with_reducible repeat (first | refine blk_drewN ?_ _ | refine blk_drew ?_ | refine blk_alloc ?_ _)); refine blk_far ?_ NB287_288.out _; (with_reducible repeat (first | refine blk_drewN ?_ _ | refine blk_drew ?_ | refine blk_alloc ?_ _)); refine blk_far ?_ NB287_288.out _; (with_reducible repeat (first | refine blk_drewN ?_ _ | refine blk_drew ?_ | refine blk_alloc ?_ _)); exact BK287.out) hb); replace BK288 := am_ (blk_below (g := gb288) (o := .cells #[.slice Ao14 t289.length co14, .slice Ao19 t292.length co19, .slice Ao23 t295.length co23, .slice Ao25 t298.length co25, .slice Ao26 t301.length co26, .int .i64 t304, .int .i64 t305, .string t306, .slice Ao29 t307.length co29, .slice Ao31 t310.length co31, .slice Ao32 t313.length co32, .int .i64 t316, .slice Ao33 t317.length co33, .slice none 0 0, .int .i64 0, .int .i64 0] 42 (0, 0)) (by (with_reducible repeat (first | refine blk_drewN ?_ _ | refine blk_drew ?_ | refine blk_alloc ?_ _)); exact yp1_ BK288) hb); replace HB := yst_ hb; (try clear hb); (try clear hb2); (try clear hk); (try clear hi); (try clear ho0); obtain ⟨Ao36, co36, eo36⟩ := Kd.R_slice HO322.out; subst eo36; have hcz37 := ye16_ BK288; have hfz37 := yf16_ BK288; have hcz38 := ye16_ BK286; have hfz38 := yf16_ BK286; have hcz39 := ye16_ BK287; have hfz39 := yf16_ BK287))
 refine bodyPost_ret (results_cell_row rfl _ _ gb287 42 #[.slice Ao14 t289.length co14, .slice Ao19 t292.length co19, .slice Ao23 t295.length co23, .slice Ao25 t298.length co25, .slice Ao26 t301.length co26, .int .i64 t304, .int .i64 t305, .string t306, .slice Ao29 t307.length co29, .slice Ao31 t310.length co31, .slice Ao32 t313.length co32, .int .i64 t316, .slice Ao33 t317.length co33, .slice Ao36 t320.length co36, .int .i64 a0_14, .int .i64 a0_15] (0, 0) _ rfl (by (with_reducible repeat (first | refine blk_drewN ?_ _ | refine blk_drew ?_ | refine blk_alloc ?_ _)); refine blk_put (cs := #[.slice Ao14 t289.length co14, .slice Ao19 t292.length co19, .slice Ao23 t295.length co23, .slice Ao25 t298.length co25, .slice Ao26 t301.length co26, .int .i64 t304, .int .i64 t305, .string t306, .slice Ao29 t307.length co29, .slice Ao31 t310.length co31, .slice Ao32 t313.length co32, .int .i64 t316, .slice Ao33 t317.length co33, .slice Ao36 t320.length co36, .int .i64 a0_14, .int .i64 0]) ?_ 15 _ rfl; (with_reducible repeat (first | refine blk_drewN ?_ _ | refine blk_drew ?_ | refine blk_alloc ?_ _)); refine blk_put (cs := #[.slice Ao14 t289.length co14, .slice Ao19 t292.length co19, .slice Ao23 t295.length co23, .slice Ao25 t298.length co25, .slice Ao26 t301.length co26, .int .i64 t304, .int .i64 t305, .string t306, .slice Ao29 t307.length co29, .slice Ao31 t310.length co31, .slice Ao32 t313.length co32, .int .i64 t316, .slice Ao33 t317.length co33, .slice Ao36 t320.length co36, .int .i64 0, .int .i64 0]) ?_ 14 _ rfl; (with_reducible repeat (first | refine blk_drewN ?_ _ | refine blk_drew ?_ | refine blk_alloc ?_ _)); refine blk_put (cs := #[.slice Ao14 t289.length co14, .slice Ao19 t292.length co19, .slice Ao23 t295.length co23, .slice Ao25 t298.length co25, .slice Ao26 t301.length co26, .int .i64 t304, .int .i64 t305, .string t306, .slice Ao29 t307.length co29, .slice Ao31 t310.length co31, .slice Ao32 t313.length co32, .int .i64 t316, .slice Ao33 t317.length co33, .slice none 0 0, .int .i64 0, .int .i64 0]) ?_ 13 _ rfl; (with_reducible repeat (first | refine blk_drewN ?_ _ | refine blk_drew ?_ | refine blk_alloc ?_ _)); refine blk_put (cs := #[.slice Ao14 t289.length co14, .slice Ao19 t292.length co19, .slice Ao23 t295.length co23, .slice Ao25 t298.length co25, .slice Ao26 t301.length co26, .int .i64 t304, .int .i64 t305, .string t306, .slice Ao29 t307.length co29, .slice Ao31 t310.length co31, .slice Ao32 t313.length co32, .int .i64 t316, .slice none 0 0, .slice none 0 0, .int .i64 0, .int .i64 0]) ?_ 12 _ rfl; (with_reducible repeat (first | refine blk_drewN ?_ _ | refine blk_drew ?_ | refine blk_alloc ?_ _)); refine blk_put (cs := #[.slice Ao14 t289.length co14, .slice Ao19 t292.length co19, .slice Ao23 t295.length co23, .slice Ao25 t298.length co25, .slice Ao26 t301.length co26, .int .i64 t304, .int .i64 t305, .string t306, .slice Ao29 t307.length co29, .slice Ao31 t310.length co31, .slice Ao32 t313.length co32, .int .i64 0, .slice none 0 0, .slice none 0 0, .int .i64 0, .int .i64 0]) ?_ 11 _ rfl; (with_reducible repeat (first | refine blk_drewN ?_ _ | refine blk_drew ?_ | refine blk_alloc ?_ _)); refine blk_put (cs := #[.slice Ao14 t289.length co14, .slice Ao19 t292.length co19, .slice Ao23 t295.length co23, .slice Ao25 t298.length co25, .slice Ao26 t301.length co26, .int .i64 t304, .int .i64 t305, .string t306, .slice Ao29 t307.length co29, .slice Ao31 t310.length co31, .slice none 0 0, .int .i64 0, .slice none 0 0, .slice none 0 0, .int .i64 0, .int .i64 0]) ?_ 10 _ rfl; (with_reducible repeat (first | refine blk_drewN ?_ _ | refine blk_drew ?_ | refine blk_alloc ?_ _)); refine blk_put (cs := #[.slice Ao14 t289.length co14, .slice Ao19 t292.length co19, .slice Ao23 t295.length co23, .slice Ao25 t298.length co25, .slice Ao26 t301.length co26, .int .i64 t304, .int .i64 t305, .string t306, .slice Ao29 t307.length co29, .slice none 0 0, .slice none 0 0, .int .i64 0, .slice none 0 0, .slice none 0 0, .int .i64 0, .int .i64 0]) ?_ 9 _ rfl; (with_reducible repeat (first | refine blk_drewN ?_ _ | refine blk_drew ?_ | refine blk_alloc ?_ _)); refine blk_put (cs := #[.slice Ao14 t289.length co14, .slice Ao19 t292.length co19, .slice Ao23 t295.length co23, .slice Ao25 t298.length co25, .slice Ao26 t301.length co26, .int .i64 t304, .int .i64 t305, .string t306, .slice none 0 0, .slice none 0 0, .slice none 0 0, .int .i64 0, .slice none 0 0, .slice none 0 0, .int .i64 0, .int .i64 0]) ?_ 8 _ rfl; (with_reducible repeat (first | refine blk_drewN ?_ _ | refine blk_drew ?_ | refine blk_alloc ?_ _)); refine blk_put (cs := #[.slice Ao14 t289.length co14, .slice Ao19 t292.length co19, .slice Ao23 t295.length co23, .slice Ao25 t298.length co25, .slice Ao26 t301.length co26, .int .i64 t304, .int .i64 t305, .string (⟨#[]⟩ : ByteArray), .slice none 0 0, .slice none 0 0, .slice none 0 0, .int .i64 0, .slice none 0 0, .slice none 0 0, .int .i64 0, .int .i64 0]) ?_ 7 _ rfl; (with_reducible repeat (first | refine blk_drewN ?_ _ | refine blk_drew ?_ | refine blk_alloc ?_ _)); refine blk_put (cs := #[.slice Ao14 t289.length co14, .slice Ao19 t292.length co19, .slice Ao23 t295.length co23, .slice Ao25 t298.length co25, .slice Ao26 t301.length co26, .int .i64 t304, .int .i64 0, .string (⟨#[]⟩ : ByteArray), .slice none 0 0, .slice none 0 0, .slice none 0 0, .int .i64 0, .slice none 0 0, .slice none 0 0, .int .i64 0, .int .i64 0]) ?_ 6 _ rfl; (with_reducible repeat (first | refine blk_drewN ?_ _ | refine blk_drew ?_ | refine blk_alloc ?_ _)); refine blk_put (cs := #[.slice Ao14 t289.length co14, .slice Ao19 t292.length co19, .slice Ao23 t295.length co23, .slice Ao25 t298.length co25, .slice Ao26 t301.length co26, .int .i64 0, .int .i64 0, .string (⟨#[]⟩ : ByteArray), .slice none 0 0, .slice none 0 0, .slice none 0 0, .int .i64 0, .slice none 0 0, .slice none 0 0, .int .i64 0, .int .i64 0]) ?_ 5 _ rfl; (with_reducible repeat (first | refine blk_drewN ?_ _ | refine blk_drew ?_ | refine blk_alloc ?_ _)); refine blk_put (cs := #[.slice Ao14 t289.length co14, .slice Ao19 t292.length co19, .slice Ao23 t295.length co23, .slice Ao25 t298.length co25, .slice none 0 0, .int .i64 0, .int .i64 0, .string (⟨#[]⟩ : ByteArray), .slice none 0 0, .slice none 0 0, .slice none 0 0, .int .i64 0, .slice none 0 0, .slice none 0 0, .int .i64 0, .int .i64 0]) ?_ 4 _ rfl; (with_reducible repeat (first | refine blk_drewN ?_ _ | refine blk_drew ?_ | refine blk_alloc ?_ _)); refine blk_put (cs := #[.slice Ao14 t289.length co14, .slice Ao19 t292.length co19, .slice Ao23 t295.length co23, .slice none 0 0, .slice none 0 0, .int .i64 0, .int .i64 0, .string (⟨#[]⟩ : ByteArray), .slice none 0 0, .slice none 0 0, .slice none 0 0, .int .i64 0, .slice none 0 0, .slice none 0 0, .int .i64 0, .int .i64 0]) ?_ 3 _ rfl; (with_reducible repeat (first | refine blk_drewN ?_ _ | refine blk_drew ?_ | refine blk_alloc ?_ _)); refine blk_put (cs := #[.slice Ao14 t289.length co14, .slice Ao19 t292.length co19, .slice none 0 0, .slice none 0 0, .slice none 0 0, .int .i64 0, .int .i64 0, .string (⟨#[]⟩ : ByteArray), .slice none 0 0, .slice none 0 0, .slice none 0 0, .int .i64 0, .slice none 0 0, .slice none 0 0, .int .i64 0, .int .i64 0]) ?_ 2 _ rfl; (with_reducible repeat (first | refine blk_drewN ?_ _ | refine blk_drew ?_ | refine blk_alloc ?_ _)); refine blk_put (cs := #[.slice Ao14 t289.length co14, .slice none 0 0, .slice none 0 0, .slice none 0 0, .slice none 0 0, .int .i64 0, .int .i64 0, .string (⟨#[]⟩ : ByteArray), .slice none 0 0, .slice none 0 0, .slice none 0 0, .int .i64 0, .slice none 0 0, .slice none 0 0, .int .i64 0, .int .i64 0]) ?_ 1 _ rfl; (with_reducible repeat (first | refine blk_drewN ?_ _ | refine blk_drew ?_ | refine blk_alloc ?_ _)); refine blk_put (cs := #[.slice none 0 0, .slice none 0 0, .slice none 0 0, .slice none 0 0, .slice none 0 0, .int .i64 0, .int .i64 0, .string (⟨#[]⟩ : ByteArray), .slice none 0 0, .slice none 0 0, .slice none 0 0, .int .i64 0, .slice none 0 0, .slice none 0 0, .int .i64 0, .int .i64 0]) ?_ 0 _ rfl; (with_reducible repeat (first | refine blk_drewN ?_ _ | refine blk_drew ?_ | refine blk_alloc ?_ _)); refine blk_far ?_ NB287_288.out _; (with_reducible repeat (first | refine blk_drewN ?_ _ | refine blk_drew ?_ | refine blk_alloc ?_ _)); refine blk_far ?_ NB287_288.out _; (with_reducible repeat (first | refine blk_drewN ?_ _ | refine blk_drew ?_ | refine blk_alloc ?_ _)); refine blk_far ?_ NB287_288.out _; (with_reducible repeat (first | refine blk_drewN ?_ _ | refine blk_drew ?_ | refine blk_alloc ?_ _)); exact BK287.out) Tryz.underlying42 rfl (by kernel_rfl)) rfl ?_
 exact ⟨_, _, _, _, _, _, _, _, _, _, yk0_, by (with_reducible repeat (first | apply Kd.R_alloc | apply Kd.R_drewN | apply Kd.R_drew)); exact Kd.R_mono (yr6_ HO291 BK288 BK287) (fun _ hk => trivial), by (with_reducible repeat (first | apply Kd.R_alloc | apply Kd.R_drewN | apply Kd.R_drew)); exact Kd.R_mono (Kd.R_far (p := ⟨gb287, 15, none⟩) (Kd.R_far (p := ⟨gb287, 14, none⟩) (Kd.R_far (p := ⟨gb287, 13, none⟩) (Kd.R_far (p := ⟨gb287, 12, none⟩) (Kd.R_far (p := ⟨gb287, 11, none⟩) (Kd.R_far (p := ⟨gb287, 10, none⟩) (Kd.R_far (p := ⟨gb287, 9, none⟩) (Kd.R_far (p := ⟨gb287, 8, none⟩) (Kd.R_far (p := ⟨gb287, 7, none⟩) (Kd.R_far (p := ⟨gb287, 6, none⟩) (Kd.R_far (p := ⟨gb287, 5, none⟩) (Kd.R_far (p := ⟨gb287, 4, none⟩) (Kd.R_far (p := ⟨gb287, 3, none⟩) (Kd.R_far (p := ⟨gb287, 2, none⟩) (Kd.R_far (p := ⟨gb287, 1, none⟩) (Kd.R_far (p := ⟨gb287, 0, none⟩) (Kd.R_far (p := ⟨gb288, 15, none⟩) (Kd.R_far (p := ⟨gb288, 14, none⟩) (Kd.R_far (p := ⟨gb288, 13, none⟩) (Kd.R_types (Kd.R_types HO294.out BK288.out (by decide)) BK287.out (by decide)) (fun _ hk => hk.1.2) (.slice Ao36 t320.length co36)) (fun _ hk => hk.1.2) (.int .i64 a0_14)) (fun _ hk => hk.1.2) (.int .i64 a0_15)) (fun _ hk => hk.2) (.slice Ao14 t289.length co14)) (fun _ hk => hk.2) (.slice Ao19 t292.length co19)) (fun _ hk => hk.2) (.slice Ao23 t295.length co23)) (fun _ hk => hk.2) (.slice Ao25 t298.length co25)) (fun _ hk => hk.2) (.slice Ao26 t301.length co26)) (fun _ hk => hk.2) (.int .i64 t304)) (fun _ hk => hk.2) (.int .i64 t305)) (fun _ hk => hk.2) (.string t306)) (fun _ hk => hk.2) (.slice Ao29 t307.length co29)) (fun _ hk => hk.2) (.slice Ao31 t310.length co31)) (fun _ hk => hk.2) (.slice Ao32 t313.length co32)) (fun _ hk => hk.2) (.int .i64 t316)) (fun _ hk => hk.2) (.slice Ao33 t317.length co33)) (fun _ hk => hk.2) (.slice Ao36 t320.length co36)) (fun _ hk => hk.2) (.int .i64 a0_14)) (fun _ hk => hk.2) (.int .i64 a0_15)) (fun _ hk => ⟨hk.1.1.1.1.1.1.2, ⟨hk.1.1.1.1.1.2, ⟨hk.1.1.1.1.2, ⟨hk.1.1.1.2, hk.1.1.2⟩⟩⟩⟩), by (with_reducible repeat (first | apply Kd.R_alloc | apply Kd.R_drewN | apply Kd.R_drew)); exact Kd.R_mono (Kd.R_far (p := ⟨gb287, 15, none⟩) (Kd.R_far (p := ⟨gb287, 14, none⟩) (Kd.R_far (p := ⟨gb287, 13, none⟩) (Kd.R_far (p := ⟨gb287, 12, none⟩) (Kd.R_far (p := ⟨gb287, 11, none⟩) (Kd.R_far (p := ⟨gb287, 10, none⟩) (Kd.R_far (p := ⟨gb287, 9, none⟩) (Kd.R_far (p := ⟨gb287, 8, none⟩) (Kd.R_far (p := ⟨gb287, 7, none⟩) (Kd.R_far (p := ⟨gb287, 6, none⟩) (Kd.R_far (p := ⟨gb287, 5, none⟩) (Kd.R_far (p := ⟨gb287, 4, none⟩) (Kd.R_far (p := ⟨gb287, 3, none⟩) (Kd.R_far (p := ⟨gb287, 2, none⟩) (Kd.R_far (p := ⟨gb287, 1, none⟩) (Kd.R_far (p := ⟨gb287, 0, none⟩) (Kd.R_far (p := ⟨gb288, 15, none⟩) (Kd.R_far (p := ⟨gb288, 14, none⟩) (Kd.R_far (p := ⟨gb288, 13, none⟩) (Kd.R_types (Kd.R_types HO297.out BK288.out (by decide)) BK287.out (by decide)) (fun _ hk => hk.1.2) (.slice Ao36 t320.length co36)) (fun _ hk => hk.1.2) (.int .i64 a0_14)) (fun _ hk => hk.1.2) (.int .i64 a0_15)) (fun _ hk => hk.2) (.slice Ao14 t289.length co14)) (fun _ hk => hk.2) (.slice Ao19 t292.length co19)) (fun _ hk => hk.2) (.slice Ao23 t295.length co23)) (fun _ hk => hk.2) (.slice Ao25 t298.length co25)) (fun _ hk => hk.2) (.slice Ao26 t301.length co26)) (fun _ hk => hk.2) (.int .i64 t304)) (fun _ hk => hk.2) (.int .i64 t305)) (fun _ hk => hk.2) (.string t306)) (fun _ hk => hk.2) (.slice Ao29 t307.length co29)) (fun _ hk => hk.2) (.slice Ao31 t310.length co31)) (fun _ hk => hk.2) (.slice Ao32 t313.length co32)) (fun _ hk => hk.2) (.int .i64 t316)) (fun _ hk => hk.2) (.slice Ao33 t317.length co33)) (fun _ hk => hk.2) (.slice Ao36 t320.length co36)) (fun _ hk => hk.2) (.int .i64 a0_14)) (fun _ hk => hk.2) (.int .i64 a0_15)) (fun _ hk => ⟨hk.1.1.1.1.2, ⟨hk.1.1.1.1.1.1, ⟨hk.1.1.1.1.1.2, ⟨hk.1.1.1.2, hk.1.1.2⟩⟩⟩⟩), by (with_reducible repeat (first | apply Kd.R_alloc | apply Kd.R_drewN | apply Kd.R_drew)); exact Kd.R_mono (Kd.R_far (p := ⟨gb287, 15, none⟩) (Kd.R_far (p := ⟨gb287, 14, none⟩) (Kd.R_far (p := ⟨gb287, 13, none⟩) (Kd.R_far (p := ⟨gb287, 12, none⟩) (Kd.R_far (p := ⟨gb287, 11, none⟩) (Kd.R_far (p := ⟨gb287, 10, none⟩) (Kd.R_far (p := ⟨gb287, 9, none⟩) (Kd.R_far (p := ⟨gb287, 8, none⟩) (Kd.R_far (p := ⟨gb287, 7, none⟩) (Kd.R_far (p := ⟨gb287, 6, none⟩) (Kd.R_far (p := ⟨gb287, 5, none⟩) (Kd.R_far (p := ⟨gb287, 4, none⟩) (Kd.R_far (p := ⟨gb287, 3, none⟩) (Kd.R_far (p := ⟨gb287, 2, none⟩) (Kd.R_far (p := ⟨gb287, 1, none⟩) (Kd.R_far (p := ⟨gb287, 0, none⟩) (Kd.R_far (p := ⟨gb288, 15, none⟩) (Kd.R_far (p := ⟨gb288, 14, none⟩) (Kd.R_far (p := ⟨gb288, 13, none⟩) (Kd.R_types (Kd.R_types HO300.out BK288.out (by decide)) BK287.out (by decide)) (fun _ hk => hk.1.2) (.slice Ao36 t320.length co36)) (fun _ hk => hk.1.2) (.int .i64 a0_14)) (fun _ hk => hk.1.2) (.int .i64 a0_15)) (fun _ hk => hk.2) (.slice Ao14 t289.length co14)) (fun _ hk => hk.2) (.slice Ao19 t292.length co19)) (fun _ hk => hk.2) (.slice Ao23 t295.length co23)) (fun _ hk => hk.2) (.slice Ao25 t298.length co25)) (fun _ hk => hk.2) (.slice Ao26 t301.length co26)) (fun _ hk => hk.2) (.int .i64 t304)) (fun _ hk => hk.2) (.int .i64 t305)) (fun _ hk => hk.2) (.string t306)) (fun _ hk => hk.2) (.slice Ao29 t307.length co29)) (fun _ hk => hk.2) (.slice Ao31 t310.length co31)) (fun _ hk => hk.2) (.slice Ao32 t313.length co32)) (fun _ hk => hk.2) (.int .i64 t316)) (fun _ hk => hk.2) (.slice Ao33 t317.length co33)) (fun _ hk => hk.2) (.slice Ao36 t320.length co36)) (fun _ hk => hk.2) (.int .i64 a0_14)) (fun _ hk => hk.2) (.int .i64 a0_15)) (fun _ hk => ⟨hk.1.1.1.1.2, ⟨hk.1.1.1.1.1.1, ⟨hk.1.1.1.1.1.2, ⟨hk.1.1.1.2, hk.1.1.2⟩⟩⟩⟩), by (with_reducible repeat (first | apply Kd.R_alloc | apply Kd.R_drewN | apply Kd.R_drew)); exact Kd.R_mono (Kd.R_far (p := ⟨gb287, 15, none⟩) (Kd.R_far (p := ⟨gb287, 14, none⟩) (Kd.R_far (p := ⟨gb287, 13, none⟩) (Kd.R_far (p := ⟨gb287, 12, none⟩) (Kd.R_far (p := ⟨gb287, 11, none⟩) (Kd.R_far (p := ⟨gb287, 10, none⟩) (Kd.R_far (p := ⟨gb287, 9, none⟩) (Kd.R_far (p := ⟨gb287, 8, none⟩) (Kd.R_far (p := ⟨gb287, 7, none⟩) (Kd.R_far (p := ⟨gb287, 6, none⟩) (Kd.R_far (p := ⟨gb287, 5, none⟩) (Kd.R_far (p := ⟨gb287, 4, none⟩) (Kd.R_far (p := ⟨gb287, 3, none⟩) (Kd.R_far (p := ⟨gb287, 2, none⟩) (Kd.R_far (p := ⟨gb287, 1, none⟩) (Kd.R_far (p := ⟨gb287, 0, none⟩) (Kd.R_far (p := ⟨gb288, 15, none⟩) (Kd.R_far (p := ⟨gb288, 14, none⟩) (Kd.R_far (p := ⟨gb288, 13, none⟩) (Kd.R_types (Kd.R_types HO303.out BK288.out (by decide)) BK287.out (by decide)) (fun _ hk => hk.1.2) (.slice Ao36 t320.length co36)) (fun _ hk => hk.1.2) (.int .i64 a0_14)) (fun _ hk => hk.1.2) (.int .i64 a0_15)) (fun _ hk => hk.2) (.slice Ao14 t289.length co14)) (fun _ hk => hk.2) (.slice Ao19 t292.length co19)) (fun _ hk => hk.2) (.slice Ao23 t295.length co23)) (fun _ hk => hk.2) (.slice Ao25 t298.length co25)) (fun _ hk => hk.2) (.slice Ao26 t301.length co26)) (fun _ hk => hk.2) (.int .i64 t304)) (fun _ hk => hk.2) (.int .i64 t305)) (fun _ hk => hk.2) (.string t306)) (fun _ hk => hk.2) (.slice Ao29 t307.length co29)) (fun _ hk => hk.2) (.slice Ao31 t310.length co31)) (fun _ hk => hk.2) (.slice Ao32 t313.length co32)) (fun _ hk => hk.2) (.int .i64 t316)) (fun _ hk => hk.2) (.slice Ao33 t317.length co33)) (fun _ hk => hk.2) (.slice Ao36 t320.length co36)) (fun _ hk => hk.2) (.int .i64 a0_14)) (fun _ hk => hk.2) (.int .i64 a0_15)) (fun _ hk => ⟨hk.1.1.1.1.2, ⟨hk.1.1.1.1.1.1, ⟨hk.1.1.1.1.1.2, ⟨hk.1.1.1.2, hk.1.1.2⟩⟩⟩⟩), by (with_reducible repeat (first | apply Kd.R_alloc | apply Kd.R_drewN | apply Kd.R_drew)); exact Kd.R_mono (yr6_ HO309 BK288 BK287) (fun _ hk => trivial), by (with_reducible repeat (first | apply Kd.R_alloc | apply Kd.R_drewN | apply Kd.R_drew)); exact Kd.R_mono (Kd.R_far (p := ⟨gb287, 15, none⟩) (Kd.R_far (p := ⟨gb287, 14, none⟩) (Kd.R_far (p := ⟨gb287, 13, none⟩) (Kd.R_far (p := ⟨gb287, 12, none⟩) (Kd.R_far (p := ⟨gb287, 11, none⟩) (Kd.R_far (p := ⟨gb287, 10, none⟩) (Kd.R_far (p := ⟨gb287, 9, none⟩) (Kd.R_far (p := ⟨gb287, 8, none⟩) (Kd.R_far (p := ⟨gb287, 7, none⟩) (Kd.R_far (p := ⟨gb287, 6, none⟩) (Kd.R_far (p := ⟨gb287, 5, none⟩) (Kd.R_far (p := ⟨gb287, 4, none⟩) (Kd.R_far (p := ⟨gb287, 3, none⟩) (Kd.R_far (p := ⟨gb287, 2, none⟩) (Kd.R_far (p := ⟨gb287, 1, none⟩) (Kd.R_far (p := ⟨gb287, 0, none⟩) (Kd.R_far (p := ⟨gb288, 15, none⟩) (Kd.R_far (p := ⟨gb288, 14, none⟩) (Kd.R_far (p := ⟨gb288, 13, none⟩) (Kd.R_types (Kd.R_types HO312.out BK288.out (by decide)) BK287.out (by decide)) (fun _ hk => hk.1.2) (.slice Ao36 t320.length co36)) (fun _ hk => hk.1.2) (.int .i64 a0_14)) (fun _ hk => hk.1.2) (.int .i64 a0_15)) (fun _ hk => hk.2) (.slice Ao14 t289.length co14)) (fun _ hk => hk.2) (.slice Ao19 t292.length co19)) (fun _ hk => hk.2) (.slice Ao23 t295.length co23)) (fun _ hk => hk.2) (.slice Ao25 t298.length co25)) (fun _ hk => hk.2) (.slice Ao26 t301.length co26)) (fun _ hk => hk.2) (.int .i64 t304)) (fun _ hk => hk.2) (.int .i64 t305)) (fun _ hk => hk.2) (.string t306)) (fun _ hk => hk.2) (.slice Ao29 t307.length co29)) (fun _ hk => hk.2) (.slice Ao31 t310.length co31)) (fun _ hk => hk.2) (.slice Ao32 t313.length co32)) (fun _ hk => hk.2) (.int .i64 t316)) (fun _ hk => hk.2) (.slice Ao33 t317.length co33)) (fun _ hk => hk.2) (.slice Ao36 t320.length co36)) (fun _ hk => hk.2) (.int .i64 a0_14)) (fun _ hk => hk.2) (.int .i64 a0_15)) (fun _ hk => ⟨hk.1.1.1.1.1.2, ⟨hk.1.1.1.1.2, ⟨hk.1.1.1.2, ⟨hk.1.1.2, hk.1.1.1.1.1.1⟩⟩⟩⟩), by (with_reducible repeat (first | apply Kd.R_alloc | apply Kd.R_drewN | apply Kd.R_drew)); exact Kd.R_mono (Kd.R_far (p := ⟨gb287, 15, none⟩) (Kd.R_far (p := ⟨gb287, 14, none⟩) (Kd.R_far (p := ⟨gb287, 13, none⟩) (Kd.R_far (p := ⟨gb287, 12, none⟩) (Kd.R_far (p := ⟨gb287, 11, none⟩) (Kd.R_far (p := ⟨gb287, 10, none⟩) (Kd.R_far (p := ⟨gb287, 9, none⟩) (Kd.R_far (p := ⟨gb287, 8, none⟩) (Kd.R_far (p := ⟨gb287, 7, none⟩) (Kd.R_far (p := ⟨gb287, 6, none⟩) (Kd.R_far (p := ⟨gb287, 5, none⟩) (Kd.R_far (p := ⟨gb287, 4, none⟩) (Kd.R_far (p := ⟨gb287, 3, none⟩) (Kd.R_far (p := ⟨gb287, 2, none⟩) (Kd.R_far (p := ⟨gb287, 1, none⟩) (Kd.R_far (p := ⟨gb287, 0, none⟩) (Kd.R_far (p := ⟨gb288, 15, none⟩) (Kd.R_far (p := ⟨gb288, 14, none⟩) (Kd.R_far (p := ⟨gb288, 13, none⟩) (Kd.R_types (Kd.R_types HO315.out BK288.out (by decide)) BK287.out (by decide)) (fun _ hk => hk.1.2) (.slice Ao36 t320.length co36)) (fun _ hk => hk.1.2) (.int .i64 a0_14)) (fun _ hk => hk.1.2) (.int .i64 a0_15)) (fun _ hk => hk.2) (.slice Ao14 t289.length co14)) (fun _ hk => hk.2) (.slice Ao19 t292.length co19)) (fun _ hk => hk.2) (.slice Ao23 t295.length co23)) (fun _ hk => hk.2) (.slice Ao25 t298.length co25)) (fun _ hk => hk.2) (.slice Ao26 t301.length co26)) (fun _ hk => hk.2) (.int .i64 t304)) (fun _ hk => hk.2) (.int .i64 t305)) (fun _ hk => hk.2) (.string t306)) (fun _ hk => hk.2) (.slice Ao29 t307.length co29)) (fun _ hk => hk.2) (.slice Ao31 t310.length co31)) (fun _ hk => hk.2) (.slice Ao32 t313.length co32)) (fun _ hk => hk.2) (.int .i64 t316)) (fun _ hk => hk.2) (.slice Ao33 t317.length co33)) (fun _ hk => hk.2) (.slice Ao36 t320.length co36)) (fun _ hk => hk.2) (.int .i64 a0_14)) (fun _ hk => hk.2) (.int .i64 a0_15)) (fun _ hk => ⟨hk.1.1.1.1.1.2, ⟨hk.1.1.1.1.2, ⟨hk.1.1.1.2, ⟨hk.1.1.2, hk.1.1.1.1.1.1⟩⟩⟩⟩), by (with_reducible repeat (first | apply Kd.R_alloc | apply Kd.R_drewN | apply Kd.R_drew)); exact Kd.R_mono (yr6_ HO319 BK288 BK287) (fun _ hk => trivial), by (with_reducible repeat (first | apply Kd.R_alloc | apply Kd.R_drewN | apply Kd.R_drew)); exact Kd.R_mono (yr6_ HO322 BK288 BK287) (fun _ hk => trivial), ybl_⟩

/-! ### slices_Equal_Word: function 68 -/
def slices_Equal_Word.l0 : Nat → List (S75) → List (S75) → Int → Int → Option (Bool)
 | 0, _, _, _, _ => none
 | k + 1, x0, x1, x12, x13 => if x13 < x12 then (if 0 ≤ x13 then (if x13 < (x0.length : Int) then (if x13 < (x1.length : Int) then (if (!((((rd_T75 x0 x13).f0).toList) == (((rd_T75 x1 x13).f0).toList)) || (!(((rd_T75 x0 x13).f1) == ((rd_T75 x1 x13).f1)) || (!(((rd_T75 x0 x13).f2) == ((rd_T75 x1 x13).f2))))) = true then (some false) else (slices_Equal_Word.l0 k x0 x1 x12 (wrap64 (x13 + 1)))) else (none)) else (none)) else (none)) else (some true)
def slices_Equal_Word.f (k : Nat) (l0 : List (S75)) (l1 : List (S75)) : Option (Bool) := if (l0.length : Int) = (l1.length : Int) then (slices_Equal_Word.l0 k l0 l1 (l0.length : Int) 0) else (some false)
theorem slices_Equal_Word.mono_l : ∀ k, (∀ y0 y1 y2 y3, LeO (slices_Equal_Word.l0 k y0 y1 y2 y3) (slices_Equal_Word.l0 (k + 1) y0 y1 y2 y3))
 | 0 => fun _ _ _ _ r h => by simp [slices_Equal_Word.l0] at h
 | k + 1 => by
  have ih0 := slices_Equal_Word.mono_l k
  ·intro y0 y1 y2 y3
   unfold slices_Equal_Word.l0
   repeat' first
   | (with_reducible exact ih0 _ _ _ _)
   | (with_reducible exact LeO.refl _)
   | (with_reducible exact LeO.none _)
   | (with_reducible refine LeO.ite ?_ ?_)
   | (with_reducible refine LeO.bind ?_ (fun _ => ?_))
   | exact ih0 _ _ _ _
   | exact LeO.none _
   | refine LeO.ite ?_ ?_
   | refine LeO.bind ?_ (fun _ => ?_)
theorem slices_Equal_Word.mono : ∀ a0 a1 k, LeO (slices_Equal_Word.f k a0 a1) (slices_Equal_Word.f (k + 1) a0 a1) := by
 intro a0 a1 k
 have ih0 := slices_Equal_Word.mono_l k
 unfold slices_Equal_Word.f
 repeat' first
   | (with_reducible exact ih0 _ _ _ _)
   | (with_reducible exact LeO.refl _)
   | (with_reducible exact LeO.none _)
   | (with_reducible refine LeO.ite ?_ ?_)
   | (with_reducible refine LeO.bind ?_ (fun _ => ?_))
   | exact ih0 _ _ _ _
   | exact LeO.none _
   | refine LeO.ite ?_ ?_
   | refine LeO.bind ?_ (fun _ => ?_)
set_option maxHeartbeats 8000000 in
set_option maxRecDepth 100000 in
theorem slices_Equal_Word.calls (k : Nat) (A0 : Option Addr) (c0 : Nat) (l0 : List (S75)) (A1 : Option Addr) (c1 : Nat) (l1 : List (S75)) (r : Bool) (w : World) (hr0 : Kd.C k75 w A0 l0.length l0) (hc0 : l0.length ≤ c0) (hr1 : Kd.C k75 w A1 l1.length l1) (hc1 : l1.length ≤ c1) (h : slices_Equal_Word.f k l0 l1 = some r) :
  Calls Tryz.prog 68 #[.slice A0 l0.length c0, .slice A1 l1.length c1] w fun e w' => e = .returned (.bool r) ∧ Drawn0 w w' := by
 have hu75 := Tryz.underlying75
 have HR0 := am_ hr0
 have HC0 := am_ hc0
 clear hr0 hc0
 have HR1 := am_ hr1
 have HC1 := am_ hc1
 clear hr1 hc1
 have H : (if (l0.length : Int) = (l1.length : Int) then (slices_Equal_Word.l0 k l0 l1 (l0.length : Int) 0) else (some false)) = some r := h
 clear h
 by_cases c3 : (l0.length : Int) = (l1.length : Int)
 ·rw [if_pos c3] at H
  have c3b0 : ((l0.length : Int) == (l1.length : Int)) = true := beq_iff_eq.mpr c3
  have c3b1 : ((l0.length : Int) != (l1.length : Int)) = false := bne_eq_false_iff_eq.mpr c3
  have c3b2 : (l0.length == l1.length) = true := by first | simpa using c3 | (simp at c3 ⊢; omega)
  clear c3
  have H' := am_ H
  clear H
  go_enter Tryz.func68, Tryz.ntmps68
  go_wp2
  repeat (go_quiet (fail); try go_wp2)
  go_loopg [13] k (fun kq v13 w' => ∃ (x13_1 : Int), v13 = .int .i64 x13_1 ∧ Aside0 (slices_Equal_Word.l0 kq l0 l1 (l0.length : Int) x13_1 = some r) ∧ Aside0 (kq ≤ k) ∧ Drawn0 w w')
  case atStart => exact ⟨(0), (by first | rfl | (simp; done) | (simp [*]; done)), H', ⟨Nat.le_refl _⟩, by repeat (first | exact Drawn0.refl _ | apply Drawn0.step)⟩
  case round =>
   clear H'
   try clear c1
   try clear p2
   try clear c3
   try clear c3b0
   try clear c3b1
   try clear c3b2
   obtain ⟨x13_1, rfl, HA, HK1, ⟨m1, rfl⟩⟩ := hrel
   cases gk with
   | zero => exact absurd HA.out (by simp [slices_Equal_Word.l0])
   | succ k1 =>
    have H := HA.out
    clear HA
    simp only [slices_Equal_Word.l0] at H
    by_cases c4 : x13_1 < (l0.length : Int)
    ·rw [if_pos c4] at H
     have c4b0 : decide (x13_1 < (l0.length : Int)) = true := decide_eq_true c4
     clear c4
     by_cases c5 : 0 ≤ x13_1
     ·rw [if_pos c5] at H
      have c5b0 : decide (0 ≤ x13_1) = true := decide_eq_true c5
      clear c5
      by_cases c6 : x13_1 < (l0.length : Int)
      ·rw [if_pos c6] at H
       have c6b0 : decide (x13_1 < (l0.length : Int)) = true := decide_eq_true c6
       clear c6
       by_cases c7 : x13_1 < (l1.length : Int)
       ·rw [if_pos c7] at H
        have c7b0 : decide (x13_1 < (l1.length : Int)) = true := decide_eq_true c7
        clear c7
        by_cases c8 : (!((((rd_T75 l0 x13_1).f0).toList) == (((rd_T75 l1 x13_1).f0).toList)) || (!(((rd_T75 l0 x13_1).f1) == ((rd_T75 l1 x13_1).f1)) || (!(((rd_T75 l0 x13_1).f2) == ((rd_T75 l1 x13_1).f2))))) = true
        ·rw [if_pos c8] at H
         have c8b0 : (!((((rd_T75 l0 x13_1).f0).toList) == (((rd_T75 l1 x13_1).f0).toList)) || (!(((rd_T75 l0 x13_1).f1) == ((rd_T75 l1 x13_1).f1)) || (!(((rd_T75 l0 x13_1).f2) == ((rd_T75 l1 x13_1).f2))))) = true := c8
         clear c8
         obtain rfl := Option.some.inj H
         have p323 : 0 ≤ (x13_1 : Int) := of_decide_eq_true yqv11_
         have q323 : x13_1 < (l0.length : Int) := of_decide_eq_true yqv11_
         obtain ⟨ad323, e323, hx323_0, hx323_1, hx323_2⟩ := at_T75 HR0.out x13_1 p323 q323
         cases e323
         replace p323 := eq_true p323
         replace q323 := eq_true q323
         have p324 : 0 ≤ (x13_1 : Int) := of_decide_eq_true yqv11_
         have q324 : x13_1 < (l1.length : Int) := of_decide_eq_true yqv11_
         obtain ⟨ad324, e324, hx324_0, hx324_1, hx324_2⟩ := at_T75 HR1.out x13_1 p324 q324
         cases e324
         replace p324 := eq_true p324
         replace q324 := eq_true q324
         go_wp2
         repeat (go_quiet (fail); try go_wp2)
         go_ret
         exact ⟨by first | rfl | (simp; done) | (simp [*]; done), by repeat (first | exact Drawn0.refl _ | apply Drawn0.step)⟩
        ·rw [if_neg c8] at H
         have c8b0 : (!((((rd_T75 l0 x13_1).f0).toList) == (((rd_T75 l1 x13_1).f0).toList)) || (!(((rd_T75 l0 x13_1).f1) == ((rd_T75 l1 x13_1).f1)) || (!(((rd_T75 l0 x13_1).f2) == ((rd_T75 l1 x13_1).f2))))) = false := by simpa using c8
         clear c8
         have H' := am_ H
         clear H
         have p323 : 0 ≤ (x13_1 : Int) := of_decide_eq_true yqv11_
         have q323 : x13_1 < (l0.length : Int) := of_decide_eq_true yqv11_
         obtain ⟨ad323, e323, hx323_0, hx323_1, hx323_2⟩ := at_T75 HR0.out x13_1 p323 q323
         cases e323
         replace p323 := eq_true p323
         replace q323 := eq_true q323
         have p324 : 0 ≤ (x13_1 : Int) := of_decide_eq_true yqv11_
         have q324 : x13_1 < (l1.length : Int) := of_decide_eq_true yqv11_
         obtain ⟨ad324, e324, hx324_0, hx324_1, hx324_2⟩ := at_T75 HR1.out x13_1 p324 q324
         cases e324
         replace p324 := eq_true p324
         replace q324 := eq_true q324
         go_wp2
         repeat (go_quiet (fail); try go_wp2)
         go_roundg k1
         case measure => have := HK1.out; omega
         case rel => exact ⟨(wrap64 (x13_1 + 1)), (by first | rfl | (simp; done) | (simp [*]; done)), H', ⟨by have := HK1.out; omega⟩, by repeat (first | exact Drawn0.refl _ | apply Drawn0.step)⟩
       ·rw [if_neg c7] at H
        exact absurd H (by simp)
      ·rw [if_neg c6] at H
       exact absurd H (by simp)
     ·rw [if_neg c5] at H
      exact absurd H (by simp)
    ·rw [if_neg c4] at H
     have c4b0 : decide (x13_1 < (l0.length : Int)) = false := decide_eq_false c4
     clear c4
     obtain rfl := Option.some.inj H
     go_wp2
     repeat (go_quiet (fail); try go_wp2)
     go_ret
     exact ⟨by first | rfl | (simp; done) | (simp [*]; done), by repeat (first | exact Drawn0.refl _ | apply Drawn0.step)⟩
 ·rw [if_neg c3] at H
  have c3b0 : ((l0.length : Int) == (l1.length : Int)) = false := beq_eq_false_iff_ne.mpr c3
  have c3b1 : ((l0.length : Int) != (l1.length : Int)) = true := bne_iff_ne.mpr c3
  have c3b2 : (l0.length == l1.length) = false := by first | simpa using c3 | (simp at c3 ⊢; omega)
  obtain rfl := Option.some.inj H
  go_enter Tryz.func68, Tryz.ntmps68
  go_wp2
  repeat (go_quiet (fail); try go_wp2)
  go_ret
  exact ⟨by first | rfl | (simp; done) | (simp [*]; done), by repeat (first | exact Drawn0.refl _ | apply Drawn0.step)⟩

-- NOT PRINTED: function 101 (slices_IndexFunc_Word_101)

-- NOT PRINTED: function 92 (slices_ContainsFunc_Word_92)

/-! ### impl_isLong_Word_1: function 93 -/
def impl_isLong_Word_1.f (l0 : List (S75)) : Option (Bool) := some (decide ((l0.length : Int) > 4096))
set_option maxHeartbeats 8000000 in
set_option maxRecDepth 100000 in
theorem impl_isLong_Word_1.calls (A0 : Option Addr) (c0 : Nat) (l0 : List (S75)) (r : Bool) (w : World) (hr0 : Kd.C k75 w A0 l0.length l0) (hc0 : l0.length ≤ c0) (h : impl_isLong_Word_1.f l0 = some r) :
  Calls Tryz.prog 93 #[.slice A0 l0.length c0] w fun e w' => e = .returned (.bool r) ∧ Drawn0 w w' := by
 have HR0 := am_ hr0
 have HC0 := am_ hc0
 clear hr0 hc0
 have H : (some (decide ((l0.length : Int) > 4096))) = some r := h
 clear h
 obtain rfl := Option.some.inj H
 go_enter Tryz.func93, Tryz.ntmps93
 go_wp2
 go_ret
 exact ⟨by first | rfl | (simp; done) | (simp [*]; done), by repeat (first | exact Drawn0.refl _ | apply Drawn0.step)⟩

/-! ### slices_IndexFunc_Word_at_impl_isLong_Word_1: function 152 -/
def slices_IndexFunc_Word_at_impl_isLong_Word_1.l0 : Nat → List (List (S75)) → Int → Int → Option (Int)
 | 0, _, _, _ => none
 | k + 1, x0, x7, x8 => if x8 < x7 then (if 0 ≤ x8 then (if x8 < (x0.length : Int) then ((impl_isLong_Word_1.f (rd_L10 x0 x8)).bind fun t326 => (if t326 = true then (some x8) else (slices_IndexFunc_Word_at_impl_isLong_Word_1.l0 k x0 x7 (wrap64 (x8 + 1))))) else (none)) else (none)) else (some (-1))
def slices_IndexFunc_Word_at_impl_isLong_Word_1.f (k : Nat) (l0 : List (List (S75)))  : Option (Int) := slices_IndexFunc_Word_at_impl_isLong_Word_1.l0 k l0 (l0.length : Int) 0
theorem slices_IndexFunc_Word_at_impl_isLong_Word_1.mono_l : ∀ k, (∀ y0 y1 y2, LeO (slices_IndexFunc_Word_at_impl_isLong_Word_1.l0 k y0 y1 y2) (slices_IndexFunc_Word_at_impl_isLong_Word_1.l0 (k + 1) y0 y1 y2))
 | 0 => fun _ _ _ r h => by simp [slices_IndexFunc_Word_at_impl_isLong_Word_1.l0] at h
 | k + 1 => by
  have ih0 := slices_IndexFunc_Word_at_impl_isLong_Word_1.mono_l k
  ·intro y0 y1 y2
   unfold slices_IndexFunc_Word_at_impl_isLong_Word_1.l0
   repeat' first
   | (with_reducible exact ih0 _ _ _)
   | (with_reducible exact LeO.refl _)
   | (with_reducible exact LeO.none _)
   | (with_reducible refine LeO.ite ?_ ?_)
   | (with_reducible refine LeO.bind ?_ (fun _ => ?_))
   | exact ih0 _ _ _
   | exact LeO.none _
   | refine LeO.ite ?_ ?_
   | refine LeO.bind ?_ (fun _ => ?_)
theorem slices_IndexFunc_Word_at_impl_isLong_Word_1.mono : ∀ a0 k, LeO (slices_IndexFunc_Word_at_impl_isLong_Word_1.f k a0) (slices_IndexFunc_Word_at_impl_isLong_Word_1.f (k + 1) a0) := by
 intro a0 k
 have ih0 := slices_IndexFunc_Word_at_impl_isLong_Word_1.mono_l k
 unfold slices_IndexFunc_Word_at_impl_isLong_Word_1.f
 repeat' first
   | (with_reducible exact ih0 _ _ _)
   | (with_reducible exact LeO.refl _)
   | (with_reducible exact LeO.none _)
   | (with_reducible refine LeO.ite ?_ ?_)
   | (with_reducible refine LeO.bind ?_ (fun _ => ?_))
   | exact ih0 _ _ _
   | exact LeO.none _
   | refine LeO.ite ?_ ?_
   | refine LeO.bind ?_ (fun _ => ?_)
set_option maxHeartbeats 8000000 in
set_option maxRecDepth 100000 in
theorem slices_IndexFunc_Word_at_impl_isLong_Word_1.calls (k : Nat) (A0 : Option Addr) (c0 : Nat) (l0 : List (List (S75)))  (r : Int) (w : World) (hr0 : Kd.C (Kd.slice 75 k75) w A0 l0.length l0) (hc0 : l0.length ≤ c0) (h : slices_IndexFunc_Word_at_impl_isLong_Word_1.f k l0 = some r) :
  Calls Tryz.prog 101 #[.slice A0 l0.length c0, .func (.func 93) #[] #[]] w fun e w' => e = .returned (.int .i64 r) ∧ Drawn0 w w' := by
 have HR0 := am_ hr0
 have HC0 := am_ hc0
 clear hr0 hc0
 have H : (slices_IndexFunc_Word_at_impl_isLong_Word_1.l0 k l0 (l0.length : Int) 0) = some r := h
 clear h
 have H' := am_ H
 clear H
 go_enter Tryz.func101, Tryz.ntmps101
 go_wp2
 go_loopg [8] k (fun kq v8 w' => ∃ (x8_1 : Int), v8 = .int .i64 x8_1 ∧ Aside0 (slices_IndexFunc_Word_at_impl_isLong_Word_1.l0 kq l0 (l0.length : Int) x8_1 = some r) ∧ Aside0 (kq ≤ k) ∧ Drawn0 w w')
 case atStart => exact ⟨(0), (by first | rfl | (simp; done) | (simp [*]; done)), H', ⟨Nat.le_refl _⟩, by repeat (first | exact Drawn0.refl _ | apply Drawn0.step)⟩
 case round =>
  clear H'
  try clear c1
  try clear p2
  obtain ⟨x8_1, rfl, HA, HK1, ⟨m1, rfl⟩⟩ := hrel
  cases gk with
  | zero => exact absurd HA.out (by simp [slices_IndexFunc_Word_at_impl_isLong_Word_1.l0])
  | succ k1 =>
   have H := HA.out
   clear HA
   simp only [slices_IndexFunc_Word_at_impl_isLong_Word_1.l0] at H
   by_cases c3 : x8_1 < (l0.length : Int)
   ·rw [if_pos c3] at H
    have c3b0 : decide (x8_1 < (l0.length : Int)) = true := decide_eq_true c3
    clear c3
    by_cases c4 : 0 ≤ x8_1
    ·rw [if_pos c4] at H
     have c4b0 : decide (0 ≤ x8_1) = true := decide_eq_true c4
     clear c4
     by_cases c5 : x8_1 < (l0.length : Int)
     ·rw [if_pos c5] at H
      have c5b0 : decide (x8_1 < (l0.length : Int)) = true := decide_eq_true c5
      clear c5
      replace H := Option.bind_eq_some_iff.mp H
      obtain ⟨t326, A60, H⟩ := H
      replace H : (if t326 = true then (some x8_1) else (slices_IndexFunc_Word_at_impl_isLong_Word_1.l0 k1 l0 (l0.length : Int) (wrap64 (x8_1 + 1)))) = some r := H
      have A6 := am_ A60
      clear A60
      by_cases c7 : t326 = true
      ·subst c7
       have H1 : (some x8_1) = some r := by rw [if_pos rfl] at H; first | done | exact H
       clear H
       have H := H1
       clear H1
       obtain rfl := Option.some.inj H
       have p325 : 0 ≤ (x8_1 : Int) := of_decide_eq_true yqv11_
       have q325 : x8_1 < (l0.length : Int) := of_decide_eq_true yqv11_
       obtain ⟨ad325, A325_0, c325_0, e325, hx325_0, hl325_0, hi325_0⟩ := at_L10 HR0.out x8_1 p325 q325
       cases e325
       have HR325_0 := am_ hi325_0
       have HC325_0 := am_ hl325_0
       clear hi325_0 hl325_0
       replace p325 := eq_true p325
       replace q325 := eq_true q325
       go_wp2_with (first | ((with_reducible refine Go.Proofs.YtbbfahkmjfmmjaaGreatDoorO.gate_tmp (t := 11) rfl ?_); refine Go.Proofs.YtbbfahkmjfmmjaaGreatDoorO.goesT_ (some 16) rfl rfl (.tmp 11) rfl Tryz.func93 (by kernel_rfl) rfl #[.slice A325_0 (rd_L10 l0 x8_1).length c325_0] rfl yk1_ ?_; (with_reducible refine (impl_isLong_Word_1.calls _ _ (rd_L10 l0 x8_1) true _ ?side1 HC325_0.out A6.out).mono ?_); (case side1 => repeat (first | exact HR325_0.out | (with_reducible refine Kd.C_alloc ?_ _) | (with_reducible refine Kd.C_drewN ?_ _) | (with_reducible refine Kd.C_drew ?_))); rintro e w' ⟨rfl, ⟨nd, rfl⟩⟩; refine ⟨_, rfl, ?_⟩))
       go_ret
       exact ⟨by first | rfl | (simp; done) | (simp [*]; done), by repeat (first | exact Drawn0.refl _ | apply Drawn0.step)⟩
      ·replace c7 := Bool.eq_false_iff.mpr c7
       subst c7
       have H1 : (slices_IndexFunc_Word_at_impl_isLong_Word_1.l0 k1 l0 (l0.length : Int) (wrap64 (x8_1 + 1))) = some r := by rw [if_neg (show ¬ (false = true) by decide)] at H; first | done | exact H
       clear H
       have H := H1
       clear H1
       have H' := am_ H
       clear H
       have p325 : 0 ≤ (x8_1 : Int) := of_decide_eq_true yqv11_
       have q325 : x8_1 < (l0.length : Int) := of_decide_eq_true yqv11_
       obtain ⟨ad325, A325_0, c325_0, e325, hx325_0, hl325_0, hi325_0⟩ := at_L10 HR0.out x8_1 p325 q325
       cases e325
       have HR325_0 := am_ hi325_0
       have HC325_0 := am_ hl325_0
       clear hi325_0 hl325_0
       replace p325 := eq_true p325
       replace q325 := eq_true q325
       go_wp2_with (first | ((with_reducible refine Go.Proofs.YtbbfahkmjfmmjaaGreatDoorO.gate_tmp (t := 11) rfl ?_); refine Go.Proofs.YtbbfahkmjfmmjaaGreatDoorO.goesT_ (some 16) rfl rfl (.tmp 11) rfl Tryz.func93 (by kernel_rfl) rfl #[.slice A325_0 (rd_L10 l0 x8_1).length c325_0] rfl yk1_ ?_; (with_reducible refine (impl_isLong_Word_1.calls _ _ (rd_L10 l0 x8_1) false _ ?side1 HC325_0.out A6.out).mono ?_); (case side1 => repeat (first | exact HR325_0.out | (with_reducible refine Kd.C_alloc ?_ _) | (with_reducible refine Kd.C_drewN ?_ _) | (with_reducible refine Kd.C_drew ?_))); rintro e w' ⟨rfl, ⟨nd, rfl⟩⟩; refine ⟨_, rfl, ?_⟩))
       go_roundg k1
       case measure => have := HK1.out; omega
       case rel => exact ⟨(wrap64 (x8_1 + 1)), (by first | rfl | (simp; done) | (simp [*]; done)), H', ⟨by have := HK1.out; omega⟩, by repeat (first | exact Drawn0.refl _ | apply Drawn0.step)⟩
     ·rw [if_neg c5] at H
      exact absurd H (by simp)
    ·rw [if_neg c4] at H
     exact absurd H (by simp)
   ·rw [if_neg c3] at H
    have c3b0 : decide (x8_1 < (l0.length : Int)) = false := decide_eq_false c3
    clear c3
    obtain rfl := Option.some.inj H
    go_wp2
    go_ret
    exact ⟨by first | rfl | (simp; done) | (simp [*]; done), by repeat (first | exact Drawn0.refl _ | apply Drawn0.step)⟩

/-! ### slices_ContainsFunc_Word_at_impl_isLong_Word_1: function 151 -/
def slices_ContainsFunc_Word_at_impl_isLong_Word_1.f (k : Nat) (l0 : List (List (S75)))  : Option (Bool) := (slices_IndexFunc_Word_at_impl_isLong_Word_1.f k l0).bind fun t327 => (some (decide (t327 ≥ 0)))
theorem slices_ContainsFunc_Word_at_impl_isLong_Word_1.mono : ∀ a0 k, LeO (slices_ContainsFunc_Word_at_impl_isLong_Word_1.f k a0) (slices_ContainsFunc_Word_at_impl_isLong_Word_1.f (k + 1) a0) := by
 intro a0 k
 unfold slices_ContainsFunc_Word_at_impl_isLong_Word_1.f
 repeat' first
   | (with_reducible exact slices_IndexFunc_Word_at_impl_isLong_Word_1.mono _ _)
   | (with_reducible exact LeO.refl _)
   | (with_reducible exact LeO.none _)
   | (with_reducible refine LeO.ite ?_ ?_)
   | (with_reducible refine LeO.bind ?_ (fun _ => ?_))
   | exact slices_IndexFunc_Word_at_impl_isLong_Word_1.mono _ _
   | exact LeO.none _
   | refine LeO.ite ?_ ?_
   | refine LeO.bind ?_ (fun _ => ?_)
set_option maxHeartbeats 8000000 in
set_option maxRecDepth 100000 in
theorem slices_ContainsFunc_Word_at_impl_isLong_Word_1.calls (k : Nat) (A0 : Option Addr) (c0 : Nat) (l0 : List (List (S75)))  (r : Bool) (w : World) (hr0 : Kd.C (Kd.slice 75 k75) w A0 l0.length l0) (hc0 : l0.length ≤ c0) (h : slices_ContainsFunc_Word_at_impl_isLong_Word_1.f k l0 = some r) :
  Calls Tryz.prog 92 #[.slice A0 l0.length c0, .func (.func 93) #[] #[]] w fun e w' => e = .returned (.bool r) ∧ Drawn0 w w' := by
 have HR0 := am_ hr0
 have HC0 := am_ hc0
 clear hr0 hc0
 have H : ((slices_IndexFunc_Word_at_impl_isLong_Word_1.f k l0).bind fun t327 => (some (decide (t327 ≥ 0)))) = some r := h
 clear h
 replace H := Option.bind_eq_some_iff.mp H
 obtain ⟨t327, A30, H⟩ := H
 replace H : (some (decide (t327 ≥ 0))) = some r := H
 have A3 := am_ A30
 clear A30
 obtain rfl := Option.some.inj H
 go_enter Tryz.func92, Tryz.ntmps92
 go_wp2_with (first | ((with_reducible refine gate_callee (f := 101) rfl ?_); refine goesL_ (some 7) rfl rfl Tryz.func101 (by kernel_rfl) rfl #[.slice A0 l0.length c0, .func (.func 93) #[] #[]] rfl yk1_ ?_; (with_reducible refine (slices_IndexFunc_Word_at_impl_isLong_Word_1.calls k _ _ l0  t327 _ ?side1 HC0.out A3.out).mono ?_); (case side1 => repeat (first | exact HR0.out | (with_reducible refine Kd.C_alloc ?_ _) | (with_reducible refine Kd.C_drewN ?_ _) | (with_reducible refine Kd.C_drew ?_))); rintro e w' ⟨rfl, ⟨nd, rfl⟩⟩; refine ⟨_, rfl, ?_⟩))
 go_ret
 exact ⟨by first | rfl | (simp; done) | (simp [*]; done), by repeat (first | exact Drawn0.refl _ | apply Drawn0.step)⟩

/-! ### impl_isLong_Word: function 79 -/
def impl_isLong_Word.f (k : Nat) (l0 : List (List (S75))) : Option (Bool) := (slices_ContainsFunc_Word_at_impl_isLong_Word_1.f k l0).bind fun t328 => (some t328)
theorem impl_isLong_Word.mono : ∀ a0 k, LeO (impl_isLong_Word.f k a0) (impl_isLong_Word.f (k + 1) a0) := by
 intro a0 k
 unfold impl_isLong_Word.f
 repeat' first
   | (with_reducible exact slices_ContainsFunc_Word_at_impl_isLong_Word_1.mono _ _)
   | (with_reducible exact LeO.refl _)
   | (with_reducible exact LeO.none _)
   | (with_reducible refine LeO.ite ?_ ?_)
   | (with_reducible refine LeO.bind ?_ (fun _ => ?_))
   | exact slices_ContainsFunc_Word_at_impl_isLong_Word_1.mono _ _
   | exact LeO.none _
   | refine LeO.ite ?_ ?_
   | refine LeO.bind ?_ (fun _ => ?_)
set_option maxHeartbeats 8000000 in
set_option maxRecDepth 100000 in
theorem impl_isLong_Word.calls (k : Nat) (A0 : Option Addr) (c0 : Nat) (l0 : List (List (S75))) (r : Bool) (w : World) (hr0 : Kd.C (Kd.slice 75 k75) w A0 l0.length l0) (hc0 : l0.length ≤ c0) (h : impl_isLong_Word.f k l0 = some r) :
  Calls Tryz.prog 79 #[.slice A0 l0.length c0] w fun e w' => e = .returned (.bool r) ∧ Drawn0 w w' := by
 have HR0 := am_ hr0
 have HC0 := am_ hc0
 clear hr0 hc0
 have H : ((slices_ContainsFunc_Word_at_impl_isLong_Word_1.f k l0).bind fun t328 => (some t328)) = some r := h
 clear h
 replace H := Option.bind_eq_some_iff.mp H
 obtain ⟨t328, A20, H⟩ := H
 replace H : (some t328) = some r := H
 have A2 := am_ A20
 clear A20
 obtain rfl := Option.some.inj H
 go_enter Tryz.func79, Tryz.ntmps79
 go_wp2_with (first | ((with_reducible refine gate_callee (f := 92) rfl ?_); refine goesL_ (some 4) rfl rfl Tryz.func92 (by kernel_rfl) rfl #[.slice A0 l0.length c0, .func (.func 93) #[] #[]] rfl yk1_ ?_; (with_reducible refine (slices_ContainsFunc_Word_at_impl_isLong_Word_1.calls k _ _ l0  t328 _ ?side1 HC0.out A2.out).mono ?_); (case side1 => repeat (first | exact HR0.out | (with_reducible refine Kd.C_alloc ?_ _) | (with_reducible refine Kd.C_drewN ?_ _) | (with_reducible refine Kd.C_drew ?_))); rintro e w' ⟨rfl, ⟨nd, rfl⟩⟩; refine ⟨_, rfl, ?_⟩))
 go_ret
 exact ⟨by first | rfl | (simp; done) | (simp [*]; done), by repeat (first | exact Drawn0.refl _ | apply Drawn0.step)⟩

/-- What the listed variables hold. -/
structure GlobOK (w : World) : Prop where
 tab_u8 : Lib.TabIs Tryz.prog w "strings.asciiSpace" .u8 Lib.asciiSpaceTab
 maxLen : ∃ m : Int, w.cell? ⟨2, 0, none⟩ = some (.int .i64 m)
theorem GlobOK.below {w w' : World} (h : GlobOK w) (hb : Below w.heap.size w w') : GlobOK w' := ⟨Lib.tabBelow_of_tabIs h.tab_u8 w' hb, by obtain ⟨m, hm⟩ := h.maxLen; exact ⟨m, pw_cell_below hb hm⟩⟩
theorem GlobOK.alloc {w : World} (h : GlobOK w) (o : Obj) : GlobOK (w.alloc o) := h.below (below_alloc (Below.refl _ _) o)
theorem GlobOK.drew {w : World} (h : GlobOK w) : GlobOK w.drew := h.below (below_drew (Below.refl _ _))
theorem GlobOK.drewN {w : World} (h : GlobOK w) (m : Nat) : GlobOK (w.drewN m) := h.below (pw_below_drewN (Below.refl _ _) m)
/-- A new row of texts, as the print tells it. -/
theorem texts_new (w : World) (e : Nat) (l : List ByteArray) (h48 : l.length ≤ 4294967296) : Kd.R Kd.string e (w.alloc (.cells (l.map Value.string).toArray e)) w.heap.size (fun _ => True) (.slice (some ⟨w.heap.size, 0, none⟩) l.length l.length) l := by
 have ho : (w.alloc (.cells (l.map Value.string).toArray e)).ownsRow w.heap.size e 1 (.slice (some ⟨w.heap.size, 0, none⟩) l.length l.length) l.length (encs Value.string l) := by
  refine ⟨by simp [encs], .inr ⟨w.heap.size, l.length, (l.map Value.string).toArray, rfl, Nat.le_refl _, blk_new w _, Nat.le_refl _, by unfold maxLen; omega, by simp, ?_⟩⟩
  rw [Nat.mul_one]
  show (l.map Value.string).take l.length = l.map Value.string
  rw [List.take_of_length_le (by simp)]
 exact Kd.R_of_own ho (fun _ _ => trivial)


end Go.Proofs.YtbbfahkmjfmmjaaGreatDoor.PMOK
